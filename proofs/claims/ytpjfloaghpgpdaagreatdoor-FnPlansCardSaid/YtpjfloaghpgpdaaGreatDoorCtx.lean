/- The seat's tables: its types, what an element of each is, and what its functions do with what they are given. -/
import Derived.Test.YtpjfloaghpgpdaaGreatDoorSnd38
import Derived.Test.YtpjfloaghpgpdaaGreatDoorArr
import Derived.Test.YtpjfloaghpgpdaaGreatDoorProg
import Derived.KernelRfl
namespace Go.Proofs.YtpjfloaghpgpdaaGreatDoor.G
open Go Go.Ev
structure SFile where
  fName:ByteArray
  fText:ByteArray
  fKept:Int
structure SDisk where
  fFiles:(List SFile)
structure SThing where
  fId:Int
  fKind:Int
  fHidden:Bool
  fFixed:Bool
  fSigns:Bool
  fWraps:Bool
  fValue:ByteArray
  fNext:Int
structure SBook where
  fWord:ByteArray
  fTries:Int
  fThings:(List SThing)
  fLast:Int
  fChain:ByteArray
  fCount:Int
structure SSession where
  fId:Int
  fIn:Bool
structure SLive where
  fId:Int
  fNext:Int
structure SBox where
  fKey:ByteArray
  fUp:Bool
  fDisk:SDisk
  fBook:SBook
  fSessions:(List SSession)
  fLives:(List SLive)
  fOpened:Int
structure SCall where
  fOp:Int
  fSession:Int
  fThing:Int
  fKind:Int
  fText:ByteArray
  fHidden:Bool
  fFixed:Bool
structure SRec where
  fKind:Int
  fText:ByteArray
  fNum:Int
  fThing:SThing
structure SL01Cur where
  fB:Unit
  fI:Int
  fH:Int
structure SEvent where
  fCall:SCall
  fCut:Bool
  fLeft:(List Int)
  fRise:Bool
structure SL24Drawn where
  fKey:ByteArray
  fWord:ByteArray
  fEvents:(List SEvent)
structure SGiven where
  fThing:Int
  fLeaf:Int
  fWhen:Int
structure SLife where
  fBox:SBox
  fCodes:(List Int)
  fReplies:(List ByteArray)
  fGives:(List SGiven)
  fDone:(List SRec)
structure SPair where
  fPublic:ByteArray
  fSecret:ByteArray
structure SAct where
  fKind:Int
  fName:ByteArray
  fText:ByteArray
  fTo:ByteArray
structure SFields where
  fText:ByteArray
  fAt:Int
  fBad:Bool
structure SSig where
  fLeaf:Int
  fOnce:(List ByteArray)
  fPath:(List ByteArray)
structure SHyper where
  fTop:SSig
  fRoot:ByteArray
  fLow:SSig
structure SHasher where
  fState:ByteArray
  fRest:ByteArray
  fCount:Int
structure SL19Cur where
  fText:ByteArray
  fAt:Int
  fBad:Bool
structure SStream where
  fState:ByteArray
  fAt:Int
def els:List (Nat×TyE):=[(2,⟨Int,0⟩),(3,⟨Int,0⟩),(4,⟨Bool,false⟩),(5,⟨Int,0⟩),(9,⟨ByteArray,⟨#[]⟩⟩),(22,⟨(List Int),[]⟩),(24,⟨(List SFile),[]⟩),(26,⟨SDisk,⟨[]⟩⟩),(27,⟨(List SThing),[]⟩),(29,⟨SBook,⟨⟨#[]⟩,0,[],0,⟨#[]⟩,0⟩⟩),(30,⟨(List SSession),[]⟩),(31,⟨(List SLive),[]⟩),(33,⟨SBox,⟨⟨#[]⟩,false,⟨[]⟩,⟨⟨#[]⟩,0,[],0,⟨#[]⟩,0⟩,[],[],0⟩⟩),(35,⟨SCall,⟨0,0,0,0,⟨#[]⟩,false,false⟩⟩),(38,⟨(List SRec),[]⟩),(45,⟨SThing,⟨0,0,false,false,false,false,⟨#[]⟩,0⟩⟩),(47,⟨SRec,⟨0,⟨#[]⟩,0,⟨0,0,false,false,false,false,⟨#[]⟩,0⟩⟩⟩),(50,⟨Bool,false⟩),(58,⟨SSession,⟨0,false⟩⟩),(68,⟨(List SAct),[]⟩),(75,⟨Bools 3,boolsZ 3⟩),(76,⟨(List SEvent),[]⟩),(78,⟨SL24Drawn,⟨⟨#[]⟩,⟨#[]⟩,[]⟩⟩),(80,⟨(List Int),[]⟩),(81,⟨(List ByteArray),[]⟩),(82,⟨(List SGiven),[]⟩),(84,⟨SLife,⟨⟨⟨#[]⟩,false,⟨[]⟩,⟨⟨#[]⟩,0,[],0,⟨#[]⟩,0⟩,[],[],0⟩,[],[],[],[]⟩⟩),(96,⟨Int,0⟩),(97,⟨Bools 8,boolsZ 8⟩),(109,⟨SPair,⟨⟨#[]⟩,⟨#[]⟩⟩⟩),(116,⟨SFile,⟨⟨#[]⟩,⟨#[]⟩,0⟩⟩),(123,⟨SAct,⟨0,⟨#[]⟩,⟨#[]⟩,⟨#[]⟩⟩⟩),(126,⟨SLive,⟨0,0⟩⟩),(131,⟨SEvent,⟨⟨0,0,0,0,⟨#[]⟩,false,false⟩,false,[],false⟩⟩),(133,⟨Bool,false⟩),(145,⟨Bool,false⟩),(147,⟨SFields,⟨⟨#[]⟩,0,false⟩⟩),(151,⟨SSig,⟨0,[],[]⟩⟩),(153,⟨SHyper,⟨⟨0,[],[]⟩,⟨#[]⟩,⟨0,[],[]⟩⟩⟩),(158,⟨(List (List Int)),[]⟩),(171,⟨SHasher,⟨⟨#[]⟩,⟨#[]⟩,0⟩⟩),(180,⟨Bool,false⟩),(186,⟨Int,0⟩),(191,⟨Bools 64,boolsZ 64⟩),(199,⟨(List Bool),[]⟩),(212,⟨(List Int),[]⟩),(217,⟨Bool,false⟩),(219,⟨SL19Cur,⟨⟨#[]⟩,0,false⟩⟩),(230,⟨SGiven,⟨0,0,0⟩⟩),(233,⟨Bools 24,boolsZ 24⟩),(234,⟨Int,0⟩),(249,⟨SStream,⟨⟨#[]⟩,0⟩⟩),(291,⟨Bools 25,boolsZ 25⟩),(294,⟨Bools 32,boolsZ 32⟩),(295,⟨Bools 64,boolsZ 64⟩),(298,⟨(List Int),[]⟩),(302,⟨Bools 5,boolsZ 5⟩)]
def tis:List (Nat×TI):=[(2,⟨1,8,.int .i64⟩),(3,⟨1,8,.int .i64⟩),(4,⟨1,1,.bool⟩),(5,⟨1,1,.int .u8⟩),(9,⟨1,16,.str⟩),(22,⟨1,24,.sl 5⟩),(24,⟨1,24,.sl 116⟩),(26,⟨1,24,.st [(24,0)]⟩),(27,⟨1,24,.sl 45⟩),(29,⟨6,80,.st [(9,0),(3,1),(27,2),(3,3),(9,4),(3,5)]⟩),(30,⟨1,24,.sl 58⟩),(31,⟨1,24,.sl 126⟩),(33,⟨12,184,.st [(9,0),(4,1),(26,2),(29,3),(30,9),(31,10),(3,11)]⟩),(35,⟨7,56,.st [(3,0),(3,1),(3,2),(3,3),(9,4),(4,5),(4,6)]⟩),(38,⟨1,24,.sl 47⟩),(45,⟨8,48,.st [(3,0),(3,1),(4,2),(4,3),(4,4),(4,5),(9,6),(3,7)]⟩),(47,⟨11,80,.st [(3,0),(9,1),(3,2),(45,3)]⟩),(50,⟨1,8,.ptr 75⟩),(58,⟨2,16,.st [(3,0),(4,1)]⟩),(68,⟨1,24,.sl 123⟩),(75,⟨3,40,.st [(22,0),(3,1),(3,2)]⟩),(76,⟨1,24,.sl 131⟩),(78,⟨3,56,.st [(9,0),(9,1),(76,2)]⟩),(80,⟨1,24,.sl 3⟩),(81,⟨1,24,.sl 9⟩),(82,⟨1,24,.sl 230⟩),(84,⟨16,280,.st [(33,0),(80,12),(81,13),(82,14),(38,15)]⟩),(96,⟨1,4,.int .u32⟩),(97,⟨8,32,.arr 8 96⟩),(109,⟨2,32,.st [(9,0),(9,1)]⟩),(116,⟨3,40,.st [(9,0),(9,1),(3,2)]⟩),(123,⟨4,56,.st [(3,0),(9,1),(9,2),(9,3)]⟩),(126,⟨2,16,.st [(3,0),(3,1)]⟩),(131,⟨10,96,.st [(35,0),(4,7),(80,8),(4,9)]⟩),(133,⟨1,8,.ptr 84⟩),(145,⟨1,8,.ptr 147⟩),(147,⟨3,32,.st [(9,0),(3,1),(4,2)]⟩),(151,⟨3,56,.st [(3,0),(81,1),(81,2)]⟩),(153,⟨7,128,.st [(151,0),(9,3),(151,4)]⟩),(158,⟨1,24,.sl 80⟩),(171,⟨3,40,.st [(9,0),(9,1),(3,2)]⟩),(180,⟨1,8,.ptr 29⟩),(186,⟨1,8,.int .u64⟩),(191,⟨64,256,.arr 64 96⟩),(199,⟨1,24,.sl 4⟩),(212,⟨1,24,.sl 96⟩),(217,⟨1,8,.ptr 219⟩),(219,⟨3,32,.st [(9,0),(3,1),(4,2)]⟩),(230,⟨3,24,.st [(3,0),(3,1),(3,2)]⟩),(233,⟨24,24,.arr 24 5⟩),(234,⟨1,8,.int .u64⟩),(249,⟨2,24,.st [(9,0),(3,1)]⟩),(291,⟨25,200,.arr 25 234⟩),(294,⟨32,32,.arr 32 5⟩),(295,⟨64,64,.arr 64 5⟩),(298,⟨1,24,.sl 234⟩),(302,⟨5,40,.arr 5 234⟩)]
def ent2:Ent (ElOf els):=⟨2,{ sh:=[.int .i64],enc:=fun (x:Int)=>[.int .i64 x],dec:=fun cs=>(cs.getD 0 .junk).toInt,z:=(0:Int),int?:=some ⟨rfl⟩ }⟩
def ent3:Ent (ElOf els):=⟨3,{ sh:=[.int .i64],enc:=fun (x:Int)=>[.int .i64 x],dec:=fun cs=>(cs.getD 0 .junk).toInt,z:=(0:Int),int?:=some ⟨rfl⟩ }⟩
def ent4:Ent (ElOf els):=⟨4,{ sh:=[.bool],enc:=fun (x:Bool)=>[.bool x],dec:=fun cs=>(cs.getD 0 .junk).toBool,z:=false,int?:=none }⟩
def ent5:Ent (ElOf els):=⟨5,{ sh:=[.int .u8],enc:=fun (x:Int)=>[.int .u8 x],dec:=fun cs=>(cs.getD 0 .junk).toInt,z:=(0:Int),int?:=some ⟨rfl⟩ }⟩
def ent9:Ent (ElOf els):=⟨9,{ sh:=[.str],enc:=fun (x:ByteArray)=>[.str x],dec:=fun cs=>(cs.getD 0 .junk).toStr,z:=(⟨#[]⟩:ByteArray),int?:=none }⟩
def ent22:Ent (ElOf els):=⟨22,{ sh:=[.sl 5],enc:=fun (x:(List Int))=>[.rsl 5 x],dec:=fun cs=>(L.toSl 5 (cs.getD 0 .junk)),z:=[],int?:=none }⟩
def ent24:Ent (ElOf els):=⟨24,{ sh:=[.sl 116],enc:=fun (x:(List SFile))=>[.rsl 116 x],dec:=fun cs=>(L.toSl 116 (cs.getD 0 .junk)),z:=[],int?:=none }⟩
def ent26:Ent (ElOf els):=⟨26,{ sh:=[.sl 116],enc:=fun (x:SDisk)=>[.rsl 116 x.fFiles],dec:=fun cs=>⟨(L.toSl 116 (cs.getD 0 .junk))⟩,z:=(⟨[]⟩:SDisk),int?:=none }⟩
def ent27:Ent (ElOf els):=⟨27,{ sh:=[.sl 45],enc:=fun (x:(List SThing))=>[.rsl 45 x],dec:=fun cs=>(L.toSl 45 (cs.getD 0 .junk)),z:=[],int?:=none }⟩
def ent29:Ent (ElOf els):=⟨29,{ sh:=[.str,.int .i64,.sl 45,.int .i64,.str,.int .i64],enc:=fun (x:SBook)=>[.str x.fWord,.int .i64 x.fTries,.rsl 45 x.fThings,.int .i64 x.fLast,.str x.fChain,.int .i64 x.fCount],dec:=fun cs=>⟨(cs.getD 0 .junk).toStr,(cs.getD 1 .junk).toInt,(L.toSl 45 (cs.getD 2 .junk)),(cs.getD 3 .junk).toInt,(cs.getD 4 .junk).toStr,(cs.getD 5 .junk).toInt⟩,z:=(⟨⟨#[]⟩,0,[],0,⟨#[]⟩,0⟩:SBook),int?:=none }⟩
def ent30:Ent (ElOf els):=⟨30,{ sh:=[.sl 58],enc:=fun (x:(List SSession))=>[.rsl 58 x],dec:=fun cs=>(L.toSl 58 (cs.getD 0 .junk)),z:=[],int?:=none }⟩
def ent31:Ent (ElOf els):=⟨31,{ sh:=[.sl 126],enc:=fun (x:(List SLive))=>[.rsl 126 x],dec:=fun cs=>(L.toSl 126 (cs.getD 0 .junk)),z:=[],int?:=none }⟩
def ent33:Ent (ElOf els):=⟨33,{ sh:=[.str,.bool,.sl 116,.str,.int .i64,.sl 45,.int .i64,.str,.int .i64,.sl 58,.sl 126,.int .i64],enc:=fun (x:SBox)=>[.str x.fKey,.bool x.fUp,.rsl 116 x.fDisk.fFiles,.str x.fBook.fWord,.int .i64 x.fBook.fTries,.rsl 45 x.fBook.fThings,.int .i64 x.fBook.fLast,.str x.fBook.fChain,.int .i64 x.fBook.fCount,.rsl 58 x.fSessions,.rsl 126 x.fLives,.int .i64 x.fOpened],dec:=fun cs=>⟨(cs.getD 0 .junk).toStr,(cs.getD 1 .junk).toBool,⟨(L.toSl 116 (cs.getD 2 .junk))⟩,⟨(cs.getD 3 .junk).toStr,(cs.getD 4 .junk).toInt,(L.toSl 45 (cs.getD 5 .junk)),(cs.getD 6 .junk).toInt,(cs.getD 7 .junk).toStr,(cs.getD 8 .junk).toInt⟩,(L.toSl 58 (cs.getD 9 .junk)),(L.toSl 126 (cs.getD 10 .junk)),(cs.getD 11 .junk).toInt⟩,z:=(⟨⟨#[]⟩,false,⟨[]⟩,⟨⟨#[]⟩,0,[],0,⟨#[]⟩,0⟩,[],[],0⟩:SBox),int?:=none }⟩
def ent35:Ent (ElOf els):=⟨35,{ sh:=[.int .i64,.int .i64,.int .i64,.int .i64,.str,.bool,.bool],enc:=fun (x:SCall)=>[.int .i64 x.fOp,.int .i64 x.fSession,.int .i64 x.fThing,.int .i64 x.fKind,.str x.fText,.bool x.fHidden,.bool x.fFixed],dec:=fun cs=>⟨(cs.getD 0 .junk).toInt,(cs.getD 1 .junk).toInt,(cs.getD 2 .junk).toInt,(cs.getD 3 .junk).toInt,(cs.getD 4 .junk).toStr,(cs.getD 5 .junk).toBool,(cs.getD 6 .junk).toBool⟩,z:=(⟨0,0,0,0,⟨#[]⟩,false,false⟩:SCall),int?:=none }⟩
def ent38:Ent (ElOf els):=⟨38,{ sh:=[.sl 47],enc:=fun (x:(List SRec))=>[.rsl 47 x],dec:=fun cs=>(L.toSl 47 (cs.getD 0 .junk)),z:=[],int?:=none }⟩
def ent45:Ent (ElOf els):=⟨45,{ sh:=[.int .i64,.int .i64,.bool,.bool,.bool,.bool,.str,.int .i64],enc:=fun (x:SThing)=>[.int .i64 x.fId,.int .i64 x.fKind,.bool x.fHidden,.bool x.fFixed,.bool x.fSigns,.bool x.fWraps,.str x.fValue,.int .i64 x.fNext],dec:=fun cs=>⟨(cs.getD 0 .junk).toInt,(cs.getD 1 .junk).toInt,(cs.getD 2 .junk).toBool,(cs.getD 3 .junk).toBool,(cs.getD 4 .junk).toBool,(cs.getD 5 .junk).toBool,(cs.getD 6 .junk).toStr,(cs.getD 7 .junk).toInt⟩,z:=(⟨0,0,false,false,false,false,⟨#[]⟩,0⟩:SThing),int?:=none }⟩
def ent47:Ent (ElOf els):=⟨47,{ sh:=[.int .i64,.str,.int .i64,.int .i64,.int .i64,.bool,.bool,.bool,.bool,.str,.int .i64],enc:=fun (x:SRec)=>[.int .i64 x.fKind,.str x.fText,.int .i64 x.fNum,.int .i64 x.fThing.fId,.int .i64 x.fThing.fKind,.bool x.fThing.fHidden,.bool x.fThing.fFixed,.bool x.fThing.fSigns,.bool x.fThing.fWraps,.str x.fThing.fValue,.int .i64 x.fThing.fNext],dec:=fun cs=>⟨(cs.getD 0 .junk).toInt,(cs.getD 1 .junk).toStr,(cs.getD 2 .junk).toInt,⟨(cs.getD 3 .junk).toInt,(cs.getD 4 .junk).toInt,(cs.getD 5 .junk).toBool,(cs.getD 6 .junk).toBool,(cs.getD 7 .junk).toBool,(cs.getD 8 .junk).toBool,(cs.getD 9 .junk).toStr,(cs.getD 10 .junk).toInt⟩⟩,z:=(⟨0,⟨#[]⟩,0,⟨0,0,false,false,false,false,⟨#[]⟩,0⟩⟩:SRec),int?:=none }⟩
def ent50:Ent (ElOf els):=⟨50,{ sh:=[.bool],enc:=fun (x:Bool)=>[.bool x],dec:=fun cs=>(cs.getD 0 .junk).toBool,z:=false,int?:=none }⟩
def ent58:Ent (ElOf els):=⟨58,{ sh:=[.int .i64,.bool],enc:=fun (x:SSession)=>[.int .i64 x.fId,.bool x.fIn],dec:=fun cs=>⟨(cs.getD 0 .junk).toInt,(cs.getD 1 .junk).toBool⟩,z:=(⟨0,false⟩:SSession),int?:=none }⟩
def ent68:Ent (ElOf els):=⟨68,{ sh:=[.sl 123],enc:=fun (x:(List SAct))=>[.rsl 123 x],dec:=fun cs=>(L.toSl 123 (cs.getD 0 .junk)),z:=[],int?:=none }⟩
def ent75:Ent (ElOf els):=⟨75,codBools 3 (fun x=>x) (fun x=>x)⟩
def ent76:Ent (ElOf els):=⟨76,{ sh:=[.sl 131],enc:=fun (x:(List SEvent))=>[.rsl 131 x],dec:=fun cs=>(L.toSl 131 (cs.getD 0 .junk)),z:=[],int?:=none }⟩
def ent78:Ent (ElOf els):=⟨78,{ sh:=[.str,.str,.sl 131],enc:=fun (x:SL24Drawn)=>[.str x.fKey,.str x.fWord,.rsl 131 x.fEvents],dec:=fun cs=>⟨(cs.getD 0 .junk).toStr,(cs.getD 1 .junk).toStr,(L.toSl 131 (cs.getD 2 .junk))⟩,z:=(⟨⟨#[]⟩,⟨#[]⟩,[]⟩:SL24Drawn),int?:=none }⟩
def ent80:Ent (ElOf els):=⟨80,{ sh:=[.sl 3],enc:=fun (x:(List Int))=>[.rsl 3 x],dec:=fun cs=>(L.toSl 3 (cs.getD 0 .junk)),z:=[],int?:=none }⟩
def ent81:Ent (ElOf els):=⟨81,{ sh:=[.sl 9],enc:=fun (x:(List ByteArray))=>[.rsl 9 x],dec:=fun cs=>(L.toSl 9 (cs.getD 0 .junk)),z:=[],int?:=none }⟩
def ent82:Ent (ElOf els):=⟨82,{ sh:=[.sl 230],enc:=fun (x:(List SGiven))=>[.rsl 230 x],dec:=fun cs=>(L.toSl 230 (cs.getD 0 .junk)),z:=[],int?:=none }⟩
def ent84:Ent (ElOf els):=⟨84,{ sh:=[.str,.bool,.sl 116,.str,.int .i64,.sl 45,.int .i64,.str,.int .i64,.sl 58,.sl 126,.int .i64,.sl 3,.sl 9,.sl 230,.sl 47],enc:=fun (x:SLife)=>[.str x.fBox.fKey,.bool x.fBox.fUp,.rsl 116 x.fBox.fDisk.fFiles,.str x.fBox.fBook.fWord,.int .i64 x.fBox.fBook.fTries,.rsl 45 x.fBox.fBook.fThings,.int .i64 x.fBox.fBook.fLast,.str x.fBox.fBook.fChain,.int .i64 x.fBox.fBook.fCount,.rsl 58 x.fBox.fSessions,.rsl 126 x.fBox.fLives,.int .i64 x.fBox.fOpened,.rsl 3 x.fCodes,.rsl 9 x.fReplies,.rsl 230 x.fGives,.rsl 47 x.fDone],dec:=fun cs=>⟨⟨(cs.getD 0 .junk).toStr,(cs.getD 1 .junk).toBool,⟨(L.toSl 116 (cs.getD 2 .junk))⟩,⟨(cs.getD 3 .junk).toStr,(cs.getD 4 .junk).toInt,(L.toSl 45 (cs.getD 5 .junk)),(cs.getD 6 .junk).toInt,(cs.getD 7 .junk).toStr,(cs.getD 8 .junk).toInt⟩,(L.toSl 58 (cs.getD 9 .junk)),(L.toSl 126 (cs.getD 10 .junk)),(cs.getD 11 .junk).toInt⟩,(L.toSl 3 (cs.getD 12 .junk)),(L.toSl 9 (cs.getD 13 .junk)),(L.toSl 230 (cs.getD 14 .junk)),(L.toSl 47 (cs.getD 15 .junk))⟩,z:=(⟨⟨⟨#[]⟩,false,⟨[]⟩,⟨⟨#[]⟩,0,[],0,⟨#[]⟩,0⟩,[],[],0⟩,[],[],[],[]⟩:SLife),int?:=none }⟩
def ent96:Ent (ElOf els):=⟨96,{ sh:=[.int .u32],enc:=fun (x:Int)=>[.int .u32 x],dec:=fun cs=>(cs.getD 0 .junk).toInt,z:=(0:Int),int?:=some ⟨rfl⟩ }⟩
def ent97:Ent (ElOf els):=⟨97,codBools 8 (fun x=>x) (fun x=>x)⟩
def ent109:Ent (ElOf els):=⟨109,{ sh:=[.str,.str],enc:=fun (x:SPair)=>[.str x.fPublic,.str x.fSecret],dec:=fun cs=>⟨(cs.getD 0 .junk).toStr,(cs.getD 1 .junk).toStr⟩,z:=(⟨⟨#[]⟩,⟨#[]⟩⟩:SPair),int?:=none }⟩
def ent116:Ent (ElOf els):=⟨116,{ sh:=[.str,.str,.int .i64],enc:=fun (x:SFile)=>[.str x.fName,.str x.fText,.int .i64 x.fKept],dec:=fun cs=>⟨(cs.getD 0 .junk).toStr,(cs.getD 1 .junk).toStr,(cs.getD 2 .junk).toInt⟩,z:=(⟨⟨#[]⟩,⟨#[]⟩,0⟩:SFile),int?:=none }⟩
def ent123:Ent (ElOf els):=⟨123,{ sh:=[.int .i64,.str,.str,.str],enc:=fun (x:SAct)=>[.int .i64 x.fKind,.str x.fName,.str x.fText,.str x.fTo],dec:=fun cs=>⟨(cs.getD 0 .junk).toInt,(cs.getD 1 .junk).toStr,(cs.getD 2 .junk).toStr,(cs.getD 3 .junk).toStr⟩,z:=(⟨0,⟨#[]⟩,⟨#[]⟩,⟨#[]⟩⟩:SAct),int?:=none }⟩
def ent126:Ent (ElOf els):=⟨126,{ sh:=[.int .i64,.int .i64],enc:=fun (x:SLive)=>[.int .i64 x.fId,.int .i64 x.fNext],dec:=fun cs=>⟨(cs.getD 0 .junk).toInt,(cs.getD 1 .junk).toInt⟩,z:=(⟨0,0⟩:SLive),int?:=none }⟩
def ent131:Ent (ElOf els):=⟨131,{ sh:=[.int .i64,.int .i64,.int .i64,.int .i64,.str,.bool,.bool,.bool,.sl 3,.bool],enc:=fun (x:SEvent)=>[.int .i64 x.fCall.fOp,.int .i64 x.fCall.fSession,.int .i64 x.fCall.fThing,.int .i64 x.fCall.fKind,.str x.fCall.fText,.bool x.fCall.fHidden,.bool x.fCall.fFixed,.bool x.fCut,.rsl 3 x.fLeft,.bool x.fRise],dec:=fun cs=>⟨⟨(cs.getD 0 .junk).toInt,(cs.getD 1 .junk).toInt,(cs.getD 2 .junk).toInt,(cs.getD 3 .junk).toInt,(cs.getD 4 .junk).toStr,(cs.getD 5 .junk).toBool,(cs.getD 6 .junk).toBool⟩,(cs.getD 7 .junk).toBool,(L.toSl 3 (cs.getD 8 .junk)),(cs.getD 9 .junk).toBool⟩,z:=(⟨⟨0,0,0,0,⟨#[]⟩,false,false⟩,false,[],false⟩:SEvent),int?:=none }⟩
def ent133:Ent (ElOf els):=⟨133,{ sh:=[.bool],enc:=fun (x:Bool)=>[.bool x],dec:=fun cs=>(cs.getD 0 .junk).toBool,z:=false,int?:=none }⟩
def ent145:Ent (ElOf els):=⟨145,{ sh:=[.bool],enc:=fun (x:Bool)=>[.bool x],dec:=fun cs=>(cs.getD 0 .junk).toBool,z:=false,int?:=none }⟩
def ent147:Ent (ElOf els):=⟨147,{ sh:=[.str,.int .i64,.bool],enc:=fun (x:SFields)=>[.str x.fText,.int .i64 x.fAt,.bool x.fBad],dec:=fun cs=>⟨(cs.getD 0 .junk).toStr,(cs.getD 1 .junk).toInt,(cs.getD 2 .junk).toBool⟩,z:=(⟨⟨#[]⟩,0,false⟩:SFields),int?:=none }⟩
def ent151:Ent (ElOf els):=⟨151,{ sh:=[.int .i64,.sl 9,.sl 9],enc:=fun (x:SSig)=>[.int .i64 x.fLeaf,.rsl 9 x.fOnce,.rsl 9 x.fPath],dec:=fun cs=>⟨(cs.getD 0 .junk).toInt,(L.toSl 9 (cs.getD 1 .junk)),(L.toSl 9 (cs.getD 2 .junk))⟩,z:=(⟨0,[],[]⟩:SSig),int?:=none }⟩
def ent153:Ent (ElOf els):=⟨153,{ sh:=[.int .i64,.sl 9,.sl 9,.str,.int .i64,.sl 9,.sl 9],enc:=fun (x:SHyper)=>[.int .i64 x.fTop.fLeaf,.rsl 9 x.fTop.fOnce,.rsl 9 x.fTop.fPath,.str x.fRoot,.int .i64 x.fLow.fLeaf,.rsl 9 x.fLow.fOnce,.rsl 9 x.fLow.fPath],dec:=fun cs=>⟨⟨(cs.getD 0 .junk).toInt,(L.toSl 9 (cs.getD 1 .junk)),(L.toSl 9 (cs.getD 2 .junk))⟩,(cs.getD 3 .junk).toStr,⟨(cs.getD 4 .junk).toInt,(L.toSl 9 (cs.getD 5 .junk)),(L.toSl 9 (cs.getD 6 .junk))⟩⟩,z:=(⟨⟨0,[],[]⟩,⟨#[]⟩,⟨0,[],[]⟩⟩:SHyper),int?:=none }⟩
def ent158:Ent (ElOf els):=⟨158,{ sh:=[.sl 80],enc:=fun (x:(List (List Int)))=>[.rsl 80 x],dec:=fun cs=>(L.toSl 80 (cs.getD 0 .junk)),z:=[],int?:=none }⟩
def ent171:Ent (ElOf els):=⟨171,{ sh:=[.str,.str,.int .i64],enc:=fun (x:SHasher)=>[.str x.fState,.str x.fRest,.int .i64 x.fCount],dec:=fun cs=>⟨(cs.getD 0 .junk).toStr,(cs.getD 1 .junk).toStr,(cs.getD 2 .junk).toInt⟩,z:=(⟨⟨#[]⟩,⟨#[]⟩,0⟩:SHasher),int?:=none }⟩
def ent180:Ent (ElOf els):=⟨180,{ sh:=[.bool],enc:=fun (x:Bool)=>[.bool x],dec:=fun cs=>(cs.getD 0 .junk).toBool,z:=false,int?:=none }⟩
def ent186:Ent (ElOf els):=⟨186,{ sh:=[.int .u64],enc:=fun (x:Int)=>[.int .u64 x],dec:=fun cs=>(cs.getD 0 .junk).toInt,z:=(0:Int),int?:=some ⟨rfl⟩ }⟩
def ent191:Ent (ElOf els):=⟨191,codBools 64 (fun x=>x) (fun x=>x)⟩
def ent199:Ent (ElOf els):=⟨199,{ sh:=[.sl 4],enc:=fun (x:(List Bool))=>[.rsl 4 x],dec:=fun cs=>(L.toSl 4 (cs.getD 0 .junk)),z:=[],int?:=none }⟩
def ent212:Ent (ElOf els):=⟨212,{ sh:=[.sl 96],enc:=fun (x:(List Int))=>[.rsl 96 x],dec:=fun cs=>(L.toSl 96 (cs.getD 0 .junk)),z:=[],int?:=none }⟩
def ent217:Ent (ElOf els):=⟨217,{ sh:=[.bool],enc:=fun (x:Bool)=>[.bool x],dec:=fun cs=>(cs.getD 0 .junk).toBool,z:=false,int?:=none }⟩
def ent219:Ent (ElOf els):=⟨219,{ sh:=[.str,.int .i64,.bool],enc:=fun (x:SL19Cur)=>[.str x.fText,.int .i64 x.fAt,.bool x.fBad],dec:=fun cs=>⟨(cs.getD 0 .junk).toStr,(cs.getD 1 .junk).toInt,(cs.getD 2 .junk).toBool⟩,z:=(⟨⟨#[]⟩,0,false⟩:SL19Cur),int?:=none }⟩
def ent230:Ent (ElOf els):=⟨230,{ sh:=[.int .i64,.int .i64,.int .i64],enc:=fun (x:SGiven)=>[.int .i64 x.fThing,.int .i64 x.fLeaf,.int .i64 x.fWhen],dec:=fun cs=>⟨(cs.getD 0 .junk).toInt,(cs.getD 1 .junk).toInt,(cs.getD 2 .junk).toInt⟩,z:=(⟨0,0,0⟩:SGiven),int?:=none }⟩
def ent233:Ent (ElOf els):=⟨233,codBools 24 (fun x=>x) (fun x=>x)⟩
def ent234:Ent (ElOf els):=⟨234,{ sh:=[.int .u64],enc:=fun (x:Int)=>[.int .u64 x],dec:=fun cs=>(cs.getD 0 .junk).toInt,z:=(0:Int),int?:=some ⟨rfl⟩ }⟩
def ent249:Ent (ElOf els):=⟨249,{ sh:=[.str,.int .i64],enc:=fun (x:SStream)=>[.str x.fState,.int .i64 x.fAt],dec:=fun cs=>⟨(cs.getD 0 .junk).toStr,(cs.getD 1 .junk).toInt⟩,z:=(⟨⟨#[]⟩,0⟩:SStream),int?:=none }⟩
def ent291:Ent (ElOf els):=⟨291,codBools 25 (fun x=>x) (fun x=>x)⟩
def ent294:Ent (ElOf els):=⟨294,codBools 32 (fun x=>x) (fun x=>x)⟩
def ent295:Ent (ElOf els):=⟨295,codBools 64 (fun x=>x) (fun x=>x)⟩
def ent298:Ent (ElOf els):=⟨298,{ sh:=[.sl 234],enc:=fun (x:(List Int))=>[.rsl 234 x],dec:=fun cs=>(L.toSl 234 (cs.getD 0 .junk)),z:=[],int?:=none }⟩
def ent302:Ent (ElOf els):=⟨302,codBools 5 (fun x=>x) (fun x=>x)⟩
def ents:List (Ent (ElOf els)):=[ent2,ent3,ent4,ent5,ent9,ent22,ent24,ent26,ent27,ent29,ent30,ent31,ent33,ent35,ent38,ent45,ent47,ent50,ent58,ent68,ent75,ent76,ent78,ent80,ent81,ent82,ent84,ent96,ent97,ent109,ent116,ent123,ent126,ent131,ent133,ent145,ent147,ent151,ent153,ent158,ent171,ent180,ent186,ent191,ent199,ent212,ent217,ent219,ent230,ent233,ent234,ent249,ent291,ent294,ent295,ent298,ent302]
def modes:List (Nat×List Mode'):=[(74,[.mv,.rd]),(342,[.mv]),(223,[.io,.rd]),(224,[.mv,.rd,.rd,.rd,.rd])]
def cuts:List (Nat×List (Nat×(List Nat×List Nat×List (Nat×Nat)×List (Nat×Nat×Nat)))):=[(12,[(3,([0,3,4],[],[(0,5)],[]))]),
  (92,[(3,([0,1,5,6],[],[(5,5)],[]))]),
  (195,[(3,([0,3,4],[],[(0,96),(3,5)],[]))]),
  (192,[(3,([0,3,4],[],[(3,96)],[]))]),
  (194,[(3,([0,1,7,8],[],[(0,96),(1,96),(7,96)],[])),(8,([0,1,7,9,10],[],[(0,96),(1,96),(7,96),(9,96)],[])),(16,([0,1,7,9,10,13,15,16],[],[(0,96),(1,96),(7,96),(9,96)],[])),(23,([0,9,17,18],[],[(0,96),(9,96),(17,96)],[]))]),
  (139,[(7,([1,2,4,5,6,7,8],[128,256],[(5,96),(6,96)],[]))]),
  (138,[(5,([1,3],[64],[(3,5)],[])),(9,([1,3,4,5],[64],[(3,5)],[])),(13,([1,3,4,5,6,7],[64],[(3,5)],[])),(20,([3,8,9,10],[],[(3,5),(8,96),(9,96)],[]))]),
  (101,[(2,([0,3],[],[(3,5)],[]))]),
  (72,[(4,([1,3],[64],[],[(64,2,45)]))]),
  (82,[(2,([1,2,4,6],[128,256],[],[(128,2,45)]))]),
  (255,[(3,([0,3,5,6],[192],[(0,45),(5,45)],[])),(9,([0,3,5,7],[192],[(0,45),(5,45)],[]))]),
  (190,[(24,([2,3,4,6,8,13,14],[128,192,256,512],[(13,45)],[(128,2,45),(256,2,45),(512,2,45)]))]),
  (278,[(5,([0,1,5,6],[],[(5,5)],[]))]),
  (161,[(5,([0,1,2,8,9],[],[(8,5)],[]))]),
  (162,[(3,([1,5,6],[],[(5,5)],[]))]),
  (296,[(2,([0,1,5],[],[],[])),(6,([0,1,5,6],[],[],[]))]),
  (67,[(4,([1,3],[64],[],[(64,0,116)]))]),
  (136,[(2,([1,2,5],[128],[],[(128,0,116)]))]),
  (315,[(3,([2,3,4,5,6],[128,192,256,320],[],[(128,0,116),(256,0,116),(320,0,116)])),(9,([2,3,4,5,7],[128,192,256,320],[],[(128,0,116),(256,0,116),(320,0,116)]))]),
  (316,[(3,([1,2,4,5,6],[128,256,320],[],[(128,0,116),(256,0,116),(320,0,116)]))]),
  (219,[(3,([1,4,6,7],[256,384],[(1,123)],[(256,0,116),(384,0,116)]))]),
  (104,[(5,([0,1,5,6],[0],[(5,5)],[(0,0,5)]))]),
  (45,[(4,([0,6],[],[(6,5)],[]))]),
  (14,[(13,([0,2,4,6,7,8],[0,256,384,448],[],[(0,0,5),(256,2,116),(256,5,45),(256,9,58),(256,10,126)])),(9,([0,2,4,6,7],[0,256,384,448],[],[(0,0,5),(256,2,116),(256,5,45),(256,9,58),(256,10,126)])),(17,([0,2,4,6,7],[0,256,384,448],[],[(0,0,5),(256,2,116),(256,5,45),(256,9,58),(256,10,126)])),(37,([0,6,7],[0,384,448],[],[(0,0,5)])),(39,([0,6,7],[0,384,448],[],[(0,0,5)]))]),
  (75,[(5,([0,3,4],[],[],[]))]),
  (76,[(2,([1,2,5],[128],[],[(128,2,116),(128,5,45),(128,9,58),(128,10,126)]))]),
  (197,[(6,([0,1,7,8,9],[],[],[]))]),
  (201,[(2,([2,3,5],[128,192],[],[(128,2,116),(128,5,45),(128,9,58),(128,10,126)]))]),
  (301,[(3,([0,1,5,6],[],[(5,9)],[]))]),
  (329,[(2,([0,1,2,3,4,11],[],[],[]))]),
  (327,[(5,([0,1,5,6],[],[(0,9)],[]))]),
  (299,[(3,([0,3,4],[],[(3,9)],[]))]),
  (326,[(3,([0,1,5,6],[],[(1,9),(5,9)],[]))]),
  (298,[(4,([0,3],[],[(0,9)],[]))]),
  (328,[(5,([3,4,5,6],[],[(4,3)],[]))]),
  (300,[(6,([0,1,7,8,9],[],[(0,9),(7,9),(8,3)],[]))]),
  (302,[(5,([0,1,5,6],[],[(0,9),(5,9)],[]))]),
  (303,[(4,([1,3],[64],[],[(64,1,9),(64,2,9)])),(9,([1,4],[64],[],[(64,1,9),(64,2,9)]))]),
  (261,[(5,([1,4,5],[64],[],[(64,1,9),(64,2,9)])),(9,([1,4,6],[64],[],[(64,1,9),(64,2,9)]))]),
  (341,[(3,([0,3,4],[],[(3,234)],[])),(7,([0,3,4,5,6],[],[(3,234)],[]))]),
  (346,[(5,([1,2,3,4],[],[(1,3)],[]))]),
  (347,[(4,([1,2,3],[],[(1,234)],[])),(9,([1,2,3,4,5,6],[],[(1,234)],[]))]),
  (349,[(3,([0,1,5,6],[],[],[]))]),
  (348,[(3,([0,1,2,7,8],[],[(0,234),(1,3),(7,234)],[])),(8,([0,1,2,7,9,10],[],[(0,234),(1,3),(7,234),(9,234)],[])),(12,([0,1,2,7,9,10,11,12],[],[(0,234),(1,3),(7,234),(9,234)],[])),(17,([2,9,13,14],[],[(9,234),(13,234)],[])),(20,([2,9,13,14,15],[],[(9,234),(13,234)],[]))]),
  (342,[(4,([0,3,4,5],[],[(0,234),(3,3),(4,234)],[]))]),
  (343,[(3,([0,3,4],[],[(0,234),(3,5)],[])),(7,([0,3,4,5,6],[],[(0,234),(3,5)],[]))]),
  (331,[(3,([1,7,8],[],[(7,234),(8,5)],[])),(7,([1,7,8,9],[],[(7,234),(8,5)],[])),(11,([1,7,8,9,10,11],[],[(7,234),(8,5),(10,234)],[]))]),
  (305,[(4,([1,2,4,6],[128,256],[(6,5)],[]))]),
  (262,[(5,([7,8,9,10],[512],[(7,3)],[])),(18,([7],[],[(7,3)],[]))]),
  (204,[(3,([0,3,4],[],[(3,80)],[])),(6,([0,3,4,5],[],[(3,80)],[]))]),
  (206,[(4,([5,6,8],[],[(5,3)],[]))]),
  (263,[(4,([0,3],[],[(0,3)],[]))]),
  (265,[(6,([0,3,4],[],[],[]))]),
  (264,[(7,([0,1,5],[],[],[]))]),
  (205,[(6,([3,4,5],[],[(3,3)],[])),(9,([3,4,5,6],[],[(3,3)],[])),(14,([3,4,5,6,7,8],[],[(3,3)],[]))]),
  (306,[(3,([0,3,4],[],[],[]))]),
  (267,[(4,([0,1,6],[],[(0,3)],[])),(12,([0,1,7,8,9,10],[],[(0,3),(7,5)],[])),(16,([0,1,7,8,9,10],[],[(0,3),(7,5)],[]))]),
  (268,[(5,([0,1,5,6],[],[(0,3),(1,3),(5,3)],[]))]),
  (208,[(3,([0,1,5,6],[],[(0,3),(1,3),(5,3)],[]))]),
  (209,[(3,([0,1,5,6],[],[(0,80),(1,80),(5,3)],[]))]),
  (147,[(11,([2,4,5,6,7,8,9,10,11],[128],[(7,80),(8,80)],[])),(17,([2,4,5,6,7,8,9,10,13],[128],[(7,80),(8,80)],[]))]),
  (269,[(8,([1,6,8,9],[],[(6,80),(8,80)],[]))]),
  (314,[(5,([1,2,4,6,7],[128,256,384],[(1,3)],[(128,0,116),(256,0,116),(384,0,116)]))]),
  (186,[(5,([0,4,5],[],[(4,9)],[]))]),
  (134,[(5,([0,6,7,9,10],[],[(6,47),(7,9)],[]))]),
  (215,[(8,([0,6,9],[0,384,576],[],[(0,2,116),(0,5,45),(0,9,58),(0,10,126),(0,12,3),(0,13,9),(0,14,230),(0,15,47),(384,2,116),(384,5,45),(384,9,58),(384,10,126),(576,0,116)]))]),
  (276,[(3,([0,1,2,7,8],[],[(0,126),(7,126)],[])),(10,([0,1,7,9],[],[(0,126),(7,126)],[]))]),
  (218,[(11,([4,5,8,9,10,11],[256,320,512,576],[(10,58)],[(256,2,116),(256,5,45),(256,9,58),(256,10,126),(512,2,116),(512,5,45),(512,9,58),(512,10,126),(576,2,116),(576,5,45),(576,9,58),(576,10,126)])),(18,([5,8,9,12],[320,512,576],[],[(512,2,116),(512,5,45),(512,9,58),(512,10,126),(576,2,116),(576,5,45),(576,9,58),(576,10,126)]))]),
  (156,[(8,([0,1,5,6,7,8,9,10],[0,320],[(6,47)],[(0,2,116),(0,5,45),(0,9,58),(0,10,126),(0,12,3),(0,13,9),(0,14,230),(0,15,47),(320,8,3)]))]),
  (69,[(4,([2,3,5],[128,192],[],[(128,2,45),(192,2,45)]))]),
  (135,[(3,([1,4,6,7],[256,384],[(1,47)],[(256,2,45),(384,2,45)]))]),
  (73,[(2,([1,3],[64],[],[(64,2,116),(64,5,45),(64,9,58),(64,10,126)]))]),
  (24,[(4,([1,3],[64],[],[(64,2,116),(64,5,45),(64,9,58),(64,10,126)]))]),
  (37,[(7,([0,4,5,6,8,9],[0,256,320,384],[],[(0,0,5),(256,2,131),(320,2,131),(384,2,116),(384,5,45),(384,9,58),(384,10,126),(384,12,3),(384,13,9),(384,14,230),(384,15,47)]))]),
  (38,[(3,([2,6,8,9,10],[384,512],[(2,131)],[(384,2,116),(384,5,45),(384,9,58),(384,10,126),(384,12,3),(384,13,9),(384,14,230),(384,15,47),(512,2,116),(512,5,45),(512,9,58),(512,10,126),(512,12,3),(512,13,9),(512,14,230),(512,15,47)])),(9,([2,6,8,11],[384,512],[(2,131)],[(384,2,116),(384,5,45),(384,9,58),(384,10,126),(384,12,3),(384,13,9),(384,14,230),(384,15,47),(512,2,116),(512,5,45),(512,9,58),(512,10,126),(512,12,3),(512,13,9),(512,14,230),(512,15,47)]))]),
  (28,[(2,([1,6,7,8],[64],[(6,116)],[(64,0,116)]))]),
  (165,[(3,([0,2,3,11],[128,192],[],[])),(6,([0,2,3,4,11,14],[128,192],[],[])),(12,([2,3,6],[128,192],[],[]))]),
  (107,[(4,([2,4,5,6,7,8,9,10,11,12,13,37],[128,256,320],[],[])),(13,([2,4,17,109],[128,256,1088],[],[]))]),
  (48,[(1,([1,2,4],[128,256],[],[]))]),
  (51,[(3,([3,6,7],[],[],[]))]),
  (84,[(4,([0,1,12,13],[],[(0,45),(1,45)],[]))]),
  (88,[(2,([1,8,9,10],[],[(8,116)],[]))]),
  (170,[(5,([0,1,7,8],[],[],[]))]),
  (272,[(2,([0,1,5],[],[],[])),(6,([0,1,5,19],[],[],[]))]),
  (151,[(5,([0,4,5],[],[(4,9)],[]))]),
  (118,[(2,([0,3],[],[(3,5)],[]))]),
  (284,[(3,([1,5,10,11],[],[(5,5)],[]))]),
  (167,[(6,([0,2,8,10,11],[],[],[]))]),
  (169,[(3,([1,5,10,11],[],[(5,5)],[]))]),
  (120,[(3,([3,14,15,16],[],[(14,4)],[]))]),
  (87,[(5,([0,8,9,23,24,25],[],[(8,47),(23,9)],[]))]),
  (33,[(2,([1,6,7,8],[64],[(6,45)],[(64,2,45)]))]),
  (58,[(2,([1,8,9,10],[],[(8,45)],[]))]),
  (11,[(3,([4,6,13,14,15],[256,384],[(13,47)],[(256,2,45),(384,2,45)]))]),
  (34,[(2,([1,8,9,10],[64],[(8,126)],[(64,2,116),(64,5,45),(64,9,58),(64,10,126)]))]),
  (9,[(6,([1,44,45,46],[64],[(44,58)],[(64,2,116),(64,5,45),(64,9,58),(64,10,126)]))]),
  (17,[(2,([1,8,9,10],[],[(8,58)],[]))]),
  (171,[(2,([1,8,9,10],[],[(8,126)],[]))]),
  (231,[(3,([0,1,5,7],[],[(5,9)],[]))]),
  (288,[(2,([0,1,2,3,13,14],[],[],[]))]),
  (320,[(5,([1,2,3,9,15,16,17],[],[(15,9)],[]))]),
  (229,[(3,([0,3,5],[],[(3,9)],[]))]),
  (285,[(3,([0,1,5,6],[],[(1,9),(5,9)],[]))]),
  (228,[(4,([0,3],[],[(0,9)],[]))]),
  (287,[(5,([3,4,5,11],[],[(3,3)],[])),(10,([3,4,28,29,30],[],[(3,3),(28,3)],[]))]),
  (230,[(6,([1,7,8,16,17,18],[],[(7,3),(8,9),(16,9)],[]))]),
  (232,[(5,([0,1,5,6],[],[(0,9),(5,9)],[]))]),
  (290,[(2,([0,1,7,8,9],[],[(0,9),(7,9)],[]))]),
  (174,[(5,([1,4,16,17,18],[64],[(16,9)],[(64,1,9),(64,2,9)])),(10,([4,27,28,29],[],[(27,9)],[]))]),
  (324,[(3,([0,2,3,5],[128,192],[],[]))]),
  (336,[(3,([1,2,3,8,9],[64,128,192],[],[])),(8,([1,2,3,21],[64,128,192],[],[]))]),
  (337,[(5,([1,2,3,4,5,13],[64,128,192],[],[]))]),
  (338,[(3,([1,2,3,6],[64,128,192],[],[])),(6,([1,2,3,4,6,9],[64,128,192],[],[]))]),
  (345,[(3,([3,4,5],[],[],[]))]),
  (339,[(3,([0,3,5],[],[],[]))]),
  (323,[(2,([1,2,4],[64,128],[],[]))]),
  (325,[(3,([1,3,7,8],[64],[(3,5)],[]))]),
  (291,[(2,([1,7],[],[(7,5)],[])),(7,([1,7,8,9],[],[(7,5),(8,5)],[])),(10,([1,7,8,9,40,41],[],[(7,5),(8,5)],[]))]),
  (240,[(4,([1,2,4,6],[128,256],[],[]))]),
  (176,[(4,([5,7,20,21],[],[(7,3)],[]))]),
  (124,[(3,([0,1,5,7],[],[(5,80)],[]))]),
  (177,[(2,([0,5,6,7],[],[(0,3),(5,3)],[]))]),
  (236,[(3,([0,3,5],[],[],[]))]),
  (235,[(5,([0,1,5],[],[],[]))]),
  (175,[(6,([3,4,5],[],[(3,3)],[])),(9,([3,4,5,6],[],[(3,3)],[])),(14,([3,4,5,6,7,8],[],[(3,3)],[]))]),
  (123,[(3,([3,6,7,8],[],[(3,80),(6,80)],[]))]),
  (182,[(5,([7,8,9,10],[448],[(8,3)],[])),(11,([7,8,9,10,60,61,62],[448],[(8,3),(60,3)],[]))]),
  (128,[(3,([0,1,2,7,9],[],[(7,80)],[]))]),
  (181,[(5,([0,1,5,21],[],[(0,3),(1,3),(5,3)],[]))]),
  (179,[(5,([0,1,2,7,19,20],[],[(0,3),(1,3),(7,3)],[]))]),
  (127,[(3,([0,1,5,9,10],[],[(0,80),(1,80),(5,3)],[]))]),
  (178,[(3,([1,5,17,18,19],[],[(5,5),(17,3)],[])),(6,([1,5,6,7,17,18,19,24,25],[],[(5,5),(17,3)],[]))]),
  (63,[(8,([2,4,5,7,8,9,10,30],[128],[(7,80),(8,80)],[]))]),
  (183,[(8,([1,6,8,29],[],[(6,80),(8,80)],[]))]),
  (8,[(4,([0,1,5],[],[(0,47),(1,47)],[]))]),
  (3,[(9,([3,5,6,11],[192],[(5,47)],[(192,2,116),(192,5,45),(192,9,58),(192,10,126)]))])]
def tabs:List (Nat×(Nat×List Int)):=[(0,(191,[1116352408,1899447441,3049323471,3921009573,961987163,1508970993,2453635748,2870763221,3624381080,310598401,607225278,1426881987,1925078388,2162078206,2614888103,3248222580,3835390401,4022224774,264347078,604807628,770255983,1249150122,1555081692,1996064986,2554220882,2821834349,2952996808,3210313671,3336571891,3584528711,113926993,338241895,666307205,773529912,1294757372,1396182291,1695183700,1986661051,2177026350,2456956037,2730485921,2820302411,3259730800,3345764771,3516065817,3600352804,4094571909,275423344,430227734,506948616,659060556,883997877,958139571,1322822218,1537002063,1747873779,1955562222,2024104815,2227730452,2361852424,2428436474,2756734187,3204031479,3329325298]))]
set_option linter.unusedSectionVars false
variable [PC]
def ctx:Ctx:=mkCtx els tis ents modes cuts tabs PC.pm [180,295,321,322]
noncomputable abbrev PP:Program:=Tryz.prog
abbrev LI:=List Go.Item×Env ctx×Hp ctx
abbrev CU:=Cv (List (U (ElOf els)))
abbrev CV:=Cv (List (L (ElOf els)))
theorem good2:CodGood ctx 2 ent2.c:=⟨fun _=>rfl,fun cs h0=>by obtain ⟨n0,ls0,rfl,h1⟩:=fit_int h0;obtain rfl:=fit_nil h1;rfl,fun _=>rfl,rfl,fun h k hi hk n=>by cases hk;rfl⟩
theorem good3:CodGood ctx 3 ent3.c:=⟨fun _=>rfl,fun cs h0=>by obtain ⟨n0,ls0,rfl,h1⟩:=fit_int h0;obtain rfl:=fit_nil h1;rfl,fun _=>rfl,rfl,fun h k hi hk n=>by cases hk;rfl⟩
theorem good4:CodGood ctx 4 ent4.c:=⟨fun _=>rfl,fun cs h0=>by obtain ⟨n0,ls0,rfl,h1⟩:=fit_bool h0;obtain rfl:=fit_nil h1;rfl,fun _=>rfl,rfl,fun h k hi hk n=>by cases hi⟩
theorem good5:CodGood ctx 5 ent5.c:=⟨fun _=>rfl,fun cs h0=>by obtain ⟨n0,ls0,rfl,h1⟩:=fit_int h0;obtain rfl:=fit_nil h1;rfl,fun _=>rfl,rfl,fun h k hi hk n=>by cases hk;rfl⟩
theorem good9:CodGood ctx 9 ent9.c:=⟨fun _=>rfl,fun cs h0=>by obtain ⟨n0,ls0,rfl,h1⟩:=fit_str h0;obtain rfl:=fit_nil h1;rfl,fun _=>rfl,rfl,fun h k hi hk n=>by cases hi⟩
theorem good22:CodGood ctx 22 ent22.c:=⟨fun _=>rfl,fun cs h0=>by obtain ⟨n0,ls0,rfl,h1⟩:=fit_sl h0;obtain rfl:=fit_nil h1;rfl,fun _=>rfl,rfl,fun h k hi hk n=>by cases hi⟩
theorem good24:CodGood ctx 24 ent24.c:=⟨fun _=>rfl,fun cs h0=>by obtain ⟨n0,ls0,rfl,h1⟩:=fit_sl h0;obtain rfl:=fit_nil h1;rfl,fun _=>rfl,rfl,fun h k hi hk n=>by cases hi⟩
theorem good26:CodGood ctx 26 ent26.c:=⟨fun _=>rfl,fun cs h0=>by obtain ⟨n0,ls0,rfl,h1⟩:=fit_sl h0;obtain rfl:=fit_nil h1;rfl,fun _=>rfl,rfl,fun h k hi hk n=>by cases hi⟩
theorem good27:CodGood ctx 27 ent27.c:=⟨fun _=>rfl,fun cs h0=>by obtain ⟨n0,ls0,rfl,h1⟩:=fit_sl h0;obtain rfl:=fit_nil h1;rfl,fun _=>rfl,rfl,fun h k hi hk n=>by cases hi⟩
theorem good29:CodGood ctx 29 ent29.c:=⟨fun _=>rfl,fun cs h0=>by obtain ⟨n0,ls0,rfl,h1⟩:=fit_str h0;obtain ⟨n1,ls1,rfl,h2⟩:=fit_int h1;obtain ⟨n2,ls2,rfl,h3⟩:=fit_sl h2;obtain ⟨n3,ls3,rfl,h4⟩:=fit_int h3;obtain ⟨n4,ls4,rfl,h5⟩:=fit_str h4;obtain ⟨n5,ls5,rfl,h6⟩:=fit_int h5;obtain rfl:=fit_nil h6;rfl,fun _=>rfl,rfl,fun h k hi hk n=>by cases hi⟩
theorem good30:CodGood ctx 30 ent30.c:=⟨fun _=>rfl,fun cs h0=>by obtain ⟨n0,ls0,rfl,h1⟩:=fit_sl h0;obtain rfl:=fit_nil h1;rfl,fun _=>rfl,rfl,fun h k hi hk n=>by cases hi⟩
theorem good31:CodGood ctx 31 ent31.c:=⟨fun _=>rfl,fun cs h0=>by obtain ⟨n0,ls0,rfl,h1⟩:=fit_sl h0;obtain rfl:=fit_nil h1;rfl,fun _=>rfl,rfl,fun h k hi hk n=>by cases hi⟩
theorem good33:CodGood ctx 33 ent33.c:=⟨fun _=>rfl,fun cs h0=>by obtain ⟨n0,ls0,rfl,h1⟩:=fit_str h0;obtain ⟨n1,ls1,rfl,h2⟩:=fit_bool h1;obtain ⟨n2,ls2,rfl,h3⟩:=fit_sl h2;obtain ⟨n3,ls3,rfl,h4⟩:=fit_str h3;obtain ⟨n4,ls4,rfl,h5⟩:=fit_int h4;obtain ⟨n5,ls5,rfl,h6⟩:=fit_sl h5;obtain ⟨n6,ls6,rfl,h7⟩:=fit_int h6;obtain ⟨n7,ls7,rfl,h8⟩:=fit_str h7;obtain ⟨n8,ls8,rfl,h9⟩:=fit_int h8;obtain ⟨n9,ls9,rfl,h10⟩:=fit_sl h9;obtain ⟨n10,ls10,rfl,h11⟩:=fit_sl h10;obtain ⟨n11,ls11,rfl,h12⟩:=fit_int h11;obtain rfl:=fit_nil h12;rfl,fun _=>rfl,rfl,fun h k hi hk n=>by cases hi⟩
theorem good35:CodGood ctx 35 ent35.c:=⟨fun _=>rfl,fun cs h0=>by obtain ⟨n0,ls0,rfl,h1⟩:=fit_int h0;obtain ⟨n1,ls1,rfl,h2⟩:=fit_int h1;obtain ⟨n2,ls2,rfl,h3⟩:=fit_int h2;obtain ⟨n3,ls3,rfl,h4⟩:=fit_int h3;obtain ⟨n4,ls4,rfl,h5⟩:=fit_str h4;obtain ⟨n5,ls5,rfl,h6⟩:=fit_bool h5;obtain ⟨n6,ls6,rfl,h7⟩:=fit_bool h6;obtain rfl:=fit_nil h7;rfl,fun _=>rfl,rfl,fun h k hi hk n=>by cases hi⟩
theorem good38:CodGood ctx 38 ent38.c:=⟨fun _=>rfl,fun cs h0=>by obtain ⟨n0,ls0,rfl,h1⟩:=fit_sl h0;obtain rfl:=fit_nil h1;rfl,fun _=>rfl,rfl,fun h k hi hk n=>by cases hi⟩
theorem good45:CodGood ctx 45 ent45.c:=⟨fun _=>rfl,fun cs h0=>by obtain ⟨n0,ls0,rfl,h1⟩:=fit_int h0;obtain ⟨n1,ls1,rfl,h2⟩:=fit_int h1;obtain ⟨n2,ls2,rfl,h3⟩:=fit_bool h2;obtain ⟨n3,ls3,rfl,h4⟩:=fit_bool h3;obtain ⟨n4,ls4,rfl,h5⟩:=fit_bool h4;obtain ⟨n5,ls5,rfl,h6⟩:=fit_bool h5;obtain ⟨n6,ls6,rfl,h7⟩:=fit_str h6;obtain ⟨n7,ls7,rfl,h8⟩:=fit_int h7;obtain rfl:=fit_nil h8;rfl,fun _=>rfl,rfl,fun h k hi hk n=>by cases hi⟩
theorem good47:CodGood ctx 47 ent47.c:=⟨fun _=>rfl,fun cs h0=>by obtain ⟨n0,ls0,rfl,h1⟩:=fit_int h0;obtain ⟨n1,ls1,rfl,h2⟩:=fit_str h1;obtain ⟨n2,ls2,rfl,h3⟩:=fit_int h2;obtain ⟨n3,ls3,rfl,h4⟩:=fit_int h3;obtain ⟨n4,ls4,rfl,h5⟩:=fit_int h4;obtain ⟨n5,ls5,rfl,h6⟩:=fit_bool h5;obtain ⟨n6,ls6,rfl,h7⟩:=fit_bool h6;obtain ⟨n7,ls7,rfl,h8⟩:=fit_bool h7;obtain ⟨n8,ls8,rfl,h9⟩:=fit_bool h8;obtain ⟨n9,ls9,rfl,h10⟩:=fit_str h9;obtain ⟨n10,ls10,rfl,h11⟩:=fit_int h10;obtain rfl:=fit_nil h11;rfl,fun _=>rfl,rfl,fun h k hi hk n=>by cases hi⟩
theorem good50:CodGood ctx 50 ent50.c:=⟨fun _=>rfl,fun cs h0=>by obtain ⟨n0,ls0,rfl,h1⟩:=fit_bool h0;obtain rfl:=fit_nil h1;rfl,fun _=>rfl,rfl,fun h k hi hk n=>by cases hi⟩
theorem good58:CodGood ctx 58 ent58.c:=⟨fun _=>rfl,fun cs h0=>by obtain ⟨n0,ls0,rfl,h1⟩:=fit_int h0;obtain ⟨n1,ls1,rfl,h2⟩:=fit_bool h1;obtain rfl:=fit_nil h2;rfl,fun _=>rfl,rfl,fun h k hi hk n=>by cases hi⟩
theorem good68:CodGood ctx 68 ent68.c:=⟨fun _=>rfl,fun cs h0=>by obtain ⟨n0,ls0,rfl,h1⟩:=fit_sl h0;obtain rfl:=fit_nil h1;rfl,fun _=>rfl,rfl,fun h k hi hk n=>by cases hi⟩
theorem good75:CodGood ctx 75 ent75.c:=codBools_good (C:=ctx) (e:=75) (n:=3) (f:=fun x=>x) (g:=fun x=>x) (fun _=>rfl) (by kernel_rfl)
theorem good76:CodGood ctx 76 ent76.c:=⟨fun _=>rfl,fun cs h0=>by obtain ⟨n0,ls0,rfl,h1⟩:=fit_sl h0;obtain rfl:=fit_nil h1;rfl,fun _=>rfl,rfl,fun h k hi hk n=>by cases hi⟩
theorem good78:CodGood ctx 78 ent78.c:=⟨fun _=>rfl,fun cs h0=>by obtain ⟨n0,ls0,rfl,h1⟩:=fit_str h0;obtain ⟨n1,ls1,rfl,h2⟩:=fit_str h1;obtain ⟨n2,ls2,rfl,h3⟩:=fit_sl h2;obtain rfl:=fit_nil h3;rfl,fun _=>rfl,rfl,fun h k hi hk n=>by cases hi⟩
theorem good80:CodGood ctx 80 ent80.c:=⟨fun _=>rfl,fun cs h0=>by obtain ⟨n0,ls0,rfl,h1⟩:=fit_sl h0;obtain rfl:=fit_nil h1;rfl,fun _=>rfl,rfl,fun h k hi hk n=>by cases hi⟩
theorem good81:CodGood ctx 81 ent81.c:=⟨fun _=>rfl,fun cs h0=>by obtain ⟨n0,ls0,rfl,h1⟩:=fit_sl h0;obtain rfl:=fit_nil h1;rfl,fun _=>rfl,rfl,fun h k hi hk n=>by cases hi⟩
theorem good82:CodGood ctx 82 ent82.c:=⟨fun _=>rfl,fun cs h0=>by obtain ⟨n0,ls0,rfl,h1⟩:=fit_sl h0;obtain rfl:=fit_nil h1;rfl,fun _=>rfl,rfl,fun h k hi hk n=>by cases hi⟩
theorem good84:CodGood ctx 84 ent84.c:=⟨fun _=>rfl,fun cs h0=>by obtain ⟨n0,ls0,rfl,h1⟩:=fit_str h0;obtain ⟨n1,ls1,rfl,h2⟩:=fit_bool h1;obtain ⟨n2,ls2,rfl,h3⟩:=fit_sl h2;obtain ⟨n3,ls3,rfl,h4⟩:=fit_str h3;obtain ⟨n4,ls4,rfl,h5⟩:=fit_int h4;obtain ⟨n5,ls5,rfl,h6⟩:=fit_sl h5;obtain ⟨n6,ls6,rfl,h7⟩:=fit_int h6;obtain ⟨n7,ls7,rfl,h8⟩:=fit_str h7;obtain ⟨n8,ls8,rfl,h9⟩:=fit_int h8;obtain ⟨n9,ls9,rfl,h10⟩:=fit_sl h9;obtain ⟨n10,ls10,rfl,h11⟩:=fit_sl h10;obtain ⟨n11,ls11,rfl,h12⟩:=fit_int h11;obtain ⟨n12,ls12,rfl,h13⟩:=fit_sl h12;obtain ⟨n13,ls13,rfl,h14⟩:=fit_sl h13;obtain ⟨n14,ls14,rfl,h15⟩:=fit_sl h14;obtain ⟨n15,ls15,rfl,h16⟩:=fit_sl h15;obtain rfl:=fit_nil h16;rfl,fun _=>rfl,rfl,fun h k hi hk n=>by cases hi⟩
theorem good96:CodGood ctx 96 ent96.c:=⟨fun _=>rfl,fun cs h0=>by obtain ⟨n0,ls0,rfl,h1⟩:=fit_int h0;obtain rfl:=fit_nil h1;rfl,fun _=>rfl,rfl,fun h k hi hk n=>by cases hk;rfl⟩
theorem good97:CodGood ctx 97 ent97.c:=codBools_good (C:=ctx) (e:=97) (n:=8) (f:=fun x=>x) (g:=fun x=>x) (fun _=>rfl) (by kernel_rfl)
theorem good109:CodGood ctx 109 ent109.c:=⟨fun _=>rfl,fun cs h0=>by obtain ⟨n0,ls0,rfl,h1⟩:=fit_str h0;obtain ⟨n1,ls1,rfl,h2⟩:=fit_str h1;obtain rfl:=fit_nil h2;rfl,fun _=>rfl,rfl,fun h k hi hk n=>by cases hi⟩
theorem good116:CodGood ctx 116 ent116.c:=⟨fun _=>rfl,fun cs h0=>by obtain ⟨n0,ls0,rfl,h1⟩:=fit_str h0;obtain ⟨n1,ls1,rfl,h2⟩:=fit_str h1;obtain ⟨n2,ls2,rfl,h3⟩:=fit_int h2;obtain rfl:=fit_nil h3;rfl,fun _=>rfl,rfl,fun h k hi hk n=>by cases hi⟩
theorem good123:CodGood ctx 123 ent123.c:=⟨fun _=>rfl,fun cs h0=>by obtain ⟨n0,ls0,rfl,h1⟩:=fit_int h0;obtain ⟨n1,ls1,rfl,h2⟩:=fit_str h1;obtain ⟨n2,ls2,rfl,h3⟩:=fit_str h2;obtain ⟨n3,ls3,rfl,h4⟩:=fit_str h3;obtain rfl:=fit_nil h4;rfl,fun _=>rfl,rfl,fun h k hi hk n=>by cases hi⟩
theorem good126:CodGood ctx 126 ent126.c:=⟨fun _=>rfl,fun cs h0=>by obtain ⟨n0,ls0,rfl,h1⟩:=fit_int h0;obtain ⟨n1,ls1,rfl,h2⟩:=fit_int h1;obtain rfl:=fit_nil h2;rfl,fun _=>rfl,rfl,fun h k hi hk n=>by cases hi⟩
theorem good131:CodGood ctx 131 ent131.c:=⟨fun _=>rfl,fun cs h0=>by obtain ⟨n0,ls0,rfl,h1⟩:=fit_int h0;obtain ⟨n1,ls1,rfl,h2⟩:=fit_int h1;obtain ⟨n2,ls2,rfl,h3⟩:=fit_int h2;obtain ⟨n3,ls3,rfl,h4⟩:=fit_int h3;obtain ⟨n4,ls4,rfl,h5⟩:=fit_str h4;obtain ⟨n5,ls5,rfl,h6⟩:=fit_bool h5;obtain ⟨n6,ls6,rfl,h7⟩:=fit_bool h6;obtain ⟨n7,ls7,rfl,h8⟩:=fit_bool h7;obtain ⟨n8,ls8,rfl,h9⟩:=fit_sl h8;obtain ⟨n9,ls9,rfl,h10⟩:=fit_bool h9;obtain rfl:=fit_nil h10;rfl,fun _=>rfl,rfl,fun h k hi hk n=>by cases hi⟩
theorem good133:CodGood ctx 133 ent133.c:=⟨fun _=>rfl,fun cs h0=>by obtain ⟨n0,ls0,rfl,h1⟩:=fit_bool h0;obtain rfl:=fit_nil h1;rfl,fun _=>rfl,rfl,fun h k hi hk n=>by cases hi⟩
theorem good145:CodGood ctx 145 ent145.c:=⟨fun _=>rfl,fun cs h0=>by obtain ⟨n0,ls0,rfl,h1⟩:=fit_bool h0;obtain rfl:=fit_nil h1;rfl,fun _=>rfl,rfl,fun h k hi hk n=>by cases hi⟩
theorem good147:CodGood ctx 147 ent147.c:=⟨fun _=>rfl,fun cs h0=>by obtain ⟨n0,ls0,rfl,h1⟩:=fit_str h0;obtain ⟨n1,ls1,rfl,h2⟩:=fit_int h1;obtain ⟨n2,ls2,rfl,h3⟩:=fit_bool h2;obtain rfl:=fit_nil h3;rfl,fun _=>rfl,rfl,fun h k hi hk n=>by cases hi⟩
theorem good151:CodGood ctx 151 ent151.c:=⟨fun _=>rfl,fun cs h0=>by obtain ⟨n0,ls0,rfl,h1⟩:=fit_int h0;obtain ⟨n1,ls1,rfl,h2⟩:=fit_sl h1;obtain ⟨n2,ls2,rfl,h3⟩:=fit_sl h2;obtain rfl:=fit_nil h3;rfl,fun _=>rfl,rfl,fun h k hi hk n=>by cases hi⟩
theorem good153:CodGood ctx 153 ent153.c:=⟨fun _=>rfl,fun cs h0=>by obtain ⟨n0,ls0,rfl,h1⟩:=fit_int h0;obtain ⟨n1,ls1,rfl,h2⟩:=fit_sl h1;obtain ⟨n2,ls2,rfl,h3⟩:=fit_sl h2;obtain ⟨n3,ls3,rfl,h4⟩:=fit_str h3;obtain ⟨n4,ls4,rfl,h5⟩:=fit_int h4;obtain ⟨n5,ls5,rfl,h6⟩:=fit_sl h5;obtain ⟨n6,ls6,rfl,h7⟩:=fit_sl h6;obtain rfl:=fit_nil h7;rfl,fun _=>rfl,rfl,fun h k hi hk n=>by cases hi⟩
theorem good158:CodGood ctx 158 ent158.c:=⟨fun _=>rfl,fun cs h0=>by obtain ⟨n0,ls0,rfl,h1⟩:=fit_sl h0;obtain rfl:=fit_nil h1;rfl,fun _=>rfl,rfl,fun h k hi hk n=>by cases hi⟩
theorem good171:CodGood ctx 171 ent171.c:=⟨fun _=>rfl,fun cs h0=>by obtain ⟨n0,ls0,rfl,h1⟩:=fit_str h0;obtain ⟨n1,ls1,rfl,h2⟩:=fit_str h1;obtain ⟨n2,ls2,rfl,h3⟩:=fit_int h2;obtain rfl:=fit_nil h3;rfl,fun _=>rfl,rfl,fun h k hi hk n=>by cases hi⟩
theorem good180:CodGood ctx 180 ent180.c:=⟨fun _=>rfl,fun cs h0=>by obtain ⟨n0,ls0,rfl,h1⟩:=fit_bool h0;obtain rfl:=fit_nil h1;rfl,fun _=>rfl,rfl,fun h k hi hk n=>by cases hi⟩
theorem good186:CodGood ctx 186 ent186.c:=⟨fun _=>rfl,fun cs h0=>by obtain ⟨n0,ls0,rfl,h1⟩:=fit_int h0;obtain rfl:=fit_nil h1;rfl,fun _=>rfl,rfl,fun h k hi hk n=>by cases hk;rfl⟩
theorem good191:CodGood ctx 191 ent191.c:=codBools_good (C:=ctx) (e:=191) (n:=64) (f:=fun x=>x) (g:=fun x=>x) (fun _=>rfl) (by kernel_rfl)
theorem good199:CodGood ctx 199 ent199.c:=⟨fun _=>rfl,fun cs h0=>by obtain ⟨n0,ls0,rfl,h1⟩:=fit_sl h0;obtain rfl:=fit_nil h1;rfl,fun _=>rfl,rfl,fun h k hi hk n=>by cases hi⟩
theorem good212:CodGood ctx 212 ent212.c:=⟨fun _=>rfl,fun cs h0=>by obtain ⟨n0,ls0,rfl,h1⟩:=fit_sl h0;obtain rfl:=fit_nil h1;rfl,fun _=>rfl,rfl,fun h k hi hk n=>by cases hi⟩
theorem good217:CodGood ctx 217 ent217.c:=⟨fun _=>rfl,fun cs h0=>by obtain ⟨n0,ls0,rfl,h1⟩:=fit_bool h0;obtain rfl:=fit_nil h1;rfl,fun _=>rfl,rfl,fun h k hi hk n=>by cases hi⟩
theorem good219:CodGood ctx 219 ent219.c:=⟨fun _=>rfl,fun cs h0=>by obtain ⟨n0,ls0,rfl,h1⟩:=fit_str h0;obtain ⟨n1,ls1,rfl,h2⟩:=fit_int h1;obtain ⟨n2,ls2,rfl,h3⟩:=fit_bool h2;obtain rfl:=fit_nil h3;rfl,fun _=>rfl,rfl,fun h k hi hk n=>by cases hi⟩
theorem good230:CodGood ctx 230 ent230.c:=⟨fun _=>rfl,fun cs h0=>by obtain ⟨n0,ls0,rfl,h1⟩:=fit_int h0;obtain ⟨n1,ls1,rfl,h2⟩:=fit_int h1;obtain ⟨n2,ls2,rfl,h3⟩:=fit_int h2;obtain rfl:=fit_nil h3;rfl,fun _=>rfl,rfl,fun h k hi hk n=>by cases hi⟩
theorem good233:CodGood ctx 233 ent233.c:=codBools_good (C:=ctx) (e:=233) (n:=24) (f:=fun x=>x) (g:=fun x=>x) (fun _=>rfl) (by kernel_rfl)
theorem good234:CodGood ctx 234 ent234.c:=⟨fun _=>rfl,fun cs h0=>by obtain ⟨n0,ls0,rfl,h1⟩:=fit_int h0;obtain rfl:=fit_nil h1;rfl,fun _=>rfl,rfl,fun h k hi hk n=>by cases hk;rfl⟩
theorem good249:CodGood ctx 249 ent249.c:=⟨fun _=>rfl,fun cs h0=>by obtain ⟨n0,ls0,rfl,h1⟩:=fit_str h0;obtain ⟨n1,ls1,rfl,h2⟩:=fit_int h1;obtain rfl:=fit_nil h2;rfl,fun _=>rfl,rfl,fun h k hi hk n=>by cases hi⟩
theorem good291:CodGood ctx 291 ent291.c:=codBools_good (C:=ctx) (e:=291) (n:=25) (f:=fun x=>x) (g:=fun x=>x) (fun _=>rfl) (by kernel_rfl)
theorem good294:CodGood ctx 294 ent294.c:=codBools_good (C:=ctx) (e:=294) (n:=32) (f:=fun x=>x) (g:=fun x=>x) (fun _=>rfl) (by kernel_rfl)
theorem good295:CodGood ctx 295 ent295.c:=codBools_good (C:=ctx) (e:=295) (n:=64) (f:=fun x=>x) (g:=fun x=>x) (fun _=>rfl) (by kernel_rfl)
theorem good298:CodGood ctx 298 ent298.c:=⟨fun _=>rfl,fun cs h0=>by obtain ⟨n0,ls0,rfl,h1⟩:=fit_sl h0;obtain rfl:=fit_nil h1;rfl,fun _=>rfl,rfl,fun h k hi hk n=>by cases hi⟩
theorem good302:CodGood ctx 302 ent302.c:=codBools_good (C:=ctx) (e:=302) (n:=5) (f:=fun x=>x) (g:=fun x=>x) (fun _=>rfl) (by kernel_rfl)
theorem ctxOk:CtxOk ctx Tryz.prog:=mkCtx_ok (by kernel_rfl) (fun x hx=>by
  simp only [ents,List.mem_cons,List.not_mem_nil,or_false] at hx
  rcases hx with rfl | rfl | rfl | rfl | rfl | rfl | rfl | rfl | rfl | rfl | rfl | rfl | rfl | rfl | rfl | rfl | rfl | rfl | rfl | rfl | rfl | rfl | rfl | rfl | rfl | rfl | rfl | rfl | rfl | rfl | rfl | rfl | rfl | rfl | rfl | rfl | rfl | rfl | rfl | rfl | rfl | rfl | rfl | rfl | rfl | rfl | rfl | rfl | rfl | rfl | rfl | rfl | rfl | rfl | rfl | rfl | rfl
  · exact good2
  · exact good3
  · exact good4
  · exact good5
  · exact good9
  · exact good22
  · exact good24
  · exact good26
  · exact good27
  · exact good29
  · exact good30
  · exact good31
  · exact good33
  · exact good35
  · exact good38
  · exact good45
  · exact good47
  · exact good50
  · exact good58
  · exact good68
  · exact good75
  · exact good76
  · exact good78
  · exact good80
  · exact good81
  · exact good82
  · exact good84
  · exact good96
  · exact good97
  · exact good109
  · exact good116
  · exact good123
  · exact good126
  · exact good131
  · exact good133
  · exact good145
  · exact good147
  · exact good151
  · exact good153
  · exact good158
  · exact good171
  · exact good180
  · exact good186
  · exact good191
  · exact good199
  · exact good212
  · exact good217
  · exact good219
  · exact good230
  · exact good233
  · exact good234
  · exact good249
  · exact good291
  · exact good294
  · exact good295
  · exact good298
  · exact good302)
def cv0:CU Unit:=q1 (uOne cCsl)
def cv1:CU Bool:=q1 uB
def cSL01CurF:CV SL01Cur:=cIso (cCons cCsl (cCons (cInt .i64) (cCons (cInt .i64) cNil))) (fun p=>⟨p.1,p.2.1,p.2.2.1⟩) (fun s=>(s.fB,s.fI,s.fH,())) (fun _=>rfl)
def cv2:CU SL01Cur:=q1 (uAgg (cPre cPtr0 cSL01CurF))
def cv3:CU SL01Cur:=q1 (uAgg cSL01CurF)
def cv4:CU (Int×SL01Cur):=cCons uI (q1 (uAgg cSL01CurF))
def cv5:CU (SL01Cur×Int):=cCons (uAgg cSL01CurF) (q1 uI)
def cv6:CU (Int×Int):=cCons uI (q1 (uOne (cInt .u8)))
def cv7:CU ByteArray:=q1 uS
def cv8:CU Unit:=cNil
def cv9:CU (List Int):=q1 (uOne (cFsl 96))
def cv10:CU (List Int):=q1 (uOne (cRsl 96))
def cSHasher:CV SHasher:=cIso (cCons cStr (cCons cStr (cCons (cInt .i64) cNil))) (fun p=>⟨p.1,p.2.1,p.2.2.1⟩) (fun s=>(s.fState,s.fRest,s.fCount,())) (fun _=>rfl)
def cv11:CU SHasher:=q1 (uAgg cSHasher)
def cv12:CU (Int×Int×Int):=cCons uI (cCons uI (q1 uI))
def cv13:CU (ByteArray×Int):=cCons uS (q1 uI)
def cv14:CU Int:=q1 (uOne (cInt .u32))
def cv15:CU (Int×Int×Int):=cCons (uOne (cInt .u32)) (cCons (uOne (cInt .u32)) (q1 (uOne (cInt .u32))))
def cv16:CU (Int×Int×Int×Int×Bool):=cCons (uOne (cInt .u32)) (cCons (uOne (cInt .u32)) (cCons (uOne (cInt .u32)) (cCons (uOne (cInt .u32)) (q1 uB))))
def cv17:CU ((List Int)×(List Int)×ByteArray):=cCons (uOne (cRsl 96)) (cCons (uOne (cRsl 96)) (q1 uS))
def cv18:CU (SHasher×ByteArray):=cCons (uAgg cSHasher) (q1 uS)
def cSBookF:CV SBook:=cIso (cCons cStr (cCons (cInt .i64) (cCons (cFsl 45) (cCons (cInt .i64) (cCons cStr (cCons (cInt .i64) cNil)))))) (fun p=>⟨p.1,p.2.1,p.2.2.1,p.2.2.2.1,p.2.2.2.2.1,p.2.2.2.2.2.1⟩) (fun s=>(s.fWord,s.fTries,s.fThings,s.fLast,s.fChain,s.fCount,())) (fun _=>rfl)
def cv19:CU SBook:=q1 (uAgg cSBookF)
def cv20:CU Int:=q1 uI
def cSThing:CV SThing:=cIso (cCons (cInt .i64) (cCons (cInt .i64) (cCons cBool (cCons cBool (cCons cBool (cCons cBool (cCons cStr (cCons (cInt .i64) cNil)))))))) (fun p=>⟨p.1,p.2.1,p.2.2.1,p.2.2.2.1,p.2.2.2.2.1,p.2.2.2.2.2.1,p.2.2.2.2.2.2.1,p.2.2.2.2.2.2.2.1⟩) (fun s=>(s.fId,s.fKind,s.fHidden,s.fFixed,s.fSigns,s.fWraps,s.fValue,s.fNext,())) (fun _=>rfl)
def cv21:CU SThing:=q1 (uAgg cSThing)
def cv22:CU (Bool×Int):=cCons uB (q1 uI)
def cv23:CU (ByteArray×Bool):=cCons uS (q1 uB)
def cSRec:CV SRec:=cIso (cCons (cInt .i64) (cCons cStr (cCons (cInt .i64) (cCons (cInt .i64) (cCons (cInt .i64) (cCons cBool (cCons cBool (cCons cBool (cCons cBool (cCons cStr (cCons (cInt .i64) cNil))))))))))) (fun p=>⟨p.1,p.2.1,p.2.2.1,⟨p.2.2.2.1,p.2.2.2.2.1,p.2.2.2.2.2.1,p.2.2.2.2.2.2.1,p.2.2.2.2.2.2.2.1,p.2.2.2.2.2.2.2.2.1,p.2.2.2.2.2.2.2.2.2.1,p.2.2.2.2.2.2.2.2.2.2.1⟩⟩) (fun s=>(s.fKind,s.fText,s.fNum,s.fThing.fId,s.fThing.fKind,s.fThing.fHidden,s.fThing.fFixed,s.fThing.fSigns,s.fThing.fWraps,s.fThing.fValue,s.fThing.fNext,())) (fun _=>rfl)
def cv24:CU SRec:=q1 (uAgg cSRec)
def cSBook:CV SBook:=cIso (cCons cStr (cCons (cInt .i64) (cCons (cRsl 45) (cCons (cInt .i64) (cCons cStr (cCons (cInt .i64) cNil)))))) (fun p=>⟨p.1,p.2.1,p.2.2.1,p.2.2.2.1,p.2.2.2.2.1,p.2.2.2.2.2.1⟩) (fun s=>(s.fWord,s.fTries,s.fThings,s.fLast,s.fChain,s.fCount,())) (fun _=>rfl)
def cv25:CU SBook:=q1 (uAgg cSBook)
def cv26:CU (SBook×Int):=cCons (uAgg cSBook) (q1 uI)
def cv27:CU (SThing×Bool):=cCons (uAgg cSThing) (q1 uB)
def cv28:CU (SThing×SThing):=cCons (uAgg cSThing) (q1 (uAgg cSThing))
def cv29:CU ((List SThing)×SThing):=cCons (uOne (cRsl 45)) (q1 (uAgg cSThing))
def cv30:CU (List SThing):=q1 (uOne (cFsl 45))
def cv31:CU (SBook×SRec):=cCons (uAgg cSBook) (q1 (uAgg cSRec))
def cv32:CU (SBook×Bool):=cCons (uAgg cSBookF) (q1 uB)
def cv33:CU (ByteArray×Int):=cCons uS (q1 (uOne (cInt .u8)))
def cv34:CU (ByteArray×ByteArray):=cCons uS (q1 uS)
def cv35:CU (ByteArray×Int×Int):=cCons uS (cCons uI (q1 uI))
def cv36:CU (ByteArray×Int×ByteArray):=cCons uS (cCons uI (q1 uS))
def cv37:CU (Int×ByteArray):=cCons (uOne (cInt .u32)) (q1 uS)
def cv38:CU (ByteArray×Int×SRec):=cCons uS (cCons uI (q1 (uAgg cSRec)))
def cv39:CU ((List SAct)×Bool):=cCons (uOne (cFsl 123)) (q1 uB)
def cSDisk:CV SDisk:=cIso (cCons (cRsl 116) cNil) (fun p=>⟨p.1⟩) (fun s=>(s.fFiles,())) (fun _=>rfl)
def cv40:CU SDisk:=q1 (uAgg cSDisk)
def cv41:CU (SDisk×ByteArray):=cCons (uAgg cSDisk) (q1 uS)
def cSFile:CV SFile:=cIso (cCons cStr (cCons cStr (cCons (cInt .i64) cNil))) (fun p=>⟨p.1,p.2.1,p.2.2.1⟩) (fun s=>(s.fName,s.fText,s.fKept,())) (fun _=>rfl)
def cSDiskF:CV SDisk:=cIso (cCons (cFsl 116) cNil) (fun p=>⟨p.1⟩) (fun s=>(s.fFiles,())) (fun _=>rfl)
def cv42:CU (SDisk×SFile):=cCons (uAgg cSDisk) (q1 (uAgg cSFile))
def cv43:CU SDisk:=q1 (uAgg cSDiskF)
def cSAct:CV SAct:=cIso (cCons (cInt .i64) (cCons cStr (cCons cStr (cCons cStr cNil)))) (fun p=>⟨p.1,p.2.1,p.2.2.1,p.2.2.2.1⟩) (fun s=>(s.fKind,s.fName,s.fText,s.fTo,())) (fun _=>rfl)
def cv44:CU (SDisk×SAct):=cCons (uAgg cSDisk) (q1 (uAgg cSAct))
def cv45:CU (SDisk×Bool):=cCons (uAgg cSDiskF) (q1 uB)
def cv46:CU (SDisk×(List SAct)):=cCons (uAgg cSDisk) (q1 (uOne (cRsl 123)))
def cv47:CU (SDisk×Int):=cCons (uAgg cSDiskF) (q1 uI)
def cv48:CU (ByteArray×SDisk×Int×SRec):=cCons uS (cCons (uAgg cSDisk) (cCons uI (q1 (uAgg cSRec))))
def cSBoxF:CV SBox:=cIso (cCons cStr (cCons cBool (cCons (cFsl 116) (cCons cStr (cCons (cInt .i64) (cCons (cFsl 45) (cCons (cInt .i64) (cCons cStr (cCons (cInt .i64) (cCons (cFsl 58) (cCons (cFsl 126) (cCons (cInt .i64) cNil)))))))))))) (fun p=>⟨p.1,p.2.1,⟨p.2.2.1⟩,⟨p.2.2.2.1,p.2.2.2.2.1,p.2.2.2.2.2.1,p.2.2.2.2.2.2.1,p.2.2.2.2.2.2.2.1,p.2.2.2.2.2.2.2.2.1⟩,p.2.2.2.2.2.2.2.2.2.1,p.2.2.2.2.2.2.2.2.2.2.1,p.2.2.2.2.2.2.2.2.2.2.2.1⟩) (fun s=>(s.fKey,s.fUp,s.fDisk.fFiles,s.fBook.fWord,s.fBook.fTries,s.fBook.fThings,s.fBook.fLast,s.fBook.fChain,s.fBook.fCount,s.fSessions,s.fLives,s.fOpened,())) (fun _=>rfl)
def cv49:CU (SBox×Bool):=cCons (uAgg cSBoxF) (q1 uB)
def cSLifeF:CV SLife:=cIso (cCons cStr (cCons cBool (cCons (cFsl 116) (cCons cStr (cCons (cInt .i64) (cCons (cFsl 45) (cCons (cInt .i64) (cCons cStr (cCons (cInt .i64) (cCons (cFsl 58) (cCons (cFsl 126) (cCons (cInt .i64) (cCons (cFsl 3) (cCons (cFsl 9) (cCons (cFsl 230) (cCons (cFsl 47) cNil)))))))))))))))) (fun p=>⟨⟨p.1,p.2.1,⟨p.2.2.1⟩,⟨p.2.2.2.1,p.2.2.2.2.1,p.2.2.2.2.2.1,p.2.2.2.2.2.2.1,p.2.2.2.2.2.2.2.1,p.2.2.2.2.2.2.2.2.1⟩,p.2.2.2.2.2.2.2.2.2.1,p.2.2.2.2.2.2.2.2.2.2.1,p.2.2.2.2.2.2.2.2.2.2.2.1⟩,p.2.2.2.2.2.2.2.2.2.2.2.2.1,p.2.2.2.2.2.2.2.2.2.2.2.2.2.1,p.2.2.2.2.2.2.2.2.2.2.2.2.2.2.1,p.2.2.2.2.2.2.2.2.2.2.2.2.2.2.2.1⟩) (fun s=>(s.fBox.fKey,s.fBox.fUp,s.fBox.fDisk.fFiles,s.fBox.fBook.fWord,s.fBox.fBook.fTries,s.fBox.fBook.fThings,s.fBox.fBook.fLast,s.fBox.fBook.fChain,s.fBox.fBook.fCount,s.fBox.fSessions,s.fBox.fLives,s.fBox.fOpened,s.fCodes,s.fReplies,s.fGives,s.fDone,())) (fun _=>rfl)
def cv50:CU (SLife×Bool):=cCons (uAgg cSLifeF) (q1 uB)
def cv51:CU (Bool×SL01Cur):=cCons uB (q1 (uAgg cSL01CurF))
def cv52:CU (SL01Cur×(List Int)):=cCons (uAgg cSL01CurF) (q1 (uOne (cRsl 3)))
def cv53:CU (SL01Cur×(List ByteArray)):=cCons (uAgg cSL01CurF) (q1 (uOne (cRsl 9)))
def cv54:CU (ByteArray×SL01Cur):=cCons uS (q1 (uAgg cSL01CurF))
def cv55:CU (SThing×SL01Cur):=cCons (uAgg cSThing) (q1 (uAgg cSL01CurF))
def cSBox:CV SBox:=cIso (cCons cStr (cCons cBool (cCons (cRsl 116) (cCons cStr (cCons (cInt .i64) (cCons (cRsl 45) (cCons (cInt .i64) (cCons cStr (cCons (cInt .i64) (cCons (cRsl 58) (cCons (cRsl 126) (cCons (cInt .i64) cNil)))))))))))) (fun p=>⟨p.1,p.2.1,⟨p.2.2.1⟩,⟨p.2.2.2.1,p.2.2.2.2.1,p.2.2.2.2.2.1,p.2.2.2.2.2.2.1,p.2.2.2.2.2.2.2.1,p.2.2.2.2.2.2.2.2.1⟩,p.2.2.2.2.2.2.2.2.2.1,p.2.2.2.2.2.2.2.2.2.2.1,p.2.2.2.2.2.2.2.2.2.2.2.1⟩) (fun s=>(s.fKey,s.fUp,s.fDisk.fFiles,s.fBook.fWord,s.fBook.fTries,s.fBook.fThings,s.fBook.fLast,s.fBook.fChain,s.fBook.fCount,s.fSessions,s.fLives,s.fOpened,())) (fun _=>rfl)
def cv56:CU SBox:=q1 (uAgg cSBox)
def cSCall:CV SCall:=cIso (cCons (cInt .i64) (cCons (cInt .i64) (cCons (cInt .i64) (cCons (cInt .i64) (cCons cStr (cCons cBool (cCons cBool cNil))))))) (fun p=>⟨p.1,p.2.1,p.2.2.1,p.2.2.2.1,p.2.2.2.2.1,p.2.2.2.2.2.1,p.2.2.2.2.2.2.1⟩) (fun s=>(s.fOp,s.fSession,s.fThing,s.fKind,s.fText,s.fHidden,s.fFixed,())) (fun _=>rfl)
def cv57:CU (SL01Cur×SBox×ByteArray):=cCons (uAgg cSL01CurF) (cCons (uAgg cSBox) (q1 uS))
def cv58:CU (SCall×SL01Cur):=cCons (uAgg cSCall) (q1 (uAgg cSL01CurF))
def cSEventF:CV SEvent:=cIso (cCons (cInt .i64) (cCons (cInt .i64) (cCons (cInt .i64) (cCons (cInt .i64) (cCons cStr (cCons cBool (cCons cBool (cCons cBool (cCons (cFsl 3) (cCons cBool cNil)))))))))) (fun p=>⟨⟨p.1,p.2.1,p.2.2.1,p.2.2.2.1,p.2.2.2.2.1,p.2.2.2.2.2.1,p.2.2.2.2.2.2.1⟩,p.2.2.2.2.2.2.2.1,p.2.2.2.2.2.2.2.2.1,p.2.2.2.2.2.2.2.2.2.1⟩) (fun s=>(s.fCall.fOp,s.fCall.fSession,s.fCall.fThing,s.fCall.fKind,s.fCall.fText,s.fCall.fHidden,s.fCall.fFixed,s.fCut,s.fLeft,s.fRise,())) (fun _=>rfl)
def cv59:CU (SL01Cur×SLife):=cCons (uAgg cSL01CurF) (q1 (uAgg cSLifeF))
def cv60:CU (SEvent×SL01Cur×SLife):=cCons (uAgg cSEventF) (cCons (uAgg cSL01CurF) (q1 (uAgg cSLifeF)))
def cv61:CU (SLife×Int×ByteArray):=cCons (uAgg cSLifeF) (cCons uI (q1 uS))
def cv62:CU SLife:=q1 (uAgg cSLifeF)
def cv63:CU (Int×ByteArray):=cCons uI (q1 uS)
def cv64:CU ((List SRec)×Int×ByteArray):=cCons (uOne (cFsl 47)) (cCons uI (q1 uS))
def cv65:CU Int:=q1 (uOne (cInt .u8))
def cv66:CU ((List SRec)×ByteArray):=cCons (uOne (cFsl 47)) (q1 uS)
def cv67:CU (SBox×Int):=cCons (uAgg cSBox) (q1 uI)
def cv68:CU (SBox×SCall):=cCons (uAgg cSBox) (q1 (uAgg cSCall))
def cv69:CU (List SRec):=q1 (uOne (cFsl 47))
def cv70:CU (SBox×SCall×SThing×Bool):=cCons (uAgg cSBox) (cCons (uAgg cSCall) (cCons (uAgg cSThing) (q1 uB)))
def cv71:CU (Int×Int×Bool):=cCons uI (cCons uI (q1 uB))
def cSL19Cur:CV SL19Cur:=cIso (cCons cStr (cCons (cInt .i64) (cCons cBool cNil))) (fun p=>⟨p.1,p.2.1,p.2.2.1⟩) (fun s=>(s.fText,s.fAt,s.fBad,())) (fun _=>rfl)
def cv72:CU SL19Cur:=q1 (uAgg cSL19Cur)
def cv73:CU (Int×SL19Cur):=cCons uI (q1 (uAgg cSL19Cur))
def cv74:CU (SL19Cur×Int):=cCons (uAgg cSL19Cur) (q1 uI)
def cv75:CU (ByteArray×SL19Cur):=cCons uS (q1 (uAgg cSL19Cur))
def cv76:CU (SThing×Int):=cCons (uAgg cSThing) (q1 uI)
def cv77:CU (SBox×SThing):=cCons (uAgg cSBox) (q1 (uAgg cSThing))
def cv78:CU (List ByteArray):=q1 (uOne (cFsl 9))
def cv79:CU (ByteArray×Int×Int×Int×Int):=cCons uS (cCons uI (cCons uI (cCons uI (q1 uI))))
def cv80:CU ((List ByteArray)×Int):=cCons (uOne (cRsl 9)) (q1 uI)
def cv81:CU (Int×Int×ByteArray×ByteArray):=cCons uI (cCons uI (cCons uS (q1 uS)))
def cv82:CU (Int×(List ByteArray)):=cCons uI (q1 (uOne (cRsl 9)))
def cv83:CU (List ByteArray):=q1 (uOne (cRsl 9))
def cv84:CU (List Int):=q1 (uOne (cFsl 3))
def cv85:CU ((List ByteArray)×Int×ByteArray):=cCons (uOne (cRsl 9)) (cCons uI (q1 uS))
def cSSigF:CV SSig:=cIso (cCons (cInt .i64) (cCons (cFsl 9) (cCons (cFsl 9) cNil))) (fun p=>⟨p.1,p.2.1,p.2.2.1⟩) (fun s=>(s.fLeaf,s.fOnce,s.fPath,())) (fun _=>rfl)
def cv86:CU (SSig×Bool):=cCons (uAgg cSSigF) (q1 uB)
def cSHyperF:CV SHyper:=cIso (cCons (cInt .i64) (cCons (cFsl 9) (cCons (cFsl 9) (cCons cStr (cCons (cInt .i64) (cCons (cFsl 9) (cCons (cFsl 9) cNil))))))) (fun p=>⟨⟨p.1,p.2.1,p.2.2.1⟩,p.2.2.2.1,⟨p.2.2.2.2.1,p.2.2.2.2.2.1,p.2.2.2.2.2.2.1⟩⟩) (fun s=>(s.fTop.fLeaf,s.fTop.fOnce,s.fTop.fPath,s.fRoot,s.fLow.fLeaf,s.fLow.fOnce,s.fLow.fPath,())) (fun _=>rfl)
def cv87:CU (SHyper×Bool):=cCons (uAgg cSHyperF) (q1 uB)
def cSSig:CV SSig:=cIso (cCons (cInt .i64) (cCons (cRsl 9) (cCons (cRsl 9) cNil))) (fun p=>⟨p.1,p.2.1,p.2.2.1⟩) (fun s=>(s.fLeaf,s.fOnce,s.fPath,())) (fun _=>rfl)
def cv88:CU SSig:=q1 (uAgg cSSig)
def cSHyper:CV SHyper:=cIso (cCons (cInt .i64) (cCons (cRsl 9) (cCons (cRsl 9) (cCons cStr (cCons (cInt .i64) (cCons (cRsl 9) (cCons (cRsl 9) cNil))))))) (fun p=>⟨⟨p.1,p.2.1,p.2.2.1⟩,p.2.2.2.1,⟨p.2.2.2.2.1,p.2.2.2.2.2.1,p.2.2.2.2.2.2.1⟩⟩) (fun s=>(s.fTop.fLeaf,s.fTop.fOnce,s.fTop.fPath,s.fRoot,s.fLow.fLeaf,s.fLow.fOnce,s.fLow.fPath,())) (fun _=>rfl)
def cv89:CU SHyper:=q1 (uAgg cSHyper)
def cv90:CU (SBox×SCall×SThing):=cCons (uAgg cSBox) (cCons (uAgg cSCall) (q1 (uAgg cSThing)))
def cv91:CU (List Int):=q1 (uOne (cFsl 234))
def cv92:CU (Int×Int):=cCons (uOne (cInt .u64)) (q1 uI)
def cv93:CU Int:=q1 (uOne (cInt .u64))
def cv94:CU ((List Int)×(List Int)×Int):=cCons (uOne (cRsl 234)) (cCons (uOne (cRsl 3)) (q1 (uOne (cInt .u64))))
def cv95:CU (List Int):=q1 (uOne (cRsl 234))
def cv96:CU (ByteArray×Int×Int):=cCons uS (cCons uI (q1 (uOne (cInt .u8))))
def cSStream:CV SStream:=cIso (cCons cStr (cCons (cInt .i64) cNil)) (fun p=>⟨p.1,p.2.1⟩) (fun s=>(s.fState,s.fAt,())) (fun _=>rfl)
def cv97:CU SStream:=q1 (uAgg cSStream)
def cv98:CU (SStream×Int):=cCons (uAgg cSStream) (q1 uI)
def cv99:CU (SStream×ByteArray):=cCons (uAgg cSStream) (q1 uS)
def cv100:CU (List (List Int)):=q1 (uOne (cFsl 80))
def cv101:CU (List Int):=q1 (uOne (cRsl 3))
def cv102:CU (Int×Int):=cCons uI (q1 uI)
def cv103:CU ((List Int)×Int):=cCons (uOne (cRsl 3)) (q1 uI)
def cv104:CU ((List Int)×(List Int)):=cCons (uOne (cRsl 3)) (q1 (uOne (cRsl 3)))
def cv105:CU ((List (List Int))×(List (List Int))):=cCons (uOne (cRsl 80)) (q1 (uOne (cRsl 80)))
def cSPair:CV SPair:=cIso (cCons cStr (cCons cStr cNil)) (fun p=>⟨p.1,p.2.1⟩) (fun s=>(s.fPublic,s.fSecret,())) (fun _=>rfl)
def cv106:CU (SPair×Bool):=cCons (uAgg cSPair) (q1 uB)
def cv107:CU ((List (List Int))×Bool):=cCons (uOne (cFsl 80)) (q1 uB)
def cv108:CU ((List Int)×Bool):=cCons (uOne (cFsl 3)) (q1 uB)
def cv109:CU (ByteArray×ByteArray×Bool):=cCons uS (cCons uS (q1 uB))
def cv110:CU (SThing×Bool×Bool):=cCons (uAgg cSThing) (cCons uB (q1 uB))
def cv111:CU (SDisk×(List Int)):=cCons (uAgg cSDisk) (q1 (uOne (cRsl 3)))
def cv112:CU (SDisk×(List SAct)×Int×(List Int)):=cCons (uAgg cSDisk) (cCons (uOne (cRsl 123)) (cCons uI (q1 (uOne (cRsl 3)))))
def cv113:CU ((List ByteArray)×Int):=cCons (uOne (cFsl 9)) (q1 uI)
def cv114:CU (SRec×Bool):=cCons (uAgg cSRec) (q1 uB)
def cv115:CU ((List SRec)×Int):=cCons (uOne (cFsl 47)) (q1 uI)
def cv116:CU (SLife×SRec):=cCons (uAgg cSLifeF) (q1 (uAgg cSRec))
def cv117:CU SBox:=q1 (uAgg cSBoxF)
def cv118:CU (SLife×SRec×(List Int)):=cCons (uAgg cSLifeF) (cCons (uAgg cSRec) (q1 (uOne (cRsl 3))))
def cv119:CU ((List SLive)×Int×Int):=cCons (uOne (cRsl 126)) (cCons uI (q1 uI))
def cv120:CU (List SLive):=q1 (uOne (cFsl 126))
def cv121:CU (SBox×SCall×Int×Int):=cCons (uAgg cSBox) (cCons (uAgg cSCall) (cCons uI (q1 uI)))
def cSEvent:CV SEvent:=cIso (cCons (cInt .i64) (cCons (cInt .i64) (cCons (cInt .i64) (cCons (cInt .i64) (cCons cStr (cCons cBool (cCons cBool (cCons cBool (cCons (cRsl 3) (cCons cBool cNil)))))))))) (fun p=>⟨⟨p.1,p.2.1,p.2.2.1,p.2.2.2.1,p.2.2.2.2.1,p.2.2.2.2.2.1,p.2.2.2.2.2.2.1⟩,p.2.2.2.2.2.2.2.1,p.2.2.2.2.2.2.2.2.1,p.2.2.2.2.2.2.2.2.2.1⟩) (fun s=>(s.fCall.fOp,s.fCall.fSession,s.fCall.fThing,s.fCall.fKind,s.fCall.fText,s.fCall.fHidden,s.fCall.fFixed,s.fCut,s.fLeft,s.fRise,())) (fun _=>rfl)
def cv122:CU (SLife×Int×SEvent):=cCons (uAgg cSLifeF) (cCons uI (q1 (uAgg cSEvent)))
def cv123:CU (SBook×SBook):=cCons (uAgg cSBook) (q1 (uAgg cSBook))
def cv124:CU (SBook×(List SRec)):=cCons (uAgg cSBook) (q1 (uOne (cRsl 47)))
def cv125:CU (ByteArray×SDisk):=cCons uS (q1 (uAgg cSDisk))
def cv126:CU (SBook×(List SAct)×Bool):=cCons (uAgg cSBookF) (cCons (uOne (cFsl 123)) (q1 uB))
def cSL24DrawnF:CV SL24Drawn:=cIso (cCons cStr (cCons cStr (cCons (cFsl 131) cNil))) (fun p=>⟨p.1,p.2.1,p.2.2.1⟩) (fun s=>(s.fKey,s.fWord,s.fEvents,())) (fun _=>rfl)
def cv127:CU (SL01Cur×Unit):=cCons (uAgg cSL01CurF) (q1 (uOne cCsl))
def cv128:CU (SL24Drawn×SL01Cur):=cCons (uAgg cSL24DrawnF) (q1 (uAgg cSL01CurF))
def cv129:CU SCall:=q1 (uAgg cSCall)
def cv130:CU SEvent:=q1 (uAgg cSEvent)
def cv131:CU (ByteArray×ByteArray×(List SEvent)):=cCons uS (cCons uS (q1 (uOne (cRsl 131))))
def cv132:CU (SBox×SL01Cur):=cCons (uAgg cSBoxF) (q1 (uAgg cSL01CurF))
def cv133:CU (SBox×SCall):=cCons (uAgg cSBoxF) (q1 (uAgg cSCall))
def cv134:CU (List Int):=q1 (uArr 96)
def cv135:CU (Int×Int):=cCons (uOne (cInt .u32)) (q1 uI)
def cv136:CU ((List Int)×ByteArray):=cCons (uArr 96) (q1 uS)
def cv137:CU ((List SThing)×(List SThing)):=cCons (uOne (cRsl 45)) (q1 (uOne (cRsl 45)))
def cSFields:CV SFields:=cIso (cCons cStr (cCons (cInt .i64) (cCons cBool cNil))) (fun p=>⟨p.1,p.2.1,p.2.2.1⟩) (fun s=>(s.fText,s.fAt,s.fBad,())) (fun _=>rfl)
def cv138:CU SFields:=q1 (uAgg cSFields)
def cv139:CU (Int×SFields):=cCons uI (q1 (uAgg cSFields))
def cv140:CU (ByteArray×Int×Bool):=cCons uS (cCons uI (q1 uB))
def cv141:CU (ByteArray×SFields):=cCons uS (q1 (uAgg cSFields))
def cv142:CU (SBook×SThing):=cCons (uAgg cSBookF) (q1 (uAgg cSThing))
def cv143:CU (Bool×SBook):=cCons uB (q1 (uAgg cSBookF))
def cv144:CU ((List Int)×Int):=cCons (uOne (cFsl 5)) (q1 (uOne (cInt .u64)))
def cv145:CU (List Int):=q1 (uAgg (cIso (cCons (cFsl 5) cNil) (fun p=>p.1) (fun s=>(s,())) (fun _=>rfl)))
def cv146:CU ((List Int)×Int×Int×Bool×Bool):=cCons (uOne (cFsl 5)) (cCons (uOne (cInt .u64)) (cCons uI (cCons uB (q1 uB))))
def cv147:CU ((List Int)×ByteArray):=cCons (uOne (cFsl 5)) (q1 uS)
def cv148:CU ((List ByteArray)×Int×Nat×Nat):=cCons (uOne (cRsl 9)) (cCons uI (cCons (uOne cFn) (q1 (uOne cFn))))
def cv149:CU (List Int):=q1 (uArr 234)
def cv150:CU (List (List Int)):=q1 (uOne (cRsl 80))
def cv151:CU ((List Int)×(List Int)×Nat):=cCons (uOne (cRsl 3)) (cCons (uOne (cRsl 3)) (q1 (uOne cFn)))
def cv152:CU ((List SRec)×(List SRec)):=cCons (uOne (cRsl 47)) (q1 (uOne (cRsl 47)))
def cv153:CU (ByteArray×ByteArray×ByteArray):=cCons uS (cCons uS (q1 uS))
def cv154:CU (ByteArray×Bool×(List SFile)×ByteArray×Int×Unit×Int×ByteArray×Int×Unit×Unit×Int):=q1 (uAgg (cCons cStr (cCons cBool (cCons (cRsl 116) (cCons cStr (cCons (cInt .i64) (cCons cAny (cCons (cInt .i64) (cCons cStr (cCons (cInt .i64) (cCons cAny (cCons cAny (q1 (cInt .i64))))))))))))))
end Go.Proofs.YtpjfloaghpgpdaaGreatDoor.G

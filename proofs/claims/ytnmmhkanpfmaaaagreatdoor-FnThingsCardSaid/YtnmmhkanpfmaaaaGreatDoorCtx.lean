/- The seat's tables: its types, what an element of each is, and what its functions do with what they are given. -/
import Derived.Test.YtnmmhkanpfmaaaaGreatDoorSnd38
import Derived.Test.YtnmmhkanpfmaaaaGreatDoorArr
import Derived.Test.YtnmmhkanpfmaaaaGreatDoorProg
import Derived.KernelRfl
namespace Go.Proofs.YtnmmhkanpfmaaaaGreatDoor.G
open Go Go.Ev
structure SThing where
  fId:Int
  fKind:Int
  fHidden:Bool
  fFixed:Bool
  fSigns:Bool
  fWraps:Bool
  fValue:ByteArray
  fNext:Int
structure SCall where
  fOp:Int
  fSession:Int
  fThing:Int
  fKind:Int
  fText:ByteArray
  fHidden:Bool
  fFixed:Bool
structure SEvent where
  fCall:SCall
  fCut:Bool
  fLeft:(List Int)
  fRise:Bool
structure SFile where
  fName:ByteArray
  fText:ByteArray
  fKept:Int
structure SDisk where
  fFiles:(List SFile)
structure SBook where
  fWord:ByteArray
  fTries:Int
  fThings:(List SThing)
  fLast:Int
  fChain:ByteArray
  fCount:Int
structure SSession where
  fId:Int
  fIn:Bool
structure SLive where
  fId:Int
  fNext:Int
structure SBox where
  fKey:ByteArray
  fUp:Bool
  fDisk:SDisk
  fBook:SBook
  fSessions:(List SSession)
  fLives:(List SLive)
  fOpened:Int
structure SGiven where
  fThing:Int
  fLeaf:Int
  fWhen:Int
structure SRec where
  fKind:Int
  fText:ByteArray
  fNum:Int
  fThing:SThing
structure SLife where
  fBox:SBox
  fCodes:(List Int)
  fReplies:(List ByteArray)
  fGives:(List SGiven)
  fDone:(List SRec)
structure SPair where
  fPublic:ByteArray
  fSecret:ByteArray
structure SFields where
  fText:ByteArray
  fAt:Int
  fBad:Bool
structure SL19Cur where
  fText:ByteArray
  fAt:Int
  fBad:Bool
structure SHasher where
  fState:ByteArray
  fRest:ByteArray
  fCount:Int
structure SL01Cur where
  fB:Unit
  fI:Int
  fH:Int
structure SStream where
  fState:ByteArray
  fAt:Int
structure SAct where
  fKind:Int
  fName:ByteArray
  fText:ByteArray
  fTo:ByteArray
structure SSig where
  fLeaf:Int
  fOnce:(List ByteArray)
  fPath:(List ByteArray)
structure SHyper where
  fTop:SSig
  fRoot:ByteArray
  fLow:SSig
def els:List (Nat×TyE):=[(2,⟨Int,0⟩),(3,⟨Int,0⟩),(4,⟨Bool,false⟩),(5,⟨Int,0⟩),(9,⟨ByteArray,⟨#[]⟩⟩),(23,⟨SThing,⟨0,0,false,false,false,false,⟨#[]⟩,0⟩⟩),(26,⟨SThing,⟨0,0,false,false,false,false,⟨#[]⟩,0⟩⟩),(29,⟨(List Int),[]⟩),(38,⟨(List Int),[]⟩),(43,⟨SCall,⟨0,0,0,0,⟨#[]⟩,false,false⟩⟩),(45,⟨SEvent,⟨⟨0,0,0,0,⟨#[]⟩,false,false⟩,false,[],false⟩⟩),(46,⟨(List SEvent),[]⟩),(47,⟨(List SFile),[]⟩),(49,⟨SDisk,⟨[]⟩⟩),(50,⟨(List SThing),[]⟩),(52,⟨SBook,⟨⟨#[]⟩,0,[],0,⟨#[]⟩,0⟩⟩),(53,⟨(List SSession),[]⟩),(54,⟨(List SLive),[]⟩),(56,⟨SBox,⟨⟨#[]⟩,false,⟨[]⟩,⟨⟨#[]⟩,0,[],0,⟨#[]⟩,0⟩,[],[],0⟩⟩),(57,⟨(List ByteArray),[]⟩),(58,⟨(List SGiven),[]⟩),(59,⟨(List SRec),[]⟩),(61,⟨SLife,⟨⟨⟨#[]⟩,false,⟨[]⟩,⟨⟨#[]⟩,0,[],0,⟨#[]⟩,0⟩,[],[],0⟩,[],[],[],[]⟩⟩),(65,⟨SGiven,⟨0,0,0⟩⟩),(68,⟨SPair,⟨⟨#[]⟩,⟨#[]⟩⟩⟩),(72,⟨Bool,false⟩),(75,⟨Bool,false⟩),(77,⟨SFields,⟨⟨#[]⟩,0,false⟩⟩),(82,⟨Bool,false⟩),(84,⟨SL19Cur,⟨⟨#[]⟩,0,false⟩⟩),(91,⟨SHasher,⟨⟨#[]⟩,⟨#[]⟩,0⟩⟩),(99,⟨SRec,⟨0,⟨#[]⟩,0,⟨0,0,false,false,false,false,⟨#[]⟩,0⟩⟩⟩),(101,⟨(List (List Int)),[]⟩),(114,⟨Bools 3,boolsZ 3⟩),(115,⟨(List Bool),[]⟩),(123,⟨Int,0⟩),(125,⟨(List Int),[]⟩),(133,⟨Int,0⟩),(134,⟨Bools 8,boolsZ 8⟩),(139,⟨Bool,false⟩),(161,⟨Bool,false⟩),(162,⟨(List SAct),[]⟩),(176,⟨SSession,⟨0,false⟩⟩),(186,⟨SLive,⟨0,0⟩⟩),(189,⟨SStream,⟨⟨#[]⟩,0⟩⟩),(201,⟨SAct,⟨0,⟨#[]⟩,⟨#[]⟩,⟨#[]⟩⟩⟩),(207,⟨Bools 64,boolsZ 64⟩),(223,⟨SFile,⟨⟨#[]⟩,⟨#[]⟩,0⟩⟩),(238,⟨Bool,false⟩),(242,⟨SSig,⟨0,[],[]⟩⟩),(244,⟨SHyper,⟨⟨0,[],[]⟩,⟨#[]⟩,⟨0,[],[]⟩⟩⟩),(250,⟨Bool,false⟩),(251,⟨(List Int),[]⟩),(253,⟨Int,0⟩),(257,⟨Bools 25,boolsZ 25⟩),(262,⟨Bool,false⟩),(277,⟨Bools 24,boolsZ 24⟩),(291,⟨Bools 5,boolsZ 5⟩)]
def tis:List (Nat×TI):=[(2,⟨1,8,.int .i64⟩),(3,⟨1,8,.int .i64⟩),(4,⟨1,1,.bool⟩),(5,⟨1,1,.int .u8⟩),(9,⟨1,16,.str⟩),(23,⟨8,48,.st [(3,0),(3,1),(4,2),(4,3),(4,4),(4,5),(9,6),(3,7)]⟩),(26,⟨8,48,.st [(3,0),(3,1),(4,2),(4,3),(4,4),(4,5),(9,6),(3,7)]⟩),(29,⟨1,24,.sl 5⟩),(38,⟨1,24,.sl 3⟩),(43,⟨7,56,.st [(3,0),(3,1),(3,2),(3,3),(9,4),(4,5),(4,6)]⟩),(45,⟨10,96,.st [(43,0),(4,7),(38,8),(4,9)]⟩),(46,⟨1,24,.sl 45⟩),(47,⟨1,24,.sl 223⟩),(49,⟨1,24,.st [(47,0)]⟩),(50,⟨1,24,.sl 26⟩),(52,⟨6,80,.st [(9,0),(3,1),(50,2),(3,3),(9,4),(3,5)]⟩),(53,⟨1,24,.sl 176⟩),(54,⟨1,24,.sl 186⟩),(56,⟨12,184,.st [(9,0),(4,1),(49,2),(52,3),(53,9),(54,10),(3,11)]⟩),(57,⟨1,24,.sl 9⟩),(58,⟨1,24,.sl 65⟩),(59,⟨1,24,.sl 99⟩),(61,⟨16,280,.st [(56,0),(38,12),(57,13),(58,14),(59,15)]⟩),(65,⟨3,24,.st [(3,0),(3,1),(3,2)]⟩),(68,⟨2,32,.st [(9,0),(9,1)]⟩),(72,⟨1,8,.ptr 114⟩),(75,⟨1,8,.ptr 77⟩),(77,⟨3,32,.st [(9,0),(3,1),(4,2)]⟩),(82,⟨1,8,.ptr 84⟩),(84,⟨3,32,.st [(9,0),(3,1),(4,2)]⟩),(91,⟨3,40,.st [(9,0),(9,1),(3,2)]⟩),(99,⟨11,80,.st [(3,0),(9,1),(3,2),(26,3)]⟩),(101,⟨1,24,.sl 38⟩),(114,⟨3,40,.st [(29,0),(3,1),(3,2)]⟩),(115,⟨1,24,.sl 4⟩),(123,⟨1,8,.int .u64⟩),(125,⟨1,24,.sl 133⟩),(133,⟨1,4,.int .u32⟩),(134,⟨8,32,.arr 8 133⟩),(139,⟨1,8,.ptr 61⟩),(161,⟨1,8,.ptr 56⟩),(162,⟨1,24,.sl 201⟩),(176,⟨2,16,.st [(3,0),(4,1)]⟩),(186,⟨2,16,.st [(3,0),(3,1)]⟩),(189,⟨2,24,.st [(9,0),(3,1)]⟩),(201,⟨4,56,.st [(3,0),(9,1),(9,2),(9,3)]⟩),(207,⟨64,256,.arr 64 133⟩),(223,⟨3,40,.st [(9,0),(9,1),(3,2)]⟩),(238,⟨1,8,.ptr 52⟩),(242,⟨3,56,.st [(3,0),(57,1),(57,2)]⟩),(244,⟨7,128,.st [(242,0),(9,3),(242,4)]⟩),(250,⟨1,8,.ptr 223⟩),(251,⟨1,24,.sl 253⟩),(253,⟨1,8,.int .u64⟩),(257,⟨25,200,.arr 25 253⟩),(262,⟨1,8,.ptr 49⟩),(277,⟨24,24,.arr 24 5⟩),(291,⟨5,40,.arr 5 253⟩)]
def ent2:Ent (ElOf els):=⟨2,{ sh:=[.int .i64],enc:=fun (x:Int)=>[.int .i64 x],dec:=fun cs=>(cs.getD 0 .junk).toInt,z:=(0:Int),int?:=some ⟨rfl⟩ }⟩
def ent3:Ent (ElOf els):=⟨3,{ sh:=[.int .i64],enc:=fun (x:Int)=>[.int .i64 x],dec:=fun cs=>(cs.getD 0 .junk).toInt,z:=(0:Int),int?:=some ⟨rfl⟩ }⟩
def ent4:Ent (ElOf els):=⟨4,{ sh:=[.bool],enc:=fun (x:Bool)=>[.bool x],dec:=fun cs=>(cs.getD 0 .junk).toBool,z:=false,int?:=none }⟩
def ent5:Ent (ElOf els):=⟨5,{ sh:=[.int .u8],enc:=fun (x:Int)=>[.int .u8 x],dec:=fun cs=>(cs.getD 0 .junk).toInt,z:=(0:Int),int?:=some ⟨rfl⟩ }⟩
def ent9:Ent (ElOf els):=⟨9,{ sh:=[.str],enc:=fun (x:ByteArray)=>[.str x],dec:=fun cs=>(cs.getD 0 .junk).toStr,z:=(⟨#[]⟩:ByteArray),int?:=none }⟩
def ent23:Ent (ElOf els):=⟨23,{ sh:=[.int .i64,.int .i64,.bool,.bool,.bool,.bool,.str,.int .i64],enc:=fun (x:SThing)=>[.int .i64 x.fId,.int .i64 x.fKind,.bool x.fHidden,.bool x.fFixed,.bool x.fSigns,.bool x.fWraps,.str x.fValue,.int .i64 x.fNext],dec:=fun cs=>⟨(cs.getD 0 .junk).toInt,(cs.getD 1 .junk).toInt,(cs.getD 2 .junk).toBool,(cs.getD 3 .junk).toBool,(cs.getD 4 .junk).toBool,(cs.getD 5 .junk).toBool,(cs.getD 6 .junk).toStr,(cs.getD 7 .junk).toInt⟩,z:=(⟨0,0,false,false,false,false,⟨#[]⟩,0⟩:SThing),int?:=none }⟩
def ent26:Ent (ElOf els):=⟨26,{ sh:=[.int .i64,.int .i64,.bool,.bool,.bool,.bool,.str,.int .i64],enc:=fun (x:SThing)=>[.int .i64 x.fId,.int .i64 x.fKind,.bool x.fHidden,.bool x.fFixed,.bool x.fSigns,.bool x.fWraps,.str x.fValue,.int .i64 x.fNext],dec:=fun cs=>⟨(cs.getD 0 .junk).toInt,(cs.getD 1 .junk).toInt,(cs.getD 2 .junk).toBool,(cs.getD 3 .junk).toBool,(cs.getD 4 .junk).toBool,(cs.getD 5 .junk).toBool,(cs.getD 6 .junk).toStr,(cs.getD 7 .junk).toInt⟩,z:=(⟨0,0,false,false,false,false,⟨#[]⟩,0⟩:SThing),int?:=none }⟩
def ent29:Ent (ElOf els):=⟨29,{ sh:=[.sl 5],enc:=fun (x:(List Int))=>[.rsl 5 x],dec:=fun cs=>(L.toSl 5 (cs.getD 0 .junk)),z:=[],int?:=none }⟩
def ent38:Ent (ElOf els):=⟨38,{ sh:=[.sl 3],enc:=fun (x:(List Int))=>[.rsl 3 x],dec:=fun cs=>(L.toSl 3 (cs.getD 0 .junk)),z:=[],int?:=none }⟩
def ent43:Ent (ElOf els):=⟨43,{ sh:=[.int .i64,.int .i64,.int .i64,.int .i64,.str,.bool,.bool],enc:=fun (x:SCall)=>[.int .i64 x.fOp,.int .i64 x.fSession,.int .i64 x.fThing,.int .i64 x.fKind,.str x.fText,.bool x.fHidden,.bool x.fFixed],dec:=fun cs=>⟨(cs.getD 0 .junk).toInt,(cs.getD 1 .junk).toInt,(cs.getD 2 .junk).toInt,(cs.getD 3 .junk).toInt,(cs.getD 4 .junk).toStr,(cs.getD 5 .junk).toBool,(cs.getD 6 .junk).toBool⟩,z:=(⟨0,0,0,0,⟨#[]⟩,false,false⟩:SCall),int?:=none }⟩
def ent45:Ent (ElOf els):=⟨45,{ sh:=[.int .i64,.int .i64,.int .i64,.int .i64,.str,.bool,.bool,.bool,.sl 3,.bool],enc:=fun (x:SEvent)=>[.int .i64 x.fCall.fOp,.int .i64 x.fCall.fSession,.int .i64 x.fCall.fThing,.int .i64 x.fCall.fKind,.str x.fCall.fText,.bool x.fCall.fHidden,.bool x.fCall.fFixed,.bool x.fCut,.rsl 3 x.fLeft,.bool x.fRise],dec:=fun cs=>⟨⟨(cs.getD 0 .junk).toInt,(cs.getD 1 .junk).toInt,(cs.getD 2 .junk).toInt,(cs.getD 3 .junk).toInt,(cs.getD 4 .junk).toStr,(cs.getD 5 .junk).toBool,(cs.getD 6 .junk).toBool⟩,(cs.getD 7 .junk).toBool,(L.toSl 3 (cs.getD 8 .junk)),(cs.getD 9 .junk).toBool⟩,z:=(⟨⟨0,0,0,0,⟨#[]⟩,false,false⟩,false,[],false⟩:SEvent),int?:=none }⟩
def ent46:Ent (ElOf els):=⟨46,{ sh:=[.sl 45],enc:=fun (x:(List SEvent))=>[.rsl 45 x],dec:=fun cs=>(L.toSl 45 (cs.getD 0 .junk)),z:=[],int?:=none }⟩
def ent47:Ent (ElOf els):=⟨47,{ sh:=[.sl 223],enc:=fun (x:(List SFile))=>[.rsl 223 x],dec:=fun cs=>(L.toSl 223 (cs.getD 0 .junk)),z:=[],int?:=none }⟩
def ent49:Ent (ElOf els):=⟨49,{ sh:=[.sl 223],enc:=fun (x:SDisk)=>[.rsl 223 x.fFiles],dec:=fun cs=>⟨(L.toSl 223 (cs.getD 0 .junk))⟩,z:=(⟨[]⟩:SDisk),int?:=none }⟩
def ent50:Ent (ElOf els):=⟨50,{ sh:=[.sl 26],enc:=fun (x:(List SThing))=>[.rsl 26 x],dec:=fun cs=>(L.toSl 26 (cs.getD 0 .junk)),z:=[],int?:=none }⟩
def ent52:Ent (ElOf els):=⟨52,{ sh:=[.str,.int .i64,.sl 26,.int .i64,.str,.int .i64],enc:=fun (x:SBook)=>[.str x.fWord,.int .i64 x.fTries,.rsl 26 x.fThings,.int .i64 x.fLast,.str x.fChain,.int .i64 x.fCount],dec:=fun cs=>⟨(cs.getD 0 .junk).toStr,(cs.getD 1 .junk).toInt,(L.toSl 26 (cs.getD 2 .junk)),(cs.getD 3 .junk).toInt,(cs.getD 4 .junk).toStr,(cs.getD 5 .junk).toInt⟩,z:=(⟨⟨#[]⟩,0,[],0,⟨#[]⟩,0⟩:SBook),int?:=none }⟩
def ent53:Ent (ElOf els):=⟨53,{ sh:=[.sl 176],enc:=fun (x:(List SSession))=>[.rsl 176 x],dec:=fun cs=>(L.toSl 176 (cs.getD 0 .junk)),z:=[],int?:=none }⟩
def ent54:Ent (ElOf els):=⟨54,{ sh:=[.sl 186],enc:=fun (x:(List SLive))=>[.rsl 186 x],dec:=fun cs=>(L.toSl 186 (cs.getD 0 .junk)),z:=[],int?:=none }⟩
def ent56:Ent (ElOf els):=⟨56,{ sh:=[.str,.bool,.sl 223,.str,.int .i64,.sl 26,.int .i64,.str,.int .i64,.sl 176,.sl 186,.int .i64],enc:=fun (x:SBox)=>[.str x.fKey,.bool x.fUp,.rsl 223 x.fDisk.fFiles,.str x.fBook.fWord,.int .i64 x.fBook.fTries,.rsl 26 x.fBook.fThings,.int .i64 x.fBook.fLast,.str x.fBook.fChain,.int .i64 x.fBook.fCount,.rsl 176 x.fSessions,.rsl 186 x.fLives,.int .i64 x.fOpened],dec:=fun cs=>⟨(cs.getD 0 .junk).toStr,(cs.getD 1 .junk).toBool,⟨(L.toSl 223 (cs.getD 2 .junk))⟩,⟨(cs.getD 3 .junk).toStr,(cs.getD 4 .junk).toInt,(L.toSl 26 (cs.getD 5 .junk)),(cs.getD 6 .junk).toInt,(cs.getD 7 .junk).toStr,(cs.getD 8 .junk).toInt⟩,(L.toSl 176 (cs.getD 9 .junk)),(L.toSl 186 (cs.getD 10 .junk)),(cs.getD 11 .junk).toInt⟩,z:=(⟨⟨#[]⟩,false,⟨[]⟩,⟨⟨#[]⟩,0,[],0,⟨#[]⟩,0⟩,[],[],0⟩:SBox),int?:=none }⟩
def ent57:Ent (ElOf els):=⟨57,{ sh:=[.sl 9],enc:=fun (x:(List ByteArray))=>[.rsl 9 x],dec:=fun cs=>(L.toSl 9 (cs.getD 0 .junk)),z:=[],int?:=none }⟩
def ent58:Ent (ElOf els):=⟨58,{ sh:=[.sl 65],enc:=fun (x:(List SGiven))=>[.rsl 65 x],dec:=fun cs=>(L.toSl 65 (cs.getD 0 .junk)),z:=[],int?:=none }⟩
def ent59:Ent (ElOf els):=⟨59,{ sh:=[.sl 99],enc:=fun (x:(List SRec))=>[.rsl 99 x],dec:=fun cs=>(L.toSl 99 (cs.getD 0 .junk)),z:=[],int?:=none }⟩
def ent61:Ent (ElOf els):=⟨61,{ sh:=[.str,.bool,.sl 223,.str,.int .i64,.sl 26,.int .i64,.str,.int .i64,.sl 176,.sl 186,.int .i64,.sl 3,.sl 9,.sl 65,.sl 99],enc:=fun (x:SLife)=>[.str x.fBox.fKey,.bool x.fBox.fUp,.rsl 223 x.fBox.fDisk.fFiles,.str x.fBox.fBook.fWord,.int .i64 x.fBox.fBook.fTries,.rsl 26 x.fBox.fBook.fThings,.int .i64 x.fBox.fBook.fLast,.str x.fBox.fBook.fChain,.int .i64 x.fBox.fBook.fCount,.rsl 176 x.fBox.fSessions,.rsl 186 x.fBox.fLives,.int .i64 x.fBox.fOpened,.rsl 3 x.fCodes,.rsl 9 x.fReplies,.rsl 65 x.fGives,.rsl 99 x.fDone],dec:=fun cs=>⟨⟨(cs.getD 0 .junk).toStr,(cs.getD 1 .junk).toBool,⟨(L.toSl 223 (cs.getD 2 .junk))⟩,⟨(cs.getD 3 .junk).toStr,(cs.getD 4 .junk).toInt,(L.toSl 26 (cs.getD 5 .junk)),(cs.getD 6 .junk).toInt,(cs.getD 7 .junk).toStr,(cs.getD 8 .junk).toInt⟩,(L.toSl 176 (cs.getD 9 .junk)),(L.toSl 186 (cs.getD 10 .junk)),(cs.getD 11 .junk).toInt⟩,(L.toSl 3 (cs.getD 12 .junk)),(L.toSl 9 (cs.getD 13 .junk)),(L.toSl 65 (cs.getD 14 .junk)),(L.toSl 99 (cs.getD 15 .junk))⟩,z:=(⟨⟨⟨#[]⟩,false,⟨[]⟩,⟨⟨#[]⟩,0,[],0,⟨#[]⟩,0⟩,[],[],0⟩,[],[],[],[]⟩:SLife),int?:=none }⟩
def ent65:Ent (ElOf els):=⟨65,{ sh:=[.int .i64,.int .i64,.int .i64],enc:=fun (x:SGiven)=>[.int .i64 x.fThing,.int .i64 x.fLeaf,.int .i64 x.fWhen],dec:=fun cs=>⟨(cs.getD 0 .junk).toInt,(cs.getD 1 .junk).toInt,(cs.getD 2 .junk).toInt⟩,z:=(⟨0,0,0⟩:SGiven),int?:=none }⟩
def ent68:Ent (ElOf els):=⟨68,{ sh:=[.str,.str],enc:=fun (x:SPair)=>[.str x.fPublic,.str x.fSecret],dec:=fun cs=>⟨(cs.getD 0 .junk).toStr,(cs.getD 1 .junk).toStr⟩,z:=(⟨⟨#[]⟩,⟨#[]⟩⟩:SPair),int?:=none }⟩
def ent72:Ent (ElOf els):=⟨72,{ sh:=[.bool],enc:=fun (x:Bool)=>[.bool x],dec:=fun cs=>(cs.getD 0 .junk).toBool,z:=false,int?:=none }⟩
def ent75:Ent (ElOf els):=⟨75,{ sh:=[.bool],enc:=fun (x:Bool)=>[.bool x],dec:=fun cs=>(cs.getD 0 .junk).toBool,z:=false,int?:=none }⟩
def ent77:Ent (ElOf els):=⟨77,{ sh:=[.str,.int .i64,.bool],enc:=fun (x:SFields)=>[.str x.fText,.int .i64 x.fAt,.bool x.fBad],dec:=fun cs=>⟨(cs.getD 0 .junk).toStr,(cs.getD 1 .junk).toInt,(cs.getD 2 .junk).toBool⟩,z:=(⟨⟨#[]⟩,0,false⟩:SFields),int?:=none }⟩
def ent82:Ent (ElOf els):=⟨82,{ sh:=[.bool],enc:=fun (x:Bool)=>[.bool x],dec:=fun cs=>(cs.getD 0 .junk).toBool,z:=false,int?:=none }⟩
def ent84:Ent (ElOf els):=⟨84,{ sh:=[.str,.int .i64,.bool],enc:=fun (x:SL19Cur)=>[.str x.fText,.int .i64 x.fAt,.bool x.fBad],dec:=fun cs=>⟨(cs.getD 0 .junk).toStr,(cs.getD 1 .junk).toInt,(cs.getD 2 .junk).toBool⟩,z:=(⟨⟨#[]⟩,0,false⟩:SL19Cur),int?:=none }⟩
def ent91:Ent (ElOf els):=⟨91,{ sh:=[.str,.str,.int .i64],enc:=fun (x:SHasher)=>[.str x.fState,.str x.fRest,.int .i64 x.fCount],dec:=fun cs=>⟨(cs.getD 0 .junk).toStr,(cs.getD 1 .junk).toStr,(cs.getD 2 .junk).toInt⟩,z:=(⟨⟨#[]⟩,⟨#[]⟩,0⟩:SHasher),int?:=none }⟩
def ent99:Ent (ElOf els):=⟨99,{ sh:=[.int .i64,.str,.int .i64,.int .i64,.int .i64,.bool,.bool,.bool,.bool,.str,.int .i64],enc:=fun (x:SRec)=>[.int .i64 x.fKind,.str x.fText,.int .i64 x.fNum,.int .i64 x.fThing.fId,.int .i64 x.fThing.fKind,.bool x.fThing.fHidden,.bool x.fThing.fFixed,.bool x.fThing.fSigns,.bool x.fThing.fWraps,.str x.fThing.fValue,.int .i64 x.fThing.fNext],dec:=fun cs=>⟨(cs.getD 0 .junk).toInt,(cs.getD 1 .junk).toStr,(cs.getD 2 .junk).toInt,⟨(cs.getD 3 .junk).toInt,(cs.getD 4 .junk).toInt,(cs.getD 5 .junk).toBool,(cs.getD 6 .junk).toBool,(cs.getD 7 .junk).toBool,(cs.getD 8 .junk).toBool,(cs.getD 9 .junk).toStr,(cs.getD 10 .junk).toInt⟩⟩,z:=(⟨0,⟨#[]⟩,0,⟨0,0,false,false,false,false,⟨#[]⟩,0⟩⟩:SRec),int?:=none }⟩
def ent101:Ent (ElOf els):=⟨101,{ sh:=[.sl 38],enc:=fun (x:(List (List Int)))=>[.rsl 38 x],dec:=fun cs=>(L.toSl 38 (cs.getD 0 .junk)),z:=[],int?:=none }⟩
def ent114:Ent (ElOf els):=⟨114,codBools 3 (fun x=>x) (fun x=>x)⟩
def ent115:Ent (ElOf els):=⟨115,{ sh:=[.sl 4],enc:=fun (x:(List Bool))=>[.rsl 4 x],dec:=fun cs=>(L.toSl 4 (cs.getD 0 .junk)),z:=[],int?:=none }⟩
def ent123:Ent (ElOf els):=⟨123,{ sh:=[.int .u64],enc:=fun (x:Int)=>[.int .u64 x],dec:=fun cs=>(cs.getD 0 .junk).toInt,z:=(0:Int),int?:=some ⟨rfl⟩ }⟩
def ent125:Ent (ElOf els):=⟨125,{ sh:=[.sl 133],enc:=fun (x:(List Int))=>[.rsl 133 x],dec:=fun cs=>(L.toSl 133 (cs.getD 0 .junk)),z:=[],int?:=none }⟩
def ent133:Ent (ElOf els):=⟨133,{ sh:=[.int .u32],enc:=fun (x:Int)=>[.int .u32 x],dec:=fun cs=>(cs.getD 0 .junk).toInt,z:=(0:Int),int?:=some ⟨rfl⟩ }⟩
def ent134:Ent (ElOf els):=⟨134,codBools 8 (fun x=>x) (fun x=>x)⟩
def ent139:Ent (ElOf els):=⟨139,{ sh:=[.bool],enc:=fun (x:Bool)=>[.bool x],dec:=fun cs=>(cs.getD 0 .junk).toBool,z:=false,int?:=none }⟩
def ent161:Ent (ElOf els):=⟨161,{ sh:=[.bool],enc:=fun (x:Bool)=>[.bool x],dec:=fun cs=>(cs.getD 0 .junk).toBool,z:=false,int?:=none }⟩
def ent162:Ent (ElOf els):=⟨162,{ sh:=[.sl 201],enc:=fun (x:(List SAct))=>[.rsl 201 x],dec:=fun cs=>(L.toSl 201 (cs.getD 0 .junk)),z:=[],int?:=none }⟩
def ent176:Ent (ElOf els):=⟨176,{ sh:=[.int .i64,.bool],enc:=fun (x:SSession)=>[.int .i64 x.fId,.bool x.fIn],dec:=fun cs=>⟨(cs.getD 0 .junk).toInt,(cs.getD 1 .junk).toBool⟩,z:=(⟨0,false⟩:SSession),int?:=none }⟩
def ent186:Ent (ElOf els):=⟨186,{ sh:=[.int .i64,.int .i64],enc:=fun (x:SLive)=>[.int .i64 x.fId,.int .i64 x.fNext],dec:=fun cs=>⟨(cs.getD 0 .junk).toInt,(cs.getD 1 .junk).toInt⟩,z:=(⟨0,0⟩:SLive),int?:=none }⟩
def ent189:Ent (ElOf els):=⟨189,{ sh:=[.str,.int .i64],enc:=fun (x:SStream)=>[.str x.fState,.int .i64 x.fAt],dec:=fun cs=>⟨(cs.getD 0 .junk).toStr,(cs.getD 1 .junk).toInt⟩,z:=(⟨⟨#[]⟩,0⟩:SStream),int?:=none }⟩
def ent201:Ent (ElOf els):=⟨201,{ sh:=[.int .i64,.str,.str,.str],enc:=fun (x:SAct)=>[.int .i64 x.fKind,.str x.fName,.str x.fText,.str x.fTo],dec:=fun cs=>⟨(cs.getD 0 .junk).toInt,(cs.getD 1 .junk).toStr,(cs.getD 2 .junk).toStr,(cs.getD 3 .junk).toStr⟩,z:=(⟨0,⟨#[]⟩,⟨#[]⟩,⟨#[]⟩⟩:SAct),int?:=none }⟩
def ent207:Ent (ElOf els):=⟨207,codBools 64 (fun x=>x) (fun x=>x)⟩
def ent223:Ent (ElOf els):=⟨223,{ sh:=[.str,.str,.int .i64],enc:=fun (x:SFile)=>[.str x.fName,.str x.fText,.int .i64 x.fKept],dec:=fun cs=>⟨(cs.getD 0 .junk).toStr,(cs.getD 1 .junk).toStr,(cs.getD 2 .junk).toInt⟩,z:=(⟨⟨#[]⟩,⟨#[]⟩,0⟩:SFile),int?:=none }⟩
def ent238:Ent (ElOf els):=⟨238,{ sh:=[.bool],enc:=fun (x:Bool)=>[.bool x],dec:=fun cs=>(cs.getD 0 .junk).toBool,z:=false,int?:=none }⟩
def ent242:Ent (ElOf els):=⟨242,{ sh:=[.int .i64,.sl 9,.sl 9],enc:=fun (x:SSig)=>[.int .i64 x.fLeaf,.rsl 9 x.fOnce,.rsl 9 x.fPath],dec:=fun cs=>⟨(cs.getD 0 .junk).toInt,(L.toSl 9 (cs.getD 1 .junk)),(L.toSl 9 (cs.getD 2 .junk))⟩,z:=(⟨0,[],[]⟩:SSig),int?:=none }⟩
def ent244:Ent (ElOf els):=⟨244,{ sh:=[.int .i64,.sl 9,.sl 9,.str,.int .i64,.sl 9,.sl 9],enc:=fun (x:SHyper)=>[.int .i64 x.fTop.fLeaf,.rsl 9 x.fTop.fOnce,.rsl 9 x.fTop.fPath,.str x.fRoot,.int .i64 x.fLow.fLeaf,.rsl 9 x.fLow.fOnce,.rsl 9 x.fLow.fPath],dec:=fun cs=>⟨⟨(cs.getD 0 .junk).toInt,(L.toSl 9 (cs.getD 1 .junk)),(L.toSl 9 (cs.getD 2 .junk))⟩,(cs.getD 3 .junk).toStr,⟨(cs.getD 4 .junk).toInt,(L.toSl 9 (cs.getD 5 .junk)),(L.toSl 9 (cs.getD 6 .junk))⟩⟩,z:=(⟨⟨0,[],[]⟩,⟨#[]⟩,⟨0,[],[]⟩⟩:SHyper),int?:=none }⟩
def ent250:Ent (ElOf els):=⟨250,{ sh:=[.bool],enc:=fun (x:Bool)=>[.bool x],dec:=fun cs=>(cs.getD 0 .junk).toBool,z:=false,int?:=none }⟩
def ent251:Ent (ElOf els):=⟨251,{ sh:=[.sl 253],enc:=fun (x:(List Int))=>[.rsl 253 x],dec:=fun cs=>(L.toSl 253 (cs.getD 0 .junk)),z:=[],int?:=none }⟩
def ent253:Ent (ElOf els):=⟨253,{ sh:=[.int .u64],enc:=fun (x:Int)=>[.int .u64 x],dec:=fun cs=>(cs.getD 0 .junk).toInt,z:=(0:Int),int?:=some ⟨rfl⟩ }⟩
def ent257:Ent (ElOf els):=⟨257,codBools 25 (fun x=>x) (fun x=>x)⟩
def ent262:Ent (ElOf els):=⟨262,{ sh:=[.bool],enc:=fun (x:Bool)=>[.bool x],dec:=fun cs=>(cs.getD 0 .junk).toBool,z:=false,int?:=none }⟩
def ent277:Ent (ElOf els):=⟨277,codBools 24 (fun x=>x) (fun x=>x)⟩
def ent291:Ent (ElOf els):=⟨291,codBools 5 (fun x=>x) (fun x=>x)⟩
def ents:List (Ent (ElOf els)):=[ent2,ent3,ent4,ent5,ent9,ent23,ent26,ent29,ent38,ent43,ent45,ent46,ent47,ent49,ent50,ent52,ent53,ent54,ent56,ent57,ent58,ent59,ent61,ent65,ent68,ent72,ent75,ent77,ent82,ent84,ent91,ent99,ent101,ent114,ent115,ent123,ent125,ent133,ent134,ent139,ent161,ent162,ent176,ent186,ent189,ent201,ent207,ent223,ent238,ent242,ent244,ent250,ent251,ent253,ent257,ent262,ent277,ent291]
def modes:List (Nat×List Mode'):=[(221,[.mv]),(246,[.io,.rd]),(247,[.mv,.rd,.rd,.rd,.rd])]
def cuts:List (Nat×List (Nat×(List Nat×List Nat×List (Nat×Nat)×List (Nat×Nat×Nat)))):=[(83,[(3,([0,3,4],[],[(0,133),(3,5)],[]))]),
  (80,[(3,([0,3,4],[],[(3,133)],[]))]),
  (82,[(3,([0,1,7,8],[],[(0,133),(1,133),(7,133)],[])),(8,([0,1,7,9,10],[],[(0,133),(1,133),(7,133),(9,133)],[])),(16,([0,1,7,9,10,13,15,16],[],[(0,133),(1,133),(7,133),(9,133)],[])),(23,([0,9,17,18],[],[(0,133),(9,133),(17,133)],[]))]),
  (45,[(7,([1,2,4,5,6,7,8],[128,256],[(5,133),(6,133)],[]))]),
  (44,[(5,([1,3],[64],[(3,5)],[])),(9,([1,3,4,5],[64],[(3,5)],[])),(13,([1,3,4,5,6,7],[64],[(3,5)],[])),(20,([3,8,9,10],[],[(3,5),(8,133),(9,133)],[]))]),
  (220,[(3,([0,3,4],[],[(3,253)],[])),(7,([0,3,4,5,6],[],[(3,253)],[]))]),
  (236,[(5,([1,2,3,4],[],[(1,3)],[]))]),
  (237,[(4,([1,2,3],[],[(1,253)],[])),(9,([1,2,3,4,5,6],[],[(1,253)],[]))]),
  (259,[(3,([0,1,5,6],[],[],[]))]),
  (238,[(3,([0,1,2,7,8],[],[(0,253),(1,3),(7,253)],[])),(8,([0,1,2,7,9,10],[],[(0,253),(1,3),(7,253),(9,253)],[])),(12,([0,1,2,7,9,10,11,12],[],[(0,253),(1,3),(7,253),(9,253)],[])),(17,([2,9,13,14],[],[(9,253),(13,253)],[])),(20,([2,9,13,14,15],[],[(9,253),(13,253)],[]))]),
  (221,[(4,([0,3,4,5],[],[(0,253),(3,3),(4,253)],[]))]),
  (222,[(3,([0,3,4],[],[(0,253),(3,5)],[])),(7,([0,3,4,5,6],[],[(0,253),(3,5)],[]))]),
  (193,[(3,([1,7,8],[],[(7,253),(8,5)],[])),(7,([1,7,8,9],[],[(7,253),(8,5)],[])),(11,([1,7,8,9,10,11],[],[(7,253),(8,5),(10,253)],[]))]),
  (146,[(4,([1,2,4,6],[128,256],[(6,5)],[]))]),
  (98,[(5,([7,8,9,10],[512],[(7,3)],[])),(18,([7],[],[(7,3)],[]))]),
  (53,[(3,([0,3,4],[],[(3,38)],[])),(6,([0,3,4,5],[],[(3,38)],[]))]),
  (55,[(4,([5,6,8],[],[(5,3)],[]))]),
  (99,[(4,([0,3],[],[(0,3)],[]))]),
  (101,[(6,([0,3,4],[],[],[]))]),
  (100,[(7,([0,1,5],[],[],[]))]),
  (54,[(6,([3,4,5],[],[(3,3)],[])),(9,([3,4,5,6],[],[(3,3)],[])),(14,([3,4,5,6,7,8],[],[(3,3)],[]))]),
  (147,[(3,([0,3,4],[],[],[]))]),
  (103,[(4,([0,1,6],[],[(0,3)],[])),(12,([0,1,7,8,9,10],[],[(0,3),(7,5)],[])),(16,([0,1,7,8,9,10],[],[(0,3),(7,5)],[]))]),
  (104,[(5,([0,1,5,6],[],[(0,3),(1,3),(5,3)],[]))]),
  (57,[(3,([0,1,5,6],[],[(0,3),(1,3),(5,3)],[]))]),
  (58,[(3,([0,1,5,6],[],[(0,38),(1,38),(5,3)],[]))]),
  (23,[(11,([2,4,5,6,7,8,9,10,11],[128],[(7,38),(8,38)],[])),(17,([2,4,5,6,7,8,9,10,13],[128],[(7,38),(8,38)],[]))]),
  (150,[(3,([0,1,5,6],[],[(5,9)],[]))]),
  (196,[(2,([0,1,2,3,4,11],[],[],[]))]),
  (149,[(5,([0,1,5,6],[],[(0,9)],[]))]),
  (106,[(3,([0,3,4],[],[(3,9)],[]))]),
  (148,[(3,([0,1,5,6],[],[(1,9),(5,9)],[]))]),
  (105,[(4,([0,3],[],[(0,9)],[]))]),
  (171,[(3,([0,2,3,11],[128,192],[],[])),(6,([0,2,3,4,11,14],[128,192],[],[])),(12,([2,3,6],[128,192],[],[]))]),
  (125,[(4,([2,4,5,6,7,8,9,10,11,12,13,37],[128,256,320],[],[])),(13,([2,4,17,109],[128,256,1088],[],[]))]),
  (88,[(1,([1,2,4],[128,256],[],[]))]),
  (91,[(3,([3,6,7],[],[],[]))]),
  (224,[(3,([0,2,3,5],[128,192],[],[]))]),
  (239,[(3,([1,2,3,8,9],[64,128,192],[],[])),(8,([1,2,3,21],[64,128,192],[],[]))]),
  (240,[(5,([1,2,3,4,5,13],[64,128,192],[],[]))]),
  (241,[(3,([1,2,3,6],[64,128,192],[],[])),(6,([1,2,3,4,6,9],[64,128,192],[],[]))]),
  (261,[(3,([3,4,5],[],[],[]))]),
  (242,[(3,([0,3,5],[],[],[]))]),
  (223,[(2,([1,2,4],[64,128],[],[]))]),
  (225,[(3,([1,3,7,8],[64],[(3,5)],[]))]),
  (198,[(2,([1,7],[],[(7,5)],[])),(7,([1,7,8,9],[],[(7,5),(8,5)],[])),(10,([1,7,8,9,40,41],[],[(7,5),(8,5)],[]))]),
  (157,[(4,([1,2,4,6],[128,256],[],[]))]),
  (108,[(4,([5,7,20,21],[],[(7,3)],[]))]),
  (61,[(3,([0,1,5,7],[],[(5,38)],[]))]),
  (109,[(2,([0,5,6,7],[],[(0,3),(5,3)],[]))]),
  (153,[(3,([0,3,5],[],[],[]))]),
  (152,[(5,([0,1,5],[],[],[]))]),
  (107,[(6,([3,4,5],[],[(3,3)],[])),(9,([3,4,5,6],[],[(3,3)],[])),(14,([3,4,5,6,7,8],[],[(3,3)],[]))]),
  (60,[(3,([3,6,7,8],[],[(3,38),(6,38)],[]))]),
  (114,[(5,([7,8,9,10],[448],[(8,3)],[])),(11,([7,8,9,10,60,61,62],[448],[(8,3),(60,3)],[]))]),
  (65,[(3,([0,1,2,7,9],[],[(7,38)],[]))]),
  (113,[(5,([0,1,5,21],[],[(0,3),(1,3),(5,3)],[]))]),
  (111,[(5,([0,1,2,7,19,20],[],[(0,3),(1,3),(7,3)],[]))]),
  (64,[(3,([0,1,5,9,10],[],[(0,38),(1,38),(5,3)],[]))]),
  (110,[(3,([1,5,17,18,19],[],[(5,5),(17,3)],[])),(6,([1,5,6,7,17,18,19,24,25],[],[(5,5),(17,3)],[]))]),
  (25,[(8,([2,4,5,7,8,9,10,30],[128],[(7,38),(8,38)],[]))]),
  (160,[(3,([0,1,5,7],[],[(5,9)],[]))]),
  (226,[(2,([0,1,2,3,13,14],[],[],[]))]),
  (201,[(5,([1,2,3,9,15,16,17],[],[(15,9)],[]))]),
  (116,[(3,([0,3,5],[],[(3,9)],[]))]),
  (158,[(3,([0,1,5,6],[],[(1,9),(5,9)],[]))]),
  (115,[(4,([0,3],[],[(0,9)],[]))]),
  (28,[(3,([0,3,4],[],[(0,5)],[]))]),
  (76,[(5,([0,1,5,6],[0],[(5,5)],[(0,0,5)]))]),
  (69,[(3,([0,1,5,6],[],[(5,5)],[]))]),
  (29,[(2,([0,3],[],[(3,5)],[]))]),
  (31,[(3,([3,14,15,16],[],[(14,4)],[]))]),
  (70,[(5,([0,1,7,8],[],[],[]))]),
  (73,[(2,([0,3],[],[(3,5)],[]))]),
  (77,[(6,([0,1,7,8,9],[],[],[]))]),
  (18,[(5,([3,4,5],[448],[(4,3)],[(448,0,5)]))]),
  (20,[(5,([0,3,4],[],[],[]))]),
  (243,[(3,([1,5,10,11],[],[(5,5)],[]))]),
  (205,[(6,([0,2,8,10,11],[],[],[]))]),
  (206,[(3,([1,5,10,11],[],[(5,5)],[]))]),
  (229,[(2,([0,1,5],[],[],[])),(6,([0,1,5,19],[],[],[]))]),
  (177,[(2,([1,8,9,10],[],[(8,223)],[]))]),
  (173,[(2,([1,6,7,8],[64],[(6,223)],[(64,0,223)]))]),
  (209,[(3,([0,3,4],[0,192],[],[(0,0,223)]))]),
  (123,[(3,([1,4,6,13,14,15],[256,384],[(1,201),(13,201)],[(256,0,223),(384,0,223)]))]),
  (167,[(2,([1,6,7,8],[64],[(6,26)],[(64,2,26)]))]),
  (170,[(2,([1,8,9,10],[],[(8,26)],[]))]),
  (213,[(4,([0,1,12,13],[],[(0,26),(1,26)],[]))]),
  (190,[(5,([0,4,5],[],[(4,9)],[]))]),
  (141,[(5,([0,8,9,23,24,25],[],[(8,99),(23,9)],[]))]),
  (176,[(3,([4,6,13,14,15],[256,384],[(13,99)],[(256,2,26),(384,2,26)]))]),
  (175,[(2,([1,8,9,10],[64],[(8,186)],[(64,2,223),(64,5,26),(64,9,176),(64,10,186)]))]),
  (128,[(6,([1,44,45,46],[64],[(44,176)],[(64,2,223),(64,5,26),(64,9,176),(64,10,186)]))]),
  (132,[(2,([1,8,9,10],[],[(8,176)],[]))]),
  (142,[(2,([1,8,9,10],[],[(8,186)],[]))]),
  (267,[(5,([3,4,5,11],[],[(3,3)],[])),(10,([3,4,28,29,30],[],[(3,3),(28,3)],[]))]),
  (248,[(6,([1,7,8,16,17,18],[],[(7,3),(8,9),(16,9)],[]))]),
  (249,[(5,([0,1,5,6],[],[(0,9),(5,9)],[]))]),
  (268,[(2,([0,1,7,8,9],[],[(0,9),(7,9)],[]))]),
  (232,[(5,([1,4,16,17,18],[64],[(16,9)],[(64,1,9),(64,2,9)])),(10,([4,27,28,29],[],[(27,9)],[]))]),
  (189,[(5,([1,4,6,18,19],[256,384],[(1,3)],[(256,0,223),(384,0,223)]))]),
  (144,[(4,([0,1,2,7],[0],[],[(0,2,223),(0,5,26),(0,9,176),(0,10,186)]))]),
  (97,[(13,([3,4,5,8,9,11,12],[256,320,512,576,704],[],[(256,2,223),(256,5,26),(256,9,176),(256,10,186),(512,2,223),(512,5,26),(512,9,176),(512,10,186),(576,2,223),(576,5,26),(576,9,176),(576,10,186)])),(15,([4,5,8,9],[256,320,512,576],[],[(256,2,223),(256,5,26),(256,9,176),(256,10,186),(512,2,223),(512,5,26),(512,9,176),(512,10,186),(576,2,223),(576,5,26),(576,9,176),(576,10,186)]))]),
  (52,[(6,([0,2,4,7,8,9,45,46,47],[0,256],[(45,99)],[(0,2,223),(0,5,26),(0,9,176),(0,10,186),(0,12,3),(0,13,9),(0,14,65),(0,15,99),(256,8,3)]))]),
  (21,[(5,([1,2,6,8,29,30,31],[384,512],[(2,45),(29,45)],[(384,2,223),(384,5,26),(384,9,176),(384,10,186),(384,12,3),(384,13,9),(384,14,65),(384,15,99),(512,2,223),(512,5,26),(512,9,176),(512,10,186)])),(12,([6,12,46,47,48],[384,768],[(46,45)],[(384,2,223),(384,5,26),(384,9,176),(384,10,186),(384,12,3),(384,13,9),(384,14,65),(384,15,99),(768,2,223),(768,5,26),(768,9,176),(768,10,186),(768,12,3),(768,13,9),(768,14,65),(768,15,99)]))]),
  (22,[(3,([1,5,8,9,10],[],[(5,3),(8,65)],[]))]),
  (5,[(13,([3,4,5,6,8,9,10,11,12],[320,384,512,576,640],[(3,3),(11,45)],[]))])]
def tabs:List (Nat×(Nat×List Int)):=[(0,(207,[1116352408,1899447441,3049323471,3921009573,961987163,1508970993,2453635748,2870763221,3624381080,310598401,607225278,1426881987,1925078388,2162078206,2614888103,3248222580,3835390401,4022224774,264347078,604807628,770255983,1249150122,1555081692,1996064986,2554220882,2821834349,2952996808,3210313671,3336571891,3584528711,113926993,338241895,666307205,773529912,1294757372,1396182291,1695183700,1986661051,2177026350,2456956037,2730485921,2820302411,3259730800,3345764771,3516065817,3600352804,4094571909,275423344,430227734,506948616,659060556,883997877,958139571,1322822218,1537002063,1747873779,1955562222,2024104815,2227730452,2361852424,2428436474,2756734187,3204031479,3329325298]))]
set_option linter.unusedSectionVars false
variable [PC]
def ctx:Ctx:=mkCtx els tis ents modes cuts tabs PC.pm [112,202,203,271]
noncomputable abbrev PP:Program:=Tryz.prog
abbrev LI:=List Go.Item×Env ctx×Hp ctx
abbrev CU:=Cv (List (U (ElOf els)))
abbrev CV:=Cv (List (L (ElOf els)))
theorem good2:CodGood ctx 2 ent2.c:=⟨fun _=>rfl,fun cs h0=>by obtain ⟨n0,ls0,rfl,h1⟩:=fit_int h0;obtain rfl:=fit_nil h1;rfl,fun _=>rfl,rfl,fun h k hi hk n=>by cases hk;rfl⟩
theorem good3:CodGood ctx 3 ent3.c:=⟨fun _=>rfl,fun cs h0=>by obtain ⟨n0,ls0,rfl,h1⟩:=fit_int h0;obtain rfl:=fit_nil h1;rfl,fun _=>rfl,rfl,fun h k hi hk n=>by cases hk;rfl⟩
theorem good4:CodGood ctx 4 ent4.c:=⟨fun _=>rfl,fun cs h0=>by obtain ⟨n0,ls0,rfl,h1⟩:=fit_bool h0;obtain rfl:=fit_nil h1;rfl,fun _=>rfl,rfl,fun h k hi hk n=>by cases hi⟩
theorem good5:CodGood ctx 5 ent5.c:=⟨fun _=>rfl,fun cs h0=>by obtain ⟨n0,ls0,rfl,h1⟩:=fit_int h0;obtain rfl:=fit_nil h1;rfl,fun _=>rfl,rfl,fun h k hi hk n=>by cases hk;rfl⟩
theorem good9:CodGood ctx 9 ent9.c:=⟨fun _=>rfl,fun cs h0=>by obtain ⟨n0,ls0,rfl,h1⟩:=fit_str h0;obtain rfl:=fit_nil h1;rfl,fun _=>rfl,rfl,fun h k hi hk n=>by cases hi⟩
theorem good23:CodGood ctx 23 ent23.c:=⟨fun _=>rfl,fun cs h0=>by obtain ⟨n0,ls0,rfl,h1⟩:=fit_int h0;obtain ⟨n1,ls1,rfl,h2⟩:=fit_int h1;obtain ⟨n2,ls2,rfl,h3⟩:=fit_bool h2;obtain ⟨n3,ls3,rfl,h4⟩:=fit_bool h3;obtain ⟨n4,ls4,rfl,h5⟩:=fit_bool h4;obtain ⟨n5,ls5,rfl,h6⟩:=fit_bool h5;obtain ⟨n6,ls6,rfl,h7⟩:=fit_str h6;obtain ⟨n7,ls7,rfl,h8⟩:=fit_int h7;obtain rfl:=fit_nil h8;rfl,fun _=>rfl,rfl,fun h k hi hk n=>by cases hi⟩
theorem good26:CodGood ctx 26 ent26.c:=⟨fun _=>rfl,fun cs h0=>by obtain ⟨n0,ls0,rfl,h1⟩:=fit_int h0;obtain ⟨n1,ls1,rfl,h2⟩:=fit_int h1;obtain ⟨n2,ls2,rfl,h3⟩:=fit_bool h2;obtain ⟨n3,ls3,rfl,h4⟩:=fit_bool h3;obtain ⟨n4,ls4,rfl,h5⟩:=fit_bool h4;obtain ⟨n5,ls5,rfl,h6⟩:=fit_bool h5;obtain ⟨n6,ls6,rfl,h7⟩:=fit_str h6;obtain ⟨n7,ls7,rfl,h8⟩:=fit_int h7;obtain rfl:=fit_nil h8;rfl,fun _=>rfl,rfl,fun h k hi hk n=>by cases hi⟩
theorem good29:CodGood ctx 29 ent29.c:=⟨fun _=>rfl,fun cs h0=>by obtain ⟨n0,ls0,rfl,h1⟩:=fit_sl h0;obtain rfl:=fit_nil h1;rfl,fun _=>rfl,rfl,fun h k hi hk n=>by cases hi⟩
theorem good38:CodGood ctx 38 ent38.c:=⟨fun _=>rfl,fun cs h0=>by obtain ⟨n0,ls0,rfl,h1⟩:=fit_sl h0;obtain rfl:=fit_nil h1;rfl,fun _=>rfl,rfl,fun h k hi hk n=>by cases hi⟩
theorem good43:CodGood ctx 43 ent43.c:=⟨fun _=>rfl,fun cs h0=>by obtain ⟨n0,ls0,rfl,h1⟩:=fit_int h0;obtain ⟨n1,ls1,rfl,h2⟩:=fit_int h1;obtain ⟨n2,ls2,rfl,h3⟩:=fit_int h2;obtain ⟨n3,ls3,rfl,h4⟩:=fit_int h3;obtain ⟨n4,ls4,rfl,h5⟩:=fit_str h4;obtain ⟨n5,ls5,rfl,h6⟩:=fit_bool h5;obtain ⟨n6,ls6,rfl,h7⟩:=fit_bool h6;obtain rfl:=fit_nil h7;rfl,fun _=>rfl,rfl,fun h k hi hk n=>by cases hi⟩
theorem good45:CodGood ctx 45 ent45.c:=⟨fun _=>rfl,fun cs h0=>by obtain ⟨n0,ls0,rfl,h1⟩:=fit_int h0;obtain ⟨n1,ls1,rfl,h2⟩:=fit_int h1;obtain ⟨n2,ls2,rfl,h3⟩:=fit_int h2;obtain ⟨n3,ls3,rfl,h4⟩:=fit_int h3;obtain ⟨n4,ls4,rfl,h5⟩:=fit_str h4;obtain ⟨n5,ls5,rfl,h6⟩:=fit_bool h5;obtain ⟨n6,ls6,rfl,h7⟩:=fit_bool h6;obtain ⟨n7,ls7,rfl,h8⟩:=fit_bool h7;obtain ⟨n8,ls8,rfl,h9⟩:=fit_sl h8;obtain ⟨n9,ls9,rfl,h10⟩:=fit_bool h9;obtain rfl:=fit_nil h10;rfl,fun _=>rfl,rfl,fun h k hi hk n=>by cases hi⟩
theorem good46:CodGood ctx 46 ent46.c:=⟨fun _=>rfl,fun cs h0=>by obtain ⟨n0,ls0,rfl,h1⟩:=fit_sl h0;obtain rfl:=fit_nil h1;rfl,fun _=>rfl,rfl,fun h k hi hk n=>by cases hi⟩
theorem good47:CodGood ctx 47 ent47.c:=⟨fun _=>rfl,fun cs h0=>by obtain ⟨n0,ls0,rfl,h1⟩:=fit_sl h0;obtain rfl:=fit_nil h1;rfl,fun _=>rfl,rfl,fun h k hi hk n=>by cases hi⟩
theorem good49:CodGood ctx 49 ent49.c:=⟨fun _=>rfl,fun cs h0=>by obtain ⟨n0,ls0,rfl,h1⟩:=fit_sl h0;obtain rfl:=fit_nil h1;rfl,fun _=>rfl,rfl,fun h k hi hk n=>by cases hi⟩
theorem good50:CodGood ctx 50 ent50.c:=⟨fun _=>rfl,fun cs h0=>by obtain ⟨n0,ls0,rfl,h1⟩:=fit_sl h0;obtain rfl:=fit_nil h1;rfl,fun _=>rfl,rfl,fun h k hi hk n=>by cases hi⟩
theorem good52:CodGood ctx 52 ent52.c:=⟨fun _=>rfl,fun cs h0=>by obtain ⟨n0,ls0,rfl,h1⟩:=fit_str h0;obtain ⟨n1,ls1,rfl,h2⟩:=fit_int h1;obtain ⟨n2,ls2,rfl,h3⟩:=fit_sl h2;obtain ⟨n3,ls3,rfl,h4⟩:=fit_int h3;obtain ⟨n4,ls4,rfl,h5⟩:=fit_str h4;obtain ⟨n5,ls5,rfl,h6⟩:=fit_int h5;obtain rfl:=fit_nil h6;rfl,fun _=>rfl,rfl,fun h k hi hk n=>by cases hi⟩
theorem good53:CodGood ctx 53 ent53.c:=⟨fun _=>rfl,fun cs h0=>by obtain ⟨n0,ls0,rfl,h1⟩:=fit_sl h0;obtain rfl:=fit_nil h1;rfl,fun _=>rfl,rfl,fun h k hi hk n=>by cases hi⟩
theorem good54:CodGood ctx 54 ent54.c:=⟨fun _=>rfl,fun cs h0=>by obtain ⟨n0,ls0,rfl,h1⟩:=fit_sl h0;obtain rfl:=fit_nil h1;rfl,fun _=>rfl,rfl,fun h k hi hk n=>by cases hi⟩
theorem good56:CodGood ctx 56 ent56.c:=⟨fun _=>rfl,fun cs h0=>by obtain ⟨n0,ls0,rfl,h1⟩:=fit_str h0;obtain ⟨n1,ls1,rfl,h2⟩:=fit_bool h1;obtain ⟨n2,ls2,rfl,h3⟩:=fit_sl h2;obtain ⟨n3,ls3,rfl,h4⟩:=fit_str h3;obtain ⟨n4,ls4,rfl,h5⟩:=fit_int h4;obtain ⟨n5,ls5,rfl,h6⟩:=fit_sl h5;obtain ⟨n6,ls6,rfl,h7⟩:=fit_int h6;obtain ⟨n7,ls7,rfl,h8⟩:=fit_str h7;obtain ⟨n8,ls8,rfl,h9⟩:=fit_int h8;obtain ⟨n9,ls9,rfl,h10⟩:=fit_sl h9;obtain ⟨n10,ls10,rfl,h11⟩:=fit_sl h10;obtain ⟨n11,ls11,rfl,h12⟩:=fit_int h11;obtain rfl:=fit_nil h12;rfl,fun _=>rfl,rfl,fun h k hi hk n=>by cases hi⟩
theorem good57:CodGood ctx 57 ent57.c:=⟨fun _=>rfl,fun cs h0=>by obtain ⟨n0,ls0,rfl,h1⟩:=fit_sl h0;obtain rfl:=fit_nil h1;rfl,fun _=>rfl,rfl,fun h k hi hk n=>by cases hi⟩
theorem good58:CodGood ctx 58 ent58.c:=⟨fun _=>rfl,fun cs h0=>by obtain ⟨n0,ls0,rfl,h1⟩:=fit_sl h0;obtain rfl:=fit_nil h1;rfl,fun _=>rfl,rfl,fun h k hi hk n=>by cases hi⟩
theorem good59:CodGood ctx 59 ent59.c:=⟨fun _=>rfl,fun cs h0=>by obtain ⟨n0,ls0,rfl,h1⟩:=fit_sl h0;obtain rfl:=fit_nil h1;rfl,fun _=>rfl,rfl,fun h k hi hk n=>by cases hi⟩
theorem good61:CodGood ctx 61 ent61.c:=⟨fun _=>rfl,fun cs h0=>by obtain ⟨n0,ls0,rfl,h1⟩:=fit_str h0;obtain ⟨n1,ls1,rfl,h2⟩:=fit_bool h1;obtain ⟨n2,ls2,rfl,h3⟩:=fit_sl h2;obtain ⟨n3,ls3,rfl,h4⟩:=fit_str h3;obtain ⟨n4,ls4,rfl,h5⟩:=fit_int h4;obtain ⟨n5,ls5,rfl,h6⟩:=fit_sl h5;obtain ⟨n6,ls6,rfl,h7⟩:=fit_int h6;obtain ⟨n7,ls7,rfl,h8⟩:=fit_str h7;obtain ⟨n8,ls8,rfl,h9⟩:=fit_int h8;obtain ⟨n9,ls9,rfl,h10⟩:=fit_sl h9;obtain ⟨n10,ls10,rfl,h11⟩:=fit_sl h10;obtain ⟨n11,ls11,rfl,h12⟩:=fit_int h11;obtain ⟨n12,ls12,rfl,h13⟩:=fit_sl h12;obtain ⟨n13,ls13,rfl,h14⟩:=fit_sl h13;obtain ⟨n14,ls14,rfl,h15⟩:=fit_sl h14;obtain ⟨n15,ls15,rfl,h16⟩:=fit_sl h15;obtain rfl:=fit_nil h16;rfl,fun _=>rfl,rfl,fun h k hi hk n=>by cases hi⟩
theorem good65:CodGood ctx 65 ent65.c:=⟨fun _=>rfl,fun cs h0=>by obtain ⟨n0,ls0,rfl,h1⟩:=fit_int h0;obtain ⟨n1,ls1,rfl,h2⟩:=fit_int h1;obtain ⟨n2,ls2,rfl,h3⟩:=fit_int h2;obtain rfl:=fit_nil h3;rfl,fun _=>rfl,rfl,fun h k hi hk n=>by cases hi⟩
theorem good68:CodGood ctx 68 ent68.c:=⟨fun _=>rfl,fun cs h0=>by obtain ⟨n0,ls0,rfl,h1⟩:=fit_str h0;obtain ⟨n1,ls1,rfl,h2⟩:=fit_str h1;obtain rfl:=fit_nil h2;rfl,fun _=>rfl,rfl,fun h k hi hk n=>by cases hi⟩
theorem good72:CodGood ctx 72 ent72.c:=⟨fun _=>rfl,fun cs h0=>by obtain ⟨n0,ls0,rfl,h1⟩:=fit_bool h0;obtain rfl:=fit_nil h1;rfl,fun _=>rfl,rfl,fun h k hi hk n=>by cases hi⟩
theorem good75:CodGood ctx 75 ent75.c:=⟨fun _=>rfl,fun cs h0=>by obtain ⟨n0,ls0,rfl,h1⟩:=fit_bool h0;obtain rfl:=fit_nil h1;rfl,fun _=>rfl,rfl,fun h k hi hk n=>by cases hi⟩
theorem good77:CodGood ctx 77 ent77.c:=⟨fun _=>rfl,fun cs h0=>by obtain ⟨n0,ls0,rfl,h1⟩:=fit_str h0;obtain ⟨n1,ls1,rfl,h2⟩:=fit_int h1;obtain ⟨n2,ls2,rfl,h3⟩:=fit_bool h2;obtain rfl:=fit_nil h3;rfl,fun _=>rfl,rfl,fun h k hi hk n=>by cases hi⟩
theorem good82:CodGood ctx 82 ent82.c:=⟨fun _=>rfl,fun cs h0=>by obtain ⟨n0,ls0,rfl,h1⟩:=fit_bool h0;obtain rfl:=fit_nil h1;rfl,fun _=>rfl,rfl,fun h k hi hk n=>by cases hi⟩
theorem good84:CodGood ctx 84 ent84.c:=⟨fun _=>rfl,fun cs h0=>by obtain ⟨n0,ls0,rfl,h1⟩:=fit_str h0;obtain ⟨n1,ls1,rfl,h2⟩:=fit_int h1;obtain ⟨n2,ls2,rfl,h3⟩:=fit_bool h2;obtain rfl:=fit_nil h3;rfl,fun _=>rfl,rfl,fun h k hi hk n=>by cases hi⟩
theorem good91:CodGood ctx 91 ent91.c:=⟨fun _=>rfl,fun cs h0=>by obtain ⟨n0,ls0,rfl,h1⟩:=fit_str h0;obtain ⟨n1,ls1,rfl,h2⟩:=fit_str h1;obtain ⟨n2,ls2,rfl,h3⟩:=fit_int h2;obtain rfl:=fit_nil h3;rfl,fun _=>rfl,rfl,fun h k hi hk n=>by cases hi⟩
theorem good99:CodGood ctx 99 ent99.c:=⟨fun _=>rfl,fun cs h0=>by obtain ⟨n0,ls0,rfl,h1⟩:=fit_int h0;obtain ⟨n1,ls1,rfl,h2⟩:=fit_str h1;obtain ⟨n2,ls2,rfl,h3⟩:=fit_int h2;obtain ⟨n3,ls3,rfl,h4⟩:=fit_int h3;obtain ⟨n4,ls4,rfl,h5⟩:=fit_int h4;obtain ⟨n5,ls5,rfl,h6⟩:=fit_bool h5;obtain ⟨n6,ls6,rfl,h7⟩:=fit_bool h6;obtain ⟨n7,ls7,rfl,h8⟩:=fit_bool h7;obtain ⟨n8,ls8,rfl,h9⟩:=fit_bool h8;obtain ⟨n9,ls9,rfl,h10⟩:=fit_str h9;obtain ⟨n10,ls10,rfl,h11⟩:=fit_int h10;obtain rfl:=fit_nil h11;rfl,fun _=>rfl,rfl,fun h k hi hk n=>by cases hi⟩
theorem good101:CodGood ctx 101 ent101.c:=⟨fun _=>rfl,fun cs h0=>by obtain ⟨n0,ls0,rfl,h1⟩:=fit_sl h0;obtain rfl:=fit_nil h1;rfl,fun _=>rfl,rfl,fun h k hi hk n=>by cases hi⟩
theorem good114:CodGood ctx 114 ent114.c:=codBools_good (C:=ctx) (e:=114) (n:=3) (f:=fun x=>x) (g:=fun x=>x) (fun _=>rfl) (by kernel_rfl)
theorem good115:CodGood ctx 115 ent115.c:=⟨fun _=>rfl,fun cs h0=>by obtain ⟨n0,ls0,rfl,h1⟩:=fit_sl h0;obtain rfl:=fit_nil h1;rfl,fun _=>rfl,rfl,fun h k hi hk n=>by cases hi⟩
theorem good123:CodGood ctx 123 ent123.c:=⟨fun _=>rfl,fun cs h0=>by obtain ⟨n0,ls0,rfl,h1⟩:=fit_int h0;obtain rfl:=fit_nil h1;rfl,fun _=>rfl,rfl,fun h k hi hk n=>by cases hk;rfl⟩
theorem good125:CodGood ctx 125 ent125.c:=⟨fun _=>rfl,fun cs h0=>by obtain ⟨n0,ls0,rfl,h1⟩:=fit_sl h0;obtain rfl:=fit_nil h1;rfl,fun _=>rfl,rfl,fun h k hi hk n=>by cases hi⟩
theorem good133:CodGood ctx 133 ent133.c:=⟨fun _=>rfl,fun cs h0=>by obtain ⟨n0,ls0,rfl,h1⟩:=fit_int h0;obtain rfl:=fit_nil h1;rfl,fun _=>rfl,rfl,fun h k hi hk n=>by cases hk;rfl⟩
theorem good134:CodGood ctx 134 ent134.c:=codBools_good (C:=ctx) (e:=134) (n:=8) (f:=fun x=>x) (g:=fun x=>x) (fun _=>rfl) (by kernel_rfl)
theorem good139:CodGood ctx 139 ent139.c:=⟨fun _=>rfl,fun cs h0=>by obtain ⟨n0,ls0,rfl,h1⟩:=fit_bool h0;obtain rfl:=fit_nil h1;rfl,fun _=>rfl,rfl,fun h k hi hk n=>by cases hi⟩
theorem good161:CodGood ctx 161 ent161.c:=⟨fun _=>rfl,fun cs h0=>by obtain ⟨n0,ls0,rfl,h1⟩:=fit_bool h0;obtain rfl:=fit_nil h1;rfl,fun _=>rfl,rfl,fun h k hi hk n=>by cases hi⟩
theorem good162:CodGood ctx 162 ent162.c:=⟨fun _=>rfl,fun cs h0=>by obtain ⟨n0,ls0,rfl,h1⟩:=fit_sl h0;obtain rfl:=fit_nil h1;rfl,fun _=>rfl,rfl,fun h k hi hk n=>by cases hi⟩
theorem good176:CodGood ctx 176 ent176.c:=⟨fun _=>rfl,fun cs h0=>by obtain ⟨n0,ls0,rfl,h1⟩:=fit_int h0;obtain ⟨n1,ls1,rfl,h2⟩:=fit_bool h1;obtain rfl:=fit_nil h2;rfl,fun _=>rfl,rfl,fun h k hi hk n=>by cases hi⟩
theorem good186:CodGood ctx 186 ent186.c:=⟨fun _=>rfl,fun cs h0=>by obtain ⟨n0,ls0,rfl,h1⟩:=fit_int h0;obtain ⟨n1,ls1,rfl,h2⟩:=fit_int h1;obtain rfl:=fit_nil h2;rfl,fun _=>rfl,rfl,fun h k hi hk n=>by cases hi⟩
theorem good189:CodGood ctx 189 ent189.c:=⟨fun _=>rfl,fun cs h0=>by obtain ⟨n0,ls0,rfl,h1⟩:=fit_str h0;obtain ⟨n1,ls1,rfl,h2⟩:=fit_int h1;obtain rfl:=fit_nil h2;rfl,fun _=>rfl,rfl,fun h k hi hk n=>by cases hi⟩
theorem good201:CodGood ctx 201 ent201.c:=⟨fun _=>rfl,fun cs h0=>by obtain ⟨n0,ls0,rfl,h1⟩:=fit_int h0;obtain ⟨n1,ls1,rfl,h2⟩:=fit_str h1;obtain ⟨n2,ls2,rfl,h3⟩:=fit_str h2;obtain ⟨n3,ls3,rfl,h4⟩:=fit_str h3;obtain rfl:=fit_nil h4;rfl,fun _=>rfl,rfl,fun h k hi hk n=>by cases hi⟩
theorem good207:CodGood ctx 207 ent207.c:=codBools_good (C:=ctx) (e:=207) (n:=64) (f:=fun x=>x) (g:=fun x=>x) (fun _=>rfl) (by kernel_rfl)
theorem good223:CodGood ctx 223 ent223.c:=⟨fun _=>rfl,fun cs h0=>by obtain ⟨n0,ls0,rfl,h1⟩:=fit_str h0;obtain ⟨n1,ls1,rfl,h2⟩:=fit_str h1;obtain ⟨n2,ls2,rfl,h3⟩:=fit_int h2;obtain rfl:=fit_nil h3;rfl,fun _=>rfl,rfl,fun h k hi hk n=>by cases hi⟩
theorem good238:CodGood ctx 238 ent238.c:=⟨fun _=>rfl,fun cs h0=>by obtain ⟨n0,ls0,rfl,h1⟩:=fit_bool h0;obtain rfl:=fit_nil h1;rfl,fun _=>rfl,rfl,fun h k hi hk n=>by cases hi⟩
theorem good242:CodGood ctx 242 ent242.c:=⟨fun _=>rfl,fun cs h0=>by obtain ⟨n0,ls0,rfl,h1⟩:=fit_int h0;obtain ⟨n1,ls1,rfl,h2⟩:=fit_sl h1;obtain ⟨n2,ls2,rfl,h3⟩:=fit_sl h2;obtain rfl:=fit_nil h3;rfl,fun _=>rfl,rfl,fun h k hi hk n=>by cases hi⟩
theorem good244:CodGood ctx 244 ent244.c:=⟨fun _=>rfl,fun cs h0=>by obtain ⟨n0,ls0,rfl,h1⟩:=fit_int h0;obtain ⟨n1,ls1,rfl,h2⟩:=fit_sl h1;obtain ⟨n2,ls2,rfl,h3⟩:=fit_sl h2;obtain ⟨n3,ls3,rfl,h4⟩:=fit_str h3;obtain ⟨n4,ls4,rfl,h5⟩:=fit_int h4;obtain ⟨n5,ls5,rfl,h6⟩:=fit_sl h5;obtain ⟨n6,ls6,rfl,h7⟩:=fit_sl h6;obtain rfl:=fit_nil h7;rfl,fun _=>rfl,rfl,fun h k hi hk n=>by cases hi⟩
theorem good250:CodGood ctx 250 ent250.c:=⟨fun _=>rfl,fun cs h0=>by obtain ⟨n0,ls0,rfl,h1⟩:=fit_bool h0;obtain rfl:=fit_nil h1;rfl,fun _=>rfl,rfl,fun h k hi hk n=>by cases hi⟩
theorem good251:CodGood ctx 251 ent251.c:=⟨fun _=>rfl,fun cs h0=>by obtain ⟨n0,ls0,rfl,h1⟩:=fit_sl h0;obtain rfl:=fit_nil h1;rfl,fun _=>rfl,rfl,fun h k hi hk n=>by cases hi⟩
theorem good253:CodGood ctx 253 ent253.c:=⟨fun _=>rfl,fun cs h0=>by obtain ⟨n0,ls0,rfl,h1⟩:=fit_int h0;obtain rfl:=fit_nil h1;rfl,fun _=>rfl,rfl,fun h k hi hk n=>by cases hk;rfl⟩
theorem good257:CodGood ctx 257 ent257.c:=codBools_good (C:=ctx) (e:=257) (n:=25) (f:=fun x=>x) (g:=fun x=>x) (fun _=>rfl) (by kernel_rfl)
theorem good262:CodGood ctx 262 ent262.c:=⟨fun _=>rfl,fun cs h0=>by obtain ⟨n0,ls0,rfl,h1⟩:=fit_bool h0;obtain rfl:=fit_nil h1;rfl,fun _=>rfl,rfl,fun h k hi hk n=>by cases hi⟩
theorem good277:CodGood ctx 277 ent277.c:=codBools_good (C:=ctx) (e:=277) (n:=24) (f:=fun x=>x) (g:=fun x=>x) (fun _=>rfl) (by kernel_rfl)
theorem good291:CodGood ctx 291 ent291.c:=codBools_good (C:=ctx) (e:=291) (n:=5) (f:=fun x=>x) (g:=fun x=>x) (fun _=>rfl) (by kernel_rfl)
theorem ctxOk:CtxOk ctx Tryz.prog:=mkCtx_ok (by kernel_rfl) (fun x hx=>by
  simp only [ents,List.mem_cons,List.not_mem_nil,or_false] at hx
  rcases hx with rfl | rfl | rfl | rfl | rfl | rfl | rfl | rfl | rfl | rfl | rfl | rfl | rfl | rfl | rfl | rfl | rfl | rfl | rfl | rfl | rfl | rfl | rfl | rfl | rfl | rfl | rfl | rfl | rfl | rfl | rfl | rfl | rfl | rfl | rfl | rfl | rfl | rfl | rfl | rfl | rfl | rfl | rfl | rfl | rfl | rfl | rfl | rfl | rfl | rfl | rfl | rfl | rfl | rfl | rfl | rfl | rfl | rfl
  · exact good2
  · exact good3
  · exact good4
  · exact good5
  · exact good9
  · exact good23
  · exact good26
  · exact good29
  · exact good38
  · exact good43
  · exact good45
  · exact good46
  · exact good47
  · exact good49
  · exact good50
  · exact good52
  · exact good53
  · exact good54
  · exact good56
  · exact good57
  · exact good58
  · exact good59
  · exact good61
  · exact good65
  · exact good68
  · exact good72
  · exact good75
  · exact good77
  · exact good82
  · exact good84
  · exact good91
  · exact good99
  · exact good101
  · exact good114
  · exact good115
  · exact good123
  · exact good125
  · exact good133
  · exact good134
  · exact good139
  · exact good161
  · exact good162
  · exact good176
  · exact good186
  · exact good189
  · exact good201
  · exact good207
  · exact good223
  · exact good238
  · exact good242
  · exact good244
  · exact good250
  · exact good251
  · exact good253
  · exact good257
  · exact good262
  · exact good277
  · exact good291)
def cSThing:CV SThing:=cIso (cCons (cInt .i64) (cCons (cInt .i64) (cCons cBool (cCons cBool (cCons cBool (cCons cBool (cCons cStr (cCons (cInt .i64) cNil)))))))) (fun p=>⟨p.1,p.2.1,p.2.2.1,p.2.2.2.1,p.2.2.2.2.1,p.2.2.2.2.2.1,p.2.2.2.2.2.2.1,p.2.2.2.2.2.2.2.1⟩) (fun s=>(s.fId,s.fKind,s.fHidden,s.fFixed,s.fSigns,s.fWraps,s.fValue,s.fNext,())) (fun _=>rfl)
def cv0:CU (SThing×Int):=cCons (uAgg cSThing) (q1 uI)
def cv1:CU Int:=q1 uI
def cv2:CU SThing:=q1 (uAgg cSThing)
def cv3:CU (Int×Int×Int):=cCons uI (cCons uI (q1 uI))
def cv4:CU Bool:=q1 uB
def cv5:CU Unit:=cNil
def cv6:CU (List Int):=q1 (uOne (cFsl 133))
def cv7:CU (List Int):=q1 (uOne (cRsl 133))
def cv8:CU ByteArray:=q1 uS
def cSHasher:CV SHasher:=cIso (cCons cStr (cCons cStr (cCons (cInt .i64) cNil))) (fun p=>⟨p.1,p.2.1,p.2.2.1⟩) (fun s=>(s.fState,s.fRest,s.fCount,())) (fun _=>rfl)
def cv9:CU SHasher:=q1 (uAgg cSHasher)
def cv10:CU (ByteArray×Int):=cCons uS (q1 uI)
def cv11:CU Int:=q1 (uOne (cInt .u32))
def cv12:CU (Int×Int×Int):=cCons (uOne (cInt .u32)) (cCons (uOne (cInt .u32)) (q1 (uOne (cInt .u32))))
def cv13:CU (Int×Int×Int×Int×Bool):=cCons (uOne (cInt .u32)) (cCons (uOne (cInt .u32)) (cCons (uOne (cInt .u32)) (cCons (uOne (cInt .u32)) (q1 uB))))
def cv14:CU ((List Int)×(List Int)×ByteArray):=cCons (uOne (cRsl 133)) (cCons (uOne (cRsl 133)) (q1 uS))
def cv15:CU (SHasher×ByteArray):=cCons (uAgg cSHasher) (q1 uS)
def cv16:CU (List Int):=q1 (uOne (cFsl 253))
def cv17:CU (List Int):=q1 (uOne (cFsl 3))
def cv18:CU (Int×Int):=cCons (uOne (cInt .u64)) (q1 uI)
def cv19:CU Int:=q1 (uOne (cInt .u64))
def cv20:CU ((List Int)×(List Int)×Int):=cCons (uOne (cRsl 253)) (cCons (uOne (cRsl 3)) (q1 (uOne (cInt .u64))))
def cv21:CU (List Int):=q1 (uOne (cRsl 253))
def cv22:CU (ByteArray×Int×Int):=cCons uS (cCons uI (q1 (uOne (cInt .u8))))
def cSStream:CV SStream:=cIso (cCons cStr (cCons (cInt .i64) cNil)) (fun p=>⟨p.1,p.2.1⟩) (fun s=>(s.fState,s.fAt,())) (fun _=>rfl)
def cv23:CU SStream:=q1 (uAgg cSStream)
def cv24:CU (SStream×Int):=cCons (uAgg cSStream) (q1 uI)
def cv25:CU (SStream×ByteArray):=cCons (uAgg cSStream) (q1 uS)
def cv26:CU (ByteArray×Int×Int):=cCons uS (cCons uI (q1 uI))
def cv27:CU (List (List Int)):=q1 (uOne (cFsl 38))
def cv28:CU (ByteArray×Bool):=cCons uS (q1 uB)
def cv29:CU (List Int):=q1 (uOne (cRsl 3))
def cv30:CU (Int×Int):=cCons uI (q1 uI)
def cv31:CU ((List Int)×Int):=cCons (uOne (cRsl 3)) (q1 uI)
def cv32:CU ((List Int)×(List Int)):=cCons (uOne (cRsl 3)) (q1 (uOne (cRsl 3)))
def cv33:CU ((List (List Int))×(List (List Int))):=cCons (uOne (cRsl 38)) (q1 (uOne (cRsl 38)))
def cSPair:CV SPair:=cIso (cCons cStr (cCons cStr cNil)) (fun p=>⟨p.1,p.2.1⟩) (fun s=>(s.fPublic,s.fSecret,())) (fun _=>rfl)
def cv34:CU (SPair×Bool):=cCons (uAgg cSPair) (q1 uB)
def cv35:CU (List ByteArray):=q1 (uOne (cFsl 9))
def cv36:CU (ByteArray×Int×Int×Int×Int):=cCons uS (cCons uI (cCons uI (cCons uI (q1 uI))))
def cv37:CU ((List ByteArray)×Int):=cCons (uOne (cRsl 9)) (q1 uI)
def cv38:CU (Int×Int×ByteArray×ByteArray):=cCons uI (cCons uI (cCons uS (q1 uS)))
def cv39:CU (Int×(List ByteArray)):=cCons uI (q1 (uOne (cRsl 9)))
def cv40:CU (List ByteArray):=q1 (uOne (cRsl 9))
def cv41:CU (List Int):=q1 (uArr 133)
def cv42:CU (Int×Int):=cCons (uOne (cInt .u32)) (q1 uI)
def cv43:CU ((List Int)×ByteArray):=cCons (uArr 133) (q1 uS)
def cv44:CU (List Int):=q1 (uArr 253)
def cv45:CU (List (List Int)):=q1 (uOne (cRsl 38))
def cv46:CU (ByteArray×Int×Bool):=cCons uS (cCons uI (q1 uB))
def cv47:CU ((List Int)×(List Int)×Nat):=cCons (uOne (cRsl 3)) (cCons (uOne (cRsl 3)) (q1 (uOne cFn)))
def cv48:CU ((List ByteArray)×Int×Nat×Nat):=cCons (uOne (cRsl 9)) (cCons uI (cCons (uOne cFn) (q1 (uOne cFn))))
def cv49:CU Unit:=q1 (uOne cCsl)
def cSL01CurF:CV SL01Cur:=cIso (cCons cCsl (cCons (cInt .i64) (cCons (cInt .i64) cNil))) (fun p=>⟨p.1,p.2.1,p.2.2.1⟩) (fun s=>(s.fB,s.fI,s.fH,())) (fun _=>rfl)
def cv50:CU SL01Cur:=q1 (uAgg (cPre cPtr0 cSL01CurF))
def cv51:CU SL01Cur:=q1 (uAgg cSL01CurF)
def cv52:CU (Int×SL01Cur):=cCons uI (q1 (uAgg cSL01CurF))
def cv53:CU (SL01Cur×Int):=cCons (uAgg cSL01CurF) (q1 uI)
def cv54:CU (Bool×SL01Cur):=cCons uB (q1 (uAgg cSL01CurF))
def cv55:CU (ByteArray×SL01Cur):=cCons uS (q1 (uAgg cSL01CurF))
def cv56:CU (SL01Cur×(List ByteArray)):=cCons (uAgg cSL01CurF) (q1 (uOne (cRsl 9)))
def cv57:CU (SThing×SL01Cur):=cCons (uAgg cSThing) (q1 (uAgg cSL01CurF))
def cv58:CU (SL01Cur×(List Int)):=cCons (uAgg cSL01CurF) (q1 (uOne (cRsl 3)))
def cv59:CU (Int×Int):=cCons uI (q1 (uOne (cInt .u8)))
def cv60:CU (Int×Int×Bool):=cCons uI (cCons uI (q1 uB))
def cSFields:CV SFields:=cIso (cCons cStr (cCons (cInt .i64) (cCons cBool cNil))) (fun p=>⟨p.1,p.2.1,p.2.2.1⟩) (fun s=>(s.fText,s.fAt,s.fBad,())) (fun _=>rfl)
def cv61:CU SFields:=q1 (uAgg cSFields)
def cv62:CU (Int×SFields):=cCons uI (q1 (uAgg cSFields))
def cv63:CU (ByteArray×SFields):=cCons uS (q1 (uAgg cSFields))
def cv64:CU (SThing×Bool):=cCons (uAgg cSThing) (q1 uB)
def cv65:CU (Bool×Int):=cCons uB (q1 uI)
def cv66:CU (SL01Cur×ByteArray):=cCons (uAgg cSL01CurF) (q1 uS)
def cSL19Cur:CV SL19Cur:=cIso (cCons cStr (cCons (cInt .i64) (cCons cBool cNil))) (fun p=>⟨p.1,p.2.1,p.2.2.1⟩) (fun s=>(s.fText,s.fAt,s.fBad,())) (fun _=>rfl)
def cv67:CU SL19Cur:=q1 (uAgg cSL19Cur)
def cv68:CU (Int×SL19Cur):=cCons uI (q1 (uAgg cSL19Cur))
def cv69:CU (SL19Cur×Int):=cCons (uAgg cSL19Cur) (q1 uI)
def cv70:CU (ByteArray×SL19Cur):=cCons uS (q1 (uAgg cSL19Cur))
def cv71:CU Int:=q1 (uOne (cInt .u8))
def cSBookF:CV SBook:=cIso (cCons cStr (cCons (cInt .i64) (cCons (cFsl 26) (cCons (cInt .i64) (cCons cStr (cCons (cInt .i64) cNil)))))) (fun p=>⟨p.1,p.2.1,p.2.2.1,p.2.2.2.1,p.2.2.2.2.1,p.2.2.2.2.2.1⟩) (fun s=>(s.fWord,s.fTries,s.fThings,s.fLast,s.fChain,s.fCount,())) (fun _=>rfl)
def cv72:CU SBook:=q1 (uAgg cSBookF)
def cSRec:CV SRec:=cIso (cCons (cInt .i64) (cCons cStr (cCons (cInt .i64) (cCons (cInt .i64) (cCons (cInt .i64) (cCons cBool (cCons cBool (cCons cBool (cCons cBool (cCons cStr (cCons (cInt .i64) cNil))))))))))) (fun p=>⟨p.1,p.2.1,p.2.2.1,⟨p.2.2.2.1,p.2.2.2.2.1,p.2.2.2.2.2.1,p.2.2.2.2.2.2.1,p.2.2.2.2.2.2.2.1,p.2.2.2.2.2.2.2.2.1,p.2.2.2.2.2.2.2.2.2.1,p.2.2.2.2.2.2.2.2.2.2.1⟩⟩) (fun s=>(s.fKind,s.fText,s.fNum,s.fThing.fId,s.fThing.fKind,s.fThing.fHidden,s.fThing.fFixed,s.fThing.fSigns,s.fThing.fWraps,s.fThing.fValue,s.fThing.fNext,())) (fun _=>rfl)
def cv73:CU SRec:=q1 (uAgg cSRec)
def cv74:CU (ByteArray×Int):=cCons uS (q1 (uOne (cInt .u8)))
def cv75:CU (ByteArray×ByteArray):=cCons uS (q1 uS)
def cv76:CU (ByteArray×Int×ByteArray):=cCons uS (cCons uI (q1 uS))
def cv77:CU (Int×ByteArray):=cCons (uOne (cInt .u32)) (q1 uS)
def cv78:CU (ByteArray×Int×SRec):=cCons uS (cCons uI (q1 (uAgg cSRec)))
def cv79:CU ((List SAct)×Bool):=cCons (uOne (cFsl 201)) (q1 uB)
def cSDisk:CV SDisk:=cIso (cCons (cRsl 223) cNil) (fun p=>⟨p.1⟩) (fun s=>(s.fFiles,())) (fun _=>rfl)
def cSDiskF:CV SDisk:=cIso (cCons (cFsl 223) cNil) (fun p=>⟨p.1⟩) (fun s=>(s.fFiles,())) (fun _=>rfl)
def cv80:CU SDisk:=q1 (uAgg cSDisk)
def cv81:CU SDisk:=q1 (uAgg cSDiskF)
def cv82:CU (SDisk×ByteArray):=cCons (uAgg cSDisk) (q1 uS)
def cv83:CU (SDisk×ByteArray):=cCons (uAgg cSDiskF) (q1 uS)
def cSFile:CV SFile:=cIso (cCons cStr (cCons cStr (cCons (cInt .i64) cNil))) (fun p=>⟨p.1,p.2.1,p.2.2.1⟩) (fun s=>(s.fName,s.fText,s.fKept,())) (fun _=>rfl)
def cv84:CU (SDisk×SFile):=cCons (uAgg cSDiskF) (q1 (uAgg cSFile))
def cSAct:CV SAct:=cIso (cCons (cInt .i64) (cCons cStr (cCons cStr (cCons cStr cNil)))) (fun p=>⟨p.1,p.2.1,p.2.2.1,p.2.2.2.1⟩) (fun s=>(s.fKind,s.fName,s.fText,s.fTo,())) (fun _=>rfl)
def cv85:CU (SDisk×SAct):=cCons (uAgg cSDisk) (q1 (uAgg cSAct))
def cv86:CU (SDisk×Bool):=cCons (uAgg cSDiskF) (q1 uB)
def cv87:CU (SDisk×(List SAct)):=cCons (uAgg cSDisk) (q1 (uOne (cRsl 201)))
def cv88:CU (SDisk×Int):=cCons (uAgg cSDiskF) (q1 uI)
def cSBook:CV SBook:=cIso (cCons cStr (cCons (cInt .i64) (cCons (cRsl 26) (cCons (cInt .i64) (cCons cStr (cCons (cInt .i64) cNil)))))) (fun p=>⟨p.1,p.2.1,p.2.2.1,p.2.2.2.1,p.2.2.2.2.1,p.2.2.2.2.2.1⟩) (fun s=>(s.fWord,s.fTries,s.fThings,s.fLast,s.fChain,s.fCount,())) (fun _=>rfl)
def cv89:CU SBook:=q1 (uAgg cSBook)
def cv90:CU (SBook×Int):=cCons (uAgg cSBook) (q1 uI)
def cv91:CU (SThing×SThing):=cCons (uAgg cSThing) (q1 (uAgg cSThing))
def cv92:CU (SBook×SThing):=cCons (uAgg cSBookF) (q1 (uAgg cSThing))
def cv93:CU (Bool×SBook):=cCons uB (q1 (uAgg cSBookF))
def cv94:CU (SBook×SRec):=cCons (uAgg cSBook) (q1 (uAgg cSRec))
def cv95:CU (SBook×Bool):=cCons (uAgg cSBookF) (q1 uB)
def cSBoxF:CV SBox:=cIso (cCons cStr (cCons cBool (cCons (cFsl 223) (cCons cStr (cCons (cInt .i64) (cCons (cFsl 26) (cCons (cInt .i64) (cCons cStr (cCons (cInt .i64) (cCons (cFsl 176) (cCons (cFsl 186) (cCons (cInt .i64) cNil)))))))))))) (fun p=>⟨p.1,p.2.1,⟨p.2.2.1⟩,⟨p.2.2.2.1,p.2.2.2.2.1,p.2.2.2.2.2.1,p.2.2.2.2.2.2.1,p.2.2.2.2.2.2.2.1,p.2.2.2.2.2.2.2.2.1⟩,p.2.2.2.2.2.2.2.2.2.1,p.2.2.2.2.2.2.2.2.2.2.1,p.2.2.2.2.2.2.2.2.2.2.2.1⟩) (fun s=>(s.fKey,s.fUp,s.fDisk.fFiles,s.fBook.fWord,s.fBook.fTries,s.fBook.fThings,s.fBook.fLast,s.fBook.fChain,s.fBook.fCount,s.fSessions,s.fLives,s.fOpened,())) (fun _=>rfl)
def cv96:CU (SBox×SRec):=cCons (uAgg cSBoxF) (q1 (uAgg cSRec))
def cv97:CU (Bool×SBox):=cCons uB (q1 (uAgg cSBoxF))
def cv98:CU (SBox×Bool):=cCons (uAgg cSBoxF) (q1 uB)
def cSCall:CV SCall:=cIso (cCons (cInt .i64) (cCons (cInt .i64) (cCons (cInt .i64) (cCons (cInt .i64) (cCons cStr (cCons cBool (cCons cBool cNil))))))) (fun p=>⟨p.1,p.2.1,p.2.2.1,p.2.2.2.1,p.2.2.2.2.1,p.2.2.2.2.2.1,p.2.2.2.2.2.2.1⟩) (fun s=>(s.fOp,s.fSession,s.fThing,s.fKind,s.fText,s.fHidden,s.fFixed,())) (fun _=>rfl)
def cv99:CU SCall:=q1 (uAgg cSCall)
def cSEvent:CV SEvent:=cIso (cCons (cInt .i64) (cCons (cInt .i64) (cCons (cInt .i64) (cCons (cInt .i64) (cCons cStr (cCons cBool (cCons cBool (cCons cBool (cCons (cRsl 3) (cCons cBool cNil)))))))))) (fun p=>⟨⟨p.1,p.2.1,p.2.2.1,p.2.2.2.1,p.2.2.2.2.1,p.2.2.2.2.2.1,p.2.2.2.2.2.2.1⟩,p.2.2.2.2.2.2.2.1,p.2.2.2.2.2.2.2.2.1,p.2.2.2.2.2.2.2.2.2.1⟩) (fun s=>(s.fCall.fOp,s.fCall.fSession,s.fCall.fThing,s.fCall.fKind,s.fCall.fText,s.fCall.fHidden,s.fCall.fFixed,s.fCut,s.fLeft,s.fRise,())) (fun _=>rfl)
def cv100:CU SEvent:=q1 (uAgg cSEvent)
def cv101:CU ((List SThing)×(List SThing)):=cCons (uOne (cRsl 26)) (q1 (uOne (cRsl 26)))
def cv102:CU (SBook×SBook):=cCons (uAgg cSBook) (q1 (uAgg cSBook))
def cv103:CU ((List ByteArray)×Int):=cCons (uOne (cFsl 9)) (q1 uI)
def cv104:CU (SRec×Bool):=cCons (uAgg cSRec) (q1 uB)
def cv105:CU ((List SRec)×Int):=cCons (uOne (cFsl 99)) (q1 uI)
def cv106:CU (SBook×(List SRec)):=cCons (uAgg cSBook) (q1 (uOne (cRsl 99)))
def cv107:CU (ByteArray×SDisk):=cCons uS (q1 (uAgg cSDisk))
def cv108:CU (SBook×(List SAct)×Bool):=cCons (uAgg cSBookF) (cCons (uOne (cFsl 201)) (q1 uB))
def cSBox:CV SBox:=cIso (cCons cStr (cCons cBool (cCons (cRsl 223) (cCons cStr (cCons (cInt .i64) (cCons (cRsl 26) (cCons (cInt .i64) (cCons cStr (cCons (cInt .i64) (cCons (cRsl 176) (cCons (cRsl 186) (cCons (cInt .i64) cNil)))))))))))) (fun p=>⟨p.1,p.2.1,⟨p.2.2.1⟩,⟨p.2.2.2.1,p.2.2.2.2.1,p.2.2.2.2.2.1,p.2.2.2.2.2.2.1,p.2.2.2.2.2.2.2.1,p.2.2.2.2.2.2.2.2.1⟩,p.2.2.2.2.2.2.2.2.2.1,p.2.2.2.2.2.2.2.2.2.2.1,p.2.2.2.2.2.2.2.2.2.2.2.1⟩) (fun s=>(s.fKey,s.fUp,s.fDisk.fFiles,s.fBook.fWord,s.fBook.fTries,s.fBook.fThings,s.fBook.fLast,s.fBook.fChain,s.fBook.fCount,s.fSessions,s.fLives,s.fOpened,())) (fun _=>rfl)
def cv109:CU SBox:=q1 (uAgg cSBox)
def cSLifeF:CV SLife:=cIso (cCons cStr (cCons cBool (cCons (cFsl 223) (cCons cStr (cCons (cInt .i64) (cCons (cFsl 26) (cCons (cInt .i64) (cCons cStr (cCons (cInt .i64) (cCons (cFsl 176) (cCons (cFsl 186) (cCons (cInt .i64) (cCons (cFsl 3) (cCons (cFsl 9) (cCons (cFsl 65) (cCons (cFsl 99) cNil)))))))))))))))) (fun p=>⟨⟨p.1,p.2.1,⟨p.2.2.1⟩,⟨p.2.2.2.1,p.2.2.2.2.1,p.2.2.2.2.2.1,p.2.2.2.2.2.2.1,p.2.2.2.2.2.2.2.1,p.2.2.2.2.2.2.2.2.1⟩,p.2.2.2.2.2.2.2.2.2.1,p.2.2.2.2.2.2.2.2.2.2.1,p.2.2.2.2.2.2.2.2.2.2.2.1⟩,p.2.2.2.2.2.2.2.2.2.2.2.2.1,p.2.2.2.2.2.2.2.2.2.2.2.2.2.1,p.2.2.2.2.2.2.2.2.2.2.2.2.2.2.1,p.2.2.2.2.2.2.2.2.2.2.2.2.2.2.2.1⟩) (fun s=>(s.fBox.fKey,s.fBox.fUp,s.fBox.fDisk.fFiles,s.fBox.fBook.fWord,s.fBox.fBook.fTries,s.fBox.fBook.fThings,s.fBox.fBook.fLast,s.fBox.fBook.fChain,s.fBox.fBook.fCount,s.fBox.fSessions,s.fBox.fLives,s.fBox.fOpened,s.fCodes,s.fReplies,s.fGives,s.fDone,())) (fun _=>rfl)
def cv110:CU (SLife×Int×ByteArray):=cCons (uAgg cSLifeF) (cCons uI (q1 uS))
def cv111:CU SLife:=q1 (uAgg cSLifeF)
def cv112:CU ((List SRec)×Int×ByteArray):=cCons (uOne (cFsl 99)) (cCons uI (q1 uS))
def cv113:CU ((List Int)×Int):=cCons (uOne (cFsl 5)) (q1 (uOne (cInt .u64)))
def cv114:CU (List Int):=q1 (uAgg (cIso (cCons (cFsl 5) cNil) (fun p=>p.1) (fun s=>(s,())) (fun _=>rfl)))
def cv115:CU ((List Int)×Int×Int×Bool×Bool):=cCons (uOne (cFsl 5)) (cCons (uOne (cInt .u64)) (cCons uI (cCons uB (q1 uB))))
def cv116:CU ((List Int)×ByteArray):=cCons (uOne (cFsl 5)) (q1 uS)
def cv117:CU (SBox×Int):=cCons (uAgg cSBox) (q1 uI)
def cv118:CU (SBox×SCall):=cCons (uAgg cSBox) (q1 (uAgg cSCall))
def cv119:CU (Int×ByteArray):=cCons uI (q1 uS)
def cv120:CU (SBox×SCall×SThing×Bool):=cCons (uAgg cSBox) (cCons (uAgg cSCall) (cCons (uAgg cSThing) (q1 uB)))
def cv121:CU ((List ByteArray)×Int×ByteArray):=cCons (uOne (cRsl 9)) (cCons uI (q1 uS))
def cSSigF:CV SSig:=cIso (cCons (cInt .i64) (cCons (cFsl 9) (cCons (cFsl 9) cNil))) (fun p=>⟨p.1,p.2.1,p.2.2.1⟩) (fun s=>(s.fLeaf,s.fOnce,s.fPath,())) (fun _=>rfl)
def cv122:CU (SSig×Bool):=cCons (uAgg cSSigF) (q1 uB)
def cSHyperF:CV SHyper:=cIso (cCons (cInt .i64) (cCons (cFsl 9) (cCons (cFsl 9) (cCons cStr (cCons (cInt .i64) (cCons (cFsl 9) (cCons (cFsl 9) cNil))))))) (fun p=>⟨⟨p.1,p.2.1,p.2.2.1⟩,p.2.2.2.1,⟨p.2.2.2.2.1,p.2.2.2.2.2.1,p.2.2.2.2.2.2.1⟩⟩) (fun s=>(s.fTop.fLeaf,s.fTop.fOnce,s.fTop.fPath,s.fRoot,s.fLow.fLeaf,s.fLow.fOnce,s.fLow.fPath,())) (fun _=>rfl)
def cv123:CU (SHyper×Bool):=cCons (uAgg cSHyperF) (q1 uB)
def cSSig:CV SSig:=cIso (cCons (cInt .i64) (cCons (cRsl 9) (cCons (cRsl 9) cNil))) (fun p=>⟨p.1,p.2.1,p.2.2.1⟩) (fun s=>(s.fLeaf,s.fOnce,s.fPath,())) (fun _=>rfl)
def cv124:CU SSig:=q1 (uAgg cSSig)
def cSHyper:CV SHyper:=cIso (cCons (cInt .i64) (cCons (cRsl 9) (cCons (cRsl 9) (cCons cStr (cCons (cInt .i64) (cCons (cRsl 9) (cCons (cRsl 9) cNil))))))) (fun p=>⟨⟨p.1,p.2.1,p.2.2.1⟩,p.2.2.2.1,⟨p.2.2.2.2.1,p.2.2.2.2.2.1,p.2.2.2.2.2.2.1⟩⟩) (fun s=>(s.fTop.fLeaf,s.fTop.fOnce,s.fTop.fPath,s.fRoot,s.fLow.fLeaf,s.fLow.fOnce,s.fLow.fPath,())) (fun _=>rfl)
def cv125:CU SHyper:=q1 (uAgg cSHyper)
def cv126:CU (SBox×SCall×SThing):=cCons (uAgg cSBox) (cCons (uAgg cSCall) (q1 (uAgg cSThing)))
def cv127:CU (SThing×Bool×Bool):=cCons (uAgg cSThing) (cCons uB (q1 uB))
def cv128:CU (SDisk×(List Int)):=cCons (uAgg cSDisk) (q1 (uOne (cRsl 3)))
def cv129:CU (SDisk×(List SAct)×Int×(List Int)):=cCons (uAgg cSDisk) (cCons (uOne (cRsl 201)) (cCons uI (q1 (uOne (cRsl 3)))))
def cv130:CU SBox:=q1 (uAgg cSBoxF)
def cv131:CU (SLife×SRec×(List Int)):=cCons (uAgg cSLifeF) (cCons (uAgg cSRec) (q1 (uOne (cRsl 3))))
def cv132:CU (SBox×Int×Int):=cCons (uAgg cSBoxF) (cCons uI (q1 uI))
def cv133:CU (SBox×SCall×Int×Int):=cCons (uAgg cSBox) (cCons (uAgg cSCall) (cCons uI (q1 uI)))
def cv134:CU (SLife×SEvent×Int):=cCons (uAgg cSLifeF) (cCons (uAgg cSEvent) (q1 uI))
def cv135:CU (ByteArray×ByteArray×(List SEvent)):=cCons uS (cCons uS (q1 (uOne (cRsl 45))))
def cv136:CU (SLife×Bool):=cCons (uAgg cSLifeF) (q1 uB)
def cv137:CU ((List SGiven)×Int):=cCons (uOne (cRsl 65)) (q1 uI)
end Go.Proofs.YtnmmhkanpfmaaaaGreatDoor.G

/- The seat's tables: its types, what an element of each is, and what its functions do with what they are given. -/
import Derived.Test.YtkbbicgglblfiaaGreatDoorSnd38
import Derived.Test.YtkbbicgglblfiaaGreatDoorArr
import Derived.Test.YtkbbicgglblfiaaGreatDoorProg
import Derived.KernelRfl
namespace Go.Proofs.YtkbbicgglblfiaaGreatDoor.G
open Go Go.Ev
structure BQ where
  fName:AA
  fText:AA
  J3:Int
structure BU where
  Ak:(List BQ)
structure Af where
  fId:Int
  Aj:Int
  CY:Bool
  CX:Bool
  Gw:Bool
  GH:Bool
  fValue:AA
  fNext:Int
structure Bo where
  Bv:AA
  DU:Int
  AZ:(List Af)
  BM:Int
  Dh:AA
  fCount:Int
structure EG where
  fId:Int
  QW:Bool
structure CS where
  fId:Int
  fNext:Int
structure Ap where
  BO:AA
  CZ:Bool
  Bc:BU
  AU:Bo
  BP:(List EG)
  BD:(List CS)
  CW:Int
structure D8 where
  Ag:Int
  Dv:Int
  AUi:Int
structure Ah where
  Aj:Int
  fText:AA
  DR:Int
  Ag:Af
structure Bg where
  AX:Ap
  Bq:(List Int)
  EN:(List AA)
  Cm:(List D8)
  CO:(List Ah)
structure IL where
  Dv:Int
  Fg:(List AA)
  Gn:(List AA)
structure Nl where
  QU:IL
  QS:AA
  QV:IL
structure CV where
  Au:Int
  EJ:Int
  Ag:Int
  Aj:Int
  fText:AA
  CY:Bool
  CX:Bool
structure DW where
  BA:CV
  Nr:Bool
  Lc:(List Int)
  JY:Bool
structure PO where
  BO:AA
  Bv:AA
  wG:(List DW)
structure DZ where
  AsQ:Unit
  fI:Int
  AyA:Int
structure Ef where
  Aj:Int
  fName:AA
  fText:AA
  I8:AA
structure IW where
  F7:AA
  Np:AA
  fCount:Int
structure Ky where
  bH:AA
  bI:AA
structure Jz where
  fText:AA
  ER:Int
  I7:Bool
structure Kw where
  fText:AA
  ER:Int
  I7:Bool
structure F6 where
  F7:AA
  ER:Int
def els:List (Nat×Ws):=[(2,⟨Int,0⟩),(3,⟨Int,0⟩),(4,⟨Bool,false⟩),(5,⟨Int,0⟩),(9,⟨AA,⟨#[]⟩⟩),(22,⟨(List Int),[]⟩),(24,⟨(List DW),[]⟩),(27,⟨(List BQ),[]⟩),(29,⟨BU,⟨[]⟩⟩),(30,⟨(List Af),[]⟩),(32,⟨Bo,⟨⟨#[]⟩,0,[],0,⟨#[]⟩,0⟩⟩),(33,⟨(List EG),[]⟩),(34,⟨(List CS),[]⟩),(36,⟨Ap,⟨⟨#[]⟩,false,⟨[]⟩,⟨⟨#[]⟩,0,[],0,⟨#[]⟩,0⟩,[],[],0⟩⟩),(37,⟨(List Int),[]⟩),(38,⟨(List AA),[]⟩),(39,⟨(List D8),[]⟩),(40,⟨(List Ah),[]⟩),(42,⟨Bg,⟨⟨⟨#[]⟩,false,⟨[]⟩,⟨⟨#[]⟩,0,[],0,⟨#[]⟩,0⟩,[],[],0⟩,[],[],[],[]⟩⟩),(48,⟨D8,⟨0,0,0⟩⟩),(50,⟨IL,⟨0,[],[]⟩⟩),(52,⟨Nl,⟨⟨0,[],[]⟩,⟨#[]⟩,⟨0,[],[]⟩⟩⟩),(63,⟨PO,⟨⟨#[]⟩,⟨#[]⟩,[]⟩⟩),(65,⟨Bool,false⟩),(70,⟨CV,⟨0,0,0,0,⟨#[]⟩,false,false⟩⟩),(72,⟨DW,⟨⟨0,0,0,0,⟨#[]⟩,false,false⟩,false,[],false⟩⟩),(76,⟨Af,⟨0,0,false,false,false,false,⟨#[]⟩,0⟩⟩),(78,⟨Ah,⟨0,⟨#[]⟩,0,⟨0,0,false,false,false,false,⟨#[]⟩,0⟩⟩⟩),(82,⟨Bool,false⟩),(90,⟨BQ,⟨⟨#[]⟩,⟨#[]⟩,0⟩⟩),(95,⟨(List Ef),[]⟩),(105,⟨Bools 3,YV 3⟩),(108,⟨Int,0⟩),(109,⟨Bools 8,YV 8⟩),(127,⟨EG,⟨0,false⟩⟩),(136,⟨Ef,⟨0,⟨#[]⟩,⟨#[]⟩,⟨#[]⟩⟩⟩),(145,⟨Bool,false⟩),(157,⟨CS,⟨0,0⟩⟩),(162,⟨IW,⟨⟨#[]⟩,⟨#[]⟩,0⟩⟩),(175,⟨Bool,false⟩),(176,⟨Int,0⟩),(184,⟨Bools 64,YV 64⟩),(193,⟨Ky,⟨⟨#[]⟩,⟨#[]⟩⟩⟩),(200,⟨(List Int),[]⟩),(216,⟨Bool,false⟩),(218,⟨Jz,⟨⟨#[]⟩,0,false⟩⟩),(228,⟨Bool,false⟩),(230,⟨Kw,⟨⟨#[]⟩,0,false⟩⟩),(235,⟨(List (List Int)),[]⟩),(244,⟨Bool,false⟩),(254,⟨(List Bool),[]⟩),(255,⟨Bool,false⟩),(273,⟨Bools 24,YV 24⟩),(274,⟨Int,0⟩),(287,⟨F6,⟨⟨#[]⟩,0⟩⟩),(312,⟨Bools 25,YV 25⟩),(319,⟨(List Int),[]⟩),(323,⟨Bools 5,YV 5⟩)]
def Kz:List (Nat×aX):=[(2,⟨1,8,.int .i64⟩),(3,⟨1,8,.int .i64⟩),(4,⟨1,1,.bool⟩),(5,⟨1,1,.int .u8⟩),(9,⟨1,16,.str⟩),(22,⟨1,24,.sl 5⟩),(24,⟨1,24,.sl 72⟩),(27,⟨1,24,.sl 90⟩),(29,⟨1,24,.st [(27,0)]⟩),(30,⟨1,24,.sl 76⟩),(32,⟨6,80,.st [(9,0),(3,1),(30,2),(3,3),(9,4),(3,5)]⟩),(33,⟨1,24,.sl 127⟩),(34,⟨1,24,.sl 157⟩),(36,⟨12,184,.st [(9,0),(4,1),(29,2),(32,3),(33,9),(34,10),(3,11)]⟩),(37,⟨1,24,.sl 3⟩),(38,⟨1,24,.sl 9⟩),(39,⟨1,24,.sl 48⟩),(40,⟨1,24,.sl 78⟩),(42,⟨16,280,.st [(36,0),(37,12),(38,13),(39,14),(40,15)]⟩),(48,⟨3,24,.st [(3,0),(3,1),(3,2)]⟩),(50,⟨3,56,.st [(3,0),(38,1),(38,2)]⟩),(52,⟨7,128,.st [(50,0),(9,3),(50,4)]⟩),(63,⟨3,56,.st [(9,0),(9,1),(24,2)]⟩),(65,⟨1,8,.ptr 105⟩),(70,⟨7,56,.st [(3,0),(3,1),(3,2),(3,3),(9,4),(4,5),(4,6)]⟩),(72,⟨10,96,.st [(70,0),(4,7),(37,8),(4,9)]⟩),(76,⟨8,48,.st [(3,0),(3,1),(4,2),(4,3),(4,4),(4,5),(9,6),(3,7)]⟩),(78,⟨11,80,.st [(3,0),(9,1),(3,2),(76,3)]⟩),(82,⟨1,8,.ptr 42⟩),(90,⟨3,40,.st [(9,0),(9,1),(3,2)]⟩),(95,⟨1,24,.sl 136⟩),(105,⟨3,40,.st [(22,0),(3,1),(3,2)]⟩),(108,⟨1,4,.int .u32⟩),(109,⟨8,32,.arr 8 108⟩),(127,⟨2,16,.st [(3,0),(4,1)]⟩),(136,⟨4,56,.st [(3,0),(9,1),(9,2),(9,3)]⟩),(145,⟨1,8,.ptr 36⟩),(157,⟨2,16,.st [(3,0),(3,1)]⟩),(162,⟨3,40,.st [(9,0),(9,1),(3,2)]⟩),(175,⟨1,8,.ptr 32⟩),(176,⟨1,8,.int .u64⟩),(184,⟨64,256,.arr 64 108⟩),(193,⟨2,32,.st [(9,0),(9,1)]⟩),(200,⟨1,24,.sl 108⟩),(216,⟨1,8,.ptr 218⟩),(218,⟨3,32,.st [(9,0),(3,1),(4,2)]⟩),(228,⟨1,8,.ptr 230⟩),(230,⟨3,32,.st [(9,0),(3,1),(4,2)]⟩),(235,⟨1,24,.sl 37⟩),(244,⟨1,8,.ptr 90⟩),(254,⟨1,24,.sl 4⟩),(255,⟨1,8,.ptr 29⟩),(273,⟨24,24,.arr 24 5⟩),(274,⟨1,8,.int .u64⟩),(287,⟨2,24,.st [(9,0),(3,1)]⟩),(312,⟨25,200,.arr 25 274⟩),(319,⟨1,24,.sl 274⟩),(323,⟨5,40,.arr 5 274⟩)]
def AfJ:EL (EH els):=⟨2,[.int .i64],fun (x:Int)=>[.int .i64 x],fun cs=>AyS cs 0,(0:Int),some ⟨rfl⟩⟩
def AfK:EL (EH els):=⟨3,[.int .i64],fun (x:Int)=>[.int .i64 x],fun cs=>AyS cs 0,(0:Int),some ⟨rfl⟩⟩
def AfL:EL (EH els):=⟨4,[.bool],fun (x:Bool)=>[.bool x],fun cs=>Axu cs 0,false,none⟩
def AfM:EL (EH els):=⟨5,[.int .u8],fun (x:Int)=>[.int .u8 x],fun cs=>AyS cs 0,(0:Int),some ⟨rfl⟩⟩
def AfN:EL (EH els):=⟨9,[.str],fun (x:AA)=>[.str x],fun cs=>AxH cs 0,(⟨#[]⟩:AA),none⟩
def AeJ:EL (EH els):=⟨22,[.sl 5],fun (x:(List Int))=>[.BG 5 x],fun cs=>Ay2 cs 0 5,[],none⟩
def AeK:EL (EH els):=⟨24,[.sl 72],fun (x:(List DW))=>[.BG 72 x],fun cs=>Ay2 cs 0 72,[],none⟩
def AeL:EL (EH els):=⟨27,[.sl 90],fun (x:(List BQ))=>[.BG 90 x],fun cs=>Ay2 cs 0 90,[],none⟩
def AeM:EL (EH els):=⟨29,[.sl 90],fun (x:BU)=>[.BG 90 x.Ak],fun cs=>⟨Ay2 cs 0 90⟩,(⟨[]⟩:BU),none⟩
def AeN:EL (EH els):=⟨30,[.sl 76],fun (x:(List Af))=>[.BG 76 x],fun cs=>Ay2 cs 0 76,[],none⟩
def AeO:EL (EH els):=⟨32,[.str,.int .i64,.sl 76,.int .i64,.str,.int .i64],fun (x:Bo)=>[.str x.Bv,.int .i64 x.DU,.BG 76 x.AZ,.int .i64 x.BM,.str x.Dh,.int .i64 x.fCount],fun cs=>⟨AxH cs 0,AyS cs 1,Ay2 cs 2 76,AyS cs 3,AxH cs 4,AyS cs 5⟩,(⟨⟨#[]⟩,0,[],0,⟨#[]⟩,0⟩:Bo),none⟩
def AeP:EL (EH els):=⟨33,[.sl 127],fun (x:(List EG))=>[.BG 127 x],fun cs=>Ay2 cs 0 127,[],none⟩
def AeQ:EL (EH els):=⟨34,[.sl 157],fun (x:(List CS))=>[.BG 157 x],fun cs=>Ay2 cs 0 157,[],none⟩
def AeR:EL (EH els):=⟨36,[.str,.bool,.sl 90,.str,.int .i64,.sl 76,.int .i64,.str,.int .i64,.sl 127,.sl 157,.int .i64],fun (x:Ap)=>[.str x.BO,.bool x.CZ,.BG 90 x.Bc.Ak,.str x.AU.Bv,.int .i64 x.AU.DU,.BG 76 x.AU.AZ,.int .i64 x.AU.BM,.str x.AU.Dh,.int .i64 x.AU.fCount,.BG 127 x.BP,.BG 157 x.BD,.int .i64 x.CW],fun cs=>⟨AxH cs 0,Axu cs 1,⟨Ay2 cs 2 90⟩,⟨AxH cs 3,AyS cs 4,Ay2 cs 5 76,AyS cs 6,AxH cs 7,AyS cs 8⟩,Ay2 cs 9 127,Ay2 cs 10 157,AyS cs 11⟩,(⟨⟨#[]⟩,false,⟨[]⟩,⟨⟨#[]⟩,0,[],0,⟨#[]⟩,0⟩,[],[],0⟩:Ap),none⟩
def AeS:EL (EH els):=⟨37,[.sl 3],fun (x:(List Int))=>[.BG 3 x],fun cs=>Ay2 cs 0 3,[],none⟩
def AeT:EL (EH els):=⟨38,[.sl 9],fun (x:(List AA))=>[.BG 9 x],fun cs=>Ay2 cs 0 9,[],none⟩
def AeU:EL (EH els):=⟨39,[.sl 48],fun (x:(List D8))=>[.BG 48 x],fun cs=>Ay2 cs 0 48,[],none⟩
def AeV:EL (EH els):=⟨40,[.sl 78],fun (x:(List Ah))=>[.BG 78 x],fun cs=>Ay2 cs 0 78,[],none⟩
def AeW:EL (EH els):=⟨42,[.str,.bool,.sl 90,.str,.int .i64,.sl 76,.int .i64,.str,.int .i64,.sl 127,.sl 157,.int .i64,.sl 3,.sl 9,.sl 48,.sl 78],fun (x:Bg)=>[.str x.AX.BO,.bool x.AX.CZ,.BG 90 x.AX.Bc.Ak,.str x.AX.AU.Bv,.int .i64 x.AX.AU.DU,.BG 76 x.AX.AU.AZ,.int .i64 x.AX.AU.BM,.str x.AX.AU.Dh,.int .i64 x.AX.AU.fCount,.BG 127 x.AX.BP,.BG 157 x.AX.BD,.int .i64 x.AX.CW,.BG 3 x.Bq,.BG 9 x.EN,.BG 48 x.Cm,.BG 78 x.CO],fun cs=>⟨⟨AxH cs 0,Axu cs 1,⟨Ay2 cs 2 90⟩,⟨AxH cs 3,AyS cs 4,Ay2 cs 5 76,AyS cs 6,AxH cs 7,AyS cs 8⟩,Ay2 cs 9 127,Ay2 cs 10 157,AyS cs 11⟩,Ay2 cs 12 3,Ay2 cs 13 9,Ay2 cs 14 48,Ay2 cs 15 78⟩,(⟨⟨⟨#[]⟩,false,⟨[]⟩,⟨⟨#[]⟩,0,[],0,⟨#[]⟩,0⟩,[],[],0⟩,[],[],[],[]⟩:Bg),none⟩
def AeX:EL (EH els):=⟨48,[.int .i64,.int .i64,.int .i64],fun (x:D8)=>[.int .i64 x.Ag,.int .i64 x.Dv,.int .i64 x.AUi],fun cs=>⟨AyS cs 0,AyS cs 1,AyS cs 2⟩,(⟨0,0,0⟩:D8),none⟩
def AeY:EL (EH els):=⟨50,[.int .i64,.sl 9,.sl 9],fun (x:IL)=>[.int .i64 x.Dv,.BG 9 x.Fg,.BG 9 x.Gn],fun cs=>⟨AyS cs 0,Ay2 cs 1 9,Ay2 cs 2 9⟩,(⟨0,[],[]⟩:IL),none⟩
def AeZ:EL (EH els):=⟨52,[.int .i64,.sl 9,.sl 9,.str,.int .i64,.sl 9,.sl 9],fun (x:Nl)=>[.int .i64 x.QU.Dv,.BG 9 x.QU.Fg,.BG 9 x.QU.Gn,.str x.QS,.int .i64 x.QV.Dv,.BG 9 x.QV.Fg,.BG 9 x.QV.Gn],fun cs=>⟨⟨AyS cs 0,Ay2 cs 1 9,Ay2 cs 2 9⟩,AxH cs 3,⟨AyS cs 4,Ay2 cs 5 9,Ay2 cs 6 9⟩⟩,(⟨⟨0,[],[]⟩,⟨#[]⟩,⟨0,[],[]⟩⟩:Nl),none⟩
def Aea:EL (EH els):=⟨63,[.str,.str,.sl 72],fun (x:PO)=>[.str x.BO,.str x.Bv,.BG 72 x.wG],fun cs=>⟨AxH cs 0,AxH cs 1,Ay2 cs 2 72⟩,(⟨⟨#[]⟩,⟨#[]⟩,[]⟩:PO),none⟩
def Aeb:EL (EH els):=⟨65,[.bool],fun (x:Bool)=>[.bool x],fun cs=>Axu cs 0,false,none⟩
def Aec:EL (EH els):=⟨70,[.int .i64,.int .i64,.int .i64,.int .i64,.str,.bool,.bool],fun (x:CV)=>[.int .i64 x.Au,.int .i64 x.EJ,.int .i64 x.Ag,.int .i64 x.Aj,.str x.fText,.bool x.CY,.bool x.CX],fun cs=>⟨AyS cs 0,AyS cs 1,AyS cs 2,AyS cs 3,AxH cs 4,Axu cs 5,Axu cs 6⟩,(⟨0,0,0,0,⟨#[]⟩,false,false⟩:CV),none⟩
def Aed:EL (EH els):=⟨72,[.int .i64,.int .i64,.int .i64,.int .i64,.str,.bool,.bool,.bool,.sl 3,.bool],fun (x:DW)=>[.int .i64 x.BA.Au,.int .i64 x.BA.EJ,.int .i64 x.BA.Ag,.int .i64 x.BA.Aj,.str x.BA.fText,.bool x.BA.CY,.bool x.BA.CX,.bool x.Nr,.BG 3 x.Lc,.bool x.JY],fun cs=>⟨⟨AyS cs 0,AyS cs 1,AyS cs 2,AyS cs 3,AxH cs 4,Axu cs 5,Axu cs 6⟩,Axu cs 7,Ay2 cs 8 3,Axu cs 9⟩,(⟨⟨0,0,0,0,⟨#[]⟩,false,false⟩,false,[],false⟩:DW),none⟩
def Aee:EL (EH els):=⟨76,[.int .i64,.int .i64,.bool,.bool,.bool,.bool,.str,.int .i64],fun (x:Af)=>[.int .i64 x.fId,.int .i64 x.Aj,.bool x.CY,.bool x.CX,.bool x.Gw,.bool x.GH,.str x.fValue,.int .i64 x.fNext],fun cs=>⟨AyS cs 0,AyS cs 1,Axu cs 2,Axu cs 3,Axu cs 4,Axu cs 5,AxH cs 6,AyS cs 7⟩,(⟨0,0,false,false,false,false,⟨#[]⟩,0⟩:Af),none⟩
def Aef:EL (EH els):=⟨78,[.int .i64,.str,.int .i64,.int .i64,.int .i64,.bool,.bool,.bool,.bool,.str,.int .i64],fun (x:Ah)=>[.int .i64 x.Aj,.str x.fText,.int .i64 x.DR,.int .i64 x.Ag.fId,.int .i64 x.Ag.Aj,.bool x.Ag.CY,.bool x.Ag.CX,.bool x.Ag.Gw,.bool x.Ag.GH,.str x.Ag.fValue,.int .i64 x.Ag.fNext],fun cs=>⟨AyS cs 0,AxH cs 1,AyS cs 2,⟨AyS cs 3,AyS cs 4,Axu cs 5,Axu cs 6,Axu cs 7,Axu cs 8,AxH cs 9,AyS cs 10⟩⟩,(⟨0,⟨#[]⟩,0,⟨0,0,false,false,false,false,⟨#[]⟩,0⟩⟩:Ah),none⟩
def Aeg:EL (EH els):=⟨82,[.bool],fun (x:Bool)=>[.bool x],fun cs=>Axu cs 0,false,none⟩
def Aeh:EL (EH els):=⟨90,[.str,.str,.int .i64],fun (x:BQ)=>[.str x.fName,.str x.fText,.int .i64 x.J3],fun cs=>⟨AxH cs 0,AxH cs 1,AyS cs 2⟩,(⟨⟨#[]⟩,⟨#[]⟩,0⟩:BQ),none⟩
def Aei:EL (EH els):=⟨95,[.sl 136],fun (x:(List Ef))=>[.BG 136 x],fun cs=>Ay2 cs 0 136,[],none⟩
def Adm:EL (EH els):=⟨105,bG 3 (fun x=>x) (fun x=>x)⟩
def Adn:EL (EH els):=⟨108,[.int .u32],fun (x:Int)=>[.int .u32 x],fun cs=>AyS cs 0,(0:Int),some ⟨rfl⟩⟩
def Ado:EL (EH els):=⟨109,bG 8 (fun x=>x) (fun x=>x)⟩
def Adp:EL (EH els):=⟨127,[.int .i64,.bool],fun (x:EG)=>[.int .i64 x.fId,.bool x.QW],fun cs=>⟨AyS cs 0,Axu cs 1⟩,(⟨0,false⟩:EG),none⟩
def Adq:EL (EH els):=⟨136,[.int .i64,.str,.str,.str],fun (x:Ef)=>[.int .i64 x.Aj,.str x.fName,.str x.fText,.str x.I8],fun cs=>⟨AyS cs 0,AxH cs 1,AxH cs 2,AxH cs 3⟩,(⟨0,⟨#[]⟩,⟨#[]⟩,⟨#[]⟩⟩:Ef),none⟩
def Adr:EL (EH els):=⟨145,[.bool],fun (x:Bool)=>[.bool x],fun cs=>Axu cs 0,false,none⟩
def Ads:EL (EH els):=⟨157,[.int .i64,.int .i64],fun (x:CS)=>[.int .i64 x.fId,.int .i64 x.fNext],fun cs=>⟨AyS cs 0,AyS cs 1⟩,(⟨0,0⟩:CS),none⟩
def Adt:EL (EH els):=⟨162,[.str,.str,.int .i64],fun (x:IW)=>[.str x.F7,.str x.Np,.int .i64 x.fCount],fun cs=>⟨AxH cs 0,AxH cs 1,AyS cs 2⟩,(⟨⟨#[]⟩,⟨#[]⟩,0⟩:IW),none⟩
def Adu:EL (EH els):=⟨175,[.bool],fun (x:Bool)=>[.bool x],fun cs=>Axu cs 0,false,none⟩
def Adv:EL (EH els):=⟨176,[.int .u64],fun (x:Int)=>[.int .u64 x],fun cs=>AyS cs 0,(0:Int),some ⟨rfl⟩⟩
def Adw:EL (EH els):=⟨184,bG 64 (fun x=>x) (fun x=>x)⟩
def Adx:EL (EH els):=⟨193,[.str,.str],fun (x:Ky)=>[.str x.bH,.str x.bI],fun cs=>⟨AxH cs 0,AxH cs 1⟩,(⟨⟨#[]⟩,⟨#[]⟩⟩:Ky),none⟩
def Ady:EL (EH els):=⟨200,[.sl 108],fun (x:(List Int))=>[.BG 108 x],fun cs=>Ay2 cs 0 108,[],none⟩
def Adz:EL (EH els):=⟨216,[.bool],fun (x:Bool)=>[.bool x],fun cs=>Axu cs 0,false,none⟩
def Ad0:EL (EH els):=⟨218,[.str,.int .i64,.bool],fun (x:Jz)=>[.str x.fText,.int .i64 x.ER,.bool x.I7],fun cs=>⟨AxH cs 0,AyS cs 1,Axu cs 2⟩,(⟨⟨#[]⟩,0,false⟩:Jz),none⟩
def Ad1:EL (EH els):=⟨228,[.bool],fun (x:Bool)=>[.bool x],fun cs=>Axu cs 0,false,none⟩
def Ad2:EL (EH els):=⟨230,[.str,.int .i64,.bool],fun (x:Kw)=>[.str x.fText,.int .i64 x.ER,.bool x.I7],fun cs=>⟨AxH cs 0,AyS cs 1,Axu cs 2⟩,(⟨⟨#[]⟩,0,false⟩:Kw),none⟩
def Ad3:EL (EH els):=⟨235,[.sl 37],fun (x:(List (List Int)))=>[.BG 37 x],fun cs=>Ay2 cs 0 37,[],none⟩
def Ad4:EL (EH els):=⟨244,[.bool],fun (x:Bool)=>[.bool x],fun cs=>Axu cs 0,false,none⟩
def Ad5:EL (EH els):=⟨254,[.sl 4],fun (x:(List Bool))=>[.BG 4 x],fun cs=>Ay2 cs 0 4,[],none⟩
def Ad6:EL (EH els):=⟨255,[.bool],fun (x:Bool)=>[.bool x],fun cs=>Axu cs 0,false,none⟩
def Ad7:EL (EH els):=⟨273,bG 24 (fun x=>x) (fun x=>x)⟩
def Ad8:EL (EH els):=⟨274,[.int .u64],fun (x:Int)=>[.int .u64 x],fun cs=>AyS cs 0,(0:Int),some ⟨rfl⟩⟩
def Ad9:EL (EH els):=⟨287,[.str,.int .i64],fun (x:F6)=>[.str x.F7,.int .i64 x.ER],fun cs=>⟨AxH cs 0,AyS cs 1⟩,(⟨⟨#[]⟩,0⟩:F6),none⟩
def AeA:EL (EH els):=⟨312,bG 25 (fun x=>x) (fun x=>x)⟩
def AeB:EL (EH els):=⟨319,[.sl 274],fun (x:(List Int))=>[.BG 274 x],fun cs=>Ay2 cs 0 274,[],none⟩
def AeC:EL (EH els):=⟨323,bG 5 (fun x=>x) (fun x=>x)⟩
def ents:List (EL (EH els)):=[AfJ,AfK,AfL,AfM,AfN,AeJ,AeK,AeL,AeM,AeN,AeO,AeP,AeQ,AeR,AeS,AeT,AeU,AeV,AeW,AeX,AeY,AeZ,Aea,Aeb,Aec,Aed,Aee,Aef,Aeg,Aeh,Aei,Adm,Adn,Ado,Adp,Adq,Adr,Ads,Adt,Adu,Adv,Adw,Adx,Ady,Adz,Ad0,Ad1,Ad2,Ad3,Ad4,Ad5,Ad6,Ad7,Ad8,Ad9,AeA,AeB,AeC]
def modes:List (Nat×List Mode'):=[(183,[.mv,.rd]),(383,[.mv]),(290,[.io,.rd]),(291,[.mv,.rd,.rd,.rd,.rd])]
def cuts:List (Nat×List (Nat×(List Nat×List Nat×List (Nat×Nat)×List (Nat×Nat×Nat)))):=[(27,[(3,([0,3,4],[],[(0,5)],[]))]),
  (57,[(3,([0,1,5,6],[],[(5,5)],[]))]),
  (180,[(3,([0,3,4],[],[(0,108),(3,5)],[]))]),
  (177,[(3,([0,3,4],[],[(3,108)],[]))]),
  (179,[(3,([0,1,7,8],[],[(0,108),(1,108),(7,108)],[])),(8,([0,1,7,9,10],[],[(0,108),(1,108),(7,108),(9,108)],[])),(16,([0,1,7,9,10,13,15,16],[],[(0,108),(1,108),(7,108),(9,108)],[])),(23,([0,9,17,18],[],[(0,108),(9,108),(17,108)],[]))]),
  (125,[(7,([1,2,4,5,6,7,8],[128,256],[(5,108),(6,108)],[]))]),
  (124,[(5,([1,3],[64],[(3,5)],[])),(9,([1,3,4,5],[64],[(3,5)],[])),(13,([1,3,4,5,6,7],[64],[(3,5)],[])),(20,([3,8,9,10],[],[(3,5),(8,108),(9,108)],[]))]),
  (148,[(2,([0,3],[],[(3,5)],[]))]),
  (86,[(4,([1,3],[64],[],[(64,2,76)]))]),
  (56,[(2,([1,2,4,6],[128,256],[],[(128,2,76)]))]),
  (102,[(3,([0,3,5,6],[192],[(0,76),(5,76)],[])),(9,([0,3,5,7],[192],[(0,76),(5,76)],[]))]),
  (55,[(24,([2,3,4,6,8,13,14],[128,192,256,512],[(13,76)],[(128,2,76),(256,2,76),(512,2,76)]))]),
  (287,[(5,([0,1,5,6],[],[(5,5)],[]))]),
  (202,[(5,([0,1,2,8,9],[],[(8,5)],[]))]),
  (205,[(3,([1,5,6],[],[(5,5)],[]))]),
  (258,[(2,([0,1,5],[],[],[])),(6,([0,1,5,6],[],[],[]))]),
  (85,[(4,([1,3],[64],[],[(64,0,90)]))]),
  (96,[(2,([1,2,5],[128],[],[(128,0,90)]))]),
  (251,[(3,([2,3,4,5,6],[128,192,256,320],[],[(128,0,90),(256,0,90),(320,0,90)])),(9,([2,3,4,5,7],[128,192,256,320],[],[(128,0,90),(256,0,90),(320,0,90)]))]),
  (252,[(3,([1,2,4,5,6],[128,256,320],[],[(128,0,90),(256,0,90),(320,0,90)]))]),
  (132,[(3,([1,4,6,7],[256,384],[(1,136)],[(256,0,90),(384,0,90)]))]),
  (217,[(5,([0,1,5,6],[0],[(5,5)],[(0,0,5)]))]),
  (153,[(4,([0,6],[],[(6,5)],[]))]),
  (105,[(13,([0,2,4,6,7,8],[0,256,384,448],[],[(0,0,5),(256,2,90),(256,5,76),(256,9,127),(256,10,157)])),(9,([0,2,4,6,7],[0,256,384,448],[],[(0,0,5),(256,2,90),(256,5,76),(256,9,127),(256,10,157)])),(17,([0,2,4,6,7],[0,256,384,448],[],[(0,0,5),(256,2,90),(256,5,76),(256,9,127),(256,10,157)])),(37,([0,6,7],[0,384,448],[],[(0,0,5)])),(39,([0,6,7],[0,384,448],[],[(0,0,5)]))]),
  (184,[(5,([0,3,4],[],[],[]))]),
  (185,[(2,([1,2,5],[128],[],[(128,2,90),(128,5,76),(128,9,127),(128,10,157)]))]),
  (201,[(6,([0,1,7,8,9],[],[],[]))]),
  (193,[(2,([2,3,5],[128,192],[],[(128,2,90),(128,5,76),(128,9,127),(128,10,157)]))]),
  (346,[(3,([0,1,5,6],[],[(5,9)],[]))]),
  (370,[(2,([0,1,2,3,4,11],[],[],[]))]),
  (368,[(5,([0,1,5,6],[],[(0,9)],[]))]),
  (344,[(3,([0,3,4],[],[(3,9)],[]))]),
  (367,[(3,([0,1,5,6],[],[(1,9),(5,9)],[]))]),
  (343,[(4,([0,3],[],[(0,9)],[]))]),
  (369,[(5,([3,4,5,6],[],[(4,3)],[]))]),
  (345,[(6,([0,1,7,8,9],[],[(0,9),(7,9),(8,3)],[]))]),
  (347,[(5,([0,1,5,6],[],[(0,9),(5,9)],[]))]),
  (38,[(4,([1,3],[64],[],[(64,1,9),(64,2,9)])),(9,([1,4],[64],[],[(64,1,9),(64,2,9)]))]),
  (316,[(5,([1,4,5],[64],[],[(64,1,9),(64,2,9)])),(9,([1,4,6],[64],[],[(64,1,9),(64,2,9)]))]),
  (382,[(3,([0,3,4],[],[(3,274)],[])),(7,([0,3,4,5,6],[],[(3,274)],[]))]),
  (387,[(5,([1,2,3,4],[],[(1,3)],[]))]),
  (388,[(4,([1,2,3],[],[(1,274)],[])),(9,([1,2,3,4,5,6],[],[(1,274)],[]))]),
  (390,[(3,([0,1,5,6],[],[],[]))]),
  (389,[(3,([0,1,2,7,8],[],[(0,274),(1,3),(7,274)],[])),(8,([0,1,2,7,9,10],[],[(0,274),(1,3),(7,274),(9,274)],[])),(12,([0,1,2,7,9,10,11,12],[],[(0,274),(1,3),(7,274),(9,274)],[])),(17,([2,9,13,14],[],[(9,274),(13,274)],[])),(20,([2,9,13,14,15],[],[(9,274),(13,274)],[]))]),
  (383,[(4,([0,3,4,5],[],[(0,274),(3,3),(4,274)],[]))]),
  (384,[(3,([0,3,4],[],[(0,274),(3,5)],[])),(7,([0,3,4,5,6],[],[(0,274),(3,5)],[]))]),
  (372,[(3,([1,7,8],[],[(7,274),(8,5)],[])),(7,([1,7,8,9],[],[(7,274),(8,5)],[])),(11,([1,7,8,9,10,11],[],[(7,274),(8,5),(10,274)],[]))]),
  (349,[(4,([1,2,4,6],[128,256],[(6,5)],[]))]),
  (317,[(5,([7,8,9,10],[512],[(7,3)],[])),(18,([7],[],[(7,3)],[]))]),
  (277,[(3,([0,3,4],[],[(3,37)],[])),(6,([0,3,4,5],[],[(3,37)],[]))]),
  (279,[(4,([5,6,8],[],[(5,3)],[]))]),
  (318,[(4,([0,3],[],[(0,3)],[]))]),
  (320,[(6,([0,3,4],[],[],[]))]),
  (319,[(7,([0,1,5],[],[],[]))]),
  (278,[(6,([3,4,5],[],[(3,3)],[])),(9,([3,4,5,6],[],[(3,3)],[])),(14,([3,4,5,6,7,8],[],[(3,3)],[]))]),
  (350,[(3,([0,3,4],[],[],[]))]),
  (322,[(4,([0,1,6],[],[(0,3)],[])),(12,([0,1,7,8,9,10],[],[(0,3),(7,5)],[])),(16,([0,1,7,8,9,10],[],[(0,3),(7,5)],[]))]),
  (323,[(5,([0,1,5,6],[],[(0,3),(1,3),(5,3)],[]))]),
  (281,[(3,([0,1,5,6],[],[(0,3),(1,3),(5,3)],[]))]),
  (282,[(3,([0,1,5,6],[],[(0,37),(1,37),(5,3)],[]))]),
  (246,[(11,([2,4,5,6,7,8,9,10,11],[128],[(7,37),(8,37)],[])),(17,([2,4,5,6,7,8,9,10,13],[128],[(7,37),(8,37)],[]))]),
  (324,[(8,([1,6,8,9],[],[(6,37),(8,37)],[]))]),
  (250,[(5,([1,2,4,6,7],[128,256,384],[(1,3)],[(128,0,90),(256,0,90),(384,0,90)]))]),
  (140,[(5,([0,4,5],[],[(4,9)],[]))]),
  (95,[(5,([0,6,7,9,10],[],[(6,78),(7,9)],[]))]),
  (128,[(8,([0,6,9],[0,384,576],[],[(0,2,90),(0,5,76),(0,9,127),(0,10,157),(0,12,3),(0,13,9),(0,14,48),(0,15,78),(384,2,90),(384,5,76),(384,9,127),(384,10,157),(576,0,90)]))]),
  (194,[(3,([0,1,2,7,8],[],[(0,157),(7,157)],[])),(10,([0,1,7,9],[],[(0,157),(7,157)],[]))]),
  (131,[(11,([4,5,8,9,10,11],[256,320,512,576],[(10,127)],[(256,2,90),(256,5,76),(256,9,127),(256,10,157),(512,2,90),(512,5,76),(512,9,127),(512,10,157),(576,2,90),(576,5,76),(576,9,127),(576,10,157)])),(18,([5,8,9,12],[320,512,576],[],[(512,2,90),(512,5,76),(512,9,127),(512,10,157),(576,2,90),(576,5,76),(576,9,127),(576,10,157)]))]),
  (76,[(8,([0,1,5,6,7,8,9,10],[0,320],[(6,78)],[(0,2,90),(0,5,76),(0,9,127),(0,10,157),(0,12,3),(0,13,9),(0,14,48),(0,15,78),(320,8,3)]))]),
  (51,[(4,([2,3,5],[128,192],[],[(128,2,76),(192,2,76)]))]),
  (49,[(3,([1,4,6,7],[256,384],[(1,78)],[(256,2,76),(384,2,76)]))]),
  (87,[(2,([1,3],[64],[],[(64,2,90),(64,5,76),(64,9,127),(64,10,157)]))]),
  (44,[(4,([1,3],[64],[],[(64,2,90),(64,5,76),(64,9,127),(64,10,157)]))]),
  (26,[(7,([0,4,5,6,8,9],[0,256,320,384],[],[(0,0,5),(256,2,72),(320,2,72),(384,2,90),(384,5,76),(384,9,127),(384,10,157),(384,12,3),(384,13,9),(384,14,48),(384,15,78)]))]),
  (158,[(3,([0,2,3,11],[128,192],[],[])),(6,([0,2,3,4,11,14],[128,192],[],[])),(12,([2,3,6],[128,192],[],[]))]),
  (108,[(4,([2,4,5,6,7,8,9,10,11,12,13,37],[128,256,320],[],[])),(13,([2,4,17,109],[128,256,1088],[],[]))]),
  (62,[(1,([1,2,4],[128,256],[],[]))]),
  (65,[(3,([3,6,7],[],[],[]))]),
  (144,[(2,([0,3],[],[(3,5)],[]))]),
  (212,[(3,([3,14,15,16],[],[(14,4)],[]))]),
  (286,[(3,([1,5,10,11],[],[(5,5)],[]))]),
  (198,[(6,([0,2,8,10,11],[],[],[]))]),
  (200,[(3,([1,5,10,11],[],[(5,5)],[]))]),
  (253,[(2,([0,1,5],[],[],[])),(6,([0,1,5,19],[],[],[]))]),
  (93,[(2,([1,8,9,10],[],[(8,90)],[]))]),
  (81,[(2,([1,6,7,8],[64],[(6,90)],[(64,0,90)]))]),
  (219,[(3,([0,3,4],[0,192],[],[(0,0,90)]))]),
  (107,[(3,([1,4,6,13,14,15],[256,384],[(1,136),(13,136)],[(256,0,90),(384,0,90)]))]),
  (83,[(2,([1,6,7,8],[64],[(6,76)],[(64,2,76)]))]),
  (99,[(2,([1,8,9,10],[],[(8,76)],[]))]),
  (90,[(4,([0,1,12,13],[],[(0,76),(1,76)],[]))]),
  (196,[(5,([0,1,7,8],[],[],[]))]),
  (136,[(5,([0,4,5],[],[(4,9)],[]))]),
  (92,[(5,([0,8,9,23,24,25],[],[(8,78),(23,9)],[]))]),
  (45,[(3,([4,6,13,14,15],[256,384],[(13,78)],[(256,2,76),(384,2,76)]))]),
  (84,[(2,([1,8,9,10],[64],[(8,157)],[(64,2,90),(64,5,76),(64,9,127),(64,10,157)]))]),
  (40,[(6,([1,44,45,46],[64],[(44,127)],[(64,2,90),(64,5,76),(64,9,127),(64,10,157)]))]),
  (113,[(2,([1,8,9,10],[],[(8,127)],[]))]),
  (120,[(2,([1,8,9,10],[],[(8,157)],[]))]),
  (295,[(3,([0,1,5,7],[],[(5,9)],[]))]),
  (335,[(2,([0,1,2,3,13,14],[],[],[]))]),
  (361,[(5,([1,2,3,9,15,16,17],[],[(15,9)],[]))]),
  (293,[(3,([0,3,5],[],[(3,9)],[]))]),
  (332,[(3,([0,1,5,6],[],[(1,9),(5,9)],[]))]),
  (292,[(4,([0,3],[],[(0,9)],[]))]),
  (334,[(5,([3,4,5,11],[],[(3,3)],[])),(10,([3,4,28,29,30],[],[(3,3),(28,3)],[]))]),
  (294,[(6,([1,7,8,16,17,18],[],[(7,3),(8,9),(16,9)],[]))]),
  (296,[(5,([0,1,5,6],[],[(0,9),(5,9)],[]))]),
  (337,[(2,([0,1,7,8,9],[],[(0,9),(7,9)],[]))]),
  (262,[(5,([1,4,16,17,18],[64],[(16,9)],[(64,1,9),(64,2,9)])),(10,([4,27,28,29],[],[(27,9)],[]))]),
  (365,[(3,([0,2,3,5],[128,192],[],[]))]),
  (377,[(3,([1,2,3,8,9],[64,128,192],[],[])),(8,([1,2,3,21],[64,128,192],[],[]))]),
  (378,[(5,([1,2,3,4,5,13],[64,128,192],[],[]))]),
  (379,[(3,([1,2,3,6],[64,128,192],[],[])),(6,([1,2,3,4,6,9],[64,128,192],[],[]))]),
  (386,[(3,([3,4,5],[],[],[]))]),
  (380,[(3,([0,3,5],[],[],[]))]),
  (364,[(2,([1,2,4],[64,128],[],[]))]),
  (366,[(3,([1,3,7,8],[64],[(3,5)],[]))]),
  (338,[(2,([1,7],[],[(7,5)],[])),(7,([1,7,8,9],[],[(7,5),(8,5)],[])),(10,([1,7,8,9,40,41],[],[(7,5),(8,5)],[]))]),
  (304,[(4,([1,2,4,6],[128,256],[],[]))]),
  (264,[(4,([5,7,20,21],[],[(7,3)],[]))]),
  (230,[(3,([0,1,5,7],[],[(5,37)],[]))]),
  (265,[(2,([0,5,6,7],[],[(0,3),(5,3)],[]))]),
  (300,[(3,([0,3,5],[],[],[]))]),
  (299,[(5,([0,1,5],[],[],[]))]),
  (263,[(6,([3,4,5],[],[(3,3)],[])),(9,([3,4,5,6],[],[(3,3)],[])),(14,([3,4,5,6,7,8],[],[(3,3)],[]))]),
  (229,[(3,([3,6,7,8],[],[(3,37),(6,37)],[]))]),
  (270,[(5,([7,8,9,10],[448],[(8,3)],[])),(11,([7,8,9,10,60,61,62],[448],[(8,3),(60,3)],[]))]),
  (234,[(3,([0,1,2,7,9],[],[(7,37)],[]))]),
  (269,[(5,([0,1,5,21],[],[(0,3),(1,3),(5,3)],[]))]),
  (267,[(5,([0,1,2,7,19,20],[],[(0,3),(1,3),(7,3)],[]))]),
  (233,[(3,([0,1,5,9,10],[],[(0,37),(1,37),(5,3)],[]))]),
  (266,[(3,([1,5,17,18,19],[],[(5,5),(17,3)],[])),(6,([1,5,6,7,17,18,19,24,25],[],[(5,5),(17,3)],[]))]),
  (170,[(8,([2,4,5,7,8,9,10,30],[128],[(7,37),(8,37)],[]))]),
  (271,[(8,([1,6,8,29],[],[(6,37),(8,37)],[]))]),
  (174,[(5,([1,4,6,18,19],[256,384],[(1,3)],[(256,0,90),(384,0,90)]))]),
  (122,[(4,([0,1,2,7],[0],[],[(0,2,90),(0,5,76),(0,9,127),(0,10,157)]))]),
  (71,[(13,([3,4,5,8,9,11,12],[256,320,512,576,704],[],[(256,2,90),(256,5,76),(256,9,127),(256,10,157),(512,2,90),(512,5,76),(512,9,127),(512,10,157),(576,2,90),(576,5,76),(576,9,127),(576,10,157)])),(15,([4,5,8,9],[256,320,512,576],[],[(256,2,90),(256,5,76),(256,9,127),(256,10,157),(512,2,90),(512,5,76),(512,9,127),(512,10,157),(576,2,90),(576,5,76),(576,9,127),(576,10,157)]))]),
  (32,[(6,([0,2,4,7,8,9,45,46,47],[0,256],[(45,78)],[(0,2,90),(0,5,76),(0,9,127),(0,10,157),(0,12,3),(0,13,9),(0,14,48),(0,15,78),(256,8,3)]))]),
  (8,[(5,([1,2,6,8,29,30,31],[384,512],[(2,72),(29,72)],[(384,2,90),(384,5,76),(384,9,127),(384,10,157),(384,12,3),(384,13,9),(384,14,48),(384,15,78),(512,2,90),(512,5,76),(512,9,127),(512,10,157)])),(12,([6,12,46,47,48],[384,768],[(46,72)],[(384,2,90),(384,5,76),(384,9,127),(384,10,157),(384,12,3),(384,13,9),(384,14,48),(384,15,78),(768,2,90),(768,5,76),(768,9,127),(768,10,157),(768,12,3),(768,13,9),(768,14,48),(768,15,78)]))]),
  (9,[(3,([2,6,8,9,10],[384,512],[(2,72)],[(384,2,90),(384,5,76),(384,9,127),(384,10,157),(384,12,3),(384,13,9),(384,14,48),(384,15,78),(512,2,90),(512,5,76),(512,9,127),(512,10,157),(512,12,3),(512,13,9),(512,14,48),(512,15,78)])),(9,([2,6,8,11],[384,512],[(2,72)],[(384,2,90),(384,5,76),(384,9,127),(384,10,157),(384,12,3),(384,13,9),(384,14,48),(384,15,78),(512,2,90),(512,5,76),(512,9,127),(512,10,157),(512,12,3),(512,13,9),(512,14,48),(512,15,78)]))]),
  (10,[(3,([1,5,8,9,10],[],[(5,3),(8,48)],[]))]),
  (12,[(3,([0,1,5,6],[],[(0,48),(5,3)],[]))]),
  (11,[(4,([0,1,5],[],[(0,3),(1,3)],[]))]),
  (37,[(5,([0,2,4,5],[128,256],[],[(128,1,9),(128,2,9),(256,1,9),(256,2,9)]))]),
  (3,[(9,([6,8,10],[384,512],[],[(384,2,90),(384,5,76),(384,9,127),(384,10,157),(384,12,3),(384,13,9),(384,14,48),(384,15,78),(512,2,90),(512,5,76),(512,9,127),(512,10,157),(512,12,3),(512,13,9),(512,14,48),(512,15,78)])),(15,([6,8,10,11,12],[384,512],[(11,3)],[(384,2,90),(384,5,76),(384,9,127),(384,10,157),(384,12,3),(384,13,9),(384,14,48),(384,15,78),(512,2,90),(512,5,76),(512,9,127),(512,10,157),(512,12,3),(512,13,9),(512,14,48),(512,15,78)])),(20,([6,13],[384],[],[(384,2,90),(384,5,76),(384,9,127),(384,10,157),(384,12,3),(384,13,9),(384,14,48),(384,15,78)]))]),
  (15,[(4,([0,1,5],[],[(0,9),(1,9)],[]))]),
  (16,[(4,([0,1,5],[],[(0,78),(1,78)],[]))]),
  (39,[(3,([1,5,8,9,10],[],[(8,78)],[]))]),
  (24,[(2,([0,7,8,9],[],[(0,48),(7,48)],[])),(5,([0,4,7,8,9,16,17,18],[256],[(0,48),(7,48),(16,48)],[]))]),
  (25,[(2,([0,7,8,9],[],[(0,48),(7,48)],[])),(6,([0,5,6,7,8,9],[],[(0,48),(5,3),(7,48)],[]))]),
  (22,[(3,([3,13,14,15],[192],[(13,78)],[(192,2,76)])),(9,([3,6,13,14,15,28,29,30],[192,384],[(13,78),(28,76)],[(192,2,76),(384,2,76)]))]),
  (17,[(2,([1,6,7,8],[64],[(6,48)],[(64,2,90),(64,5,76),(64,9,127),(64,10,157),(64,12,3),(64,13,9),(64,14,48),(64,15,78)]))]),
  (41,[(3,([0,1,5,6],[],[(0,78)],[]))]),
  (42,[(2,([0,3],[],[(0,48)],[])),(5,([0,3,4],[],[(0,48)],[]))]),
  (43,[(2,([0,3],[],[(0,48)],[])),(5,([0,3,4],[],[(0,48)],[]))]),
  (23,[(3,([0,3,4],[192],[(0,78)],[(192,2,76)])),(9,([0,3,4,5,7],[192,320],[(0,78)],[(192,2,76),(320,2,76)]))]),
  (18,[(2,([1,3],[64],[],[(64,2,90),(64,5,76),(64,9,127),(64,10,157),(64,12,3),(64,13,9),(64,14,48),(64,15,78)]))]),
  (19,[(4,([2,3,5],[128,192],[],[(128,0,90),(192,0,90)]))])]
def tabs:List (Nat×(Nat×List Int)):=[(0,(184,[1116352408,1899447441,3049323471,3921009573,961987163,1508970993,2453635748,2870763221,3624381080,310598401,607225278,1426881987,1925078388,2162078206,2614888103,3248222580,3835390401,4022224774,264347078,604807628,770255983,1249150122,1555081692,1996064986,2554220882,2821834349,2952996808,3210313671,3336571891,3584528711,113926993,338241895,666307205,773529912,1294757372,1396182291,1695183700,1986661051,2177026350,2456956037,2730485921,2820302411,3259730800,3345764771,3516065817,3600352804,4094571909,275423344,430227734,506948616,659060556,883997877,958139571,1322822218,1537002063,1747873779,1955562222,2024104815,2227730452,2361852424,2428436474,2756734187,3204031479,3329325298]))]
set_option linter.unusedSectionVars false
variable [PC]
def ctx:Ctx:=mkCtx els Kz ents modes cuts tabs PC.pm [268,342,362,363]
noncomputable abbrev PP:Program:=Tryz.prog
abbrev LI:=List Go.Item×Env ctx×Hp ctx
abbrev CU:=Cv (List (U (EH els)))
abbrev JJ:=Cv (List (L (EH els)))
theorem AUg:EW ctx Tryz.prog:=Adb (by kernel_rfl) (fun x hx=>by
  simp only [ents,List.mem_cons,List.not_mem_nil,or_false] at hx;rcases hx with rfl | rfl | rfl | rfl | rfl | rfl | rfl | rfl | rfl | rfl | rfl | rfl | rfl | rfl | rfl | rfl | rfl | rfl | rfl | rfl | rfl | rfl | rfl | rfl | rfl | rfl | rfl | rfl | rfl | rfl | rfl | rfl | rfl | rfl | rfl | rfl | rfl | rfl | rfl | rfl | rfl | rfl | rfl | rfl | rfl | rfl | rfl | rfl | rfl | rfl | rfl | rfl | rfl | rfl | rfl | rfl | rfl | rfl
  all_goals first | exact cg _ | exact jh (C:=ctx) (e:=105) (n:=3) (f:=fun x=>x) (g:=fun x=>x) (fun _=>rfl) (by kernel_rfl) | exact jh (C:=ctx) (e:=109) (n:=8) (f:=fun x=>x) (g:=fun x=>x) (fun _=>rfl) (by kernel_rfl) | exact jh (C:=ctx) (e:=184) (n:=64) (f:=fun x=>x) (g:=fun x=>x) (fun _=>rfl) (by kernel_rfl) | exact jh (C:=ctx) (e:=273) (n:=24) (f:=fun x=>x) (g:=fun x=>x) (fun _=>rfl) (by kernel_rfl) | exact jh (C:=ctx) (e:=312) (n:=25) (f:=fun x=>x) (g:=fun x=>x) (fun _=>rfl) (by kernel_rfl) | exact jh (C:=ctx) (e:=323) (n:=5) (f:=fun x=>x) (g:=fun x=>x) (fun _=>rfl) (by kernel_rfl))
def wY:CU Unit:=q1 (DL AKn)
def E8:CU Bool:=q1 uB
def PS:JJ DZ:=Il (Ac AKn (Ac (Dc .i64) (Ac (Dc .i64) IY))) (fun p=>⟨p.1,p.2.1,p.2.2.1⟩) (fun s=>(s.AsQ,s.fI,s.AyA,())) (fun _=>rfl)
def cv2:CU DZ:=q1 (Bz (AfO Aej PS))
def cv3:CU DZ:=q1 (Bz PS)
def cv4:CU (Int×DZ):=Ac Awu (q1 (Bz PS))
def cv5:CU (DZ×Int):=Ac (Bz PS) (q1 Awu)
def cv6:CU (Int×Int):=Ac Awu (q1 (DL (Dc .u8)))
def Cc:CU AA:=q1 uS
def Yc:CU Unit:=IY
def cv9:CU (List Int):=q1 (DL (Fj 108))
def AfP:CU (List Int):=q1 (DL (EO 108))
def AUb:JJ IW:=Il (Ac cStr (Ac cStr (Ac (Dc .i64) IY))) (fun p=>⟨p.1,p.2.1,p.2.2.1⟩) (fun s=>(s.F7,s.Np,s.fCount,())) (fun _=>rfl)
def AEj:CU IW:=q1 (Bz AUb)
def AVC:CU (Int×Int×Int):=Ac Awu (Ac Awu (q1 Awu))
def Q9:CU (AA×Int):=Ac uS (q1 Awu)
def UG:CU Int:=q1 (DL (Dc .u32))
def AfQ:CU (Int×Int×Int):=Ac (DL (Dc .u32)) (Ac (DL (Dc .u32)) (q1 (DL (Dc .u32))))
def AfR:CU (Int×Int×Int×Int×Bool):=Ac (DL (Dc .u32)) (Ac (DL (Dc .u32)) (Ac (DL (Dc .u32)) (Ac (DL (Dc .u32)) (q1 uB))))
def AfS:CU ((List Int)×(List Int)×AA):=Ac (DL (EO 108)) (Ac (DL (EO 108)) (q1 uS))
def AfT:CU (IW×AA):=Ac (Bz AUb) (q1 uS)
def wH:JJ Bo:=Il (Ac cStr (Ac (Dc .i64) (Ac (Fj 76) (Ac (Dc .i64) (Ac cStr (Ac (Dc .i64) IY)))))) (fun p=>⟨p.1,p.2.1,p.2.2.1,p.2.2.2.1,p.2.2.2.2.1,p.2.2.2.2.2.1⟩) (fun s=>(s.Bv,s.DU,s.AZ,s.BM,s.Dh,s.fCount,())) (fun _=>rfl)
def AEk:CU Bo:=q1 (Bz wH)
def FN:CU Int:=q1 Awu
def Sm:JJ Af:=Il (Ac (Dc .i64) (Ac (Dc .i64) (Ac JH (Ac JH (Ac JH (Ac JH (Ac cStr (Ac (Dc .i64) IY)))))))) (fun p=>⟨p.1,p.2.1,p.2.2.1,p.2.2.2.1,p.2.2.2.2.1,p.2.2.2.2.2.1,p.2.2.2.2.2.2.1,p.2.2.2.2.2.2.2.1⟩) (fun s=>(s.fId,s.Aj,s.CY,s.CX,s.Gw,s.GH,s.fValue,s.fNext,())) (fun _=>rfl)
def S9:CU Af:=q1 (Bz Sm)
def AfU:CU (Bool×Int):=Ac uB (q1 Awu)
def IQ:CU (AA×Bool):=Ac uS (q1 uB)
def YW:JJ Ah:=Il (Ac (Dc .i64) (Ac cStr (Ac (Dc .i64) (Ac (Dc .i64) (Ac (Dc .i64) (Ac JH (Ac JH (Ac JH (Ac JH (Ac cStr (Ac (Dc .i64) IY))))))))))) (fun p=>⟨p.1,p.2.1,p.2.2.1,⟨p.2.2.2.1,p.2.2.2.2.1,p.2.2.2.2.2.1,p.2.2.2.2.2.2.1,p.2.2.2.2.2.2.2.1,p.2.2.2.2.2.2.2.2.1,p.2.2.2.2.2.2.2.2.2.1,p.2.2.2.2.2.2.2.2.2.2.1⟩⟩) (fun s=>(s.Aj,s.fText,s.DR,s.Ag.fId,s.Ag.Aj,s.Ag.CY,s.Ag.CX,s.Ag.Gw,s.Ag.GH,s.Ag.fValue,s.Ag.fNext,())) (fun _=>rfl)
def AVD:CU Ah:=q1 (Bz YW)
def jk:JJ Bo:=Il (Ac cStr (Ac (Dc .i64) (Ac (EO 76) (Ac (Dc .i64) (Ac cStr (Ac (Dc .i64) IY)))))) (fun p=>⟨p.1,p.2.1,p.2.2.1,p.2.2.2.1,p.2.2.2.2.1,p.2.2.2.2.2.1⟩) (fun s=>(s.Bv,s.DU,s.AZ,s.BM,s.Dh,s.fCount,())) (fun _=>rfl)
def AEl:CU Bo:=q1 (Bz jk)
def AKo:CU (Bo×Int):=Ac (Bz jk) (q1 Awu)
def Yb:CU (Af×Bool):=Ac (Bz Sm) (q1 uB)
def AVE:CU (Af×Af):=Ac (Bz Sm) (q1 (Bz Sm))
def AfV:CU ((List Af)×Af):=Ac (DL (EO 76)) (q1 (Bz Sm))
def AfW:CU (List Af):=q1 (DL (Fj 76))
def AVF:CU (Bo×Ah):=Ac (Bz jk) (q1 (Bz YW))
def AEm:CU (Bo×Bool):=Ac (Bz wH) (q1 uB)
def AVG:CU (AA×Int):=Ac uS (q1 (DL (Dc .u8)))
def KJ:CU (AA×AA):=Ac uS (q1 uS)
def wR:CU (AA×Int×Int):=Ac uS (Ac Awu (q1 Awu))
def VA:CU (AA×Int×AA):=Ac uS (Ac Awu (q1 uS))
def AVH:CU (Int×AA):=Ac (DL (Dc .u32)) (q1 uS)
def AVI:CU (AA×Int×Ah):=Ac uS (Ac Awu (q1 (Bz YW)))
def AVJ:CU ((List Ef)×Bool):=Ac (DL (Fj 136)) (q1 uB)
def UD:JJ BU:=Il (Ac (EO 90) IY) (fun p=>⟨p.1⟩) (fun s=>(s.Ak,())) (fun _=>rfl)
def AKp:CU BU:=q1 (Bz UD)
def wS:CU (BU×AA):=Ac (Bz UD) (q1 uS)
def AUf:JJ BQ:=Il (Ac cStr (Ac cStr (Ac (Dc .i64) IY))) (fun p=>⟨p.1,p.2.1,p.2.2.1⟩) (fun s=>(s.fName,s.fText,s.J3,())) (fun _=>rfl)
def wI:JJ BU:=Il (Ac (Fj 90) IY) (fun p=>⟨p.1⟩) (fun s=>(s.Ak,())) (fun _=>rfl)
def AfX:CU (BU×BQ):=Ac (Bz UD) (q1 (Bz AUf))
def jo:CU BU:=q1 (Bz wI)
def Aek:JJ Ef:=Il (Ac (Dc .i64) (Ac cStr (Ac cStr (Ac cStr IY)))) (fun p=>⟨p.1,p.2.1,p.2.2.1,p.2.2.2.1⟩) (fun s=>(s.Aj,s.fName,s.fText,s.I8,())) (fun _=>rfl)
def AVK:CU (BU×Ef):=Ac (Bz UD) (q1 (Bz Aek))
def jq:CU (BU×Bool):=Ac (Bz wI) (q1 uB)
def AVL:CU (BU×(List Ef)):=Ac (Bz UD) (q1 (DL (EO 136)))
def AVM:CU (BU×Int):=Ac (Bz wI) (q1 Awu)
def AfY:CU (AA×BU×Int×Ah):=Ac uS (Ac (Bz UD) (Ac Awu (q1 (Bz YW))))
def wM:JJ Ap:=Il (Ac cStr (Ac JH (Ac (Fj 90) (Ac cStr (Ac (Dc .i64) (Ac (Fj 76) (Ac (Dc .i64) (Ac cStr (Ac (Dc .i64) (Ac (Fj 127) (Ac (Fj 157) (Ac (Dc .i64) IY)))))))))))) (fun p=>⟨p.1,p.2.1,⟨p.2.2.1⟩,⟨p.2.2.2.1,p.2.2.2.2.1,p.2.2.2.2.2.1,p.2.2.2.2.2.2.1,p.2.2.2.2.2.2.2.1,p.2.2.2.2.2.2.2.2.1⟩,p.2.2.2.2.2.2.2.2.2.1,p.2.2.2.2.2.2.2.2.2.2.1,p.2.2.2.2.2.2.2.2.2.2.2.1⟩) (fun s=>(s.BO,s.CZ,s.Bc.Ak,s.AU.Bv,s.AU.DU,s.AU.AZ,s.AU.BM,s.AU.Dh,s.AU.fCount,s.BP,s.BD,s.CW,())) (fun _=>rfl)
def AEn:CU (Ap×Bool):=Ac (Bz wM) (q1 uB)
def Wl:JJ Bg:=Il (Ac cStr (Ac JH (Ac (Fj 90) (Ac cStr (Ac (Dc .i64) (Ac (Fj 76) (Ac (Dc .i64) (Ac cStr (Ac (Dc .i64) (Ac (Fj 127) (Ac (Fj 157) (Ac (Dc .i64) (Ac (Fj 3) (Ac (Fj 9) (Ac (Fj 48) (Ac (Fj 78) IY)))))))))))))))) (fun p=>⟨⟨p.1,p.2.1,⟨p.2.2.1⟩,⟨p.2.2.2.1,p.2.2.2.2.1,p.2.2.2.2.2.1,p.2.2.2.2.2.2.1,p.2.2.2.2.2.2.2.1,p.2.2.2.2.2.2.2.2.1⟩,p.2.2.2.2.2.2.2.2.2.1,p.2.2.2.2.2.2.2.2.2.2.1,p.2.2.2.2.2.2.2.2.2.2.2.1⟩,p.2.2.2.2.2.2.2.2.2.2.2.2.1,p.2.2.2.2.2.2.2.2.2.2.2.2.2.1,p.2.2.2.2.2.2.2.2.2.2.2.2.2.2.1,p.2.2.2.2.2.2.2.2.2.2.2.2.2.2.2.1⟩) (fun s=>(s.AX.BO,s.AX.CZ,s.AX.Bc.Ak,s.AX.AU.Bv,s.AX.AU.DU,s.AX.AU.AZ,s.AX.AU.BM,s.AX.AU.Dh,s.AX.AU.fCount,s.AX.BP,s.AX.BD,s.AX.CW,s.Bq,s.EN,s.Cm,s.CO,())) (fun _=>rfl)
def AKq:CU (Bg×Bool):=Ac (Bz Wl) (q1 uB)
def AfZ:CU (Bool×DZ):=Ac uB (q1 (Bz PS))
def Afa:CU (DZ×(List Int)):=Ac (Bz PS) (q1 (DL (EO 3)))
def Afb:CU (DZ×(List AA)):=Ac (Bz PS) (q1 (DL (EO 9)))
def AVN:CU (AA×DZ):=Ac uS (q1 (Bz PS))
def Afc:CU (Af×DZ):=Ac (Bz Sm) (q1 (Bz PS))
def YX:JJ Ap:=Il (Ac cStr (Ac JH (Ac (EO 90) (Ac cStr (Ac (Dc .i64) (Ac (EO 76) (Ac (Dc .i64) (Ac cStr (Ac (Dc .i64) (Ac (EO 127) (Ac (EO 157) (Ac (Dc .i64) IY)))))))))))) (fun p=>⟨p.1,p.2.1,⟨p.2.2.1⟩,⟨p.2.2.2.1,p.2.2.2.2.1,p.2.2.2.2.2.1,p.2.2.2.2.2.2.1,p.2.2.2.2.2.2.2.1,p.2.2.2.2.2.2.2.2.1⟩,p.2.2.2.2.2.2.2.2.2.1,p.2.2.2.2.2.2.2.2.2.2.1,p.2.2.2.2.2.2.2.2.2.2.2.1⟩) (fun s=>(s.BO,s.CZ,s.Bc.Ak,s.AU.Bv,s.AU.DU,s.AU.AZ,s.AU.BM,s.AU.Dh,s.AU.fCount,s.BP,s.BD,s.CW,())) (fun _=>rfl)
def RD:CU Ap:=q1 (Bz YX)
def jl:JJ CV:=Il (Ac (Dc .i64) (Ac (Dc .i64) (Ac (Dc .i64) (Ac (Dc .i64) (Ac cStr (Ac JH (Ac JH IY))))))) (fun p=>⟨p.1,p.2.1,p.2.2.1,p.2.2.2.1,p.2.2.2.2.1,p.2.2.2.2.2.1,p.2.2.2.2.2.2.1⟩) (fun s=>(s.Au,s.EJ,s.Ag,s.Aj,s.fText,s.CY,s.CX,())) (fun _=>rfl)
def Afd:CU (DZ×Ap×AA):=Ac (Bz PS) (Ac (Bz YX) (q1 uS))
def Afe:CU (CV×DZ):=Ac (Bz jl) (q1 (Bz PS))
def Adc:JJ DW:=Il (Ac (Dc .i64) (Ac (Dc .i64) (Ac (Dc .i64) (Ac (Dc .i64) (Ac cStr (Ac JH (Ac JH (Ac JH (Ac (Fj 3) (Ac JH IY)))))))))) (fun p=>⟨⟨p.1,p.2.1,p.2.2.1,p.2.2.2.1,p.2.2.2.2.1,p.2.2.2.2.2.1,p.2.2.2.2.2.2.1⟩,p.2.2.2.2.2.2.2.1,p.2.2.2.2.2.2.2.2.1,p.2.2.2.2.2.2.2.2.2.1⟩) (fun s=>(s.BA.Au,s.BA.EJ,s.BA.Ag,s.BA.Aj,s.BA.fText,s.BA.CY,s.BA.CX,s.Nr,s.Lc,s.JY,())) (fun _=>rfl)
def Aff:CU (DZ×Bg):=Ac (Bz PS) (q1 (Bz Wl))
def Afg:CU (DW×DZ×Bg):=Ac (Bz Adc) (Ac (Bz PS) (q1 (Bz Wl)))
def AVO:CU (Bg×Int×AA):=Ac (Bz Wl) (Ac Awu (q1 uS))
def VB:CU Bg:=q1 (Bz Wl)
def AKr:CU (Int×AA):=Ac Awu (q1 uS)
def Oh:CU ((List Ah)×Int×AA):=Ac (DL (Fj 78)) (Ac Awu (q1 uS))
def Afh:CU Int:=q1 (DL (Dc .u8))
def Afi:CU ((List Ah)×AA):=Ac (DL (Fj 78)) (q1 uS)
def wU:CU (Ap×Int):=Ac (Bz YX) (q1 Awu)
def bM:CU (Ap×CV):=Ac (Bz YX) (q1 (Bz jl))
def Afj:CU (List Ah):=q1 (DL (Fj 78))
def AVP:CU (Ap×CV×Af×Bool):=Ac (Bz YX) (Ac (Bz jl) (Ac (Bz Sm) (q1 uB)))
def AVQ:CU (Int×Int×Bool):=Ac Awu (Ac Awu (q1 uB))
def AEa:JJ Jz:=Il (Ac cStr (Ac (Dc .i64) (Ac JH IY))) (fun p=>⟨p.1,p.2.1,p.2.2.1⟩) (fun s=>(s.fText,s.ER,s.I7,())) (fun _=>rfl)
def AKs:CU Jz:=q1 (Bz AEa)
def AVR:CU (Int×Jz):=Ac Awu (q1 (Bz AEa))
def Afk:CU (Jz×Int):=Ac (Bz AEa) (q1 Awu)
def AVS:CU (AA×Jz):=Ac uS (q1 (Bz AEa))
def AVT:CU (Af×Int):=Ac (Bz Sm) (q1 Awu)
def Afl:CU (Ap×Af):=Ac (Bz YX) (q1 (Bz Sm))
def VD:CU (List AA):=q1 (DL (Fj 9))
def AVU:CU (AA×Int×Int×Int×Int):=Ac uS (Ac Awu (Ac Awu (Ac Awu (q1 Awu))))
def wV:CU ((List AA)×Int):=Ac (DL (EO 9)) (q1 Awu)
def AVV:CU (Int×Int×AA×AA):=Ac Awu (Ac Awu (Ac uS (q1 uS)))
def AVW:CU (Int×(List AA)):=Ac Awu (q1 (DL (EO 9)))
def AVX:CU (List AA):=q1 (DL (EO 9))
def JZ:CU (List Int):=q1 (DL (Fj 3))
def AVY:CU ((List AA)×Int×AA):=Ac (DL (EO 9)) (Ac Awu (q1 uS))
def AeD:JJ IL:=Il (Ac (Dc .i64) (Ac (Fj 9) (Ac (Fj 9) IY))) (fun p=>⟨p.1,p.2.1,p.2.2.1⟩) (fun s=>(s.Dv,s.Fg,s.Gn,())) (fun _=>rfl)
def AVZ:CU (IL×Bool):=Ac (Bz AeD) (q1 uB)
def Ade:JJ Nl:=Il (Ac (Dc .i64) (Ac (Fj 9) (Ac (Fj 9) (Ac cStr (Ac (Dc .i64) (Ac (Fj 9) (Ac (Fj 9) IY))))))) (fun p=>⟨⟨p.1,p.2.1,p.2.2.1⟩,p.2.2.2.1,⟨p.2.2.2.2.1,p.2.2.2.2.2.1,p.2.2.2.2.2.2.1⟩⟩) (fun s=>(s.QU.Dv,s.QU.Fg,s.QU.Gn,s.QS,s.QV.Dv,s.QV.Fg,s.QV.Gn,())) (fun _=>rfl)
def AVa:CU (Nl×Bool):=Ac (Bz Ade) (q1 uB)
def Ael:JJ IL:=Il (Ac (Dc .i64) (Ac (EO 9) (Ac (EO 9) IY))) (fun p=>⟨p.1,p.2.1,p.2.2.1⟩) (fun s=>(s.Dv,s.Fg,s.Gn,())) (fun _=>rfl)
def AEo:CU IL:=q1 (Bz Ael)
def Adh:JJ Nl:=Il (Ac (Dc .i64) (Ac (EO 9) (Ac (EO 9) (Ac cStr (Ac (Dc .i64) (Ac (EO 9) (Ac (EO 9) IY))))))) (fun p=>⟨⟨p.1,p.2.1,p.2.2.1⟩,p.2.2.2.1,⟨p.2.2.2.2.1,p.2.2.2.2.2.1,p.2.2.2.2.2.2.1⟩⟩) (fun s=>(s.QU.Dv,s.QU.Fg,s.QU.Gn,s.QS,s.QV.Dv,s.QV.Fg,s.QV.Gn,())) (fun _=>rfl)
def AVb:CU Nl:=q1 (Bz Adh)
def AEp:CU (Ap×CV×Af):=Ac (Bz YX) (Ac (Bz jl) (q1 (Bz Sm)))
def wW:CU (List Int):=q1 (DL (Fj 274))
def AVc:CU (Int×Int):=Ac (DL (Dc .u64)) (q1 Awu)
def wX:CU Int:=q1 (DL (Dc .u64))
def Afm:CU ((List Int)×(List Int)×Int):=Ac (DL (EO 274)) (Ac (DL (EO 3)) (q1 (DL (Dc .u64))))
def Afn:CU (List Int):=q1 (DL (EO 274))
def AVd:CU (AA×Int×Int):=Ac uS (Ac Awu (q1 (DL (Dc .u8))))
def AKd:JJ F6:=Il (Ac cStr (Ac (Dc .i64) IY)) (fun p=>⟨p.1,p.2.1⟩) (fun s=>(s.F7,s.ER,())) (fun _=>rfl)
def AVe:CU F6:=q1 (Bz AKd)
def AVf:CU (F6×Int):=Ac (Bz AKd) (q1 Awu)
def AVg:CU (F6×AA):=Ac (Bz AKd) (q1 uS)
def AEd:CU (List (List Int)):=q1 (DL (Fj 37))
def Wn:CU (List Int):=q1 (DL (EO 3))
def wP:CU (Int×Int):=Ac Awu (q1 Awu)
def wQ:CU ((List Int)×Int):=Ac (DL (EO 3)) (q1 Awu)
def bK:CU ((List Int)×(List Int)):=Ac (DL (EO 3)) (q1 (DL (EO 3)))
def AUj:CU ((List (List Int))×(List (List Int))):=Ac (DL (EO 37)) (q1 (DL (EO 37)))
def AeE:JJ Ky:=Il (Ac cStr (Ac cStr IY)) (fun p=>⟨p.1,p.2.1⟩) (fun s=>(s.bH,s.bI,())) (fun _=>rfl)
def AUk:CU (Ky×Bool):=Ac (Bz AeE) (q1 uB)
def AUl:CU ((List (List Int))×Bool):=Ac (DL (Fj 37)) (q1 uB)
def AKk:CU ((List Int)×Bool):=Ac (DL (Fj 3)) (q1 uB)
def AUm:CU (AA×AA×Bool):=Ac uS (Ac uS (q1 uB))
def AUn:CU (Af×Bool×Bool):=Ac (Bz Sm) (Ac uB (q1 uB))
def AUo:CU (BU×(List Int)):=Ac (Bz UD) (q1 (DL (EO 3)))
def AUp:CU (BU×(List Ef)×Int×(List Int)):=Ac (Bz UD) (Ac (DL (EO 136)) (Ac Awu (q1 (DL (EO 3)))))
def AUq:CU ((List AA)×Int):=Ac (DL (Fj 9)) (q1 Awu)
def AUr:CU (Ah×Bool):=Ac (Bz YW) (q1 uB)
def AUs:CU ((List Ah)×Int):=Ac (DL (Fj 78)) (q1 Awu)
def Aem:CU (Bg×Ah):=Ac (Bz Wl) (q1 (Bz YW))
def U8:CU Ap:=q1 (Bz wM)
def AUt:CU (Bg×Ah×(List Int)):=Ac (Bz Wl) (Ac (Bz YW) (q1 (DL (EO 3))))
def Aen:CU ((List CS)×Int×Int):=Ac (DL (EO 157)) (Ac Awu (q1 Awu))
def Aeo:CU (List CS):=q1 (DL (Fj 157))
def AUu:CU (Ap×CV×Int×Int):=Ac (Bz YX) (Ac (Bz jl) (Ac Awu (q1 Awu)))
def AKg:JJ DW:=Il (Ac (Dc .i64) (Ac (Dc .i64) (Ac (Dc .i64) (Ac (Dc .i64) (Ac cStr (Ac JH (Ac JH (Ac JH (Ac (EO 3) (Ac JH IY)))))))))) (fun p=>⟨⟨p.1,p.2.1,p.2.2.1,p.2.2.2.1,p.2.2.2.2.1,p.2.2.2.2.2.1,p.2.2.2.2.2.2.1⟩,p.2.2.2.2.2.2.2.1,p.2.2.2.2.2.2.2.2.1,p.2.2.2.2.2.2.2.2.2.1⟩) (fun s=>(s.BA.Au,s.BA.EJ,s.BA.Ag,s.BA.Aj,s.BA.fText,s.BA.CY,s.BA.CX,s.Nr,s.Lc,s.JY,())) (fun _=>rfl)
def AUv:CU (Bg×Int×DW):=Ac (Bz Wl) (Ac Awu (q1 (Bz AKg)))
def AUw:CU (Bo×Bo):=Ac (Bz jk) (q1 (Bz jk))
def AUx:CU (Bo×(List Ah)):=Ac (Bz jk) (q1 (DL (EO 78)))
def AUy:CU (AA×BU):=Ac uS (q1 (Bz UD))
def AUz:CU (Bo×(List Ef)×Bool):=Ac (Bz wH) (Ac (DL (Fj 136)) (q1 uB))
def AdT:JJ PO:=Il (Ac cStr (Ac cStr (Ac (Fj 72) IY))) (fun p=>⟨p.1,p.2.1,p.2.2.1⟩) (fun s=>(s.BO,s.Bv,s.wG,())) (fun _=>rfl)
def Aep:CU (DZ×Unit):=Ac (Bz PS) (q1 (DL AKn))
def Aeq:CU (PO×DZ):=Ac (Bz AdT) (q1 (Bz PS))
def Aer:CU (AA×AA×(List DW)):=Ac uS (Ac uS (q1 (DL (Fj 72))))
def AEe:CU (List Int):=q1 (AKt 108)
def AU0:CU (Int×Int):=Ac (DL (Dc .u32)) (q1 Awu)
def AKl:CU ((List Int)×AA):=Ac (AKt 108) (q1 uS)
def Aes:CU (BU×AA):=Ac (Bz wI) (q1 uS)
def Aet:CU (BU×BQ):=Ac (Bz wI) (q1 (Bz AUf))
def Aeu:CU (Bo×Af):=Ac (Bz wH) (q1 (Bz Sm))
def Aev:CU (Bool×Bo):=Ac uB (q1 (Bz wH))
def Aew:CU (Ap×Ah):=Ac (Bz wM) (q1 (Bz YW))
def Aex:CU (Bool×Ap):=Ac uB (q1 (Bz wM))
def AKm:CU CV:=q1 (Bz jl)
def AU1:CU DW:=q1 (Bz AKg)
def Aey:CU ((List Af)×(List Af)):=Ac (DL (EO 76)) (q1 (DL (EO 76)))
def AKe:JJ Kw:=Il (Ac cStr (Ac (Dc .i64) (Ac JH IY))) (fun p=>⟨p.1,p.2.1,p.2.2.1⟩) (fun s=>(s.fText,s.ER,s.I7,())) (fun _=>rfl)
def AU2:CU Kw:=q1 (Bz AKe)
def Aez:CU (Int×Kw):=Ac Awu (q1 (Bz AKe))
def AU3:CU (AA×Int×Bool):=Ac uS (Ac Awu (q1 uB))
def Ae0:CU (AA×Kw):=Ac uS (q1 (Bz AKe))
def Ae1:CU ((List Int)×Int):=Ac (DL (Fj 5)) (q1 (DL (Dc .u64)))
def Ae2:CU (List Int):=q1 (Bz (Il (Ac (Fj 5) IY) (fun p=>p.1) (fun s=>(s,())) (fun _=>rfl)))
def Ae3:CU ((List Int)×Int×Int×Bool×Bool):=Ac (DL (Fj 5)) (Ac (DL (Dc .u64)) (Ac Awu (Ac uB (q1 uB))))
def Ae4:CU ((List Int)×AA):=Ac (DL (Fj 5)) (q1 uS)
def Ae5:CU ((List AA)×Int×Nat×Nat):=Ac (DL (EO 9)) (Ac Awu (Ac (DL cFn) (q1 (DL cFn))))
def U9:CU (List Int):=q1 (AKt 274)
def Ae6:CU (List (List Int)):=q1 (DL (EO 37))
def Ae7:CU ((List Int)×(List Int)×Nat):=Ac (DL (EO 3)) (Ac (DL (EO 3)) (q1 (DL cFn)))
def Ae8:CU (Ap×Int×Int):=Ac (Bz wM) (Ac Awu (q1 Awu))
def Ae9:CU (Bg×DW×Int):=Ac (Bz Wl) (Ac (Bz AKg) (q1 Awu))
def AU4:CU (AA×AA×(List DW)):=Ac uS (Ac uS (q1 (DL (EO 72))))
def AfA:CU ((List D8)×Int):=Ac (DL (EO 48)) (q1 Awu)
def AfB:CU ((List AA)×(List AA)):=Ac (DL (EO 9)) (q1 (DL (EO 9)))
def AfC:CU ((List Ah)×(List Ah)):=Ac (DL (EO 78)) (q1 (DL (EO 78)))
def AU5:CU ((List Ah)×Int):=Ac (DL (EO 78)) (q1 Awu)
def AEf:CU (List D8):=q1 (DL (EO 48))
def AeF:JJ Bg:=Il (Ac cStr (Ac JH (Ac (EO 90) (Ac cStr (Ac (Dc .i64) (Ac (EO 76) (Ac (Dc .i64) (Ac cStr (Ac (Dc .i64) (Ac (EO 127) (Ac (EO 157) (Ac (Dc .i64) (Ac (EO 3) (Ac (EO 9) (Ac (EO 48) (Ac (EO 78) IY)))))))))))))))) (fun p=>⟨⟨p.1,p.2.1,⟨p.2.2.1⟩,⟨p.2.2.2.1,p.2.2.2.2.1,p.2.2.2.2.2.1,p.2.2.2.2.2.2.1,p.2.2.2.2.2.2.2.1,p.2.2.2.2.2.2.2.2.1⟩,p.2.2.2.2.2.2.2.2.2.1,p.2.2.2.2.2.2.2.2.2.2.1,p.2.2.2.2.2.2.2.2.2.2.2.1⟩,p.2.2.2.2.2.2.2.2.2.2.2.2.1,p.2.2.2.2.2.2.2.2.2.2.2.2.2.1,p.2.2.2.2.2.2.2.2.2.2.2.2.2.2.1,p.2.2.2.2.2.2.2.2.2.2.2.2.2.2.2.1⟩) (fun s=>(s.AX.BO,s.AX.CZ,s.AX.Bc.Ak,s.AX.AU.Bv,s.AX.AU.DU,s.AX.AU.AZ,s.AX.AU.BM,s.AX.AU.Dh,s.AX.AU.fCount,s.AX.BP,s.AX.BD,s.AX.CW,s.Bq,s.EN,s.Cm,s.CO,())) (fun _=>rfl)
def AEg:CU Bg:=q1 (Bz AeF)
def AU6:CU (List Ah):=q1 (DL (EO 78))
def AvO:CU (BU×BU):=Ac (Bz UD) (q1 (Bz UD))
def AU7:CU (AA×Bool×(List BQ)×AA×Int×Unit×Int×AA×Int×Unit×Unit×Int):=q1 (Bz (Ac cStr (Ac JH (Ac (EO 90) (Ac cStr (Ac (Dc .i64) (Ac AKu (Ac (Dc .i64) (Ac cStr (Ac (Dc .i64) (Ac AKu (Ac AKu (q1 (Dc .i64))))))))))))))
end Go.Proofs.YtkbbicgglblfiaaGreatDoor.G

/- The seat's tables: its types, what an element of each is, and what its functions do with what they are given. -/
import Derived.Test.YtaalgheapdmjnaaGreatDoorSnd38
import Derived.Test.YtaalgheapdmjnaaGreatDoorArr
import Derived.Test.YtaalgheapdmjnaaGreatDoorProg
import Derived.KernelRfl
namespace Go.Proofs.YtaalgheapdmjnaaGreatDoor.G
open Go Go.Ev
structure BQ where
  fName:AA
  fText:AA
  Jp:Int
structure BO where
  Ai:(List BQ)
structure Ah where
  fId:Int
  Aa:Int
  CY:Bool
  CZ:Bool
  GI:Bool
  Fb:Bool
  fValue:AA
  fNext:Int
structure Bf where
  Bv:AA
  DR:Int
  Ag:(List Ah)
  BR:Int
  Dp:AA
  fCount:Int
structure EC where
  fId:Int
  RS:Bool
structure Cc where
  fId:Int
  fNext:Int
structure Aj where
  BN:AA
  Bj:Bool
  Bd:BO
  AV:Bf
  BI:(List EC)
  BJ:(List Cc)
  CU:Int
structure CJ where
  Au:Int
  Dz:Int
  BK:Int
  Aa:Int
  fText:AA
  CY:Bool
  CZ:Bool
structure Aq where
  Aa:Int
  fText:AA
  DY:Int
  BK:Ah
structure ET where
  Aa:Int
  fName:AA
  fText:AA
  Ij:AA
structure C9 where
  An8:Unit
  fI:Int
  fH:Int
structure EN where
  CP:CJ
  RN:Bool
  QK:(List Int)
  MV:Bool
structure OW where
  BN:AA
  Bv:AA
  rG:(List EN)
structure KE where
  BK:Int
  GU:Int
  Aau:Int
structure Cm where
  Ad:Aj
  Du:(List Int)
  GR:(List AA)
  Ey:(List KE)
  Ez:(List Aq)
structure KG where
  ZM:AA
  ZN:AA
structure KD where
  fText:AA
  D8:Int
  Ih:Bool
structure Hu where
  GU:Int
  FK:(List AA)
  F8:(List AA)
structure MS where
  PN:Hu
  PI:AA
  PO:Hu
structure Hz where
  FZ:AA
  MW:AA
  fCount:Int
structure Jg where
  fText:AA
  D8:Int
  Ih:Bool
structure FY where
  FZ:AA
  D8:Int
def els:List (Nat×Vd):=[(2,⟨Int,0⟩),(3,⟨Int,0⟩),(4,⟨Bool,false⟩),(5,⟨Int,0⟩),(9,⟨AA,⟨#[]⟩⟩),(22,⟨(List Int),[]⟩),(24,⟨(List BQ),[]⟩),(26,⟨BO,⟨[]⟩⟩),(27,⟨(List Ah),[]⟩),(29,⟨Bf,⟨⟨#[]⟩,0,[],0,⟨#[]⟩,0⟩⟩),(30,⟨(List EC),[]⟩),(31,⟨(List Cc),[]⟩),(33,⟨Aj,⟨⟨#[]⟩,false,⟨[]⟩,⟨⟨#[]⟩,0,[],0,⟨#[]⟩,0⟩,[],[],0⟩⟩),(35,⟨CJ,⟨0,0,0,0,⟨#[]⟩,false,false⟩⟩),(38,⟨(List Aq),[]⟩),(42,⟨(List ET),[]⟩),(46,⟨Ah,⟨0,0,false,false,false,false,⟨#[]⟩,0⟩⟩),(48,⟨Aq,⟨0,⟨#[]⟩,0,⟨0,0,false,false,false,false,⟨#[]⟩,0⟩⟩⟩),(59,⟨Bool,false⟩),(67,⟨EC,⟨0,false⟩⟩),(73,⟨Cc,⟨0,0⟩⟩),(80,⟨ET,⟨0,⟨#[]⟩,⟨#[]⟩,⟨#[]⟩⟩⟩),(95,⟨Bools 3,XV 3⟩),(96,⟨(List EN),[]⟩),(98,⟨OW,⟨⟨#[]⟩,⟨#[]⟩,[]⟩⟩),(100,⟨(List Int),[]⟩),(101,⟨(List AA),[]⟩),(102,⟨(List KE),[]⟩),(104,⟨Cm,⟨⟨⟨#[]⟩,false,⟨[]⟩,⟨⟨#[]⟩,0,[],0,⟨#[]⟩,0⟩,[],[],0⟩,[],[],[],[]⟩⟩),(115,⟨Int,0⟩),(116,⟨Bools 8,XV 8⟩),(127,⟨KG,⟨⟨#[]⟩,⟨#[]⟩⟩⟩),(140,⟨BQ,⟨⟨#[]⟩,⟨#[]⟩,0⟩⟩),(143,⟨Bool,false⟩),(145,⟨Bool,false⟩),(154,⟨EN,⟨⟨0,0,0,0,⟨#[]⟩,false,false⟩,false,[],false⟩⟩),(156,⟨Bool,false⟩),(165,⟨Bool,false⟩),(167,⟨KD,⟨⟨#[]⟩,0,false⟩⟩),(171,⟨Hu,⟨0,[],[]⟩⟩),(173,⟨MS,⟨⟨0,[],[]⟩,⟨#[]⟩,⟨0,[],[]⟩⟩⟩),(178,⟨(List (List Int)),[]⟩),(188,⟨Int,0⟩),(196,⟨Hz,⟨⟨#[]⟩,⟨#[]⟩,0⟩⟩),(204,⟨Bools 64,XV 64⟩),(212,⟨(List Bool),[]⟩),(226,⟨(List Int),[]⟩),(232,⟨Bool,false⟩),(234,⟨Jg,⟨⟨#[]⟩,0,false⟩⟩),(238,⟨Bool,false⟩),(243,⟨KE,⟨0,0,0⟩⟩),(244,⟨Bools 24,XV 24⟩),(245,⟨Int,0⟩),(259,⟨FY,⟨⟨#[]⟩,0⟩⟩),(293,⟨Bools 25,XV 25⟩),(303,⟨Bools 5,XV 5⟩),(305,⟨(List Int),[]⟩)]
def KI:List (Nat×ZA):=[(2,⟨1,8,.int .i64⟩),(3,⟨1,8,.int .i64⟩),(4,⟨1,1,.bool⟩),(5,⟨1,1,.int .u8⟩),(9,⟨1,16,.str⟩),(22,⟨1,24,.sl 5⟩),(24,⟨1,24,.sl 140⟩),(26,⟨1,24,.st [(24,0)]⟩),(27,⟨1,24,.sl 46⟩),(29,⟨6,80,.st [(9,0),(3,1),(27,2),(3,3),(9,4),(3,5)]⟩),(30,⟨1,24,.sl 67⟩),(31,⟨1,24,.sl 73⟩),(33,⟨12,184,.st [(9,0),(4,1),(26,2),(29,3),(30,9),(31,10),(3,11)]⟩),(35,⟨7,56,.st [(3,0),(3,1),(3,2),(3,3),(9,4),(4,5),(4,6)]⟩),(38,⟨1,24,.sl 48⟩),(42,⟨1,24,.sl 80⟩),(46,⟨8,48,.st [(3,0),(3,1),(4,2),(4,3),(4,4),(4,5),(9,6),(3,7)]⟩),(48,⟨11,80,.st [(3,0),(9,1),(3,2),(46,3)]⟩),(59,⟨1,8,.ptr 95⟩),(67,⟨2,16,.st [(3,0),(4,1)]⟩),(73,⟨2,16,.st [(3,0),(3,1)]⟩),(80,⟨4,56,.st [(3,0),(9,1),(9,2),(9,3)]⟩),(95,⟨3,40,.st [(22,0),(3,1),(3,2)]⟩),(96,⟨1,24,.sl 154⟩),(98,⟨3,56,.st [(9,0),(9,1),(96,2)]⟩),(100,⟨1,24,.sl 3⟩),(101,⟨1,24,.sl 9⟩),(102,⟨1,24,.sl 243⟩),(104,⟨16,280,.st [(33,0),(100,12),(101,13),(102,14),(38,15)]⟩),(115,⟨1,4,.int .u32⟩),(116,⟨8,32,.arr 8 115⟩),(127,⟨2,32,.st [(9,0),(9,1)]⟩),(140,⟨3,40,.st [(9,0),(9,1),(3,2)]⟩),(143,⟨1,8,.ptr 29⟩),(145,⟨1,8,.ptr 33⟩),(154,⟨10,96,.st [(35,0),(4,7),(100,8),(4,9)]⟩),(156,⟨1,8,.ptr 104⟩),(165,⟨1,8,.ptr 167⟩),(167,⟨3,32,.st [(9,0),(3,1),(4,2)]⟩),(171,⟨3,56,.st [(3,0),(101,1),(101,2)]⟩),(173,⟨7,128,.st [(171,0),(9,3),(171,4)]⟩),(178,⟨1,24,.sl 100⟩),(188,⟨1,8,.int .u64⟩),(196,⟨3,40,.st [(9,0),(9,1),(3,2)]⟩),(204,⟨64,256,.arr 64 115⟩),(212,⟨1,24,.sl 4⟩),(226,⟨1,24,.sl 115⟩),(232,⟨1,8,.ptr 234⟩),(234,⟨3,32,.st [(9,0),(3,1),(4,2)]⟩),(238,⟨1,8,.ptr 26⟩),(243,⟨3,24,.st [(3,0),(3,1),(3,2)]⟩),(244,⟨24,24,.arr 24 5⟩),(245,⟨1,8,.int .u64⟩),(259,⟨2,24,.st [(9,0),(3,1)]⟩),(293,⟨25,200,.arr 25 245⟩),(303,⟨5,40,.arr 5 245⟩),(305,⟨1,24,.sl 245⟩)]
def Abp:Dy (Dv els):=⟨2,[.int .i64],fun (x:Int)=>[.int .i64 x],fun cs=>AsM cs 0,(0:Int),some ⟨rfl⟩⟩
def Abq:Dy (Dv els):=⟨3,[.int .i64],fun (x:Int)=>[.int .i64 x],fun cs=>AsM cs 0,(0:Int),some ⟨rfl⟩⟩
def Abr:Dy (Dv els):=⟨4,[.bool],fun (x:Bool)=>[.bool x],fun cs=>AsL cs 0,false,none⟩
def Abs:Dy (Dv els):=⟨5,[.int .u8],fun (x:Int)=>[.int .u8 x],fun cs=>AsM cs 0,(0:Int),some ⟨rfl⟩⟩
def Abt:Dy (Dv els):=⟨9,[.str],fun (x:AA)=>[.str x],fun cs=>Atu cs 0,(⟨#[]⟩:AA),none⟩
def Aav:Dy (Dv els):=⟨22,[.sl 5],fun (x:(List Int))=>[.BH 5 x],fun cs=>AsO cs 0 5,[],none⟩
def Aaw:Dy (Dv els):=⟨24,[.sl 140],fun (x:(List BQ))=>[.BH 140 x],fun cs=>AsO cs 0 140,[],none⟩
def Aax:Dy (Dv els):=⟨26,[.sl 140],fun (x:BO)=>[.BH 140 x.Ai],fun cs=>⟨AsO cs 0 140⟩,(⟨[]⟩:BO),none⟩
def Aay:Dy (Dv els):=⟨27,[.sl 46],fun (x:(List Ah))=>[.BH 46 x],fun cs=>AsO cs 0 46,[],none⟩
def Aaz:Dy (Dv els):=⟨29,[.str,.int .i64,.sl 46,.int .i64,.str,.int .i64],fun (x:Bf)=>[.str x.Bv,.int .i64 x.DR,.BH 46 x.Ag,.int .i64 x.BR,.str x.Dp,.int .i64 x.fCount],fun cs=>⟨Atu cs 0,AsM cs 1,AsO cs 2 46,AsM cs 3,Atu cs 4,AsM cs 5⟩,(⟨⟨#[]⟩,0,[],0,⟨#[]⟩,0⟩:Bf),none⟩
def Aa0:Dy (Dv els):=⟨30,[.sl 67],fun (x:(List EC))=>[.BH 67 x],fun cs=>AsO cs 0 67,[],none⟩
def Aa1:Dy (Dv els):=⟨31,[.sl 73],fun (x:(List Cc))=>[.BH 73 x],fun cs=>AsO cs 0 73,[],none⟩
def Aa2:Dy (Dv els):=⟨33,[.str,.bool,.sl 140,.str,.int .i64,.sl 46,.int .i64,.str,.int .i64,.sl 67,.sl 73,.int .i64],fun (x:Aj)=>[.str x.BN,.bool x.Bj,.BH 140 x.Bd.Ai,.str x.AV.Bv,.int .i64 x.AV.DR,.BH 46 x.AV.Ag,.int .i64 x.AV.BR,.str x.AV.Dp,.int .i64 x.AV.fCount,.BH 67 x.BI,.BH 73 x.BJ,.int .i64 x.CU],fun cs=>⟨Atu cs 0,AsL cs 1,⟨AsO cs 2 140⟩,⟨Atu cs 3,AsM cs 4,AsO cs 5 46,AsM cs 6,Atu cs 7,AsM cs 8⟩,AsO cs 9 67,AsO cs 10 73,AsM cs 11⟩,(⟨⟨#[]⟩,false,⟨[]⟩,⟨⟨#[]⟩,0,[],0,⟨#[]⟩,0⟩,[],[],0⟩:Aj),none⟩
def Aa3:Dy (Dv els):=⟨35,[.int .i64,.int .i64,.int .i64,.int .i64,.str,.bool,.bool],fun (x:CJ)=>[.int .i64 x.Au,.int .i64 x.Dz,.int .i64 x.BK,.int .i64 x.Aa,.str x.fText,.bool x.CY,.bool x.CZ],fun cs=>⟨AsM cs 0,AsM cs 1,AsM cs 2,AsM cs 3,Atu cs 4,AsL cs 5,AsL cs 6⟩,(⟨0,0,0,0,⟨#[]⟩,false,false⟩:CJ),none⟩
def Aa4:Dy (Dv els):=⟨38,[.sl 48],fun (x:(List Aq))=>[.BH 48 x],fun cs=>AsO cs 0 48,[],none⟩
def Aa5:Dy (Dv els):=⟨42,[.sl 80],fun (x:(List ET))=>[.BH 80 x],fun cs=>AsO cs 0 80,[],none⟩
def Aa6:Dy (Dv els):=⟨46,[.int .i64,.int .i64,.bool,.bool,.bool,.bool,.str,.int .i64],fun (x:Ah)=>[.int .i64 x.fId,.int .i64 x.Aa,.bool x.CY,.bool x.CZ,.bool x.GI,.bool x.Fb,.str x.fValue,.int .i64 x.fNext],fun cs=>⟨AsM cs 0,AsM cs 1,AsL cs 2,AsL cs 3,AsL cs 4,AsL cs 5,Atu cs 6,AsM cs 7⟩,(⟨0,0,false,false,false,false,⟨#[]⟩,0⟩:Ah),none⟩
def Aa7:Dy (Dv els):=⟨48,[.int .i64,.str,.int .i64,.int .i64,.int .i64,.bool,.bool,.bool,.bool,.str,.int .i64],fun (x:Aq)=>[.int .i64 x.Aa,.str x.fText,.int .i64 x.DY,.int .i64 x.BK.fId,.int .i64 x.BK.Aa,.bool x.BK.CY,.bool x.BK.CZ,.bool x.BK.GI,.bool x.BK.Fb,.str x.BK.fValue,.int .i64 x.BK.fNext],fun cs=>⟨AsM cs 0,Atu cs 1,AsM cs 2,⟨AsM cs 3,AsM cs 4,AsL cs 5,AsL cs 6,AsL cs 7,AsL cs 8,Atu cs 9,AsM cs 10⟩⟩,(⟨0,⟨#[]⟩,0,⟨0,0,false,false,false,false,⟨#[]⟩,0⟩⟩:Aq),none⟩
def Aa8:Dy (Dv els):=⟨59,[.bool],fun (x:Bool)=>[.bool x],fun cs=>AsL cs 0,false,none⟩
def Aa9:Dy (Dv els):=⟨67,[.int .i64,.bool],fun (x:EC)=>[.int .i64 x.fId,.bool x.RS],fun cs=>⟨AsM cs 0,AsL cs 1⟩,(⟨0,false⟩:EC),none⟩
def AbA:Dy (Dv els):=⟨73,[.int .i64,.int .i64],fun (x:Cc)=>[.int .i64 x.fId,.int .i64 x.fNext],fun cs=>⟨AsM cs 0,AsM cs 1⟩,(⟨0,0⟩:Cc),none⟩
def AbB:Dy (Dv els):=⟨80,[.int .i64,.str,.str,.str],fun (x:ET)=>[.int .i64 x.Aa,.str x.fName,.str x.fText,.str x.Ij],fun cs=>⟨AsM cs 0,Atu cs 1,Atu cs 2,Atu cs 3⟩,(⟨0,⟨#[]⟩,⟨#[]⟩,⟨#[]⟩⟩:ET),none⟩
def AbC:Dy (Dv els):=⟨95,ZL 3 (fun x=>x) (fun x=>x)⟩
def AbD:Dy (Dv els):=⟨96,[.sl 154],fun (x:(List EN))=>[.BH 154 x],fun cs=>AsO cs 0 154,[],none⟩
def AbE:Dy (Dv els):=⟨98,[.str,.str,.sl 154],fun (x:OW)=>[.str x.BN,.str x.Bv,.BH 154 x.rG],fun cs=>⟨Atu cs 0,Atu cs 1,AsO cs 2 154⟩,(⟨⟨#[]⟩,⟨#[]⟩,[]⟩:OW),none⟩
def AaJ:Dy (Dv els):=⟨100,[.sl 3],fun (x:(List Int))=>[.BH 3 x],fun cs=>AsO cs 0 3,[],none⟩
def AaK:Dy (Dv els):=⟨101,[.sl 9],fun (x:(List AA))=>[.BH 9 x],fun cs=>AsO cs 0 9,[],none⟩
def AaL:Dy (Dv els):=⟨102,[.sl 243],fun (x:(List KE))=>[.BH 243 x],fun cs=>AsO cs 0 243,[],none⟩
def AaM:Dy (Dv els):=⟨104,[.str,.bool,.sl 140,.str,.int .i64,.sl 46,.int .i64,.str,.int .i64,.sl 67,.sl 73,.int .i64,.sl 3,.sl 9,.sl 243,.sl 48],fun (x:Cm)=>[.str x.Ad.BN,.bool x.Ad.Bj,.BH 140 x.Ad.Bd.Ai,.str x.Ad.AV.Bv,.int .i64 x.Ad.AV.DR,.BH 46 x.Ad.AV.Ag,.int .i64 x.Ad.AV.BR,.str x.Ad.AV.Dp,.int .i64 x.Ad.AV.fCount,.BH 67 x.Ad.BI,.BH 73 x.Ad.BJ,.int .i64 x.Ad.CU,.BH 3 x.Du,.BH 9 x.GR,.BH 243 x.Ey,.BH 48 x.Ez],fun cs=>⟨⟨Atu cs 0,AsL cs 1,⟨AsO cs 2 140⟩,⟨Atu cs 3,AsM cs 4,AsO cs 5 46,AsM cs 6,Atu cs 7,AsM cs 8⟩,AsO cs 9 67,AsO cs 10 73,AsM cs 11⟩,AsO cs 12 3,AsO cs 13 9,AsO cs 14 243,AsO cs 15 48⟩,(⟨⟨⟨#[]⟩,false,⟨[]⟩,⟨⟨#[]⟩,0,[],0,⟨#[]⟩,0⟩,[],[],0⟩,[],[],[],[]⟩:Cm),none⟩
def AaN:Dy (Dv els):=⟨115,[.int .u32],fun (x:Int)=>[.int .u32 x],fun cs=>AsM cs 0,(0:Int),some ⟨rfl⟩⟩
def AaO:Dy (Dv els):=⟨116,ZL 8 (fun x=>x) (fun x=>x)⟩
def AaP:Dy (Dv els):=⟨127,[.str,.str],fun (x:KG)=>[.str x.ZM,.str x.ZN],fun cs=>⟨Atu cs 0,Atu cs 1⟩,(⟨⟨#[]⟩,⟨#[]⟩⟩:KG),none⟩
def AaQ:Dy (Dv els):=⟨140,[.str,.str,.int .i64],fun (x:BQ)=>[.str x.fName,.str x.fText,.int .i64 x.Jp],fun cs=>⟨Atu cs 0,Atu cs 1,AsM cs 2⟩,(⟨⟨#[]⟩,⟨#[]⟩,0⟩:BQ),none⟩
def AaR:Dy (Dv els):=⟨143,[.bool],fun (x:Bool)=>[.bool x],fun cs=>AsL cs 0,false,none⟩
def AaS:Dy (Dv els):=⟨145,[.bool],fun (x:Bool)=>[.bool x],fun cs=>AsL cs 0,false,none⟩
def AaT:Dy (Dv els):=⟨154,[.int .i64,.int .i64,.int .i64,.int .i64,.str,.bool,.bool,.bool,.sl 3,.bool],fun (x:EN)=>[.int .i64 x.CP.Au,.int .i64 x.CP.Dz,.int .i64 x.CP.BK,.int .i64 x.CP.Aa,.str x.CP.fText,.bool x.CP.CY,.bool x.CP.CZ,.bool x.RN,.BH 3 x.QK,.bool x.MV],fun cs=>⟨⟨AsM cs 0,AsM cs 1,AsM cs 2,AsM cs 3,Atu cs 4,AsL cs 5,AsL cs 6⟩,AsL cs 7,AsO cs 8 3,AsL cs 9⟩,(⟨⟨0,0,0,0,⟨#[]⟩,false,false⟩,false,[],false⟩:EN),none⟩
def AaU:Dy (Dv els):=⟨156,[.bool],fun (x:Bool)=>[.bool x],fun cs=>AsL cs 0,false,none⟩
def AaV:Dy (Dv els):=⟨165,[.bool],fun (x:Bool)=>[.bool x],fun cs=>AsL cs 0,false,none⟩
def AaW:Dy (Dv els):=⟨167,[.str,.int .i64,.bool],fun (x:KD)=>[.str x.fText,.int .i64 x.D8,.bool x.Ih],fun cs=>⟨Atu cs 0,AsM cs 1,AsL cs 2⟩,(⟨⟨#[]⟩,0,false⟩:KD),none⟩
def AaX:Dy (Dv els):=⟨171,[.int .i64,.sl 9,.sl 9],fun (x:Hu)=>[.int .i64 x.GU,.BH 9 x.FK,.BH 9 x.F8],fun cs=>⟨AsM cs 0,AsO cs 1 9,AsO cs 2 9⟩,(⟨0,[],[]⟩:Hu),none⟩
def AaY:Dy (Dv els):=⟨173,[.int .i64,.sl 9,.sl 9,.str,.int .i64,.sl 9,.sl 9],fun (x:MS)=>[.int .i64 x.PN.GU,.BH 9 x.PN.FK,.BH 9 x.PN.F8,.str x.PI,.int .i64 x.PO.GU,.BH 9 x.PO.FK,.BH 9 x.PO.F8],fun cs=>⟨⟨AsM cs 0,AsO cs 1 9,AsO cs 2 9⟩,Atu cs 3,⟨AsM cs 4,AsO cs 5 9,AsO cs 6 9⟩⟩,(⟨⟨0,[],[]⟩,⟨#[]⟩,⟨0,[],[]⟩⟩:MS),none⟩
def AaZ:Dy (Dv els):=⟨178,[.sl 100],fun (x:(List (List Int)))=>[.BH 100 x],fun cs=>AsO cs 0 100,[],none⟩
def Aaa:Dy (Dv els):=⟨188,[.int .u64],fun (x:Int)=>[.int .u64 x],fun cs=>AsM cs 0,(0:Int),some ⟨rfl⟩⟩
def Aab:Dy (Dv els):=⟨196,[.str,.str,.int .i64],fun (x:Hz)=>[.str x.FZ,.str x.MW,.int .i64 x.fCount],fun cs=>⟨Atu cs 0,Atu cs 1,AsM cs 2⟩,(⟨⟨#[]⟩,⟨#[]⟩,0⟩:Hz),none⟩
def Aac:Dy (Dv els):=⟨204,ZL 64 (fun x=>x) (fun x=>x)⟩
def Aad:Dy (Dv els):=⟨212,[.sl 4],fun (x:(List Bool))=>[.BH 4 x],fun cs=>AsO cs 0 4,[],none⟩
def Aae:Dy (Dv els):=⟨226,[.sl 115],fun (x:(List Int))=>[.BH 115 x],fun cs=>AsO cs 0 115,[],none⟩
def Aaf:Dy (Dv els):=⟨232,[.bool],fun (x:Bool)=>[.bool x],fun cs=>AsL cs 0,false,none⟩
def Aag:Dy (Dv els):=⟨234,[.str,.int .i64,.bool],fun (x:Jg)=>[.str x.fText,.int .i64 x.D8,.bool x.Ih],fun cs=>⟨Atu cs 0,AsM cs 1,AsL cs 2⟩,(⟨⟨#[]⟩,0,false⟩:Jg),none⟩
def Aah:Dy (Dv els):=⟨238,[.bool],fun (x:Bool)=>[.bool x],fun cs=>AsL cs 0,false,none⟩
def Aai:Dy (Dv els):=⟨243,[.int .i64,.int .i64,.int .i64],fun (x:KE)=>[.int .i64 x.BK,.int .i64 x.GU,.int .i64 x.Aau],fun cs=>⟨AsM cs 0,AsM cs 1,AsM cs 2⟩,(⟨0,0,0⟩:KE),none⟩
def Aaj:Dy (Dv els):=⟨244,ZL 24 (fun x=>x) (fun x=>x)⟩
def Aak:Dy (Dv els):=⟨245,[.int .u64],fun (x:Int)=>[.int .u64 x],fun cs=>AsM cs 0,(0:Int),some ⟨rfl⟩⟩
def Aal:Dy (Dv els):=⟨259,[.str,.int .i64],fun (x:FY)=>[.str x.FZ,.int .i64 x.D8],fun cs=>⟨Atu cs 0,AsM cs 1⟩,(⟨⟨#[]⟩,0⟩:FY),none⟩
def Aam:Dy (Dv els):=⟨293,ZL 25 (fun x=>x) (fun x=>x)⟩
def Aan:Dy (Dv els):=⟨303,ZL 5 (fun x=>x) (fun x=>x)⟩
def Aao:Dy (Dv els):=⟨305,[.sl 245],fun (x:(List Int))=>[.BH 245 x],fun cs=>AsO cs 0 245,[],none⟩
def ents:List (Dy (Dv els)):=[Abp,Abq,Abr,Abs,Abt,Aav,Aaw,Aax,Aay,Aaz,Aa0,Aa1,Aa2,Aa3,Aa4,Aa5,Aa6,Aa7,Aa8,Aa9,AbA,AbB,AbC,AbD,AbE,AaJ,AaK,AaL,AaM,AaN,AaO,AaP,AaQ,AaR,AaS,AaT,AaU,AaV,AaW,AaX,AaY,AaZ,Aaa,Aab,Aac,Aad,Aae,Aaf,Aag,Aah,Aai,Aaj,Aak,Aal,Aam,Aan,Aao]
def modes:List (Nat×List Mode'):=[(246,[.mv,.rd]),(354,[.mv]),(216,[.io,.rd]),(217,[.mv,.rd,.rd,.rd,.rd])]
def cuts:List (Nat×List (Nat×(List Nat×List Nat×List (Nat×Nat)×List (Nat×Nat×Nat)))):=[(18,[(3,([0,3,4],[],[(0,5)],[]))]),
  (108,[(3,([0,1,5,6],[],[(5,5)],[]))]),
  (195,[(3,([0,3,4],[],[(0,115),(3,5)],[]))]),
  (192,[(3,([0,3,4],[],[(3,115)],[]))]),
  (194,[(3,([0,1,7,8],[],[(0,115),(1,115),(7,115)],[])),(8,([0,1,7,9,10],[],[(0,115),(1,115),(7,115),(9,115)],[])),(16,([0,1,7,9,10,13,15,16],[],[(0,115),(1,115),(7,115),(9,115)],[])),(23,([0,9,17,18],[],[(0,115),(9,115),(17,115)],[]))]),
  (153,[(7,([1,2,4,5,6,7,8],[128,256],[(5,115),(6,115)],[]))]),
  (152,[(5,([1,3],[64],[(3,5)],[])),(9,([1,3,4,5],[64],[(3,5)],[])),(13,([1,3,4,5,6,7],[64],[(3,5)],[])),(20,([3,8,9,10],[],[(3,5),(8,115),(9,115)],[]))]),
  (121,[(2,([0,3],[],[(3,5)],[]))]),
  (53,[(4,([1,3],[64],[],[(64,2,46)]))]),
  (55,[(2,([1,2,4,6],[128,256],[],[(128,2,46)]))]),
  (207,[(3,([0,3,5,6],[192],[(0,46),(5,46)],[])),(9,([0,3,5,7],[192],[(0,46),(5,46)],[]))]),
  (160,[(24,([2,3,4,6,8,13,14],[128,192,256,512],[(13,46)],[(128,2,46),(256,2,46),(512,2,46)]))]),
  (257,[(5,([0,1,5,6],[],[(5,5)],[]))]),
  (169,[(5,([0,1,2,8,9],[],[(8,5)],[]))]),
  (170,[(3,([1,5,6],[],[(5,5)],[]))]),
  (243,[(2,([0,1,5],[],[],[])),(6,([0,1,5,6],[],[],[]))]),
  (48,[(4,([1,3],[64],[],[(64,0,140)]))]),
  (96,[(2,([1,2,5],[128],[],[(128,0,140)]))]),
  (97,[(3,([2,3,4,5,6],[128,192,256,320],[],[(128,0,140),(256,0,140),(320,0,140)])),(9,([2,3,4,5,7],[128,192,256,320],[],[(128,0,140),(256,0,140),(320,0,140)]))]),
  (98,[(3,([1,2,4,5,6],[128,256,320],[],[(128,0,140),(256,0,140),(320,0,140)]))]),
  (9,[(3,([1,4,6,7],[256,384],[(1,80)],[(256,0,140),(384,0,140)]))]),
  (124,[(5,([0,1,5,6],[0],[(5,5)],[(0,0,5)]))]),
  (67,[(4,([0,6],[],[(6,5)],[]))]),
  (20,[(13,([0,2,4,6,7,8],[0,256,384,448],[],[(0,0,5),(256,2,140),(256,5,46),(256,9,67),(256,10,73)])),(9,([0,2,4,6,7],[0,256,384,448],[],[(0,0,5),(256,2,140),(256,5,46),(256,9,67),(256,10,73)])),(17,([0,2,4,6,7],[0,256,384,448],[],[(0,0,5),(256,2,140),(256,5,46),(256,9,67),(256,10,73)])),(37,([0,6,7],[0,384,448],[],[(0,0,5)])),(39,([0,6,7],[0,384,448],[],[(0,0,5)]))]),
  (247,[(5,([0,3,4],[],[],[]))]),
  (248,[(2,([1,2,5],[128],[],[(128,2,140),(128,5,46),(128,9,67),(128,10,73)]))]),
  (197,[(6,([0,1,7,8,9],[],[],[]))]),
  (56,[(2,([2,3,5],[128,192],[],[(128,2,140),(128,5,46),(128,9,67),(128,10,73)]))]),
  (329,[(3,([0,1,5,6],[],[(5,9)],[]))]),
  (345,[(2,([0,1,2,3,4,11],[],[],[]))]),
  (343,[(5,([0,1,5,6],[],[(0,9)],[]))]),
  (327,[(3,([0,3,4],[],[(3,9)],[]))]),
  (342,[(3,([0,1,5,6],[],[(1,9),(5,9)],[]))]),
  (326,[(4,([0,3],[],[(0,9)],[]))]),
  (344,[(5,([3,4,5,6],[],[(4,3)],[]))]),
  (328,[(6,([0,1,7,8,9],[],[(0,9),(7,9),(8,3)],[]))]),
  (330,[(5,([0,1,5,6],[],[(0,9),(5,9)],[]))]),
  (331,[(4,([1,3],[64],[],[(64,1,9),(64,2,9)])),(9,([1,4],[64],[],[(64,1,9),(64,2,9)]))]),
  (313,[(5,([1,4,5],[64],[],[(64,1,9),(64,2,9)])),(9,([1,4,6],[64],[],[(64,1,9),(64,2,9)]))]),
  (353,[(3,([0,3,4],[],[(3,245)],[])),(7,([0,3,4,5,6],[],[(3,245)],[]))]),
  (356,[(5,([1,2,3,4],[],[(1,3)],[]))]),
  (357,[(4,([1,2,3],[],[(1,245)],[])),(9,([1,2,3,4,5,6],[],[(1,245)],[]))]),
  (359,[(3,([0,1,5,6],[],[],[]))]),
  (358,[(3,([0,1,2,7,8],[],[(0,245),(1,3),(7,245)],[])),(8,([0,1,2,7,9,10],[],[(0,245),(1,3),(7,245),(9,245)],[])),(12,([0,1,2,7,9,10,11,12],[],[(0,245),(1,3),(7,245),(9,245)],[])),(17,([2,9,13,14],[],[(9,245),(13,245)],[])),(20,([2,9,13,14,15],[],[(9,245),(13,245)],[]))]),
  (354,[(4,([0,3,4,5],[],[(0,245),(3,3),(4,245)],[]))]),
  (355,[(3,([0,3,4],[],[(0,245),(3,5)],[])),(7,([0,3,4,5,6],[],[(0,245),(3,5)],[]))]),
  (347,[(3,([1,7,8],[],[(7,245),(8,5)],[])),(7,([1,7,8,9],[],[(7,245),(8,5)],[])),(11,([1,7,8,9,10,11],[],[(7,245),(8,5),(10,245)],[]))]),
  (333,[(4,([1,2,4,6],[128,256],[(6,5)],[]))]),
  (314,[(5,([7,8,9,10],[512],[(7,3)],[])),(18,([7],[],[(7,3)],[]))]),
  (297,[(3,([0,3,4],[],[(3,100)],[])),(6,([0,3,4,5],[],[(3,100)],[]))]),
  (299,[(4,([5,6,8],[],[(5,3)],[]))]),
  (315,[(4,([0,3],[],[(0,3)],[]))]),
  (317,[(6,([0,3,4],[],[],[]))]),
  (316,[(7,([0,1,5],[],[],[]))]),
  (298,[(6,([3,4,5],[],[(3,3)],[])),(9,([3,4,5,6],[],[(3,3)],[])),(14,([3,4,5,6,7,8],[],[(3,3)],[]))]),
  (334,[(3,([0,3,4],[],[],[]))]),
  (319,[(4,([0,1,6],[],[(0,3)],[])),(12,([0,1,7,8,9,10],[],[(0,3),(7,5)],[])),(16,([0,1,7,8,9,10],[],[(0,3),(7,5)],[]))]),
  (320,[(5,([0,1,5,6],[],[(0,3),(1,3),(5,3)],[]))]),
  (301,[(3,([0,1,5,6],[],[(0,3),(1,3),(5,3)],[]))]),
  (302,[(3,([0,1,5,6],[],[(0,100),(1,100),(5,3)],[]))]),
  (281,[(11,([2,4,5,6,7,8,9,10,11],[128],[(7,100),(8,100)],[])),(17,([2,4,5,6,7,8,9,10,13],[128],[(7,100),(8,100)],[]))]),
  (321,[(8,([1,6,8,9],[],[(6,100),(8,100)],[]))]),
  (285,[(5,([1,2,4,6,7],[128,256,384],[(1,3)],[(128,0,140),(256,0,140),(384,0,140)]))]),
  (155,[(5,([0,4,5],[],[(4,9)],[]))]),
  (110,[(5,([0,6,7,9,10],[],[(6,48),(7,9)],[]))]),
  (210,[(8,([0,6,9],[0,384,576],[],[(0,2,140),(0,5,46),(0,9,67),(0,10,73),(0,12,3),(0,13,9),(0,14,243),(0,15,48),(384,2,140),(384,5,46),(384,9,67),(384,10,73),(576,0,140)]))]),
  (256,[(3,([0,1,2,7,8],[],[(0,73),(7,73)],[])),(10,([0,1,7,9],[],[(0,73),(7,73)],[]))]),
  (212,[(11,([4,5,8,9,10,11],[256,320,512,576],[(10,67)],[(256,2,140),(256,5,46),(256,9,67),(256,10,73),(512,2,140),(512,5,46),(512,9,67),(512,10,73),(576,2,140),(576,5,46),(576,9,67),(576,10,73)])),(18,([5,8,9,12],[320,512,576],[],[(512,2,140),(512,5,46),(512,9,67),(512,10,73),(576,2,140),(576,5,46),(576,9,67),(576,10,73)]))]),
  (164,[(8,([0,1,5,6,7,8,9,10],[0,320],[(6,48)],[(0,2,140),(0,5,46),(0,9,67),(0,10,73),(0,12,3),(0,13,9),(0,14,243),(0,15,48),(320,8,3)]))]),
  (50,[(4,([2,3,5],[128,192],[],[(128,2,46),(192,2,46)]))]),
  (111,[(3,([1,4,6,7],[256,384],[(1,48)],[(256,2,46),(384,2,46)]))]),
  (54,[(2,([1,3],[64],[],[(64,2,140),(64,5,46),(64,9,67),(64,10,73)]))]),
  (13,[(4,([1,3],[64],[],[(64,2,140),(64,5,46),(64,9,67),(64,10,73)]))]),
  (59,[(7,([0,4,5,6,8,9],[0,256,320,384],[],[(0,0,5),(256,2,154),(320,2,154),(384,2,140),(384,5,46),(384,9,67),(384,10,73),(384,12,3),(384,13,9),(384,14,243),(384,15,48)]))]),
  (60,[(3,([2,6,8,9,10],[384,512],[(2,154)],[(384,2,140),(384,5,46),(384,9,67),(384,10,73),(384,12,3),(384,13,9),(384,14,243),(384,15,48),(512,2,140),(512,5,46),(512,9,67),(512,10,73),(512,12,3),(512,13,9),(512,14,243),(512,15,48)])),(9,([2,6,8,11],[384,512],[(2,154)],[(384,2,140),(384,5,46),(384,9,67),(384,10,73),(384,12,3),(384,13,9),(384,14,243),(384,15,48),(512,2,140),(512,5,46),(512,9,67),(512,10,73),(512,12,3),(512,13,9),(512,14,243),(512,15,48)]))]),
  (43,[(2,([1,6,7,8],[64],[(6,140)],[(64,0,140)]))]),
  (173,[(3,([0,2,3,11],[128,192],[],[])),(6,([0,2,3,4,11,14],[128,192],[],[])),(12,([2,3,6],[128,192],[],[]))]),
  (127,[(4,([2,4,5,6,7,8,9,10,11,12,13,37],[128,256,320],[],[])),(13,([2,4,17,109],[128,256,1088],[],[]))]),
  (70,[(1,([1,2,4],[128,256],[],[]))]),
  (73,[(3,([3,6,7],[],[],[]))]),
  (101,[(4,([0,1,12,13],[],[(0,46),(1,46)],[]))]),
  (106,[(2,([1,8,9,10],[],[(8,140)],[]))]),
  (175,[(5,([0,1,7,8],[],[],[]))]),
  (149,[(2,([0,1,5],[],[],[])),(6,([0,1,5,19],[],[],[]))]),
  (150,[(5,([0,4,5],[],[(4,9)],[]))]),
  (88,[(2,([0,3],[],[(3,5)],[]))]),
  (190,[(3,([1,5,10,11],[],[(5,5)],[]))]),
  (90,[(6,([0,2,8,10,11],[],[],[]))]),
  (91,[(3,([1,5,10,11],[],[(5,5)],[]))]),
  (136,[(3,([3,14,15,16],[],[(14,4)],[]))]),
  (104,[(5,([0,8,9,23,24,25],[],[(8,48),(23,9)],[]))]),
  (37,[(2,([1,6,7,8],[64],[(6,46)],[(64,2,46)]))]),
  (40,[(2,([1,8,9,10],[],[(8,46)],[]))]),
  (105,[(3,([4,6,13,14,15],[256,384],[(13,48)],[(256,2,46),(384,2,46)]))]),
  (47,[(2,([1,8,9,10],[64],[(8,73)],[(64,2,140),(64,5,46),(64,9,67),(64,10,73)]))]),
  (12,[(6,([1,44,45,46],[64],[(44,67)],[(64,2,140),(64,5,46),(64,9,67),(64,10,73)]))]),
  (24,[(2,([1,8,9,10],[],[(8,67)],[]))]),
  (31,[(2,([1,8,9,10],[],[(8,73)],[]))]),
  (222,[(3,([0,1,5,7],[],[(5,9)],[]))]),
  (266,[(2,([0,1,2,3,13,14],[],[],[]))]),
  (289,[(5,([1,2,3,9,15,16,17],[],[(15,9)],[]))]),
  (220,[(3,([0,3,5],[],[(3,9)],[]))]),
  (263,[(3,([0,1,5,6],[],[(1,9),(5,9)],[]))]),
  (219,[(4,([0,3],[],[(0,9)],[]))]),
  (265,[(5,([3,4,5,11],[],[(3,3)],[])),(10,([3,4,28,29,30],[],[(3,3),(28,3)],[]))]),
  (221,[(6,([1,7,8,16,17,18],[],[(7,3),(8,9),(16,9)],[]))]),
  (223,[(5,([0,1,5,6],[],[(0,9),(5,9)],[]))]),
  (268,[(2,([0,1,7,8,9],[],[(0,9),(7,9)],[]))]),
  (178,[(5,([1,4,16,17,18],[64],[(16,9)],[(64,1,9),(64,2,9)])),(10,([4,27,28,29],[],[(27,9)],[]))]),
  (293,[(3,([0,2,3,5],[128,192],[],[]))]),
  (306,[(3,([1,2,3,8,9],[64,128,192],[],[])),(8,([1,2,3,21],[64,128,192],[],[]))]),
  (307,[(5,([1,2,3,4,5,13],[64,128,192],[],[]))]),
  (308,[(3,([1,2,3,6],[64,128,192],[],[])),(6,([1,2,3,4,6,9],[64,128,192],[],[]))]),
  (325,[(3,([3,4,5],[],[],[]))]),
  (309,[(3,([0,3,5],[],[],[]))]),
  (292,[(2,([1,2,4],[64,128],[],[]))]),
  (294,[(3,([1,3,7,8],[64],[(3,5)],[]))]),
  (269,[(2,([1,7],[],[(7,5)],[])),(7,([1,7,8,9],[],[(7,5),(8,5)],[])),(10,([1,7,8,9,40,41],[],[(7,5),(8,5)],[]))]),
  (231,[(4,([1,2,4,6],[128,256],[],[]))]),
  (180,[(4,([5,7,20,21],[],[(7,3)],[]))]),
  (139,[(3,([0,1,5,7],[],[(5,100)],[]))]),
  (181,[(2,([0,5,6,7],[],[(0,3),(5,3)],[]))]),
  (227,[(3,([0,3,5],[],[],[]))]),
  (226,[(5,([0,1,5],[],[],[]))]),
  (179,[(6,([3,4,5],[],[(3,3)],[])),(9,([3,4,5,6],[],[(3,3)],[])),(14,([3,4,5,6,7,8],[],[(3,3)],[]))]),
  (138,[(3,([3,6,7,8],[],[(3,100),(6,100)],[]))]),
  (186,[(5,([7,8,9,10],[448],[(8,3)],[])),(11,([7,8,9,10,60,61,62],[448],[(8,3),(60,3)],[]))]),
  (143,[(3,([0,1,2,7,9],[],[(7,100)],[]))]),
  (185,[(5,([0,1,5,21],[],[(0,3),(1,3),(5,3)],[]))]),
  (183,[(5,([0,1,2,7,19,20],[],[(0,3),(1,3),(7,3)],[]))]),
  (142,[(3,([0,1,5,9,10],[],[(0,100),(1,100),(5,3)],[]))]),
  (182,[(3,([1,5,17,18,19],[],[(5,5),(17,3)],[])),(6,([1,5,6,7,17,18,19,24,25],[],[(5,5),(17,3)],[]))]),
  (84,[(8,([2,4,5,7,8,9,10,30],[128],[(7,100),(8,100)],[]))]),
  (187,[(8,([1,6,8,29],[],[(6,100),(8,100)],[]))]),
  (42,[(4,([0,1,2,7],[0],[],[(0,2,140),(0,5,46),(0,9,67),(0,10,73)]))]),
  (11,[(13,([3,4,5,8,9,11,12],[256,320,512,576,704],[],[(256,2,140),(256,5,46),(256,9,67),(256,10,73),(512,2,140),(512,5,46),(512,9,67),(512,10,73),(576,2,140),(576,5,46),(576,9,67),(576,10,73)])),(15,([4,5,8,9],[256,320,512,576],[],[(256,2,140),(256,5,46),(256,9,67),(256,10,73),(512,2,140),(512,5,46),(512,9,67),(512,10,73),(576,2,140),(576,5,46),(576,9,67),(576,10,73)]))]),
  (161,[(3,([0,3,4],[0,192],[],[(0,0,140)]))]),
  (58,[(3,([1,4,6,13,14,15],[256,384],[(1,80),(13,80)],[(256,0,140),(384,0,140)]))]),
  (17,[(4,([2,3,5],[128,192],[],[(128,2,46),(192,2,46)]))]),
  (3,[(8,([3,4,5,6,8,9,10],[192,256,576],[(5,48)],[(192,2,140),(192,5,46),(192,9,67),(192,10,73),(576,2,140),(576,5,46),(576,9,67),(576,10,73)]))])]
def tabs:List (Nat×(Nat×List Int)):=[(0,(204,[1116352408,1899447441,3049323471,3921009573,961987163,1508970993,2453635748,2870763221,3624381080,310598401,607225278,1426881987,1925078388,2162078206,2614888103,3248222580,3835390401,4022224774,264347078,604807628,770255983,1249150122,1555081692,1996064986,2554220882,2821834349,2952996808,3210313671,3336571891,3584528711,113926993,338241895,666307205,773529912,1294757372,1396182291,1695183700,1986661051,2177026350,2456956037,2730485921,2820302411,3259730800,3345764771,3516065817,3600352804,4094571909,275423344,430227734,506948616,659060556,883997877,958139571,1322822218,1537002063,1747873779,1955562222,2024104815,2227730452,2361852424,2428436474,2756734187,3204031479,3329325298]))]
set_option linter.unusedSectionVars false
variable [PC]
def ctx:Ctx:=mkCtx els KI ents modes cuts tabs PC.pm [184,273,290,291]
noncomputable abbrev PP:Program:=Tryz.prog
abbrev LI:=List Go.Item×Env ctx×Hp ctx
abbrev Asy:=Cv (List (U (Dv els)))
abbrev JD:=Cv (List (L (Dv els)))
theorem ARg:EG ctx Tryz.prog:=AZ8 (by kernel_rfl) (fun x hx=>by
  simp only [ents,List.mem_cons,List.not_mem_nil,or_false] at hx;rcases hx with rfl | rfl | rfl | rfl | rfl | rfl | rfl | rfl | rfl | rfl | rfl | rfl | rfl | rfl | rfl | rfl | rfl | rfl | rfl | rfl | rfl | rfl | rfl | rfl | rfl | rfl | rfl | rfl | rfl | rfl | rfl | rfl | rfl | rfl | rfl | rfl | rfl | rfl | rfl | rfl | rfl | rfl | rfl | rfl | rfl | rfl | rfl | rfl | rfl | rfl | rfl | rfl | rfl | rfl | rfl | rfl | rfl
  all_goals first | exact cg _ | exact fV (C:=ctx) (e:=95) (n:=3) (f:=fun x=>x) (g:=fun x=>x) (fun _=>rfl) (by kernel_rfl) | exact fV (C:=ctx) (e:=116) (n:=8) (f:=fun x=>x) (g:=fun x=>x) (fun _=>rfl) (by kernel_rfl) | exact fV (C:=ctx) (e:=204) (n:=64) (f:=fun x=>x) (g:=fun x=>x) (fun _=>rfl) (by kernel_rfl) | exact fV (C:=ctx) (e:=244) (n:=24) (f:=fun x=>x) (g:=fun x=>x) (fun _=>rfl) (by kernel_rfl) | exact fV (C:=ctx) (e:=293) (n:=25) (f:=fun x=>x) (g:=fun x=>x) (fun _=>rfl) (by kernel_rfl) | exact fV (C:=ctx) (e:=303) (n:=5) (f:=fun x=>x) (g:=fun x=>x) (fun _=>rfl) (by kernel_rfl))
def sG:Asy Unit:=q1 (DJ AIO)
def GK:Asy Bool:=q1 uB
def Nu:JD C9:=Ii (AZ AIO (AZ (DT .i64) (AZ (DT .i64) IJ))) (fun p=>⟨p.1,p.2.1,p.2.2.1⟩) (fun s=>(s.An8,s.fI,s.fH,())) (fun _=>rfl)
def cv2:Asy C9:=q1 (Bo (Abu AbF Nu))
def cv3:Asy C9:=q1 (Bo Nu)
def cv4:Asy (Int×C9):=AZ AvI (q1 (Bo Nu))
def cv5:Asy (C9×Int):=AZ (Bo Nu) (q1 AvI)
def cv6:Asy (Int×Int):=AZ AvI (q1 (DJ (DT .u8)))
def CS:Asy AA:=q1 uS
def Xb:Asy Unit:=IJ
def cv9:Asy (List Int):=q1 (DJ (FU 115))
def Abv:Asy (List Int):=q1 (DJ (Eo 115))
def ARa:JD Hz:=Ii (AZ cStr (AZ cStr (AZ (DT .i64) IJ))) (fun p=>⟨p.1,p.2.1,p.2.2.1⟩) (fun s=>(s.FZ,s.MW,s.fCount,())) (fun _=>rfl)
def ACW:Asy Hz:=q1 (Bo ARa)
def AR4:Asy (Int×Int×Int):=AZ AvI (AZ AvI (q1 AvI))
def QM:Asy (AA×Int):=AZ uS (q1 AvI)
def SV:Asy Int:=q1 (DJ (DT .u32))
def Abw:Asy (Int×Int×Int):=AZ (DJ (DT .u32)) (AZ (DJ (DT .u32)) (q1 (DJ (DT .u32))))
def Abx:Asy (Int×Int×Int×Int×Bool):=AZ (DJ (DT .u32)) (AZ (DJ (DT .u32)) (AZ (DJ (DT .u32)) (AZ (DJ (DT .u32)) (q1 uB))))
def Aby:Asy ((List Int)×(List Int)×AA):=AZ (DJ (Eo 115)) (AZ (DJ (Eo 115)) (q1 uS))
def Abz:Asy (Hz×AA):=AZ (Bo ARa) (q1 uS)
def rH:JD Bf:=Ii (AZ cStr (AZ (DT .i64) (AZ (FU 46) (AZ (DT .i64) (AZ cStr (AZ (DT .i64) IJ)))))) (fun p=>⟨p.1,p.2.1,p.2.2.1,p.2.2.2.1,p.2.2.2.2.1,p.2.2.2.2.2.1⟩) (fun s=>(s.Bv,s.DR,s.Ag,s.BR,s.Dp,s.fCount,())) (fun _=>rfl)
def ACX:Asy Bf:=q1 (Bo rH)
def E5:Asy Int:=q1 AvI
def RG:JD Ah:=Ii (AZ (DT .i64) (AZ (DT .i64) (AZ JB (AZ JB (AZ JB (AZ JB (AZ cStr (AZ (DT .i64) IJ)))))))) (fun p=>⟨p.1,p.2.1,p.2.2.1,p.2.2.2.1,p.2.2.2.2.1,p.2.2.2.2.2.1,p.2.2.2.2.2.2.1,p.2.2.2.2.2.2.2.1⟩) (fun s=>(s.fId,s.Aa,s.CY,s.CZ,s.GI,s.Fb,s.fValue,s.fNext,())) (fun _=>rfl)
def RP:Asy Ah:=q1 (Bo RG)
def Ab0:Asy (Bool×Int):=AZ uB (q1 AvI)
def Hw:Asy (AA×Bool):=AZ uS (q1 uB)
def ZQ:JD Aq:=Ii (AZ (DT .i64) (AZ cStr (AZ (DT .i64) (AZ (DT .i64) (AZ (DT .i64) (AZ JB (AZ JB (AZ JB (AZ JB (AZ cStr (AZ (DT .i64) IJ))))))))))) (fun p=>⟨p.1,p.2.1,p.2.2.1,⟨p.2.2.2.1,p.2.2.2.2.1,p.2.2.2.2.2.1,p.2.2.2.2.2.2.1,p.2.2.2.2.2.2.2.1,p.2.2.2.2.2.2.2.2.1,p.2.2.2.2.2.2.2.2.2.1,p.2.2.2.2.2.2.2.2.2.2.1⟩⟩) (fun s=>(s.Aa,s.fText,s.DY,s.BK.fId,s.BK.Aa,s.BK.CY,s.BK.CZ,s.BK.GI,s.BK.Fb,s.BK.fValue,s.BK.fNext,())) (fun _=>rfl)
def AR5:Asy Aq:=q1 (Bo ZQ)
def gB:JD Bf:=Ii (AZ cStr (AZ (DT .i64) (AZ (Eo 46) (AZ (DT .i64) (AZ cStr (AZ (DT .i64) IJ)))))) (fun p=>⟨p.1,p.2.1,p.2.2.1,p.2.2.2.1,p.2.2.2.2.1,p.2.2.2.2.2.1⟩) (fun s=>(s.Bv,s.DR,s.Ag,s.BR,s.Dp,s.fCount,())) (fun _=>rfl)
def ACY:Asy Bf:=q1 (Bo gB)
def AIP:Asy (Bf×Int):=AZ (Bo gB) (q1 AvI)
def Xa:Asy (Ah×Bool):=AZ (Bo RG) (q1 uB)
def AR6:Asy (Ah×Ah):=AZ (Bo RG) (q1 (Bo RG))
def Ab1:Asy ((List Ah)×Ah):=AZ (DJ (Eo 46)) (q1 (Bo RG))
def Ab2:Asy (List Ah):=q1 (DJ (FU 46))
def AR7:Asy (Bf×Aq):=AZ (Bo gB) (q1 (Bo ZQ))
def ACZ:Asy (Bf×Bool):=AZ (Bo rH) (q1 uB)
def AR8:Asy (AA×Int):=AZ uS (q1 (DJ (DT .u8)))
def KH:Asy (AA×AA):=AZ uS (q1 uS)
def rW:Asy (AA×Int×Int):=AZ uS (AZ AvI (q1 AvI))
def UH:Asy (AA×Int×AA):=AZ uS (AZ AvI (q1 uS))
def AR9:Asy (Int×AA):=AZ (DJ (DT .u32)) (q1 uS)
def ASA:Asy (AA×Int×Aq):=AZ uS (AZ AvI (q1 (Bo ZQ)))
def ASB:Asy ((List ET)×Bool):=AZ (DJ (FU 80)) (q1 uB)
def VY:JD BO:=Ii (AZ (Eo 140) IJ) (fun p=>⟨p.1⟩) (fun s=>(s.Ai,())) (fun _=>rfl)
def AIQ:Asy BO:=q1 (Bo VY)
def rX:Asy (BO×AA):=AZ (Bo VY) (q1 uS)
def ARf:JD BQ:=Ii (AZ cStr (AZ cStr (AZ (DT .i64) IJ))) (fun p=>⟨p.1,p.2.1,p.2.2.1⟩) (fun s=>(s.fName,s.fText,s.Jp,())) (fun _=>rfl)
def rJ:JD BO:=Ii (AZ (FU 140) IJ) (fun p=>⟨p.1⟩) (fun s=>(s.Ai,())) (fun _=>rfl)
def Ab3:Asy (BO×BQ):=AZ (Bo VY) (q1 (Bo ARf))
def gJ:Asy BO:=q1 (Bo rJ)
def AbG:JD ET:=Ii (AZ (DT .i64) (AZ cStr (AZ cStr (AZ cStr IJ)))) (fun p=>⟨p.1,p.2.1,p.2.2.1,p.2.2.2.1⟩) (fun s=>(s.Aa,s.fName,s.fText,s.Ij,())) (fun _=>rfl)
def ASC:Asy (BO×ET):=AZ (Bo VY) (q1 (Bo AbG))
def ACa:Asy (BO×Bool):=AZ (Bo rJ) (q1 uB)
def ASD:Asy (BO×(List ET)):=AZ (Bo VY) (q1 (DJ (Eo 80)))
def ASE:Asy (BO×Int):=AZ (Bo rJ) (q1 AvI)
def Ab4:Asy (AA×BO×Int×Aq):=AZ uS (AZ (Bo VY) (AZ AvI (q1 (Bo ZQ))))
def rP:JD Aj:=Ii (AZ cStr (AZ JB (AZ (FU 140) (AZ cStr (AZ (DT .i64) (AZ (FU 46) (AZ (DT .i64) (AZ cStr (AZ (DT .i64) (AZ (FU 67) (AZ (FU 73) (AZ (DT .i64) IJ)))))))))))) (fun p=>⟨p.1,p.2.1,⟨p.2.2.1⟩,⟨p.2.2.2.1,p.2.2.2.2.1,p.2.2.2.2.2.1,p.2.2.2.2.2.2.1,p.2.2.2.2.2.2.2.1,p.2.2.2.2.2.2.2.2.1⟩,p.2.2.2.2.2.2.2.2.2.1,p.2.2.2.2.2.2.2.2.2.2.1,p.2.2.2.2.2.2.2.2.2.2.2.1⟩) (fun s=>(s.BN,s.Bj,s.Bd.Ai,s.AV.Bv,s.AV.DR,s.AV.Ag,s.AV.BR,s.AV.Dp,s.AV.fCount,s.BI,s.BJ,s.CU,())) (fun _=>rfl)
def AIR:Asy (Aj×Bool):=AZ (Bo rP) (q1 uB)
def XU:JD Cm:=Ii (AZ cStr (AZ JB (AZ (FU 140) (AZ cStr (AZ (DT .i64) (AZ (FU 46) (AZ (DT .i64) (AZ cStr (AZ (DT .i64) (AZ (FU 67) (AZ (FU 73) (AZ (DT .i64) (AZ (FU 3) (AZ (FU 9) (AZ (FU 243) (AZ (FU 48) IJ)))))))))))))))) (fun p=>⟨⟨p.1,p.2.1,⟨p.2.2.1⟩,⟨p.2.2.2.1,p.2.2.2.2.1,p.2.2.2.2.2.1,p.2.2.2.2.2.2.1,p.2.2.2.2.2.2.2.1,p.2.2.2.2.2.2.2.2.1⟩,p.2.2.2.2.2.2.2.2.2.1,p.2.2.2.2.2.2.2.2.2.2.1,p.2.2.2.2.2.2.2.2.2.2.2.1⟩,p.2.2.2.2.2.2.2.2.2.2.2.2.1,p.2.2.2.2.2.2.2.2.2.2.2.2.2.1,p.2.2.2.2.2.2.2.2.2.2.2.2.2.2.1,p.2.2.2.2.2.2.2.2.2.2.2.2.2.2.2.1⟩) (fun s=>(s.Ad.BN,s.Ad.Bj,s.Ad.Bd.Ai,s.Ad.AV.Bv,s.Ad.AV.DR,s.Ad.AV.Ag,s.Ad.AV.BR,s.Ad.AV.Dp,s.Ad.AV.fCount,s.Ad.BI,s.Ad.BJ,s.Ad.CU,s.Du,s.GR,s.Ey,s.Ez,())) (fun _=>rfl)
def ASF:Asy (Cm×Bool):=AZ (Bo XU) (q1 uB)
def Ab5:Asy (Bool×C9):=AZ uB (q1 (Bo Nu))
def Ab6:Asy (C9×(List Int)):=AZ (Bo Nu) (q1 (DJ (Eo 3)))
def Ab7:Asy (C9×(List AA)):=AZ (Bo Nu) (q1 (DJ (Eo 9)))
def ASG:Asy (AA×C9):=AZ uS (q1 (Bo Nu))
def Ab8:Asy (Ah×C9):=AZ (Bo RG) (q1 (Bo Nu))
def XW:JD Aj:=Ii (AZ cStr (AZ JB (AZ (Eo 140) (AZ cStr (AZ (DT .i64) (AZ (Eo 46) (AZ (DT .i64) (AZ cStr (AZ (DT .i64) (AZ (Eo 67) (AZ (Eo 73) (AZ (DT .i64) IJ)))))))))))) (fun p=>⟨p.1,p.2.1,⟨p.2.2.1⟩,⟨p.2.2.2.1,p.2.2.2.2.1,p.2.2.2.2.2.1,p.2.2.2.2.2.2.1,p.2.2.2.2.2.2.2.1,p.2.2.2.2.2.2.2.2.1⟩,p.2.2.2.2.2.2.2.2.2.1,p.2.2.2.2.2.2.2.2.2.2.1,p.2.2.2.2.2.2.2.2.2.2.2.1⟩) (fun s=>(s.BN,s.Bj,s.Bd.Ai,s.AV.Bv,s.AV.DR,s.AV.Ag,s.AV.BR,s.AV.Dp,s.AV.fCount,s.BI,s.BJ,s.CU,())) (fun _=>rfl)
def QN:Asy Aj:=q1 (Bo XW)
def ZO:JD CJ:=Ii (AZ (DT .i64) (AZ (DT .i64) (AZ (DT .i64) (AZ (DT .i64) (AZ cStr (AZ JB (AZ JB IJ))))))) (fun p=>⟨p.1,p.2.1,p.2.2.1,p.2.2.2.1,p.2.2.2.2.1,p.2.2.2.2.2.1,p.2.2.2.2.2.2.1⟩) (fun s=>(s.Au,s.Dz,s.BK,s.Aa,s.fText,s.CY,s.CZ,())) (fun _=>rfl)
def Ab9:Asy (C9×Aj×AA):=AZ (Bo Nu) (AZ (Bo XW) (q1 uS))
def AcA:Asy (CJ×C9):=AZ (Bo ZO) (q1 (Bo Nu))
def AZ9:JD EN:=Ii (AZ (DT .i64) (AZ (DT .i64) (AZ (DT .i64) (AZ (DT .i64) (AZ cStr (AZ JB (AZ JB (AZ JB (AZ (FU 3) (AZ JB IJ)))))))))) (fun p=>⟨⟨p.1,p.2.1,p.2.2.1,p.2.2.2.1,p.2.2.2.2.1,p.2.2.2.2.2.1,p.2.2.2.2.2.2.1⟩,p.2.2.2.2.2.2.2.1,p.2.2.2.2.2.2.2.2.1,p.2.2.2.2.2.2.2.2.2.1⟩) (fun s=>(s.CP.Au,s.CP.Dz,s.CP.BK,s.CP.Aa,s.CP.fText,s.CP.CY,s.CP.CZ,s.RN,s.QK,s.MV,())) (fun _=>rfl)
def AcB:Asy (C9×Cm):=AZ (Bo Nu) (q1 (Bo XU))
def AcC:Asy (EN×C9×Cm):=AZ (Bo AZ9) (AZ (Bo Nu) (q1 (Bo XU)))
def AcD:Asy (Cm×Int×AA):=AZ (Bo XU) (AZ AvI (q1 uS))
def rY:Asy Cm:=q1 (Bo XU)
def AIS:Asy (Int×AA):=AZ AvI (q1 uS)
def Nw:Asy ((List Aq)×Int×AA):=AZ (DJ (FU 48)) (AZ AvI (q1 uS))
def AcE:Asy Int:=q1 (DJ (DT .u8))
def AcF:Asy ((List Aq)×AA):=AZ (DJ (FU 48)) (q1 uS)
def rZ:Asy (Aj×Int):=AZ (Bo XW) (q1 AvI)
def ZR:Asy (Aj×CJ):=AZ (Bo XW) (q1 (Bo ZO))
def AcG:Asy (List Aq):=q1 (DJ (FU 48))
def ASH:Asy (Aj×CJ×Ah×Bool):=AZ (Bo XW) (AZ (Bo ZO) (AZ (Bo RG) (q1 uB)))
def ASI:Asy (Int×Int×Bool):=AZ AvI (AZ AvI (q1 uB))
def ACP:JD Jg:=Ii (AZ cStr (AZ (DT .i64) (AZ JB IJ))) (fun p=>⟨p.1,p.2.1,p.2.2.1⟩) (fun s=>(s.fText,s.D8,s.Ih,())) (fun _=>rfl)
def AIT:Asy Jg:=q1 (Bo ACP)
def ASJ:Asy (Int×Jg):=AZ AvI (q1 (Bo ACP))
def AcH:Asy (Jg×Int):=AZ (Bo ACP) (q1 AvI)
def ASL:Asy (AA×Jg):=AZ uS (q1 (Bo ACP))
def ASM:Asy (Ah×Int):=AZ (Bo RG) (q1 AvI)
def AcI:Asy (Aj×Ah):=AZ (Bo XW) (q1 (Bo RG))
def UJ:Asy (List AA):=q1 (DJ (FU 9))
def ASN:Asy (AA×Int×Int×Int×Int):=AZ uS (AZ AvI (AZ AvI (AZ AvI (q1 AvI))))
def ru:Asy ((List AA)×Int):=AZ (DJ (Eo 9)) (q1 AvI)
def ASO:Asy (Int×Int×AA×AA):=AZ AvI (AZ AvI (AZ uS (q1 uS)))
def ASP:Asy (Int×(List AA)):=AZ AvI (q1 (DJ (Eo 9)))
def ASQ:Asy (List AA):=q1 (DJ (Eo 9))
def JL:Asy (List Int):=q1 (DJ (FU 3))
def ASR:Asy ((List AA)×Int×AA):=AZ (DJ (Eo 9)) (AZ AvI (q1 uS))
def Aap:JD Hu:=Ii (AZ (DT .i64) (AZ (FU 9) (AZ (FU 9) IJ))) (fun p=>⟨p.1,p.2.1,p.2.2.1⟩) (fun s=>(s.GU,s.FK,s.F8,())) (fun _=>rfl)
def ASS:Asy (Hu×Bool):=AZ (Bo Aap) (q1 uB)
def AaA:JD MS:=Ii (AZ (DT .i64) (AZ (FU 9) (AZ (FU 9) (AZ cStr (AZ (DT .i64) (AZ (FU 9) (AZ (FU 9) IJ))))))) (fun p=>⟨⟨p.1,p.2.1,p.2.2.1⟩,p.2.2.2.1,⟨p.2.2.2.2.1,p.2.2.2.2.2.1,p.2.2.2.2.2.2.1⟩⟩) (fun s=>(s.PN.GU,s.PN.FK,s.PN.F8,s.PI,s.PO.GU,s.PO.FK,s.PO.F8,())) (fun _=>rfl)
def ASU:Asy (MS×Bool):=AZ (Bo AaA) (q1 uB)
def AbH:JD Hu:=Ii (AZ (DT .i64) (AZ (Eo 9) (AZ (Eo 9) IJ))) (fun p=>⟨p.1,p.2.1,p.2.2.1⟩) (fun s=>(s.GU,s.FK,s.F8,())) (fun _=>rfl)
def ACb:Asy Hu:=q1 (Bo AbH)
def AaD:JD MS:=Ii (AZ (DT .i64) (AZ (Eo 9) (AZ (Eo 9) (AZ cStr (AZ (DT .i64) (AZ (Eo 9) (AZ (Eo 9) IJ))))))) (fun p=>⟨⟨p.1,p.2.1,p.2.2.1⟩,p.2.2.2.1,⟨p.2.2.2.2.1,p.2.2.2.2.2.1,p.2.2.2.2.2.2.1⟩⟩) (fun s=>(s.PN.GU,s.PN.FK,s.PN.F8,s.PI,s.PO.GU,s.PO.FK,s.PO.F8,())) (fun _=>rfl)
def ASV:Asy MS:=q1 (Bo AaD)
def ACc:Asy (Aj×CJ×Ah):=AZ (Bo XW) (AZ (Bo ZO) (q1 (Bo RG)))
def sD:Asy (List Int):=q1 (DJ (FU 245))
def ASW:Asy (Int×Int):=AZ (DJ (DT .u64)) (q1 AvI)
def sF:Asy Int:=q1 (DJ (DT .u64))
def AcJ:Asy ((List Int)×(List Int)×Int):=AZ (DJ (Eo 245)) (AZ (DJ (Eo 3)) (q1 (DJ (DT .u64))))
def AcK:Asy (List Int):=q1 (DJ (Eo 245))
def ASX:Asy (AA×Int×Int):=AZ uS (AZ AvI (q1 (DJ (DT .u8))))
def AID:JD FY:=Ii (AZ cStr (AZ (DT .i64) IJ)) (fun p=>⟨p.1,p.2.1⟩) (fun s=>(s.FZ,s.D8,())) (fun _=>rfl)
def ASY:Asy FY:=q1 (Bo AID)
def ASZ:Asy (FY×Int):=AZ (Bo AID) (q1 AvI)
def ASa:Asy (FY×AA):=AZ (Bo AID) (q1 uS)
def ACS:Asy (List (List Int)):=q1 (DJ (FU 100))
def VZ:Asy (List Int):=q1 (DJ (Eo 3))
def rU:Asy (Int×Int):=AZ AvI (q1 AvI)
def rV:Asy ((List Int)×Int):=AZ (DJ (Eo 3)) (q1 AvI)
def gG:Asy ((List Int)×(List Int)):=AZ (DJ (Eo 3)) (q1 (DJ (Eo 3)))
def ARi:Asy ((List (List Int))×(List (List Int))):=AZ (DJ (Eo 100)) (q1 (DJ (Eo 100)))
def Aaq:JD KG:=Ii (AZ cStr (AZ cStr IJ)) (fun p=>⟨p.1,p.2.1⟩) (fun s=>(s.ZM,s.ZN,())) (fun _=>rfl)
def ARj:Asy (KG×Bool):=AZ (Bo Aaq) (q1 uB)
def ARk:Asy ((List (List Int))×Bool):=AZ (DJ (FU 100)) (q1 uB)
def AIK:Asy ((List Int)×Bool):=AZ (DJ (FU 3)) (q1 uB)
def ARl:Asy (AA×AA×Bool):=AZ uS (AZ uS (q1 uB))
def ARm:Asy (Ah×Bool×Bool):=AZ (Bo RG) (AZ uB (q1 uB))
def AbI:Asy (BO×(List Int)):=AZ (Bo VY) (q1 (DJ (Eo 3)))
def AbJ:Asy (BO×(List ET)×Int×(List Int)):=AZ (Bo VY) (AZ (DJ (Eo 80)) (AZ AvI (q1 (DJ (Eo 3)))))
def ARn:Asy ((List AA)×Int):=AZ (DJ (FU 9)) (q1 AvI)
def ARo:Asy (Aq×Bool):=AZ (Bo ZQ) (q1 uB)
def ARp:Asy ((List Aq)×Int):=AZ (DJ (FU 48)) (q1 AvI)
def AbK:Asy (Cm×Aq):=AZ (Bo XU) (q1 (Bo ZQ))
def UF:Asy Aj:=q1 (Bo rP)
def AbL:Asy (Cm×Aq×(List Int)):=AZ (Bo XU) (AZ (Bo ZQ) (q1 (DJ (Eo 3))))
def AbM:Asy ((List Cc)×Int×Int):=AZ (DJ (Eo 73)) (AZ AvI (q1 AvI))
def AbN:Asy (List Cc):=q1 (DJ (FU 73))
def ARq:Asy (Aj×CJ×Int×Int):=AZ (Bo XW) (AZ (Bo ZO) (AZ AvI (q1 AvI)))
def ARd:JD EN:=Ii (AZ (DT .i64) (AZ (DT .i64) (AZ (DT .i64) (AZ (DT .i64) (AZ cStr (AZ JB (AZ JB (AZ JB (AZ (Eo 3) (AZ JB IJ)))))))))) (fun p=>⟨⟨p.1,p.2.1,p.2.2.1,p.2.2.2.1,p.2.2.2.2.1,p.2.2.2.2.2.1,p.2.2.2.2.2.2.1⟩,p.2.2.2.2.2.2.2.1,p.2.2.2.2.2.2.2.2.1,p.2.2.2.2.2.2.2.2.2.1⟩) (fun s=>(s.CP.Au,s.CP.Dz,s.CP.BK,s.CP.Aa,s.CP.fText,s.CP.CY,s.CP.CZ,s.RN,s.QK,s.MV,())) (fun _=>rfl)
def ARr:Asy (Cm×Int×EN):=AZ (Bo XU) (AZ AvI (q1 (Bo ARd)))
def AIL:Asy (Bf×Bf):=AZ (Bo gB) (q1 (Bo gB))
def ARs:Asy (Bf×(List Aq)):=AZ (Bo gB) (q1 (DJ (Eo 48)))
def ARt:Asy (AA×BO):=AZ uS (q1 (Bo VY))
def ARu:Asy (Bf×(List ET)×Bool):=AZ (Bo rH) (AZ (DJ (FU 80)) (q1 uB))
def AZ1:JD OW:=Ii (AZ cStr (AZ cStr (AZ (FU 154) IJ))) (fun p=>⟨p.1,p.2.1,p.2.2.1⟩) (fun s=>(s.BN,s.Bv,s.rG,())) (fun _=>rfl)
def ARv:Asy (C9×Unit):=AZ (Bo Nu) (q1 (DJ AIO))
def AbO:Asy (OW×C9):=AZ (Bo AZ1) (q1 (Bo Nu))
def AIM:Asy CJ:=q1 (Bo ZO)
def AbP:Asy EN:=q1 (Bo ARd)
def AbQ:Asy (AA×AA×(List EN)):=AZ uS (AZ uS (q1 (DJ (Eo 154))))
def AbR:Asy (Aj×C9):=AZ (Bo rP) (q1 (Bo Nu))
def AbS:Asy (Aj×CJ):=AZ (Bo rP) (q1 (Bo ZO))
def ACT:Asy (List Int):=q1 (AIU 115)
def ARw:Asy (Int×Int):=AZ (DJ (DT .u32)) (q1 AvI)
def AIN:Asy ((List Int)×AA):=AZ (AIU 115) (q1 uS)
def AbT:Asy ((List Ah)×(List Ah)):=AZ (DJ (Eo 46)) (q1 (DJ (Eo 46)))
def AIE:JD KD:=Ii (AZ cStr (AZ (DT .i64) (AZ JB IJ))) (fun p=>⟨p.1,p.2.1,p.2.2.1⟩) (fun s=>(s.fText,s.D8,s.Ih,())) (fun _=>rfl)
def ARx:Asy KD:=q1 (Bo AIE)
def AbU:Asy (Int×KD):=AZ AvI (q1 (Bo AIE))
def ARy:Asy (AA×Int×Bool):=AZ uS (AZ AvI (q1 uB))
def AbV:Asy (AA×KD):=AZ uS (q1 (Bo AIE))
def AbW:Asy (Bf×Ah):=AZ (Bo rH) (q1 (Bo RG))
def AbX:Asy (Bool×Bf):=AZ uB (q1 (Bo rH))
def AbY:Asy ((List Int)×Int):=AZ (DJ (FU 5)) (q1 (DJ (DT .u64)))
def AbZ:Asy (List Int):=q1 (Bo (Ii (AZ (FU 5) IJ) (fun p=>p.1) (fun s=>(s,())) (fun _=>rfl)))
def Aba:Asy ((List Int)×Int×Int×Bool×Bool):=AZ (DJ (FU 5)) (AZ (DJ (DT .u64)) (AZ AvI (AZ uB (q1 uB))))
def Abb:Asy ((List Int)×AA):=AZ (DJ (FU 5)) (q1 uS)
def Abc:Asy ((List AA)×Int×Nat×Nat):=AZ (DJ (Eo 9)) (AZ AvI (AZ (DJ cFn) (q1 (DJ cFn))))
def UG:Asy (List Int):=q1 (AIU 245)
def Abd:Asy (List (List Int)):=q1 (DJ (Eo 100))
def Abe:Asy ((List Int)×(List Int)×Nat):=AZ (DJ (Eo 3)) (AZ (DJ (Eo 3)) (q1 (DJ cFn)))
def Abf:Asy (Aj×Int×Int):=AZ (Bo rP) (AZ AvI (q1 AvI))
def Abg:Asy (BO×AA):=AZ (Bo rJ) (q1 uS)
def Abh:Asy (BO×BQ):=AZ (Bo rJ) (q1 (Bo ARf))
def ARz:Asy (AA×Bool×(List BQ)×AA×Int×Unit×Int×AA×Int×Unit×Unit×Int):=q1 (Bo (AZ cStr (AZ JB (AZ (Eo 140) (AZ cStr (AZ (DT .i64) (AZ AIV (AZ (DT .i64) (AZ cStr (AZ (DT .i64) (AZ AIV (AZ AIV (q1 (DT .i64))))))))))))))
end Go.Proofs.YtaalgheapdmjnaaGreatDoor.G

/- Functions of the program, told by plain functions: part 1 of 1. -/
import Derived.Test.YthfpmhalgimbbaaCtx
namespace Go.Proofs.Ythfpmhalgimbbaa.G
open Go Go.Ev
set_option linter.unusedVariables false
abbrev RAl:=SFile→Int→Option Int
noncomputable def UAm (a_0:SFile) (left_1:Int):Option Int:=
 bif (decide ((w64 (left_1 - (a_0.fName.size:Int)))<0)) then
 some (-(1:Int))
 else
 bif (decide ((w64 ((w64 (left_1 - (a_0.fName.size:Int))) - (a_0.fText.size:Int)))<0)) then
  some (-(1:Int))
 else
  some (w64 ((w64 (left_1 - (a_0.fName.size:Int))) - (a_0.fText.size:Int)))
noncomputable def IAj:RAl:=UAm
theorem PAq:Tells ctx PP 63 cv0 cv1 (fun a=>IAj a.1 a.2):=fn_ok0 hl_nil Try.func63 (fun a=>by kernel_rfl:EntryIs0 ctx PP 63 [] [] cv0 cv1 fun a=>UAm a.1 a.2)
noncomputable def HAp {γ:Type} (F:RAl):Hd ctx γ:=hdl cv0.dec (fun a=>F a.1 a.2) cv1.enc
abbrev VAm:=(List SFile)→Int→Option Int
inductive DAk where
 | c0 (a_0:(List SFile)) (left_1:Int) (i_5:Int)
noncomputable def IAp:DAk→LI
 | .c0 a_0 left_1 i_5=>(tdo Try.f45 976,[(0,[.one (.rsl 101 a_0)]),(1,[.one (.int .i64 left_1)]),(5,[.one (.int .i64 i_5)])],[])
noncomputable def WAm (z0:RAl) (k:DAk→Option Int) (a_0:(List SFile)) (left_1:Int):Option Int:=
 bif (decide ((w64 (left_1 - (a_0.length:Int)))<0)) then
 some (-(1:Int))
 else
 k (.c0 a_0 (w64 (left_1 - (a_0.length:Int))) 0)
noncomputable def XAm (z0:RAl) (k:DAk→Option Int):DAk→Option Int
 | .c0 a_0 left_1 i_5=>
 bif (decide (i_5<(a_0.length:Int))) then
  bif ((decide (0≤i_5)) && (decide (i_5<(a_0.length:Int)))) then
  (z0 (a_0.getD i_5.toNat (⟨⟨#[]⟩,⟨#[]⟩,0⟩:SFile)) left_1).bind fun r0=>
  bif (decide (r0<0)) then
  some (-(1:Int))
  else
  k (.c0 a_0 r0 (w64 (i_5+1)))
  else none
 else
  some left_1
noncomputable def SAl:Nat→DAk→Option Int
 | 0,_=>none
 | m+1,s=>XAm IAj (SAl m) s
noncomputable def EAk:VAm:=WAm IAj (SAl gas)
theorem QAq:Tells ctx PP 45 cv2 cv1 (fun a=>EAk a.1 a.2):=
 have b:∀ z0,CutIs ctx PP 45 Try.f45 [] [(63,HAp z0)] cv1 IAp (XAm z0):=fun z0 _ s=>by cases s <;> kernel_rfl
 have e:∀ z0,EntryIs ctx PP 45 [] [(63,HAp z0)] cv2 cv1 IAp (fun k a=>WAm z0 k a.1 a.2):=fun z0 _ a=>by kernel_rfl
 fn_ok (hc PAq hl_nil) Try.func45 (fun s s' h=>by cases s;cases s';cases h;rfl) (fun _=>rfl) (fun _ _=>rfl) (b IAj) (e IAj) gas
noncomputable def RAq {γ:Type} (F:VAm):Hd ctx γ:=hdl cv2.dec (fun a=>F a.1 a.2) cv1.enc
abbrev YAm:=SDisk→Int→Option Int
noncomputable def ZAm (z0:VAm) (a_0:SDisk) (left_1:Int):Option Int:=
 (z0 a_0.fFiles left_1).bind fun r0=>
 bif (decide (r0<0)) then
 some (-(1:Int))
 else
 some r0
noncomputable def FAk:YAm:=ZAm EAk
theorem SAq:Tells ctx PP 16 cv3 cv1 (fun a=>FAk a.1 a.2):=fn_ok0 (hc QAq hl_nil) Try.func16 ((fun z0 a=>by kernel_rfl:∀ z0,EntryIs0 ctx PP 16 [] [(45,RAq z0)] cv3 cv1 fun a=>ZAm z0 a.1 a.2) EAk)
noncomputable def TAq {γ:Type} (F:YAm):Hd ctx γ:=hdl cv3.dec (fun a=>F a.1 a.2) cv1.enc
abbrev TAl:=SThing→Int→Option Int
noncomputable def JAp (a_0:SThing) (left_1:Int):Option Int:=
 bif (decide ((w64 (left_1 - (a_0.fValue.size:Int)))<0)) then
 some (-(1:Int))
 else
 some (w64 (left_1 - (a_0.fValue.size:Int)))
noncomputable def WAj:TAl:=JAp
theorem UAq:Tells ctx PP 64 cv4 cv1 (fun a=>WAj a.1 a.2):=fn_ok0 hl_nil Try.func64 (fun a=>by kernel_rfl:EntryIs0 ctx PP 64 [] [] cv4 cv1 fun a=>JAp a.1 a.2)
noncomputable def KAp {γ:Type} (F:TAl):Hd ctx γ:=hdl cv4.dec (fun a=>F a.1 a.2) cv1.enc
abbrev AAn:=(List SThing)→Int→Option Int
inductive GAk where
 | c0 (a_0:(List SThing)) (left_1:Int) (i_5:Int)
noncomputable def LAp:GAk→LI
 | .c0 a_0 left_1 i_5=>(tdo Try.f46 976,[(0,[.one (.rsl 103 a_0)]),(1,[.one (.int .i64 left_1)]),(5,[.one (.int .i64 i_5)])],[])
noncomputable def BAn (z0:TAl) (k:GAk→Option Int) (a_0:(List SThing)) (left_1:Int):Option Int:=
 bif (decide ((w64 (left_1 - (a_0.length:Int)))<0)) then
 some (-(1:Int))
 else
 k (.c0 a_0 (w64 (left_1 - (a_0.length:Int))) 0)
noncomputable def CAn (z0:TAl) (k:GAk→Option Int):GAk→Option Int
 | .c0 a_0 left_1 i_5=>
 bif (decide (i_5<(a_0.length:Int))) then
  bif ((decide (0≤i_5)) && (decide (i_5<(a_0.length:Int)))) then
  (z0 (a_0.getD i_5.toNat (⟨0,0,false,false,false,false,⟨#[]⟩,0⟩:SThing)) left_1).bind fun r0=>
  bif (decide (r0<0)) then
  some (-(1:Int))
  else
  k (.c0 a_0 r0 (w64 (i_5+1)))
  else none
 else
  some left_1
noncomputable def UAl:Nat→GAk→Option Int
 | 0,_=>none
 | m+1,s=>CAn WAj (UAl m) s
noncomputable def HAk:AAn:=BAn WAj (UAl gas)
theorem VAq:Tells ctx PP 46 cv5 cv1 (fun a=>HAk a.1 a.2):=
 have b:∀ z0,CutIs ctx PP 46 Try.f46 [] [(64,KAp z0)] cv1 LAp (CAn z0):=fun z0 _ s=>by cases s <;> kernel_rfl
 have e:∀ z0,EntryIs ctx PP 46 [] [(64,KAp z0)] cv5 cv1 LAp (fun k a=>BAn z0 k a.1 a.2):=fun z0 _ a=>by kernel_rfl
 fn_ok (hc UAq hl_nil) Try.func46 (fun s s' h=>by cases s;cases s';cases h;rfl) (fun _=>rfl) (fun _ _=>rfl) (b WAj) (e WAj) gas
noncomputable def WAq {γ:Type} (F:AAn):Hd ctx γ:=hdl cv5.dec (fun a=>F a.1 a.2) cv1.enc
abbrev DAn:=SBook→Int→Option Int
noncomputable def EAn (z0:AAn) (a_0:SBook) (left_1:Int):Option Int:=
 bif (decide ((w64 (left_1 - (a_0.fWord.size:Int)))<0)) then
 some (-(1:Int))
 else
 (z0 a_0.fThings (w64 (left_1 - (a_0.fWord.size:Int)))).bind fun r0=>
 bif (decide (r0<0)) then
  some (-(1:Int))
 else
  bif (decide ((w64 (r0 - (a_0.fChain.size:Int)))<0)) then
  some (-(1:Int))
  else
  some (w64 (r0 - (a_0.fChain.size:Int)))
noncomputable def IAk:DAn:=EAn HAk
theorem XAq:Tells ctx PP 17 cv6 cv1 (fun a=>IAk a.1 a.2):=fn_ok0 (hc VAq hl_nil) Try.func17 ((fun z0 a=>by kernel_rfl:∀ z0,EntryIs0 ctx PP 17 [] [(46,WAq z0)] cv6 cv1 fun a=>EAn z0 a.1 a.2) HAk)
noncomputable def YAq {γ:Type} (F:DAn):Hd ctx γ:=hdl cv6.dec (fun a=>F a.1 a.2) cv1.enc
abbrev FAn:=(List SSession)→Int→Option Int
noncomputable def MAp (a_0:(List SSession)) (left_1:Int):Option Int:=
 bif (decide ((w64 (left_1 - (a_0.length:Int)))<0)) then
 some (-(1:Int))
 else
 some (w64 (left_1 - (a_0.length:Int)))
noncomputable def VAl:FAn:=MAp
theorem ZAq:Tells ctx PP 18 cv7 cv1 (fun a=>VAl a.1 a.2):=fn_ok0 hl_nil Try.func18 (fun a=>by kernel_rfl:EntryIs0 ctx PP 18 [] [] cv7 cv1 fun a=>MAp a.1 a.2)
noncomputable def AAr {γ:Type} (F:FAn):Hd ctx γ:=hdl cv7.dec (fun a=>F a.1 a.2) cv1.enc
abbrev GAn:=(List SLive)→Int→Option Int
noncomputable def NAp (a_0:(List SLive)) (left_1:Int):Option Int:=
 bif (decide ((w64 (left_1 - (a_0.length:Int)))<0)) then
 some (-(1:Int))
 else
 some (w64 (left_1 - (a_0.length:Int)))
noncomputable def WAl:GAn:=NAp
theorem BAr:Tells ctx PP 19 cv8 cv1 (fun a=>WAl a.1 a.2):=fn_ok0 hl_nil Try.func19 (fun a=>by kernel_rfl:EntryIs0 ctx PP 19 [] [] cv8 cv1 fun a=>NAp a.1 a.2)
noncomputable def CAr {γ:Type} (F:GAn):Hd ctx γ:=hdl cv8.dec (fun a=>F a.1 a.2) cv1.enc
abbrev HAn:=SBox→Int→Option Int
noncomputable def IAn (z0:YAm) (z1:DAn) (z2:FAn) (z3:GAn) (a_0:SBox) (left_1:Int):Option Int:=
 bif (decide ((w64 (left_1 - (a_0.fKey.size:Int)))<0)) then
 some (-(1:Int))
 else
 (z0 a_0.fDisk (w64 (left_1 - (a_0.fKey.size:Int)))).bind fun r0=>
 bif (decide (r0<0)) then
  some (-(1:Int))
 else
  (z1 a_0.fBook r0).bind fun r1=>
  bif (decide (r1<0)) then
  some (-(1:Int))
  else
  (z2 a_0.fSessions r1).bind fun r2=>
  bif (decide (r2<0)) then
   some (-(1:Int))
  else
   (z3 a_0.fLives r2).bind fun r3=>
   bif (decide (r3<0)) then
   some (-(1:Int))
   else
   some r3
noncomputable def JAk:HAn:=IAn FAk IAk VAl WAl
theorem DAr:Tells ctx PP 5 cv9 cv1 (fun a=>JAk a.1 a.2):=fn_ok0 (hc SAq (hc XAq (hc ZAq (hc BAr hl_nil)))) Try.func5 ((fun z0 z1 z2 z3 a=>by kernel_rfl:∀ z0 z1 z2 z3,EntryIs0 ctx PP 5 [] [(16,TAq z0),(17,YAq z1),(18,AAr z2),(19,CAr z3)] cv9 cv1 fun a=>IAn z0 z1 z2 z3 a.1 a.2) FAk IAk VAl WAl)
noncomputable def EAr {γ:Type} (F:HAn):Hd ctx γ:=hdl cv9.dec (fun a=>F a.1 a.2) cv1.enc
abbrev XAl:=SFile→Option SFile
noncomputable def JAn (a_0:SFile):Option SFile:=
 some a_0
noncomputable def JAj:XAl:=JAn
theorem FAr:Tells ctx PP 65 cv10 cv10 (fun a=>JAj a):=fn_ok0 hl_nil Try.func65 (fun a=>by kernel_rfl:EntryIs0 ctx PP 65 [] [] cv10 cv10 fun a=>JAn a)
noncomputable def OAp {γ:Type} (F:XAl):Hd ctx γ:=hdl cv10.dec (fun a=>F a) cv10.enc
abbrev KAn:=(List SFile)→Option (List SFile)
inductive KAk where
 | c0 (a_0:(List SFile)) (i_4:Int) (out_3:(List SFile))
noncomputable def PAp:KAk→LI
 | .c0 a_0 i_4 out_3=>(tdo Try.f47 464,[(0,[.one (.rsl 101 a_0)]),(3,[.one (.own 240)]),(4,[.one (.int .i64 i_4)])],[(240,.sl 104 out_3)])
noncomputable def LAn (z0:XAl) (k:KAk→Option (List SFile)) (a_0:(List SFile)):Option (List SFile):=
 bif ((((decide (0≤(a_0.length:Int))) && (decide ((a_0.length:Int)≤(a_0.length:Int)))) && (decide ((a_0.length:Int)≤9223372036854775807))) && (decide (((a_0.length:Int).toNat*40)≤140737488355328))) then
 k (.c0 a_0 0 (List.replicate (a_0.length:Int).toNat (⟨⟨#[]⟩,⟨#[]⟩,0⟩:SFile)))
 else none
noncomputable def YAl (z0:XAl) (k:KAk→Option (List SFile)):KAk→Option (List SFile)
 | .c0 a_0 i_4 out_3=>
 bif (decide (i_4<(a_0.length:Int))) then
  bif ((decide (0≤i_4)) && (decide (i_4<(a_0.length:Int)))) then
  (z0 (a_0.getD i_4.toNat (⟨⟨#[]⟩,⟨#[]⟩,0⟩:SFile))).bind fun r0=>
  bif ((decide (0≤i_4)) && (decide (i_4<(out_3.length:Int)))) then
  k (.c0 a_0 (w64 (i_4+1)) (out_3.set i_4.toNat r0))
  else none
  else none
 else
  some out_3
noncomputable def KAj:Nat→KAk→Option (List SFile)
 | 0,_=>none
 | m+1,s=>YAl JAj (KAj m) s
noncomputable def LAk:KAn:=LAn JAj (KAj gas)
theorem GAr:Tells ctx PP 47 cv11 cv12 (fun a=>LAk a):=
 have b:∀ z0,CutIs ctx PP 47 Try.f47 [] [(65,OAp z0)] cv12 PAp (YAl z0):=fun z0 _ s=>by cases s <;> kernel_rfl
 have e:∀ z0,EntryIs ctx PP 47 [] [(65,OAp z0)] cv11 cv12 PAp (fun k a=>LAn z0 k a):=fun z0 _ a=>by kernel_rfl
 fn_ok (hc FAr hl_nil) Try.func47 (fun s s' h=>by cases s;cases s';cases h;rfl) (fun _=>rfl) (fun _ _=>rfl) (b JAj) (e JAj) gas
noncomputable def HAr {γ:Type} (F:KAn):Hd ctx γ:=hdl cv11.dec (fun a=>F a) cv12.enc
abbrev MAn:=SDisk→Option SDisk
noncomputable def NAn (z0:KAn) (a_0:SDisk):Option SDisk:=
 (z0 a_0.fFiles).bind fun r0=>
 some ⟨r0⟩
noncomputable def MAk:MAn:=NAn LAk
theorem IAr:Tells ctx PP 22 cv13 cv14 (fun a=>MAk a):=fn_ok0 (hc GAr hl_nil) Try.func22 ((fun z0 a=>by kernel_rfl:∀ z0,EntryIs0 ctx PP 22 [] [(47,HAr z0)] cv13 cv14 fun a=>NAn z0 a) LAk)
noncomputable def JAr {γ:Type} (F:MAn):Hd ctx γ:=hdl cv13.dec (fun a=>F a) cv14.enc
abbrev ZAl:=SThing→Option SThing
noncomputable def OAn (a_0:SThing):Option SThing:=
 some a_0
noncomputable def LAj:ZAl:=OAn
theorem KAr:Tells ctx PP 66 cv15 cv15 (fun a=>LAj a):=fn_ok0 hl_nil Try.func66 (fun a=>by kernel_rfl:EntryIs0 ctx PP 66 [] [] cv15 cv15 fun a=>OAn a)
noncomputable def QAp {γ:Type} (F:ZAl):Hd ctx γ:=hdl cv15.dec (fun a=>F a) cv15.enc
abbrev PAn:=(List SThing)→Option (List SThing)
inductive NAk where
 | c0 (a_0:(List SThing)) (i_4:Int) (out_3:(List SThing))
noncomputable def RAp:NAk→LI
 | .c0 a_0 i_4 out_3=>(tdo Try.f48 464,[(0,[.one (.rsl 103 a_0)]),(3,[.one (.own 240)]),(4,[.one (.int .i64 i_4)])],[(240,.sl 59 out_3)])
noncomputable def QAn (z0:ZAl) (k:NAk→Option (List SThing)) (a_0:(List SThing)):Option (List SThing):=
 bif ((((decide (0≤(a_0.length:Int))) && (decide ((a_0.length:Int)≤(a_0.length:Int)))) && (decide ((a_0.length:Int)≤9223372036854775807))) && (decide (((a_0.length:Int).toNat*48)≤140737488355328))) then
 k (.c0 a_0 0 (List.replicate (a_0.length:Int).toNat (⟨0,0,false,false,false,false,⟨#[]⟩,0⟩:SThing)))
 else none
noncomputable def AAm (z0:ZAl) (k:NAk→Option (List SThing)):NAk→Option (List SThing)
 | .c0 a_0 i_4 out_3=>
 bif (decide (i_4<(a_0.length:Int))) then
  bif ((decide (0≤i_4)) && (decide (i_4<(a_0.length:Int)))) then
  (z0 (a_0.getD i_4.toNat (⟨0,0,false,false,false,false,⟨#[]⟩,0⟩:SThing))).bind fun r0=>
  bif ((decide (0≤i_4)) && (decide (i_4<(out_3.length:Int)))) then
  k (.c0 a_0 (w64 (i_4+1)) (out_3.set i_4.toNat r0))
  else none
  else none
 else
  some out_3
noncomputable def MAj:Nat→NAk→Option (List SThing)
 | 0,_=>none
 | m+1,s=>AAm LAj (MAj m) s
noncomputable def OAk:PAn:=QAn LAj (MAj gas)
theorem LAr:Tells ctx PP 48 cv16 cv17 (fun a=>OAk a):=
 have b:∀ z0,CutIs ctx PP 48 Try.f48 [] [(66,QAp z0)] cv17 RAp (AAm z0):=fun z0 _ s=>by cases s <;> kernel_rfl
 have e:∀ z0,EntryIs ctx PP 48 [] [(66,QAp z0)] cv16 cv17 RAp (fun k a=>QAn z0 k a):=fun z0 _ a=>by kernel_rfl
 fn_ok (hc KAr hl_nil) Try.func48 (fun s s' h=>by cases s;cases s';cases h;rfl) (fun _=>rfl) (fun _ _=>rfl) (b LAj) (e LAj) gas
noncomputable def MAr {γ:Type} (F:PAn):Hd ctx γ:=hdl cv16.dec (fun a=>F a) cv17.enc
abbrev RAn:=SBook→Option SBook
noncomputable def SAn (z0:PAn) (a_0:SBook):Option SBook:=
 (z0 a_0.fThings).bind fun r0=>
 some ⟨a_0.fWord,a_0.fTries,r0,a_0.fLast,a_0.fChain,a_0.fCount⟩
noncomputable def PAk:RAn:=SAn OAk
theorem NAr:Tells ctx PP 23 cv18 cv19 (fun a=>PAk a):=fn_ok0 (hc LAr hl_nil) Try.func23 ((fun z0 a=>by kernel_rfl:∀ z0,EntryIs0 ctx PP 23 [] [(48,MAr z0)] cv18 cv19 fun a=>SAn z0 a) OAk)
noncomputable def OAr {γ:Type} (F:RAn):Hd ctx γ:=hdl cv18.dec (fun a=>F a) cv19.enc
abbrev BAm:=SSession→Option SSession
noncomputable def TAn (a_0:SSession):Option SSession:=
 some a_0
noncomputable def NAj:BAm:=TAn
theorem PAr:Tells ctx PP 49 cv20 cv20 (fun a=>NAj a):=fn_ok0 hl_nil Try.func49 (fun a=>by kernel_rfl:EntryIs0 ctx PP 49 [] [] cv20 cv20 fun a=>TAn a)
noncomputable def SAp {γ:Type} (F:BAm):Hd ctx γ:=hdl cv20.dec (fun a=>F a) cv20.enc
abbrev UAn:=(List SSession)→Option (List SSession)
inductive QAk where
 | c0 (a_0:(List SSession)) (i_4:Int) (out_3:(List SSession))
noncomputable def TAp:QAk→LI
 | .c0 a_0 i_4 out_3=>(tdo Try.f24 464,[(0,[.one (.rsl 87 a_0)]),(3,[.one (.own 240)]),(4,[.one (.int .i64 i_4)])],[(240,.sl 75 out_3)])
noncomputable def VAn (z0:BAm) (k:QAk→Option (List SSession)) (a_0:(List SSession)):Option (List SSession):=
 bif ((((decide (0≤(a_0.length:Int))) && (decide ((a_0.length:Int)≤(a_0.length:Int)))) && (decide ((a_0.length:Int)≤9223372036854775807))) && (decide (((a_0.length:Int).toNat*16)≤140737488355328))) then
 k (.c0 a_0 0 (List.replicate (a_0.length:Int).toNat (⟨0,false⟩:SSession)))
 else none
noncomputable def CAm (z0:BAm) (k:QAk→Option (List SSession)):QAk→Option (List SSession)
 | .c0 a_0 i_4 out_3=>
 bif (decide (i_4<(a_0.length:Int))) then
  bif ((decide (0≤i_4)) && (decide (i_4<(a_0.length:Int)))) then
  (z0 (a_0.getD i_4.toNat (⟨0,false⟩:SSession))).bind fun r0=>
  bif ((decide (0≤i_4)) && (decide (i_4<(out_3.length:Int)))) then
  k (.c0 a_0 (w64 (i_4+1)) (out_3.set i_4.toNat r0))
  else none
  else none
 else
  some out_3
noncomputable def OAj:Nat→QAk→Option (List SSession)
 | 0,_=>none
 | m+1,s=>CAm NAj (OAj m) s
noncomputable def RAk:UAn:=VAn NAj (OAj gas)
theorem QAr:Tells ctx PP 24 cv21 cv22 (fun a=>RAk a):=
 have b:∀ z0,CutIs ctx PP 24 Try.f24 [] [(49,SAp z0)] cv22 TAp (CAm z0):=fun z0 _ s=>by cases s <;> kernel_rfl
 have e:∀ z0,EntryIs ctx PP 24 [] [(49,SAp z0)] cv21 cv22 TAp (fun k a=>VAn z0 k a):=fun z0 _ a=>by kernel_rfl
 fn_ok (hc PAr hl_nil) Try.func24 (fun s s' h=>by cases s;cases s';cases h;rfl) (fun _=>rfl) (fun _ _=>rfl) (b NAj) (e NAj) gas
noncomputable def RAr {γ:Type} (F:UAn):Hd ctx γ:=hdl cv21.dec (fun a=>F a) cv22.enc
abbrev DAm:=SLive→Option SLive
noncomputable def WAn (a_0:SLive):Option SLive:=
 some a_0
noncomputable def PAj:DAm:=WAn
theorem SAr:Tells ctx PP 50 cv23 cv23 (fun a=>PAj a):=fn_ok0 hl_nil Try.func50 (fun a=>by kernel_rfl:EntryIs0 ctx PP 50 [] [] cv23 cv23 fun a=>WAn a)
noncomputable def UAp {γ:Type} (F:DAm):Hd ctx γ:=hdl cv23.dec (fun a=>F a) cv23.enc
abbrev XAn:=(List SLive)→Option (List SLive)
inductive SAk where
 | c0 (a_0:(List SLive)) (i_4:Int) (out_3:(List SLive))
noncomputable def VAp:SAk→LI
 | .c0 a_0 i_4 out_3=>(tdo Try.f25 464,[(0,[.one (.rsl 89 a_0)]),(3,[.one (.own 240)]),(4,[.one (.int .i64 i_4)])],[(240,.sl 68 out_3)])
noncomputable def YAn (z0:DAm) (k:SAk→Option (List SLive)) (a_0:(List SLive)):Option (List SLive):=
 bif ((((decide (0≤(a_0.length:Int))) && (decide ((a_0.length:Int)≤(a_0.length:Int)))) && (decide ((a_0.length:Int)≤9223372036854775807))) && (decide (((a_0.length:Int).toNat*16)≤140737488355328))) then
 k (.c0 a_0 0 (List.replicate (a_0.length:Int).toNat (⟨0,0⟩:SLive)))
 else none
noncomputable def EAm (z0:DAm) (k:SAk→Option (List SLive)):SAk→Option (List SLive)
 | .c0 a_0 i_4 out_3=>
 bif (decide (i_4<(a_0.length:Int))) then
  bif ((decide (0≤i_4)) && (decide (i_4<(a_0.length:Int)))) then
  (z0 (a_0.getD i_4.toNat (⟨0,0⟩:SLive))).bind fun r0=>
  bif ((decide (0≤i_4)) && (decide (i_4<(out_3.length:Int)))) then
  k (.c0 a_0 (w64 (i_4+1)) (out_3.set i_4.toNat r0))
  else none
  else none
 else
  some out_3
noncomputable def QAj:Nat→SAk→Option (List SLive)
 | 0,_=>none
 | m+1,s=>EAm PAj (QAj m) s
noncomputable def TAk:XAn:=YAn PAj (QAj gas)
theorem TAr:Tells ctx PP 25 cv24 cv25 (fun a=>TAk a):=
 have b:∀ z0,CutIs ctx PP 25 Try.f25 [] [(50,UAp z0)] cv25 VAp (EAm z0):=fun z0 _ s=>by cases s <;> kernel_rfl
 have e:∀ z0,EntryIs ctx PP 25 [] [(50,UAp z0)] cv24 cv25 VAp (fun k a=>YAn z0 k a):=fun z0 _ a=>by kernel_rfl
 fn_ok (hc SAr hl_nil) Try.func25 (fun s s' h=>by cases s;cases s';cases h;rfl) (fun _=>rfl) (fun _ _=>rfl) (b PAj) (e PAj) gas
noncomputable def UAr {γ:Type} (F:XAn):Hd ctx γ:=hdl cv24.dec (fun a=>F a) cv25.enc
abbrev ZAn:=SBox→Option SBox
noncomputable def AAo (z0:MAn) (z1:RAn) (z2:UAn) (z3:XAn) (a_0:SBox):Option SBox:=
 (z0 a_0.fDisk).bind fun r0=>
 (z1 a_0.fBook).bind fun r1=>
 (z2 a_0.fSessions).bind fun r2=>
 (z3 a_0.fLives).bind fun r3=>
 some ⟨a_0.fKey,a_0.fUp,r0,r1,r2,r3,a_0.fOpened⟩
noncomputable def UAk:ZAn:=AAo MAk PAk RAk TAk
theorem VAr:Tells ctx PP 7 cv26 cv27 (fun a=>UAk a):=fn_ok0 (hc IAr (hc NAr (hc QAr (hc TAr hl_nil)))) Try.func7 ((fun z0 z1 z2 z3 a=>by kernel_rfl:∀ z0 z1 z2 z3,EntryIs0 ctx PP 7 [] [(22,JAr z0),(23,OAr z1),(24,RAr z2),(25,UAr z3)] cv26 cv27 fun a=>AAo z0 z1 z2 z3 a) MAk PAk RAk TAk)
noncomputable def WAr {γ:Type} (F:ZAn):Hd ctx γ:=hdl cv26.dec (fun a=>F a) cv27.enc
abbrev BAo:=SBook→Int→Option (SThing×Bool)
inductive VAk where
 | c0 (id_1:Int) (i_6:Int) (b_2:SBook) (v_4:SThing)
noncomputable def WAp:VAk→LI
 | .c0 id_1 i_6 b_2 v_4=>(tdo Try.f20 208,[(1,[.one (.int .i64 id_1)]),(2,[.one (.ptr 128 0)]),(4,[.one (.ptr 256 0)]),(6,[.one (.int .i64 i_6)])],[(128,.var [.str b_2.fWord,.int .i64 b_2.fTries,.rsl 59 b_2.fThings,.int .i64 b_2.fLast,.str b_2.fChain,.int .i64 b_2.fCount]),(256,.var [.int .i64 v_4.fId,.int .i64 v_4.fKind,.bool v_4.fHidden,.bool v_4.fFixed,.bool v_4.fSigns,.bool v_4.fWraps,.str v_4.fValue,.int .i64 v_4.fNext])])
noncomputable def XAp (k:VAk→Option (SThing×Bool)) (b_0:SBook) (id_1:Int):Option (SThing×Bool):=
 k (.c0 id_1 0 b_0 ⟨0,0,false,false,false,false,⟨#[]⟩,0⟩)
noncomputable def FAm (k:VAk→Option (SThing×Bool)):VAk→Option (SThing×Bool)
 | .c0 id_1 i_6 b_2 v_4=>
 bif (decide (i_6<(b_2.fThings.length:Int))) then
  bif ((decide (0≤i_6)) && (decide (i_6<(b_2.fThings.length:Int)))) then
  bif ((b_2.fThings.getD i_6.toNat (⟨0,0,false,false,false,false,⟨#[]⟩,0⟩:SThing)).fId == id_1) then
  bif ((decide (0≤i_6)) && (decide (i_6<(b_2.fThings.length:Int)))) then
  some ((b_2.fThings.getD i_6.toNat (⟨0,0,false,false,false,false,⟨#[]⟩,0⟩:SThing)),true)
  else none
  else
  k (.c0 id_1 (w64 (i_6+1)) b_2 v_4)
  else none
 else
  some (⟨0,0,false,false,false,false,⟨#[]⟩,0⟩,false)
noncomputable def XAj:Nat→VAk→Option (SThing×Bool)
 | 0,_=>none
 | m+1,s=>FAm (XAj m) s
noncomputable def GAm:BAo:=XAp (XAj gas)
theorem XAr:Tells ctx PP 20 cv28 cv29 (fun a=>GAm a.1 a.2):=
 have b:CutIs ctx PP 20 Try.f20 [] [] cv29 WAp (FAm):=fun _ s=>by cases s <;> kernel_rfl
 have e:EntryIs ctx PP 20 [] [] cv28 cv29 WAp (fun k a=>XAp k a.1 a.2):=fun _ a=>by kernel_rfl
 fn_ok hl_nil Try.func20 (fun s s' h=>by cases s;cases s';(repeat cases ‹SBook›);(repeat cases ‹SThing›);cases h;rfl) (fun _=>rfl) (fun _ _=>rfl) b e gas
noncomputable def YAr {γ:Type} (F:BAo):Hd ctx γ:=hdl cv28.dec (fun a=>F a.1 a.2) cv29.enc
abbrev CAo:=SBox→SThing→Option Int
inductive WAk where
 | c0 (i_5:Int) (b_2:SBox) (x_3:SThing)
noncomputable def YAp:WAk→LI
 | .c0 i_5 b_2 x_3=>(tdo Try.f21 208,[(2,[.one (.ptr 128 0)]),(3,[.one (.ptr 192 0)]),(5,[.one (.int .i64 i_5)])],[(128,.var [.str b_2.fKey,.bool b_2.fUp,.rsl 104 b_2.fDisk.fFiles,.str b_2.fBook.fWord,.int .i64 b_2.fBook.fTries,.rsl 59 b_2.fBook.fThings,.int .i64 b_2.fBook.fLast,.str b_2.fBook.fChain,.int .i64 b_2.fBook.fCount,.rsl 75 b_2.fSessions,.rsl 68 b_2.fLives,.int .i64 b_2.fOpened]),(192,.var [.int .i64 x_3.fId,.int .i64 x_3.fKind,.bool x_3.fHidden,.bool x_3.fFixed,.bool x_3.fSigns,.bool x_3.fWraps,.str x_3.fValue,.int .i64 x_3.fNext])])
noncomputable def DAo (k:WAk→Option Int) (b_0:SBox) (x_1:SThing):Option Int:=
 k (.c0 0 b_0 x_1)
noncomputable def HAm (k:WAk→Option Int):WAk→Option Int
 | .c0 i_5 b_2 x_3=>
 bif (decide (i_5<(b_2.fLives.length:Int))) then
  bif ((decide (0≤i_5)) && (decide (i_5<(b_2.fLives.length:Int)))) then
  bif ((b_2.fLives.getD i_5.toNat (⟨0,0⟩:SLive)).fId == x_3.fId) then
  bif ((decide (0≤i_5)) && (decide (i_5<(b_2.fLives.length:Int)))) then
  some (b_2.fLives.getD i_5.toNat (⟨0,0⟩:SLive)).fNext
  else none
  else
  k (.c0 (w64 (i_5+1)) b_2 x_3)
  else none
 else
  some x_3.fNext
noncomputable def XAk:Nat→WAk→Option Int
 | 0,_=>none
 | m+1,s=>HAm (XAk m) s
noncomputable def YAk:CAo:=DAo (XAk gas)
theorem ZAr:Tells ctx PP 21 cv30 cv1 (fun a=>YAk a.1 a.2):=
 have b:CutIs ctx PP 21 Try.f21 [] [] cv1 YAp (HAm):=fun _ s=>by cases s <;> kernel_rfl
 have e:EntryIs ctx PP 21 [] [] cv30 cv1 YAp (fun k a=>DAo k a.1 a.2):=fun _ a=>by kernel_rfl
 fn_ok hl_nil Try.func21 (fun s s' h=>by cases s;cases s';(repeat cases ‹SBox›);(repeat cases ‹SThing›);(repeat cases ‹SDisk›);(repeat cases ‹SBook›);cases h;rfl) (fun _=>rfl) (fun _ _=>rfl) b e gas
noncomputable def AAs {γ:Type} (F:CAo):Hd ctx γ:=hdl cv30.dec (fun a=>F a.1 a.2) cv1.enc
abbrev EAo:=SBox→Int→Option Int
noncomputable def FAo (z0:BAo) (z1:CAo) (b_0:SBox) (id_1:Int):Option Int:=
 (z0 b_0.fBook id_1).bind fun r0=>
 bif (!r0.2) then
 some (-(1:Int))
 else
 bif (r0.1.fKind != 2) then
  some (-(1:Int))
 else
  (z1 b_0 r0.1).bind fun r1=>
  some r1
noncomputable def ZAk:EAo:=FAo GAm YAk
theorem BAs:Tells ctx PP 6 cv31 cv1 (fun a=>ZAk a.1 a.2):=fn_ok0 (hc XAr (hc ZAr hl_nil)) Try.func6 ((fun z0 z1 a=>by kernel_rfl:∀ z0 z1,EntryIs0 ctx PP 6 [] [(20,YAr z0),(21,AAs z1)] cv31 cv1 fun a=>FAo z0 z1 a.1 a.2) GAm YAk)
noncomputable def CAs {γ:Type} (F:EAo):Hd ctx γ:=hdl cv31.dec (fun a=>F a.1 a.2) cv1.enc
abbrev GAo:=SBook→Int→Option Int
inductive AAl where
 | c0 (id_1:Int) (v_8:(List SThing)) (v_9:Int) (v_10:Int)
noncomputable def ZAp:AAl→LI
 | .c0 id_1 v_8 v_9 v_10=>(tdo Try.f51 104,[(1,[.one (.int .i64 id_1)]),(8,[.one (.rsl 59 v_8)]),(9,[.one (.int .i64 v_9)]),(10,[.one (.int .i64 v_10)])],[])
noncomputable def AAq (k:AAl→Option Int) (b_0:SBook) (id_1:Int):Option Int:=
 k (.c0 id_1 b_0.fThings (b_0.fThings.length:Int) 0)
noncomputable def IAm (k:AAl→Option Int):AAl→Option Int
 | .c0 id_1 v_8 v_9 v_10=>
 bif (decide (v_10<v_9)) then
  bif ((decide (0≤v_10)) && (decide (v_10<(v_8.length:Int)))) then
  bif ((v_8.getD v_10.toNat (⟨0,0,false,false,false,false,⟨#[]⟩,0⟩:SThing)).fId == id_1) then
  some v_10
  else
  k (.c0 id_1 v_8 v_9 (w64 (v_10+1)))
  else none
 else
  some (-(1:Int))
noncomputable def YAj:Nat→AAl→Option Int
 | 0,_=>none
 | m+1,s=>IAm (YAj m) s
noncomputable def JAm:GAo:=AAq (YAj gas)
theorem DAs:Tells ctx PP 51 cv28 cv1 (fun a=>JAm a.1 a.2):=
 have b:CutIs ctx PP 51 Try.f51 [] [] cv1 ZAp (IAm):=fun _ s=>by cases s <;> kernel_rfl
 have e:EntryIs ctx PP 51 [] [] cv28 cv1 ZAp (fun k a=>AAq k a.1 a.2):=fun _ a=>by kernel_rfl
 fn_ok hl_nil Try.func51 (fun s s' h=>by cases s;cases s';cases h;rfl) (fun _=>rfl) (fun _ _=>rfl) b e gas
noncomputable def EAs {γ:Type} (F:GAo):Hd ctx γ:=hdl cv28.dec (fun a=>F a.1 a.2) cv1.enc
abbrev HAo:=SBook→Int→Option (SThing×Bool)
noncomputable def IAo (z0:GAo) (b_0:SBook) (id_1:Int):Option (SThing×Bool):=
 (z0 b_0 id_1).bind fun r0=>
 bif (decide (r0<0)) then
 some (⟨0,0,false,false,false,false,⟨#[]⟩,0⟩,false)
 else
 bif ((decide (0≤r0)) && (decide (r0<(b_0.fThings.length:Int)))) then
 some ((b_0.fThings.getD r0.toNat (⟨0,0,false,false,false,false,⟨#[]⟩,0⟩:SThing)),true)
 else none
noncomputable def BAl:HAo:=IAo JAm
theorem FAs:Tells ctx PP 26 cv28 cv29 (fun a=>BAl a.1 a.2):=fn_ok0 (hc DAs hl_nil) Try.func26 ((fun z0 a=>by kernel_rfl:∀ z0,EntryIs0 ctx PP 26 [] [(51,EAs z0)] cv28 cv29 fun a=>IAo z0 a.1 a.2) JAm)
noncomputable def GAs {γ:Type} (F:HAo):Hd ctx γ:=hdl cv28.dec (fun a=>F a.1 a.2) cv29.enc
abbrev JAo:=SBox→Int→Option Int
inductive CAl where
 | c0 (id_1:Int) (v_8:(List SLive)) (v_9:Int) (v_10:Int)
noncomputable def BAq:CAl→LI
 | .c0 id_1 v_8 v_9 v_10=>(tdo Try.f27 104,[(1,[.one (.int .i64 id_1)]),(8,[.one (.rsl 68 v_8)]),(9,[.one (.int .i64 v_9)]),(10,[.one (.int .i64 v_10)])],[])
noncomputable def KAo (k:CAl→Option Int) (b_0:SBox) (id_1:Int):Option Int:=
 k (.c0 id_1 b_0.fLives (b_0.fLives.length:Int) 0)
noncomputable def KAm (k:CAl→Option Int):CAl→Option Int
 | .c0 id_1 v_8 v_9 v_10=>
 bif (decide (v_10<v_9)) then
  bif ((decide (0≤v_10)) && (decide (v_10<(v_8.length:Int)))) then
  bif ((v_8.getD v_10.toNat (⟨0,0⟩:SLive)).fId == id_1) then
  some v_10
  else
  k (.c0 id_1 v_8 v_9 (w64 (v_10+1)))
  else none
 else
  some (-(1:Int))
noncomputable def DAl:Nat→CAl→Option Int
 | 0,_=>none
 | m+1,s=>KAm (DAl m) s
noncomputable def EAl:JAo:=KAo (DAl gas)
theorem HAs:Tells ctx PP 27 cv31 cv1 (fun a=>EAl a.1 a.2):=
 have b:CutIs ctx PP 27 Try.f27 [] [] cv1 BAq (KAm):=fun _ s=>by cases s <;> kernel_rfl
 have e:EntryIs ctx PP 27 [] [] cv31 cv1 BAq (fun k a=>KAo k a.1 a.2):=fun _ a=>by kernel_rfl
 fn_ok hl_nil Try.func27 (fun s s' h=>by cases s;cases s';cases h;rfl) (fun _=>rfl) (fun _ _=>rfl) b e gas
noncomputable def IAs {γ:Type} (F:JAo):Hd ctx γ:=hdl cv31.dec (fun a=>F a.1 a.2) cv1.enc
abbrev LAo:=SBox→Int→Option Int
noncomputable def MAo (z0:HAo) (z1:JAo) (b_0:SBox) (id_1:Int):Option Int:=
 (z0 b_0.fBook id_1).bind fun r0=>
 bif (!r0.2) then
 some (-(1:Int))
 else
 bif (r0.1.fKind != 2) then
  some (-(1:Int))
 else
  (z1 b_0 id_1).bind fun r1=>
  bif (decide (r1≥0)) then
  bif ((decide (0≤r1)) && (decide (r1<(b_0.fLives.length:Int)))) then
  some (b_0.fLives.getD r1.toNat (⟨0,0⟩:SLive)).fNext
  else none
  else
  some r0.1.fNext
noncomputable def FAl:LAo:=MAo BAl EAl
theorem JAs:Tells ctx PP 8 cv31 cv1 (fun a=>FAl a.1 a.2):=fn_ok0 (hc FAs (hc HAs hl_nil)) Try.func8 ((fun z0 z1 a=>by kernel_rfl:∀ z0 z1,EntryIs0 ctx PP 8 [] [(26,GAs z0),(27,IAs z1)] cv31 cv1 fun a=>MAo z0 z1 a.1 a.2) BAl EAl)
noncomputable def KAs {γ:Type} (F:LAo):Hd ctx γ:=hdl cv31.dec (fun a=>F a.1 a.2) cv1.enc
abbrev LAm:=SFile→SFile→Option Bool
noncomputable def NAo (a_0:SFile) (b_1:SFile):Option Bool:=
 bif (!((ByteArray.toList a_0.fName) == (ByteArray.toList b_1.fName))) then
 some false
 else
 bif (!((ByteArray.toList a_0.fText) == (ByteArray.toList b_1.fText))) then
  some false
 else
  bif (a_0.fKept != b_1.fKept) then
  some false
  else
  some true
noncomputable def RAj:LAm:=NAo
theorem LAs:Tells ctx PP 67 cv32 cv33 (fun a=>RAj a.1 a.2):=fn_ok0 hl_nil Try.func67 (fun a=>by kernel_rfl:EntryIs0 ctx PP 67 [] [] cv32 cv33 fun a=>NAo a.1 a.2)
noncomputable def CAq {γ:Type} (F:LAm):Hd ctx γ:=hdl cv32.dec (fun a=>F a.1 a.2) cv33.enc
abbrev OAo:=(List SFile)→(List SFile)→Option Bool
inductive GAl where
 | c0 (a_0:(List SFile)) (b_1:(List SFile)) (i_5:Int)
noncomputable def DAq:GAl→LI
 | .c0 a_0 b_1 i_5=>(tdo Try.f52 464,[(0,[.one (.rsl 104 a_0)]),(1,[.one (.rsl 104 b_1)]),(5,[.one (.int .i64 i_5)])],[])
noncomputable def PAo (z0:LAm) (k:GAl→Option Bool) (a_0:(List SFile)) (b_1:(List SFile)):Option Bool:=
 bif ((a_0.length:Int) != (b_1.length:Int)) then
 some false
 else
 k (.c0 a_0 b_1 0)
noncomputable def MAm (z0:LAm) (k:GAl→Option Bool):GAl→Option Bool
 | .c0 a_0 b_1 i_5=>
 bif (decide (i_5<(a_0.length:Int))) then
  bif ((decide (0≤i_5)) && (decide (i_5<(a_0.length:Int)))) then
  bif ((decide (0≤i_5)) && (decide (i_5<(b_1.length:Int)))) then
  (z0 (a_0.getD i_5.toNat (⟨⟨#[]⟩,⟨#[]⟩,0⟩:SFile)) (b_1.getD i_5.toNat (⟨⟨#[]⟩,⟨#[]⟩,0⟩:SFile))).bind fun r0=>
  bif (!r0) then
  some false
  else
  k (.c0 a_0 b_1 (w64 (i_5+1)))
  else none
  else none
 else
  some true
noncomputable def ZAj:Nat→GAl→Option Bool
 | 0,_=>none
 | m+1,s=>MAm RAj (ZAj m) s
noncomputable def HAl:OAo:=PAo RAj (ZAj gas)
theorem MAs:Tells ctx PP 52 cv34 cv33 (fun a=>HAl a.1 a.2):=
 have b:∀ z0,CutIs ctx PP 52 Try.f52 [] [(67,CAq z0)] cv33 DAq (MAm z0):=fun z0 _ s=>by cases s <;> kernel_rfl
 have e:∀ z0,EntryIs ctx PP 52 [] [(67,CAq z0)] cv34 cv33 DAq (fun k a=>PAo z0 k a.1 a.2):=fun z0 _ a=>by kernel_rfl
 fn_ok (hc LAs hl_nil) Try.func52 (fun s s' h=>by cases s;cases s';cases h;rfl) (fun _=>rfl) (fun _ _=>rfl) (b RAj) (e RAj) gas
noncomputable def NAs {γ:Type} (F:OAo):Hd ctx γ:=hdl cv34.dec (fun a=>F a.1 a.2) cv33.enc
abbrev QAo:=SDisk→SDisk→Option Bool
noncomputable def RAo (z0:OAo) (a_0:SDisk) (b_1:SDisk):Option Bool:=
 (z0 a_0.fFiles b_1.fFiles).bind fun r0=>
 bif (!r0) then
 some false
 else
 some true
noncomputable def IAl:QAo:=RAo HAl
theorem OAs:Tells ctx PP 28 cv35 cv33 (fun a=>IAl a.1 a.2):=fn_ok0 (hc MAs hl_nil) Try.func28 ((fun z0 a=>by kernel_rfl:∀ z0,EntryIs0 ctx PP 28 [] [(52,NAs z0)] cv35 cv33 fun a=>RAo z0 a.1 a.2) HAl)
noncomputable def PAs {γ:Type} (F:QAo):Hd ctx γ:=hdl cv35.dec (fun a=>F a.1 a.2) cv33.enc
abbrev NAm:=SThing→SThing→Option Bool
noncomputable def SAo (a_0:SThing) (b_1:SThing):Option Bool:=
 bif (a_0.fId != b_1.fId) then
 some false
 else
 bif (a_0.fKind != b_1.fKind) then
  some false
 else
  bif (!(a_0.fHidden == b_1.fHidden)) then
  some false
  else
  bif (!(a_0.fFixed == b_1.fFixed)) then
   some false
  else
   bif (!(a_0.fSigns == b_1.fSigns)) then
   some false
   else
   bif (!(a_0.fWraps == b_1.fWraps)) then
    some false
   else
    bif (!((ByteArray.toList a_0.fValue) == (ByteArray.toList b_1.fValue))) then
    some false
    else
    bif (a_0.fNext != b_1.fNext) then
     some false
    else
     some true
noncomputable def SAj:NAm:=SAo
theorem QAs:Tells ctx PP 68 cv36 cv33 (fun a=>SAj a.1 a.2):=fn_ok0 hl_nil Try.func68 (fun a=>by kernel_rfl:EntryIs0 ctx PP 68 [] [] cv36 cv33 fun a=>SAo a.1 a.2)
noncomputable def EAq {γ:Type} (F:NAm):Hd ctx γ:=hdl cv36.dec (fun a=>F a.1 a.2) cv33.enc
abbrev TAo:=(List SThing)→(List SThing)→Option Bool
inductive JAl where
 | c0 (a_0:(List SThing)) (b_1:(List SThing)) (i_5:Int)
noncomputable def FAq:JAl→LI
 | .c0 a_0 b_1 i_5=>(tdo Try.f53 464,[(0,[.one (.rsl 59 a_0)]),(1,[.one (.rsl 59 b_1)]),(5,[.one (.int .i64 i_5)])],[])
noncomputable def UAo (z0:NAm) (k:JAl→Option Bool) (a_0:(List SThing)) (b_1:(List SThing)):Option Bool:=
 bif ((a_0.length:Int) != (b_1.length:Int)) then
 some false
 else
 k (.c0 a_0 b_1 0)
noncomputable def OAm (z0:NAm) (k:JAl→Option Bool):JAl→Option Bool
 | .c0 a_0 b_1 i_5=>
 bif (decide (i_5<(a_0.length:Int))) then
  bif ((decide (0≤i_5)) && (decide (i_5<(a_0.length:Int)))) then
  bif ((decide (0≤i_5)) && (decide (i_5<(b_1.length:Int)))) then
  (z0 (a_0.getD i_5.toNat (⟨0,0,false,false,false,false,⟨#[]⟩,0⟩:SThing)) (b_1.getD i_5.toNat (⟨0,0,false,false,false,false,⟨#[]⟩,0⟩:SThing))).bind fun r0=>
  bif (!r0) then
  some false
  else
  k (.c0 a_0 b_1 (w64 (i_5+1)))
  else none
  else none
 else
  some true
noncomputable def AAk:Nat→JAl→Option Bool
 | 0,_=>none
 | m+1,s=>OAm SAj (AAk m) s
noncomputable def KAl:TAo:=UAo SAj (AAk gas)
theorem RAs:Tells ctx PP 53 cv37 cv33 (fun a=>KAl a.1 a.2):=
 have b:∀ z0,CutIs ctx PP 53 Try.f53 [] [(68,EAq z0)] cv33 FAq (OAm z0):=fun z0 _ s=>by cases s <;> kernel_rfl
 have e:∀ z0,EntryIs ctx PP 53 [] [(68,EAq z0)] cv37 cv33 FAq (fun k a=>UAo z0 k a.1 a.2):=fun z0 _ a=>by kernel_rfl
 fn_ok (hc QAs hl_nil) Try.func53 (fun s s' h=>by cases s;cases s';cases h;rfl) (fun _=>rfl) (fun _ _=>rfl) (b SAj) (e SAj) gas
noncomputable def SAs {γ:Type} (F:TAo):Hd ctx γ:=hdl cv37.dec (fun a=>F a.1 a.2) cv33.enc
abbrev VAo:=SBook→SBook→Option Bool
noncomputable def WAo (z0:TAo) (a_0:SBook) (b_1:SBook):Option Bool:=
 bif (!((ByteArray.toList a_0.fWord) == (ByteArray.toList b_1.fWord))) then
 some false
 else
 bif (a_0.fTries != b_1.fTries) then
  some false
 else
  (z0 a_0.fThings b_1.fThings).bind fun r0=>
  bif (!r0) then
  some false
  else
  bif (a_0.fLast != b_1.fLast) then
   some false
  else
   bif (!((ByteArray.toList a_0.fChain) == (ByteArray.toList b_1.fChain))) then
   some false
   else
   bif (a_0.fCount != b_1.fCount) then
    some false
   else
    some true
noncomputable def LAl:VAo:=WAo KAl
theorem TAs:Tells ctx PP 29 cv38 cv33 (fun a=>LAl a.1 a.2):=fn_ok0 (hc RAs hl_nil) Try.func29 ((fun z0 a=>by kernel_rfl:∀ z0,EntryIs0 ctx PP 29 [] [(53,SAs z0)] cv38 cv33 fun a=>WAo z0 a.1 a.2) KAl)
noncomputable def UAs {γ:Type} (F:VAo):Hd ctx γ:=hdl cv38.dec (fun a=>F a.1 a.2) cv33.enc
abbrev PAm:=SSession→SSession→Option Bool
noncomputable def XAo (a_0:SSession) (b_1:SSession):Option Bool:=
 bif (a_0.fId != b_1.fId) then
 some false
 else
 bif (!(a_0.fIn == b_1.fIn)) then
  some false
 else
  some true
noncomputable def TAj:PAm:=XAo
theorem VAs:Tells ctx PP 54 cv39 cv33 (fun a=>TAj a.1 a.2):=fn_ok0 hl_nil Try.func54 (fun a=>by kernel_rfl:EntryIs0 ctx PP 54 [] [] cv39 cv33 fun a=>XAo a.1 a.2)
noncomputable def GAq {γ:Type} (F:PAm):Hd ctx γ:=hdl cv39.dec (fun a=>F a.1 a.2) cv33.enc
abbrev YAo:=(List SSession)→(List SSession)→Option Bool
inductive MAl where
 | c0 (a_0:(List SSession)) (b_1:(List SSession)) (i_5:Int)
noncomputable def HAq:MAl→LI
 | .c0 a_0 b_1 i_5=>(tdo Try.f30 464,[(0,[.one (.rsl 75 a_0)]),(1,[.one (.rsl 75 b_1)]),(5,[.one (.int .i64 i_5)])],[])
noncomputable def ZAo (z0:PAm) (k:MAl→Option Bool) (a_0:(List SSession)) (b_1:(List SSession)):Option Bool:=
 bif ((a_0.length:Int) != (b_1.length:Int)) then
 some false
 else
 k (.c0 a_0 b_1 0)
noncomputable def QAm (z0:PAm) (k:MAl→Option Bool):MAl→Option Bool
 | .c0 a_0 b_1 i_5=>
 bif (decide (i_5<(a_0.length:Int))) then
  bif ((decide (0≤i_5)) && (decide (i_5<(a_0.length:Int)))) then
  bif ((decide (0≤i_5)) && (decide (i_5<(b_1.length:Int)))) then
  (z0 (a_0.getD i_5.toNat (⟨0,false⟩:SSession)) (b_1.getD i_5.toNat (⟨0,false⟩:SSession))).bind fun r0=>
  bif (!r0) then
  some false
  else
  k (.c0 a_0 b_1 (w64 (i_5+1)))
  else none
  else none
 else
  some true
noncomputable def BAk:Nat→MAl→Option Bool
 | 0,_=>none
 | m+1,s=>QAm TAj (BAk m) s
noncomputable def NAl:YAo:=ZAo TAj (BAk gas)
theorem WAs:Tells ctx PP 30 cv40 cv33 (fun a=>NAl a.1 a.2):=
 have b:∀ z0,CutIs ctx PP 30 Try.f30 [] [(54,GAq z0)] cv33 HAq (QAm z0):=fun z0 _ s=>by cases s <;> kernel_rfl
 have e:∀ z0,EntryIs ctx PP 30 [] [(54,GAq z0)] cv40 cv33 HAq (fun k a=>ZAo z0 k a.1 a.2):=fun z0 _ a=>by kernel_rfl
 fn_ok (hc VAs hl_nil) Try.func30 (fun s s' h=>by cases s;cases s';cases h;rfl) (fun _=>rfl) (fun _ _=>rfl) (b TAj) (e TAj) gas
noncomputable def XAs {γ:Type} (F:YAo):Hd ctx γ:=hdl cv40.dec (fun a=>F a.1 a.2) cv33.enc
abbrev RAm:=SLive→SLive→Option Bool
noncomputable def AAp (a_0:SLive) (b_1:SLive):Option Bool:=
 bif (a_0.fId != b_1.fId) then
 some false
 else
 bif (a_0.fNext != b_1.fNext) then
  some false
 else
  some true
noncomputable def UAj:RAm:=AAp
theorem YAs:Tells ctx PP 55 cv41 cv33 (fun a=>UAj a.1 a.2):=fn_ok0 hl_nil Try.func55 (fun a=>by kernel_rfl:EntryIs0 ctx PP 55 [] [] cv41 cv33 fun a=>AAp a.1 a.2)
noncomputable def IAq {γ:Type} (F:RAm):Hd ctx γ:=hdl cv41.dec (fun a=>F a.1 a.2) cv33.enc
abbrev BAp:=(List SLive)→(List SLive)→Option Bool
inductive OAl where
 | c0 (a_0:(List SLive)) (b_1:(List SLive)) (i_5:Int)
noncomputable def JAq:OAl→LI
 | .c0 a_0 b_1 i_5=>(tdo Try.f31 464,[(0,[.one (.rsl 68 a_0)]),(1,[.one (.rsl 68 b_1)]),(5,[.one (.int .i64 i_5)])],[])
noncomputable def CAp (z0:RAm) (k:OAl→Option Bool) (a_0:(List SLive)) (b_1:(List SLive)):Option Bool:=
 bif ((a_0.length:Int) != (b_1.length:Int)) then
 some false
 else
 k (.c0 a_0 b_1 0)
noncomputable def SAm (z0:RAm) (k:OAl→Option Bool):OAl→Option Bool
 | .c0 a_0 b_1 i_5=>
 bif (decide (i_5<(a_0.length:Int))) then
  bif ((decide (0≤i_5)) && (decide (i_5<(a_0.length:Int)))) then
  bif ((decide (0≤i_5)) && (decide (i_5<(b_1.length:Int)))) then
  (z0 (a_0.getD i_5.toNat (⟨0,0⟩:SLive)) (b_1.getD i_5.toNat (⟨0,0⟩:SLive))).bind fun r0=>
  bif (!r0) then
  some false
  else
  k (.c0 a_0 b_1 (w64 (i_5+1)))
  else none
  else none
 else
  some true
noncomputable def CAk:Nat→OAl→Option Bool
 | 0,_=>none
 | m+1,s=>SAm UAj (CAk m) s
noncomputable def PAl:BAp:=CAp UAj (CAk gas)
theorem ZAs:Tells ctx PP 31 cv42 cv33 (fun a=>PAl a.1 a.2):=
 have b:∀ z0,CutIs ctx PP 31 Try.f31 [] [(55,IAq z0)] cv33 JAq (SAm z0):=fun z0 _ s=>by cases s <;> kernel_rfl
 have e:∀ z0,EntryIs ctx PP 31 [] [(55,IAq z0)] cv42 cv33 JAq (fun k a=>CAp z0 k a.1 a.2):=fun z0 _ a=>by kernel_rfl
 fn_ok (hc YAs hl_nil) Try.func31 (fun s s' h=>by cases s;cases s';cases h;rfl) (fun _=>rfl) (fun _ _=>rfl) (b UAj) (e UAj) gas
noncomputable def AAt {γ:Type} (F:BAp):Hd ctx γ:=hdl cv42.dec (fun a=>F a.1 a.2) cv33.enc
abbrev DAp:=SBox→SBox→Option Bool
noncomputable def EAp (z0:QAo) (z1:VAo) (z2:YAo) (z3:BAp) (a_0:SBox) (b_1:SBox):Option Bool:=
 bif (!((ByteArray.toList a_0.fKey) == (ByteArray.toList b_1.fKey))) then
 some false
 else
 bif (!(a_0.fUp == b_1.fUp)) then
  some false
 else
  (z0 a_0.fDisk b_1.fDisk).bind fun r0=>
  bif (!r0) then
  some false
  else
  (z1 a_0.fBook b_1.fBook).bind fun r1=>
  bif (!r1) then
   some false
  else
   (z2 a_0.fSessions b_1.fSessions).bind fun r2=>
   bif (!r2) then
   some false
   else
   (z3 a_0.fLives b_1.fLives).bind fun r3=>
   bif (!r3) then
    some false
   else
    bif (a_0.fOpened != b_1.fOpened) then
    some false
    else
    some true
noncomputable def QAl:DAp:=EAp IAl LAl NAl PAl
theorem BAt:Tells ctx PP 9 cv43 cv33 (fun a=>QAl a.1 a.2):=fn_ok0 (hc OAs (hc TAs (hc WAs (hc ZAs hl_nil)))) Try.func9 ((fun z0 z1 z2 z3 a=>by kernel_rfl:∀ z0 z1 z2 z3,EntryIs0 ctx PP 9 [] [(28,PAs z0),(29,UAs z1),(30,XAs z2),(31,AAt z3)] cv43 cv33 fun a=>EAp z0 z1 z2 z3 a.1 a.2) IAl LAl NAl PAl)
noncomputable def CAt {γ:Type} (F:DAp):Hd ctx γ:=hdl cv43.dec (fun a=>F a.1 a.2) cv33.enc
abbrev KAq:=SBox→Int→Option Bool
noncomputable def FAp (z0:HAn) (z1:ZAn) (z2:EAo) (z3:LAo) (z4:DAp) (aB_0:SBox) (aId_1:Int):Option Bool:=
 (z0 aB_0 1048576).bind fun r0=>
 bif (decide (r0<0)) then
 some true
 else
 (z1 aB_0).bind fun r1=>
 (z2 r1 aId_1).bind fun r2=>
 (z1 aB_0).bind fun r3=>
 (z3 r3 aId_1).bind fun r4=>
 bif (r4 != r2) then
  some false
 else
  (z1 aB_0).bind fun r5=>
  (z4 r3 r5).bind fun r6=>
  bif (!r6) then
  some false
  else
  some true
noncomputable def laws_FnExactLeafOf:KAq:=FAp JAk UAk ZAk FAl QAl
theorem ok_laws_FnExactLeafOf:Tells ctx PP 3 cv9 cv33 (fun a=>laws_FnExactLeafOf a.1 a.2):=fn_ok0 (hc DAr (hc VAr (hc BAs (hc JAs (hc BAt hl_nil))))) Try.func3 ((fun z0 z1 z2 z3 z4 a=>by kernel_rfl:∀ z0 z1 z2 z3 z4,EntryIs0 ctx PP 3 [] [(5,EAr z0),(7,WAr z1),(6,CAs z2),(8,KAs z3),(9,CAt z4)] cv9 cv33 fun a=>FAp z0 z1 z2 z3 z4 a.1 a.2) JAk UAk ZAk FAl QAl)
noncomputable def VAu {γ:Type} (F:KAq):Hd ctx γ:=hdl cv9.dec (fun a=>F a.1 a.2) cv33.enc
end Go.Proofs.Ythfpmhalgimbbaa.G

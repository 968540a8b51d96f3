/- Functions of the program, told by plain functions: part 1 of 2. -/
import Derived.Test.YthfpmhalgimbbaaGreatDoorCtx
namespace Go.Proofs.YthfpmhalgimbbaaGreatDoor.G
open Go Go.Ev
set_option linter.unusedVariables false
abbrev RAA:=SFile→Int→Option Int
noncomputable def DAJ (a_0:SFile) (left_1:Int):Option Int:=
 bif (decide ((w64 (left_1 - (a_0.fName.size:Int)))<0)) then
 some (-(1:Int))
 else
 bif (decide ((w64 ((w64 (left_1 - (a_0.fName.size:Int))) - (a_0.fText.size:Int)))<0)) then
  some (-(1:Int))
 else
  some (w64 ((w64 (left_1 - (a_0.fName.size:Int))) - (a_0.fText.size:Int)))
noncomputable def Ak:RAA:=DAJ
theorem GAf:Tells ctx PP 162 cv82 cv15 (fun a=>Ak a.1 a.2):=fn_ok0 hl_nil Tryz.func162 (fun a=>by kernel_rfl:EntryIs0 ctx PP 162 [] [] cv82 cv15 fun a=>DAJ a.1 a.2)
noncomputable def EAU {γ:Type} (F:RAA):Hd ctx γ:=hdl cv82.dec (fun a=>F a.1 a.2) cv15.enc
abbrev EAJ:=(List SFile)→Int→Option Int
inductive Zv where
 | c0 (a_0:(List SFile)) (left_1:Int) (i_5:Int)
noncomputable def FAU:Zv→LI
 | .c0 a_0 left_1 i_5=>(tdo Tryz.f114 976,[(0,[.one (.rsl 197 a_0)]),(1,[.one (.int .i64 left_1)]),(5,[.one (.int .i64 i_5)])],[])
noncomputable def FAJ (z0:RAA) (k:Zv→Option Int) (a_0:(List SFile)) (left_1:Int):Option Int:=
 bif (decide ((w64 (left_1 - (a_0.length:Int)))<0)) then
 some (-(1:Int))
 else
 k (.c0 a_0 (w64 (left_1 - (a_0.length:Int))) 0)
noncomputable def GAJ (z0:RAA) (k:Zv→Option Int):Zv→Option Int
 | .c0 a_0 left_1 i_5=>
 bif (decide (i_5<(a_0.length:Int))) then
  bif ((decide (0≤i_5)) && (decide (i_5<(a_0.length:Int)))) then
  (z0 (a_0.getD i_5.toNat (⟨⟨#[]⟩,⟨#[]⟩,0⟩:SFile)) left_1).bind fun r0=>
  bif (decide (r0<0)) then
  some (-(1:Int))
  else
  k (.c0 a_0 r0 (w64 (i_5+1)))
  else none
 else
  some left_1
noncomputable def SAA:Nat→Zv→Option Int
 | 0,_=>none
 | m+1,s=>GAJ Ak (SAA m) s
noncomputable def Aw:EAJ:=FAJ Ak (SAA gas)
theorem HAf:Tells ctx PP 114 cv83 cv15 (fun a=>Aw a.1 a.2):=
 have b:∀ z0,CutIs ctx PP 114 Tryz.f114 [] [(162,EAU z0)] cv15 FAU (GAJ z0):=fun z0 _ s=>by cases s <;> kernel_rfl
 have e:∀ z0,EntryIs ctx PP 114 [] [(162,EAU z0)] cv83 cv15 FAU (fun k a=>FAJ z0 k a.1 a.2):=fun z0 _ a=>by kernel_rfl
 fn_ok (hc GAf hl_nil) Tryz.func114 (fun s s' h=>by cases s;cases s';cases h;rfl) (fun _=>rfl) (fun _ _=>rfl) (b Ak) (e Ak) gas
noncomputable def IAf {γ:Type} (F:EAJ):Hd ctx γ:=hdl cv83.dec (fun a=>F a.1 a.2) cv15.enc
abbrev HAJ:=SDisk→Int→Option Int
noncomputable def IAJ (z0:EAJ) (a_0:SDisk) (left_1:Int):Option Int:=
 (z0 a_0.fFiles left_1).bind fun r0=>
 bif (decide (r0<0)) then
 some (-(1:Int))
 else
 some r0
noncomputable def Dw:HAJ:=IAJ Aw
theorem JAf:Tells ctx PP 45 cv84 cv15 (fun a=>Dw a.1 a.2):=fn_ok0 (hc HAf hl_nil) Tryz.func45 ((fun z0 a=>by kernel_rfl:∀ z0,EntryIs0 ctx PP 45 [] [(114,IAf z0)] cv84 cv15 fun a=>IAJ z0 a.1 a.2) Aw)
noncomputable def KAf {γ:Type} (F:HAJ):Hd ctx γ:=hdl cv84.dec (fun a=>F a.1 a.2) cv15.enc
abbrev TAA:=SThing→Int→Option Int
noncomputable def GAU (a_0:SThing) (left_1:Int):Option Int:=
 bif (decide ((w64 (left_1 - (a_0.fValue.size:Int)))<0)) then
 some (-(1:Int))
 else
 some (w64 (left_1 - (a_0.fValue.size:Int)))
noncomputable def Po:TAA:=GAU
theorem LAf:Tells ctx PP 163 cv85 cv15 (fun a=>Po a.1 a.2):=fn_ok0 hl_nil Tryz.func163 (fun a=>by kernel_rfl:EntryIs0 ctx PP 163 [] [] cv85 cv15 fun a=>GAU a.1 a.2)
noncomputable def HAU {γ:Type} (F:TAA):Hd ctx γ:=hdl cv85.dec (fun a=>F a.1 a.2) cv15.enc
abbrev JAJ:=(List SThing)→Int→Option Int
inductive Ew where
 | c0 (a_0:(List SThing)) (left_1:Int) (i_5:Int)
noncomputable def IAU:Ew→LI
 | .c0 a_0 left_1 i_5=>(tdo Tryz.f115 976,[(0,[.one (.rsl 171 a_0)]),(1,[.one (.int .i64 left_1)]),(5,[.one (.int .i64 i_5)])],[])
noncomputable def KAJ (z0:TAA) (k:Ew→Option Int) (a_0:(List SThing)) (left_1:Int):Option Int:=
 bif (decide ((w64 (left_1 - (a_0.length:Int)))<0)) then
 some (-(1:Int))
 else
 k (.c0 a_0 (w64 (left_1 - (a_0.length:Int))) 0)
noncomputable def LAJ (z0:TAA) (k:Ew→Option Int):Ew→Option Int
 | .c0 a_0 left_1 i_5=>
 bif (decide (i_5<(a_0.length:Int))) then
  bif ((decide (0≤i_5)) && (decide (i_5<(a_0.length:Int)))) then
  (z0 (a_0.getD i_5.toNat (⟨0,0,false,false,false,false,⟨#[]⟩,0⟩:SThing)) left_1).bind fun r0=>
  bif (decide (r0<0)) then
  some (-(1:Int))
  else
  k (.c0 a_0 r0 (w64 (i_5+1)))
  else none
 else
  some left_1
noncomputable def UAA:Nat→Ew→Option Int
 | 0,_=>none
 | m+1,s=>LAJ Po (UAA m) s
noncomputable def Gw:JAJ:=KAJ Po (UAA gas)
theorem MAf:Tells ctx PP 115 cv86 cv15 (fun a=>Gw a.1 a.2):=
 have b:∀ z0,CutIs ctx PP 115 Tryz.f115 [] [(163,HAU z0)] cv15 IAU (LAJ z0):=fun z0 _ s=>by cases s <;> kernel_rfl
 have e:∀ z0,EntryIs ctx PP 115 [] [(163,HAU z0)] cv86 cv15 IAU (fun k a=>KAJ z0 k a.1 a.2):=fun z0 _ a=>by kernel_rfl
 fn_ok (hc LAf hl_nil) Tryz.func115 (fun s s' h=>by cases s;cases s';cases h;rfl) (fun _=>rfl) (fun _ _=>rfl) (b Po) (e Po) gas
noncomputable def NAf {γ:Type} (F:JAJ):Hd ctx γ:=hdl cv86.dec (fun a=>F a.1 a.2) cv15.enc
abbrev MAJ:=SBook→Int→Option Int
noncomputable def NAJ (z0:JAJ) (a_0:SBook) (left_1:Int):Option Int:=
 bif (decide ((w64 (left_1 - (a_0.fWord.size:Int)))<0)) then
 some (-(1:Int))
 else
 (z0 a_0.fThings (w64 (left_1 - (a_0.fWord.size:Int)))).bind fun r0=>
 bif (decide (r0<0)) then
  some (-(1:Int))
 else
  bif (decide ((w64 (r0 - (a_0.fChain.size:Int)))<0)) then
  some (-(1:Int))
  else
  some (w64 (r0 - (a_0.fChain.size:Int)))
noncomputable def Hw:MAJ:=NAJ Gw
theorem OAf:Tells ctx PP 46 cv87 cv15 (fun a=>Hw a.1 a.2):=fn_ok0 (hc MAf hl_nil) Tryz.func46 ((fun z0 a=>by kernel_rfl:∀ z0,EntryIs0 ctx PP 46 [] [(115,NAf z0)] cv87 cv15 fun a=>NAJ z0 a.1 a.2) Gw)
noncomputable def PAf {γ:Type} (F:MAJ):Hd ctx γ:=hdl cv87.dec (fun a=>F a.1 a.2) cv15.enc
abbrev OAJ:=(List SSession)→Int→Option Int
noncomputable def JAU (a_0:(List SSession)) (left_1:Int):Option Int:=
 bif (decide ((w64 (left_1 - (a_0.length:Int)))<0)) then
 some (-(1:Int))
 else
 some (w64 (left_1 - (a_0.length:Int)))
noncomputable def VAA:OAJ:=JAU
theorem QAf:Tells ctx PP 47 cv88 cv15 (fun a=>VAA a.1 a.2):=fn_ok0 hl_nil Tryz.func47 (fun a=>by kernel_rfl:EntryIs0 ctx PP 47 [] [] cv88 cv15 fun a=>JAU a.1 a.2)
noncomputable def RAf {γ:Type} (F:OAJ):Hd ctx γ:=hdl cv88.dec (fun a=>F a.1 a.2) cv15.enc
abbrev PAJ:=(List SLive)→Int→Option Int
noncomputable def KAU (a_0:(List SLive)) (left_1:Int):Option Int:=
 bif (decide ((w64 (left_1 - (a_0.length:Int)))<0)) then
 some (-(1:Int))
 else
 some (w64 (left_1 - (a_0.length:Int)))
noncomputable def WAA:PAJ:=KAU
theorem SAf:Tells ctx PP 48 cv89 cv15 (fun a=>WAA a.1 a.2):=fn_ok0 hl_nil Tryz.func48 (fun a=>by kernel_rfl:EntryIs0 ctx PP 48 [] [] cv89 cv15 fun a=>KAU a.1 a.2)
noncomputable def TAf {γ:Type} (F:PAJ):Hd ctx γ:=hdl cv89.dec (fun a=>F a.1 a.2) cv15.enc
abbrev AAJ:=SBox→Int→Option Int
noncomputable def XAA (z0:HAJ) (z1:MAJ) (z2:OAJ) (z3:PAJ) (a_0:SBox) (left_1:Int):Option Int:=
 bif (decide ((w64 (left_1 - (a_0.fKey.size:Int)))<0)) then
 some (-(1:Int))
 else
 (z0 a_0.fDisk (w64 (left_1 - (a_0.fKey.size:Int)))).bind fun r0=>
 bif (decide (r0<0)) then
  some (-(1:Int))
 else
  (z1 a_0.fBook r0).bind fun r1=>
  bif (decide (r1<0)) then
  some (-(1:Int))
  else
  (z2 a_0.fSessions r1).bind fun r2=>
  bif (decide (r2<0)) then
   some (-(1:Int))
  else
   (z3 a_0.fLives r2).bind fun r3=>
   bif (decide (r3<0)) then
   some (-(1:Int))
   else
   some r3
noncomputable def Zj:AAJ:=XAA Dw Hw VAA WAA
theorem AAf:Tells ctx PP 13 cv90 cv15 (fun a=>Zj a.1 a.2):=fn_ok0 (hc JAf (hc OAf (hc QAf (hc SAf hl_nil)))) Tryz.func13 ((fun z0 z1 z2 z3 a=>by kernel_rfl:∀ z0 z1 z2 z3,EntryIs0 ctx PP 13 [] [(45,KAf z0),(46,PAf z1),(47,RAf z2),(48,TAf z3)] cv90 cv15 fun a=>XAA z0 z1 z2 z3 a.1 a.2) Dw Hw VAA WAA)
noncomputable def DAf {γ:Type} (F:AAJ):Hd ctx γ:=hdl cv90.dec (fun a=>F a.1 a.2) cv15.enc
abbrev YAA:=SFile→Option SFile
noncomputable def QAJ (a_0:SFile):Option SFile:=
 some a_0
noncomputable def Dk:YAA:=QAJ
theorem UAf:Tells ctx PP 167 cv91 cv91 (fun a=>Dk a):=fn_ok0 hl_nil Tryz.func167 (fun a=>by kernel_rfl:EntryIs0 ctx PP 167 [] [] cv91 cv91 fun a=>QAJ a)
noncomputable def LAU {γ:Type} (F:YAA):Hd ctx γ:=hdl cv91.dec (fun a=>F a) cv91.enc
abbrev RAJ:=(List SFile)→Option (List SFile)
inductive Iw where
 | c0 (a_0:(List SFile)) (i_4:Int) (out_3:(List SFile))
noncomputable def MAU:Iw→LI
 | .c0 a_0 i_4 out_3=>(tdo Tryz.f121 464,[(0,[.one (.rsl 197 a_0)]),(3,[.one (.own 240)]),(4,[.one (.int .i64 i_4)])],[(240,.sl 155 out_3)])
noncomputable def SAJ (z0:YAA) (k:Iw→Option (List SFile)) (a_0:(List SFile)):Option (List SFile):=
 bif ((((decide (0≤(a_0.length:Int))) && (decide ((a_0.length:Int)≤(a_0.length:Int)))) && (decide ((a_0.length:Int)≤9223372036854775807))) && (decide (((a_0.length:Int).toNat*40)≤140737488355328))) then
 k (.c0 a_0 0 (List.replicate (a_0.length:Int).toNat (⟨⟨#[]⟩,⟨#[]⟩,0⟩:SFile)))
 else none
noncomputable def ZAA (z0:YAA) (k:Iw→Option (List SFile)):Iw→Option (List SFile)
 | .c0 a_0 i_4 out_3=>
 bif (decide (i_4<(a_0.length:Int))) then
  bif ((decide (0≤i_4)) && (decide (i_4<(a_0.length:Int)))) then
  (z0 (a_0.getD i_4.toNat (⟨⟨#[]⟩,⟨#[]⟩,0⟩:SFile))).bind fun r0=>
  bif ((decide (0≤i_4)) && (decide (i_4<(out_3.length:Int)))) then
  k (.c0 a_0 (w64 (i_4+1)) (out_3.set i_4.toNat r0))
  else none
  else none
 else
  some out_3
noncomputable def Ik:Nat→Iw→Option (List SFile)
 | 0,_=>none
 | m+1,s=>ZAA Dk (Ik m) s
noncomputable def Jw:RAJ:=SAJ Dk (Ik gas)
theorem VAf:Tells ctx PP 121 cv92 cv93 (fun a=>Jw a):=
 have b:∀ z0,CutIs ctx PP 121 Tryz.f121 [] [(167,LAU z0)] cv93 MAU (ZAA z0):=fun z0 _ s=>by cases s <;> kernel_rfl
 have e:∀ z0,EntryIs ctx PP 121 [] [(167,LAU z0)] cv92 cv93 MAU (fun k a=>SAJ z0 k a):=fun z0 _ a=>by kernel_rfl
 fn_ok (hc UAf hl_nil) Tryz.func121 (fun s s' h=>by cases s;cases s';cases h;rfl) (fun _=>rfl) (fun _ _=>rfl) (b Dk) (e Dk) gas
noncomputable def WAf {γ:Type} (F:RAJ):Hd ctx γ:=hdl cv92.dec (fun a=>F a) cv93.enc
abbrev TAJ:=SDisk→Option SDisk
noncomputable def UAJ (z0:RAJ) (a_0:SDisk):Option SDisk:=
 (z0 a_0.fFiles).bind fun r0=>
 some ⟨r0⟩
noncomputable def Kw:TAJ:=UAJ Jw
theorem XAf:Tells ctx PP 55 cv94 cv38 (fun a=>Kw a):=fn_ok0 (hc VAf hl_nil) Tryz.func55 ((fun z0 a=>by kernel_rfl:∀ z0,EntryIs0 ctx PP 55 [] [(121,WAf z0)] cv94 cv38 fun a=>UAJ z0 a) Jw)
noncomputable def YAf {γ:Type} (F:TAJ):Hd ctx γ:=hdl cv94.dec (fun a=>F a) cv38.enc
abbrev AAB:=SThing→Option SThing
noncomputable def VAJ (a_0:SThing):Option SThing:=
 some a_0
noncomputable def Jk:AAB:=VAJ
theorem ZAf:Tells ctx PP 168 cv16 cv16 (fun a=>Jk a):=fn_ok0 hl_nil Tryz.func168 (fun a=>by kernel_rfl:EntryIs0 ctx PP 168 [] [] cv16 cv16 fun a=>VAJ a)
noncomputable def NAU {γ:Type} (F:AAB):Hd ctx γ:=hdl cv16.dec (fun a=>F a) cv16.enc
abbrev WAJ:=(List SThing)→Option (List SThing)
inductive Nw where
 | c0 (a_0:(List SThing)) (i_4:Int) (out_3:(List SThing))
noncomputable def OAU:Nw→LI
 | .c0 a_0 i_4 out_3=>(tdo Tryz.f122 464,[(0,[.one (.rsl 171 a_0)]),(3,[.one (.own 240)]),(4,[.one (.int .i64 i_4)])],[(240,.sl 69 out_3)])
noncomputable def XAJ (z0:AAB) (k:Nw→Option (List SThing)) (a_0:(List SThing)):Option (List SThing):=
 bif ((((decide (0≤(a_0.length:Int))) && (decide ((a_0.length:Int)≤(a_0.length:Int)))) && (decide ((a_0.length:Int)≤9223372036854775807))) && (decide (((a_0.length:Int).toNat*48)≤140737488355328))) then
 k (.c0 a_0 0 (List.replicate (a_0.length:Int).toNat (⟨0,0,false,false,false,false,⟨#[]⟩,0⟩:SThing)))
 else none
noncomputable def BAB (z0:AAB) (k:Nw→Option (List SThing)):Nw→Option (List SThing)
 | .c0 a_0 i_4 out_3=>
 bif (decide (i_4<(a_0.length:Int))) then
  bif ((decide (0≤i_4)) && (decide (i_4<(a_0.length:Int)))) then
  (z0 (a_0.getD i_4.toNat (⟨0,0,false,false,false,false,⟨#[]⟩,0⟩:SThing))).bind fun r0=>
  bif ((decide (0≤i_4)) && (decide (i_4<(out_3.length:Int)))) then
  k (.c0 a_0 (w64 (i_4+1)) (out_3.set i_4.toNat r0))
  else none
  else none
 else
  some out_3
noncomputable def Nk:Nat→Nw→Option (List SThing)
 | 0,_=>none
 | m+1,s=>BAB Jk (Nk m) s
noncomputable def Qw:WAJ:=XAJ Jk (Nk gas)
theorem AAg:Tells ctx PP 122 cv95 cv25 (fun a=>Qw a):=
 have b:∀ z0,CutIs ctx PP 122 Tryz.f122 [] [(168,NAU z0)] cv25 OAU (BAB z0):=fun z0 _ s=>by cases s <;> kernel_rfl
 have e:∀ z0,EntryIs ctx PP 122 [] [(168,NAU z0)] cv95 cv25 OAU (fun k a=>XAJ z0 k a):=fun z0 _ a=>by kernel_rfl
 fn_ok (hc ZAf hl_nil) Tryz.func122 (fun s s' h=>by cases s;cases s';cases h;rfl) (fun _=>rfl) (fun _ _=>rfl) (b Jk) (e Jk) gas
noncomputable def BAg {γ:Type} (F:WAJ):Hd ctx γ:=hdl cv95.dec (fun a=>F a) cv25.enc
abbrev YAJ:=SBook→Option SBook
noncomputable def ZAJ (z0:WAJ) (a_0:SBook):Option SBook:=
 (z0 a_0.fThings).bind fun r0=>
 some ⟨a_0.fWord,a_0.fTries,r0,a_0.fLast,a_0.fChain,a_0.fCount⟩
noncomputable def Rw:YAJ:=ZAJ Qw
theorem CAg:Tells ctx PP 56 cv96 cv14 (fun a=>Rw a):=fn_ok0 (hc AAg hl_nil) Tryz.func56 ((fun z0 a=>by kernel_rfl:∀ z0,EntryIs0 ctx PP 56 [] [(122,BAg z0)] cv96 cv14 fun a=>ZAJ z0 a) Qw)
noncomputable def DAg {γ:Type} (F:YAJ):Hd ctx γ:=hdl cv96.dec (fun a=>F a) cv14.enc
abbrev CAB:=SSession→Option SSession
noncomputable def AAK (a_0:SSession):Option SSession:=
 some a_0
noncomputable def Qk:CAB:=AAK
theorem EAg:Tells ctx PP 123 cv97 cv97 (fun a=>Qk a):=fn_ok0 hl_nil Tryz.func123 (fun a=>by kernel_rfl:EntryIs0 ctx PP 123 [] [] cv97 cv97 fun a=>AAK a)
noncomputable def PAU {γ:Type} (F:CAB):Hd ctx γ:=hdl cv97.dec (fun a=>F a) cv97.enc
abbrev BAK:=(List SSession)→Option (List SSession)
inductive Uw where
 | c0 (a_0:(List SSession)) (i_4:Int) (out_3:(List SSession))
noncomputable def QAU:Uw→LI
 | .c0 a_0 i_4 out_3=>(tdo Tryz.f57 464,[(0,[.one (.rsl 167 a_0)]),(3,[.one (.own 240)]),(4,[.one (.int .i64 i_4)])],[(240,.sl 92 out_3)])
noncomputable def CAK (z0:CAB) (k:Uw→Option (List SSession)) (a_0:(List SSession)):Option (List SSession):=
 bif ((((decide (0≤(a_0.length:Int))) && (decide ((a_0.length:Int)≤(a_0.length:Int)))) && (decide ((a_0.length:Int)≤9223372036854775807))) && (decide (((a_0.length:Int).toNat*16)≤140737488355328))) then
 k (.c0 a_0 0 (List.replicate (a_0.length:Int).toNat (⟨0,false⟩:SSession)))
 else none
noncomputable def DAB (z0:CAB) (k:Uw→Option (List SSession)):Uw→Option (List SSession)
 | .c0 a_0 i_4 out_3=>
 bif (decide (i_4<(a_0.length:Int))) then
  bif ((decide (0≤i_4)) && (decide (i_4<(a_0.length:Int)))) then
  (z0 (a_0.getD i_4.toNat (⟨0,false⟩:SSession))).bind fun r0=>
  bif ((decide (0≤i_4)) && (decide (i_4<(out_3.length:Int)))) then
  k (.c0 a_0 (w64 (i_4+1)) (out_3.set i_4.toNat r0))
  else none
  else none
 else
  some out_3
noncomputable def Rk:Nat→Uw→Option (List SSession)
 | 0,_=>none
 | m+1,s=>DAB Qk (Rk m) s
noncomputable def Vw:BAK:=CAK Qk (Rk gas)
theorem FAg:Tells ctx PP 57 cv98 cv99 (fun a=>Vw a):=
 have b:∀ z0,CutIs ctx PP 57 Tryz.f57 [] [(123,PAU z0)] cv99 QAU (DAB z0):=fun z0 _ s=>by cases s <;> kernel_rfl
 have e:∀ z0,EntryIs ctx PP 57 [] [(123,PAU z0)] cv98 cv99 QAU (fun k a=>CAK z0 k a):=fun z0 _ a=>by kernel_rfl
 fn_ok (hc EAg hl_nil) Tryz.func57 (fun s s' h=>by cases s;cases s';cases h;rfl) (fun _=>rfl) (fun _ _=>rfl) (b Qk) (e Qk) gas
noncomputable def GAg {γ:Type} (F:BAK):Hd ctx γ:=hdl cv98.dec (fun a=>F a) cv99.enc
abbrev EAB:=SLive→Option SLive
noncomputable def DAK (a_0:SLive):Option SLive:=
 some a_0
noncomputable def Uk:EAB:=DAK
theorem HAg:Tells ctx PP 124 cv100 cv100 (fun a=>Uk a):=fn_ok0 hl_nil Tryz.func124 (fun a=>by kernel_rfl:EntryIs0 ctx PP 124 [] [] cv100 cv100 fun a=>DAK a)
noncomputable def RAU {γ:Type} (F:EAB):Hd ctx γ:=hdl cv100.dec (fun a=>F a) cv100.enc
abbrev EAK:=(List SLive)→Option (List SLive)
inductive Xw where
 | c0 (a_0:(List SLive)) (i_4:Int) (out_3:(List SLive))
noncomputable def SAU:Xw→LI
 | .c0 a_0 i_4 out_3=>(tdo Tryz.f58 464,[(0,[.one (.rsl 169 a_0)]),(3,[.one (.own 240)]),(4,[.one (.int .i64 i_4)])],[(240,.sl 149 out_3)])
noncomputable def FAK (z0:EAB) (k:Xw→Option (List SLive)) (a_0:(List SLive)):Option (List SLive):=
 bif ((((decide (0≤(a_0.length:Int))) && (decide ((a_0.length:Int)≤(a_0.length:Int)))) && (decide ((a_0.length:Int)≤9223372036854775807))) && (decide (((a_0.length:Int).toNat*16)≤140737488355328))) then
 k (.c0 a_0 0 (List.replicate (a_0.length:Int).toNat (⟨0,0⟩:SLive)))
 else none
noncomputable def FAB (z0:EAB) (k:Xw→Option (List SLive)):Xw→Option (List SLive)
 | .c0 a_0 i_4 out_3=>
 bif (decide (i_4<(a_0.length:Int))) then
  bif ((decide (0≤i_4)) && (decide (i_4<(a_0.length:Int)))) then
  (z0 (a_0.getD i_4.toNat (⟨0,0⟩:SLive))).bind fun r0=>
  bif ((decide (0≤i_4)) && (decide (i_4<(out_3.length:Int)))) then
  k (.c0 a_0 (w64 (i_4+1)) (out_3.set i_4.toNat r0))
  else none
  else none
 else
  some out_3
noncomputable def Vk:Nat→Xw→Option (List SLive)
 | 0,_=>none
 | m+1,s=>FAB Uk (Vk m) s
noncomputable def Yw:EAK:=FAK Uk (Vk gas)
theorem IAg:Tells ctx PP 58 cv101 cv102 (fun a=>Yw a):=
 have b:∀ z0,CutIs ctx PP 58 Tryz.f58 [] [(124,RAU z0)] cv102 SAU (FAB z0):=fun z0 _ s=>by cases s <;> kernel_rfl
 have e:∀ z0,EntryIs ctx PP 58 [] [(124,RAU z0)] cv101 cv102 SAU (fun k a=>FAK z0 k a):=fun z0 _ a=>by kernel_rfl
 fn_ok (hc HAg hl_nil) Tryz.func58 (fun s s' h=>by cases s;cases s';cases h;rfl) (fun _=>rfl) (fun _ _=>rfl) (b Uk) (e Uk) gas
noncomputable def JAg {γ:Type} (F:EAK):Hd ctx γ:=hdl cv101.dec (fun a=>F a) cv102.enc
abbrev BAJ:=SBox→Option SBox
noncomputable def GAK (z0:TAJ) (z1:YAJ) (z2:BAK) (z3:EAK) (a_0:SBox):Option SBox:=
 (z0 a_0.fDisk).bind fun r0=>
 (z1 a_0.fBook).bind fun r1=>
 (z2 a_0.fSessions).bind fun r2=>
 (z3 a_0.fLives).bind fun r3=>
 some ⟨a_0.fKey,a_0.fUp,r0,r1,r2,r3,a_0.fOpened⟩
noncomputable def Xv:BAJ:=GAK Kw Rw Vw Yw
theorem BAf:Tells ctx PP 15 cv103 cv104 (fun a=>Xv a):=fn_ok0 (hc XAf (hc CAg (hc FAg (hc IAg hl_nil)))) Tryz.func15 ((fun z0 z1 z2 z3 a=>by kernel_rfl:∀ z0 z1 z2 z3,EntryIs0 ctx PP 15 [] [(55,YAf z0),(56,DAg z1),(57,GAg z2),(58,JAg z3)] cv103 cv104 fun a=>GAK z0 z1 z2 z3 a) Kw Rw Vw Yw)
noncomputable def EAf {γ:Type} (F:BAJ):Hd ctx γ:=hdl cv103.dec (fun a=>F a) cv104.enc
abbrev LZ:=Int→Int→Int→Option Bool
noncomputable def TAU (x_0:Int) (least_1:Int) (most_2:Int):Option Bool:=
 bif (decide (x_0≥least_1)) then
 some (decide (x_0≤most_2))
 else
 some false
noncomputable def CY:LZ:=TAU
theorem Td:Tells ctx PP 50 cv5 cv6 (fun a=>CY a.1 a.2.1 a.2.2):=fn_ok0 hl_nil Tryz.func50 (fun a=>by kernel_rfl:EntryIs0 ctx PP 50 [] [] cv5 cv6 fun a=>TAU a.1 a.2.1 a.2.2)
noncomputable def VZ {γ:Type} (F:LZ):Hd ctx γ:=hdl cv5.dec (fun a=>F a.1 a.2.1 a.2.2) cv6.enc
abbrev Zw:=ByteArray→Option Bool
noncomputable def HAK (z0:LZ) (s_0:ByteArray):Option Bool:=
 (z0 (s_0.size:Int) 1 8).bind fun r0=>
 some r0
noncomputable def Zg:Zw:=HAK CY
theorem UAU:Tells ctx PP 116 cv3 cv6 (fun a=>Zg a):=fn_ok0 (hc Td hl_nil) Tryz.func116 ((fun z0 a=>by kernel_rfl:∀ z0,EntryIs0 ctx PP 116 [] [(50,VZ z0)] cv3 cv6 fun a=>HAK z0 a) CY)
noncomputable def IAK {γ:Type} (F:Zw):Hd ctx γ:=hdl cv3.dec (fun a=>F a) cv6.enc
abbrev Qo:=SDisk→Option Bool
inductive Dx where
 | c0 (i_3:Int) (d_1:SDisk)
noncomputable def VAU:Dx→LI
 | .c0 i_3 d_1=>(tdo Tryz.f49 464,[(1,[.one (.ptr 64 0)]),(3,[.one (.int .i64 i_3)])],[(64,.var [.rsl 155 d_1.fFiles])])
noncomputable def JAK (z0:Zw) (z1:LZ) (k:Dx→Option Bool) (d_0:SDisk):Option Bool:=
 bif (decide ((d_0.fFiles.length:Int) > 30)) then
 some false
 else
 k (.c0 0 d_0)
noncomputable def GAB (z0:Zw) (z1:LZ) (k:Dx→Option Bool):Dx→Option Bool
 | .c0 i_3 d_1=>
 bif (decide (i_3<(d_1.fFiles.length:Int))) then
  bif ((decide (0≤i_3)) && (decide (i_3<(d_1.fFiles.length:Int)))) then
  (z0 (d_1.fFiles.getD i_3.toNat (⟨⟨#[]⟩,⟨#[]⟩,0⟩:SFile)).fName).bind fun r0=>
  bif (!r0) then
  some false
  else
  bif (decide (((d_1.fFiles.getD i_3.toNat (⟨⟨#[]⟩,⟨#[]⟩,0⟩:SFile)).fText.size:Int) > 20000)) then
   some false
  else
   (z1 (d_1.fFiles.getD i_3.toNat (⟨⟨#[]⟩,⟨#[]⟩,0⟩:SFile)).fKept 0 ((d_1.fFiles.getD i_3.toNat (⟨⟨#[]⟩,⟨#[]⟩,0⟩:SFile)).fText.size:Int)).bind fun r1=>
   bif (!r1) then
   some false
   else
   bif (decide (i_3 > 0)) then
    bif ((decide (0≤(w64 (i_3 - 1)))) && (decide ((w64 (i_3 - 1))<(d_1.fFiles.length:Int)))) then
    bif (!(Op.bytesLess (ByteArray.toList (d_1.fFiles.getD (w64 (i_3 - 1)).toNat (⟨⟨#[]⟩,⟨#[]⟩,0⟩:SFile)).fName) (ByteArray.toList (d_1.fFiles.getD i_3.toNat (⟨⟨#[]⟩,⟨#[]⟩,0⟩:SFile)).fName))) then
    some false
    else
    k (.c0 (w64 (i_3+1)) d_1)
    else none
   else
    k (.c0 (w64 (i_3+1)) d_1)
  else none
 else
  some true
noncomputable def Gx:Nat→Dx→Option Bool
 | 0,_=>none
 | m+1,s=>GAB Zg CY (Gx m) s
noncomputable def Ud:Qo:=JAK Zg CY (Gx gas)
theorem KAK:Tells ctx PP 49 cv35 cv6 (fun a=>Ud a):=
 have b:∀ z0 z1,CutIs ctx PP 49 Tryz.f49 [] [(116,IAK z0),(50,VZ z1)] cv6 VAU (GAB z0 z1):=fun z0 z1 _ s=>by cases s <;> kernel_rfl
 have e:∀ z0 z1,EntryIs ctx PP 49 [] [(116,IAK z0),(50,VZ z1)] cv35 cv6 VAU (fun k a=>JAK z0 z1 k a):=fun z0 z1 _ a=>by kernel_rfl
 fn_ok (hc UAU (hc Td hl_nil)) Tryz.func49 (fun s s' h=>by cases s;cases s';(repeat cases ‹SDisk›);cases h;rfl) (fun _=>rfl) (fun _ _=>rfl) (b Zg CY) (e Zg CY) gas
noncomputable def IAB {γ:Type} (F:Qo):Hd ctx γ:=hdl cv35.dec (fun a=>F a) cv6.enc
abbrev LAK:=Option (List Int)
noncomputable def WAU  : Option (List Int):=
 some [1779033703,3144134277,1013904242,2773480762,1359893119,2600822924,528734635,1541459225]
noncomputable def JAB:LAK:=WAU
theorem KAg:Tells ctx PP 146 cv0 cv1 (fun _=>JAB):=fn_ok0 hl_nil Tryz.func146 (fun _=>by kernel_rfl:EntryIs0 ctx PP 146 [] [] cv0 cv1 fun _=>WAU)
noncomputable def LAg {γ:Type} (F:LAK):Hd ctx γ:=hdl cv0.dec (fun _=>F) cv1.enc
abbrev Xk:=(List Int)→Option ByteArray
inductive Ox where
 | c0 (words_0:(List Int)) (i_4:Int) (out_3:(List Int))
noncomputable def XAU:Ox→LI
 | .c0 words_0 i_4 out_3=>(tdo Tryz.f145 464,[(0,[.one (.rsl 138 words_0)]),(3,[.one (.own 240)]),(4,[.one (.int .i64 i_4)])],[(240,.sl 5 out_3)])
noncomputable def YAU (k:Ox→Option ByteArray) (words_0:(List Int)):Option ByteArray:=
 k (.c0 words_0 0 [])
noncomputable def KAB (k:Ox→Option ByteArray):Ox→Option ByteArray
 | .c0 words_0 i_4 out_3=>
 bif (decide (i_4<(words_0.length:Int))) then
  bif ((decide (0≤i_4)) && (decide (i_4<(words_0.length:Int)))) then
  bif (decide (((out_3.length+4)*1)≤140737488355328)) then
  k (.c0 words_0 (w64 (i_4+1)) (out_3++[(w8 (w32 ((words_0.getD i_4.toNat 0).tdiv 16777216))),(w8 ((w32 ((words_0.getD i_4.toNat 0).tdiv 65536)).tmod 256)),(w8 ((w32 ((words_0.getD i_4.toNat 0).tdiv 256)).tmod 256)),(w8 ((words_0.getD i_4.toNat 0).tmod 256))]))
  else none
  else none
 else
  some (ofBytes out_3)
noncomputable def Px:Nat→Ox→Option ByteArray
 | 0,_=>none
 | m+1,s=>KAB (Px m) s
noncomputable def Tc:Xk:=YAU (Px gas)
theorem MAK:Tells ctx PP 145 cv2 cv3 (fun a=>Tc a):=
 have b:CutIs ctx PP 145 Tryz.f145 [] [] cv3 XAU (KAB):=fun _ s=>by cases s <;> kernel_rfl
 have e:EntryIs ctx PP 145 [] [] cv2 cv3 XAU (fun k a=>YAU k a):=fun _ a=>by kernel_rfl
 fn_ok hl_nil Tryz.func145 (fun s s' h=>by cases s;cases s';cases h;rfl) (fun _=>rfl) (fun _ _=>rfl) b e gas
noncomputable def Qx {γ:Type} (F:Xk):Hd ctx γ:=hdl cv2.dec (fun a=>F a) cv3.enc
abbrev NAK:=Option SHasher
noncomputable def OAK (z0:LAK) (z1:Xk)  : Option SHasher:=
 z0.bind fun r0=>
 (z1 r0).bind fun r1=>
 some ⟨r1,⟨#[]⟩,0⟩
noncomputable def Rx:NAK:=OAK JAB Tc
theorem MAg:Tells ctx PP 91 cv0 cv4 (fun _=>Rx):=fn_ok0 (hc KAg (hc MAK hl_nil)) Tryz.func91 ((fun z0 z1 _=>by kernel_rfl:∀ z0 z1,EntryIs0 ctx PP 91 [] [(146,LAg z0),(145,Qx z1)] cv0 cv4 fun _=>OAK z0 z1) JAB Tc)
noncomputable def NAg {γ:Type} (F:NAK):Hd ctx γ:=hdl cv0.dec (fun _=>F) cv4.enc
abbrev Ro:=SHasher→Option Bool
noncomputable def PAK (z0:LZ) (h_0:SHasher):Option Bool:=
 bif ((h_0.fState.size:Int) == 32) then
 bif (decide ((h_0.fRest.size:Int)<64)) then
  (z0 h_0.fCount 0 1000000000).bind fun r0=>
  bif r0 then
  some ((h_0.fCount.tmod 64) == (h_0.fRest.size:Int))
  else
  some false
 else
  some false
 else
 some false
noncomputable def Bc:Ro:=PAK CY
theorem ZAU:Tells ctx PP 141 cv4 cv6 (fun a=>Bc a):=fn_ok0 (hc Td hl_nil) Tryz.func141 ((fun z0 a=>by kernel_rfl:∀ z0,EntryIs0 ctx PP 141 [] [(50,VZ z0)] cv4 cv6 fun a=>PAK z0 a) CY)
noncomputable def LAB {γ:Type} (F:Ro):Hd ctx γ:=hdl cv4.dec (fun a=>F a) cv6.enc
abbrev MAB:=ByteArray→Int→Option Int
noncomputable def QAK (s_0:ByteArray) (at_1:Int):Option Int:=
 bif ((decide (0≤at_1)) && (decide (at_1<(s_0.size:Int)))) then
 bif ((decide (0≤(w64 (at_1+1)))) && (decide ((w64 (at_1+1))<(s_0.size:Int)))) then
 bif ((decide (0≤(w64 (at_1+2)))) && (decide ((w64 (at_1+2))<(s_0.size:Int)))) then
 bif ((decide (0≤(w64 (at_1+3)))) && (decide ((w64 (at_1+3))<(s_0.size:Int)))) then
 some (w32 ((w32 ((w32 ((w32 ((w32 (bt s_0 at_1))*16777216))+(w32 ((w32 (bt s_0 (w64 (at_1+1))))*65536))))+(w32 ((w32 (bt s_0 (w64 (at_1+2))))*256))))+(w32 (bt s_0 (w64 (at_1+3))))))
 else none
 else none
 else none
 else none
noncomputable def Yk:MAB:=QAK
theorem OAg:Tells ctx PP 176 cv7 cv8 (fun a=>Yk a.1 a.2):=fn_ok0 hl_nil Tryz.func176 (fun a=>by kernel_rfl:EntryIs0 ctx PP 176 [] [] cv7 cv8 fun a=>QAK a.1 a.2)
noncomputable def AAV {γ:Type} (F:MAB):Hd ctx γ:=hdl cv7.dec (fun a=>F a.1 a.2) cv8.enc
abbrev Ji:=ByteArray→Option (List Int)
inductive Ux where
 | c0 (s_0:ByteArray) (i_4:Int) (out_3:(List Int))
noncomputable def BAV:Ux→LI
 | .c0 s_0 i_4 out_3=>(tdo Tryz.f142 464,[(0,[.one (.str s_0)]),(3,[.one (.own 240)]),(4,[.one (.int .i64 i_4)])],[(240,.sl 138 out_3)])
noncomputable def CAV (z0:MAB) (k:Ux→Option (List Int)) (s_0:ByteArray):Option (List Int):=
 k (.c0 s_0 0 [])
noncomputable def NAB (z0:MAB) (k:Ux→Option (List Int)):Ux→Option (List Int)
 | .c0 s_0 i_4 out_3=>
 bif (decide ((w64 (i_4+4))≤(s_0.size:Int))) then
  (z0 s_0 i_4).bind fun r0=>
  bif (decide (((out_3.length+1)*4)≤140737488355328)) then
  k (.c0 s_0 (w64 (i_4+4)) (out_3++[r0]))
  else none
 else
  some out_3
noncomputable def Vx:Nat→Ux→Option (List Int)
 | 0,_=>none
 | m+1,s=>NAB Yk (Vx m) s
noncomputable def Va:Ji:=CAV Yk (Vx gas)
theorem RAK:Tells ctx PP 142 cv3 cv1 (fun a=>Va a):=
 have b:∀ z0,CutIs ctx PP 142 Tryz.f142 [] [(176,AAV z0)] cv1 BAV (NAB z0):=fun z0 _ s=>by cases s <;> kernel_rfl
 have e:∀ z0,EntryIs ctx PP 142 [] [(176,AAV z0)] cv3 cv1 BAV (fun k a=>CAV z0 k a):=fun z0 _ a=>by kernel_rfl
 fn_ok (hc OAg hl_nil) Tryz.func142 (fun s s' h=>by cases s;cases s';cases h;rfl) (fun _=>rfl) (fun _ _=>rfl) (b Yk) (e Yk) gas
noncomputable def Uo {γ:Type} (F:Ji):Hd ctx γ:=hdl cv3.dec (fun a=>F a) cv1.enc
abbrev Vo:=Option (List Int)
noncomputable def DAV  : Option (List Int):=
 some [1116352408,1899447441,3049323471,3921009573,961987163,1508970993,2453635748,2870763221,3624381080,310598401,607225278,1426881987,1925078388,2162078206,2614888103,3248222580,3835390401,4022224774,264347078,604807628,770255983,1249150122,1555081692,1996064986,2554220882,2821834349,2952996808,3210313671,3336571891,3584528711,113926993,338241895,666307205,773529912,1294757372,1396182291,1695183700,1986661051,2177026350,2456956037,2730485921,2820302411,3259730800,3345764771,3516065817,3600352804,4094571909,275423344,430227734,506948616,659060556,883997877,958139571,1322822218,1537002063,1747873779,1955562222,2024104815,2227730452,2361852424,2428436474,2756734187,3204031479,3329325298]
noncomputable def Hf:Vo:=DAV
theorem EAV:Tells ctx PP 143 cv0 cv1 (fun _=>Hf):=fn_ok0 hl_nil Tryz.func143 (fun _=>by kernel_rfl:EntryIs0 ctx PP 143 [] [] cv0 cv1 fun _=>DAV)
noncomputable def OAB {γ:Type} (F:Vo):Hd ctx γ:=hdl cv0.dec (fun _=>F) cv1.enc
abbrev SAK:=Int→Int→Int→Option Int
noncomputable def TAK (x_0:Int) (low_1:Int) (high_2:Int):Option Int:=
 bif (!(low_1 == 0)) then
 bif (!(low_1 == 0)) then
 some (w32 ((w32 (x_0.tdiv low_1))+(w32 ((x_0.tmod low_1)*high_2))))
 else none
 else none
noncomputable def Wx:SAK:=TAK
theorem PAg:Tells ctx PP 204 cv9 cv8 (fun a=>Wx a.1 a.2.1 a.2.2):=fn_ok0 hl_nil Tryz.func204 (fun a=>by kernel_rfl:EntryIs0 ctx PP 204 [] [] cv9 cv8 fun a=>TAK a.1 a.2.1 a.2.2)
noncomputable def QAg {γ:Type} (F:SAK):Hd ctx γ:=hdl cv9.dec (fun a=>F a.1 a.2.1 a.2.2) cv8.enc
abbrev PAB:=Int→Int→Int→Int→Bool→Option Int
noncomputable def Xo (z0:SAK) (x_0:Int) (a_1:Int) (b_2:Int) (c_3:Int) (last_4:Bool):Option Int:=
 bif (!(a_1 == 0)) then
 (z0 x_0 a_1 (w32 ((w32 ((2147483648:Int).tdiv a_1))*2))).bind fun r0=>
 bif (!(b_2 == 0)) then
 (z0 x_0 b_2 (w32 ((w32 ((2147483648:Int).tdiv b_2))*2))).bind fun r1=>
 bif (!(c_3 == 0)) then
 bif (!last_4) then
 bif (!(c_3 == 0)) then
 (z0 x_0 c_3 (w32 ((w32 ((2147483648:Int).tdiv c_3))*2))).bind fun r2=>
 some (w32 (((BitVec.toNat ((BitVec.ofInt (IntKind.bits IntKind.u32) (w32 (((BitVec.toNat ((BitVec.ofInt (IntKind.bits IntKind.u32) r0) ^^^ (BitVec.ofInt (IntKind.bits IntKind.u32) r1))):Nat):Int))) ^^^ (BitVec.ofInt (IntKind.bits IntKind.u32) r2))):Nat):Int))
 else none
 else
 some (w32 (((BitVec.toNat ((BitVec.ofInt (IntKind.bits IntKind.u32) (w32 (((BitVec.toNat ((BitVec.ofInt (IntKind.bits IntKind.u32) r0) ^^^ (BitVec.ofInt (IntKind.bits IntKind.u32) r1))):Nat):Int))) ^^^ (BitVec.ofInt (IntKind.bits IntKind.u32) (w32 (x_0.tdiv c_3))))):Nat):Int))
 else none
 else none
 else none
noncomputable def Cc:PAB:=Xo Wx
theorem RAg:Tells ctx PP 177 cv10 cv8 (fun a=>Cc a.1 a.2.1 a.2.2.1 a.2.2.2.1 a.2.2.2.2):=fn_ok0 (hc PAg hl_nil) Tryz.func177 ((fun z0 a=>by kernel_rfl:∀ z0,EntryIs0 ctx PP 177 [] [(204,QAg z0)] cv10 cv8 fun a=>Xo z0 a.1 a.2.1 a.2.2.1 a.2.2.2.1 a.2.2.2.2) Wx)
noncomputable def FAV {γ:Type} (F:PAB):Hd ctx γ:=hdl cv10.dec (fun a=>F a.1 a.2.1 a.2.2.1 a.2.2.2.1 a.2.2.2.2) cv8.enc
abbrev Yo:=(List Int)→(List Int)→ByteArray→Option (List Int)
inductive Xx where
 | c0 (t_0:(List Int)) (o_1:(List Int)) (v_8:Int) (v_7:(List Int))
 | c1 (t_0:(List Int)) (o_1:(List Int)) (v_10:Int) (v_7:(List Int)) (v_9:(List Int))
 | c2 (t_0:(List Int)) (o_1:(List Int)) (v_10:Int) (v_13:Int) (v_15:Int) (v_16:Int) (v_7:(List Int)) (v_9:(List Int))
 | c3 (t_0:(List Int)) (v_18:Int) (v_9:(List Int)) (v_17:(List Int))
noncomputable def GAV:Xx→LI
 | .c0 t_0 o_1 v_8 v_7=>(tdo Tryz.f144 464,[(0,[.one (.rsl 138 t_0)]),(1,[.one (.rsl 138 o_1)]),(7,[.one (.own 496)]),(8,[.one (.int .i64 v_8)])],[(496,.sl 138 v_7)])
 | .c1 t_0 o_1 v_10 v_7 v_9=>(tdo Tryz.f144 2000,[(0,[.one (.rsl 138 t_0)]),(1,[.one (.rsl 138 o_1)]),(7,[.one (.own 496)]),(9,[.one (.own 624)]),(10,[.one (.int .i64 v_10)])],[(496,.sl 138 v_7),(624,.sl 138 v_9)])
 | .c2 t_0 o_1 v_10 v_13 v_15 v_16 v_7 v_9=>(tdo Tryz.f144 8202192,[(0,[.one (.rsl 138 t_0)]),(1,[.one (.rsl 138 o_1)]),(7,[.one (.own 496)]),(9,[.one (.own 624)]),(10,[.one (.int .i64 v_10)]),(13,[.one (.int .u32 v_13)]),(15,[.one (.int .u32 v_15)]),(16,[.one (.int .i64 v_16)])],[(496,.sl 138 v_7),(624,.sl 138 v_9)])
 | .c3 t_0 v_18 v_9 v_17=>(tdo Tryz.f144 8144,[(0,[.one (.rsl 138 t_0)]),(9,[.one (.own 624)]),(17,[.one (.own 1136)]),(18,[.one (.int .i64 v_18)])],[(624,.sl 138 v_9),(1136,.sl 138 v_17)])
noncomputable def UAK (z0:Ji) (z1:PAB) (k:Xx→Option (List Int)) (t_0:(List Int)) (o_1:(List Int)) (A_2:ByteArray):Option (List Int):=
 (z0 A_2).bind fun r0=>
 k (.c0 t_0 o_1 16 r0)
noncomputable def Jf (z0:Ji) (z1:PAB) (k:Xx→Option (List Int)):Xx→Option (List Int)
 | .c0 t_0 o_1 v_8 v_7=>
 bif (decide (v_8<64)) then
  bif ((decide (0≤(w64 (v_8 - 2)))) && (decide ((w64 (v_8 - 2))<(v_7.length:Int)))) then
  (z1 (v_7.getD (w64 (v_8 - 2)).toNat 0) 131072 524288 1024 true).bind fun r0=>
  bif ((decide (0≤(w64 (v_8 - 7)))) && (decide ((w64 (v_8 - 7))<(v_7.length:Int)))) then
  bif ((decide (0≤(w64 (v_8 - 15)))) && (decide ((w64 (v_8 - 15))<(v_7.length:Int)))) then
  (z1 (v_7.getD (w64 (v_8 - 15)).toNat 0) 128 262144 8 true).bind fun r1=>
  bif ((decide (0≤(w64 (v_8 - 16)))) && (decide ((w64 (v_8 - 16))<(v_7.length:Int)))) then
  bif (decide (((v_7.length+1)*4)≤140737488355328)) then
  k (.c0 t_0 o_1 (w64 (v_8+1)) (v_7++[(w32 ((w32 ((w32 (r0+(v_7.getD (w64 (v_8 - 7)).toNat 0)))+r1))+(v_7.getD (w64 (v_8 - 16)).toNat 0)))]))
  else none
  else none
  else none
  else none
  else none
 else
  bif (decide (((0+t_0.length)*4)≤140737488355328)) then
  k (.c1 t_0 o_1 0 v_7 ([]++t_0))
  else none
 | .c1 t_0 o_1 v_10 v_7 v_9=>
 bif (decide (v_10<64)) then
  bif ((decide ((0:Int)≤(4:Int))) && (decide (4<(v_9.length:Int)))) then
  bif ((decide ((0:Int)≤(5:Int))) && (decide (5<(v_9.length:Int)))) then
  bif ((decide ((0:Int)≤(6:Int))) && (decide (6<(v_9.length:Int)))) then
  bif ((decide ((0:Int)≤(7:Int))) && (decide (7<(v_9.length:Int)))) then
  (z1 (v_9.getD (4:Int).toNat 0) 64 2048 33554432 false).bind fun r0=>
  bif ((decide (0≤v_10)) && (decide (v_10<(o_1.length:Int)))) then
  bif ((decide (0≤v_10)) && (decide (v_10<(v_7.length:Int)))) then
  bif ((decide ((0:Int)≤(0:Int))) && (decide (0<(v_9.length:Int)))) then
  bif ((decide ((0:Int)≤(1:Int))) && (decide (1<(v_9.length:Int)))) then
  bif ((decide ((0:Int)≤(0:Int))) && (decide (0<(v_9.length:Int)))) then
  bif ((decide ((0:Int)≤(2:Int))) && (decide (2<(v_9.length:Int)))) then
  bif ((decide ((0:Int)≤(1:Int))) && (decide (1<(v_9.length:Int)))) then
  bif ((decide ((0:Int)≤(2:Int))) && (decide (2<(v_9.length:Int)))) then
  bif ((decide ((0:Int)≤(0:Int))) && (decide (0<(v_9.length:Int)))) then
  (z1 (v_9.getD (0:Int).toNat 0) 4 8192 4194304 false).bind fun r1=>
  k (.c2 t_0 o_1 v_10 (w32 ((w32 ((w32 ((w32 ((v_9.getD (7:Int).toNat 0)+r0))+(w32 (((BitVec.toNat ((BitVec.ofInt (IntKind.bits IntKind.u32) (w32 (((BitVec.toNat ((BitVec.ofInt (IntKind.bits IntKind.u32) (v_9.getD (4:Int).toNat 0)) &&& (BitVec.ofInt (IntKind.bits IntKind.u32) (v_9.getD (5:Int).toNat 0)))):Nat):Int))) ^^^ (BitVec.ofInt (IntKind.bits IntKind.u32) (w32 (((BitVec.toNat ((BitVec.ofInt (IntKind.bits IntKind.u32) (w32 (4294967295 - (v_9.getD (4:Int).toNat 0)))) &&& (BitVec.ofInt (IntKind.bits IntKind.u32) (v_9.getD (6:Int).toNat 0)))):Nat):Int))))):Nat):Int))))+(o_1.getD v_10.toNat 0)))+(v_7.getD v_10.toNat 0))) (w32 (r1+(w32 (((BitVec.toNat ((BitVec.ofInt (IntKind.bits IntKind.u32) (w32 (((BitVec.toNat ((BitVec.ofInt (IntKind.bits IntKind.u32) (w32 (((BitVec.toNat ((BitVec.ofInt (IntKind.bits IntKind.u32) (v_9.getD (0:Int).toNat 0)) &&& (BitVec.ofInt (IntKind.bits IntKind.u32) (v_9.getD (1:Int).toNat 0)))):Nat):Int))) ^^^ (BitVec.ofInt (IntKind.bits IntKind.u32) (w32 (((BitVec.toNat ((BitVec.ofInt (IntKind.bits IntKind.u32) (v_9.getD (0:Int).toNat 0)) &&& (BitVec.ofInt (IntKind.bits IntKind.u32) (v_9.getD (2:Int).toNat 0)))):Nat):Int))))):Nat):Int))) ^^^ (BitVec.ofInt (IntKind.bits IntKind.u32) (w32 (((BitVec.toNat ((BitVec.ofInt (IntKind.bits IntKind.u32) (v_9.getD (1:Int).toNat 0)) &&& (BitVec.ofInt (IntKind.bits IntKind.u32) (v_9.getD (2:Int).toNat 0)))):Nat):Int))))):Nat):Int)))) 7 v_7 v_9)
  else none
  else none
  else none
  else none
  else none
  else none
  else none
  else none
  else none
  else none
  else none
  else none
  else none
 else
  k (.c3 t_0 0 v_9 [])
 | .c2 t_0 o_1 v_10 v_13 v_15 v_16 v_7 v_9=>
 bif (decide (v_16 > 0)) then
  bif ((decide (0≤(w64 (v_16 - 1)))) && (decide ((w64 (v_16 - 1))<(v_9.length:Int)))) then
  bif ((decide (0≤v_16)) && (decide (v_16<(v_9.length:Int)))) then
  k (.c2 t_0 o_1 v_10 v_13 v_15 (w64 (v_16 - 1)) v_7 (v_9.set v_16.toNat (v_9.getD (w64 (v_16 - 1)).toNat 0)))
  else none
  else none
 else
  bif ((decide ((0:Int)≤(4:Int))) && (decide (4<(v_9.length:Int)))) then
  bif ((decide ((0:Int)≤(4:Int))) && (decide (4<(v_9.length:Int)))) then
  bif ((decide ((0:Int)≤(0:Int))) && (decide (0<((v_9.set (4:Int).toNat (w32 ((v_9.getD (4:Int).toNat 0)+v_13))).length:Int)))) then
  k (.c1 t_0 o_1 (w64 (v_10+1)) v_7 ((v_9.set (4:Int).toNat (w32 ((v_9.getD (4:Int).toNat 0)+v_13))).set (0:Int).toNat (w32 (v_13+v_15))))
  else none
  else none
  else none
 | .c3 t_0 v_18 v_9 v_17=>
 bif (decide (v_18<8)) then
  bif ((decide (0≤v_18)) && (decide (v_18<(t_0.length:Int)))) then
  bif ((decide (0≤v_18)) && (decide (v_18<(v_9.length:Int)))) then
  bif (decide (((v_17.length+1)*4)≤140737488355328)) then
  k (.c3 t_0 (w64 (v_18+1)) v_9 (v_17++[(w32 ((t_0.getD v_18.toNat 0)+(v_9.getD v_18.toNat 0)))]))
  else none
  else none
  else none
 else
  some v_17
noncomputable def WZ:Nat→Xx→Option (List Int)
 | 0,_=>none
 | m+1,s=>Jf Va Cc (WZ m) s
noncomputable def Vd:Yo:=UAK Va Cc (WZ gas)
theorem HAV:Tells ctx PP 144 cv11 cv1 (fun a=>Vd a.1 a.2.1 a.2.2):=
 have b:∀ z0 z1,CutIs ctx PP 144 Tryz.f144 [] [(142,Uo z0),(177,FAV z1)] cv1 GAV (Jf z0 z1):=fun z0 z1 _ s=>by cases s <;> kernel_rfl
 have e:∀ z0 z1,EntryIs ctx PP 144 [] [(142,Uo z0),(177,FAV z1)] cv11 cv1 GAV (fun k a=>UAK z0 z1 k a.1 a.2.1 a.2.2):=fun z0 z1 _ a=>by kernel_rfl
 fn_ok (hc RAK (hc RAg hl_nil)) Tryz.func144 (fun s s' h=>by cases s <;> cases s' <;> first | (cases h;done) | (cases h;rfl) | exact (rg_ne h (by kernel_rfl)).elim) (fun _=>rfl) (fun _ _=>rfl) (b Va Cc) (e Va Cc) gas
noncomputable def QAB {γ:Type} (F:Yo):Hd ctx γ:=hdl cv11.dec (fun a=>F a.1 a.2.1 a.2.2) cv1.enc
abbrev VAK:=SHasher→ByteArray→Option SHasher
inductive Yx where
 | c0 (s_1:ByteArray) (buf_7:ByteArray) (at_8:Int) (h_2:SHasher) (v_4:SHasher) (state_5:(List Int)) (k_6:(List Int))
noncomputable def IAV:Yx→LI
 | .c0 s_1 buf_7 at_8 h_2 v_4 state_5 k_6=>(tdo Tryz.f90 4064,[(1,[.one (.str s_1)]),(2,[.one (.ptr 128 0)]),(4,[.one (.ptr 256 0)]),(5,[.one (.own 368)]),(6,[.one (.own 432)]),(7,[.one (.str buf_7)]),(8,[.one (.int .i64 at_8)])],[(128,.var [.str h_2.fState,.str h_2.fRest,.int .i64 h_2.fCount]),(256,.var [.str v_4.fState,.str v_4.fRest,.int .i64 v_4.fCount]),(368,.sl 138 state_5),(432,.sl 138 k_6)])
noncomputable def WAK (z0:Ro) (z1:Ji) (z2:Vo) (z3:Yo) (z4:Xk) (k:Yx→Option SHasher) (h_0:SHasher) (s_1:ByteArray):Option SHasher:=
 (z0 h_0).bind fun r0=>
 bif (!r0) then
 some h_0
 else
 bif (decide ((w64 (h_0.fCount+(s_1.size:Int))) > 1000000000)) then
  some h_0
 else
  (z1 h_0.fState).bind fun r1=>
  z2.bind fun r2=>
  bif (decide ((h_0.fRest.size+s_1.size)≤9223372036854775807)) then
  k (.c0 s_1 (h_0.fRest++s_1) 0 h_0 ⟨⟨#[]⟩,⟨#[]⟩,0⟩ r1 r2)
  else none
noncomputable def RAB (z0:Ro) (z1:Ji) (z2:Vo) (z3:Yo) (z4:Xk) (k:Yx→Option SHasher):Yx→Option SHasher
 | .c0 s_1 buf_7 at_8 h_2 v_4 state_5 k_6=>
 bif (decide ((w64 (at_8+64))≤(buf_7.size:Int))) then
  bif (((decide (0≤at_8)) && (decide (at_8≤(w64 (at_8+64))))) && (decide ((w64 (at_8+64))≤(buf_7.size:Int)))) then
  (z3 state_5 k_6 (buf_7.extract at_8.toNat (w64 (at_8+64)).toNat)).bind fun r0=>
  k (.c0 s_1 buf_7 (w64 (at_8+64)) h_2 v_4 r0 k_6)
  else none
 else
  (z4 state_5).bind fun r1=>
  bif ((decide (0≤at_8)) && (decide (at_8≤(buf_7.size:Int)))) then
  some ⟨r1,(buf_7.extract at_8.toNat buf_7.size),(w64 (h_2.fCount+(s_1.size:Int)))⟩
  else none
noncomputable def Zx:Nat→Yx→Option SHasher
 | 0,_=>none
 | m+1,s=>RAB Bc Va Hf Vd Tc (Zx m) s
noncomputable def Dy:VAK:=WAK Bc Va Hf Vd Tc (Zx gas)
theorem SAg:Tells ctx PP 90 cv12 cv4 (fun a=>Dy a.1 a.2):=
 have b:∀ z0 z1 z2 z3 z4,CutIs ctx PP 90 Tryz.f90 [] [(141,LAB z0),(142,Uo z1),(143,OAB z2),(144,QAB z3),(145,Qx z4)] cv4 IAV (RAB z0 z1 z2 z3 z4):=fun z0 z1 z2 z3 z4 _ s=>by cases s <;> kernel_rfl
 have e:∀ z0 z1 z2 z3 z4,EntryIs ctx PP 90 [] [(141,LAB z0),(142,Uo z1),(143,OAB z2),(144,QAB z3),(145,Qx z4)] cv12 cv4 IAV (fun k a=>WAK z0 z1 z2 z3 z4 k a.1 a.2):=fun z0 z1 z2 z3 z4 _ a=>by kernel_rfl
 fn_ok (hc ZAU (hc RAK (hc EAV (hc HAV (hc MAK hl_nil))))) Tryz.func90 (fun s s' h=>by cases s;cases s';(repeat cases ‹SHasher›);cases h;rfl) (fun _=>rfl) (fun _ _=>rfl) (b Bc Va Hf Vd Tc) (e Bc Va Hf Vd Tc) gas
noncomputable def TAg {γ:Type} (F:VAK):Hd ctx γ:=hdl cv12.dec (fun a=>F a.1 a.2) cv4.enc
abbrev XAK:=SHasher→Option ByteArray
inductive Ey where
 | c0 (h_1:SHasher) (tail_3:(List Int))
 | c1 (bits_4:Int) (i_5:Int) (h_1:SHasher) (tail_3:(List Int))
 | c2 (bits_4:Int) (i_5:Int) (x_6:Int) (k_7:Int) (h_1:SHasher) (tail_3:(List Int))
 | c3 (at_10:Int) (tail_3:(List Int)) (state_8:(List Int)) (k_9:(List Int))
noncomputable def JAV:Ey→LI
 | .c0 h_1 tail_3=>(tdo Tryz.f89 992,[(1,[.one (.ptr 64 0)]),(3,[.one (.own 240)])],[(64,.var [.str h_1.fState,.str h_1.fRest,.int .i64 h_1.fCount]),(240,.sl 5 tail_3)])
 | .c1 bits_4 i_5 h_1 tail_3=>(tdo Tryz.f89 8144,[(1,[.one (.ptr 64 0)]),(3,[.one (.own 240)]),(4,[.one (.int .i64 bits_4)]),(5,[.one (.int .i64 i_5)])],[(64,.var [.str h_1.fState,.str h_1.fRest,.int .i64 h_1.fCount]),(240,.sl 5 tail_3)])
 | .c2 bits_4 i_5 x_6 k_7 h_1 tail_3=>(tdo Tryz.f89 2085456,[(1,[.one (.ptr 64 0)]),(3,[.one (.own 240)]),(4,[.one (.int .i64 bits_4)]),(5,[.one (.int .i64 i_5)]),(6,[.one (.int .i64 x_6)]),(7,[.one (.int .i64 k_7)])],[(64,.var [.str h_1.fState,.str h_1.fRest,.int .i64 h_1.fCount]),(240,.sl 5 tail_3)])
 | .c3 at_10 tail_3 state_8 k_9=>(tdo Tryz.f89 65488,[(3,[.one (.own 240)]),(8,[.one (.own 560)]),(9,[.one (.own 624)]),(10,[.one (.int .i64 at_10)])],[(240,.sl 5 tail_3),(560,.sl 138 state_8),(624,.sl 138 k_9)])
noncomputable def YAK (z0:Ro) (z1:Ji) (z2:Vo) (z3:Yo) (z4:Xk) (k:Ey→Option ByteArray) (h_0:SHasher):Option ByteArray:=
 (z0 h_0).bind fun r0=>
 bif (!r0) then
 some ⟨#[]⟩
 else
 bif (decide (h_0.fRest.size≤9223372036854775807)) then
 bif (decide ((((bytesOf h_0.fRest).length+1)*1)≤140737488355328)) then
 k (.c0 h_0 ((bytesOf h_0.fRest)++[(128:Int)]))
 else none
 else none
noncomputable def Rf (z0:Ro) (z1:Ji) (z2:Vo) (z3:Yo) (z4:Xk) (k:Ey→Option ByteArray):Ey→Option ByteArray
 | .c0 h_1 tail_3=>
 bif (((tail_3.length:Int).tmod 64) != 56) then
  bif (decide (((tail_3.length+1)*1)≤140737488355328)) then
  k (.c0 h_1 (tail_3++[(0:Int)]))
  else none
 else
  k (.c1 (w64 (8*h_1.fCount)) 7 h_1 tail_3)
 | .c1 bits_4 i_5 h_1 tail_3=>
 bif (decide (i_5≥0)) then
  k (.c2 bits_4 i_5 bits_4 0 h_1 tail_3)
 else
  (z1 h_1.fState).bind fun r0=>
  z2.bind fun r1=>
  k (.c3 0 tail_3 r0 r1)
 | .c2 bits_4 i_5 x_6 k_7 h_1 tail_3=>
 bif (decide (k_7<i_5)) then
  k (.c2 bits_4 i_5 (w64 (x_6.tdiv 256)) (w64 (k_7+1)) h_1 tail_3)
 else
  bif (decide (((tail_3.length+1)*1)≤140737488355328)) then
  k (.c1 bits_4 (w64 (i_5 - 1)) h_1 (tail_3++[(w8 (x_6.tmod 256))]))
  else none
 | .c3 at_10 tail_3 state_8 k_9=>
 bif (decide (at_10<(tail_3.length:Int))) then
  bif (((decide (0≤at_10)) && (decide (at_10≤(w64 (at_10+64))))) && (decide ((w64 (at_10+64))≤(tail_3.length:Int)))) then
  (z3 state_8 k_9 (ofBytes ((tail_3.drop at_10.toNat).take ((w64 (at_10+64)).toNat - at_10.toNat)))).bind fun r0=>
  k (.c3 (w64 (at_10+64)) tail_3 r0 k_9)
  else none
 else
  (z4 state_8).bind fun r1=>
  some r1
noncomputable def XZ:Nat→Ey→Option ByteArray
 | 0,_=>none
 | m+1,s=>Rf Bc Va Hf Vd Tc (XZ m) s
noncomputable def Gy:XAK:=YAK Bc Va Hf Vd Tc (XZ gas)
theorem UAg:Tells ctx PP 89 cv4 cv3 (fun a=>Gy a):=
 have b:∀ z0 z1 z2 z3 z4,CutIs ctx PP 89 Tryz.f89 [] [(141,LAB z0),(142,Uo z1),(143,OAB z2),(144,QAB z3),(145,Qx z4)] cv3 JAV (Rf z0 z1 z2 z3 z4):=fun z0 z1 z2 z3 z4 _ s=>by cases s <;> kernel_rfl
 have e:∀ z0 z1 z2 z3 z4,EntryIs ctx PP 89 [] [(141,LAB z0),(142,Uo z1),(143,OAB z2),(144,QAB z3),(145,Qx z4)] cv4 cv3 JAV (fun k a=>YAK z0 z1 z2 z3 z4 k a):=fun z0 z1 z2 z3 z4 _ a=>by kernel_rfl
 fn_ok (hc ZAU (hc RAK (hc EAV (hc HAV (hc MAK hl_nil))))) Tryz.func89 (fun s s' h=>by cases s <;> cases s' <;> first | ((repeat cases ‹SHasher›);cases h;done) | ((repeat cases ‹SHasher›);cases h;rfl) | exact (rg_ne h (by kernel_rfl)).elim) (fun _=>rfl) (fun _ _=>rfl) (b Bc Va Hf Vd Tc) (e Bc Va Hf Vd Tc) gas
noncomputable def VAg {γ:Type} (F:XAK):Hd ctx γ:=hdl cv4.dec (fun a=>F a) cv3.enc
abbrev Oi:=ByteArray→Option ByteArray
noncomputable def ZAK (z0:NAK) (z1:VAK) (z2:XAK) (s_0:ByteArray):Option ByteArray:=
 z0.bind fun r0=>
 (z1 r0 s_0).bind fun r1=>
 (z2 r1).bind fun r2=>
 some r2
noncomputable def Xa:Oi:=ZAK Rx Dy Gy
theorem SAB:Tells ctx PP 26 cv3 cv3 (fun a=>Xa a):=fn_ok0 (hc MAg (hc SAg (hc UAg hl_nil))) Tryz.func26 ((fun z0 z1 z2 a=>by kernel_rfl:∀ z0 z1 z2,EntryIs0 ctx PP 26 [] [(91,NAg z0),(90,TAg z1),(89,VAg z2)] cv3 cv3 fun a=>ZAK z0 z1 z2 a) Rx Dy Gy)
noncomputable def Zo {γ:Type} (F:Oi):Hd ctx γ:=hdl cv3.dec (fun a=>F a) cv3.enc
abbrev AAL:=Int→Int→Option ByteArray
inductive Hy where
 | c0 (n_0:Int) (x_1:Int) (i_6:Int) (out_5:(List Int))
noncomputable def KAV:Hy→LI
 | .c0 n_0 x_1 i_6 out_5=>(tdo Tryz.f97 464,[(0,[.one (.int .i64 n_0)]),(1,[.one (.int .u8 x_1)]),(5,[.one (.own 368)]),(6,[.one (.int .i64 i_6)])],[(368,.sl 5 out_5)])
noncomputable def BAL (k:Hy→Option ByteArray) (n_0:Int) (x_1:Int):Option ByteArray:=
 bif ((((decide (0≤n_0)) && (decide (n_0≤n_0))) && (decide (n_0≤9223372036854775807))) && (decide ((n_0.toNat*1)≤140737488355328))) then
 k (.c0 n_0 x_1 0 (List.replicate n_0.toNat (0:Int)))
 else none
noncomputable def TAB (k:Hy→Option ByteArray):Hy→Option ByteArray
 | .c0 n_0 x_1 i_6 out_5=>
 bif (decide (i_6<n_0)) then
  bif ((decide (0≤i_6)) && (decide (i_6<(out_5.length:Int)))) then
  k (.c0 n_0 x_1 (w64 (i_6+1)) (out_5.set i_6.toNat x_1))
  else none
 else
  some (ofBytes out_5)
noncomputable def Iy:Nat→Hy→Option ByteArray
 | 0,_=>none
 | m+1,s=>TAB (Iy m) s
noncomputable def Jy:AAL:=BAL (Iy gas)
theorem WAg:Tells ctx PP 97 cv13 cv3 (fun a=>Jy a.1 a.2):=
 have b:CutIs ctx PP 97 Tryz.f97 [] [] cv3 KAV (TAB):=fun _ s=>by cases s <;> kernel_rfl
 have e:EntryIs ctx PP 97 [] [] cv13 cv3 KAV (fun k a=>BAL k a.1 a.2):=fun _ a=>by kernel_rfl
 fn_ok hl_nil Tryz.func97 (fun s s' h=>by cases s;cases s';cases h;rfl) (fun _=>rfl) (fun _ _=>rfl) b e gas
noncomputable def XAg {γ:Type} (F:AAL):Hd ctx γ:=hdl cv13.dec (fun a=>F a.1 a.2) cv3.enc
abbrev Ky:=Option SBook
noncomputable def CAL (z0:Oi) (z1:AAL)  : Option SBook:=
 (z0 ⟨#[]⟩).bind fun r0=>
 (z1 32 0).bind fun r1=>
 some ⟨r0,0,[],0,r1,0⟩
noncomputable def Ah:Ky:=CAL Xa Jy
theorem LAV:Tells ctx PP 28 cv0 cv14 (fun _=>Ah):=fn_ok0 (hc SAB (hc WAg hl_nil)) Tryz.func28 ((fun z0 z1 _=>by kernel_rfl:∀ z0 z1,EntryIs0 ctx PP 28 [] [(26,Zo z0),(97,XAg z1)] cv0 cv14 fun _=>CAL z0 z1) Xa Jy)
noncomputable def DAL {γ:Type} (F:Ky):Hd ctx γ:=hdl cv0.dec (fun _=>F) cv14.enc
abbrev UAB:=SBook→SBook→Option Bool
inductive Ny where
 | c0 (i_5:Int) (a_2:SBook) (b_3:SBook)
noncomputable def MAV:Ny→LI
 | .c0 i_5 a_2 b_3=>(tdo Tryz.f51 464,[(2,[.one (.ptr 128 0)]),(3,[.one (.ptr 192 0)]),(5,[.one (.int .i64 i_5)])],[(128,.var [.str a_2.fWord,.int .i64 a_2.fTries,.rsl 69 a_2.fThings,.int .i64 a_2.fLast,.str a_2.fChain,.int .i64 a_2.fCount]),(192,.var [.str b_3.fWord,.int .i64 b_3.fTries,.rsl 69 b_3.fThings,.int .i64 b_3.fLast,.str b_3.fChain,.int .i64 b_3.fCount])])
noncomputable def EAL (k:Ny→Option Bool) (a_0:SBook) (b_1:SBook):Option Bool:=
 bif (!((ByteArray.toList a_0.fWord) == (ByteArray.toList b_1.fWord))) then
 some false
 else
 bif (a_0.fTries != b_1.fTries) then
  some false
 else
  bif (a_0.fLast != b_1.fLast) then
  some false
  else
  bif (!((ByteArray.toList a_0.fChain) == (ByteArray.toList b_1.fChain))) then
   some false
  else
   bif (a_0.fCount != b_1.fCount) then
   some false
   else
   bif ((a_0.fThings.length:Int) != (b_1.fThings.length:Int)) then
    some false
   else
    k (.c0 0 a_0 b_1)
noncomputable def VAB (k:Ny→Option Bool):Ny→Option Bool
 | .c0 i_5 a_2 b_3=>
 bif (decide (i_5<(a_2.fThings.length:Int))) then
  bif ((decide (0≤i_5)) && (decide (i_5<(a_2.fThings.length:Int)))) then
  bif ((decide (0≤i_5)) && (decide (i_5<(b_3.fThings.length:Int)))) then
  bif (!(((a_2.fThings.getD i_5.toNat (⟨0,0,false,false,false,false,⟨#[]⟩,0⟩:SThing)).fId == (b_3.fThings.getD i_5.toNat (⟨0,0,false,false,false,false,⟨#[]⟩,0⟩:SThing)).fId) && (((a_2.fThings.getD i_5.toNat (⟨0,0,false,false,false,false,⟨#[]⟩,0⟩:SThing)).fKind == (b_3.fThings.getD i_5.toNat (⟨0,0,false,false,false,false,⟨#[]⟩,0⟩:SThing)).fKind) && (((a_2.fThings.getD i_5.toNat (⟨0,0,false,false,false,false,⟨#[]⟩,0⟩:SThing)).fHidden == (b_3.fThings.getD i_5.toNat (⟨0,0,false,false,false,false,⟨#[]⟩,0⟩:SThing)).fHidden) && (((a_2.fThings.getD i_5.toNat (⟨0,0,false,false,false,false,⟨#[]⟩,0⟩:SThing)).fFixed == (b_3.fThings.getD i_5.toNat (⟨0,0,false,false,false,false,⟨#[]⟩,0⟩:SThing)).fFixed) && (((a_2.fThings.getD i_5.toNat (⟨0,0,false,false,false,false,⟨#[]⟩,0⟩:SThing)).fSigns == (b_3.fThings.getD i_5.toNat (⟨0,0,false,false,false,false,⟨#[]⟩,0⟩:SThing)).fSigns) && (((a_2.fThings.getD i_5.toNat (⟨0,0,false,false,false,false,⟨#[]⟩,0⟩:SThing)).fWraps == (b_3.fThings.getD i_5.toNat (⟨0,0,false,false,false,false,⟨#[]⟩,0⟩:SThing)).fWraps) && (((ByteArray.toList (a_2.fThings.getD i_5.toNat (⟨0,0,false,false,false,false,⟨#[]⟩,0⟩:SThing)).fValue) == (ByteArray.toList (b_3.fThings.getD i_5.toNat (⟨0,0,false,false,false,false,⟨#[]⟩,0⟩:SThing)).fValue)) && (((a_2.fThings.getD i_5.toNat (⟨0,0,false,false,false,false,⟨#[]⟩,0⟩:SThing)).fNext == (b_3.fThings.getD i_5.toNat (⟨0,0,false,false,false,false,⟨#[]⟩,0⟩:SThing)).fNext) && true))))))))) then
  some false
  else
  k (.c0 (w64 (i_5+1)) a_2 b_3)
  else none
  else none
 else
  some true
noncomputable def Oy:Nat→Ny→Option Bool
 | 0,_=>none
 | m+1,s=>VAB (Oy m) s
noncomputable def Zk:UAB:=EAL (Oy gas)
theorem YAg:Tells ctx PP 51 cv58 cv6 (fun a=>Zk a.1 a.2):=
 have b:CutIs ctx PP 51 Tryz.f51 [] [] cv6 MAV (VAB):=fun _ s=>by cases s <;> kernel_rfl
 have e:EntryIs ctx PP 51 [] [] cv58 cv6 MAV (fun k a=>EAL k a.1 a.2):=fun _ a=>by kernel_rfl
 fn_ok hl_nil Tryz.func51 (fun s s' h=>by cases s;cases s';(repeat cases ‹SBook›);cases h;rfl) (fun _=>rfl) (fun _ _=>rfl) b e gas
noncomputable def NAV {γ:Type} (F:UAB):Hd ctx γ:=hdl cv58.dec (fun a=>F a.1 a.2) cv6.enc
abbrev Py:=SDisk→ByteArray→Option Int
inductive Qy where
 | c0 (name_1:ByteArray) (i_5:Int) (d_2:SDisk)
noncomputable def OAV:Qy→LI
 | .c0 name_1 i_5 d_2=>(tdo Tryz.f119 208,[(1,[.one (.str name_1)]),(2,[.one (.ptr 128 0)]),(5,[.one (.int .i64 i_5)])],[(128,.var [.rsl 155 d_2.fFiles])])
noncomputable def FAL (k:Qy→Option Int) (d_0:SDisk) (name_1:ByteArray):Option Int:=
 k (.c0 name_1 0 d_0)
noncomputable def WAB (k:Qy→Option Int):Qy→Option Int
 | .c0 name_1 i_5 d_2=>
 bif (decide (i_5<(d_2.fFiles.length:Int))) then
  bif ((decide (0≤i_5)) && (decide (i_5<(d_2.fFiles.length:Int)))) then
  bif ((ByteArray.toList (d_2.fFiles.getD i_5.toNat (⟨⟨#[]⟩,⟨#[]⟩,0⟩:SFile)).fName) == (ByteArray.toList name_1)) then
  some i_5
  else
  k (.c0 name_1 (w64 (i_5+1)) d_2)
  else none
 else
  some (-(1:Int))
noncomputable def Ry:Nat→Qy→Option Int
 | 0,_=>none
 | m+1,s=>WAB (Ry m) s
noncomputable def Bh:Py:=FAL (Ry gas)
theorem GAL:Tells ctx PP 119 cv36 cv15 (fun a=>Bh a.1 a.2):=
 have b:CutIs ctx PP 119 Tryz.f119 [] [] cv15 OAV (WAB):=fun _ s=>by cases s <;> kernel_rfl
 have e:EntryIs ctx PP 119 [] [] cv36 cv15 OAV (fun k a=>FAL k a.1 a.2):=fun _ a=>by kernel_rfl
 fn_ok hl_nil Tryz.func119 (fun s s' h=>by cases s;cases s';(repeat cases ‹SDisk›);cases h;rfl) (fun _=>rfl) (fun _ _=>rfl) b e gas
noncomputable def HAL {γ:Type} (F:Py):Hd ctx γ:=hdl cv36.dec (fun a=>F a.1 a.2) cv15.enc
abbrev IAL:=SDisk→ByteArray→Option (ByteArray×Bool)
noncomputable def JAL (z0:Py) (d_0:SDisk) (name_1:ByteArray):Option (ByteArray×Bool):=
 (z0 d_0 name_1).bind fun r0=>
 bif (decide (r0<0)) then
 some (⟨#[]⟩,false)
 else
 bif ((decide (0≤r0)) && (decide (r0<(d_0.fFiles.length:Int)))) then
 some ((d_0.fFiles.getD r0.toNat (⟨⟨#[]⟩,⟨#[]⟩,0⟩:SFile)).fText,true)
 else none
noncomputable def Uy:IAL:=JAL Bh
theorem ZAg:Tells ctx PP 117 cv36 cv18 (fun a=>Uy a.1 a.2):=fn_ok0 (hc GAL hl_nil) Tryz.func117 ((fun z0 a=>by kernel_rfl:∀ z0,EntryIs0 ctx PP 117 [] [(119,HAL z0)] cv36 cv18 fun a=>JAL z0 a.1 a.2) Bh)
noncomputable def AAh {γ:Type} (F:IAL):Hd ctx γ:=hdl cv36.dec (fun a=>F a.1 a.2) cv18.enc
abbrev Xd:=Int→Option ByteArray
inductive Vy where
 | c0 (n_0:Int) (out_3:(List Int))
noncomputable def PAV:Vy→LI
 | .c0 n_0 out_3=>(tdo Tryz.f147 224,[(0,[.one (.int .i64 n_0)]),(3,[.one (.own 240)])],[(240,.sl 5 out_3)])
noncomputable def QAV (k:Vy→Option ByteArray) (n_0:Int):Option ByteArray:=
 k (.c0 n_0 [])
noncomputable def XAB (k:Vy→Option ByteArray):Vy→Option ByteArray
 | .c0 n_0 out_3=>
 bif (decide (n_0 > 127)) then
  bif (decide (((out_3.length+1)*1)≤140737488355328)) then
  k (.c0 (w64 (n_0.tdiv 128)) (out_3++[(w8 (w64 ((n_0.tmod 128)+128)))]))
  else none
 else
  bif (decide (((out_3.length+1)*1)≤140737488355328)) then
  some (ofBytes (out_3++[(w8 n_0)]))
  else none
noncomputable def Wy:Nat→Vy→Option ByteArray
 | 0,_=>none
 | m+1,s=>XAB (Wy m) s
noncomputable def GZ:Xd:=QAV (Wy gas)
theorem Bl:Tells ctx PP 147 cv15 cv3 (fun a=>GZ a):=
 have b:CutIs ctx PP 147 Tryz.f147 [] [] cv3 PAV (XAB):=fun _ s=>by cases s <;> kernel_rfl
 have e:EntryIs ctx PP 147 [] [] cv15 cv3 PAV (fun k a=>QAV k a):=fun _ a=>by kernel_rfl
 fn_ok hl_nil Tryz.func147 (fun s s' h=>by cases s;cases s';cases h;rfl) (fun _=>rfl) (fun _ _=>rfl) b e gas
noncomputable def Dh {γ:Type} (F:Xd):Hd ctx γ:=hdl cv15.dec (fun a=>F a) cv3.enc
abbrev Xy:=ByteArray→Int→Option (Int×Int×Bool)
inductive Yy where
 | c0 (text_0:ByteArray) (at_1:Int) (n_7:Int) (scale_8:Int) (i_9:Int)
noncomputable def RAV:Yy→LI
 | .c0 text_0 at_1 n_7 scale_8 i_9=>(tdo Tryz.f196 2000,[(0,[.one (.str text_0)]),(1,[.one (.int .i64 at_1)]),(7,[.one (.int .i64 n_7)]),(8,[.one (.int .i64 scale_8)]),(9,[.one (.int .i64 i_9)])],[])
noncomputable def Zy (z0:LZ) (z1:Xd) (k:Yy→Option (Int×Int×Bool)) (text_0:ByteArray) (at_1:Int):Option (Int×Int×Bool):=
 (z0 at_1 0 (text_0.size:Int)).bind fun r0=>
 bif (!r0) then
 some (0,(0,false))
 else
 k (.c0 text_0 at_1 0 1 at_1)
noncomputable def YAB (z0:LZ) (z1:Xd) (k:Yy→Option (Int×Int×Bool)):Yy→Option (Int×Int×Bool)
 | .c0 text_0 at_1 n_7 scale_8 i_9=>
 bif (decide (i_9<(text_0.size:Int))) then
  bif (decide (i_9<(w64 (at_1+5)))) then
  bif ((decide (0≤i_9)) && (decide (i_9<(text_0.size:Int)))) then
  bif ((decide (0≤i_9)) && (decide (i_9<(text_0.size:Int)))) then
  bif (decide ((bt text_0 i_9)<128)) then
   bif (decide ((w64 (n_7+(w64 (((w64 (bt text_0 i_9)).tmod 128)*scale_8)))) > 1000000000)) then
   some (0,(0,false))
   else
   (z1 (w64 (n_7+(w64 (((w64 (bt text_0 i_9)).tmod 128)*scale_8))))).bind fun r0=>
   bif (((decide (0≤at_1)) && (decide (at_1≤(w64 (i_9+1))))) && (decide ((w64 (i_9+1))≤(text_0.size:Int)))) then
   bif (!((ByteArray.toList r0) == (ByteArray.toList (text_0.extract at_1.toNat (w64 (i_9+1)).toNat)))) then
    some (0,(0,false))
   else
    some ((w64 (n_7+(w64 (((w64 (bt text_0 i_9)).tmod 128)*scale_8)))),((w64 (i_9+1)),true))
   else none
  else
   k (.c0 text_0 at_1 (w64 (n_7+(w64 (((w64 (bt text_0 i_9)).tmod 128)*scale_8)))) (w64 (scale_8*128)) (w64 (i_9+1)))
  else none
  else none
  else
  some (0,(0,false))
 else
  some (0,(0,false))
noncomputable def Tf:Nat→Yy→Option (Int×Int×Bool)
 | 0,_=>none
 | m+1,s=>YAB CY GZ (Tf m) s
noncomputable def Ya:Xy:=Zy CY GZ (Tf gas)
theorem SAV:Tells ctx PP 196 cv7 cv105 (fun a=>Ya a.1 a.2):=
 have b:∀ z0 z1,CutIs ctx PP 196 Tryz.f196 [] [(50,VZ z0),(147,Dh z1)] cv105 RAV (YAB z0 z1):=fun z0 z1 _ s=>by cases s <;> kernel_rfl
 have e:∀ z0 z1,EntryIs ctx PP 196 [] [(50,VZ z0),(147,Dh z1)] cv7 cv105 RAV (fun k a=>Zy z0 z1 k a.1 a.2):=fun z0 z1 _ a=>by kernel_rfl
 fn_ok (hc Td (hc Bl hl_nil)) Tryz.func196 (fun s s' h=>by cases s;cases s';cases h;rfl) (fun _=>rfl) (fun _ _=>rfl) (b CY GZ) (e CY GZ) gas
noncomputable def KAL {γ:Type} (F:Xy):Hd ctx γ:=hdl cv7.dec (fun a=>F a.1 a.2) cv105.enc
abbrev LAL:=Int→ByteArray→Option Int
inductive Az where
 | c0 (sum_0:Int) (text_1:ByteArray) (i_5:Int)
 | c1 (sum_0:Int) (text_1:ByteArray) (i_5:Int) (k_6:Int)
noncomputable def TAV:Az→LI
 | .c0 sum_0 text_1 i_5=>(tdo Tryz.f206 208,[(0,[.one (.int .u32 sum_0)]),(1,[.one (.str text_1)]),(5,[.one (.int .i64 i_5)])],[])
 | .c1 sum_0 text_1 i_5 k_6=>(tdo Tryz.f206 26928,[(0,[.one (.int .u32 sum_0)]),(1,[.one (.str text_1)]),(5,[.one (.int .i64 i_5)]),(6,[.one (.int .i64 k_6)])],[])
noncomputable def MAL (k:Az→Option Int) (sum_0:Int) (text_1:ByteArray):Option Int:=
 k (.c0 sum_0 text_1 0)
noncomputable def Ap (k:Az→Option Int):Az→Option Int
 | .c0 sum_0 text_1 i_5=>
 bif (decide (i_5<(text_1.size:Int))) then
  bif ((decide (0≤i_5)) && (decide (i_5<(text_1.size:Int)))) then
  k (.c1 (w32 (((BitVec.toNat ((BitVec.ofInt (IntKind.bits IntKind.u32) sum_0) ^^^ (BitVec.ofInt (IntKind.bits IntKind.u32) (w32 (bt text_1 i_5))))):Nat):Int)) text_1 i_5 0)
  else none
 else
  some sum_0
 | .c1 sum_0 text_1 i_5 k_6=>
 bif (decide (k_6<8)) then
  bif ((sum_0.tmod 2) == 1) then
  k (.c1 (w32 (((BitVec.toNat ((BitVec.ofInt (IntKind.bits IntKind.u32) (w32 (sum_0.tdiv 2))) ^^^ (BitVec.ofInt (IntKind.bits IntKind.u32) 3558460437))):Nat):Int)) text_1 i_5 (w64 (k_6+1)))
  else
  k (.c1 (w32 (sum_0.tdiv 2)) text_1 i_5 (w64 (k_6+1)))
 else
  k (.c0 sum_0 text_1 (w64 (i_5+1)))
noncomputable def Eh:Nat→Az→Option Int
 | 0,_=>none
 | m+1,s=>Ap (Eh m) s
noncomputable def Bz:LAL:=MAL (Eh gas)
theorem BAh:Tells ctx PP 206 cv32 cv8 (fun a=>Bz a.1 a.2):=
 have b:CutIs ctx PP 206 Tryz.f206 [] [] cv8 TAV (Ap):=fun _ s=>by cases s <;> kernel_rfl
 have e:EntryIs ctx PP 206 [] [] cv32 cv8 TAV (fun k a=>MAL k a.1 a.2):=fun _ a=>by kernel_rfl
 fn_ok hl_nil Tryz.func206 (fun s s' h=>by cases s <;> cases s' <;> first | (cases h;done) | (cases h;rfl) | exact (rg_ne h (by kernel_rfl)).elim) (fun _=>rfl) (fun _ _=>rfl) b e gas
noncomputable def CAh {γ:Type} (F:LAL):Hd ctx γ:=hdl cv32.dec (fun a=>F a.1 a.2) cv8.enc
abbrev NAL:=ByteArray→Option Int
noncomputable def OAL (z0:LAL) (text_0:ByteArray):Option Int:=
 (z0 4294967295 text_0).bind fun r0=>
 some r0
noncomputable def Dz:NAL:=OAL Bz
theorem DAh:Tells ctx PP 185 cv3 cv8 (fun a=>Dz a):=fn_ok0 (hc BAh hl_nil) Tryz.func185 ((fun z0 a=>by kernel_rfl:∀ z0,EntryIs0 ctx PP 185 [] [(206,CAh z0)] cv3 cv8 fun a=>OAL z0 a) Bz)
noncomputable def EAh {γ:Type} (F:NAL):Hd ctx γ:=hdl cv3.dec (fun a=>F a) cv8.enc
abbrev PAL:=Int→Option ByteArray
noncomputable def QAL (x_0:Int):Option ByteArray:=
 some (ofBytes [(w8 (Int.fdiv x_0 (2 ^ (Min.min (24:Int).toNat (IntKind.bits IntKind.u32))))),(w8 (Int.fdiv x_0 (2 ^ (Min.min (16:Int).toNat (IntKind.bits IntKind.u32))))),(w8 (Int.fdiv x_0 (2 ^ (Min.min (8:Int).toNat (IntKind.bits IntKind.u32))))),(w8 x_0)])
noncomputable def Ez:PAL:=QAL
theorem FAh:Tells ctx PP 184 cv8 cv3 (fun a=>Ez a):=fn_ok0 hl_nil Tryz.func184 (fun a=>by kernel_rfl:EntryIs0 ctx PP 184 [] [] cv8 cv3 fun a=>QAL a)
noncomputable def GAh {γ:Type} (F:PAL):Hd ctx γ:=hdl cv8.dec (fun a=>F a) cv3.enc
abbrev Dp:=ByteArray→Option (ByteArray×Bool)
noncomputable def RAL (z0:LZ) (z1:Xd) (z2:NAL) (z3:PAL) (text_0:ByteArray):Option (ByteArray×Bool):=
 (z0 (text_0.size:Int) 1 9000).bind fun r0=>
 bif (!r0) then
 some (⟨#[]⟩,false)
 else
 (z1 (text_0.size:Int)).bind fun r1=>
 (z2 text_0).bind fun r2=>
 (z3 r2).bind fun r3=>
 bif (decide ((r1.size+r3.size)≤9223372036854775807)) then
 bif (decide (((r1++r3).size+text_0.size)≤9223372036854775807)) then
 some (((r1++r3)++text_0),true)
 else none
 else none
noncomputable def Yd:Dp:=RAL CY GZ Dz Ez
theorem UAV:Tells ctx PP 150 cv3 cv18 (fun a=>Yd a):=fn_ok0 (hc Td (hc Bl (hc DAh (hc FAh hl_nil)))) Tryz.func150 ((fun z0 z1 z2 z3 a=>by kernel_rfl:∀ z0 z1 z2 z3,EntryIs0 ctx PP 150 [] [(50,VZ z0),(147,Dh z1),(185,EAh z2),(184,GAh z3)] cv3 cv18 fun a=>RAL z0 z1 z2 z3 a) CY GZ Dz Ez)
noncomputable def ZAB {γ:Type} (F:Dp):Hd ctx γ:=hdl cv3.dec (fun a=>F a) cv18.enc
abbrev AAC:=ByteArray→Option ((List ByteArray)×Int)
inductive Fz where
 | c0 (file_0:ByteArray) (at_5:Int) (out_4:(List ByteArray))
noncomputable def VAV:Fz→LI
 | .c0 file_0 at_5 out_4=>(tdo Tryz.f164 992,[(0,[.one (.str file_0)]),(4,[.one (.own 304)]),(5,[.one (.int .i64 at_5)])],[(304,.sl 9 out_4)])
noncomputable def SAL (z0:Xy) (z1:Dp) (k:Fz→Option ((List ByteArray)×Int)) (file_0:ByteArray):Option ((List ByteArray)×Int):=
 bif (decide ((file_0.size:Int) > 20000)) then
 some ([],0)
 else
 k (.c0 file_0 0 [])
noncomputable def TAL (z0:Xy) (z1:Dp) (k:Fz→Option ((List ByteArray)×Int)):Fz→Option ((List ByteArray)×Int)
 | .c0 file_0 at_5 out_4=>
 bif (decide (at_5<(file_0.size:Int))) then
  (z0 file_0 at_5).bind fun r0=>
  bif (!r0.2.2) then
  some (out_4,at_5)
  else
  bif (decide (r0.1 > (w64 ((w64 ((file_0.size:Int) - r0.2.1)) - 4)))) then
   some (out_4,at_5)
  else
   bif (((decide (0≤(w64 (r0.2.1+4)))) && (decide ((w64 (r0.2.1+4))≤(w64 ((w64 (r0.2.1+4))+r0.1))))) && (decide ((w64 ((w64 (r0.2.1+4))+r0.1))≤(file_0.size:Int)))) then
   (z1 (file_0.extract (w64 (r0.2.1+4)).toNat (w64 ((w64 (r0.2.1+4))+r0.1)).toNat)).bind fun r1=>
   bif (!r1.2) then
   some (out_4,at_5)
   else
   bif (((decide (0≤at_5)) && (decide (at_5≤(w64 ((w64 (r0.2.1+4))+r0.1))))) && (decide ((w64 ((w64 (r0.2.1+4))+r0.1))≤(file_0.size:Int)))) then
   bif (!((ByteArray.toList r1.1) == (ByteArray.toList (file_0.extract at_5.toNat (w64 ((w64 (r0.2.1+4))+r0.1)).toNat)))) then
    some (out_4,at_5)
   else
    bif (decide (((out_4.length+1)*16)≤140737488355328)) then
    k (.c0 file_0 (w64 ((w64 (r0.2.1+4))+r0.1)) (out_4++[(file_0.extract (w64 (r0.2.1+4)).toNat (w64 ((w64 (r0.2.1+4))+r0.1)).toNat)]))
    else none
   else none
   else none
 else
  some (out_4,at_5)
noncomputable def BAC:Nat→Fz→Option ((List ByteArray)×Int)
 | 0,_=>none
 | m+1,s=>TAL Ya Yd (BAC m) s
noncomputable def Dl:AAC:=SAL Ya Yd (BAC gas)
theorem HAh:Tells ctx PP 164 cv3 cv106 (fun a=>Dl a):=
 have b:∀ z0 z1,CutIs ctx PP 164 Tryz.f164 [] [(196,KAL z0),(150,ZAB z1)] cv106 VAV (TAL z0 z1):=fun z0 z1 _ s=>by cases s <;> kernel_rfl
 have e:∀ z0 z1,EntryIs ctx PP 164 [] [(196,KAL z0),(150,ZAB z1)] cv3 cv106 VAV (fun k a=>SAL z0 z1 k a):=fun z0 z1 _ a=>by kernel_rfl
 fn_ok (hc SAV (hc UAV hl_nil)) Tryz.func164 (fun s s' h=>by cases s;cases s';cases h;rfl) (fun _=>rfl) (fun _ _=>rfl) (b Ya Yd) (e Ya Yd) gas
noncomputable def WAV {γ:Type} (F:AAC):Hd ctx γ:=hdl cv3.dec (fun a=>F a) cv106.enc
abbrev Gz:=Int→Option ByteArray
noncomputable def UAL (n_0:Int):Option ByteArray:=
 bif (decide ((n_0.tmod 256)<0)) then
 some (ofBytes [(w8 (w64 ((n_0.tmod 256)+256)))])
 else
 some (ofBytes [(w8 (n_0.tmod 256))])
noncomputable def Fh:Gz:=UAL
theorem XAV:Tells ctx PP 179 cv15 cv3 (fun a=>Fh a):=fn_ok0 hl_nil Tryz.func179 (fun a=>by kernel_rfl:EntryIs0 ctx PP 179 [] [] cv15 cv3 fun a=>UAL a)
noncomputable def VAL {γ:Type} (F:Gz):Hd ctx γ:=hdl cv15.dec (fun a=>F a) cv3.enc
abbrev WAL:=ByteArray→Int→Option ByteArray
inductive Hz where
 | c0 (key_0:ByteArray) (x_1:Int) (i_6:Int) (out_5:(List Int))
noncomputable def YAV:Hz→LI
 | .c0 key_0 x_1 i_6 out_5=>(tdo Tryz.f216 976,[(0,[.one (.str key_0)]),(1,[.one (.int .u8 x_1)]),(5,[.one (.own 368)]),(6,[.one (.int .i64 i_6)])],[(368,.sl 5 out_5)])
noncomputable def XAL (z0:Oi) (k:Hz→Option ByteArray) (key_0:ByteArray) (x_1:Int):Option ByteArray:=
 bif (decide ((key_0.size:Int) > 64)) then
 (z0 key_0).bind fun r0=>
 k (.c0 r0 x_1 0 (List.replicate (64:Int).toNat (0:Int)))
 else
 k (.c0 key_0 x_1 0 (List.replicate (64:Int).toNat (0:Int)))
noncomputable def CAC (z0:Oi) (k:Hz→Option ByteArray):Hz→Option ByteArray
 | .c0 key_0 x_1 i_6 out_5=>
 bif (decide (i_6<64)) then
  bif (decide (i_6<(key_0.size:Int))) then
  bif ((decide (0≤i_6)) && (decide (i_6<(key_0.size:Int)))) then
  bif ((decide (0≤i_6)) && (decide (i_6<(out_5.length:Int)))) then
  bif ((decide (0≤i_6)) && (decide (i_6<((out_5.set i_6.toNat (bt key_0 i_6)).length:Int)))) then
  bif ((decide (0≤i_6)) && (decide (i_6<((out_5.set i_6.toNat (bt key_0 i_6)).length:Int)))) then
  k (.c0 key_0 x_1 (w64 (i_6+1)) ((out_5.set i_6.toNat (bt key_0 i_6)).set i_6.toNat (w8 (((BitVec.toNat ((BitVec.ofInt (IntKind.bits IntKind.u8) ((out_5.set i_6.toNat (bt key_0 i_6)).getD i_6.toNat 0)) ^^^ (BitVec.ofInt (IntKind.bits IntKind.u8) x_1))):Nat):Int))))
  else none
  else none
  else none
  else none
  else
  bif ((decide (0≤i_6)) && (decide (i_6<(out_5.length:Int)))) then
  bif ((decide (0≤i_6)) && (decide (i_6<(out_5.length:Int)))) then
  k (.c0 key_0 x_1 (w64 (i_6+1)) (out_5.set i_6.toNat (w8 (((BitVec.toNat ((BitVec.ofInt (IntKind.bits IntKind.u8) (out_5.getD i_6.toNat 0)) ^^^ (BitVec.ofInt (IntKind.bits IntKind.u8) x_1))):Nat):Int))))
  else none
  else none
 else
  some (ofBytes out_5)
noncomputable def Ep:Nat→Hz→Option ByteArray
 | 0,_=>none
 | m+1,s=>CAC Xa (Ep m) s
noncomputable def Iz:WAL:=XAL Xa (Ep gas)
theorem IAh:Tells ctx PP 216 cv28 cv3 (fun a=>Iz a.1 a.2):=
 have b:∀ z0,CutIs ctx PP 216 Tryz.f216 [] [(26,Zo z0)] cv3 YAV (CAC z0):=fun z0 _ s=>by cases s <;> kernel_rfl
 have e:∀ z0,EntryIs ctx PP 216 [] [(26,Zo z0)] cv28 cv3 YAV (fun k a=>XAL z0 k a.1 a.2):=fun z0 _ a=>by kernel_rfl
 fn_ok (hc SAB hl_nil) Tryz.func216 (fun s s' h=>by cases s;cases s';cases h;rfl) (fun _=>rfl) (fun _ _=>rfl) (b Xa) (e Xa) gas
noncomputable def JAh {γ:Type} (F:WAL):Hd ctx γ:=hdl cv28.dec (fun a=>F a.1 a.2) cv3.enc
abbrev Jz:=ByteArray→ByteArray→Option ByteArray
noncomputable def YAL (z0:WAL) (z1:Oi) (key_0:ByteArray) (s_1:ByteArray):Option ByteArray:=
 (z0 key_0 92).bind fun r0=>
 (z0 key_0 54).bind fun r1=>
 bif (decide ((r1.size+s_1.size)≤9223372036854775807)) then
 (z1 (r1++s_1)).bind fun r2=>
 bif (decide ((r0.size+r2.size)≤9223372036854775807)) then
 (z1 (r0++r2)).bind fun r3=>
 some r3
 else none
 else none
noncomputable def Gh:Jz:=YAL Iz Xa
theorem ZAV:Tells ctx PP 205 cv29 cv3 (fun a=>Gh a.1 a.2):=fn_ok0 (hc IAh (hc SAB hl_nil)) Tryz.func205 ((fun z0 z1 a=>by kernel_rfl:∀ z0 z1,EntryIs0 ctx PP 205 [] [(216,JAh z0),(26,Zo z1)] cv29 cv3 fun a=>YAL z0 z1 a.1 a.2) Iz Xa)
noncomputable def ZAL {γ:Type} (F:Jz):Hd ctx γ:=hdl cv29.dec (fun a=>F a.1 a.2) cv3.enc
abbrev AAM:=ByteArray→Int→Int→Option (ByteArray×Bool)
inductive Kz where
 | c0 (key_0:ByteArray) (num_1:Int) (n_2:Int) (i_9:Int) (out_8:(List Int))
noncomputable def AAW:Kz→LI
 | .c0 key_0 num_1 n_2 i_9 out_8=>(tdo Tryz.f181 976,[(0,[.one (.str key_0)]),(1,[.one (.int .i64 num_1)]),(2,[.one (.int .i64 n_2)]),(8,[.one (.own 560)]),(9,[.one (.int .i64 i_9)])],[(560,.sl 5 out_8)])
noncomputable def BAM (z0:LZ) (z1:Xd) (z2:Gz) (z3:Jz) (k:Kz→Option (ByteArray×Bool)) (key_0:ByteArray) (num_1:Int) (n_2:Int):Option (ByteArray×Bool):=
 (z0 num_1 0 1000000000).bind fun r0=>
 bif (!r0) then
 some (⟨#[]⟩,false)
 else
 (z0 n_2 0 8000).bind fun r1=>
 bif (!r1) then
  some (⟨#[]⟩,false)
 else
  k (.c0 key_0 num_1 n_2 0 [])
noncomputable def DAC (z0:LZ) (z1:Xd) (z2:Gz) (z3:Jz) (k:Kz→Option (ByteArray×Bool)):Kz→Option (ByteArray×Bool)
 | .c0 key_0 num_1 n_2 i_9 out_8=>
 bif (decide ((out_8.length:Int)<n_2)) then
  (z1 num_1).bind fun r0=>
  bif (decide (((⟨#[109]⟩:ByteArray).size+r0.size)≤9223372036854775807)) then
  (z2 i_9).bind fun r1=>
  bif (decide ((((⟨#[109]⟩:ByteArray)++r0).size+r1.size)≤9223372036854775807)) then
  (z3 key_0 (((⟨#[109]⟩:ByteArray)++r0)++r1)).bind fun r2=>
  bif (decide (r2.size≤9223372036854775807)) then
  bif (decide (((out_8.length+(bytesOf r2).length)*1)≤140737488355328)) then
  k (.c0 key_0 num_1 n_2 (w64 (i_9+1)) (out_8++(bytesOf r2)))
  else none
  else none
  else none
  else none
 else
  bif ((decide (0≤n_2)) && (decide (n_2≤(out_8.length:Int)))) then
  some ((ofBytes ((out_8.drop 0).take (n_2.toNat - 0))),true)
  else none
noncomputable def Nz:Nat→Kz→Option (ByteArray×Bool)
 | 0,_=>none
 | m+1,s=>DAC CY GZ Fh Gh (Nz m) s
noncomputable def Oz:AAM:=BAM CY GZ Fh Gh (Nz gas)
theorem KAh:Tells ctx PP 181 cv30 cv18 (fun a=>Oz a.1 a.2.1 a.2.2):=
 have b:∀ z0 z1 z2 z3,CutIs ctx PP 181 Tryz.f181 [] [(50,VZ z0),(147,Dh z1),(179,VAL z2),(205,ZAL z3)] cv18 AAW (DAC z0 z1 z2 z3):=fun z0 z1 z2 z3 _ s=>by cases s <;> kernel_rfl
 have e:∀ z0 z1 z2 z3,EntryIs ctx PP 181 [] [(50,VZ z0),(147,Dh z1),(179,VAL z2),(205,ZAL z3)] cv30 cv18 AAW (fun k a=>BAM z0 z1 z2 z3 k a.1 a.2.1 a.2.2):=fun z0 z1 z2 z3 _ a=>by kernel_rfl
 fn_ok (hc Td (hc Bl (hc XAV (hc ZAV hl_nil)))) Tryz.func181 (fun s s' h=>by cases s;cases s';cases h;rfl) (fun _=>rfl) (fun _ _=>rfl) (b CY GZ Fh Gh) (e CY GZ Fh Gh) gas
noncomputable def LAh {γ:Type} (F:AAM):Hd ctx γ:=hdl cv30.dec (fun a=>F a.1 a.2.1 a.2.2) cv18.enc
abbrev CAM:=ByteArray→Int→ByteArray→Option ByteArray
noncomputable def DAM (z0:Xd) (z1:Jz) (key_0:ByteArray) (num_1:Int) (s_2:ByteArray):Option ByteArray:=
 (z0 num_1).bind fun r0=>
 bif (decide (((⟨#[116]⟩:ByteArray).size+r0.size)≤9223372036854775807)) then
 bif (decide ((((⟨#[116]⟩:ByteArray)++r0).size+s_2.size)≤9223372036854775807)) then
 (z1 key_0 (((⟨#[116]⟩:ByteArray)++r0)++s_2)).bind fun r1=>
 bif ((decide ((0:Int)≤(16:Int))) && (decide (16≤(r1.size:Int)))) then
 some (r1.extract 0 (16:Int).toNat)
 else none
 else none
 else none
noncomputable def Pz:CAM:=DAM GZ Gh
theorem MAh:Tells ctx PP 183 cv31 cv3 (fun a=>Pz a.1 a.2.1 a.2.2):=fn_ok0 (hc Bl (hc ZAV hl_nil)) Tryz.func183 ((fun z0 z1 a=>by kernel_rfl:∀ z0 z1,EntryIs0 ctx PP 183 [] [(147,Dh z0),(205,ZAL z1)] cv31 cv3 fun a=>DAM z0 z1 a.1 a.2.1 a.2.2) GZ Gh)
noncomputable def NAh {γ:Type} (F:CAM):Hd ctx γ:=hdl cv31.dec (fun a=>F a.1 a.2.1 a.2.2) cv3.enc
abbrev EAM:=ByteArray→ByteArray→Option Bool
noncomputable def FAM (a_0:ByteArray) (b_1:ByteArray):Option Bool:=
 some ((ByteArray.toList a_0) == (ByteArray.toList b_1))
noncomputable def EAC:EAM:=FAM
theorem OAh:Tells ctx PP 197 cv29 cv6 (fun a=>EAC a.1 a.2):=fn_ok0 hl_nil Tryz.func197 (fun a=>by kernel_rfl:EntryIs0 ctx PP 197 [] [] cv29 cv6 fun a=>FAM a.1 a.2)
noncomputable def PAh {γ:Type} (F:EAM):Hd ctx γ:=hdl cv29.dec (fun a=>F a.1 a.2) cv6.enc
abbrev GAM:=ByteArray→ByteArray→Option ByteArray
inductive Qz where
 | c0 (b_1:ByteArray) (i_6:Int) (out_5:(List Int))
noncomputable def BAW:Qz→LI
 | .c0 b_1 i_6 out_5=>(tdo Tryz.f182 464,[(1,[.one (.str b_1)]),(5,[.one (.own 368)]),(6,[.one (.int .i64 i_6)])],[(368,.sl 5 out_5)])
noncomputable def HAM (k:Qz→Option ByteArray) (a_0:ByteArray) (b_1:ByteArray):Option ByteArray:=
 bif (decide (a_0.size≤9223372036854775807)) then
 k (.c0 b_1 0 (bytesOf a_0))
 else none
noncomputable def FAC (k:Qz→Option ByteArray):Qz→Option ByteArray
 | .c0 b_1 i_6 out_5=>
 bif (decide (i_6<(out_5.length:Int))) then
  bif ((decide (0≤i_6)) && (decide (i_6<(out_5.length:Int)))) then
  bif ((decide (0≤i_6)) && (decide (i_6<(b_1.size:Int)))) then
  bif ((decide (0≤i_6)) && (decide (i_6<(out_5.length:Int)))) then
  k (.c0 b_1 (w64 (i_6+1)) (out_5.set i_6.toNat (w8 (((BitVec.toNat ((BitVec.ofInt (IntKind.bits IntKind.u8) (out_5.getD i_6.toNat 0)) ^^^ (BitVec.ofInt (IntKind.bits IntKind.u8) (bt b_1 i_6)))):Nat):Int))))
  else none
  else none
  else none
 else
  some (ofBytes out_5)
noncomputable def Rz:Nat→Qz→Option ByteArray
 | 0,_=>none
 | m+1,s=>FAC (Rz m) s
noncomputable def Sz:GAM:=HAM (Rz gas)
theorem QAh:Tells ctx PP 182 cv29 cv3 (fun a=>Sz a.1 a.2):=
 have b:CutIs ctx PP 182 Tryz.f182 [] [] cv3 BAW (FAC):=fun _ s=>by cases s <;> kernel_rfl
 have e:EntryIs ctx PP 182 [] [] cv29 cv3 BAW (fun k a=>HAM k a.1 a.2):=fun _ a=>by kernel_rfl
 fn_ok hl_nil Tryz.func182 (fun s s' h=>by cases s;cases s';cases h;rfl) (fun _=>rfl) (fun _ _=>rfl) b e gas
noncomputable def RAh {γ:Type} (F:GAM):Hd ctx γ:=hdl cv29.dec (fun a=>F a.1 a.2) cv3.enc
abbrev GAC:=ByteArray→Int→ByteArray→Option (ByteArray×Bool)
noncomputable def IAM (z0:AAM) (z1:CAM) (z2:EAM) (z3:GAM) (key_0:ByteArray) (num_1:Int) (text_2:ByteArray):Option (ByteArray×Bool):=
 bif (decide ((text_2.size:Int)<16)) then
 some (⟨#[]⟩,false)
 else
 bif ((decide (0≤(w64 ((text_2.size:Int) - 16)))) && (decide ((w64 ((text_2.size:Int) - 16))≤(text_2.size:Int)))) then
 (z0 key_0 num_1 ((text_2.extract 0 (w64 ((text_2.size:Int) - 16)).toNat).size:Int)).bind fun r0=>
 bif (!r0.2) then
  some (⟨#[]⟩,false)
 else
  (z1 key_0 num_1 (text_2.extract 0 (w64 ((text_2.size:Int) - 16)).toNat)).bind fun r1=>
  bif ((decide (0≤((text_2.extract 0 (w64 ((text_2.size:Int) - 16)).toNat).size:Int))) && (decide (((text_2.extract 0 (w64 ((text_2.size:Int) - 16)).toNat).size:Int)≤(text_2.size:Int)))) then
  (z2 r1 (text_2.extract ((text_2.extract 0 (w64 ((text_2.size:Int) - 16)).toNat).size:Int).toNat text_2.size)).bind fun r2=>
  bif (!r2) then
  some (⟨#[]⟩,false)
  else
  (z3 (text_2.extract 0 (w64 ((text_2.size:Int) - 16)).toNat) r0.1).bind fun r3=>
  some (r3,true)
  else none
 else none
noncomputable def Gl:GAC:=IAM Oz Pz EAC Sz
theorem SAh:Tells ctx PP 165 cv31 cv18 (fun a=>Gl a.1 a.2.1 a.2.2):=fn_ok0 (hc KAh (hc MAh (hc OAh (hc QAh hl_nil)))) Tryz.func165 ((fun z0 z1 z2 z3 a=>by kernel_rfl:∀ z0 z1 z2 z3,EntryIs0 ctx PP 165 [] [(181,LAh z0),(183,NAh z1),(197,PAh z2),(182,RAh z3)] cv31 cv18 fun a=>IAM z0 z1 z2 z3 a.1 a.2.1 a.2.2) Oz Pz EAC Sz)
noncomputable def CAW {γ:Type} (F:GAC):Hd ctx γ:=hdl cv31.dec (fun a=>F a.1 a.2.1 a.2.2) cv18.enc
abbrev Tz:=SL19Cur→Int→Option (ByteArray×SL19Cur)
noncomputable def HAC (c_0:SL19Cur) (n_1:Int):Option (ByteArray×SL19Cur):=
 bif c_0.fBad then
 some (⟨#[]⟩,⟨c_0.fText,c_0.fAt,true⟩)
 else
 bif (decide (n_1 > (w64 ((c_0.fText.size:Int) - c_0.fAt)))) then
  some (⟨#[]⟩,⟨c_0.fText,c_0.fAt,true⟩)
 else
  bif (((decide (0≤(w64 ((w64 (c_0.fAt+n_1)) - n_1)))) && (decide ((w64 ((w64 (c_0.fAt+n_1)) - n_1))≤(w64 (c_0.fAt+n_1))))) && (decide ((w64 (c_0.fAt+n_1))≤(c_0.fText.size:Int)))) then
  some ((c_0.fText.extract (w64 ((w64 (c_0.fAt+n_1)) - n_1)).toNat (w64 (c_0.fAt+n_1)).toNat),⟨c_0.fText,(w64 (c_0.fAt+n_1)),c_0.fBad⟩)
  else none
noncomputable def Dc:Tz:=HAC
theorem JAM:Tells ctx PP 199 cv107 cv108 (fun a=>Dc a.1 a.2):=fn_ok0 hl_nil Tryz.func199 (fun a=>by kernel_rfl:EntryIs0 ctx PP 199 [0] [] cv107 cv108 fun a=>HAC a.1 a.2)
noncomputable def KAM {γ:Type} (F:Tz):Hd ctx γ:=hdl cv107.dec (fun a=>F a.1 a.2) cv108.enc
abbrev IAC:=SL19Cur→Option (Int×SL19Cur)
noncomputable def JAC (z0:Tz) (c_0:SL19Cur):Option (Int×SL19Cur):=
 (z0 c_0 1).bind fun r0=>
 bif r0.2.fBad then
 some (0,r0.2)
 else
 bif ((decide ((0:Int)≤(0:Int))) && (decide (0<(r0.1.size:Int)))) then
 some ((w64 (bt r0.1 0)),r0.2)
 else none
noncomputable def Ic:IAC:=JAC Dc
theorem DAW:Tells ctx PP 198 cv109 cv110 (fun a=>Ic a):=fn_ok0 (hc JAM hl_nil) Tryz.func198 ((fun z0 a=>by kernel_rfl:∀ z0,EntryIs0 ctx PP 198 [0] [(199,KAM z0)] cv109 cv110 fun a=>JAC z0 a) Dc)
noncomputable def EAW {γ:Type} (F:IAC):Hd ctx γ:=hdl cv109.dec (fun a=>F a) cv110.enc
abbrev Uz:=SL19Cur→Option (Int×SL19Cur)
noncomputable def KAC (z0:Xy) (c_0:SL19Cur):Option (Int×SL19Cur):=
 (z0 c_0.fText c_0.fAt).bind fun r0=>
 bif c_0.fBad then
 some (0,⟨c_0.fText,c_0.fAt,true⟩)
 else
 bif (!r0.2.2) then
  some (0,⟨c_0.fText,c_0.fAt,true⟩)
 else
  some (r0.1,⟨c_0.fText,r0.2.1,c_0.fBad⟩)
noncomputable def Zd:Uz:=KAC Ya
theorem LAM:Tells ctx PP 200 cv109 cv110 (fun a=>Zd a):=fn_ok0 (hc SAV hl_nil) Tryz.func200 ((fun z0 a=>by kernel_rfl:∀ z0,EntryIs0 ctx PP 200 [0] [(196,KAL z0)] cv109 cv110 fun a=>KAC z0 a) Ya)
noncomputable def MAM {γ:Type} (F:Uz):Hd ctx γ:=hdl cv109.dec (fun a=>F a) cv110.enc
abbrev NAM:=SL19Cur→Option (ByteArray×SL19Cur)
noncomputable def LAC (z0:Uz) (z1:Tz) (c_0:SL19Cur):Option (ByteArray×SL19Cur):=
 (z0 c_0).bind fun r0=>
 (z1 r0.2 r0.1).bind fun r1=>
 some (r1.1,r1.2)
noncomputable def Hl:NAM:=LAC Zd Dc
theorem TAh:Tells ctx PP 213 cv109 cv108 (fun a=>Hl a):=fn_ok0 (hc LAM (hc JAM hl_nil)) Tryz.func213 ((fun z0 z1 a=>by kernel_rfl:∀ z0 z1,EntryIs0 ctx PP 213 [0] [(200,MAM z0),(199,KAM z1)] cv109 cv108 fun a=>LAC z0 z1 a) Zd Dc)
noncomputable def UAh {γ:Type} (F:NAM):Hd ctx γ:=hdl cv109.dec (fun a=>F a) cv108.enc
abbrev Vz:=SThing→Option Bool
noncomputable def OAM (z0:LZ) (x_0:SThing):Option Bool:=
 (z0 x_0.fId 1 1000).bind fun r0=>
 bif (!r0) then
 some false
 else
 (z0 x_0.fKind 1 3).bind fun r1=>
 bif (!r1) then
  some false
 else
  (z0 x_0.fNext 0 16).bind fun r2=>
  bif (!r2) then
  some false
  else
  bif (x_0.fKind != 2) then
   bif (x_0.fNext != 0) then
   some false
   else
   bif x_0.fSigns then
    some false
   else
    bif (x_0.fKind != 1) then
    bif x_0.fWraps then
     some false
    else
     bif (x_0.fKind == 3) then
     some (decide ((x_0.fValue.size:Int)≤100))
     else
     some ((x_0.fValue.size:Int) == 32)
    else
    bif (x_0.fKind == 3) then
     some (decide ((x_0.fValue.size:Int)≤100))
    else
     some ((x_0.fValue.size:Int) == 32)
  else
   bif (x_0.fKind != 1) then
   bif x_0.fWraps then
    some false
   else
    bif (x_0.fKind == 3) then
    some (decide ((x_0.fValue.size:Int)≤100))
    else
    some ((x_0.fValue.size:Int) == 32)
   else
   bif (x_0.fKind == 3) then
    some (decide ((x_0.fValue.size:Int)≤100))
   else
    some ((x_0.fValue.size:Int) == 32)
noncomputable def Ih:Vz:=OAM CY
theorem FAW:Tells ctx PP 120 cv16 cv6 (fun a=>Ih a):=fn_ok0 (hc Td hl_nil) Tryz.func120 ((fun z0 a=>by kernel_rfl:∀ z0,EntryIs0 ctx PP 120 [] [(50,VZ z0)] cv16 cv6 fun a=>OAM z0 a) CY)
noncomputable def PAM {γ:Type} (F:Vz):Hd ctx γ:=hdl cv16.dec (fun a=>F a) cv6.enc
abbrev QAM:=Bool→Int→Option Int
noncomputable def GAW (x_0:Bool) (n_1:Int):Option Int:=
 bif x_0 then
 some n_1
 else
 some 0
noncomputable def NAC:QAM:=GAW
theorem VAh:Tells ctx PP 178 cv17 cv15 (fun a=>NAC a.1 a.2):=fn_ok0 hl_nil Tryz.func178 (fun a=>by kernel_rfl:EntryIs0 ctx PP 178 [] [] cv17 cv15 fun a=>GAW a.1 a.2)
noncomputable def WAh {γ:Type} (F:QAM):Hd ctx γ:=hdl cv17.dec (fun a=>F a.1 a.2) cv15.enc
abbrev RAM:=ByteArray→Option ByteArray
noncomputable def SAM (z0:Xd) (s_0:ByteArray):Option ByteArray:=
 (z0 (s_0.size:Int)).bind fun r0=>
 bif (decide ((r0.size+s_0.size)≤9223372036854775807)) then
 some (r0++s_0)
 else none
noncomputable def Xz:RAM:=SAM GZ
theorem XAh:Tells ctx PP 180 cv3 cv3 (fun a=>Xz a):=fn_ok0 (hc Bl hl_nil) Tryz.func180 ((fun z0 a=>by kernel_rfl:∀ z0,EntryIs0 ctx PP 180 [] [(147,Dh z0)] cv3 cv3 fun a=>SAM z0 a) GZ)
noncomputable def YAh {γ:Type} (F:RAM):Hd ctx γ:=hdl cv3.dec (fun a=>F a) cv3.enc
abbrev OAC:=SThing→Option (ByteArray×Bool)
noncomputable def TAM (z0:Vz) (z1:QAM) (z2:Xd) (z3:Gz) (z4:RAM) (x_0:SThing):Option (ByteArray×Bool):=
 (z0 x_0).bind fun r0=>
 bif (!r0) then
 some (⟨#[]⟩,false)
 else
 (z1 x_0.fHidden 1).bind fun r1=>
 (z1 x_0.fFixed 2).bind fun r2=>
 (z1 x_0.fSigns 4).bind fun r3=>
 (z1 x_0.fWraps 8).bind fun r4=>
 (z2 x_0.fId).bind fun r5=>
 (z3 x_0.fKind).bind fun r6=>
 bif (decide ((r5.size+r6.size)≤9223372036854775807)) then
 (z3 (w64 ((w64 ((w64 (r1+r2))+r3))+r4))).bind fun r7=>
 bif (decide (((r5++r6).size+r7.size)≤9223372036854775807)) then
 (z4 x_0.fValue).bind fun r8=>
 bif (decide ((((r5++r6)++r7).size+r8.size)≤9223372036854775807)) then
 (z2 x_0.fNext).bind fun r9=>
 bif (decide (((((r5++r6)++r7)++r8).size+r9.size)≤9223372036854775807)) then
 some (((((r5++r6)++r7)++r8)++r9),true)
 else none
 else none
 else none
 else none
noncomputable def Il:OAC:=TAM Ih NAC GZ Fh Xz
theorem HAW:Tells ctx PP 148 cv16 cv18 (fun a=>Il a):=fn_ok0 (hc FAW (hc VAh (hc Bl (hc XAV (hc XAh hl_nil))))) Tryz.func148 ((fun z0 z1 z2 z3 z4 a=>by kernel_rfl:∀ z0 z1 z2 z3 z4,EntryIs0 ctx PP 148 [] [(120,PAM z0),(178,WAh z1),(147,Dh z2),(179,VAL z3),(180,YAh z4)] cv16 cv18 fun a=>TAM z0 z1 z2 z3 z4 a) Ih NAC GZ Fh Xz)
noncomputable def IAW {γ:Type} (F:OAC):Hd ctx γ:=hdl cv16.dec (fun a=>F a) cv18.enc
abbrev UAM:=ByteArray→Option (SThing×Bool)
noncomputable def PAC (z0:Uz) (z1:IAC) (z2:NAM) (z3:OAC) (text_0:ByteArray):Option (SThing×Bool):=
 (z0 ⟨text_0,0,false⟩).bind fun r0=>
 (z1 r0.2).bind fun r1=>
 (z1 r1.2).bind fun r2=>
 (z2 r2.2).bind fun r3=>
 (z0 r3.2).bind fun r4=>
 (z3 ⟨r0.1,r1.1,((r2.1.tmod 2) == 1),(((w64 (r2.1.tdiv 2)).tmod 2) == 1),(((w64 (r2.1.tdiv 4)).tmod 2) == 1),(((w64 (r2.1.tdiv 8)).tmod 2) == 1),r3.1,r4.1⟩).bind fun r5=>
 bif r4.2.fBad then
 some (⟨0,0,false,false,false,false,⟨#[]⟩,0⟩,false)
 else
 bif (!r5.2) then
  some (⟨0,0,false,false,false,false,⟨#[]⟩,0⟩,false)
 else
  bif (!((ByteArray.toList r5.1) == (ByteArray.toList text_0))) then
  some (⟨0,0,false,false,false,false,⟨#[]⟩,0⟩,false)
  else
  some (⟨r0.1,r1.1,((r2.1.tmod 2) == 1),(((w64 (r2.1.tdiv 2)).tmod 2) == 1),(((w64 (r2.1.tdiv 4)).tmod 2) == 1),(((w64 (r2.1.tdiv 8)).tmod 2) == 1),r3.1,r4.1⟩,true)
noncomputable def Qi:UAM:=PAC Zd Ic Hl Il
theorem ZAh:Tells ctx PP 201 cv3 cv22 (fun a=>Qi a):=fn_ok0 (hc LAM (hc DAW (hc TAh (hc HAW hl_nil)))) Tryz.func201 ((fun z0 z1 z2 z3 a=>by kernel_rfl:∀ z0 z1 z2 z3,EntryIs0 ctx PP 201 [] [(200,MAM z0),(198,EAW z1),(213,UAh z2),(148,IAW z3)] cv3 cv22 fun a=>PAC z0 z1 z2 z3 a) Zd Ic Hl Il)
noncomputable def AAi {γ:Type} (F:UAM):Hd ctx γ:=hdl cv3.dec (fun a=>F a) cv22.enc
abbrev Yz:=SRec→Option (ByteArray×Bool)
noncomputable def VAM (z0:LZ) (z1:Xd) (z2:OAC) (r_0:SRec):Option (ByteArray×Bool):=
 bif (r_0.fKind == 1) then
 bif ((r_0.fText.size:Int) == 32) then
  bif (r_0.fNum == 0) then
  bif ((r_0.fThing.fId == 0) && ((r_0.fThing.fKind == 0) && ((r_0.fThing.fHidden == false) && ((r_0.fThing.fFixed == false) && ((r_0.fThing.fSigns == false) && ((r_0.fThing.fWraps == false) && (((ByteArray.toList r_0.fThing.fValue) == (ByteArray.toList ⟨#[]⟩)) && ((r_0.fThing.fNext == 0) && true)))))))) then
   bif (decide (((⟨#[1]⟩:ByteArray).size+r_0.fText.size)≤9223372036854775807)) then
   some (((⟨#[1]⟩:ByteArray)++r_0.fText),true)
   else none
  else
   some (⟨#[]⟩,false)
  else
  some (⟨#[]⟩,false)
 else
  some (⟨#[]⟩,false)
 else
 bif (r_0.fKind == 2) then
  bif ((ByteArray.toList r_0.fText) == (ByteArray.toList ⟨#[]⟩)) then
  bif ((r_0.fThing.fId == 0) && ((r_0.fThing.fKind == 0) && ((r_0.fThing.fHidden == false) && ((r_0.fThing.fFixed == false) && ((r_0.fThing.fSigns == false) && ((r_0.fThing.fWraps == false) && (((ByteArray.toList r_0.fThing.fValue) == (ByteArray.toList ⟨#[]⟩)) && ((r_0.fThing.fNext == 0) && true)))))))) then
   (z0 r_0.fNum 0 3).bind fun r0=>
   bif r0 then
   (z1 r_0.fNum).bind fun r1=>
   bif (decide (((⟨#[2]⟩:ByteArray).size+r1.size)≤9223372036854775807)) then
   some (((⟨#[2]⟩:ByteArray)++r1),true)
   else none
   else
   some (⟨#[]⟩,false)
  else
   some (⟨#[]⟩,false)
  else
  some (⟨#[]⟩,false)
 else
  bif (r_0.fKind == 3) then
  (z2 r_0.fThing).bind fun r2=>
  bif r2.2 then
   bif ((ByteArray.toList r_0.fText) == (ByteArray.toList ⟨#[]⟩)) then
   bif (r_0.fNum == 0) then
    bif (decide (((⟨#[3]⟩:ByteArray).size+r2.1.size)≤9223372036854775807)) then
    some (((⟨#[3]⟩:ByteArray)++r2.1),true)
    else none
   else
    some (⟨#[]⟩,false)
   else
   some (⟨#[]⟩,false)
  else
   some (⟨#[]⟩,false)
  else
  bif (r_0.fKind == 4) then
   bif ((ByteArray.toList r_0.fText) == (ByteArray.toList ⟨#[]⟩)) then
   bif ((r_0.fThing.fId == 0) && ((r_0.fThing.fKind == 0) && ((r_0.fThing.fHidden == false) && ((r_0.fThing.fFixed == false) && ((r_0.fThing.fSigns == false) && ((r_0.fThing.fWraps == false) && (((ByteArray.toList r_0.fThing.fValue) == (ByteArray.toList ⟨#[]⟩)) && ((r_0.fThing.fNext == 0) && true)))))))) then
    (z0 r_0.fNum 1 1000).bind fun r3=>
    bif r3 then
    (z1 r_0.fNum).bind fun r4=>
    bif (decide (((⟨#[4]⟩:ByteArray).size+r4.size)≤9223372036854775807)) then
    some (((⟨#[4]⟩:ByteArray)++r4),true)
    else none
    else
    some (⟨#[]⟩,false)
   else
    some (⟨#[]⟩,false)
   else
   some (⟨#[]⟩,false)
  else
   some (⟨#[]⟩,false)
noncomputable def Jh:Yz:=VAM CY GZ Il
theorem JAW:Tells ctx PP 92 cv19 cv18 (fun a=>Jh a):=fn_ok0 (hc Td (hc Bl (hc HAW hl_nil))) Tryz.func92 ((fun z0 z1 z2 a=>by kernel_rfl:∀ z0 z1 z2,EntryIs0 ctx PP 92 [] [(50,VZ z0),(147,Dh z1),(148,IAW z2)] cv19 cv18 fun a=>VAM z0 z1 z2 a) CY GZ Il)
noncomputable def WAM {γ:Type} (F:Yz):Hd ctx γ:=hdl cv19.dec (fun a=>F a) cv18.enc
abbrev QAC:=ByteArray→Option (SRec×Bool)
noncomputable def Jl (z0:IAC) (z1:Tz) (z2:Uz) (z3:UAM) (z4:Yz) (text_0:ByteArray):Option (SRec×Bool):=
 (z0 ⟨text_0,0,false⟩).bind fun r0=>
 bif (r0.1 == 1) then
 (z1 r0.2 32).bind fun r1=>
 (z4 ⟨r0.1,r1.1,0,⟨0,0,false,false,false,false,⟨#[]⟩,0⟩⟩).bind fun r2=>
 bif r1.2.fBad then
  some (⟨0,⟨#[]⟩,0,⟨0,0,false,false,false,false,⟨#[]⟩,0⟩⟩,false)
 else
  bif (!r2.2) then
  some (⟨0,⟨#[]⟩,0,⟨0,0,false,false,false,false,⟨#[]⟩,0⟩⟩,false)
  else
  bif (!((ByteArray.toList r2.1) == (ByteArray.toList text_0))) then
   some (⟨0,⟨#[]⟩,0,⟨0,0,false,false,false,false,⟨#[]⟩,0⟩⟩,false)
  else
   some (⟨r0.1,r1.1,0,⟨0,0,false,false,false,false,⟨#[]⟩,0⟩⟩,true)
 else
 bif (r0.1 == 2) then
  bif (r0.1 == 2) then
  (z2 r0.2).bind fun r3=>
  (z4 ⟨r0.1,⟨#[]⟩,r3.1,⟨0,0,false,false,false,false,⟨#[]⟩,0⟩⟩).bind fun r4=>
  bif r3.2.fBad then
   some (⟨0,⟨#[]⟩,0,⟨0,0,false,false,false,false,⟨#[]⟩,0⟩⟩,false)
  else
   bif (!r4.2) then
   some (⟨0,⟨#[]⟩,0,⟨0,0,false,false,false,false,⟨#[]⟩,0⟩⟩,false)
   else
   bif (!((ByteArray.toList r4.1) == (ByteArray.toList text_0))) then
    some (⟨0,⟨#[]⟩,0,⟨0,0,false,false,false,false,⟨#[]⟩,0⟩⟩,false)
   else
    some (⟨r0.1,⟨#[]⟩,r3.1,⟨0,0,false,false,false,false,⟨#[]⟩,0⟩⟩,true)
  else
  bif (r0.1 == 3) then
   bif ((decide ((0:Int)≤(1:Int))) && (decide (1≤(text_0.size:Int)))) then
   (z3 (text_0.extract (1:Int).toNat text_0.size)).bind fun r5=>
   (z4 ⟨r0.1,⟨#[]⟩,0,r5.1⟩).bind fun r6=>
   bif r0.2.fBad then
   some (⟨0,⟨#[]⟩,0,⟨0,0,false,false,false,false,⟨#[]⟩,0⟩⟩,false)
   else
   bif (!r6.2) then
    some (⟨0,⟨#[]⟩,0,⟨0,0,false,false,false,false,⟨#[]⟩,0⟩⟩,false)
   else
    bif (!((ByteArray.toList r6.1) == (ByteArray.toList text_0))) then
    some (⟨0,⟨#[]⟩,0,⟨0,0,false,false,false,false,⟨#[]⟩,0⟩⟩,false)
    else
    some (⟨r0.1,⟨#[]⟩,0,r5.1⟩,true)
   else none
  else
   (z4 ⟨r0.1,⟨#[]⟩,0,⟨0,0,false,false,false,false,⟨#[]⟩,0⟩⟩).bind fun r7=>
   bif r0.2.fBad then
   some (⟨0,⟨#[]⟩,0,⟨0,0,false,false,false,false,⟨#[]⟩,0⟩⟩,false)
   else
   bif (!r7.2) then
    some (⟨0,⟨#[]⟩,0,⟨0,0,false,false,false,false,⟨#[]⟩,0⟩⟩,false)
   else
    bif (!((ByteArray.toList r7.1) == (ByteArray.toList text_0))) then
    some (⟨0,⟨#[]⟩,0,⟨0,0,false,false,false,false,⟨#[]⟩,0⟩⟩,false)
    else
    some (⟨r0.1,⟨#[]⟩,0,⟨0,0,false,false,false,false,⟨#[]⟩,0⟩⟩,true)
 else
  bif (r0.1 == 4) then
  (z2 r0.2).bind fun r8=>
  (z4 ⟨r0.1,⟨#[]⟩,r8.1,⟨0,0,false,false,false,false,⟨#[]⟩,0⟩⟩).bind fun r9=>
  bif r8.2.fBad then
   some (⟨0,⟨#[]⟩,0,⟨0,0,false,false,false,false,⟨#[]⟩,0⟩⟩,false)
  else
   bif (!r9.2) then
   some (⟨0,⟨#[]⟩,0,⟨0,0,false,false,false,false,⟨#[]⟩,0⟩⟩,false)
   else
   bif (!((ByteArray.toList r9.1) == (ByteArray.toList text_0))) then
    some (⟨0,⟨#[]⟩,0,⟨0,0,false,false,false,false,⟨#[]⟩,0⟩⟩,false)
   else
    some (⟨r0.1,⟨#[]⟩,r8.1,⟨0,0,false,false,false,false,⟨#[]⟩,0⟩⟩,true)
  else
  bif (r0.1 == 3) then
   bif ((decide ((0:Int)≤(1:Int))) && (decide (1≤(text_0.size:Int)))) then
   (z3 (text_0.extract (1:Int).toNat text_0.size)).bind fun r10=>
   (z4 ⟨r0.1,⟨#[]⟩,0,r10.1⟩).bind fun r11=>
   bif r0.2.fBad then
   some (⟨0,⟨#[]⟩,0,⟨0,0,false,false,false,false,⟨#[]⟩,0⟩⟩,false)
   else
   bif (!r11.2) then
    some (⟨0,⟨#[]⟩,0,⟨0,0,false,false,false,false,⟨#[]⟩,0⟩⟩,false)
   else
    bif (!((ByteArray.toList r11.1) == (ByteArray.toList text_0))) then
    some (⟨0,⟨#[]⟩,0,⟨0,0,false,false,false,false,⟨#[]⟩,0⟩⟩,false)
    else
    some (⟨r0.1,⟨#[]⟩,0,r10.1⟩,true)
   else none
  else
   (z4 ⟨r0.1,⟨#[]⟩,0,⟨0,0,false,false,false,false,⟨#[]⟩,0⟩⟩).bind fun r12=>
   bif r0.2.fBad then
   some (⟨0,⟨#[]⟩,0,⟨0,0,false,false,false,false,⟨#[]⟩,0⟩⟩,false)
   else
   bif (!r12.2) then
    some (⟨0,⟨#[]⟩,0,⟨0,0,false,false,false,false,⟨#[]⟩,0⟩⟩,false)
   else
    bif (!((ByteArray.toList r12.1) == (ByteArray.toList text_0))) then
    some (⟨0,⟨#[]⟩,0,⟨0,0,false,false,false,false,⟨#[]⟩,0⟩⟩,false)
    else
    some (⟨r0.1,⟨#[]⟩,0,⟨0,0,false,false,false,false,⟨#[]⟩,0⟩⟩,true)
noncomputable def Za:QAC:=Jl Ic Dc Zd Qi Jh
theorem BAi:Tells ctx PP 166 cv3 cv111 (fun a=>Za a):=fn_ok0 (hc DAW (hc JAM (hc LAM (hc ZAh (hc JAW hl_nil))))) Tryz.func166 ((fun z0 z1 z2 z3 z4 a=>by kernel_rfl:∀ z0 z1 z2 z3 z4,EntryIs0 ctx PP 166 [] [(198,EAW z0),(199,KAM z1),(200,MAM z2),(201,AAi z3),(92,WAM z4)] cv3 cv111 fun a=>Jl z0 z1 z2 z3 z4 a) Ic Dc Zd Qi Jh)
noncomputable def KAW {γ:Type} (F:QAC):Hd ctx γ:=hdl cv3.dec (fun a=>F a) cv111.enc
abbrev XAM:=ByteArray→ByteArray→Option ((List SRec)×Int)
inductive Zz where
 | c0 (key_0:ByteArray) (end_9:Int) (i_10:Int) (out_6:(List SRec)) (list_7:(List ByteArray))
noncomputable def MAW:Zz→LI
 | .c0 key_0 end_9 i_10 out_6 list_7=>(tdo Tryz.f118 2000,[(0,[.one (.str key_0)]),(6,[.one (.own 432)]),(7,[.one (.own 496)]),(9,[.one (.int .i64 end_9)]),(10,[.one (.int .i64 i_10)])],[(432,.sl 71 out_6),(496,.sl 9 list_7)])
noncomputable def YAM (z0:AAC) (z1:GAC) (z2:QAC) (z3:Dp) (k:Zz→Option ((List SRec)×Int)) (key_0:ByteArray) (file_1:ByteArray):Option ((List SRec)×Int):=
 (z0 file_1).bind fun r0=>
 k (.c0 key_0 0 0 [] r0.1)
noncomputable def RAC (z0:AAC) (z1:GAC) (z2:QAC) (z3:Dp) (k:Zz→Option ((List SRec)×Int)):Zz→Option ((List SRec)×Int)
 | .c0 key_0 end_9 i_10 out_6 list_7=>
 bif (decide (i_10<(list_7.length:Int))) then
  bif ((decide (0≤i_10)) && (decide (i_10<(list_7.length:Int)))) then
  (z1 key_0 (w64 (i_10+1)) (list_7.getD i_10.toNat (⟨#[]⟩:ByteArray))).bind fun r0=>
  (z2 r0.1).bind fun r1=>
  bif (!r0.2) then
  some (out_6,end_9)
  else
  bif (!r1.2) then
   some (out_6,end_9)
  else
   bif (decide (((out_6.length+1)*80)≤140737488355328)) then
   bif ((decide (0≤i_10)) && (decide (i_10<(list_7.length:Int)))) then
   (z3 (list_7.getD i_10.toNat (⟨#[]⟩:ByteArray))).bind fun r2=>
   k (.c0 key_0 (w64 (end_9+(r2.1.size:Int))) (w64 (i_10+1)) (out_6++[r1.1]) list_7)
   else none
   else none
  else none
 else
  some (out_6,end_9)
noncomputable def O0:Nat→Zz→Option ((List SRec)×Int)
 | 0,_=>none
 | m+1,s=>RAC Dl Gl Za Yd (O0 m) s
noncomputable def U0:XAM:=YAM Dl Gl Za Yd (O0 gas)
theorem CAi:Tells ctx PP 118 cv29 cv112 (fun a=>U0 a.1 a.2):=
 have b:∀ z0 z1 z2 z3,CutIs ctx PP 118 Tryz.f118 [] [(164,WAV z0),(165,CAW z1),(166,KAW z2),(150,ZAB z3)] cv112 MAW (RAC z0 z1 z2 z3):=fun z0 z1 z2 z3 _ s=>by cases s <;> kernel_rfl
 have e:∀ z0 z1 z2 z3,EntryIs ctx PP 118 [] [(164,WAV z0),(165,CAW z1),(166,KAW z2),(150,ZAB z3)] cv29 cv112 MAW (fun k a=>YAM z0 z1 z2 z3 k a.1 a.2):=fun z0 z1 z2 z3 _ a=>by kernel_rfl
 fn_ok (hc HAh (hc SAh (hc BAi (hc UAV hl_nil)))) Tryz.func118 (fun s s' h=>by cases s;cases s';cases h;rfl) (fun _=>rfl) (fun _ _=>rfl) (b Dl Gl Za Yd) (e Dl Gl Za Yd) gas
noncomputable def EAi {γ:Type} (F:XAM):Hd ctx γ:=hdl cv29.dec (fun a=>F a.1 a.2) cv112.enc
abbrev Fp:=SBook→Option SBook
noncomputable def ZAM (b_0:SBook):Option SBook:=
 bif (decide (((0+b_0.fThings.length)*48)≤140737488355328)) then
 some ⟨b_0.fWord,b_0.fTries,([]++b_0.fThings),b_0.fLast,b_0.fChain,b_0.fCount⟩
 else none
noncomputable def Ae:Fp:=ZAM
theorem NAW:Tells ctx PP 93 cv20 cv14 (fun a=>Ae a):=fn_ok0 hl_nil Tryz.func93 (fun a=>by kernel_rfl:EntryIs0 ctx PP 93 [] [] cv20 cv14 fun a=>ZAM a)
noncomputable def SAC {γ:Type} (F:Fp):Hd ctx γ:=hdl cv20.dec (fun a=>F a) cv14.enc
abbrev Gp:=SBook→Option Bool
inductive X0 where
 | c0 (i_3:Int) (b_1:SBook)
noncomputable def OAW:X0→LI
 | .c0 i_3 b_1=>(tdo Tryz.f53 464,[(1,[.one (.ptr 64 0)]),(3,[.one (.int .i64 i_3)])],[(64,.var [.str b_1.fWord,.int .i64 b_1.fTries,.rsl 69 b_1.fThings,.int .i64 b_1.fLast,.str b_1.fChain,.int .i64 b_1.fCount])])
noncomputable def AAN (z0:LZ) (z1:Vz) (k:X0→Option Bool) (b_0:SBook):Option Bool:=
 bif ((b_0.fWord.size:Int) != 32) then
 some false
 else
 bif ((b_0.fChain.size:Int) != 32) then
  some false
 else
  (z0 b_0.fTries 0 3).bind fun r0=>
  bif (!r0) then
  some false
  else
  bif (decide ((b_0.fThings.length:Int) > 8)) then
   some false
  else
   (z0 b_0.fLast 0 1000).bind fun r1=>
   bif (!r1) then
   some false
   else
   (z0 b_0.fCount 0 10000).bind fun r2=>
   bif (!r2) then
    some false
   else
    k (.c0 0 b_0)
noncomputable def UAC (z0:LZ) (z1:Vz) (k:X0→Option Bool):X0→Option Bool
 | .c0 i_3 b_1=>
 bif (decide (i_3<(b_1.fThings.length:Int))) then
  bif ((decide (0≤i_3)) && (decide (i_3<(b_1.fThings.length:Int)))) then
  (z1 (b_1.fThings.getD i_3.toNat (⟨0,0,false,false,false,false,⟨#[]⟩,0⟩:SThing))).bind fun r0=>
  bif (!r0) then
  some false
  else
  bif ((decide (0≤i_3)) && (decide (i_3<(b_1.fThings.length:Int)))) then
  bif (decide ((b_1.fThings.getD i_3.toNat (⟨0,0,false,false,false,false,⟨#[]⟩,0⟩:SThing)).fId > b_1.fLast)) then
   some false
  else
   bif (decide (i_3 > 0)) then
   bif ((decide (0≤(w64 (i_3 - 1)))) && (decide ((w64 (i_3 - 1))<(b_1.fThings.length:Int)))) then
   bif ((decide (0≤i_3)) && (decide (i_3<(b_1.fThings.length:Int)))) then
   bif (decide ((b_1.fThings.getD (w64 (i_3 - 1)).toNat (⟨0,0,false,false,false,false,⟨#[]⟩,0⟩:SThing)).fId≥(b_1.fThings.getD i_3.toNat (⟨0,0,false,false,false,false,⟨#[]⟩,0⟩:SThing)).fId)) then
    some false
   else
    k (.c0 (w64 (i_3+1)) b_1)
   else none
   else none
   else
   k (.c0 (w64 (i_3+1)) b_1)
  else none
  else none
 else
  some true
noncomputable def Ll:Nat→X0→Option Bool
 | 0,_=>none
 | m+1,s=>UAC CY Ih (Ll m) s
noncomputable def Ce:Gp:=AAN CY Ih (Ll gas)
theorem PAW:Tells ctx PP 53 cv20 cv6 (fun a=>Ce a):=
 have b:∀ z0 z1,CutIs ctx PP 53 Tryz.f53 [] [(50,VZ z0),(120,PAM z1)] cv6 OAW (UAC z0 z1):=fun z0 z1 _ s=>by cases s <;> kernel_rfl
 have e:∀ z0 z1,EntryIs ctx PP 53 [] [(50,VZ z0),(120,PAM z1)] cv20 cv6 OAW (fun k a=>AAN z0 z1 k a):=fun z0 z1 _ a=>by kernel_rfl
 fn_ok (hc Td (hc FAW hl_nil)) Tryz.func53 (fun s s' h=>by cases s;cases s';(repeat cases ‹SBook›);cases h;rfl) (fun _=>rfl) (fun _ _=>rfl) (b CY Ih) (e CY Ih) gas
noncomputable def VAC {γ:Type} (F:Gp):Hd ctx γ:=hdl cv20.dec (fun a=>F a) cv6.enc
abbrev Ip:=SBook→Int→Option (SThing×Bool)
inductive Y0 where
 | c0 (id_1:Int) (i_6:Int) (b_2:SBook) (v_4:SThing)
noncomputable def QAW:Y0→LI
 | .c0 id_1 i_6 b_2 v_4=>(tdo Tryz.f94 208,[(1,[.one (.int .i64 id_1)]),(2,[.one (.ptr 128 0)]),(4,[.one (.ptr 256 0)]),(6,[.one (.int .i64 i_6)])],[(128,.var [.str b_2.fWord,.int .i64 b_2.fTries,.rsl 69 b_2.fThings,.int .i64 b_2.fLast,.str b_2.fChain,.int .i64 b_2.fCount]),(256,.var [.int .i64 v_4.fId,.int .i64 v_4.fKind,.bool v_4.fHidden,.bool v_4.fFixed,.bool v_4.fSigns,.bool v_4.fWraps,.str v_4.fValue,.int .i64 v_4.fNext])])
noncomputable def RAW (k:Y0→Option (SThing×Bool)) (b_0:SBook) (id_1:Int):Option (SThing×Bool):=
 k (.c0 id_1 0 b_0 ⟨0,0,false,false,false,false,⟨#[]⟩,0⟩)
noncomputable def WAC (k:Y0→Option (SThing×Bool)):Y0→Option (SThing×Bool)
 | .c0 id_1 i_6 b_2 v_4=>
 bif (decide (i_6<(b_2.fThings.length:Int))) then
  bif ((decide (0≤i_6)) && (decide (i_6<(b_2.fThings.length:Int)))) then
  bif ((b_2.fThings.getD i_6.toNat (⟨0,0,false,false,false,false,⟨#[]⟩,0⟩:SThing)).fId == id_1) then
  bif ((decide (0≤i_6)) && (decide (i_6<(b_2.fThings.length:Int)))) then
  some ((b_2.fThings.getD i_6.toNat (⟨0,0,false,false,false,false,⟨#[]⟩,0⟩:SThing)),true)
  else none
  else
  k (.c0 id_1 (w64 (i_6+1)) b_2 v_4)
  else none
 else
  some (⟨0,0,false,false,false,false,⟨#[]⟩,0⟩,false)
noncomputable def Jp:Nat→Y0→Option (SThing×Bool)
 | 0,_=>none
 | m+1,s=>WAC (Jp m) s
noncomputable def Uf:Ip:=RAW (Jp gas)
theorem SAW:Tells ctx PP 94 cv21 cv22 (fun a=>Uf a.1 a.2):=
 have b:CutIs ctx PP 94 Tryz.f94 [] [] cv22 QAW (WAC):=fun _ s=>by cases s <;> kernel_rfl
 have e:EntryIs ctx PP 94 [] [] cv21 cv22 QAW (fun k a=>RAW k a.1 a.2):=fun _ a=>by kernel_rfl
 fn_ok hl_nil Tryz.func94 (fun s s' h=>by cases s;cases s';(repeat cases ‹SBook›);(repeat cases ‹SThing›);cases h;rfl) (fun _=>rfl) (fun _ _=>rfl) b e gas
noncomputable def XAC {γ:Type} (F:Ip):Hd ctx γ:=hdl cv21.dec (fun a=>F a.1 a.2) cv22.enc
abbrev YAC:=SThing→SThing→Option Bool
noncomputable def BAN (a_0:SThing) (b_1:SThing):Option Bool:=
 bif (a_0.fKind == b_1.fKind) then
 bif ((ByteArray.toList a_0.fValue) == (ByteArray.toList b_1.fValue)) then
  bif (a_0.fSigns == b_1.fSigns) then
  bif (a_0.fWraps == b_1.fWraps) then
   bif (decide (a_0.fNext≤b_1.fNext)) then
   bif b_1.fHidden then
    bif b_1.fFixed then
    some true
    else
    some (!a_0.fFixed)
   else
    bif (!a_0.fHidden) then
    bif b_1.fFixed then
     some true
    else
     some (!a_0.fFixed)
    else
    some false
   else
   some false
  else
   some false
  else
  some false
 else
  some false
 else
 some false
noncomputable def Nl:YAC:=BAN
theorem FAi:Tells ctx PP 95 cv23 cv6 (fun a=>Nl a.1 a.2):=fn_ok0 hl_nil Tryz.func95 (fun a=>by kernel_rfl:EntryIs0 ctx PP 95 [] [] cv23 cv6 fun a=>BAN a.1 a.2)
noncomputable def TAW {γ:Type} (F:YAC):Hd ctx γ:=hdl cv23.dec (fun a=>F a.1 a.2) cv6.enc
abbrev ZAC:=(List SThing)→SThing→Option (List SThing)
inductive O1 where
 | c0 (list_0:(List SThing)) (i_6:Int) (x_3:SThing) (out_5:(List SThing))
 | c1 (list_0:(List SThing)) (i_7:Int) (x_3:SThing) (out_5:(List SThing))
noncomputable def UAW:O1→LI
 | .c0 list_0 i_6 x_3 out_5=>(tdo Tryz.f96 464,[(0,[.one (.rsl 69 list_0)]),(3,[.one (.ptr 192 0)]),(5,[.one (.own 368)]),(6,[.one (.int .i64 i_6)])],[(192,.var [.int .i64 x_3.fId,.int .i64 x_3.fKind,.bool x_3.fHidden,.bool x_3.fFixed,.bool x_3.fSigns,.bool x_3.fWraps,.str x_3.fValue,.int .i64 x_3.fNext]),(368,.sl 69 out_5)])
 | .c1 list_0 i_7 x_3 out_5=>(tdo Tryz.f96 2000,[(0,[.one (.rsl 69 list_0)]),(3,[.one (.ptr 192 0)]),(5,[.one (.own 368)]),(7,[.one (.int .i64 i_7)])],[(192,.var [.int .i64 x_3.fId,.int .i64 x_3.fKind,.bool x_3.fHidden,.bool x_3.fFixed,.bool x_3.fSigns,.bool x_3.fWraps,.str x_3.fValue,.int .i64 x_3.fNext]),(368,.sl 69 out_5)])
noncomputable def DAN (k:O1→Option (List SThing)) (list_0:(List SThing)) (x_1:SThing):Option (List SThing):=
 k (.c0 list_0 0 x_1 [])
noncomputable def Np (k:O1→Option (List SThing)):O1→Option (List SThing)
 | .c0 list_0 i_6 x_3 out_5=>
 bif (decide (i_6<(list_0.length:Int))) then
  bif ((decide (0≤i_6)) && (decide (i_6<(list_0.length:Int)))) then
  bif (decide ((list_0.getD i_6.toNat (⟨0,0,false,false,false,false,⟨#[]⟩,0⟩:SThing)).fId<x_3.fId)) then
  bif ((decide (0≤i_6)) && (decide (i_6<(list_0.length:Int)))) then
  bif (decide (((out_5.length+1)*48)≤140737488355328)) then
  k (.c0 list_0 (w64 (i_6+1)) x_3 (out_5++[(list_0.getD i_6.toNat (⟨0,0,false,false,false,false,⟨#[]⟩,0⟩:SThing))]))
  else none
  else none
  else
  k (.c0 list_0 (w64 (i_6+1)) x_3 out_5)
  else none
 else
  bif (decide (((out_5.length+1)*48)≤140737488355328)) then
  k (.c1 list_0 0 x_3 (out_5++[x_3]))
  else none
 | .c1 list_0 i_7 x_3 out_5=>
 bif (decide (i_7<(list_0.length:Int))) then
  bif ((decide (0≤i_7)) && (decide (i_7<(list_0.length:Int)))) then
  bif (decide ((list_0.getD i_7.toNat (⟨0,0,false,false,false,false,⟨#[]⟩,0⟩:SThing)).fId > x_3.fId)) then
  bif ((decide (0≤i_7)) && (decide (i_7<(list_0.length:Int)))) then
  bif (decide (((out_5.length+1)*48)≤140737488355328)) then
  k (.c1 list_0 (w64 (i_7+1)) x_3 (out_5++[(list_0.getD i_7.toNat (⟨0,0,false,false,false,false,⟨#[]⟩,0⟩:SThing))]))
  else none
  else none
  else
  k (.c1 list_0 (w64 (i_7+1)) x_3 out_5)
  else none
 else
  some out_5
noncomputable def Lh:Nat→O1→Option (List SThing)
 | 0,_=>none
 | m+1,s=>Np (Lh m) s
noncomputable def Ol:ZAC:=DAN (Lh gas)
theorem HAi:Tells ctx PP 96 cv24 cv25 (fun a=>Ol a.1 a.2):=
 have b:CutIs ctx PP 96 Tryz.f96 [] [] cv25 UAW (Np):=fun _ s=>by cases s <;> kernel_rfl
 have e:EntryIs ctx PP 96 [] [] cv24 cv25 UAW (fun k a=>DAN k a.1 a.2):=fun _ a=>by kernel_rfl
 fn_ok hl_nil Tryz.func96 (fun s s' h=>by cases s <;> cases s' <;> first | ((repeat cases ‹SThing›);cases h;done) | ((repeat cases ‹SThing›);cases h;rfl) | exact (rg_ne h (by kernel_rfl)).elim) (fun _=>rfl) (fun _ _=>rfl) b e gas
noncomputable def VAW {γ:Type} (F:ZAC):Hd ctx γ:=hdl cv24.dec (fun a=>F a.1 a.2) cv25.enc
abbrev AAD:=SBook→SRec→Option (SBook×Bool)
inductive U1 where
 | c0 (y_6:ByteArray) (v_14:Int) (A_2:SBook) (r_3:SRec) (r_4c0:ByteArray) (r_4c1:Int) (r_4c3:Int) (r_4c4:ByteArray) (r_4c5:Int) (v_8c0:ByteArray) (v_8c1:Int) (v_8c3:Int) (v_8c4:ByteArray) (v_8c5:Int) (v_13:(List SThing)) (r_4r2:(List SThing)) (v_8r2:(List SThing))
noncomputable def WAW:U1→LI
 | .c0 y_6 v_14 A_2 r_3 r_4c0 r_4c1 r_4c3 r_4c4 r_4c5 v_8c0 v_8c1 v_8c3 v_8c4 v_8c5 v_13 r_4r2 v_8r2=>(tdo Tryz.f27 32898512,[(2,[.one (.ptr 128 0)]),(3,[.one (.ptr 192 0)]),(4,[.one (.ptr 256 0)]),(6,[.one (.str y_6)]),(8,[.one (.ptr 512 0)]),(13,[.one (.own 880)]),(14,[.one (.int .i64 v_14)])],[(128,.var [.str A_2.fWord,.int .i64 A_2.fTries,.rsl 69 A_2.fThings,.int .i64 A_2.fLast,.str A_2.fChain,.int .i64 A_2.fCount]),(192,.var [.int .i64 r_3.fKind,.str r_3.fText,.int .i64 r_3.fNum,.int .i64 r_3.fThing.fId,.int .i64 r_3.fThing.fKind,.bool r_3.fThing.fHidden,.bool r_3.fThing.fFixed,.bool r_3.fThing.fSigns,.bool r_3.fThing.fWraps,.str r_3.fThing.fValue,.int .i64 r_3.fThing.fNext]),(256,.var [.str r_4c0,.int .i64 r_4c1,.own 1016386,.int .i64 r_4c3,.str r_4c4,.int .i64 r_4c5]),(512,.var [.str v_8c0,.int .i64 v_8c1,.own 1032770,.int .i64 v_8c3,.str v_8c4,.int .i64 v_8c5]),(880,.sl 69 v_13),(1016386,.sl 69 r_4r2),(1032770,.sl 69 v_8r2)])
noncomputable def EAN (z0:Yz) (z1:Gp) (z2:Fp) (z3:Ip) (z4:YAC) (z5:ZAC) (z6:Oi) (k:U1→Option (SBook×Bool)) (t_0:SBook) (o_1:SRec):Option (SBook×Bool):=
 (z0 o_1).bind fun r0=>
 (z1 t_0).bind fun r1=>
 bif (!r1) then
 some (⟨⟨#[]⟩,0,[],0,⟨#[]⟩,0⟩,false)
 else
 bif (!r0.2) then
  some (⟨⟨#[]⟩,0,[],0,⟨#[]⟩,0⟩,false)
 else
  bif (t_0.fCount == 10000) then
  some (⟨⟨#[]⟩,0,[],0,⟨#[]⟩,0⟩,false)
  else
  (z2 t_0).bind fun r2=>
  bif (o_1.fKind == 1) then
   bif (decide ((t_0.fChain.size+r0.1.size)≤9223372036854775807)) then
   (z6 (t_0.fChain++r0.1)).bind fun r3=>
   (z1 ⟨o_1.fText,0,r2.fThings,r2.fLast,r3,(w64 (t_0.fCount+1))⟩).bind fun r4=>
   bif (!r4) then
   some (⟨⟨#[]⟩,0,[],0,⟨#[]⟩,0⟩,false)
   else
   some (⟨o_1.fText,0,r2.fThings,r2.fLast,r3,(w64 (t_0.fCount+1))⟩,true)
   else none
  else
   bif (o_1.fKind == 2) then
   bif (decide ((t_0.fChain.size+r0.1.size)≤9223372036854775807)) then
   (z6 (t_0.fChain++r0.1)).bind fun r5=>
   (z1 ⟨r2.fWord,o_1.fNum,r2.fThings,r2.fLast,r5,(w64 (t_0.fCount+1))⟩).bind fun r6=>
   bif (!r6) then
    some (⟨⟨#[]⟩,0,[],0,⟨#[]⟩,0⟩,false)
   else
    some (⟨r2.fWord,o_1.fNum,r2.fThings,r2.fLast,r5,(w64 (t_0.fCount+1))⟩,true)
   else none
   else
   bif (o_1.fKind == 3) then
    (z3 t_0 o_1.fThing.fId).bind fun r7=>
    bif r7.2 then
    (z4 r7.1 o_1.fThing).bind fun r8=>
    bif (!r8) then
     some (⟨⟨#[]⟩,0,[],0,⟨#[]⟩,0⟩,false)
    else
     bif (!r7.2) then
     bif (o_1.fThing.fId != (w64 (t_0.fLast+1))) then
      some (⟨⟨#[]⟩,0,[],0,⟨#[]⟩,0⟩,false)
     else
      bif ((t_0.fThings.length:Int) == 8) then
      some (⟨⟨#[]⟩,0,[],0,⟨#[]⟩,0⟩,false)
      else
      bif (!r7.2) then
       (z5 t_0.fThings o_1.fThing).bind fun r9=>
       bif (decide ((t_0.fChain.size+r0.1.size)≤9223372036854775807)) then
       (z6 (t_0.fChain++r0.1)).bind fun r10=>
       (z1 ⟨r2.fWord,r2.fTries,r9,o_1.fThing.fId,r10,(w64 (t_0.fCount+1))⟩).bind fun r11=>
       bif (!r11) then
       some (⟨⟨#[]⟩,0,[],0,⟨#[]⟩,0⟩,false)
       else
       some (⟨r2.fWord,r2.fTries,r9,o_1.fThing.fId,r10,(w64 (t_0.fCount+1))⟩,true)
       else none
      else
       (z5 t_0.fThings o_1.fThing).bind fun r12=>
       bif (decide ((t_0.fChain.size+r0.1.size)≤9223372036854775807)) then
       (z6 (t_0.fChain++r0.1)).bind fun r13=>
       (z1 ⟨r2.fWord,r2.fTries,r12,r2.fLast,r13,(w64 (t_0.fCount+1))⟩).bind fun r14=>
       bif (!r14) then
       some (⟨⟨#[]⟩,0,[],0,⟨#[]⟩,0⟩,false)
       else
       some (⟨r2.fWord,r2.fTries,r12,r2.fLast,r13,(w64 (t_0.fCount+1))⟩,true)
       else none
     else
     bif (!r7.2) then
      (z5 t_0.fThings o_1.fThing).bind fun r15=>
      bif (decide ((t_0.fChain.size+r0.1.size)≤9223372036854775807)) then
      (z6 (t_0.fChain++r0.1)).bind fun r16=>
      (z1 ⟨r2.fWord,r2.fTries,r15,o_1.fThing.fId,r16,(w64 (t_0.fCount+1))⟩).bind fun r17=>
      bif (!r17) then
      some (⟨⟨#[]⟩,0,[],0,⟨#[]⟩,0⟩,false)
      else
      some (⟨r2.fWord,r2.fTries,r15,o_1.fThing.fId,r16,(w64 (t_0.fCount+1))⟩,true)
      else none
     else
      (z5 t_0.fThings o_1.fThing).bind fun r18=>
      bif (decide ((t_0.fChain.size+r0.1.size)≤9223372036854775807)) then
      (z6 (t_0.fChain++r0.1)).bind fun r19=>
      (z1 ⟨r2.fWord,r2.fTries,r18,r2.fLast,r19,(w64 (t_0.fCount+1))⟩).bind fun r20=>
      bif (!r20) then
      some (⟨⟨#[]⟩,0,[],0,⟨#[]⟩,0⟩,false)
      else
      some (⟨r2.fWord,r2.fTries,r18,r2.fLast,r19,(w64 (t_0.fCount+1))⟩,true)
      else none
    else
    bif (!r7.2) then
     bif (o_1.fThing.fId != (w64 (t_0.fLast+1))) then
     some (⟨⟨#[]⟩,0,[],0,⟨#[]⟩,0⟩,false)
     else
     bif ((t_0.fThings.length:Int) == 8) then
      some (⟨⟨#[]⟩,0,[],0,⟨#[]⟩,0⟩,false)
     else
      bif (!r7.2) then
      (z5 t_0.fThings o_1.fThing).bind fun r21=>
      bif (decide ((t_0.fChain.size+r0.1.size)≤9223372036854775807)) then
      (z6 (t_0.fChain++r0.1)).bind fun r22=>
      (z1 ⟨r2.fWord,r2.fTries,r21,o_1.fThing.fId,r22,(w64 (t_0.fCount+1))⟩).bind fun r23=>
      bif (!r23) then
       some (⟨⟨#[]⟩,0,[],0,⟨#[]⟩,0⟩,false)
      else
       some (⟨r2.fWord,r2.fTries,r21,o_1.fThing.fId,r22,(w64 (t_0.fCount+1))⟩,true)
      else none
      else
      (z5 t_0.fThings o_1.fThing).bind fun r24=>
      bif (decide ((t_0.fChain.size+r0.1.size)≤9223372036854775807)) then
      (z6 (t_0.fChain++r0.1)).bind fun r25=>
      (z1 ⟨r2.fWord,r2.fTries,r24,r2.fLast,r25,(w64 (t_0.fCount+1))⟩).bind fun r26=>
      bif (!r26) then
       some (⟨⟨#[]⟩,0,[],0,⟨#[]⟩,0⟩,false)
      else
       some (⟨r2.fWord,r2.fTries,r24,r2.fLast,r25,(w64 (t_0.fCount+1))⟩,true)
      else none
    else
     bif (!r7.2) then
     (z5 t_0.fThings o_1.fThing).bind fun r27=>
     bif (decide ((t_0.fChain.size+r0.1.size)≤9223372036854775807)) then
     (z6 (t_0.fChain++r0.1)).bind fun r28=>
     (z1 ⟨r2.fWord,r2.fTries,r27,o_1.fThing.fId,r28,(w64 (t_0.fCount+1))⟩).bind fun r29=>
     bif (!r29) then
      some (⟨⟨#[]⟩,0,[],0,⟨#[]⟩,0⟩,false)
     else
      some (⟨r2.fWord,r2.fTries,r27,o_1.fThing.fId,r28,(w64 (t_0.fCount+1))⟩,true)
     else none
     else
     (z5 t_0.fThings o_1.fThing).bind fun r30=>
     bif (decide ((t_0.fChain.size+r0.1.size)≤9223372036854775807)) then
     (z6 (t_0.fChain++r0.1)).bind fun r31=>
     (z1 ⟨r2.fWord,r2.fTries,r30,r2.fLast,r31,(w64 (t_0.fCount+1))⟩).bind fun r32=>
     bif (!r32) then
      some (⟨⟨#[]⟩,0,[],0,⟨#[]⟩,0⟩,false)
     else
      some (⟨r2.fWord,r2.fTries,r30,r2.fLast,r31,(w64 (t_0.fCount+1))⟩,true)
     else none
   else
    bif (o_1.fKind == 4) then
    (z3 t_0 o_1.fNum).bind fun r33=>
    bif (!r33.2) then
     some (⟨⟨#[]⟩,0,[],0,⟨#[]⟩,0⟩,false)
    else
     k (.c0 r0.1 0 t_0 o_1 ⟨#[]⟩ 0 0 ⟨#[]⟩ 0 r2.fWord r2.fTries r2.fLast r2.fChain r2.fCount [] [] r2.fThings)
    else
    bif (decide ((t_0.fChain.size+r0.1.size)≤9223372036854775807)) then
    (z6 (t_0.fChain++r0.1)).bind fun r34=>
    (z1 ⟨r2.fWord,r2.fTries,r2.fThings,r2.fLast,r34,(w64 (t_0.fCount+1))⟩).bind fun r35=>
    bif (!r35) then
     some (⟨⟨#[]⟩,0,[],0,⟨#[]⟩,0⟩,false)
    else
     some (⟨r2.fWord,r2.fTries,r2.fThings,r2.fLast,r34,(w64 (t_0.fCount+1))⟩,true)
    else none
noncomputable def CAD (z0:Yz) (z1:Gp) (z2:Fp) (z3:Ip) (z4:YAC) (z5:ZAC) (z6:Oi) (k:U1→Option (SBook×Bool)):U1→Option (SBook×Bool)
 | .c0 y_6 v_14 A_2 r_3 r_4c0 r_4c1 r_4c3 r_4c4 r_4c5 v_8c0 v_8c1 v_8c3 v_8c4 v_8c5 v_13 r_4r2 v_8r2=>
 bif (decide (v_14<(A_2.fThings.length:Int))) then
  bif ((decide (0≤v_14)) && (decide (v_14<(A_2.fThings.length:Int)))) then
  bif ((A_2.fThings.getD v_14.toNat (⟨0,0,false,false,false,false,⟨#[]⟩,0⟩:SThing)).fId != r_3.fNum) then
  bif ((decide (0≤v_14)) && (decide (v_14<(A_2.fThings.length:Int)))) then
  bif (decide (((v_13.length+1)*48)≤140737488355328)) then
  k (.c0 y_6 (w64 (v_14+1)) A_2 r_3 r_4c0 r_4c1 r_4c3 r_4c4 r_4c5 v_8c0 v_8c1 v_8c3 v_8c4 v_8c5 (v_13++[(A_2.fThings.getD v_14.toNat (⟨0,0,false,false,false,false,⟨#[]⟩,0⟩:SThing))]) r_4r2 v_8r2)
  else none
  else none
  else
  k (.c0 y_6 (w64 (v_14+1)) A_2 r_3 r_4c0 r_4c1 r_4c3 r_4c4 r_4c5 v_8c0 v_8c1 v_8c3 v_8c4 v_8c5 v_13 r_4r2 v_8r2)
  else none
 else
  bif (decide ((A_2.fChain.size+y_6.size)≤9223372036854775807)) then
  (z6 (A_2.fChain++y_6)).bind fun r0=>
  (z1 ⟨v_8c0,v_8c1,v_13,v_8c3,r0,(w64 (A_2.fCount+1))⟩).bind fun r1=>
  bif (!r1) then
  some (⟨⟨#[]⟩,0,[],0,⟨#[]⟩,0⟩,false)
  else
  some (⟨v_8c0,v_8c1,v_13,v_8c3,r0,(w64 (A_2.fCount+1))⟩,true)
  else none
noncomputable def Y1:Nat→U1→Option (SBook×Bool)
 | 0,_=>none
 | m+1,s=>CAD Jh Ce Ae Uf Nl Ol Xa (Y1 m) s
noncomputable def Ql:AAD:=EAN Jh Ce Ae Uf Nl Ol Xa (Y1 gas)
theorem IAi:Tells ctx PP 27 cv26 cv27 (fun a=>Ql a.1 a.2):=
 have b:∀ z0 z1 z2 z3 z4 z5 z6,CutIs ctx PP 27 Tryz.f27 [] [(92,WAM z0),(53,VAC z1),(93,SAC z2),(94,XAC z3),(95,TAW z4),(96,VAW z5),(26,Zo z6)] cv27 WAW (CAD z0 z1 z2 z3 z4 z5 z6):=fun z0 z1 z2 z3 z4 z5 z6 _ s=>by cases s <;> kernel_rfl
 have e:∀ z0 z1 z2 z3 z4 z5 z6,EntryIs ctx PP 27 [] [(92,WAM z0),(53,VAC z1),(93,SAC z2),(94,XAC z3),(95,TAW z4),(96,VAW z5),(26,Zo z6)] cv26 cv27 WAW (fun k a=>EAN z0 z1 z2 z3 z4 z5 z6 k a.1 a.2):=fun z0 z1 z2 z3 z4 z5 z6 _ a=>by kernel_rfl
 fn_ok (hc JAW (hc PAW (hc NAW (hc SAW (hc FAi (hc HAi (hc SAB hl_nil))))))) Tryz.func27 (fun s s' h=>by cases s;cases s';(repeat cases ‹SBook›);(repeat cases ‹SRec›);(repeat cases ‹SThing›);cases h;rfl) (fun _=>rfl) (fun _ _=>rfl) (b Jh Ce Ae Uf Nl Ol Xa) (e Jh Ce Ae Uf Nl Ol Xa) gas
noncomputable def XAW {γ:Type} (F:AAD):Hd ctx γ:=hdl cv26.dec (fun a=>F a.1 a.2) cv27.enc
abbrev FAN:=SBook→(List SRec)→Option (SBook×Bool)
inductive U2 where
 | c0 (list_1:(List SRec)) (i_7:Int) (v_4c0:ByteArray) (v_4c1:Int) (v_4c3:Int) (v_4c4:ByteArray) (v_4c5:Int) (out_6c0:ByteArray) (out_6c1:Int) (out_6c3:Int) (out_6c4:ByteArray) (out_6c5:Int) (v_4r2:(List SThing)) (out_6r2:(List SThing))
noncomputable def YAW:U2→LI
 | .c0 list_1 i_7 v_4c0 v_4c1 v_4c3 v_4c4 v_4c5 out_6c0 out_6c1 out_6c3 out_6c4 out_6c5 v_4r2 out_6r2=>(tdo Tryz.f69 464,[(1,[.one (.rsl 71 list_1)]),(4,[.one (.ptr 256 0)]),(6,[.one (.ptr 384 0)]),(7,[.one (.int .i64 i_7)])],[(256,.var [.str v_4c0,.int .i64 v_4c1,.own 1016386,.int .i64 v_4c3,.str v_4c4,.int .i64 v_4c5]),(384,.var [.str out_6c0,.int .i64 out_6c1,.own 1024578,.int .i64 out_6c3,.str out_6c4,.int .i64 out_6c5]),(1016386,.sl 69 v_4r2),(1024578,.sl 69 out_6r2)])
noncomputable def GAN (z0:Fp) (z1:AAD) (k:U2→Option (SBook×Bool)) (b_0:SBook) (list_1:(List SRec)):Option (SBook×Bool):=
 (z0 b_0).bind fun r0=>
 k (.c0 list_1 0 ⟨#[]⟩ 0 0 ⟨#[]⟩ 0 r0.fWord r0.fTries r0.fLast r0.fChain r0.fCount [] r0.fThings)
noncomputable def DAD (z0:Fp) (z1:AAD) (k:U2→Option (SBook×Bool)):U2→Option (SBook×Bool)
 | .c0 list_1 i_7 v_4c0 v_4c1 v_4c3 v_4c4 v_4c5 out_6c0 out_6c1 out_6c3 out_6c4 out_6c5 v_4r2 out_6r2=>
 bif (decide (i_7<(list_1.length:Int))) then
  bif ((decide (0≤i_7)) && (decide (i_7<(list_1.length:Int)))) then
  (z1 ⟨out_6c0,out_6c1,out_6r2,out_6c3,out_6c4,out_6c5⟩ (list_1.getD i_7.toNat (⟨0,⟨#[]⟩,0,⟨0,0,false,false,false,false,⟨#[]⟩,0⟩⟩:SRec))).bind fun r0=>
  bif (!r0.2) then
  some (⟨⟨#[]⟩,0,[],0,⟨#[]⟩,0⟩,false)
  else
  k (.c0 list_1 (w64 (i_7+1)) v_4c0 v_4c1 v_4c3 v_4c4 v_4c5 r0.1.fWord r0.1.fTries r0.1.fLast r0.1.fChain r0.1.fCount v_4r2 r0.1.fThings)
  else none
 else
  some (⟨out_6c0,out_6c1,out_6r2,out_6c3,out_6c4,out_6c5⟩,true)
noncomputable def Y2:Nat→U2→Option (SBook×Bool)
 | 0,_=>none
 | m+1,s=>DAD Ae Ql (Y2 m) s
noncomputable def J3:FAN:=GAN Ae Ql (Y2 gas)
theorem JAi:Tells ctx PP 69 cv113 cv27 (fun a=>J3 a.1 a.2):=
 have b:∀ z0 z1,CutIs ctx PP 69 Tryz.f69 [] [(93,SAC z0),(27,XAW z1)] cv27 YAW (DAD z0 z1):=fun z0 z1 _ s=>by cases s <;> kernel_rfl
 have e:∀ z0 z1,EntryIs ctx PP 69 [] [(93,SAC z0),(27,XAW z1)] cv113 cv27 YAW (fun k a=>GAN z0 z1 k a.1 a.2):=fun z0 z1 _ a=>by kernel_rfl
 fn_ok (hc NAW (hc IAi hl_nil)) Tryz.func69 (fun s s' h=>by cases s;cases s';cases h;rfl) (fun _=>rfl) (fun _ _=>rfl) (b Ae Ql) (e Ae Ql) gas
noncomputable def KAi {γ:Type} (F:FAN):Hd ctx γ:=hdl cv113.dec (fun a=>F a.1 a.2) cv27.enc
abbrev O3:=ByteArray→SDisk→Option (SBook×(List SAct)×Bool)
noncomputable def HAN (z0:Qo) (z1:IAL) (z2:XAM) (z3:Ky) (z4:FAN) (z5:Py) (key_0:ByteArray) (d_1:SDisk):Option (SBook×(List SAct)×Bool):=
 (z0 d_1).bind fun r0=>
 bif (!r0) then
 some (⟨⟨#[]⟩,0,[],0,⟨#[]⟩,0⟩,([],false))
 else
 (z1 d_1 ⟨#[98,111,111,107]⟩).bind fun r1=>
 (z2 key_0 r1.1).bind fun r2=>
 z3.bind fun r3=>
 (z4 r3 r2.1).bind fun r4=>
 bif (!r4.2) then
  some (⟨⟨#[]⟩,0,[],0,⟨#[]⟩,0⟩,([],false))
 else
  (z5 d_1 ⟨#[98,111,111,107,43]⟩).bind fun r5=>
  bif (decide (r5≥0)) then
  bif (decide (r2.2<(r1.1.size:Int))) then
   bif ((decide (0≤r2.2)) && (decide (r2.2≤(r1.1.size:Int)))) then
   some (r4.1,((([]++[(⟨4,⟨#[98,111,111,107,43]⟩,⟨#[]⟩,⟨#[]⟩⟩:SAct)])++[(⟨1,⟨#[98,111,111,107,43]⟩,(r1.1.extract 0 r2.2.toNat),⟨#[]⟩⟩:SAct),(⟨2,⟨#[98,111,111,107,43]⟩,⟨#[]⟩,⟨#[]⟩⟩:SAct),(⟨3,⟨#[98,111,111,107,43]⟩,⟨#[]⟩,⟨#[98,111,111,107]⟩⟩:SAct)]),true))
   else none
  else
   some (r4.1,(([]++[(⟨4,⟨#[98,111,111,107,43]⟩,⟨#[]⟩,⟨#[]⟩⟩:SAct)]),true))
  else
  bif (decide (r2.2<(r1.1.size:Int))) then
   bif ((decide (0≤r2.2)) && (decide (r2.2≤(r1.1.size:Int)))) then
   some (r4.1,(([]++[(⟨1,⟨#[98,111,111,107,43]⟩,(r1.1.extract 0 r2.2.toNat),⟨#[]⟩⟩:SAct),(⟨2,⟨#[98,111,111,107,43]⟩,⟨#[]⟩,⟨#[]⟩⟩:SAct),(⟨3,⟨#[98,111,111,107,43]⟩,⟨#[]⟩,⟨#[98,111,111,107]⟩⟩:SAct)]),true))
   else none
  else
   some (r4.1,([],true))
noncomputable def Nh:O3:=HAN Ud Uy U0 Ah J3 Bh
theorem ZAW:Tells ctx PP 52 cv114 cv115 (fun a=>Nh a.1 a.2):=fn_ok0 (hc KAK (hc ZAg (hc CAi (hc LAV (hc JAi (hc GAL hl_nil)))))) Tryz.func52 ((fun z0 z1 z2 z3 z4 z5 a=>by kernel_rfl:∀ z0 z1 z2 z3 z4 z5,EntryIs0 ctx PP 52 [] [(49,IAB z0),(117,AAh z1),(118,EAi z2),(28,DAL z3),(69,KAi z4),(119,HAL z5)] cv114 cv115 fun a=>HAN z0 z1 z2 z3 z4 z5 a.1 a.2) Ud Uy U0 Ah J3 Bh)
noncomputable def IAN {γ:Type} (F:O3):Hd ctx γ:=hdl cv114.dec (fun a=>F a.1 a.2) cv115.enc
abbrev EAD:=SBox→Option Bool
inductive U3 where
 | c0 (i_3:Int) (b_1:SBox)
noncomputable def AAX:U3→LI
 | .c0 i_3 b_1=>(tdo Tryz.f54 208,[(1,[.one (.ptr 64 0)]),(3,[.one (.int .i64 i_3)])],[(64,.var [.str b_1.fKey,.bool b_1.fUp,.rsl 155 b_1.fDisk.fFiles,.str b_1.fBook.fWord,.int .i64 b_1.fBook.fTries,.rsl 69 b_1.fBook.fThings,.int .i64 b_1.fBook.fLast,.str b_1.fBook.fChain,.int .i64 b_1.fBook.fCount,.rsl 92 b_1.fSessions,.rsl 149 b_1.fLives,.int .i64 b_1.fOpened])])
noncomputable def JAN (z0:Ip) (z1:LZ) (k:U3→Option Bool) (b_0:SBox):Option Bool:=
 k (.c0 0 b_0)
noncomputable def FAD (z0:Ip) (z1:LZ) (k:U3→Option Bool):U3→Option Bool
 | .c0 i_3 b_1=>
 bif (decide (i_3<(b_1.fLives.length:Int))) then
  bif ((decide (0≤i_3)) && (decide (i_3<(b_1.fLives.length:Int)))) then
  (z0 b_1.fBook (b_1.fLives.getD i_3.toNat (⟨0,0⟩:SLive)).fId).bind fun r0=>
  bif (!r0.2) then
  some false
  else
  bif (r0.1.fKind != 2) then
   some false
  else
   bif ((decide (0≤i_3)) && (decide (i_3<(b_1.fLives.length:Int)))) then
   (z1 (b_1.fLives.getD i_3.toNat (⟨0,0⟩:SLive)).fNext 0 r0.1.fNext).bind fun r1=>
   bif (!r1) then
   some false
   else
   bif (decide (i_3 > 0)) then
    bif ((decide (0≤(w64 (i_3 - 1)))) && (decide ((w64 (i_3 - 1))<(b_1.fLives.length:Int)))) then
    bif ((decide (0≤i_3)) && (decide (i_3<(b_1.fLives.length:Int)))) then
    bif (decide ((b_1.fLives.getD (w64 (i_3 - 1)).toNat (⟨0,0⟩:SLive)).fId≥(b_1.fLives.getD i_3.toNat (⟨0,0⟩:SLive)).fId)) then
    some false
    else
    k (.c0 (w64 (i_3+1)) b_1)
    else none
    else none
   else
    k (.c0 (w64 (i_3+1)) b_1)
   else none
  else none
 else
  some true
noncomputable def V3:Nat→U3→Option Bool
 | 0,_=>none
 | m+1,s=>FAD Uf CY (V3 m) s
noncomputable def Rl:EAD:=JAN Uf CY (V3 gas)
theorem LAi:Tells ctx PP 54 cv116 cv6 (fun a=>Rl a):=
 have b:∀ z0 z1,CutIs ctx PP 54 Tryz.f54 [] [(94,XAC z0),(50,VZ z1)] cv6 AAX (FAD z0 z1):=fun z0 z1 _ s=>by cases s <;> kernel_rfl
 have e:∀ z0 z1,EntryIs ctx PP 54 [] [(94,XAC z0),(50,VZ z1)] cv116 cv6 AAX (fun k a=>JAN z0 z1 k a):=fun z0 z1 _ a=>by kernel_rfl
 fn_ok (hc SAW (hc Td hl_nil)) Tryz.func54 (fun s s' h=>by cases s;cases s';(repeat cases ‹SBox›);(repeat cases ‹SDisk›);(repeat cases ‹SBook›);cases h;rfl) (fun _=>rfl) (fun _ _=>rfl) (b Uf CY) (e Uf CY) gas
noncomputable def BAX {γ:Type} (F:EAD):Hd ctx γ:=hdl cv116.dec (fun a=>F a) cv6.enc
abbrev KAN:=SBox→Option Bool
inductive X3 where
 | c0 (i_3:Int) (b_1:SBox)
noncomputable def CAX:X3→LI
 | .c0 i_3 b_1=>(tdo Tryz.f14 464,[(1,[.one (.ptr 64 0)]),(3,[.one (.int .i64 i_3)])],[(64,.var [.str b_1.fKey,.bool b_1.fUp,.rsl 155 b_1.fDisk.fFiles,.str b_1.fBook.fWord,.int .i64 b_1.fBook.fTries,.rsl 69 b_1.fBook.fThings,.int .i64 b_1.fBook.fLast,.str b_1.fBook.fChain,.int .i64 b_1.fBook.fCount,.rsl 92 b_1.fSessions,.rsl 149 b_1.fLives,.int .i64 b_1.fOpened])])
noncomputable def LAN (z0:Qo) (z1:LZ) (z2:Ky) (z3:UAB) (z4:O3) (z5:Gp) (z6:EAD) (k:X3→Option Bool) (b_0:SBox):Option Bool:=
 bif ((b_0.fKey.size:Int) != 32) then
 some false
 else
 (z0 b_0.fDisk).bind fun r0=>
 bif (!r0) then
  some false
 else
  bif (decide ((b_0.fSessions.length:Int) > 3)) then
  some false
  else
  (z1 b_0.fOpened 0 1000).bind fun r1=>
  bif (!r1) then
   some false
  else
   k (.c0 0 b_0)
noncomputable def GAD (z0:Qo) (z1:LZ) (z2:Ky) (z3:UAB) (z4:O3) (z5:Gp) (z6:EAD) (k:X3→Option Bool):X3→Option Bool
 | .c0 i_3 b_1=>
 bif (decide (i_3<(b_1.fSessions.length:Int))) then
  bif ((decide (0≤i_3)) && (decide (i_3<(b_1.fSessions.length:Int)))) then
  (z1 (b_1.fSessions.getD i_3.toNat (⟨0,false⟩:SSession)).fId 1 b_1.fOpened).bind fun r0=>
  bif (!r0) then
  some false
  else
  bif (decide (i_3 > 0)) then
   bif ((decide (0≤(w64 (i_3 - 1)))) && (decide ((w64 (i_3 - 1))<(b_1.fSessions.length:Int)))) then
   bif ((decide (0≤i_3)) && (decide (i_3<(b_1.fSessions.length:Int)))) then
   bif (decide ((b_1.fSessions.getD (w64 (i_3 - 1)).toNat (⟨0,false⟩:SSession)).fId≥(b_1.fSessions.getD i_3.toNat (⟨0,false⟩:SSession)).fId)) then
   some false
   else
   k (.c0 (w64 (i_3+1)) b_1)
   else none
   else none
  else
   k (.c0 (w64 (i_3+1)) b_1)
  else none
 else
  bif (!b_1.fUp) then
  bif ((b_1.fSessions.length:Int) == 0) then
   bif ((b_1.fLives.length:Int) == 0) then
   z2.bind fun r1=>
   (z3 b_1.fBook r1).bind fun r2=>
   some r2
   else
   some false
  else
   some false
  else
  (z4 b_1.fKey b_1.fDisk).bind fun r3=>
  bif r3.2.2 then
   bif ((r3.2.1.length:Int) == 0) then
   (z5 b_1.fBook).bind fun r4=>
   bif r4 then
    (z3 r3.1 b_1.fBook).bind fun r5=>
    bif r5 then
    (z6 b_1).bind fun r6=>
    some r6
    else
    some false
   else
    some false
   else
   some false
  else
   some false
noncomputable def Y3:Nat→X3→Option Bool
 | 0,_=>none
 | m+1,s=>GAD Ud CY Ah Zk Nh Ce Rl (Y3 m) s
noncomputable def I4:KAN:=LAN Ud CY Ah Zk Nh Ce Rl (Y3 gas)
theorem MAi:Tells ctx PP 14 cv116 cv6 (fun a=>I4 a):=
 have b:∀ z0 z1 z2 z3 z4 z5 z6,CutIs ctx PP 14 Tryz.f14 [] [(49,IAB z0),(50,VZ z1),(28,DAL z2),(51,NAV z3),(52,IAN z4),(53,VAC z5),(54,BAX z6)] cv6 CAX (GAD z0 z1 z2 z3 z4 z5 z6):=fun z0 z1 z2 z3 z4 z5 z6 _ s=>by cases s <;> kernel_rfl
 have e:∀ z0 z1 z2 z3 z4 z5 z6,EntryIs ctx PP 14 [] [(49,IAB z0),(50,VZ z1),(28,DAL z2),(51,NAV z3),(52,IAN z4),(53,VAC z5),(54,BAX z6)] cv116 cv6 CAX (fun k a=>LAN z0 z1 z2 z3 z4 z5 z6 k a):=fun z0 z1 z2 z3 z4 z5 z6 _ a=>by kernel_rfl
 fn_ok (hc KAK (hc Td (hc LAV (hc YAg (hc ZAW (hc PAW (hc LAi hl_nil))))))) Tryz.func14 (fun s s' h=>by cases s;cases s';(repeat cases ‹SBox›);(repeat cases ‹SDisk›);(repeat cases ‹SBook›);cases h;rfl) (fun _=>rfl) (fun _ _=>rfl) (b Ud CY Ah Zk Nh Ce Rl) (e Ud CY Ah Zk Nh Ce Rl) gas
noncomputable def NAi {γ:Type} (F:KAN):Hd ctx γ:=hdl cv116.dec (fun a=>F a) cv6.enc
abbrev MAN:=SDisk→SFile→Option SDisk
inductive J4 where
 | c0 (i_6:Int) (d_2:SDisk) (f_3:SFile) (v_4r0:(List SFile)) (out_5r0:(List SFile))
 | c1 (i_7:Int) (d_2:SDisk) (f_3:SFile) (v_4r0:(List SFile)) (out_5r0:(List SFile))
noncomputable def DAX:J4→LI
 | .c0 i_6 d_2 f_3 v_4r0 out_5r0=>(tdo Tryz.f172 464,[(2,[.one (.ptr 128 0)]),(3,[.one (.ptr 192 0)]),(4,[.one (.ptr 256 0)]),(5,[.one (.ptr 320 0)]),(6,[.one (.int .i64 i_6)])],[(128,.var [.rsl 155 d_2.fFiles]),(192,.var [.str f_3.fName,.str f_3.fText,.int .i64 f_3.fKept]),(256,.var [.own 1016384]),(320,.var [.own 1020480]),(1016384,.sl 155 v_4r0),(1020480,.sl 155 out_5r0)])
 | .c1 i_7 d_2 f_3 v_4r0 out_5r0=>(tdo Tryz.f172 2000,[(2,[.one (.ptr 128 0)]),(3,[.one (.ptr 192 0)]),(4,[.one (.ptr 256 0)]),(5,[.one (.ptr 320 0)]),(7,[.one (.int .i64 i_7)])],[(128,.var [.rsl 155 d_2.fFiles]),(192,.var [.str f_3.fName,.str f_3.fText,.int .i64 f_3.fKept]),(256,.var [.own 1016384]),(320,.var [.own 1020480]),(1016384,.sl 155 v_4r0),(1020480,.sl 155 out_5r0)])
noncomputable def NAN (k:J4→Option SDisk) (d_0:SDisk) (f_1:SFile):Option SDisk:=
 k (.c0 0 d_0 f_1 [] [])
noncomputable def Qp (k:J4→Option SDisk):J4→Option SDisk
 | .c0 i_6 d_2 f_3 v_4r0 out_5r0=>
 bif (decide (i_6<(d_2.fFiles.length:Int))) then
  bif ((decide (0≤i_6)) && (decide (i_6<(d_2.fFiles.length:Int)))) then
  bif (Op.bytesLess (ByteArray.toList (d_2.fFiles.getD i_6.toNat (⟨⟨#[]⟩,⟨#[]⟩,0⟩:SFile)).fName) (ByteArray.toList f_3.fName)) then
  bif ((decide (0≤i_6)) && (decide (i_6<(d_2.fFiles.length:Int)))) then
  bif (decide (((out_5r0.length+1)*40)≤140737488355328)) then
  k (.c0 (w64 (i_6+1)) d_2 f_3 v_4r0 (out_5r0++[(d_2.fFiles.getD i_6.toNat (⟨⟨#[]⟩,⟨#[]⟩,0⟩:SFile))]))
  else none
  else none
  else
  k (.c0 (w64 (i_6+1)) d_2 f_3 v_4r0 out_5r0)
  else none
 else
  bif (decide (((out_5r0.length+1)*40)≤140737488355328)) then
  k (.c1 0 d_2 f_3 v_4r0 (out_5r0++[f_3]))
  else none
 | .c1 i_7 d_2 f_3 v_4r0 out_5r0=>
 bif (decide (i_7<(d_2.fFiles.length:Int))) then
  bif ((decide (0≤i_7)) && (decide (i_7<(d_2.fFiles.length:Int)))) then
  bif (!((Op.bytesLess (ByteArray.toList (d_2.fFiles.getD i_7.toNat (⟨⟨#[]⟩,⟨#[]⟩,0⟩:SFile)).fName) (ByteArray.toList f_3.fName)) || ((ByteArray.toList (d_2.fFiles.getD i_7.toNat (⟨⟨#[]⟩,⟨#[]⟩,0⟩:SFile)).fName) == (ByteArray.toList f_3.fName)))) then
  bif ((decide (0≤i_7)) && (decide (i_7<(d_2.fFiles.length:Int)))) then
  bif (decide (((out_5r0.length+1)*40)≤140737488355328)) then
  k (.c1 (w64 (i_7+1)) d_2 f_3 v_4r0 (out_5r0++[(d_2.fFiles.getD i_7.toNat (⟨⟨#[]⟩,⟨#[]⟩,0⟩:SFile))]))
  else none
  else none
  else
  k (.c1 (w64 (i_7+1)) d_2 f_3 v_4r0 out_5r0)
  else none
 else
  some ⟨out_5r0⟩
noncomputable def Oh:Nat→J4→Option SDisk
 | 0,_=>none
 | m+1,s=>Qp (Oh m) s
noncomputable def O4:MAN:=NAN (Oh gas)
theorem OAi:Tells ctx PP 172 cv37 cv38 (fun a=>O4 a.1 a.2):=
 have b:CutIs ctx PP 172 Tryz.f172 [] [] cv38 DAX (Qp):=fun _ s=>by cases s <;> kernel_rfl
 have e:EntryIs ctx PP 172 [] [] cv37 cv38 DAX (fun k a=>NAN k a.1 a.2):=fun _ a=>by kernel_rfl
 fn_ok hl_nil Tryz.func172 (fun s s' h=>by cases s <;> cases s' <;> first | ((repeat cases ‹SDisk›);(repeat cases ‹SFile›);cases h;done) | ((repeat cases ‹SDisk›);(repeat cases ‹SFile›);cases h;rfl) | exact (rg_ne h (by kernel_rfl)).elim) (fun _=>rfl) (fun _ _=>rfl) b e gas
noncomputable def PAi {γ:Type} (F:MAN):Hd ctx γ:=hdl cv37.dec (fun a=>F a.1 a.2) cv38.enc
abbrev OAN:=SDisk→ByteArray→Option SDisk
inductive U4 where
 | c0 (name_1:ByteArray) (i_6:Int) (d_2:SDisk) (v_4r0:(List SFile)) (out_5r0:(List SFile))
noncomputable def EAX:U4→LI
 | .c0 name_1 i_6 d_2 v_4r0 out_5r0=>(tdo Tryz.f173 464,[(1,[.one (.str name_1)]),(2,[.one (.ptr 128 0)]),(4,[.one (.ptr 256 0)]),(5,[.one (.ptr 320 0)]),(6,[.one (.int .i64 i_6)])],[(128,.var [.rsl 155 d_2.fFiles]),(256,.var [.own 1016384]),(320,.var [.own 1020480]),(1016384,.sl 155 v_4r0),(1020480,.sl 155 out_5r0)])
noncomputable def PAN (k:U4→Option SDisk) (d_0:SDisk) (name_1:ByteArray):Option SDisk:=
 k (.c0 name_1 0 d_0 [] [])
noncomputable def IAD (k:U4→Option SDisk):U4→Option SDisk
 | .c0 name_1 i_6 d_2 v_4r0 out_5r0=>
 bif (decide (i_6<(d_2.fFiles.length:Int))) then
  bif ((decide (0≤i_6)) && (decide (i_6<(d_2.fFiles.length:Int)))) then
  bif (!((ByteArray.toList (d_2.fFiles.getD i_6.toNat (⟨⟨#[]⟩,⟨#[]⟩,0⟩:SFile)).fName) == (ByteArray.toList name_1))) then
  bif ((decide (0≤i_6)) && (decide (i_6<(d_2.fFiles.length:Int)))) then
  bif (decide (((out_5r0.length+1)*40)≤140737488355328)) then
  k (.c0 name_1 (w64 (i_6+1)) d_2 v_4r0 (out_5r0++[(d_2.fFiles.getD i_6.toNat (⟨⟨#[]⟩,⟨#[]⟩,0⟩:SFile))]))
  else none
  else none
  else
  k (.c0 name_1 (w64 (i_6+1)) d_2 v_4r0 out_5r0)
  else none
 else
  some ⟨out_5r0⟩
noncomputable def V4:Nat→U4→Option SDisk
 | 0,_=>none
 | m+1,s=>IAD (V4 m) s
noncomputable def X4:OAN:=PAN (V4 gas)
theorem QAi:Tells ctx PP 173 cv36 cv38 (fun a=>X4 a.1 a.2):=
 have b:CutIs ctx PP 173 Tryz.f173 [] [] cv38 EAX (IAD):=fun _ s=>by cases s <;> kernel_rfl
 have e:EntryIs ctx PP 173 [] [] cv36 cv38 EAX (fun k a=>PAN k a.1 a.2):=fun _ a=>by kernel_rfl
 fn_ok hl_nil Tryz.func173 (fun s s' h=>by cases s;cases s';(repeat cases ‹SDisk›);cases h;rfl) (fun _=>rfl) (fun _ _=>rfl) b e gas
noncomputable def RAi {γ:Type} (F:OAN):Hd ctx γ:=hdl cv36.dec (fun a=>F a.1 a.2) cv38.enc
abbrev JAD:=SDisk→SAct→Option (SDisk×Bool)
noncomputable def QAN (z0:Qo) (z1:Zw) (z2:Py) (z3:MAN) (z4:OAN) (d_0:SDisk) (a_1:SAct):Option (SDisk×Bool):=
 (z0 d_0).bind fun r0=>
 bif (!r0) then
 some (⟨[]⟩,false)
 else
 (z1 a_1.fName).bind fun r1=>
 bif (!r1) then
  some (⟨[]⟩,false)
 else
  bif (a_1.fKind != 3) then
  bif (!((ByteArray.toList a_1.fTo) == (ByteArray.toList ⟨#[]⟩))) then
   some (⟨[]⟩,false)
  else
   bif (a_1.fKind != 1) then
   bif (!((ByteArray.toList a_1.fText) == (ByteArray.toList ⟨#[]⟩))) then
    some (⟨[]⟩,false)
   else
    (z2 d_0 a_1.fName).bind fun r2=>
    bif (decide (r2≥0)) then
    bif ((decide (0≤r2)) && (decide (r2<(d_0.fFiles.length:Int)))) then
    bif (a_1.fKind == 1) then
     bif (decide (((d_0.fFiles.getD r2.toNat (⟨⟨#[]⟩,⟨#[]⟩,0⟩:SFile)).fText.size+a_1.fText.size)≤9223372036854775807)) then
     (z3 d_0 ⟨(d_0.fFiles.getD r2.toNat (⟨⟨#[]⟩,⟨#[]⟩,0⟩:SFile)).fName,((d_0.fFiles.getD r2.toNat (⟨⟨#[]⟩,⟨#[]⟩,0⟩:SFile)).fText++a_1.fText),(d_0.fFiles.getD r2.toNat (⟨⟨#[]⟩,⟨#[]⟩,0⟩:SFile)).fKept⟩).bind fun r3=>
     (z0 r3).bind fun r4=>
     bif (!r4) then
     some (⟨[]⟩,false)
     else
     some (r3,true)
     else none
    else
     bif (decide (r2<0)) then
     some (⟨[]⟩,false)
     else
     bif (a_1.fKind == 2) then
      (z3 d_0 ⟨(d_0.fFiles.getD r2.toNat (⟨⟨#[]⟩,⟨#[]⟩,0⟩:SFile)).fName,(d_0.fFiles.getD r2.toNat (⟨⟨#[]⟩,⟨#[]⟩,0⟩:SFile)).fText,((d_0.fFiles.getD r2.toNat (⟨⟨#[]⟩,⟨#[]⟩,0⟩:SFile)).fText.size:Int)⟩).bind fun r5=>
      (z0 r5).bind fun r6=>
      bif (!r6) then
      some (⟨[]⟩,false)
      else
      some (r5,true)
     else
      bif (a_1.fKind == 3) then
      bif (decide ((d_0.fFiles.getD r2.toNat (⟨⟨#[]⟩,⟨#[]⟩,0⟩:SFile)).fKept<((d_0.fFiles.getD r2.toNat (⟨⟨#[]⟩,⟨#[]⟩,0⟩:SFile)).fText.size:Int))) then
       some (⟨[]⟩,false)
      else
       bif ((ByteArray.toList a_1.fTo) == (ByteArray.toList a_1.fName)) then
       some (⟨[]⟩,false)
       else
       (z1 a_1.fTo).bind fun r7=>
       bif (!r7) then
        some (⟨[]⟩,false)
       else
        (z4 d_0 a_1.fName).bind fun r8=>
        (z3 r8 ⟨a_1.fTo,(d_0.fFiles.getD r2.toNat (⟨⟨#[]⟩,⟨#[]⟩,0⟩:SFile)).fText,(d_0.fFiles.getD r2.toNat (⟨⟨#[]⟩,⟨#[]⟩,0⟩:SFile)).fKept⟩).bind fun r9=>
        (z0 r9).bind fun r10=>
        bif (!r10) then
        some (⟨[]⟩,false)
        else
        some (r9,true)
      else
      bif (a_1.fKind == 4) then
       (z4 d_0 a_1.fName).bind fun r11=>
       (z0 r11).bind fun r12=>
       bif (!r12) then
       some (⟨[]⟩,false)
       else
       some (r11,true)
      else
       some (⟨[]⟩,false)
    else none
    else
    bif (a_1.fKind == 1) then
     bif (decide (((⟨#[]⟩:ByteArray).size+a_1.fText.size)≤9223372036854775807)) then
     (z3 d_0 ⟨a_1.fName,((⟨#[]⟩:ByteArray)++a_1.fText),0⟩).bind fun r13=>
     (z0 r13).bind fun r14=>
     bif (!r14) then
     some (⟨[]⟩,false)
     else
     some (r13,true)
     else none
    else
     bif (decide (r2<0)) then
     some (⟨[]⟩,false)
     else
     bif (a_1.fKind == 2) then
      (z3 d_0 ⟨a_1.fName,⟨#[]⟩,((⟨#[]⟩:ByteArray).size:Int)⟩).bind fun r15=>
      (z0 r15).bind fun r16=>
      bif (!r16) then
      some (⟨[]⟩,false)
      else
      some (r15,true)
     else
      bif (a_1.fKind == 3) then
      bif ((ByteArray.toList a_1.fTo) == (ByteArray.toList a_1.fName)) then
       some (⟨[]⟩,false)
      else
       (z1 a_1.fTo).bind fun r17=>
       bif (!r17) then
       some (⟨[]⟩,false)
       else
       (z4 d_0 a_1.fName).bind fun r18=>
       (z3 r18 ⟨a_1.fTo,⟨#[]⟩,0⟩).bind fun r19=>
       (z0 r19).bind fun r20=>
       bif (!r20) then
        some (⟨[]⟩,false)
       else
        some (r19,true)
      else
      bif (a_1.fKind == 4) then
       (z4 d_0 a_1.fName).bind fun r21=>
       (z0 r21).bind fun r22=>
       bif (!r22) then
       some (⟨[]⟩,false)
       else
       some (r21,true)
      else
       some (⟨[]⟩,false)
   else
   (z2 d_0 a_1.fName).bind fun r23=>
   bif (decide (r23≥0)) then
    bif ((decide (0≤r23)) && (decide (r23<(d_0.fFiles.length:Int)))) then
    bif (a_1.fKind == 1) then
    bif (decide (((d_0.fFiles.getD r23.toNat (⟨⟨#[]⟩,⟨#[]⟩,0⟩:SFile)).fText.size+a_1.fText.size)≤9223372036854775807)) then
    (z3 d_0 ⟨(d_0.fFiles.getD r23.toNat (⟨⟨#[]⟩,⟨#[]⟩,0⟩:SFile)).fName,((d_0.fFiles.getD r23.toNat (⟨⟨#[]⟩,⟨#[]⟩,0⟩:SFile)).fText++a_1.fText),(d_0.fFiles.getD r23.toNat (⟨⟨#[]⟩,⟨#[]⟩,0⟩:SFile)).fKept⟩).bind fun r24=>
    (z0 r24).bind fun r25=>
    bif (!r25) then
     some (⟨[]⟩,false)
    else
     some (r24,true)
    else none
    else
    bif (decide (r23<0)) then
     some (⟨[]⟩,false)
    else
     bif (a_1.fKind == 2) then
     (z3 d_0 ⟨(d_0.fFiles.getD r23.toNat (⟨⟨#[]⟩,⟨#[]⟩,0⟩:SFile)).fName,(d_0.fFiles.getD r23.toNat (⟨⟨#[]⟩,⟨#[]⟩,0⟩:SFile)).fText,((d_0.fFiles.getD r23.toNat (⟨⟨#[]⟩,⟨#[]⟩,0⟩:SFile)).fText.size:Int)⟩).bind fun r26=>
     (z0 r26).bind fun r27=>
     bif (!r27) then
      some (⟨[]⟩,false)
     else
      some (r26,true)
     else
     bif (a_1.fKind == 3) then
      bif (decide ((d_0.fFiles.getD r23.toNat (⟨⟨#[]⟩,⟨#[]⟩,0⟩:SFile)).fKept<((d_0.fFiles.getD r23.toNat (⟨⟨#[]⟩,⟨#[]⟩,0⟩:SFile)).fText.size:Int))) then
      some (⟨[]⟩,false)
      else
      bif ((ByteArray.toList a_1.fTo) == (ByteArray.toList a_1.fName)) then
       some (⟨[]⟩,false)
      else
       (z1 a_1.fTo).bind fun r28=>
       bif (!r28) then
       some (⟨[]⟩,false)
       else
       (z4 d_0 a_1.fName).bind fun r29=>
       (z3 r29 ⟨a_1.fTo,(d_0.fFiles.getD r23.toNat (⟨⟨#[]⟩,⟨#[]⟩,0⟩:SFile)).fText,(d_0.fFiles.getD r23.toNat (⟨⟨#[]⟩,⟨#[]⟩,0⟩:SFile)).fKept⟩).bind fun r30=>
       (z0 r30).bind fun r31=>
       bif (!r31) then
        some (⟨[]⟩,false)
       else
        some (r30,true)
     else
      bif (a_1.fKind == 4) then
      (z4 d_0 a_1.fName).bind fun r32=>
      (z0 r32).bind fun r33=>
      bif (!r33) then
       some (⟨[]⟩,false)
      else
       some (r32,true)
      else
      some (⟨[]⟩,false)
    else none
   else
    bif (a_1.fKind == 1) then
    bif (decide (((⟨#[]⟩:ByteArray).size+a_1.fText.size)≤9223372036854775807)) then
    (z3 d_0 ⟨a_1.fName,((⟨#[]⟩:ByteArray)++a_1.fText),0⟩).bind fun r34=>
    (z0 r34).bind fun r35=>
    bif (!r35) then
     some (⟨[]⟩,false)
    else
     some (r34,true)
    else none
    else
    bif (decide (r23<0)) then
     some (⟨[]⟩,false)
    else
     bif (a_1.fKind == 2) then
     (z3 d_0 ⟨a_1.fName,⟨#[]⟩,((⟨#[]⟩:ByteArray).size:Int)⟩).bind fun r36=>
     (z0 r36).bind fun r37=>
     bif (!r37) then
      some (⟨[]⟩,false)
     else
      some (r36,true)
     else
     bif (a_1.fKind == 3) then
      bif ((ByteArray.toList a_1.fTo) == (ByteArray.toList a_1.fName)) then
      some (⟨[]⟩,false)
      else
      (z1 a_1.fTo).bind fun r38=>
      bif (!r38) then
       some (⟨[]⟩,false)
      else
       (z4 d_0 a_1.fName).bind fun r39=>
       (z3 r39 ⟨a_1.fTo,⟨#[]⟩,0⟩).bind fun r40=>
       (z0 r40).bind fun r41=>
       bif (!r41) then
       some (⟨[]⟩,false)
       else
       some (r40,true)
     else
      bif (a_1.fKind == 4) then
      (z4 d_0 a_1.fName).bind fun r42=>
      (z0 r42).bind fun r43=>
      bif (!r43) then
       some (⟨[]⟩,false)
      else
       some (r42,true)
      else
      some (⟨[]⟩,false)
  else
  bif (a_1.fKind != 1) then
   bif (!((ByteArray.toList a_1.fText) == (ByteArray.toList ⟨#[]⟩))) then
   some (⟨[]⟩,false)
   else
   (z2 d_0 a_1.fName).bind fun r44=>
   bif (decide (r44≥0)) then
    bif ((decide (0≤r44)) && (decide (r44<(d_0.fFiles.length:Int)))) then
    bif (a_1.fKind == 1) then
    bif (decide (((d_0.fFiles.getD r44.toNat (⟨⟨#[]⟩,⟨#[]⟩,0⟩:SFile)).fText.size+a_1.fText.size)≤9223372036854775807)) then
    (z3 d_0 ⟨(d_0.fFiles.getD r44.toNat (⟨⟨#[]⟩,⟨#[]⟩,0⟩:SFile)).fName,((d_0.fFiles.getD r44.toNat (⟨⟨#[]⟩,⟨#[]⟩,0⟩:SFile)).fText++a_1.fText),(d_0.fFiles.getD r44.toNat (⟨⟨#[]⟩,⟨#[]⟩,0⟩:SFile)).fKept⟩).bind fun r45=>
    (z0 r45).bind fun r46=>
    bif (!r46) then
     some (⟨[]⟩,false)
    else
     some (r45,true)
    else none
    else
    bif (decide (r44<0)) then
     some (⟨[]⟩,false)
    else
     bif (a_1.fKind == 2) then
     (z3 d_0 ⟨(d_0.fFiles.getD r44.toNat (⟨⟨#[]⟩,⟨#[]⟩,0⟩:SFile)).fName,(d_0.fFiles.getD r44.toNat (⟨⟨#[]⟩,⟨#[]⟩,0⟩:SFile)).fText,((d_0.fFiles.getD r44.toNat (⟨⟨#[]⟩,⟨#[]⟩,0⟩:SFile)).fText.size:Int)⟩).bind fun r47=>
     (z0 r47).bind fun r48=>
     bif (!r48) then
      some (⟨[]⟩,false)
     else
      some (r47,true)
     else
     bif (a_1.fKind == 3) then
      bif (decide ((d_0.fFiles.getD r44.toNat (⟨⟨#[]⟩,⟨#[]⟩,0⟩:SFile)).fKept<((d_0.fFiles.getD r44.toNat (⟨⟨#[]⟩,⟨#[]⟩,0⟩:SFile)).fText.size:Int))) then
      some (⟨[]⟩,false)
      else
      bif ((ByteArray.toList a_1.fTo) == (ByteArray.toList a_1.fName)) then
       some (⟨[]⟩,false)
      else
       (z1 a_1.fTo).bind fun r49=>
       bif (!r49) then
       some (⟨[]⟩,false)
       else
       (z4 d_0 a_1.fName).bind fun r50=>
       (z3 r50 ⟨a_1.fTo,(d_0.fFiles.getD r44.toNat (⟨⟨#[]⟩,⟨#[]⟩,0⟩:SFile)).fText,(d_0.fFiles.getD r44.toNat (⟨⟨#[]⟩,⟨#[]⟩,0⟩:SFile)).fKept⟩).bind fun r51=>
       (z0 r51).bind fun r52=>
       bif (!r52) then
        some (⟨[]⟩,false)
       else
        some (r51,true)
     else
      bif (a_1.fKind == 4) then
      (z4 d_0 a_1.fName).bind fun r53=>
      (z0 r53).bind fun r54=>
      bif (!r54) then
       some (⟨[]⟩,false)
      else
       some (r53,true)
      else
      some (⟨[]⟩,false)
    else none
   else
    bif (a_1.fKind == 1) then
    bif (decide (((⟨#[]⟩:ByteArray).size+a_1.fText.size)≤9223372036854775807)) then
    (z3 d_0 ⟨a_1.fName,((⟨#[]⟩:ByteArray)++a_1.fText),0⟩).bind fun r55=>
    (z0 r55).bind fun r56=>
    bif (!r56) then
     some (⟨[]⟩,false)
    else
     some (r55,true)
    else none
    else
    bif (decide (r44<0)) then
     some (⟨[]⟩,false)
    else
     bif (a_1.fKind == 2) then
     (z3 d_0 ⟨a_1.fName,⟨#[]⟩,((⟨#[]⟩:ByteArray).size:Int)⟩).bind fun r57=>
     (z0 r57).bind fun r58=>
     bif (!r58) then
      some (⟨[]⟩,false)
     else
      some (r57,true)
     else
     bif (a_1.fKind == 3) then
      bif ((ByteArray.toList a_1.fTo) == (ByteArray.toList a_1.fName)) then
      some (⟨[]⟩,false)
      else
      (z1 a_1.fTo).bind fun r59=>
      bif (!r59) then
       some (⟨[]⟩,false)
      else
       (z4 d_0 a_1.fName).bind fun r60=>
       (z3 r60 ⟨a_1.fTo,⟨#[]⟩,0⟩).bind fun r61=>
       (z0 r61).bind fun r62=>
       bif (!r62) then
       some (⟨[]⟩,false)
       else
       some (r61,true)
     else
      bif (a_1.fKind == 4) then
      (z4 d_0 a_1.fName).bind fun r63=>
      (z0 r63).bind fun r64=>
      bif (!r64) then
       some (⟨[]⟩,false)
      else
       some (r63,true)
      else
      some (⟨[]⟩,false)
  else
   (z2 d_0 a_1.fName).bind fun r65=>
   bif (decide (r65≥0)) then
   bif ((decide (0≤r65)) && (decide (r65<(d_0.fFiles.length:Int)))) then
   bif (a_1.fKind == 1) then
    bif (decide (((d_0.fFiles.getD r65.toNat (⟨⟨#[]⟩,⟨#[]⟩,0⟩:SFile)).fText.size+a_1.fText.size)≤9223372036854775807)) then
    (z3 d_0 ⟨(d_0.fFiles.getD r65.toNat (⟨⟨#[]⟩,⟨#[]⟩,0⟩:SFile)).fName,((d_0.fFiles.getD r65.toNat (⟨⟨#[]⟩,⟨#[]⟩,0⟩:SFile)).fText++a_1.fText),(d_0.fFiles.getD r65.toNat (⟨⟨#[]⟩,⟨#[]⟩,0⟩:SFile)).fKept⟩).bind fun r66=>
    (z0 r66).bind fun r67=>
    bif (!r67) then
    some (⟨[]⟩,false)
    else
    some (r66,true)
    else none
   else
    bif (decide (r65<0)) then
    some (⟨[]⟩,false)
    else
    bif (a_1.fKind == 2) then
     (z3 d_0 ⟨(d_0.fFiles.getD r65.toNat (⟨⟨#[]⟩,⟨#[]⟩,0⟩:SFile)).fName,(d_0.fFiles.getD r65.toNat (⟨⟨#[]⟩,⟨#[]⟩,0⟩:SFile)).fText,((d_0.fFiles.getD r65.toNat (⟨⟨#[]⟩,⟨#[]⟩,0⟩:SFile)).fText.size:Int)⟩).bind fun r68=>
     (z0 r68).bind fun r69=>
     bif (!r69) then
     some (⟨[]⟩,false)
     else
     some (r68,true)
    else
     bif (a_1.fKind == 3) then
     bif (decide ((d_0.fFiles.getD r65.toNat (⟨⟨#[]⟩,⟨#[]⟩,0⟩:SFile)).fKept<((d_0.fFiles.getD r65.toNat (⟨⟨#[]⟩,⟨#[]⟩,0⟩:SFile)).fText.size:Int))) then
      some (⟨[]⟩,false)
     else
      bif ((ByteArray.toList a_1.fTo) == (ByteArray.toList a_1.fName)) then
      some (⟨[]⟩,false)
      else
      (z1 a_1.fTo).bind fun r70=>
      bif (!r70) then
       some (⟨[]⟩,false)
      else
       (z4 d_0 a_1.fName).bind fun r71=>
       (z3 r71 ⟨a_1.fTo,(d_0.fFiles.getD r65.toNat (⟨⟨#[]⟩,⟨#[]⟩,0⟩:SFile)).fText,(d_0.fFiles.getD r65.toNat (⟨⟨#[]⟩,⟨#[]⟩,0⟩:SFile)).fKept⟩).bind fun r72=>
       (z0 r72).bind fun r73=>
       bif (!r73) then
       some (⟨[]⟩,false)
       else
       some (r72,true)
     else
     bif (a_1.fKind == 4) then
      (z4 d_0 a_1.fName).bind fun r74=>
      (z0 r74).bind fun r75=>
      bif (!r75) then
      some (⟨[]⟩,false)
      else
      some (r74,true)
     else
      some (⟨[]⟩,false)
   else none
   else
   bif (a_1.fKind == 1) then
    bif (decide (((⟨#[]⟩:ByteArray).size+a_1.fText.size)≤9223372036854775807)) then
    (z3 d_0 ⟨a_1.fName,((⟨#[]⟩:ByteArray)++a_1.fText),0⟩).bind fun r76=>
    (z0 r76).bind fun r77=>
    bif (!r77) then
    some (⟨[]⟩,false)
    else
    some (r76,true)
    else none
   else
    bif (decide (r65<0)) then
    some (⟨[]⟩,false)
    else
    bif (a_1.fKind == 2) then
     (z3 d_0 ⟨a_1.fName,⟨#[]⟩,((⟨#[]⟩:ByteArray).size:Int)⟩).bind fun r78=>
     (z0 r78).bind fun r79=>
     bif (!r79) then
     some (⟨[]⟩,false)
     else
     some (r78,true)
    else
     bif (a_1.fKind == 3) then
     bif ((ByteArray.toList a_1.fTo) == (ByteArray.toList a_1.fName)) then
      some (⟨[]⟩,false)
     else
      (z1 a_1.fTo).bind fun r80=>
      bif (!r80) then
      some (⟨[]⟩,false)
      else
      (z4 d_0 a_1.fName).bind fun r81=>
      (z3 r81 ⟨a_1.fTo,⟨#[]⟩,0⟩).bind fun r82=>
      (z0 r82).bind fun r83=>
      bif (!r83) then
       some (⟨[]⟩,false)
      else
       some (r82,true)
     else
     bif (a_1.fKind == 4) then
      (z4 d_0 a_1.fName).bind fun r84=>
      (z0 r84).bind fun r85=>
      bif (!r85) then
      some (⟨[]⟩,false)
      else
      some (r84,true)
     else
      some (⟨[]⟩,false)
noncomputable def Sl:JAD:=QAN Ud Zg Bh O4 X4
theorem SAi:Tells ctx PP 137 cv39 cv40 (fun a=>Sl a.1 a.2):=fn_ok0 (hc KAK (hc UAU (hc GAL (hc OAi (hc QAi hl_nil))))) Tryz.func137 ((fun z0 z1 z2 z3 z4 a=>by kernel_rfl:∀ z0 z1 z2 z3 z4,EntryIs0 ctx PP 137 [] [(49,IAB z0),(116,IAK z1),(119,HAL z2),(172,PAi z3),(173,RAi z4)] cv39 cv40 fun a=>QAN z0 z1 z2 z3 z4 a.1 a.2) Ud Zg Bh O4 X4)
noncomputable def FAX {γ:Type} (F:JAD):Hd ctx γ:=hdl cv39.dec (fun a=>F a.1 a.2) cv40.enc
abbrev SAN:=SDisk→(List SAct)→Option (SDisk×Int)
inductive Y4 where
 | c0 (list_1:(List SAct)) (i_7:Int) (v_4r0:(List SFile)) (out_6r0:(List SFile))
noncomputable def GAX:Y4→LI
 | .c0 list_1 i_7 v_4r0 out_6r0=>(tdo Tryz.f79 464,[(1,[.one (.rsl 162 list_1)]),(4,[.one (.ptr 256 0)]),(6,[.one (.ptr 384 0)]),(7,[.one (.int .i64 i_7)])],[(256,.var [.own 1016384]),(384,.var [.own 1024576]),(1016384,.sl 155 v_4r0),(1024576,.sl 155 out_6r0)])
noncomputable def TAN (z0:JAD) (k:Y4→Option (SDisk×Int)) (d_0:SDisk) (list_1:(List SAct)):Option (SDisk×Int):=
 bif (decide (((0+d_0.fFiles.length)*40)≤140737488355328)) then
 k (.c0 list_1 0 [] ([]++d_0.fFiles))
 else none
noncomputable def KAD (z0:JAD) (k:Y4→Option (SDisk×Int)):Y4→Option (SDisk×Int)
 | .c0 list_1 i_7 v_4r0 out_6r0=>
 bif (decide (i_7<(list_1.length:Int))) then
  bif ((decide (0≤i_7)) && (decide (i_7<(list_1.length:Int)))) then
  (z0 ⟨out_6r0⟩ (list_1.getD i_7.toNat (⟨0,⟨#[]⟩,⟨#[]⟩,⟨#[]⟩⟩:SAct))).bind fun r0=>
  bif (!r0.2) then
  some (⟨out_6r0⟩,i_7)
  else
  k (.c0 list_1 (w64 (i_7+1)) v_4r0 r0.1.fFiles)
  else none
 else
  some (⟨out_6r0⟩,(list_1.length:Int))
noncomputable def Z4:Nat→Y4→Option (SDisk×Int)
 | 0,_=>none
 | m+1,s=>KAD Sl (Z4 m) s
noncomputable def D5:SAN:=TAN Sl (Z4 gas)
theorem TAi:Tells ctx PP 79 cv41 cv42 (fun a=>D5 a.1 a.2):=
 have b:∀ z0,CutIs ctx PP 79 Tryz.f79 [] [(137,FAX z0)] cv42 GAX (KAD z0):=fun z0 _ s=>by cases s <;> kernel_rfl
 have e:∀ z0,EntryIs ctx PP 79 [] [(137,FAX z0)] cv41 cv42 GAX (fun k a=>TAN z0 k a.1 a.2):=fun z0 _ a=>by kernel_rfl
 fn_ok (hc SAi hl_nil) Tryz.func79 (fun s s' h=>by cases s;cases s';cases h;rfl) (fun _=>rfl) (fun _ _=>rfl) (b Sl) (e Sl) gas
noncomputable def UAi {γ:Type} (F:SAN):Hd ctx γ:=hdl cv41.dec (fun a=>F a.1 a.2) cv42.enc
abbrev CAJ:=SBox→Option (SBox×Bool)
noncomputable def UAN (z0:KAN) (z1:O3) (z2:SAN) (b_0:SBox):Option (SBox×Bool):=
 bif b_0.fUp then
 some (⟨⟨#[]⟩,false,⟨[]⟩,⟨⟨#[]⟩,0,[],0,⟨#[]⟩,0⟩,[],[],0⟩,false)
 else
 (z0 b_0).bind fun r0=>
 bif (!r0) then
  some (⟨⟨#[]⟩,false,⟨[]⟩,⟨⟨#[]⟩,0,[],0,⟨#[]⟩,0⟩,[],[],0⟩,false)
 else
  (z1 b_0.fKey b_0.fDisk).bind fun r1=>
  (z2 b_0.fDisk r1.2.1).bind fun r2=>
  bif (!r1.2.2) then
  some (⟨⟨#[]⟩,false,⟨[]⟩,⟨⟨#[]⟩,0,[],0,⟨#[]⟩,0⟩,[],[],0⟩,false)
  else
  bif (decide (r2.2<(r1.2.1.length:Int))) then
   some (⟨⟨#[]⟩,false,⟨[]⟩,⟨⟨#[]⟩,0,[],0,⟨#[]⟩,0⟩,[],[],0⟩,false)
  else
   some (⟨b_0.fKey,true,r2.1,r1.1,[],[],0⟩,true)
noncomputable def Yv:CAJ:=UAN I4 Nh D5
theorem CAf:Tells ctx PP 22 cv116 cv44 (fun a=>Yv a):=fn_ok0 (hc MAi (hc ZAW (hc TAi hl_nil))) Tryz.func22 ((fun z0 z1 z2 a=>by kernel_rfl:∀ z0 z1 z2,EntryIs0 ctx PP 22 [] [(14,NAi z0),(52,IAN z1),(79,UAi z2)] cv116 cv44 fun a=>UAN z0 z1 z2 a) I4 Nh D5)
noncomputable def FAf {γ:Type} (F:CAJ):Hd ctx γ:=hdl cv116.dec (fun a=>F a) cv44.enc
abbrev FZ:=Int→Int→Int→Option Bool
noncomputable def HAX (n_0:Int) (low_1:Int) (high_2:Int):Option Bool:=
 bif (decide (n_0≥low_1)) then
 some (decide (n_0≤high_2))
 else
 some false
noncomputable def YX:FZ:=HAX
theorem Md:Tells ctx PP 60 cv5 cv6 (fun a=>YX a.1 a.2.1 a.2.2):=fn_ok0 hl_nil Tryz.func60 (fun a=>by kernel_rfl:EntryIs0 ctx PP 60 [] [] cv5 cv6 fun a=>HAX a.1 a.2.1 a.2.2)
noncomputable def PZ {γ:Type} (F:FZ):Hd ctx γ:=hdl cv5.dec (fun a=>F a.1 a.2.1 a.2.2) cv6.enc
abbrev Eo:=SDisk→Option Bool
inductive E5 where
 | c0 (v_6:(List SFile)) (v_7:Int) (v_8:Int) (d_1:SDisk)
noncomputable def IAX:E5→LI
 | .c0 v_6 v_7 v_8 d_1=>(tdo Tryz.f59 104,[(1,[.one (.ptr 64 0)]),(6,[.one (.rsl 155 v_6)]),(7,[.one (.int .i64 v_7)]),(8,[.one (.int .i64 v_8)])],[(64,.var [.rsl 155 d_1.fFiles])])
noncomputable def VAN (z0:FZ) (k:E5→Option Bool) (d_0:SDisk):Option Bool:=
 k (.c0 d_0.fFiles (d_0.fFiles.length:Int) 0 d_0)
noncomputable def LAD (z0:FZ) (k:E5→Option Bool):E5→Option Bool
 | .c0 v_6 v_7 v_8 d_1=>
 bif (decide (v_8<v_7)) then
  bif ((decide (0≤v_8)) && (decide (v_8<(v_6.length:Int)))) then
  (z0 ((v_6.getD v_8.toNat (⟨⟨#[]⟩,⟨#[]⟩,0⟩:SFile)).fName.size:Int) 1 8).bind fun r0=>
  bif (!r0) then
  some false
  else
  bif (decide (((v_6.getD v_8.toNat (⟨⟨#[]⟩,⟨#[]⟩,0⟩:SFile)).fText.size:Int) > 20000)) then
   some false
  else
   (z0 (v_6.getD v_8.toNat (⟨⟨#[]⟩,⟨#[]⟩,0⟩:SFile)).fKept 0 ((v_6.getD v_8.toNat (⟨⟨#[]⟩,⟨#[]⟩,0⟩:SFile)).fText.size:Int)).bind fun r1=>
   bif (!r1) then
   some false
   else
   bif (decide (v_8 > 0)) then
    bif ((decide (0≤(w64 (v_8 - 1)))) && (decide ((w64 (v_8 - 1))<(d_1.fFiles.length:Int)))) then
    bif (!(Op.bytesLess (ByteArray.toList (d_1.fFiles.getD (w64 (v_8 - 1)).toNat (⟨⟨#[]⟩,⟨#[]⟩,0⟩:SFile)).fName) (ByteArray.toList (v_6.getD v_8.toNat (⟨⟨#[]⟩,⟨#[]⟩,0⟩:SFile)).fName))) then
    some false
    else
    k (.c0 v_6 v_7 (w64 (v_8+1)) d_1)
    else none
   else
    k (.c0 v_6 v_7 (w64 (v_8+1)) d_1)
  else none
 else
  some (decide ((d_1.fFiles.length:Int)≤30))
noncomputable def F5:Nat→E5→Option Bool
 | 0,_=>none
 | m+1,s=>LAD YX (F5 m) s
noncomputable def Jd:Eo:=VAN YX (F5 gas)
theorem LAG:Tells ctx PP 59 cv35 cv6 (fun a=>Jd a):=
 have b:∀ z0,CutIs ctx PP 59 Tryz.f59 [] [(60,PZ z0)] cv6 IAX (LAD z0):=fun z0 _ s=>by cases s <;> kernel_rfl
 have e:∀ z0,EntryIs ctx PP 59 [] [(60,PZ z0)] cv35 cv6 IAX (fun k a=>VAN z0 k a):=fun z0 _ a=>by kernel_rfl
 fn_ok (hc Md hl_nil) Tryz.func59 (fun s s' h=>by cases s;cases s';(repeat cases ‹SDisk›);cases h;rfl) (fun _=>rfl) (fun _ _=>rfl) (b YX) (e YX) gas
noncomputable def O9 {γ:Type} (F:Eo):Hd ctx γ:=hdl cv35.dec (fun a=>F a) cv6.enc
abbrev WAN:=Option (List Int)
noncomputable def JAX  : Option (List Int):=
 some [1779033703,3144134277,1013904242,2773480762,1359893119,2600822924,528734635,1541459225]
noncomputable def MAD:WAN:=JAX
theorem VAi:Tells ctx PP 103 cv0 cv45 (fun _=>MAD):=fn_ok0 hl_nil Tryz.func103 (fun _=>by kernel_rfl:EntryIs0 ctx PP 103 [] [] cv0 cv45 fun _=>JAX)
noncomputable def WAi {γ:Type} (F:WAN):Hd ctx γ:=hdl cv0.dec (fun _=>F) cv45.enc
abbrev G5:=Int→Option ByteArray
noncomputable def XAN (n_0:Int):Option ByteArray:=
 bif ((((decide (0≤n_0)) && (decide (n_0≤n_0))) && (decide (n_0≤9223372036854775807))) && (decide ((n_0.toNat*1)≤140737488355328))) then
 some (ofBytes (List.replicate n_0.toNat (0:Int)))
 else none
noncomputable def Vf:G5:=XAN
theorem YAN:Tells ctx PP 99 cv15 cv3 (fun a=>Vf a):=fn_ok0 hl_nil Tryz.func99 (fun a=>by kernel_rfl:EntryIs0 ctx PP 99 [] [] cv15 cv3 fun a=>XAN a)
noncomputable def ZAN {γ:Type} (F:G5):Hd ctx γ:=hdl cv15.dec (fun a=>F a) cv3.enc
abbrev Ri:=Int→Option ByteArray
noncomputable def AAO (n_0:Int):Option ByteArray:=
 some (ofBytes [(w8 (Int.fdiv n_0 (2 ^ (Min.min (24:Int).toNat (IntKind.bits IntKind.u32))))),(w8 (Int.fdiv n_0 (2 ^ (Min.min (16:Int).toNat (IntKind.bits IntKind.u32))))),(w8 (Int.fdiv n_0 (2 ^ (Min.min (8:Int).toNat (IntKind.bits IntKind.u32))))),(w8 n_0)])
noncomputable def Cb:Ri:=AAO
theorem NAD:Tells ctx PP 158 cv8 cv3 (fun a=>Cb a):=fn_ok0 hl_nil Tryz.func158 (fun a=>by kernel_rfl:EntryIs0 ctx PP 158 [] [] cv8 cv3 fun a=>AAO a)
noncomputable def Vp {γ:Type} (F:Ri):Hd ctx γ:=hdl cv8.dec (fun a=>F a) cv3.enc
abbrev BAO:=Int→Option ByteArray
noncomputable def CAO (z0:Ri) (n_0:Int):Option ByteArray:=
 (z0 (w32 (Int.fdiv n_0 (2 ^ (Min.min (32:Int).toNat (IntKind.bits IntKind.i64)))))).bind fun r0=>
 (z0 (w32 n_0)).bind fun r1=>
 bif (decide ((r0.size+r1.size)≤9223372036854775807)) then
 some (r0++r1)
 else none
noncomputable def I5:BAO:=CAO Cb
theorem XAi:Tells ctx PP 157 cv15 cv3 (fun a=>I5 a):=fn_ok0 (hc NAD hl_nil) Tryz.func157 ((fun z0 a=>by kernel_rfl:∀ z0,EntryIs0 ctx PP 157 [] [(158,Vp z0)] cv15 cv3 fun a=>CAO z0 a) Cb)
noncomputable def YAi {γ:Type} (F:BAO):Hd ctx γ:=hdl cv15.dec (fun a=>F a) cv3.enc
abbrev DAO:=Int→Option ByteArray
noncomputable def EAO (z0:G5) (z1:BAO) (count_0:Int):Option ByteArray:=
 (z0 ((w64 (119 - (count_0.tmod 64))).tmod 64)).bind fun r0=>
 bif (decide (((⟨#[128]⟩:ByteArray).size+r0.size)≤9223372036854775807)) then
 (z1 (w64 (8*count_0))).bind fun r1=>
 bif (decide ((((⟨#[128]⟩:ByteArray)++r0).size+r1.size)≤9223372036854775807)) then
 some (((⟨#[128]⟩:ByteArray)++r0)++r1)
 else none
 else none
noncomputable def J5:DAO:=EAO Vf I5
theorem ZAi:Tells ctx PP 104 cv15 cv3 (fun a=>J5 a):=fn_ok0 (hc YAN (hc XAi hl_nil)) Tryz.func104 ((fun z0 z1 a=>by kernel_rfl:∀ z0 z1,EntryIs0 ctx PP 104 [] [(99,ZAN z0),(157,YAi z1)] cv15 cv3 fun a=>EAO z0 z1 a) Vf I5)
noncomputable def AAj {γ:Type} (F:DAO):Hd ctx γ:=hdl cv15.dec (fun a=>F a) cv3.enc
abbrev FAO:=Int→Int→Option Int
noncomputable def GAO (x_0:Int) (k_1:Int):Option Int:=
 bif (decide (0≤(wu64 (32 - (wu64 (((BitVec.toNat ((BitVec.ofInt (IntKind.bits IntKind.u64) (wu64 k_1)) &&& (BitVec.ofInt (IntKind.bits IntKind.u64) 31))):Nat):Int)))))) then
 some (w32 (((BitVec.toNat ((BitVec.ofInt (IntKind.bits IntKind.u32) (w32 (x_0*(2 ^ (Min.min (wu64 (((BitVec.toNat ((BitVec.ofInt (IntKind.bits IntKind.u64) (wu64 k_1)) &&& (BitVec.ofInt (IntKind.bits IntKind.u64) 31))):Nat):Int)).toNat (IntKind.bits IntKind.u32)))))) ||| (BitVec.ofInt (IntKind.bits IntKind.u32) (Int.fdiv x_0 (2 ^ (Min.min (wu64 (32 - (wu64 (((BitVec.toNat ((BitVec.ofInt (IntKind.bits IntKind.u64) (wu64 k_1)) &&& (BitVec.ofInt (IntKind.bits IntKind.u64) 31))):Nat):Int)))).toNat (IntKind.bits IntKind.u32))))))):Nat):Int))
 else none
noncomputable def O5:FAO:=GAO
theorem BAj:Tells ctx PP 212 cv46 cv8 (fun a=>O5 a.1 a.2):=fn_ok0 hl_nil Tryz.func212 (fun a=>by kernel_rfl:EntryIs0 ctx PP 212 [] [] cv46 cv8 fun a=>GAO a.1 a.2)
noncomputable def CAj {γ:Type} (F:FAO):Hd ctx γ:=hdl cv46.dec (fun a=>F a.1 a.2) cv8.enc
abbrev Wp:=Int→Int→Option Int
noncomputable def HAO (z0:FAO) (x_0:Int) (n_1:Int):Option Int:=
 (z0 x_0 (w64 (0 - n_1))).bind fun r0=>
 some r0
noncomputable def DZ:Wp:=HAO O5
theorem KAX:Tells ctx PP 195 cv46 cv8 (fun a=>DZ a.1 a.2):=fn_ok0 (hc BAj hl_nil) Tryz.func195 ((fun z0 a=>by kernel_rfl:∀ z0,EntryIs0 ctx PP 195 [] [(212,CAj z0)] cv46 cv8 fun a=>HAO z0 a.1 a.2) O5)
noncomputable def OAD {γ:Type} (F:Wp):Hd ctx γ:=hdl cv46.dec (fun a=>F a.1 a.2) cv8.enc
abbrev PAD:=ByteArray→Option (List Int)
inductive P5 where
 | c0 (block_0:ByteArray) (v_11:Int) (v_2r0:(List Int)) (w_3r0:(List Int))
 | c1 (block_0:ByteArray) (i_4:Int) (v_11:Int) (v_14:Int) (v_2r0:(List Int)) (w_3r0:(List Int))
 | c2 (t_6:Int) (v_2r0:(List Int)) (w_3r0:(List Int))
noncomputable def LAX:P5→LI
 | .c0 block_0 v_11 v_2r0 w_3r0=>(tdo Tryz.f194 232,[(0,[.one (.str block_0)]),(2,[.one (.ptr 128 0)]),(3,[.one (.ptr 192 0)]),(11,[.one (.int .i64 v_11)])],[(128,.ar 138 v_2r0),(192,.ar 138 w_3r0)])
 | .c1 block_0 i_4 v_11 v_14 v_2r0 w_3r0=>(tdo Tryz.f194 59800,[(0,[.one (.str block_0)]),(2,[.one (.ptr 128 0)]),(3,[.one (.ptr 192 0)]),(4,[.one (.int .i64 i_4)]),(11,[.one (.int .i64 v_11)]),(14,[.one (.int .i64 v_14)])],[(128,.ar 138 v_2r0),(192,.ar 138 w_3r0)])
 | .c2 t_6 v_2r0 w_3r0=>(tdo Tryz.f194 976,[(2,[.one (.ptr 128 0)]),(3,[.one (.ptr 192 0)]),(6,[.one (.int .i64 t_6)])],[(128,.ar 138 v_2r0),(192,.ar 138 w_3r0)])
noncomputable def IAO (z0:Wp) (k:P5→Option (List Int)) (block_0:ByteArray):Option (List Int):=
 k (.c0 block_0 0 (List.replicate 64 (0:Int)) (List.replicate 64 (0:Int)))
noncomputable def Si (z0:Wp) (k:P5→Option (List Int)):P5→Option (List Int)
 | .c0 block_0 v_11 v_2r0 w_3r0=>
 bif (decide (v_11<16)) then
  k (.c1 block_0 v_11 v_11 0 v_2r0 w_3r0)
 else
  k (.c2 16 v_2r0 w_3r0)
 | .c1 block_0 i_4 v_11 v_14 v_2r0 w_3r0=>
 bif (decide (v_14<4)) then
  bif (Nat.beq 64 w_3r0.length) then
  bif ((decide (0≤i_4)) && (decide (i_4<(w_3r0.length:Int)))) then
  bif ((decide (0≤(w64 ((w64 (4*i_4))+v_14)))) && (decide ((w64 ((w64 (4*i_4))+v_14))<(block_0.size:Int)))) then
  bif (Nat.beq 64 w_3r0.length) then
  bif ((decide (0≤i_4)) && (decide (i_4<(w_3r0.length:Int)))) then
  k (.c1 block_0 i_4 v_11 (w64 (v_14+1)) v_2r0 (w_3r0.set i_4.toNat (w32 (((BitVec.toNat ((BitVec.ofInt (IntKind.bits IntKind.u32) (w32 ((w_3r0.getD i_4.toNat 0)*(2 ^ (Min.min (8:Int).toNat (IntKind.bits IntKind.u32)))))) ||| (BitVec.ofInt (IntKind.bits IntKind.u32) (w32 (bt block_0 (w64 ((w64 (4*i_4))+v_14))))))):Nat):Int))))
  else none
  else none
  else none
  else none
  else none
 else
  k (.c0 block_0 (w64 (v_11+1)) v_2r0 w_3r0)
 | .c2 t_6 v_2r0 w_3r0=>
 bif (decide (t_6<64)) then
  bif (Nat.beq 64 w_3r0.length) then
  bif ((decide (0≤(w64 (t_6 - 15)))) && (decide ((w64 (t_6 - 15))<(w_3r0.length:Int)))) then
  bif (Nat.beq 64 w_3r0.length) then
  bif ((decide (0≤(w64 (t_6 - 2)))) && (decide ((w64 (t_6 - 2))<(w_3r0.length:Int)))) then
  (z0 (w_3r0.getD (w64 (t_6 - 15)).toNat 0) 7).bind fun r0=>
  (z0 (w_3r0.getD (w64 (t_6 - 15)).toNat 0) 18).bind fun r1=>
  (z0 (w_3r0.getD (w64 (t_6 - 2)).toNat 0) 17).bind fun r2=>
  (z0 (w_3r0.getD (w64 (t_6 - 2)).toNat 0) 19).bind fun r3=>
  bif (Nat.beq 64 w_3r0.length) then
  bif ((decide (0≤(w64 (t_6 - 7)))) && (decide ((w64 (t_6 - 7))<(w_3r0.length:Int)))) then
  bif (Nat.beq 64 w_3r0.length) then
  bif ((decide (0≤(w64 (t_6 - 16)))) && (decide ((w64 (t_6 - 16))<(w_3r0.length:Int)))) then
  bif (Nat.beq 64 w_3r0.length) then
  bif ((decide (0≤t_6)) && (decide (t_6<(w_3r0.length:Int)))) then
  k (.c2 (w64 (t_6+1)) v_2r0 (w_3r0.set t_6.toNat (w32 ((w32 ((w32 ((w32 (((BitVec.toNat ((BitVec.ofInt (IntKind.bits IntKind.u32) (w32 (((BitVec.toNat ((BitVec.ofInt (IntKind.bits IntKind.u32) r2) ^^^ (BitVec.ofInt (IntKind.bits IntKind.u32) r3))):Nat):Int))) ^^^ (BitVec.ofInt (IntKind.bits IntKind.u32) (Int.fdiv (w_3r0.getD (w64 (t_6 - 2)).toNat 0) (2 ^ (Min.min (10:Int).toNat (IntKind.bits IntKind.u32))))))):Nat):Int))+(w_3r0.getD (w64 (t_6 - 7)).toNat 0)))+(w32 (((BitVec.toNat ((BitVec.ofInt (IntKind.bits IntKind.u32) (w32 (((BitVec.toNat ((BitVec.ofInt (IntKind.bits IntKind.u32) r0) ^^^ (BitVec.ofInt (IntKind.bits IntKind.u32) r1))):Nat):Int))) ^^^ (BitVec.ofInt (IntKind.bits IntKind.u32) (Int.fdiv (w_3r0.getD (w64 (t_6 - 15)).toNat 0) (2 ^ (Min.min (3:Int).toNat (IntKind.bits IntKind.u32))))))):Nat):Int))))+(w_3r0.getD (w64 (t_6 - 16)).toNat 0)))))
  else none
  else none
  else none
  else none
  else none
  else none
  else none
  else none
  else none
  else none
 else
  bif (Nat.beq 64 w_3r0.length) then
  bif ((Nat.beq w_3r0.length v_2r0.length) && (Nat.beq 64 w_3r0.length)) then
  bif ((Nat.beq 64 w_3r0.length) && true) then
  some w_3r0
  else none
  else none
  else none
noncomputable def Jc:Nat→P5→Option (List Int)
 | 0,_=>none
 | m+1,s=>Si DZ (Jc m) s
noncomputable def Ul:PAD:=IAO DZ (Jc gas)
theorem DAj:Tells ctx PP 194 cv3 cv45 (fun a=>Ul a):=
 have b:∀ z0,CutIs ctx PP 194 Tryz.f194 [] [(195,OAD z0)] cv45 LAX (Si z0):=fun z0 _ s=>by cases s <;> kernel_rfl
 have e:∀ z0,EntryIs ctx PP 194 [] [(195,OAD z0)] cv3 cv45 LAX (fun k a=>IAO z0 k a):=fun z0 _ a=>by kernel_rfl
 fn_ok (hc KAX hl_nil) Tryz.func194 (fun s s' h=>by cases s <;> cases s' <;> first | (cases h;done) | (cases h;rfl) | exact (rg_ne h (by kernel_rfl)).elim) (fun _=>rfl) (fun _ _=>rfl) (b DZ) (e DZ) gas
noncomputable def MAX {γ:Type} (F:PAD):Hd ctx γ:=hdl cv3.dec (fun a=>F a) cv45.enc
abbrev QAD:=(List Int)→ByteArray→Option (List Int)
inductive Q5 where
 | c0 (a_6:Int) (b_7:Int) (c_8:Int) (d_9:Int) (e_10:Int) (f_11:Int) (g_12:Int) (h_13:Int) (v_37:Int) (state_2r0:(List Int)) (v_4r0:(List Int)) (w_5r0:(List Int))
 | c1 (v_109:Int) (state_2r0:(List Int)) (v_4r0:(List Int)) (out_17r0:(List Int))
noncomputable def NAX:Q5→LI
 | .c0 a_6 b_7 c_8 d_9 e_10 f_11 g_12 h_13 v_37 state_2r0 v_4r0 w_5r0=>(tdo Tryz.f156 488,[(2,[.one (.ptr 128 0)]),(4,[.one (.ptr 256 0)]),(5,[.one (.ptr 320 0)]),(6,[.one (.int .u32 a_6)]),(7,[.one (.int .u32 b_7)]),(8,[.one (.int .u32 c_8)]),(9,[.one (.int .u32 d_9)]),(10,[.one (.int .u32 e_10)]),(11,[.one (.int .u32 f_11)]),(12,[.one (.int .u32 g_12)]),(13,[.one (.int .u32 h_13)]),(37,[.one (.int .i64 v_37)])],[(128,.ar 138 state_2r0),(256,.ar 138 v_4r0),(320,.ar 138 w_5r0)])
 | .c1 v_109 state_2r0 v_4r0 out_17r0=>(tdo Tryz.f156 2024,[(2,[.one (.ptr 128 0)]),(4,[.one (.ptr 256 0)]),(17,[.one (.ptr 1088 0)]),(109,[.one (.int .i64 v_109)])],[(128,.ar 138 state_2r0),(256,.ar 138 v_4r0),(1088,.ar 138 out_17r0)])
noncomputable def JAO (z0:PAD) (z1:Wp) (k:Q5→Option (List Int)) (state_0:(List Int)) (block_1:ByteArray):Option (List Int):=
 (z0 block_1).bind fun r0=>
 bif ((Nat.beq r0.length (List.replicate 64 (0:Int)).length) && (Nat.beq 64 r0.length)) then
 bif (Nat.beq 8 state_0.length) then
 bif ((decide ((0:Int)≤(0:Int))) && (decide (0<(state_0.length:Int)))) then
 bif (Nat.beq 8 state_0.length) then
 bif ((decide ((0:Int)≤(1:Int))) && (decide (1<(state_0.length:Int)))) then
 bif (Nat.beq 8 state_0.length) then
 bif ((decide ((0:Int)≤(2:Int))) && (decide (2<(state_0.length:Int)))) then
 bif (Nat.beq 8 state_0.length) then
 bif ((decide ((0:Int)≤(3:Int))) && (decide (3<(state_0.length:Int)))) then
 bif (Nat.beq 8 state_0.length) then
 bif ((decide ((0:Int)≤(4:Int))) && (decide (4<(state_0.length:Int)))) then
 bif (Nat.beq 8 state_0.length) then
 bif ((decide ((0:Int)≤(5:Int))) && (decide (5<(state_0.length:Int)))) then
 bif (Nat.beq 8 state_0.length) then
 bif ((decide ((0:Int)≤(6:Int))) && (decide (6<(state_0.length:Int)))) then
 bif (Nat.beq 8 state_0.length) then
 bif ((decide ((0:Int)≤(7:Int))) && (decide (7<(state_0.length:Int)))) then
 k (.c0 (state_0.getD (0:Int).toNat 0) (state_0.getD (1:Int).toNat 0) (state_0.getD (2:Int).toNat 0) (state_0.getD (3:Int).toNat 0) (state_0.getD (4:Int).toNat 0) (state_0.getD (5:Int).toNat 0) (state_0.getD (6:Int).toNat 0) (state_0.getD (7:Int).toNat 0) 0 state_0 [0,0,0,0,0,0,0,0] r0)
 else none
 else none
 else none
 else none
 else none
 else none
 else none
 else none
 else none
 else none
 else none
 else none
 else none
 else none
 else none
 else none
 else none
noncomputable def Xp (z0:PAD) (z1:Wp) (k:Q5→Option (List Int)):Q5→Option (List Int)
 | .c0 a_6 b_7 c_8 d_9 e_10 f_11 g_12 h_13 v_37 state_2r0 v_4r0 w_5r0=>
 bif (decide (v_37<64)) then
  (z1 e_10 6).bind fun r0=>
  (z1 e_10 11).bind fun r1=>
  (z1 e_10 25).bind fun r2=>
  bif ((decide (0≤v_37)) && (decide (v_37<((64:Nat):Int)))) then
  bif (Nat.blt v_37.toNat 64) then
  bif (Nat.beq 64 w_5r0.length) then
  bif ((decide (0≤v_37)) && (decide (v_37<(w_5r0.length:Int)))) then
  (z1 a_6 2).bind fun r3=>
  (z1 a_6 13).bind fun r4=>
  (z1 a_6 22).bind fun r5=>
  k (.c0 (w32 ((w32 ((w32 ((w32 ((w32 (h_13+(w32 (((BitVec.toNat ((BitVec.ofInt (IntKind.bits IntKind.u32) (w32 (((BitVec.toNat ((BitVec.ofInt (IntKind.bits IntKind.u32) r0) ^^^ (BitVec.ofInt (IntKind.bits IntKind.u32) r1))):Nat):Int))) ^^^ (BitVec.ofInt (IntKind.bits IntKind.u32) r2))):Nat):Int))))+(w32 (((BitVec.toNat ((BitVec.ofInt (IntKind.bits IntKind.u32) (w32 (((BitVec.toNat ((BitVec.ofInt (IntKind.bits IntKind.u32) e_10) &&& (BitVec.ofInt (IntKind.bits IntKind.u32) f_11))):Nat):Int))) ^^^ (BitVec.ofInt (IntKind.bits IntKind.u32) (w32 (((BitVec.toNat ((BitVec.ofInt (IntKind.bits IntKind.u32) (w32 (((BitVec.toNat ((BitVec.ofInt (IntKind.bits IntKind.u32) (ite ((IntKind.signed IntKind.u32)=true) (-(1:Int)) (IntKind.max IntKind.u32))) ^^^ (BitVec.ofInt (IntKind.bits IntKind.u32) e_10))):Nat):Int))) &&& (BitVec.ofInt (IntKind.bits IntKind.u32) g_12))):Nat):Int))))):Nat):Int))))+([(1116352408:Int),(1899447441:Int),(3049323471:Int),(3921009573:Int),(961987163:Int),(1508970993:Int),(2453635748:Int),(2870763221:Int),(3624381080:Int),(310598401:Int),(607225278:Int),(1426881987:Int),(1925078388:Int),(2162078206:Int),(2614888103:Int),(3248222580:Int),(3835390401:Int),(4022224774:Int),(264347078:Int),(604807628:Int),(770255983:Int),(1249150122:Int),(1555081692:Int),(1996064986:Int),(2554220882:Int),(2821834349:Int),(2952996808:Int),(3210313671:Int),(3336571891:Int),(3584528711:Int),(113926993:Int),(338241895:Int),(666307205:Int),(773529912:Int),(1294757372:Int),(1396182291:Int),(1695183700:Int),(1986661051:Int),(2177026350:Int),(2456956037:Int),(2730485921:Int),(2820302411:Int),(3259730800:Int),(3345764771:Int),(3516065817:Int),(3600352804:Int),(4094571909:Int),(275423344:Int),(430227734:Int),(506948616:Int),(659060556:Int),(883997877:Int),(958139571:Int),(1322822218:Int),(1537002063:Int),(1747873779:Int),(1955562222:Int),(2024104815:Int),(2227730452:Int),(2361852424:Int),(2428436474:Int),(2756734187:Int),(3204031479:Int),(3329325298:Int)].getD v_37.toNat 0)))+(w_5r0.getD v_37.toNat 0)))+(w32 ((w32 (((BitVec.toNat ((BitVec.ofInt (IntKind.bits IntKind.u32) (w32 (((BitVec.toNat ((BitVec.ofInt (IntKind.bits IntKind.u32) r3) ^^^ (BitVec.ofInt (IntKind.bits IntKind.u32) r4))):Nat):Int))) ^^^ (BitVec.ofInt (IntKind.bits IntKind.u32) r5))):Nat):Int))+(w32 (((BitVec.toNat ((BitVec.ofInt (IntKind.bits IntKind.u32) (w32 (((BitVec.toNat ((BitVec.ofInt (IntKind.bits IntKind.u32) (w32 (((BitVec.toNat ((BitVec.ofInt (IntKind.bits IntKind.u32) a_6) &&& (BitVec.ofInt (IntKind.bits IntKind.u32) b_7))):Nat):Int))) ^^^ (BitVec.ofInt (IntKind.bits IntKind.u32) (w32 (((BitVec.toNat ((BitVec.ofInt (IntKind.bits IntKind.u32) a_6) &&& (BitVec.ofInt (IntKind.bits IntKind.u32) c_8))):Nat):Int))))):Nat):Int))) ^^^ (BitVec.ofInt (IntKind.bits IntKind.u32) (w32 (((BitVec.toNat ((BitVec.ofInt (IntKind.bits IntKind.u32) b_7) &&& (BitVec.ofInt (IntKind.bits IntKind.u32) c_8))):Nat):Int))))):Nat):Int)))))) a_6 b_7 c_8 (w32 (d_9+(w32 ((w32 ((w32 ((w32 (h_13+(w32 (((BitVec.toNat ((BitVec.ofInt (IntKind.bits IntKind.u32) (w32 (((BitVec.toNat ((BitVec.ofInt (IntKind.bits IntKind.u32) r0) ^^^ (BitVec.ofInt (IntKind.bits IntKind.u32) r1))):Nat):Int))) ^^^ (BitVec.ofInt (IntKind.bits IntKind.u32) r2))):Nat):Int))))+(w32 (((BitVec.toNat ((BitVec.ofInt (IntKind.bits IntKind.u32) (w32 (((BitVec.toNat ((BitVec.ofInt (IntKind.bits IntKind.u32) e_10) &&& (BitVec.ofInt (IntKind.bits IntKind.u32) f_11))):Nat):Int))) ^^^ (BitVec.ofInt (IntKind.bits IntKind.u32) (w32 (((BitVec.toNat ((BitVec.ofInt (IntKind.bits IntKind.u32) (w32 (((BitVec.toNat ((BitVec.ofInt (IntKind.bits IntKind.u32) (ite ((IntKind.signed IntKind.u32)=true) (-(1:Int)) (IntKind.max IntKind.u32))) ^^^ (BitVec.ofInt (IntKind.bits IntKind.u32) e_10))):Nat):Int))) &&& (BitVec.ofInt (IntKind.bits IntKind.u32) g_12))):Nat):Int))))):Nat):Int))))+([(1116352408:Int),(1899447441:Int),(3049323471:Int),(3921009573:Int),(961987163:Int),(1508970993:Int),(2453635748:Int),(2870763221:Int),(3624381080:Int),(310598401:Int),(607225278:Int),(1426881987:Int),(1925078388:Int),(2162078206:Int),(2614888103:Int),(3248222580:Int),(3835390401:Int),(4022224774:Int),(264347078:Int),(604807628:Int),(770255983:Int),(1249150122:Int),(1555081692:Int),(1996064986:Int),(2554220882:Int),(2821834349:Int),(2952996808:Int),(3210313671:Int),(3336571891:Int),(3584528711:Int),(113926993:Int),(338241895:Int),(666307205:Int),(773529912:Int),(1294757372:Int),(1396182291:Int),(1695183700:Int),(1986661051:Int),(2177026350:Int),(2456956037:Int),(2730485921:Int),(2820302411:Int),(3259730800:Int),(3345764771:Int),(3516065817:Int),(3600352804:Int),(4094571909:Int),(275423344:Int),(430227734:Int),(506948616:Int),(659060556:Int),(883997877:Int),(958139571:Int),(1322822218:Int),(1537002063:Int),(1747873779:Int),(1955562222:Int),(2024104815:Int),(2227730452:Int),(2361852424:Int),(2428436474:Int),(2756734187:Int),(3204031479:Int),(3329325298:Int)].getD v_37.toNat 0)))+(w_5r0.getD v_37.toNat 0))))) e_10 f_11 g_12 (w64 (v_37+1)) state_2r0 v_4r0 w_5r0)
  else none
  else none
  else none
  else none
 else
  k (.c1 0 state_2r0 v_4r0 [a_6,b_7,c_8,d_9,e_10,f_11,g_12,h_13])
 | .c1 v_109 state_2r0 v_4r0 out_17r0=>
 bif (decide (v_109<8)) then
  bif (Nat.beq 8 out_17r0.length) then
  bif ((decide (0≤v_109)) && (decide (v_109<(out_17r0.length:Int)))) then
  bif (Nat.beq 8 state_2r0.length) then
  bif ((decide (0≤v_109)) && (decide (v_109<(state_2r0.length:Int)))) then
  bif (Nat.beq 8 out_17r0.length) then
  bif ((decide (0≤v_109)) && (decide (v_109<(out_17r0.length:Int)))) then
  k (.c1 (w64 (v_109+1)) state_2r0 v_4r0 (out_17r0.set v_109.toNat (w32 ((out_17r0.getD v_109.toNat 0)+(state_2r0.getD v_109.toNat 0)))))
  else none
  else none
  else none
  else none
  else none
  else none
 else
  bif (Nat.beq 8 out_17r0.length) then
  bif ((Nat.beq out_17r0.length v_4r0.length) && (Nat.beq 8 out_17r0.length)) then
  bif ((Nat.beq 8 out_17r0.length) && true) then
  some out_17r0
  else none
  else none
  else none
noncomputable def Ee:Nat→Q5→Option (List Int)
 | 0,_=>none
 | m+1,s=>Xp Ul DZ (Ee m) s
noncomputable def Vl:QAD:=JAO Ul DZ (Ee gas)
theorem EAj:Tells ctx PP 156 cv47 cv45 (fun a=>Vl a.1 a.2):=
 have b:∀ z0 z1,CutIs ctx PP 156 Tryz.f156 [] [(194,MAX z0),(195,OAD z1)] cv45 NAX (Xp z0 z1):=fun z0 z1 _ s=>by cases s <;> kernel_rfl
 have e:∀ z0 z1,EntryIs ctx PP 156 [] [(194,MAX z0),(195,OAD z1)] cv47 cv45 NAX (fun k a=>JAO z0 z1 k a.1 a.2):=fun z0 z1 _ a=>by kernel_rfl
 fn_ok (hc DAj (hc KAX hl_nil)) Tryz.func156 (fun s s' h=>by cases s <;> cases s' <;> first | (cases h;done) | (cases h;rfl) | exact (rg_ne h (by kernel_rfl)).elim) (fun _=>rfl) (fun _ _=>rfl) (b Ul DZ) (e Ul DZ) gas
noncomputable def OAX {γ:Type} (F:QAD):Hd ctx γ:=hdl cv47.dec (fun a=>F a.1 a.2) cv45.enc
abbrev KAO:=(List Int)→ByteArray→Option ((List Int)×ByteArray)
inductive U5 where
 | c0 (s_1:ByteArray) (state_2r0:(List Int)) (v_4r0:(List Int))
noncomputable def PAX:U5→LI
 | .c0 s_1 state_2r0 v_4r0=>(tdo Tryz.f102 96,[(1,[.one (.str s_1)]),(2,[.one (.ptr 128 0)]),(4,[.one (.ptr 256 0)])],[(128,.ar 138 state_2r0),(256,.ar 138 v_4r0)])
noncomputable def LAO (z0:QAD) (k:U5→Option ((List Int)×ByteArray)) (state_0:(List Int)) (s_1:ByteArray):Option ((List Int)×ByteArray):=
 k (.c0 s_1 state_0 [0,0,0,0,0,0,0,0])
noncomputable def RAD (z0:QAD) (k:U5→Option ((List Int)×ByteArray)):U5→Option ((List Int)×ByteArray)
 | .c0 s_1 state_2r0 v_4r0=>
 bif (decide ((s_1.size:Int)≥64)) then
  bif (Nat.beq 8 state_2r0.length) then
  bif ((decide ((0:Int)≤(64:Int))) && (decide (64≤(s_1.size:Int)))) then
  (z0 state_2r0 (s_1.extract 0 (64:Int).toNat)).bind fun r0=>
  bif ((Nat.beq r0.length state_2r0.length) && (Nat.beq 8 r0.length)) then
  bif ((decide ((0:Int)≤(64:Int))) && (decide (64≤(s_1.size:Int)))) then
  k (.c0 (s_1.extract (64:Int).toNat s_1.size) r0 v_4r0)
  else none
  else none
  else none
  else none
 else
  bif (Nat.beq 8 state_2r0.length) then
  bif ((Nat.beq state_2r0.length v_4r0.length) && (Nat.beq 8 state_2r0.length)) then
  bif ((Nat.beq 8 state_2r0.length) && true) then
  some (state_2r0,s_1)
  else none
  else none
  else none
noncomputable def V5:Nat→U5→Option ((List Int)×ByteArray)
 | 0,_=>none
 | m+1,s=>RAD Vl (V5 m) s
noncomputable def X5:KAO:=LAO Vl (V5 gas)
theorem FAj:Tells ctx PP 102 cv47 cv47 (fun a=>X5 a.1 a.2):=
 have b:∀ z0,CutIs ctx PP 102 Tryz.f102 [] [(156,OAX z0)] cv47 PAX (RAD z0):=fun z0 _ s=>by cases s <;> kernel_rfl
 have e:∀ z0,EntryIs ctx PP 102 [] [(156,OAX z0)] cv47 cv47 PAX (fun k a=>LAO z0 k a.1 a.2):=fun z0 _ a=>by kernel_rfl
 fn_ok (hc EAj hl_nil) Tryz.func102 (fun s s' h=>by cases s;cases s';cases h;rfl) (fun _=>rfl) (fun _ _=>rfl) (b Vl) (e Vl) gas
noncomputable def GAj {γ:Type} (F:KAO):Hd ctx γ:=hdl cv47.dec (fun a=>F a.1 a.2) cv47.enc
abbrev MAO:=(List Int)→Option ByteArray
inductive Y5 where
 | c0 (out_3:ByteArray) (v_6:(List Int)) (v_7:Int)
noncomputable def QAX:Y5→LI
 | .c0 out_3 v_6 v_7=>(tdo Tryz.f105 232,[(3,[.one (.str out_3)]),(6,[.arr 138 v_6]),(7,[.one (.int .i64 v_7)])],[])
noncomputable def NAO (z0:Ri) (k:Y5→Option ByteArray) (state_0:(List Int)):Option ByteArray:=
 bif (Nat.beq 8 state_0.length) then
 k (.c0 ⟨#[]⟩ state_0 0)
 else none
noncomputable def SAD (z0:Ri) (k:Y5→Option ByteArray):Y5→Option ByteArray
 | .c0 out_3 v_6 v_7=>
 bif (decide (v_7<8)) then
  bif (Nat.beq 8 v_6.length) then
  bif ((decide (0≤v_7)) && (decide (v_7<(v_6.length:Int)))) then
  (z0 (v_6.getD v_7.toNat 0)).bind fun r0=>
  bif (decide ((out_3.size+r0.size)≤9223372036854775807)) then
  k (.c0 (out_3++r0) v_6 (w64 (v_7+1)))
  else none
  else none
  else none
 else
  some out_3
noncomputable def Z5:Nat→Y5→Option ByteArray
 | 0,_=>none
 | m+1,s=>SAD Cb (Z5 m) s
noncomputable def D6:MAO:=NAO Cb (Z5 gas)
theorem HAj:Tells ctx PP 105 cv45 cv3 (fun a=>D6 a):=
 have b:∀ z0,CutIs ctx PP 105 Tryz.f105 [] [(158,Vp z0)] cv3 QAX (SAD z0):=fun z0 _ s=>by cases s <;> kernel_rfl
 have e:∀ z0,EntryIs ctx PP 105 [] [(158,Vp z0)] cv45 cv3 QAX (fun k a=>NAO z0 k a):=fun z0 _ a=>by kernel_rfl
 fn_ok (hc NAD hl_nil) Tryz.func105 (fun s s' h=>by cases s;cases s';cases h;rfl) (fun _=>rfl) (fun _ _=>rfl) (b Cb) (e Cb) gas
noncomputable def IAj {γ:Type} (F:MAO):Hd ctx γ:=hdl cv45.dec (fun a=>F a) cv3.enc
abbrev Xr:=ByteArray→Option ByteArray
noncomputable def OAO (z0:WAN) (z1:DAO) (z2:KAO) (z3:MAO) (s_0:ByteArray):Option ByteArray:=
 z0.bind fun r0=>
 (z1 (s_0.size:Int)).bind fun r1=>
 bif (decide ((s_0.size+r1.size)≤9223372036854775807)) then
 (z2 r0 (s_0++r1)).bind fun r2=>
 bif ((Nat.beq r2.1.length 8) && (Nat.beq 8 r2.1.length)) then
 bif (Nat.beq 8 r2.1.length) then
 (z3 r2.1).bind fun r3=>
 some r3
 else none
 else none
 else none
noncomputable def Ed:Xr:=OAO MAD J5 X5 D6
theorem BAG:Tells ctx PP 32 cv3 cv3 (fun a=>Ed a):=fn_ok0 (hc VAi (hc ZAi (hc FAj (hc HAj hl_nil)))) Tryz.func32 ((fun z0 z1 z2 z3 a=>by kernel_rfl:∀ z0 z1 z2 z3,EntryIs0 ctx PP 32 [] [(103,WAi z0),(104,AAj z1),(102,GAj z2),(105,IAj z3)] cv3 cv3 fun a=>OAO z0 z1 z2 z3 a) MAD J5 X5 D6)
noncomputable def FAG {γ:Type} (F:Xr):Hd ctx γ:=hdl cv3.dec (fun a=>F a) cv3.enc
abbrev Js:=Option SBook
noncomputable def PAO (z0:Xr) (z1:G5)  : Option SBook:=
 (z0 ⟨#[]⟩).bind fun r0=>
 (z1 32).bind fun r1=>
 some ⟨r0,0,[],0,r1,0⟩
noncomputable def Vg:Js:=PAO Ed Vf
theorem XAS:Tells ctx PP 30 cv0 cv14 (fun _=>Vg):=fn_ok0 (hc BAG (hc YAN hl_nil)) Tryz.func30 ((fun z0 z1 _=>by kernel_rfl:∀ z0 z1,EntryIs0 ctx PP 30 [] [(32,FAG z0),(99,ZAN z1)] cv0 cv14 fun _=>PAO z0 z1) Ed Vf)
noncomputable def MAG {γ:Type} (F:Js):Hd ctx γ:=hdl cv0.dec (fun _=>F) cv14.enc
abbrev QAO:=(List SThing)→(List SThing)→Option Bool
inductive F6 where
 | c0 (a_0:(List SThing)) (b_1:(List SThing)) (v_12:Int) (v_13:Int)
noncomputable def RAX:F6→LI
 | .c0 a_0 b_1 v_12 v_13=>(tdo Tryz.f125 232,[(0,[.one (.rsl 69 a_0)]),(1,[.one (.rsl 69 b_1)]),(12,[.one (.int .i64 v_12)]),(13,[.one (.int .i64 v_13)])],[])
noncomputable def RAO (k:F6→Option Bool) (a_0:(List SThing)) (b_1:(List SThing)):Option Bool:=
 bif ((a_0.length:Int) != (b_1.length:Int)) then
 some false
 else
 k (.c0 a_0 b_1 (a_0.length:Int) 0)
noncomputable def TAD (k:F6→Option Bool):F6→Option Bool
 | .c0 a_0 b_1 v_12 v_13=>
 bif (decide (v_13<v_12)) then
  bif ((decide (0≤v_13)) && (decide (v_13<(a_0.length:Int)))) then
  bif ((decide (0≤v_13)) && (decide (v_13<(b_1.length:Int)))) then
  bif (!(((a_0.getD v_13.toNat (⟨0,0,false,false,false,false,⟨#[]⟩,0⟩:SThing)).fId == (b_1.getD v_13.toNat (⟨0,0,false,false,false,false,⟨#[]⟩,0⟩:SThing)).fId) && (((a_0.getD v_13.toNat (⟨0,0,false,false,false,false,⟨#[]⟩,0⟩:SThing)).fKind == (b_1.getD v_13.toNat (⟨0,0,false,false,false,false,⟨#[]⟩,0⟩:SThing)).fKind) && (((a_0.getD v_13.toNat (⟨0,0,false,false,false,false,⟨#[]⟩,0⟩:SThing)).fHidden == (b_1.getD v_13.toNat (⟨0,0,false,false,false,false,⟨#[]⟩,0⟩:SThing)).fHidden) && (((a_0.getD v_13.toNat (⟨0,0,false,false,false,false,⟨#[]⟩,0⟩:SThing)).fFixed == (b_1.getD v_13.toNat (⟨0,0,false,false,false,false,⟨#[]⟩,0⟩:SThing)).fFixed) && (((a_0.getD v_13.toNat (⟨0,0,false,false,false,false,⟨#[]⟩,0⟩:SThing)).fSigns == (b_1.getD v_13.toNat (⟨0,0,false,false,false,false,⟨#[]⟩,0⟩:SThing)).fSigns) && (((a_0.getD v_13.toNat (⟨0,0,false,false,false,false,⟨#[]⟩,0⟩:SThing)).fWraps == (b_1.getD v_13.toNat (⟨0,0,false,false,false,false,⟨#[]⟩,0⟩:SThing)).fWraps) && (((ByteArray.toList (a_0.getD v_13.toNat (⟨0,0,false,false,false,false,⟨#[]⟩,0⟩:SThing)).fValue) == (ByteArray.toList (b_1.getD v_13.toNat (⟨0,0,false,false,false,false,⟨#[]⟩,0⟩:SThing)).fValue)) && (((a_0.getD v_13.toNat (⟨0,0,false,false,false,false,⟨#[]⟩,0⟩:SThing)).fNext == (b_1.getD v_13.toNat (⟨0,0,false,false,false,false,⟨#[]⟩,0⟩:SThing)).fNext) && true))))))))) then
  some false
  else
  k (.c0 a_0 b_1 v_12 (w64 (v_13+1)))
  else none
  else none
 else
  some true
noncomputable def G6:Nat→F6→Option Bool
 | 0,_=>none
 | m+1,s=>TAD (G6 m) s
noncomputable def H6:QAO:=RAO (G6 gas)
theorem JAj:Tells ctx PP 125 cv57 cv6 (fun a=>H6 a.1 a.2):=
 have b:CutIs ctx PP 125 Tryz.f125 [] [] cv6 RAX (TAD):=fun _ s=>by cases s <;> kernel_rfl
 have e:EntryIs ctx PP 125 [] [] cv57 cv6 RAX (fun k a=>RAO k a.1 a.2):=fun _ a=>by kernel_rfl
 fn_ok hl_nil Tryz.func125 (fun s s' h=>by cases s;cases s';cases h;rfl) (fun _=>rfl) (fun _ _=>rfl) b e gas
noncomputable def KAj {γ:Type} (F:QAO):Hd ctx γ:=hdl cv57.dec (fun a=>F a.1 a.2) cv6.enc
abbrev V9:=SBook→SBook→Option Bool
noncomputable def SAO (z0:QAO) (a_0:SBook) (b_1:SBook):Option Bool:=
 bif ((ByteArray.toList a_0.fWord) == (ByteArray.toList b_1.fWord)) then
 bif (a_0.fTries == b_1.fTries) then
  (z0 a_0.fThings b_1.fThings).bind fun r0=>
  bif r0 then
  bif (a_0.fLast == b_1.fLast) then
   bif ((ByteArray.toList a_0.fChain) == (ByteArray.toList b_1.fChain)) then
   some (a_0.fCount == b_1.fCount)
   else
   some false
  else
   some false
  else
  some false
 else
  some false
 else
 some false
noncomputable def Lj:V9:=SAO H6
theorem XAc:Tells ctx PP 61 cv58 cv6 (fun a=>Lj a.1 a.2):=fn_ok0 (hc JAj hl_nil) Tryz.func61 ((fun z0 a=>by kernel_rfl:∀ z0,EntryIs0 ctx PP 61 [] [(125,KAj z0)] cv58 cv6 fun a=>SAO z0 a.1 a.2) H6)
noncomputable def CAT {γ:Type} (F:V9):Hd ctx γ:=hdl cv58.dec (fun a=>F a.1 a.2) cv6.enc
abbrev Ho:=SDisk→ByteArray→Option Int
inductive J6 where
 | c0 (name_1:ByteArray) (v_8:(List SFile)) (v_9:Int) (v_10:Int)
noncomputable def SAX:J6→LI
 | .c0 name_1 v_8 v_9 v_10=>(tdo Tryz.f128 104,[(1,[.one (.str name_1)]),(8,[.one (.rsl 155 v_8)]),(9,[.one (.int .i64 v_9)]),(10,[.one (.int .i64 v_10)])],[])
noncomputable def TAO (k:J6→Option Int) (d_0:SDisk) (name_1:ByteArray):Option Int:=
 k (.c0 name_1 d_0.fFiles (d_0.fFiles.length:Int) 0)
noncomputable def UAD (k:J6→Option Int):J6→Option Int
 | .c0 name_1 v_8 v_9 v_10=>
 bif (decide (v_10<v_9)) then
  bif ((decide (0≤v_10)) && (decide (v_10<(v_8.length:Int)))) then
  bif ((ByteArray.toList (v_8.getD v_10.toNat (⟨⟨#[]⟩,⟨#[]⟩,0⟩:SFile)).fName) == (ByteArray.toList name_1)) then
  some v_10
  else
  k (.c0 name_1 v_8 v_9 (w64 (v_10+1)))
  else none
 else
  some (-(1:Int))
noncomputable def L6:Nat→J6→Option Int
 | 0,_=>none
 | m+1,s=>UAD (L6 m) s
noncomputable def Ld:Ho:=TAO (L6 gas)
theorem N9:Tells ctx PP 128 cv36 cv15 (fun a=>Ld a.1 a.2):=
 have b:CutIs ctx PP 128 Tryz.f128 [] [] cv15 SAX (UAD):=fun _ s=>by cases s <;> kernel_rfl
 have e:EntryIs ctx PP 128 [] [] cv36 cv15 SAX (fun k a=>TAO k a.1 a.2):=fun _ a=>by kernel_rfl
 fn_ok hl_nil Tryz.func128 (fun s s' h=>by cases s;cases s';cases h;rfl) (fun _=>rfl) (fun _ _=>rfl) b e gas
noncomputable def P9 {γ:Type} (F:Ho):Hd ctx γ:=hdl cv36.dec (fun a=>F a.1 a.2) cv15.enc
abbrev JAG:=SDisk→ByteArray→Option (ByteArray×Bool)
noncomputable def UAO (z0:Ho) (d_0:SDisk) (name_1:ByteArray):Option (ByteArray×Bool):=
 (z0 d_0 name_1).bind fun r0=>
 bif (decide (r0<0)) then
 some (⟨#[]⟩,false)
 else
 bif ((decide (0≤r0)) && (decide (r0<(d_0.fFiles.length:Int)))) then
 some ((d_0.fFiles.getD r0.toNat (⟨⟨#[]⟩,⟨#[]⟩,0⟩:SFile)).fText,true)
 else none
noncomputable def Ls:JAG:=UAO Ld
theorem QAc:Tells ctx PP 126 cv36 cv18 (fun a=>Ls a.1 a.2):=fn_ok0 (hc N9 hl_nil) Tryz.func126 ((fun z0 a=>by kernel_rfl:∀ z0,EntryIs0 ctx PP 126 [] [(128,P9 z0)] cv36 cv18 fun a=>UAO z0 a.1 a.2) Ld)
noncomputable def SAc {γ:Type} (F:JAG):Hd ctx γ:=hdl cv36.dec (fun a=>F a.1 a.2) cv18.enc
abbrev Wl:=ByteArray→Int→Option (Int×Int×Bool)
inductive O6 where
 | c0 (text_0:ByteArray) (at_1:Int) (n_7:Int) (k_8:Int)
noncomputable def TAX:O6→LI
 | .c0 text_0 at_1 n_7 k_8=>(tdo Tryz.f202 976,[(0,[.one (.str text_0)]),(1,[.one (.int .i64 at_1)]),(7,[.one (.int .i64 n_7)]),(8,[.one (.int .i64 k_8)])],[])
noncomputable def P6 (z0:FZ) (k:O6→Option (Int×Int×Bool)) (text_0:ByteArray) (at_1:Int):Option (Int×Int×Bool):=
 (z0 at_1 0 (text_0.size:Int)).bind fun r0=>
 bif (!r0) then
 some (0,(0,false))
 else
 k (.c0 text_0 at_1 0 0)
noncomputable def VAD (z0:FZ) (k:O6→Option (Int×Int×Bool)):O6→Option (Int×Int×Bool)
 | .c0 text_0 at_1 n_7 k_8=>
 bif (decide (k_8<5)) then
  bif (decide ((w64 (at_1+k_8))<(text_0.size:Int))) then
  bif ((decide (0≤(w64 (at_1+k_8)))) && (decide ((w64 (at_1+k_8))<(text_0.size:Int)))) then
  bif (decide (0≤(w64 (7*k_8)))) then
  bif (decide ((w64 (bt text_0 (w64 (at_1+k_8))))<128)) then
   bif ((w64 (bt text_0 (w64 (at_1+k_8)))) == 0) then
   bif (decide (k_8 > 0)) then
    some (0,(0,false))
   else
    bif (decide ((w64 (n_7+(w64 (((w64 (bt text_0 (w64 (at_1+k_8)))).tmod 128)*(2 ^ (Min.min (w64 (7*k_8)).toNat (IntKind.bits IntKind.i64))))))) > 1000000000)) then
    some (0,(0,false))
    else
    some ((w64 (n_7+(w64 (((w64 (bt text_0 (w64 (at_1+k_8)))).tmod 128)*(2 ^ (Min.min (w64 (7*k_8)).toNat (IntKind.bits IntKind.i64))))))),((w64 ((w64 (at_1+k_8))+1)),true))
   else
   bif (decide ((w64 (n_7+(w64 (((w64 (bt text_0 (w64 (at_1+k_8)))).tmod 128)*(2 ^ (Min.min (w64 (7*k_8)).toNat (IntKind.bits IntKind.i64))))))) > 1000000000)) then
    some (0,(0,false))
   else
    some ((w64 (n_7+(w64 (((w64 (bt text_0 (w64 (at_1+k_8)))).tmod 128)*(2 ^ (Min.min (w64 (7*k_8)).toNat (IntKind.bits IntKind.i64))))))),((w64 ((w64 (at_1+k_8))+1)),true))
  else
   k (.c0 text_0 at_1 (w64 (n_7+(w64 (((w64 (bt text_0 (w64 (at_1+k_8)))).tmod 128)*(2 ^ (Min.min (w64 (7*k_8)).toNat (IntKind.bits IntKind.i64))))))) (w64 (k_8+1)))
  else none
  else none
  else
  some (0,(0,false))
 else
  some (0,(0,false))
noncomputable def Xf:Nat→O6→Option (Int×Int×Bool)
 | 0,_=>none
 | m+1,s=>VAD YX (Xf m) s
noncomputable def EZ:Wl:=P6 YX (Xf gas)
theorem WAD:Tells ctx PP 202 cv7 cv105 (fun a=>EZ a.1 a.2):=
 have b:∀ z0,CutIs ctx PP 202 Tryz.f202 [] [(60,PZ z0)] cv105 TAX (VAD z0):=fun z0 _ s=>by cases s <;> kernel_rfl
 have e:∀ z0,EntryIs ctx PP 202 [] [(60,PZ z0)] cv7 cv105 TAX (fun k a=>P6 z0 k a.1 a.2):=fun z0 _ a=>by kernel_rfl
 fn_ok (hc Md hl_nil) Tryz.func202 (fun s s' h=>by cases s;cases s';cases h;rfl) (fun _=>rfl) (fun _ _=>rfl) (b YX) (e YX) gas
noncomputable def U6 {γ:Type} (F:Wl):Hd ctx γ:=hdl cv7.dec (fun a=>F a.1 a.2) cv105.enc
abbrev VAO:=Int→ByteArray→Option Int
inductive V6 where
 | c0 (sum_0:Int) (text_1:ByteArray) (i_5:Int)
 | c1 (sum_0:Int) (text_1:ByteArray) (i_5:Int) (v_19:Int)
noncomputable def UAX:V6→LI
 | .c0 sum_0 text_1 i_5=>(tdo Tryz.f211 208,[(0,[.one (.int .u32 sum_0)]),(1,[.one (.str text_1)]),(5,[.one (.int .i64 i_5)])],[])
 | .c1 sum_0 text_1 i_5 v_19=>(tdo Tryz.f211 13464,[(0,[.one (.int .u32 sum_0)]),(1,[.one (.str text_1)]),(5,[.one (.int .i64 i_5)]),(19,[.one (.int .i64 v_19)])],[])
noncomputable def WAO (k:V6→Option Int) (sum_0:Int) (text_1:ByteArray):Option Int:=
 k (.c0 sum_0 text_1 0)
noncomputable def Yp (k:V6→Option Int):V6→Option Int
 | .c0 sum_0 text_1 i_5=>
 bif (decide (i_5<(text_1.size:Int))) then
  bif ((decide (0≤i_5)) && (decide (i_5<(text_1.size:Int)))) then
  k (.c1 (w32 (((BitVec.toNat ((BitVec.ofInt (IntKind.bits IntKind.u32) sum_0) ^^^ (BitVec.ofInt (IntKind.bits IntKind.u32) (w32 (bt text_1 i_5))))):Nat):Int)) text_1 i_5 0)
  else none
 else
  some sum_0
 | .c1 sum_0 text_1 i_5 v_19=>
 bif (decide (v_19<8)) then
  bif ((w32 (((BitVec.toNat ((BitVec.ofInt (IntKind.bits IntKind.u32) sum_0) &&& (BitVec.ofInt (IntKind.bits IntKind.u32) 1))):Nat):Int)) == 1) then
  k (.c1 (w32 (((BitVec.toNat ((BitVec.ofInt (IntKind.bits IntKind.u32) (Int.fdiv sum_0 (2 ^ (Min.min (1:Int).toNat (IntKind.bits IntKind.u32))))) ^^^ (BitVec.ofInt (IntKind.bits IntKind.u32) 3558460437))):Nat):Int)) text_1 i_5 (w64 (v_19+1)))
  else
  k (.c1 (Int.fdiv sum_0 (2 ^ (Min.min (1:Int).toNat (IntKind.bits IntKind.u32)))) text_1 i_5 (w64 (v_19+1)))
 else
  k (.c0 sum_0 text_1 (w64 (i_5+1)))
noncomputable def Ph:Nat→V6→Option Int
 | 0,_=>none
 | m+1,s=>Yp (Ph m) s
noncomputable def X6:VAO:=WAO (Ph gas)
theorem LAj:Tells ctx PP 211 cv32 cv8 (fun a=>X6 a.1 a.2):=
 have b:CutIs ctx PP 211 Tryz.f211 [] [] cv8 UAX (Yp):=fun _ s=>by cases s <;> kernel_rfl
 have e:EntryIs ctx PP 211 [] [] cv32 cv8 UAX (fun k a=>WAO k a.1 a.2):=fun _ a=>by kernel_rfl
 fn_ok hl_nil Tryz.func211 (fun s s' h=>by cases s <;> cases s' <;> first | (cases h;done) | (cases h;rfl) | exact (rg_ne h (by kernel_rfl)).elim) (fun _=>rfl) (fun _ _=>rfl) b e gas
noncomputable def MAj {γ:Type} (F:VAO):Hd ctx γ:=hdl cv32.dec (fun a=>F a.1 a.2) cv8.enc
abbrev Y6:=ByteArray→Option Int
noncomputable def XAO (z0:VAO) (text_0:ByteArray):Option Int:=
 (z0 4294967295 text_0).bind fun r0=>
 some r0
noncomputable def Qh:Y6:=XAO X6
theorem VAX:Tells ctx PP 192 cv3 cv8 (fun a=>Qh a):=fn_ok0 (hc LAj hl_nil) Tryz.func192 ((fun z0 a=>by kernel_rfl:∀ z0,EntryIs0 ctx PP 192 [] [(211,MAj z0)] cv3 cv8 fun a=>XAO z0 a) X6)
noncomputable def YAO {γ:Type} (F:Y6):Hd ctx γ:=hdl cv3.dec (fun a=>F a) cv8.enc
abbrev XAD:=ByteArray→Option ((List ByteArray)×Int)
inductive D7 where
 | c0 (file_0:ByteArray) (at_5:Int) (out_4:(List ByteArray))
noncomputable def WAX:D7→LI
 | .c0 file_0 at_5 out_4=>(tdo Tryz.f169 496,[(0,[.one (.str file_0)]),(4,[.one (.own 304)]),(5,[.one (.int .i64 at_5)])],[(304,.sl 9 out_4)])
noncomputable def ZAO (z0:Wl) (z1:FZ) (z2:Y6) (z3:Ri) (k:D7→Option ((List ByteArray)×Int)) (file_0:ByteArray):Option ((List ByteArray)×Int):=
 bif (decide ((file_0.size:Int) > 20000)) then
 some ([],0)
 else
 k (.c0 file_0 0 [])
noncomputable def AAP (z0:Wl) (z1:FZ) (z2:Y6) (z3:Ri) (k:D7→Option ((List ByteArray)×Int)):D7→Option ((List ByteArray)×Int)
 | .c0 file_0 at_5 out_4=>
 (z0 file_0 at_5).bind fun r0=>
 bif (!r0.2.2) then
  some (out_4,at_5)
 else
  (z1 r0.1 1 9000).bind fun r1=>
  bif (!r1) then
  some (out_4,at_5)
  else
  bif (decide (r0.1 > (w64 ((w64 ((file_0.size:Int) - r0.2.1)) - 4)))) then
   some (out_4,at_5)
  else
   bif (((decide (0≤(w64 (r0.2.1+4)))) && (decide ((w64 (r0.2.1+4))≤(w64 ((w64 (r0.2.1+4))+r0.1))))) && (decide ((w64 ((w64 (r0.2.1+4))+r0.1))≤(file_0.size:Int)))) then
   bif (((decide (0≤r0.2.1)) && (decide (r0.2.1≤(w64 (r0.2.1+4))))) && (decide ((w64 (r0.2.1+4))≤(file_0.size:Int)))) then
   (z2 (file_0.extract (w64 (r0.2.1+4)).toNat (w64 ((w64 (r0.2.1+4))+r0.1)).toNat)).bind fun r2=>
   (z3 r2).bind fun r3=>
   bif (!((ByteArray.toList (file_0.extract r0.2.1.toNat (w64 (r0.2.1+4)).toNat)) == (ByteArray.toList r3))) then
   some (out_4,at_5)
   else
   bif (decide (((out_4.length+1)*16)≤140737488355328)) then
   k (.c0 file_0 (w64 ((w64 (r0.2.1+4))+r0.1)) (out_4++[(file_0.extract (w64 (r0.2.1+4)).toNat (w64 ((w64 (r0.2.1+4))+r0.1)).toNat)]))
   else none
   else none
   else none
noncomputable def YAD:Nat→D7→Option ((List ByteArray)×Int)
 | 0,_=>none
 | m+1,s=>AAP EZ YX Qh Cb (YAD m) s
noncomputable def Xl:XAD:=ZAO EZ YX Qh Cb (YAD gas)
theorem NAj:Tells ctx PP 169 cv3 cv106 (fun a=>Xl a):=
 have b:∀ z0 z1 z2 z3,CutIs ctx PP 169 Tryz.f169 [] [(202,U6 z0),(60,PZ z1),(192,YAO z2),(158,Vp z3)] cv106 WAX (AAP z0 z1 z2 z3):=fun z0 z1 z2 z3 _ s=>by cases s <;> kernel_rfl
 have e:∀ z0 z1 z2 z3,EntryIs ctx PP 169 [] [(202,U6 z0),(60,PZ z1),(192,YAO z2),(158,Vp z3)] cv3 cv106 WAX (fun k a=>ZAO z0 z1 z2 z3 k a):=fun z0 z1 z2 z3 _ a=>by kernel_rfl
 fn_ok (hc WAD (hc Md (hc VAX (hc NAD hl_nil)))) Tryz.func169 (fun s s' h=>by cases s;cases s';cases h;rfl) (fun _=>rfl) (fun _ _=>rfl) (b EZ YX Qh Cb) (e EZ YX Qh Cb) gas
noncomputable def XAX {γ:Type} (F:XAD):Hd ctx γ:=hdl cv3.dec (fun a=>F a) cv106.enc
abbrev Ti:=Int→Option ByteArray
inductive F7 where
 | c0 (n_0:Int) (out_3:(List Int))
noncomputable def YAX:F7→LI
 | .c0 n_0 out_3=>(tdo Tryz.f186 224,[(0,[.one (.int .i64 n_0)]),(3,[.one (.own 240)])],[(240,.sl 5 out_3)])
noncomputable def ZAX (k:F7→Option ByteArray) (n_0:Int):Option ByteArray:=
 k (.c0 n_0 [])
noncomputable def ZAD (k:F7→Option ByteArray):F7→Option ByteArray
 | .c0 n_0 out_3=>
 bif (decide (n_0 > 127)) then
  bif (decide (((out_3.length+1)*1)≤140737488355328)) then
  k (.c0 (w64 (n_0.tdiv 128)) (out_3++[(w8 (w64 (128+(n_0.tmod 128))))]))
  else none
 else
  bif (decide (((out_3.length+1)*1)≤140737488355328)) then
  some (ofBytes (out_3++[(w8 n_0)]))
  else none
noncomputable def G7:Nat→F7→Option ByteArray
 | 0,_=>none
 | m+1,s=>ZAD (G7 m) s
noncomputable def Vb:Ti:=ZAX (G7 gas)
theorem Zp:Tells ctx PP 186 cv15 cv3 (fun a=>Vb a):=
 have b:CutIs ctx PP 186 Tryz.f186 [] [] cv3 YAX (ZAD):=fun _ s=>by cases s <;> kernel_rfl
 have e:EntryIs ctx PP 186 [] [] cv15 cv3 YAX (fun k a=>ZAX k a):=fun _ a=>by kernel_rfl
 fn_ok hl_nil Tryz.func186 (fun s s' h=>by cases s;cases s';cases h;rfl) (fun _=>rfl) (fun _ _=>rfl) b e gas
noncomputable def Aq {γ:Type} (F:Ti):Hd ctx γ:=hdl cv15.dec (fun a=>F a) cv3.enc
abbrev AAE:=Int→Option (ByteArray×Bool)
noncomputable def BAP (z0:FZ) (z1:Ti) (n_0:Int):Option (ByteArray×Bool):=
 (z0 n_0 0 1000000000).bind fun r0=>
 bif (!r0) then
 some (⟨#[]⟩,false)
 else
 (z1 n_0).bind fun r1=>
 some (r1,true)
noncomputable def Yl:AAE:=BAP YX Vb
theorem OAj:Tells ctx PP 209 cv15 cv18 (fun a=>Yl a):=fn_ok0 (hc Md (hc Zp hl_nil)) Tryz.func209 ((fun z0 z1 a=>by kernel_rfl:∀ z0 z1,EntryIs0 ctx PP 209 [] [(60,PZ z0),(186,Aq z1)] cv15 cv18 fun a=>BAP z0 z1 a) YX Vb)
noncomputable def AAY {γ:Type} (F:AAE):Hd ctx γ:=hdl cv15.dec (fun a=>F a) cv18.enc
abbrev Bq:=Int→Option ByteArray
noncomputable def CAP (n_0:Int):Option ByteArray:=
 some (ofBytes [(w8 n_0)])
noncomputable def Fe:Bq:=CAP
theorem DAP:Tells ctx PP 188 cv15 cv3 (fun a=>Fe a):=fn_ok0 hl_nil Tryz.func188 (fun a=>by kernel_rfl:EntryIs0 ctx PP 188 [] [] cv15 cv3 fun a=>CAP a)
noncomputable def BAE {γ:Type} (F:Bq):Hd ctx γ:=hdl cv15.dec (fun a=>F a) cv3.enc
abbrev EAP:=ByteArray→Int→Option ByteArray
inductive H7 where
 | c0 (x_1:Int) (v_10:Int) (v_11:Int) (out_5:(List Int))
noncomputable def BAY:H7→LI
 | .c0 x_1 v_10 v_11 out_5=>(tdo Tryz.f217 232,[(1,[.one (.int .u8 x_1)]),(5,[.one (.own 368)]),(10,[.one (.int .i64 v_10)]),(11,[.one (.int .i64 v_11)])],[(368,.sl 5 out_5)])
noncomputable def FAP (k:H7→Option ByteArray) (s_0:ByteArray) (x_1:Int):Option ByteArray:=
 bif (decide (s_0.size≤9223372036854775807)) then
 k (.c0 x_1 ((bytesOf s_0).length:Int) 0 (bytesOf s_0))
 else none
noncomputable def CAE (k:H7→Option ByteArray):H7→Option ByteArray
 | .c0 x_1 v_10 v_11 out_5=>
 bif (decide (v_11<v_10)) then
  bif ((decide (0≤v_11)) && (decide (v_11<(out_5.length:Int)))) then
  bif ((decide (0≤v_11)) && (decide (v_11<(out_5.length:Int)))) then
  k (.c0 x_1 v_10 (w64 (v_11+1)) (out_5.set v_11.toNat (w8 (((BitVec.toNat ((BitVec.ofInt (IntKind.bits IntKind.u8) (out_5.getD v_11.toNat 0)) ^^^ (BitVec.ofInt (IntKind.bits IntKind.u8) x_1))):Nat):Int))))
  else none
  else none
 else
  some (ofBytes out_5)
noncomputable def I7:Nat→H7→Option ByteArray
 | 0,_=>none
 | m+1,s=>CAE (I7 m) s
noncomputable def Zl:EAP:=FAP (I7 gas)
theorem PAj:Tells ctx PP 217 cv28 cv3 (fun a=>Zl a.1 a.2):=
 have b:CutIs ctx PP 217 Tryz.f217 [] [] cv3 BAY (CAE):=fun _ s=>by cases s <;> kernel_rfl
 have e:EntryIs ctx PP 217 [] [] cv28 cv3 BAY (fun k a=>FAP k a.1 a.2):=fun _ a=>by kernel_rfl
 fn_ok hl_nil Tryz.func217 (fun s s' h=>by cases s;cases s';cases h;rfl) (fun _=>rfl) (fun _ _=>rfl) b e gas
noncomputable def QAj {γ:Type} (F:EAP):Hd ctx γ:=hdl cv28.dec (fun a=>F a.1 a.2) cv3.enc
abbrev J7:=ByteArray→ByteArray→Option ByteArray
noncomputable def HAP (z0:Xr) (z1:G5) (z2:EAP) (key_0:ByteArray) (s_1:ByteArray):Option ByteArray:=
 bif (decide ((key_0.size:Int) > 64)) then
 (z0 key_0).bind fun r0=>
 (z1 (w64 (64 - (r0.size:Int)))).bind fun r1=>
 bif (decide ((r0.size+r1.size)≤9223372036854775807)) then
 (z2 (r0++r1) 92).bind fun r2=>
 (z2 (r0++r1) 54).bind fun r3=>
 bif (decide ((r3.size+s_1.size)≤9223372036854775807)) then
 (z0 (r3++s_1)).bind fun r4=>
 bif (decide ((r2.size+r4.size)≤9223372036854775807)) then
 (z0 (r2++r4)).bind fun r5=>
 some r5
 else none
 else none
 else none
 else
 (z1 (w64 (64 - (key_0.size:Int)))).bind fun r6=>
 bif (decide ((key_0.size+r6.size)≤9223372036854775807)) then
 (z2 (key_0++r6) 92).bind fun r7=>
 (z2 (key_0++r6) 54).bind fun r8=>
 bif (decide ((r8.size+s_1.size)≤9223372036854775807)) then
 (z0 (r8++s_1)).bind fun r9=>
 bif (decide ((r7.size+r9.size)≤9223372036854775807)) then
 (z0 (r7++r9)).bind fun r10=>
 some r10
 else none
 else none
 else none
noncomputable def Rh:J7:=HAP Ed Vf Zl
theorem CAY:Tells ctx PP 210 cv29 cv3 (fun a=>Rh a.1 a.2):=fn_ok0 (hc BAG (hc YAN (hc PAj hl_nil))) Tryz.func210 ((fun z0 z1 z2 a=>by kernel_rfl:∀ z0 z1 z2,EntryIs0 ctx PP 210 [] [(32,FAG z0),(99,ZAN z1),(217,QAj z2)] cv29 cv3 fun a=>HAP z0 z1 z2 a.1 a.2) Ed Vf Zl)
noncomputable def IAP {γ:Type} (F:J7):Hd ctx γ:=hdl cv29.dec (fun a=>F a.1 a.2) cv3.enc
abbrev JAP:=ByteArray→Int→Int→Option (ByteArray×Bool)
inductive N7 where
 | c0 (key_0:ByteArray) (n_2:Int) (v_8:ByteArray) (out_10:ByteArray) (i_11:Int)
noncomputable def EAY:N7→LI
 | .c0 key_0 n_2 v_8 out_10 i_11=>(tdo Tryz.f189 2000,[(0,[.one (.str key_0)]),(2,[.one (.int .i64 n_2)]),(8,[.one (.str v_8)]),(10,[.one (.str out_10)]),(11,[.one (.int .i64 i_11)])],[])
noncomputable def KAP (z0:AAE) (z1:FZ) (z2:Bq) (z3:J7) (k:N7→Option (ByteArray×Bool)) (key_0:ByteArray) (num_1:Int) (n_2:Int):Option (ByteArray×Bool):=
 (z0 num_1).bind fun r0=>
 bif (!r0.2) then
 some (⟨#[]⟩,false)
 else
 (z1 n_2 0 8000).bind fun r1=>
 bif (!r1) then
  some (⟨#[]⟩,false)
 else
  k (.c0 key_0 n_2 r0.1 ⟨#[]⟩ 0)
noncomputable def DAE (z0:AAE) (z1:FZ) (z2:Bq) (z3:J7) (k:N7→Option (ByteArray×Bool)):N7→Option (ByteArray×Bool)
 | .c0 key_0 n_2 v_8 out_10 i_11=>
 bif (decide ((out_10.size:Int)<n_2)) then
  bif (decide (((⟨#[109]⟩:ByteArray).size+v_8.size)≤9223372036854775807)) then
  (z2 i_11).bind fun r0=>
  bif (decide ((((⟨#[109]⟩:ByteArray)++v_8).size+r0.size)≤9223372036854775807)) then
  (z3 key_0 (((⟨#[109]⟩:ByteArray)++v_8)++r0)).bind fun r1=>
  bif (decide ((out_10.size+r1.size)≤9223372036854775807)) then
  k (.c0 key_0 n_2 v_8 (out_10++r1) (w64 (i_11+1)))
  else none
  else none
  else none
 else
  bif ((decide (0≤n_2)) && (decide (n_2≤(out_10.size:Int)))) then
  some ((out_10.extract 0 n_2.toNat),true)
  else none
noncomputable def O7:Nat→N7→Option (ByteArray×Bool)
 | 0,_=>none
 | m+1,s=>DAE Yl YX Fe Rh (O7 m) s
noncomputable def P7:JAP:=KAP Yl YX Fe Rh (O7 gas)
theorem RAj:Tells ctx PP 189 cv30 cv18 (fun a=>P7 a.1 a.2.1 a.2.2):=
 have b:∀ z0 z1 z2 z3,CutIs ctx PP 189 Tryz.f189 [] [(209,AAY z0),(60,PZ z1),(188,BAE z2),(210,IAP z3)] cv18 EAY (DAE z0 z1 z2 z3):=fun z0 z1 z2 z3 _ s=>by cases s <;> kernel_rfl
 have e:∀ z0 z1 z2 z3,EntryIs ctx PP 189 [] [(209,AAY z0),(60,PZ z1),(188,BAE z2),(210,IAP z3)] cv30 cv18 EAY (fun k a=>KAP z0 z1 z2 z3 k a.1 a.2.1 a.2.2):=fun z0 z1 z2 z3 _ a=>by kernel_rfl
 fn_ok (hc OAj (hc Md (hc DAP (hc CAY hl_nil)))) Tryz.func189 (fun s s' h=>by cases s;cases s';cases h;rfl) (fun _=>rfl) (fun _ _=>rfl) (b Yl YX Fe Rh) (e Yl YX Fe Rh) gas
noncomputable def SAj {γ:Type} (F:JAP):Hd ctx γ:=hdl cv30.dec (fun a=>F a.1 a.2.1 a.2.2) cv18.enc
abbrev LAP:=ByteArray→Int→ByteArray→Option ByteArray
noncomputable def NAP (z0:Ti) (z1:J7) (key_0:ByteArray) (num_1:Int) (s_2:ByteArray):Option ByteArray:=
 (z0 num_1).bind fun r0=>
 bif (decide (((⟨#[116]⟩:ByteArray).size+r0.size)≤9223372036854775807)) then
 bif (decide ((((⟨#[116]⟩:ByteArray)++r0).size+s_2.size)≤9223372036854775807)) then
 (z1 key_0 (((⟨#[116]⟩:ByteArray)++r0)++s_2)).bind fun r1=>
 bif ((decide ((0:Int)≤(16:Int))) && (decide (16≤(r1.size:Int)))) then
 some (r1.extract 0 (16:Int).toNat)
 else none
 else none
 else none
noncomputable def Q7:LAP:=NAP Vb Rh
theorem TAj:Tells ctx PP 191 cv31 cv3 (fun a=>Q7 a.1 a.2.1 a.2.2):=fn_ok0 (hc Zp (hc CAY hl_nil)) Tryz.func191 ((fun z0 z1 a=>by kernel_rfl:∀ z0 z1,EntryIs0 ctx PP 191 [] [(186,Aq z0),(210,IAP z1)] cv31 cv3 fun a=>NAP z0 z1 a.1 a.2.1 a.2.2) Vb Rh)
noncomputable def UAj {γ:Type} (F:LAP):Hd ctx γ:=hdl cv31.dec (fun a=>F a.1 a.2.1 a.2.2) cv3.enc
abbrev OAP:=ByteArray→ByteArray→Option ByteArray
inductive U7 where
 | c0 (b_1:ByteArray) (v_10:Int) (v_11:Int) (out_5:(List Int))
noncomputable def FAY:U7→LI
 | .c0 b_1 v_10 v_11 out_5=>(tdo Tryz.f190 232,[(1,[.one (.str b_1)]),(5,[.one (.own 368)]),(10,[.one (.int .i64 v_10)]),(11,[.one (.int .i64 v_11)])],[(368,.sl 5 out_5)])
noncomputable def PAP (k:U7→Option ByteArray) (a_0:ByteArray) (b_1:ByteArray):Option ByteArray:=
 bif (decide (a_0.size≤9223372036854775807)) then
 k (.c0 b_1 ((bytesOf a_0).length:Int) 0 (bytesOf a_0))
 else none
noncomputable def EAE (k:U7→Option ByteArray):U7→Option ByteArray
 | .c0 b_1 v_10 v_11 out_5=>
 bif (decide (v_11<v_10)) then
  bif ((decide (0≤v_11)) && (decide (v_11<(out_5.length:Int)))) then
  bif ((decide (0≤v_11)) && (decide (v_11<(b_1.size:Int)))) then
  bif ((decide (0≤v_11)) && (decide (v_11<(out_5.length:Int)))) then
  k (.c0 b_1 v_10 (w64 (v_11+1)) (out_5.set v_11.toNat (w8 (((BitVec.toNat ((BitVec.ofInt (IntKind.bits IntKind.u8) (out_5.getD v_11.toNat 0)) ^^^ (BitVec.ofInt (IntKind.bits IntKind.u8) (bt b_1 v_11)))):Nat):Int))))
  else none
  else none
  else none
 else
  some (ofBytes out_5)
noncomputable def V7:Nat→U7→Option ByteArray
 | 0,_=>none
 | m+1,s=>EAE (V7 m) s
noncomputable def X7:OAP:=PAP (V7 gas)
theorem VAj:Tells ctx PP 190 cv29 cv3 (fun a=>X7 a.1 a.2):=
 have b:CutIs ctx PP 190 Tryz.f190 [] [] cv3 FAY (EAE):=fun _ s=>by cases s <;> kernel_rfl
 have e:EntryIs ctx PP 190 [] [] cv29 cv3 FAY (fun k a=>PAP k a.1 a.2):=fun _ a=>by kernel_rfl
 fn_ok hl_nil Tryz.func190 (fun s s' h=>by cases s;cases s';cases h;rfl) (fun _=>rfl) (fun _ _=>rfl) b e gas
noncomputable def WAj {γ:Type} (F:OAP):Hd ctx γ:=hdl cv29.dec (fun a=>F a.1 a.2) cv3.enc
abbrev FAE:=ByteArray→Int→ByteArray→Option (ByteArray×Bool)
noncomputable def QAP (z0:JAP) (z1:LAP) (z2:OAP) (key_0:ByteArray) (num_1:Int) (text_2:ByteArray):Option (ByteArray×Bool):=
 bif (decide ((w64 ((text_2.size:Int) - 16))<0)) then
 some (⟨#[]⟩,false)
 else
 (z0 key_0 num_1 (w64 ((text_2.size:Int) - 16))).bind fun r0=>
 bif (!r0.2) then
  some (⟨#[]⟩,false)
 else
  bif ((decide (0≤(w64 ((text_2.size:Int) - 16)))) && (decide ((w64 ((text_2.size:Int) - 16))≤(text_2.size:Int)))) then
  (z1 key_0 num_1 (text_2.extract 0 (w64 ((text_2.size:Int) - 16)).toNat)).bind fun r1=>
  bif ((decide (0≤(w64 ((text_2.size:Int) - 16)))) && (decide ((w64 ((text_2.size:Int) - 16))≤(text_2.size:Int)))) then
  bif (!((ByteArray.toList r1) == (ByteArray.toList (text_2.extract (w64 ((text_2.size:Int) - 16)).toNat text_2.size)))) then
  some (⟨#[]⟩,false)
  else
  bif ((decide (0≤(w64 ((text_2.size:Int) - 16)))) && (decide ((w64 ((text_2.size:Int) - 16))≤(text_2.size:Int)))) then
  (z2 (text_2.extract 0 (w64 ((text_2.size:Int) - 16)).toNat) r0.1).bind fun r2=>
  some (r2,true)
  else none
  else none
  else none
noncomputable def Am:FAE:=QAP P7 Q7 X7
theorem XAj:Tells ctx PP 170 cv31 cv18 (fun a=>Am a.1 a.2.1 a.2.2):=fn_ok0 (hc RAj (hc TAj (hc VAj hl_nil))) Tryz.func170 ((fun z0 z1 z2 a=>by kernel_rfl:∀ z0 z1 z2,EntryIs0 ctx PP 170 [] [(189,SAj z0),(191,UAj z1),(190,WAj z2)] cv31 cv18 fun a=>QAP z0 z1 z2 a.1 a.2.1 a.2.2) P7 Q7 X7)
noncomputable def GAY {γ:Type} (F:FAE):Hd ctx γ:=hdl cv31.dec (fun a=>F a.1 a.2.1 a.2.2) cv18.enc
abbrev RAP:=SFields→Option (Int×SFields)
noncomputable def GAE (z0:Wl) (f_0:SFields):Option (Int×SFields):=
 (z0 f_0.fText f_0.fAt).bind fun r0=>
 bif (!r0.2.2) then
 some (0,⟨f_0.fText,f_0.fAt,true⟩)
 else
 some (r0.1,⟨f_0.fText,r0.2.1,f_0.fBad⟩)
noncomputable def Ui:RAP:=GAE EZ
theorem YAj:Tells ctx PP 214 cv117 cv118 (fun a=>Ui a):=fn_ok0 (hc WAD hl_nil) Tryz.func214 ((fun z0 a=>by kernel_rfl:∀ z0,EntryIs0 ctx PP 214 [0] [(202,U6 z0)] cv117 cv118 fun a=>GAE z0 a) EZ)
noncomputable def ZAj {γ:Type} (F:RAP):Hd ctx γ:=hdl cv117.dec (fun a=>F a) cv118.enc
abbrev SAP:=ByteArray→Int→Option (ByteArray×Int×Bool)
noncomputable def HAE (z0:Wl) (text_0:ByteArray) (at_1:Int):Option (ByteArray×Int×Bool):=
 (z0 text_0 at_1).bind fun r0=>
 bif (!r0.2.2) then
 some (⟨#[]⟩,(0,false))
 else
 bif (decide (r0.1 > 20000)) then
  some (⟨#[]⟩,(0,false))
 else
  bif (decide (r0.1 > (w64 ((text_0.size:Int) - r0.2.1)))) then
  some (⟨#[]⟩,(0,false))
  else
  bif (((decide (0≤r0.2.1)) && (decide (r0.2.1≤(w64 (r0.2.1+r0.1))))) && (decide ((w64 (r0.2.1+r0.1))≤(text_0.size:Int)))) then
  some ((text_0.extract r0.2.1.toNat (w64 (r0.2.1+r0.1)).toNat),((w64 (r0.2.1+r0.1)),true))
  else none
noncomputable def Cm:SAP:=HAE EZ
theorem AAk:Tells ctx PP 218 cv7 cv119 (fun a=>Cm a.1 a.2):=fn_ok0 (hc WAD hl_nil) Tryz.func218 ((fun z0 a=>by kernel_rfl:∀ z0,EntryIs0 ctx PP 218 [] [(202,U6 z0)] cv7 cv119 fun a=>HAE z0 a.1 a.2) EZ)
noncomputable def BAk {γ:Type} (F:SAP):Hd ctx γ:=hdl cv7.dec (fun a=>F a.1 a.2) cv119.enc
abbrev TAP:=SFields→Option (ByteArray×SFields)
noncomputable def IAE (z0:SAP) (f_0:SFields):Option (ByteArray×SFields):=
 (z0 f_0.fText f_0.fAt).bind fun r0=>
 bif (!r0.2.2) then
 some (⟨#[]⟩,⟨f_0.fText,f_0.fAt,true⟩)
 else
 some (r0.1,⟨f_0.fText,r0.2.1,f_0.fBad⟩)
noncomputable def Em:TAP:=IAE Cm
theorem CAk:Tells ctx PP 215 cv117 cv120 (fun a=>Em a):=fn_ok0 (hc AAk hl_nil) Tryz.func215 ((fun z0 a=>by kernel_rfl:∀ z0,EntryIs0 ctx PP 215 [0] [(218,BAk z0)] cv117 cv120 fun a=>IAE z0 a) Cm)
noncomputable def DAk {γ:Type} (F:TAP):Hd ctx γ:=hdl cv117.dec (fun a=>F a) cv120.enc
abbrev Y7:=SThing→Option Bool
noncomputable def UAP (z0:FZ) (x_0:SThing):Option Bool:=
 (z0 x_0.fId 1 1000).bind fun r0=>
 bif (!r0) then
 some false
 else
 (z0 x_0.fNext 0 16).bind fun r1=>
 bif (!r1) then
  some false
 else
  bif (x_0.fKind != 2) then
  bif (x_0.fNext != 0) then
   some false
  else
   bif x_0.fSigns then
   some false
   else
   bif (x_0.fKind != 1) then
    bif x_0.fWraps then
    some false
    else
    bif (x_0.fKind == 1) then
     bif (x_0.fKind == 1) then
     some ((x_0.fValue.size:Int) == 32)
     else
     bif (x_0.fKind == 3) then
      some (decide ((x_0.fValue.size:Int)≤100))
     else
      some false
    else
     bif (x_0.fKind == 2) then
     some ((x_0.fValue.size:Int) == 32)
     else
     bif (x_0.fKind == 3) then
      some (decide ((x_0.fValue.size:Int)≤100))
     else
      some false
   else
    bif (x_0.fKind == 1) then
    bif (x_0.fKind == 1) then
     some ((x_0.fValue.size:Int) == 32)
    else
     bif (x_0.fKind == 3) then
     some (decide ((x_0.fValue.size:Int)≤100))
     else
     some false
    else
    bif (x_0.fKind == 2) then
     some ((x_0.fValue.size:Int) == 32)
    else
     bif (x_0.fKind == 3) then
     some (decide ((x_0.fValue.size:Int)≤100))
     else
     some false
  else
  bif (x_0.fKind != 1) then
   bif x_0.fWraps then
   some false
   else
   bif (x_0.fKind == 1) then
    bif (x_0.fKind == 1) then
    some ((x_0.fValue.size:Int) == 32)
    else
    bif (x_0.fKind == 3) then
     some (decide ((x_0.fValue.size:Int)≤100))
    else
     some false
   else
    bif (x_0.fKind == 2) then
    some ((x_0.fValue.size:Int) == 32)
    else
    bif (x_0.fKind == 3) then
     some (decide ((x_0.fValue.size:Int)≤100))
    else
     some false
  else
   bif (x_0.fKind == 1) then
   bif (x_0.fKind == 1) then
    some ((x_0.fValue.size:Int) == 32)
   else
    bif (x_0.fKind == 3) then
    some (decide ((x_0.fValue.size:Int)≤100))
    else
    some false
   else
   bif (x_0.fKind == 2) then
    some ((x_0.fValue.size:Int) == 32)
   else
    bif (x_0.fKind == 3) then
    some (decide ((x_0.fValue.size:Int)≤100))
    else
    some false
noncomputable def Uh:Y7:=UAP YX
theorem HAY:Tells ctx PP 129 cv16 cv6 (fun a=>Uh a):=fn_ok0 (hc Md hl_nil) Tryz.func129 ((fun z0 a=>by kernel_rfl:∀ z0,EntryIs0 ctx PP 129 [] [(60,PZ z0)] cv16 cv6 fun a=>UAP z0 a) YX)
noncomputable def VAP {γ:Type} (F:Y7):Hd ctx γ:=hdl cv16.dec (fun a=>F a) cv6.enc
abbrev WAP:=SThing→Option Int
inductive Z7 where
 | c0 (n_3:Int) (v_15:Int) (v_16:Int) (v_14:(List Bool))
noncomputable def IAY:Z7→LI
 | .c0 n_3 v_15 v_16 v_14=>(tdo Tryz.f207 232,[(3,[.one (.int .i64 n_3)]),(14,[.one (.own 944)]),(15,[.one (.int .i64 v_15)]),(16,[.one (.int .i64 v_16)])],[(944,.sl 4 v_14)])
noncomputable def XAP (k:Z7→Option Int) (x_0:SThing):Option Int:=
 k (.c0 0 ((4:Nat):Int) 0 [x_0.fHidden,x_0.fFixed,x_0.fSigns,x_0.fWraps])
noncomputable def JAY (k:Z7→Option Int):Z7→Option Int
 | .c0 n_3 v_15 v_16 v_14=>
 bif (decide (v_16<v_15)) then
  bif ((decide (0≤v_16)) && (decide (v_16<(v_14.length:Int)))) then
  bif (v_14.getD v_16.toNat false) then
  bif (decide (0≤v_16)) then
  k (.c0 (w64 (((BitVec.toNat ((BitVec.ofInt (IntKind.bits IntKind.i64) n_3) ||| (BitVec.ofInt (IntKind.bits IntKind.i64) (w64 (1*(2 ^ (Min.min v_16.toNat (IntKind.bits IntKind.i64)))))))):Nat):Int)) v_15 (w64 (v_16+1)) v_14)
  else none
  else
  k (.c0 n_3 v_15 (w64 (v_16+1)) v_14)
  else none
 else
  some n_3
noncomputable def YAP:Nat→Z7→Option Int
 | 0,_=>none
 | m+1,s=>JAY (YAP m) s
noncomputable def A8:WAP:=XAP (YAP gas)
theorem EAk:Tells ctx PP 207 cv16 cv15 (fun a=>A8 a):=
 have b:CutIs ctx PP 207 Tryz.f207 [] [] cv15 IAY (JAY):=fun _ s=>by cases s <;> kernel_rfl
 have e:EntryIs ctx PP 207 [] [] cv16 cv15 IAY (fun k a=>XAP k a):=fun _ a=>by kernel_rfl
 fn_ok hl_nil Tryz.func207 (fun s s' h=>by cases s;cases s';cases h;rfl) (fun _=>rfl) (fun _ _=>rfl) b e gas
noncomputable def FAk {γ:Type} (F:WAP):Hd ctx γ:=hdl cv16.dec (fun a=>F a) cv15.enc
abbrev ZAP:=ByteArray→Option ByteArray
noncomputable def AAQ (z0:Ti) (s_0:ByteArray):Option ByteArray:=
 (z0 (s_0.size:Int)).bind fun r0=>
 bif (decide ((r0.size+s_0.size)≤9223372036854775807)) then
 some (r0++s_0)
 else none
noncomputable def D8:ZAP:=AAQ Vb
theorem GAk:Tells ctx PP 208 cv3 cv3 (fun a=>D8 a):=fn_ok0 (hc Zp hl_nil) Tryz.func208 ((fun z0 a=>by kernel_rfl:∀ z0,EntryIs0 ctx PP 208 [] [(186,Aq z0)] cv3 cv3 fun a=>AAQ z0 a) Vb)
noncomputable def HAk {γ:Type} (F:ZAP):Hd ctx γ:=hdl cv3.dec (fun a=>F a) cv3.enc
abbrev JAE:=SThing→Option (ByteArray×Bool)
noncomputable def BAQ (z0:Y7) (z1:Ti) (z2:Bq) (z3:WAP) (z4:ZAP) (x_0:SThing):Option (ByteArray×Bool):=
 (z0 x_0).bind fun r0=>
 bif (!r0) then
 some (⟨#[]⟩,false)
 else
 (z1 x_0.fId).bind fun r1=>
 (z2 x_0.fKind).bind fun r2=>
 bif (decide ((r1.size+r2.size)≤9223372036854775807)) then
 (z3 x_0).bind fun r3=>
 (z2 r3).bind fun r4=>
 bif (decide (((r1++r2).size+r4.size)≤9223372036854775807)) then
 (z4 x_0.fValue).bind fun r5=>
 bif (decide ((((r1++r2)++r4).size+r5.size)≤9223372036854775807)) then
 (z1 x_0.fNext).bind fun r6=>
 bif (decide (((((r1++r2)++r4)++r5).size+r6.size)≤9223372036854775807)) then
 some (((((r1++r2)++r4)++r5)++r6),true)
 else none
 else none
 else none
 else none
noncomputable def Gm:JAE:=BAQ Uh Vb Fe A8 D8
theorem KAY:Tells ctx PP 187 cv16 cv18 (fun a=>Gm a):=fn_ok0 (hc HAY (hc Zp (hc DAP (hc EAk (hc GAk hl_nil))))) Tryz.func187 ((fun z0 z1 z2 z3 z4 a=>by kernel_rfl:∀ z0 z1 z2 z3 z4,EntryIs0 ctx PP 187 [] [(129,VAP z0),(186,Aq z1),(188,BAE z2),(207,FAk z3),(208,HAk z4)] cv16 cv18 fun a=>BAQ z0 z1 z2 z3 z4 a) Uh Vb Fe A8 D8)
noncomputable def NAY {γ:Type} (F:JAE):Hd ctx γ:=hdl cv16.dec (fun a=>F a) cv18.enc
abbrev CAQ:=ByteArray→Option (SThing×Bool)
noncomputable def KAE (z0:RAP) (z1:TAP) (z2:JAE) (text_0:ByteArray):Option (SThing×Bool):=
 (z0 ⟨text_0,0,false⟩).bind fun r0=>
 (z0 r0.2).bind fun r1=>
 (z0 r1.2).bind fun r2=>
 (z1 r2.2).bind fun r3=>
 (z0 r3.2).bind fun r4=>
 (z2 ⟨r0.1,r1.1,((w64 (((BitVec.toNat ((BitVec.ofInt (IntKind.bits IntKind.i64) r2.1) &&& (BitVec.ofInt (IntKind.bits IntKind.i64) 1))):Nat):Int)) != 0),((w64 (((BitVec.toNat ((BitVec.ofInt (IntKind.bits IntKind.i64) r2.1) &&& (BitVec.ofInt (IntKind.bits IntKind.i64) 2))):Nat):Int)) != 0),((w64 (((BitVec.toNat ((BitVec.ofInt (IntKind.bits IntKind.i64) r2.1) &&& (BitVec.ofInt (IntKind.bits IntKind.i64) 4))):Nat):Int)) != 0),((w64 (((BitVec.toNat ((BitVec.ofInt (IntKind.bits IntKind.i64) r2.1) &&& (BitVec.ofInt (IntKind.bits IntKind.i64) 8))):Nat):Int)) != 0),r3.1,r4.1⟩).bind fun r5=>
 bif r4.2.fBad then
 some (⟨0,0,false,false,false,false,⟨#[]⟩,0⟩,false)
 else
 bif (!r5.2) then
  some (⟨0,0,false,false,false,false,⟨#[]⟩,0⟩,false)
 else
  bif (!((ByteArray.toList r5.1) == (ByteArray.toList text_0))) then
  some (⟨0,0,false,false,false,false,⟨#[]⟩,0⟩,false)
  else
  some (⟨r0.1,r1.1,((w64 (((BitVec.toNat ((BitVec.ofInt (IntKind.bits IntKind.i64) r2.1) &&& (BitVec.ofInt (IntKind.bits IntKind.i64) 1))):Nat):Int)) != 0),((w64 (((BitVec.toNat ((BitVec.ofInt (IntKind.bits IntKind.i64) r2.1) &&& (BitVec.ofInt (IntKind.bits IntKind.i64) 2))):Nat):Int)) != 0),((w64 (((BitVec.toNat ((BitVec.ofInt (IntKind.bits IntKind.i64) r2.1) &&& (BitVec.ofInt (IntKind.bits IntKind.i64) 4))):Nat):Int)) != 0),((w64 (((BitVec.toNat ((BitVec.ofInt (IntKind.bits IntKind.i64) r2.1) &&& (BitVec.ofInt (IntKind.bits IntKind.i64) 8))):Nat):Int)) != 0),r3.1,r4.1⟩,true)
noncomputable def Wi:CAQ:=KAE Ui Em Gm
theorem IAk:Tells ctx PP 203 cv3 cv22 (fun a=>Wi a):=fn_ok0 (hc YAj (hc CAk (hc KAY hl_nil))) Tryz.func203 ((fun z0 z1 z2 a=>by kernel_rfl:∀ z0 z1 z2,EntryIs0 ctx PP 203 [] [(214,ZAj z0),(215,DAk z1),(187,NAY z2)] cv3 cv22 fun a=>KAE z0 z1 z2 a) Ui Em Gm)
noncomputable def JAk {γ:Type} (F:CAQ):Hd ctx γ:=hdl cv3.dec (fun a=>F a) cv22.enc
abbrev J9:=SRec→Option (ByteArray×Bool)
noncomputable def DAQ (z0:Ti) (z1:FZ) (z2:JAE) (z3:Bq) (r_0:SRec):Option (ByteArray×Bool):=
 bif (r_0.fKind == 1) then
 bif (!((r_0.fText.size:Int) == 32)) then
  some (⟨#[]⟩,false)
 else
  bif (!((r_0.fKind == r_0.fKind) && (((ByteArray.toList r_0.fText) == (ByteArray.toList r_0.fText)) && ((r_0.fNum == 0) && (((r_0.fThing.fId == 0) && ((r_0.fThing.fKind == 0) && ((r_0.fThing.fHidden == false) && ((r_0.fThing.fFixed == false) && ((r_0.fThing.fSigns == false) && ((r_0.fThing.fWraps == false) && (((ByteArray.toList r_0.fThing.fValue) == (ByteArray.toList ⟨#[]⟩)) && ((r_0.fThing.fNext == 0) && true)))))))) && true))))) then
  some (⟨#[]⟩,false)
  else
  (z3 r_0.fKind).bind fun r0=>
  bif (decide ((r0.size+r_0.fText.size)≤9223372036854775807)) then
  some ((r0++r_0.fText),true)
  else none
 else
 bif (r_0.fKind == 2) then
  (z0 r_0.fNum).bind fun r1=>
  (z1 r_0.fNum 0 3).bind fun r2=>
  bif (!r2) then
  some (⟨#[]⟩,false)
  else
  bif (!((r_0.fKind == r_0.fKind) && (((ByteArray.toList r_0.fText) == (ByteArray.toList ⟨#[]⟩)) && ((r_0.fNum == r_0.fNum) && (((r_0.fThing.fId == 0) && ((r_0.fThing.fKind == 0) && ((r_0.fThing.fHidden == false) && ((r_0.fThing.fFixed == false) && ((r_0.fThing.fSigns == false) && ((r_0.fThing.fWraps == false) && (((ByteArray.toList r_0.fThing.fValue) == (ByteArray.toList ⟨#[]⟩)) && ((r_0.fThing.fNext == 0) && true)))))))) && true))))) then
   some (⟨#[]⟩,false)
  else
   (z3 r_0.fKind).bind fun r3=>
   bif (decide ((r3.size+r1.size)≤9223372036854775807)) then
   some ((r3++r1),true)
   else none
 else
  bif (r_0.fKind == 3) then
  (z2 r_0.fThing).bind fun r4=>
  bif (!r4.2) then
   some (⟨#[]⟩,false)
  else
   bif (!((r_0.fKind == r_0.fKind) && (((ByteArray.toList r_0.fText) == (ByteArray.toList ⟨#[]⟩)) && ((r_0.fNum == 0) && (((r_0.fThing.fId == r_0.fThing.fId) && ((r_0.fThing.fKind == r_0.fThing.fKind) && ((r_0.fThing.fHidden == r_0.fThing.fHidden) && ((r_0.fThing.fFixed == r_0.fThing.fFixed) && ((r_0.fThing.fSigns == r_0.fThing.fSigns) && ((r_0.fThing.fWraps == r_0.fThing.fWraps) && (((ByteArray.toList r_0.fThing.fValue) == (ByteArray.toList r_0.fThing.fValue)) && ((r_0.fThing.fNext == r_0.fThing.fNext) && true)))))))) && true))))) then
   some (⟨#[]⟩,false)
   else
   (z3 r_0.fKind).bind fun r5=>
   bif (decide ((r5.size+r4.1.size)≤9223372036854775807)) then
   some ((r5++r4.1),true)
   else none
  else
  bif (r_0.fKind == 4) then
   (z0 r_0.fNum).bind fun r6=>
   (z1 r_0.fNum 1 1000).bind fun r7=>
   bif (!r7) then
   some (⟨#[]⟩,false)
   else
   bif (!((r_0.fKind == r_0.fKind) && (((ByteArray.toList r_0.fText) == (ByteArray.toList ⟨#[]⟩)) && ((r_0.fNum == r_0.fNum) && (((r_0.fThing.fId == 0) && ((r_0.fThing.fKind == 0) && ((r_0.fThing.fHidden == false) && ((r_0.fThing.fFixed == false) && ((r_0.fThing.fSigns == false) && ((r_0.fThing.fWraps == false) && (((ByteArray.toList r_0.fThing.fValue) == (ByteArray.toList ⟨#[]⟩)) && ((r_0.fThing.fNext == 0) && true)))))))) && true))))) then
    some (⟨#[]⟩,false)
   else
    (z3 r_0.fKind).bind fun r8=>
    bif (decide ((r8.size+r6.size)≤9223372036854775807)) then
    some ((r8++r6),true)
    else none
  else
   some (⟨#[]⟩,false)
noncomputable def Gj:J9:=DAQ Vb YX Gm Fe
theorem PAS:Tells ctx PP 151 cv19 cv18 (fun a=>Gj a):=fn_ok0 (hc Zp (hc Md (hc KAY (hc DAP hl_nil)))) Tryz.func151 ((fun z0 z1 z2 z3 a=>by kernel_rfl:∀ z0 z1 z2 z3,EntryIs0 ctx PP 151 [] [(186,Aq z0),(60,PZ z1),(187,NAY z2),(188,BAE z3)] cv19 cv18 fun a=>DAQ z0 z1 z2 z3 a) Vb YX Gm Fe)
noncomputable def SAS {γ:Type} (F:J9):Hd ctx γ:=hdl cv19.dec (fun a=>F a) cv18.enc
abbrev LAE:=ByteArray→Option (SRec×Bool)
noncomputable def Jm (z0:CAQ) (z1:Wl) (z2:J9) (text_0:ByteArray):Option (SRec×Bool):=
 bif ((ByteArray.toList text_0) == (ByteArray.toList ⟨#[]⟩)) then
 some (⟨0,⟨#[]⟩,0,⟨0,0,false,false,false,false,⟨#[]⟩,0⟩⟩,false)
 else
 bif ((decide ((0:Int)≤(0:Int))) && (decide (0<(text_0.size:Int)))) then
 bif ((w64 (bt text_0 0)) == 1) then
  bif ((decide ((0:Int)≤(1:Int))) && (decide (1≤(text_0.size:Int)))) then
  (z2 ⟨(w64 (bt text_0 0)),(text_0.extract (1:Int).toNat text_0.size),0,⟨0,0,false,false,false,false,⟨#[]⟩,0⟩⟩).bind fun r0=>
  bif (!r0.2) then
  some (⟨0,⟨#[]⟩,0,⟨0,0,false,false,false,false,⟨#[]⟩,0⟩⟩,false)
  else
  bif (!((ByteArray.toList r0.1) == (ByteArray.toList text_0))) then
   some (⟨0,⟨#[]⟩,0,⟨0,0,false,false,false,false,⟨#[]⟩,0⟩⟩,false)
  else
   some (⟨(w64 (bt text_0 0)),(text_0.extract (1:Int).toNat text_0.size),0,⟨0,0,false,false,false,false,⟨#[]⟩,0⟩⟩,true)
  else none
 else
  bif ((w64 (bt text_0 0)) == 3) then
  bif ((decide ((0:Int)≤(1:Int))) && (decide (1≤(text_0.size:Int)))) then
  (z0 (text_0.extract (1:Int).toNat text_0.size)).bind fun r1=>
  (z2 ⟨(w64 (bt text_0 0)),⟨#[]⟩,0,r1.1⟩).bind fun r2=>
  bif (!r2.2) then
   some (⟨0,⟨#[]⟩,0,⟨0,0,false,false,false,false,⟨#[]⟩,0⟩⟩,false)
  else
   bif (!((ByteArray.toList r2.1) == (ByteArray.toList text_0))) then
   some (⟨0,⟨#[]⟩,0,⟨0,0,false,false,false,false,⟨#[]⟩,0⟩⟩,false)
   else
   some (⟨(w64 (bt text_0 0)),⟨#[]⟩,0,r1.1⟩,true)
  else none
  else
  (z1 text_0 1).bind fun r3=>
  (z2 ⟨(w64 (bt text_0 0)),⟨#[]⟩,r3.1,⟨0,0,false,false,false,false,⟨#[]⟩,0⟩⟩).bind fun r4=>
  bif (!r4.2) then
   some (⟨0,⟨#[]⟩,0,⟨0,0,false,false,false,false,⟨#[]⟩,0⟩⟩,false)
  else
   bif (!((ByteArray.toList r4.1) == (ByteArray.toList text_0))) then
   some (⟨0,⟨#[]⟩,0,⟨0,0,false,false,false,false,⟨#[]⟩,0⟩⟩,false)
   else
   some (⟨(w64 (bt text_0 0)),⟨#[]⟩,r3.1,⟨0,0,false,false,false,false,⟨#[]⟩,0⟩⟩,true)
 else none
noncomputable def Xb:LAE:=Jm Wi EZ Gj
theorem KAk:Tells ctx PP 171 cv3 cv111 (fun a=>Xb a):=fn_ok0 (hc IAk (hc WAD (hc PAS hl_nil))) Tryz.func171 ((fun z0 z1 z2 a=>by kernel_rfl:∀ z0 z1 z2,EntryIs0 ctx PP 171 [] [(203,JAk z0),(202,U6 z1),(151,SAS z2)] cv3 cv111 fun a=>Jm z0 z1 z2 a) Wi EZ Gj)
noncomputable def OAY {γ:Type} (F:LAE):Hd ctx γ:=hdl cv3.dec (fun a=>F a) cv111.enc
abbrev MAE:=ByteArray→Option (ByteArray×Bool)
noncomputable def EAQ (z0:FZ) (z1:Ti) (z2:Y6) (z3:Ri) (text_0:ByteArray):Option (ByteArray×Bool):=
 (z0 (text_0.size:Int) 1 9000).bind fun r0=>
 bif (!r0) then
 some (⟨#[]⟩,false)
 else
 (z1 (text_0.size:Int)).bind fun r1=>
 (z2 text_0).bind fun r2=>
 (z3 r2).bind fun r3=>
 bif (decide ((r1.size+r3.size)≤9223372036854775807)) then
 bif (decide (((r1++r3).size+text_0.size)≤9223372036854775807)) then
 some (((r1++r3)++text_0),true)
 else none
 else none
noncomputable def Lm:MAE:=EAQ YX Vb Qh Cb
theorem LAk:Tells ctx PP 153 cv3 cv18 (fun a=>Lm a):=fn_ok0 (hc Md (hc Zp (hc VAX (hc NAD hl_nil)))) Tryz.func153 ((fun z0 z1 z2 z3 a=>by kernel_rfl:∀ z0 z1 z2 z3,EntryIs0 ctx PP 153 [] [(60,PZ z0),(186,Aq z1),(192,YAO z2),(158,Vp z3)] cv3 cv18 fun a=>EAQ z0 z1 z2 z3 a) YX Vb Qh Cb)
noncomputable def QAY {γ:Type} (F:MAE):Hd ctx γ:=hdl cv3.dec (fun a=>F a) cv18.enc
abbrev KAG:=ByteArray→ByteArray→Option ((List SRec)×Int)
inductive E8 where
 | c0 (key_0:ByteArray) (at_9:Int) (v_24:Int) (v_25:Int) (out_8:(List SRec)) (v_23:(List ByteArray))
noncomputable def RAY:E8→LI
 | .c0 key_0 at_9 v_24 v_25 out_8 v_23=>(tdo Tryz.f127 1000,[(0,[.one (.str key_0)]),(8,[.one (.own 560)]),(9,[.one (.int .i64 at_9)]),(23,[.one (.own 1520)]),(24,[.one (.int .i64 v_24)]),(25,[.one (.int .i64 v_25)])],[(560,.sl 71 out_8),(1520,.sl 9 v_23)])
noncomputable def FAQ (z0:XAD) (z1:FAE) (z2:LAE) (z3:MAE) (k:E8→Option ((List SRec)×Int)) (key_0:ByteArray) (file_1:ByteArray):Option ((List SRec)×Int):=
 (z0 file_1).bind fun r0=>
 k (.c0 key_0 0 (r0.1.length:Int) 0 [] r0.1)
noncomputable def NAE (z0:XAD) (z1:FAE) (z2:LAE) (z3:MAE) (k:E8→Option ((List SRec)×Int)):E8→Option ((List SRec)×Int)
 | .c0 key_0 at_9 v_24 v_25 out_8 v_23=>
 bif (decide (v_25<v_24)) then
  bif ((decide (0≤v_25)) && (decide (v_25<(v_23.length:Int)))) then
  (z1 key_0 (w64 (v_25+1)) (v_23.getD v_25.toNat (⟨#[]⟩:ByteArray))).bind fun r0=>
  (z2 r0.1).bind fun r1=>
  bif (!r0.2) then
  some (out_8,at_9)
  else
  bif (!r1.2) then
   some (out_8,at_9)
  else
   bif (decide (((out_8.length+1)*80)≤140737488355328)) then
   (z3 (v_23.getD v_25.toNat (⟨#[]⟩:ByteArray))).bind fun r2=>
   k (.c0 key_0 (w64 (at_9+(r2.1.size:Int))) v_24 (w64 (v_25+1)) (out_8++[r1.1]) v_23)
   else none
  else none
 else
  some (out_8,at_9)
noncomputable def F8:Nat→E8→Option ((List SRec)×Int)
 | 0,_=>none
 | m+1,s=>NAE Xl Am Xb Lm (F8 m) s
noncomputable def Ns:KAG:=FAQ Xl Am Xb Lm (F8 gas)
theorem RAc:Tells ctx PP 127 cv29 cv112 (fun a=>Ns a.1 a.2):=
 have b:∀ z0 z1 z2 z3,CutIs ctx PP 127 Tryz.f127 [] [(169,XAX z0),(170,GAY z1),(171,OAY z2),(153,QAY z3)] cv112 RAY (NAE z0 z1 z2 z3):=fun z0 z1 z2 z3 _ s=>by cases s <;> kernel_rfl
 have e:∀ z0 z1 z2 z3,EntryIs ctx PP 127 [] [(169,XAX z0),(170,GAY z1),(171,OAY z2),(153,QAY z3)] cv29 cv112 RAY (fun k a=>FAQ z0 z1 z2 z3 k a.1 a.2):=fun z0 z1 z2 z3 _ a=>by kernel_rfl
 fn_ok (hc NAj (hc XAj (hc KAk (hc LAk hl_nil)))) Tryz.func127 (fun s s' h=>by cases s;cases s';cases h;rfl) (fun _=>rfl) (fun _ _=>rfl) (b Xl Am Xb Lm) (e Xl Am Xb Lm) gas
noncomputable def TAc {γ:Type} (F:KAG):Hd ctx γ:=hdl cv29.dec (fun a=>F a.1 a.2) cv112.enc
abbrev Vr:=SBook→Option SBook
noncomputable def GAQ (b_0:SBook):Option SBook:=
 bif (decide ((b_0.fThings.length*48)≤140737488355328)) then
 some b_0
 else none
noncomputable def Qg:Vr:=GAQ
theorem RAS:Tells ctx PP 134 cv20 cv14 (fun a=>Qg a):=fn_ok0 hl_nil Tryz.func134 (fun a=>by kernel_rfl:EntryIs0 ctx PP 134 [] [] cv20 cv14 fun a=>GAQ a)
noncomputable def EAG {γ:Type} (F:Vr):Hd ctx γ:=hdl cv20.dec (fun a=>F a) cv14.enc
abbrev Ur:=SBook→Option Bool
inductive G8 where
 | c0 (v_6:(List SThing)) (v_7:Int) (v_8:Int) (b_1:SBook)
noncomputable def TAY:G8→LI
 | .c0 v_6 v_7 v_8 b_1=>(tdo Tryz.f63 104,[(1,[.one (.ptr 64 0)]),(6,[.one (.rsl 69 v_6)]),(7,[.one (.int .i64 v_7)]),(8,[.one (.int .i64 v_8)])],[(64,.var [.str b_1.fWord,.int .i64 b_1.fTries,.rsl 69 b_1.fThings,.int .i64 b_1.fLast,.str b_1.fChain,.int .i64 b_1.fCount])])
noncomputable def HAQ (z0:Y7) (z1:FZ) (k:G8→Option Bool) (b_0:SBook):Option Bool:=
 k (.c0 b_0.fThings (b_0.fThings.length:Int) 0 b_0)
noncomputable def OAE (z0:Y7) (z1:FZ) (k:G8→Option Bool):G8→Option Bool
 | .c0 v_6 v_7 v_8 b_1=>
 bif (decide (v_8<v_7)) then
  bif ((decide (0≤v_8)) && (decide (v_8<(v_6.length:Int)))) then
  (z0 (v_6.getD v_8.toNat (⟨0,0,false,false,false,false,⟨#[]⟩,0⟩:SThing))).bind fun r0=>
  bif (!r0) then
  some false
  else
  bif (decide ((v_6.getD v_8.toNat (⟨0,0,false,false,false,false,⟨#[]⟩,0⟩:SThing)).fId > b_1.fLast)) then
   some false
  else
   bif (decide (v_8 > 0)) then
   bif ((decide (0≤(w64 (v_8 - 1)))) && (decide ((w64 (v_8 - 1))<(b_1.fThings.length:Int)))) then
   bif (decide ((b_1.fThings.getD (w64 (v_8 - 1)).toNat (⟨0,0,false,false,false,false,⟨#[]⟩,0⟩:SThing)).fId≥(v_6.getD v_8.toNat (⟨0,0,false,false,false,false,⟨#[]⟩,0⟩:SThing)).fId)) then
    some false
   else
    k (.c0 v_6 v_7 (w64 (v_8+1)) b_1)
   else none
   else
   k (.c0 v_6 v_7 (w64 (v_8+1)) b_1)
  else none
 else
  bif ((b_1.fWord.size:Int) == 32) then
  bif ((b_1.fChain.size:Int) == 32) then
   (z1 b_1.fTries 0 3).bind fun r1=>
   bif r1 then
   bif (decide ((b_1.fThings.length:Int)≤8)) then
    (z1 b_1.fLast 0 1000).bind fun r2=>
    bif r2 then
    (z1 b_1.fCount 0 10000).bind fun r3=>
    some r3
    else
    some false
   else
    some false
   else
   some false
  else
   some false
  else
  some false
noncomputable def Dq:Nat→G8→Option Bool
 | 0,_=>none
 | m+1,s=>OAE Uh YX (Dq m) s
noncomputable def Pg:Ur:=HAQ Uh YX (Dq gas)
theorem QAS:Tells ctx PP 63 cv20 cv6 (fun a=>Pg a):=
 have b:∀ z0 z1,CutIs ctx PP 63 Tryz.f63 [] [(129,VAP z0),(60,PZ z1)] cv6 TAY (OAE z0 z1):=fun z0 z1 _ s=>by cases s <;> kernel_rfl
 have e:∀ z0 z1,EntryIs ctx PP 63 [] [(129,VAP z0),(60,PZ z1)] cv20 cv6 TAY (fun k a=>HAQ z0 z1 k a):=fun z0 z1 _ a=>by kernel_rfl
 fn_ok (hc HAY (hc Md hl_nil)) Tryz.func63 (fun s s' h=>by cases s;cases s';(repeat cases ‹SBook›);cases h;rfl) (fun _=>rfl) (fun _ _=>rfl) (b Uh YX) (e Uh YX) gas
noncomputable def CAG {γ:Type} (F:Ur):Hd ctx γ:=hdl cv20.dec (fun a=>F a) cv6.enc
end Go.Proofs.YthfpmhalgimbbaaGreatDoor.G

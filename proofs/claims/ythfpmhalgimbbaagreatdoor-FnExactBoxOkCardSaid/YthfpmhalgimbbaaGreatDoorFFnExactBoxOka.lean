/- Functions of the program, told by plain functions: part 1 of 2. -/
import Derived.Test.YthfpmhalgimbbaaGreatDoorCtx
namespace Go.Proofs.YthfpmhalgimbbaaGreatDoor.G
open Go Go.Ev
set_option linter.unusedVariables false
abbrev Tz:=SFile→Int→Option Int
noncomputable def YAB (a_0:SFile) (left_1:Int):Option Int:=
 bif (decide ((w64 (left_1 - (a_0.fName.size:Int)))<0)) then
 some (-(1:Int))
 else
 bif (decide ((w64 ((w64 (left_1 - (a_0.fName.size:Int))) - (a_0.fText.size:Int)))<0)) then
  some (-(1:Int))
 else
  some (w64 ((w64 (left_1 - (a_0.fName.size:Int))) - (a_0.fText.size:Int)))
noncomputable def Lh:Tz:=YAB
theorem KAV:Tells ctx PP 162 cv82 cv15 (fun a=>Lh a.1 a.2):=fn_ok0 hl_nil Tryz.func162 (fun a=>by kernel_rfl:EntryIs0 ctx PP 162 [] [] cv82 cv15 fun a=>YAB a.1 a.2)
noncomputable def TAL {γ:Type} (F:Tz):Hd ctx γ:=hdl cv82.dec (fun a=>F a.1 a.2) cv15.enc
abbrev ZAB:=(List SFile)→Int→Option Int
inductive Zo where
 | c0 (a_0:(List SFile)) (left_1:Int) (i_5:Int)
noncomputable def UAL:Zo→LI
 | .c0 a_0 left_1 i_5=>(tdo Tryz.f114 976,[(0,[.one (.rsl 197 a_0)]),(1,[.one (.int .i64 left_1)]),(5,[.one (.int .i64 i_5)])],[])
noncomputable def AAC (z0:Tz) (k:Zo→Option Int) (a_0:(List SFile)) (left_1:Int):Option Int:=
 bif (decide ((w64 (left_1 - (a_0.length:Int)))<0)) then
 some (-(1:Int))
 else
 k (.c0 a_0 (w64 (left_1 - (a_0.length:Int))) 0)
noncomputable def BAC (z0:Tz) (k:Zo→Option Int):Zo→Option Int
 | .c0 a_0 left_1 i_5=>
 bif (decide (i_5<(a_0.length:Int))) then
  bif ((decide (0≤i_5)) && (decide (i_5<(a_0.length:Int)))) then
  (z0 (a_0.getD i_5.toNat (⟨⟨#[]⟩,⟨#[]⟩,0⟩:SFile)) left_1).bind fun r0=>
  bif (decide (r0<0)) then
  some (-(1:Int))
  else
  k (.c0 a_0 r0 (w64 (i_5+1)))
  else none
 else
  some left_1
noncomputable def Uz:Nat→Zo→Option Int
 | 0,_=>none
 | m+1,s=>BAC Lh (Uz m) s
noncomputable def Ap:ZAB:=AAC Lh (Uz gas)
theorem LAV:Tells ctx PP 114 cv83 cv15 (fun a=>Ap a.1 a.2):=
 have b:∀ z0,CutIs ctx PP 114 Tryz.f114 [] [(162,TAL z0)] cv15 UAL (BAC z0):=fun z0 _ s=>by cases s <;> kernel_rfl
 have e:∀ z0,EntryIs ctx PP 114 [] [(162,TAL z0)] cv83 cv15 UAL (fun k a=>AAC z0 k a.1 a.2):=fun z0 _ a=>by kernel_rfl
 fn_ok (hc KAV hl_nil) Tryz.func114 (fun s s' h=>by cases s;cases s';cases h;rfl) (fun _=>rfl) (fun _ _=>rfl) (b Lh) (e Lh) gas
noncomputable def MAV {γ:Type} (F:ZAB):Hd ctx γ:=hdl cv83.dec (fun a=>F a.1 a.2) cv15.enc
abbrev CAC:=SDisk→Int→Option Int
noncomputable def DAC (z0:ZAB) (a_0:SDisk) (left_1:Int):Option Int:=
 (z0 a_0.fFiles left_1).bind fun r0=>
 bif (decide (r0<0)) then
 some (-(1:Int))
 else
 some r0
noncomputable def Dp:CAC:=DAC Ap
theorem NAV:Tells ctx PP 45 cv84 cv15 (fun a=>Dp a.1 a.2):=fn_ok0 (hc LAV hl_nil) Tryz.func45 ((fun z0 a=>by kernel_rfl:∀ z0,EntryIs0 ctx PP 45 [] [(114,MAV z0)] cv84 cv15 fun a=>DAC z0 a.1 a.2) Ap)
noncomputable def OAV {γ:Type} (F:CAC):Hd ctx γ:=hdl cv84.dec (fun a=>F a.1 a.2) cv15.enc
abbrev Vz:=SThing→Int→Option Int
noncomputable def VAL (a_0:SThing) (left_1:Int):Option Int:=
 bif (decide ((w64 (left_1 - (a_0.fValue.size:Int)))<0)) then
 some (-(1:Int))
 else
 some (w64 (left_1 - (a_0.fValue.size:Int)))
noncomputable def Ll:Vz:=VAL
theorem PAV:Tells ctx PP 163 cv85 cv15 (fun a=>Ll a.1 a.2):=fn_ok0 hl_nil Tryz.func163 (fun a=>by kernel_rfl:EntryIs0 ctx PP 163 [] [] cv85 cv15 fun a=>VAL a.1 a.2)
noncomputable def WAL {γ:Type} (F:Vz):Hd ctx γ:=hdl cv85.dec (fun a=>F a.1 a.2) cv15.enc
abbrev EAC:=(List SThing)→Int→Option Int
inductive Ep where
 | c0 (a_0:(List SThing)) (left_1:Int) (i_5:Int)
noncomputable def XAL:Ep→LI
 | .c0 a_0 left_1 i_5=>(tdo Tryz.f115 976,[(0,[.one (.rsl 171 a_0)]),(1,[.one (.int .i64 left_1)]),(5,[.one (.int .i64 i_5)])],[])
noncomputable def FAC (z0:Vz) (k:Ep→Option Int) (a_0:(List SThing)) (left_1:Int):Option Int:=
 bif (decide ((w64 (left_1 - (a_0.length:Int)))<0)) then
 some (-(1:Int))
 else
 k (.c0 a_0 (w64 (left_1 - (a_0.length:Int))) 0)
noncomputable def GAC (z0:Vz) (k:Ep→Option Int):Ep→Option Int
 | .c0 a_0 left_1 i_5=>
 bif (decide (i_5<(a_0.length:Int))) then
  bif ((decide (0≤i_5)) && (decide (i_5<(a_0.length:Int)))) then
  (z0 (a_0.getD i_5.toNat (⟨0,0,false,false,false,false,⟨#[]⟩,0⟩:SThing)) left_1).bind fun r0=>
  bif (decide (r0<0)) then
  some (-(1:Int))
  else
  k (.c0 a_0 r0 (w64 (i_5+1)))
  else none
 else
  some left_1
noncomputable def Xz:Nat→Ep→Option Int
 | 0,_=>none
 | m+1,s=>GAC Ll (Xz m) s
noncomputable def Fp:EAC:=FAC Ll (Xz gas)
theorem QAV:Tells ctx PP 115 cv86 cv15 (fun a=>Fp a.1 a.2):=
 have b:∀ z0,CutIs ctx PP 115 Tryz.f115 [] [(163,WAL z0)] cv15 XAL (GAC z0):=fun z0 _ s=>by cases s <;> kernel_rfl
 have e:∀ z0,EntryIs ctx PP 115 [] [(163,WAL z0)] cv86 cv15 XAL (fun k a=>FAC z0 k a.1 a.2):=fun z0 _ a=>by kernel_rfl
 fn_ok (hc PAV hl_nil) Tryz.func115 (fun s s' h=>by cases s;cases s';cases h;rfl) (fun _=>rfl) (fun _ _=>rfl) (b Ll) (e Ll) gas
noncomputable def RAV {γ:Type} (F:EAC):Hd ctx γ:=hdl cv86.dec (fun a=>F a.1 a.2) cv15.enc
abbrev HAC:=SBook→Int→Option Int
noncomputable def IAC (z0:EAC) (a_0:SBook) (left_1:Int):Option Int:=
 bif (decide ((w64 (left_1 - (a_0.fWord.size:Int)))<0)) then
 some (-(1:Int))
 else
 (z0 a_0.fThings (w64 (left_1 - (a_0.fWord.size:Int)))).bind fun r0=>
 bif (decide (r0<0)) then
  some (-(1:Int))
 else
  bif (decide ((w64 (r0 - (a_0.fChain.size:Int)))<0)) then
  some (-(1:Int))
  else
  some (w64 (r0 - (a_0.fChain.size:Int)))
noncomputable def Gp:HAC:=IAC Fp
theorem SAV:Tells ctx PP 46 cv87 cv15 (fun a=>Gp a.1 a.2):=fn_ok0 (hc QAV hl_nil) Tryz.func46 ((fun z0 a=>by kernel_rfl:∀ z0,EntryIs0 ctx PP 46 [] [(115,RAV z0)] cv87 cv15 fun a=>IAC z0 a.1 a.2) Fp)
noncomputable def TAV {γ:Type} (F:HAC):Hd ctx γ:=hdl cv87.dec (fun a=>F a.1 a.2) cv15.enc
abbrev JAC:=(List SSession)→Int→Option Int
noncomputable def YAL (a_0:(List SSession)) (left_1:Int):Option Int:=
 bif (decide ((w64 (left_1 - (a_0.length:Int)))<0)) then
 some (-(1:Int))
 else
 some (w64 (left_1 - (a_0.length:Int)))
noncomputable def Yz:JAC:=YAL
theorem UAV:Tells ctx PP 47 cv88 cv15 (fun a=>Yz a.1 a.2):=fn_ok0 hl_nil Tryz.func47 (fun a=>by kernel_rfl:EntryIs0 ctx PP 47 [] [] cv88 cv15 fun a=>YAL a.1 a.2)
noncomputable def VAV {γ:Type} (F:JAC):Hd ctx γ:=hdl cv88.dec (fun a=>F a.1 a.2) cv15.enc
abbrev KAC:=(List SLive)→Int→Option Int
noncomputable def ZAL (a_0:(List SLive)) (left_1:Int):Option Int:=
 bif (decide ((w64 (left_1 - (a_0.length:Int)))<0)) then
 some (-(1:Int))
 else
 some (w64 (left_1 - (a_0.length:Int)))
noncomputable def Zz:KAC:=ZAL
theorem WAV:Tells ctx PP 48 cv89 cv15 (fun a=>Zz a.1 a.2):=fn_ok0 hl_nil Tryz.func48 (fun a=>by kernel_rfl:EntryIs0 ctx PP 48 [] [] cv89 cv15 fun a=>ZAL a.1 a.2)
noncomputable def XAV {γ:Type} (F:KAC):Hd ctx γ:=hdl cv89.dec (fun a=>F a.1 a.2) cv15.enc
abbrev UAB:=SBox→Int→Option Int
noncomputable def LAC (z0:CAC) (z1:HAC) (z2:JAC) (z3:KAC) (a_0:SBox) (left_1:Int):Option Int:=
 bif (decide ((w64 (left_1 - (a_0.fKey.size:Int)))<0)) then
 some (-(1:Int))
 else
 (z0 a_0.fDisk (w64 (left_1 - (a_0.fKey.size:Int)))).bind fun r0=>
 bif (decide (r0<0)) then
  some (-(1:Int))
 else
  (z1 a_0.fBook r0).bind fun r1=>
  bif (decide (r1<0)) then
  some (-(1:Int))
  else
  (z2 a_0.fSessions r1).bind fun r2=>
  bif (decide (r2<0)) then
   some (-(1:Int))
  else
   (z3 a_0.fLives r2).bind fun r3=>
   bif (decide (r3<0)) then
   some (-(1:Int))
   else
   some r3
noncomputable def Uo:UAB:=LAC Dp Gp Yz Zz
theorem CAV:Tells ctx PP 13 cv90 cv15 (fun a=>Uo a.1 a.2):=fn_ok0 (hc NAV (hc SAV (hc UAV (hc WAV hl_nil)))) Tryz.func13 ((fun z0 z1 z2 z3 a=>by kernel_rfl:∀ z0 z1 z2 z3,EntryIs0 ctx PP 13 [] [(45,OAV z0),(46,TAV z1),(47,VAV z2),(48,XAV z3)] cv90 cv15 fun a=>LAC z0 z1 z2 z3 a.1 a.2) Dp Gp Yz Zz)
noncomputable def GAV {γ:Type} (F:UAB):Hd ctx γ:=hdl cv90.dec (fun a=>F a.1 a.2) cv15.enc
abbrev O0:=SFile→Option SFile
noncomputable def NAC (a_0:SFile):Option SFile:=
 some a_0
noncomputable def Nh:O0:=NAC
theorem YAV:Tells ctx PP 167 cv91 cv91 (fun a=>Nh a):=fn_ok0 hl_nil Tryz.func167 (fun a=>by kernel_rfl:EntryIs0 ctx PP 167 [] [] cv91 cv91 fun a=>NAC a)
noncomputable def AAM {γ:Type} (F:O0):Hd ctx γ:=hdl cv91.dec (fun a=>F a) cv91.enc
abbrev OAC:=(List SFile)→Option (List SFile)
inductive Ip where
 | c0 (a_0:(List SFile)) (i_4:Int) (out_3:(List SFile))
noncomputable def BAM:Ip→LI
 | .c0 a_0 i_4 out_3=>(tdo Tryz.f121 464,[(0,[.one (.rsl 197 a_0)]),(3,[.one (.own 240)]),(4,[.one (.int .i64 i_4)])],[(240,.sl 155 out_3)])
noncomputable def PAC (z0:O0) (k:Ip→Option (List SFile)) (a_0:(List SFile)):Option (List SFile):=
 bif ((((decide (0≤(a_0.length:Int))) && (decide ((a_0.length:Int)≤(a_0.length:Int)))) && (decide ((a_0.length:Int)≤9223372036854775807))) && (decide (((a_0.length:Int).toNat*40)≤140737488355328))) then
 k (.c0 a_0 0 (List.replicate (a_0.length:Int).toNat (⟨⟨#[]⟩,⟨#[]⟩,0⟩:SFile)))
 else none
noncomputable def U0 (z0:O0) (k:Ip→Option (List SFile)):Ip→Option (List SFile)
 | .c0 a_0 i_4 out_3=>
 bif (decide (i_4<(a_0.length:Int))) then
  bif ((decide (0≤i_4)) && (decide (i_4<(a_0.length:Int)))) then
  (z0 (a_0.getD i_4.toNat (⟨⟨#[]⟩,⟨#[]⟩,0⟩:SFile))).bind fun r0=>
  bif ((decide (0≤i_4)) && (decide (i_4<(out_3.length:Int)))) then
  k (.c0 a_0 (w64 (i_4+1)) (out_3.set i_4.toNat r0))
  else none
  else none
 else
  some out_3
noncomputable def Oh:Nat→Ip→Option (List SFile)
 | 0,_=>none
 | m+1,s=>U0 Nh (Oh m) s
noncomputable def Jp:OAC:=PAC Nh (Oh gas)
theorem ZAV:Tells ctx PP 121 cv92 cv93 (fun a=>Jp a):=
 have b:∀ z0,CutIs ctx PP 121 Tryz.f121 [] [(167,AAM z0)] cv93 BAM (U0 z0):=fun z0 _ s=>by cases s <;> kernel_rfl
 have e:∀ z0,EntryIs ctx PP 121 [] [(167,AAM z0)] cv92 cv93 BAM (fun k a=>PAC z0 k a):=fun z0 _ a=>by kernel_rfl
 fn_ok (hc YAV hl_nil) Tryz.func121 (fun s s' h=>by cases s;cases s';cases h;rfl) (fun _=>rfl) (fun _ _=>rfl) (b Nh) (e Nh) gas
noncomputable def AAW {γ:Type} (F:OAC):Hd ctx γ:=hdl cv92.dec (fun a=>F a) cv93.enc
abbrev QAC:=SDisk→Option SDisk
noncomputable def RAC (z0:OAC) (a_0:SDisk):Option SDisk:=
 (z0 a_0.fFiles).bind fun r0=>
 some ⟨r0⟩
noncomputable def Np:QAC:=RAC Jp
theorem BAW:Tells ctx PP 55 cv94 cv38 (fun a=>Np a):=fn_ok0 (hc ZAV hl_nil) Tryz.func55 ((fun z0 a=>by kernel_rfl:∀ z0,EntryIs0 ctx PP 55 [] [(121,AAW z0)] cv94 cv38 fun a=>RAC z0 a) Jp)
noncomputable def CAW {γ:Type} (F:QAC):Hd ctx γ:=hdl cv94.dec (fun a=>F a) cv38.enc
abbrev X0:=SThing→Option SThing
noncomputable def SAC (a_0:SThing):Option SThing:=
 some a_0
noncomputable def Ph:X0:=SAC
theorem DAW:Tells ctx PP 168 cv16 cv16 (fun a=>Ph a):=fn_ok0 hl_nil Tryz.func168 (fun a=>by kernel_rfl:EntryIs0 ctx PP 168 [] [] cv16 cv16 fun a=>SAC a)
noncomputable def CAM {γ:Type} (F:X0):Hd ctx γ:=hdl cv16.dec (fun a=>F a) cv16.enc
abbrev UAC:=(List SThing)→Option (List SThing)
inductive Qp where
 | c0 (a_0:(List SThing)) (i_4:Int) (out_3:(List SThing))
noncomputable def DAM:Qp→LI
 | .c0 a_0 i_4 out_3=>(tdo Tryz.f122 464,[(0,[.one (.rsl 171 a_0)]),(3,[.one (.own 240)]),(4,[.one (.int .i64 i_4)])],[(240,.sl 69 out_3)])
noncomputable def VAC (z0:X0) (k:Qp→Option (List SThing)) (a_0:(List SThing)):Option (List SThing):=
 bif ((((decide (0≤(a_0.length:Int))) && (decide ((a_0.length:Int)≤(a_0.length:Int)))) && (decide ((a_0.length:Int)≤9223372036854775807))) && (decide (((a_0.length:Int).toNat*48)≤140737488355328))) then
 k (.c0 a_0 0 (List.replicate (a_0.length:Int).toNat (⟨0,0,false,false,false,false,⟨#[]⟩,0⟩:SThing)))
 else none
noncomputable def Y0 (z0:X0) (k:Qp→Option (List SThing)):Qp→Option (List SThing)
 | .c0 a_0 i_4 out_3=>
 bif (decide (i_4<(a_0.length:Int))) then
  bif ((decide (0≤i_4)) && (decide (i_4<(a_0.length:Int)))) then
  (z0 (a_0.getD i_4.toNat (⟨0,0,false,false,false,false,⟨#[]⟩,0⟩:SThing))).bind fun r0=>
  bif ((decide (0≤i_4)) && (decide (i_4<(out_3.length:Int)))) then
  k (.c0 a_0 (w64 (i_4+1)) (out_3.set i_4.toNat r0))
  else none
  else none
 else
  some out_3
noncomputable def Qh:Nat→Qp→Option (List SThing)
 | 0,_=>none
 | m+1,s=>Y0 Ph (Qh m) s
noncomputable def Vp:UAC:=VAC Ph (Qh gas)
theorem EAW:Tells ctx PP 122 cv95 cv25 (fun a=>Vp a):=
 have b:∀ z0,CutIs ctx PP 122 Tryz.f122 [] [(168,CAM z0)] cv25 DAM (Y0 z0):=fun z0 _ s=>by cases s <;> kernel_rfl
 have e:∀ z0,EntryIs ctx PP 122 [] [(168,CAM z0)] cv95 cv25 DAM (fun k a=>VAC z0 k a):=fun z0 _ a=>by kernel_rfl
 fn_ok (hc DAW hl_nil) Tryz.func122 (fun s s' h=>by cases s;cases s';cases h;rfl) (fun _=>rfl) (fun _ _=>rfl) (b Ph) (e Ph) gas
noncomputable def FAW {γ:Type} (F:UAC):Hd ctx γ:=hdl cv95.dec (fun a=>F a) cv25.enc
abbrev WAC:=SBook→Option SBook
noncomputable def XAC (z0:UAC) (a_0:SBook):Option SBook:=
 (z0 a_0.fThings).bind fun r0=>
 some ⟨a_0.fWord,a_0.fTries,r0,a_0.fLast,a_0.fChain,a_0.fCount⟩
noncomputable def Wp:WAC:=XAC Vp
theorem GAW:Tells ctx PP 56 cv96 cv14 (fun a=>Wp a):=fn_ok0 (hc EAW hl_nil) Tryz.func56 ((fun z0 a=>by kernel_rfl:∀ z0,EntryIs0 ctx PP 56 [] [(122,FAW z0)] cv96 cv14 fun a=>XAC z0 a) Vp)
noncomputable def HAW {γ:Type} (F:WAC):Hd ctx γ:=hdl cv96.dec (fun a=>F a) cv14.enc
abbrev O1:=SSession→Option SSession
noncomputable def YAC (a_0:SSession):Option SSession:=
 some a_0
noncomputable def Rh:O1:=YAC
theorem IAW:Tells ctx PP 123 cv97 cv97 (fun a=>Rh a):=fn_ok0 hl_nil Tryz.func123 (fun a=>by kernel_rfl:EntryIs0 ctx PP 123 [] [] cv97 cv97 fun a=>YAC a)
noncomputable def EAM {γ:Type} (F:O1):Hd ctx γ:=hdl cv97.dec (fun a=>F a) cv97.enc
abbrev ZAC:=(List SSession)→Option (List SSession)
inductive Xp where
 | c0 (a_0:(List SSession)) (i_4:Int) (out_3:(List SSession))
noncomputable def FAM:Xp→LI
 | .c0 a_0 i_4 out_3=>(tdo Tryz.f57 464,[(0,[.one (.rsl 167 a_0)]),(3,[.one (.own 240)]),(4,[.one (.int .i64 i_4)])],[(240,.sl 92 out_3)])
noncomputable def AAD (z0:O1) (k:Xp→Option (List SSession)) (a_0:(List SSession)):Option (List SSession):=
 bif ((((decide (0≤(a_0.length:Int))) && (decide ((a_0.length:Int)≤(a_0.length:Int)))) && (decide ((a_0.length:Int)≤9223372036854775807))) && (decide (((a_0.length:Int).toNat*16)≤140737488355328))) then
 k (.c0 a_0 0 (List.replicate (a_0.length:Int).toNat (⟨0,false⟩:SSession)))
 else none
noncomputable def U1 (z0:O1) (k:Xp→Option (List SSession)):Xp→Option (List SSession)
 | .c0 a_0 i_4 out_3=>
 bif (decide (i_4<(a_0.length:Int))) then
  bif ((decide (0≤i_4)) && (decide (i_4<(a_0.length:Int)))) then
  (z0 (a_0.getD i_4.toNat (⟨0,false⟩:SSession))).bind fun r0=>
  bif ((decide (0≤i_4)) && (decide (i_4<(out_3.length:Int)))) then
  k (.c0 a_0 (w64 (i_4+1)) (out_3.set i_4.toNat r0))
  else none
  else none
 else
  some out_3
noncomputable def Uh:Nat→Xp→Option (List SSession)
 | 0,_=>none
 | m+1,s=>U1 Rh (Uh m) s
noncomputable def Yp:ZAC:=AAD Rh (Uh gas)
theorem JAW:Tells ctx PP 57 cv98 cv99 (fun a=>Yp a):=
 have b:∀ z0,CutIs ctx PP 57 Tryz.f57 [] [(123,EAM z0)] cv99 FAM (U1 z0):=fun z0 _ s=>by cases s <;> kernel_rfl
 have e:∀ z0,EntryIs ctx PP 57 [] [(123,EAM z0)] cv98 cv99 FAM (fun k a=>AAD z0 k a):=fun z0 _ a=>by kernel_rfl
 fn_ok (hc IAW hl_nil) Tryz.func57 (fun s s' h=>by cases s;cases s';cases h;rfl) (fun _=>rfl) (fun _ _=>rfl) (b Rh) (e Rh) gas
noncomputable def KAW {γ:Type} (F:ZAC):Hd ctx γ:=hdl cv98.dec (fun a=>F a) cv99.enc
abbrev Y1:=SLive→Option SLive
noncomputable def CAD (a_0:SLive):Option SLive:=
 some a_0
noncomputable def Vh:Y1:=CAD
theorem MAW:Tells ctx PP 124 cv100 cv100 (fun a=>Vh a):=fn_ok0 hl_nil Tryz.func124 (fun a=>by kernel_rfl:EntryIs0 ctx PP 124 [] [] cv100 cv100 fun a=>CAD a)
noncomputable def GAM {γ:Type} (F:Y1):Hd ctx γ:=hdl cv100.dec (fun a=>F a) cv100.enc
abbrev DAD:=(List SLive)→Option (List SLive)
inductive Zp where
 | c0 (a_0:(List SLive)) (i_4:Int) (out_3:(List SLive))
noncomputable def HAM:Zp→LI
 | .c0 a_0 i_4 out_3=>(tdo Tryz.f58 464,[(0,[.one (.rsl 169 a_0)]),(3,[.one (.own 240)]),(4,[.one (.int .i64 i_4)])],[(240,.sl 149 out_3)])
noncomputable def EAD (z0:Y1) (k:Zp→Option (List SLive)) (a_0:(List SLive)):Option (List SLive):=
 bif ((((decide (0≤(a_0.length:Int))) && (decide ((a_0.length:Int)≤(a_0.length:Int)))) && (decide ((a_0.length:Int)≤9223372036854775807))) && (decide (((a_0.length:Int).toNat*16)≤140737488355328))) then
 k (.c0 a_0 0 (List.replicate (a_0.length:Int).toNat (⟨0,0⟩:SLive)))
 else none
noncomputable def U2 (z0:Y1) (k:Zp→Option (List SLive)):Zp→Option (List SLive)
 | .c0 a_0 i_4 out_3=>
 bif (decide (i_4<(a_0.length:Int))) then
  bif ((decide (0≤i_4)) && (decide (i_4<(a_0.length:Int)))) then
  (z0 (a_0.getD i_4.toNat (⟨0,0⟩:SLive))).bind fun r0=>
  bif ((decide (0≤i_4)) && (decide (i_4<(out_3.length:Int)))) then
  k (.c0 a_0 (w64 (i_4+1)) (out_3.set i_4.toNat r0))
  else none
  else none
 else
  some out_3
noncomputable def Wh:Nat→Zp→Option (List SLive)
 | 0,_=>none
 | m+1,s=>U2 Vh (Wh m) s
noncomputable def Aq:DAD:=EAD Vh (Wh gas)
theorem NAW:Tells ctx PP 58 cv101 cv102 (fun a=>Aq a):=
 have b:∀ z0,CutIs ctx PP 58 Tryz.f58 [] [(124,GAM z0)] cv102 HAM (U2 z0):=fun z0 _ s=>by cases s <;> kernel_rfl
 have e:∀ z0,EntryIs ctx PP 58 [] [(124,GAM z0)] cv101 cv102 HAM (fun k a=>EAD z0 k a):=fun z0 _ a=>by kernel_rfl
 fn_ok (hc MAW hl_nil) Tryz.func58 (fun s s' h=>by cases s;cases s';cases h;rfl) (fun _=>rfl) (fun _ _=>rfl) (b Vh) (e Vh) gas
noncomputable def OAW {γ:Type} (F:DAD):Hd ctx γ:=hdl cv101.dec (fun a=>F a) cv102.enc
abbrev VAB:=SBox→Option SBox
noncomputable def FAD (z0:QAC) (z1:WAC) (z2:ZAC) (z3:DAD) (a_0:SBox):Option SBox:=
 (z0 a_0.fDisk).bind fun r0=>
 (z1 a_0.fBook).bind fun r1=>
 (z2 a_0.fSessions).bind fun r2=>
 (z3 a_0.fLives).bind fun r3=>
 some ⟨a_0.fKey,a_0.fUp,r0,r1,r2,r3,a_0.fOpened⟩
noncomputable def Vo:VAB:=FAD Np Wp Yp Aq
theorem DAV:Tells ctx PP 15 cv103 cv104 (fun a=>Vo a):=fn_ok0 (hc BAW (hc GAW (hc JAW (hc NAW hl_nil)))) Tryz.func15 ((fun z0 z1 z2 z3 a=>by kernel_rfl:∀ z0 z1 z2 z3,EntryIs0 ctx PP 15 [] [(55,CAW z0),(56,HAW z1),(57,KAW z2),(58,OAW z3)] cv103 cv104 fun a=>FAD z0 z1 z2 z3 a) Np Wp Yp Aq)
noncomputable def HAV {γ:Type} (F:VAB):Hd ctx γ:=hdl cv103.dec (fun a=>F a) cv104.enc
abbrev XY:=Int→Int→Int→Option Bool
noncomputable def IAM (x_0:Int) (least_1:Int) (most_2:Int):Option Bool:=
 bif (decide (x_0≥least_1)) then
 some (decide (x_0≤most_2))
 else
 some false
noncomputable def SX:XY:=IAM
theorem Vb:Tells ctx PP 50 cv5 cv6 (fun a=>SX a.1 a.2.1 a.2.2):=fn_ok0 hl_nil Tryz.func50 (fun a=>by kernel_rfl:EntryIs0 ctx PP 50 [] [] cv5 cv6 fun a=>IAM a.1 a.2.1 a.2.2)
noncomputable def GZ {γ:Type} (F:XY):Hd ctx γ:=hdl cv5.dec (fun a=>F a.1 a.2.1 a.2.2) cv6.enc
abbrev Y2:=ByteArray→Option Bool
noncomputable def GAD (z0:XY) (s_0:ByteArray):Option Bool:=
 (z0 (s_0.size:Int) 1 8).bind fun r0=>
 some r0
noncomputable def Xh:Y2:=GAD SX
theorem PAW:Tells ctx PP 116 cv3 cv6 (fun a=>Xh a):=fn_ok0 (hc Vb hl_nil) Tryz.func116 ((fun z0 a=>by kernel_rfl:∀ z0,EntryIs0 ctx PP 116 [] [(50,GZ z0)] cv3 cv6 fun a=>GAD z0 a) SX)
noncomputable def JAM {γ:Type} (F:Y2):Hd ctx γ:=hdl cv3.dec (fun a=>F a) cv6.enc
abbrev Bq:=SDisk→Option Bool
inductive Dq where
 | c0 (i_3:Int) (d_1:SDisk)
noncomputable def KAM:Dq→LI
 | .c0 i_3 d_1=>(tdo Tryz.f49 464,[(1,[.one (.ptr 64 0)]),(3,[.one (.int .i64 i_3)])],[(64,.var [.rsl 155 d_1.fFiles])])
noncomputable def IAD (z0:Y2) (z1:XY) (k:Dq→Option Bool) (d_0:SDisk):Option Bool:=
 bif (decide ((d_0.fFiles.length:Int) > 30)) then
 some false
 else
 k (.c0 0 d_0)
noncomputable def J3 (z0:Y2) (z1:XY) (k:Dq→Option Bool):Dq→Option Bool
 | .c0 i_3 d_1=>
 bif (decide (i_3<(d_1.fFiles.length:Int))) then
  bif ((decide (0≤i_3)) && (decide (i_3<(d_1.fFiles.length:Int)))) then
  (z0 (d_1.fFiles.getD i_3.toNat (⟨⟨#[]⟩,⟨#[]⟩,0⟩:SFile)).fName).bind fun r0=>
  bif (!r0) then
  some false
  else
  bif (decide (((d_1.fFiles.getD i_3.toNat (⟨⟨#[]⟩,⟨#[]⟩,0⟩:SFile)).fText.size:Int) > 20000)) then
   some false
  else
   (z1 (d_1.fFiles.getD i_3.toNat (⟨⟨#[]⟩,⟨#[]⟩,0⟩:SFile)).fKept 0 ((d_1.fFiles.getD i_3.toNat (⟨⟨#[]⟩,⟨#[]⟩,0⟩:SFile)).fText.size:Int)).bind fun r1=>
   bif (!r1) then
   some false
   else
   bif (decide (i_3 > 0)) then
    bif ((decide (0≤(w64 (i_3 - 1)))) && (decide ((w64 (i_3 - 1))<(d_1.fFiles.length:Int)))) then
    bif (!(Op.bytesLess (ByteArray.toList (d_1.fFiles.getD (w64 (i_3 - 1)).toNat (⟨⟨#[]⟩,⟨#[]⟩,0⟩:SFile)).fName) (ByteArray.toList (d_1.fFiles.getD i_3.toNat (⟨⟨#[]⟩,⟨#[]⟩,0⟩:SFile)).fName))) then
    some false
    else
    k (.c0 (w64 (i_3+1)) d_1)
    else none
   else
    k (.c0 (w64 (i_3+1)) d_1)
  else none
 else
  some true
noncomputable def Fq:Nat→Dq→Option Bool
 | 0,_=>none
 | m+1,s=>J3 Xh SX (Fq m) s
noncomputable def Qe:Bq:=IAD Xh SX (Fq gas)
theorem LAM:Tells ctx PP 49 cv35 cv6 (fun a=>Qe a):=
 have b:∀ z0 z1,CutIs ctx PP 49 Tryz.f49 [] [(116,JAM z0),(50,GZ z1)] cv6 KAM (J3 z0 z1):=fun z0 z1 _ s=>by cases s <;> kernel_rfl
 have e:∀ z0 z1,EntryIs ctx PP 49 [] [(116,JAM z0),(50,GZ z1)] cv35 cv6 KAM (fun k a=>IAD z0 z1 k a):=fun z0 z1 _ a=>by kernel_rfl
 fn_ok (hc PAW (hc Vb hl_nil)) Tryz.func49 (fun s s' h=>by cases s;cases s';(repeat cases ‹SDisk›);cases h;rfl) (fun _=>rfl) (fun _ _=>rfl) (b Xh SX) (e Xh SX) gas
noncomputable def JAD {γ:Type} (F:Bq):Hd ctx γ:=hdl cv35.dec (fun a=>F a) cv6.enc
abbrev KAD:=Option (List Int)
noncomputable def MAM  : Option (List Int):=
 some [1779033703,3144134277,1013904242,2773480762,1359893119,2600822924,528734635,1541459225]
noncomputable def O3:KAD:=MAM
theorem QAW:Tells ctx PP 146 cv0 cv1 (fun _=>O3):=fn_ok0 hl_nil Tryz.func146 (fun _=>by kernel_rfl:EntryIs0 ctx PP 146 [] [] cv0 cv1 fun _=>MAM)
noncomputable def RAW {γ:Type} (F:KAD):Hd ctx γ:=hdl cv0.dec (fun _=>F) cv1.enc
abbrev Yh:=(List Int)→Option ByteArray
inductive Gq where
 | c0 (words_0:(List Int)) (i_4:Int) (out_3:(List Int))
noncomputable def NAM:Gq→LI
 | .c0 words_0 i_4 out_3=>(tdo Tryz.f145 464,[(0,[.one (.rsl 138 words_0)]),(3,[.one (.own 240)]),(4,[.one (.int .i64 i_4)])],[(240,.sl 5 out_3)])
noncomputable def OAM (k:Gq→Option ByteArray) (words_0:(List Int)):Option ByteArray:=
 k (.c0 words_0 0 [])
noncomputable def U3 (k:Gq→Option ByteArray):Gq→Option ByteArray
 | .c0 words_0 i_4 out_3=>
 bif (decide (i_4<(words_0.length:Int))) then
  bif ((decide (0≤i_4)) && (decide (i_4<(words_0.length:Int)))) then
  bif (decide (((out_3.length+4)*1)≤140737488355328)) then
  k (.c0 words_0 (w64 (i_4+1)) (out_3++[(w8 (w32 ((words_0.getD i_4.toNat 0).tdiv 16777216))),(w8 ((w32 ((words_0.getD i_4.toNat 0).tdiv 65536)).tmod 256)),(w8 ((w32 ((words_0.getD i_4.toNat 0).tdiv 256)).tmod 256)),(w8 ((words_0.getD i_4.toNat 0).tmod 256))]))
  else none
  else none
 else
  some (ofBytes out_3)
noncomputable def Hq:Nat→Gq→Option ByteArray
 | 0,_=>none
 | m+1,s=>U3 (Hq m) s
noncomputable def Jb:Yh:=OAM (Hq gas)
theorem LAD:Tells ctx PP 145 cv2 cv3 (fun a=>Jb a):=
 have b:CutIs ctx PP 145 Tryz.f145 [] [] cv3 NAM (U3):=fun _ s=>by cases s <;> kernel_rfl
 have e:EntryIs ctx PP 145 [] [] cv2 cv3 NAM (fun k a=>OAM k a):=fun _ a=>by kernel_rfl
 fn_ok hl_nil Tryz.func145 (fun s s' h=>by cases s;cases s';cases h;rfl) (fun _=>rfl) (fun _ _=>rfl) b e gas
noncomputable def Iq {γ:Type} (F:Yh):Hd ctx γ:=hdl cv2.dec (fun a=>F a) cv3.enc
abbrev MAD:=Option SHasher
noncomputable def NAD (z0:KAD) (z1:Yh)  : Option SHasher:=
 z0.bind fun r0=>
 (z1 r0).bind fun r1=>
 some ⟨r1,⟨#[]⟩,0⟩
noncomputable def Jq:MAD:=NAD O3 Jb
theorem SAW:Tells ctx PP 91 cv0 cv4 (fun _=>Jq):=fn_ok0 (hc QAW (hc LAD hl_nil)) Tryz.func91 ((fun z0 z1 _=>by kernel_rfl:∀ z0 z1,EntryIs0 ctx PP 91 [] [(146,RAW z0),(145,Iq z1)] cv0 cv4 fun _=>NAD z0 z1) O3 Jb)
noncomputable def TAW {γ:Type} (F:MAD):Hd ctx γ:=hdl cv0.dec (fun _=>F) cv4.enc
abbrev Nl:=SHasher→Option Bool
noncomputable def OAD (z0:XY) (h_0:SHasher):Option Bool:=
 bif ((h_0.fState.size:Int) == 32) then
 bif (decide ((h_0.fRest.size:Int)<64)) then
  (z0 h_0.fCount 0 1000000000).bind fun r0=>
  bif r0 then
  some ((h_0.fCount.tmod 64) == (h_0.fRest.size:Int))
  else
  some false
 else
  some false
 else
 some false
noncomputable def Ua:Nl:=OAD SX
theorem PAM:Tells ctx PP 141 cv4 cv6 (fun a=>Ua a):=fn_ok0 (hc Vb hl_nil) Tryz.func141 ((fun z0 a=>by kernel_rfl:∀ z0,EntryIs0 ctx PP 141 [] [(50,GZ z0)] cv4 cv6 fun a=>OAD z0 a) SX)
noncomputable def V3 {γ:Type} (F:Nl):Hd ctx γ:=hdl cv4.dec (fun a=>F a) cv6.enc
abbrev X3:=ByteArray→Int→Option Int
noncomputable def PAD (s_0:ByteArray) (at_1:Int):Option Int:=
 bif ((decide (0≤at_1)) && (decide (at_1<(s_0.size:Int)))) then
 bif ((decide (0≤(w64 (at_1+1)))) && (decide ((w64 (at_1+1))<(s_0.size:Int)))) then
 bif ((decide (0≤(w64 (at_1+2)))) && (decide ((w64 (at_1+2))<(s_0.size:Int)))) then
 bif ((decide (0≤(w64 (at_1+3)))) && (decide ((w64 (at_1+3))<(s_0.size:Int)))) then
 some (w32 ((w32 ((w32 ((w32 ((w32 (bt s_0 at_1))*16777216))+(w32 ((w32 (bt s_0 (w64 (at_1+1))))*65536))))+(w32 ((w32 (bt s_0 (w64 (at_1+2))))*256))))+(w32 (bt s_0 (w64 (at_1+3))))))
 else none
 else none
 else none
 else none
noncomputable def Zh:X3:=PAD
theorem UAW:Tells ctx PP 176 cv7 cv8 (fun a=>Zh a.1 a.2):=fn_ok0 hl_nil Tryz.func176 (fun a=>by kernel_rfl:EntryIs0 ctx PP 176 [] [] cv7 cv8 fun a=>PAD a.1 a.2)
noncomputable def QAM {γ:Type} (F:X3):Hd ctx γ:=hdl cv7.dec (fun a=>F a.1 a.2) cv8.enc
abbrev Ig:=ByteArray→Option (List Int)
inductive Kq where
 | c0 (s_0:ByteArray) (i_4:Int) (out_3:(List Int))
noncomputable def RAM:Kq→LI
 | .c0 s_0 i_4 out_3=>(tdo Tryz.f142 464,[(0,[.one (.str s_0)]),(3,[.one (.own 240)]),(4,[.one (.int .i64 i_4)])],[(240,.sl 138 out_3)])
noncomputable def SAM (z0:X3) (k:Kq→Option (List Int)) (s_0:ByteArray):Option (List Int):=
 k (.c0 s_0 0 [])
noncomputable def Y3 (z0:X3) (k:Kq→Option (List Int)):Kq→Option (List Int)
 | .c0 s_0 i_4 out_3=>
 bif (decide ((w64 (i_4+4))≤(s_0.size:Int))) then
  (z0 s_0 i_4).bind fun r0=>
  bif (decide (((out_3.length+1)*4)≤140737488355328)) then
  k (.c0 s_0 (w64 (i_4+4)) (out_3++[r0]))
  else none
 else
  some out_3
noncomputable def Nq:Nat→Kq→Option (List Int)
 | 0,_=>none
 | m+1,s=>Y3 Zh (Nq m) s
noncomputable def UZ:Ig:=SAM Zh (Nq gas)
theorem QAD:Tells ctx PP 142 cv3 cv1 (fun a=>UZ a):=
 have b:∀ z0,CutIs ctx PP 142 Tryz.f142 [] [(176,QAM z0)] cv1 RAM (Y3 z0):=fun z0 _ s=>by cases s <;> kernel_rfl
 have e:∀ z0,EntryIs ctx PP 142 [] [(176,QAM z0)] cv3 cv1 RAM (fun k a=>SAM z0 k a):=fun z0 _ a=>by kernel_rfl
 fn_ok (hc UAW hl_nil) Tryz.func142 (fun s s' h=>by cases s;cases s';cases h;rfl) (fun _=>rfl) (fun _ _=>rfl) (b Zh) (e Zh) gas
noncomputable def Ol {γ:Type} (F:Ig):Hd ctx γ:=hdl cv3.dec (fun a=>F a) cv1.enc
abbrev Ql:=Option (List Int)
noncomputable def TAM  : Option (List Int):=
 some [1116352408,1899447441,3049323471,3921009573,961987163,1508970993,2453635748,2870763221,3624381080,310598401,607225278,1426881987,1925078388,2162078206,2614888103,3248222580,3835390401,4022224774,264347078,604807628,770255983,1249150122,1555081692,1996064986,2554220882,2821834349,2952996808,3210313671,3336571891,3584528711,113926993,338241895,666307205,773529912,1294757372,1396182291,1695183700,1986661051,2177026350,2456956037,2730485921,2820302411,3259730800,3345764771,3516065817,3600352804,4094571909,275423344,430227734,506948616,659060556,883997877,958139571,1322822218,1537002063,1747873779,1955562222,2024104815,2227730452,2361852424,2428436474,2756734187,3204031479,3329325298]
noncomputable def Md:Ql:=TAM
theorem UAM:Tells ctx PP 143 cv0 cv1 (fun _=>Md):=fn_ok0 hl_nil Tryz.func143 (fun _=>by kernel_rfl:EntryIs0 ctx PP 143 [] [] cv0 cv1 fun _=>TAM)
noncomputable def I4 {γ:Type} (F:Ql):Hd ctx γ:=hdl cv0.dec (fun _=>F) cv1.enc
abbrev RAD:=Int→Int→Int→Option Int
noncomputable def SAD (x_0:Int) (low_1:Int) (high_2:Int):Option Int:=
 bif (!(low_1 == 0)) then
 bif (!(low_1 == 0)) then
 some (w32 ((w32 (x_0.tdiv low_1))+(w32 ((x_0.tmod low_1)*high_2))))
 else none
 else none
noncomputable def Oq:RAD:=SAD
theorem VAW:Tells ctx PP 204 cv9 cv8 (fun a=>Oq a.1 a.2.1 a.2.2):=fn_ok0 hl_nil Tryz.func204 (fun a=>by kernel_rfl:EntryIs0 ctx PP 204 [] [] cv9 cv8 fun a=>SAD a.1 a.2.1 a.2.2)
noncomputable def WAW {γ:Type} (F:RAD):Hd ctx γ:=hdl cv9.dec (fun a=>F a.1 a.2.1 a.2.2) cv8.enc
abbrev J4:=Int→Int→Int→Int→Bool→Option Int
noncomputable def Rl (z0:RAD) (x_0:Int) (a_1:Int) (b_2:Int) (c_3:Int) (last_4:Bool):Option Int:=
 bif (!(a_1 == 0)) then
 (z0 x_0 a_1 (w32 ((w32 ((2147483648:Int).tdiv a_1))*2))).bind fun r0=>
 bif (!(b_2 == 0)) then
 (z0 x_0 b_2 (w32 ((w32 ((2147483648:Int).tdiv b_2))*2))).bind fun r1=>
 bif (!(c_3 == 0)) then
 bif (!last_4) then
 bif (!(c_3 == 0)) then
 (z0 x_0 c_3 (w32 ((w32 ((2147483648:Int).tdiv c_3))*2))).bind fun r2=>
 some (w32 (((BitVec.toNat ((BitVec.ofInt (IntKind.bits IntKind.u32) (w32 (((BitVec.toNat ((BitVec.ofInt (IntKind.bits IntKind.u32) r0) ^^^ (BitVec.ofInt (IntKind.bits IntKind.u32) r1))):Nat):Int))) ^^^ (BitVec.ofInt (IntKind.bits IntKind.u32) r2))):Nat):Int))
 else none
 else
 some (w32 (((BitVec.toNat ((BitVec.ofInt (IntKind.bits IntKind.u32) (w32 (((BitVec.toNat ((BitVec.ofInt (IntKind.bits IntKind.u32) r0) ^^^ (BitVec.ofInt (IntKind.bits IntKind.u32) r1))):Nat):Int))) ^^^ (BitVec.ofInt (IntKind.bits IntKind.u32) (w32 (x_0.tdiv c_3))))):Nat):Int))
 else none
 else none
 else none
noncomputable def Va:J4:=Rl Oq
theorem XAW:Tells ctx PP 177 cv10 cv8 (fun a=>Va a.1 a.2.1 a.2.2.1 a.2.2.2.1 a.2.2.2.2):=fn_ok0 (hc VAW hl_nil) Tryz.func177 ((fun z0 a=>by kernel_rfl:∀ z0,EntryIs0 ctx PP 177 [] [(204,WAW z0)] cv10 cv8 fun a=>Rl z0 a.1 a.2.1 a.2.2.1 a.2.2.2.1 a.2.2.2.2) Oq)
noncomputable def VAM {γ:Type} (F:J4):Hd ctx γ:=hdl cv10.dec (fun a=>F a.1 a.2.1 a.2.2.1 a.2.2.2.1 a.2.2.2.2) cv8.enc
abbrev Sl:=(List Int)→(List Int)→ByteArray→Option (List Int)
inductive Pq where
 | c0 (t_0:(List Int)) (o_1:(List Int)) (v_8:Int) (v_7:(List Int))
 | c1 (t_0:(List Int)) (o_1:(List Int)) (v_10:Int) (v_7:(List Int)) (v_9:(List Int))
 | c2 (t_0:(List Int)) (o_1:(List Int)) (v_10:Int) (v_13:Int) (v_15:Int) (v_16:Int) (v_7:(List Int)) (v_9:(List Int))
 | c3 (t_0:(List Int)) (v_18:Int) (v_9:(List Int)) (v_17:(List Int))
noncomputable def WAM:Pq→LI
 | .c0 t_0 o_1 v_8 v_7=>(tdo Tryz.f144 464,[(0,[.one (.rsl 138 t_0)]),(1,[.one (.rsl 138 o_1)]),(7,[.one (.own 496)]),(8,[.one (.int .i64 v_8)])],[(496,.sl 138 v_7)])
 | .c1 t_0 o_1 v_10 v_7 v_9=>(tdo Tryz.f144 2000,[(0,[.one (.rsl 138 t_0)]),(1,[.one (.rsl 138 o_1)]),(7,[.one (.own 496)]),(9,[.one (.own 624)]),(10,[.one (.int .i64 v_10)])],[(496,.sl 138 v_7),(624,.sl 138 v_9)])
 | .c2 t_0 o_1 v_10 v_13 v_15 v_16 v_7 v_9=>(tdo Tryz.f144 8202192,[(0,[.one (.rsl 138 t_0)]),(1,[.one (.rsl 138 o_1)]),(7,[.one (.own 496)]),(9,[.one (.own 624)]),(10,[.one (.int .i64 v_10)]),(13,[.one (.int .u32 v_13)]),(15,[.one (.int .u32 v_15)]),(16,[.one (.int .i64 v_16)])],[(496,.sl 138 v_7),(624,.sl 138 v_9)])
 | .c3 t_0 v_18 v_9 v_17=>(tdo Tryz.f144 8144,[(0,[.one (.rsl 138 t_0)]),(9,[.one (.own 624)]),(17,[.one (.own 1136)]),(18,[.one (.int .i64 v_18)])],[(624,.sl 138 v_9),(1136,.sl 138 v_17)])
noncomputable def TAD (z0:Ig) (z1:J4) (k:Pq→Option (List Int)) (t_0:(List Int)) (o_1:(List Int)) (A_2:ByteArray):Option (List Int):=
 (z0 A_2).bind fun r0=>
 k (.c0 t_0 o_1 16 r0)
noncomputable def Qd (z0:Ig) (z1:J4) (k:Pq→Option (List Int)):Pq→Option (List Int)
 | .c0 t_0 o_1 v_8 v_7=>
 bif (decide (v_8<64)) then
  bif ((decide (0≤(w64 (v_8 - 2)))) && (decide ((w64 (v_8 - 2))<(v_7.length:Int)))) then
  (z1 (v_7.getD (w64 (v_8 - 2)).toNat 0) 131072 524288 1024 true).bind fun r0=>
  bif ((decide (0≤(w64 (v_8 - 7)))) && (decide ((w64 (v_8 - 7))<(v_7.length:Int)))) then
  bif ((decide (0≤(w64 (v_8 - 15)))) && (decide ((w64 (v_8 - 15))<(v_7.length:Int)))) then
  (z1 (v_7.getD (w64 (v_8 - 15)).toNat 0) 128 262144 8 true).bind fun r1=>
  bif ((decide (0≤(w64 (v_8 - 16)))) && (decide ((w64 (v_8 - 16))<(v_7.length:Int)))) then
  bif (decide (((v_7.length+1)*4)≤140737488355328)) then
  k (.c0 t_0 o_1 (w64 (v_8+1)) (v_7++[(w32 ((w32 ((w32 (r0+(v_7.getD (w64 (v_8 - 7)).toNat 0)))+r1))+(v_7.getD (w64 (v_8 - 16)).toNat 0)))]))
  else none
  else none
  else none
  else none
  else none
 else
  bif (decide (((0+t_0.length)*4)≤140737488355328)) then
  k (.c1 t_0 o_1 0 v_7 ([]++t_0))
  else none
 | .c1 t_0 o_1 v_10 v_7 v_9=>
 bif (decide (v_10<64)) then
  bif ((decide ((0:Int)≤(4:Int))) && (decide (4<(v_9.length:Int)))) then
  bif ((decide ((0:Int)≤(5:Int))) && (decide (5<(v_9.length:Int)))) then
  bif ((decide ((0:Int)≤(6:Int))) && (decide (6<(v_9.length:Int)))) then
  bif ((decide ((0:Int)≤(7:Int))) && (decide (7<(v_9.length:Int)))) then
  (z1 (v_9.getD (4:Int).toNat 0) 64 2048 33554432 false).bind fun r0=>
  bif ((decide (0≤v_10)) && (decide (v_10<(o_1.length:Int)))) then
  bif ((decide (0≤v_10)) && (decide (v_10<(v_7.length:Int)))) then
  bif ((decide ((0:Int)≤(0:Int))) && (decide (0<(v_9.length:Int)))) then
  bif ((decide ((0:Int)≤(1:Int))) && (decide (1<(v_9.length:Int)))) then
  bif ((decide ((0:Int)≤(0:Int))) && (decide (0<(v_9.length:Int)))) then
  bif ((decide ((0:Int)≤(2:Int))) && (decide (2<(v_9.length:Int)))) then
  bif ((decide ((0:Int)≤(1:Int))) && (decide (1<(v_9.length:Int)))) then
  bif ((decide ((0:Int)≤(2:Int))) && (decide (2<(v_9.length:Int)))) then
  bif ((decide ((0:Int)≤(0:Int))) && (decide (0<(v_9.length:Int)))) then
  (z1 (v_9.getD (0:Int).toNat 0) 4 8192 4194304 false).bind fun r1=>
  k (.c2 t_0 o_1 v_10 (w32 ((w32 ((w32 ((w32 ((v_9.getD (7:Int).toNat 0)+r0))+(w32 (((BitVec.toNat ((BitVec.ofInt (IntKind.bits IntKind.u32) (w32 (((BitVec.toNat ((BitVec.ofInt (IntKind.bits IntKind.u32) (v_9.getD (4:Int).toNat 0)) &&& (BitVec.ofInt (IntKind.bits IntKind.u32) (v_9.getD (5:Int).toNat 0)))):Nat):Int))) ^^^ (BitVec.ofInt (IntKind.bits IntKind.u32) (w32 (((BitVec.toNat ((BitVec.ofInt (IntKind.bits IntKind.u32) (w32 (4294967295 - (v_9.getD (4:Int).toNat 0)))) &&& (BitVec.ofInt (IntKind.bits IntKind.u32) (v_9.getD (6:Int).toNat 0)))):Nat):Int))))):Nat):Int))))+(o_1.getD v_10.toNat 0)))+(v_7.getD v_10.toNat 0))) (w32 (r1+(w32 (((BitVec.toNat ((BitVec.ofInt (IntKind.bits IntKind.u32) (w32 (((BitVec.toNat ((BitVec.ofInt (IntKind.bits IntKind.u32) (w32 (((BitVec.toNat ((BitVec.ofInt (IntKind.bits IntKind.u32) (v_9.getD (0:Int).toNat 0)) &&& (BitVec.ofInt (IntKind.bits IntKind.u32) (v_9.getD (1:Int).toNat 0)))):Nat):Int))) ^^^ (BitVec.ofInt (IntKind.bits IntKind.u32) (w32 (((BitVec.toNat ((BitVec.ofInt (IntKind.bits IntKind.u32) (v_9.getD (0:Int).toNat 0)) &&& (BitVec.ofInt (IntKind.bits IntKind.u32) (v_9.getD (2:Int).toNat 0)))):Nat):Int))))):Nat):Int))) ^^^ (BitVec.ofInt (IntKind.bits IntKind.u32) (w32 (((BitVec.toNat ((BitVec.ofInt (IntKind.bits IntKind.u32) (v_9.getD (1:Int).toNat 0)) &&& (BitVec.ofInt (IntKind.bits IntKind.u32) (v_9.getD (2:Int).toNat 0)))):Nat):Int))))):Nat):Int)))) 7 v_7 v_9)
  else none
  else none
  else none
  else none
  else none
  else none
  else none
  else none
  else none
  else none
  else none
  else none
  else none
 else
  k (.c3 t_0 0 v_9 [])
 | .c2 t_0 o_1 v_10 v_13 v_15 v_16 v_7 v_9=>
 bif (decide (v_16 > 0)) then
  bif ((decide (0≤(w64 (v_16 - 1)))) && (decide ((w64 (v_16 - 1))<(v_9.length:Int)))) then
  bif ((decide (0≤v_16)) && (decide (v_16<(v_9.length:Int)))) then
  k (.c2 t_0 o_1 v_10 v_13 v_15 (w64 (v_16 - 1)) v_7 (v_9.set v_16.toNat (v_9.getD (w64 (v_16 - 1)).toNat 0)))
  else none
  else none
 else
  bif ((decide ((0:Int)≤(4:Int))) && (decide (4<(v_9.length:Int)))) then
  bif ((decide ((0:Int)≤(4:Int))) && (decide (4<(v_9.length:Int)))) then
  bif ((decide ((0:Int)≤(0:Int))) && (decide (0<((v_9.set (4:Int).toNat (w32 ((v_9.getD (4:Int).toNat 0)+v_13))).length:Int)))) then
  k (.c1 t_0 o_1 (w64 (v_10+1)) v_7 ((v_9.set (4:Int).toNat (w32 ((v_9.getD (4:Int).toNat 0)+v_13))).set (0:Int).toNat (w32 (v_13+v_15))))
  else none
  else none
  else none
 | .c3 t_0 v_18 v_9 v_17=>
 bif (decide (v_18<8)) then
  bif ((decide (0≤v_18)) && (decide (v_18<(t_0.length:Int)))) then
  bif ((decide (0≤v_18)) && (decide (v_18<(v_9.length:Int)))) then
  bif (decide (((v_17.length+1)*4)≤140737488355328)) then
  k (.c3 t_0 (w64 (v_18+1)) v_9 (v_17++[(w32 ((t_0.getD v_18.toNat 0)+(v_9.getD v_18.toNat 0)))]))
  else none
  else none
  else none
 else
  some v_17
noncomputable def IZ:Nat→Pq→Option (List Int)
 | 0,_=>none
 | m+1,s=>Qd UZ Va (IZ m) s
noncomputable def Xb:Sl:=TAD UZ Va (IZ gas)
theorem XAM:Tells ctx PP 144 cv11 cv1 (fun a=>Xb a.1 a.2.1 a.2.2):=
 have b:∀ z0 z1,CutIs ctx PP 144 Tryz.f144 [] [(142,Ol z0),(177,VAM z1)] cv1 WAM (Qd z0 z1):=fun z0 z1 _ s=>by cases s <;> kernel_rfl
 have e:∀ z0 z1,EntryIs ctx PP 144 [] [(142,Ol z0),(177,VAM z1)] cv11 cv1 WAM (fun k a=>TAD z0 z1 k a.1 a.2.1 a.2.2):=fun z0 z1 _ a=>by kernel_rfl
 fn_ok (hc QAD (hc XAW hl_nil)) Tryz.func144 (fun s s' h=>by cases s <;> cases s' <;> first | (cases h;done) | (cases h;rfl) | exact (rg_ne h (by kernel_rfl)).elim) (fun _=>rfl) (fun _ _=>rfl) (b UZ Va) (e UZ Va) gas
noncomputable def O4 {γ:Type} (F:Sl):Hd ctx γ:=hdl cv11.dec (fun a=>F a.1 a.2.1 a.2.2) cv1.enc
abbrev UAD:=SHasher→ByteArray→Option SHasher
inductive Qq where
 | c0 (s_1:ByteArray) (buf_7:ByteArray) (at_8:Int) (h_2:SHasher) (v_4:SHasher) (state_5:(List Int)) (k_6:(List Int))
noncomputable def YAM:Qq→LI
 | .c0 s_1 buf_7 at_8 h_2 v_4 state_5 k_6=>(tdo Tryz.f90 4064,[(1,[.one (.str s_1)]),(2,[.one (.ptr 128 0)]),(4,[.one (.ptr 256 0)]),(5,[.one (.own 368)]),(6,[.one (.own 432)]),(7,[.one (.str buf_7)]),(8,[.one (.int .i64 at_8)])],[(128,.var [.str h_2.fState,.str h_2.fRest,.int .i64 h_2.fCount]),(256,.var [.str v_4.fState,.str v_4.fRest,.int .i64 v_4.fCount]),(368,.sl 138 state_5),(432,.sl 138 k_6)])
noncomputable def VAD (z0:Nl) (z1:Ig) (z2:Ql) (z3:Sl) (z4:Yh) (k:Qq→Option SHasher) (h_0:SHasher) (s_1:ByteArray):Option SHasher:=
 (z0 h_0).bind fun r0=>
 bif (!r0) then
 some h_0
 else
 bif (decide ((w64 (h_0.fCount+(s_1.size:Int))) > 1000000000)) then
  some h_0
 else
  (z1 h_0.fState).bind fun r1=>
  z2.bind fun r2=>
  bif (decide ((h_0.fRest.size+s_1.size)≤9223372036854775807)) then
  k (.c0 s_1 (h_0.fRest++s_1) 0 h_0 ⟨⟨#[]⟩,⟨#[]⟩,0⟩ r1 r2)
  else none
noncomputable def U4 (z0:Nl) (z1:Ig) (z2:Ql) (z3:Sl) (z4:Yh) (k:Qq→Option SHasher):Qq→Option SHasher
 | .c0 s_1 buf_7 at_8 h_2 v_4 state_5 k_6=>
 bif (decide ((w64 (at_8+64))≤(buf_7.size:Int))) then
  bif (((decide (0≤at_8)) && (decide (at_8≤(w64 (at_8+64))))) && (decide ((w64 (at_8+64))≤(buf_7.size:Int)))) then
  (z3 state_5 k_6 (buf_7.extract at_8.toNat (w64 (at_8+64)).toNat)).bind fun r0=>
  k (.c0 s_1 buf_7 (w64 (at_8+64)) h_2 v_4 r0 k_6)
  else none
 else
  (z4 state_5).bind fun r1=>
  bif ((decide (0≤at_8)) && (decide (at_8≤(buf_7.size:Int)))) then
  some ⟨r1,(buf_7.extract at_8.toNat buf_7.size),(w64 (h_2.fCount+(s_1.size:Int)))⟩
  else none
noncomputable def Rq:Nat→Qq→Option SHasher
 | 0,_=>none
 | m+1,s=>U4 Ua UZ Md Xb Jb (Rq m) s
noncomputable def Tq:UAD:=VAD Ua UZ Md Xb Jb (Rq gas)
theorem YAW:Tells ctx PP 90 cv12 cv4 (fun a=>Tq a.1 a.2):=
 have b:∀ z0 z1 z2 z3 z4,CutIs ctx PP 90 Tryz.f90 [] [(141,V3 z0),(142,Ol z1),(143,I4 z2),(144,O4 z3),(145,Iq z4)] cv4 YAM (U4 z0 z1 z2 z3 z4):=fun z0 z1 z2 z3 z4 _ s=>by cases s <;> kernel_rfl
 have e:∀ z0 z1 z2 z3 z4,EntryIs ctx PP 90 [] [(141,V3 z0),(142,Ol z1),(143,I4 z2),(144,O4 z3),(145,Iq z4)] cv12 cv4 YAM (fun k a=>VAD z0 z1 z2 z3 z4 k a.1 a.2):=fun z0 z1 z2 z3 z4 _ a=>by kernel_rfl
 fn_ok (hc PAM (hc QAD (hc UAM (hc XAM (hc LAD hl_nil))))) Tryz.func90 (fun s s' h=>by cases s;cases s';(repeat cases ‹SHasher›);cases h;rfl) (fun _=>rfl) (fun _ _=>rfl) (b Ua UZ Md Xb Jb) (e Ua UZ Md Xb Jb) gas
noncomputable def ZAW {γ:Type} (F:UAD):Hd ctx γ:=hdl cv12.dec (fun a=>F a.1 a.2) cv4.enc
abbrev WAD:=SHasher→Option ByteArray
inductive Vq where
 | c0 (h_1:SHasher) (tail_3:(List Int))
 | c1 (bits_4:Int) (i_5:Int) (h_1:SHasher) (tail_3:(List Int))
 | c2 (bits_4:Int) (i_5:Int) (x_6:Int) (k_7:Int) (h_1:SHasher) (tail_3:(List Int))
 | c3 (at_10:Int) (tail_3:(List Int)) (state_8:(List Int)) (k_9:(List Int))
noncomputable def ZAM:Vq→LI
 | .c0 h_1 tail_3=>(tdo Tryz.f89 992,[(1,[.one (.ptr 64 0)]),(3,[.one (.own 240)])],[(64,.var [.str h_1.fState,.str h_1.fRest,.int .i64 h_1.fCount]),(240,.sl 5 tail_3)])
 | .c1 bits_4 i_5 h_1 tail_3=>(tdo Tryz.f89 8144,[(1,[.one (.ptr 64 0)]),(3,[.one (.own 240)]),(4,[.one (.int .i64 bits_4)]),(5,[.one (.int .i64 i_5)])],[(64,.var [.str h_1.fState,.str h_1.fRest,.int .i64 h_1.fCount]),(240,.sl 5 tail_3)])
 | .c2 bits_4 i_5 x_6 k_7 h_1 tail_3=>(tdo Tryz.f89 2085456,[(1,[.one (.ptr 64 0)]),(3,[.one (.own 240)]),(4,[.one (.int .i64 bits_4)]),(5,[.one (.int .i64 i_5)]),(6,[.one (.int .i64 x_6)]),(7,[.one (.int .i64 k_7)])],[(64,.var [.str h_1.fState,.str h_1.fRest,.int .i64 h_1.fCount]),(240,.sl 5 tail_3)])
 | .c3 at_10 tail_3 state_8 k_9=>(tdo Tryz.f89 65488,[(3,[.one (.own 240)]),(8,[.one (.own 560)]),(9,[.one (.own 624)]),(10,[.one (.int .i64 at_10)])],[(240,.sl 5 tail_3),(560,.sl 138 state_8),(624,.sl 138 k_9)])
noncomputable def XAD (z0:Nl) (z1:Ig) (z2:Ql) (z3:Sl) (z4:Yh) (k:Vq→Option ByteArray) (h_0:SHasher):Option ByteArray:=
 (z0 h_0).bind fun r0=>
 bif (!r0) then
 some ⟨#[]⟩
 else
 bif (decide (h_0.fRest.size≤9223372036854775807)) then
 bif (decide ((((bytesOf h_0.fRest).length+1)*1)≤140737488355328)) then
 k (.c0 h_0 ((bytesOf h_0.fRest)++[(128:Int)]))
 else none
 else none
noncomputable def Td (z0:Nl) (z1:Ig) (z2:Ql) (z3:Sl) (z4:Yh) (k:Vq→Option ByteArray):Vq→Option ByteArray
 | .c0 h_1 tail_3=>
 bif (((tail_3.length:Int).tmod 64) != 56) then
  bif (decide (((tail_3.length+1)*1)≤140737488355328)) then
  k (.c0 h_1 (tail_3++[(0:Int)]))
  else none
 else
  k (.c1 (w64 (8*h_1.fCount)) 7 h_1 tail_3)
 | .c1 bits_4 i_5 h_1 tail_3=>
 bif (decide (i_5≥0)) then
  k (.c2 bits_4 i_5 bits_4 0 h_1 tail_3)
 else
  (z1 h_1.fState).bind fun r0=>
  z2.bind fun r1=>
  k (.c3 0 tail_3 r0 r1)
 | .c2 bits_4 i_5 x_6 k_7 h_1 tail_3=>
 bif (decide (k_7<i_5)) then
  k (.c2 bits_4 i_5 (w64 (x_6.tdiv 256)) (w64 (k_7+1)) h_1 tail_3)
 else
  bif (decide (((tail_3.length+1)*1)≤140737488355328)) then
  k (.c1 bits_4 (w64 (i_5 - 1)) h_1 (tail_3++[(w8 (x_6.tmod 256))]))
  else none
 | .c3 at_10 tail_3 state_8 k_9=>
 bif (decide (at_10<(tail_3.length:Int))) then
  bif (((decide (0≤at_10)) && (decide (at_10≤(w64 (at_10+64))))) && (decide ((w64 (at_10+64))≤(tail_3.length:Int)))) then
  (z3 state_8 k_9 (ofBytes ((tail_3.drop at_10.toNat).take ((w64 (at_10+64)).toNat - at_10.toNat)))).bind fun r0=>
  k (.c3 (w64 (at_10+64)) tail_3 r0 k_9)
  else none
 else
  (z4 state_8).bind fun r1=>
  some r1
noncomputable def JZ:Nat→Vq→Option ByteArray
 | 0,_=>none
 | m+1,s=>Td Ua UZ Md Xb Jb (JZ m) s
noncomputable def Wq:WAD:=XAD Ua UZ Md Xb Jb (JZ gas)
theorem AAX:Tells ctx PP 89 cv4 cv3 (fun a=>Wq a):=
 have b:∀ z0 z1 z2 z3 z4,CutIs ctx PP 89 Tryz.f89 [] [(141,V3 z0),(142,Ol z1),(143,I4 z2),(144,O4 z3),(145,Iq z4)] cv3 ZAM (Td z0 z1 z2 z3 z4):=fun z0 z1 z2 z3 z4 _ s=>by cases s <;> kernel_rfl
 have e:∀ z0 z1 z2 z3 z4,EntryIs ctx PP 89 [] [(141,V3 z0),(142,Ol z1),(143,I4 z2),(144,O4 z3),(145,Iq z4)] cv4 cv3 ZAM (fun k a=>XAD z0 z1 z2 z3 z4 k a):=fun z0 z1 z2 z3 z4 _ a=>by kernel_rfl
 fn_ok (hc PAM (hc QAD (hc UAM (hc XAM (hc LAD hl_nil))))) Tryz.func89 (fun s s' h=>by cases s <;> cases s' <;> first | ((repeat cases ‹SHasher›);cases h;done) | ((repeat cases ‹SHasher›);cases h;rfl) | exact (rg_ne h (by kernel_rfl)).elim) (fun _=>rfl) (fun _ _=>rfl) (b Ua UZ Md Xb Jb) (e Ua UZ Md Xb Jb) gas
noncomputable def BAX {γ:Type} (F:WAD):Hd ctx γ:=hdl cv4.dec (fun a=>F a) cv3.enc
abbrev Jg:=ByteArray→Option ByteArray
noncomputable def YAD (z0:MAD) (z1:UAD) (z2:WAD) (s_0:ByteArray):Option ByteArray:=
 z0.bind fun r0=>
 (z1 r0 s_0).bind fun r1=>
 (z2 r1).bind fun r2=>
 some r2
noncomputable def VZ:Jg:=YAD Jq Tq Wq
theorem V4:Tells ctx PP 26 cv3 cv3 (fun a=>VZ a):=fn_ok0 (hc SAW (hc YAW (hc AAX hl_nil))) Tryz.func26 ((fun z0 z1 z2 a=>by kernel_rfl:∀ z0 z1 z2,EntryIs0 ctx PP 26 [] [(91,TAW z0),(90,ZAW z1),(89,BAX z2)] cv3 cv3 fun a=>YAD z0 z1 z2 a) Jq Tq Wq)
noncomputable def Ul {γ:Type} (F:Jg):Hd ctx γ:=hdl cv3.dec (fun a=>F a) cv3.enc
abbrev ZAD:=Int→Int→Option ByteArray
inductive Xq where
 | c0 (n_0:Int) (x_1:Int) (i_6:Int) (out_5:(List Int))
noncomputable def AAN:Xq→LI
 | .c0 n_0 x_1 i_6 out_5=>(tdo Tryz.f97 464,[(0,[.one (.int .i64 n_0)]),(1,[.one (.int .u8 x_1)]),(5,[.one (.own 368)]),(6,[.one (.int .i64 i_6)])],[(368,.sl 5 out_5)])
noncomputable def AAE (k:Xq→Option ByteArray) (n_0:Int) (x_1:Int):Option ByteArray:=
 bif ((((decide (0≤n_0)) && (decide (n_0≤n_0))) && (decide (n_0≤9223372036854775807))) && (decide ((n_0.toNat*1)≤140737488355328))) then
 k (.c0 n_0 x_1 0 (List.replicate n_0.toNat (0:Int)))
 else none
noncomputable def X4 (k:Xq→Option ByteArray):Xq→Option ByteArray
 | .c0 n_0 x_1 i_6 out_5=>
 bif (decide (i_6<n_0)) then
  bif ((decide (0≤i_6)) && (decide (i_6<(out_5.length:Int)))) then
  k (.c0 n_0 x_1 (w64 (i_6+1)) (out_5.set i_6.toNat x_1))
  else none
 else
  some (ofBytes out_5)
noncomputable def Yq:Nat→Xq→Option ByteArray
 | 0,_=>none
 | m+1,s=>X4 (Yq m) s
noncomputable def Zq:ZAD:=AAE (Yq gas)
theorem CAX:Tells ctx PP 97 cv13 cv3 (fun a=>Zq a.1 a.2):=
 have b:CutIs ctx PP 97 Tryz.f97 [] [] cv3 AAN (X4):=fun _ s=>by cases s <;> kernel_rfl
 have e:EntryIs ctx PP 97 [] [] cv13 cv3 AAN (fun k a=>AAE k a.1 a.2):=fun _ a=>by kernel_rfl
 fn_ok hl_nil Tryz.func97 (fun s s' h=>by cases s;cases s';cases h;rfl) (fun _=>rfl) (fun _ _=>rfl) b e gas
noncomputable def DAX {γ:Type} (F:ZAD):Hd ctx γ:=hdl cv13.dec (fun a=>F a.1 a.2) cv3.enc
abbrev Ar:=Option SBook
noncomputable def BAE (z0:Jg) (z1:ZAD)  : Option SBook:=
 (z0 ⟨#[]⟩).bind fun r0=>
 (z1 32 0).bind fun r1=>
 some ⟨r0,0,[],0,r1,0⟩
noncomputable def Ue:Ar:=BAE VZ Zq
theorem BAN:Tells ctx PP 28 cv0 cv14 (fun _=>Ue):=fn_ok0 (hc V4 (hc CAX hl_nil)) Tryz.func28 ((fun z0 z1 _=>by kernel_rfl:∀ z0 z1,EntryIs0 ctx PP 28 [] [(26,Ul z0),(97,DAX z1)] cv0 cv14 fun _=>BAE z0 z1) VZ Zq)
noncomputable def CAE {γ:Type} (F:Ar):Hd ctx γ:=hdl cv0.dec (fun _=>F) cv14.enc
abbrev Y4:=SBook→SBook→Option Bool
inductive Hr where
 | c0 (i_5:Int) (a_2:SBook) (b_3:SBook)
noncomputable def DAN:Hr→LI
 | .c0 i_5 a_2 b_3=>(tdo Tryz.f51 464,[(2,[.one (.ptr 128 0)]),(3,[.one (.ptr 192 0)]),(5,[.one (.int .i64 i_5)])],[(128,.var [.str a_2.fWord,.int .i64 a_2.fTries,.rsl 69 a_2.fThings,.int .i64 a_2.fLast,.str a_2.fChain,.int .i64 a_2.fCount]),(192,.var [.str b_3.fWord,.int .i64 b_3.fTries,.rsl 69 b_3.fThings,.int .i64 b_3.fLast,.str b_3.fChain,.int .i64 b_3.fCount])])
noncomputable def DAE (k:Hr→Option Bool) (a_0:SBook) (b_1:SBook):Option Bool:=
 bif (!((ByteArray.toList a_0.fWord) == (ByteArray.toList b_1.fWord))) then
 some false
 else
 bif (a_0.fTries != b_1.fTries) then
  some false
 else
  bif (a_0.fLast != b_1.fLast) then
  some false
  else
  bif (!((ByteArray.toList a_0.fChain) == (ByteArray.toList b_1.fChain))) then
   some false
  else
   bif (a_0.fCount != b_1.fCount) then
   some false
   else
   bif ((a_0.fThings.length:Int) != (b_1.fThings.length:Int)) then
    some false
   else
    k (.c0 0 a_0 b_1)
noncomputable def Z4 (k:Hr→Option Bool):Hr→Option Bool
 | .c0 i_5 a_2 b_3=>
 bif (decide (i_5<(a_2.fThings.length:Int))) then
  bif ((decide (0≤i_5)) && (decide (i_5<(a_2.fThings.length:Int)))) then
  bif ((decide (0≤i_5)) && (decide (i_5<(b_3.fThings.length:Int)))) then
  bif (!(((a_2.fThings.getD i_5.toNat (⟨0,0,false,false,false,false,⟨#[]⟩,0⟩:SThing)).fId == (b_3.fThings.getD i_5.toNat (⟨0,0,false,false,false,false,⟨#[]⟩,0⟩:SThing)).fId) && (((a_2.fThings.getD i_5.toNat (⟨0,0,false,false,false,false,⟨#[]⟩,0⟩:SThing)).fKind == (b_3.fThings.getD i_5.toNat (⟨0,0,false,false,false,false,⟨#[]⟩,0⟩:SThing)).fKind) && (((a_2.fThings.getD i_5.toNat (⟨0,0,false,false,false,false,⟨#[]⟩,0⟩:SThing)).fHidden == (b_3.fThings.getD i_5.toNat (⟨0,0,false,false,false,false,⟨#[]⟩,0⟩:SThing)).fHidden) && (((a_2.fThings.getD i_5.toNat (⟨0,0,false,false,false,false,⟨#[]⟩,0⟩:SThing)).fFixed == (b_3.fThings.getD i_5.toNat (⟨0,0,false,false,false,false,⟨#[]⟩,0⟩:SThing)).fFixed) && (((a_2.fThings.getD i_5.toNat (⟨0,0,false,false,false,false,⟨#[]⟩,0⟩:SThing)).fSigns == (b_3.fThings.getD i_5.toNat (⟨0,0,false,false,false,false,⟨#[]⟩,0⟩:SThing)).fSigns) && (((a_2.fThings.getD i_5.toNat (⟨0,0,false,false,false,false,⟨#[]⟩,0⟩:SThing)).fWraps == (b_3.fThings.getD i_5.toNat (⟨0,0,false,false,false,false,⟨#[]⟩,0⟩:SThing)).fWraps) && (((ByteArray.toList (a_2.fThings.getD i_5.toNat (⟨0,0,false,false,false,false,⟨#[]⟩,0⟩:SThing)).fValue) == (ByteArray.toList (b_3.fThings.getD i_5.toNat (⟨0,0,false,false,false,false,⟨#[]⟩,0⟩:SThing)).fValue)) && (((a_2.fThings.getD i_5.toNat (⟨0,0,false,false,false,false,⟨#[]⟩,0⟩:SThing)).fNext == (b_3.fThings.getD i_5.toNat (⟨0,0,false,false,false,false,⟨#[]⟩,0⟩:SThing)).fNext) && true))))))))) then
  some false
  else
  k (.c0 (w64 (i_5+1)) a_2 b_3)
  else none
  else none
 else
  some true
noncomputable def Ir:Nat→Hr→Option Bool
 | 0,_=>none
 | m+1,s=>Z4 (Ir m) s
noncomputable def Ai:Y4:=DAE (Ir gas)
theorem EAX:Tells ctx PP 51 cv58 cv6 (fun a=>Ai a.1 a.2):=
 have b:CutIs ctx PP 51 Tryz.f51 [] [] cv6 DAN (Z4):=fun _ s=>by cases s <;> kernel_rfl
 have e:EntryIs ctx PP 51 [] [] cv58 cv6 DAN (fun k a=>DAE k a.1 a.2):=fun _ a=>by kernel_rfl
 fn_ok hl_nil Tryz.func51 (fun s s' h=>by cases s;cases s';(repeat cases ‹SBook›);cases h;rfl) (fun _=>rfl) (fun _ _=>rfl) b e gas
noncomputable def EAN {γ:Type} (F:Y4):Hd ctx γ:=hdl cv58.dec (fun a=>F a.1 a.2) cv6.enc
abbrev D5:=SDisk→ByteArray→Option Int
inductive Jr where
 | c0 (name_1:ByteArray) (i_5:Int) (d_2:SDisk)
noncomputable def FAN:Jr→LI
 | .c0 name_1 i_5 d_2=>(tdo Tryz.f119 208,[(1,[.one (.str name_1)]),(2,[.one (.ptr 128 0)]),(5,[.one (.int .i64 i_5)])],[(128,.var [.rsl 155 d_2.fFiles])])
noncomputable def EAE (k:Jr→Option Int) (d_0:SDisk) (name_1:ByteArray):Option Int:=
 k (.c0 name_1 0 d_0)
noncomputable def E5 (k:Jr→Option Int):Jr→Option Int
 | .c0 name_1 i_5 d_2=>
 bif (decide (i_5<(d_2.fFiles.length:Int))) then
  bif ((decide (0≤i_5)) && (decide (i_5<(d_2.fFiles.length:Int)))) then
  bif ((ByteArray.toList (d_2.fFiles.getD i_5.toNat (⟨⟨#[]⟩,⟨#[]⟩,0⟩:SFile)).fName) == (ByteArray.toList name_1)) then
  some i_5
  else
  k (.c0 name_1 (w64 (i_5+1)) d_2)
  else none
 else
  some (-(1:Int))
noncomputable def Kr:Nat→Jr→Option Int
 | 0,_=>none
 | m+1,s=>E5 (Kr m) s
noncomputable def Ci:D5:=EAE (Kr gas)
theorem GAN:Tells ctx PP 119 cv36 cv15 (fun a=>Ci a.1 a.2):=
 have b:CutIs ctx PP 119 Tryz.f119 [] [] cv15 FAN (E5):=fun _ s=>by cases s <;> kernel_rfl
 have e:EntryIs ctx PP 119 [] [] cv36 cv15 FAN (fun k a=>EAE k a.1 a.2):=fun _ a=>by kernel_rfl
 fn_ok hl_nil Tryz.func119 (fun s s' h=>by cases s;cases s';(repeat cases ‹SDisk›);cases h;rfl) (fun _=>rfl) (fun _ _=>rfl) b e gas
noncomputable def HAN {γ:Type} (F:D5):Hd ctx γ:=hdl cv36.dec (fun a=>F a.1 a.2) cv15.enc
abbrev FAE:=SDisk→ByteArray→Option (ByteArray×Bool)
noncomputable def GAE (z0:D5) (d_0:SDisk) (name_1:ByteArray):Option (ByteArray×Bool):=
 (z0 d_0 name_1).bind fun r0=>
 bif (decide (r0<0)) then
 some (⟨#[]⟩,false)
 else
 bif ((decide (0≤r0)) && (decide (r0<(d_0.fFiles.length:Int)))) then
 some ((d_0.fFiles.getD r0.toNat (⟨⟨#[]⟩,⟨#[]⟩,0⟩:SFile)).fText,true)
 else none
noncomputable def Lr:FAE:=GAE Ci
theorem FAX:Tells ctx PP 117 cv36 cv18 (fun a=>Lr a.1 a.2):=fn_ok0 (hc GAN hl_nil) Tryz.func117 ((fun z0 a=>by kernel_rfl:∀ z0,EntryIs0 ctx PP 117 [] [(119,HAN z0)] cv36 cv18 fun a=>GAE z0 a.1 a.2) Ci)
noncomputable def GAX {γ:Type} (F:FAE):Hd ctx γ:=hdl cv36.dec (fun a=>F a.1 a.2) cv18.enc
abbrev Yb:=Int→Option ByteArray
inductive Nr where
 | c0 (n_0:Int) (out_3:(List Int))
noncomputable def IAN:Nr→LI
 | .c0 n_0 out_3=>(tdo Tryz.f147 224,[(0,[.one (.int .i64 n_0)]),(3,[.one (.own 240)])],[(240,.sl 5 out_3)])
noncomputable def JAN (k:Nr→Option ByteArray) (n_0:Int):Option ByteArray:=
 k (.c0 n_0 [])
noncomputable def F5 (k:Nr→Option ByteArray):Nr→Option ByteArray
 | .c0 n_0 out_3=>
 bif (decide (n_0 > 127)) then
  bif (decide (((out_3.length+1)*1)≤140737488355328)) then
  k (.c0 (w64 (n_0.tdiv 128)) (out_3++[(w8 (w64 ((n_0.tmod 128)+128)))]))
  else none
 else
  bif (decide (((out_3.length+1)*1)≤140737488355328)) then
  some (ofBytes (out_3++[(w8 n_0)]))
  else none
noncomputable def Qr:Nat→Nr→Option ByteArray
 | 0,_=>none
 | m+1,s=>F5 (Qr m) s
noncomputable def SY:Yb:=JAN (Qr gas)
theorem Di:Tells ctx PP 147 cv15 cv3 (fun a=>SY a):=
 have b:CutIs ctx PP 147 Tryz.f147 [] [] cv3 IAN (F5):=fun _ s=>by cases s <;> kernel_rfl
 have e:EntryIs ctx PP 147 [] [] cv15 cv3 IAN (fun k a=>JAN k a):=fun _ a=>by kernel_rfl
 fn_ok hl_nil Tryz.func147 (fun s s' h=>by cases s;cases s';cases h;rfl) (fun _=>rfl) (fun _ _=>rfl) b e gas
noncomputable def Ve {γ:Type} (F:Yb):Hd ctx γ:=hdl cv15.dec (fun a=>F a) cv3.enc
abbrev Sr:=ByteArray→Int→Option (Int×Int×Bool)
inductive Ur where
 | c0 (text_0:ByteArray) (at_1:Int) (n_7:Int) (scale_8:Int) (i_9:Int)
noncomputable def KAN:Ur→LI
 | .c0 text_0 at_1 n_7 scale_8 i_9=>(tdo Tryz.f196 2000,[(0,[.one (.str text_0)]),(1,[.one (.int .i64 at_1)]),(7,[.one (.int .i64 n_7)]),(8,[.one (.int .i64 scale_8)]),(9,[.one (.int .i64 i_9)])],[])
noncomputable def Vr (z0:XY) (z1:Yb) (k:Ur→Option (Int×Int×Bool)) (text_0:ByteArray) (at_1:Int):Option (Int×Int×Bool):=
 (z0 at_1 0 (text_0.size:Int)).bind fun r0=>
 bif (!r0) then
 some (0,(0,false))
 else
 k (.c0 text_0 at_1 0 1 at_1)
noncomputable def G5 (z0:XY) (z1:Yb) (k:Ur→Option (Int×Int×Bool)):Ur→Option (Int×Int×Bool)
 | .c0 text_0 at_1 n_7 scale_8 i_9=>
 bif (decide (i_9<(text_0.size:Int))) then
  bif (decide (i_9<(w64 (at_1+5)))) then
  bif ((decide (0≤i_9)) && (decide (i_9<(text_0.size:Int)))) then
  bif ((decide (0≤i_9)) && (decide (i_9<(text_0.size:Int)))) then
  bif (decide ((bt text_0 i_9)<128)) then
   bif (decide ((w64 (n_7+(w64 (((w64 (bt text_0 i_9)).tmod 128)*scale_8)))) > 1000000000)) then
   some (0,(0,false))
   else
   (z1 (w64 (n_7+(w64 (((w64 (bt text_0 i_9)).tmod 128)*scale_8))))).bind fun r0=>
   bif (((decide (0≤at_1)) && (decide (at_1≤(w64 (i_9+1))))) && (decide ((w64 (i_9+1))≤(text_0.size:Int)))) then
   bif (!((ByteArray.toList r0) == (ByteArray.toList (text_0.extract at_1.toNat (w64 (i_9+1)).toNat)))) then
    some (0,(0,false))
   else
    some ((w64 (n_7+(w64 (((w64 (bt text_0 i_9)).tmod 128)*scale_8)))),((w64 (i_9+1)),true))
   else none
  else
   k (.c0 text_0 at_1 (w64 (n_7+(w64 (((w64 (bt text_0 i_9)).tmod 128)*scale_8)))) (w64 (scale_8*128)) (w64 (i_9+1)))
  else none
  else none
  else
  some (0,(0,false))
 else
  some (0,(0,false))
noncomputable def Ud:Nat→Ur→Option (Int×Int×Bool)
 | 0,_=>none
 | m+1,s=>G5 SX SY (Ud m) s
noncomputable def WZ:Sr:=Vr SX SY (Ud gas)
theorem LAN:Tells ctx PP 196 cv7 cv105 (fun a=>WZ a.1 a.2):=
 have b:∀ z0 z1,CutIs ctx PP 196 Tryz.f196 [] [(50,GZ z0),(147,Ve z1)] cv105 KAN (G5 z0 z1):=fun z0 z1 _ s=>by cases s <;> kernel_rfl
 have e:∀ z0 z1,EntryIs ctx PP 196 [] [(50,GZ z0),(147,Ve z1)] cv7 cv105 KAN (fun k a=>Vr z0 z1 k a.1 a.2):=fun z0 z1 _ a=>by kernel_rfl
 fn_ok (hc Vb (hc Di hl_nil)) Tryz.func196 (fun s s' h=>by cases s;cases s';cases h;rfl) (fun _=>rfl) (fun _ _=>rfl) (b SX SY) (e SX SY) gas
noncomputable def HAE {γ:Type} (F:Sr):Hd ctx γ:=hdl cv7.dec (fun a=>F a.1 a.2) cv105.enc
abbrev IAE:=Int→ByteArray→Option Int
inductive Xr where
 | c0 (sum_0:Int) (text_1:ByteArray) (i_5:Int)
 | c1 (sum_0:Int) (text_1:ByteArray) (i_5:Int) (k_6:Int)
noncomputable def MAN:Xr→LI
 | .c0 sum_0 text_1 i_5=>(tdo Tryz.f206 208,[(0,[.one (.int .u32 sum_0)]),(1,[.one (.str text_1)]),(5,[.one (.int .i64 i_5)])],[])
 | .c1 sum_0 text_1 i_5 k_6=>(tdo Tryz.f206 26928,[(0,[.one (.int .u32 sum_0)]),(1,[.one (.str text_1)]),(5,[.one (.int .i64 i_5)]),(6,[.one (.int .i64 k_6)])],[])
noncomputable def JAE (k:Xr→Option Int) (sum_0:Int) (text_1:ByteArray):Option Int:=
 k (.c0 sum_0 text_1 0)
noncomputable def Vl (k:Xr→Option Int):Xr→Option Int
 | .c0 sum_0 text_1 i_5=>
 bif (decide (i_5<(text_1.size:Int))) then
  bif ((decide (0≤i_5)) && (decide (i_5<(text_1.size:Int)))) then
  k (.c1 (w32 (((BitVec.toNat ((BitVec.ofInt (IntKind.bits IntKind.u32) sum_0) ^^^ (BitVec.ofInt (IntKind.bits IntKind.u32) (w32 (bt text_1 i_5))))):Nat):Int)) text_1 i_5 0)
  else none
 else
  some sum_0
 | .c1 sum_0 text_1 i_5 k_6=>
 bif (decide (k_6<8)) then
  bif ((sum_0.tmod 2) == 1) then
  k (.c1 (w32 (((BitVec.toNat ((BitVec.ofInt (IntKind.bits IntKind.u32) (w32 (sum_0.tdiv 2))) ^^^ (BitVec.ofInt (IntKind.bits IntKind.u32) 3558460437))):Nat):Int)) text_1 i_5 (w64 (k_6+1)))
  else
  k (.c1 (w32 (sum_0.tdiv 2)) text_1 i_5 (w64 (k_6+1)))
 else
  k (.c0 sum_0 text_1 (w64 (i_5+1)))
noncomputable def Xe:Nat→Xr→Option Int
 | 0,_=>none
 | m+1,s=>Vl (Xe m) s
noncomputable def Yr:IAE:=JAE (Xe gas)
theorem HAX:Tells ctx PP 206 cv32 cv8 (fun a=>Yr a.1 a.2):=
 have b:CutIs ctx PP 206 Tryz.f206 [] [] cv8 MAN (Vl):=fun _ s=>by cases s <;> kernel_rfl
 have e:EntryIs ctx PP 206 [] [] cv32 cv8 MAN (fun k a=>JAE k a.1 a.2):=fun _ a=>by kernel_rfl
 fn_ok hl_nil Tryz.func206 (fun s s' h=>by cases s <;> cases s' <;> first | (cases h;done) | (cases h;rfl) | exact (rg_ne h (by kernel_rfl)).elim) (fun _=>rfl) (fun _ _=>rfl) b e gas
noncomputable def IAX {γ:Type} (F:IAE):Hd ctx γ:=hdl cv32.dec (fun a=>F a.1 a.2) cv8.enc
abbrev KAE:=ByteArray→Option Int
noncomputable def LAE (z0:IAE) (text_0:ByteArray):Option Int:=
 (z0 4294967295 text_0).bind fun r0=>
 some r0
noncomputable def Zr:KAE:=LAE Yr
theorem JAX:Tells ctx PP 185 cv3 cv8 (fun a=>Zr a):=fn_ok0 (hc HAX hl_nil) Tryz.func185 ((fun z0 a=>by kernel_rfl:∀ z0,EntryIs0 ctx PP 185 [] [(206,IAX z0)] cv3 cv8 fun a=>LAE z0 a) Yr)
noncomputable def KAX {γ:Type} (F:KAE):Hd ctx γ:=hdl cv3.dec (fun a=>F a) cv8.enc
abbrev MAE:=Int→Option ByteArray
noncomputable def NAE (x_0:Int):Option ByteArray:=
 some (ofBytes [(w8 (Int.fdiv x_0 (2 ^ (Min.min (24:Int).toNat (IntKind.bits IntKind.u32))))),(w8 (Int.fdiv x_0 (2 ^ (Min.min (16:Int).toNat (IntKind.bits IntKind.u32))))),(w8 (Int.fdiv x_0 (2 ^ (Min.min (8:Int).toNat (IntKind.bits IntKind.u32))))),(w8 x_0)])
noncomputable def Es:MAE:=NAE
theorem LAX:Tells ctx PP 184 cv8 cv3 (fun a=>Es a):=fn_ok0 hl_nil Tryz.func184 (fun a=>by kernel_rfl:EntryIs0 ctx PP 184 [] [] cv8 cv3 fun a=>NAE a)
noncomputable def MAX {γ:Type} (F:MAE):Hd ctx γ:=hdl cv8.dec (fun a=>F a) cv3.enc
abbrev Wl:=ByteArray→Option (ByteArray×Bool)
noncomputable def OAE (z0:XY) (z1:Yb) (z2:KAE) (z3:MAE) (text_0:ByteArray):Option (ByteArray×Bool):=
 (z0 (text_0.size:Int) 1 9000).bind fun r0=>
 bif (!r0) then
 some (⟨#[]⟩,false)
 else
 (z1 (text_0.size:Int)).bind fun r1=>
 (z2 text_0).bind fun r2=>
 (z3 r2).bind fun r3=>
 bif (decide ((r1.size+r3.size)≤9223372036854775807)) then
 bif (decide (((r1++r3).size+text_0.size)≤9223372036854775807)) then
 some (((r1++r3)++text_0),true)
 else none
 else none
noncomputable def Zb:Wl:=OAE SX SY Zr Es
theorem NAN:Tells ctx PP 150 cv3 cv18 (fun a=>Zb a):=fn_ok0 (hc Vb (hc Di (hc JAX (hc LAX hl_nil)))) Tryz.func150 ((fun z0 z1 z2 z3 a=>by kernel_rfl:∀ z0 z1 z2 z3,EntryIs0 ctx PP 150 [] [(50,GZ z0),(147,Ve z1),(185,KAX z2),(184,MAX z3)] cv3 cv18 fun a=>OAE z0 z1 z2 z3 a) SX SY Zr Es)
noncomputable def I5 {γ:Type} (F:Wl):Hd ctx γ:=hdl cv3.dec (fun a=>F a) cv18.enc
abbrev J5:=ByteArray→Option ((List ByteArray)×Int)
inductive Gs where
 | c0 (file_0:ByteArray) (at_5:Int) (out_4:(List ByteArray))
noncomputable def OAN:Gs→LI
 | .c0 file_0 at_5 out_4=>(tdo Tryz.f164 992,[(0,[.one (.str file_0)]),(4,[.one (.own 304)]),(5,[.one (.int .i64 at_5)])],[(304,.sl 9 out_4)])
noncomputable def PAE (z0:Sr) (z1:Wl) (k:Gs→Option ((List ByteArray)×Int)) (file_0:ByteArray):Option ((List ByteArray)×Int):=
 bif (decide ((file_0.size:Int) > 20000)) then
 some ([],0)
 else
 k (.c0 file_0 0 [])
noncomputable def QAE (z0:Sr) (z1:Wl) (k:Gs→Option ((List ByteArray)×Int)):Gs→Option ((List ByteArray)×Int)
 | .c0 file_0 at_5 out_4=>
 bif (decide (at_5<(file_0.size:Int))) then
  (z0 file_0 at_5).bind fun r0=>
  bif (!r0.2.2) then
  some (out_4,at_5)
  else
  bif (decide (r0.1 > (w64 ((w64 ((file_0.size:Int) - r0.2.1)) - 4)))) then
   some (out_4,at_5)
  else
   bif (((decide (0≤(w64 (r0.2.1+4)))) && (decide ((w64 (r0.2.1+4))≤(w64 ((w64 (r0.2.1+4))+r0.1))))) && (decide ((w64 ((w64 (r0.2.1+4))+r0.1))≤(file_0.size:Int)))) then
   (z1 (file_0.extract (w64 (r0.2.1+4)).toNat (w64 ((w64 (r0.2.1+4))+r0.1)).toNat)).bind fun r1=>
   bif (!r1.2) then
   some (out_4,at_5)
   else
   bif (((decide (0≤at_5)) && (decide (at_5≤(w64 ((w64 (r0.2.1+4))+r0.1))))) && (decide ((w64 ((w64 (r0.2.1+4))+r0.1))≤(file_0.size:Int)))) then
   bif (!((ByteArray.toList r1.1) == (ByteArray.toList (file_0.extract at_5.toNat (w64 ((w64 (r0.2.1+4))+r0.1)).toNat)))) then
    some (out_4,at_5)
   else
    bif (decide (((out_4.length+1)*16)≤140737488355328)) then
    k (.c0 file_0 (w64 ((w64 (r0.2.1+4))+r0.1)) (out_4++[(file_0.extract (w64 (r0.2.1+4)).toNat (w64 ((w64 (r0.2.1+4))+r0.1)).toNat)]))
    else none
   else none
   else none
 else
  some (out_4,at_5)
noncomputable def O5:Nat→Gs→Option ((List ByteArray)×Int)
 | 0,_=>none
 | m+1,s=>QAE WZ Zb (O5 m) s
noncomputable def Ei:J5:=PAE WZ Zb (O5 gas)
theorem NAX:Tells ctx PP 164 cv3 cv106 (fun a=>Ei a):=
 have b:∀ z0 z1,CutIs ctx PP 164 Tryz.f164 [] [(196,HAE z0),(150,I5 z1)] cv106 OAN (QAE z0 z1):=fun z0 z1 _ s=>by cases s <;> kernel_rfl
 have e:∀ z0 z1,EntryIs ctx PP 164 [] [(196,HAE z0),(150,I5 z1)] cv3 cv106 OAN (fun k a=>PAE z0 z1 k a):=fun z0 z1 _ a=>by kernel_rfl
 fn_ok (hc LAN (hc NAN hl_nil)) Tryz.func164 (fun s s' h=>by cases s;cases s';cases h;rfl) (fun _=>rfl) (fun _ _=>rfl) (b WZ Zb) (e WZ Zb) gas
noncomputable def PAN {γ:Type} (F:J5):Hd ctx γ:=hdl cv3.dec (fun a=>F a) cv106.enc
abbrev Js:=Int→Option ByteArray
noncomputable def RAE (n_0:Int):Option ByteArray:=
 bif (decide ((n_0.tmod 256)<0)) then
 some (ofBytes [(w8 (w64 ((n_0.tmod 256)+256)))])
 else
 some (ofBytes [(w8 (n_0.tmod 256))])
noncomputable def Ye:Js:=RAE
theorem QAN:Tells ctx PP 179 cv15 cv3 (fun a=>Ye a):=fn_ok0 hl_nil Tryz.func179 (fun a=>by kernel_rfl:EntryIs0 ctx PP 179 [] [] cv15 cv3 fun a=>RAE a)
noncomputable def SAE {γ:Type} (F:Js):Hd ctx γ:=hdl cv15.dec (fun a=>F a) cv3.enc
abbrev TAE:=ByteArray→Int→Option ByteArray
inductive Ls where
 | c0 (key_0:ByteArray) (x_1:Int) (i_6:Int) (out_5:(List Int))
noncomputable def SAN:Ls→LI
 | .c0 key_0 x_1 i_6 out_5=>(tdo Tryz.f216 976,[(0,[.one (.str key_0)]),(1,[.one (.int .u8 x_1)]),(5,[.one (.own 368)]),(6,[.one (.int .i64 i_6)])],[(368,.sl 5 out_5)])
noncomputable def UAE (z0:Jg) (k:Ls→Option ByteArray) (key_0:ByteArray) (x_1:Int):Option ByteArray:=
 bif (decide ((key_0.size:Int) > 64)) then
 (z0 key_0).bind fun r0=>
 k (.c0 r0 x_1 0 (List.replicate (64:Int).toNat (0:Int)))
 else
 k (.c0 key_0 x_1 0 (List.replicate (64:Int).toNat (0:Int)))
noncomputable def P5 (z0:Jg) (k:Ls→Option ByteArray):Ls→Option ByteArray
 | .c0 key_0 x_1 i_6 out_5=>
 bif (decide (i_6<64)) then
  bif (decide (i_6<(key_0.size:Int))) then
  bif ((decide (0≤i_6)) && (decide (i_6<(key_0.size:Int)))) then
  bif ((decide (0≤i_6)) && (decide (i_6<(out_5.length:Int)))) then
  bif ((decide (0≤i_6)) && (decide (i_6<((out_5.set i_6.toNat (bt key_0 i_6)).length:Int)))) then
  bif ((decide (0≤i_6)) && (decide (i_6<((out_5.set i_6.toNat (bt key_0 i_6)).length:Int)))) then
  k (.c0 key_0 x_1 (w64 (i_6+1)) ((out_5.set i_6.toNat (bt key_0 i_6)).set i_6.toNat (w8 (((BitVec.toNat ((BitVec.ofInt (IntKind.bits IntKind.u8) ((out_5.set i_6.toNat (bt key_0 i_6)).getD i_6.toNat 0)) ^^^ (BitVec.ofInt (IntKind.bits IntKind.u8) x_1))):Nat):Int))))
  else none
  else none
  else none
  else none
  else
  bif ((decide (0≤i_6)) && (decide (i_6<(out_5.length:Int)))) then
  bif ((decide (0≤i_6)) && (decide (i_6<(out_5.length:Int)))) then
  k (.c0 key_0 x_1 (w64 (i_6+1)) (out_5.set i_6.toNat (w8 (((BitVec.toNat ((BitVec.ofInt (IntKind.bits IntKind.u8) (out_5.getD i_6.toNat 0)) ^^^ (BitVec.ofInt (IntKind.bits IntKind.u8) x_1))):Nat):Int))))
  else none
  else none
 else
  some (ofBytes out_5)
noncomputable def Xl:Nat→Ls→Option ByteArray
 | 0,_=>none
 | m+1,s=>P5 VZ (Xl m) s
noncomputable def Ns:TAE:=UAE VZ (Xl gas)
theorem OAX:Tells ctx PP 216 cv28 cv3 (fun a=>Ns a.1 a.2):=
 have b:∀ z0,CutIs ctx PP 216 Tryz.f216 [] [(26,Ul z0)] cv3 SAN (P5 z0):=fun z0 _ s=>by cases s <;> kernel_rfl
 have e:∀ z0,EntryIs ctx PP 216 [] [(26,Ul z0)] cv28 cv3 SAN (fun k a=>UAE z0 k a.1 a.2):=fun z0 _ a=>by kernel_rfl
 fn_ok (hc V4 hl_nil) Tryz.func216 (fun s s' h=>by cases s;cases s';cases h;rfl) (fun _=>rfl) (fun _ _=>rfl) (b VZ) (e VZ) gas
noncomputable def PAX {γ:Type} (F:TAE):Hd ctx γ:=hdl cv28.dec (fun a=>F a.1 a.2) cv3.enc
abbrev Qs:=ByteArray→ByteArray→Option ByteArray
noncomputable def VAE (z0:TAE) (z1:Jg) (key_0:ByteArray) (s_1:ByteArray):Option ByteArray:=
 (z0 key_0 92).bind fun r0=>
 (z0 key_0 54).bind fun r1=>
 bif (decide ((r1.size+s_1.size)≤9223372036854775807)) then
 (z1 (r1++s_1)).bind fun r2=>
 bif (decide ((r0.size+r2.size)≤9223372036854775807)) then
 (z1 (r0++r2)).bind fun r3=>
 some r3
 else none
 else none
noncomputable def Ze:Qs:=VAE Ns VZ
theorem TAN:Tells ctx PP 205 cv29 cv3 (fun a=>Ze a.1 a.2):=fn_ok0 (hc OAX (hc V4 hl_nil)) Tryz.func205 ((fun z0 z1 a=>by kernel_rfl:∀ z0 z1,EntryIs0 ctx PP 205 [] [(216,PAX z0),(26,Ul z1)] cv29 cv3 fun a=>VAE z0 z1 a.1 a.2) Ns VZ)
noncomputable def WAE {γ:Type} (F:Qs):Hd ctx γ:=hdl cv29.dec (fun a=>F a.1 a.2) cv3.enc
abbrev XAE:=ByteArray→Int→Int→Option (ByteArray×Bool)
inductive Us where
 | c0 (key_0:ByteArray) (num_1:Int) (n_2:Int) (i_9:Int) (out_8:(List Int))
noncomputable def UAN:Us→LI
 | .c0 key_0 num_1 n_2 i_9 out_8=>(tdo Tryz.f181 976,[(0,[.one (.str key_0)]),(1,[.one (.int .i64 num_1)]),(2,[.one (.int .i64 n_2)]),(8,[.one (.own 560)]),(9,[.one (.int .i64 i_9)])],[(560,.sl 5 out_8)])
noncomputable def YAE (z0:XY) (z1:Yb) (z2:Js) (z3:Qs) (k:Us→Option (ByteArray×Bool)) (key_0:ByteArray) (num_1:Int) (n_2:Int):Option (ByteArray×Bool):=
 (z0 num_1 0 1000000000).bind fun r0=>
 bif (!r0) then
 some (⟨#[]⟩,false)
 else
 (z0 n_2 0 8000).bind fun r1=>
 bif (!r1) then
  some (⟨#[]⟩,false)
 else
  k (.c0 key_0 num_1 n_2 0 [])
noncomputable def Q5 (z0:XY) (z1:Yb) (z2:Js) (z3:Qs) (k:Us→Option (ByteArray×Bool)):Us→Option (ByteArray×Bool)
 | .c0 key_0 num_1 n_2 i_9 out_8=>
 bif (decide ((out_8.length:Int)<n_2)) then
  (z1 num_1).bind fun r0=>
  bif (decide (((⟨#[109]⟩:ByteArray).size+r0.size)≤9223372036854775807)) then
  (z2 i_9).bind fun r1=>
  bif (decide ((((⟨#[109]⟩:ByteArray)++r0).size+r1.size)≤9223372036854775807)) then
  (z3 key_0 (((⟨#[109]⟩:ByteArray)++r0)++r1)).bind fun r2=>
  bif (decide (r2.size≤9223372036854775807)) then
  bif (decide (((out_8.length+(bytesOf r2).length)*1)≤140737488355328)) then
  k (.c0 key_0 num_1 n_2 (w64 (i_9+1)) (out_8++(bytesOf r2)))
  else none
  else none
  else none
  else none
 else
  bif ((decide (0≤n_2)) && (decide (n_2≤(out_8.length:Int)))) then
  some ((ofBytes ((out_8.drop 0).take (n_2.toNat - 0))),true)
  else none
noncomputable def Vs:Nat→Us→Option (ByteArray×Bool)
 | 0,_=>none
 | m+1,s=>Q5 SX SY Ye Ze (Vs m) s
noncomputable def Ws:XAE:=YAE SX SY Ye Ze (Vs gas)
theorem QAX:Tells ctx PP 181 cv30 cv18 (fun a=>Ws a.1 a.2.1 a.2.2):=
 have b:∀ z0 z1 z2 z3,CutIs ctx PP 181 Tryz.f181 [] [(50,GZ z0),(147,Ve z1),(179,SAE z2),(205,WAE z3)] cv18 UAN (Q5 z0 z1 z2 z3):=fun z0 z1 z2 z3 _ s=>by cases s <;> kernel_rfl
 have e:∀ z0 z1 z2 z3,EntryIs ctx PP 181 [] [(50,GZ z0),(147,Ve z1),(179,SAE z2),(205,WAE z3)] cv30 cv18 UAN (fun k a=>YAE z0 z1 z2 z3 k a.1 a.2.1 a.2.2):=fun z0 z1 z2 z3 _ a=>by kernel_rfl
 fn_ok (hc Vb (hc Di (hc QAN (hc TAN hl_nil)))) Tryz.func181 (fun s s' h=>by cases s;cases s';cases h;rfl) (fun _=>rfl) (fun _ _=>rfl) (b SX SY Ye Ze) (e SX SY Ye Ze) gas
noncomputable def RAX {γ:Type} (F:XAE):Hd ctx γ:=hdl cv30.dec (fun a=>F a.1 a.2.1 a.2.2) cv18.enc
abbrev ZAE:=ByteArray→Int→ByteArray→Option ByteArray
noncomputable def AAF (z0:Yb) (z1:Qs) (key_0:ByteArray) (num_1:Int) (s_2:ByteArray):Option ByteArray:=
 (z0 num_1).bind fun r0=>
 bif (decide (((⟨#[116]⟩:ByteArray).size+r0.size)≤9223372036854775807)) then
 bif (decide ((((⟨#[116]⟩:ByteArray)++r0).size+s_2.size)≤9223372036854775807)) then
 (z1 key_0 (((⟨#[116]⟩:ByteArray)++r0)++s_2)).bind fun r1=>
 bif ((decide ((0:Int)≤(16:Int))) && (decide (16≤(r1.size:Int)))) then
 some (r1.extract 0 (16:Int).toNat)
 else none
 else none
 else none
noncomputable def Dt:ZAE:=AAF SY Ze
theorem SAX:Tells ctx PP 183 cv31 cv3 (fun a=>Dt a.1 a.2.1 a.2.2):=fn_ok0 (hc Di (hc TAN hl_nil)) Tryz.func183 ((fun z0 z1 a=>by kernel_rfl:∀ z0 z1,EntryIs0 ctx PP 183 [] [(147,Ve z0),(205,WAE z1)] cv31 cv3 fun a=>AAF z0 z1 a.1 a.2.1 a.2.2) SY Ze)
noncomputable def TAX {γ:Type} (F:ZAE):Hd ctx γ:=hdl cv31.dec (fun a=>F a.1 a.2.1 a.2.2) cv3.enc
abbrev BAF:=ByteArray→ByteArray→Option Bool
noncomputable def CAF (a_0:ByteArray) (b_1:ByteArray):Option Bool:=
 some ((ByteArray.toList a_0) == (ByteArray.toList b_1))
noncomputable def U5:BAF:=CAF
theorem UAX:Tells ctx PP 197 cv29 cv6 (fun a=>U5 a.1 a.2):=fn_ok0 hl_nil Tryz.func197 (fun a=>by kernel_rfl:EntryIs0 ctx PP 197 [] [] cv29 cv6 fun a=>CAF a.1 a.2)
noncomputable def VAX {γ:Type} (F:BAF):Hd ctx γ:=hdl cv29.dec (fun a=>F a.1 a.2) cv6.enc
abbrev DAF:=ByteArray→ByteArray→Option ByteArray
inductive Et where
 | c0 (b_1:ByteArray) (i_6:Int) (out_5:(List Int))
noncomputable def VAN:Et→LI
 | .c0 b_1 i_6 out_5=>(tdo Tryz.f182 464,[(1,[.one (.str b_1)]),(5,[.one (.own 368)]),(6,[.one (.int .i64 i_6)])],[(368,.sl 5 out_5)])
noncomputable def EAF (k:Et→Option ByteArray) (a_0:ByteArray) (b_1:ByteArray):Option ByteArray:=
 bif (decide (a_0.size≤9223372036854775807)) then
 k (.c0 b_1 0 (bytesOf a_0))
 else none
noncomputable def V5 (k:Et→Option ByteArray):Et→Option ByteArray
 | .c0 b_1 i_6 out_5=>
 bif (decide (i_6<(out_5.length:Int))) then
  bif ((decide (0≤i_6)) && (decide (i_6<(out_5.length:Int)))) then
  bif ((decide (0≤i_6)) && (decide (i_6<(b_1.size:Int)))) then
  bif ((decide (0≤i_6)) && (decide (i_6<(out_5.length:Int)))) then
  k (.c0 b_1 (w64 (i_6+1)) (out_5.set i_6.toNat (w8 (((BitVec.toNat ((BitVec.ofInt (IntKind.bits IntKind.u8) (out_5.getD i_6.toNat 0)) ^^^ (BitVec.ofInt (IntKind.bits IntKind.u8) (bt b_1 i_6)))):Nat):Int))))
  else none
  else none
  else none
 else
  some (ofBytes out_5)
noncomputable def Gt:Nat→Et→Option ByteArray
 | 0,_=>none
 | m+1,s=>V5 (Gt m) s
noncomputable def Ht:DAF:=EAF (Gt gas)
theorem WAX:Tells ctx PP 182 cv29 cv3 (fun a=>Ht a.1 a.2):=
 have b:CutIs ctx PP 182 Tryz.f182 [] [] cv3 VAN (V5):=fun _ s=>by cases s <;> kernel_rfl
 have e:EntryIs ctx PP 182 [] [] cv29 cv3 VAN (fun k a=>EAF k a.1 a.2):=fun _ a=>by kernel_rfl
 fn_ok hl_nil Tryz.func182 (fun s s' h=>by cases s;cases s';cases h;rfl) (fun _=>rfl) (fun _ _=>rfl) b e gas
noncomputable def XAX {γ:Type} (F:DAF):Hd ctx γ:=hdl cv29.dec (fun a=>F a.1 a.2) cv3.enc
abbrev X5:=ByteArray→Int→ByteArray→Option (ByteArray×Bool)
noncomputable def FAF (z0:XAE) (z1:ZAE) (z2:BAF) (z3:DAF) (key_0:ByteArray) (num_1:Int) (text_2:ByteArray):Option (ByteArray×Bool):=
 bif (decide ((text_2.size:Int)<16)) then
 some (⟨#[]⟩,false)
 else
 bif ((decide (0≤(w64 ((text_2.size:Int) - 16)))) && (decide ((w64 ((text_2.size:Int) - 16))≤(text_2.size:Int)))) then
 (z0 key_0 num_1 ((text_2.extract 0 (w64 ((text_2.size:Int) - 16)).toNat).size:Int)).bind fun r0=>
 bif (!r0.2) then
  some (⟨#[]⟩,false)
 else
  (z1 key_0 num_1 (text_2.extract 0 (w64 ((text_2.size:Int) - 16)).toNat)).bind fun r1=>
  bif ((decide (0≤((text_2.extract 0 (w64 ((text_2.size:Int) - 16)).toNat).size:Int))) && (decide (((text_2.extract 0 (w64 ((text_2.size:Int) - 16)).toNat).size:Int)≤(text_2.size:Int)))) then
  (z2 r1 (text_2.extract ((text_2.extract 0 (w64 ((text_2.size:Int) - 16)).toNat).size:Int).toNat text_2.size)).bind fun r2=>
  bif (!r2) then
  some (⟨#[]⟩,false)
  else
  (z3 (text_2.extract 0 (w64 ((text_2.size:Int) - 16)).toNat) r0.1).bind fun r3=>
  some (r3,true)
  else none
 else none
noncomputable def Gi:X5:=FAF Ws Dt U5 Ht
theorem YAX:Tells ctx PP 165 cv31 cv18 (fun a=>Gi a.1 a.2.1 a.2.2):=fn_ok0 (hc QAX (hc SAX (hc UAX (hc WAX hl_nil)))) Tryz.func165 ((fun z0 z1 z2 z3 a=>by kernel_rfl:∀ z0 z1 z2 z3,EntryIs0 ctx PP 165 [] [(181,RAX z0),(183,TAX z1),(197,VAX z2),(182,XAX z3)] cv31 cv18 fun a=>FAF z0 z1 z2 z3 a.1 a.2.1 a.2.2) Ws Dt U5 Ht)
noncomputable def WAN {γ:Type} (F:X5):Hd ctx γ:=hdl cv31.dec (fun a=>F a.1 a.2.1 a.2.2) cv18.enc
abbrev Jt:=SL19Cur→Int→Option (ByteArray×SL19Cur)
noncomputable def Y5 (c_0:SL19Cur) (n_1:Int):Option (ByteArray×SL19Cur):=
 bif c_0.fBad then
 some (⟨#[]⟩,⟨c_0.fText,c_0.fAt,true⟩)
 else
 bif (decide (n_1 > (w64 ((c_0.fText.size:Int) - c_0.fAt)))) then
  some (⟨#[]⟩,⟨c_0.fText,c_0.fAt,true⟩)
 else
  bif (((decide (0≤(w64 ((w64 (c_0.fAt+n_1)) - n_1)))) && (decide ((w64 ((w64 (c_0.fAt+n_1)) - n_1))≤(w64 (c_0.fAt+n_1))))) && (decide ((w64 (c_0.fAt+n_1))≤(c_0.fText.size:Int)))) then
  some ((c_0.fText.extract (w64 ((w64 (c_0.fAt+n_1)) - n_1)).toNat (w64 (c_0.fAt+n_1)).toNat),⟨c_0.fText,(w64 (c_0.fAt+n_1)),c_0.fBad⟩)
  else none
noncomputable def Xa:Jt:=Y5
theorem GAF:Tells ctx PP 199 cv107 cv108 (fun a=>Xa a.1 a.2):=fn_ok0 hl_nil Tryz.func199 (fun a=>by kernel_rfl:EntryIs0 ctx PP 199 [0] [] cv107 cv108 fun a=>Y5 a.1 a.2)
noncomputable def HAF {γ:Type} (F:Jt):Hd ctx γ:=hdl cv107.dec (fun a=>F a.1 a.2) cv108.enc
abbrev Z5:=SL19Cur→Option (Int×SL19Cur)
noncomputable def D6 (z0:Jt) (c_0:SL19Cur):Option (Int×SL19Cur):=
 (z0 c_0 1).bind fun r0=>
 bif r0.2.fBad then
 some (0,r0.2)
 else
 bif ((decide ((0:Int)≤(0:Int))) && (decide (0<(r0.1.size:Int)))) then
 some ((w64 (bt r0.1 0)),r0.2)
 else none
noncomputable def Ya:Z5:=D6 Xa
theorem XAN:Tells ctx PP 198 cv109 cv110 (fun a=>Ya a):=fn_ok0 (hc GAF hl_nil) Tryz.func198 ((fun z0 a=>by kernel_rfl:∀ z0,EntryIs0 ctx PP 198 [0] [(199,HAF z0)] cv109 cv110 fun a=>D6 z0 a) Xa)
noncomputable def YAN {γ:Type} (F:Z5):Hd ctx γ:=hdl cv109.dec (fun a=>F a) cv110.enc
abbrev Kt:=SL19Cur→Option (Int×SL19Cur)
noncomputable def F6 (z0:Sr) (c_0:SL19Cur):Option (Int×SL19Cur):=
 (z0 c_0.fText c_0.fAt).bind fun r0=>
 bif c_0.fBad then
 some (0,⟨c_0.fText,c_0.fAt,true⟩)
 else
 bif (!r0.2.2) then
  some (0,⟨c_0.fText,c_0.fAt,true⟩)
 else
  some (r0.1,⟨c_0.fText,r0.2.1,c_0.fBad⟩)
noncomputable def Ac:Kt:=F6 WZ
theorem IAF:Tells ctx PP 200 cv109 cv110 (fun a=>Ac a):=fn_ok0 (hc LAN hl_nil) Tryz.func200 ((fun z0 a=>by kernel_rfl:∀ z0,EntryIs0 ctx PP 200 [0] [(196,HAE z0)] cv109 cv110 fun a=>F6 z0 a) WZ)
noncomputable def JAF {γ:Type} (F:Kt):Hd ctx γ:=hdl cv109.dec (fun a=>F a) cv110.enc
abbrev KAF:=SL19Cur→Option (ByteArray×SL19Cur)
noncomputable def G6 (z0:Kt) (z1:Jt) (c_0:SL19Cur):Option (ByteArray×SL19Cur):=
 (z0 c_0).bind fun r0=>
 (z1 r0.2 r0.1).bind fun r1=>
 some (r1.1,r1.2)
noncomputable def Ii:KAF:=G6 Ac Xa
theorem ZAX:Tells ctx PP 213 cv109 cv108 (fun a=>Ii a):=fn_ok0 (hc IAF (hc GAF hl_nil)) Tryz.func213 ((fun z0 z1 a=>by kernel_rfl:∀ z0 z1,EntryIs0 ctx PP 213 [0] [(200,JAF z0),(199,HAF z1)] cv109 cv108 fun a=>G6 z0 z1 a) Ac Xa)
noncomputable def AAY {γ:Type} (F:KAF):Hd ctx γ:=hdl cv109.dec (fun a=>F a) cv108.enc
abbrev Ot:=SThing→Option Bool
noncomputable def LAF (z0:XY) (x_0:SThing):Option Bool:=
 (z0 x_0.fId 1 1000).bind fun r0=>
 bif (!r0) then
 some false
 else
 (z0 x_0.fKind 1 3).bind fun r1=>
 bif (!r1) then
  some false
 else
  (z0 x_0.fNext 0 16).bind fun r2=>
  bif (!r2) then
  some false
  else
  bif (x_0.fKind != 2) then
   bif (x_0.fNext != 0) then
   some false
   else
   bif x_0.fSigns then
    some false
   else
    bif (x_0.fKind != 1) then
    bif x_0.fWraps then
     some false
    else
     bif (x_0.fKind == 3) then
     some (decide ((x_0.fValue.size:Int)≤100))
     else
     some ((x_0.fValue.size:Int) == 32)
    else
    bif (x_0.fKind == 3) then
     some (decide ((x_0.fValue.size:Int)≤100))
    else
     some ((x_0.fValue.size:Int) == 32)
  else
   bif (x_0.fKind != 1) then
   bif x_0.fWraps then
    some false
   else
    bif (x_0.fKind == 3) then
    some (decide ((x_0.fValue.size:Int)≤100))
    else
    some ((x_0.fValue.size:Int) == 32)
   else
   bif (x_0.fKind == 3) then
    some (decide ((x_0.fValue.size:Int)≤100))
   else
    some ((x_0.fValue.size:Int) == 32)
noncomputable def Af:Ot:=LAF SX
theorem ZAN:Tells ctx PP 120 cv16 cv6 (fun a=>Af a):=fn_ok0 (hc Vb hl_nil) Tryz.func120 ((fun z0 a=>by kernel_rfl:∀ z0,EntryIs0 ctx PP 120 [] [(50,GZ z0)] cv16 cv6 fun a=>LAF z0 a) SX)
noncomputable def MAF {γ:Type} (F:Ot):Hd ctx γ:=hdl cv16.dec (fun a=>F a) cv6.enc
abbrev NAF:=Bool→Int→Option Int
noncomputable def AAO (x_0:Bool) (n_1:Int):Option Int:=
 bif x_0 then
 some n_1
 else
 some 0
noncomputable def H6:NAF:=AAO
theorem BAY:Tells ctx PP 178 cv17 cv15 (fun a=>H6 a.1 a.2):=fn_ok0 hl_nil Tryz.func178 (fun a=>by kernel_rfl:EntryIs0 ctx PP 178 [] [] cv17 cv15 fun a=>AAO a.1 a.2)
noncomputable def CAY {γ:Type} (F:NAF):Hd ctx γ:=hdl cv17.dec (fun a=>F a.1 a.2) cv15.enc
abbrev OAF:=ByteArray→Option ByteArray
noncomputable def PAF (z0:Yb) (s_0:ByteArray):Option ByteArray:=
 (z0 (s_0.size:Int)).bind fun r0=>
 bif (decide ((r0.size+s_0.size)≤9223372036854775807)) then
 some (r0++s_0)
 else none
noncomputable def Rt:OAF:=PAF SY
theorem EAY:Tells ctx PP 180 cv3 cv3 (fun a=>Rt a):=fn_ok0 (hc Di hl_nil) Tryz.func180 ((fun z0 a=>by kernel_rfl:∀ z0,EntryIs0 ctx PP 180 [] [(147,Ve z0)] cv3 cv3 fun a=>PAF z0 a) SY)
noncomputable def FAY {γ:Type} (F:OAF):Hd ctx γ:=hdl cv3.dec (fun a=>F a) cv3.enc
abbrev J6:=SThing→Option (ByteArray×Bool)
noncomputable def QAF (z0:Ot) (z1:NAF) (z2:Yb) (z3:Js) (z4:OAF) (x_0:SThing):Option (ByteArray×Bool):=
 (z0 x_0).bind fun r0=>
 bif (!r0) then
 some (⟨#[]⟩,false)
 else
 (z1 x_0.fHidden 1).bind fun r1=>
 (z1 x_0.fFixed 2).bind fun r2=>
 (z1 x_0.fSigns 4).bind fun r3=>
 (z1 x_0.fWraps 8).bind fun r4=>
 (z2 x_0.fId).bind fun r5=>
 (z3 x_0.fKind).bind fun r6=>
 bif (decide ((r5.size+r6.size)≤9223372036854775807)) then
 (z3 (w64 ((w64 ((w64 (r1+r2))+r3))+r4))).bind fun r7=>
 bif (decide (((r5++r6).size+r7.size)≤9223372036854775807)) then
 (z4 x_0.fValue).bind fun r8=>
 bif (decide ((((r5++r6)++r7).size+r8.size)≤9223372036854775807)) then
 (z2 x_0.fNext).bind fun r9=>
 bif (decide (((((r5++r6)++r7)++r8).size+r9.size)≤9223372036854775807)) then
 some (((((r5++r6)++r7)++r8)++r9),true)
 else none
 else none
 else none
 else none
noncomputable def Ji:J6:=QAF Af H6 SY Ye Rt
theorem BAO:Tells ctx PP 148 cv16 cv18 (fun a=>Ji a):=fn_ok0 (hc ZAN (hc BAY (hc Di (hc QAN (hc EAY hl_nil))))) Tryz.func148 ((fun z0 z1 z2 z3 z4 a=>by kernel_rfl:∀ z0 z1 z2 z3 z4,EntryIs0 ctx PP 148 [] [(120,MAF z0),(178,CAY z1),(147,Ve z2),(179,SAE z3),(180,FAY z4)] cv16 cv18 fun a=>QAF z0 z1 z2 z3 z4 a) Af H6 SY Ye Rt)
noncomputable def CAO {γ:Type} (F:J6):Hd ctx γ:=hdl cv16.dec (fun a=>F a) cv18.enc
abbrev RAF:=ByteArray→Option (SThing×Bool)
noncomputable def L6 (z0:Kt) (z1:Z5) (z2:KAF) (z3:J6) (text_0:ByteArray):Option (SThing×Bool):=
 (z0 ⟨text_0,0,false⟩).bind fun r0=>
 (z1 r0.2).bind fun r1=>
 (z1 r1.2).bind fun r2=>
 (z2 r2.2).bind fun r3=>
 (z0 r3.2).bind fun r4=>
 (z3 ⟨r0.1,r1.1,((r2.1.tmod 2) == 1),(((w64 (r2.1.tdiv 2)).tmod 2) == 1),(((w64 (r2.1.tdiv 4)).tmod 2) == 1),(((w64 (r2.1.tdiv 8)).tmod 2) == 1),r3.1,r4.1⟩).bind fun r5=>
 bif r4.2.fBad then
 some (⟨0,0,false,false,false,false,⟨#[]⟩,0⟩,false)
 else
 bif (!r5.2) then
  some (⟨0,0,false,false,false,false,⟨#[]⟩,0⟩,false)
 else
  bif (!((ByteArray.toList r5.1) == (ByteArray.toList text_0))) then
  some (⟨0,0,false,false,false,false,⟨#[]⟩,0⟩,false)
  else
  some (⟨r0.1,r1.1,((r2.1.tmod 2) == 1),(((w64 (r2.1.tdiv 2)).tmod 2) == 1),(((w64 (r2.1.tdiv 4)).tmod 2) == 1),(((w64 (r2.1.tdiv 8)).tmod 2) == 1),r3.1,r4.1⟩,true)
noncomputable def Og:RAF:=L6 Ac Ya Ii Ji
theorem GAY:Tells ctx PP 201 cv3 cv22 (fun a=>Og a):=fn_ok0 (hc IAF (hc XAN (hc ZAX (hc BAO hl_nil)))) Tryz.func201 ((fun z0 z1 z2 z3 a=>by kernel_rfl:∀ z0 z1 z2 z3,EntryIs0 ctx PP 201 [] [(200,JAF z0),(198,YAN z1),(213,AAY z2),(148,CAO z3)] cv3 cv22 fun a=>L6 z0 z1 z2 z3 a) Ac Ya Ii Ji)
noncomputable def HAY {γ:Type} (F:RAF):Hd ctx γ:=hdl cv3.dec (fun a=>F a) cv22.enc
abbrev Tt:=SRec→Option (ByteArray×Bool)
noncomputable def SAF (z0:XY) (z1:Yb) (z2:J6) (r_0:SRec):Option (ByteArray×Bool):=
 bif (r_0.fKind == 1) then
 bif ((r_0.fText.size:Int) == 32) then
  bif (r_0.fNum == 0) then
  bif ((r_0.fThing.fId == 0) && ((r_0.fThing.fKind == 0) && ((r_0.fThing.fHidden == false) && ((r_0.fThing.fFixed == false) && ((r_0.fThing.fSigns == false) && ((r_0.fThing.fWraps == false) && (((ByteArray.toList r_0.fThing.fValue) == (ByteArray.toList ⟨#[]⟩)) && ((r_0.fThing.fNext == 0) && true)))))))) then
   bif (decide (((⟨#[1]⟩:ByteArray).size+r_0.fText.size)≤9223372036854775807)) then
   some (((⟨#[1]⟩:ByteArray)++r_0.fText),true)
   else none
  else
   some (⟨#[]⟩,false)
  else
  some (⟨#[]⟩,false)
 else
  some (⟨#[]⟩,false)
 else
 bif (r_0.fKind == 2) then
  bif ((ByteArray.toList r_0.fText) == (ByteArray.toList ⟨#[]⟩)) then
  bif ((r_0.fThing.fId == 0) && ((r_0.fThing.fKind == 0) && ((r_0.fThing.fHidden == false) && ((r_0.fThing.fFixed == false) && ((r_0.fThing.fSigns == false) && ((r_0.fThing.fWraps == false) && (((ByteArray.toList r_0.fThing.fValue) == (ByteArray.toList ⟨#[]⟩)) && ((r_0.fThing.fNext == 0) && true)))))))) then
   (z0 r_0.fNum 0 3).bind fun r0=>
   bif r0 then
   (z1 r_0.fNum).bind fun r1=>
   bif (decide (((⟨#[2]⟩:ByteArray).size+r1.size)≤9223372036854775807)) then
   some (((⟨#[2]⟩:ByteArray)++r1),true)
   else none
   else
   some (⟨#[]⟩,false)
  else
   some (⟨#[]⟩,false)
  else
  some (⟨#[]⟩,false)
 else
  bif (r_0.fKind == 3) then
  (z2 r_0.fThing).bind fun r2=>
  bif r2.2 then
   bif ((ByteArray.toList r_0.fText) == (ByteArray.toList ⟨#[]⟩)) then
   bif (r_0.fNum == 0) then
    bif (decide (((⟨#[3]⟩:ByteArray).size+r2.1.size)≤9223372036854775807)) then
    some (((⟨#[3]⟩:ByteArray)++r2.1),true)
    else none
   else
    some (⟨#[]⟩,false)
   else
   some (⟨#[]⟩,false)
  else
   some (⟨#[]⟩,false)
  else
  bif (r_0.fKind == 4) then
   bif ((ByteArray.toList r_0.fText) == (ByteArray.toList ⟨#[]⟩)) then
   bif ((r_0.fThing.fId == 0) && ((r_0.fThing.fKind == 0) && ((r_0.fThing.fHidden == false) && ((r_0.fThing.fFixed == false) && ((r_0.fThing.fSigns == false) && ((r_0.fThing.fWraps == false) && (((ByteArray.toList r_0.fThing.fValue) == (ByteArray.toList ⟨#[]⟩)) && ((r_0.fThing.fNext == 0) && true)))))))) then
    (z0 r_0.fNum 1 1000).bind fun r3=>
    bif r3 then
    (z1 r_0.fNum).bind fun r4=>
    bif (decide (((⟨#[4]⟩:ByteArray).size+r4.size)≤9223372036854775807)) then
    some (((⟨#[4]⟩:ByteArray)++r4),true)
    else none
    else
    some (⟨#[]⟩,false)
   else
    some (⟨#[]⟩,false)
   else
   some (⟨#[]⟩,false)
  else
   some (⟨#[]⟩,false)
noncomputable def Bf:Tt:=SAF SX SY Ji
theorem DAO:Tells ctx PP 92 cv19 cv18 (fun a=>Bf a):=fn_ok0 (hc Vb (hc Di (hc BAO hl_nil))) Tryz.func92 ((fun z0 z1 z2 a=>by kernel_rfl:∀ z0 z1 z2,EntryIs0 ctx PP 92 [] [(50,GZ z0),(147,Ve z1),(148,CAO z2)] cv19 cv18 fun a=>SAF z0 z1 z2 a) SX SY Ji)
noncomputable def TAF {γ:Type} (F:Tt):Hd ctx γ:=hdl cv19.dec (fun a=>F a) cv18.enc
abbrev O6:=ByteArray→Option (SRec×Bool)
noncomputable def Oi (z0:Z5) (z1:Jt) (z2:Kt) (z3:RAF) (z4:Tt) (text_0:ByteArray):Option (SRec×Bool):=
 (z0 ⟨text_0,0,false⟩).bind fun r0=>
 bif (r0.1 == 1) then
 (z1 r0.2 32).bind fun r1=>
 (z4 ⟨r0.1,r1.1,0,⟨0,0,false,false,false,false,⟨#[]⟩,0⟩⟩).bind fun r2=>
 bif r1.2.fBad then
  some (⟨0,⟨#[]⟩,0,⟨0,0,false,false,false,false,⟨#[]⟩,0⟩⟩,false)
 else
  bif (!r2.2) then
  some (⟨0,⟨#[]⟩,0,⟨0,0,false,false,false,false,⟨#[]⟩,0⟩⟩,false)
  else
  bif (!((ByteArray.toList r2.1) == (ByteArray.toList text_0))) then
   some (⟨0,⟨#[]⟩,0,⟨0,0,false,false,false,false,⟨#[]⟩,0⟩⟩,false)
  else
   some (⟨r0.1,r1.1,0,⟨0,0,false,false,false,false,⟨#[]⟩,0⟩⟩,true)
 else
 bif (r0.1 == 2) then
  bif (r0.1 == 2) then
  (z2 r0.2).bind fun r3=>
  (z4 ⟨r0.1,⟨#[]⟩,r3.1,⟨0,0,false,false,false,false,⟨#[]⟩,0⟩⟩).bind fun r4=>
  bif r3.2.fBad then
   some (⟨0,⟨#[]⟩,0,⟨0,0,false,false,false,false,⟨#[]⟩,0⟩⟩,false)
  else
   bif (!r4.2) then
   some (⟨0,⟨#[]⟩,0,⟨0,0,false,false,false,false,⟨#[]⟩,0⟩⟩,false)
   else
   bif (!((ByteArray.toList r4.1) == (ByteArray.toList text_0))) then
    some (⟨0,⟨#[]⟩,0,⟨0,0,false,false,false,false,⟨#[]⟩,0⟩⟩,false)
   else
    some (⟨r0.1,⟨#[]⟩,r3.1,⟨0,0,false,false,false,false,⟨#[]⟩,0⟩⟩,true)
  else
  bif (r0.1 == 3) then
   bif ((decide ((0:Int)≤(1:Int))) && (decide (1≤(text_0.size:Int)))) then
   (z3 (text_0.extract (1:Int).toNat text_0.size)).bind fun r5=>
   (z4 ⟨r0.1,⟨#[]⟩,0,r5.1⟩).bind fun r6=>
   bif r0.2.fBad then
   some (⟨0,⟨#[]⟩,0,⟨0,0,false,false,false,false,⟨#[]⟩,0⟩⟩,false)
   else
   bif (!r6.2) then
    some (⟨0,⟨#[]⟩,0,⟨0,0,false,false,false,false,⟨#[]⟩,0⟩⟩,false)
   else
    bif (!((ByteArray.toList r6.1) == (ByteArray.toList text_0))) then
    some (⟨0,⟨#[]⟩,0,⟨0,0,false,false,false,false,⟨#[]⟩,0⟩⟩,false)
    else
    some (⟨r0.1,⟨#[]⟩,0,r5.1⟩,true)
   else none
  else
   (z4 ⟨r0.1,⟨#[]⟩,0,⟨0,0,false,false,false,false,⟨#[]⟩,0⟩⟩).bind fun r7=>
   bif r0.2.fBad then
   some (⟨0,⟨#[]⟩,0,⟨0,0,false,false,false,false,⟨#[]⟩,0⟩⟩,false)
   else
   bif (!r7.2) then
    some (⟨0,⟨#[]⟩,0,⟨0,0,false,false,false,false,⟨#[]⟩,0⟩⟩,false)
   else
    bif (!((ByteArray.toList r7.1) == (ByteArray.toList text_0))) then
    some (⟨0,⟨#[]⟩,0,⟨0,0,false,false,false,false,⟨#[]⟩,0⟩⟩,false)
    else
    some (⟨r0.1,⟨#[]⟩,0,⟨0,0,false,false,false,false,⟨#[]⟩,0⟩⟩,true)
 else
  bif (r0.1 == 4) then
  (z2 r0.2).bind fun r8=>
  (z4 ⟨r0.1,⟨#[]⟩,r8.1,⟨0,0,false,false,false,false,⟨#[]⟩,0⟩⟩).bind fun r9=>
  bif r8.2.fBad then
   some (⟨0,⟨#[]⟩,0,⟨0,0,false,false,false,false,⟨#[]⟩,0⟩⟩,false)
  else
   bif (!r9.2) then
   some (⟨0,⟨#[]⟩,0,⟨0,0,false,false,false,false,⟨#[]⟩,0⟩⟩,false)
   else
   bif (!((ByteArray.toList r9.1) == (ByteArray.toList text_0))) then
    some (⟨0,⟨#[]⟩,0,⟨0,0,false,false,false,false,⟨#[]⟩,0⟩⟩,false)
   else
    some (⟨r0.1,⟨#[]⟩,r8.1,⟨0,0,false,false,false,false,⟨#[]⟩,0⟩⟩,true)
  else
  bif (r0.1 == 3) then
   bif ((decide ((0:Int)≤(1:Int))) && (decide (1≤(text_0.size:Int)))) then
   (z3 (text_0.extract (1:Int).toNat text_0.size)).bind fun r10=>
   (z4 ⟨r0.1,⟨#[]⟩,0,r10.1⟩).bind fun r11=>
   bif r0.2.fBad then
   some (⟨0,⟨#[]⟩,0,⟨0,0,false,false,false,false,⟨#[]⟩,0⟩⟩,false)
   else
   bif (!r11.2) then
    some (⟨0,⟨#[]⟩,0,⟨0,0,false,false,false,false,⟨#[]⟩,0⟩⟩,false)
   else
    bif (!((ByteArray.toList r11.1) == (ByteArray.toList text_0))) then
    some (⟨0,⟨#[]⟩,0,⟨0,0,false,false,false,false,⟨#[]⟩,0⟩⟩,false)
    else
    some (⟨r0.1,⟨#[]⟩,0,r10.1⟩,true)
   else none
  else
   (z4 ⟨r0.1,⟨#[]⟩,0,⟨0,0,false,false,false,false,⟨#[]⟩,0⟩⟩).bind fun r12=>
   bif r0.2.fBad then
   some (⟨0,⟨#[]⟩,0,⟨0,0,false,false,false,false,⟨#[]⟩,0⟩⟩,false)
   else
   bif (!r12.2) then
    some (⟨0,⟨#[]⟩,0,⟨0,0,false,false,false,false,⟨#[]⟩,0⟩⟩,false)
   else
    bif (!((ByteArray.toList r12.1) == (ByteArray.toList text_0))) then
    some (⟨0,⟨#[]⟩,0,⟨0,0,false,false,false,false,⟨#[]⟩,0⟩⟩,false)
    else
    some (⟨r0.1,⟨#[]⟩,0,⟨0,0,false,false,false,false,⟨#[]⟩,0⟩⟩,true)
noncomputable def XZ:O6:=Oi Ya Xa Ac Og Bf
theorem IAY:Tells ctx PP 166 cv3 cv111 (fun a=>XZ a):=fn_ok0 (hc XAN (hc GAF (hc IAF (hc GAY (hc DAO hl_nil))))) Tryz.func166 ((fun z0 z1 z2 z3 z4 a=>by kernel_rfl:∀ z0 z1 z2 z3 z4,EntryIs0 ctx PP 166 [] [(198,YAN z0),(199,HAF z1),(200,JAF z2),(201,HAY z3),(92,TAF z4)] cv3 cv111 fun a=>Oi z0 z1 z2 z3 z4 a) Ya Xa Ac Og Bf)
noncomputable def EAO {γ:Type} (F:O6):Hd ctx γ:=hdl cv3.dec (fun a=>F a) cv111.enc
abbrev UAF:=ByteArray→ByteArray→Option ((List SRec)×Int)
inductive Ut where
 | c0 (key_0:ByteArray) (end_9:Int) (i_10:Int) (out_6:(List SRec)) (list_7:(List ByteArray))
noncomputable def FAO:Ut→LI
 | .c0 key_0 end_9 i_10 out_6 list_7=>(tdo Tryz.f118 2000,[(0,[.one (.str key_0)]),(6,[.one (.own 432)]),(7,[.one (.own 496)]),(9,[.one (.int .i64 end_9)]),(10,[.one (.int .i64 i_10)])],[(432,.sl 71 out_6),(496,.sl 9 list_7)])
noncomputable def VAF (z0:J5) (z1:X5) (z2:O6) (z3:Wl) (k:Ut→Option ((List SRec)×Int)) (key_0:ByteArray) (file_1:ByteArray):Option ((List SRec)×Int):=
 (z0 file_1).bind fun r0=>
 k (.c0 key_0 0 0 [] r0.1)
noncomputable def P6 (z0:J5) (z1:X5) (z2:O6) (z3:Wl) (k:Ut→Option ((List SRec)×Int)):Ut→Option ((List SRec)×Int)
 | .c0 key_0 end_9 i_10 out_6 list_7=>
 bif (decide (i_10<(list_7.length:Int))) then
  bif ((decide (0≤i_10)) && (decide (i_10<(list_7.length:Int)))) then
  (z1 key_0 (w64 (i_10+1)) (list_7.getD i_10.toNat (⟨#[]⟩:ByteArray))).bind fun r0=>
  (z2 r0.1).bind fun r1=>
  bif (!r0.2) then
  some (out_6,end_9)
  else
  bif (!r1.2) then
   some (out_6,end_9)
  else
   bif (decide (((out_6.length+1)*80)≤140737488355328)) then
   bif ((decide (0≤i_10)) && (decide (i_10<(list_7.length:Int)))) then
   (z3 (list_7.getD i_10.toNat (⟨#[]⟩:ByteArray))).bind fun r2=>
   k (.c0 key_0 (w64 (end_9+(r2.1.size:Int))) (w64 (i_10+1)) (out_6++[r1.1]) list_7)
   else none
   else none
  else none
 else
  some (out_6,end_9)
noncomputable def Vt:Nat→Ut→Option ((List SRec)×Int)
 | 0,_=>none
 | m+1,s=>P6 Ei Gi XZ Zb (Vt m) s
noncomputable def Xt:UAF:=VAF Ei Gi XZ Zb (Vt gas)
theorem JAY:Tells ctx PP 118 cv29 cv112 (fun a=>Xt a.1 a.2):=
 have b:∀ z0 z1 z2 z3,CutIs ctx PP 118 Tryz.f118 [] [(164,PAN z0),(165,WAN z1),(166,EAO z2),(150,I5 z3)] cv112 FAO (P6 z0 z1 z2 z3):=fun z0 z1 z2 z3 _ s=>by cases s <;> kernel_rfl
 have e:∀ z0 z1 z2 z3,EntryIs ctx PP 118 [] [(164,PAN z0),(165,WAN z1),(166,EAO z2),(150,I5 z3)] cv29 cv112 FAO (fun k a=>VAF z0 z1 z2 z3 k a.1 a.2):=fun z0 z1 z2 z3 _ a=>by kernel_rfl
 fn_ok (hc NAX (hc YAX (hc IAY (hc NAN hl_nil)))) Tryz.func118 (fun s s' h=>by cases s;cases s';cases h;rfl) (fun _=>rfl) (fun _ _=>rfl) (b Ei Gi XZ Zb) (e Ei Gi XZ Zb) gas
noncomputable def KAY {γ:Type} (F:UAF):Hd ctx γ:=hdl cv29.dec (fun a=>F a.1 a.2) cv112.enc
abbrev Yl:=SBook→Option SBook
noncomputable def WAF (b_0:SBook):Option SBook:=
 bif (decide (((0+b_0.fThings.length)*48)≤140737488355328)) then
 some ⟨b_0.fWord,b_0.fTries,([]++b_0.fThings),b_0.fLast,b_0.fChain,b_0.fCount⟩
 else none
noncomputable def Bc:Yl:=WAF
theorem GAO:Tells ctx PP 93 cv20 cv14 (fun a=>Bc a):=fn_ok0 hl_nil Tryz.func93 (fun a=>by kernel_rfl:EntryIs0 ctx PP 93 [] [] cv20 cv14 fun a=>WAF a)
noncomputable def U6 {γ:Type} (F:Yl):Hd ctx γ:=hdl cv20.dec (fun a=>F a) cv14.enc
abbrev Zl:=SBook→Option Bool
inductive Yt where
 | c0 (i_3:Int) (b_1:SBook)
noncomputable def HAO:Yt→LI
 | .c0 i_3 b_1=>(tdo Tryz.f53 464,[(1,[.one (.ptr 64 0)]),(3,[.one (.int .i64 i_3)])],[(64,.var [.str b_1.fWord,.int .i64 b_1.fTries,.rsl 69 b_1.fThings,.int .i64 b_1.fLast,.str b_1.fChain,.int .i64 b_1.fCount])])
noncomputable def XAF (z0:XY) (z1:Ot) (k:Yt→Option Bool) (b_0:SBook):Option Bool:=
 bif ((b_0.fWord.size:Int) != 32) then
 some false
 else
 bif ((b_0.fChain.size:Int) != 32) then
  some false
 else
  (z0 b_0.fTries 0 3).bind fun r0=>
  bif (!r0) then
  some false
  else
  bif (decide ((b_0.fThings.length:Int) > 8)) then
   some false
  else
   (z0 b_0.fLast 0 1000).bind fun r1=>
   bif (!r1) then
   some false
   else
   (z0 b_0.fCount 0 10000).bind fun r2=>
   bif (!r2) then
    some false
   else
    k (.c0 0 b_0)
noncomputable def V6 (z0:XY) (z1:Ot) (k:Yt→Option Bool):Yt→Option Bool
 | .c0 i_3 b_1=>
 bif (decide (i_3<(b_1.fThings.length:Int))) then
  bif ((decide (0≤i_3)) && (decide (i_3<(b_1.fThings.length:Int)))) then
  (z1 (b_1.fThings.getD i_3.toNat (⟨0,0,false,false,false,false,⟨#[]⟩,0⟩:SThing))).bind fun r0=>
  bif (!r0) then
  some false
  else
  bif ((decide (0≤i_3)) && (decide (i_3<(b_1.fThings.length:Int)))) then
  bif (decide ((b_1.fThings.getD i_3.toNat (⟨0,0,false,false,false,false,⟨#[]⟩,0⟩:SThing)).fId > b_1.fLast)) then
   some false
  else
   bif (decide (i_3 > 0)) then
   bif ((decide (0≤(w64 (i_3 - 1)))) && (decide ((w64 (i_3 - 1))<(b_1.fThings.length:Int)))) then
   bif ((decide (0≤i_3)) && (decide (i_3<(b_1.fThings.length:Int)))) then
   bif (decide ((b_1.fThings.getD (w64 (i_3 - 1)).toNat (⟨0,0,false,false,false,false,⟨#[]⟩,0⟩:SThing)).fId≥(b_1.fThings.getD i_3.toNat (⟨0,0,false,false,false,false,⟨#[]⟩,0⟩:SThing)).fId)) then
    some false
   else
    k (.c0 (w64 (i_3+1)) b_1)
   else none
   else none
   else
   k (.c0 (w64 (i_3+1)) b_1)
  else none
  else none
 else
  some true
noncomputable def Qi:Nat→Yt→Option Bool
 | 0,_=>none
 | m+1,s=>V6 SX Af (Qi m) s
noncomputable def Cc:Zl:=XAF SX Af (Qi gas)
theorem IAO:Tells ctx PP 53 cv20 cv6 (fun a=>Cc a):=
 have b:∀ z0 z1,CutIs ctx PP 53 Tryz.f53 [] [(50,GZ z0),(120,MAF z1)] cv6 HAO (V6 z0 z1):=fun z0 z1 _ s=>by cases s <;> kernel_rfl
 have e:∀ z0 z1,EntryIs ctx PP 53 [] [(50,GZ z0),(120,MAF z1)] cv20 cv6 HAO (fun k a=>XAF z0 z1 k a):=fun z0 z1 _ a=>by kernel_rfl
 fn_ok (hc Vb (hc ZAN hl_nil)) Tryz.func53 (fun s s' h=>by cases s;cases s';(repeat cases ‹SBook›);cases h;rfl) (fun _=>rfl) (fun _ _=>rfl) (b SX Af) (e SX Af) gas
noncomputable def X6 {γ:Type} (F:Zl):Hd ctx γ:=hdl cv20.dec (fun a=>F a) cv6.enc
abbrev Am:=SBook→Int→Option (SThing×Bool)
inductive Zt where
 | c0 (id_1:Int) (i_6:Int) (b_2:SBook) (v_4:SThing)
noncomputable def JAO:Zt→LI
 | .c0 id_1 i_6 b_2 v_4=>(tdo Tryz.f94 208,[(1,[.one (.int .i64 id_1)]),(2,[.one (.ptr 128 0)]),(4,[.one (.ptr 256 0)]),(6,[.one (.int .i64 i_6)])],[(128,.var [.str b_2.fWord,.int .i64 b_2.fTries,.rsl 69 b_2.fThings,.int .i64 b_2.fLast,.str b_2.fChain,.int .i64 b_2.fCount]),(256,.var [.int .i64 v_4.fId,.int .i64 v_4.fKind,.bool v_4.fHidden,.bool v_4.fFixed,.bool v_4.fSigns,.bool v_4.fWraps,.str v_4.fValue,.int .i64 v_4.fNext])])
noncomputable def KAO (k:Zt→Option (SThing×Bool)) (b_0:SBook) (id_1:Int):Option (SThing×Bool):=
 k (.c0 id_1 0 b_0 ⟨0,0,false,false,false,false,⟨#[]⟩,0⟩)
noncomputable def Y6 (k:Zt→Option (SThing×Bool)):Zt→Option (SThing×Bool)
 | .c0 id_1 i_6 b_2 v_4=>
 bif (decide (i_6<(b_2.fThings.length:Int))) then
  bif ((decide (0≤i_6)) && (decide (i_6<(b_2.fThings.length:Int)))) then
  bif ((b_2.fThings.getD i_6.toNat (⟨0,0,false,false,false,false,⟨#[]⟩,0⟩:SThing)).fId == id_1) then
  bif ((decide (0≤i_6)) && (decide (i_6<(b_2.fThings.length:Int)))) then
  some ((b_2.fThings.getD i_6.toNat (⟨0,0,false,false,false,false,⟨#[]⟩,0⟩:SThing)),true)
  else none
  else
  k (.c0 id_1 (w64 (i_6+1)) b_2 v_4)
  else none
 else
  some (⟨0,0,false,false,false,false,⟨#[]⟩,0⟩,false)
noncomputable def Cm:Nat→Zt→Option (SThing×Bool)
 | 0,_=>none
 | m+1,s=>Y6 (Cm m) s
noncomputable def Vd:Am:=KAO (Cm gas)
theorem LAO:Tells ctx PP 94 cv21 cv22 (fun a=>Vd a.1 a.2):=
 have b:CutIs ctx PP 94 Tryz.f94 [] [] cv22 JAO (Y6):=fun _ s=>by cases s <;> kernel_rfl
 have e:EntryIs ctx PP 94 [] [] cv21 cv22 JAO (fun k a=>KAO k a.1 a.2):=fun _ a=>by kernel_rfl
 fn_ok hl_nil Tryz.func94 (fun s s' h=>by cases s;cases s';(repeat cases ‹SBook›);(repeat cases ‹SThing›);cases h;rfl) (fun _=>rfl) (fun _ _=>rfl) b e gas
noncomputable def D7 {γ:Type} (F:Am):Hd ctx γ:=hdl cv21.dec (fun a=>F a.1 a.2) cv22.enc
abbrev F7:=SThing→SThing→Option Bool
noncomputable def YAF (a_0:SThing) (b_1:SThing):Option Bool:=
 bif (a_0.fKind == b_1.fKind) then
 bif ((ByteArray.toList a_0.fValue) == (ByteArray.toList b_1.fValue)) then
  bif (a_0.fSigns == b_1.fSigns) then
  bif (a_0.fWraps == b_1.fWraps) then
   bif (decide (a_0.fNext≤b_1.fNext)) then
   bif b_1.fHidden then
    bif b_1.fFixed then
    some true
    else
    some (!a_0.fFixed)
   else
    bif (!a_0.fHidden) then
    bif b_1.fFixed then
     some true
    else
     some (!a_0.fFixed)
    else
    some false
   else
   some false
  else
   some false
  else
  some false
 else
  some false
 else
 some false
noncomputable def Ri:F7:=YAF
theorem NAY:Tells ctx PP 95 cv23 cv6 (fun a=>Ri a.1 a.2):=fn_ok0 hl_nil Tryz.func95 (fun a=>by kernel_rfl:EntryIs0 ctx PP 95 [] [] cv23 cv6 fun a=>YAF a.1 a.2)
noncomputable def MAO {γ:Type} (F:F7):Hd ctx γ:=hdl cv23.dec (fun a=>F a.1 a.2) cv6.enc
abbrev G7:=(List SThing)→SThing→Option (List SThing)
inductive Au where
 | c0 (list_0:(List SThing)) (i_6:Int) (x_3:SThing) (out_5:(List SThing))
 | c1 (list_0:(List SThing)) (i_7:Int) (x_3:SThing) (out_5:(List SThing))
noncomputable def NAO:Au→LI
 | .c0 list_0 i_6 x_3 out_5=>(tdo Tryz.f96 464,[(0,[.one (.rsl 69 list_0)]),(3,[.one (.ptr 192 0)]),(5,[.one (.own 368)]),(6,[.one (.int .i64 i_6)])],[(192,.var [.int .i64 x_3.fId,.int .i64 x_3.fKind,.bool x_3.fHidden,.bool x_3.fFixed,.bool x_3.fSigns,.bool x_3.fWraps,.str x_3.fValue,.int .i64 x_3.fNext]),(368,.sl 69 out_5)])
 | .c1 list_0 i_7 x_3 out_5=>(tdo Tryz.f96 2000,[(0,[.one (.rsl 69 list_0)]),(3,[.one (.ptr 192 0)]),(5,[.one (.own 368)]),(7,[.one (.int .i64 i_7)])],[(192,.var [.int .i64 x_3.fId,.int .i64 x_3.fKind,.bool x_3.fHidden,.bool x_3.fFixed,.bool x_3.fSigns,.bool x_3.fWraps,.str x_3.fValue,.int .i64 x_3.fNext]),(368,.sl 69 out_5)])
noncomputable def ZAF (k:Au→Option (List SThing)) (list_0:(List SThing)) (x_1:SThing):Option (List SThing):=
 k (.c0 list_0 0 x_1 [])
noncomputable def Em (k:Au→Option (List SThing)):Au→Option (List SThing)
 | .c0 list_0 i_6 x_3 out_5=>
 bif (decide (i_6<(list_0.length:Int))) then
  bif ((decide (0≤i_6)) && (decide (i_6<(list_0.length:Int)))) then
  bif (decide ((list_0.getD i_6.toNat (⟨0,0,false,false,false,false,⟨#[]⟩,0⟩:SThing)).fId<x_3.fId)) then
  bif ((decide (0≤i_6)) && (decide (i_6<(list_0.length:Int)))) then
  bif (decide (((out_5.length+1)*48)≤140737488355328)) then
  k (.c0 list_0 (w64 (i_6+1)) x_3 (out_5++[(list_0.getD i_6.toNat (⟨0,0,false,false,false,false,⟨#[]⟩,0⟩:SThing))]))
  else none
  else none
  else
  k (.c0 list_0 (w64 (i_6+1)) x_3 out_5)
  else none
 else
  bif (decide (((out_5.length+1)*48)≤140737488355328)) then
  k (.c1 list_0 0 x_3 (out_5++[x_3]))
  else none
 | .c1 list_0 i_7 x_3 out_5=>
 bif (decide (i_7<(list_0.length:Int))) then
  bif ((decide (0≤i_7)) && (decide (i_7<(list_0.length:Int)))) then
  bif (decide ((list_0.getD i_7.toNat (⟨0,0,false,false,false,false,⟨#[]⟩,0⟩:SThing)).fId > x_3.fId)) then
  bif ((decide (0≤i_7)) && (decide (i_7<(list_0.length:Int)))) then
  bif (decide (((out_5.length+1)*48)≤140737488355328)) then
  k (.c1 list_0 (w64 (i_7+1)) x_3 (out_5++[(list_0.getD i_7.toNat (⟨0,0,false,false,false,false,⟨#[]⟩,0⟩:SThing))]))
  else none
  else none
  else
  k (.c1 list_0 (w64 (i_7+1)) x_3 out_5)
  else none
 else
  some out_5
noncomputable def Df:Nat→Au→Option (List SThing)
 | 0,_=>none
 | m+1,s=>Em (Df m) s
noncomputable def Si:G7:=ZAF (Df gas)
theorem OAY:Tells ctx PP 96 cv24 cv25 (fun a=>Si a.1 a.2):=
 have b:CutIs ctx PP 96 Tryz.f96 [] [] cv25 NAO (Em):=fun _ s=>by cases s <;> kernel_rfl
 have e:EntryIs ctx PP 96 [] [] cv24 cv25 NAO (fun k a=>ZAF k a.1 a.2):=fun _ a=>by kernel_rfl
 fn_ok hl_nil Tryz.func96 (fun s s' h=>by cases s <;> cases s' <;> first | ((repeat cases ‹SThing›);cases h;done) | ((repeat cases ‹SThing›);cases h;rfl) | exact (rg_ne h (by kernel_rfl)).elim) (fun _=>rfl) (fun _ _=>rfl) b e gas
noncomputable def OAO {γ:Type} (F:G7):Hd ctx γ:=hdl cv24.dec (fun a=>F a.1 a.2) cv25.enc
abbrev H7:=SBook→SRec→Option (SBook×Bool)
inductive Du where
 | c0 (y_6:ByteArray) (v_14:Int) (A_2:SBook) (r_3:SRec) (r_4c0:ByteArray) (r_4c1:Int) (r_4c3:Int) (r_4c4:ByteArray) (r_4c5:Int) (v_8c0:ByteArray) (v_8c1:Int) (v_8c3:Int) (v_8c4:ByteArray) (v_8c5:Int) (v_13:(List SThing)) (r_4r2:(List SThing)) (v_8r2:(List SThing))
noncomputable def PAO:Du→LI
 | .c0 y_6 v_14 A_2 r_3 r_4c0 r_4c1 r_4c3 r_4c4 r_4c5 v_8c0 v_8c1 v_8c3 v_8c4 v_8c5 v_13 r_4r2 v_8r2=>(tdo Tryz.f27 32898512,[(2,[.one (.ptr 128 0)]),(3,[.one (.ptr 192 0)]),(4,[.one (.ptr 256 0)]),(6,[.one (.str y_6)]),(8,[.one (.ptr 512 0)]),(13,[.one (.own 880)]),(14,[.one (.int .i64 v_14)])],[(128,.var [.str A_2.fWord,.int .i64 A_2.fTries,.rsl 69 A_2.fThings,.int .i64 A_2.fLast,.str A_2.fChain,.int .i64 A_2.fCount]),(192,.var [.int .i64 r_3.fKind,.str r_3.fText,.int .i64 r_3.fNum,.int .i64 r_3.fThing.fId,.int .i64 r_3.fThing.fKind,.bool r_3.fThing.fHidden,.bool r_3.fThing.fFixed,.bool r_3.fThing.fSigns,.bool r_3.fThing.fWraps,.str r_3.fThing.fValue,.int .i64 r_3.fThing.fNext]),(256,.var [.str r_4c0,.int .i64 r_4c1,.own 1016386,.int .i64 r_4c3,.str r_4c4,.int .i64 r_4c5]),(512,.var [.str v_8c0,.int .i64 v_8c1,.own 1032770,.int .i64 v_8c3,.str v_8c4,.int .i64 v_8c5]),(880,.sl 69 v_13),(1016386,.sl 69 r_4r2),(1032770,.sl 69 v_8r2)])
noncomputable def AAG (z0:Tt) (z1:Zl) (z2:Yl) (z3:Am) (z4:F7) (z5:G7) (z6:Jg) (k:Du→Option (SBook×Bool)) (t_0:SBook) (o_1:SRec):Option (SBook×Bool):=
 (z0 o_1).bind fun r0=>
 (z1 t_0).bind fun r1=>
 bif (!r1) then
 some (⟨⟨#[]⟩,0,[],0,⟨#[]⟩,0⟩,false)
 else
 bif (!r0.2) then
  some (⟨⟨#[]⟩,0,[],0,⟨#[]⟩,0⟩,false)
 else
  bif (t_0.fCount == 10000) then
  some (⟨⟨#[]⟩,0,[],0,⟨#[]⟩,0⟩,false)
  else
  (z2 t_0).bind fun r2=>
  bif (o_1.fKind == 1) then
   bif (decide ((t_0.fChain.size+r0.1.size)≤9223372036854775807)) then
   (z6 (t_0.fChain++r0.1)).bind fun r3=>
   (z1 ⟨o_1.fText,0,r2.fThings,r2.fLast,r3,(w64 (t_0.fCount+1))⟩).bind fun r4=>
   bif (!r4) then
   some (⟨⟨#[]⟩,0,[],0,⟨#[]⟩,0⟩,false)
   else
   some (⟨o_1.fText,0,r2.fThings,r2.fLast,r3,(w64 (t_0.fCount+1))⟩,true)
   else none
  else
   bif (o_1.fKind == 2) then
   bif (decide ((t_0.fChain.size+r0.1.size)≤9223372036854775807)) then
   (z6 (t_0.fChain++r0.1)).bind fun r5=>
   (z1 ⟨r2.fWord,o_1.fNum,r2.fThings,r2.fLast,r5,(w64 (t_0.fCount+1))⟩).bind fun r6=>
   bif (!r6) then
    some (⟨⟨#[]⟩,0,[],0,⟨#[]⟩,0⟩,false)
   else
    some (⟨r2.fWord,o_1.fNum,r2.fThings,r2.fLast,r5,(w64 (t_0.fCount+1))⟩,true)
   else none
   else
   bif (o_1.fKind == 3) then
    (z3 t_0 o_1.fThing.fId).bind fun r7=>
    bif r7.2 then
    (z4 r7.1 o_1.fThing).bind fun r8=>
    bif (!r8) then
     some (⟨⟨#[]⟩,0,[],0,⟨#[]⟩,0⟩,false)
    else
     bif (!r7.2) then
     bif (o_1.fThing.fId != (w64 (t_0.fLast+1))) then
      some (⟨⟨#[]⟩,0,[],0,⟨#[]⟩,0⟩,false)
     else
      bif ((t_0.fThings.length:Int) == 8) then
      some (⟨⟨#[]⟩,0,[],0,⟨#[]⟩,0⟩,false)
      else
      bif (!r7.2) then
       (z5 t_0.fThings o_1.fThing).bind fun r9=>
       bif (decide ((t_0.fChain.size+r0.1.size)≤9223372036854775807)) then
       (z6 (t_0.fChain++r0.1)).bind fun r10=>
       (z1 ⟨r2.fWord,r2.fTries,r9,o_1.fThing.fId,r10,(w64 (t_0.fCount+1))⟩).bind fun r11=>
       bif (!r11) then
       some (⟨⟨#[]⟩,0,[],0,⟨#[]⟩,0⟩,false)
       else
       some (⟨r2.fWord,r2.fTries,r9,o_1.fThing.fId,r10,(w64 (t_0.fCount+1))⟩,true)
       else none
      else
       (z5 t_0.fThings o_1.fThing).bind fun r12=>
       bif (decide ((t_0.fChain.size+r0.1.size)≤9223372036854775807)) then
       (z6 (t_0.fChain++r0.1)).bind fun r13=>
       (z1 ⟨r2.fWord,r2.fTries,r12,r2.fLast,r13,(w64 (t_0.fCount+1))⟩).bind fun r14=>
       bif (!r14) then
       some (⟨⟨#[]⟩,0,[],0,⟨#[]⟩,0⟩,false)
       else
       some (⟨r2.fWord,r2.fTries,r12,r2.fLast,r13,(w64 (t_0.fCount+1))⟩,true)
       else none
     else
     bif (!r7.2) then
      (z5 t_0.fThings o_1.fThing).bind fun r15=>
      bif (decide ((t_0.fChain.size+r0.1.size)≤9223372036854775807)) then
      (z6 (t_0.fChain++r0.1)).bind fun r16=>
      (z1 ⟨r2.fWord,r2.fTries,r15,o_1.fThing.fId,r16,(w64 (t_0.fCount+1))⟩).bind fun r17=>
      bif (!r17) then
      some (⟨⟨#[]⟩,0,[],0,⟨#[]⟩,0⟩,false)
      else
      some (⟨r2.fWord,r2.fTries,r15,o_1.fThing.fId,r16,(w64 (t_0.fCount+1))⟩,true)
      else none
     else
      (z5 t_0.fThings o_1.fThing).bind fun r18=>
      bif (decide ((t_0.fChain.size+r0.1.size)≤9223372036854775807)) then
      (z6 (t_0.fChain++r0.1)).bind fun r19=>
      (z1 ⟨r2.fWord,r2.fTries,r18,r2.fLast,r19,(w64 (t_0.fCount+1))⟩).bind fun r20=>
      bif (!r20) then
      some (⟨⟨#[]⟩,0,[],0,⟨#[]⟩,0⟩,false)
      else
      some (⟨r2.fWord,r2.fTries,r18,r2.fLast,r19,(w64 (t_0.fCount+1))⟩,true)
      else none
    else
    bif (!r7.2) then
     bif (o_1.fThing.fId != (w64 (t_0.fLast+1))) then
     some (⟨⟨#[]⟩,0,[],0,⟨#[]⟩,0⟩,false)
     else
     bif ((t_0.fThings.length:Int) == 8) then
      some (⟨⟨#[]⟩,0,[],0,⟨#[]⟩,0⟩,false)
     else
      bif (!r7.2) then
      (z5 t_0.fThings o_1.fThing).bind fun r21=>
      bif (decide ((t_0.fChain.size+r0.1.size)≤9223372036854775807)) then
      (z6 (t_0.fChain++r0.1)).bind fun r22=>
      (z1 ⟨r2.fWord,r2.fTries,r21,o_1.fThing.fId,r22,(w64 (t_0.fCount+1))⟩).bind fun r23=>
      bif (!r23) then
       some (⟨⟨#[]⟩,0,[],0,⟨#[]⟩,0⟩,false)
      else
       some (⟨r2.fWord,r2.fTries,r21,o_1.fThing.fId,r22,(w64 (t_0.fCount+1))⟩,true)
      else none
      else
      (z5 t_0.fThings o_1.fThing).bind fun r24=>
      bif (decide ((t_0.fChain.size+r0.1.size)≤9223372036854775807)) then
      (z6 (t_0.fChain++r0.1)).bind fun r25=>
      (z1 ⟨r2.fWord,r2.fTries,r24,r2.fLast,r25,(w64 (t_0.fCount+1))⟩).bind fun r26=>
      bif (!r26) then
       some (⟨⟨#[]⟩,0,[],0,⟨#[]⟩,0⟩,false)
      else
       some (⟨r2.fWord,r2.fTries,r24,r2.fLast,r25,(w64 (t_0.fCount+1))⟩,true)
      else none
    else
     bif (!r7.2) then
     (z5 t_0.fThings o_1.fThing).bind fun r27=>
     bif (decide ((t_0.fChain.size+r0.1.size)≤9223372036854775807)) then
     (z6 (t_0.fChain++r0.1)).bind fun r28=>
     (z1 ⟨r2.fWord,r2.fTries,r27,o_1.fThing.fId,r28,(w64 (t_0.fCount+1))⟩).bind fun r29=>
     bif (!r29) then
      some (⟨⟨#[]⟩,0,[],0,⟨#[]⟩,0⟩,false)
     else
      some (⟨r2.fWord,r2.fTries,r27,o_1.fThing.fId,r28,(w64 (t_0.fCount+1))⟩,true)
     else none
     else
     (z5 t_0.fThings o_1.fThing).bind fun r30=>
     bif (decide ((t_0.fChain.size+r0.1.size)≤9223372036854775807)) then
     (z6 (t_0.fChain++r0.1)).bind fun r31=>
     (z1 ⟨r2.fWord,r2.fTries,r30,r2.fLast,r31,(w64 (t_0.fCount+1))⟩).bind fun r32=>
     bif (!r32) then
      some (⟨⟨#[]⟩,0,[],0,⟨#[]⟩,0⟩,false)
     else
      some (⟨r2.fWord,r2.fTries,r30,r2.fLast,r31,(w64 (t_0.fCount+1))⟩,true)
     else none
   else
    bif (o_1.fKind == 4) then
    (z3 t_0 o_1.fNum).bind fun r33=>
    bif (!r33.2) then
     some (⟨⟨#[]⟩,0,[],0,⟨#[]⟩,0⟩,false)
    else
     k (.c0 r0.1 0 t_0 o_1 ⟨#[]⟩ 0 0 ⟨#[]⟩ 0 r2.fWord r2.fTries r2.fLast r2.fChain r2.fCount [] [] r2.fThings)
    else
    bif (decide ((t_0.fChain.size+r0.1.size)≤9223372036854775807)) then
    (z6 (t_0.fChain++r0.1)).bind fun r34=>
    (z1 ⟨r2.fWord,r2.fTries,r2.fThings,r2.fLast,r34,(w64 (t_0.fCount+1))⟩).bind fun r35=>
    bif (!r35) then
     some (⟨⟨#[]⟩,0,[],0,⟨#[]⟩,0⟩,false)
    else
     some (⟨r2.fWord,r2.fTries,r2.fThings,r2.fLast,r34,(w64 (t_0.fCount+1))⟩,true)
    else none
noncomputable def I7 (z0:Tt) (z1:Zl) (z2:Yl) (z3:Am) (z4:F7) (z5:G7) (z6:Jg) (k:Du→Option (SBook×Bool)):Du→Option (SBook×Bool)
 | .c0 y_6 v_14 A_2 r_3 r_4c0 r_4c1 r_4c3 r_4c4 r_4c5 v_8c0 v_8c1 v_8c3 v_8c4 v_8c5 v_13 r_4r2 v_8r2=>
 bif (decide (v_14<(A_2.fThings.length:Int))) then
  bif ((decide (0≤v_14)) && (decide (v_14<(A_2.fThings.length:Int)))) then
  bif ((A_2.fThings.getD v_14.toNat (⟨0,0,false,false,false,false,⟨#[]⟩,0⟩:SThing)).fId != r_3.fNum) then
  bif ((decide (0≤v_14)) && (decide (v_14<(A_2.fThings.length:Int)))) then
  bif (decide (((v_13.length+1)*48)≤140737488355328)) then
  k (.c0 y_6 (w64 (v_14+1)) A_2 r_3 r_4c0 r_4c1 r_4c3 r_4c4 r_4c5 v_8c0 v_8c1 v_8c3 v_8c4 v_8c5 (v_13++[(A_2.fThings.getD v_14.toNat (⟨0,0,false,false,false,false,⟨#[]⟩,0⟩:SThing))]) r_4r2 v_8r2)
  else none
  else none
  else
  k (.c0 y_6 (w64 (v_14+1)) A_2 r_3 r_4c0 r_4c1 r_4c3 r_4c4 r_4c5 v_8c0 v_8c1 v_8c3 v_8c4 v_8c5 v_13 r_4r2 v_8r2)
  else none
 else
  bif (decide ((A_2.fChain.size+y_6.size)≤9223372036854775807)) then
  (z6 (A_2.fChain++y_6)).bind fun r0=>
  (z1 ⟨v_8c0,v_8c1,v_13,v_8c3,r0,(w64 (A_2.fCount+1))⟩).bind fun r1=>
  bif (!r1) then
  some (⟨⟨#[]⟩,0,[],0,⟨#[]⟩,0⟩,false)
  else
  some (⟨v_8c0,v_8c1,v_13,v_8c3,r0,(w64 (A_2.fCount+1))⟩,true)
  else none
noncomputable def Eu:Nat→Du→Option (SBook×Bool)
 | 0,_=>none
 | m+1,s=>I7 Bf Cc Bc Vd Ri Si VZ (Eu m) s
noncomputable def Ti:H7:=AAG Bf Cc Bc Vd Ri Si VZ (Eu gas)
theorem QAY:Tells ctx PP 27 cv26 cv27 (fun a=>Ti a.1 a.2):=
 have b:∀ z0 z1 z2 z3 z4 z5 z6,CutIs ctx PP 27 Tryz.f27 [] [(92,TAF z0),(53,X6 z1),(93,U6 z2),(94,D7 z3),(95,MAO z4),(96,OAO z5),(26,Ul z6)] cv27 PAO (I7 z0 z1 z2 z3 z4 z5 z6):=fun z0 z1 z2 z3 z4 z5 z6 _ s=>by cases s <;> kernel_rfl
 have e:∀ z0 z1 z2 z3 z4 z5 z6,EntryIs ctx PP 27 [] [(92,TAF z0),(53,X6 z1),(93,U6 z2),(94,D7 z3),(95,MAO z4),(96,OAO z5),(26,Ul z6)] cv26 cv27 PAO (fun k a=>AAG z0 z1 z2 z3 z4 z5 z6 k a.1 a.2):=fun z0 z1 z2 z3 z4 z5 z6 _ a=>by kernel_rfl
 fn_ok (hc DAO (hc IAO (hc GAO (hc LAO (hc NAY (hc OAY (hc V4 hl_nil))))))) Tryz.func27 (fun s s' h=>by cases s;cases s';(repeat cases ‹SBook›);(repeat cases ‹SRec›);(repeat cases ‹SThing›);cases h;rfl) (fun _=>rfl) (fun _ _=>rfl) (b Bf Cc Bc Vd Ri Si VZ) (e Bf Cc Bc Vd Ri Si VZ) gas
noncomputable def QAO {γ:Type} (F:H7):Hd ctx γ:=hdl cv26.dec (fun a=>F a.1 a.2) cv27.enc
abbrev BAG:=SBook→(List SRec)→Option (SBook×Bool)
inductive Gu where
 | c0 (list_1:(List SRec)) (i_7:Int) (v_4c0:ByteArray) (v_4c1:Int) (v_4c3:Int) (v_4c4:ByteArray) (v_4c5:Int) (out_6c0:ByteArray) (out_6c1:Int) (out_6c3:Int) (out_6c4:ByteArray) (out_6c5:Int) (v_4r2:(List SThing)) (out_6r2:(List SThing))
noncomputable def RAO:Gu→LI
 | .c0 list_1 i_7 v_4c0 v_4c1 v_4c3 v_4c4 v_4c5 out_6c0 out_6c1 out_6c3 out_6c4 out_6c5 v_4r2 out_6r2=>(tdo Tryz.f69 464,[(1,[.one (.rsl 71 list_1)]),(4,[.one (.ptr 256 0)]),(6,[.one (.ptr 384 0)]),(7,[.one (.int .i64 i_7)])],[(256,.var [.str v_4c0,.int .i64 v_4c1,.own 1016386,.int .i64 v_4c3,.str v_4c4,.int .i64 v_4c5]),(384,.var [.str out_6c0,.int .i64 out_6c1,.own 1024578,.int .i64 out_6c3,.str out_6c4,.int .i64 out_6c5]),(1016386,.sl 69 v_4r2),(1024578,.sl 69 out_6r2)])
noncomputable def CAG (z0:Yl) (z1:H7) (k:Gu→Option (SBook×Bool)) (b_0:SBook) (list_1:(List SRec)):Option (SBook×Bool):=
 (z0 b_0).bind fun r0=>
 k (.c0 list_1 0 ⟨#[]⟩ 0 0 ⟨#[]⟩ 0 r0.fWord r0.fTries r0.fLast r0.fChain r0.fCount [] r0.fThings)
noncomputable def J7 (z0:Yl) (z1:H7) (k:Gu→Option (SBook×Bool)):Gu→Option (SBook×Bool)
 | .c0 list_1 i_7 v_4c0 v_4c1 v_4c3 v_4c4 v_4c5 out_6c0 out_6c1 out_6c3 out_6c4 out_6c5 v_4r2 out_6r2=>
 bif (decide (i_7<(list_1.length:Int))) then
  bif ((decide (0≤i_7)) && (decide (i_7<(list_1.length:Int)))) then
  (z1 ⟨out_6c0,out_6c1,out_6r2,out_6c3,out_6c4,out_6c5⟩ (list_1.getD i_7.toNat (⟨0,⟨#[]⟩,0,⟨0,0,false,false,false,false,⟨#[]⟩,0⟩⟩:SRec))).bind fun r0=>
  bif (!r0.2) then
  some (⟨⟨#[]⟩,0,[],0,⟨#[]⟩,0⟩,false)
  else
  k (.c0 list_1 (w64 (i_7+1)) v_4c0 v_4c1 v_4c3 v_4c4 v_4c5 r0.1.fWord r0.1.fTries r0.1.fLast r0.1.fChain r0.1.fCount v_4r2 r0.1.fThings)
  else none
 else
  some (⟨out_6c0,out_6c1,out_6r2,out_6c3,out_6c4,out_6c5⟩,true)
noncomputable def Hu:Nat→Gu→Option (SBook×Bool)
 | 0,_=>none
 | m+1,s=>J7 Bc Ti (Hu m) s
noncomputable def Iu:BAG:=CAG Bc Ti (Hu gas)
theorem RAY:Tells ctx PP 69 cv113 cv27 (fun a=>Iu a.1 a.2):=
 have b:∀ z0 z1,CutIs ctx PP 69 Tryz.f69 [] [(93,U6 z0),(27,QAO z1)] cv27 RAO (J7 z0 z1):=fun z0 z1 _ s=>by cases s <;> kernel_rfl
 have e:∀ z0 z1,EntryIs ctx PP 69 [] [(93,U6 z0),(27,QAO z1)] cv113 cv27 RAO (fun k a=>CAG z0 z1 k a.1 a.2):=fun z0 z1 _ a=>by kernel_rfl
 fn_ok (hc GAO (hc QAY hl_nil)) Tryz.func69 (fun s s' h=>by cases s;cases s';cases h;rfl) (fun _=>rfl) (fun _ _=>rfl) (b Bc Ti) (e Bc Ti) gas
noncomputable def TAY {γ:Type} (F:BAG):Hd ctx γ:=hdl cv113.dec (fun a=>F a.1 a.2) cv27.enc
abbrev N7:=ByteArray→SDisk→Option (SBook×(List SAct)×Bool)
noncomputable def EAG (z0:Bq) (z1:FAE) (z2:UAF) (z3:Ar) (z4:BAG) (z5:D5) (key_0:ByteArray) (d_1:SDisk):Option (SBook×(List SAct)×Bool):=
 (z0 d_1).bind fun r0=>
 bif (!r0) then
 some (⟨⟨#[]⟩,0,[],0,⟨#[]⟩,0⟩,([],false))
 else
 (z1 d_1 ⟨#[98,111,111,107]⟩).bind fun r1=>
 (z2 key_0 r1.1).bind fun r2=>
 z3.bind fun r3=>
 (z4 r3 r2.1).bind fun r4=>
 bif (!r4.2) then
  some (⟨⟨#[]⟩,0,[],0,⟨#[]⟩,0⟩,([],false))
 else
  (z5 d_1 ⟨#[98,111,111,107,43]⟩).bind fun r5=>
  bif (decide (r5≥0)) then
  bif (decide (r2.2<(r1.1.size:Int))) then
   bif ((decide (0≤r2.2)) && (decide (r2.2≤(r1.1.size:Int)))) then
   some (r4.1,((([]++[(⟨4,⟨#[98,111,111,107,43]⟩,⟨#[]⟩,⟨#[]⟩⟩:SAct)])++[(⟨1,⟨#[98,111,111,107,43]⟩,(r1.1.extract 0 r2.2.toNat),⟨#[]⟩⟩:SAct),(⟨2,⟨#[98,111,111,107,43]⟩,⟨#[]⟩,⟨#[]⟩⟩:SAct),(⟨3,⟨#[98,111,111,107,43]⟩,⟨#[]⟩,⟨#[98,111,111,107]⟩⟩:SAct)]),true))
   else none
  else
   some (r4.1,(([]++[(⟨4,⟨#[98,111,111,107,43]⟩,⟨#[]⟩,⟨#[]⟩⟩:SAct)]),true))
  else
  bif (decide (r2.2<(r1.1.size:Int))) then
   bif ((decide (0≤r2.2)) && (decide (r2.2≤(r1.1.size:Int)))) then
   some (r4.1,(([]++[(⟨1,⟨#[98,111,111,107,43]⟩,(r1.1.extract 0 r2.2.toNat),⟨#[]⟩⟩:SAct),(⟨2,⟨#[98,111,111,107,43]⟩,⟨#[]⟩,⟨#[]⟩⟩:SAct),(⟨3,⟨#[98,111,111,107,43]⟩,⟨#[]⟩,⟨#[98,111,111,107]⟩⟩:SAct)]),true))
   else none
  else
   some (r4.1,([],true))
noncomputable def Ui:N7:=EAG Qe Lr Xt Ue Iu Ci
theorem UAY:Tells ctx PP 52 cv114 cv115 (fun a=>Ui a.1 a.2):=fn_ok0 (hc LAM (hc FAX (hc JAY (hc BAN (hc RAY (hc GAN hl_nil)))))) Tryz.func52 ((fun z0 z1 z2 z3 z4 z5 a=>by kernel_rfl:∀ z0 z1 z2 z3 z4 z5,EntryIs0 ctx PP 52 [] [(49,JAD z0),(117,GAX z1),(118,KAY z2),(28,CAE z3),(69,TAY z4),(119,HAN z5)] cv114 cv115 fun a=>EAG z0 z1 z2 z3 z4 z5 a.1 a.2) Qe Lr Xt Ue Iu Ci)
noncomputable def SAO {γ:Type} (F:N7):Hd ctx γ:=hdl cv114.dec (fun a=>F a.1 a.2) cv115.enc
abbrev O7:=SBox→Option Bool
inductive Ju where
 | c0 (i_3:Int) (b_1:SBox)
noncomputable def TAO:Ju→LI
 | .c0 i_3 b_1=>(tdo Tryz.f54 208,[(1,[.one (.ptr 64 0)]),(3,[.one (.int .i64 i_3)])],[(64,.var [.str b_1.fKey,.bool b_1.fUp,.rsl 155 b_1.fDisk.fFiles,.str b_1.fBook.fWord,.int .i64 b_1.fBook.fTries,.rsl 69 b_1.fBook.fThings,.int .i64 b_1.fBook.fLast,.str b_1.fBook.fChain,.int .i64 b_1.fBook.fCount,.rsl 92 b_1.fSessions,.rsl 149 b_1.fLives,.int .i64 b_1.fOpened])])
noncomputable def FAG (z0:Am) (z1:XY) (k:Ju→Option Bool) (b_0:SBox):Option Bool:=
 k (.c0 0 b_0)
noncomputable def P7 (z0:Am) (z1:XY) (k:Ju→Option Bool):Ju→Option Bool
 | .c0 i_3 b_1=>
 bif (decide (i_3<(b_1.fLives.length:Int))) then
  bif ((decide (0≤i_3)) && (decide (i_3<(b_1.fLives.length:Int)))) then
  (z0 b_1.fBook (b_1.fLives.getD i_3.toNat (⟨0,0⟩:SLive)).fId).bind fun r0=>
  bif (!r0.2) then
  some false
  else
  bif (r0.1.fKind != 2) then
   some false
  else
   bif ((decide (0≤i_3)) && (decide (i_3<(b_1.fLives.length:Int)))) then
   (z1 (b_1.fLives.getD i_3.toNat (⟨0,0⟩:SLive)).fNext 0 r0.1.fNext).bind fun r1=>
   bif (!r1) then
   some false
   else
   bif (decide (i_3 > 0)) then
    bif ((decide (0≤(w64 (i_3 - 1)))) && (decide ((w64 (i_3 - 1))<(b_1.fLives.length:Int)))) then
    bif ((decide (0≤i_3)) && (decide (i_3<(b_1.fLives.length:Int)))) then
    bif (decide ((b_1.fLives.getD (w64 (i_3 - 1)).toNat (⟨0,0⟩:SLive)).fId≥(b_1.fLives.getD i_3.toNat (⟨0,0⟩:SLive)).fId)) then
    some false
    else
    k (.c0 (w64 (i_3+1)) b_1)
    else none
    else none
   else
    k (.c0 (w64 (i_3+1)) b_1)
   else none
  else none
 else
  some true
noncomputable def Ku:Nat→Ju→Option Bool
 | 0,_=>none
 | m+1,s=>P7 Vd SX (Ku m) s
noncomputable def Wi:O7:=FAG Vd SX (Ku gas)
theorem VAY:Tells ctx PP 54 cv116 cv6 (fun a=>Wi a):=
 have b:∀ z0 z1,CutIs ctx PP 54 Tryz.f54 [] [(94,D7 z0),(50,GZ z1)] cv6 TAO (P7 z0 z1):=fun z0 z1 _ s=>by cases s <;> kernel_rfl
 have e:∀ z0 z1,EntryIs ctx PP 54 [] [(94,D7 z0),(50,GZ z1)] cv116 cv6 TAO (fun k a=>FAG z0 z1 k a):=fun z0 z1 _ a=>by kernel_rfl
 fn_ok (hc LAO (hc Vb hl_nil)) Tryz.func54 (fun s s' h=>by cases s;cases s';(repeat cases ‹SBox›);(repeat cases ‹SDisk›);(repeat cases ‹SBook›);cases h;rfl) (fun _=>rfl) (fun _ _=>rfl) (b Vd SX) (e Vd SX) gas
noncomputable def UAO {γ:Type} (F:O7):Hd ctx γ:=hdl cv116.dec (fun a=>F a) cv6.enc
abbrev WAB:=SBox→Option Bool
inductive Lu where
 | c0 (i_3:Int) (b_1:SBox)
noncomputable def VAO:Lu→LI
 | .c0 i_3 b_1=>(tdo Tryz.f14 464,[(1,[.one (.ptr 64 0)]),(3,[.one (.int .i64 i_3)])],[(64,.var [.str b_1.fKey,.bool b_1.fUp,.rsl 155 b_1.fDisk.fFiles,.str b_1.fBook.fWord,.int .i64 b_1.fBook.fTries,.rsl 69 b_1.fBook.fThings,.int .i64 b_1.fBook.fLast,.str b_1.fBook.fChain,.int .i64 b_1.fBook.fCount,.rsl 92 b_1.fSessions,.rsl 149 b_1.fLives,.int .i64 b_1.fOpened])])
noncomputable def GAG (z0:Bq) (z1:XY) (z2:Ar) (z3:Y4) (z4:N7) (z5:Zl) (z6:O7) (k:Lu→Option Bool) (b_0:SBox):Option Bool:=
 bif ((b_0.fKey.size:Int) != 32) then
 some false
 else
 (z0 b_0.fDisk).bind fun r0=>
 bif (!r0) then
  some false
 else
  bif (decide ((b_0.fSessions.length:Int) > 3)) then
  some false
  else
  (z1 b_0.fOpened 0 1000).bind fun r1=>
  bif (!r1) then
   some false
  else
   k (.c0 0 b_0)
noncomputable def Q7 (z0:Bq) (z1:XY) (z2:Ar) (z3:Y4) (z4:N7) (z5:Zl) (z6:O7) (k:Lu→Option Bool):Lu→Option Bool
 | .c0 i_3 b_1=>
 bif (decide (i_3<(b_1.fSessions.length:Int))) then
  bif ((decide (0≤i_3)) && (decide (i_3<(b_1.fSessions.length:Int)))) then
  (z1 (b_1.fSessions.getD i_3.toNat (⟨0,false⟩:SSession)).fId 1 b_1.fOpened).bind fun r0=>
  bif (!r0) then
  some false
  else
  bif (decide (i_3 > 0)) then
   bif ((decide (0≤(w64 (i_3 - 1)))) && (decide ((w64 (i_3 - 1))<(b_1.fSessions.length:Int)))) then
   bif ((decide (0≤i_3)) && (decide (i_3<(b_1.fSessions.length:Int)))) then
   bif (decide ((b_1.fSessions.getD (w64 (i_3 - 1)).toNat (⟨0,false⟩:SSession)).fId≥(b_1.fSessions.getD i_3.toNat (⟨0,false⟩:SSession)).fId)) then
   some false
   else
   k (.c0 (w64 (i_3+1)) b_1)
   else none
   else none
  else
   k (.c0 (w64 (i_3+1)) b_1)
  else none
 else
  bif (!b_1.fUp) then
  bif ((b_1.fSessions.length:Int) == 0) then
   bif ((b_1.fLives.length:Int) == 0) then
   z2.bind fun r1=>
   (z3 b_1.fBook r1).bind fun r2=>
   some r2
   else
   some false
  else
   some false
  else
  (z4 b_1.fKey b_1.fDisk).bind fun r3=>
  bif r3.2.2 then
   bif ((r3.2.1.length:Int) == 0) then
   (z5 b_1.fBook).bind fun r4=>
   bif r4 then
    (z3 r3.1 b_1.fBook).bind fun r5=>
    bif r5 then
    (z6 b_1).bind fun r6=>
    some r6
    else
    some false
   else
    some false
   else
   some false
  else
   some false
noncomputable def Nu:Nat→Lu→Option Bool
 | 0,_=>none
 | m+1,s=>Q7 Qe SX Ue Ai Ui Cc Wi (Nu m) s
noncomputable def Xo:WAB:=GAG Qe SX Ue Ai Ui Cc Wi (Nu gas)
theorem EAV:Tells ctx PP 14 cv116 cv6 (fun a=>Xo a):=
 have b:∀ z0 z1 z2 z3 z4 z5 z6,CutIs ctx PP 14 Tryz.f14 [] [(49,JAD z0),(50,GZ z1),(28,CAE z2),(51,EAN z3),(52,SAO z4),(53,X6 z5),(54,UAO z6)] cv6 VAO (Q7 z0 z1 z2 z3 z4 z5 z6):=fun z0 z1 z2 z3 z4 z5 z6 _ s=>by cases s <;> kernel_rfl
 have e:∀ z0 z1 z2 z3 z4 z5 z6,EntryIs ctx PP 14 [] [(49,JAD z0),(50,GZ z1),(28,CAE z2),(51,EAN z3),(52,SAO z4),(53,X6 z5),(54,UAO z6)] cv116 cv6 VAO (fun k a=>GAG z0 z1 z2 z3 z4 z5 z6 k a):=fun z0 z1 z2 z3 z4 z5 z6 _ a=>by kernel_rfl
 fn_ok (hc LAM (hc Vb (hc BAN (hc EAX (hc UAY (hc IAO (hc VAY hl_nil))))))) Tryz.func14 (fun s s' h=>by cases s;cases s';(repeat cases ‹SBox›);(repeat cases ‹SDisk›);(repeat cases ‹SBook›);cases h;rfl) (fun _=>rfl) (fun _ _=>rfl) (b Qe SX Ue Ai Ui Cc Wi) (e Qe SX Ue Ai Ui Cc Wi) gas
noncomputable def IAV {γ:Type} (F:WAB):Hd ctx γ:=hdl cv116.dec (fun a=>F a) cv6.enc
abbrev TY:=Int→Int→Int→Option Bool
noncomputable def WAO (n_0:Int) (low_1:Int) (high_2:Int):Option Bool:=
 bif (decide (n_0≥low_1)) then
 some (decide (n_0≤high_2))
 else
 some false
noncomputable def QX:TY:=WAO
theorem Dc:Tells ctx PP 60 cv5 cv6 (fun a=>QX a.1 a.2.1 a.2.2):=fn_ok0 hl_nil Tryz.func60 (fun a=>by kernel_rfl:EntryIs0 ctx PP 60 [] [] cv5 cv6 fun a=>WAO a.1 a.2.1 a.2.2)
noncomputable def CZ {γ:Type} (F:TY):Hd ctx γ:=hdl cv5.dec (fun a=>F a.1 a.2.1 a.2.2) cv6.enc
abbrev Ou:=SDisk→Option Bool
inductive Qu where
 | c0 (v_6:(List SFile)) (v_7:Int) (v_8:Int) (d_1:SDisk)
noncomputable def XAO:Qu→LI
 | .c0 v_6 v_7 v_8 d_1=>(tdo Tryz.f59 104,[(1,[.one (.ptr 64 0)]),(6,[.one (.rsl 155 v_6)]),(7,[.one (.int .i64 v_7)]),(8,[.one (.int .i64 v_8)])],[(64,.var [.rsl 155 d_1.fFiles])])
noncomputable def HAG (z0:TY) (k:Qu→Option Bool) (d_0:SDisk):Option Bool:=
 k (.c0 d_0.fFiles (d_0.fFiles.length:Int) 0 d_0)
noncomputable def U7 (z0:TY) (k:Qu→Option Bool):Qu→Option Bool
 | .c0 v_6 v_7 v_8 d_1=>
 bif (decide (v_8<v_7)) then
  bif ((decide (0≤v_8)) && (decide (v_8<(v_6.length:Int)))) then
  (z0 ((v_6.getD v_8.toNat (⟨⟨#[]⟩,⟨#[]⟩,0⟩:SFile)).fName.size:Int) 1 8).bind fun r0=>
  bif (!r0) then
  some false
  else
  bif (decide (((v_6.getD v_8.toNat (⟨⟨#[]⟩,⟨#[]⟩,0⟩:SFile)).fText.size:Int) > 20000)) then
   some false
  else
   (z0 (v_6.getD v_8.toNat (⟨⟨#[]⟩,⟨#[]⟩,0⟩:SFile)).fKept 0 ((v_6.getD v_8.toNat (⟨⟨#[]⟩,⟨#[]⟩,0⟩:SFile)).fText.size:Int)).bind fun r1=>
   bif (!r1) then
   some false
   else
   bif (decide (v_8 > 0)) then
    bif ((decide (0≤(w64 (v_8 - 1)))) && (decide ((w64 (v_8 - 1))<(d_1.fFiles.length:Int)))) then
    bif (!(Op.bytesLess (ByteArray.toList (d_1.fFiles.getD (w64 (v_8 - 1)).toNat (⟨⟨#[]⟩,⟨#[]⟩,0⟩:SFile)).fName) (ByteArray.toList (v_6.getD v_8.toNat (⟨⟨#[]⟩,⟨#[]⟩,0⟩:SFile)).fName))) then
    some false
    else
    k (.c0 v_6 v_7 (w64 (v_8+1)) d_1)
    else none
   else
    k (.c0 v_6 v_7 (w64 (v_8+1)) d_1)
  else none
 else
  some (decide ((d_1.fFiles.length:Int)≤30))
noncomputable def Ru:Nat→Qu→Option Bool
 | 0,_=>none
 | m+1,s=>U7 QX (Ru m) s
noncomputable def Ef:Ou:=HAG QX (Ru gas)
theorem YAO:Tells ctx PP 59 cv35 cv6 (fun a=>Ef a):=
 have b:∀ z0,CutIs ctx PP 59 Tryz.f59 [] [(60,CZ z0)] cv6 XAO (U7 z0):=fun z0 _ s=>by cases s <;> kernel_rfl
 have e:∀ z0,EntryIs ctx PP 59 [] [(60,CZ z0)] cv35 cv6 XAO (fun k a=>HAG z0 k a):=fun z0 _ a=>by kernel_rfl
 fn_ok (hc Dc hl_nil) Tryz.func59 (fun s s' h=>by cases s;cases s';(repeat cases ‹SDisk›);cases h;rfl) (fun _=>rfl) (fun _ _=>rfl) (b QX) (e QX) gas
noncomputable def IAG {γ:Type} (F:Ou):Hd ctx γ:=hdl cv35.dec (fun a=>F a) cv6.enc
abbrev JAG:=Option (List Int)
noncomputable def ZAO  : Option (List Int):=
 some [1779033703,3144134277,1013904242,2773480762,1359893119,2600822924,528734635,1541459225]
noncomputable def V7:JAG:=ZAO
theorem XAY:Tells ctx PP 103 cv0 cv45 (fun _=>V7):=fn_ok0 hl_nil Tryz.func103 (fun _=>by kernel_rfl:EntryIs0 ctx PP 103 [] [] cv0 cv45 fun _=>ZAO)
noncomputable def YAY {γ:Type} (F:JAG):Hd ctx γ:=hdl cv0.dec (fun _=>F) cv45.enc
abbrev Uu:=Int→Option ByteArray
noncomputable def KAG (n_0:Int):Option ByteArray:=
 bif ((((decide (0≤n_0)) && (decide (n_0≤n_0))) && (decide (n_0≤9223372036854775807))) && (decide ((n_0.toNat*1)≤140737488355328))) then
 some (ofBytes (List.replicate n_0.toNat (0:Int)))
 else none
noncomputable def Xd:Uu:=KAG
theorem LAG:Tells ctx PP 99 cv15 cv3 (fun a=>Xd a):=fn_ok0 hl_nil Tryz.func99 (fun a=>by kernel_rfl:EntryIs0 ctx PP 99 [] [] cv15 cv3 fun a=>KAG a)
noncomputable def MAG {γ:Type} (F:Uu):Hd ctx γ:=hdl cv15.dec (fun a=>F a) cv3.enc
abbrev Pg:=Int→Option ByteArray
noncomputable def NAG (n_0:Int):Option ByteArray:=
 some (ofBytes [(w8 (Int.fdiv n_0 (2 ^ (Min.min (24:Int).toNat (IntKind.bits IntKind.u32))))),(w8 (Int.fdiv n_0 (2 ^ (Min.min (16:Int).toNat (IntKind.bits IntKind.u32))))),(w8 (Int.fdiv n_0 (2 ^ (Min.min (8:Int).toNat (IntKind.bits IntKind.u32))))),(w8 n_0)])
noncomputable def YZ:Pg:=NAG
theorem X7:Tells ctx PP 158 cv8 cv3 (fun a=>YZ a):=fn_ok0 hl_nil Tryz.func158 (fun a=>by kernel_rfl:EntryIs0 ctx PP 158 [] [] cv8 cv3 fun a=>NAG a)
noncomputable def Gm {γ:Type} (F:Pg):Hd ctx γ:=hdl cv8.dec (fun a=>F a) cv3.enc
abbrev OAG:=Int→Option ByteArray
noncomputable def PAG (z0:Pg) (n_0:Int):Option ByteArray:=
 (z0 (w32 (Int.fdiv n_0 (2 ^ (Min.min (32:Int).toNat (IntKind.bits IntKind.i64)))))).bind fun r0=>
 (z0 (w32 n_0)).bind fun r1=>
 bif (decide ((r0.size+r1.size)≤9223372036854775807)) then
 some (r0++r1)
 else none
noncomputable def Vu:OAG:=PAG YZ
theorem ZAY:Tells ctx PP 157 cv15 cv3 (fun a=>Vu a):=fn_ok0 (hc X7 hl_nil) Tryz.func157 ((fun z0 a=>by kernel_rfl:∀ z0,EntryIs0 ctx PP 157 [] [(158,Gm z0)] cv15 cv3 fun a=>PAG z0 a) YZ)
noncomputable def AAZ {γ:Type} (F:OAG):Hd ctx γ:=hdl cv15.dec (fun a=>F a) cv3.enc
abbrev QAG:=Int→Option ByteArray
noncomputable def RAG (z0:Uu) (z1:OAG) (count_0:Int):Option ByteArray:=
 (z0 ((w64 (119 - (count_0.tmod 64))).tmod 64)).bind fun r0=>
 bif (decide (((⟨#[128]⟩:ByteArray).size+r0.size)≤9223372036854775807)) then
 (z1 (w64 (8*count_0))).bind fun r1=>
 bif (decide ((((⟨#[128]⟩:ByteArray)++r0).size+r1.size)≤9223372036854775807)) then
 some (((⟨#[128]⟩:ByteArray)++r0)++r1)
 else none
 else none
noncomputable def Wu:QAG:=RAG Xd Vu
theorem BAZ:Tells ctx PP 104 cv15 cv3 (fun a=>Wu a):=fn_ok0 (hc LAG (hc ZAY hl_nil)) Tryz.func104 ((fun z0 z1 a=>by kernel_rfl:∀ z0 z1,EntryIs0 ctx PP 104 [] [(99,MAG z0),(157,AAZ z1)] cv15 cv3 fun a=>RAG z0 z1 a) Xd Vu)
noncomputable def CAZ {γ:Type} (F:QAG):Hd ctx γ:=hdl cv15.dec (fun a=>F a) cv3.enc
abbrev SAG:=Int→Int→Option Int
noncomputable def UAG (x_0:Int) (k_1:Int):Option Int:=
 bif (decide (0≤(wu64 (32 - (wu64 (((BitVec.toNat ((BitVec.ofInt (IntKind.bits IntKind.u64) (wu64 k_1)) &&& (BitVec.ofInt (IntKind.bits IntKind.u64) 31))):Nat):Int)))))) then
 some (w32 (((BitVec.toNat ((BitVec.ofInt (IntKind.bits IntKind.u32) (w32 (x_0*(2 ^ (Min.min (wu64 (((BitVec.toNat ((BitVec.ofInt (IntKind.bits IntKind.u64) (wu64 k_1)) &&& (BitVec.ofInt (IntKind.bits IntKind.u64) 31))):Nat):Int)).toNat (IntKind.bits IntKind.u32)))))) ||| (BitVec.ofInt (IntKind.bits IntKind.u32) (Int.fdiv x_0 (2 ^ (Min.min (wu64 (32 - (wu64 (((BitVec.toNat ((BitVec.ofInt (IntKind.bits IntKind.u64) (wu64 k_1)) &&& (BitVec.ofInt (IntKind.bits IntKind.u64) 31))):Nat):Int)))).toNat (IntKind.bits IntKind.u32))))))):Nat):Int))
 else none
noncomputable def Xu:SAG:=UAG
theorem DAZ:Tells ctx PP 212 cv46 cv8 (fun a=>Xu a.1 a.2):=fn_ok0 hl_nil Tryz.func212 (fun a=>by kernel_rfl:EntryIs0 ctx PP 212 [] [] cv46 cv8 fun a=>UAG a.1 a.2)
noncomputable def EAZ {γ:Type} (F:SAG):Hd ctx γ:=hdl cv46.dec (fun a=>F a.1 a.2) cv8.enc
abbrev Jm:=Int→Int→Option Int
noncomputable def VAG (z0:SAG) (x_0:Int) (n_1:Int):Option Int:=
 (z0 x_0 (w64 (0 - n_1))).bind fun r0=>
 some r0
noncomputable def QY:Jm:=VAG Xu
theorem AAP:Tells ctx PP 195 cv46 cv8 (fun a=>QY a.1 a.2):=fn_ok0 (hc DAZ hl_nil) Tryz.func195 ((fun z0 a=>by kernel_rfl:∀ z0,EntryIs0 ctx PP 195 [] [(212,EAZ z0)] cv46 cv8 fun a=>VAG z0 a.1 a.2) Xu)
noncomputable def Y7 {γ:Type} (F:Jm):Hd ctx γ:=hdl cv46.dec (fun a=>F a.1 a.2) cv8.enc
abbrev Z7:=ByteArray→Option (List Int)
inductive Yu where
 | c0 (block_0:ByteArray) (v_11:Int) (v_2r0:(List Int)) (w_3r0:(List Int))
 | c1 (block_0:ByteArray) (i_4:Int) (v_11:Int) (v_14:Int) (v_2r0:(List Int)) (w_3r0:(List Int))
 | c2 (t_6:Int) (v_2r0:(List Int)) (w_3r0:(List Int))
noncomputable def BAP:Yu→LI
 | .c0 block_0 v_11 v_2r0 w_3r0=>(tdo Tryz.f194 232,[(0,[.one (.str block_0)]),(2,[.one (.ptr 128 0)]),(3,[.one (.ptr 192 0)]),(11,[.one (.int .i64 v_11)])],[(128,.ar 138 v_2r0),(192,.ar 138 w_3r0)])
 | .c1 block_0 i_4 v_11 v_14 v_2r0 w_3r0=>(tdo Tryz.f194 59800,[(0,[.one (.str block_0)]),(2,[.one (.ptr 128 0)]),(3,[.one (.ptr 192 0)]),(4,[.one (.int .i64 i_4)]),(11,[.one (.int .i64 v_11)]),(14,[.one (.int .i64 v_14)])],[(128,.ar 138 v_2r0),(192,.ar 138 w_3r0)])
 | .c2 t_6 v_2r0 w_3r0=>(tdo Tryz.f194 976,[(2,[.one (.ptr 128 0)]),(3,[.one (.ptr 192 0)]),(6,[.one (.int .i64 t_6)])],[(128,.ar 138 v_2r0),(192,.ar 138 w_3r0)])
noncomputable def WAG (z0:Jm) (k:Yu→Option (List Int)) (block_0:ByteArray):Option (List Int):=
 k (.c0 block_0 0 (List.replicate 64 (0:Int)) (List.replicate 64 (0:Int)))
noncomputable def Qg (z0:Jm) (k:Yu→Option (List Int)):Yu→Option (List Int)
 | .c0 block_0 v_11 v_2r0 w_3r0=>
 bif (decide (v_11<16)) then
  k (.c1 block_0 v_11 v_11 0 v_2r0 w_3r0)
 else
  k (.c2 16 v_2r0 w_3r0)
 | .c1 block_0 i_4 v_11 v_14 v_2r0 w_3r0=>
 bif (decide (v_14<4)) then
  bif (Nat.beq 64 w_3r0.length) then
  bif ((decide (0≤i_4)) && (decide (i_4<(w_3r0.length:Int)))) then
  bif ((decide (0≤(w64 ((w64 (4*i_4))+v_14)))) && (decide ((w64 ((w64 (4*i_4))+v_14))<(block_0.size:Int)))) then
  bif (Nat.beq 64 w_3r0.length) then
  bif ((decide (0≤i_4)) && (decide (i_4<(w_3r0.length:Int)))) then
  k (.c1 block_0 i_4 v_11 (w64 (v_14+1)) v_2r0 (w_3r0.set i_4.toNat (w32 (((BitVec.toNat ((BitVec.ofInt (IntKind.bits IntKind.u32) (w32 ((w_3r0.getD i_4.toNat 0)*(2 ^ (Min.min (8:Int).toNat (IntKind.bits IntKind.u32)))))) ||| (BitVec.ofInt (IntKind.bits IntKind.u32) (w32 (bt block_0 (w64 ((w64 (4*i_4))+v_14))))))):Nat):Int))))
  else none
  else none
  else none
  else none
  else none
 else
  k (.c0 block_0 (w64 (v_11+1)) v_2r0 w_3r0)
 | .c2 t_6 v_2r0 w_3r0=>
 bif (decide (t_6<64)) then
  bif (Nat.beq 64 w_3r0.length) then
  bif ((decide (0≤(w64 (t_6 - 15)))) && (decide ((w64 (t_6 - 15))<(w_3r0.length:Int)))) then
  bif (Nat.beq 64 w_3r0.length) then
  bif ((decide (0≤(w64 (t_6 - 2)))) && (decide ((w64 (t_6 - 2))<(w_3r0.length:Int)))) then
  (z0 (w_3r0.getD (w64 (t_6 - 15)).toNat 0) 7).bind fun r0=>
  (z0 (w_3r0.getD (w64 (t_6 - 15)).toNat 0) 18).bind fun r1=>
  (z0 (w_3r0.getD (w64 (t_6 - 2)).toNat 0) 17).bind fun r2=>
  (z0 (w_3r0.getD (w64 (t_6 - 2)).toNat 0) 19).bind fun r3=>
  bif (Nat.beq 64 w_3r0.length) then
  bif ((decide (0≤(w64 (t_6 - 7)))) && (decide ((w64 (t_6 - 7))<(w_3r0.length:Int)))) then
  bif (Nat.beq 64 w_3r0.length) then
  bif ((decide (0≤(w64 (t_6 - 16)))) && (decide ((w64 (t_6 - 16))<(w_3r0.length:Int)))) then
  bif (Nat.beq 64 w_3r0.length) then
  bif ((decide (0≤t_6)) && (decide (t_6<(w_3r0.length:Int)))) then
  k (.c2 (w64 (t_6+1)) v_2r0 (w_3r0.set t_6.toNat (w32 ((w32 ((w32 ((w32 (((BitVec.toNat ((BitVec.ofInt (IntKind.bits IntKind.u32) (w32 (((BitVec.toNat ((BitVec.ofInt (IntKind.bits IntKind.u32) r2) ^^^ (BitVec.ofInt (IntKind.bits IntKind.u32) r3))):Nat):Int))) ^^^ (BitVec.ofInt (IntKind.bits IntKind.u32) (Int.fdiv (w_3r0.getD (w64 (t_6 - 2)).toNat 0) (2 ^ (Min.min (10:Int).toNat (IntKind.bits IntKind.u32))))))):Nat):Int))+(w_3r0.getD (w64 (t_6 - 7)).toNat 0)))+(w32 (((BitVec.toNat ((BitVec.ofInt (IntKind.bits IntKind.u32) (w32 (((BitVec.toNat ((BitVec.ofInt (IntKind.bits IntKind.u32) r0) ^^^ (BitVec.ofInt (IntKind.bits IntKind.u32) r1))):Nat):Int))) ^^^ (BitVec.ofInt (IntKind.bits IntKind.u32) (Int.fdiv (w_3r0.getD (w64 (t_6 - 15)).toNat 0) (2 ^ (Min.min (3:Int).toNat (IntKind.bits IntKind.u32))))))):Nat):Int))))+(w_3r0.getD (w64 (t_6 - 16)).toNat 0)))))
  else none
  else none
  else none
  else none
  else none
  else none
  else none
  else none
  else none
  else none
 else
  bif (Nat.beq 64 w_3r0.length) then
  bif ((Nat.beq w_3r0.length v_2r0.length) && (Nat.beq 64 w_3r0.length)) then
  bif ((Nat.beq 64 w_3r0.length) && true) then
  some w_3r0
  else none
  else none
  else none
noncomputable def Za:Nat→Yu→Option (List Int)
 | 0,_=>none
 | m+1,s=>Qg QY (Za m) s
noncomputable def Xi:Z7:=WAG QY (Za gas)
theorem FAZ:Tells ctx PP 194 cv3 cv45 (fun a=>Xi a):=
 have b:∀ z0,CutIs ctx PP 194 Tryz.f194 [] [(195,Y7 z0)] cv45 BAP (Qg z0):=fun z0 _ s=>by cases s <;> kernel_rfl
 have e:∀ z0,EntryIs ctx PP 194 [] [(195,Y7 z0)] cv3 cv45 BAP (fun k a=>WAG z0 k a):=fun z0 _ a=>by kernel_rfl
 fn_ok (hc AAP hl_nil) Tryz.func194 (fun s s' h=>by cases s <;> cases s' <;> first | (cases h;done) | (cases h;rfl) | exact (rg_ne h (by kernel_rfl)).elim) (fun _=>rfl) (fun _ _=>rfl) (b QY) (e QY) gas
noncomputable def CAP {γ:Type} (F:Z7):Hd ctx γ:=hdl cv3.dec (fun a=>F a) cv45.enc
abbrev A8:=(List Int)→ByteArray→Option (List Int)
inductive Zu where
 | c0 (a_6:Int) (b_7:Int) (c_8:Int) (d_9:Int) (e_10:Int) (f_11:Int) (g_12:Int) (h_13:Int) (v_37:Int) (state_2r0:(List Int)) (v_4r0:(List Int)) (w_5r0:(List Int))
 | c1 (v_109:Int) (state_2r0:(List Int)) (v_4r0:(List Int)) (out_17r0:(List Int))
noncomputable def DAP:Zu→LI
 | .c0 a_6 b_7 c_8 d_9 e_10 f_11 g_12 h_13 v_37 state_2r0 v_4r0 w_5r0=>(tdo Tryz.f156 488,[(2,[.one (.ptr 128 0)]),(4,[.one (.ptr 256 0)]),(5,[.one (.ptr 320 0)]),(6,[.one (.int .u32 a_6)]),(7,[.one (.int .u32 b_7)]),(8,[.one (.int .u32 c_8)]),(9,[.one (.int .u32 d_9)]),(10,[.one (.int .u32 e_10)]),(11,[.one (.int .u32 f_11)]),(12,[.one (.int .u32 g_12)]),(13,[.one (.int .u32 h_13)]),(37,[.one (.int .i64 v_37)])],[(128,.ar 138 state_2r0),(256,.ar 138 v_4r0),(320,.ar 138 w_5r0)])
 | .c1 v_109 state_2r0 v_4r0 out_17r0=>(tdo Tryz.f156 2024,[(2,[.one (.ptr 128 0)]),(4,[.one (.ptr 256 0)]),(17,[.one (.ptr 1088 0)]),(109,[.one (.int .i64 v_109)])],[(128,.ar 138 state_2r0),(256,.ar 138 v_4r0),(1088,.ar 138 out_17r0)])
noncomputable def XAG (z0:Z7) (z1:Jm) (k:Zu→Option (List Int)) (state_0:(List Int)) (block_1:ByteArray):Option (List Int):=
 (z0 block_1).bind fun r0=>
 bif ((Nat.beq r0.length (List.replicate 64 (0:Int)).length) && (Nat.beq 64 r0.length)) then
 bif (Nat.beq 8 state_0.length) then
 bif ((decide ((0:Int)≤(0:Int))) && (decide (0<(state_0.length:Int)))) then
 bif (Nat.beq 8 state_0.length) then
 bif ((decide ((0:Int)≤(1:Int))) && (decide (1<(state_0.length:Int)))) then
 bif (Nat.beq 8 state_0.length) then
 bif ((decide ((0:Int)≤(2:Int))) && (decide (2<(state_0.length:Int)))) then
 bif (Nat.beq 8 state_0.length) then
 bif ((decide ((0:Int)≤(3:Int))) && (decide (3<(state_0.length:Int)))) then
 bif (Nat.beq 8 state_0.length) then
 bif ((decide ((0:Int)≤(4:Int))) && (decide (4<(state_0.length:Int)))) then
 bif (Nat.beq 8 state_0.length) then
 bif ((decide ((0:Int)≤(5:Int))) && (decide (5<(state_0.length:Int)))) then
 bif (Nat.beq 8 state_0.length) then
 bif ((decide ((0:Int)≤(6:Int))) && (decide (6<(state_0.length:Int)))) then
 bif (Nat.beq 8 state_0.length) then
 bif ((decide ((0:Int)≤(7:Int))) && (decide (7<(state_0.length:Int)))) then
 k (.c0 (state_0.getD (0:Int).toNat 0) (state_0.getD (1:Int).toNat 0) (state_0.getD (2:Int).toNat 0) (state_0.getD (3:Int).toNat 0) (state_0.getD (4:Int).toNat 0) (state_0.getD (5:Int).toNat 0) (state_0.getD (6:Int).toNat 0) (state_0.getD (7:Int).toNat 0) 0 state_0 [0,0,0,0,0,0,0,0] r0)
 else none
 else none
 else none
 else none
 else none
 else none
 else none
 else none
 else none
 else none
 else none
 else none
 else none
 else none
 else none
 else none
 else none
noncomputable def Lm (z0:Z7) (z1:Jm) (k:Zu→Option (List Int)):Zu→Option (List Int)
 | .c0 a_6 b_7 c_8 d_9 e_10 f_11 g_12 h_13 v_37 state_2r0 v_4r0 w_5r0=>
 bif (decide (v_37<64)) then
  (z1 e_10 6).bind fun r0=>
  (z1 e_10 11).bind fun r1=>
  (z1 e_10 25).bind fun r2=>
  bif ((decide (0≤v_37)) && (decide (v_37<((64:Nat):Int)))) then
  bif (Nat.blt v_37.toNat 64) then
  bif (Nat.beq 64 w_5r0.length) then
  bif ((decide (0≤v_37)) && (decide (v_37<(w_5r0.length:Int)))) then
  (z1 a_6 2).bind fun r3=>
  (z1 a_6 13).bind fun r4=>
  (z1 a_6 22).bind fun r5=>
  k (.c0 (w32 ((w32 ((w32 ((w32 ((w32 (h_13+(w32 (((BitVec.toNat ((BitVec.ofInt (IntKind.bits IntKind.u32) (w32 (((BitVec.toNat ((BitVec.ofInt (IntKind.bits IntKind.u32) r0) ^^^ (BitVec.ofInt (IntKind.bits IntKind.u32) r1))):Nat):Int))) ^^^ (BitVec.ofInt (IntKind.bits IntKind.u32) r2))):Nat):Int))))+(w32 (((BitVec.toNat ((BitVec.ofInt (IntKind.bits IntKind.u32) (w32 (((BitVec.toNat ((BitVec.ofInt (IntKind.bits IntKind.u32) e_10) &&& (BitVec.ofInt (IntKind.bits IntKind.u32) f_11))):Nat):Int))) ^^^ (BitVec.ofInt (IntKind.bits IntKind.u32) (w32 (((BitVec.toNat ((BitVec.ofInt (IntKind.bits IntKind.u32) (w32 (((BitVec.toNat ((BitVec.ofInt (IntKind.bits IntKind.u32) (ite ((IntKind.signed IntKind.u32)=true) (-(1:Int)) (IntKind.max IntKind.u32))) ^^^ (BitVec.ofInt (IntKind.bits IntKind.u32) e_10))):Nat):Int))) &&& (BitVec.ofInt (IntKind.bits IntKind.u32) g_12))):Nat):Int))))):Nat):Int))))+([(1116352408:Int),(1899447441:Int),(3049323471:Int),(3921009573:Int),(961987163:Int),(1508970993:Int),(2453635748:Int),(2870763221:Int),(3624381080:Int),(310598401:Int),(607225278:Int),(1426881987:Int),(1925078388:Int),(2162078206:Int),(2614888103:Int),(3248222580:Int),(3835390401:Int),(4022224774:Int),(264347078:Int),(604807628:Int),(770255983:Int),(1249150122:Int),(1555081692:Int),(1996064986:Int),(2554220882:Int),(2821834349:Int),(2952996808:Int),(3210313671:Int),(3336571891:Int),(3584528711:Int),(113926993:Int),(338241895:Int),(666307205:Int),(773529912:Int),(1294757372:Int),(1396182291:Int),(1695183700:Int),(1986661051:Int),(2177026350:Int),(2456956037:Int),(2730485921:Int),(2820302411:Int),(3259730800:Int),(3345764771:Int),(3516065817:Int),(3600352804:Int),(4094571909:Int),(275423344:Int),(430227734:Int),(506948616:Int),(659060556:Int),(883997877:Int),(958139571:Int),(1322822218:Int),(1537002063:Int),(1747873779:Int),(1955562222:Int),(2024104815:Int),(2227730452:Int),(2361852424:Int),(2428436474:Int),(2756734187:Int),(3204031479:Int),(3329325298:Int)].getD v_37.toNat 0)))+(w_5r0.getD v_37.toNat 0)))+(w32 ((w32 (((BitVec.toNat ((BitVec.ofInt (IntKind.bits IntKind.u32) (w32 (((BitVec.toNat ((BitVec.ofInt (IntKind.bits IntKind.u32) r3) ^^^ (BitVec.ofInt (IntKind.bits IntKind.u32) r4))):Nat):Int))) ^^^ (BitVec.ofInt (IntKind.bits IntKind.u32) r5))):Nat):Int))+(w32 (((BitVec.toNat ((BitVec.ofInt (IntKind.bits IntKind.u32) (w32 (((BitVec.toNat ((BitVec.ofInt (IntKind.bits IntKind.u32) (w32 (((BitVec.toNat ((BitVec.ofInt (IntKind.bits IntKind.u32) a_6) &&& (BitVec.ofInt (IntKind.bits IntKind.u32) b_7))):Nat):Int))) ^^^ (BitVec.ofInt (IntKind.bits IntKind.u32) (w32 (((BitVec.toNat ((BitVec.ofInt (IntKind.bits IntKind.u32) a_6) &&& (BitVec.ofInt (IntKind.bits IntKind.u32) c_8))):Nat):Int))))):Nat):Int))) ^^^ (BitVec.ofInt (IntKind.bits IntKind.u32) (w32 (((BitVec.toNat ((BitVec.ofInt (IntKind.bits IntKind.u32) b_7) &&& (BitVec.ofInt (IntKind.bits IntKind.u32) c_8))):Nat):Int))))):Nat):Int)))))) a_6 b_7 c_8 (w32 (d_9+(w32 ((w32 ((w32 ((w32 (h_13+(w32 (((BitVec.toNat ((BitVec.ofInt (IntKind.bits IntKind.u32) (w32 (((BitVec.toNat ((BitVec.ofInt (IntKind.bits IntKind.u32) r0) ^^^ (BitVec.ofInt (IntKind.bits IntKind.u32) r1))):Nat):Int))) ^^^ (BitVec.ofInt (IntKind.bits IntKind.u32) r2))):Nat):Int))))+(w32 (((BitVec.toNat ((BitVec.ofInt (IntKind.bits IntKind.u32) (w32 (((BitVec.toNat ((BitVec.ofInt (IntKind.bits IntKind.u32) e_10) &&& (BitVec.ofInt (IntKind.bits IntKind.u32) f_11))):Nat):Int))) ^^^ (BitVec.ofInt (IntKind.bits IntKind.u32) (w32 (((BitVec.toNat ((BitVec.ofInt (IntKind.bits IntKind.u32) (w32 (((BitVec.toNat ((BitVec.ofInt (IntKind.bits IntKind.u32) (ite ((IntKind.signed IntKind.u32)=true) (-(1:Int)) (IntKind.max IntKind.u32))) ^^^ (BitVec.ofInt (IntKind.bits IntKind.u32) e_10))):Nat):Int))) &&& (BitVec.ofInt (IntKind.bits IntKind.u32) g_12))):Nat):Int))))):Nat):Int))))+([(1116352408:Int),(1899447441:Int),(3049323471:Int),(3921009573:Int),(961987163:Int),(1508970993:Int),(2453635748:Int),(2870763221:Int),(3624381080:Int),(310598401:Int),(607225278:Int),(1426881987:Int),(1925078388:Int),(2162078206:Int),(2614888103:Int),(3248222580:Int),(3835390401:Int),(4022224774:Int),(264347078:Int),(604807628:Int),(770255983:Int),(1249150122:Int),(1555081692:Int),(1996064986:Int),(2554220882:Int),(2821834349:Int),(2952996808:Int),(3210313671:Int),(3336571891:Int),(3584528711:Int),(113926993:Int),(338241895:Int),(666307205:Int),(773529912:Int),(1294757372:Int),(1396182291:Int),(1695183700:Int),(1986661051:Int),(2177026350:Int),(2456956037:Int),(2730485921:Int),(2820302411:Int),(3259730800:Int),(3345764771:Int),(3516065817:Int),(3600352804:Int),(4094571909:Int),(275423344:Int),(430227734:Int),(506948616:Int),(659060556:Int),(883997877:Int),(958139571:Int),(1322822218:Int),(1537002063:Int),(1747873779:Int),(1955562222:Int),(2024104815:Int),(2227730452:Int),(2361852424:Int),(2428436474:Int),(2756734187:Int),(3204031479:Int),(3329325298:Int)].getD v_37.toNat 0)))+(w_5r0.getD v_37.toNat 0))))) e_10 f_11 g_12 (w64 (v_37+1)) state_2r0 v_4r0 w_5r0)
  else none
  else none
  else none
  else none
 else
  k (.c1 0 state_2r0 v_4r0 [a_6,b_7,c_8,d_9,e_10,f_11,g_12,h_13])
 | .c1 v_109 state_2r0 v_4r0 out_17r0=>
 bif (decide (v_109<8)) then
  bif (Nat.beq 8 out_17r0.length) then
  bif ((decide (0≤v_109)) && (decide (v_109<(out_17r0.length:Int)))) then
  bif (Nat.beq 8 state_2r0.length) then
  bif ((decide (0≤v_109)) && (decide (v_109<(state_2r0.length:Int)))) then
  bif (Nat.beq 8 out_17r0.length) then
  bif ((decide (0≤v_109)) && (decide (v_109<(out_17r0.length:Int)))) then
  k (.c1 (w64 (v_109+1)) state_2r0 v_4r0 (out_17r0.set v_109.toNat (w32 ((out_17r0.getD v_109.toNat 0)+(state_2r0.getD v_109.toNat 0)))))
  else none
  else none
  else none
  else none
  else none
  else none
 else
  bif (Nat.beq 8 out_17r0.length) then
  bif ((Nat.beq out_17r0.length v_4r0.length) && (Nat.beq 8 out_17r0.length)) then
  bif ((Nat.beq 8 out_17r0.length) && true) then
  some out_17r0
  else none
  else none
  else none
noncomputable def Ic:Nat→Zu→Option (List Int)
 | 0,_=>none
 | m+1,s=>Lm Xi QY (Ic m) s
noncomputable def Yi:A8:=XAG Xi QY (Ic gas)
theorem GAZ:Tells ctx PP 156 cv47 cv45 (fun a=>Yi a.1 a.2):=
 have b:∀ z0 z1,CutIs ctx PP 156 Tryz.f156 [] [(194,CAP z0),(195,Y7 z1)] cv45 DAP (Lm z0 z1):=fun z0 z1 _ s=>by cases s <;> kernel_rfl
 have e:∀ z0 z1,EntryIs ctx PP 156 [] [(194,CAP z0),(195,Y7 z1)] cv47 cv45 DAP (fun k a=>XAG z0 z1 k a.1 a.2):=fun z0 z1 _ a=>by kernel_rfl
 fn_ok (hc FAZ (hc AAP hl_nil)) Tryz.func156 (fun s s' h=>by cases s <;> cases s' <;> first | (cases h;done) | (cases h;rfl) | exact (rg_ne h (by kernel_rfl)).elim) (fun _=>rfl) (fun _ _=>rfl) (b Xi QY) (e Xi QY) gas
noncomputable def EAP {γ:Type} (F:A8):Hd ctx γ:=hdl cv47.dec (fun a=>F a.1 a.2) cv45.enc
abbrev YAG:=(List Int)→ByteArray→Option ((List Int)×ByteArray)
inductive Bv where
 | c0 (s_1:ByteArray) (state_2r0:(List Int)) (v_4r0:(List Int))
noncomputable def FAP:Bv→LI
 | .c0 s_1 state_2r0 v_4r0=>(tdo Tryz.f102 96,[(1,[.one (.str s_1)]),(2,[.one (.ptr 128 0)]),(4,[.one (.ptr 256 0)])],[(128,.ar 138 state_2r0),(256,.ar 138 v_4r0)])
noncomputable def AAH (z0:A8) (k:Bv→Option ((List Int)×ByteArray)) (state_0:(List Int)) (s_1:ByteArray):Option ((List Int)×ByteArray):=
 k (.c0 s_1 state_0 [0,0,0,0,0,0,0,0])
noncomputable def D8 (z0:A8) (k:Bv→Option ((List Int)×ByteArray)):Bv→Option ((List Int)×ByteArray)
 | .c0 s_1 state_2r0 v_4r0=>
 bif (decide ((s_1.size:Int)≥64)) then
  bif (Nat.beq 8 state_2r0.length) then
  bif ((decide ((0:Int)≤(64:Int))) && (decide (64≤(s_1.size:Int)))) then
  (z0 state_2r0 (s_1.extract 0 (64:Int).toNat)).bind fun r0=>
  bif ((Nat.beq r0.length state_2r0.length) && (Nat.beq 8 r0.length)) then
  bif ((decide ((0:Int)≤(64:Int))) && (decide (64≤(s_1.size:Int)))) then
  k (.c0 (s_1.extract (64:Int).toNat s_1.size) r0 v_4r0)
  else none
  else none
  else none
  else none
 else
  bif (Nat.beq 8 state_2r0.length) then
  bif ((Nat.beq state_2r0.length v_4r0.length) && (Nat.beq 8 state_2r0.length)) then
  bif ((Nat.beq 8 state_2r0.length) && true) then
  some (state_2r0,s_1)
  else none
  else none
  else none
noncomputable def Dv:Nat→Bv→Option ((List Int)×ByteArray)
 | 0,_=>none
 | m+1,s=>D8 Yi (Dv m) s
noncomputable def Fv:YAG:=AAH Yi (Dv gas)
theorem HAZ:Tells ctx PP 102 cv47 cv47 (fun a=>Fv a.1 a.2):=
 have b:∀ z0,CutIs ctx PP 102 Tryz.f102 [] [(156,EAP z0)] cv47 FAP (D8 z0):=fun z0 _ s=>by cases s <;> kernel_rfl
 have e:∀ z0,EntryIs ctx PP 102 [] [(156,EAP z0)] cv47 cv47 FAP (fun k a=>AAH z0 k a.1 a.2):=fun z0 _ a=>by kernel_rfl
 fn_ok (hc GAZ hl_nil) Tryz.func102 (fun s s' h=>by cases s;cases s';cases h;rfl) (fun _=>rfl) (fun _ _=>rfl) (b Yi) (e Yi) gas
noncomputable def IAZ {γ:Type} (F:YAG):Hd ctx γ:=hdl cv47.dec (fun a=>F a.1 a.2) cv47.enc
abbrev BAH:=(List Int)→Option ByteArray
inductive Gv where
 | c0 (out_3:ByteArray) (v_6:(List Int)) (v_7:Int)
noncomputable def HAP:Gv→LI
 | .c0 out_3 v_6 v_7=>(tdo Tryz.f105 232,[(3,[.one (.str out_3)]),(6,[.arr 138 v_6]),(7,[.one (.int .i64 v_7)])],[])
noncomputable def CAH (z0:Pg) (k:Gv→Option ByteArray) (state_0:(List Int)):Option ByteArray:=
 bif (Nat.beq 8 state_0.length) then
 k (.c0 ⟨#[]⟩ state_0 0)
 else none
noncomputable def E8 (z0:Pg) (k:Gv→Option ByteArray):Gv→Option ByteArray
 | .c0 out_3 v_6 v_7=>
 bif (decide (v_7<8)) then
  bif (Nat.beq 8 v_6.length) then
  bif ((decide (0≤v_7)) && (decide (v_7<(v_6.length:Int)))) then
  (z0 (v_6.getD v_7.toNat 0)).bind fun r0=>
  bif (decide ((out_3.size+r0.size)≤9223372036854775807)) then
  k (.c0 (out_3++r0) v_6 (w64 (v_7+1)))
  else none
  else none
  else none
 else
  some out_3
noncomputable def Jv:Nat→Gv→Option ByteArray
 | 0,_=>none
 | m+1,s=>E8 YZ (Jv m) s
noncomputable def Kv:BAH:=CAH YZ (Jv gas)
theorem JAZ:Tells ctx PP 105 cv45 cv3 (fun a=>Kv a):=
 have b:∀ z0,CutIs ctx PP 105 Tryz.f105 [] [(158,Gm z0)] cv3 HAP (E8 z0):=fun z0 _ s=>by cases s <;> kernel_rfl
 have e:∀ z0,EntryIs ctx PP 105 [] [(158,Gm z0)] cv45 cv3 HAP (fun k a=>CAH z0 k a):=fun z0 _ a=>by kernel_rfl
 fn_ok (hc X7 hl_nil) Tryz.func105 (fun s s' h=>by cases s;cases s';cases h;rfl) (fun _=>rfl) (fun _ _=>rfl) (b YZ) (e YZ) gas
noncomputable def KAZ {γ:Type} (F:BAH):Hd ctx γ:=hdl cv45.dec (fun a=>F a) cv3.enc
abbrev Nv:=ByteArray→Option ByteArray
noncomputable def DAH (z0:JAG) (z1:QAG) (z2:YAG) (z3:BAH) (s_0:ByteArray):Option ByteArray:=
 z0.bind fun r0=>
 (z1 (s_0.size:Int)).bind fun r1=>
 bif (decide ((s_0.size+r1.size)≤9223372036854775807)) then
 (z2 r0 (s_0++r1)).bind fun r2=>
 bif ((Nat.beq r2.1.length 8) && (Nat.beq 8 r2.1.length)) then
 bif (Nat.beq 8 r2.1.length) then
 (z3 r2.1).bind fun r3=>
 some r3
 else none
 else none
 else none
noncomputable def Jc:Nv:=DAH V7 Wu Fv Kv
theorem EAH:Tells ctx PP 32 cv3 cv3 (fun a=>Jc a):=fn_ok0 (hc XAY (hc BAZ (hc HAZ (hc JAZ hl_nil)))) Tryz.func32 ((fun z0 z1 z2 z3 a=>by kernel_rfl:∀ z0 z1 z2 z3,EntryIs0 ctx PP 32 [] [(103,YAY z0),(104,CAZ z1),(102,IAZ z2),(105,KAZ z3)] cv3 cv3 fun a=>DAH z0 z1 z2 z3 a) V7 Wu Fv Kv)
noncomputable def FAH {γ:Type} (F:Nv):Hd ctx γ:=hdl cv3.dec (fun a=>F a) cv3.enc
abbrev Ov:=Option SBook
noncomputable def GAH (z0:Nv) (z1:Uu)  : Option SBook:=
 (z0 ⟨#[]⟩).bind fun r0=>
 (z1 32).bind fun r1=>
 some ⟨r0,0,[],0,r1,0⟩
noncomputable def Gf:Ov:=GAH Jc Xd
theorem IAP:Tells ctx PP 30 cv0 cv14 (fun _=>Gf):=fn_ok0 (hc EAH (hc LAG hl_nil)) Tryz.func30 ((fun z0 z1 _=>by kernel_rfl:∀ z0 z1,EntryIs0 ctx PP 30 [] [(32,FAH z0),(99,MAG z1)] cv0 cv14 fun _=>GAH z0 z1) Jc Xd)
noncomputable def HAH {γ:Type} (F:Ov):Hd ctx γ:=hdl cv0.dec (fun _=>F) cv14.enc
abbrev IAH:=(List SThing)→(List SThing)→Option Bool
inductive Pv where
 | c0 (a_0:(List SThing)) (b_1:(List SThing)) (v_12:Int) (v_13:Int)
noncomputable def JAP:Pv→LI
 | .c0 a_0 b_1 v_12 v_13=>(tdo Tryz.f125 232,[(0,[.one (.rsl 69 a_0)]),(1,[.one (.rsl 69 b_1)]),(12,[.one (.int .i64 v_12)]),(13,[.one (.int .i64 v_13)])],[])
noncomputable def JAH (k:Pv→Option Bool) (a_0:(List SThing)) (b_1:(List SThing)):Option Bool:=
 bif ((a_0.length:Int) != (b_1.length:Int)) then
 some false
 else
 k (.c0 a_0 b_1 (a_0.length:Int) 0)
noncomputable def F8 (k:Pv→Option Bool):Pv→Option Bool
 | .c0 a_0 b_1 v_12 v_13=>
 bif (decide (v_13<v_12)) then
  bif ((decide (0≤v_13)) && (decide (v_13<(a_0.length:Int)))) then
  bif ((decide (0≤v_13)) && (decide (v_13<(b_1.length:Int)))) then
  bif (!(((a_0.getD v_13.toNat (⟨0,0,false,false,false,false,⟨#[]⟩,0⟩:SThing)).fId == (b_1.getD v_13.toNat (⟨0,0,false,false,false,false,⟨#[]⟩,0⟩:SThing)).fId) && (((a_0.getD v_13.toNat (⟨0,0,false,false,false,false,⟨#[]⟩,0⟩:SThing)).fKind == (b_1.getD v_13.toNat (⟨0,0,false,false,false,false,⟨#[]⟩,0⟩:SThing)).fKind) && (((a_0.getD v_13.toNat (⟨0,0,false,false,false,false,⟨#[]⟩,0⟩:SThing)).fHidden == (b_1.getD v_13.toNat (⟨0,0,false,false,false,false,⟨#[]⟩,0⟩:SThing)).fHidden) && (((a_0.getD v_13.toNat (⟨0,0,false,false,false,false,⟨#[]⟩,0⟩:SThing)).fFixed == (b_1.getD v_13.toNat (⟨0,0,false,false,false,false,⟨#[]⟩,0⟩:SThing)).fFixed) && (((a_0.getD v_13.toNat (⟨0,0,false,false,false,false,⟨#[]⟩,0⟩:SThing)).fSigns == (b_1.getD v_13.toNat (⟨0,0,false,false,false,false,⟨#[]⟩,0⟩:SThing)).fSigns) && (((a_0.getD v_13.toNat (⟨0,0,false,false,false,false,⟨#[]⟩,0⟩:SThing)).fWraps == (b_1.getD v_13.toNat (⟨0,0,false,false,false,false,⟨#[]⟩,0⟩:SThing)).fWraps) && (((ByteArray.toList (a_0.getD v_13.toNat (⟨0,0,false,false,false,false,⟨#[]⟩,0⟩:SThing)).fValue) == (ByteArray.toList (b_1.getD v_13.toNat (⟨0,0,false,false,false,false,⟨#[]⟩,0⟩:SThing)).fValue)) && (((a_0.getD v_13.toNat (⟨0,0,false,false,false,false,⟨#[]⟩,0⟩:SThing)).fNext == (b_1.getD v_13.toNat (⟨0,0,false,false,false,false,⟨#[]⟩,0⟩:SThing)).fNext) && true))))))))) then
  some false
  else
  k (.c0 a_0 b_1 v_12 (w64 (v_13+1)))
  else none
  else none
 else
  some true
noncomputable def Qv:Nat→Pv→Option Bool
 | 0,_=>none
 | m+1,s=>F8 (Qv m) s
noncomputable def Sv:IAH:=JAH (Qv gas)
theorem LAZ:Tells ctx PP 125 cv57 cv6 (fun a=>Sv a.1 a.2):=
 have b:CutIs ctx PP 125 Tryz.f125 [] [] cv6 JAP (F8):=fun _ s=>by cases s <;> kernel_rfl
 have e:EntryIs ctx PP 125 [] [] cv57 cv6 JAP (fun k a=>JAH k a.1 a.2):=fun _ a=>by kernel_rfl
 fn_ok hl_nil Tryz.func125 (fun s s' h=>by cases s;cases s';cases h;rfl) (fun _=>rfl) (fun _ _=>rfl) b e gas
noncomputable def MAZ {γ:Type} (F:IAH):Hd ctx γ:=hdl cv57.dec (fun a=>F a.1 a.2) cv6.enc
abbrev G8:=SBook→SBook→Option Bool
noncomputable def KAH (z0:IAH) (a_0:SBook) (b_1:SBook):Option Bool:=
 bif ((ByteArray.toList a_0.fWord) == (ByteArray.toList b_1.fWord)) then
 bif (a_0.fTries == b_1.fTries) then
  (z0 a_0.fThings b_1.fThings).bind fun r0=>
  bif r0 then
  bif (a_0.fLast == b_1.fLast) then
   bif ((ByteArray.toList a_0.fChain) == (ByteArray.toList b_1.fChain)) then
   some (a_0.fCount == b_1.fCount)
   else
   some false
  else
   some false
  else
  some false
 else
  some false
 else
 some false
noncomputable def Zi:G8:=KAH Sv
theorem NAZ:Tells ctx PP 61 cv58 cv6 (fun a=>Zi a.1 a.2):=fn_ok0 (hc LAZ hl_nil) Tryz.func61 ((fun z0 a=>by kernel_rfl:∀ z0,EntryIs0 ctx PP 61 [] [(125,MAZ z0)] cv58 cv6 fun a=>KAH z0 a.1 a.2) Sv)
noncomputable def KAP {γ:Type} (F:G8):Hd ctx γ:=hdl cv58.dec (fun a=>F a.1 a.2) cv6.enc
abbrev H8:=SDisk→ByteArray→Option Int
inductive Tv where
 | c0 (name_1:ByteArray) (v_8:(List SFile)) (v_9:Int) (v_10:Int)
noncomputable def LAP:Tv→LI
 | .c0 name_1 v_8 v_9 v_10=>(tdo Tryz.f128 104,[(1,[.one (.str name_1)]),(8,[.one (.rsl 155 v_8)]),(9,[.one (.int .i64 v_9)]),(10,[.one (.int .i64 v_10)])],[])
noncomputable def LAH (k:Tv→Option Int) (d_0:SDisk) (name_1:ByteArray):Option Int:=
 k (.c0 name_1 d_0.fFiles (d_0.fFiles.length:Int) 0)
noncomputable def I8 (k:Tv→Option Int):Tv→Option Int
 | .c0 name_1 v_8 v_9 v_10=>
 bif (decide (v_10<v_9)) then
  bif ((decide (0≤v_10)) && (decide (v_10<(v_8.length:Int)))) then
  bif ((ByteArray.toList (v_8.getD v_10.toNat (⟨⟨#[]⟩,⟨#[]⟩,0⟩:SFile)).fName) == (ByteArray.toList name_1)) then
  some v_10
  else
  k (.c0 name_1 v_8 v_9 (w64 (v_10+1)))
  else none
 else
  some (-(1:Int))
noncomputable def Wv:Nat→Tv→Option Int
 | 0,_=>none
 | m+1,s=>I8 (Wv m) s
noncomputable def Aj:H8:=LAH (Wv gas)
theorem NAP:Tells ctx PP 128 cv36 cv15 (fun a=>Aj a.1 a.2):=
 have b:CutIs ctx PP 128 Tryz.f128 [] [] cv15 LAP (I8):=fun _ s=>by cases s <;> kernel_rfl
 have e:EntryIs ctx PP 128 [] [] cv36 cv15 LAP (fun k a=>LAH k a.1 a.2):=fun _ a=>by kernel_rfl
 fn_ok hl_nil Tryz.func128 (fun s s' h=>by cases s;cases s';cases h;rfl) (fun _=>rfl) (fun _ _=>rfl) b e gas
noncomputable def OAP {γ:Type} (F:H8):Hd ctx γ:=hdl cv36.dec (fun a=>F a.1 a.2) cv15.enc
abbrev MAH:=SDisk→ByteArray→Option (ByteArray×Bool)
noncomputable def NAH (z0:H8) (d_0:SDisk) (name_1:ByteArray):Option (ByteArray×Bool):=
 (z0 d_0 name_1).bind fun r0=>
 bif (decide (r0<0)) then
 some (⟨#[]⟩,false)
 else
 bif ((decide (0≤r0)) && (decide (r0<(d_0.fFiles.length:Int)))) then
 some ((d_0.fFiles.getD r0.toNat (⟨⟨#[]⟩,⟨#[]⟩,0⟩:SFile)).fText,true)
 else none
noncomputable def Xv:MAH:=NAH Aj
theorem OAZ:Tells ctx PP 126 cv36 cv18 (fun a=>Xv a.1 a.2):=fn_ok0 (hc NAP hl_nil) Tryz.func126 ((fun z0 a=>by kernel_rfl:∀ z0,EntryIs0 ctx PP 126 [] [(128,OAP z0)] cv36 cv18 fun a=>NAH z0 a.1 a.2) Aj)
noncomputable def PAZ {γ:Type} (F:MAH):Hd ctx γ:=hdl cv36.dec (fun a=>F a.1 a.2) cv18.enc
abbrev Bj:=ByteArray→Int→Option (Int×Int×Bool)
inductive Yv where
 | c0 (text_0:ByteArray) (at_1:Int) (n_7:Int) (k_8:Int)
noncomputable def PAP:Yv→LI
 | .c0 text_0 at_1 n_7 k_8=>(tdo Tryz.f202 976,[(0,[.one (.str text_0)]),(1,[.one (.int .i64 at_1)]),(7,[.one (.int .i64 n_7)]),(8,[.one (.int .i64 k_8)])],[])
noncomputable def Zv (z0:TY) (k:Yv→Option (Int×Int×Bool)) (text_0:ByteArray) (at_1:Int):Option (Int×Int×Bool):=
 (z0 at_1 0 (text_0.size:Int)).bind fun r0=>
 bif (!r0) then
 some (0,(0,false))
 else
 k (.c0 text_0 at_1 0 0)
noncomputable def J8 (z0:TY) (k:Yv→Option (Int×Int×Bool)):Yv→Option (Int×Int×Bool)
 | .c0 text_0 at_1 n_7 k_8=>
 bif (decide (k_8<5)) then
  bif (decide ((w64 (at_1+k_8))<(text_0.size:Int))) then
  bif ((decide (0≤(w64 (at_1+k_8)))) && (decide ((w64 (at_1+k_8))<(text_0.size:Int)))) then
  bif (decide (0≤(w64 (7*k_8)))) then
  bif (decide ((w64 (bt text_0 (w64 (at_1+k_8))))<128)) then
   bif ((w64 (bt text_0 (w64 (at_1+k_8)))) == 0) then
   bif (decide (k_8 > 0)) then
    some (0,(0,false))
   else
    bif (decide ((w64 (n_7+(w64 (((w64 (bt text_0 (w64 (at_1+k_8)))).tmod 128)*(2 ^ (Min.min (w64 (7*k_8)).toNat (IntKind.bits IntKind.i64))))))) > 1000000000)) then
    some (0,(0,false))
    else
    some ((w64 (n_7+(w64 (((w64 (bt text_0 (w64 (at_1+k_8)))).tmod 128)*(2 ^ (Min.min (w64 (7*k_8)).toNat (IntKind.bits IntKind.i64))))))),((w64 ((w64 (at_1+k_8))+1)),true))
   else
   bif (decide ((w64 (n_7+(w64 (((w64 (bt text_0 (w64 (at_1+k_8)))).tmod 128)*(2 ^ (Min.min (w64 (7*k_8)).toNat (IntKind.bits IntKind.i64))))))) > 1000000000)) then
    some (0,(0,false))
   else
    some ((w64 (n_7+(w64 (((w64 (bt text_0 (w64 (at_1+k_8)))).tmod 128)*(2 ^ (Min.min (w64 (7*k_8)).toNat (IntKind.bits IntKind.i64))))))),((w64 ((w64 (at_1+k_8))+1)),true))
  else
   k (.c0 text_0 at_1 (w64 (n_7+(w64 (((w64 (bt text_0 (w64 (at_1+k_8)))).tmod 128)*(2 ^ (Min.min (w64 (7*k_8)).toNat (IntKind.bits IntKind.i64))))))) (w64 (k_8+1)))
  else none
  else none
  else
  some (0,(0,false))
 else
  some (0,(0,false))
noncomputable def Yd:Nat→Yv→Option (Int×Int×Bool)
 | 0,_=>none
 | m+1,s=>J8 QX (Yd m) s
noncomputable def RY:Bj:=Zv QX (Yd gas)
theorem L8:Tells ctx PP 202 cv7 cv105 (fun a=>RY a.1 a.2):=
 have b:∀ z0,CutIs ctx PP 202 Tryz.f202 [] [(60,CZ z0)] cv105 PAP (J8 z0):=fun z0 _ s=>by cases s <;> kernel_rfl
 have e:∀ z0,EntryIs ctx PP 202 [] [(60,CZ z0)] cv7 cv105 PAP (fun k a=>Zv z0 k a.1 a.2):=fun z0 _ a=>by kernel_rfl
 fn_ok (hc Dc hl_nil) Tryz.func202 (fun s s' h=>by cases s;cases s';cases h;rfl) (fun _=>rfl) (fun _ _=>rfl) (b QX) (e QX) gas
noncomputable def Aw {γ:Type} (F:Bj):Hd ctx γ:=hdl cv7.dec (fun a=>F a.1 a.2) cv105.enc
abbrev OAH:=Int→ByteArray→Option Int
inductive Dw where
 | c0 (sum_0:Int) (text_1:ByteArray) (i_5:Int)
 | c1 (sum_0:Int) (text_1:ByteArray) (i_5:Int) (v_19:Int)
noncomputable def QAP:Dw→LI
 | .c0 sum_0 text_1 i_5=>(tdo Tryz.f211 208,[(0,[.one (.int .u32 sum_0)]),(1,[.one (.str text_1)]),(5,[.one (.int .i64 i_5)])],[])
 | .c1 sum_0 text_1 i_5 v_19=>(tdo Tryz.f211 13464,[(0,[.one (.int .u32 sum_0)]),(1,[.one (.str text_1)]),(5,[.one (.int .i64 i_5)]),(19,[.one (.int .i64 v_19)])],[])
noncomputable def PAH (k:Dw→Option Int) (sum_0:Int) (text_1:ByteArray):Option Int:=
 k (.c0 sum_0 text_1 0)
noncomputable def Om (k:Dw→Option Int):Dw→Option Int
 | .c0 sum_0 text_1 i_5=>
 bif (decide (i_5<(text_1.size:Int))) then
  bif ((decide (0≤i_5)) && (decide (i_5<(text_1.size:Int)))) then
  k (.c1 (w32 (((BitVec.toNat ((BitVec.ofInt (IntKind.bits IntKind.u32) sum_0) ^^^ (BitVec.ofInt (IntKind.bits IntKind.u32) (w32 (bt text_1 i_5))))):Nat):Int)) text_1 i_5 0)
  else none
 else
  some sum_0
 | .c1 sum_0 text_1 i_5 v_19=>
 bif (decide (v_19<8)) then
  bif ((w32 (((BitVec.toNat ((BitVec.ofInt (IntKind.bits IntKind.u32) sum_0) &&& (BitVec.ofInt (IntKind.bits IntKind.u32) 1))):Nat):Int)) == 1) then
  k (.c1 (w32 (((BitVec.toNat ((BitVec.ofInt (IntKind.bits IntKind.u32) (Int.fdiv sum_0 (2 ^ (Min.min (1:Int).toNat (IntKind.bits IntKind.u32))))) ^^^ (BitVec.ofInt (IntKind.bits IntKind.u32) 3558460437))):Nat):Int)) text_1 i_5 (w64 (v_19+1)))
  else
  k (.c1 (Int.fdiv sum_0 (2 ^ (Min.min (1:Int).toNat (IntKind.bits IntKind.u32)))) text_1 i_5 (w64 (v_19+1)))
 else
  k (.c0 sum_0 text_1 (w64 (i_5+1)))
noncomputable def Hf:Nat→Dw→Option Int
 | 0,_=>none
 | m+1,s=>Om (Hf m) s
noncomputable def Ew:OAH:=PAH (Hf gas)
theorem QAZ:Tells ctx PP 211 cv32 cv8 (fun a=>Ew a.1 a.2):=
 have b:CutIs ctx PP 211 Tryz.f211 [] [] cv8 QAP (Om):=fun _ s=>by cases s <;> kernel_rfl
 have e:EntryIs ctx PP 211 [] [] cv32 cv8 QAP (fun k a=>PAH k a.1 a.2):=fun _ a=>by kernel_rfl
 fn_ok hl_nil Tryz.func211 (fun s s' h=>by cases s <;> cases s' <;> first | (cases h;done) | (cases h;rfl) | exact (rg_ne h (by kernel_rfl)).elim) (fun _=>rfl) (fun _ _=>rfl) b e gas
noncomputable def RAZ {γ:Type} (F:OAH):Hd ctx γ:=hdl cv32.dec (fun a=>F a.1 a.2) cv8.enc
abbrev Gw:=ByteArray→Option Int
noncomputable def QAH (z0:OAH) (text_0:ByteArray):Option Int:=
 (z0 4294967295 text_0).bind fun r0=>
 some r0
noncomputable def Jf:Gw:=QAH Ew
theorem RAP:Tells ctx PP 192 cv3 cv8 (fun a=>Jf a):=fn_ok0 (hc QAZ hl_nil) Tryz.func192 ((fun z0 a=>by kernel_rfl:∀ z0,EntryIs0 ctx PP 192 [] [(211,RAZ z0)] cv3 cv8 fun a=>QAH z0 a) Ew)
noncomputable def RAH {γ:Type} (F:Gw):Hd ctx γ:=hdl cv3.dec (fun a=>F a) cv8.enc
abbrev N8:=ByteArray→Option ((List ByteArray)×Int)
inductive Hw where
 | c0 (file_0:ByteArray) (at_5:Int) (out_4:(List ByteArray))
noncomputable def SAP:Hw→LI
 | .c0 file_0 at_5 out_4=>(tdo Tryz.f169 496,[(0,[.one (.str file_0)]),(4,[.one (.own 304)]),(5,[.one (.int .i64 at_5)])],[(304,.sl 9 out_4)])
noncomputable def SAH (z0:Bj) (z1:TY) (z2:Gw) (z3:Pg) (k:Hw→Option ((List ByteArray)×Int)) (file_0:ByteArray):Option ((List ByteArray)×Int):=
 bif (decide ((file_0.size:Int) > 20000)) then
 some ([],0)
 else
 k (.c0 file_0 0 [])
noncomputable def TAH (z0:Bj) (z1:TY) (z2:Gw) (z3:Pg) (k:Hw→Option ((List ByteArray)×Int)):Hw→Option ((List ByteArray)×Int)
 | .c0 file_0 at_5 out_4=>
 (z0 file_0 at_5).bind fun r0=>
 bif (!r0.2.2) then
  some (out_4,at_5)
 else
  (z1 r0.1 1 9000).bind fun r1=>
  bif (!r1) then
  some (out_4,at_5)
  else
  bif (decide (r0.1 > (w64 ((w64 ((file_0.size:Int) - r0.2.1)) - 4)))) then
   some (out_4,at_5)
  else
   bif (((decide (0≤(w64 (r0.2.1+4)))) && (decide ((w64 (r0.2.1+4))≤(w64 ((w64 (r0.2.1+4))+r0.1))))) && (decide ((w64 ((w64 (r0.2.1+4))+r0.1))≤(file_0.size:Int)))) then
   bif (((decide (0≤r0.2.1)) && (decide (r0.2.1≤(w64 (r0.2.1+4))))) && (decide ((w64 (r0.2.1+4))≤(file_0.size:Int)))) then
   (z2 (file_0.extract (w64 (r0.2.1+4)).toNat (w64 ((w64 (r0.2.1+4))+r0.1)).toNat)).bind fun r2=>
   (z3 r2).bind fun r3=>
   bif (!((ByteArray.toList (file_0.extract r0.2.1.toNat (w64 (r0.2.1+4)).toNat)) == (ByteArray.toList r3))) then
   some (out_4,at_5)
   else
   bif (decide (((out_4.length+1)*16)≤140737488355328)) then
   k (.c0 file_0 (w64 ((w64 (r0.2.1+4))+r0.1)) (out_4++[(file_0.extract (w64 (r0.2.1+4)).toNat (w64 ((w64 (r0.2.1+4))+r0.1)).toNat)]))
   else none
   else none
   else none
noncomputable def O8:Nat→Hw→Option ((List ByteArray)×Int)
 | 0,_=>none
 | m+1,s=>TAH RY QX Jf YZ (O8 m) s
noncomputable def Cj:N8:=SAH RY QX Jf YZ (O8 gas)
theorem SAZ:Tells ctx PP 169 cv3 cv106 (fun a=>Cj a):=
 have b:∀ z0 z1 z2 z3,CutIs ctx PP 169 Tryz.f169 [] [(202,Aw z0),(60,CZ z1),(192,RAH z2),(158,Gm z3)] cv106 SAP (TAH z0 z1 z2 z3):=fun z0 z1 z2 z3 _ s=>by cases s <;> kernel_rfl
 have e:∀ z0 z1 z2 z3,EntryIs ctx PP 169 [] [(202,Aw z0),(60,CZ z1),(192,RAH z2),(158,Gm z3)] cv3 cv106 SAP (fun k a=>SAH z0 z1 z2 z3 k a):=fun z0 z1 z2 z3 _ a=>by kernel_rfl
 fn_ok (hc L8 (hc Dc (hc RAP (hc X7 hl_nil)))) Tryz.func169 (fun s s' h=>by cases s;cases s';cases h;rfl) (fun _=>rfl) (fun _ _=>rfl) (b RY QX Jf YZ) (e RY QX Jf YZ) gas
noncomputable def TAP {γ:Type} (F:N8):Hd ctx γ:=hdl cv3.dec (fun a=>F a) cv106.enc
abbrev Ug:=Int→Option ByteArray
inductive Iw where
 | c0 (n_0:Int) (out_3:(List Int))
noncomputable def UAP:Iw→LI
 | .c0 n_0 out_3=>(tdo Tryz.f186 224,[(0,[.one (.int .i64 n_0)]),(3,[.one (.own 240)])],[(240,.sl 5 out_3)])
noncomputable def VAP (k:Iw→Option ByteArray) (n_0:Int):Option ByteArray:=
 k (.c0 n_0 [])
noncomputable def P8 (k:Iw→Option ByteArray):Iw→Option ByteArray
 | .c0 n_0 out_3=>
 bif (decide (n_0 > 127)) then
  bif (decide (((out_3.length+1)*1)≤140737488355328)) then
  k (.c0 (w64 (n_0.tdiv 128)) (out_3++[(w8 (w64 (128+(n_0.tmod 128))))]))
  else none
 else
  bif (decide (((out_3.length+1)*1)≤140737488355328)) then
  some (ofBytes (out_3++[(w8 n_0)]))
  else none
noncomputable def Jw:Nat→Iw→Option ByteArray
 | 0,_=>none
 | m+1,s=>P8 (Jw m) s
noncomputable def Ja:Ug:=VAP (Jw gas)
theorem Pm:Tells ctx PP 186 cv15 cv3 (fun a=>Ja a):=
 have b:CutIs ctx PP 186 Tryz.f186 [] [] cv3 UAP (P8):=fun _ s=>by cases s <;> kernel_rfl
 have e:EntryIs ctx PP 186 [] [] cv15 cv3 UAP (fun k a=>VAP k a):=fun _ a=>by kernel_rfl
 fn_ok hl_nil Tryz.func186 (fun s s' h=>by cases s;cases s';cases h;rfl) (fun _=>rfl) (fun _ _=>rfl) b e gas
noncomputable def Qm {γ:Type} (F:Ug):Hd ctx γ:=hdl cv15.dec (fun a=>F a) cv3.enc
abbrev Q8:=Int→Option (ByteArray×Bool)
noncomputable def UAH (z0:TY) (z1:Ug) (n_0:Int):Option (ByteArray×Bool):=
 (z0 n_0 0 1000000000).bind fun r0=>
 bif (!r0) then
 some (⟨#[]⟩,false)
 else
 (z1 n_0).bind fun r1=>
 some (r1,true)
noncomputable def Ej:Q8:=UAH QX Ja
theorem TAZ:Tells ctx PP 209 cv15 cv18 (fun a=>Ej a):=fn_ok0 (hc Dc (hc Pm hl_nil)) Tryz.func209 ((fun z0 z1 a=>by kernel_rfl:∀ z0 z1,EntryIs0 ctx PP 209 [] [(60,CZ z0),(186,Qm z1)] cv15 cv18 fun a=>UAH z0 z1 a) QX Ja)
noncomputable def WAP {γ:Type} (F:Q8):Hd ctx γ:=hdl cv15.dec (fun a=>F a) cv18.enc
abbrev Sm:=Int→Option ByteArray
noncomputable def VAH (n_0:Int):Option ByteArray:=
 some (ofBytes [(w8 n_0)])
noncomputable def Lc:Sm:=VAH
theorem WAH:Tells ctx PP 188 cv15 cv3 (fun a=>Lc a):=fn_ok0 hl_nil Tryz.func188 (fun a=>by kernel_rfl:EntryIs0 ctx PP 188 [] [] cv15 cv3 fun a=>VAH a)
noncomputable def U8 {γ:Type} (F:Sm):Hd ctx γ:=hdl cv15.dec (fun a=>F a) cv3.enc
abbrev XAH:=ByteArray→Int→Option ByteArray
inductive Kw where
 | c0 (x_1:Int) (v_10:Int) (v_11:Int) (out_5:(List Int))
noncomputable def XAP:Kw→LI
 | .c0 x_1 v_10 v_11 out_5=>(tdo Tryz.f217 232,[(1,[.one (.int .u8 x_1)]),(5,[.one (.own 368)]),(10,[.one (.int .i64 v_10)]),(11,[.one (.int .i64 v_11)])],[(368,.sl 5 out_5)])
noncomputable def YAH (k:Kw→Option ByteArray) (s_0:ByteArray) (x_1:Int):Option ByteArray:=
 bif (decide (s_0.size≤9223372036854775807)) then
 k (.c0 x_1 ((bytesOf s_0).length:Int) 0 (bytesOf s_0))
 else none
noncomputable def V8 (k:Kw→Option ByteArray):Kw→Option ByteArray
 | .c0 x_1 v_10 v_11 out_5=>
 bif (decide (v_11<v_10)) then
  bif ((decide (0≤v_11)) && (decide (v_11<(out_5.length:Int)))) then
  bif ((decide (0≤v_11)) && (decide (v_11<(out_5.length:Int)))) then
  k (.c0 x_1 v_10 (w64 (v_11+1)) (out_5.set v_11.toNat (w8 (((BitVec.toNat ((BitVec.ofInt (IntKind.bits IntKind.u8) (out_5.getD v_11.toNat 0)) ^^^ (BitVec.ofInt (IntKind.bits IntKind.u8) x_1))):Nat):Int))))
  else none
  else none
 else
  some (ofBytes out_5)
noncomputable def Nw:Nat→Kw→Option ByteArray
 | 0,_=>none
 | m+1,s=>V8 (Nw m) s
noncomputable def Fj:XAH:=YAH (Nw gas)
theorem UAZ:Tells ctx PP 217 cv28 cv3 (fun a=>Fj a.1 a.2):=
 have b:CutIs ctx PP 217 Tryz.f217 [] [] cv3 XAP (V8):=fun _ s=>by cases s <;> kernel_rfl
 have e:EntryIs ctx PP 217 [] [] cv28 cv3 XAP (fun k a=>YAH k a.1 a.2):=fun _ a=>by kernel_rfl
 fn_ok hl_nil Tryz.func217 (fun s s' h=>by cases s;cases s';cases h;rfl) (fun _=>rfl) (fun _ _=>rfl) b e gas
noncomputable def VAZ {γ:Type} (F:XAH):Hd ctx γ:=hdl cv28.dec (fun a=>F a.1 a.2) cv3.enc
abbrev Qw:=ByteArray→ByteArray→Option ByteArray
noncomputable def ZAH (z0:Nv) (z1:Uu) (z2:XAH) (key_0:ByteArray) (s_1:ByteArray):Option ByteArray:=
 bif (decide ((key_0.size:Int) > 64)) then
 (z0 key_0).bind fun r0=>
 (z1 (w64 (64 - (r0.size:Int)))).bind fun r1=>
 bif (decide ((r0.size+r1.size)≤9223372036854775807)) then
 (z2 (r0++r1) 92).bind fun r2=>
 (z2 (r0++r1) 54).bind fun r3=>
 bif (decide ((r3.size+s_1.size)≤9223372036854775807)) then
 (z0 (r3++s_1)).bind fun r4=>
 bif (decide ((r2.size+r4.size)≤9223372036854775807)) then
 (z0 (r2++r4)).bind fun r5=>
 some r5
 else none
 else none
 else none
 else
 (z1 (w64 (64 - (key_0.size:Int)))).bind fun r6=>
 bif (decide ((key_0.size+r6.size)≤9223372036854775807)) then
 (z2 (key_0++r6) 92).bind fun r7=>
 (z2 (key_0++r6) 54).bind fun r8=>
 bif (decide ((r8.size+s_1.size)≤9223372036854775807)) then
 (z0 (r8++s_1)).bind fun r9=>
 bif (decide ((r7.size+r9.size)≤9223372036854775807)) then
 (z0 (r7++r9)).bind fun r10=>
 some r10
 else none
 else none
 else none
noncomputable def Rf:Qw:=ZAH Jc Xd Fj
theorem YAP:Tells ctx PP 210 cv29 cv3 (fun a=>Rf a.1 a.2):=fn_ok0 (hc EAH (hc LAG (hc UAZ hl_nil))) Tryz.func210 ((fun z0 z1 z2 a=>by kernel_rfl:∀ z0 z1 z2,EntryIs0 ctx PP 210 [] [(32,FAH z0),(99,MAG z1),(217,VAZ z2)] cv29 cv3 fun a=>ZAH z0 z1 z2 a.1 a.2) Jc Xd Fj)
noncomputable def AAI {γ:Type} (F:Qw):Hd ctx γ:=hdl cv29.dec (fun a=>F a.1 a.2) cv3.enc
abbrev BAI:=ByteArray→Int→Int→Option (ByteArray×Bool)
inductive Rw where
 | c0 (key_0:ByteArray) (n_2:Int) (v_8:ByteArray) (out_10:ByteArray) (i_11:Int)
noncomputable def ZAP:Rw→LI
 | .c0 key_0 n_2 v_8 out_10 i_11=>(tdo Tryz.f189 2000,[(0,[.one (.str key_0)]),(2,[.one (.int .i64 n_2)]),(8,[.one (.str v_8)]),(10,[.one (.str out_10)]),(11,[.one (.int .i64 i_11)])],[])
noncomputable def CAI (z0:Q8) (z1:TY) (z2:Sm) (z3:Qw) (k:Rw→Option (ByteArray×Bool)) (key_0:ByteArray) (num_1:Int) (n_2:Int):Option (ByteArray×Bool):=
 (z0 num_1).bind fun r0=>
 bif (!r0.2) then
 some (⟨#[]⟩,false)
 else
 (z1 n_2 0 8000).bind fun r1=>
 bif (!r1) then
  some (⟨#[]⟩,false)
 else
  k (.c0 key_0 n_2 r0.1 ⟨#[]⟩ 0)
noncomputable def X8 (z0:Q8) (z1:TY) (z2:Sm) (z3:Qw) (k:Rw→Option (ByteArray×Bool)):Rw→Option (ByteArray×Bool)
 | .c0 key_0 n_2 v_8 out_10 i_11=>
 bif (decide ((out_10.size:Int)<n_2)) then
  bif (decide (((⟨#[109]⟩:ByteArray).size+v_8.size)≤9223372036854775807)) then
  (z2 i_11).bind fun r0=>
  bif (decide ((((⟨#[109]⟩:ByteArray)++v_8).size+r0.size)≤9223372036854775807)) then
  (z3 key_0 (((⟨#[109]⟩:ByteArray)++v_8)++r0)).bind fun r1=>
  bif (decide ((out_10.size+r1.size)≤9223372036854775807)) then
  k (.c0 key_0 n_2 v_8 (out_10++r1) (w64 (i_11+1)))
  else none
  else none
  else none
 else
  bif ((decide (0≤n_2)) && (decide (n_2≤(out_10.size:Int)))) then
  some ((out_10.extract 0 n_2.toNat),true)
  else none
noncomputable def Uw:Nat→Rw→Option (ByteArray×Bool)
 | 0,_=>none
 | m+1,s=>X8 Ej QX Lc Rf (Uw m) s
noncomputable def Vw:BAI:=CAI Ej QX Lc Rf (Uw gas)
theorem WAZ:Tells ctx PP 189 cv30 cv18 (fun a=>Vw a.1 a.2.1 a.2.2):=
 have b:∀ z0 z1 z2 z3,CutIs ctx PP 189 Tryz.f189 [] [(209,WAP z0),(60,CZ z1),(188,U8 z2),(210,AAI z3)] cv18 ZAP (X8 z0 z1 z2 z3):=fun z0 z1 z2 z3 _ s=>by cases s <;> kernel_rfl
 have e:∀ z0 z1 z2 z3,EntryIs ctx PP 189 [] [(209,WAP z0),(60,CZ z1),(188,U8 z2),(210,AAI z3)] cv30 cv18 ZAP (fun k a=>CAI z0 z1 z2 z3 k a.1 a.2.1 a.2.2):=fun z0 z1 z2 z3 _ a=>by kernel_rfl
 fn_ok (hc TAZ (hc Dc (hc WAH (hc YAP hl_nil)))) Tryz.func189 (fun s s' h=>by cases s;cases s';cases h;rfl) (fun _=>rfl) (fun _ _=>rfl) (b Ej QX Lc Rf) (e Ej QX Lc Rf) gas
noncomputable def XAZ {γ:Type} (F:BAI):Hd ctx γ:=hdl cv30.dec (fun a=>F a.1 a.2.1 a.2.2) cv18.enc
abbrev DAI:=ByteArray→Int→ByteArray→Option ByteArray
noncomputable def EAI (z0:Ug) (z1:Qw) (key_0:ByteArray) (num_1:Int) (s_2:ByteArray):Option ByteArray:=
 (z0 num_1).bind fun r0=>
 bif (decide (((⟨#[116]⟩:ByteArray).size+r0.size)≤9223372036854775807)) then
 bif (decide ((((⟨#[116]⟩:ByteArray)++r0).size+s_2.size)≤9223372036854775807)) then
 (z1 key_0 (((⟨#[116]⟩:ByteArray)++r0)++s_2)).bind fun r1=>
 bif ((decide ((0:Int)≤(16:Int))) && (decide (16≤(r1.size:Int)))) then
 some (r1.extract 0 (16:Int).toNat)
 else none
 else none
 else none
noncomputable def Xw:DAI:=EAI Ja Rf
theorem YAZ:Tells ctx PP 191 cv31 cv3 (fun a=>Xw a.1 a.2.1 a.2.2):=fn_ok0 (hc Pm (hc YAP hl_nil)) Tryz.func191 ((fun z0 z1 a=>by kernel_rfl:∀ z0 z1,EntryIs0 ctx PP 191 [] [(186,Qm z0),(210,AAI z1)] cv31 cv3 fun a=>EAI z0 z1 a.1 a.2.1 a.2.2) Ja Rf)
noncomputable def ZAZ {γ:Type} (F:DAI):Hd ctx γ:=hdl cv31.dec (fun a=>F a.1 a.2.1 a.2.2) cv3.enc
abbrev FAI:=ByteArray→ByteArray→Option ByteArray
inductive Yw where
 | c0 (b_1:ByteArray) (v_10:Int) (v_11:Int) (out_5:(List Int))
noncomputable def AAQ:Yw→LI
 | .c0 b_1 v_10 v_11 out_5=>(tdo Tryz.f190 232,[(1,[.one (.str b_1)]),(5,[.one (.own 368)]),(10,[.one (.int .i64 v_10)]),(11,[.one (.int .i64 v_11)])],[(368,.sl 5 out_5)])
noncomputable def GAI (k:Yw→Option ByteArray) (a_0:ByteArray) (b_1:ByteArray):Option ByteArray:=
 bif (decide (a_0.size≤9223372036854775807)) then
 k (.c0 b_1 ((bytesOf a_0).length:Int) 0 (bytesOf a_0))
 else none
noncomputable def Y8 (k:Yw→Option ByteArray):Yw→Option ByteArray
 | .c0 b_1 v_10 v_11 out_5=>
 bif (decide (v_11<v_10)) then
  bif ((decide (0≤v_11)) && (decide (v_11<(out_5.length:Int)))) then
  bif ((decide (0≤v_11)) && (decide (v_11<(b_1.size:Int)))) then
  bif ((decide (0≤v_11)) && (decide (v_11<(out_5.length:Int)))) then
  k (.c0 b_1 v_10 (w64 (v_11+1)) (out_5.set v_11.toNat (w8 (((BitVec.toNat ((BitVec.ofInt (IntKind.bits IntKind.u8) (out_5.getD v_11.toNat 0)) ^^^ (BitVec.ofInt (IntKind.bits IntKind.u8) (bt b_1 v_11)))):Nat):Int))))
  else none
  else none
  else none
 else
  some (ofBytes out_5)
noncomputable def Zw:Nat→Yw→Option ByteArray
 | 0,_=>none
 | m+1,s=>Y8 (Zw m) s
noncomputable def Dx:FAI:=GAI (Zw gas)
theorem AAa:Tells ctx PP 190 cv29 cv3 (fun a=>Dx a.1 a.2):=
 have b:CutIs ctx PP 190 Tryz.f190 [] [] cv3 AAQ (Y8):=fun _ s=>by cases s <;> kernel_rfl
 have e:EntryIs ctx PP 190 [] [] cv29 cv3 AAQ (fun k a=>GAI k a.1 a.2):=fun _ a=>by kernel_rfl
 fn_ok hl_nil Tryz.func190 (fun s s' h=>by cases s;cases s';cases h;rfl) (fun _=>rfl) (fun _ _=>rfl) b e gas
noncomputable def BAa {γ:Type} (F:FAI):Hd ctx γ:=hdl cv29.dec (fun a=>F a.1 a.2) cv3.enc
abbrev Z8:=ByteArray→Int→ByteArray→Option (ByteArray×Bool)
noncomputable def HAI (z0:BAI) (z1:DAI) (z2:FAI) (key_0:ByteArray) (num_1:Int) (text_2:ByteArray):Option (ByteArray×Bool):=
 bif (decide ((w64 ((text_2.size:Int) - 16))<0)) then
 some (⟨#[]⟩,false)
 else
 (z0 key_0 num_1 (w64 ((text_2.size:Int) - 16))).bind fun r0=>
 bif (!r0.2) then
  some (⟨#[]⟩,false)
 else
  bif ((decide (0≤(w64 ((text_2.size:Int) - 16)))) && (decide ((w64 ((text_2.size:Int) - 16))≤(text_2.size:Int)))) then
  (z1 key_0 num_1 (text_2.extract 0 (w64 ((text_2.size:Int) - 16)).toNat)).bind fun r1=>
  bif ((decide (0≤(w64 ((text_2.size:Int) - 16)))) && (decide ((w64 ((text_2.size:Int) - 16))≤(text_2.size:Int)))) then
  bif (!((ByteArray.toList r1) == (ByteArray.toList (text_2.extract (w64 ((text_2.size:Int) - 16)).toNat text_2.size)))) then
  some (⟨#[]⟩,false)
  else
  bif ((decide (0≤(w64 ((text_2.size:Int) - 16)))) && (decide ((w64 ((text_2.size:Int) - 16))≤(text_2.size:Int)))) then
  (z2 (text_2.extract 0 (w64 ((text_2.size:Int) - 16)).toNat) r0.1).bind fun r2=>
  some (r2,true)
  else none
  else none
  else none
noncomputable def Gj:Z8:=HAI Vw Xw Dx
theorem CAa:Tells ctx PP 170 cv31 cv18 (fun a=>Gj a.1 a.2.1 a.2.2):=fn_ok0 (hc WAZ (hc YAZ (hc AAa hl_nil))) Tryz.func170 ((fun z0 z1 z2 a=>by kernel_rfl:∀ z0 z1 z2,EntryIs0 ctx PP 170 [] [(189,XAZ z0),(191,ZAZ z1),(190,BAa z2)] cv31 cv18 fun a=>HAI z0 z1 z2 a.1 a.2.1 a.2.2) Vw Xw Dx)
noncomputable def BAQ {γ:Type} (F:Z8):Hd ctx γ:=hdl cv31.dec (fun a=>F a.1 a.2.1 a.2.2) cv18.enc
abbrev IAI:=SFields→Option (Int×SFields)
noncomputable def C9 (z0:Bj) (f_0:SFields):Option (Int×SFields):=
 (z0 f_0.fText f_0.fAt).bind fun r0=>
 bif (!r0.2.2) then
 some (0,⟨f_0.fText,f_0.fAt,true⟩)
 else
 some (r0.1,⟨f_0.fText,r0.2.1,f_0.fBad⟩)
noncomputable def Vg:IAI:=C9 RY
theorem DAa:Tells ctx PP 214 cv117 cv118 (fun a=>Vg a):=fn_ok0 (hc L8 hl_nil) Tryz.func214 ((fun z0 a=>by kernel_rfl:∀ z0,EntryIs0 ctx PP 214 [0] [(202,Aw z0)] cv117 cv118 fun a=>C9 z0 a) RY)
noncomputable def EAa {γ:Type} (F:IAI):Hd ctx γ:=hdl cv117.dec (fun a=>F a) cv118.enc
abbrev JAI:=ByteArray→Int→Option (ByteArray×Int×Bool)
noncomputable def D9 (z0:Bj) (text_0:ByteArray) (at_1:Int):Option (ByteArray×Int×Bool):=
 (z0 text_0 at_1).bind fun r0=>
 bif (!r0.2.2) then
 some (⟨#[]⟩,(0,false))
 else
 bif (decide (r0.1 > 20000)) then
  some (⟨#[]⟩,(0,false))
 else
  bif (decide (r0.1 > (w64 ((text_0.size:Int) - r0.2.1)))) then
  some (⟨#[]⟩,(0,false))
  else
  bif (((decide (0≤r0.2.1)) && (decide (r0.2.1≤(w64 (r0.2.1+r0.1))))) && (decide ((w64 (r0.2.1+r0.1))≤(text_0.size:Int)))) then
  some ((text_0.extract r0.2.1.toNat (w64 (r0.2.1+r0.1)).toNat),((w64 (r0.2.1+r0.1)),true))
  else none
noncomputable def Ij:JAI:=D9 RY
theorem FAa:Tells ctx PP 218 cv7 cv119 (fun a=>Ij a.1 a.2):=fn_ok0 (hc L8 hl_nil) Tryz.func218 ((fun z0 a=>by kernel_rfl:∀ z0,EntryIs0 ctx PP 218 [] [(202,Aw z0)] cv7 cv119 fun a=>D9 z0 a.1 a.2) RY)
noncomputable def GAa {γ:Type} (F:JAI):Hd ctx γ:=hdl cv7.dec (fun a=>F a.1 a.2) cv119.enc
abbrev KAI:=SFields→Option (ByteArray×SFields)
noncomputable def F9 (z0:JAI) (f_0:SFields):Option (ByteArray×SFields):=
 (z0 f_0.fText f_0.fAt).bind fun r0=>
 bif (!r0.2.2) then
 some (⟨#[]⟩,⟨f_0.fText,f_0.fAt,true⟩)
 else
 some (r0.1,⟨f_0.fText,r0.2.1,f_0.fBad⟩)
noncomputable def Jj:KAI:=F9 Ij
theorem HAa:Tells ctx PP 215 cv117 cv120 (fun a=>Jj a):=fn_ok0 (hc FAa hl_nil) Tryz.func215 ((fun z0 a=>by kernel_rfl:∀ z0,EntryIs0 ctx PP 215 [0] [(218,GAa z0)] cv117 cv120 fun a=>F9 z0 a) Ij)
noncomputable def IAa {γ:Type} (F:KAI):Hd ctx γ:=hdl cv117.dec (fun a=>F a) cv120.enc
abbrev Gx:=SThing→Option Bool
noncomputable def LAI (z0:TY) (x_0:SThing):Option Bool:=
 (z0 x_0.fId 1 1000).bind fun r0=>
 bif (!r0) then
 some false
 else
 (z0 x_0.fNext 0 16).bind fun r1=>
 bif (!r1) then
  some false
 else
  bif (x_0.fKind != 2) then
  bif (x_0.fNext != 0) then
   some false
  else
   bif x_0.fSigns then
   some false
   else
   bif (x_0.fKind != 1) then
    bif x_0.fWraps then
    some false
    else
    bif (x_0.fKind == 1) then
     bif (x_0.fKind == 1) then
     some ((x_0.fValue.size:Int) == 32)
     else
     bif (x_0.fKind == 3) then
      some (decide ((x_0.fValue.size:Int)≤100))
     else
      some false
    else
     bif (x_0.fKind == 2) then
     some ((x_0.fValue.size:Int) == 32)
     else
     bif (x_0.fKind == 3) then
      some (decide ((x_0.fValue.size:Int)≤100))
     else
      some false
   else
    bif (x_0.fKind == 1) then
    bif (x_0.fKind == 1) then
     some ((x_0.fValue.size:Int) == 32)
    else
     bif (x_0.fKind == 3) then
     some (decide ((x_0.fValue.size:Int)≤100))
     else
     some false
    else
    bif (x_0.fKind == 2) then
     some ((x_0.fValue.size:Int) == 32)
    else
     bif (x_0.fKind == 3) then
     some (decide ((x_0.fValue.size:Int)≤100))
     else
     some false
  else
  bif (x_0.fKind != 1) then
   bif x_0.fWraps then
   some false
   else
   bif (x_0.fKind == 1) then
    bif (x_0.fKind == 1) then
    some ((x_0.fValue.size:Int) == 32)
    else
    bif (x_0.fKind == 3) then
     some (decide ((x_0.fValue.size:Int)≤100))
    else
     some false
   else
    bif (x_0.fKind == 2) then
    some ((x_0.fValue.size:Int) == 32)
    else
    bif (x_0.fKind == 3) then
     some (decide ((x_0.fValue.size:Int)≤100))
    else
     some false
  else
   bif (x_0.fKind == 1) then
   bif (x_0.fKind == 1) then
    some ((x_0.fValue.size:Int) == 32)
   else
    bif (x_0.fKind == 3) then
    some (decide ((x_0.fValue.size:Int)≤100))
    else
    some false
   else
   bif (x_0.fKind == 2) then
    some ((x_0.fValue.size:Int) == 32)
   else
    bif (x_0.fKind == 3) then
    some (decide ((x_0.fValue.size:Int)≤100))
    else
    some false
noncomputable def Tf:Gx:=LAI QX
theorem CAQ:Tells ctx PP 129 cv16 cv6 (fun a=>Tf a):=fn_ok0 (hc Dc hl_nil) Tryz.func129 ((fun z0 a=>by kernel_rfl:∀ z0,EntryIs0 ctx PP 129 [] [(60,CZ z0)] cv16 cv6 fun a=>LAI z0 a) QX)
noncomputable def MAI {γ:Type} (F:Gx):Hd ctx γ:=hdl cv16.dec (fun a=>F a) cv6.enc
abbrev NAI:=SThing→Option Int
inductive Ox where
 | c0 (n_3:Int) (v_15:Int) (v_16:Int) (v_14:(List Bool))
noncomputable def DAQ:Ox→LI
 | .c0 n_3 v_15 v_16 v_14=>(tdo Tryz.f207 232,[(3,[.one (.int .i64 n_3)]),(14,[.one (.own 944)]),(15,[.one (.int .i64 v_15)]),(16,[.one (.int .i64 v_16)])],[(944,.sl 4 v_14)])
noncomputable def OAI (k:Ox→Option Int) (x_0:SThing):Option Int:=
 k (.c0 0 ((4:Nat):Int) 0 [x_0.fHidden,x_0.fFixed,x_0.fSigns,x_0.fWraps])
noncomputable def EAQ (k:Ox→Option Int):Ox→Option Int
 | .c0 n_3 v_15 v_16 v_14=>
 bif (decide (v_16<v_15)) then
  bif ((decide (0≤v_16)) && (decide (v_16<(v_14.length:Int)))) then
  bif (v_14.getD v_16.toNat false) then
  bif (decide (0≤v_16)) then
  k (.c0 (w64 (((BitVec.toNat ((BitVec.ofInt (IntKind.bits IntKind.i64) n_3) ||| (BitVec.ofInt (IntKind.bits IntKind.i64) (w64 (1*(2 ^ (Min.min v_16.toNat (IntKind.bits IntKind.i64)))))))):Nat):Int)) v_15 (w64 (v_16+1)) v_14)
  else none
  else
  k (.c0 n_3 v_15 (w64 (v_16+1)) v_14)
  else none
 else
  some n_3
noncomputable def PAI:Nat→Ox→Option Int
 | 0,_=>none
 | m+1,s=>EAQ (PAI m) s
noncomputable def Px:NAI:=OAI (PAI gas)
theorem JAa:Tells ctx PP 207 cv16 cv15 (fun a=>Px a):=
 have b:CutIs ctx PP 207 Tryz.f207 [] [] cv15 DAQ (EAQ):=fun _ s=>by cases s <;> kernel_rfl
 have e:EntryIs ctx PP 207 [] [] cv16 cv15 DAQ (fun k a=>OAI k a):=fun _ a=>by kernel_rfl
 fn_ok hl_nil Tryz.func207 (fun s s' h=>by cases s;cases s';cases h;rfl) (fun _=>rfl) (fun _ _=>rfl) b e gas
noncomputable def KAa {γ:Type} (F:NAI):Hd ctx γ:=hdl cv16.dec (fun a=>F a) cv15.enc
abbrev QAI:=ByteArray→Option ByteArray
noncomputable def RAI (z0:Ug) (s_0:ByteArray):Option ByteArray:=
 (z0 (s_0.size:Int)).bind fun r0=>
 bif (decide ((r0.size+s_0.size)≤9223372036854775807)) then
 some (r0++s_0)
 else none
noncomputable def Qx:QAI:=RAI Ja
theorem LAa:Tells ctx PP 208 cv3 cv3 (fun a=>Qx a):=fn_ok0 (hc Pm hl_nil) Tryz.func208 ((fun z0 a=>by kernel_rfl:∀ z0,EntryIs0 ctx PP 208 [] [(186,Qm z0)] cv3 cv3 fun a=>RAI z0 a) Ja)
noncomputable def MAa {γ:Type} (F:QAI):Hd ctx γ:=hdl cv3.dec (fun a=>F a) cv3.enc
abbrev G9:=SThing→Option (ByteArray×Bool)
noncomputable def SAI (z0:Gx) (z1:Ug) (z2:Sm) (z3:NAI) (z4:QAI) (x_0:SThing):Option (ByteArray×Bool):=
 (z0 x_0).bind fun r0=>
 bif (!r0) then
 some (⟨#[]⟩,false)
 else
 (z1 x_0.fId).bind fun r1=>
 (z2 x_0.fKind).bind fun r2=>
 bif (decide ((r1.size+r2.size)≤9223372036854775807)) then
 (z3 x_0).bind fun r3=>
 (z2 r3).bind fun r4=>
 bif (decide (((r1++r2).size+r4.size)≤9223372036854775807)) then
 (z4 x_0.fValue).bind fun r5=>
 bif (decide ((((r1++r2)++r4).size+r5.size)≤9223372036854775807)) then
 (z1 x_0.fNext).bind fun r6=>
 bif (decide (((((r1++r2)++r4)++r5).size+r6.size)≤9223372036854775807)) then
 some (((((r1++r2)++r4)++r5)++r6),true)
 else none
 else none
 else none
 else none
noncomputable def Lj:G9:=SAI Tf Ja Lc Px Qx
theorem FAQ:Tells ctx PP 187 cv16 cv18 (fun a=>Lj a):=fn_ok0 (hc CAQ (hc Pm (hc WAH (hc JAa (hc LAa hl_nil))))) Tryz.func187 ((fun z0 z1 z2 z3 z4 a=>by kernel_rfl:∀ z0 z1 z2 z3 z4,EntryIs0 ctx PP 187 [] [(129,MAI z0),(186,Qm z1),(188,U8 z2),(207,KAa z3),(208,MAa z4)] cv16 cv18 fun a=>SAI z0 z1 z2 z3 z4 a) Tf Ja Lc Px Qx)
noncomputable def GAQ {γ:Type} (F:G9):Hd ctx γ:=hdl cv16.dec (fun a=>F a) cv18.enc
abbrev TAI:=ByteArray→Option (SThing×Bool)
noncomputable def H9 (z0:IAI) (z1:KAI) (z2:G9) (text_0:ByteArray):Option (SThing×Bool):=
 (z0 ⟨text_0,0,false⟩).bind fun r0=>
 (z0 r0.2).bind fun r1=>
 (z0 r1.2).bind fun r2=>
 (z1 r2.2).bind fun r3=>
 (z0 r3.2).bind fun r4=>
 (z2 ⟨r0.1,r1.1,((w64 (((BitVec.toNat ((BitVec.ofInt (IntKind.bits IntKind.i64) r2.1) &&& (BitVec.ofInt (IntKind.bits IntKind.i64) 1))):Nat):Int)) != 0),((w64 (((BitVec.toNat ((BitVec.ofInt (IntKind.bits IntKind.i64) r2.1) &&& (BitVec.ofInt (IntKind.bits IntKind.i64) 2))):Nat):Int)) != 0),((w64 (((BitVec.toNat ((BitVec.ofInt (IntKind.bits IntKind.i64) r2.1) &&& (BitVec.ofInt (IntKind.bits IntKind.i64) 4))):Nat):Int)) != 0),((w64 (((BitVec.toNat ((BitVec.ofInt (IntKind.bits IntKind.i64) r2.1) &&& (BitVec.ofInt (IntKind.bits IntKind.i64) 8))):Nat):Int)) != 0),r3.1,r4.1⟩).bind fun r5=>
 bif r4.2.fBad then
 some (⟨0,0,false,false,false,false,⟨#[]⟩,0⟩,false)
 else
 bif (!r5.2) then
  some (⟨0,0,false,false,false,false,⟨#[]⟩,0⟩,false)
 else
  bif (!((ByteArray.toList r5.1) == (ByteArray.toList text_0))) then
  some (⟨0,0,false,false,false,false,⟨#[]⟩,0⟩,false)
  else
  some (⟨r0.1,r1.1,((w64 (((BitVec.toNat ((BitVec.ofInt (IntKind.bits IntKind.i64) r2.1) &&& (BitVec.ofInt (IntKind.bits IntKind.i64) 1))):Nat):Int)) != 0),((w64 (((BitVec.toNat ((BitVec.ofInt (IntKind.bits IntKind.i64) r2.1) &&& (BitVec.ofInt (IntKind.bits IntKind.i64) 2))):Nat):Int)) != 0),((w64 (((BitVec.toNat ((BitVec.ofInt (IntKind.bits IntKind.i64) r2.1) &&& (BitVec.ofInt (IntKind.bits IntKind.i64) 4))):Nat):Int)) != 0),((w64 (((BitVec.toNat ((BitVec.ofInt (IntKind.bits IntKind.i64) r2.1) &&& (BitVec.ofInt (IntKind.bits IntKind.i64) 8))):Nat):Int)) != 0),r3.1,r4.1⟩,true)
noncomputable def Xg:TAI:=H9 Vg Jj Lj
theorem NAa:Tells ctx PP 203 cv3 cv22 (fun a=>Xg a):=fn_ok0 (hc DAa (hc HAa (hc FAQ hl_nil))) Tryz.func203 ((fun z0 z1 z2 a=>by kernel_rfl:∀ z0 z1 z2,EntryIs0 ctx PP 203 [] [(214,EAa z0),(215,IAa z1),(187,GAQ z2)] cv3 cv22 fun a=>H9 z0 z1 z2 a) Vg Jj Lj)
noncomputable def OAa {γ:Type} (F:TAI):Hd ctx γ:=hdl cv3.dec (fun a=>F a) cv22.enc
abbrev I9:=SRec→Option (ByteArray×Bool)
noncomputable def UAI (z0:Ug) (z1:TY) (z2:G9) (z3:Sm) (r_0:SRec):Option (ByteArray×Bool):=
 bif (r_0.fKind == 1) then
 bif (!((r_0.fText.size:Int) == 32)) then
  some (⟨#[]⟩,false)
 else
  bif (!((r_0.fKind == r_0.fKind) && (((ByteArray.toList r_0.fText) == (ByteArray.toList r_0.fText)) && ((r_0.fNum == 0) && (((r_0.fThing.fId == 0) && ((r_0.fThing.fKind == 0) && ((r_0.fThing.fHidden == false) && ((r_0.fThing.fFixed == false) && ((r_0.fThing.fSigns == false) && ((r_0.fThing.fWraps == false) && (((ByteArray.toList r_0.fThing.fValue) == (ByteArray.toList ⟨#[]⟩)) && ((r_0.fThing.fNext == 0) && true)))))))) && true))))) then
  some (⟨#[]⟩,false)
  else
  (z3 r_0.fKind).bind fun r0=>
  bif (decide ((r0.size+r_0.fText.size)≤9223372036854775807)) then
  some ((r0++r_0.fText),true)
  else none
 else
 bif (r_0.fKind == 2) then
  (z0 r_0.fNum).bind fun r1=>
  (z1 r_0.fNum 0 3).bind fun r2=>
  bif (!r2) then
  some (⟨#[]⟩,false)
  else
  bif (!((r_0.fKind == r_0.fKind) && (((ByteArray.toList r_0.fText) == (ByteArray.toList ⟨#[]⟩)) && ((r_0.fNum == r_0.fNum) && (((r_0.fThing.fId == 0) && ((r_0.fThing.fKind == 0) && ((r_0.fThing.fHidden == false) && ((r_0.fThing.fFixed == false) && ((r_0.fThing.fSigns == false) && ((r_0.fThing.fWraps == false) && (((ByteArray.toList r_0.fThing.fValue) == (ByteArray.toList ⟨#[]⟩)) && ((r_0.fThing.fNext == 0) && true)))))))) && true))))) then
   some (⟨#[]⟩,false)
  else
   (z3 r_0.fKind).bind fun r3=>
   bif (decide ((r3.size+r1.size)≤9223372036854775807)) then
   some ((r3++r1),true)
   else none
 else
  bif (r_0.fKind == 3) then
  (z2 r_0.fThing).bind fun r4=>
  bif (!r4.2) then
   some (⟨#[]⟩,false)
  else
   bif (!((r_0.fKind == r_0.fKind) && (((ByteArray.toList r_0.fText) == (ByteArray.toList ⟨#[]⟩)) && ((r_0.fNum == 0) && (((r_0.fThing.fId == r_0.fThing.fId) && ((r_0.fThing.fKind == r_0.fThing.fKind) && ((r_0.fThing.fHidden == r_0.fThing.fHidden) && ((r_0.fThing.fFixed == r_0.fThing.fFixed) && ((r_0.fThing.fSigns == r_0.fThing.fSigns) && ((r_0.fThing.fWraps == r_0.fThing.fWraps) && (((ByteArray.toList r_0.fThing.fValue) == (ByteArray.toList r_0.fThing.fValue)) && ((r_0.fThing.fNext == r_0.fThing.fNext) && true)))))))) && true))))) then
   some (⟨#[]⟩,false)
   else
   (z3 r_0.fKind).bind fun r5=>
   bif (decide ((r5.size+r4.1.size)≤9223372036854775807)) then
   some ((r5++r4.1),true)
   else none
  else
  bif (r_0.fKind == 4) then
   (z0 r_0.fNum).bind fun r6=>
   (z1 r_0.fNum 1 1000).bind fun r7=>
   bif (!r7) then
   some (⟨#[]⟩,false)
   else
   bif (!((r_0.fKind == r_0.fKind) && (((ByteArray.toList r_0.fText) == (ByteArray.toList ⟨#[]⟩)) && ((r_0.fNum == r_0.fNum) && (((r_0.fThing.fId == 0) && ((r_0.fThing.fKind == 0) && ((r_0.fThing.fHidden == false) && ((r_0.fThing.fFixed == false) && ((r_0.fThing.fSigns == false) && ((r_0.fThing.fWraps == false) && (((ByteArray.toList r_0.fThing.fValue) == (ByteArray.toList ⟨#[]⟩)) && ((r_0.fThing.fNext == 0) && true)))))))) && true))))) then
    some (⟨#[]⟩,false)
   else
    (z3 r_0.fKind).bind fun r8=>
    bif (decide ((r8.size+r6.size)≤9223372036854775807)) then
    some ((r8++r6),true)
    else none
  else
   some (⟨#[]⟩,false)
noncomputable def Nj:I9:=UAI Ja QX Lj Lc
theorem HAQ:Tells ctx PP 151 cv19 cv18 (fun a=>Nj a):=fn_ok0 (hc Pm (hc Dc (hc FAQ (hc WAH hl_nil)))) Tryz.func151 ((fun z0 z1 z2 z3 a=>by kernel_rfl:∀ z0 z1 z2 z3,EntryIs0 ctx PP 151 [] [(186,Qm z0),(60,CZ z1),(187,GAQ z2),(188,U8 z3)] cv19 cv18 fun a=>UAI z0 z1 z2 z3 a) Ja QX Lj Lc)
noncomputable def IAQ {γ:Type} (F:I9):Hd ctx γ:=hdl cv19.dec (fun a=>F a) cv18.enc
abbrev J9:=ByteArray→Option (SRec×Bool)
noncomputable def Oj (z0:TAI) (z1:Bj) (z2:I9) (text_0:ByteArray):Option (SRec×Bool):=
 bif ((ByteArray.toList text_0) == (ByteArray.toList ⟨#[]⟩)) then
 some (⟨0,⟨#[]⟩,0,⟨0,0,false,false,false,false,⟨#[]⟩,0⟩⟩,false)
 else
 bif ((decide ((0:Int)≤(0:Int))) && (decide (0<(text_0.size:Int)))) then
 bif ((w64 (bt text_0 0)) == 1) then
  bif ((decide ((0:Int)≤(1:Int))) && (decide (1≤(text_0.size:Int)))) then
  (z2 ⟨(w64 (bt text_0 0)),(text_0.extract (1:Int).toNat text_0.size),0,⟨0,0,false,false,false,false,⟨#[]⟩,0⟩⟩).bind fun r0=>
  bif (!r0.2) then
  some (⟨0,⟨#[]⟩,0,⟨0,0,false,false,false,false,⟨#[]⟩,0⟩⟩,false)
  else
  bif (!((ByteArray.toList r0.1) == (ByteArray.toList text_0))) then
   some (⟨0,⟨#[]⟩,0,⟨0,0,false,false,false,false,⟨#[]⟩,0⟩⟩,false)
  else
   some (⟨(w64 (bt text_0 0)),(text_0.extract (1:Int).toNat text_0.size),0,⟨0,0,false,false,false,false,⟨#[]⟩,0⟩⟩,true)
  else none
 else
  bif ((w64 (bt text_0 0)) == 3) then
  bif ((decide ((0:Int)≤(1:Int))) && (decide (1≤(text_0.size:Int)))) then
  (z0 (text_0.extract (1:Int).toNat text_0.size)).bind fun r1=>
  (z2 ⟨(w64 (bt text_0 0)),⟨#[]⟩,0,r1.1⟩).bind fun r2=>
  bif (!r2.2) then
   some (⟨0,⟨#[]⟩,0,⟨0,0,false,false,false,false,⟨#[]⟩,0⟩⟩,false)
  else
   bif (!((ByteArray.toList r2.1) == (ByteArray.toList text_0))) then
   some (⟨0,⟨#[]⟩,0,⟨0,0,false,false,false,false,⟨#[]⟩,0⟩⟩,false)
   else
   some (⟨(w64 (bt text_0 0)),⟨#[]⟩,0,r1.1⟩,true)
  else none
  else
  (z1 text_0 1).bind fun r3=>
  (z2 ⟨(w64 (bt text_0 0)),⟨#[]⟩,r3.1,⟨0,0,false,false,false,false,⟨#[]⟩,0⟩⟩).bind fun r4=>
  bif (!r4.2) then
   some (⟨0,⟨#[]⟩,0,⟨0,0,false,false,false,false,⟨#[]⟩,0⟩⟩,false)
  else
   bif (!((ByteArray.toList r4.1) == (ByteArray.toList text_0))) then
   some (⟨0,⟨#[]⟩,0,⟨0,0,false,false,false,false,⟨#[]⟩,0⟩⟩,false)
   else
   some (⟨(w64 (bt text_0 0)),⟨#[]⟩,r3.1,⟨0,0,false,false,false,false,⟨#[]⟩,0⟩⟩,true)
 else none
noncomputable def La:J9:=Oj Xg RY Nj
theorem PAa:Tells ctx PP 171 cv3 cv111 (fun a=>La a):=fn_ok0 (hc NAa (hc L8 (hc HAQ hl_nil))) Tryz.func171 ((fun z0 z1 z2 a=>by kernel_rfl:∀ z0 z1 z2,EntryIs0 ctx PP 171 [] [(203,OAa z0),(202,Aw z1),(151,IAQ z2)] cv3 cv111 fun a=>Oj z0 z1 z2 a) Xg RY Nj)
noncomputable def JAQ {γ:Type} (F:J9):Hd ctx γ:=hdl cv3.dec (fun a=>F a) cv111.enc
abbrev L9:=ByteArray→Option (ByteArray×Bool)
noncomputable def VAI (z0:TY) (z1:Ug) (z2:Gw) (z3:Pg) (text_0:ByteArray):Option (ByteArray×Bool):=
 (z0 (text_0.size:Int) 1 9000).bind fun r0=>
 bif (!r0) then
 some (⟨#[]⟩,false)
 else
 (z1 (text_0.size:Int)).bind fun r1=>
 (z2 text_0).bind fun r2=>
 (z3 r2).bind fun r3=>
 bif (decide ((r1.size+r3.size)≤9223372036854775807)) then
 bif (decide (((r1++r3).size+text_0.size)≤9223372036854775807)) then
 some (((r1++r3)++text_0),true)
 else none
 else none
noncomputable def Pj:L9:=VAI QX Ja Jf YZ
theorem QAa:Tells ctx PP 153 cv3 cv18 (fun a=>Pj a):=fn_ok0 (hc Dc (hc Pm (hc RAP (hc X7 hl_nil)))) Tryz.func153 ((fun z0 z1 z2 z3 a=>by kernel_rfl:∀ z0 z1 z2 z3,EntryIs0 ctx PP 153 [] [(60,CZ z0),(186,Qm z1),(192,RAH z2),(158,Gm z3)] cv3 cv18 fun a=>VAI z0 z1 z2 z3 a) QX Ja Jf YZ)
noncomputable def KAQ {γ:Type} (F:L9):Hd ctx γ:=hdl cv3.dec (fun a=>F a) cv18.enc
abbrev WAI:=ByteArray→ByteArray→Option ((List SRec)×Int)
inductive Rx where
 | c0 (key_0:ByteArray) (at_9:Int) (v_24:Int) (v_25:Int) (out_8:(List SRec)) (v_23:(List ByteArray))
noncomputable def LAQ:Rx→LI
 | .c0 key_0 at_9 v_24 v_25 out_8 v_23=>(tdo Tryz.f127 1000,[(0,[.one (.str key_0)]),(8,[.one (.own 560)]),(9,[.one (.int .i64 at_9)]),(23,[.one (.own 1520)]),(24,[.one (.int .i64 v_24)]),(25,[.one (.int .i64 v_25)])],[(560,.sl 71 out_8),(1520,.sl 9 v_23)])
noncomputable def XAI (z0:N8) (z1:Z8) (z2:J9) (z3:L9) (k:Rx→Option ((List SRec)×Int)) (key_0:ByteArray) (file_1:ByteArray):Option ((List SRec)×Int):=
 (z0 file_1).bind fun r0=>
 k (.c0 key_0 0 (r0.1.length:Int) 0 [] r0.1)
noncomputable def N9 (z0:N8) (z1:Z8) (z2:J9) (z3:L9) (k:Rx→Option ((List SRec)×Int)):Rx→Option ((List SRec)×Int)
 | .c0 key_0 at_9 v_24 v_25 out_8 v_23=>
 bif (decide (v_25<v_24)) then
  bif ((decide (0≤v_25)) && (decide (v_25<(v_23.length:Int)))) then
  (z1 key_0 (w64 (v_25+1)) (v_23.getD v_25.toNat (⟨#[]⟩:ByteArray))).bind fun r0=>
  (z2 r0.1).bind fun r1=>
  bif (!r0.2) then
  some (out_8,at_9)
  else
  bif (!r1.2) then
   some (out_8,at_9)
  else
   bif (decide (((out_8.length+1)*80)≤140737488355328)) then
   (z3 (v_23.getD v_25.toNat (⟨#[]⟩:ByteArray))).bind fun r2=>
   k (.c0 key_0 (w64 (at_9+(r2.1.size:Int))) v_24 (w64 (v_25+1)) (out_8++[r1.1]) v_23)
   else none
  else none
 else
  some (out_8,at_9)
noncomputable def Ux:Nat→Rx→Option ((List SRec)×Int)
 | 0,_=>none
 | m+1,s=>N9 Cj Gj La Pj (Ux m) s
noncomputable def Vx:WAI:=XAI Cj Gj La Pj (Ux gas)
theorem RAa:Tells ctx PP 127 cv29 cv112 (fun a=>Vx a.1 a.2):=
 have b:∀ z0 z1 z2 z3,CutIs ctx PP 127 Tryz.f127 [] [(169,TAP z0),(170,BAQ z1),(171,JAQ z2),(153,KAQ z3)] cv112 LAQ (N9 z0 z1 z2 z3):=fun z0 z1 z2 z3 _ s=>by cases s <;> kernel_rfl
 have e:∀ z0 z1 z2 z3,EntryIs ctx PP 127 [] [(169,TAP z0),(170,BAQ z1),(171,JAQ z2),(153,KAQ z3)] cv29 cv112 LAQ (fun k a=>XAI z0 z1 z2 z3 k a.1 a.2):=fun z0 z1 z2 z3 _ a=>by kernel_rfl
 fn_ok (hc SAZ (hc CAa (hc PAa (hc QAa hl_nil)))) Tryz.func127 (fun s s' h=>by cases s;cases s';cases h;rfl) (fun _=>rfl) (fun _ _=>rfl) (b Cj Gj La Pj) (e Cj Gj La Pj) gas
noncomputable def SAa {γ:Type} (F:WAI):Hd ctx γ:=hdl cv29.dec (fun a=>F a.1 a.2) cv112.enc
abbrev Wx:=SBook→Option SBook
noncomputable def YAI (b_0:SBook):Option SBook:=
 bif (decide ((b_0.fThings.length*48)≤140737488355328)) then
 some b_0
 else none
noncomputable def Uf:Wx:=YAI
theorem MAQ:Tells ctx PP 134 cv20 cv14 (fun a=>Uf a):=fn_ok0 hl_nil Tryz.func134 (fun a=>by kernel_rfl:EntryIs0 ctx PP 134 [] [] cv20 cv14 fun a=>YAI a)
noncomputable def ZAI {γ:Type} (F:Wx):Hd ctx γ:=hdl cv20.dec (fun a=>F a) cv14.enc
abbrev Xx:=SBook→Option Bool
inductive Yx where
 | c0 (v_6:(List SThing)) (v_7:Int) (v_8:Int) (b_1:SBook)
noncomputable def NAQ:Yx→LI
 | .c0 v_6 v_7 v_8 b_1=>(tdo Tryz.f63 104,[(1,[.one (.ptr 64 0)]),(6,[.one (.rsl 69 v_6)]),(7,[.one (.int .i64 v_7)]),(8,[.one (.int .i64 v_8)])],[(64,.var [.str b_1.fWord,.int .i64 b_1.fTries,.rsl 69 b_1.fThings,.int .i64 b_1.fLast,.str b_1.fChain,.int .i64 b_1.fCount])])
noncomputable def AAJ (z0:Gx) (z1:TY) (k:Yx→Option Bool) (b_0:SBook):Option Bool:=
 k (.c0 b_0.fThings (b_0.fThings.length:Int) 0 b_0)
noncomputable def O9 (z0:Gx) (z1:TY) (k:Yx→Option Bool):Yx→Option Bool
 | .c0 v_6 v_7 v_8 b_1=>
 bif (decide (v_8<v_7)) then
  bif ((decide (0≤v_8)) && (decide (v_8<(v_6.length:Int)))) then
  (z0 (v_6.getD v_8.toNat (⟨0,0,false,false,false,false,⟨#[]⟩,0⟩:SThing))).bind fun r0=>
  bif (!r0) then
  some false
  else
  bif (decide ((v_6.getD v_8.toNat (⟨0,0,false,false,false,false,⟨#[]⟩,0⟩:SThing)).fId > b_1.fLast)) then
   some false
  else
   bif (decide (v_8 > 0)) then
   bif ((decide (0≤(w64 (v_8 - 1)))) && (decide ((w64 (v_8 - 1))<(b_1.fThings.length:Int)))) then
   bif (decide ((b_1.fThings.getD (w64 (v_8 - 1)).toNat (⟨0,0,false,false,false,false,⟨#[]⟩,0⟩:SThing)).fId≥(v_6.getD v_8.toNat (⟨0,0,false,false,false,false,⟨#[]⟩,0⟩:SThing)).fId)) then
    some false
   else
    k (.c0 v_6 v_7 (w64 (v_8+1)) b_1)
   else none
   else
   k (.c0 v_6 v_7 (w64 (v_8+1)) b_1)
  else none
 else
  bif ((b_1.fWord.size:Int) == 32) then
  bif ((b_1.fChain.size:Int) == 32) then
   (z1 b_1.fTries 0 3).bind fun r1=>
   bif r1 then
   bif (decide ((b_1.fThings.length:Int)≤8)) then
    (z1 b_1.fLast 0 1000).bind fun r2=>
    bif r2 then
    (z1 b_1.fCount 0 10000).bind fun r3=>
    some r3
    else
    some false
   else
    some false
   else
   some false
  else
   some false
  else
  some false
noncomputable def Um:Nat→Yx→Option Bool
 | 0,_=>none
 | m+1,s=>O9 Tf QX (Um m) s
noncomputable def Vf:Xx:=AAJ Tf QX (Um gas)
theorem OAQ:Tells ctx PP 63 cv20 cv6 (fun a=>Vf a):=
 have b:∀ z0 z1,CutIs ctx PP 63 Tryz.f63 [] [(129,MAI z0),(60,CZ z1)] cv6 NAQ (O9 z0 z1):=fun z0 z1 _ s=>by cases s <;> kernel_rfl
 have e:∀ z0 z1,EntryIs ctx PP 63 [] [(129,MAI z0),(60,CZ z1)] cv20 cv6 NAQ (fun k a=>AAJ z0 z1 k a):=fun z0 z1 _ a=>by kernel_rfl
 fn_ok (hc CAQ (hc Dc hl_nil)) Tryz.func63 (fun s s' h=>by cases s;cases s';(repeat cases ‹SBook›);cases h;rfl) (fun _=>rfl) (fun _ _=>rfl) (b Tf QX) (e Tf QX) gas
noncomputable def BAJ {γ:Type} (F:Xx):Hd ctx γ:=hdl cv20.dec (fun a=>F a) cv6.enc
abbrev Zx:=SBook→Int→Option Int
inductive Dy where
 | c0 (id_1:Int) (v_8:(List SThing)) (v_9:Int) (v_10:Int)
noncomputable def PAQ:Dy→LI
 | .c0 id_1 v_8 v_9 v_10=>(tdo Tryz.f155 104,[(1,[.one (.int .i64 id_1)]),(8,[.one (.rsl 69 v_8)]),(9,[.one (.int .i64 v_9)]),(10,[.one (.int .i64 v_10)])],[])
noncomputable def QAQ (k:Dy→Option Int) (b_0:SBook) (id_1:Int):Option Int:=
 k (.c0 id_1 b_0.fThings (b_0.fThings.length:Int) 0)
noncomputable def P9 (k:Dy→Option Int):Dy→Option Int
 | .c0 id_1 v_8 v_9 v_10=>
 bif (decide (v_10<v_9)) then
  bif ((decide (0≤v_10)) && (decide (v_10<(v_8.length:Int)))) then
  bif ((v_8.getD v_10.toNat (⟨0,0,false,false,false,false,⟨#[]⟩,0⟩:SThing)).fId == id_1) then
  some v_10
  else
  k (.c0 id_1 v_8 v_9 (w64 (v_10+1)))
  else none
 else
  some (-(1:Int))
noncomputable def Vm:Nat→Dy→Option Int
 | 0,_=>none
 | m+1,s=>P9 (Vm m) s
noncomputable def Yg:Zx:=QAQ (Vm gas)
theorem CAJ:Tells ctx PP 155 cv21 cv15 (fun a=>Yg a.1 a.2):=
 have b:CutIs ctx PP 155 Tryz.f155 [] [] cv15 PAQ (P9):=fun _ s=>by cases s <;> kernel_rfl
 have e:EntryIs ctx PP 155 [] [] cv21 cv15 PAQ (fun k a=>QAQ k a.1 a.2):=fun _ a=>by kernel_rfl
 fn_ok hl_nil Tryz.func155 (fun s s' h=>by cases s;cases s';cases h;rfl) (fun _=>rfl) (fun _ _=>rfl) b e gas
noncomputable def DAJ {γ:Type} (F:Zx):Hd ctx γ:=hdl cv21.dec (fun a=>F a.1 a.2) cv15.enc
abbrev EAJ:=SThing→SThing→Option Bool
noncomputable def FAJ (x_0:SThing) (y_1:SThing):Option Bool:=
 bif (y_1.fKind == x_0.fKind) then
 bif ((ByteArray.toList y_1.fValue) == (ByteArray.toList x_0.fValue)) then
  bif (y_1.fSigns == x_0.fSigns) then
  bif (y_1.fWraps == x_0.fWraps) then
   bif (decide (y_1.fNext≥x_0.fNext)) then
   bif y_1.fHidden then
    bif y_1.fFixed then
    some true
    else
    some (!x_0.fFixed)
   else
    bif (!x_0.fHidden) then
    bif y_1.fFixed then
     some true
    else
     some (!x_0.fFixed)
    else
    some false
   else
   some false
  else
   some false
  else
  some false
 else
  some false
 else
 some false
noncomputable def Ey:EAJ:=FAJ
theorem TAa:Tells ctx PP 193 cv23 cv6 (fun a=>Ey a.1 a.2):=fn_ok0 hl_nil Tryz.func193 (fun a=>by kernel_rfl:EntryIs0 ctx PP 193 [] [] cv23 cv6 fun a=>FAJ a.1 a.2)
noncomputable def UAa {γ:Type} (F:EAJ):Hd ctx γ:=hdl cv23.dec (fun a=>F a.1 a.2) cv6.enc
abbrev GAJ:=SBook→SThing→Option (Bool×SBook)
noncomputable def HAJ (z0:Zx) (z1:EAJ) (b_0:SBook) (x_1:SThing):Option (Bool×SBook):=
 (z0 b_0 x_1.fId).bind fun r0=>
 bif (decide (r0≥0)) then
 bif ((decide (0≤r0)) && (decide (r0<(b_0.fThings.length:Int)))) then
 (z1 (b_0.fThings.getD r0.toNat (⟨0,0,false,false,false,false,⟨#[]⟩,0⟩:SThing)) x_1).bind fun r1=>
 bif (!r1) then
  some (false,b_0)
 else
  bif ((decide (0≤r0)) && (decide (r0<(b_0.fThings.length:Int)))) then
  some (true,⟨b_0.fWord,b_0.fTries,(b_0.fThings.set r0.toNat x_1),b_0.fLast,b_0.fChain,b_0.fCount⟩)
  else none
 else none
 else
 bif (x_1.fId != (w64 (b_0.fLast+1))) then
  some (false,b_0)
 else
  bif (decide ((b_0.fThings.length:Int)≥8)) then
  some (false,b_0)
  else
  bif (decide (((b_0.fThings.length+1)*48)≤140737488355328)) then
  some (true,⟨b_0.fWord,b_0.fTries,(b_0.fThings++[x_1]),x_1.fId,b_0.fChain,b_0.fCount⟩)
  else none
noncomputable def Gy:GAJ:=HAJ Yg Ey
theorem VAa:Tells ctx PP 154 cv50 cv51 (fun a=>Gy a.1 a.2):=fn_ok0 (hc CAJ (hc TAa hl_nil)) Tryz.func154 ((fun z0 z1 a=>by kernel_rfl:∀ z0 z1,EntryIs0 ctx PP 154 [0] [(155,DAJ z0),(193,UAa z1)] cv50 cv51 fun a=>HAJ z0 z1 a.1 a.2) Yg Ey)
noncomputable def WAa {γ:Type} (F:GAJ):Hd ctx γ:=hdl cv50.dec (fun a=>F a.1 a.2) cv51.enc
abbrev Q9:=SBook→SRec→Option (SBook×Bool)
noncomputable def IAJ (z0:I9) (z1:Xx) (z2:Wx) (z3:GAJ) (z4:Zx) (z5:Nv) (b_0:SBook) (r_1:SRec):Option (SBook×Bool):=
 (z0 r_1).bind fun r0=>
 (z1 b_0).bind fun r1=>
 bif (!r1) then
 some (⟨⟨#[]⟩,0,[],0,⟨#[]⟩,0⟩,false)
 else
 bif (!r0.2) then
  some (⟨⟨#[]⟩,0,[],0,⟨#[]⟩,0⟩,false)
 else
  bif (decide (b_0.fCount≥10000)) then
  some (⟨⟨#[]⟩,0,[],0,⟨#[]⟩,0⟩,false)
  else
  (z2 b_0).bind fun r2=>
  bif (r_1.fKind == 1) then
   bif (decide ((b_0.fChain.size+r0.1.size)≤9223372036854775807)) then
   (z5 (b_0.fChain++r0.1)).bind fun r3=>
   some (⟨r_1.fText,0,r2.fThings,r2.fLast,r3,(w64 (r2.fCount+1))⟩,true)
   else none
  else
   bif (r_1.fKind == 2) then
   bif (decide ((b_0.fChain.size+r0.1.size)≤9223372036854775807)) then
   (z5 (b_0.fChain++r0.1)).bind fun r4=>
   some (⟨r2.fWord,r_1.fNum,r2.fThings,r2.fLast,r4,(w64 (r2.fCount+1))⟩,true)
   else none
   else
   bif (r_1.fKind == 3) then
    (z3 r2 r_1.fThing).bind fun r5=>
    bif (!r5.1) then
    some (⟨⟨#[]⟩,0,[],0,⟨#[]⟩,0⟩,false)
    else
    bif (decide ((b_0.fChain.size+r0.1.size)≤9223372036854775807)) then
    (z5 (b_0.fChain++r0.1)).bind fun r6=>
    some (⟨r5.2.fWord,r5.2.fTries,r5.2.fThings,r5.2.fLast,r6,(w64 (r5.2.fCount+1))⟩,true)
    else none
   else
    bif (r_1.fKind == 4) then
    (z4 b_0 r_1.fNum).bind fun r7=>
    bif (decide (r7<0)) then
     some (⟨⟨#[]⟩,0,[],0,⟨#[]⟩,0⟩,false)
    else
     bif ((decide (0≤r7)) && (decide (r7≤(b_0.fThings.length:Int)))) then
     bif (decide ((((b_0.fThings.take r7.toNat).drop 0).length*48)≤140737488355328)) then
     bif ((decide (0≤(w64 (r7+1)))) && (decide ((w64 (r7+1))≤(b_0.fThings.length:Int)))) then
     bif (decide (((((b_0.fThings.take r7.toNat).drop 0).length+((b_0.fThings.take b_0.fThings.length).drop (w64 (r7+1)).toNat).length)*48)≤140737488355328)) then
     bif (decide ((b_0.fChain.size+r0.1.size)≤9223372036854775807)) then
     (z5 (b_0.fChain++r0.1)).bind fun r8=>
     some (⟨r2.fWord,r2.fTries,(((b_0.fThings.take r7.toNat).drop 0)++((b_0.fThings.take b_0.fThings.length).drop (w64 (r7+1)).toNat)),r2.fLast,r8,(w64 (r2.fCount+1))⟩,true)
     else none
     else none
     else none
     else none
     else none
    else
    bif (decide ((b_0.fChain.size+r0.1.size)≤9223372036854775807)) then
    (z5 (b_0.fChain++r0.1)).bind fun r9=>
    some (⟨r2.fWord,r2.fTries,r2.fThings,r2.fLast,r9,(w64 (r2.fCount+1))⟩,true)
    else none
noncomputable def Qj:Q9:=IAJ Nj Vf Uf Gy Yg Jc
theorem XAa:Tells ctx PP 101 cv26 cv27 (fun a=>Qj a.1 a.2):=fn_ok0 (hc HAQ (hc OAQ (hc MAQ (hc VAa (hc CAJ (hc EAH hl_nil)))))) Tryz.func101 ((fun z0 z1 z2 z3 z4 z5 a=>by kernel_rfl:∀ z0 z1 z2 z3 z4 z5,EntryIs0 ctx PP 101 [] [(151,IAQ z0),(63,BAJ z1),(134,ZAI z2),(154,WAa z3),(155,DAJ z4),(32,FAH z5)] cv26 cv27 fun a=>IAJ z0 z1 z2 z3 z4 z5 a.1 a.2) Nj Vf Uf Gy Yg Jc)
noncomputable def RAQ {γ:Type} (F:Q9):Hd ctx γ:=hdl cv26.dec (fun a=>F a.1 a.2) cv27.enc
abbrev JAJ:=SBook→(List SRec)→Option (SBook×Bool)
inductive Hy where
 | c0 (v_13:(List SRec)) (v_14:Int) (v_15:Int) (v_4c0:ByteArray) (v_4c1:Int) (v_4c3:Int) (v_4c4:ByteArray) (v_4c5:Int) (out_6c0:ByteArray) (out_6c1:Int) (out_6c3:Int) (out_6c4:ByteArray) (out_6c5:Int) (v_4r2:(List SThing)) (out_6r2:(List SThing))
noncomputable def SAQ:Hy→LI
 | .c0 v_13 v_14 v_15 v_4c0 v_4c1 v_4c3 v_4c4 v_4c5 out_6c0 out_6c1 out_6c3 out_6c4 out_6c5 v_4r2 out_6r2=>(tdo Tryz.f74 232,[(4,[.one (.ptr 256 0)]),(6,[.one (.ptr 384 0)]),(13,[.one (.rsl 71 v_13)]),(14,[.one (.int .i64 v_14)]),(15,[.one (.int .i64 v_15)])],[(256,.var [.str v_4c0,.int .i64 v_4c1,.own 1016386,.int .i64 v_4c3,.str v_4c4,.int .i64 v_4c5]),(384,.var [.str out_6c0,.int .i64 out_6c1,.own 1024578,.int .i64 out_6c3,.str out_6c4,.int .i64 out_6c5]),(1016386,.sl 69 v_4r2),(1024578,.sl 69 out_6r2)])
noncomputable def KAJ (z0:Wx) (z1:Q9) (k:Hy→Option (SBook×Bool)) (b_0:SBook) (list_1:(List SRec)):Option (SBook×Bool):=
 (z0 b_0).bind fun r0=>
 k (.c0 list_1 (list_1.length:Int) 0 ⟨#[]⟩ 0 0 ⟨#[]⟩ 0 r0.fWord r0.fTries r0.fLast r0.fChain r0.fCount [] r0.fThings)
noncomputable def S9 (z0:Wx) (z1:Q9) (k:Hy→Option (SBook×Bool)):Hy→Option (SBook×Bool)
 | .c0 v_13 v_14 v_15 v_4c0 v_4c1 v_4c3 v_4c4 v_4c5 out_6c0 out_6c1 out_6c3 out_6c4 out_6c5 v_4r2 out_6r2=>
 bif (decide (v_15<v_14)) then
  bif ((decide (0≤v_15)) && (decide (v_15<(v_13.length:Int)))) then
  (z1 ⟨out_6c0,out_6c1,out_6r2,out_6c3,out_6c4,out_6c5⟩ (v_13.getD v_15.toNat (⟨0,⟨#[]⟩,0,⟨0,0,false,false,false,false,⟨#[]⟩,0⟩⟩:SRec))).bind fun r0=>
  bif (!r0.2) then
  some (⟨⟨#[]⟩,0,[],0,⟨#[]⟩,0⟩,false)
  else
  k (.c0 v_13 v_14 (w64 (v_15+1)) v_4c0 v_4c1 v_4c3 v_4c4 v_4c5 r0.1.fWord r0.1.fTries r0.1.fLast r0.1.fChain r0.1.fCount v_4r2 r0.1.fThings)
  else none
 else
  some (⟨out_6c0,out_6c1,out_6r2,out_6c3,out_6c4,out_6c5⟩,true)
noncomputable def Iy:Nat→Hy→Option (SBook×Bool)
 | 0,_=>none
 | m+1,s=>S9 Uf Qj (Iy m) s
noncomputable def Jy:JAJ:=KAJ Uf Qj (Iy gas)
theorem YAa:Tells ctx PP 74 cv113 cv27 (fun a=>Jy a.1 a.2):=
 have b:∀ z0 z1,CutIs ctx PP 74 Tryz.f74 [] [(134,ZAI z0),(101,RAQ z1)] cv27 SAQ (S9 z0 z1):=fun z0 z1 _ s=>by cases s <;> kernel_rfl
 have e:∀ z0 z1,EntryIs ctx PP 74 [] [(134,ZAI z0),(101,RAQ z1)] cv113 cv27 SAQ (fun k a=>KAJ z0 z1 k a.1 a.2):=fun z0 z1 _ a=>by kernel_rfl
 fn_ok (hc MAQ (hc XAa hl_nil)) Tryz.func74 (fun s s' h=>by cases s;cases s';cases h;rfl) (fun _=>rfl) (fun _ _=>rfl) (b Uf Qj) (e Uf Qj) gas
noncomputable def ZAa {γ:Type} (F:JAJ):Hd ctx γ:=hdl cv113.dec (fun a=>F a.1 a.2) cv27.enc
abbrev U9:=ByteArray→SDisk→Option (SBook×(List SAct)×Bool)
noncomputable def LAJ (z0:MAH) (z1:WAI) (z2:Ov) (z3:JAJ) (z4:Ou) (z5:H8) (key_0:ByteArray) (d_1:SDisk):Option (SBook×(List SAct)×Bool):=
 (z0 d_1 ⟨#[98,111,111,107]⟩).bind fun r0=>
 (z1 key_0 r0.1).bind fun r1=>
 z2.bind fun r2=>
 (z3 r2 r1.1).bind fun r3=>
 (z4 d_1).bind fun r4=>
 bif (!r4) then
 some (⟨⟨#[]⟩,0,[],0,⟨#[]⟩,0⟩,([],false))
 else
 bif (!r3.2) then
  some (⟨⟨#[]⟩,0,[],0,⟨#[]⟩,0⟩,([],false))
 else
  (z5 d_1 ⟨#[98,111,111,107,43]⟩).bind fun r5=>
  bif (decide (r5≥0)) then
  bif (r1.2 == (r0.1.size:Int)) then
   some (r3.1,([⟨4,⟨#[98,111,111,107,43]⟩,⟨#[]⟩,⟨#[]⟩⟩],true))
  else
   bif ((decide (0≤r1.2)) && (decide (r1.2≤(r0.1.size:Int)))) then
   some (r3.1,(([(⟨4,⟨#[98,111,111,107,43]⟩,⟨#[]⟩,⟨#[]⟩⟩:SAct)]++[(⟨1,⟨#[98,111,111,107,43]⟩,(r0.1.extract 0 r1.2.toNat),⟨#[]⟩⟩:SAct),(⟨2,⟨#[98,111,111,107,43]⟩,⟨#[]⟩,⟨#[]⟩⟩:SAct),(⟨3,⟨#[98,111,111,107,43]⟩,⟨#[]⟩,⟨#[98,111,111,107]⟩⟩:SAct)]),true))
   else none
  else
  bif (r1.2 == (r0.1.size:Int)) then
   some (r3.1,([],true))
  else
   bif ((decide (0≤r1.2)) && (decide (r1.2≤(r0.1.size:Int)))) then
   some (r3.1,([⟨1,⟨#[98,111,111,107,43]⟩,(r0.1.extract 0 r1.2.toNat),⟨#[]⟩⟩,⟨2,⟨#[98,111,111,107,43]⟩,⟨#[]⟩,⟨#[]⟩⟩,⟨3,⟨#[98,111,111,107,43]⟩,⟨#[]⟩,⟨#[98,111,111,107]⟩⟩],true))
   else none
noncomputable def Rj:U9:=LAJ Xv Vx Gf Jy Ef Aj
theorem AAb:Tells ctx PP 62 cv114 cv115 (fun a=>Rj a.1 a.2):=fn_ok0 (hc OAZ (hc RAa (hc IAP (hc YAa (hc YAO (hc NAP hl_nil)))))) Tryz.func62 ((fun z0 z1 z2 z3 z4 z5 a=>by kernel_rfl:∀ z0 z1 z2 z3 z4 z5,EntryIs0 ctx PP 62 [] [(126,PAZ z0),(127,SAa z1),(30,HAH z2),(74,ZAa z3),(59,IAG z4),(128,OAP z5)] cv114 cv115 fun a=>LAJ z0 z1 z2 z3 z4 z5 a.1 a.2) Xv Vx Gf Jy Ef Aj)
noncomputable def TAQ {γ:Type} (F:U9):Hd ctx γ:=hdl cv114.dec (fun a=>F a.1 a.2) cv115.enc
abbrev V9:=SBook→Int→Option (SThing×Bool)
noncomputable def MAJ (z0:Zx) (b_0:SBook) (id_1:Int):Option (SThing×Bool):=
 (z0 b_0 id_1).bind fun r0=>
 bif (decide (r0<0)) then
 some (⟨0,0,false,false,false,false,⟨#[]⟩,0⟩,false)
 else
 bif ((decide (0≤r0)) && (decide (r0<(b_0.fThings.length:Int)))) then
 some ((b_0.fThings.getD r0.toNat (⟨0,0,false,false,false,false,⟨#[]⟩,0⟩:SThing)),true)
 else none
noncomputable def Sj:V9:=MAJ Yg
theorem BAb:Tells ctx PP 130 cv21 cv22 (fun a=>Sj a.1 a.2):=fn_ok0 (hc CAJ hl_nil) Tryz.func130 ((fun z0 a=>by kernel_rfl:∀ z0,EntryIs0 ctx PP 130 [] [(155,DAJ z0)] cv21 cv22 fun a=>MAJ z0 a.1 a.2) Yg)
noncomputable def UAQ {γ:Type} (F:V9):Hd ctx γ:=hdl cv21.dec (fun a=>F a.1 a.2) cv22.enc
abbrev W9:=SBox→Option Bool
inductive Ky where
 | c0 (v_8:(List SLive)) (v_9:Int) (v_10:Int) (b_1:SBox)
noncomputable def VAQ:Ky→LI
 | .c0 v_8 v_9 v_10 b_1=>(tdo Tryz.f64 104,[(1,[.one (.ptr 64 0)]),(8,[.one (.rsl 149 v_8)]),(9,[.one (.int .i64 v_9)]),(10,[.one (.int .i64 v_10)])],[(64,.var [.str b_1.fKey,.bool b_1.fUp,.rsl 155 b_1.fDisk.fFiles,.str b_1.fBook.fWord,.int .i64 b_1.fBook.fTries,.rsl 69 b_1.fBook.fThings,.int .i64 b_1.fBook.fLast,.str b_1.fBook.fChain,.int .i64 b_1.fBook.fCount,.rsl 92 b_1.fSessions,.rsl 149 b_1.fLives,.int .i64 b_1.fOpened])])
noncomputable def NAJ (z0:V9) (z1:TY) (k:Ky→Option Bool) (b_0:SBox):Option Bool:=
 k (.c0 b_0.fLives (b_0.fLives.length:Int) 0 b_0)
noncomputable def X9 (z0:V9) (z1:TY) (k:Ky→Option Bool):Ky→Option Bool
 | .c0 v_8 v_9 v_10 b_1=>
 bif (decide (v_10<v_9)) then
  bif ((decide (0≤v_10)) && (decide (v_10<(v_8.length:Int)))) then
  (z0 b_1.fBook (v_8.getD v_10.toNat (⟨0,0⟩:SLive)).fId).bind fun r0=>
  bif (!r0.2) then
  some false
  else
  bif (r0.1.fKind != 2) then
   some false
  else
   (z1 (v_8.getD v_10.toNat (⟨0,0⟩:SLive)).fNext 0 r0.1.fNext).bind fun r1=>
   bif (!r1) then
   some false
   else
   bif (decide (v_10 > 0)) then
    bif ((decide (0≤(w64 (v_10 - 1)))) && (decide ((w64 (v_10 - 1))<(b_1.fLives.length:Int)))) then
    bif (decide ((b_1.fLives.getD (w64 (v_10 - 1)).toNat (⟨0,0⟩:SLive)).fId≥(v_8.getD v_10.toNat (⟨0,0⟩:SLive)).fId)) then
    some false
    else
    k (.c0 v_8 v_9 (w64 (v_10+1)) b_1)
    else none
   else
    k (.c0 v_8 v_9 (w64 (v_10+1)) b_1)
  else none
 else
  some true
noncomputable def Ny:Nat→Ky→Option Bool
 | 0,_=>none
 | m+1,s=>X9 Sj QX (Ny m) s
noncomputable def Tj:W9:=NAJ Sj QX (Ny gas)
theorem CAb:Tells ctx PP 64 cv116 cv6 (fun a=>Tj a):=
 have b:∀ z0 z1,CutIs ctx PP 64 Tryz.f64 [] [(130,UAQ z0),(60,CZ z1)] cv6 VAQ (X9 z0 z1):=fun z0 z1 _ s=>by cases s <;> kernel_rfl
 have e:∀ z0 z1,EntryIs ctx PP 64 [] [(130,UAQ z0),(60,CZ z1)] cv116 cv6 VAQ (fun k a=>NAJ z0 z1 k a):=fun z0 z1 _ a=>by kernel_rfl
 fn_ok (hc BAb (hc Dc hl_nil)) Tryz.func64 (fun s s' h=>by cases s;cases s';(repeat cases ‹SBox›);(repeat cases ‹SDisk›);(repeat cases ‹SBook›);cases h;rfl) (fun _=>rfl) (fun _ _=>rfl) (b Sj QX) (e Sj QX) gas
noncomputable def WAQ {γ:Type} (F:W9):Hd ctx γ:=hdl cv116.dec (fun a=>F a) cv6.enc
abbrev XAB:=SBox→Option Bool
inductive Oy where
 | c0 (v_44:(List SSession)) (v_45:Int) (v_46:Int) (b_1:SBox)
noncomputable def XAQ:Oy→LI
 | .c0 v_44 v_45 v_46 b_1=>(tdo Tryz.f16 488,[(1,[.one (.ptr 64 0)]),(44,[.one (.rsl 92 v_44)]),(45,[.one (.int .i64 v_45)]),(46,[.one (.int .i64 v_46)])],[(64,.var [.str b_1.fKey,.bool b_1.fUp,.rsl 155 b_1.fDisk.fFiles,.str b_1.fBook.fWord,.int .i64 b_1.fBook.fTries,.rsl 69 b_1.fBook.fThings,.int .i64 b_1.fBook.fLast,.str b_1.fBook.fChain,.int .i64 b_1.fBook.fCount,.rsl 92 b_1.fSessions,.rsl 149 b_1.fLives,.int .i64 b_1.fOpened])])
noncomputable def OAJ (z0:Ou) (z1:TY) (z2:Ov) (z3:G8) (z4:U9) (z5:Xx) (z6:W9) (k:Oy→Option Bool) (b_0:SBox):Option Bool:=
 bif ((b_0.fKey.size:Int) != 32) then
 some false
 else
 (z0 b_0.fDisk).bind fun r0=>
 bif (!r0) then
  some false
 else
  (z1 b_0.fOpened 0 1000).bind fun r1=>
  bif (!r1) then
  some false
  else
  bif (!b_0.fUp) then
   bif ((b_0.fSessions.length:Int) == 0) then
   bif ((b_0.fLives.length:Int) == 0) then
    z2.bind fun r2=>
    (z3 b_0.fBook r2).bind fun r3=>
    some r3
   else
    some false
   else
   some false
  else
   k (.c0 b_0.fSessions (b_0.fSessions.length:Int) 0 b_0)
noncomputable def Py (z0:Ou) (z1:TY) (z2:Ov) (z3:G8) (z4:U9) (z5:Xx) (z6:W9) (k:Oy→Option Bool):Oy→Option Bool
 | .c0 v_44 v_45 v_46 b_1=>
 bif (decide (v_46<v_45)) then
  bif ((decide (0≤v_46)) && (decide (v_46<(v_44.length:Int)))) then
  bif (decide (v_46≥3)) then
  some false
  else
  (z1 (v_44.getD v_46.toNat (⟨0,false⟩:SSession)).fId 1 b_1.fOpened).bind fun r0=>
  bif (!r0) then
   some false
  else
   bif (decide (v_46 > 0)) then
   bif ((decide (0≤(w64 (v_46 - 1)))) && (decide ((w64 (v_46 - 1))<(b_1.fSessions.length:Int)))) then
   bif (decide ((b_1.fSessions.getD (w64 (v_46 - 1)).toNat (⟨0,false⟩:SSession)).fId≥(v_44.getD v_46.toNat (⟨0,false⟩:SSession)).fId)) then
    some false
   else
    k (.c0 v_44 v_45 (w64 (v_46+1)) b_1)
   else none
   else
   k (.c0 v_44 v_45 (w64 (v_46+1)) b_1)
  else none
 else
  (z4 b_1.fKey b_1.fDisk).bind fun r1=>
  (z5 b_1.fBook).bind fun r2=>
  bif r2 then
  bif r1.2.2 then
   bif ((r1.2.1.length:Int) == 0) then
   (z3 r1.1 b_1.fBook).bind fun r3=>
   bif r3 then
    (z6 b_1).bind fun r4=>
    some r4
   else
    some false
   else
   some false
  else
   some false
  else
  some false
noncomputable def Qy:Nat→Oy→Option Bool
 | 0,_=>none
 | m+1,s=>Py Ef QX Gf Zi Rj Vf Tj (Qy m) s
noncomputable def Yo:XAB:=OAJ Ef QX Gf Zi Rj Vf Tj (Qy gas)
theorem FAV:Tells ctx PP 16 cv116 cv6 (fun a=>Yo a):=
 have b:∀ z0 z1 z2 z3 z4 z5 z6,CutIs ctx PP 16 Tryz.f16 [] [(59,IAG z0),(60,CZ z1),(30,HAH z2),(61,KAP z3),(62,TAQ z4),(63,BAJ z5),(64,WAQ z6)] cv6 XAQ (Py z0 z1 z2 z3 z4 z5 z6):=fun z0 z1 z2 z3 z4 z5 z6 _ s=>by cases s <;> kernel_rfl
 have e:∀ z0 z1 z2 z3 z4 z5 z6,EntryIs ctx PP 16 [] [(59,IAG z0),(60,CZ z1),(30,HAH z2),(61,KAP z3),(62,TAQ z4),(63,BAJ z5),(64,WAQ z6)] cv116 cv6 XAQ (fun k a=>OAJ z0 z1 z2 z3 z4 z5 z6 k a):=fun z0 z1 z2 z3 z4 z5 z6 _ a=>by kernel_rfl
 fn_ok (hc YAO (hc Dc (hc IAP (hc NAZ (hc AAb (hc OAQ (hc CAb hl_nil))))))) Tryz.func16 (fun s s' h=>by cases s;cases s';(repeat cases ‹SBox›);(repeat cases ‹SDisk›);(repeat cases ‹SBook›);cases h;rfl) (fun _=>rfl) (fun _ _=>rfl) (b Ef QX Gf Zi Rj Vf Tj) (e Ef QX Gf Zi Rj Vf Tj) gas
noncomputable def JAV {γ:Type} (F:XAB):Hd ctx γ:=hdl cv116.dec (fun a=>F a) cv6.enc
abbrev Y9:=SFile→SFile→Option Bool
noncomputable def PAJ (a_0:SFile) (b_1:SFile):Option Bool:=
 bif (!((ByteArray.toList a_0.fName) == (ByteArray.toList b_1.fName))) then
 some false
 else
 bif (!((ByteArray.toList a_0.fText) == (ByteArray.toList b_1.fText))) then
  some false
 else
  bif (a_0.fKept != b_1.fKept) then
  some false
  else
  some true
noncomputable def Uj:Y9:=PAJ
theorem DAb:Tells ctx PP 159 cv54 cv6 (fun a=>Uj a.1 a.2):=fn_ok0 hl_nil Tryz.func159 (fun a=>by kernel_rfl:EntryIs0 ctx PP 159 [] [] cv54 cv6 fun a=>PAJ a.1 a.2)
noncomputable def YAQ {γ:Type} (F:Y9):Hd ctx γ:=hdl cv54.dec (fun a=>F a.1 a.2) cv6.enc
abbrev QAJ:=(List SFile)→(List SFile)→Option Bool
inductive Ry where
 | c0 (a_0:(List SFile)) (b_1:(List SFile)) (i_5:Int)
noncomputable def ZAQ:Ry→LI
 | .c0 a_0 b_1 i_5=>(tdo Tryz.f106 464,[(0,[.one (.rsl 155 a_0)]),(1,[.one (.rsl 155 b_1)]),(5,[.one (.int .i64 i_5)])],[])
noncomputable def RAJ (z0:Y9) (k:Ry→Option Bool) (a_0:(List SFile)) (b_1:(List SFile)):Option Bool:=
 bif ((a_0.length:Int) != (b_1.length:Int)) then
 some false
 else
 k (.c0 a_0 b_1 0)
noncomputable def Z9 (z0:Y9) (k:Ry→Option Bool):Ry→Option Bool
 | .c0 a_0 b_1 i_5=>
 bif (decide (i_5<(a_0.length:Int))) then
  bif ((decide (0≤i_5)) && (decide (i_5<(a_0.length:Int)))) then
  bif ((decide (0≤i_5)) && (decide (i_5<(b_1.length:Int)))) then
  (z0 (a_0.getD i_5.toNat (⟨⟨#[]⟩,⟨#[]⟩,0⟩:SFile)) (b_1.getD i_5.toNat (⟨⟨#[]⟩,⟨#[]⟩,0⟩:SFile))).bind fun r0=>
  bif (!r0) then
  some false
  else
  k (.c0 a_0 b_1 (w64 (i_5+1)))
  else none
  else none
 else
  some true
noncomputable def Xm:Nat→Ry→Option Bool
 | 0,_=>none
 | m+1,s=>Z9 Uj (Xm m) s
noncomputable def Uy:QAJ:=RAJ Uj (Xm gas)
theorem EAb:Tells ctx PP 106 cv55 cv6 (fun a=>Uy a.1 a.2):=
 have b:∀ z0,CutIs ctx PP 106 Tryz.f106 [] [(159,YAQ z0)] cv6 ZAQ (Z9 z0):=fun z0 _ s=>by cases s <;> kernel_rfl
 have e:∀ z0,EntryIs ctx PP 106 [] [(159,YAQ z0)] cv55 cv6 ZAQ (fun k a=>RAJ z0 k a.1 a.2):=fun z0 _ a=>by kernel_rfl
 fn_ok (hc DAb hl_nil) Tryz.func106 (fun s s' h=>by cases s;cases s';cases h;rfl) (fun _=>rfl) (fun _ _=>rfl) (b Uj) (e Uj) gas
noncomputable def FAb {γ:Type} (F:QAJ):Hd ctx γ:=hdl cv55.dec (fun a=>F a.1 a.2) cv6.enc
abbrev SAB:=SDisk→SDisk→Option Bool
noncomputable def SAJ (z0:QAJ) (a_0:SDisk) (b_1:SDisk):Option Bool:=
 (z0 a_0.fFiles b_1.fFiles).bind fun r0=>
 bif (!r0) then
 some false
 else
 some true
noncomputable def Ro:SAB:=SAJ Uy
theorem ZAU:Tells ctx PP 33 cv56 cv6 (fun a=>Ro a.1 a.2):=fn_ok0 (hc EAb hl_nil) Tryz.func33 ((fun z0 a=>by kernel_rfl:∀ z0,EntryIs0 ctx PP 33 [] [(106,FAb z0)] cv56 cv6 fun a=>SAJ z0 a.1 a.2) Uy)
noncomputable def AAV {γ:Type} (F:SAB):Hd ctx γ:=hdl cv56.dec (fun a=>F a.1 a.2) cv6.enc
abbrev Nz:=SThing→SThing→Option Bool
noncomputable def TAJ (a_0:SThing) (b_1:SThing):Option Bool:=
 bif (a_0.fId != b_1.fId) then
 some false
 else
 bif (a_0.fKind != b_1.fKind) then
  some false
 else
  bif (!(a_0.fHidden == b_1.fHidden)) then
  some false
  else
  bif (!(a_0.fFixed == b_1.fFixed)) then
   some false
  else
   bif (!(a_0.fSigns == b_1.fSigns)) then
   some false
   else
   bif (!(a_0.fWraps == b_1.fWraps)) then
    some false
   else
    bif (!((ByteArray.toList a_0.fValue) == (ByteArray.toList b_1.fValue))) then
    some false
    else
    bif (a_0.fNext != b_1.fNext) then
     some false
    else
     some true
noncomputable def Gh:Nz:=TAJ
theorem OAU:Tells ctx PP 160 cv23 cv6 (fun a=>Gh a.1 a.2):=fn_ok0 hl_nil Tryz.func160 (fun a=>by kernel_rfl:EntryIs0 ctx PP 160 [] [] cv23 cv6 fun a=>TAJ a.1 a.2)
noncomputable def NAL {γ:Type} (F:Nz):Hd ctx γ:=hdl cv23.dec (fun a=>F a.1 a.2) cv6.enc
end Go.Proofs.YthfpmhalgimbbaaGreatDoor.G

/- Functions of the program, told by plain functions: part 1 of 2. -/
import Derived.Test.YthfpmhalgimbbaaGreatDoorCtx
namespace Go.Proofs.YthfpmhalgimbbaaGreatDoor.G
open Go Go.Ev
set_option linter.unusedVariables false
abbrev PAB:=SFile→Int→Option Int
noncomputable def XAJ (a_0:SFile) (left_1:Int):Option Int:=
 bif (decide ((w64 (left_1 - (a_0.fName.size:Int)))<0)) then
 some (-(1:Int))
 else
 bif (decide ((w64 ((w64 (left_1 - (a_0.fName.size:Int))) - (a_0.fText.size:Int)))<0)) then
  some (-(1:Int))
 else
  some (w64 ((w64 (left_1 - (a_0.fName.size:Int))) - (a_0.fText.size:Int)))
noncomputable def Zj:PAB:=XAJ
theorem TAg:Tells ctx PP 162 cv82 cv15 (fun a=>Zj a.1 a.2):=fn_ok0 hl_nil Tryz.func162 (fun a=>by kernel_rfl:EntryIs0 ctx PP 162 [] [] cv82 cv15 fun a=>XAJ a.1 a.2)
noncomputable def JAV {γ:Type} (F:PAB):Hd ctx γ:=hdl cv82.dec (fun a=>F a.1 a.2) cv15.enc
abbrev YAJ:=(List SFile)→Int→Option Int
inductive Dw where
 | c0 (a_0:(List SFile)) (left_1:Int) (i_5:Int)
noncomputable def KAV:Dw→LI
 | .c0 a_0 left_1 i_5=>(tdo Tryz.f114 976,[(0,[.one (.rsl 197 a_0)]),(1,[.one (.int .i64 left_1)]),(5,[.one (.int .i64 i_5)])],[])
noncomputable def ZAJ (z0:PAB) (k:Dw→Option Int) (a_0:(List SFile)) (left_1:Int):Option Int:=
 bif (decide ((w64 (left_1 - (a_0.length:Int)))<0)) then
 some (-(1:Int))
 else
 k (.c0 a_0 (w64 (left_1 - (a_0.length:Int))) 0)
noncomputable def AAK (z0:PAB) (k:Dw→Option Int):Dw→Option Int
 | .c0 a_0 left_1 i_5=>
 bif (decide (i_5<(a_0.length:Int))) then
  bif ((decide (0≤i_5)) && (decide (i_5<(a_0.length:Int)))) then
  (z0 (a_0.getD i_5.toNat (⟨⟨#[]⟩,⟨#[]⟩,0⟩:SFile)) left_1).bind fun r0=>
  bif (decide (r0<0)) then
  some (-(1:Int))
  else
  k (.c0 a_0 r0 (w64 (i_5+1)))
  else none
 else
  some left_1
noncomputable def QAB:Nat→Dw→Option Int
 | 0,_=>none
 | m+1,s=>AAK Zj (QAB m) s
noncomputable def Ew:YAJ:=ZAJ Zj (QAB gas)
theorem UAg:Tells ctx PP 114 cv83 cv15 (fun a=>Ew a.1 a.2):=
 have b:∀ z0,CutIs ctx PP 114 Tryz.f114 [] [(162,JAV z0)] cv15 KAV (AAK z0):=fun z0 _ s=>by cases s <;> kernel_rfl
 have e:∀ z0,EntryIs ctx PP 114 [] [(162,JAV z0)] cv83 cv15 KAV (fun k a=>ZAJ z0 k a.1 a.2):=fun z0 _ a=>by kernel_rfl
 fn_ok (hc TAg hl_nil) Tryz.func114 (fun s s' h=>by cases s;cases s';cases h;rfl) (fun _=>rfl) (fun _ _=>rfl) (b Zj) (e Zj) gas
noncomputable def VAg {γ:Type} (F:YAJ):Hd ctx γ:=hdl cv83.dec (fun a=>F a.1 a.2) cv15.enc
abbrev BAK:=SDisk→Int→Option Int
noncomputable def CAK (z0:YAJ) (a_0:SDisk) (left_1:Int):Option Int:=
 (z0 a_0.fFiles left_1).bind fun r0=>
 bif (decide (r0<0)) then
 some (-(1:Int))
 else
 some r0
noncomputable def Gw:BAK:=CAK Ew
theorem WAg:Tells ctx PP 45 cv84 cv15 (fun a=>Gw a.1 a.2):=fn_ok0 (hc UAg hl_nil) Tryz.func45 ((fun z0 a=>by kernel_rfl:∀ z0,EntryIs0 ctx PP 45 [] [(114,VAg z0)] cv84 cv15 fun a=>CAK z0 a.1 a.2) Ew)
noncomputable def XAg {γ:Type} (F:BAK):Hd ctx γ:=hdl cv84.dec (fun a=>F a.1 a.2) cv15.enc
abbrev Hw:=SThing→Int→Option Int
noncomputable def LAV (a_0:SThing) (left_1:Int):Option Int:=
 bif (decide ((w64 (left_1 - (a_0.fValue.size:Int)))<0)) then
 some (-(1:Int))
 else
 some (w64 (left_1 - (a_0.fValue.size:Int)))
noncomputable def Yh:Hw:=LAV
theorem MAV:Tells ctx PP 163 cv85 cv15 (fun a=>Yh a.1 a.2):=fn_ok0 hl_nil Tryz.func163 (fun a=>by kernel_rfl:EntryIs0 ctx PP 163 [] [] cv85 cv15 fun a=>LAV a.1 a.2)
noncomputable def DAK {γ:Type} (F:Hw):Hd ctx γ:=hdl cv85.dec (fun a=>F a.1 a.2) cv15.enc
abbrev EAK:=(List SThing)→Int→Option Int
inductive Iw where
 | c0 (a_0:(List SThing)) (left_1:Int) (i_5:Int)
noncomputable def NAV:Iw→LI
 | .c0 a_0 left_1 i_5=>(tdo Tryz.f115 976,[(0,[.one (.rsl 171 a_0)]),(1,[.one (.int .i64 left_1)]),(5,[.one (.int .i64 i_5)])],[])
noncomputable def FAK (z0:Hw) (k:Iw→Option Int) (a_0:(List SThing)) (left_1:Int):Option Int:=
 bif (decide ((w64 (left_1 - (a_0.length:Int)))<0)) then
 some (-(1:Int))
 else
 k (.c0 a_0 (w64 (left_1 - (a_0.length:Int))) 0)
noncomputable def GAK (z0:Hw) (k:Iw→Option Int):Iw→Option Int
 | .c0 a_0 left_1 i_5=>
 bif (decide (i_5<(a_0.length:Int))) then
  bif ((decide (0≤i_5)) && (decide (i_5<(a_0.length:Int)))) then
  (z0 (a_0.getD i_5.toNat (⟨0,0,false,false,false,false,⟨#[]⟩,0⟩:SThing)) left_1).bind fun r0=>
  bif (decide (r0<0)) then
  some (-(1:Int))
  else
  k (.c0 a_0 r0 (w64 (i_5+1)))
  else none
 else
  some left_1
noncomputable def RAB:Nat→Iw→Option Int
 | 0,_=>none
 | m+1,s=>GAK Yh (RAB m) s
noncomputable def Jw:EAK:=FAK Yh (RAB gas)
theorem YAg:Tells ctx PP 115 cv86 cv15 (fun a=>Jw a.1 a.2):=
 have b:∀ z0,CutIs ctx PP 115 Tryz.f115 [] [(163,DAK z0)] cv15 NAV (GAK z0):=fun z0 _ s=>by cases s <;> kernel_rfl
 have e:∀ z0,EntryIs ctx PP 115 [] [(163,DAK z0)] cv86 cv15 NAV (fun k a=>FAK z0 k a.1 a.2):=fun z0 _ a=>by kernel_rfl
 fn_ok (hc MAV hl_nil) Tryz.func115 (fun s s' h=>by cases s;cases s';cases h;rfl) (fun _=>rfl) (fun _ _=>rfl) (b Yh) (e Yh) gas
noncomputable def ZAg {γ:Type} (F:EAK):Hd ctx γ:=hdl cv86.dec (fun a=>F a.1 a.2) cv15.enc
abbrev HAK:=SBook→Int→Option Int
noncomputable def IAK (z0:EAK) (a_0:SBook) (left_1:Int):Option Int:=
 bif (decide ((w64 (left_1 - (a_0.fWord.size:Int)))<0)) then
 some (-(1:Int))
 else
 (z0 a_0.fThings (w64 (left_1 - (a_0.fWord.size:Int)))).bind fun r0=>
 bif (decide (r0<0)) then
  some (-(1:Int))
 else
  bif (decide ((w64 (r0 - (a_0.fChain.size:Int)))<0)) then
  some (-(1:Int))
  else
  some (w64 (r0 - (a_0.fChain.size:Int)))
noncomputable def Kw:HAK:=IAK Jw
theorem AAh:Tells ctx PP 46 cv87 cv15 (fun a=>Kw a.1 a.2):=fn_ok0 (hc YAg hl_nil) Tryz.func46 ((fun z0 a=>by kernel_rfl:∀ z0,EntryIs0 ctx PP 46 [] [(115,ZAg z0)] cv87 cv15 fun a=>IAK z0 a.1 a.2) Jw)
noncomputable def BAh {γ:Type} (F:HAK):Hd ctx γ:=hdl cv87.dec (fun a=>F a.1 a.2) cv15.enc
abbrev JAK:=(List SSession)→Int→Option Int
noncomputable def OAV (a_0:(List SSession)) (left_1:Int):Option Int:=
 bif (decide ((w64 (left_1 - (a_0.length:Int)))<0)) then
 some (-(1:Int))
 else
 some (w64 (left_1 - (a_0.length:Int)))
noncomputable def SAB:JAK:=OAV
theorem CAh:Tells ctx PP 47 cv88 cv15 (fun a=>SAB a.1 a.2):=fn_ok0 hl_nil Tryz.func47 (fun a=>by kernel_rfl:EntryIs0 ctx PP 47 [] [] cv88 cv15 fun a=>OAV a.1 a.2)
noncomputable def DAh {γ:Type} (F:JAK):Hd ctx γ:=hdl cv88.dec (fun a=>F a.1 a.2) cv15.enc
abbrev KAK:=(List SLive)→Int→Option Int
noncomputable def PAV (a_0:(List SLive)) (left_1:Int):Option Int:=
 bif (decide ((w64 (left_1 - (a_0.length:Int)))<0)) then
 some (-(1:Int))
 else
 some (w64 (left_1 - (a_0.length:Int)))
noncomputable def TAB:KAK:=PAV
theorem EAh:Tells ctx PP 48 cv89 cv15 (fun a=>TAB a.1 a.2):=fn_ok0 hl_nil Tryz.func48 (fun a=>by kernel_rfl:EntryIs0 ctx PP 48 [] [] cv89 cv15 fun a=>PAV a.1 a.2)
noncomputable def FAh {γ:Type} (F:KAK):Hd ctx γ:=hdl cv89.dec (fun a=>F a.1 a.2) cv15.enc
abbrev LAK:=SBox→Int→Option Int
noncomputable def UAB (z0:BAK) (z1:HAK) (z2:JAK) (z3:KAK) (a_0:SBox) (left_1:Int):Option Int:=
 bif (decide ((w64 (left_1 - (a_0.fKey.size:Int)))<0)) then
 some (-(1:Int))
 else
 (z0 a_0.fDisk (w64 (left_1 - (a_0.fKey.size:Int)))).bind fun r0=>
 bif (decide (r0<0)) then
  some (-(1:Int))
 else
  (z1 a_0.fBook r0).bind fun r1=>
  bif (decide (r1<0)) then
  some (-(1:Int))
  else
  (z2 a_0.fSessions r1).bind fun r2=>
  bif (decide (r2<0)) then
   some (-(1:Int))
  else
   (z3 a_0.fLives r2).bind fun r3=>
   bif (decide (r3<0)) then
   some (-(1:Int))
   else
   some r3
noncomputable def Ak:LAK:=UAB Gw Kw SAB TAB
theorem GAh:Tells ctx PP 13 cv90 cv15 (fun a=>Ak a.1 a.2):=fn_ok0 (hc WAg (hc AAh (hc CAh (hc EAh hl_nil)))) Tryz.func13 ((fun z0 z1 z2 z3 a=>by kernel_rfl:∀ z0 z1 z2 z3,EntryIs0 ctx PP 13 [] [(45,XAg z0),(46,BAh z1),(47,DAh z2),(48,FAh z3)] cv90 cv15 fun a=>UAB z0 z1 z2 z3 a.1 a.2) Gw Kw SAB TAB)
noncomputable def HAh {γ:Type} (F:LAK):Hd ctx γ:=hdl cv90.dec (fun a=>F a.1 a.2) cv15.enc
abbrev MAK:=(List Int)→Int→Option Int
noncomputable def QAV (a_0:(List Int)) (left_1:Int):Option Int:=
 bif (decide ((w64 (left_1 - (a_0.length:Int)))<0)) then
 some (-(1:Int))
 else
 some (w64 (left_1 - (a_0.length:Int)))
noncomputable def VAB:MAK:=QAV
theorem IAh:Tells ctx PP 65 cv121 cv15 (fun a=>VAB a.1 a.2):=fn_ok0 hl_nil Tryz.func65 (fun a=>by kernel_rfl:EntryIs0 ctx PP 65 [] [] cv121 cv15 fun a=>QAV a.1 a.2)
noncomputable def JAh {γ:Type} (F:MAK):Hd ctx γ:=hdl cv121.dec (fun a=>F a.1 a.2) cv15.enc
abbrev NAK:=(List ByteArray)→Int→Option Int
inductive Nw where
 | c0 (a_0:(List ByteArray)) (left_1:Int) (i_5:Int)
noncomputable def RAV:Nw→LI
 | .c0 a_0 left_1 i_5=>(tdo Tryz.f66 976,[(0,[.one (.rsl 9 a_0)]),(1,[.one (.int .i64 left_1)]),(5,[.one (.int .i64 i_5)])],[])
noncomputable def OAK (k:Nw→Option Int) (a_0:(List ByteArray)) (left_1:Int):Option Int:=
 bif (decide ((w64 (left_1 - (a_0.length:Int)))<0)) then
 some (-(1:Int))
 else
 k (.c0 a_0 (w64 (left_1 - (a_0.length:Int))) 0)
noncomputable def PAK (k:Nw→Option Int):Nw→Option Int
 | .c0 a_0 left_1 i_5=>
 bif (decide (i_5<(a_0.length:Int))) then
  bif ((decide (0≤i_5)) && (decide (i_5<(a_0.length:Int)))) then
  bif (decide ((w64 (left_1 - ((a_0.getD i_5.toNat (⟨#[]⟩:ByteArray)).size:Int)))<0)) then
  some (-(1:Int))
  else
  k (.c0 a_0 (w64 (left_1 - ((a_0.getD i_5.toNat (⟨#[]⟩:ByteArray)).size:Int))) (w64 (i_5+1)))
  else none
 else
  some left_1
noncomputable def WAB:Nat→Nw→Option Int
 | 0,_=>none
 | m+1,s=>PAK (WAB m) s
noncomputable def Qw:NAK:=OAK (WAB gas)
theorem KAh:Tells ctx PP 66 cv122 cv15 (fun a=>Qw a.1 a.2):=
 have b:CutIs ctx PP 66 Tryz.f66 [] [] cv15 RAV (PAK):=fun _ s=>by cases s <;> kernel_rfl
 have e:EntryIs ctx PP 66 [] [] cv122 cv15 RAV (fun k a=>OAK k a.1 a.2):=fun _ a=>by kernel_rfl
 fn_ok hl_nil Tryz.func66 (fun s s' h=>by cases s;cases s';cases h;rfl) (fun _=>rfl) (fun _ _=>rfl) b e gas
noncomputable def LAh {γ:Type} (F:NAK):Hd ctx γ:=hdl cv122.dec (fun a=>F a.1 a.2) cv15.enc
abbrev QAK:=(List SGiven)→Int→Option Int
noncomputable def SAV (a_0:(List SGiven)) (left_1:Int):Option Int:=
 bif (decide ((w64 (left_1 - (a_0.length:Int)))<0)) then
 some (-(1:Int))
 else
 some (w64 (left_1 - (a_0.length:Int)))
noncomputable def XAB:QAK:=SAV
theorem MAh:Tells ctx PP 67 cv123 cv15 (fun a=>XAB a.1 a.2):=fn_ok0 hl_nil Tryz.func67 (fun a=>by kernel_rfl:EntryIs0 ctx PP 67 [] [] cv123 cv15 fun a=>SAV a.1 a.2)
noncomputable def NAh {γ:Type} (F:QAK):Hd ctx γ:=hdl cv123.dec (fun a=>F a.1 a.2) cv15.enc
abbrev YAB:=SRec→Int→Option Int
noncomputable def RAK (z0:Hw) (a_0:SRec) (left_1:Int):Option Int:=
 bif (decide ((w64 (left_1 - (a_0.fText.size:Int)))<0)) then
 some (-(1:Int))
 else
 (z0 a_0.fThing (w64 (left_1 - (a_0.fText.size:Int)))).bind fun r0=>
 bif (decide (r0<0)) then
  some (-(1:Int))
 else
  some r0
noncomputable def Dk:YAB:=RAK Yh
theorem OAh:Tells ctx PP 131 cv124 cv15 (fun a=>Dk a.1 a.2):=fn_ok0 (hc MAV hl_nil) Tryz.func131 ((fun z0 a=>by kernel_rfl:∀ z0,EntryIs0 ctx PP 131 [] [(163,DAK z0)] cv124 cv15 fun a=>RAK z0 a.1 a.2) Yh)
noncomputable def TAV {γ:Type} (F:YAB):Hd ctx γ:=hdl cv124.dec (fun a=>F a.1 a.2) cv15.enc
abbrev SAK:=(List SRec)→Int→Option Int
inductive Rw where
 | c0 (a_0:(List SRec)) (left_1:Int) (i_5:Int)
noncomputable def UAV:Rw→LI
 | .c0 a_0 left_1 i_5=>(tdo Tryz.f68 976,[(0,[.one (.rsl 173 a_0)]),(1,[.one (.int .i64 left_1)]),(5,[.one (.int .i64 i_5)])],[])
noncomputable def TAK (z0:YAB) (k:Rw→Option Int) (a_0:(List SRec)) (left_1:Int):Option Int:=
 bif (decide ((w64 (left_1 - (a_0.length:Int)))<0)) then
 some (-(1:Int))
 else
 k (.c0 a_0 (w64 (left_1 - (a_0.length:Int))) 0)
noncomputable def UAK (z0:YAB) (k:Rw→Option Int):Rw→Option Int
 | .c0 a_0 left_1 i_5=>
 bif (decide (i_5<(a_0.length:Int))) then
  bif ((decide (0≤i_5)) && (decide (i_5<(a_0.length:Int)))) then
  (z0 (a_0.getD i_5.toNat (⟨0,⟨#[]⟩,0,⟨0,0,false,false,false,false,⟨#[]⟩,0⟩⟩:SRec)) left_1).bind fun r0=>
  bif (decide (r0<0)) then
  some (-(1:Int))
  else
  k (.c0 a_0 r0 (w64 (i_5+1)))
  else none
 else
  some left_1
noncomputable def ZAB:Nat→Rw→Option Int
 | 0,_=>none
 | m+1,s=>UAK Dk (ZAB m) s
noncomputable def Uw:SAK:=TAK Dk (ZAB gas)
theorem PAh:Tells ctx PP 68 cv125 cv15 (fun a=>Uw a.1 a.2):=
 have b:∀ z0,CutIs ctx PP 68 Tryz.f68 [] [(131,TAV z0)] cv15 UAV (UAK z0):=fun z0 _ s=>by cases s <;> kernel_rfl
 have e:∀ z0,EntryIs ctx PP 68 [] [(131,TAV z0)] cv125 cv15 UAV (fun k a=>TAK z0 k a.1 a.2):=fun z0 _ a=>by kernel_rfl
 fn_ok (hc OAh hl_nil) Tryz.func68 (fun s s' h=>by cases s;cases s';cases h;rfl) (fun _=>rfl) (fun _ _=>rfl) (b Dk) (e Dk) gas
noncomputable def QAh {γ:Type} (F:SAK):Hd ctx γ:=hdl cv125.dec (fun a=>F a.1 a.2) cv15.enc
abbrev UAJ:=SLife→Int→Option Int
noncomputable def AAC (z0:LAK) (z1:MAK) (z2:NAK) (z3:QAK) (z4:SAK) (a_0:SLife) (left_1:Int):Option Int:=
 (z0 a_0.fBox left_1).bind fun r0=>
 bif (decide (r0<0)) then
 some (-(1:Int))
 else
 (z1 a_0.fCodes r0).bind fun r1=>
 bif (decide (r1<0)) then
  some (-(1:Int))
 else
  (z2 a_0.fReplies r1).bind fun r2=>
  bif (decide (r2<0)) then
  some (-(1:Int))
  else
  (z3 a_0.fGives r2).bind fun r3=>
  bif (decide (r3<0)) then
   some (-(1:Int))
  else
   (z4 a_0.fDone r3).bind fun r4=>
   bif (decide (r4<0)) then
   some (-(1:Int))
   else
   some r4
noncomputable def Yj:UAJ:=AAC Ak VAB Qw XAB Uw
theorem NAg:Tells ctx PP 17 cv126 cv15 (fun a=>Yj a.1 a.2):=fn_ok0 (hc GAh (hc IAh (hc KAh (hc MAh (hc PAh hl_nil))))) Tryz.func17 ((fun z0 z1 z2 z3 z4 a=>by kernel_rfl:∀ z0 z1 z2 z3 z4,EntryIs0 ctx PP 17 [] [(13,HAh z0),(65,JAh z1),(66,LAh z2),(67,NAh z3),(68,QAh z4)] cv126 cv15 fun a=>AAC z0 z1 z2 z3 z4 a.1 a.2) Ak VAB Qw XAB Uw)
noncomputable def QAg {γ:Type} (F:UAJ):Hd ctx γ:=hdl cv126.dec (fun a=>F a.1 a.2) cv15.enc
abbrev BAC:=SFile→Option SFile
noncomputable def VAK (a_0:SFile):Option SFile:=
 some a_0
noncomputable def Ik:BAC:=VAK
theorem RAh:Tells ctx PP 167 cv91 cv91 (fun a=>Ik a):=fn_ok0 hl_nil Tryz.func167 (fun a=>by kernel_rfl:EntryIs0 ctx PP 167 [] [] cv91 cv91 fun a=>VAK a)
noncomputable def VAV {γ:Type} (F:BAC):Hd ctx γ:=hdl cv91.dec (fun a=>F a) cv91.enc
abbrev WAK:=(List SFile)→Option (List SFile)
inductive Vw where
 | c0 (a_0:(List SFile)) (i_4:Int) (out_3:(List SFile))
noncomputable def WAV:Vw→LI
 | .c0 a_0 i_4 out_3=>(tdo Tryz.f121 464,[(0,[.one (.rsl 197 a_0)]),(3,[.one (.own 240)]),(4,[.one (.int .i64 i_4)])],[(240,.sl 155 out_3)])
noncomputable def XAK (z0:BAC) (k:Vw→Option (List SFile)) (a_0:(List SFile)):Option (List SFile):=
 bif ((((decide (0≤(a_0.length:Int))) && (decide ((a_0.length:Int)≤(a_0.length:Int)))) && (decide ((a_0.length:Int)≤9223372036854775807))) && (decide (((a_0.length:Int).toNat*40)≤140737488355328))) then
 k (.c0 a_0 0 (List.replicate (a_0.length:Int).toNat (⟨⟨#[]⟩,⟨#[]⟩,0⟩:SFile)))
 else none
noncomputable def CAC (z0:BAC) (k:Vw→Option (List SFile)):Vw→Option (List SFile)
 | .c0 a_0 i_4 out_3=>
 bif (decide (i_4<(a_0.length:Int))) then
  bif ((decide (0≤i_4)) && (decide (i_4<(a_0.length:Int)))) then
  (z0 (a_0.getD i_4.toNat (⟨⟨#[]⟩,⟨#[]⟩,0⟩:SFile))).bind fun r0=>
  bif ((decide (0≤i_4)) && (decide (i_4<(out_3.length:Int)))) then
  k (.c0 a_0 (w64 (i_4+1)) (out_3.set i_4.toNat r0))
  else none
  else none
 else
  some out_3
noncomputable def Jk:Nat→Vw→Option (List SFile)
 | 0,_=>none
 | m+1,s=>CAC Ik (Jk m) s
noncomputable def Xw:WAK:=XAK Ik (Jk gas)
theorem SAh:Tells ctx PP 121 cv92 cv93 (fun a=>Xw a):=
 have b:∀ z0,CutIs ctx PP 121 Tryz.f121 [] [(167,VAV z0)] cv93 WAV (CAC z0):=fun z0 _ s=>by cases s <;> kernel_rfl
 have e:∀ z0,EntryIs ctx PP 121 [] [(167,VAV z0)] cv92 cv93 WAV (fun k a=>XAK z0 k a):=fun z0 _ a=>by kernel_rfl
 fn_ok (hc RAh hl_nil) Tryz.func121 (fun s s' h=>by cases s;cases s';cases h;rfl) (fun _=>rfl) (fun _ _=>rfl) (b Ik) (e Ik) gas
noncomputable def TAh {γ:Type} (F:WAK):Hd ctx γ:=hdl cv92.dec (fun a=>F a) cv93.enc
abbrev YAK:=SDisk→Option SDisk
noncomputable def ZAK (z0:WAK) (a_0:SDisk):Option SDisk:=
 (z0 a_0.fFiles).bind fun r0=>
 some ⟨r0⟩
noncomputable def Yw:YAK:=ZAK Xw
theorem UAh:Tells ctx PP 55 cv94 cv38 (fun a=>Yw a):=fn_ok0 (hc SAh hl_nil) Tryz.func55 ((fun z0 a=>by kernel_rfl:∀ z0,EntryIs0 ctx PP 55 [] [(121,TAh z0)] cv94 cv38 fun a=>ZAK z0 a) Xw)
noncomputable def VAh {γ:Type} (F:YAK):Hd ctx γ:=hdl cv94.dec (fun a=>F a) cv38.enc
abbrev Zw:=SThing→Option SThing
noncomputable def AAL (a_0:SThing):Option SThing:=
 some a_0
noncomputable def Zf:Zw:=AAL
theorem XAV:Tells ctx PP 168 cv16 cv16 (fun a=>Zf a):=fn_ok0 hl_nil Tryz.func168 (fun a=>by kernel_rfl:EntryIs0 ctx PP 168 [] [] cv16 cv16 fun a=>AAL a)
noncomputable def BAL {γ:Type} (F:Zw):Hd ctx γ:=hdl cv16.dec (fun a=>F a) cv16.enc
abbrev CAL:=(List SThing)→Option (List SThing)
inductive Dx where
 | c0 (a_0:(List SThing)) (i_4:Int) (out_3:(List SThing))
noncomputable def YAV:Dx→LI
 | .c0 a_0 i_4 out_3=>(tdo Tryz.f122 464,[(0,[.one (.rsl 171 a_0)]),(3,[.one (.own 240)]),(4,[.one (.int .i64 i_4)])],[(240,.sl 69 out_3)])
noncomputable def DAL (z0:Zw) (k:Dx→Option (List SThing)) (a_0:(List SThing)):Option (List SThing):=
 bif ((((decide (0≤(a_0.length:Int))) && (decide ((a_0.length:Int)≤(a_0.length:Int)))) && (decide ((a_0.length:Int)≤9223372036854775807))) && (decide (((a_0.length:Int).toNat*48)≤140737488355328))) then
 k (.c0 a_0 0 (List.replicate (a_0.length:Int).toNat (⟨0,0,false,false,false,false,⟨#[]⟩,0⟩:SThing)))
 else none
noncomputable def DAC (z0:Zw) (k:Dx→Option (List SThing)):Dx→Option (List SThing)
 | .c0 a_0 i_4 out_3=>
 bif (decide (i_4<(a_0.length:Int))) then
  bif ((decide (0≤i_4)) && (decide (i_4<(a_0.length:Int)))) then
  (z0 (a_0.getD i_4.toNat (⟨0,0,false,false,false,false,⟨#[]⟩,0⟩:SThing))).bind fun r0=>
  bif ((decide (0≤i_4)) && (decide (i_4<(out_3.length:Int)))) then
  k (.c0 a_0 (w64 (i_4+1)) (out_3.set i_4.toNat r0))
  else none
  else none
 else
  some out_3
noncomputable def Nk:Nat→Dx→Option (List SThing)
 | 0,_=>none
 | m+1,s=>DAC Zf (Nk m) s
noncomputable def Gx:CAL:=DAL Zf (Nk gas)
theorem WAh:Tells ctx PP 122 cv95 cv25 (fun a=>Gx a):=
 have b:∀ z0,CutIs ctx PP 122 Tryz.f122 [] [(168,BAL z0)] cv25 YAV (DAC z0):=fun z0 _ s=>by cases s <;> kernel_rfl
 have e:∀ z0,EntryIs ctx PP 122 [] [(168,BAL z0)] cv95 cv25 YAV (fun k a=>DAL z0 k a):=fun z0 _ a=>by kernel_rfl
 fn_ok (hc XAV hl_nil) Tryz.func122 (fun s s' h=>by cases s;cases s';cases h;rfl) (fun _=>rfl) (fun _ _=>rfl) (b Zf) (e Zf) gas
noncomputable def XAh {γ:Type} (F:CAL):Hd ctx γ:=hdl cv95.dec (fun a=>F a) cv25.enc
abbrev EAL:=SBook→Option SBook
noncomputable def FAL (z0:CAL) (a_0:SBook):Option SBook:=
 (z0 a_0.fThings).bind fun r0=>
 some ⟨a_0.fWord,a_0.fTries,r0,a_0.fLast,a_0.fChain,a_0.fCount⟩
noncomputable def Ox:EAL:=FAL Gx
theorem YAh:Tells ctx PP 56 cv96 cv14 (fun a=>Ox a):=fn_ok0 (hc WAh hl_nil) Tryz.func56 ((fun z0 a=>by kernel_rfl:∀ z0,EntryIs0 ctx PP 56 [] [(122,XAh z0)] cv96 cv14 fun a=>FAL z0 a) Gx)
noncomputable def ZAh {γ:Type} (F:EAL):Hd ctx γ:=hdl cv96.dec (fun a=>F a) cv14.enc
abbrev EAC:=SSession→Option SSession
noncomputable def GAL (a_0:SSession):Option SSession:=
 some a_0
noncomputable def Qk:EAC:=GAL
theorem AAi:Tells ctx PP 123 cv97 cv97 (fun a=>Qk a):=fn_ok0 hl_nil Tryz.func123 (fun a=>by kernel_rfl:EntryIs0 ctx PP 123 [] [] cv97 cv97 fun a=>GAL a)
noncomputable def ZAV {γ:Type} (F:EAC):Hd ctx γ:=hdl cv97.dec (fun a=>F a) cv97.enc
abbrev HAL:=(List SSession)→Option (List SSession)
inductive Px where
 | c0 (a_0:(List SSession)) (i_4:Int) (out_3:(List SSession))
noncomputable def AAW:Px→LI
 | .c0 a_0 i_4 out_3=>(tdo Tryz.f57 464,[(0,[.one (.rsl 167 a_0)]),(3,[.one (.own 240)]),(4,[.one (.int .i64 i_4)])],[(240,.sl 92 out_3)])
noncomputable def IAL (z0:EAC) (k:Px→Option (List SSession)) (a_0:(List SSession)):Option (List SSession):=
 bif ((((decide (0≤(a_0.length:Int))) && (decide ((a_0.length:Int)≤(a_0.length:Int)))) && (decide ((a_0.length:Int)≤9223372036854775807))) && (decide (((a_0.length:Int).toNat*16)≤140737488355328))) then
 k (.c0 a_0 0 (List.replicate (a_0.length:Int).toNat (⟨0,false⟩:SSession)))
 else none
noncomputable def FAC (z0:EAC) (k:Px→Option (List SSession)):Px→Option (List SSession)
 | .c0 a_0 i_4 out_3=>
 bif (decide (i_4<(a_0.length:Int))) then
  bif ((decide (0≤i_4)) && (decide (i_4<(a_0.length:Int)))) then
  (z0 (a_0.getD i_4.toNat (⟨0,false⟩:SSession))).bind fun r0=>
  bif ((decide (0≤i_4)) && (decide (i_4<(out_3.length:Int)))) then
  k (.c0 a_0 (w64 (i_4+1)) (out_3.set i_4.toNat r0))
  else none
  else none
 else
  some out_3
noncomputable def Rk:Nat→Px→Option (List SSession)
 | 0,_=>none
 | m+1,s=>FAC Qk (Rk m) s
noncomputable def Qx:HAL:=IAL Qk (Rk gas)
theorem BAi:Tells ctx PP 57 cv98 cv99 (fun a=>Qx a):=
 have b:∀ z0,CutIs ctx PP 57 Tryz.f57 [] [(123,ZAV z0)] cv99 AAW (FAC z0):=fun z0 _ s=>by cases s <;> kernel_rfl
 have e:∀ z0,EntryIs ctx PP 57 [] [(123,ZAV z0)] cv98 cv99 AAW (fun k a=>IAL z0 k a):=fun z0 _ a=>by kernel_rfl
 fn_ok (hc AAi hl_nil) Tryz.func57 (fun s s' h=>by cases s;cases s';cases h;rfl) (fun _=>rfl) (fun _ _=>rfl) (b Qk) (e Qk) gas
noncomputable def CAi {γ:Type} (F:HAL):Hd ctx γ:=hdl cv98.dec (fun a=>F a) cv99.enc
abbrev GAC:=SLive→Option SLive
noncomputable def JAL (a_0:SLive):Option SLive:=
 some a_0
noncomputable def Uk:GAC:=JAL
theorem EAi:Tells ctx PP 124 cv100 cv100 (fun a=>Uk a):=fn_ok0 hl_nil Tryz.func124 (fun a=>by kernel_rfl:EntryIs0 ctx PP 124 [] [] cv100 cv100 fun a=>JAL a)
noncomputable def BAW {γ:Type} (F:GAC):Hd ctx γ:=hdl cv100.dec (fun a=>F a) cv100.enc
abbrev KAL:=(List SLive)→Option (List SLive)
inductive Rx where
 | c0 (a_0:(List SLive)) (i_4:Int) (out_3:(List SLive))
noncomputable def CAW:Rx→LI
 | .c0 a_0 i_4 out_3=>(tdo Tryz.f58 464,[(0,[.one (.rsl 169 a_0)]),(3,[.one (.own 240)]),(4,[.one (.int .i64 i_4)])],[(240,.sl 149 out_3)])
noncomputable def LAL (z0:GAC) (k:Rx→Option (List SLive)) (a_0:(List SLive)):Option (List SLive):=
 bif ((((decide (0≤(a_0.length:Int))) && (decide ((a_0.length:Int)≤(a_0.length:Int)))) && (decide ((a_0.length:Int)≤9223372036854775807))) && (decide (((a_0.length:Int).toNat*16)≤140737488355328))) then
 k (.c0 a_0 0 (List.replicate (a_0.length:Int).toNat (⟨0,0⟩:SLive)))
 else none
noncomputable def HAC (z0:GAC) (k:Rx→Option (List SLive)):Rx→Option (List SLive)
 | .c0 a_0 i_4 out_3=>
 bif (decide (i_4<(a_0.length:Int))) then
  bif ((decide (0≤i_4)) && (decide (i_4<(a_0.length:Int)))) then
  (z0 (a_0.getD i_4.toNat (⟨0,0⟩:SLive))).bind fun r0=>
  bif ((decide (0≤i_4)) && (decide (i_4<(out_3.length:Int)))) then
  k (.c0 a_0 (w64 (i_4+1)) (out_3.set i_4.toNat r0))
  else none
  else none
 else
  some out_3
noncomputable def Vk:Nat→Rx→Option (List SLive)
 | 0,_=>none
 | m+1,s=>HAC Uk (Vk m) s
noncomputable def Ux:KAL:=LAL Uk (Vk gas)
theorem FAi:Tells ctx PP 58 cv101 cv102 (fun a=>Ux a):=
 have b:∀ z0,CutIs ctx PP 58 Tryz.f58 [] [(124,BAW z0)] cv102 CAW (HAC z0):=fun z0 _ s=>by cases s <;> kernel_rfl
 have e:∀ z0,EntryIs ctx PP 58 [] [(124,BAW z0)] cv101 cv102 CAW (fun k a=>LAL z0 k a):=fun z0 _ a=>by kernel_rfl
 fn_ok (hc EAi hl_nil) Tryz.func58 (fun s s' h=>by cases s;cases s';cases h;rfl) (fun _=>rfl) (fun _ _=>rfl) (b Uk) (e Uk) gas
noncomputable def HAi {γ:Type} (F:KAL):Hd ctx γ:=hdl cv101.dec (fun a=>F a) cv102.enc
abbrev MAL:=SBox→Option SBox
noncomputable def NAL (z0:YAK) (z1:EAL) (z2:HAL) (z3:KAL) (a_0:SBox):Option SBox:=
 (z0 a_0.fDisk).bind fun r0=>
 (z1 a_0.fBook).bind fun r1=>
 (z2 a_0.fSessions).bind fun r2=>
 (z3 a_0.fLives).bind fun r3=>
 some ⟨a_0.fKey,a_0.fUp,r0,r1,r2,r3,a_0.fOpened⟩
noncomputable def Vx:MAL:=NAL Yw Ox Qx Ux
theorem IAi:Tells ctx PP 15 cv103 cv104 (fun a=>Vx a):=fn_ok0 (hc UAh (hc YAh (hc BAi (hc FAi hl_nil)))) Tryz.func15 ((fun z0 z1 z2 z3 a=>by kernel_rfl:∀ z0 z1 z2 z3,EntryIs0 ctx PP 15 [] [(55,VAh z0),(56,ZAh z1),(57,CAi z2),(58,HAi z3)] cv103 cv104 fun a=>NAL z0 z1 z2 z3 a) Yw Ox Qx Ux)
noncomputable def JAi {γ:Type} (F:MAL):Hd ctx γ:=hdl cv103.dec (fun a=>F a) cv104.enc
abbrev OAL:=(List Int)→Option (List Int)
inductive Wx where
 | c0 (a_0:(List Int)) (i_4:Int) (out_3:(List Int))
noncomputable def DAW:Wx→LI
 | .c0 a_0 i_4 out_3=>(tdo Tryz.f70 464,[(0,[.one (.rsl 3 a_0)]),(3,[.one (.own 240)]),(4,[.one (.int .i64 i_4)])],[(240,.sl 3 out_3)])
noncomputable def PAL (k:Wx→Option (List Int)) (a_0:(List Int)):Option (List Int):=
 bif ((((decide (0≤(a_0.length:Int))) && (decide ((a_0.length:Int)≤(a_0.length:Int)))) && (decide ((a_0.length:Int)≤9223372036854775807))) && (decide (((a_0.length:Int).toNat*8)≤140737488355328))) then
 k (.c0 a_0 0 (List.replicate (a_0.length:Int).toNat (0:Int)))
 else none
noncomputable def IAC (k:Wx→Option (List Int)):Wx→Option (List Int)
 | .c0 a_0 i_4 out_3=>
 bif (decide (i_4<(a_0.length:Int))) then
  bif ((decide (0≤i_4)) && (decide (i_4<(a_0.length:Int)))) then
  bif ((decide (0≤i_4)) && (decide (i_4<(out_3.length:Int)))) then
  k (.c0 a_0 (w64 (i_4+1)) (out_3.set i_4.toNat (a_0.getD i_4.toNat 0)))
  else none
  else none
 else
  some out_3
noncomputable def Xk:Nat→Wx→Option (List Int)
 | 0,_=>none
 | m+1,s=>IAC (Xk m) s
noncomputable def Xx:OAL:=PAL (Xk gas)
theorem KAi:Tells ctx PP 70 cv127 cv128 (fun a=>Xx a):=
 have b:CutIs ctx PP 70 Tryz.f70 [] [] cv128 DAW (IAC):=fun _ s=>by cases s <;> kernel_rfl
 have e:EntryIs ctx PP 70 [] [] cv127 cv128 DAW (fun k a=>PAL k a):=fun _ a=>by kernel_rfl
 fn_ok hl_nil Tryz.func70 (fun s s' h=>by cases s;cases s';cases h;rfl) (fun _=>rfl) (fun _ _=>rfl) b e gas
noncomputable def LAi {γ:Type} (F:OAL):Hd ctx γ:=hdl cv127.dec (fun a=>F a) cv128.enc
abbrev QAL:=(List ByteArray)→Option (List ByteArray)
inductive Yx where
 | c0 (a_0:(List ByteArray)) (i_4:Int) (out_3:(List ByteArray))
noncomputable def EAW:Yx→LI
 | .c0 a_0 i_4 out_3=>(tdo Tryz.f71 464,[(0,[.one (.rsl 9 a_0)]),(3,[.one (.own 240)]),(4,[.one (.int .i64 i_4)])],[(240,.sl 9 out_3)])
noncomputable def RAL (k:Yx→Option (List ByteArray)) (a_0:(List ByteArray)):Option (List ByteArray):=
 bif ((((decide (0≤(a_0.length:Int))) && (decide ((a_0.length:Int)≤(a_0.length:Int)))) && (decide ((a_0.length:Int)≤9223372036854775807))) && (decide (((a_0.length:Int).toNat*16)≤140737488355328))) then
 k (.c0 a_0 0 (List.replicate (a_0.length:Int).toNat (⟨#[]⟩:ByteArray)))
 else none
noncomputable def JAC (k:Yx→Option (List ByteArray)):Yx→Option (List ByteArray)
 | .c0 a_0 i_4 out_3=>
 bif (decide (i_4<(a_0.length:Int))) then
  bif ((decide (0≤i_4)) && (decide (i_4<(a_0.length:Int)))) then
  bif ((decide (0≤i_4)) && (decide (i_4<(out_3.length:Int)))) then
  k (.c0 a_0 (w64 (i_4+1)) (out_3.set i_4.toNat (a_0.getD i_4.toNat (⟨#[]⟩:ByteArray))))
  else none
  else none
 else
  some out_3
noncomputable def Yk:Nat→Yx→Option (List ByteArray)
 | 0,_=>none
 | m+1,s=>JAC (Yk m) s
noncomputable def Zx:QAL:=RAL (Yk gas)
theorem MAi:Tells ctx PP 71 cv129 cv130 (fun a=>Zx a):=
 have b:CutIs ctx PP 71 Tryz.f71 [] [] cv130 EAW (JAC):=fun _ s=>by cases s <;> kernel_rfl
 have e:EntryIs ctx PP 71 [] [] cv129 cv130 EAW (fun k a=>RAL k a):=fun _ a=>by kernel_rfl
 fn_ok hl_nil Tryz.func71 (fun s s' h=>by cases s;cases s';cases h;rfl) (fun _=>rfl) (fun _ _=>rfl) b e gas
noncomputable def NAi {γ:Type} (F:QAL):Hd ctx γ:=hdl cv129.dec (fun a=>F a) cv130.enc
abbrev KAC:=SGiven→Option SGiven
noncomputable def SAL (a_0:SGiven):Option SGiven:=
 some a_0
noncomputable def Zk:KAC:=SAL
theorem OAi:Tells ctx PP 132 cv131 cv131 (fun a=>Zk a):=fn_ok0 hl_nil Tryz.func132 (fun a=>by kernel_rfl:EntryIs0 ctx PP 132 [] [] cv131 cv131 fun a=>SAL a)
noncomputable def FAW {γ:Type} (F:KAC):Hd ctx γ:=hdl cv131.dec (fun a=>F a) cv131.enc
abbrev TAL:=(List SGiven)→Option (List SGiven)
inductive Dy where
 | c0 (a_0:(List SGiven)) (i_4:Int) (out_3:(List SGiven))
noncomputable def GAW:Dy→LI
 | .c0 a_0 i_4 out_3=>(tdo Tryz.f72 464,[(0,[.one (.rsl 175 a_0)]),(3,[.one (.own 240)]),(4,[.one (.int .i64 i_4)])],[(240,.sl 117 out_3)])
noncomputable def UAL (z0:KAC) (k:Dy→Option (List SGiven)) (a_0:(List SGiven)):Option (List SGiven):=
 bif ((((decide (0≤(a_0.length:Int))) && (decide ((a_0.length:Int)≤(a_0.length:Int)))) && (decide ((a_0.length:Int)≤9223372036854775807))) && (decide (((a_0.length:Int).toNat*24)≤140737488355328))) then
 k (.c0 a_0 0 (List.replicate (a_0.length:Int).toNat (⟨0,0,0⟩:SGiven)))
 else none
noncomputable def LAC (z0:KAC) (k:Dy→Option (List SGiven)):Dy→Option (List SGiven)
 | .c0 a_0 i_4 out_3=>
 bif (decide (i_4<(a_0.length:Int))) then
  bif ((decide (0≤i_4)) && (decide (i_4<(a_0.length:Int)))) then
  (z0 (a_0.getD i_4.toNat (⟨0,0,0⟩:SGiven))).bind fun r0=>
  bif ((decide (0≤i_4)) && (decide (i_4<(out_3.length:Int)))) then
  k (.c0 a_0 (w64 (i_4+1)) (out_3.set i_4.toNat r0))
  else none
  else none
 else
  some out_3
noncomputable def Bl:Nat→Dy→Option (List SGiven)
 | 0,_=>none
 | m+1,s=>LAC Zk (Bl m) s
noncomputable def Ey:TAL:=UAL Zk (Bl gas)
theorem PAi:Tells ctx PP 72 cv132 cv133 (fun a=>Ey a):=
 have b:∀ z0,CutIs ctx PP 72 Tryz.f72 [] [(132,FAW z0)] cv133 GAW (LAC z0):=fun z0 _ s=>by cases s <;> kernel_rfl
 have e:∀ z0,EntryIs ctx PP 72 [] [(132,FAW z0)] cv132 cv133 GAW (fun k a=>UAL z0 k a):=fun z0 _ a=>by kernel_rfl
 fn_ok (hc OAi hl_nil) Tryz.func72 (fun s s' h=>by cases s;cases s';cases h;rfl) (fun _=>rfl) (fun _ _=>rfl) (b Zk) (e Zk) gas
noncomputable def QAi {γ:Type} (F:TAL):Hd ctx γ:=hdl cv132.dec (fun a=>F a) cv133.enc
abbrev NAC:=SRec→Option SRec
noncomputable def VAL (z0:Zw) (a_0:SRec):Option SRec:=
 (z0 a_0.fThing).bind fun r0=>
 some ⟨a_0.fKind,a_0.fText,a_0.fNum,r0⟩
noncomputable def Dl:NAC:=VAL Zf
theorem RAi:Tells ctx PP 133 cv19 cv19 (fun a=>Dl a):=fn_ok0 (hc XAV hl_nil) Tryz.func133 ((fun z0 a=>by kernel_rfl:∀ z0,EntryIs0 ctx PP 133 [] [(168,BAL z0)] cv19 cv19 fun a=>VAL z0 a) Zf)
noncomputable def HAW {γ:Type} (F:NAC):Hd ctx γ:=hdl cv19.dec (fun a=>F a) cv19.enc
abbrev WAL:=(List SRec)→Option (List SRec)
inductive Gy where
 | c0 (a_0:(List SRec)) (i_4:Int) (out_3:(List SRec))
noncomputable def IAW:Gy→LI
 | .c0 a_0 i_4 out_3=>(tdo Tryz.f73 464,[(0,[.one (.rsl 173 a_0)]),(3,[.one (.own 240)]),(4,[.one (.int .i64 i_4)])],[(240,.sl 71 out_3)])
noncomputable def XAL (z0:NAC) (k:Gy→Option (List SRec)) (a_0:(List SRec)):Option (List SRec):=
 bif ((((decide (0≤(a_0.length:Int))) && (decide ((a_0.length:Int)≤(a_0.length:Int)))) && (decide ((a_0.length:Int)≤9223372036854775807))) && (decide (((a_0.length:Int).toNat*80)≤140737488355328))) then
 k (.c0 a_0 0 (List.replicate (a_0.length:Int).toNat (⟨0,⟨#[]⟩,0,⟨0,0,false,false,false,false,⟨#[]⟩,0⟩⟩:SRec)))
 else none
noncomputable def OAC (z0:NAC) (k:Gy→Option (List SRec)):Gy→Option (List SRec)
 | .c0 a_0 i_4 out_3=>
 bif (decide (i_4<(a_0.length:Int))) then
  bif ((decide (0≤i_4)) && (decide (i_4<(a_0.length:Int)))) then
  (z0 (a_0.getD i_4.toNat (⟨0,⟨#[]⟩,0,⟨0,0,false,false,false,false,⟨#[]⟩,0⟩⟩:SRec))).bind fun r0=>
  bif ((decide (0≤i_4)) && (decide (i_4<(out_3.length:Int)))) then
  k (.c0 a_0 (w64 (i_4+1)) (out_3.set i_4.toNat r0))
  else none
  else none
 else
  some out_3
noncomputable def Gl:Nat→Gy→Option (List SRec)
 | 0,_=>none
 | m+1,s=>OAC Dl (Gl m) s
noncomputable def Hy:WAL:=XAL Dl (Gl gas)
theorem SAi:Tells ctx PP 73 cv134 cv135 (fun a=>Hy a):=
 have b:∀ z0,CutIs ctx PP 73 Tryz.f73 [] [(133,HAW z0)] cv135 IAW (OAC z0):=fun z0 _ s=>by cases s <;> kernel_rfl
 have e:∀ z0,EntryIs ctx PP 73 [] [(133,HAW z0)] cv134 cv135 IAW (fun k a=>XAL z0 k a):=fun z0 _ a=>by kernel_rfl
 fn_ok (hc RAi hl_nil) Tryz.func73 (fun s s' h=>by cases s;cases s';cases h;rfl) (fun _=>rfl) (fun _ _=>rfl) (b Dl) (e Dl) gas
noncomputable def TAi {γ:Type} (F:WAL):Hd ctx γ:=hdl cv134.dec (fun a=>F a) cv135.enc
abbrev VAJ:=SLife→Option SLife
noncomputable def YAL (z0:MAL) (z1:OAL) (z2:QAL) (z3:TAL) (z4:WAL) (a_0:SLife):Option SLife:=
 (z0 a_0.fBox).bind fun r0=>
 (z1 a_0.fCodes).bind fun r1=>
 (z2 a_0.fReplies).bind fun r2=>
 (z3 a_0.fGives).bind fun r3=>
 (z4 a_0.fDone).bind fun r4=>
 some ⟨r0,r1,r2,r3,r4⟩
noncomputable def Zv:VAJ:=YAL Vx Xx Zx Ey Hy
theorem OAg:Tells ctx PP 19 cv136 cv137 (fun a=>Zv a):=fn_ok0 (hc IAi (hc KAi (hc MAi (hc PAi (hc SAi hl_nil))))) Tryz.func19 ((fun z0 z1 z2 z3 z4 a=>by kernel_rfl:∀ z0 z1 z2 z3 z4,EntryIs0 ctx PP 19 [] [(15,JAi z0),(70,LAi z1),(71,NAi z2),(72,QAi z3),(73,TAi z4)] cv136 cv137 fun a=>YAL z0 z1 z2 z3 z4 a) Vx Xx Zx Ey Hy)
noncomputable def RAg {γ:Type} (F:VAJ):Hd ctx γ:=hdl cv136.dec (fun a=>F a) cv137.enc
abbrev PAC:=(List SRec)→Int→Option Int
inductive Iy where
 | c0 (list_0:(List SRec)) (id_1:Int) (n_5:Int) (i_6:Int)
noncomputable def JAW:Iy→LI
 | .c0 list_0 id_1 n_5 i_6=>(tdo Tryz.f81 464,[(0,[.one (.rsl 71 list_0)]),(1,[.one (.int .i64 id_1)]),(5,[.one (.int .i64 n_5)]),(6,[.one (.int .i64 i_6)])],[])
noncomputable def ZAL (k:Iy→Option Int) (list_0:(List SRec)) (id_1:Int):Option Int:=
 k (.c0 list_0 id_1 0 0)
noncomputable def QAC (k:Iy→Option Int):Iy→Option Int
 | .c0 list_0 id_1 n_5 i_6=>
 bif (decide (i_6<(list_0.length:Int))) then
  bif ((decide (0≤i_6)) && (decide (i_6<(list_0.length:Int)))) then
  bif ((list_0.getD i_6.toNat (⟨0,⟨#[]⟩,0,⟨0,0,false,false,false,false,⟨#[]⟩,0⟩⟩:SRec)).fKind == 3) then
  bif ((decide (0≤i_6)) && (decide (i_6<(list_0.length:Int)))) then
  bif ((list_0.getD i_6.toNat (⟨0,⟨#[]⟩,0,⟨0,0,false,false,false,false,⟨#[]⟩,0⟩⟩:SRec)).fThing.fId == id_1) then
   bif ((decide (0≤i_6)) && (decide (i_6<(list_0.length:Int)))) then
   k (.c0 list_0 id_1 (list_0.getD i_6.toNat (⟨0,⟨#[]⟩,0,⟨0,0,false,false,false,false,⟨#[]⟩,0⟩⟩:SRec)).fThing.fNext (w64 (i_6+1)))
   else none
  else
   k (.c0 list_0 id_1 n_5 (w64 (i_6+1)))
  else none
  else
  k (.c0 list_0 id_1 n_5 (w64 (i_6+1)))
  else none
 else
  some n_5
noncomputable def Jy:Nat→Iy→Option Int
 | 0,_=>none
 | m+1,s=>QAC (Jy m) s
noncomputable def Hl:PAC:=ZAL (Jy gas)
theorem UAi:Tells ctx PP 81 cv146 cv15 (fun a=>Hl a.1 a.2):=
 have b:CutIs ctx PP 81 Tryz.f81 [] [] cv15 JAW (QAC):=fun _ s=>by cases s <;> kernel_rfl
 have e:EntryIs ctx PP 81 [] [] cv146 cv15 JAW (fun k a=>ZAL k a.1 a.2):=fun _ a=>by kernel_rfl
 fn_ok hl_nil Tryz.func81 (fun s s' h=>by cases s;cases s';cases h;rfl) (fun _=>rfl) (fun _ _=>rfl) b e gas
noncomputable def KAW {γ:Type} (F:PAC):Hd ctx γ:=hdl cv146.dec (fun a=>F a.1 a.2) cv15.enc
abbrev RAC:=(List SGiven)→Option Bool
inductive Ky where
 | c0 (list_0:(List SGiven)) (i_3:Int)
 | c1 (list_0:(List SGiven)) (i_3:Int) (k_4:Int)
noncomputable def MAW:Ky→LI
 | .c0 list_0 i_3=>(tdo Tryz.f82 208,[(0,[.one (.rsl 117 list_0)]),(3,[.one (.int .i64 i_3)])],[])
 | .c1 list_0 i_3 k_4=>(tdo Tryz.f82 13456,[(0,[.one (.rsl 117 list_0)]),(3,[.one (.int .i64 i_3)]),(4,[.one (.int .i64 k_4)])],[])
noncomputable def AAM (k:Ky→Option Bool) (list_0:(List SGiven)):Option Bool:=
 k (.c0 list_0 0)
noncomputable def Fp (k:Ky→Option Bool):Ky→Option Bool
 | .c0 list_0 i_3=>
 bif (decide (i_3<(list_0.length:Int))) then
  k (.c1 list_0 i_3 0)
 else
  some true
 | .c1 list_0 i_3 k_4=>
 bif (decide (k_4<i_3)) then
  bif ((decide (0≤i_3)) && (decide (i_3<(list_0.length:Int)))) then
  bif ((decide (0≤k_4)) && (decide (k_4<(list_0.length:Int)))) then
  bif ((list_0.getD i_3.toNat (⟨0,0,0⟩:SGiven)).fThing == (list_0.getD k_4.toNat (⟨0,0,0⟩:SGiven)).fThing) then
  bif ((decide (0≤i_3)) && (decide (i_3<(list_0.length:Int)))) then
  bif ((decide (0≤k_4)) && (decide (k_4<(list_0.length:Int)))) then
  bif ((list_0.getD i_3.toNat (⟨0,0,0⟩:SGiven)).fLeaf == (list_0.getD k_4.toNat (⟨0,0,0⟩:SGiven)).fLeaf) then
   some false
  else
   k (.c1 list_0 i_3 (w64 (k_4+1)))
  else none
  else none
  else
  k (.c1 list_0 i_3 (w64 (k_4+1)))
  else none
  else none
 else
  k (.c0 list_0 (w64 (i_3+1)))
noncomputable def Ag:Nat→Ky→Option Bool
 | 0,_=>none
 | m+1,s=>Fp (Ag m) s
noncomputable def Il:RAC:=AAM (Ag gas)
theorem VAi:Tells ctx PP 82 cv147 cv6 (fun a=>Il a):=
 have b:CutIs ctx PP 82 Tryz.f82 [] [] cv6 MAW (Fp):=fun _ s=>by cases s <;> kernel_rfl
 have e:EntryIs ctx PP 82 [] [] cv147 cv6 MAW (fun k a=>AAM k a):=fun _ a=>by kernel_rfl
 fn_ok hl_nil Tryz.func82 (fun s s' h=>by cases s <;> cases s' <;> first | (cases h;done) | (cases h;rfl) | exact (rg_ne h (by kernel_rfl)).elim) (fun _=>rfl) (fun _ _=>rfl) b e gas
noncomputable def NAW {γ:Type} (F:RAC):Hd ctx γ:=hdl cv147.dec (fun a=>F a) cv6.enc
abbrev SAC:=(List SGiven)→Option Bool
inductive Ny where
 | c0 (list_0:(List SGiven)) (i_3:Int)
 | c1 (list_0:(List SGiven)) (i_3:Int) (k_4:Int)
noncomputable def OAW:Ny→LI
 | .c0 list_0 i_3=>(tdo Tryz.f83 208,[(0,[.one (.rsl 117 list_0)]),(3,[.one (.int .i64 i_3)])],[])
 | .c1 list_0 i_3 k_4=>(tdo Tryz.f83 13456,[(0,[.one (.rsl 117 list_0)]),(3,[.one (.int .i64 i_3)]),(4,[.one (.int .i64 k_4)])],[])
noncomputable def BAM (k:Ny→Option Bool) (list_0:(List SGiven)):Option Bool:=
 k (.c0 list_0 0)
noncomputable def Gp (k:Ny→Option Bool):Ny→Option Bool
 | .c0 list_0 i_3=>
 bif (decide (i_3<(list_0.length:Int))) then
  k (.c1 list_0 i_3 0)
 else
  some true
 | .c1 list_0 i_3 k_4=>
 bif (decide (k_4<i_3)) then
  bif ((decide (0≤i_3)) && (decide (i_3<(list_0.length:Int)))) then
  bif ((decide (0≤k_4)) && (decide (k_4<(list_0.length:Int)))) then
  bif ((list_0.getD i_3.toNat (⟨0,0,0⟩:SGiven)).fThing == (list_0.getD k_4.toNat (⟨0,0,0⟩:SGiven)).fThing) then
  bif ((decide (0≤i_3)) && (decide (i_3<(list_0.length:Int)))) then
  bif ((decide (0≤k_4)) && (decide (k_4<(list_0.length:Int)))) then
  bif (decide ((list_0.getD i_3.toNat (⟨0,0,0⟩:SGiven)).fLeaf≤(list_0.getD k_4.toNat (⟨0,0,0⟩:SGiven)).fLeaf)) then
   some false
  else
   k (.c1 list_0 i_3 (w64 (k_4+1)))
  else none
  else none
  else
  k (.c1 list_0 i_3 (w64 (k_4+1)))
  else none
  else none
 else
  k (.c0 list_0 (w64 (i_3+1)))
noncomputable def Bg:Nat→Ny→Option Bool
 | 0,_=>none
 | m+1,s=>Gp (Bg m) s
noncomputable def Jl:SAC:=BAM (Bg gas)
theorem WAi:Tells ctx PP 83 cv147 cv6 (fun a=>Jl a):=
 have b:CutIs ctx PP 83 Tryz.f83 [] [] cv6 OAW (Gp):=fun _ s=>by cases s <;> kernel_rfl
 have e:EntryIs ctx PP 83 [] [] cv147 cv6 OAW (fun k a=>BAM k a):=fun _ a=>by kernel_rfl
 fn_ok hl_nil Tryz.func83 (fun s s' h=>by cases s <;> cases s' <;> first | (cases h;done) | (cases h;rfl) | exact (rg_ne h (by kernel_rfl)).elim) (fun _=>rfl) (fun _ _=>rfl) b e gas
noncomputable def PAW {γ:Type} (F:SAC):Hd ctx γ:=hdl cv147.dec (fun a=>F a) cv6.enc
abbrev CAM:=Option (List Int)
noncomputable def QAW  : Option (List Int):=
 some [1779033703,3144134277,1013904242,2773480762,1359893119,2600822924,528734635,1541459225]
noncomputable def UAC:CAM:=QAW
theorem XAi:Tells ctx PP 146 cv0 cv1 (fun _=>UAC):=fn_ok0 hl_nil Tryz.func146 (fun _=>by kernel_rfl:EntryIs0 ctx PP 146 [] [] cv0 cv1 fun _=>QAW)
noncomputable def YAi {γ:Type} (F:CAM):Hd ctx γ:=hdl cv0.dec (fun _=>F) cv1.enc
abbrev Ll:=(List Int)→Option ByteArray
inductive Oy where
 | c0 (words_0:(List Int)) (i_4:Int) (out_3:(List Int))
noncomputable def RAW:Oy→LI
 | .c0 words_0 i_4 out_3=>(tdo Tryz.f145 464,[(0,[.one (.rsl 138 words_0)]),(3,[.one (.own 240)]),(4,[.one (.int .i64 i_4)])],[(240,.sl 5 out_3)])
noncomputable def SAW (k:Oy→Option ByteArray) (words_0:(List Int)):Option ByteArray:=
 k (.c0 words_0 0 [])
noncomputable def VAC (k:Oy→Option ByteArray):Oy→Option ByteArray
 | .c0 words_0 i_4 out_3=>
 bif (decide (i_4<(words_0.length:Int))) then
  bif ((decide (0≤i_4)) && (decide (i_4<(words_0.length:Int)))) then
  bif (decide (((out_3.length+4)*1)≤140737488355328)) then
  k (.c0 words_0 (w64 (i_4+1)) (out_3++[(w8 (w32 ((words_0.getD i_4.toNat 0).tdiv 16777216))),(w8 ((w32 ((words_0.getD i_4.toNat 0).tdiv 65536)).tmod 256)),(w8 ((w32 ((words_0.getD i_4.toNat 0).tdiv 256)).tmod 256)),(w8 ((words_0.getD i_4.toNat 0).tmod 256))]))
  else none
  else none
 else
  some (ofBytes out_3)
noncomputable def Py:Nat→Oy→Option ByteArray
 | 0,_=>none
 | m+1,s=>VAC (Py m) s
noncomputable def Yb:Ll:=SAW (Py gas)
theorem DAM:Tells ctx PP 145 cv2 cv3 (fun a=>Yb a):=
 have b:CutIs ctx PP 145 Tryz.f145 [] [] cv3 RAW (VAC):=fun _ s=>by cases s <;> kernel_rfl
 have e:EntryIs ctx PP 145 [] [] cv2 cv3 RAW (fun k a=>SAW k a):=fun _ a=>by kernel_rfl
 fn_ok hl_nil Tryz.func145 (fun s s' h=>by cases s;cases s';cases h;rfl) (fun _=>rfl) (fun _ _=>rfl) b e gas
noncomputable def Qy {γ:Type} (F:Ll):Hd ctx γ:=hdl cv2.dec (fun a=>F a) cv3.enc
abbrev EAM:=Option SHasher
noncomputable def FAM (z0:CAM) (z1:Ll)  : Option SHasher:=
 z0.bind fun r0=>
 (z1 r0).bind fun r1=>
 some ⟨r1,⟨#[]⟩,0⟩
noncomputable def Ry:EAM:=FAM UAC Yb
theorem ZAi:Tells ctx PP 91 cv0 cv4 (fun _=>Ry):=fn_ok0 (hc XAi (hc DAM hl_nil)) Tryz.func91 ((fun z0 z1 _=>by kernel_rfl:∀ z0 z1,EntryIs0 ctx PP 91 [] [(146,YAi z0),(145,Qy z1)] cv0 cv4 fun _=>FAM z0 z1) UAC Yb)
noncomputable def AAj {γ:Type} (F:EAM):Hd ctx γ:=hdl cv0.dec (fun _=>F) cv4.enc
abbrev CZ:=Int→Int→Int→Option Bool
noncomputable def TAW (x_0:Int) (least_1:Int) (most_2:Int):Option Bool:=
 bif (decide (x_0≥least_1)) then
 some (decide (x_0≤most_2))
 else
 some false
noncomputable def SX:CZ:=TAW
theorem Qc:Tells ctx PP 50 cv5 cv6 (fun a=>SX a.1 a.2.1 a.2.2):=fn_ok0 hl_nil Tryz.func50 (fun a=>by kernel_rfl:EntryIs0 ctx PP 50 [] [] cv5 cv6 fun a=>TAW a.1 a.2.1 a.2.2)
noncomputable def KZ {γ:Type} (F:CZ):Hd ctx γ:=hdl cv5.dec (fun a=>F a.1 a.2.1 a.2.2) cv6.enc
abbrev Ip:=SHasher→Option Bool
noncomputable def GAM (z0:CZ) (h_0:SHasher):Option Bool:=
 bif ((h_0.fState.size:Int) == 32) then
 bif (decide ((h_0.fRest.size:Int)<64)) then
  (z0 h_0.fCount 0 1000000000).bind fun r0=>
  bif r0 then
  some ((h_0.fCount.tmod 64) == (h_0.fRest.size:Int))
  else
  some false
 else
  some false
 else
 some false
noncomputable def Eb:Ip:=GAM SX
theorem UAW:Tells ctx PP 141 cv4 cv6 (fun a=>Eb a):=fn_ok0 (hc Qc hl_nil) Tryz.func141 ((fun z0 a=>by kernel_rfl:∀ z0,EntryIs0 ctx PP 141 [] [(50,KZ z0)] cv4 cv6 fun a=>GAM z0 a) SX)
noncomputable def WAC {γ:Type} (F:Ip):Hd ctx γ:=hdl cv4.dec (fun a=>F a) cv6.enc
abbrev XAC:=ByteArray→Int→Option Int
noncomputable def HAM (s_0:ByteArray) (at_1:Int):Option Int:=
 bif ((decide (0≤at_1)) && (decide (at_1<(s_0.size:Int)))) then
 bif ((decide (0≤(w64 (at_1+1)))) && (decide ((w64 (at_1+1))<(s_0.size:Int)))) then
 bif ((decide (0≤(w64 (at_1+2)))) && (decide ((w64 (at_1+2))<(s_0.size:Int)))) then
 bif ((decide (0≤(w64 (at_1+3)))) && (decide ((w64 (at_1+3))<(s_0.size:Int)))) then
 some (w32 ((w32 ((w32 ((w32 ((w32 (bt s_0 at_1))*16777216))+(w32 ((w32 (bt s_0 (w64 (at_1+1))))*65536))))+(w32 ((w32 (bt s_0 (w64 (at_1+2))))*256))))+(w32 (bt s_0 (w64 (at_1+3))))))
 else none
 else none
 else none
 else none
noncomputable def Nl:XAC:=HAM
theorem BAj:Tells ctx PP 176 cv7 cv8 (fun a=>Nl a.1 a.2):=fn_ok0 hl_nil Tryz.func176 (fun a=>by kernel_rfl:EntryIs0 ctx PP 176 [] [] cv7 cv8 fun a=>HAM a.1 a.2)
noncomputable def VAW {γ:Type} (F:XAC):Hd ctx γ:=hdl cv7.dec (fun a=>F a.1 a.2) cv8.enc
abbrev Zh:=ByteArray→Option (List Int)
inductive Uy where
 | c0 (s_0:ByteArray) (i_4:Int) (out_3:(List Int))
noncomputable def WAW:Uy→LI
 | .c0 s_0 i_4 out_3=>(tdo Tryz.f142 464,[(0,[.one (.str s_0)]),(3,[.one (.own 240)]),(4,[.one (.int .i64 i_4)])],[(240,.sl 138 out_3)])
noncomputable def XAW (z0:XAC) (k:Uy→Option (List Int)) (s_0:ByteArray):Option (List Int):=
 k (.c0 s_0 0 [])
noncomputable def YAC (z0:XAC) (k:Uy→Option (List Int)):Uy→Option (List Int)
 | .c0 s_0 i_4 out_3=>
 bif (decide ((w64 (i_4+4))≤(s_0.size:Int))) then
  (z0 s_0 i_4).bind fun r0=>
  bif (decide (((out_3.length+1)*4)≤140737488355328)) then
  k (.c0 s_0 (w64 (i_4+4)) (out_3++[r0]))
  else none
 else
  some out_3
noncomputable def Vy:Nat→Uy→Option (List Int)
 | 0,_=>none
 | m+1,s=>YAC Nl (Vy m) s
noncomputable def YZ:Zh:=XAW Nl (Vy gas)
theorem IAM:Tells ctx PP 142 cv3 cv1 (fun a=>YZ a):=
 have b:∀ z0,CutIs ctx PP 142 Tryz.f142 [] [(176,VAW z0)] cv1 WAW (YAC z0):=fun z0 _ s=>by cases s <;> kernel_rfl
 have e:∀ z0,EntryIs ctx PP 142 [] [(176,VAW z0)] cv3 cv1 WAW (fun k a=>XAW z0 k a):=fun z0 _ a=>by kernel_rfl
 fn_ok (hc BAj hl_nil) Tryz.func142 (fun s s' h=>by cases s;cases s';cases h;rfl) (fun _=>rfl) (fun _ _=>rfl) (b Nl) (e Nl) gas
noncomputable def Jp {γ:Type} (F:Zh):Hd ctx γ:=hdl cv3.dec (fun a=>F a) cv1.enc
abbrev Np:=Option (List Int)
noncomputable def YAW  : Option (List Int):=
 some [1116352408,1899447441,3049323471,3921009573,961987163,1508970993,2453635748,2870763221,3624381080,310598401,607225278,1426881987,1925078388,2162078206,2614888103,3248222580,3835390401,4022224774,264347078,604807628,770255983,1249150122,1555081692,1996064986,2554220882,2821834349,2952996808,3210313671,3336571891,3584528711,113926993,338241895,666307205,773529912,1294757372,1396182291,1695183700,1986661051,2177026350,2456956037,2730485921,2820302411,3259730800,3345764771,3516065817,3600352804,4094571909,275423344,430227734,506948616,659060556,883997877,958139571,1322822218,1537002063,1747873779,1955562222,2024104815,2227730452,2361852424,2428436474,2756734187,3204031479,3329325298]
noncomputable def Ie:Np:=YAW
theorem ZAW:Tells ctx PP 143 cv0 cv1 (fun _=>Ie):=fn_ok0 hl_nil Tryz.func143 (fun _=>by kernel_rfl:EntryIs0 ctx PP 143 [] [] cv0 cv1 fun _=>YAW)
noncomputable def ZAC {γ:Type} (F:Np):Hd ctx γ:=hdl cv0.dec (fun _=>F) cv1.enc
abbrev JAM:=Int→Int→Int→Option Int
noncomputable def KAM (x_0:Int) (low_1:Int) (high_2:Int):Option Int:=
 bif (!(low_1 == 0)) then
 bif (!(low_1 == 0)) then
 some (w32 ((w32 (x_0.tdiv low_1))+(w32 ((x_0.tmod low_1)*high_2))))
 else none
 else none
noncomputable def Wy:JAM:=KAM
theorem CAj:Tells ctx PP 204 cv9 cv8 (fun a=>Wy a.1 a.2.1 a.2.2):=fn_ok0 hl_nil Tryz.func204 (fun a=>by kernel_rfl:EntryIs0 ctx PP 204 [] [] cv9 cv8 fun a=>KAM a.1 a.2.1 a.2.2)
noncomputable def DAj {γ:Type} (F:JAM):Hd ctx γ:=hdl cv9.dec (fun a=>F a.1 a.2.1 a.2.2) cv8.enc
abbrev AAD:=Int→Int→Int→Int→Bool→Option Int
noncomputable def Qp (z0:JAM) (x_0:Int) (a_1:Int) (b_2:Int) (c_3:Int) (last_4:Bool):Option Int:=
 bif (!(a_1 == 0)) then
 (z0 x_0 a_1 (w32 ((w32 ((2147483648:Int).tdiv a_1))*2))).bind fun r0=>
 bif (!(b_2 == 0)) then
 (z0 x_0 b_2 (w32 ((w32 ((2147483648:Int).tdiv b_2))*2))).bind fun r1=>
 bif (!(c_3 == 0)) then
 bif (!last_4) then
 bif (!(c_3 == 0)) then
 (z0 x_0 c_3 (w32 ((w32 ((2147483648:Int).tdiv c_3))*2))).bind fun r2=>
 some (w32 (((BitVec.toNat ((BitVec.ofInt (IntKind.bits IntKind.u32) (w32 (((BitVec.toNat ((BitVec.ofInt (IntKind.bits IntKind.u32) r0) ^^^ (BitVec.ofInt (IntKind.bits IntKind.u32) r1))):Nat):Int))) ^^^ (BitVec.ofInt (IntKind.bits IntKind.u32) r2))):Nat):Int))
 else none
 else
 some (w32 (((BitVec.toNat ((BitVec.ofInt (IntKind.bits IntKind.u32) (w32 (((BitVec.toNat ((BitVec.ofInt (IntKind.bits IntKind.u32) r0) ^^^ (BitVec.ofInt (IntKind.bits IntKind.u32) r1))):Nat):Int))) ^^^ (BitVec.ofInt (IntKind.bits IntKind.u32) (w32 (x_0.tdiv c_3))))):Nat):Int))
 else none
 else none
 else none
noncomputable def Fb:AAD:=Qp Wy
theorem EAj:Tells ctx PP 177 cv10 cv8 (fun a=>Fb a.1 a.2.1 a.2.2.1 a.2.2.2.1 a.2.2.2.2):=fn_ok0 (hc CAj hl_nil) Tryz.func177 ((fun z0 a=>by kernel_rfl:∀ z0,EntryIs0 ctx PP 177 [] [(204,DAj z0)] cv10 cv8 fun a=>Qp z0 a.1 a.2.1 a.2.2.1 a.2.2.2.1 a.2.2.2.2) Wy)
noncomputable def AAX {γ:Type} (F:AAD):Hd ctx γ:=hdl cv10.dec (fun a=>F a.1 a.2.1 a.2.2.1 a.2.2.2.1 a.2.2.2.2) cv8.enc
abbrev Vp:=(List Int)→(List Int)→ByteArray→Option (List Int)
inductive Xy where
 | c0 (t_0:(List Int)) (o_1:(List Int)) (v_8:Int) (v_7:(List Int))
 | c1 (t_0:(List Int)) (o_1:(List Int)) (v_10:Int) (v_7:(List Int)) (v_9:(List Int))
 | c2 (t_0:(List Int)) (o_1:(List Int)) (v_10:Int) (v_13:Int) (v_15:Int) (v_16:Int) (v_7:(List Int)) (v_9:(List Int))
 | c3 (t_0:(List Int)) (v_18:Int) (v_9:(List Int)) (v_17:(List Int))
noncomputable def BAX:Xy→LI
 | .c0 t_0 o_1 v_8 v_7=>(tdo Tryz.f144 464,[(0,[.one (.rsl 138 t_0)]),(1,[.one (.rsl 138 o_1)]),(7,[.one (.own 496)]),(8,[.one (.int .i64 v_8)])],[(496,.sl 138 v_7)])
 | .c1 t_0 o_1 v_10 v_7 v_9=>(tdo Tryz.f144 2000,[(0,[.one (.rsl 138 t_0)]),(1,[.one (.rsl 138 o_1)]),(7,[.one (.own 496)]),(9,[.one (.own 624)]),(10,[.one (.int .i64 v_10)])],[(496,.sl 138 v_7),(624,.sl 138 v_9)])
 | .c2 t_0 o_1 v_10 v_13 v_15 v_16 v_7 v_9=>(tdo Tryz.f144 8202192,[(0,[.one (.rsl 138 t_0)]),(1,[.one (.rsl 138 o_1)]),(7,[.one (.own 496)]),(9,[.one (.own 624)]),(10,[.one (.int .i64 v_10)]),(13,[.one (.int .u32 v_13)]),(15,[.one (.int .u32 v_15)]),(16,[.one (.int .i64 v_16)])],[(496,.sl 138 v_7),(624,.sl 138 v_9)])
 | .c3 t_0 v_18 v_9 v_17=>(tdo Tryz.f144 8144,[(0,[.one (.rsl 138 t_0)]),(9,[.one (.own 624)]),(17,[.one (.own 1136)]),(18,[.one (.int .i64 v_18)])],[(624,.sl 138 v_9),(1136,.sl 138 v_17)])
noncomputable def LAM (z0:Zh) (z1:AAD) (k:Xy→Option (List Int)) (t_0:(List Int)) (o_1:(List Int)) (A_2:ByteArray):Option (List Int):=
 (z0 A_2).bind fun r0=>
 k (.c0 t_0 o_1 16 r0)
noncomputable def Je (z0:Zh) (z1:AAD) (k:Xy→Option (List Int)):Xy→Option (List Int)
 | .c0 t_0 o_1 v_8 v_7=>
 bif (decide (v_8<64)) then
  bif ((decide (0≤(w64 (v_8 - 2)))) && (decide ((w64 (v_8 - 2))<(v_7.length:Int)))) then
  (z1 (v_7.getD (w64 (v_8 - 2)).toNat 0) 131072 524288 1024 true).bind fun r0=>
  bif ((decide (0≤(w64 (v_8 - 7)))) && (decide ((w64 (v_8 - 7))<(v_7.length:Int)))) then
  bif ((decide (0≤(w64 (v_8 - 15)))) && (decide ((w64 (v_8 - 15))<(v_7.length:Int)))) then
  (z1 (v_7.getD (w64 (v_8 - 15)).toNat 0) 128 262144 8 true).bind fun r1=>
  bif ((decide (0≤(w64 (v_8 - 16)))) && (decide ((w64 (v_8 - 16))<(v_7.length:Int)))) then
  bif (decide (((v_7.length+1)*4)≤140737488355328)) then
  k (.c0 t_0 o_1 (w64 (v_8+1)) (v_7++[(w32 ((w32 ((w32 (r0+(v_7.getD (w64 (v_8 - 7)).toNat 0)))+r1))+(v_7.getD (w64 (v_8 - 16)).toNat 0)))]))
  else none
  else none
  else none
  else none
  else none
 else
  bif (decide (((0+t_0.length)*4)≤140737488355328)) then
  k (.c1 t_0 o_1 0 v_7 ([]++t_0))
  else none
 | .c1 t_0 o_1 v_10 v_7 v_9=>
 bif (decide (v_10<64)) then
  bif ((decide ((0:Int)≤(4:Int))) && (decide (4<(v_9.length:Int)))) then
  bif ((decide ((0:Int)≤(5:Int))) && (decide (5<(v_9.length:Int)))) then
  bif ((decide ((0:Int)≤(6:Int))) && (decide (6<(v_9.length:Int)))) then
  bif ((decide ((0:Int)≤(7:Int))) && (decide (7<(v_9.length:Int)))) then
  (z1 (v_9.getD (4:Int).toNat 0) 64 2048 33554432 false).bind fun r0=>
  bif ((decide (0≤v_10)) && (decide (v_10<(o_1.length:Int)))) then
  bif ((decide (0≤v_10)) && (decide (v_10<(v_7.length:Int)))) then
  bif ((decide ((0:Int)≤(0:Int))) && (decide (0<(v_9.length:Int)))) then
  bif ((decide ((0:Int)≤(1:Int))) && (decide (1<(v_9.length:Int)))) then
  bif ((decide ((0:Int)≤(0:Int))) && (decide (0<(v_9.length:Int)))) then
  bif ((decide ((0:Int)≤(2:Int))) && (decide (2<(v_9.length:Int)))) then
  bif ((decide ((0:Int)≤(1:Int))) && (decide (1<(v_9.length:Int)))) then
  bif ((decide ((0:Int)≤(2:Int))) && (decide (2<(v_9.length:Int)))) then
  bif ((decide ((0:Int)≤(0:Int))) && (decide (0<(v_9.length:Int)))) then
  (z1 (v_9.getD (0:Int).toNat 0) 4 8192 4194304 false).bind fun r1=>
  k (.c2 t_0 o_1 v_10 (w32 ((w32 ((w32 ((w32 ((v_9.getD (7:Int).toNat 0)+r0))+(w32 (((BitVec.toNat ((BitVec.ofInt (IntKind.bits IntKind.u32) (w32 (((BitVec.toNat ((BitVec.ofInt (IntKind.bits IntKind.u32) (v_9.getD (4:Int).toNat 0)) &&& (BitVec.ofInt (IntKind.bits IntKind.u32) (v_9.getD (5:Int).toNat 0)))):Nat):Int))) ^^^ (BitVec.ofInt (IntKind.bits IntKind.u32) (w32 (((BitVec.toNat ((BitVec.ofInt (IntKind.bits IntKind.u32) (w32 (4294967295 - (v_9.getD (4:Int).toNat 0)))) &&& (BitVec.ofInt (IntKind.bits IntKind.u32) (v_9.getD (6:Int).toNat 0)))):Nat):Int))))):Nat):Int))))+(o_1.getD v_10.toNat 0)))+(v_7.getD v_10.toNat 0))) (w32 (r1+(w32 (((BitVec.toNat ((BitVec.ofInt (IntKind.bits IntKind.u32) (w32 (((BitVec.toNat ((BitVec.ofInt (IntKind.bits IntKind.u32) (w32 (((BitVec.toNat ((BitVec.ofInt (IntKind.bits IntKind.u32) (v_9.getD (0:Int).toNat 0)) &&& (BitVec.ofInt (IntKind.bits IntKind.u32) (v_9.getD (1:Int).toNat 0)))):Nat):Int))) ^^^ (BitVec.ofInt (IntKind.bits IntKind.u32) (w32 (((BitVec.toNat ((BitVec.ofInt (IntKind.bits IntKind.u32) (v_9.getD (0:Int).toNat 0)) &&& (BitVec.ofInt (IntKind.bits IntKind.u32) (v_9.getD (2:Int).toNat 0)))):Nat):Int))))):Nat):Int))) ^^^ (BitVec.ofInt (IntKind.bits IntKind.u32) (w32 (((BitVec.toNat ((BitVec.ofInt (IntKind.bits IntKind.u32) (v_9.getD (1:Int).toNat 0)) &&& (BitVec.ofInt (IntKind.bits IntKind.u32) (v_9.getD (2:Int).toNat 0)))):Nat):Int))))):Nat):Int)))) 7 v_7 v_9)
  else none
  else none
  else none
  else none
  else none
  else none
  else none
  else none
  else none
  else none
  else none
  else none
  else none
 else
  k (.c3 t_0 0 v_9 [])
 | .c2 t_0 o_1 v_10 v_13 v_15 v_16 v_7 v_9=>
 bif (decide (v_16 > 0)) then
  bif ((decide (0≤(w64 (v_16 - 1)))) && (decide ((w64 (v_16 - 1))<(v_9.length:Int)))) then
  bif ((decide (0≤v_16)) && (decide (v_16<(v_9.length:Int)))) then
  k (.c2 t_0 o_1 v_10 v_13 v_15 (w64 (v_16 - 1)) v_7 (v_9.set v_16.toNat (v_9.getD (w64 (v_16 - 1)).toNat 0)))
  else none
  else none
 else
  bif ((decide ((0:Int)≤(4:Int))) && (decide (4<(v_9.length:Int)))) then
  bif ((decide ((0:Int)≤(4:Int))) && (decide (4<(v_9.length:Int)))) then
  bif ((decide ((0:Int)≤(0:Int))) && (decide (0<((v_9.set (4:Int).toNat (w32 ((v_9.getD (4:Int).toNat 0)+v_13))).length:Int)))) then
  k (.c1 t_0 o_1 (w64 (v_10+1)) v_7 ((v_9.set (4:Int).toNat (w32 ((v_9.getD (4:Int).toNat 0)+v_13))).set (0:Int).toNat (w32 (v_13+v_15))))
  else none
  else none
  else none
 | .c3 t_0 v_18 v_9 v_17=>
 bif (decide (v_18<8)) then
  bif ((decide (0≤v_18)) && (decide (v_18<(t_0.length:Int)))) then
  bif ((decide (0≤v_18)) && (decide (v_18<(v_9.length:Int)))) then
  bif (decide (((v_17.length+1)*4)≤140737488355328)) then
  k (.c3 t_0 (w64 (v_18+1)) v_9 (v_17++[(w32 ((t_0.getD v_18.toNat 0)+(v_9.getD v_18.toNat 0)))]))
  else none
  else none
  else none
 else
  some v_17
noncomputable def LZ:Nat→Xy→Option (List Int)
 | 0,_=>none
 | m+1,s=>Je YZ Fb (LZ m) s
noncomputable def Tc:Vp:=LAM YZ Fb (LZ gas)
theorem CAX:Tells ctx PP 144 cv11 cv1 (fun a=>Tc a.1 a.2.1 a.2.2):=
 have b:∀ z0 z1,CutIs ctx PP 144 Tryz.f144 [] [(142,Jp z0),(177,AAX z1)] cv1 BAX (Je z0 z1):=fun z0 z1 _ s=>by cases s <;> kernel_rfl
 have e:∀ z0 z1,EntryIs ctx PP 144 [] [(142,Jp z0),(177,AAX z1)] cv11 cv1 BAX (fun k a=>LAM z0 z1 k a.1 a.2.1 a.2.2):=fun z0 z1 _ a=>by kernel_rfl
 fn_ok (hc IAM (hc EAj hl_nil)) Tryz.func144 (fun s s' h=>by cases s <;> cases s' <;> first | (cases h;done) | (cases h;rfl) | exact (rg_ne h (by kernel_rfl)).elim) (fun _=>rfl) (fun _ _=>rfl) (b YZ Fb) (e YZ Fb) gas
noncomputable def CAD {γ:Type} (F:Vp):Hd ctx γ:=hdl cv11.dec (fun a=>F a.1 a.2.1 a.2.2) cv1.enc
abbrev MAM:=SHasher→ByteArray→Option SHasher
inductive Yy where
 | c0 (s_1:ByteArray) (buf_7:ByteArray) (at_8:Int) (h_2:SHasher) (v_4:SHasher) (state_5:(List Int)) (k_6:(List Int))
noncomputable def DAX:Yy→LI
 | .c0 s_1 buf_7 at_8 h_2 v_4 state_5 k_6=>(tdo Tryz.f90 4064,[(1,[.one (.str s_1)]),(2,[.one (.ptr 128 0)]),(4,[.one (.ptr 256 0)]),(5,[.one (.own 368)]),(6,[.one (.own 432)]),(7,[.one (.str buf_7)]),(8,[.one (.int .i64 at_8)])],[(128,.var [.str h_2.fState,.str h_2.fRest,.int .i64 h_2.fCount]),(256,.var [.str v_4.fState,.str v_4.fRest,.int .i64 v_4.fCount]),(368,.sl 138 state_5),(432,.sl 138 k_6)])
noncomputable def NAM (z0:Ip) (z1:Zh) (z2:Np) (z3:Vp) (z4:Ll) (k:Yy→Option SHasher) (h_0:SHasher) (s_1:ByteArray):Option SHasher:=
 (z0 h_0).bind fun r0=>
 bif (!r0) then
 some h_0
 else
 bif (decide ((w64 (h_0.fCount+(s_1.size:Int))) > 1000000000)) then
  some h_0
 else
  (z1 h_0.fState).bind fun r1=>
  z2.bind fun r2=>
  bif (decide ((h_0.fRest.size+s_1.size)≤9223372036854775807)) then
  k (.c0 s_1 (h_0.fRest++s_1) 0 h_0 ⟨⟨#[]⟩,⟨#[]⟩,0⟩ r1 r2)
  else none
noncomputable def DAD (z0:Ip) (z1:Zh) (z2:Np) (z3:Vp) (z4:Ll) (k:Yy→Option SHasher):Yy→Option SHasher
 | .c0 s_1 buf_7 at_8 h_2 v_4 state_5 k_6=>
 bif (decide ((w64 (at_8+64))≤(buf_7.size:Int))) then
  bif (((decide (0≤at_8)) && (decide (at_8≤(w64 (at_8+64))))) && (decide ((w64 (at_8+64))≤(buf_7.size:Int)))) then
  (z3 state_5 k_6 (buf_7.extract at_8.toNat (w64 (at_8+64)).toNat)).bind fun r0=>
  k (.c0 s_1 buf_7 (w64 (at_8+64)) h_2 v_4 r0 k_6)
  else none
 else
  (z4 state_5).bind fun r1=>
  bif ((decide (0≤at_8)) && (decide (at_8≤(buf_7.size:Int)))) then
  some ⟨r1,(buf_7.extract at_8.toNat buf_7.size),(w64 (h_2.fCount+(s_1.size:Int)))⟩
  else none
noncomputable def Zy:Nat→Yy→Option SHasher
 | 0,_=>none
 | m+1,s=>DAD Eb YZ Ie Tc Yb (Zy m) s
noncomputable def Az:MAM:=NAM Eb YZ Ie Tc Yb (Zy gas)
theorem FAj:Tells ctx PP 90 cv12 cv4 (fun a=>Az a.1 a.2):=
 have b:∀ z0 z1 z2 z3 z4,CutIs ctx PP 90 Tryz.f90 [] [(141,WAC z0),(142,Jp z1),(143,ZAC z2),(144,CAD z3),(145,Qy z4)] cv4 DAX (DAD z0 z1 z2 z3 z4):=fun z0 z1 z2 z3 z4 _ s=>by cases s <;> kernel_rfl
 have e:∀ z0 z1 z2 z3 z4,EntryIs ctx PP 90 [] [(141,WAC z0),(142,Jp z1),(143,ZAC z2),(144,CAD z3),(145,Qy z4)] cv12 cv4 DAX (fun k a=>NAM z0 z1 z2 z3 z4 k a.1 a.2):=fun z0 z1 z2 z3 z4 _ a=>by kernel_rfl
 fn_ok (hc UAW (hc IAM (hc ZAW (hc CAX (hc DAM hl_nil))))) Tryz.func90 (fun s s' h=>by cases s;cases s';(repeat cases ‹SHasher›);cases h;rfl) (fun _=>rfl) (fun _ _=>rfl) (b Eb YZ Ie Tc Yb) (e Eb YZ Ie Tc Yb) gas
noncomputable def GAj {γ:Type} (F:MAM):Hd ctx γ:=hdl cv12.dec (fun a=>F a.1 a.2) cv4.enc
abbrev OAM:=SHasher→Option ByteArray
inductive Bz where
 | c0 (h_1:SHasher) (tail_3:(List Int))
 | c1 (bits_4:Int) (i_5:Int) (h_1:SHasher) (tail_3:(List Int))
 | c2 (bits_4:Int) (i_5:Int) (x_6:Int) (k_7:Int) (h_1:SHasher) (tail_3:(List Int))
 | c3 (at_10:Int) (tail_3:(List Int)) (state_8:(List Int)) (k_9:(List Int))
noncomputable def EAX:Bz→LI
 | .c0 h_1 tail_3=>(tdo Tryz.f89 992,[(1,[.one (.ptr 64 0)]),(3,[.one (.own 240)])],[(64,.var [.str h_1.fState,.str h_1.fRest,.int .i64 h_1.fCount]),(240,.sl 5 tail_3)])
 | .c1 bits_4 i_5 h_1 tail_3=>(tdo Tryz.f89 8144,[(1,[.one (.ptr 64 0)]),(3,[.one (.own 240)]),(4,[.one (.int .i64 bits_4)]),(5,[.one (.int .i64 i_5)])],[(64,.var [.str h_1.fState,.str h_1.fRest,.int .i64 h_1.fCount]),(240,.sl 5 tail_3)])
 | .c2 bits_4 i_5 x_6 k_7 h_1 tail_3=>(tdo Tryz.f89 2085456,[(1,[.one (.ptr 64 0)]),(3,[.one (.own 240)]),(4,[.one (.int .i64 bits_4)]),(5,[.one (.int .i64 i_5)]),(6,[.one (.int .i64 x_6)]),(7,[.one (.int .i64 k_7)])],[(64,.var [.str h_1.fState,.str h_1.fRest,.int .i64 h_1.fCount]),(240,.sl 5 tail_3)])
 | .c3 at_10 tail_3 state_8 k_9=>(tdo Tryz.f89 65488,[(3,[.one (.own 240)]),(8,[.one (.own 560)]),(9,[.one (.own 624)]),(10,[.one (.int .i64 at_10)])],[(240,.sl 5 tail_3),(560,.sl 138 state_8),(624,.sl 138 k_9)])
noncomputable def PAM (z0:Ip) (z1:Zh) (z2:Np) (z3:Vp) (z4:Ll) (k:Bz→Option ByteArray) (h_0:SHasher):Option ByteArray:=
 (z0 h_0).bind fun r0=>
 bif (!r0) then
 some ⟨#[]⟩
 else
 bif (decide (h_0.fRest.size≤9223372036854775807)) then
 bif (decide ((((bytesOf h_0.fRest).length+1)*1)≤140737488355328)) then
 k (.c0 h_0 ((bytesOf h_0.fRest)++[(128:Int)]))
 else none
 else none
noncomputable def Me (z0:Ip) (z1:Zh) (z2:Np) (z3:Vp) (z4:Ll) (k:Bz→Option ByteArray):Bz→Option ByteArray
 | .c0 h_1 tail_3=>
 bif (((tail_3.length:Int).tmod 64) != 56) then
  bif (decide (((tail_3.length+1)*1)≤140737488355328)) then
  k (.c0 h_1 (tail_3++[(0:Int)]))
  else none
 else
  k (.c1 (w64 (8*h_1.fCount)) 7 h_1 tail_3)
 | .c1 bits_4 i_5 h_1 tail_3=>
 bif (decide (i_5≥0)) then
  k (.c2 bits_4 i_5 bits_4 0 h_1 tail_3)
 else
  (z1 h_1.fState).bind fun r0=>
  z2.bind fun r1=>
  k (.c3 0 tail_3 r0 r1)
 | .c2 bits_4 i_5 x_6 k_7 h_1 tail_3=>
 bif (decide (k_7<i_5)) then
  k (.c2 bits_4 i_5 (w64 (x_6.tdiv 256)) (w64 (k_7+1)) h_1 tail_3)
 else
  bif (decide (((tail_3.length+1)*1)≤140737488355328)) then
  k (.c1 bits_4 (w64 (i_5 - 1)) h_1 (tail_3++[(w8 (x_6.tmod 256))]))
  else none
 | .c3 at_10 tail_3 state_8 k_9=>
 bif (decide (at_10<(tail_3.length:Int))) then
  bif (((decide (0≤at_10)) && (decide (at_10≤(w64 (at_10+64))))) && (decide ((w64 (at_10+64))≤(tail_3.length:Int)))) then
  (z3 state_8 k_9 (ofBytes ((tail_3.drop at_10.toNat).take ((w64 (at_10+64)).toNat - at_10.toNat)))).bind fun r0=>
  k (.c3 (w64 (at_10+64)) tail_3 r0 k_9)
  else none
 else
  (z4 state_8).bind fun r1=>
  some r1
noncomputable def MZ:Nat→Bz→Option ByteArray
 | 0,_=>none
 | m+1,s=>Me Eb YZ Ie Tc Yb (MZ m) s
noncomputable def Dz:OAM:=PAM Eb YZ Ie Tc Yb (MZ gas)
theorem HAj:Tells ctx PP 89 cv4 cv3 (fun a=>Dz a):=
 have b:∀ z0 z1 z2 z3 z4,CutIs ctx PP 89 Tryz.f89 [] [(141,WAC z0),(142,Jp z1),(143,ZAC z2),(144,CAD z3),(145,Qy z4)] cv3 EAX (Me z0 z1 z2 z3 z4):=fun z0 z1 z2 z3 z4 _ s=>by cases s <;> kernel_rfl
 have e:∀ z0 z1 z2 z3 z4,EntryIs ctx PP 89 [] [(141,WAC z0),(142,Jp z1),(143,ZAC z2),(144,CAD z3),(145,Qy z4)] cv4 cv3 EAX (fun k a=>PAM z0 z1 z2 z3 z4 k a):=fun z0 z1 z2 z3 z4 _ a=>by kernel_rfl
 fn_ok (hc UAW (hc IAM (hc ZAW (hc CAX (hc DAM hl_nil))))) Tryz.func89 (fun s s' h=>by cases s <;> cases s' <;> first | ((repeat cases ‹SHasher›);cases h;done) | ((repeat cases ‹SHasher›);cases h;rfl) | exact (rg_ne h (by kernel_rfl)).elim) (fun _=>rfl) (fun _ _=>rfl) (b Eb YZ Ie Tc Yb) (e Eb YZ Ie Tc Yb) gas
noncomputable def IAj {γ:Type} (F:OAM):Hd ctx γ:=hdl cv4.dec (fun a=>F a) cv3.enc
abbrev Ai:=ByteArray→Option ByteArray
noncomputable def QAM (z0:EAM) (z1:MAM) (z2:OAM) (s_0:ByteArray):Option ByteArray:=
 z0.bind fun r0=>
 (z1 r0 s_0).bind fun r1=>
 (z2 r1).bind fun r2=>
 some r2
noncomputable def Aa:Ai:=QAM Ry Az Dz
theorem EAD:Tells ctx PP 26 cv3 cv3 (fun a=>Aa a):=fn_ok0 (hc ZAi (hc FAj (hc HAj hl_nil))) Tryz.func26 ((fun z0 z1 z2 a=>by kernel_rfl:∀ z0 z1 z2,EntryIs0 ctx PP 26 [] [(91,AAj z0),(90,GAj z1),(89,IAj z2)] cv3 cv3 fun a=>QAM z0 z1 z2 a) Ry Az Dz)
noncomputable def Wp {γ:Type} (F:Ai):Hd ctx γ:=hdl cv3.dec (fun a=>F a) cv3.enc
abbrev RAM:=Int→Int→Option ByteArray
inductive Ez where
 | c0 (n_0:Int) (x_1:Int) (i_6:Int) (out_5:(List Int))
noncomputable def FAX:Ez→LI
 | .c0 n_0 x_1 i_6 out_5=>(tdo Tryz.f97 464,[(0,[.one (.int .i64 n_0)]),(1,[.one (.int .u8 x_1)]),(5,[.one (.own 368)]),(6,[.one (.int .i64 i_6)])],[(368,.sl 5 out_5)])
noncomputable def SAM (k:Ez→Option ByteArray) (n_0:Int) (x_1:Int):Option ByteArray:=
 bif ((((decide (0≤n_0)) && (decide (n_0≤n_0))) && (decide (n_0≤9223372036854775807))) && (decide ((n_0.toNat*1)≤140737488355328))) then
 k (.c0 n_0 x_1 0 (List.replicate n_0.toNat (0:Int)))
 else none
noncomputable def FAD (k:Ez→Option ByteArray):Ez→Option ByteArray
 | .c0 n_0 x_1 i_6 out_5=>
 bif (decide (i_6<n_0)) then
  bif ((decide (0≤i_6)) && (decide (i_6<(out_5.length:Int)))) then
  k (.c0 n_0 x_1 (w64 (i_6+1)) (out_5.set i_6.toNat x_1))
  else none
 else
  some (ofBytes out_5)
noncomputable def Fz:Nat→Ez→Option ByteArray
 | 0,_=>none
 | m+1,s=>FAD (Fz m) s
noncomputable def Gz:RAM:=SAM (Fz gas)
theorem JAj:Tells ctx PP 97 cv13 cv3 (fun a=>Gz a.1 a.2):=
 have b:CutIs ctx PP 97 Tryz.f97 [] [] cv3 FAX (FAD):=fun _ s=>by cases s <;> kernel_rfl
 have e:EntryIs ctx PP 97 [] [] cv13 cv3 FAX (fun k a=>SAM k a.1 a.2):=fun _ a=>by kernel_rfl
 fn_ok hl_nil Tryz.func97 (fun s s' h=>by cases s;cases s';cases h;rfl) (fun _=>rfl) (fun _ _=>rfl) b e gas
noncomputable def KAj {γ:Type} (F:RAM):Hd ctx γ:=hdl cv13.dec (fun a=>F a.1 a.2) cv3.enc
abbrev Ci:=Option SBook
noncomputable def TAM (z0:Ai) (z1:RAM)  : Option SBook:=
 (z0 ⟨#[]⟩).bind fun r0=>
 (z1 32 0).bind fun r1=>
 some ⟨r0,0,[],0,r1,0⟩
noncomputable def Ba:Ci:=TAM Aa Gz
theorem GAD:Tells ctx PP 28 cv0 cv14 (fun _=>Ba):=fn_ok0 (hc EAD (hc JAj hl_nil)) Tryz.func28 ((fun z0 z1 _=>by kernel_rfl:∀ z0 z1,EntryIs0 ctx PP 28 [] [(26,Wp z0),(97,KAj z1)] cv0 cv14 fun _=>TAM z0 z1) Aa Gz)
noncomputable def Xp {γ:Type} (F:Ci):Hd ctx γ:=hdl cv0.dec (fun _=>F) cv14.enc
abbrev Yp:=SBook→Option SBook
noncomputable def UAM (b_0:SBook):Option SBook:=
 bif (decide (((0+b_0.fThings.length)*48)≤140737488355328)) then
 some ⟨b_0.fWord,b_0.fTries,([]++b_0.fThings),b_0.fLast,b_0.fChain,b_0.fCount⟩
 else none
noncomputable def Uc:Yp:=UAM
theorem GAX:Tells ctx PP 93 cv20 cv14 (fun a=>Uc a):=fn_ok0 hl_nil Tryz.func93 (fun a=>by kernel_rfl:EntryIs0 ctx PP 93 [] [] cv20 cv14 fun a=>UAM a)
noncomputable def IAD {γ:Type} (F:Yp):Hd ctx γ:=hdl cv20.dec (fun a=>F a) cv14.enc
abbrev Xc:=Int→Option ByteArray
inductive Hz where
 | c0 (n_0:Int) (out_3:(List Int))
noncomputable def HAX:Hz→LI
 | .c0 n_0 out_3=>(tdo Tryz.f147 224,[(0,[.one (.int .i64 n_0)]),(3,[.one (.own 240)])],[(240,.sl 5 out_3)])
noncomputable def IAX (k:Hz→Option ByteArray) (n_0:Int):Option ByteArray:=
 k (.c0 n_0 [])
noncomputable def JAD (k:Hz→Option ByteArray):Hz→Option ByteArray
 | .c0 n_0 out_3=>
 bif (decide (n_0 > 127)) then
  bif (decide (((out_3.length+1)*1)≤140737488355328)) then
  k (.c0 (w64 (n_0.tdiv 128)) (out_3++[(w8 (w64 ((n_0.tmod 128)+128)))]))
  else none
 else
  bif (decide (((out_3.length+1)*1)≤140737488355328)) then
  some (ofBytes (out_3++[(w8 n_0)]))
  else none
noncomputable def Iz:Nat→Hz→Option ByteArray
 | 0,_=>none
 | m+1,s=>JAD (Iz m) s
noncomputable def WY:Xc:=IAX (Iz gas)
theorem Ol:Tells ctx PP 147 cv15 cv3 (fun a=>WY a):=
 have b:CutIs ctx PP 147 Tryz.f147 [] [] cv3 HAX (JAD):=fun _ s=>by cases s <;> kernel_rfl
 have e:EntryIs ctx PP 147 [] [] cv15 cv3 HAX (fun k a=>IAX k a):=fun _ a=>by kernel_rfl
 fn_ok hl_nil Tryz.func147 (fun s s' h=>by cases s;cases s';cases h;rfl) (fun _=>rfl) (fun _ _=>rfl) b e gas
noncomputable def Fg {γ:Type} (F:Xc):Hd ctx γ:=hdl cv15.dec (fun a=>F a) cv3.enc
abbrev Jz:=SThing→Option Bool
noncomputable def VAM (z0:CZ) (x_0:SThing):Option Bool:=
 (z0 x_0.fId 1 1000).bind fun r0=>
 bif (!r0) then
 some false
 else
 (z0 x_0.fKind 1 3).bind fun r1=>
 bif (!r1) then
  some false
 else
  (z0 x_0.fNext 0 16).bind fun r2=>
  bif (!r2) then
  some false
  else
  bif (x_0.fKind != 2) then
   bif (x_0.fNext != 0) then
   some false
   else
   bif x_0.fSigns then
    some false
   else
    bif (x_0.fKind != 1) then
    bif x_0.fWraps then
     some false
    else
     bif (x_0.fKind == 3) then
     some (decide ((x_0.fValue.size:Int)≤100))
     else
     some ((x_0.fValue.size:Int) == 32)
    else
    bif (x_0.fKind == 3) then
     some (decide ((x_0.fValue.size:Int)≤100))
    else
     some ((x_0.fValue.size:Int) == 32)
  else
   bif (x_0.fKind != 1) then
   bif x_0.fWraps then
    some false
   else
    bif (x_0.fKind == 3) then
    some (decide ((x_0.fValue.size:Int)≤100))
    else
    some ((x_0.fValue.size:Int) == 32)
   else
   bif (x_0.fKind == 3) then
    some (decide ((x_0.fValue.size:Int)≤100))
   else
    some ((x_0.fValue.size:Int) == 32)
noncomputable def Gg:Jz:=VAM SX
theorem JAX:Tells ctx PP 120 cv16 cv6 (fun a=>Gg a):=fn_ok0 (hc Qc hl_nil) Tryz.func120 ((fun z0 a=>by kernel_rfl:∀ z0,EntryIs0 ctx PP 120 [] [(50,KZ z0)] cv16 cv6 fun a=>VAM z0 a) SX)
noncomputable def WAM {γ:Type} (F:Jz):Hd ctx γ:=hdl cv16.dec (fun a=>F a) cv6.enc
abbrev XAM:=Bool→Int→Option Int
noncomputable def KAX (x_0:Bool) (n_1:Int):Option Int:=
 bif x_0 then
 some n_1
 else
 some 0
noncomputable def KAD:XAM:=KAX
theorem LAj:Tells ctx PP 178 cv17 cv15 (fun a=>KAD a.1 a.2):=fn_ok0 hl_nil Tryz.func178 (fun a=>by kernel_rfl:EntryIs0 ctx PP 178 [] [] cv17 cv15 fun a=>KAX a.1 a.2)
noncomputable def MAj {γ:Type} (F:XAM):Hd ctx γ:=hdl cv17.dec (fun a=>F a.1 a.2) cv15.enc
abbrev Kz:=Int→Option ByteArray
noncomputable def YAM (n_0:Int):Option ByteArray:=
 bif (decide ((n_0.tmod 256)<0)) then
 some (ofBytes [(w8 (w64 ((n_0.tmod 256)+256)))])
 else
 some (ofBytes [(w8 (n_0.tmod 256))])
noncomputable def Hg:Kz:=YAM
theorem LAX:Tells ctx PP 179 cv15 cv3 (fun a=>Hg a):=fn_ok0 hl_nil Tryz.func179 (fun a=>by kernel_rfl:EntryIs0 ctx PP 179 [] [] cv15 cv3 fun a=>YAM a)
noncomputable def ZAM {γ:Type} (F:Kz):Hd ctx γ:=hdl cv15.dec (fun a=>F a) cv3.enc
abbrev AAN:=ByteArray→Option ByteArray
noncomputable def BAN (z0:Xc) (s_0:ByteArray):Option ByteArray:=
 (z0 (s_0.size:Int)).bind fun r0=>
 bif (decide ((r0.size+s_0.size)≤9223372036854775807)) then
 some (r0++s_0)
 else none
noncomputable def Nz:AAN:=BAN WY
theorem NAj:Tells ctx PP 180 cv3 cv3 (fun a=>Nz a):=fn_ok0 (hc Ol hl_nil) Tryz.func180 ((fun z0 a=>by kernel_rfl:∀ z0,EntryIs0 ctx PP 180 [] [(147,Fg z0)] cv3 cv3 fun a=>BAN z0 a) WY)
noncomputable def OAj {γ:Type} (F:AAN):Hd ctx γ:=hdl cv3.dec (fun a=>F a) cv3.enc
abbrev LAD:=SThing→Option (ByteArray×Bool)
noncomputable def DAN (z0:Jz) (z1:XAM) (z2:Xc) (z3:Kz) (z4:AAN) (x_0:SThing):Option (ByteArray×Bool):=
 (z0 x_0).bind fun r0=>
 bif (!r0) then
 some (⟨#[]⟩,false)
 else
 (z1 x_0.fHidden 1).bind fun r1=>
 (z1 x_0.fFixed 2).bind fun r2=>
 (z1 x_0.fSigns 4).bind fun r3=>
 (z1 x_0.fWraps 8).bind fun r4=>
 (z2 x_0.fId).bind fun r5=>
 (z3 x_0.fKind).bind fun r6=>
 bif (decide ((r5.size+r6.size)≤9223372036854775807)) then
 (z3 (w64 ((w64 ((w64 (r1+r2))+r3))+r4))).bind fun r7=>
 bif (decide (((r5++r6).size+r7.size)≤9223372036854775807)) then
 (z4 x_0.fValue).bind fun r8=>
 bif (decide ((((r5++r6)++r7).size+r8.size)≤9223372036854775807)) then
 (z2 x_0.fNext).bind fun r9=>
 bif (decide (((((r5++r6)++r7)++r8).size+r9.size)≤9223372036854775807)) then
 some (((((r5++r6)++r7)++r8)++r9),true)
 else none
 else none
 else none
 else none
noncomputable def Ql:LAD:=DAN Gg KAD WY Hg Nz
theorem MAX:Tells ctx PP 148 cv16 cv18 (fun a=>Ql a):=fn_ok0 (hc JAX (hc LAj (hc Ol (hc LAX (hc NAj hl_nil))))) Tryz.func148 ((fun z0 z1 z2 z3 z4 a=>by kernel_rfl:∀ z0 z1 z2 z3 z4,EntryIs0 ctx PP 148 [] [(120,WAM z0),(178,MAj z1),(147,Fg z2),(179,ZAM z3),(180,OAj z4)] cv16 cv18 fun a=>DAN z0 z1 z2 z3 z4 a) Gg KAD WY Hg Nz)
noncomputable def NAX {γ:Type} (F:LAD):Hd ctx γ:=hdl cv16.dec (fun a=>F a) cv18.enc
abbrev Oz:=SRec→Option (ByteArray×Bool)
noncomputable def EAN (z0:CZ) (z1:Xc) (z2:LAD) (r_0:SRec):Option (ByteArray×Bool):=
 bif (r_0.fKind == 1) then
 bif ((r_0.fText.size:Int) == 32) then
  bif (r_0.fNum == 0) then
  bif ((r_0.fThing.fId == 0) && ((r_0.fThing.fKind == 0) && ((r_0.fThing.fHidden == false) && ((r_0.fThing.fFixed == false) && ((r_0.fThing.fSigns == false) && ((r_0.fThing.fWraps == false) && (((ByteArray.toList r_0.fThing.fValue) == (ByteArray.toList ⟨#[]⟩)) && ((r_0.fThing.fNext == 0) && true)))))))) then
   bif (decide (((⟨#[1]⟩:ByteArray).size+r_0.fText.size)≤9223372036854775807)) then
   some (((⟨#[1]⟩:ByteArray)++r_0.fText),true)
   else none
  else
   some (⟨#[]⟩,false)
  else
  some (⟨#[]⟩,false)
 else
  some (⟨#[]⟩,false)
 else
 bif (r_0.fKind == 2) then
  bif ((ByteArray.toList r_0.fText) == (ByteArray.toList ⟨#[]⟩)) then
  bif ((r_0.fThing.fId == 0) && ((r_0.fThing.fKind == 0) && ((r_0.fThing.fHidden == false) && ((r_0.fThing.fFixed == false) && ((r_0.fThing.fSigns == false) && ((r_0.fThing.fWraps == false) && (((ByteArray.toList r_0.fThing.fValue) == (ByteArray.toList ⟨#[]⟩)) && ((r_0.fThing.fNext == 0) && true)))))))) then
   (z0 r_0.fNum 0 3).bind fun r0=>
   bif r0 then
   (z1 r_0.fNum).bind fun r1=>
   bif (decide (((⟨#[2]⟩:ByteArray).size+r1.size)≤9223372036854775807)) then
   some (((⟨#[2]⟩:ByteArray)++r1),true)
   else none
   else
   some (⟨#[]⟩,false)
  else
   some (⟨#[]⟩,false)
  else
  some (⟨#[]⟩,false)
 else
  bif (r_0.fKind == 3) then
  (z2 r_0.fThing).bind fun r2=>
  bif r2.2 then
   bif ((ByteArray.toList r_0.fText) == (ByteArray.toList ⟨#[]⟩)) then
   bif (r_0.fNum == 0) then
    bif (decide (((⟨#[3]⟩:ByteArray).size+r2.1.size)≤9223372036854775807)) then
    some (((⟨#[3]⟩:ByteArray)++r2.1),true)
    else none
   else
    some (⟨#[]⟩,false)
   else
   some (⟨#[]⟩,false)
  else
   some (⟨#[]⟩,false)
  else
  bif (r_0.fKind == 4) then
   bif ((ByteArray.toList r_0.fText) == (ByteArray.toList ⟨#[]⟩)) then
   bif ((r_0.fThing.fId == 0) && ((r_0.fThing.fKind == 0) && ((r_0.fThing.fHidden == false) && ((r_0.fThing.fFixed == false) && ((r_0.fThing.fSigns == false) && ((r_0.fThing.fWraps == false) && (((ByteArray.toList r_0.fThing.fValue) == (ByteArray.toList ⟨#[]⟩)) && ((r_0.fThing.fNext == 0) && true)))))))) then
    (z0 r_0.fNum 1 1000).bind fun r3=>
    bif r3 then
    (z1 r_0.fNum).bind fun r4=>
    bif (decide (((⟨#[4]⟩:ByteArray).size+r4.size)≤9223372036854775807)) then
    some (((⟨#[4]⟩:ByteArray)++r4),true)
    else none
    else
    some (⟨#[]⟩,false)
   else
    some (⟨#[]⟩,false)
   else
   some (⟨#[]⟩,false)
  else
   some (⟨#[]⟩,false)
noncomputable def Ig:Oz:=EAN SX WY Ql
theorem OAX:Tells ctx PP 92 cv19 cv18 (fun a=>Ig a):=fn_ok0 (hc Qc (hc Ol (hc MAX hl_nil))) Tryz.func92 ((fun z0 z1 z2 a=>by kernel_rfl:∀ z0 z1 z2,EntryIs0 ctx PP 92 [] [(50,KZ z0),(147,Fg z1),(148,NAX z2)] cv19 cv18 fun a=>EAN z0 z1 z2 a) SX WY Ql)
noncomputable def FAN {γ:Type} (F:Oz):Hd ctx γ:=hdl cv19.dec (fun a=>F a) cv18.enc
abbrev Zp:=SBook→Option Bool
inductive Pz where
 | c0 (i_3:Int) (b_1:SBook)
noncomputable def PAX:Pz→LI
 | .c0 i_3 b_1=>(tdo Tryz.f53 464,[(1,[.one (.ptr 64 0)]),(3,[.one (.int .i64 i_3)])],[(64,.var [.str b_1.fWord,.int .i64 b_1.fTries,.rsl 69 b_1.fThings,.int .i64 b_1.fLast,.str b_1.fChain,.int .i64 b_1.fCount])])
noncomputable def GAN (z0:CZ) (z1:Jz) (k:Pz→Option Bool) (b_0:SBook):Option Bool:=
 bif ((b_0.fWord.size:Int) != 32) then
 some false
 else
 bif ((b_0.fChain.size:Int) != 32) then
  some false
 else
  (z0 b_0.fTries 0 3).bind fun r0=>
  bif (!r0) then
  some false
  else
  bif (decide ((b_0.fThings.length:Int) > 8)) then
   some false
  else
   (z0 b_0.fLast 0 1000).bind fun r1=>
   bif (!r1) then
   some false
   else
   (z0 b_0.fCount 0 10000).bind fun r2=>
   bif (!r2) then
    some false
   else
    k (.c0 0 b_0)
noncomputable def MAD (z0:CZ) (z1:Jz) (k:Pz→Option Bool):Pz→Option Bool
 | .c0 i_3 b_1=>
 bif (decide (i_3<(b_1.fThings.length:Int))) then
  bif ((decide (0≤i_3)) && (decide (i_3<(b_1.fThings.length:Int)))) then
  (z1 (b_1.fThings.getD i_3.toNat (⟨0,0,false,false,false,false,⟨#[]⟩,0⟩:SThing))).bind fun r0=>
  bif (!r0) then
  some false
  else
  bif ((decide (0≤i_3)) && (decide (i_3<(b_1.fThings.length:Int)))) then
  bif (decide ((b_1.fThings.getD i_3.toNat (⟨0,0,false,false,false,false,⟨#[]⟩,0⟩:SThing)).fId > b_1.fLast)) then
   some false
  else
   bif (decide (i_3 > 0)) then
   bif ((decide (0≤(w64 (i_3 - 1)))) && (decide ((w64 (i_3 - 1))<(b_1.fThings.length:Int)))) then
   bif ((decide (0≤i_3)) && (decide (i_3<(b_1.fThings.length:Int)))) then
   bif (decide ((b_1.fThings.getD (w64 (i_3 - 1)).toNat (⟨0,0,false,false,false,false,⟨#[]⟩,0⟩:SThing)).fId≥(b_1.fThings.getD i_3.toNat (⟨0,0,false,false,false,false,⟨#[]⟩,0⟩:SThing)).fId)) then
    some false
   else
    k (.c0 (w64 (i_3+1)) b_1)
   else none
   else none
   else
   k (.c0 (w64 (i_3+1)) b_1)
  else none
  else none
 else
  some true
noncomputable def Rl:Nat→Pz→Option Bool
 | 0,_=>none
 | m+1,s=>MAD SX Gg (Rl m) s
noncomputable def Yc:Zp:=GAN SX Gg (Rl gas)
theorem QAX:Tells ctx PP 53 cv20 cv6 (fun a=>Yc a):=
 have b:∀ z0 z1,CutIs ctx PP 53 Tryz.f53 [] [(50,KZ z0),(120,WAM z1)] cv6 PAX (MAD z0 z1):=fun z0 z1 _ s=>by cases s <;> kernel_rfl
 have e:∀ z0 z1,EntryIs ctx PP 53 [] [(50,KZ z0),(120,WAM z1)] cv20 cv6 PAX (fun k a=>GAN z0 z1 k a):=fun z0 z1 _ a=>by kernel_rfl
 fn_ok (hc Qc (hc JAX hl_nil)) Tryz.func53 (fun s s' h=>by cases s;cases s';(repeat cases ‹SBook›);cases h;rfl) (fun _=>rfl) (fun _ _=>rfl) (b SX Gg) (e SX Gg) gas
noncomputable def NAD {γ:Type} (F:Zp):Hd ctx γ:=hdl cv20.dec (fun a=>F a) cv6.enc
abbrev Di:=SBook→Int→Option (SThing×Bool)
inductive Qz where
 | c0 (id_1:Int) (i_6:Int) (b_2:SBook) (v_4:SThing)
noncomputable def RAX:Qz→LI
 | .c0 id_1 i_6 b_2 v_4=>(tdo Tryz.f94 208,[(1,[.one (.int .i64 id_1)]),(2,[.one (.ptr 128 0)]),(4,[.one (.ptr 256 0)]),(6,[.one (.int .i64 i_6)])],[(128,.var [.str b_2.fWord,.int .i64 b_2.fTries,.rsl 69 b_2.fThings,.int .i64 b_2.fLast,.str b_2.fChain,.int .i64 b_2.fCount]),(256,.var [.int .i64 v_4.fId,.int .i64 v_4.fKind,.bool v_4.fHidden,.bool v_4.fFixed,.bool v_4.fSigns,.bool v_4.fWraps,.str v_4.fValue,.int .i64 v_4.fNext])])
noncomputable def SAX (k:Qz→Option (SThing×Bool)) (b_0:SBook) (id_1:Int):Option (SThing×Bool):=
 k (.c0 id_1 0 b_0 ⟨0,0,false,false,false,false,⟨#[]⟩,0⟩)
noncomputable def OAD (k:Qz→Option (SThing×Bool)):Qz→Option (SThing×Bool)
 | .c0 id_1 i_6 b_2 v_4=>
 bif (decide (i_6<(b_2.fThings.length:Int))) then
  bif ((decide (0≤i_6)) && (decide (i_6<(b_2.fThings.length:Int)))) then
  bif ((b_2.fThings.getD i_6.toNat (⟨0,0,false,false,false,false,⟨#[]⟩,0⟩:SThing)).fId == id_1) then
  bif ((decide (0≤i_6)) && (decide (i_6<(b_2.fThings.length:Int)))) then
  some ((b_2.fThings.getD i_6.toNat (⟨0,0,false,false,false,false,⟨#[]⟩,0⟩:SThing)),true)
  else none
  else
  k (.c0 id_1 (w64 (i_6+1)) b_2 v_4)
  else none
 else
  some (⟨0,0,false,false,false,false,⟨#[]⟩,0⟩,false)
noncomputable def Aq:Nat→Qz→Option (SThing×Bool)
 | 0,_=>none
 | m+1,s=>OAD (Aq m) s
noncomputable def Xa:Di:=SAX (Aq gas)
theorem HAN:Tells ctx PP 94 cv21 cv22 (fun a=>Xa a.1 a.2):=
 have b:CutIs ctx PP 94 Tryz.f94 [] [] cv22 RAX (OAD):=fun _ s=>by cases s <;> kernel_rfl
 have e:EntryIs ctx PP 94 [] [] cv21 cv22 RAX (fun k a=>SAX k a.1 a.2):=fun _ a=>by kernel_rfl
 fn_ok hl_nil Tryz.func94 (fun s s' h=>by cases s;cases s';(repeat cases ‹SBook›);(repeat cases ‹SThing›);cases h;rfl) (fun _=>rfl) (fun _ _=>rfl) b e gas
noncomputable def Bq {γ:Type} (F:Di):Hd ctx γ:=hdl cv21.dec (fun a=>F a.1 a.2) cv22.enc
abbrev PAD:=SThing→SThing→Option Bool
noncomputable def IAN (a_0:SThing) (b_1:SThing):Option Bool:=
 bif (a_0.fKind == b_1.fKind) then
 bif ((ByteArray.toList a_0.fValue) == (ByteArray.toList b_1.fValue)) then
  bif (a_0.fSigns == b_1.fSigns) then
  bif (a_0.fWraps == b_1.fWraps) then
   bif (decide (a_0.fNext≤b_1.fNext)) then
   bif b_1.fHidden then
    bif b_1.fFixed then
    some true
    else
    some (!a_0.fFixed)
   else
    bif (!a_0.fHidden) then
    bif b_1.fFixed then
     some true
    else
     some (!a_0.fFixed)
    else
    some false
   else
   some false
  else
   some false
  else
  some false
 else
  some false
 else
 some false
noncomputable def Sl:PAD:=IAN
theorem PAj:Tells ctx PP 95 cv23 cv6 (fun a=>Sl a.1 a.2):=fn_ok0 hl_nil Tryz.func95 (fun a=>by kernel_rfl:EntryIs0 ctx PP 95 [] [] cv23 cv6 fun a=>IAN a.1 a.2)
noncomputable def TAX {γ:Type} (F:PAD):Hd ctx γ:=hdl cv23.dec (fun a=>F a.1 a.2) cv6.enc
abbrev QAD:=(List SThing)→SThing→Option (List SThing)
inductive Rz where
 | c0 (list_0:(List SThing)) (i_6:Int) (x_3:SThing) (out_5:(List SThing))
 | c1 (list_0:(List SThing)) (i_7:Int) (x_3:SThing) (out_5:(List SThing))
noncomputable def UAX:Rz→LI
 | .c0 list_0 i_6 x_3 out_5=>(tdo Tryz.f96 464,[(0,[.one (.rsl 69 list_0)]),(3,[.one (.ptr 192 0)]),(5,[.one (.own 368)]),(6,[.one (.int .i64 i_6)])],[(192,.var [.int .i64 x_3.fId,.int .i64 x_3.fKind,.bool x_3.fHidden,.bool x_3.fFixed,.bool x_3.fSigns,.bool x_3.fWraps,.str x_3.fValue,.int .i64 x_3.fNext]),(368,.sl 69 out_5)])
 | .c1 list_0 i_7 x_3 out_5=>(tdo Tryz.f96 2000,[(0,[.one (.rsl 69 list_0)]),(3,[.one (.ptr 192 0)]),(5,[.one (.own 368)]),(7,[.one (.int .i64 i_7)])],[(192,.var [.int .i64 x_3.fId,.int .i64 x_3.fKind,.bool x_3.fHidden,.bool x_3.fFixed,.bool x_3.fSigns,.bool x_3.fWraps,.str x_3.fValue,.int .i64 x_3.fNext]),(368,.sl 69 out_5)])
noncomputable def JAN (k:Rz→Option (List SThing)) (list_0:(List SThing)) (x_1:SThing):Option (List SThing):=
 k (.c0 list_0 0 x_1 [])
noncomputable def Dq (k:Rz→Option (List SThing)):Rz→Option (List SThing)
 | .c0 list_0 i_6 x_3 out_5=>
 bif (decide (i_6<(list_0.length:Int))) then
  bif ((decide (0≤i_6)) && (decide (i_6<(list_0.length:Int)))) then
  bif (decide ((list_0.getD i_6.toNat (⟨0,0,false,false,false,false,⟨#[]⟩,0⟩:SThing)).fId<x_3.fId)) then
  bif ((decide (0≤i_6)) && (decide (i_6<(list_0.length:Int)))) then
  bif (decide (((out_5.length+1)*48)≤140737488355328)) then
  k (.c0 list_0 (w64 (i_6+1)) x_3 (out_5++[(list_0.getD i_6.toNat (⟨0,0,false,false,false,false,⟨#[]⟩,0⟩:SThing))]))
  else none
  else none
  else
  k (.c0 list_0 (w64 (i_6+1)) x_3 out_5)
  else none
 else
  bif (decide (((out_5.length+1)*48)≤140737488355328)) then
  k (.c1 list_0 0 x_3 (out_5++[x_3]))
  else none
 | .c1 list_0 i_7 x_3 out_5=>
 bif (decide (i_7<(list_0.length:Int))) then
  bif ((decide (0≤i_7)) && (decide (i_7<(list_0.length:Int)))) then
  bif (decide ((list_0.getD i_7.toNat (⟨0,0,false,false,false,false,⟨#[]⟩,0⟩:SThing)).fId > x_3.fId)) then
  bif ((decide (0≤i_7)) && (decide (i_7<(list_0.length:Int)))) then
  bif (decide (((out_5.length+1)*48)≤140737488355328)) then
  k (.c1 list_0 (w64 (i_7+1)) x_3 (out_5++[(list_0.getD i_7.toNat (⟨0,0,false,false,false,false,⟨#[]⟩,0⟩:SThing))]))
  else none
  else none
  else
  k (.c1 list_0 (w64 (i_7+1)) x_3 out_5)
  else none
 else
  some out_5
noncomputable def Jg:Nat→Rz→Option (List SThing)
 | 0,_=>none
 | m+1,s=>Dq (Jg m) s
noncomputable def Ul:QAD:=JAN (Jg gas)
theorem QAj:Tells ctx PP 96 cv24 cv25 (fun a=>Ul a.1 a.2):=
 have b:CutIs ctx PP 96 Tryz.f96 [] [] cv25 UAX (Dq):=fun _ s=>by cases s <;> kernel_rfl
 have e:EntryIs ctx PP 96 [] [] cv24 cv25 UAX (fun k a=>JAN k a.1 a.2):=fun _ a=>by kernel_rfl
 fn_ok hl_nil Tryz.func96 (fun s s' h=>by cases s <;> cases s' <;> first | ((repeat cases ‹SThing›);cases h;done) | ((repeat cases ‹SThing›);cases h;rfl) | exact (rg_ne h (by kernel_rfl)).elim) (fun _=>rfl) (fun _ _=>rfl) b e gas
noncomputable def VAX {γ:Type} (F:QAD):Hd ctx γ:=hdl cv24.dec (fun a=>F a.1 a.2) cv25.enc
abbrev Fq:=SBook→SRec→Option (SBook×Bool)
inductive Sz where
 | c0 (y_6:ByteArray) (v_14:Int) (A_2:SBook) (r_3:SRec) (r_4c0:ByteArray) (r_4c1:Int) (r_4c3:Int) (r_4c4:ByteArray) (r_4c5:Int) (v_8c0:ByteArray) (v_8c1:Int) (v_8c3:Int) (v_8c4:ByteArray) (v_8c5:Int) (v_13:(List SThing)) (r_4r2:(List SThing)) (v_8r2:(List SThing))
noncomputable def WAX:Sz→LI
 | .c0 y_6 v_14 A_2 r_3 r_4c0 r_4c1 r_4c3 r_4c4 r_4c5 v_8c0 v_8c1 v_8c3 v_8c4 v_8c5 v_13 r_4r2 v_8r2=>(tdo Tryz.f27 32898512,[(2,[.one (.ptr 128 0)]),(3,[.one (.ptr 192 0)]),(4,[.one (.ptr 256 0)]),(6,[.one (.str y_6)]),(8,[.one (.ptr 512 0)]),(13,[.one (.own 880)]),(14,[.one (.int .i64 v_14)])],[(128,.var [.str A_2.fWord,.int .i64 A_2.fTries,.rsl 69 A_2.fThings,.int .i64 A_2.fLast,.str A_2.fChain,.int .i64 A_2.fCount]),(192,.var [.int .i64 r_3.fKind,.str r_3.fText,.int .i64 r_3.fNum,.int .i64 r_3.fThing.fId,.int .i64 r_3.fThing.fKind,.bool r_3.fThing.fHidden,.bool r_3.fThing.fFixed,.bool r_3.fThing.fSigns,.bool r_3.fThing.fWraps,.str r_3.fThing.fValue,.int .i64 r_3.fThing.fNext]),(256,.var [.str r_4c0,.int .i64 r_4c1,.own 1016386,.int .i64 r_4c3,.str r_4c4,.int .i64 r_4c5]),(512,.var [.str v_8c0,.int .i64 v_8c1,.own 1032770,.int .i64 v_8c3,.str v_8c4,.int .i64 v_8c5]),(880,.sl 69 v_13),(1016386,.sl 69 r_4r2),(1032770,.sl 69 v_8r2)])
noncomputable def KAN (z0:Oz) (z1:Zp) (z2:Yp) (z3:Di) (z4:PAD) (z5:QAD) (z6:Ai) (k:Sz→Option (SBook×Bool)) (t_0:SBook) (o_1:SRec):Option (SBook×Bool):=
 (z0 o_1).bind fun r0=>
 (z1 t_0).bind fun r1=>
 bif (!r1) then
 some (⟨⟨#[]⟩,0,[],0,⟨#[]⟩,0⟩,false)
 else
 bif (!r0.2) then
  some (⟨⟨#[]⟩,0,[],0,⟨#[]⟩,0⟩,false)
 else
  bif (t_0.fCount == 10000) then
  some (⟨⟨#[]⟩,0,[],0,⟨#[]⟩,0⟩,false)
  else
  (z2 t_0).bind fun r2=>
  bif (o_1.fKind == 1) then
   bif (decide ((t_0.fChain.size+r0.1.size)≤9223372036854775807)) then
   (z6 (t_0.fChain++r0.1)).bind fun r3=>
   (z1 ⟨o_1.fText,0,r2.fThings,r2.fLast,r3,(w64 (t_0.fCount+1))⟩).bind fun r4=>
   bif (!r4) then
   some (⟨⟨#[]⟩,0,[],0,⟨#[]⟩,0⟩,false)
   else
   some (⟨o_1.fText,0,r2.fThings,r2.fLast,r3,(w64 (t_0.fCount+1))⟩,true)
   else none
  else
   bif (o_1.fKind == 2) then
   bif (decide ((t_0.fChain.size+r0.1.size)≤9223372036854775807)) then
   (z6 (t_0.fChain++r0.1)).bind fun r5=>
   (z1 ⟨r2.fWord,o_1.fNum,r2.fThings,r2.fLast,r5,(w64 (t_0.fCount+1))⟩).bind fun r6=>
   bif (!r6) then
    some (⟨⟨#[]⟩,0,[],0,⟨#[]⟩,0⟩,false)
   else
    some (⟨r2.fWord,o_1.fNum,r2.fThings,r2.fLast,r5,(w64 (t_0.fCount+1))⟩,true)
   else none
   else
   bif (o_1.fKind == 3) then
    (z3 t_0 o_1.fThing.fId).bind fun r7=>
    bif r7.2 then
    (z4 r7.1 o_1.fThing).bind fun r8=>
    bif (!r8) then
     some (⟨⟨#[]⟩,0,[],0,⟨#[]⟩,0⟩,false)
    else
     bif (!r7.2) then
     bif (o_1.fThing.fId != (w64 (t_0.fLast+1))) then
      some (⟨⟨#[]⟩,0,[],0,⟨#[]⟩,0⟩,false)
     else
      bif ((t_0.fThings.length:Int) == 8) then
      some (⟨⟨#[]⟩,0,[],0,⟨#[]⟩,0⟩,false)
      else
      bif (!r7.2) then
       (z5 t_0.fThings o_1.fThing).bind fun r9=>
       bif (decide ((t_0.fChain.size+r0.1.size)≤9223372036854775807)) then
       (z6 (t_0.fChain++r0.1)).bind fun r10=>
       (z1 ⟨r2.fWord,r2.fTries,r9,o_1.fThing.fId,r10,(w64 (t_0.fCount+1))⟩).bind fun r11=>
       bif (!r11) then
       some (⟨⟨#[]⟩,0,[],0,⟨#[]⟩,0⟩,false)
       else
       some (⟨r2.fWord,r2.fTries,r9,o_1.fThing.fId,r10,(w64 (t_0.fCount+1))⟩,true)
       else none
      else
       (z5 t_0.fThings o_1.fThing).bind fun r12=>
       bif (decide ((t_0.fChain.size+r0.1.size)≤9223372036854775807)) then
       (z6 (t_0.fChain++r0.1)).bind fun r13=>
       (z1 ⟨r2.fWord,r2.fTries,r12,r2.fLast,r13,(w64 (t_0.fCount+1))⟩).bind fun r14=>
       bif (!r14) then
       some (⟨⟨#[]⟩,0,[],0,⟨#[]⟩,0⟩,false)
       else
       some (⟨r2.fWord,r2.fTries,r12,r2.fLast,r13,(w64 (t_0.fCount+1))⟩,true)
       else none
     else
     bif (!r7.2) then
      (z5 t_0.fThings o_1.fThing).bind fun r15=>
      bif (decide ((t_0.fChain.size+r0.1.size)≤9223372036854775807)) then
      (z6 (t_0.fChain++r0.1)).bind fun r16=>
      (z1 ⟨r2.fWord,r2.fTries,r15,o_1.fThing.fId,r16,(w64 (t_0.fCount+1))⟩).bind fun r17=>
      bif (!r17) then
      some (⟨⟨#[]⟩,0,[],0,⟨#[]⟩,0⟩,false)
      else
      some (⟨r2.fWord,r2.fTries,r15,o_1.fThing.fId,r16,(w64 (t_0.fCount+1))⟩,true)
      else none
     else
      (z5 t_0.fThings o_1.fThing).bind fun r18=>
      bif (decide ((t_0.fChain.size+r0.1.size)≤9223372036854775807)) then
      (z6 (t_0.fChain++r0.1)).bind fun r19=>
      (z1 ⟨r2.fWord,r2.fTries,r18,r2.fLast,r19,(w64 (t_0.fCount+1))⟩).bind fun r20=>
      bif (!r20) then
      some (⟨⟨#[]⟩,0,[],0,⟨#[]⟩,0⟩,false)
      else
      some (⟨r2.fWord,r2.fTries,r18,r2.fLast,r19,(w64 (t_0.fCount+1))⟩,true)
      else none
    else
    bif (!r7.2) then
     bif (o_1.fThing.fId != (w64 (t_0.fLast+1))) then
     some (⟨⟨#[]⟩,0,[],0,⟨#[]⟩,0⟩,false)
     else
     bif ((t_0.fThings.length:Int) == 8) then
      some (⟨⟨#[]⟩,0,[],0,⟨#[]⟩,0⟩,false)
     else
      bif (!r7.2) then
      (z5 t_0.fThings o_1.fThing).bind fun r21=>
      bif (decide ((t_0.fChain.size+r0.1.size)≤9223372036854775807)) then
      (z6 (t_0.fChain++r0.1)).bind fun r22=>
      (z1 ⟨r2.fWord,r2.fTries,r21,o_1.fThing.fId,r22,(w64 (t_0.fCount+1))⟩).bind fun r23=>
      bif (!r23) then
       some (⟨⟨#[]⟩,0,[],0,⟨#[]⟩,0⟩,false)
      else
       some (⟨r2.fWord,r2.fTries,r21,o_1.fThing.fId,r22,(w64 (t_0.fCount+1))⟩,true)
      else none
      else
      (z5 t_0.fThings o_1.fThing).bind fun r24=>
      bif (decide ((t_0.fChain.size+r0.1.size)≤9223372036854775807)) then
      (z6 (t_0.fChain++r0.1)).bind fun r25=>
      (z1 ⟨r2.fWord,r2.fTries,r24,r2.fLast,r25,(w64 (t_0.fCount+1))⟩).bind fun r26=>
      bif (!r26) then
       some (⟨⟨#[]⟩,0,[],0,⟨#[]⟩,0⟩,false)
      else
       some (⟨r2.fWord,r2.fTries,r24,r2.fLast,r25,(w64 (t_0.fCount+1))⟩,true)
      else none
    else
     bif (!r7.2) then
     (z5 t_0.fThings o_1.fThing).bind fun r27=>
     bif (decide ((t_0.fChain.size+r0.1.size)≤9223372036854775807)) then
     (z6 (t_0.fChain++r0.1)).bind fun r28=>
     (z1 ⟨r2.fWord,r2.fTries,r27,o_1.fThing.fId,r28,(w64 (t_0.fCount+1))⟩).bind fun r29=>
     bif (!r29) then
      some (⟨⟨#[]⟩,0,[],0,⟨#[]⟩,0⟩,false)
     else
      some (⟨r2.fWord,r2.fTries,r27,o_1.fThing.fId,r28,(w64 (t_0.fCount+1))⟩,true)
     else none
     else
     (z5 t_0.fThings o_1.fThing).bind fun r30=>
     bif (decide ((t_0.fChain.size+r0.1.size)≤9223372036854775807)) then
     (z6 (t_0.fChain++r0.1)).bind fun r31=>
     (z1 ⟨r2.fWord,r2.fTries,r30,r2.fLast,r31,(w64 (t_0.fCount+1))⟩).bind fun r32=>
     bif (!r32) then
      some (⟨⟨#[]⟩,0,[],0,⟨#[]⟩,0⟩,false)
     else
      some (⟨r2.fWord,r2.fTries,r30,r2.fLast,r31,(w64 (t_0.fCount+1))⟩,true)
     else none
   else
    bif (o_1.fKind == 4) then
    (z3 t_0 o_1.fNum).bind fun r33=>
    bif (!r33.2) then
     some (⟨⟨#[]⟩,0,[],0,⟨#[]⟩,0⟩,false)
    else
     k (.c0 r0.1 0 t_0 o_1 ⟨#[]⟩ 0 0 ⟨#[]⟩ 0 r2.fWord r2.fTries r2.fLast r2.fChain r2.fCount [] [] r2.fThings)
    else
    bif (decide ((t_0.fChain.size+r0.1.size)≤9223372036854775807)) then
    (z6 (t_0.fChain++r0.1)).bind fun r34=>
    (z1 ⟨r2.fWord,r2.fTries,r2.fThings,r2.fLast,r34,(w64 (t_0.fCount+1))⟩).bind fun r35=>
    bif (!r35) then
     some (⟨⟨#[]⟩,0,[],0,⟨#[]⟩,0⟩,false)
    else
     some (⟨r2.fWord,r2.fTries,r2.fThings,r2.fLast,r34,(w64 (t_0.fCount+1))⟩,true)
    else none
noncomputable def RAD (z0:Oz) (z1:Zp) (z2:Yp) (z3:Di) (z4:PAD) (z5:QAD) (z6:Ai) (k:Sz→Option (SBook×Bool)):Sz→Option (SBook×Bool)
 | .c0 y_6 v_14 A_2 r_3 r_4c0 r_4c1 r_4c3 r_4c4 r_4c5 v_8c0 v_8c1 v_8c3 v_8c4 v_8c5 v_13 r_4r2 v_8r2=>
 bif (decide (v_14<(A_2.fThings.length:Int))) then
  bif ((decide (0≤v_14)) && (decide (v_14<(A_2.fThings.length:Int)))) then
  bif ((A_2.fThings.getD v_14.toNat (⟨0,0,false,false,false,false,⟨#[]⟩,0⟩:SThing)).fId != r_3.fNum) then
  bif ((decide (0≤v_14)) && (decide (v_14<(A_2.fThings.length:Int)))) then
  bif (decide (((v_13.length+1)*48)≤140737488355328)) then
  k (.c0 y_6 (w64 (v_14+1)) A_2 r_3 r_4c0 r_4c1 r_4c3 r_4c4 r_4c5 v_8c0 v_8c1 v_8c3 v_8c4 v_8c5 (v_13++[(A_2.fThings.getD v_14.toNat (⟨0,0,false,false,false,false,⟨#[]⟩,0⟩:SThing))]) r_4r2 v_8r2)
  else none
  else none
  else
  k (.c0 y_6 (w64 (v_14+1)) A_2 r_3 r_4c0 r_4c1 r_4c3 r_4c4 r_4c5 v_8c0 v_8c1 v_8c3 v_8c4 v_8c5 v_13 r_4r2 v_8r2)
  else none
 else
  bif (decide ((A_2.fChain.size+y_6.size)≤9223372036854775807)) then
  (z6 (A_2.fChain++y_6)).bind fun r0=>
  (z1 ⟨v_8c0,v_8c1,v_13,v_8c3,r0,(w64 (A_2.fCount+1))⟩).bind fun r1=>
  bif (!r1) then
  some (⟨⟨#[]⟩,0,[],0,⟨#[]⟩,0⟩,false)
  else
  some (⟨v_8c0,v_8c1,v_13,v_8c3,r0,(w64 (A_2.fCount+1))⟩,true)
  else none
noncomputable def Tz:Nat→Sz→Option (SBook×Bool)
 | 0,_=>none
 | m+1,s=>RAD Ig Yc Uc Xa Sl Ul Aa (Tz m) s
noncomputable def Ad:Fq:=KAN Ig Yc Uc Xa Sl Ul Aa (Tz gas)
theorem XAX:Tells ctx PP 27 cv26 cv27 (fun a=>Ad a.1 a.2):=
 have b:∀ z0 z1 z2 z3 z4 z5 z6,CutIs ctx PP 27 Tryz.f27 [] [(92,FAN z0),(53,NAD z1),(93,IAD z2),(94,Bq z3),(95,TAX z4),(96,VAX z5),(26,Wp z6)] cv27 WAX (RAD z0 z1 z2 z3 z4 z5 z6):=fun z0 z1 z2 z3 z4 z5 z6 _ s=>by cases s <;> kernel_rfl
 have e:∀ z0 z1 z2 z3 z4 z5 z6,EntryIs ctx PP 27 [] [(92,FAN z0),(53,NAD z1),(93,IAD z2),(94,Bq z3),(95,TAX z4),(96,VAX z5),(26,Wp z6)] cv26 cv27 WAX (fun k a=>KAN z0 z1 z2 z3 z4 z5 z6 k a.1 a.2):=fun z0 z1 z2 z3 z4 z5 z6 _ a=>by kernel_rfl
 fn_ok (hc OAX (hc QAX (hc GAX (hc HAN (hc PAj (hc QAj (hc EAD hl_nil))))))) Tryz.func27 (fun s s' h=>by cases s;cases s';(repeat cases ‹SBook›);(repeat cases ‹SRec›);(repeat cases ‹SThing›);cases h;rfl) (fun _=>rfl) (fun _ _=>rfl) (b Ig Yc Uc Xa Sl Ul Aa) (e Ig Yc Uc Xa Sl Ul Aa) gas
noncomputable def SAD {γ:Type} (F:Fq):Hd ctx γ:=hdl cv26.dec (fun a=>F a.1 a.2) cv27.enc
abbrev TAD:=SBook→(List SRec)→Option (SBook×Bool)
inductive Uz where
 | c0 (list_1:(List SRec)) (i_7:Int) (v_4c0:ByteArray) (v_4c1:Int) (v_4c3:Int) (v_4c4:ByteArray) (v_4c5:Int) (out_6c0:ByteArray) (out_6c1:Int) (out_6c3:Int) (out_6c4:ByteArray) (out_6c5:Int) (v_4r2:(List SThing)) (out_6r2:(List SThing))
noncomputable def YAX:Uz→LI
 | .c0 list_1 i_7 v_4c0 v_4c1 v_4c3 v_4c4 v_4c5 out_6c0 out_6c1 out_6c3 out_6c4 out_6c5 v_4r2 out_6r2=>(tdo Tryz.f69 464,[(1,[.one (.rsl 71 list_1)]),(4,[.one (.ptr 256 0)]),(6,[.one (.ptr 384 0)]),(7,[.one (.int .i64 i_7)])],[(256,.var [.str v_4c0,.int .i64 v_4c1,.own 1016386,.int .i64 v_4c3,.str v_4c4,.int .i64 v_4c5]),(384,.var [.str out_6c0,.int .i64 out_6c1,.own 1024578,.int .i64 out_6c3,.str out_6c4,.int .i64 out_6c5]),(1016386,.sl 69 v_4r2),(1024578,.sl 69 out_6r2)])
noncomputable def LAN (z0:Yp) (z1:Fq) (k:Uz→Option (SBook×Bool)) (b_0:SBook) (list_1:(List SRec)):Option (SBook×Bool):=
 (z0 b_0).bind fun r0=>
 k (.c0 list_1 0 ⟨#[]⟩ 0 0 ⟨#[]⟩ 0 r0.fWord r0.fTries r0.fLast r0.fChain r0.fCount [] r0.fThings)
noncomputable def UAD (z0:Yp) (z1:Fq) (k:Uz→Option (SBook×Bool)):Uz→Option (SBook×Bool)
 | .c0 list_1 i_7 v_4c0 v_4c1 v_4c3 v_4c4 v_4c5 out_6c0 out_6c1 out_6c3 out_6c4 out_6c5 v_4r2 out_6r2=>
 bif (decide (i_7<(list_1.length:Int))) then
  bif ((decide (0≤i_7)) && (decide (i_7<(list_1.length:Int)))) then
  (z1 ⟨out_6c0,out_6c1,out_6r2,out_6c3,out_6c4,out_6c5⟩ (list_1.getD i_7.toNat (⟨0,⟨#[]⟩,0,⟨0,0,false,false,false,false,⟨#[]⟩,0⟩⟩:SRec))).bind fun r0=>
  bif (!r0.2) then
  some (⟨⟨#[]⟩,0,[],0,⟨#[]⟩,0⟩,false)
  else
  k (.c0 list_1 (w64 (i_7+1)) v_4c0 v_4c1 v_4c3 v_4c4 v_4c5 r0.1.fWord r0.1.fTries r0.1.fLast r0.1.fChain r0.1.fCount v_4r2 r0.1.fThings)
  else none
 else
  some (⟨out_6c0,out_6c1,out_6r2,out_6c3,out_6c4,out_6c5⟩,true)
noncomputable def Vz:Nat→Uz→Option (SBook×Bool)
 | 0,_=>none
 | m+1,s=>UAD Uc Ad (Vz m) s
noncomputable def Vl:TAD:=LAN Uc Ad (Vz gas)
theorem ZAX:Tells ctx PP 69 cv113 cv27 (fun a=>Vl a.1 a.2):=
 have b:∀ z0 z1,CutIs ctx PP 69 Tryz.f69 [] [(93,IAD z0),(27,SAD z1)] cv27 YAX (UAD z0 z1):=fun z0 z1 _ s=>by cases s <;> kernel_rfl
 have e:∀ z0 z1,EntryIs ctx PP 69 [] [(93,IAD z0),(27,SAD z1)] cv113 cv27 YAX (fun k a=>LAN z0 z1 k a.1 a.2):=fun z0 z1 _ a=>by kernel_rfl
 fn_ok (hc GAX (hc XAX hl_nil)) Tryz.func69 (fun s s' h=>by cases s;cases s';cases h;rfl) (fun _=>rfl) (fun _ _=>rfl) (b Uc Ad) (e Uc Ad) gas
noncomputable def AAY {γ:Type} (F:TAD):Hd ctx γ:=hdl cv113.dec (fun a=>F a.1 a.2) cv27.enc
abbrev Xz:=SBook→SBook→Option Bool
inductive Yz where
 | c0 (i_5:Int) (a_2:SBook) (b_3:SBook)
noncomputable def BAY:Yz→LI
 | .c0 i_5 a_2 b_3=>(tdo Tryz.f51 464,[(2,[.one (.ptr 128 0)]),(3,[.one (.ptr 192 0)]),(5,[.one (.int .i64 i_5)])],[(128,.var [.str a_2.fWord,.int .i64 a_2.fTries,.rsl 69 a_2.fThings,.int .i64 a_2.fLast,.str a_2.fChain,.int .i64 a_2.fCount]),(192,.var [.str b_3.fWord,.int .i64 b_3.fTries,.rsl 69 b_3.fThings,.int .i64 b_3.fLast,.str b_3.fChain,.int .i64 b_3.fCount])])
noncomputable def MAN (k:Yz→Option Bool) (a_0:SBook) (b_1:SBook):Option Bool:=
 bif (!((ByteArray.toList a_0.fWord) == (ByteArray.toList b_1.fWord))) then
 some false
 else
 bif (a_0.fTries != b_1.fTries) then
  some false
 else
  bif (a_0.fLast != b_1.fLast) then
  some false
  else
  bif (!((ByteArray.toList a_0.fChain) == (ByteArray.toList b_1.fChain))) then
   some false
  else
   bif (a_0.fCount != b_1.fCount) then
   some false
   else
   bif ((a_0.fThings.length:Int) != (b_1.fThings.length:Int)) then
    some false
   else
    k (.c0 0 a_0 b_1)
noncomputable def VAD (k:Yz→Option Bool):Yz→Option Bool
 | .c0 i_5 a_2 b_3=>
 bif (decide (i_5<(a_2.fThings.length:Int))) then
  bif ((decide (0≤i_5)) && (decide (i_5<(a_2.fThings.length:Int)))) then
  bif ((decide (0≤i_5)) && (decide (i_5<(b_3.fThings.length:Int)))) then
  bif (!(((a_2.fThings.getD i_5.toNat (⟨0,0,false,false,false,false,⟨#[]⟩,0⟩:SThing)).fId == (b_3.fThings.getD i_5.toNat (⟨0,0,false,false,false,false,⟨#[]⟩,0⟩:SThing)).fId) && (((a_2.fThings.getD i_5.toNat (⟨0,0,false,false,false,false,⟨#[]⟩,0⟩:SThing)).fKind == (b_3.fThings.getD i_5.toNat (⟨0,0,false,false,false,false,⟨#[]⟩,0⟩:SThing)).fKind) && (((a_2.fThings.getD i_5.toNat (⟨0,0,false,false,false,false,⟨#[]⟩,0⟩:SThing)).fHidden == (b_3.fThings.getD i_5.toNat (⟨0,0,false,false,false,false,⟨#[]⟩,0⟩:SThing)).fHidden) && (((a_2.fThings.getD i_5.toNat (⟨0,0,false,false,false,false,⟨#[]⟩,0⟩:SThing)).fFixed == (b_3.fThings.getD i_5.toNat (⟨0,0,false,false,false,false,⟨#[]⟩,0⟩:SThing)).fFixed) && (((a_2.fThings.getD i_5.toNat (⟨0,0,false,false,false,false,⟨#[]⟩,0⟩:SThing)).fSigns == (b_3.fThings.getD i_5.toNat (⟨0,0,false,false,false,false,⟨#[]⟩,0⟩:SThing)).fSigns) && (((a_2.fThings.getD i_5.toNat (⟨0,0,false,false,false,false,⟨#[]⟩,0⟩:SThing)).fWraps == (b_3.fThings.getD i_5.toNat (⟨0,0,false,false,false,false,⟨#[]⟩,0⟩:SThing)).fWraps) && (((ByteArray.toList (a_2.fThings.getD i_5.toNat (⟨0,0,false,false,false,false,⟨#[]⟩,0⟩:SThing)).fValue) == (ByteArray.toList (b_3.fThings.getD i_5.toNat (⟨0,0,false,false,false,false,⟨#[]⟩,0⟩:SThing)).fValue)) && (((a_2.fThings.getD i_5.toNat (⟨0,0,false,false,false,false,⟨#[]⟩,0⟩:SThing)).fNext == (b_3.fThings.getD i_5.toNat (⟨0,0,false,false,false,false,⟨#[]⟩,0⟩:SThing)).fNext) && true))))))))) then
  some false
  else
  k (.c0 (w64 (i_5+1)) a_2 b_3)
  else none
  else none
 else
  some true
noncomputable def Zz:Nat→Yz→Option Bool
 | 0,_=>none
 | m+1,s=>VAD (Zz m) s
noncomputable def Og:Xz:=MAN (Zz gas)
theorem CAY:Tells ctx PP 51 cv58 cv6 (fun a=>Og a.1 a.2):=
 have b:CutIs ctx PP 51 Tryz.f51 [] [] cv6 BAY (VAD):=fun _ s=>by cases s <;> kernel_rfl
 have e:EntryIs ctx PP 51 [] [] cv58 cv6 BAY (fun k a=>MAN k a.1 a.2):=fun _ a=>by kernel_rfl
 fn_ok hl_nil Tryz.func51 (fun s s' h=>by cases s;cases s';(repeat cases ‹SBook›);cases h;rfl) (fun _=>rfl) (fun _ _=>rfl) b e gas
noncomputable def NAN {γ:Type} (F:Xz):Hd ctx γ:=hdl cv58.dec (fun a=>F a.1 a.2) cv6.enc
abbrev WAD:=ByteArray→Option Bool
noncomputable def OAN (z0:CZ) (s_0:ByteArray):Option Bool:=
 (z0 (s_0.size:Int) 1 8).bind fun r0=>
 some r0
noncomputable def Wl:WAD:=OAN SX
theorem RAj:Tells ctx PP 116 cv3 cv6 (fun a=>Wl a):=fn_ok0 (hc Qc hl_nil) Tryz.func116 ((fun z0 a=>by kernel_rfl:∀ z0,EntryIs0 ctx PP 116 [] [(50,KZ z0)] cv3 cv6 fun a=>OAN z0 a) SX)
noncomputable def EAY {γ:Type} (F:WAD):Hd ctx γ:=hdl cv3.dec (fun a=>F a) cv6.enc
abbrev O0:=SDisk→Option Bool
inductive U0 where
 | c0 (i_3:Int) (d_1:SDisk)
noncomputable def FAY:U0→LI
 | .c0 i_3 d_1=>(tdo Tryz.f49 464,[(1,[.one (.ptr 64 0)]),(3,[.one (.int .i64 i_3)])],[(64,.var [.rsl 155 d_1.fFiles])])
noncomputable def PAN (z0:WAD) (z1:CZ) (k:U0→Option Bool) (d_0:SDisk):Option Bool:=
 bif (decide ((d_0.fFiles.length:Int) > 30)) then
 some false
 else
 k (.c0 0 d_0)
noncomputable def XAD (z0:WAD) (z1:CZ) (k:U0→Option Bool):U0→Option Bool
 | .c0 i_3 d_1=>
 bif (decide (i_3<(d_1.fFiles.length:Int))) then
  bif ((decide (0≤i_3)) && (decide (i_3<(d_1.fFiles.length:Int)))) then
  (z0 (d_1.fFiles.getD i_3.toNat (⟨⟨#[]⟩,⟨#[]⟩,0⟩:SFile)).fName).bind fun r0=>
  bif (!r0) then
  some false
  else
  bif (decide (((d_1.fFiles.getD i_3.toNat (⟨⟨#[]⟩,⟨#[]⟩,0⟩:SFile)).fText.size:Int) > 20000)) then
   some false
  else
   (z1 (d_1.fFiles.getD i_3.toNat (⟨⟨#[]⟩,⟨#[]⟩,0⟩:SFile)).fKept 0 ((d_1.fFiles.getD i_3.toNat (⟨⟨#[]⟩,⟨#[]⟩,0⟩:SFile)).fText.size:Int)).bind fun r1=>
   bif (!r1) then
   some false
   else
   bif (decide (i_3 > 0)) then
    bif ((decide (0≤(w64 (i_3 - 1)))) && (decide ((w64 (i_3 - 1))<(d_1.fFiles.length:Int)))) then
    bif (!(Op.bytesLess (ByteArray.toList (d_1.fFiles.getD (w64 (i_3 - 1)).toNat (⟨⟨#[]⟩,⟨#[]⟩,0⟩:SFile)).fName) (ByteArray.toList (d_1.fFiles.getD i_3.toNat (⟨⟨#[]⟩,⟨#[]⟩,0⟩:SFile)).fName))) then
    some false
    else
    k (.c0 (w64 (i_3+1)) d_1)
    else none
   else
    k (.c0 (w64 (i_3+1)) d_1)
  else none
 else
  some true
noncomputable def X0:Nat→U0→Option Bool
 | 0,_=>none
 | m+1,s=>XAD Wl SX (X0 m) s
noncomputable def Pg:O0:=PAN Wl SX (X0 gas)
theorem GAY:Tells ctx PP 49 cv35 cv6 (fun a=>Pg a):=
 have b:∀ z0 z1,CutIs ctx PP 49 Tryz.f49 [] [(116,EAY z0),(50,KZ z1)] cv6 FAY (XAD z0 z1):=fun z0 z1 _ s=>by cases s <;> kernel_rfl
 have e:∀ z0 z1,EntryIs ctx PP 49 [] [(116,EAY z0),(50,KZ z1)] cv35 cv6 FAY (fun k a=>PAN z0 z1 k a):=fun z0 z1 _ a=>by kernel_rfl
 fn_ok (hc RAj (hc Qc hl_nil)) Tryz.func49 (fun s s' h=>by cases s;cases s';(repeat cases ‹SDisk›);cases h;rfl) (fun _=>rfl) (fun _ _=>rfl) (b Wl SX) (e Wl SX) gas
noncomputable def QAN {γ:Type} (F:O0):Hd ctx γ:=hdl cv35.dec (fun a=>F a) cv6.enc
abbrev YAD:=SDisk→ByteArray→Option Int
inductive Y0 where
 | c0 (name_1:ByteArray) (i_5:Int) (d_2:SDisk)
noncomputable def HAY:Y0→LI
 | .c0 name_1 i_5 d_2=>(tdo Tryz.f119 208,[(1,[.one (.str name_1)]),(2,[.one (.ptr 128 0)]),(5,[.one (.int .i64 i_5)])],[(128,.var [.rsl 155 d_2.fFiles])])
noncomputable def SAN (k:Y0→Option Int) (d_0:SDisk) (name_1:ByteArray):Option Int:=
 k (.c0 name_1 0 d_0)
noncomputable def ZAD (k:Y0→Option Int):Y0→Option Int
 | .c0 name_1 i_5 d_2=>
 bif (decide (i_5<(d_2.fFiles.length:Int))) then
  bif ((decide (0≤i_5)) && (decide (i_5<(d_2.fFiles.length:Int)))) then
  bif ((ByteArray.toList (d_2.fFiles.getD i_5.toNat (⟨⟨#[]⟩,⟨#[]⟩,0⟩:SFile)).fName) == (ByteArray.toList name_1)) then
  some i_5
  else
  k (.c0 name_1 (w64 (i_5+1)) d_2)
  else none
 else
  some (-(1:Int))
noncomputable def O1:Nat→Y0→Option Int
 | 0,_=>none
 | m+1,s=>ZAD (O1 m) s
noncomputable def Xl:YAD:=SAN (O1 gas)
theorem IAY:Tells ctx PP 119 cv36 cv15 (fun a=>Xl a.1 a.2):=
 have b:CutIs ctx PP 119 Tryz.f119 [] [] cv15 HAY (ZAD):=fun _ s=>by cases s <;> kernel_rfl
 have e:EntryIs ctx PP 119 [] [] cv36 cv15 HAY (fun k a=>SAN k a.1 a.2):=fun _ a=>by kernel_rfl
 fn_ok hl_nil Tryz.func119 (fun s s' h=>by cases s;cases s';(repeat cases ‹SDisk›);cases h;rfl) (fun _=>rfl) (fun _ _=>rfl) b e gas
noncomputable def JAY {γ:Type} (F:YAD):Hd ctx γ:=hdl cv36.dec (fun a=>F a.1 a.2) cv15.enc
abbrev TAN:=SDisk→ByteArray→Option (ByteArray×Bool)
noncomputable def UAN (z0:YAD) (d_0:SDisk) (name_1:ByteArray):Option (ByteArray×Bool):=
 (z0 d_0 name_1).bind fun r0=>
 bif (decide (r0<0)) then
 some (⟨#[]⟩,false)
 else
 bif ((decide (0≤r0)) && (decide (r0<(d_0.fFiles.length:Int)))) then
 some ((d_0.fFiles.getD r0.toNat (⟨⟨#[]⟩,⟨#[]⟩,0⟩:SFile)).fText,true)
 else none
noncomputable def U1:TAN:=UAN Xl
theorem SAj:Tells ctx PP 117 cv36 cv18 (fun a=>U1 a.1 a.2):=fn_ok0 (hc IAY hl_nil) Tryz.func117 ((fun z0 a=>by kernel_rfl:∀ z0,EntryIs0 ctx PP 117 [] [(119,JAY z0)] cv36 cv18 fun a=>UAN z0 a.1 a.2) Xl)
noncomputable def TAj {γ:Type} (F:TAN):Hd ctx γ:=hdl cv36.dec (fun a=>F a.1 a.2) cv18.enc
abbrev Y1:=ByteArray→Int→Option (Int×Int×Bool)
inductive U2 where
 | c0 (text_0:ByteArray) (at_1:Int) (n_7:Int) (scale_8:Int) (i_9:Int)
noncomputable def KAY:U2→LI
 | .c0 text_0 at_1 n_7 scale_8 i_9=>(tdo Tryz.f196 2000,[(0,[.one (.str text_0)]),(1,[.one (.int .i64 at_1)]),(7,[.one (.int .i64 n_7)]),(8,[.one (.int .i64 scale_8)]),(9,[.one (.int .i64 i_9)])],[])
noncomputable def Y2 (z0:CZ) (z1:Xc) (k:U2→Option (Int×Int×Bool)) (text_0:ByteArray) (at_1:Int):Option (Int×Int×Bool):=
 (z0 at_1 0 (text_0.size:Int)).bind fun r0=>
 bif (!r0) then
 some (0,(0,false))
 else
 k (.c0 text_0 at_1 0 1 at_1)
noncomputable def AAE (z0:CZ) (z1:Xc) (k:U2→Option (Int×Int×Bool)):U2→Option (Int×Int×Bool)
 | .c0 text_0 at_1 n_7 scale_8 i_9=>
 bif (decide (i_9<(text_0.size:Int))) then
  bif (decide (i_9<(w64 (at_1+5)))) then
  bif ((decide (0≤i_9)) && (decide (i_9<(text_0.size:Int)))) then
  bif ((decide (0≤i_9)) && (decide (i_9<(text_0.size:Int)))) then
  bif (decide ((bt text_0 i_9)<128)) then
   bif (decide ((w64 (n_7+(w64 (((w64 (bt text_0 i_9)).tmod 128)*scale_8)))) > 1000000000)) then
   some (0,(0,false))
   else
   (z1 (w64 (n_7+(w64 (((w64 (bt text_0 i_9)).tmod 128)*scale_8))))).bind fun r0=>
   bif (((decide (0≤at_1)) && (decide (at_1≤(w64 (i_9+1))))) && (decide ((w64 (i_9+1))≤(text_0.size:Int)))) then
   bif (!((ByteArray.toList r0) == (ByteArray.toList (text_0.extract at_1.toNat (w64 (i_9+1)).toNat)))) then
    some (0,(0,false))
   else
    some ((w64 (n_7+(w64 (((w64 (bt text_0 i_9)).tmod 128)*scale_8)))),((w64 (i_9+1)),true))
   else none
  else
   k (.c0 text_0 at_1 (w64 (n_7+(w64 (((w64 (bt text_0 i_9)).tmod 128)*scale_8)))) (w64 (scale_8*128)) (w64 (i_9+1)))
  else none
  else none
  else
  some (0,(0,false))
 else
  some (0,(0,false))
noncomputable def Oe:Nat→U2→Option (Int×Int×Bool)
 | 0,_=>none
 | m+1,s=>AAE SX WY (Oe m) s
noncomputable def Ea:Y1:=Y2 SX WY (Oe gas)
theorem NAY:Tells ctx PP 196 cv7 cv105 (fun a=>Ea a.1 a.2):=
 have b:∀ z0 z1,CutIs ctx PP 196 Tryz.f196 [] [(50,KZ z0),(147,Fg z1)] cv105 KAY (AAE z0 z1):=fun z0 z1 _ s=>by cases s <;> kernel_rfl
 have e:∀ z0 z1,EntryIs ctx PP 196 [] [(50,KZ z0),(147,Fg z1)] cv7 cv105 KAY (fun k a=>Y2 z0 z1 k a.1 a.2):=fun z0 z1 _ a=>by kernel_rfl
 fn_ok (hc Qc (hc Ol hl_nil)) Tryz.func196 (fun s s' h=>by cases s;cases s';cases h;rfl) (fun _=>rfl) (fun _ _=>rfl) (b SX WY) (e SX WY) gas
noncomputable def VAN {γ:Type} (F:Y1):Hd ctx γ:=hdl cv7.dec (fun a=>F a.1 a.2) cv105.enc
abbrev WAN:=Int→ByteArray→Option Int
inductive J3 where
 | c0 (sum_0:Int) (text_1:ByteArray) (i_5:Int)
 | c1 (sum_0:Int) (text_1:ByteArray) (i_5:Int) (k_6:Int)
noncomputable def OAY:J3→LI
 | .c0 sum_0 text_1 i_5=>(tdo Tryz.f206 208,[(0,[.one (.int .u32 sum_0)]),(1,[.one (.str text_1)]),(5,[.one (.int .i64 i_5)])],[])
 | .c1 sum_0 text_1 i_5 k_6=>(tdo Tryz.f206 26928,[(0,[.one (.int .u32 sum_0)]),(1,[.one (.str text_1)]),(5,[.one (.int .i64 i_5)]),(6,[.one (.int .i64 k_6)])],[])
noncomputable def XAN (k:J3→Option Int) (sum_0:Int) (text_1:ByteArray):Option Int:=
 k (.c0 sum_0 text_1 0)
noncomputable def Gq (k:J3→Option Int):J3→Option Int
 | .c0 sum_0 text_1 i_5=>
 bif (decide (i_5<(text_1.size:Int))) then
  bif ((decide (0≤i_5)) && (decide (i_5<(text_1.size:Int)))) then
  k (.c1 (w32 (((BitVec.toNat ((BitVec.ofInt (IntKind.bits IntKind.u32) sum_0) ^^^ (BitVec.ofInt (IntKind.bits IntKind.u32) (w32 (bt text_1 i_5))))):Nat):Int)) text_1 i_5 0)
  else none
 else
  some sum_0
 | .c1 sum_0 text_1 i_5 k_6=>
 bif (decide (k_6<8)) then
  bif ((sum_0.tmod 2) == 1) then
  k (.c1 (w32 (((BitVec.toNat ((BitVec.ofInt (IntKind.bits IntKind.u32) (w32 (sum_0.tdiv 2))) ^^^ (BitVec.ofInt (IntKind.bits IntKind.u32) 3558460437))):Nat):Int)) text_1 i_5 (w64 (k_6+1)))
  else
  k (.c1 (w32 (sum_0.tdiv 2)) text_1 i_5 (w64 (k_6+1)))
 else
  k (.c0 sum_0 text_1 (w64 (i_5+1)))
noncomputable def Qg:Nat→J3→Option Int
 | 0,_=>none
 | m+1,s=>Gq (Qg m) s
noncomputable def O3:WAN:=XAN (Qg gas)
theorem UAj:Tells ctx PP 206 cv32 cv8 (fun a=>O3 a.1 a.2):=
 have b:CutIs ctx PP 206 Tryz.f206 [] [] cv8 OAY (Gq):=fun _ s=>by cases s <;> kernel_rfl
 have e:EntryIs ctx PP 206 [] [] cv32 cv8 OAY (fun k a=>XAN k a.1 a.2):=fun _ a=>by kernel_rfl
 fn_ok hl_nil Tryz.func206 (fun s s' h=>by cases s <;> cases s' <;> first | (cases h;done) | (cases h;rfl) | exact (rg_ne h (by kernel_rfl)).elim) (fun _=>rfl) (fun _ _=>rfl) b e gas
noncomputable def VAj {γ:Type} (F:WAN):Hd ctx γ:=hdl cv32.dec (fun a=>F a.1 a.2) cv8.enc
abbrev YAN:=ByteArray→Option Int
noncomputable def ZAN (z0:WAN) (text_0:ByteArray):Option Int:=
 (z0 4294967295 text_0).bind fun r0=>
 some r0
noncomputable def U3:YAN:=ZAN O3
theorem WAj:Tells ctx PP 185 cv3 cv8 (fun a=>U3 a):=fn_ok0 (hc UAj hl_nil) Tryz.func185 ((fun z0 a=>by kernel_rfl:∀ z0,EntryIs0 ctx PP 185 [] [(206,VAj z0)] cv3 cv8 fun a=>ZAN z0 a) O3)
noncomputable def XAj {γ:Type} (F:YAN):Hd ctx γ:=hdl cv3.dec (fun a=>F a) cv8.enc
abbrev AAO:=Int→Option ByteArray
noncomputable def BAO (x_0:Int):Option ByteArray:=
 some (ofBytes [(w8 (Int.fdiv x_0 (2 ^ (Min.min (24:Int).toNat (IntKind.bits IntKind.u32))))),(w8 (Int.fdiv x_0 (2 ^ (Min.min (16:Int).toNat (IntKind.bits IntKind.u32))))),(w8 (Int.fdiv x_0 (2 ^ (Min.min (8:Int).toNat (IntKind.bits IntKind.u32))))),(w8 x_0)])
noncomputable def V3:AAO:=BAO
theorem YAj:Tells ctx PP 184 cv8 cv3 (fun a=>V3 a):=fn_ok0 hl_nil Tryz.func184 (fun a=>by kernel_rfl:EntryIs0 ctx PP 184 [] [] cv8 cv3 fun a=>BAO a)
noncomputable def ZAj {γ:Type} (F:AAO):Hd ctx γ:=hdl cv8.dec (fun a=>F a) cv3.enc
abbrev Hq:=ByteArray→Option (ByteArray×Bool)
noncomputable def CAO (z0:CZ) (z1:Xc) (z2:YAN) (z3:AAO) (text_0:ByteArray):Option (ByteArray×Bool):=
 (z0 (text_0.size:Int) 1 9000).bind fun r0=>
 bif (!r0) then
 some (⟨#[]⟩,false)
 else
 (z1 (text_0.size:Int)).bind fun r1=>
 (z2 text_0).bind fun r2=>
 (z3 r2).bind fun r3=>
 bif (decide ((r1.size+r3.size)≤9223372036854775807)) then
 bif (decide (((r1++r3).size+text_0.size)≤9223372036854775807)) then
 some (((r1++r3)++text_0),true)
 else none
 else none
noncomputable def Bd:Hq:=CAO SX WY U3 V3
theorem QAY:Tells ctx PP 150 cv3 cv18 (fun a=>Bd a):=fn_ok0 (hc Qc (hc Ol (hc WAj (hc YAj hl_nil)))) Tryz.func150 ((fun z0 z1 z2 z3 a=>by kernel_rfl:∀ z0 z1 z2 z3,EntryIs0 ctx PP 150 [] [(50,KZ z0),(147,Fg z1),(185,XAj z2),(184,ZAj z3)] cv3 cv18 fun a=>CAO z0 z1 z2 z3 a) SX WY U3 V3)
noncomputable def BAE {γ:Type} (F:Hq):Hd ctx γ:=hdl cv3.dec (fun a=>F a) cv18.enc
abbrev CAE:=ByteArray→Option ((List ByteArray)×Int)
inductive X3 where
 | c0 (file_0:ByteArray) (at_5:Int) (out_4:(List ByteArray))
noncomputable def RAY:X3→LI
 | .c0 file_0 at_5 out_4=>(tdo Tryz.f164 992,[(0,[.one (.str file_0)]),(4,[.one (.own 304)]),(5,[.one (.int .i64 at_5)])],[(304,.sl 9 out_4)])
noncomputable def DAO (z0:Y1) (z1:Hq) (k:X3→Option ((List ByteArray)×Int)) (file_0:ByteArray):Option ((List ByteArray)×Int):=
 bif (decide ((file_0.size:Int) > 20000)) then
 some ([],0)
 else
 k (.c0 file_0 0 [])
noncomputable def EAO (z0:Y1) (z1:Hq) (k:X3→Option ((List ByteArray)×Int)):X3→Option ((List ByteArray)×Int)
 | .c0 file_0 at_5 out_4=>
 bif (decide (at_5<(file_0.size:Int))) then
  (z0 file_0 at_5).bind fun r0=>
  bif (!r0.2.2) then
  some (out_4,at_5)
  else
  bif (decide (r0.1 > (w64 ((w64 ((file_0.size:Int) - r0.2.1)) - 4)))) then
   some (out_4,at_5)
  else
   bif (((decide (0≤(w64 (r0.2.1+4)))) && (decide ((w64 (r0.2.1+4))≤(w64 ((w64 (r0.2.1+4))+r0.1))))) && (decide ((w64 ((w64 (r0.2.1+4))+r0.1))≤(file_0.size:Int)))) then
   (z1 (file_0.extract (w64 (r0.2.1+4)).toNat (w64 ((w64 (r0.2.1+4))+r0.1)).toNat)).bind fun r1=>
   bif (!r1.2) then
   some (out_4,at_5)
   else
   bif (((decide (0≤at_5)) && (decide (at_5≤(w64 ((w64 (r0.2.1+4))+r0.1))))) && (decide ((w64 ((w64 (r0.2.1+4))+r0.1))≤(file_0.size:Int)))) then
   bif (!((ByteArray.toList r1.1) == (ByteArray.toList (file_0.extract at_5.toNat (w64 ((w64 (r0.2.1+4))+r0.1)).toNat)))) then
    some (out_4,at_5)
   else
    bif (decide (((out_4.length+1)*16)≤140737488355328)) then
    k (.c0 file_0 (w64 ((w64 (r0.2.1+4))+r0.1)) (out_4++[(file_0.extract (w64 (r0.2.1+4)).toNat (w64 ((w64 (r0.2.1+4))+r0.1)).toNat)]))
    else none
   else none
   else none
 else
  some (out_4,at_5)
noncomputable def DAE:Nat→X3→Option ((List ByteArray)×Int)
 | 0,_=>none
 | m+1,s=>EAO Ea Bd (DAE m) s
noncomputable def Yl:CAE:=DAO Ea Bd (DAE gas)
theorem AAk:Tells ctx PP 164 cv3 cv106 (fun a=>Yl a):=
 have b:∀ z0 z1,CutIs ctx PP 164 Tryz.f164 [] [(196,VAN z0),(150,BAE z1)] cv106 RAY (EAO z0 z1):=fun z0 z1 _ s=>by cases s <;> kernel_rfl
 have e:∀ z0 z1,EntryIs ctx PP 164 [] [(196,VAN z0),(150,BAE z1)] cv3 cv106 RAY (fun k a=>DAO z0 z1 k a):=fun z0 z1 _ a=>by kernel_rfl
 fn_ok (hc NAY (hc QAY hl_nil)) Tryz.func164 (fun s s' h=>by cases s;cases s';cases h;rfl) (fun _=>rfl) (fun _ _=>rfl) (b Ea Bd) (e Ea Bd) gas
noncomputable def TAY {γ:Type} (F:CAE):Hd ctx γ:=hdl cv3.dec (fun a=>F a) cv106.enc
abbrev FAO:=ByteArray→Int→Option ByteArray
inductive Y3 where
 | c0 (key_0:ByteArray) (x_1:Int) (i_6:Int) (out_5:(List Int))
noncomputable def UAY:Y3→LI
 | .c0 key_0 x_1 i_6 out_5=>(tdo Tryz.f216 976,[(0,[.one (.str key_0)]),(1,[.one (.int .u8 x_1)]),(5,[.one (.own 368)]),(6,[.one (.int .i64 i_6)])],[(368,.sl 5 out_5)])
noncomputable def GAO (z0:Ai) (k:Y3→Option ByteArray) (key_0:ByteArray) (x_1:Int):Option ByteArray:=
 bif (decide ((key_0.size:Int) > 64)) then
 (z0 key_0).bind fun r0=>
 k (.c0 r0 x_1 0 (List.replicate (64:Int).toNat (0:Int)))
 else
 k (.c0 key_0 x_1 0 (List.replicate (64:Int).toNat (0:Int)))
noncomputable def EAE (z0:Ai) (k:Y3→Option ByteArray):Y3→Option ByteArray
 | .c0 key_0 x_1 i_6 out_5=>
 bif (decide (i_6<64)) then
  bif (decide (i_6<(key_0.size:Int))) then
  bif ((decide (0≤i_6)) && (decide (i_6<(key_0.size:Int)))) then
  bif ((decide (0≤i_6)) && (decide (i_6<(out_5.length:Int)))) then
  bif ((decide (0≤i_6)) && (decide (i_6<((out_5.set i_6.toNat (bt key_0 i_6)).length:Int)))) then
  bif ((decide (0≤i_6)) && (decide (i_6<((out_5.set i_6.toNat (bt key_0 i_6)).length:Int)))) then
  k (.c0 key_0 x_1 (w64 (i_6+1)) ((out_5.set i_6.toNat (bt key_0 i_6)).set i_6.toNat (w8 (((BitVec.toNat ((BitVec.ofInt (IntKind.bits IntKind.u8) ((out_5.set i_6.toNat (bt key_0 i_6)).getD i_6.toNat 0)) ^^^ (BitVec.ofInt (IntKind.bits IntKind.u8) x_1))):Nat):Int))))
  else none
  else none
  else none
  else none
  else
  bif ((decide (0≤i_6)) && (decide (i_6<(out_5.length:Int)))) then
  bif ((decide (0≤i_6)) && (decide (i_6<(out_5.length:Int)))) then
  k (.c0 key_0 x_1 (w64 (i_6+1)) (out_5.set i_6.toNat (w8 (((BitVec.toNat ((BitVec.ofInt (IntKind.bits IntKind.u8) (out_5.getD i_6.toNat 0)) ^^^ (BitVec.ofInt (IntKind.bits IntKind.u8) x_1))):Nat):Int))))
  else none
  else none
 else
  some (ofBytes out_5)
noncomputable def Iq:Nat→Y3→Option ByteArray
 | 0,_=>none
 | m+1,s=>EAE Aa (Iq m) s
noncomputable def I4:FAO:=GAO Aa (Iq gas)
theorem BAk:Tells ctx PP 216 cv28 cv3 (fun a=>I4 a.1 a.2):=
 have b:∀ z0,CutIs ctx PP 216 Tryz.f216 [] [(26,Wp z0)] cv3 UAY (EAE z0):=fun z0 _ s=>by cases s <;> kernel_rfl
 have e:∀ z0,EntryIs ctx PP 216 [] [(26,Wp z0)] cv28 cv3 UAY (fun k a=>GAO z0 k a.1 a.2):=fun z0 _ a=>by kernel_rfl
 fn_ok (hc EAD hl_nil) Tryz.func216 (fun s s' h=>by cases s;cases s';cases h;rfl) (fun _=>rfl) (fun _ _=>rfl) (b Aa) (e Aa) gas
noncomputable def CAk {γ:Type} (F:FAO):Hd ctx γ:=hdl cv28.dec (fun a=>F a.1 a.2) cv3.enc
abbrev J4:=ByteArray→ByteArray→Option ByteArray
noncomputable def HAO (z0:FAO) (z1:Ai) (key_0:ByteArray) (s_1:ByteArray):Option ByteArray:=
 (z0 key_0 92).bind fun r0=>
 (z0 key_0 54).bind fun r1=>
 bif (decide ((r1.size+s_1.size)≤9223372036854775807)) then
 (z1 (r1++s_1)).bind fun r2=>
 bif (decide ((r0.size+r2.size)≤9223372036854775807)) then
 (z1 (r0++r2)).bind fun r3=>
 some r3
 else none
 else none
noncomputable def Ug:J4:=HAO I4 Aa
theorem VAY:Tells ctx PP 205 cv29 cv3 (fun a=>Ug a.1 a.2):=fn_ok0 (hc BAk (hc EAD hl_nil)) Tryz.func205 ((fun z0 z1 a=>by kernel_rfl:∀ z0 z1,EntryIs0 ctx PP 205 [] [(216,CAk z0),(26,Wp z1)] cv29 cv3 fun a=>HAO z0 z1 a.1 a.2) I4 Aa)
noncomputable def IAO {γ:Type} (F:J4):Hd ctx γ:=hdl cv29.dec (fun a=>F a.1 a.2) cv3.enc
abbrev JAO:=ByteArray→Int→Int→Option (ByteArray×Bool)
inductive O4 where
 | c0 (key_0:ByteArray) (num_1:Int) (n_2:Int) (i_9:Int) (out_8:(List Int))
noncomputable def XAY:O4→LI
 | .c0 key_0 num_1 n_2 i_9 out_8=>(tdo Tryz.f181 976,[(0,[.one (.str key_0)]),(1,[.one (.int .i64 num_1)]),(2,[.one (.int .i64 n_2)]),(8,[.one (.own 560)]),(9,[.one (.int .i64 i_9)])],[(560,.sl 5 out_8)])
noncomputable def KAO (z0:CZ) (z1:Xc) (z2:Kz) (z3:J4) (k:O4→Option (ByteArray×Bool)) (key_0:ByteArray) (num_1:Int) (n_2:Int):Option (ByteArray×Bool):=
 (z0 num_1 0 1000000000).bind fun r0=>
 bif (!r0) then
 some (⟨#[]⟩,false)
 else
 (z0 n_2 0 8000).bind fun r1=>
 bif (!r1) then
  some (⟨#[]⟩,false)
 else
  k (.c0 key_0 num_1 n_2 0 [])
noncomputable def FAE (z0:CZ) (z1:Xc) (z2:Kz) (z3:J4) (k:O4→Option (ByteArray×Bool)):O4→Option (ByteArray×Bool)
 | .c0 key_0 num_1 n_2 i_9 out_8=>
 bif (decide ((out_8.length:Int)<n_2)) then
  (z1 num_1).bind fun r0=>
  bif (decide (((⟨#[109]⟩:ByteArray).size+r0.size)≤9223372036854775807)) then
  (z2 i_9).bind fun r1=>
  bif (decide ((((⟨#[109]⟩:ByteArray)++r0).size+r1.size)≤9223372036854775807)) then
  (z3 key_0 (((⟨#[109]⟩:ByteArray)++r0)++r1)).bind fun r2=>
  bif (decide (r2.size≤9223372036854775807)) then
  bif (decide (((out_8.length+(bytesOf r2).length)*1)≤140737488355328)) then
  k (.c0 key_0 num_1 n_2 (w64 (i_9+1)) (out_8++(bytesOf r2)))
  else none
  else none
  else none
  else none
 else
  bif ((decide (0≤n_2)) && (decide (n_2≤(out_8.length:Int)))) then
  some ((ofBytes ((out_8.drop 0).take (n_2.toNat - 0))),true)
  else none
noncomputable def U4:Nat→O4→Option (ByteArray×Bool)
 | 0,_=>none
 | m+1,s=>FAE SX WY Hg Ug (U4 m) s
noncomputable def V4:JAO:=KAO SX WY Hg Ug (U4 gas)
theorem DAk:Tells ctx PP 181 cv30 cv18 (fun a=>V4 a.1 a.2.1 a.2.2):=
 have b:∀ z0 z1 z2 z3,CutIs ctx PP 181 Tryz.f181 [] [(50,KZ z0),(147,Fg z1),(179,ZAM z2),(205,IAO z3)] cv18 XAY (FAE z0 z1 z2 z3):=fun z0 z1 z2 z3 _ s=>by cases s <;> kernel_rfl
 have e:∀ z0 z1 z2 z3,EntryIs ctx PP 181 [] [(50,KZ z0),(147,Fg z1),(179,ZAM z2),(205,IAO z3)] cv30 cv18 XAY (fun k a=>KAO z0 z1 z2 z3 k a.1 a.2.1 a.2.2):=fun z0 z1 z2 z3 _ a=>by kernel_rfl
 fn_ok (hc Qc (hc Ol (hc LAX (hc VAY hl_nil)))) Tryz.func181 (fun s s' h=>by cases s;cases s';cases h;rfl) (fun _=>rfl) (fun _ _=>rfl) (b SX WY Hg Ug) (e SX WY Hg Ug) gas
noncomputable def EAk {γ:Type} (F:JAO):Hd ctx γ:=hdl cv30.dec (fun a=>F a.1 a.2.1 a.2.2) cv18.enc
abbrev LAO:=ByteArray→Int→ByteArray→Option ByteArray
noncomputable def MAO (z0:Xc) (z1:J4) (key_0:ByteArray) (num_1:Int) (s_2:ByteArray):Option ByteArray:=
 (z0 num_1).bind fun r0=>
 bif (decide (((⟨#[116]⟩:ByteArray).size+r0.size)≤9223372036854775807)) then
 bif (decide ((((⟨#[116]⟩:ByteArray)++r0).size+s_2.size)≤9223372036854775807)) then
 (z1 key_0 (((⟨#[116]⟩:ByteArray)++r0)++s_2)).bind fun r1=>
 bif ((decide ((0:Int)≤(16:Int))) && (decide (16≤(r1.size:Int)))) then
 some (r1.extract 0 (16:Int).toNat)
 else none
 else none
 else none
noncomputable def X4:LAO:=MAO WY Ug
theorem FAk:Tells ctx PP 183 cv31 cv3 (fun a=>X4 a.1 a.2.1 a.2.2):=fn_ok0 (hc Ol (hc VAY hl_nil)) Tryz.func183 ((fun z0 z1 a=>by kernel_rfl:∀ z0 z1,EntryIs0 ctx PP 183 [] [(147,Fg z0),(205,IAO z1)] cv31 cv3 fun a=>MAO z0 z1 a.1 a.2.1 a.2.2) WY Ug)
noncomputable def GAk {γ:Type} (F:LAO):Hd ctx γ:=hdl cv31.dec (fun a=>F a.1 a.2.1 a.2.2) cv3.enc
abbrev NAO:=ByteArray→ByteArray→Option Bool
noncomputable def OAO (a_0:ByteArray) (b_1:ByteArray):Option Bool:=
 some ((ByteArray.toList a_0) == (ByteArray.toList b_1))
noncomputable def GAE:NAO:=OAO
theorem HAk:Tells ctx PP 197 cv29 cv6 (fun a=>GAE a.1 a.2):=fn_ok0 hl_nil Tryz.func197 (fun a=>by kernel_rfl:EntryIs0 ctx PP 197 [] [] cv29 cv6 fun a=>OAO a.1 a.2)
noncomputable def IAk {γ:Type} (F:NAO):Hd ctx γ:=hdl cv29.dec (fun a=>F a.1 a.2) cv6.enc
abbrev PAO:=ByteArray→ByteArray→Option ByteArray
inductive Y4 where
 | c0 (b_1:ByteArray) (i_6:Int) (out_5:(List Int))
noncomputable def YAY:Y4→LI
 | .c0 b_1 i_6 out_5=>(tdo Tryz.f182 464,[(1,[.one (.str b_1)]),(5,[.one (.own 368)]),(6,[.one (.int .i64 i_6)])],[(368,.sl 5 out_5)])
noncomputable def QAO (k:Y4→Option ByteArray) (a_0:ByteArray) (b_1:ByteArray):Option ByteArray:=
 bif (decide (a_0.size≤9223372036854775807)) then
 k (.c0 b_1 0 (bytesOf a_0))
 else none
noncomputable def HAE (k:Y4→Option ByteArray):Y4→Option ByteArray
 | .c0 b_1 i_6 out_5=>
 bif (decide (i_6<(out_5.length:Int))) then
  bif ((decide (0≤i_6)) && (decide (i_6<(out_5.length:Int)))) then
  bif ((decide (0≤i_6)) && (decide (i_6<(b_1.size:Int)))) then
  bif ((decide (0≤i_6)) && (decide (i_6<(out_5.length:Int)))) then
  k (.c0 b_1 (w64 (i_6+1)) (out_5.set i_6.toNat (w8 (((BitVec.toNat ((BitVec.ofInt (IntKind.bits IntKind.u8) (out_5.getD i_6.toNat 0)) ^^^ (BitVec.ofInt (IntKind.bits IntKind.u8) (bt b_1 i_6)))):Nat):Int))))
  else none
  else none
  else none
 else
  some (ofBytes out_5)
noncomputable def Z4:Nat→Y4→Option ByteArray
 | 0,_=>none
 | m+1,s=>HAE (Z4 m) s
noncomputable def D5:PAO:=QAO (Z4 gas)
theorem JAk:Tells ctx PP 182 cv29 cv3 (fun a=>D5 a.1 a.2):=
 have b:CutIs ctx PP 182 Tryz.f182 [] [] cv3 YAY (HAE):=fun _ s=>by cases s <;> kernel_rfl
 have e:EntryIs ctx PP 182 [] [] cv29 cv3 YAY (fun k a=>QAO k a.1 a.2):=fun _ a=>by kernel_rfl
 fn_ok hl_nil Tryz.func182 (fun s s' h=>by cases s;cases s';cases h;rfl) (fun _=>rfl) (fun _ _=>rfl) b e gas
noncomputable def KAk {γ:Type} (F:PAO):Hd ctx γ:=hdl cv29.dec (fun a=>F a.1 a.2) cv3.enc
abbrev IAE:=ByteArray→Int→ByteArray→Option (ByteArray×Bool)
noncomputable def RAO (z0:JAO) (z1:LAO) (z2:NAO) (z3:PAO) (key_0:ByteArray) (num_1:Int) (text_2:ByteArray):Option (ByteArray×Bool):=
 bif (decide ((text_2.size:Int)<16)) then
 some (⟨#[]⟩,false)
 else
 bif ((decide (0≤(w64 ((text_2.size:Int) - 16)))) && (decide ((w64 ((text_2.size:Int) - 16))≤(text_2.size:Int)))) then
 (z0 key_0 num_1 ((text_2.extract 0 (w64 ((text_2.size:Int) - 16)).toNat).size:Int)).bind fun r0=>
 bif (!r0.2) then
  some (⟨#[]⟩,false)
 else
  (z1 key_0 num_1 (text_2.extract 0 (w64 ((text_2.size:Int) - 16)).toNat)).bind fun r1=>
  bif ((decide (0≤((text_2.extract 0 (w64 ((text_2.size:Int) - 16)).toNat).size:Int))) && (decide (((text_2.extract 0 (w64 ((text_2.size:Int) - 16)).toNat).size:Int)≤(text_2.size:Int)))) then
  (z2 r1 (text_2.extract ((text_2.extract 0 (w64 ((text_2.size:Int) - 16)).toNat).size:Int).toNat text_2.size)).bind fun r2=>
  bif (!r2) then
  some (⟨#[]⟩,false)
  else
  (z3 (text_2.extract 0 (w64 ((text_2.size:Int) - 16)).toNat) r0.1).bind fun r3=>
  some (r3,true)
  else none
 else none
noncomputable def Zl:IAE:=RAO V4 X4 GAE D5
theorem LAk:Tells ctx PP 165 cv31 cv18 (fun a=>Zl a.1 a.2.1 a.2.2):=fn_ok0 (hc DAk (hc FAk (hc HAk (hc JAk hl_nil)))) Tryz.func165 ((fun z0 z1 z2 z3 a=>by kernel_rfl:∀ z0 z1 z2 z3,EntryIs0 ctx PP 165 [] [(181,EAk z0),(183,GAk z1),(197,IAk z2),(182,KAk z3)] cv31 cv18 fun a=>RAO z0 z1 z2 z3 a.1 a.2.1 a.2.2) V4 X4 GAE D5)
noncomputable def ZAY {γ:Type} (F:IAE):Hd ctx γ:=hdl cv31.dec (fun a=>F a.1 a.2.1 a.2.2) cv18.enc
abbrev E5:=SL19Cur→Int→Option (ByteArray×SL19Cur)
noncomputable def JAE (c_0:SL19Cur) (n_1:Int):Option (ByteArray×SL19Cur):=
 bif c_0.fBad then
 some (⟨#[]⟩,⟨c_0.fText,c_0.fAt,true⟩)
 else
 bif (decide (n_1 > (w64 ((c_0.fText.size:Int) - c_0.fAt)))) then
  some (⟨#[]⟩,⟨c_0.fText,c_0.fAt,true⟩)
 else
  bif (((decide (0≤(w64 ((w64 (c_0.fAt+n_1)) - n_1)))) && (decide ((w64 ((w64 (c_0.fAt+n_1)) - n_1))≤(w64 (c_0.fAt+n_1))))) && (decide ((w64 (c_0.fAt+n_1))≤(c_0.fText.size:Int)))) then
  some ((c_0.fText.extract (w64 ((w64 (c_0.fAt+n_1)) - n_1)).toNat (w64 (c_0.fAt+n_1)).toNat),⟨c_0.fText,(w64 (c_0.fAt+n_1)),c_0.fBad⟩)
  else none
noncomputable def Ib:E5:=JAE
theorem SAO:Tells ctx PP 199 cv107 cv108 (fun a=>Ib a.1 a.2):=fn_ok0 hl_nil Tryz.func199 (fun a=>by kernel_rfl:EntryIs0 ctx PP 199 [0] [] cv107 cv108 fun a=>JAE a.1 a.2)
noncomputable def TAO {γ:Type} (F:E5):Hd ctx γ:=hdl cv107.dec (fun a=>F a.1 a.2) cv108.enc
abbrev KAE:=SL19Cur→Option (Int×SL19Cur)
noncomputable def LAE (z0:E5) (c_0:SL19Cur):Option (Int×SL19Cur):=
 (z0 c_0 1).bind fun r0=>
 bif r0.2.fBad then
 some (0,r0.2)
 else
 bif ((decide ((0:Int)≤(0:Int))) && (decide (0<(r0.1.size:Int)))) then
 some ((w64 (bt r0.1 0)),r0.2)
 else none
noncomputable def Jb:KAE:=LAE Ib
theorem AAZ:Tells ctx PP 198 cv109 cv110 (fun a=>Jb a):=fn_ok0 (hc SAO hl_nil) Tryz.func198 ((fun z0 a=>by kernel_rfl:∀ z0,EntryIs0 ctx PP 198 [0] [(199,TAO z0)] cv109 cv110 fun a=>LAE z0 a) Ib)
noncomputable def BAZ {γ:Type} (F:KAE):Hd ctx γ:=hdl cv109.dec (fun a=>F a) cv110.enc
abbrev F5:=SL19Cur→Option (Int×SL19Cur)
noncomputable def MAE (z0:Y1) (c_0:SL19Cur):Option (Int×SL19Cur):=
 (z0 c_0.fText c_0.fAt).bind fun r0=>
 bif c_0.fBad then
 some (0,⟨c_0.fText,c_0.fAt,true⟩)
 else
 bif (!r0.2.2) then
  some (0,⟨c_0.fText,c_0.fAt,true⟩)
 else
  some (r0.1,⟨c_0.fText,r0.2.1,c_0.fBad⟩)
noncomputable def Ed:F5:=MAE Ea
theorem UAO:Tells ctx PP 200 cv109 cv110 (fun a=>Ed a):=fn_ok0 (hc NAY hl_nil) Tryz.func200 ((fun z0 a=>by kernel_rfl:∀ z0,EntryIs0 ctx PP 200 [0] [(196,VAN z0)] cv109 cv110 fun a=>MAE z0 a) Ea)
noncomputable def VAO {γ:Type} (F:F5):Hd ctx γ:=hdl cv109.dec (fun a=>F a) cv110.enc
abbrev WAO:=SL19Cur→Option (ByteArray×SL19Cur)
noncomputable def NAE (z0:F5) (z1:E5) (c_0:SL19Cur):Option (ByteArray×SL19Cur):=
 (z0 c_0).bind fun r0=>
 (z1 r0.2 r0.1).bind fun r1=>
 some (r1.1,r1.2)
noncomputable def Am:WAO:=NAE Ed Ib
theorem MAk:Tells ctx PP 213 cv109 cv108 (fun a=>Am a):=fn_ok0 (hc UAO (hc SAO hl_nil)) Tryz.func213 ((fun z0 z1 a=>by kernel_rfl:∀ z0 z1,EntryIs0 ctx PP 213 [0] [(200,VAO z0),(199,TAO z1)] cv109 cv108 fun a=>NAE z0 z1 a) Ed Ib)
noncomputable def NAk {γ:Type} (F:WAO):Hd ctx γ:=hdl cv109.dec (fun a=>F a) cv108.enc
abbrev XAO:=ByteArray→Option (SThing×Bool)
noncomputable def OAE (z0:F5) (z1:KAE) (z2:WAO) (z3:LAD) (text_0:ByteArray):Option (SThing×Bool):=
 (z0 ⟨text_0,0,false⟩).bind fun r0=>
 (z1 r0.2).bind fun r1=>
 (z1 r1.2).bind fun r2=>
 (z2 r2.2).bind fun r3=>
 (z0 r3.2).bind fun r4=>
 (z3 ⟨r0.1,r1.1,((r2.1.tmod 2) == 1),(((w64 (r2.1.tdiv 2)).tmod 2) == 1),(((w64 (r2.1.tdiv 4)).tmod 2) == 1),(((w64 (r2.1.tdiv 8)).tmod 2) == 1),r3.1,r4.1⟩).bind fun r5=>
 bif r4.2.fBad then
 some (⟨0,0,false,false,false,false,⟨#[]⟩,0⟩,false)
 else
 bif (!r5.2) then
  some (⟨0,0,false,false,false,false,⟨#[]⟩,0⟩,false)
 else
  bif (!((ByteArray.toList r5.1) == (ByteArray.toList text_0))) then
  some (⟨0,0,false,false,false,false,⟨#[]⟩,0⟩,false)
  else
  some (⟨r0.1,r1.1,((r2.1.tmod 2) == 1),(((w64 (r2.1.tdiv 2)).tmod 2) == 1),(((w64 (r2.1.tdiv 4)).tmod 2) == 1),(((w64 (r2.1.tdiv 8)).tmod 2) == 1),r3.1,r4.1⟩,true)
noncomputable def Ei:XAO:=OAE Ed Jb Am Ql
theorem OAk:Tells ctx PP 201 cv3 cv22 (fun a=>Ei a):=fn_ok0 (hc UAO (hc AAZ (hc MAk (hc MAX hl_nil)))) Tryz.func201 ((fun z0 z1 z2 z3 a=>by kernel_rfl:∀ z0 z1 z2 z3,EntryIs0 ctx PP 201 [] [(200,VAO z0),(198,BAZ z1),(213,NAk z2),(148,NAX z3)] cv3 cv22 fun a=>OAE z0 z1 z2 z3 a) Ed Jb Am Ql)
noncomputable def PAk {γ:Type} (F:XAO):Hd ctx γ:=hdl cv3.dec (fun a=>F a) cv22.enc
abbrev PAE:=ByteArray→Option (SRec×Bool)
noncomputable def Cm (z0:KAE) (z1:E5) (z2:F5) (z3:XAO) (z4:Oz) (text_0:ByteArray):Option (SRec×Bool):=
 (z0 ⟨text_0,0,false⟩).bind fun r0=>
 bif (r0.1 == 1) then
 (z1 r0.2 32).bind fun r1=>
 (z4 ⟨r0.1,r1.1,0,⟨0,0,false,false,false,false,⟨#[]⟩,0⟩⟩).bind fun r2=>
 bif r1.2.fBad then
  some (⟨0,⟨#[]⟩,0,⟨0,0,false,false,false,false,⟨#[]⟩,0⟩⟩,false)
 else
  bif (!r2.2) then
  some (⟨0,⟨#[]⟩,0,⟨0,0,false,false,false,false,⟨#[]⟩,0⟩⟩,false)
  else
  bif (!((ByteArray.toList r2.1) == (ByteArray.toList text_0))) then
   some (⟨0,⟨#[]⟩,0,⟨0,0,false,false,false,false,⟨#[]⟩,0⟩⟩,false)
  else
   some (⟨r0.1,r1.1,0,⟨0,0,false,false,false,false,⟨#[]⟩,0⟩⟩,true)
 else
 bif (r0.1 == 2) then
  bif (r0.1 == 2) then
  (z2 r0.2).bind fun r3=>
  (z4 ⟨r0.1,⟨#[]⟩,r3.1,⟨0,0,false,false,false,false,⟨#[]⟩,0⟩⟩).bind fun r4=>
  bif r3.2.fBad then
   some (⟨0,⟨#[]⟩,0,⟨0,0,false,false,false,false,⟨#[]⟩,0⟩⟩,false)
  else
   bif (!r4.2) then
   some (⟨0,⟨#[]⟩,0,⟨0,0,false,false,false,false,⟨#[]⟩,0⟩⟩,false)
   else
   bif (!((ByteArray.toList r4.1) == (ByteArray.toList text_0))) then
    some (⟨0,⟨#[]⟩,0,⟨0,0,false,false,false,false,⟨#[]⟩,0⟩⟩,false)
   else
    some (⟨r0.1,⟨#[]⟩,r3.1,⟨0,0,false,false,false,false,⟨#[]⟩,0⟩⟩,true)
  else
  bif (r0.1 == 3) then
   bif ((decide ((0:Int)≤(1:Int))) && (decide (1≤(text_0.size:Int)))) then
   (z3 (text_0.extract (1:Int).toNat text_0.size)).bind fun r5=>
   (z4 ⟨r0.1,⟨#[]⟩,0,r5.1⟩).bind fun r6=>
   bif r0.2.fBad then
   some (⟨0,⟨#[]⟩,0,⟨0,0,false,false,false,false,⟨#[]⟩,0⟩⟩,false)
   else
   bif (!r6.2) then
    some (⟨0,⟨#[]⟩,0,⟨0,0,false,false,false,false,⟨#[]⟩,0⟩⟩,false)
   else
    bif (!((ByteArray.toList r6.1) == (ByteArray.toList text_0))) then
    some (⟨0,⟨#[]⟩,0,⟨0,0,false,false,false,false,⟨#[]⟩,0⟩⟩,false)
    else
    some (⟨r0.1,⟨#[]⟩,0,r5.1⟩,true)
   else none
  else
   (z4 ⟨r0.1,⟨#[]⟩,0,⟨0,0,false,false,false,false,⟨#[]⟩,0⟩⟩).bind fun r7=>
   bif r0.2.fBad then
   some (⟨0,⟨#[]⟩,0,⟨0,0,false,false,false,false,⟨#[]⟩,0⟩⟩,false)
   else
   bif (!r7.2) then
    some (⟨0,⟨#[]⟩,0,⟨0,0,false,false,false,false,⟨#[]⟩,0⟩⟩,false)
   else
    bif (!((ByteArray.toList r7.1) == (ByteArray.toList text_0))) then
    some (⟨0,⟨#[]⟩,0,⟨0,0,false,false,false,false,⟨#[]⟩,0⟩⟩,false)
    else
    some (⟨r0.1,⟨#[]⟩,0,⟨0,0,false,false,false,false,⟨#[]⟩,0⟩⟩,true)
 else
  bif (r0.1 == 4) then
  (z2 r0.2).bind fun r8=>
  (z4 ⟨r0.1,⟨#[]⟩,r8.1,⟨0,0,false,false,false,false,⟨#[]⟩,0⟩⟩).bind fun r9=>
  bif r8.2.fBad then
   some (⟨0,⟨#[]⟩,0,⟨0,0,false,false,false,false,⟨#[]⟩,0⟩⟩,false)
  else
   bif (!r9.2) then
   some (⟨0,⟨#[]⟩,0,⟨0,0,false,false,false,false,⟨#[]⟩,0⟩⟩,false)
   else
   bif (!((ByteArray.toList r9.1) == (ByteArray.toList text_0))) then
    some (⟨0,⟨#[]⟩,0,⟨0,0,false,false,false,false,⟨#[]⟩,0⟩⟩,false)
   else
    some (⟨r0.1,⟨#[]⟩,r8.1,⟨0,0,false,false,false,false,⟨#[]⟩,0⟩⟩,true)
  else
  bif (r0.1 == 3) then
   bif ((decide ((0:Int)≤(1:Int))) && (decide (1≤(text_0.size:Int)))) then
   (z3 (text_0.extract (1:Int).toNat text_0.size)).bind fun r10=>
   (z4 ⟨r0.1,⟨#[]⟩,0,r10.1⟩).bind fun r11=>
   bif r0.2.fBad then
   some (⟨0,⟨#[]⟩,0,⟨0,0,false,false,false,false,⟨#[]⟩,0⟩⟩,false)
   else
   bif (!r11.2) then
    some (⟨0,⟨#[]⟩,0,⟨0,0,false,false,false,false,⟨#[]⟩,0⟩⟩,false)
   else
    bif (!((ByteArray.toList r11.1) == (ByteArray.toList text_0))) then
    some (⟨0,⟨#[]⟩,0,⟨0,0,false,false,false,false,⟨#[]⟩,0⟩⟩,false)
    else
    some (⟨r0.1,⟨#[]⟩,0,r10.1⟩,true)
   else none
  else
   (z4 ⟨r0.1,⟨#[]⟩,0,⟨0,0,false,false,false,false,⟨#[]⟩,0⟩⟩).bind fun r12=>
   bif r0.2.fBad then
   some (⟨0,⟨#[]⟩,0,⟨0,0,false,false,false,false,⟨#[]⟩,0⟩⟩,false)
   else
   bif (!r12.2) then
    some (⟨0,⟨#[]⟩,0,⟨0,0,false,false,false,false,⟨#[]⟩,0⟩⟩,false)
   else
    bif (!((ByteArray.toList r12.1) == (ByteArray.toList text_0))) then
    some (⟨0,⟨#[]⟩,0,⟨0,0,false,false,false,false,⟨#[]⟩,0⟩⟩,false)
    else
    some (⟨r0.1,⟨#[]⟩,0,⟨0,0,false,false,false,false,⟨#[]⟩,0⟩⟩,true)
noncomputable def Fa:PAE:=Cm Jb Ib Ed Ei Ig
theorem QAk:Tells ctx PP 166 cv3 cv111 (fun a=>Fa a):=fn_ok0 (hc AAZ (hc SAO (hc UAO (hc OAk (hc OAX hl_nil))))) Tryz.func166 ((fun z0 z1 z2 z3 z4 a=>by kernel_rfl:∀ z0 z1 z2 z3 z4,EntryIs0 ctx PP 166 [] [(198,BAZ z0),(199,TAO z1),(200,VAO z2),(201,PAk z3),(92,FAN z4)] cv3 cv111 fun a=>Cm z0 z1 z2 z3 z4 a) Jb Ib Ed Ei Ig)
noncomputable def CAZ {γ:Type} (F:PAE):Hd ctx γ:=hdl cv3.dec (fun a=>F a) cv111.enc
abbrev YAO:=ByteArray→ByteArray→Option ((List SRec)×Int)
inductive G5 where
 | c0 (key_0:ByteArray) (end_9:Int) (i_10:Int) (out_6:(List SRec)) (list_7:(List ByteArray))
noncomputable def DAZ:G5→LI
 | .c0 key_0 end_9 i_10 out_6 list_7=>(tdo Tryz.f118 2000,[(0,[.one (.str key_0)]),(6,[.one (.own 432)]),(7,[.one (.own 496)]),(9,[.one (.int .i64 end_9)]),(10,[.one (.int .i64 i_10)])],[(432,.sl 71 out_6),(496,.sl 9 list_7)])
noncomputable def ZAO (z0:CAE) (z1:IAE) (z2:PAE) (z3:Hq) (k:G5→Option ((List SRec)×Int)) (key_0:ByteArray) (file_1:ByteArray):Option ((List SRec)×Int):=
 (z0 file_1).bind fun r0=>
 k (.c0 key_0 0 0 [] r0.1)
noncomputable def QAE (z0:CAE) (z1:IAE) (z2:PAE) (z3:Hq) (k:G5→Option ((List SRec)×Int)):G5→Option ((List SRec)×Int)
 | .c0 key_0 end_9 i_10 out_6 list_7=>
 bif (decide (i_10<(list_7.length:Int))) then
  bif ((decide (0≤i_10)) && (decide (i_10<(list_7.length:Int)))) then
  (z1 key_0 (w64 (i_10+1)) (list_7.getD i_10.toNat (⟨#[]⟩:ByteArray))).bind fun r0=>
  (z2 r0.1).bind fun r1=>
  bif (!r0.2) then
  some (out_6,end_9)
  else
  bif (!r1.2) then
   some (out_6,end_9)
  else
   bif (decide (((out_6.length+1)*80)≤140737488355328)) then
   bif ((decide (0≤i_10)) && (decide (i_10<(list_7.length:Int)))) then
   (z3 (list_7.getD i_10.toNat (⟨#[]⟩:ByteArray))).bind fun r2=>
   k (.c0 key_0 (w64 (end_9+(r2.1.size:Int))) (w64 (i_10+1)) (out_6++[r1.1]) list_7)
   else none
   else none
  else none
 else
  some (out_6,end_9)
noncomputable def I5:Nat→G5→Option ((List SRec)×Int)
 | 0,_=>none
 | m+1,s=>QAE Yl Zl Fa Bd (I5 m) s
noncomputable def J5:YAO:=ZAO Yl Zl Fa Bd (I5 gas)
theorem RAk:Tells ctx PP 118 cv29 cv112 (fun a=>J5 a.1 a.2):=
 have b:∀ z0 z1 z2 z3,CutIs ctx PP 118 Tryz.f118 [] [(164,TAY z0),(165,ZAY z1),(166,CAZ z2),(150,BAE z3)] cv112 DAZ (QAE z0 z1 z2 z3):=fun z0 z1 z2 z3 _ s=>by cases s <;> kernel_rfl
 have e:∀ z0 z1 z2 z3,EntryIs ctx PP 118 [] [(164,TAY z0),(165,ZAY z1),(166,CAZ z2),(150,BAE z3)] cv29 cv112 DAZ (fun k a=>ZAO z0 z1 z2 z3 k a.1 a.2):=fun z0 z1 z2 z3 _ a=>by kernel_rfl
 fn_ok (hc AAk (hc LAk (hc QAk (hc QAY hl_nil)))) Tryz.func118 (fun s s' h=>by cases s;cases s';cases h;rfl) (fun _=>rfl) (fun _ _=>rfl) (b Yl Zl Fa Bd) (e Yl Zl Fa Bd) gas
noncomputable def SAk {γ:Type} (F:YAO):Hd ctx γ:=hdl cv29.dec (fun a=>F a.1 a.2) cv112.enc
abbrev O5:=ByteArray→SDisk→Option (SBook×(List SAct)×Bool)
noncomputable def AAP (z0:O0) (z1:TAN) (z2:YAO) (z3:Ci) (z4:TAD) (z5:YAD) (key_0:ByteArray) (d_1:SDisk):Option (SBook×(List SAct)×Bool):=
 (z0 d_1).bind fun r0=>
 bif (!r0) then
 some (⟨⟨#[]⟩,0,[],0,⟨#[]⟩,0⟩,([],false))
 else
 (z1 d_1 ⟨#[98,111,111,107]⟩).bind fun r1=>
 (z2 key_0 r1.1).bind fun r2=>
 z3.bind fun r3=>
 (z4 r3 r2.1).bind fun r4=>
 bif (!r4.2) then
  some (⟨⟨#[]⟩,0,[],0,⟨#[]⟩,0⟩,([],false))
 else
  (z5 d_1 ⟨#[98,111,111,107,43]⟩).bind fun r5=>
  bif (decide (r5≥0)) then
  bif (decide (r2.2<(r1.1.size:Int))) then
   bif ((decide (0≤r2.2)) && (decide (r2.2≤(r1.1.size:Int)))) then
   some (r4.1,((([]++[(⟨4,⟨#[98,111,111,107,43]⟩,⟨#[]⟩,⟨#[]⟩⟩:SAct)])++[(⟨1,⟨#[98,111,111,107,43]⟩,(r1.1.extract 0 r2.2.toNat),⟨#[]⟩⟩:SAct),(⟨2,⟨#[98,111,111,107,43]⟩,⟨#[]⟩,⟨#[]⟩⟩:SAct),(⟨3,⟨#[98,111,111,107,43]⟩,⟨#[]⟩,⟨#[98,111,111,107]⟩⟩:SAct)]),true))
   else none
  else
   some (r4.1,(([]++[(⟨4,⟨#[98,111,111,107,43]⟩,⟨#[]⟩,⟨#[]⟩⟩:SAct)]),true))
  else
  bif (decide (r2.2<(r1.1.size:Int))) then
   bif ((decide (0≤r2.2)) && (decide (r2.2≤(r1.1.size:Int)))) then
   some (r4.1,(([]++[(⟨1,⟨#[98,111,111,107,43]⟩,(r1.1.extract 0 r2.2.toNat),⟨#[]⟩⟩:SAct),(⟨2,⟨#[98,111,111,107,43]⟩,⟨#[]⟩,⟨#[]⟩⟩:SAct),(⟨3,⟨#[98,111,111,107,43]⟩,⟨#[]⟩,⟨#[98,111,111,107]⟩⟩:SAct)]),true))
   else none
  else
   some (r4.1,([],true))
noncomputable def Vg:O5:=AAP Pg U1 J5 Ba Vl Xl
theorem EAZ:Tells ctx PP 52 cv114 cv115 (fun a=>Vg a.1 a.2):=fn_ok0 (hc GAY (hc SAj (hc RAk (hc GAD (hc ZAX (hc IAY hl_nil)))))) Tryz.func52 ((fun z0 z1 z2 z3 z4 z5 a=>by kernel_rfl:∀ z0 z1 z2 z3 z4 z5,EntryIs0 ctx PP 52 [] [(49,QAN z0),(117,TAj z1),(118,SAk z2),(28,Xp z3),(69,AAY z4),(119,JAY z5)] cv114 cv115 fun a=>AAP z0 z1 z2 z3 z4 z5 a.1 a.2) Pg U1 J5 Ba Vl Xl)
noncomputable def BAP {γ:Type} (F:O5):Hd ctx γ:=hdl cv114.dec (fun a=>F a.1 a.2) cv115.enc
abbrev RAE:=SLife→Option Bool
noncomputable def CAP (z0:Ci) (z1:TAD) (z2:Xz) (z3:O5) (l_0:SLife):Option Bool:=
 z0.bind fun r0=>
 (z1 r0 l_0.fDone).bind fun r1=>
 bif (!r1.2) then
 some false
 else
 bif l_0.fBox.fUp then
  (z2 r1.1 l_0.fBox.fBook).bind fun r2=>
  some r2
 else
  (z3 l_0.fBox.fKey l_0.fBox.fDisk).bind fun r3=>
  bif r3.2.2 then
  (z2 r1.1 r3.1).bind fun r4=>
  some r4
  else
  some false
noncomputable def Em:RAE:=CAP Ba Vl Og Vg
theorem TAk:Tells ctx PP 18 cv138 cv6 (fun a=>Em a):=fn_ok0 (hc GAD (hc ZAX (hc CAY (hc EAZ hl_nil)))) Tryz.func18 ((fun z0 z1 z2 z3 a=>by kernel_rfl:∀ z0 z1 z2 z3,EntryIs0 ctx PP 18 [] [(28,Xp z0),(69,AAY z1),(51,NAN z2),(52,BAP z3)] cv138 cv6 fun a=>CAP z0 z1 z2 z3 a) Ba Vl Og Vg)
noncomputable def FAZ {γ:Type} (F:RAE):Hd ctx γ:=hdl cv138.dec (fun a=>F a) cv6.enc
abbrev SAE:=(List SRec)→Option Bool
inductive P5 where
 | c0 (list_0:(List SRec)) (i_4:Int) (b_3c0:ByteArray) (b_3c1:Int) (b_3c3:Int) (b_3c4:ByteArray) (b_3c5:Int) (b_3r2:(List SThing))
 | c1 (list_0:(List SRec)) (i_4:Int) (k_7:Int) (b_3c0:ByteArray) (b_3c1:Int) (b_3c3:Int) (b_3c4:ByteArray) (b_3c5:Int) (next_5c0:ByteArray) (next_5c1:Int) (next_5c3:Int) (next_5c4:ByteArray) (next_5c5:Int) (b_3r2:(List SThing)) (next_5r2:(List SThing))
noncomputable def GAZ:P5→LI
 | .c0 list_0 i_4 b_3c0 b_3c1 b_3c3 b_3c4 b_3c5 b_3r2=>(tdo Tryz.f84 464,[(0,[.one (.rsl 71 list_0)]),(3,[.one (.ptr 192 0)]),(4,[.one (.int .i64 i_4)])],[(192,.var [.str b_3c0,.int .i64 b_3c1,.own 1012290,.int .i64 b_3c3,.str b_3c4,.int .i64 b_3c5]),(1012290,.sl 69 b_3r2)])
 | .c1 list_0 i_4 k_7 b_3c0 b_3c1 b_3c3 b_3c4 b_3c5 next_5c0 next_5c1 next_5c3 next_5c4 next_5c5 b_3r2 next_5r2=>(tdo Tryz.f84 238800,[(0,[.one (.rsl 71 list_0)]),(3,[.one (.ptr 192 0)]),(4,[.one (.int .i64 i_4)]),(5,[.one (.ptr 320 0)]),(7,[.one (.int .i64 k_7)])],[(192,.var [.str b_3c0,.int .i64 b_3c1,.own 1012290,.int .i64 b_3c3,.str b_3c4,.int .i64 b_3c5]),(320,.var [.str next_5c0,.int .i64 next_5c1,.own 1020482,.int .i64 next_5c3,.str next_5c4,.int .i64 next_5c5]),(1012290,.sl 69 b_3r2),(1020482,.sl 69 next_5r2)])
noncomputable def DAP (z0:Ci) (z1:Fq) (z2:Di) (k:P5→Option Bool) (list_0:(List SRec)):Option Bool:=
 z0.bind fun r0=>
 k (.c0 list_0 0 r0.fWord r0.fTries r0.fLast r0.fChain r0.fCount r0.fThings)
noncomputable def Jq (z0:Ci) (z1:Fq) (z2:Di) (k:P5→Option Bool):P5→Option Bool
 | .c0 list_0 i_4 b_3c0 b_3c1 b_3c3 b_3c4 b_3c5 b_3r2=>
 bif (decide (i_4<(list_0.length:Int))) then
  bif ((decide (0≤i_4)) && (decide (i_4<(list_0.length:Int)))) then
  (z1 ⟨b_3c0,b_3c1,b_3r2,b_3c3,b_3c4,b_3c5⟩ (list_0.getD i_4.toNat (⟨0,⟨#[]⟩,0,⟨0,0,false,false,false,false,⟨#[]⟩,0⟩⟩:SRec))).bind fun r0=>
  bif (!r0.2) then
  some false
  else
  k (.c1 list_0 i_4 0 b_3c0 b_3c1 b_3c3 b_3c4 b_3c5 r0.1.fWord r0.1.fTries r0.1.fLast r0.1.fChain r0.1.fCount b_3r2 r0.1.fThings)
  else none
 else
  some true
 | .c1 list_0 i_4 k_7 b_3c0 b_3c1 b_3c3 b_3c4 b_3c5 next_5c0 next_5c1 next_5c3 next_5c4 next_5c5 b_3r2 next_5r2=>
 bif (decide (k_7<(b_3r2.length:Int))) then
  bif ((decide (0≤k_7)) && (decide (k_7<(b_3r2.length:Int)))) then
  (z2 ⟨next_5c0,next_5c1,next_5r2,next_5c3,next_5c4,next_5c5⟩ (b_3r2.getD k_7.toNat (⟨0,0,false,false,false,false,⟨#[]⟩,0⟩:SThing)).fId).bind fun r0=>
  bif r0.2 then
  bif ((b_3r2.getD k_7.toNat (⟨0,0,false,false,false,false,⟨#[]⟩,0⟩:SThing)).fKind != r0.1.fKind) then
   some false
  else
   bif (!((ByteArray.toList (b_3r2.getD k_7.toNat (⟨0,0,false,false,false,false,⟨#[]⟩,0⟩:SThing)).fValue) == (ByteArray.toList r0.1.fValue))) then
   some false
   else
   bif (b_3r2.getD k_7.toNat (⟨0,0,false,false,false,false,⟨#[]⟩,0⟩:SThing)).fHidden then
    bif (!r0.1.fHidden) then
    some false
    else
    bif (b_3r2.getD k_7.toNat (⟨0,0,false,false,false,false,⟨#[]⟩,0⟩:SThing)).fFixed then
     bif (!r0.1.fFixed) then
     some false
     else
     bif (decide (r0.1.fNext<(b_3r2.getD k_7.toNat (⟨0,0,false,false,false,false,⟨#[]⟩,0⟩:SThing)).fNext)) then
      some false
     else
      k (.c1 list_0 i_4 (w64 (k_7+1)) b_3c0 b_3c1 b_3c3 b_3c4 b_3c5 next_5c0 next_5c1 next_5c3 next_5c4 next_5c5 b_3r2 next_5r2)
    else
     bif (decide (r0.1.fNext<(b_3r2.getD k_7.toNat (⟨0,0,false,false,false,false,⟨#[]⟩,0⟩:SThing)).fNext)) then
     some false
     else
     k (.c1 list_0 i_4 (w64 (k_7+1)) b_3c0 b_3c1 b_3c3 b_3c4 b_3c5 next_5c0 next_5c1 next_5c3 next_5c4 next_5c5 b_3r2 next_5r2)
   else
    bif (b_3r2.getD k_7.toNat (⟨0,0,false,false,false,false,⟨#[]⟩,0⟩:SThing)).fFixed then
    bif (!r0.1.fFixed) then
     some false
    else
     bif (decide (r0.1.fNext<(b_3r2.getD k_7.toNat (⟨0,0,false,false,false,false,⟨#[]⟩,0⟩:SThing)).fNext)) then
     some false
     else
     k (.c1 list_0 i_4 (w64 (k_7+1)) b_3c0 b_3c1 b_3c3 b_3c4 b_3c5 next_5c0 next_5c1 next_5c3 next_5c4 next_5c5 b_3r2 next_5r2)
    else
    bif (decide (r0.1.fNext<(b_3r2.getD k_7.toNat (⟨0,0,false,false,false,false,⟨#[]⟩,0⟩:SThing)).fNext)) then
     some false
    else
     k (.c1 list_0 i_4 (w64 (k_7+1)) b_3c0 b_3c1 b_3c3 b_3c4 b_3c5 next_5c0 next_5c1 next_5c3 next_5c4 next_5c5 b_3r2 next_5r2)
  else
  k (.c1 list_0 i_4 (w64 (k_7+1)) b_3c0 b_3c1 b_3c3 b_3c4 b_3c5 next_5c0 next_5c1 next_5c3 next_5c4 next_5c5 b_3r2 next_5r2)
  else none
 else
  k (.c0 list_0 (w64 (i_4+1)) next_5c0 next_5c1 next_5c3 next_5c4 next_5c5 next_5r2)
noncomputable def Xg:Nat→P5→Option Bool
 | 0,_=>none
 | m+1,s=>Jq Ba Ad Xa (Xg m) s
noncomputable def Gm:SAE:=DAP Ba Ad Xa (Xg gas)
theorem UAk:Tells ctx PP 84 cv148 cv6 (fun a=>Gm a):=
 have b:∀ z0 z1 z2,CutIs ctx PP 84 Tryz.f84 [] [(28,Xp z0),(27,SAD z1),(94,Bq z2)] cv6 GAZ (Jq z0 z1 z2):=fun z0 z1 z2 _ s=>by cases s <;> kernel_rfl
 have e:∀ z0 z1 z2,EntryIs ctx PP 84 [] [(28,Xp z0),(27,SAD z1),(94,Bq z2)] cv148 cv6 GAZ (fun k a=>DAP z0 z1 z2 k a):=fun z0 z1 z2 _ a=>by kernel_rfl
 fn_ok (hc GAD (hc XAX (hc HAN hl_nil))) Tryz.func84 (fun s s' h=>by cases s <;> cases s' <;> first | (cases h;done) | (cases h;rfl) | exact (rg_ne h (by kernel_rfl)).elim) (fun _=>rfl) (fun _ _=>rfl) (b Ba Ad Xa) (e Ba Ad Xa) gas
noncomputable def HAZ {γ:Type} (F:SAE):Hd ctx γ:=hdl cv148.dec (fun a=>F a) cv6.enc
abbrev TAE:=SBox→Option Bool
inductive Q5 where
 | c0 (i_3:Int) (b_1:SBox)
noncomputable def IAZ:Q5→LI
 | .c0 i_3 b_1=>(tdo Tryz.f54 208,[(1,[.one (.ptr 64 0)]),(3,[.one (.int .i64 i_3)])],[(64,.var [.str b_1.fKey,.bool b_1.fUp,.rsl 155 b_1.fDisk.fFiles,.str b_1.fBook.fWord,.int .i64 b_1.fBook.fTries,.rsl 69 b_1.fBook.fThings,.int .i64 b_1.fBook.fLast,.str b_1.fBook.fChain,.int .i64 b_1.fBook.fCount,.rsl 92 b_1.fSessions,.rsl 149 b_1.fLives,.int .i64 b_1.fOpened])])
noncomputable def EAP (z0:Di) (z1:CZ) (k:Q5→Option Bool) (b_0:SBox):Option Bool:=
 k (.c0 0 b_0)
noncomputable def UAE (z0:Di) (z1:CZ) (k:Q5→Option Bool):Q5→Option Bool
 | .c0 i_3 b_1=>
 bif (decide (i_3<(b_1.fLives.length:Int))) then
  bif ((decide (0≤i_3)) && (decide (i_3<(b_1.fLives.length:Int)))) then
  (z0 b_1.fBook (b_1.fLives.getD i_3.toNat (⟨0,0⟩:SLive)).fId).bind fun r0=>
  bif (!r0.2) then
  some false
  else
  bif (r0.1.fKind != 2) then
   some false
  else
   bif ((decide (0≤i_3)) && (decide (i_3<(b_1.fLives.length:Int)))) then
   (z1 (b_1.fLives.getD i_3.toNat (⟨0,0⟩:SLive)).fNext 0 r0.1.fNext).bind fun r1=>
   bif (!r1) then
   some false
   else
   bif (decide (i_3 > 0)) then
    bif ((decide (0≤(w64 (i_3 - 1)))) && (decide ((w64 (i_3 - 1))<(b_1.fLives.length:Int)))) then
    bif ((decide (0≤i_3)) && (decide (i_3<(b_1.fLives.length:Int)))) then
    bif (decide ((b_1.fLives.getD (w64 (i_3 - 1)).toNat (⟨0,0⟩:SLive)).fId≥(b_1.fLives.getD i_3.toNat (⟨0,0⟩:SLive)).fId)) then
    some false
    else
    k (.c0 (w64 (i_3+1)) b_1)
    else none
    else none
   else
    k (.c0 (w64 (i_3+1)) b_1)
   else none
  else none
 else
  some true
noncomputable def U5:Nat→Q5→Option Bool
 | 0,_=>none
 | m+1,s=>UAE Xa SX (U5 m) s
noncomputable def Jm:TAE:=EAP Xa SX (U5 gas)
theorem VAk:Tells ctx PP 54 cv116 cv6 (fun a=>Jm a):=
 have b:∀ z0 z1,CutIs ctx PP 54 Tryz.f54 [] [(94,Bq z0),(50,KZ z1)] cv6 IAZ (UAE z0 z1):=fun z0 z1 _ s=>by cases s <;> kernel_rfl
 have e:∀ z0 z1,EntryIs ctx PP 54 [] [(94,Bq z0),(50,KZ z1)] cv116 cv6 IAZ (fun k a=>EAP z0 z1 k a):=fun z0 z1 _ a=>by kernel_rfl
 fn_ok (hc HAN (hc Qc hl_nil)) Tryz.func54 (fun s s' h=>by cases s;cases s';(repeat cases ‹SBox›);(repeat cases ‹SDisk›);(repeat cases ‹SBook›);cases h;rfl) (fun _=>rfl) (fun _ _=>rfl) (b Xa SX) (e Xa SX) gas
noncomputable def JAZ {γ:Type} (F:TAE):Hd ctx γ:=hdl cv116.dec (fun a=>F a) cv6.enc
abbrev VAE:=SBox→Option Bool
inductive V5 where
 | c0 (i_3:Int) (b_1:SBox)
noncomputable def KAZ:V5→LI
 | .c0 i_3 b_1=>(tdo Tryz.f14 464,[(1,[.one (.ptr 64 0)]),(3,[.one (.int .i64 i_3)])],[(64,.var [.str b_1.fKey,.bool b_1.fUp,.rsl 155 b_1.fDisk.fFiles,.str b_1.fBook.fWord,.int .i64 b_1.fBook.fTries,.rsl 69 b_1.fBook.fThings,.int .i64 b_1.fBook.fLast,.str b_1.fBook.fChain,.int .i64 b_1.fBook.fCount,.rsl 92 b_1.fSessions,.rsl 149 b_1.fLives,.int .i64 b_1.fOpened])])
noncomputable def FAP (z0:O0) (z1:CZ) (z2:Ci) (z3:Xz) (z4:O5) (z5:Zp) (z6:TAE) (k:V5→Option Bool) (b_0:SBox):Option Bool:=
 bif ((b_0.fKey.size:Int) != 32) then
 some false
 else
 (z0 b_0.fDisk).bind fun r0=>
 bif (!r0) then
  some false
 else
  bif (decide ((b_0.fSessions.length:Int) > 3)) then
  some false
  else
  (z1 b_0.fOpened 0 1000).bind fun r1=>
  bif (!r1) then
   some false
  else
   k (.c0 0 b_0)
noncomputable def WAE (z0:O0) (z1:CZ) (z2:Ci) (z3:Xz) (z4:O5) (z5:Zp) (z6:TAE) (k:V5→Option Bool):V5→Option Bool
 | .c0 i_3 b_1=>
 bif (decide (i_3<(b_1.fSessions.length:Int))) then
  bif ((decide (0≤i_3)) && (decide (i_3<(b_1.fSessions.length:Int)))) then
  (z1 (b_1.fSessions.getD i_3.toNat (⟨0,false⟩:SSession)).fId 1 b_1.fOpened).bind fun r0=>
  bif (!r0) then
  some false
  else
  bif (decide (i_3 > 0)) then
   bif ((decide (0≤(w64 (i_3 - 1)))) && (decide ((w64 (i_3 - 1))<(b_1.fSessions.length:Int)))) then
   bif ((decide (0≤i_3)) && (decide (i_3<(b_1.fSessions.length:Int)))) then
   bif (decide ((b_1.fSessions.getD (w64 (i_3 - 1)).toNat (⟨0,false⟩:SSession)).fId≥(b_1.fSessions.getD i_3.toNat (⟨0,false⟩:SSession)).fId)) then
   some false
   else
   k (.c0 (w64 (i_3+1)) b_1)
   else none
   else none
  else
   k (.c0 (w64 (i_3+1)) b_1)
  else none
 else
  bif (!b_1.fUp) then
  bif ((b_1.fSessions.length:Int) == 0) then
   bif ((b_1.fLives.length:Int) == 0) then
   z2.bind fun r1=>
   (z3 b_1.fBook r1).bind fun r2=>
   some r2
   else
   some false
  else
   some false
  else
  (z4 b_1.fKey b_1.fDisk).bind fun r3=>
  bif r3.2.2 then
   bif ((r3.2.1.length:Int) == 0) then
   (z5 b_1.fBook).bind fun r4=>
   bif r4 then
    (z3 r3.1 b_1.fBook).bind fun r5=>
    bif r5 then
    (z6 b_1).bind fun r6=>
    some r6
    else
    some false
   else
    some false
   else
   some false
  else
   some false
noncomputable def X5:Nat→V5→Option Bool
 | 0,_=>none
 | m+1,s=>WAE Pg SX Ba Og Vg Yc Jm (X5 m) s
noncomputable def Lm:VAE:=FAP Pg SX Ba Og Vg Yc Jm (X5 gas)
theorem WAk:Tells ctx PP 14 cv116 cv6 (fun a=>Lm a):=
 have b:∀ z0 z1 z2 z3 z4 z5 z6,CutIs ctx PP 14 Tryz.f14 [] [(49,QAN z0),(50,KZ z1),(28,Xp z2),(51,NAN z3),(52,BAP z4),(53,NAD z5),(54,JAZ z6)] cv6 KAZ (WAE z0 z1 z2 z3 z4 z5 z6):=fun z0 z1 z2 z3 z4 z5 z6 _ s=>by cases s <;> kernel_rfl
 have e:∀ z0 z1 z2 z3 z4 z5 z6,EntryIs ctx PP 14 [] [(49,QAN z0),(50,KZ z1),(28,Xp z2),(51,NAN z3),(52,BAP z4),(53,NAD z5),(54,JAZ z6)] cv116 cv6 KAZ (fun k a=>FAP z0 z1 z2 z3 z4 z5 z6 k a):=fun z0 z1 z2 z3 z4 z5 z6 _ a=>by kernel_rfl
 fn_ok (hc GAY (hc Qc (hc GAD (hc CAY (hc EAZ (hc QAX (hc VAk hl_nil))))))) Tryz.func14 (fun s s' h=>by cases s;cases s';(repeat cases ‹SBox›);(repeat cases ‹SDisk›);(repeat cases ‹SBook›);cases h;rfl) (fun _=>rfl) (fun _ _=>rfl) (b Pg SX Ba Og Vg Yc Jm) (e Pg SX Ba Og Vg Yc Jm) gas
noncomputable def LAZ {γ:Type} (F:VAE):Hd ctx γ:=hdl cv116.dec (fun a=>F a) cv6.enc
abbrev WAJ:=SLife→Option Bool
inductive Y5 where
 | c0 (i_3:Int) (l_1:SLife)
noncomputable def MAZ:Y5→LI
 | .c0 i_3 l_1=>(tdo Tryz.f24 208,[(1,[.one (.ptr 64 0)]),(3,[.one (.int .i64 i_3)])],[(64,.var [.str l_1.fBox.fKey,.bool l_1.fBox.fUp,.rsl 155 l_1.fBox.fDisk.fFiles,.str l_1.fBox.fBook.fWord,.int .i64 l_1.fBox.fBook.fTries,.rsl 69 l_1.fBox.fBook.fThings,.int .i64 l_1.fBox.fBook.fLast,.str l_1.fBox.fBook.fChain,.int .i64 l_1.fBox.fBook.fCount,.rsl 92 l_1.fBox.fSessions,.rsl 149 l_1.fBox.fLives,.int .i64 l_1.fBox.fOpened,.rsl 3 l_1.fCodes,.rsl 9 l_1.fReplies,.rsl 117 l_1.fGives,.rsl 71 l_1.fDone])])
noncomputable def HAP (z0:PAC) (z1:RAC) (z2:SAC) (z3:RAE) (z4:SAE) (z5:VAE) (k:Y5→Option Bool) (l_0:SLife):Option Bool:=
 k (.c0 0 l_0)
noncomputable def XAE (z0:PAC) (z1:RAC) (z2:SAC) (z3:RAE) (z4:SAE) (z5:VAE) (k:Y5→Option Bool):Y5→Option Bool
 | .c0 i_3 l_1=>
 bif (decide (i_3<(l_1.fGives.length:Int))) then
  bif ((decide (0≤i_3)) && (decide (i_3<(l_1.fGives.length:Int)))) then
  bif ((decide (0≤i_3)) && (decide (i_3<(l_1.fGives.length:Int)))) then
  (z0 l_1.fDone (l_1.fGives.getD i_3.toNat (⟨0,0,0⟩:SGiven)).fThing).bind fun r0=>
  bif (decide ((l_1.fGives.getD i_3.toNat (⟨0,0,0⟩:SGiven)).fLeaf≥r0)) then
  some false
  else
  k (.c0 (w64 (i_3+1)) l_1)
  else none
  else none
 else
  (z1 l_1.fGives).bind fun r1=>
  bif r1 then
  (z2 l_1.fGives).bind fun r2=>
  bif r2 then
   (z3 l_1).bind fun r3=>
   bif r3 then
   (z4 l_1.fDone).bind fun r4=>
   bif r4 then
    (z5 l_1.fBox).bind fun r5=>
    some r5
   else
    some false
   else
   some false
  else
   some false
  else
  some false
noncomputable def Z5:Nat→Y5→Option Bool
 | 0,_=>none
 | m+1,s=>XAE Hl Il Jl Em Gm Lm (Z5 m) s
noncomputable def Aw:WAJ:=HAP Hl Il Jl Em Gm Lm (Z5 gas)
theorem PAg:Tells ctx PP 24 cv138 cv6 (fun a=>Aw a):=
 have b:∀ z0 z1 z2 z3 z4 z5,CutIs ctx PP 24 Tryz.f24 [] [(81,KAW z0),(82,NAW z1),(83,PAW z2),(18,FAZ z3),(84,HAZ z4),(14,LAZ z5)] cv6 MAZ (XAE z0 z1 z2 z3 z4 z5):=fun z0 z1 z2 z3 z4 z5 _ s=>by cases s <;> kernel_rfl
 have e:∀ z0 z1 z2 z3 z4 z5,EntryIs ctx PP 24 [] [(81,KAW z0),(82,NAW z1),(83,PAW z2),(18,FAZ z3),(84,HAZ z4),(14,LAZ z5)] cv138 cv6 MAZ (fun k a=>HAP z0 z1 z2 z3 z4 z5 k a):=fun z0 z1 z2 z3 z4 z5 _ a=>by kernel_rfl
 fn_ok (hc UAi (hc VAi (hc WAi (hc TAk (hc UAk (hc WAk hl_nil)))))) Tryz.func24 (fun s s' h=>by cases s;cases s';(repeat cases ‹SLife›);(repeat cases ‹SBox›);(repeat cases ‹SDisk›);(repeat cases ‹SBook›);cases h;rfl) (fun _=>rfl) (fun _ _=>rfl) (b Hl Il Jl Em Gm Lm) (e Hl Il Jl Em Gm Lm) gas
noncomputable def SAg {γ:Type} (F:WAJ):Hd ctx γ:=hdl cv138.dec (fun a=>F a) cv6.enc
abbrev WAA:=(List SRec)→Int→Option Int
inductive D6 where
 | c0 (id_1:Int) (out_5:Int) (v_8:(List SRec)) (v_9:Int) (v_10:Int)
noncomputable def NAZ:D6→LI
 | .c0 id_1 out_5 v_8 v_9 v_10=>(tdo Tryz.f85 232,[(1,[.one (.int .i64 id_1)]),(5,[.one (.int .i64 out_5)]),(8,[.one (.rsl 71 v_8)]),(9,[.one (.int .i64 v_9)]),(10,[.one (.int .i64 v_10)])],[])
noncomputable def IAP (k:D6→Option Int) (list_0:(List SRec)) (id_1:Int):Option Int:=
 k (.c0 id_1 0 list_0 (list_0.length:Int) 0)
noncomputable def YAE (k:D6→Option Int):D6→Option Int
 | .c0 id_1 out_5 v_8 v_9 v_10=>
 bif (decide (v_10<v_9)) then
  bif ((decide (0≤v_10)) && (decide (v_10<(v_8.length:Int)))) then
  bif ((v_8.getD v_10.toNat (⟨0,⟨#[]⟩,0,⟨0,0,false,false,false,false,⟨#[]⟩,0⟩⟩:SRec)).fKind == 3) then
  bif ((v_8.getD v_10.toNat (⟨0,⟨#[]⟩,0,⟨0,0,false,false,false,false,⟨#[]⟩,0⟩⟩:SRec)).fThing.fId == id_1) then
   k (.c0 id_1 (v_8.getD v_10.toNat (⟨0,⟨#[]⟩,0,⟨0,0,false,false,false,false,⟨#[]⟩,0⟩⟩:SRec)).fThing.fNext v_8 v_9 (w64 (v_10+1)))
  else
   k (.c0 id_1 out_5 v_8 v_9 (w64 (v_10+1)))
  else
  k (.c0 id_1 out_5 v_8 v_9 (w64 (v_10+1)))
  else none
 else
  some out_5
noncomputable def F6:Nat→D6→Option Int
 | 0,_=>none
 | m+1,s=>YAE (F6 m) s
noncomputable def Qj:WAA:=IAP (F6 gas)
theorem GAf:Tells ctx PP 85 cv146 cv15 (fun a=>Qj a.1 a.2):=
 have b:CutIs ctx PP 85 Tryz.f85 [] [] cv15 NAZ (YAE):=fun _ s=>by cases s <;> kernel_rfl
 have e:EntryIs ctx PP 85 [] [] cv146 cv15 NAZ (fun k a=>IAP k a.1 a.2):=fun _ a=>by kernel_rfl
 fn_ok hl_nil Tryz.func85 (fun s s' h=>by cases s;cases s';cases h;rfl) (fun _=>rfl) (fun _ _=>rfl) b e gas
noncomputable def RAU {γ:Type} (F:WAA):Hd ctx γ:=hdl cv146.dec (fun a=>F a.1 a.2) cv15.enc
abbrev XAA:=(List SGiven)→Option Bool
inductive G6 where
 | c0 (list_0:(List SGiven)) (v_7:(List SGiven)) (v_8:Int) (v_9:Int)
 | c1 (list_0:(List SGiven)) (v_7:(List SGiven)) (v_8:Int) (v_9:Int) (v_16:(List SGiven)) (v_17:Int) (v_18:Int) (g_4:SGiven)
noncomputable def OAZ:G6→LI
 | .c0 list_0 v_7 v_8 v_9=>(tdo Tryz.f86 104,[(0,[.one (.rsl 117 list_0)]),(7,[.one (.rsl 117 v_7)]),(8,[.one (.int .i64 v_8)]),(9,[.one (.int .i64 v_9)])],[])
 | .c1 list_0 v_7 v_8 v_9 v_16 v_17 v_18 g_4=>(tdo Tryz.f86 27032,[(0,[.one (.rsl 117 list_0)]),(4,[.one (.ptr 256 0)]),(7,[.one (.rsl 117 v_7)]),(8,[.one (.int .i64 v_8)]),(9,[.one (.int .i64 v_9)]),(16,[.one (.rsl 117 v_16)]),(17,[.one (.int .i64 v_17)]),(18,[.one (.int .i64 v_18)])],[(256,.var [.int .i64 g_4.fThing,.int .i64 g_4.fLeaf,.int .i64 g_4.fWhen])])
noncomputable def JAP (k:G6→Option Bool) (list_0:(List SGiven)):Option Bool:=
 k (.c0 list_0 list_0 (list_0.length:Int) 0)
noncomputable def Kq (k:G6→Option Bool):G6→Option Bool
 | .c0 list_0 v_7 v_8 v_9=>
 bif (decide (v_9<v_8)) then
  bif ((decide (0≤v_9)) && (decide (v_9<(v_7.length:Int)))) then
  bif ((decide (0≤v_9)) && (decide (v_9≤(list_0.length:Int)))) then
  k (.c1 list_0 v_7 v_8 v_9 ((list_0.take v_9.toNat).drop 0) (((list_0.take v_9.toNat).drop 0).length:Int) 0 (v_7.getD v_9.toNat (⟨0,0,0⟩:SGiven)))
  else none
  else none
 else
  some true
 | .c1 list_0 v_7 v_8 v_9 v_16 v_17 v_18 g_4=>
 bif (decide (v_18<v_17)) then
  bif ((decide (0≤v_18)) && (decide (v_18<(v_16.length:Int)))) then
  bif (g_4.fThing == (v_16.getD v_18.toNat (⟨0,0,0⟩:SGiven)).fThing) then
  bif (g_4.fLeaf == (v_16.getD v_18.toNat (⟨0,0,0⟩:SGiven)).fLeaf) then
   some false
  else
   k (.c1 list_0 v_7 v_8 v_9 v_16 v_17 (w64 (v_18+1)) g_4)
  else
  k (.c1 list_0 v_7 v_8 v_9 v_16 v_17 (w64 (v_18+1)) g_4)
  else none
 else
  k (.c0 list_0 v_7 v_8 (w64 (v_9+1)))
noncomputable def Yg:Nat→G6→Option Bool
 | 0,_=>none
 | m+1,s=>Kq (Yg m) s
noncomputable def Rj:XAA:=JAP (Yg gas)
theorem HAf:Tells ctx PP 86 cv147 cv6 (fun a=>Rj a):=
 have b:CutIs ctx PP 86 Tryz.f86 [] [] cv6 OAZ (Kq):=fun _ s=>by cases s <;> kernel_rfl
 have e:EntryIs ctx PP 86 [] [] cv147 cv6 OAZ (fun k a=>JAP k a):=fun _ a=>by kernel_rfl
 fn_ok hl_nil Tryz.func86 (fun s s' h=>by cases s <;> cases s' <;> first | ((repeat cases ‹SGiven›);cases h;done) | ((repeat cases ‹SGiven›);cases h;rfl) | exact (rg_ne h (by kernel_rfl)).elim) (fun _=>rfl) (fun _ _=>rfl) b e gas
noncomputable def SAU {γ:Type} (F:XAA):Hd ctx γ:=hdl cv147.dec (fun a=>F a) cv6.enc
abbrev ZAE:=(List SGiven)→Int→Option (List Int)
inductive H6 where
 | c0 (thing_1:Int) (v_8:(List SGiven)) (v_9:Int) (v_10:Int) (out_5:(List Int))
noncomputable def PAZ:H6→LI
 | .c0 thing_1 v_8 v_9 v_10 out_5=>(tdo Tryz.f140 232,[(1,[.one (.int .i64 thing_1)]),(5,[.one (.own 368)]),(8,[.one (.rsl 117 v_8)]),(9,[.one (.int .i64 v_9)]),(10,[.one (.int .i64 v_10)])],[(368,.sl 3 out_5)])
noncomputable def QAZ (k:H6→Option (List Int)) (list_0:(List SGiven)) (thing_1:Int):Option (List Int):=
 k (.c0 thing_1 list_0 (list_0.length:Int) 0 [])
noncomputable def AAF (k:H6→Option (List Int)):H6→Option (List Int)
 | .c0 thing_1 v_8 v_9 v_10 out_5=>
 bif (decide (v_10<v_9)) then
  bif ((decide (0≤v_10)) && (decide (v_10<(v_8.length:Int)))) then
  bif ((v_8.getD v_10.toNat (⟨0,0,0⟩:SGiven)).fThing == thing_1) then
  bif (decide (((out_5.length+1)*8)≤140737488355328)) then
  k (.c0 thing_1 v_8 v_9 (w64 (v_10+1)) (out_5++[(v_8.getD v_10.toNat (⟨0,0,0⟩:SGiven)).fLeaf]))
  else none
  else
  k (.c0 thing_1 v_8 v_9 (w64 (v_10+1)) out_5)
  else none
 else
  some out_5
noncomputable def Nq:Nat→H6→Option (List Int)
 | 0,_=>none
 | m+1,s=>AAF (Nq m) s
noncomputable def Oq:ZAE:=QAZ (Nq gas)
theorem XAk:Tells ctx PP 140 cv149 cv128 (fun a=>Oq a.1 a.2):=
 have b:CutIs ctx PP 140 Tryz.f140 [] [] cv128 PAZ (AAF):=fun _ s=>by cases s <;> kernel_rfl
 have e:EntryIs ctx PP 140 [] [] cv149 cv128 PAZ (fun k a=>QAZ k a.1 a.2):=fun _ a=>by kernel_rfl
 fn_ok hl_nil Tryz.func140 (fun s s' h=>by cases s;cases s';cases h;rfl) (fun _=>rfl) (fun _ _=>rfl) b e gas
noncomputable def RAZ {γ:Type} (F:ZAE):Hd ctx γ:=hdl cv149.dec (fun a=>F a.1 a.2) cv128.enc
abbrev YAA:=(List SGiven)→Option Bool
inductive J6 where
 | c0 (list_0:(List SGiven)) (v_7:(List SGiven)) (v_8:Int) (v_9:Int)
 | c1 (list_0:(List SGiven)) (i_6:Int) (v_7:(List SGiven)) (v_8:Int) (v_9:Int) (l_5:(List Int))
noncomputable def SAZ:J6→LI
 | .c0 list_0 v_7 v_8 v_9=>(tdo Tryz.f87 104,[(0,[.one (.rsl 117 list_0)]),(7,[.one (.rsl 117 v_7)]),(8,[.one (.int .i64 v_8)]),(9,[.one (.int .i64 v_9)])],[])
 | .c1 list_0 i_6 v_7 v_8 v_9 l_5=>(tdo Tryz.f87 108144,[(0,[.one (.rsl 117 list_0)]),(5,[.one (.own 368)]),(6,[.one (.int .i64 i_6)]),(7,[.one (.rsl 117 v_7)]),(8,[.one (.int .i64 v_8)]),(9,[.one (.int .i64 v_9)])],[(368,.sl 3 l_5)])
noncomputable def KAP (z0:ZAE) (k:J6→Option Bool) (list_0:(List SGiven)):Option Bool:=
 k (.c0 list_0 list_0 (list_0.length:Int) 0)
noncomputable def Pq (z0:ZAE) (k:J6→Option Bool):J6→Option Bool
 | .c0 list_0 v_7 v_8 v_9=>
 bif (decide (v_9<v_8)) then
  bif ((decide (0≤v_9)) && (decide (v_9<(v_7.length:Int)))) then
  (z0 list_0 (v_7.getD v_9.toNat (⟨0,0,0⟩:SGiven)).fThing).bind fun r0=>
  k (.c1 list_0 1 v_7 v_8 v_9 r0)
  else none
 else
  some true
 | .c1 list_0 i_6 v_7 v_8 v_9 l_5=>
 bif (decide (i_6<(l_5.length:Int))) then
  bif ((decide (0≤(w64 (i_6 - 1)))) && (decide ((w64 (i_6 - 1))<(l_5.length:Int)))) then
  bif ((decide (0≤i_6)) && (decide (i_6<(l_5.length:Int)))) then
  bif (decide ((l_5.getD (w64 (i_6 - 1)).toNat 0)≥(l_5.getD i_6.toNat 0))) then
  some false
  else
  k (.c1 list_0 (w64 (i_6+1)) v_7 v_8 v_9 l_5)
  else none
  else none
 else
  k (.c0 list_0 v_7 v_8 (w64 (v_9+1)))
noncomputable def Zg:Nat→J6→Option Bool
 | 0,_=>none
 | m+1,s=>Pq Oq (Zg m) s
noncomputable def Sj:YAA:=KAP Oq (Zg gas)
theorem IAf:Tells ctx PP 87 cv147 cv6 (fun a=>Sj a):=
 have b:∀ z0,CutIs ctx PP 87 Tryz.f87 [] [(140,RAZ z0)] cv6 SAZ (Pq z0):=fun z0 _ s=>by cases s <;> kernel_rfl
 have e:∀ z0,EntryIs ctx PP 87 [] [(140,RAZ z0)] cv147 cv6 SAZ (fun k a=>KAP z0 k a):=fun z0 _ a=>by kernel_rfl
 fn_ok (hc XAk hl_nil) Tryz.func87 (fun s s' h=>by cases s <;> cases s' <;> first | (cases h;done) | (cases h;rfl) | exact (rg_ne h (by kernel_rfl)).elim) (fun _=>rfl) (fun _ _=>rfl) (b Oq) (e Oq) gas
noncomputable def TAU {γ:Type} (F:YAA):Hd ctx γ:=hdl cv147.dec (fun a=>F a) cv6.enc
abbrev LAP:=Option (List Int)
noncomputable def TAZ  : Option (List Int):=
 some [1779033703,3144134277,1013904242,2773480762,1359893119,2600822924,528734635,1541459225]
noncomputable def BAF:LAP:=TAZ
theorem YAk:Tells ctx PP 103 cv0 cv45 (fun _=>BAF):=fn_ok0 hl_nil Tryz.func103 (fun _=>by kernel_rfl:EntryIs0 ctx PP 103 [] [] cv0 cv45 fun _=>TAZ)
noncomputable def ZAk {γ:Type} (F:LAP):Hd ctx γ:=hdl cv0.dec (fun _=>F) cv45.enc
abbrev Ws:=Int→Option ByteArray
noncomputable def NAP (n_0:Int):Option ByteArray:=
 bif ((((decide (0≤n_0)) && (decide (n_0≤n_0))) && (decide (n_0≤9223372036854775807))) && (decide ((n_0.toNat*1)≤140737488355328))) then
 some (ofBytes (List.replicate n_0.toNat (0:Int)))
 else none
noncomputable def He:Ws:=NAP
theorem GAH:Tells ctx PP 99 cv15 cv3 (fun a=>He a):=fn_ok0 hl_nil Tryz.func99 (fun a=>by kernel_rfl:EntryIs0 ctx PP 99 [] [] cv15 cv3 fun a=>NAP a)
noncomputable def IAH {γ:Type} (F:Ws):Hd ctx γ:=hdl cv15.dec (fun a=>F a) cv3.enc
abbrev Qh:=Int→Option ByteArray
noncomputable def OAP (n_0:Int):Option ByteArray:=
 some (ofBytes [(w8 (Int.fdiv n_0 (2 ^ (Min.min (24:Int).toNat (IntKind.bits IntKind.u32))))),(w8 (Int.fdiv n_0 (2 ^ (Min.min (16:Int).toNat (IntKind.bits IntKind.u32))))),(w8 (Int.fdiv n_0 (2 ^ (Min.min (8:Int).toNat (IntKind.bits IntKind.u32))))),(w8 n_0)])
noncomputable def WZ:Qh:=OAP
theorem V9:Tells ctx PP 158 cv8 cv3 (fun a=>WZ a):=fn_ok0 hl_nil Tryz.func158 (fun a=>by kernel_rfl:EntryIs0 ctx PP 158 [] [] cv8 cv3 fun a=>OAP a)
noncomputable def Ho {γ:Type} (F:Qh):Hd ctx γ:=hdl cv8.dec (fun a=>F a) cv3.enc
abbrev PAP:=Int→Option ByteArray
noncomputable def QAP (z0:Qh) (n_0:Int):Option ByteArray:=
 (z0 (w32 (Int.fdiv n_0 (2 ^ (Min.min (32:Int).toNat (IntKind.bits IntKind.i64)))))).bind fun r0=>
 (z0 (w32 n_0)).bind fun r1=>
 bif (decide ((r0.size+r1.size)≤9223372036854775807)) then
 some (r0++r1)
 else none
noncomputable def L6:PAP:=QAP WZ
theorem AAl:Tells ctx PP 157 cv15 cv3 (fun a=>L6 a):=fn_ok0 (hc V9 hl_nil) Tryz.func157 ((fun z0 a=>by kernel_rfl:∀ z0,EntryIs0 ctx PP 157 [] [(158,Ho z0)] cv15 cv3 fun a=>QAP z0 a) WZ)
noncomputable def BAl {γ:Type} (F:PAP):Hd ctx γ:=hdl cv15.dec (fun a=>F a) cv3.enc
abbrev RAP:=Int→Option ByteArray
noncomputable def SAP (z0:Ws) (z1:PAP) (count_0:Int):Option ByteArray:=
 (z0 ((w64 (119 - (count_0.tmod 64))).tmod 64)).bind fun r0=>
 bif (decide (((⟨#[128]⟩:ByteArray).size+r0.size)≤9223372036854775807)) then
 (z1 (w64 (8*count_0))).bind fun r1=>
 bif (decide ((((⟨#[128]⟩:ByteArray)++r0).size+r1.size)≤9223372036854775807)) then
 some (((⟨#[128]⟩:ByteArray)++r0)++r1)
 else none
 else none
noncomputable def O6:RAP:=SAP He L6
theorem CAl:Tells ctx PP 104 cv15 cv3 (fun a=>O6 a):=fn_ok0 (hc GAH (hc AAl hl_nil)) Tryz.func104 ((fun z0 z1 a=>by kernel_rfl:∀ z0 z1,EntryIs0 ctx PP 104 [] [(99,IAH z0),(157,BAl z1)] cv15 cv3 fun a=>SAP z0 z1 a) He L6)
noncomputable def DAl {γ:Type} (F:RAP):Hd ctx γ:=hdl cv15.dec (fun a=>F a) cv3.enc
abbrev TAP:=Int→Int→Option Int
noncomputable def UAP (x_0:Int) (k_1:Int):Option Int:=
 bif (decide (0≤(wu64 (32 - (wu64 (((BitVec.toNat ((BitVec.ofInt (IntKind.bits IntKind.u64) (wu64 k_1)) &&& (BitVec.ofInt (IntKind.bits IntKind.u64) 31))):Nat):Int)))))) then
 some (w32 (((BitVec.toNat ((BitVec.ofInt (IntKind.bits IntKind.u32) (w32 (x_0*(2 ^ (Min.min (wu64 (((BitVec.toNat ((BitVec.ofInt (IntKind.bits IntKind.u64) (wu64 k_1)) &&& (BitVec.ofInt (IntKind.bits IntKind.u64) 31))):Nat):Int)).toNat (IntKind.bits IntKind.u32)))))) ||| (BitVec.ofInt (IntKind.bits IntKind.u32) (Int.fdiv x_0 (2 ^ (Min.min (wu64 (32 - (wu64 (((BitVec.toNat ((BitVec.ofInt (IntKind.bits IntKind.u64) (wu64 k_1)) &&& (BitVec.ofInt (IntKind.bits IntKind.u64) 31))):Nat):Int)))).toNat (IntKind.bits IntKind.u32))))))):Nat):Int))
 else none
noncomputable def P6:TAP:=UAP
theorem EAl:Tells ctx PP 212 cv46 cv8 (fun a=>P6 a.1 a.2):=fn_ok0 hl_nil Tryz.func212 (fun a=>by kernel_rfl:EntryIs0 ctx PP 212 [] [] cv46 cv8 fun a=>UAP a.1 a.2)
noncomputable def FAl {γ:Type} (F:TAP):Hd ctx γ:=hdl cv46.dec (fun a=>F a.1 a.2) cv8.enc
abbrev Qq:=Int→Int→Option Int
noncomputable def VAP (z0:TAP) (x_0:Int) (n_1:Int):Option Int:=
 (z0 x_0 (w64 (0 - n_1))).bind fun r0=>
 some r0
noncomputable def UY:Qq:=VAP P6
theorem UAZ:Tells ctx PP 195 cv46 cv8 (fun a=>UY a.1 a.2):=fn_ok0 (hc EAl hl_nil) Tryz.func195 ((fun z0 a=>by kernel_rfl:∀ z0,EntryIs0 ctx PP 195 [] [(212,FAl z0)] cv46 cv8 fun a=>VAP z0 a.1 a.2) P6)
noncomputable def CAF {γ:Type} (F:Qq):Hd ctx γ:=hdl cv46.dec (fun a=>F a.1 a.2) cv8.enc
abbrev DAF:=ByteArray→Option (List Int)
inductive U6 where
 | c0 (block_0:ByteArray) (v_11:Int) (v_2r0:(List Int)) (w_3r0:(List Int))
 | c1 (block_0:ByteArray) (i_4:Int) (v_11:Int) (v_14:Int) (v_2r0:(List Int)) (w_3r0:(List Int))
 | c2 (t_6:Int) (v_2r0:(List Int)) (w_3r0:(List Int))
noncomputable def VAZ:U6→LI
 | .c0 block_0 v_11 v_2r0 w_3r0=>(tdo Tryz.f194 232,[(0,[.one (.str block_0)]),(2,[.one (.ptr 128 0)]),(3,[.one (.ptr 192 0)]),(11,[.one (.int .i64 v_11)])],[(128,.ar 138 v_2r0),(192,.ar 138 w_3r0)])
 | .c1 block_0 i_4 v_11 v_14 v_2r0 w_3r0=>(tdo Tryz.f194 59800,[(0,[.one (.str block_0)]),(2,[.one (.ptr 128 0)]),(3,[.one (.ptr 192 0)]),(4,[.one (.int .i64 i_4)]),(11,[.one (.int .i64 v_11)]),(14,[.one (.int .i64 v_14)])],[(128,.ar 138 v_2r0),(192,.ar 138 w_3r0)])
 | .c2 t_6 v_2r0 w_3r0=>(tdo Tryz.f194 976,[(2,[.one (.ptr 128 0)]),(3,[.one (.ptr 192 0)]),(6,[.one (.int .i64 t_6)])],[(128,.ar 138 v_2r0),(192,.ar 138 w_3r0)])
noncomputable def WAP (z0:Qq) (k:U6→Option (List Int)) (block_0:ByteArray):Option (List Int):=
 k (.c0 block_0 0 (List.replicate 64 (0:Int)) (List.replicate 64 (0:Int)))
noncomputable def Gi (z0:Qq) (k:U6→Option (List Int)):U6→Option (List Int)
 | .c0 block_0 v_11 v_2r0 w_3r0=>
 bif (decide (v_11<16)) then
  k (.c1 block_0 v_11 v_11 0 v_2r0 w_3r0)
 else
  k (.c2 16 v_2r0 w_3r0)
 | .c1 block_0 i_4 v_11 v_14 v_2r0 w_3r0=>
 bif (decide (v_14<4)) then
  bif (Nat.beq 64 w_3r0.length) then
  bif ((decide (0≤i_4)) && (decide (i_4<(w_3r0.length:Int)))) then
  bif ((decide (0≤(w64 ((w64 (4*i_4))+v_14)))) && (decide ((w64 ((w64 (4*i_4))+v_14))<(block_0.size:Int)))) then
  bif (Nat.beq 64 w_3r0.length) then
  bif ((decide (0≤i_4)) && (decide (i_4<(w_3r0.length:Int)))) then
  k (.c1 block_0 i_4 v_11 (w64 (v_14+1)) v_2r0 (w_3r0.set i_4.toNat (w32 (((BitVec.toNat ((BitVec.ofInt (IntKind.bits IntKind.u32) (w32 ((w_3r0.getD i_4.toNat 0)*(2 ^ (Min.min (8:Int).toNat (IntKind.bits IntKind.u32)))))) ||| (BitVec.ofInt (IntKind.bits IntKind.u32) (w32 (bt block_0 (w64 ((w64 (4*i_4))+v_14))))))):Nat):Int))))
  else none
  else none
  else none
  else none
  else none
 else
  k (.c0 block_0 (w64 (v_11+1)) v_2r0 w_3r0)
 | .c2 t_6 v_2r0 w_3r0=>
 bif (decide (t_6<64)) then
  bif (Nat.beq 64 w_3r0.length) then
  bif ((decide (0≤(w64 (t_6 - 15)))) && (decide ((w64 (t_6 - 15))<(w_3r0.length:Int)))) then
  bif (Nat.beq 64 w_3r0.length) then
  bif ((decide (0≤(w64 (t_6 - 2)))) && (decide ((w64 (t_6 - 2))<(w_3r0.length:Int)))) then
  (z0 (w_3r0.getD (w64 (t_6 - 15)).toNat 0) 7).bind fun r0=>
  (z0 (w_3r0.getD (w64 (t_6 - 15)).toNat 0) 18).bind fun r1=>
  (z0 (w_3r0.getD (w64 (t_6 - 2)).toNat 0) 17).bind fun r2=>
  (z0 (w_3r0.getD (w64 (t_6 - 2)).toNat 0) 19).bind fun r3=>
  bif (Nat.beq 64 w_3r0.length) then
  bif ((decide (0≤(w64 (t_6 - 7)))) && (decide ((w64 (t_6 - 7))<(w_3r0.length:Int)))) then
  bif (Nat.beq 64 w_3r0.length) then
  bif ((decide (0≤(w64 (t_6 - 16)))) && (decide ((w64 (t_6 - 16))<(w_3r0.length:Int)))) then
  bif (Nat.beq 64 w_3r0.length) then
  bif ((decide (0≤t_6)) && (decide (t_6<(w_3r0.length:Int)))) then
  k (.c2 (w64 (t_6+1)) v_2r0 (w_3r0.set t_6.toNat (w32 ((w32 ((w32 ((w32 (((BitVec.toNat ((BitVec.ofInt (IntKind.bits IntKind.u32) (w32 (((BitVec.toNat ((BitVec.ofInt (IntKind.bits IntKind.u32) r2) ^^^ (BitVec.ofInt (IntKind.bits IntKind.u32) r3))):Nat):Int))) ^^^ (BitVec.ofInt (IntKind.bits IntKind.u32) (Int.fdiv (w_3r0.getD (w64 (t_6 - 2)).toNat 0) (2 ^ (Min.min (10:Int).toNat (IntKind.bits IntKind.u32))))))):Nat):Int))+(w_3r0.getD (w64 (t_6 - 7)).toNat 0)))+(w32 (((BitVec.toNat ((BitVec.ofInt (IntKind.bits IntKind.u32) (w32 (((BitVec.toNat ((BitVec.ofInt (IntKind.bits IntKind.u32) r0) ^^^ (BitVec.ofInt (IntKind.bits IntKind.u32) r1))):Nat):Int))) ^^^ (BitVec.ofInt (IntKind.bits IntKind.u32) (Int.fdiv (w_3r0.getD (w64 (t_6 - 15)).toNat 0) (2 ^ (Min.min (3:Int).toNat (IntKind.bits IntKind.u32))))))):Nat):Int))))+(w_3r0.getD (w64 (t_6 - 16)).toNat 0)))))
  else none
  else none
  else none
  else none
  else none
  else none
  else none
  else none
  else none
  else none
 else
  bif (Nat.beq 64 w_3r0.length) then
  bif ((Nat.beq w_3r0.length v_2r0.length) && (Nat.beq 64 w_3r0.length)) then
  bif ((Nat.beq 64 w_3r0.length) && true) then
  some w_3r0
  else none
  else none
  else none
noncomputable def Nb:Nat→U6→Option (List Int)
 | 0,_=>none
 | m+1,s=>Gi UY (Nb m) s
noncomputable def Om:DAF:=WAP UY (Nb gas)
theorem GAl:Tells ctx PP 194 cv3 cv45 (fun a=>Om a):=
 have b:∀ z0,CutIs ctx PP 194 Tryz.f194 [] [(195,CAF z0)] cv45 VAZ (Gi z0):=fun z0 _ s=>by cases s <;> kernel_rfl
 have e:∀ z0,EntryIs ctx PP 194 [] [(195,CAF z0)] cv3 cv45 VAZ (fun k a=>WAP z0 k a):=fun z0 _ a=>by kernel_rfl
 fn_ok (hc UAZ hl_nil) Tryz.func194 (fun s s' h=>by cases s <;> cases s' <;> first | (cases h;done) | (cases h;rfl) | exact (rg_ne h (by kernel_rfl)).elim) (fun _=>rfl) (fun _ _=>rfl) (b UY) (e UY) gas
noncomputable def WAZ {γ:Type} (F:DAF):Hd ctx γ:=hdl cv3.dec (fun a=>F a) cv45.enc
abbrev EAF:=(List Int)→ByteArray→Option (List Int)
inductive V6 where
 | c0 (a_6:Int) (b_7:Int) (c_8:Int) (d_9:Int) (e_10:Int) (f_11:Int) (g_12:Int) (h_13:Int) (v_37:Int) (state_2r0:(List Int)) (v_4r0:(List Int)) (w_5r0:(List Int))
 | c1 (v_109:Int) (state_2r0:(List Int)) (v_4r0:(List Int)) (out_17r0:(List Int))
noncomputable def XAZ:V6→LI
 | .c0 a_6 b_7 c_8 d_9 e_10 f_11 g_12 h_13 v_37 state_2r0 v_4r0 w_5r0=>(tdo Tryz.f156 488,[(2,[.one (.ptr 128 0)]),(4,[.one (.ptr 256 0)]),(5,[.one (.ptr 320 0)]),(6,[.one (.int .u32 a_6)]),(7,[.one (.int .u32 b_7)]),(8,[.one (.int .u32 c_8)]),(9,[.one (.int .u32 d_9)]),(10,[.one (.int .u32 e_10)]),(11,[.one (.int .u32 f_11)]),(12,[.one (.int .u32 g_12)]),(13,[.one (.int .u32 h_13)]),(37,[.one (.int .i64 v_37)])],[(128,.ar 138 state_2r0),(256,.ar 138 v_4r0),(320,.ar 138 w_5r0)])
 | .c1 v_109 state_2r0 v_4r0 out_17r0=>(tdo Tryz.f156 2024,[(2,[.one (.ptr 128 0)]),(4,[.one (.ptr 256 0)]),(17,[.one (.ptr 1088 0)]),(109,[.one (.int .i64 v_109)])],[(128,.ar 138 state_2r0),(256,.ar 138 v_4r0),(1088,.ar 138 out_17r0)])
noncomputable def XAP (z0:DAF) (z1:Qq) (k:V6→Option (List Int)) (state_0:(List Int)) (block_1:ByteArray):Option (List Int):=
 (z0 block_1).bind fun r0=>
 bif ((Nat.beq r0.length (List.replicate 64 (0:Int)).length) && (Nat.beq 64 r0.length)) then
 bif (Nat.beq 8 state_0.length) then
 bif ((decide ((0:Int)≤(0:Int))) && (decide (0<(state_0.length:Int)))) then
 bif (Nat.beq 8 state_0.length) then
 bif ((decide ((0:Int)≤(1:Int))) && (decide (1<(state_0.length:Int)))) then
 bif (Nat.beq 8 state_0.length) then
 bif ((decide ((0:Int)≤(2:Int))) && (decide (2<(state_0.length:Int)))) then
 bif (Nat.beq 8 state_0.length) then
 bif ((decide ((0:Int)≤(3:Int))) && (decide (3<(state_0.length:Int)))) then
 bif (Nat.beq 8 state_0.length) then
 bif ((decide ((0:Int)≤(4:Int))) && (decide (4<(state_0.length:Int)))) then
 bif (Nat.beq 8 state_0.length) then
 bif ((decide ((0:Int)≤(5:Int))) && (decide (5<(state_0.length:Int)))) then
 bif (Nat.beq 8 state_0.length) then
 bif ((decide ((0:Int)≤(6:Int))) && (decide (6<(state_0.length:Int)))) then
 bif (Nat.beq 8 state_0.length) then
 bif ((decide ((0:Int)≤(7:Int))) && (decide (7<(state_0.length:Int)))) then
 k (.c0 (state_0.getD (0:Int).toNat 0) (state_0.getD (1:Int).toNat 0) (state_0.getD (2:Int).toNat 0) (state_0.getD (3:Int).toNat 0) (state_0.getD (4:Int).toNat 0) (state_0.getD (5:Int).toNat 0) (state_0.getD (6:Int).toNat 0) (state_0.getD (7:Int).toNat 0) 0 state_0 [0,0,0,0,0,0,0,0] r0)
 else none
 else none
 else none
 else none
 else none
 else none
 else none
 else none
 else none
 else none
 else none
 else none
 else none
 else none
 else none
 else none
 else none
noncomputable def Rq (z0:DAF) (z1:Qq) (k:V6→Option (List Int)):V6→Option (List Int)
 | .c0 a_6 b_7 c_8 d_9 e_10 f_11 g_12 h_13 v_37 state_2r0 v_4r0 w_5r0=>
 bif (decide (v_37<64)) then
  (z1 e_10 6).bind fun r0=>
  (z1 e_10 11).bind fun r1=>
  (z1 e_10 25).bind fun r2=>
  bif ((decide (0≤v_37)) && (decide (v_37<((64:Nat):Int)))) then
  bif (Nat.blt v_37.toNat 64) then
  bif (Nat.beq 64 w_5r0.length) then
  bif ((decide (0≤v_37)) && (decide (v_37<(w_5r0.length:Int)))) then
  (z1 a_6 2).bind fun r3=>
  (z1 a_6 13).bind fun r4=>
  (z1 a_6 22).bind fun r5=>
  k (.c0 (w32 ((w32 ((w32 ((w32 ((w32 (h_13+(w32 (((BitVec.toNat ((BitVec.ofInt (IntKind.bits IntKind.u32) (w32 (((BitVec.toNat ((BitVec.ofInt (IntKind.bits IntKind.u32) r0) ^^^ (BitVec.ofInt (IntKind.bits IntKind.u32) r1))):Nat):Int))) ^^^ (BitVec.ofInt (IntKind.bits IntKind.u32) r2))):Nat):Int))))+(w32 (((BitVec.toNat ((BitVec.ofInt (IntKind.bits IntKind.u32) (w32 (((BitVec.toNat ((BitVec.ofInt (IntKind.bits IntKind.u32) e_10) &&& (BitVec.ofInt (IntKind.bits IntKind.u32) f_11))):Nat):Int))) ^^^ (BitVec.ofInt (IntKind.bits IntKind.u32) (w32 (((BitVec.toNat ((BitVec.ofInt (IntKind.bits IntKind.u32) (w32 (((BitVec.toNat ((BitVec.ofInt (IntKind.bits IntKind.u32) (ite ((IntKind.signed IntKind.u32)=true) (-(1:Int)) (IntKind.max IntKind.u32))) ^^^ (BitVec.ofInt (IntKind.bits IntKind.u32) e_10))):Nat):Int))) &&& (BitVec.ofInt (IntKind.bits IntKind.u32) g_12))):Nat):Int))))):Nat):Int))))+([(1116352408:Int),(1899447441:Int),(3049323471:Int),(3921009573:Int),(961987163:Int),(1508970993:Int),(2453635748:Int),(2870763221:Int),(3624381080:Int),(310598401:Int),(607225278:Int),(1426881987:Int),(1925078388:Int),(2162078206:Int),(2614888103:Int),(3248222580:Int),(3835390401:Int),(4022224774:Int),(264347078:Int),(604807628:Int),(770255983:Int),(1249150122:Int),(1555081692:Int),(1996064986:Int),(2554220882:Int),(2821834349:Int),(2952996808:Int),(3210313671:Int),(3336571891:Int),(3584528711:Int),(113926993:Int),(338241895:Int),(666307205:Int),(773529912:Int),(1294757372:Int),(1396182291:Int),(1695183700:Int),(1986661051:Int),(2177026350:Int),(2456956037:Int),(2730485921:Int),(2820302411:Int),(3259730800:Int),(3345764771:Int),(3516065817:Int),(3600352804:Int),(4094571909:Int),(275423344:Int),(430227734:Int),(506948616:Int),(659060556:Int),(883997877:Int),(958139571:Int),(1322822218:Int),(1537002063:Int),(1747873779:Int),(1955562222:Int),(2024104815:Int),(2227730452:Int),(2361852424:Int),(2428436474:Int),(2756734187:Int),(3204031479:Int),(3329325298:Int)].getD v_37.toNat 0)))+(w_5r0.getD v_37.toNat 0)))+(w32 ((w32 (((BitVec.toNat ((BitVec.ofInt (IntKind.bits IntKind.u32) (w32 (((BitVec.toNat ((BitVec.ofInt (IntKind.bits IntKind.u32) r3) ^^^ (BitVec.ofInt (IntKind.bits IntKind.u32) r4))):Nat):Int))) ^^^ (BitVec.ofInt (IntKind.bits IntKind.u32) r5))):Nat):Int))+(w32 (((BitVec.toNat ((BitVec.ofInt (IntKind.bits IntKind.u32) (w32 (((BitVec.toNat ((BitVec.ofInt (IntKind.bits IntKind.u32) (w32 (((BitVec.toNat ((BitVec.ofInt (IntKind.bits IntKind.u32) a_6) &&& (BitVec.ofInt (IntKind.bits IntKind.u32) b_7))):Nat):Int))) ^^^ (BitVec.ofInt (IntKind.bits IntKind.u32) (w32 (((BitVec.toNat ((BitVec.ofInt (IntKind.bits IntKind.u32) a_6) &&& (BitVec.ofInt (IntKind.bits IntKind.u32) c_8))):Nat):Int))))):Nat):Int))) ^^^ (BitVec.ofInt (IntKind.bits IntKind.u32) (w32 (((BitVec.toNat ((BitVec.ofInt (IntKind.bits IntKind.u32) b_7) &&& (BitVec.ofInt (IntKind.bits IntKind.u32) c_8))):Nat):Int))))):Nat):Int)))))) a_6 b_7 c_8 (w32 (d_9+(w32 ((w32 ((w32 ((w32 (h_13+(w32 (((BitVec.toNat ((BitVec.ofInt (IntKind.bits IntKind.u32) (w32 (((BitVec.toNat ((BitVec.ofInt (IntKind.bits IntKind.u32) r0) ^^^ (BitVec.ofInt (IntKind.bits IntKind.u32) r1))):Nat):Int))) ^^^ (BitVec.ofInt (IntKind.bits IntKind.u32) r2))):Nat):Int))))+(w32 (((BitVec.toNat ((BitVec.ofInt (IntKind.bits IntKind.u32) (w32 (((BitVec.toNat ((BitVec.ofInt (IntKind.bits IntKind.u32) e_10) &&& (BitVec.ofInt (IntKind.bits IntKind.u32) f_11))):Nat):Int))) ^^^ (BitVec.ofInt (IntKind.bits IntKind.u32) (w32 (((BitVec.toNat ((BitVec.ofInt (IntKind.bits IntKind.u32) (w32 (((BitVec.toNat ((BitVec.ofInt (IntKind.bits IntKind.u32) (ite ((IntKind.signed IntKind.u32)=true) (-(1:Int)) (IntKind.max IntKind.u32))) ^^^ (BitVec.ofInt (IntKind.bits IntKind.u32) e_10))):Nat):Int))) &&& (BitVec.ofInt (IntKind.bits IntKind.u32) g_12))):Nat):Int))))):Nat):Int))))+([(1116352408:Int),(1899447441:Int),(3049323471:Int),(3921009573:Int),(961987163:Int),(1508970993:Int),(2453635748:Int),(2870763221:Int),(3624381080:Int),(310598401:Int),(607225278:Int),(1426881987:Int),(1925078388:Int),(2162078206:Int),(2614888103:Int),(3248222580:Int),(3835390401:Int),(4022224774:Int),(264347078:Int),(604807628:Int),(770255983:Int),(1249150122:Int),(1555081692:Int),(1996064986:Int),(2554220882:Int),(2821834349:Int),(2952996808:Int),(3210313671:Int),(3336571891:Int),(3584528711:Int),(113926993:Int),(338241895:Int),(666307205:Int),(773529912:Int),(1294757372:Int),(1396182291:Int),(1695183700:Int),(1986661051:Int),(2177026350:Int),(2456956037:Int),(2730485921:Int),(2820302411:Int),(3259730800:Int),(3345764771:Int),(3516065817:Int),(3600352804:Int),(4094571909:Int),(275423344:Int),(430227734:Int),(506948616:Int),(659060556:Int),(883997877:Int),(958139571:Int),(1322822218:Int),(1537002063:Int),(1747873779:Int),(1955562222:Int),(2024104815:Int),(2227730452:Int),(2361852424:Int),(2428436474:Int),(2756734187:Int),(3204031479:Int),(3329325298:Int)].getD v_37.toNat 0)))+(w_5r0.getD v_37.toNat 0))))) e_10 f_11 g_12 (w64 (v_37+1)) state_2r0 v_4r0 w_5r0)
  else none
  else none
  else none
  else none
 else
  k (.c1 0 state_2r0 v_4r0 [a_6,b_7,c_8,d_9,e_10,f_11,g_12,h_13])
 | .c1 v_109 state_2r0 v_4r0 out_17r0=>
 bif (decide (v_109<8)) then
  bif (Nat.beq 8 out_17r0.length) then
  bif ((decide (0≤v_109)) && (decide (v_109<(out_17r0.length:Int)))) then
  bif (Nat.beq 8 state_2r0.length) then
  bif ((decide (0≤v_109)) && (decide (v_109<(state_2r0.length:Int)))) then
  bif (Nat.beq 8 out_17r0.length) then
  bif ((decide (0≤v_109)) && (decide (v_109<(out_17r0.length:Int)))) then
  k (.c1 (w64 (v_109+1)) state_2r0 v_4r0 (out_17r0.set v_109.toNat (w32 ((out_17r0.getD v_109.toNat 0)+(state_2r0.getD v_109.toNat 0)))))
  else none
  else none
  else none
  else none
  else none
  else none
 else
  bif (Nat.beq 8 out_17r0.length) then
  bif ((Nat.beq out_17r0.length v_4r0.length) && (Nat.beq 8 out_17r0.length)) then
  bif ((Nat.beq 8 out_17r0.length) && true) then
  some out_17r0
  else none
  else none
  else none
noncomputable def Jd:Nat→V6→Option (List Int)
 | 0,_=>none
 | m+1,s=>Rq Om UY (Jd m) s
noncomputable def Pm:EAF:=XAP Om UY (Jd gas)
theorem HAl:Tells ctx PP 156 cv47 cv45 (fun a=>Pm a.1 a.2):=
 have b:∀ z0 z1,CutIs ctx PP 156 Tryz.f156 [] [(194,WAZ z0),(195,CAF z1)] cv45 XAZ (Rq z0 z1):=fun z0 z1 _ s=>by cases s <;> kernel_rfl
 have e:∀ z0 z1,EntryIs ctx PP 156 [] [(194,WAZ z0),(195,CAF z1)] cv47 cv45 XAZ (fun k a=>XAP z0 z1 k a.1 a.2):=fun z0 z1 _ a=>by kernel_rfl
 fn_ok (hc GAl (hc UAZ hl_nil)) Tryz.func156 (fun s s' h=>by cases s <;> cases s' <;> first | (cases h;done) | (cases h;rfl) | exact (rg_ne h (by kernel_rfl)).elim) (fun _=>rfl) (fun _ _=>rfl) (b Om UY) (e Om UY) gas
noncomputable def YAZ {γ:Type} (F:EAF):Hd ctx γ:=hdl cv47.dec (fun a=>F a.1 a.2) cv45.enc
abbrev YAP:=(List Int)→ByteArray→Option ((List Int)×ByteArray)
inductive X6 where
 | c0 (s_1:ByteArray) (state_2r0:(List Int)) (v_4r0:(List Int))
noncomputable def ZAZ:X6→LI
 | .c0 s_1 state_2r0 v_4r0=>(tdo Tryz.f102 96,[(1,[.one (.str s_1)]),(2,[.one (.ptr 128 0)]),(4,[.one (.ptr 256 0)])],[(128,.ar 138 state_2r0),(256,.ar 138 v_4r0)])
noncomputable def ZAP (z0:EAF) (k:X6→Option ((List Int)×ByteArray)) (state_0:(List Int)) (s_1:ByteArray):Option ((List Int)×ByteArray):=
 k (.c0 s_1 state_0 [0,0,0,0,0,0,0,0])
noncomputable def FAF (z0:EAF) (k:X6→Option ((List Int)×ByteArray)):X6→Option ((List Int)×ByteArray)
 | .c0 s_1 state_2r0 v_4r0=>
 bif (decide ((s_1.size:Int)≥64)) then
  bif (Nat.beq 8 state_2r0.length) then
  bif ((decide ((0:Int)≤(64:Int))) && (decide (64≤(s_1.size:Int)))) then
  (z0 state_2r0 (s_1.extract 0 (64:Int).toNat)).bind fun r0=>
  bif ((Nat.beq r0.length state_2r0.length) && (Nat.beq 8 r0.length)) then
  bif ((decide ((0:Int)≤(64:Int))) && (decide (64≤(s_1.size:Int)))) then
  k (.c0 (s_1.extract (64:Int).toNat s_1.size) r0 v_4r0)
  else none
  else none
  else none
  else none
 else
  bif (Nat.beq 8 state_2r0.length) then
  bif ((Nat.beq state_2r0.length v_4r0.length) && (Nat.beq 8 state_2r0.length)) then
  bif ((Nat.beq 8 state_2r0.length) && true) then
  some (state_2r0,s_1)
  else none
  else none
  else none
noncomputable def Y6:Nat→X6→Option ((List Int)×ByteArray)
 | 0,_=>none
 | m+1,s=>FAF Pm (Y6 m) s
noncomputable def D7:YAP:=ZAP Pm (Y6 gas)
theorem IAl:Tells ctx PP 102 cv47 cv47 (fun a=>D7 a.1 a.2):=
 have b:∀ z0,CutIs ctx PP 102 Tryz.f102 [] [(156,YAZ z0)] cv47 ZAZ (FAF z0):=fun z0 _ s=>by cases s <;> kernel_rfl
 have e:∀ z0,EntryIs ctx PP 102 [] [(156,YAZ z0)] cv47 cv47 ZAZ (fun k a=>ZAP z0 k a.1 a.2):=fun z0 _ a=>by kernel_rfl
 fn_ok (hc HAl hl_nil) Tryz.func102 (fun s s' h=>by cases s;cases s';cases h;rfl) (fun _=>rfl) (fun _ _=>rfl) (b Pm) (e Pm) gas
noncomputable def JAl {γ:Type} (F:YAP):Hd ctx γ:=hdl cv47.dec (fun a=>F a.1 a.2) cv47.enc
abbrev AAQ:=(List Int)→Option ByteArray
inductive F7 where
 | c0 (out_3:ByteArray) (v_6:(List Int)) (v_7:Int)
noncomputable def AAa:F7→LI
 | .c0 out_3 v_6 v_7=>(tdo Tryz.f105 232,[(3,[.one (.str out_3)]),(6,[.arr 138 v_6]),(7,[.one (.int .i64 v_7)])],[])
noncomputable def BAQ (z0:Qh) (k:F7→Option ByteArray) (state_0:(List Int)):Option ByteArray:=
 bif (Nat.beq 8 state_0.length) then
 k (.c0 ⟨#[]⟩ state_0 0)
 else none
noncomputable def GAF (z0:Qh) (k:F7→Option ByteArray):F7→Option ByteArray
 | .c0 out_3 v_6 v_7=>
 bif (decide (v_7<8)) then
  bif (Nat.beq 8 v_6.length) then
  bif ((decide (0≤v_7)) && (decide (v_7<(v_6.length:Int)))) then
  (z0 (v_6.getD v_7.toNat 0)).bind fun r0=>
  bif (decide ((out_3.size+r0.size)≤9223372036854775807)) then
  k (.c0 (out_3++r0) v_6 (w64 (v_7+1)))
  else none
  else none
  else none
 else
  some out_3
noncomputable def G7:Nat→F7→Option ByteArray
 | 0,_=>none
 | m+1,s=>GAF WZ (G7 m) s
noncomputable def H7:AAQ:=BAQ WZ (G7 gas)
theorem KAl:Tells ctx PP 105 cv45 cv3 (fun a=>H7 a):=
 have b:∀ z0,CutIs ctx PP 105 Tryz.f105 [] [(158,Ho z0)] cv3 AAa (GAF z0):=fun z0 _ s=>by cases s <;> kernel_rfl
 have e:∀ z0,EntryIs ctx PP 105 [] [(158,Ho z0)] cv45 cv3 AAa (fun k a=>BAQ z0 k a):=fun z0 _ a=>by kernel_rfl
 fn_ok (hc V9 hl_nil) Tryz.func105 (fun s s' h=>by cases s;cases s';cases h;rfl) (fun _=>rfl) (fun _ _=>rfl) (b WZ) (e WZ) gas
noncomputable def LAl {γ:Type} (F:AAQ):Hd ctx γ:=hdl cv45.dec (fun a=>F a) cv3.enc
abbrev Vs:=ByteArray→Option ByteArray
noncomputable def CAQ (z0:LAP) (z1:RAP) (z2:YAP) (z3:AAQ) (s_0:ByteArray):Option ByteArray:=
 z0.bind fun r0=>
 (z1 (s_0.size:Int)).bind fun r1=>
 bif (decide ((s_0.size+r1.size)≤9223372036854775807)) then
 (z2 r0 (s_0++r1)).bind fun r2=>
 bif ((Nat.beq r2.1.length 8) && (Nat.beq 8 r2.1.length)) then
 bif (Nat.beq 8 r2.1.length) then
 (z3 r2.1).bind fun r3=>
 some r3
 else none
 else none
 else none
noncomputable def Lc:Vs:=CAQ BAF O6 D7 H7
theorem FAH:Tells ctx PP 32 cv3 cv3 (fun a=>Lc a):=fn_ok0 (hc YAk (hc CAl (hc IAl (hc KAl hl_nil)))) Tryz.func32 ((fun z0 z1 z2 z3 a=>by kernel_rfl:∀ z0 z1 z2 z3,EntryIs0 ctx PP 32 [] [(103,ZAk z0),(104,DAl z1),(102,JAl z2),(105,LAl z3)] cv3 cv3 fun a=>CAQ z0 z1 z2 z3 a) BAF O6 D7 H7)
noncomputable def HAH {γ:Type} (F:Vs):Hd ctx γ:=hdl cv3.dec (fun a=>F a) cv3.enc
abbrev Wh:=Option SBook
noncomputable def DAQ (z0:Vs) (z1:Ws)  : Option SBook:=
 (z0 ⟨#[]⟩).bind fun r0=>
 (z1 32).bind fun r1=>
 some ⟨r0,0,[],0,r1,0⟩
noncomputable def XZ:Wh:=DAQ Lc He
theorem OAA:Tells ctx PP 30 cv0 cv14 (fun _=>XZ):=fn_ok0 (hc FAH (hc GAH hl_nil)) Tryz.func30 ((fun z0 z1 _=>by kernel_rfl:∀ z0 z1,EntryIs0 ctx PP 30 [] [(32,HAH z0),(99,IAH z1)] cv0 cv14 fun _=>DAQ z0 z1) Lc He)
noncomputable def Oo {γ:Type} (F:Wh):Hd ctx γ:=hdl cv0.dec (fun _=>F) cv14.enc
abbrev I7:=SBook→Option SBook
noncomputable def EAQ (b_0:SBook):Option SBook:=
 bif (decide ((b_0.fThings.length*48)≤140737488355328)) then
 some b_0
 else none
noncomputable def Ah:I7:=EAQ
theorem BAa:Tells ctx PP 134 cv20 cv14 (fun a=>Ah a):=fn_ok0 hl_nil Tryz.func134 (fun a=>by kernel_rfl:EntryIs0 ctx PP 134 [] [] cv20 cv14 fun a=>EAQ a)
noncomputable def FAQ {γ:Type} (F:I7):Hd ctx γ:=hdl cv20.dec (fun a=>F a) cv14.enc
abbrev Rh:=Int→Option ByteArray
inductive J7 where
 | c0 (n_0:Int) (out_3:(List Int))
noncomputable def CAa:J7→LI
 | .c0 n_0 out_3=>(tdo Tryz.f186 224,[(0,[.one (.int .i64 n_0)]),(3,[.one (.own 240)])],[(240,.sl 5 out_3)])
noncomputable def DAa (k:J7→Option ByteArray) (n_0:Int):Option ByteArray:=
 k (.c0 n_0 [])
noncomputable def HAF (k:J7→Option ByteArray):J7→Option ByteArray
 | .c0 n_0 out_3=>
 bif (decide (n_0 > 127)) then
  bif (decide (((out_3.length+1)*1)≤140737488355328)) then
  k (.c0 (w64 (n_0.tdiv 128)) (out_3++[(w8 (w64 (128+(n_0.tmod 128))))]))
  else none
 else
  bif (decide (((out_3.length+1)*1)≤140737488355328)) then
  some (ofBytes (out_3++[(w8 n_0)]))
  else none
noncomputable def N7:Nat→J7→Option ByteArray
 | 0,_=>none
 | m+1,s=>HAF (N7 m) s
noncomputable def Ua:Rh:=DAa (N7 gas)
theorem Io:Tells ctx PP 186 cv15 cv3 (fun a=>Ua a):=
 have b:CutIs ctx PP 186 Tryz.f186 [] [] cv3 CAa (HAF):=fun _ s=>by cases s <;> kernel_rfl
 have e:EntryIs ctx PP 186 [] [] cv15 cv3 CAa (fun k a=>DAa k a):=fun _ a=>by kernel_rfl
 fn_ok hl_nil Tryz.func186 (fun s s' h=>by cases s;cases s';cases h;rfl) (fun _=>rfl) (fun _ _=>rfl) b e gas
noncomputable def Jo {γ:Type} (F:Rh):Hd ctx γ:=hdl cv15.dec (fun a=>F a) cv3.enc
abbrev VY:=Int→Int→Int→Option Bool
noncomputable def EAa (n_0:Int) (low_1:Int) (high_2:Int):Option Bool:=
 bif (decide (n_0≥low_1)) then
 some (decide (n_0≤high_2))
 else
 some false
noncomputable def QX:VY:=EAa
theorem Jc:Tells ctx PP 60 cv5 cv6 (fun a=>QX a.1 a.2.1 a.2.2):=fn_ok0 hl_nil Tryz.func60 (fun a=>by kernel_rfl:EntryIs0 ctx PP 60 [] [] cv5 cv6 fun a=>EAa a.1 a.2.1 a.2.2)
noncomputable def GZ {γ:Type} (F:VY):Hd ctx γ:=hdl cv5.dec (fun a=>F a.1 a.2.1 a.2.2) cv6.enc
abbrev O7:=SThing→Option Bool
noncomputable def GAQ (z0:VY) (x_0:SThing):Option Bool:=
 (z0 x_0.fId 1 1000).bind fun r0=>
 bif (!r0) then
 some false
 else
 (z0 x_0.fNext 0 16).bind fun r1=>
 bif (!r1) then
  some false
 else
  bif (x_0.fKind != 2) then
  bif (x_0.fNext != 0) then
   some false
  else
   bif x_0.fSigns then
   some false
   else
   bif (x_0.fKind != 1) then
    bif x_0.fWraps then
    some false
    else
    bif (x_0.fKind == 1) then
     bif (x_0.fKind == 1) then
     some ((x_0.fValue.size:Int) == 32)
     else
     bif (x_0.fKind == 3) then
      some (decide ((x_0.fValue.size:Int)≤100))
     else
      some false
    else
     bif (x_0.fKind == 2) then
     some ((x_0.fValue.size:Int) == 32)
     else
     bif (x_0.fKind == 3) then
      some (decide ((x_0.fValue.size:Int)≤100))
     else
      some false
   else
    bif (x_0.fKind == 1) then
    bif (x_0.fKind == 1) then
     some ((x_0.fValue.size:Int) == 32)
    else
     bif (x_0.fKind == 3) then
     some (decide ((x_0.fValue.size:Int)≤100))
     else
     some false
    else
    bif (x_0.fKind == 2) then
     some ((x_0.fValue.size:Int) == 32)
    else
     bif (x_0.fKind == 3) then
     some (decide ((x_0.fValue.size:Int)≤100))
     else
     some false
  else
  bif (x_0.fKind != 1) then
   bif x_0.fWraps then
   some false
   else
   bif (x_0.fKind == 1) then
    bif (x_0.fKind == 1) then
    some ((x_0.fValue.size:Int) == 32)
    else
    bif (x_0.fKind == 3) then
     some (decide ((x_0.fValue.size:Int)≤100))
    else
     some false
   else
    bif (x_0.fKind == 2) then
    some ((x_0.fValue.size:Int) == 32)
    else
    bif (x_0.fKind == 3) then
     some (decide ((x_0.fValue.size:Int)≤100))
    else
     some false
  else
   bif (x_0.fKind == 1) then
   bif (x_0.fKind == 1) then
    some ((x_0.fValue.size:Int) == 32)
   else
    bif (x_0.fKind == 3) then
    some (decide ((x_0.fValue.size:Int)≤100))
    else
    some false
   else
   bif (x_0.fKind == 2) then
    some ((x_0.fValue.size:Int) == 32)
   else
    bif (x_0.fKind == 3) then
    some (decide ((x_0.fValue.size:Int)≤100))
    else
    some false
noncomputable def Bh:O7:=GAQ QX
theorem FAa:Tells ctx PP 129 cv16 cv6 (fun a=>Bh a):=fn_ok0 (hc Jc hl_nil) Tryz.func129 ((fun z0 a=>by kernel_rfl:∀ z0,EntryIs0 ctx PP 129 [] [(60,GZ z0)] cv16 cv6 fun a=>GAQ z0 a) QX)
noncomputable def HAQ {γ:Type} (F:O7):Hd ctx γ:=hdl cv16.dec (fun a=>F a) cv6.enc
abbrev Ko:=Int→Option ByteArray
noncomputable def IAQ (n_0:Int):Option ByteArray:=
 some (ofBytes [(w8 n_0)])
noncomputable def Mc:Ko:=IAQ
theorem MAH:Tells ctx PP 188 cv15 cv3 (fun a=>Mc a):=fn_ok0 hl_nil Tryz.func188 (fun a=>by kernel_rfl:EntryIs0 ctx PP 188 [] [] cv15 cv3 fun a=>IAQ a)
noncomputable def Z9 {γ:Type} (F:Ko):Hd ctx γ:=hdl cv15.dec (fun a=>F a) cv3.enc
abbrev JAQ:=SThing→Option Int
inductive P7 where
 | c0 (n_3:Int) (v_15:Int) (v_16:Int) (v_14:(List Bool))
noncomputable def GAa:P7→LI
 | .c0 n_3 v_15 v_16 v_14=>(tdo Tryz.f207 232,[(3,[.one (.int .i64 n_3)]),(14,[.one (.own 944)]),(15,[.one (.int .i64 v_15)]),(16,[.one (.int .i64 v_16)])],[(944,.sl 4 v_14)])
noncomputable def KAQ (k:P7→Option Int) (x_0:SThing):Option Int:=
 k (.c0 0 ((4:Nat):Int) 0 [x_0.fHidden,x_0.fFixed,x_0.fSigns,x_0.fWraps])
noncomputable def HAa (k:P7→Option Int):P7→Option Int
 | .c0 n_3 v_15 v_16 v_14=>
 bif (decide (v_16<v_15)) then
  bif ((decide (0≤v_16)) && (decide (v_16<(v_14.length:Int)))) then
  bif (v_14.getD v_16.toNat false) then
  bif (decide (0≤v_16)) then
  k (.c0 (w64 (((BitVec.toNat ((BitVec.ofInt (IntKind.bits IntKind.i64) n_3) ||| (BitVec.ofInt (IntKind.bits IntKind.i64) (w64 (1*(2 ^ (Min.min v_16.toNat (IntKind.bits IntKind.i64)))))))):Nat):Int)) v_15 (w64 (v_16+1)) v_14)
  else none
  else
  k (.c0 n_3 v_15 (w64 (v_16+1)) v_14)
  else none
 else
  some n_3
noncomputable def LAQ:Nat→P7→Option Int
 | 0,_=>none
 | m+1,s=>HAa (LAQ m) s
noncomputable def Q7:JAQ:=KAQ (LAQ gas)
theorem MAl:Tells ctx PP 207 cv16 cv15 (fun a=>Q7 a):=
 have b:CutIs ctx PP 207 Tryz.f207 [] [] cv15 GAa (HAa):=fun _ s=>by cases s <;> kernel_rfl
 have e:EntryIs ctx PP 207 [] [] cv16 cv15 GAa (fun k a=>KAQ k a):=fun _ a=>by kernel_rfl
 fn_ok hl_nil Tryz.func207 (fun s s' h=>by cases s;cases s';cases h;rfl) (fun _=>rfl) (fun _ _=>rfl) b e gas
noncomputable def NAl {γ:Type} (F:JAQ):Hd ctx γ:=hdl cv16.dec (fun a=>F a) cv15.enc
abbrev MAQ:=ByteArray→Option ByteArray
noncomputable def NAQ (z0:Rh) (s_0:ByteArray):Option ByteArray:=
 (z0 (s_0.size:Int)).bind fun r0=>
 bif (decide ((r0.size+s_0.size)≤9223372036854775807)) then
 some (r0++s_0)
 else none
noncomputable def U7:MAQ:=NAQ Ua
theorem OAl:Tells ctx PP 208 cv3 cv3 (fun a=>U7 a):=fn_ok0 (hc Io hl_nil) Tryz.func208 ((fun z0 a=>by kernel_rfl:∀ z0,EntryIs0 ctx PP 208 [] [(186,Jo z0)] cv3 cv3 fun a=>NAQ z0 a) Ua)
noncomputable def PAl {γ:Type} (F:MAQ):Hd ctx γ:=hdl cv3.dec (fun a=>F a) cv3.enc
abbrev GAA:=SThing→Option (ByteArray×Bool)
noncomputable def OAQ (z0:O7) (z1:Rh) (z2:Ko) (z3:JAQ) (z4:MAQ) (x_0:SThing):Option (ByteArray×Bool):=
 (z0 x_0).bind fun r0=>
 bif (!r0) then
 some (⟨#[]⟩,false)
 else
 (z1 x_0.fId).bind fun r1=>
 (z2 x_0.fKind).bind fun r2=>
 bif (decide ((r1.size+r2.size)≤9223372036854775807)) then
 (z3 x_0).bind fun r3=>
 (z2 r3).bind fun r4=>
 bif (decide (((r1++r2).size+r4.size)≤9223372036854775807)) then
 (z4 x_0.fValue).bind fun r5=>
 bif (decide ((((r1++r2)++r4).size+r5.size)≤9223372036854775807)) then
 (z1 x_0.fNext).bind fun r6=>
 bif (decide (((((r1++r2)++r4)++r5).size+r6.size)≤9223372036854775807)) then
 some (((((r1++r2)++r4)++r5)++r6),true)
 else none
 else none
 else none
 else none
noncomputable def Cj:GAA:=OAQ Bh Ua Mc Q7 U7
theorem OAT:Tells ctx PP 187 cv16 cv18 (fun a=>Cj a):=fn_ok0 (hc FAa (hc Io (hc MAH (hc MAl (hc OAl hl_nil))))) Tryz.func187 ((fun z0 z1 z2 z3 z4 a=>by kernel_rfl:∀ z0 z1 z2 z3 z4,EntryIs0 ctx PP 187 [] [(129,HAQ z0),(186,Jo z1),(188,Z9 z2),(207,NAl z3),(208,PAl z4)] cv16 cv18 fun a=>OAQ z0 z1 z2 z3 z4 a) Bh Ua Mc Q7 U7)
noncomputable def QAT {γ:Type} (F:GAA):Hd ctx γ:=hdl cv16.dec (fun a=>F a) cv18.enc
abbrev IAA:=SRec→Option (ByteArray×Bool)
noncomputable def PAQ (z0:Rh) (z1:VY) (z2:GAA) (z3:Ko) (r_0:SRec):Option (ByteArray×Bool):=
 bif (r_0.fKind == 1) then
 bif (!((r_0.fText.size:Int) == 32)) then
  some (⟨#[]⟩,false)
 else
  bif (!((r_0.fKind == r_0.fKind) && (((ByteArray.toList r_0.fText) == (ByteArray.toList r_0.fText)) && ((r_0.fNum == 0) && (((r_0.fThing.fId == 0) && ((r_0.fThing.fKind == 0) && ((r_0.fThing.fHidden == false) && ((r_0.fThing.fFixed == false) && ((r_0.fThing.fSigns == false) && ((r_0.fThing.fWraps == false) && (((ByteArray.toList r_0.fThing.fValue) == (ByteArray.toList ⟨#[]⟩)) && ((r_0.fThing.fNext == 0) && true)))))))) && true))))) then
  some (⟨#[]⟩,false)
  else
  (z3 r_0.fKind).bind fun r0=>
  bif (decide ((r0.size+r_0.fText.size)≤9223372036854775807)) then
  some ((r0++r_0.fText),true)
  else none
 else
 bif (r_0.fKind == 2) then
  (z0 r_0.fNum).bind fun r1=>
  (z1 r_0.fNum 0 3).bind fun r2=>
  bif (!r2) then
  some (⟨#[]⟩,false)
  else
  bif (!((r_0.fKind == r_0.fKind) && (((ByteArray.toList r_0.fText) == (ByteArray.toList ⟨#[]⟩)) && ((r_0.fNum == r_0.fNum) && (((r_0.fThing.fId == 0) && ((r_0.fThing.fKind == 0) && ((r_0.fThing.fHidden == false) && ((r_0.fThing.fFixed == false) && ((r_0.fThing.fSigns == false) && ((r_0.fThing.fWraps == false) && (((ByteArray.toList r_0.fThing.fValue) == (ByteArray.toList ⟨#[]⟩)) && ((r_0.fThing.fNext == 0) && true)))))))) && true))))) then
   some (⟨#[]⟩,false)
  else
   (z3 r_0.fKind).bind fun r3=>
   bif (decide ((r3.size+r1.size)≤9223372036854775807)) then
   some ((r3++r1),true)
   else none
 else
  bif (r_0.fKind == 3) then
  (z2 r_0.fThing).bind fun r4=>
  bif (!r4.2) then
   some (⟨#[]⟩,false)
  else
   bif (!((r_0.fKind == r_0.fKind) && (((ByteArray.toList r_0.fText) == (ByteArray.toList ⟨#[]⟩)) && ((r_0.fNum == 0) && (((r_0.fThing.fId == r_0.fThing.fId) && ((r_0.fThing.fKind == r_0.fThing.fKind) && ((r_0.fThing.fHidden == r_0.fThing.fHidden) && ((r_0.fThing.fFixed == r_0.fThing.fFixed) && ((r_0.fThing.fSigns == r_0.fThing.fSigns) && ((r_0.fThing.fWraps == r_0.fThing.fWraps) && (((ByteArray.toList r_0.fThing.fValue) == (ByteArray.toList r_0.fThing.fValue)) && ((r_0.fThing.fNext == r_0.fThing.fNext) && true)))))))) && true))))) then
   some (⟨#[]⟩,false)
   else
   (z3 r_0.fKind).bind fun r5=>
   bif (decide ((r5.size+r4.1.size)≤9223372036854775807)) then
   some ((r5++r4.1),true)
   else none
  else
  bif (r_0.fKind == 4) then
   (z0 r_0.fNum).bind fun r6=>
   (z1 r_0.fNum 1 1000).bind fun r7=>
   bif (!r7) then
   some (⟨#[]⟩,false)
   else
   bif (!((r_0.fKind == r_0.fKind) && (((ByteArray.toList r_0.fText) == (ByteArray.toList ⟨#[]⟩)) && ((r_0.fNum == r_0.fNum) && (((r_0.fThing.fId == 0) && ((r_0.fThing.fKind == 0) && ((r_0.fThing.fHidden == false) && ((r_0.fThing.fFixed == false) && ((r_0.fThing.fSigns == false) && ((r_0.fThing.fWraps == false) && (((ByteArray.toList r_0.fThing.fValue) == (ByteArray.toList ⟨#[]⟩)) && ((r_0.fThing.fNext == 0) && true)))))))) && true))))) then
    some (⟨#[]⟩,false)
   else
    (z3 r_0.fKind).bind fun r8=>
    bif (decide ((r8.size+r6.size)≤9223372036854775807)) then
    some ((r8++r6),true)
    else none
  else
   some (⟨#[]⟩,false)
noncomputable def Fj:IAA:=PAQ Ua QX Cj Mc
theorem TAT:Tells ctx PP 151 cv19 cv18 (fun a=>Fj a):=fn_ok0 (hc Io (hc Jc (hc OAT (hc MAH hl_nil)))) Tryz.func151 ((fun z0 z1 z2 z3 a=>by kernel_rfl:∀ z0 z1 z2 z3,EntryIs0 ctx PP 151 [] [(186,Jo z0),(60,GZ z1),(187,QAT z2),(188,Z9 z3)] cv19 cv18 fun a=>PAQ z0 z1 z2 z3 a) Ua QX Cj Mc)
noncomputable def UAT {γ:Type} (F:IAA):Hd ctx γ:=hdl cv19.dec (fun a=>F a) cv18.enc
abbrev Ku:=SBook→Option Bool
inductive V7 where
 | c0 (v_6:(List SThing)) (v_7:Int) (v_8:Int) (b_1:SBook)
noncomputable def IAa:V7→LI
 | .c0 v_6 v_7 v_8 b_1=>(tdo Tryz.f63 104,[(1,[.one (.ptr 64 0)]),(6,[.one (.rsl 69 v_6)]),(7,[.one (.int .i64 v_7)]),(8,[.one (.int .i64 v_8)])],[(64,.var [.str b_1.fWord,.int .i64 b_1.fTries,.rsl 69 b_1.fThings,.int .i64 b_1.fLast,.str b_1.fChain,.int .i64 b_1.fCount])])
noncomputable def QAQ (z0:O7) (z1:VY) (k:V7→Option Bool) (b_0:SBook):Option Bool:=
 k (.c0 b_0.fThings (b_0.fThings.length:Int) 0 b_0)
noncomputable def IAF (z0:O7) (z1:VY) (k:V7→Option Bool):V7→Option Bool
 | .c0 v_6 v_7 v_8 b_1=>
 bif (decide (v_8<v_7)) then
  bif ((decide (0≤v_8)) && (decide (v_8<(v_6.length:Int)))) then
  (z0 (v_6.getD v_8.toNat (⟨0,0,false,false,false,false,⟨#[]⟩,0⟩:SThing))).bind fun r0=>
  bif (!r0) then
  some false
  else
  bif (decide ((v_6.getD v_8.toNat (⟨0,0,false,false,false,false,⟨#[]⟩,0⟩:SThing)).fId > b_1.fLast)) then
   some false
  else
   bif (decide (v_8 > 0)) then
   bif ((decide (0≤(w64 (v_8 - 1)))) && (decide ((w64 (v_8 - 1))<(b_1.fThings.length:Int)))) then
   bif (decide ((b_1.fThings.getD (w64 (v_8 - 1)).toNat (⟨0,0,false,false,false,false,⟨#[]⟩,0⟩:SThing)).fId≥(v_6.getD v_8.toNat (⟨0,0,false,false,false,false,⟨#[]⟩,0⟩:SThing)).fId)) then
    some false
   else
    k (.c0 v_6 v_7 (w64 (v_8+1)) b_1)
   else none
   else
   k (.c0 v_6 v_7 (w64 (v_8+1)) b_1)
  else none
 else
  bif ((b_1.fWord.size:Int) == 32) then
  bif ((b_1.fChain.size:Int) == 32) then
   (z1 b_1.fTries 0 3).bind fun r1=>
   bif r1 then
   bif (decide ((b_1.fThings.length:Int)≤8)) then
    (z1 b_1.fLast 0 1000).bind fun r2=>
    bif r2 then
    (z1 b_1.fCount 0 10000).bind fun r3=>
    some r3
    else
    some false
   else
    some false
   else
   some false
  else
   some false
  else
  some false
noncomputable def Tq:Nat→V7→Option Bool
 | 0,_=>none
 | m+1,s=>IAF Bh QX (Tq m) s
noncomputable def Xf:Ku:=QAQ Bh QX (Tq gas)
theorem OAU:Tells ctx PP 63 cv20 cv6 (fun a=>Xf a):=
 have b:∀ z0 z1,CutIs ctx PP 63 Tryz.f63 [] [(129,HAQ z0),(60,GZ z1)] cv6 IAa (IAF z0 z1):=fun z0 z1 _ s=>by cases s <;> kernel_rfl
 have e:∀ z0 z1,EntryIs ctx PP 63 [] [(129,HAQ z0),(60,GZ z1)] cv20 cv6 IAa (fun k a=>QAQ z0 z1 k a):=fun z0 z1 _ a=>by kernel_rfl
 fn_ok (hc FAa (hc Jc hl_nil)) Tryz.func63 (fun s s' h=>by cases s;cases s';(repeat cases ‹SBook›);cases h;rfl) (fun _=>rfl) (fun _ _=>rfl) (b Bh QX) (e Bh QX) gas
noncomputable def MAI {γ:Type} (F:Ku):Hd ctx γ:=hdl cv20.dec (fun a=>F a) cv6.enc
abbrev Eu:=SBook→Int→Option Int
inductive X7 where
 | c0 (id_1:Int) (v_8:(List SThing)) (v_9:Int) (v_10:Int)
noncomputable def JAa:X7→LI
 | .c0 id_1 v_8 v_9 v_10=>(tdo Tryz.f155 104,[(1,[.one (.int .i64 id_1)]),(8,[.one (.rsl 69 v_8)]),(9,[.one (.int .i64 v_9)]),(10,[.one (.int .i64 v_10)])],[])
noncomputable def KAa (k:X7→Option Int) (b_0:SBook) (id_1:Int):Option Int:=
 k (.c0 id_1 b_0.fThings (b_0.fThings.length:Int) 0)
noncomputable def JAF (k:X7→Option Int):X7→Option Int
 | .c0 id_1 v_8 v_9 v_10=>
 bif (decide (v_10<v_9)) then
  bif ((decide (0≤v_10)) && (decide (v_10<(v_8.length:Int)))) then
  bif ((v_8.getD v_10.toNat (⟨0,0,false,false,false,false,⟨#[]⟩,0⟩:SThing)).fId == id_1) then
  some v_10
  else
  k (.c0 id_1 v_8 v_9 (w64 (v_10+1)))
  else none
 else
  some (-(1:Int))
noncomputable def Vq:Nat→X7→Option Int
 | 0,_=>none
 | m+1,s=>JAF (Vq m) s
noncomputable def Xh:Eu:=KAa (Vq gas)
theorem HAI:Tells ctx PP 155 cv21 cv15 (fun a=>Xh a.1 a.2):=
 have b:CutIs ctx PP 155 Tryz.f155 [] [] cv15 JAa (JAF):=fun _ s=>by cases s <;> kernel_rfl
 have e:EntryIs ctx PP 155 [] [] cv21 cv15 JAa (fun k a=>KAa k a.1 a.2):=fun _ a=>by kernel_rfl
 fn_ok hl_nil Tryz.func155 (fun s s' h=>by cases s;cases s';cases h;rfl) (fun _=>rfl) (fun _ _=>rfl) b e gas
noncomputable def IAI {γ:Type} (F:Eu):Hd ctx γ:=hdl cv21.dec (fun a=>F a.1 a.2) cv15.enc
abbrev RAQ:=SThing→SThing→Option Bool
noncomputable def SAQ (x_0:SThing) (y_1:SThing):Option Bool:=
 bif (y_1.fKind == x_0.fKind) then
 bif ((ByteArray.toList y_1.fValue) == (ByteArray.toList x_0.fValue)) then
  bif (y_1.fSigns == x_0.fSigns) then
  bif (y_1.fWraps == x_0.fWraps) then
   bif (decide (y_1.fNext≥x_0.fNext)) then
   bif y_1.fHidden then
    bif y_1.fFixed then
    some true
    else
    some (!x_0.fFixed)
   else
    bif (!x_0.fHidden) then
    bif y_1.fFixed then
     some true
    else
     some (!x_0.fFixed)
    else
    some false
   else
   some false
  else
   some false
  else
  some false
 else
  some false
 else
 some false
noncomputable def Y7:RAQ:=SAQ
theorem QAl:Tells ctx PP 193 cv23 cv6 (fun a=>Y7 a.1 a.2):=fn_ok0 hl_nil Tryz.func193 (fun a=>by kernel_rfl:EntryIs0 ctx PP 193 [] [] cv23 cv6 fun a=>SAQ a.1 a.2)
noncomputable def RAl {γ:Type} (F:RAQ):Hd ctx γ:=hdl cv23.dec (fun a=>F a.1 a.2) cv6.enc
abbrev TAQ:=SBook→SThing→Option (Bool×SBook)
noncomputable def UAQ (z0:Eu) (z1:RAQ) (b_0:SBook) (x_1:SThing):Option (Bool×SBook):=
 (z0 b_0 x_1.fId).bind fun r0=>
 bif (decide (r0≥0)) then
 bif ((decide (0≤r0)) && (decide (r0<(b_0.fThings.length:Int)))) then
 (z1 (b_0.fThings.getD r0.toNat (⟨0,0,false,false,false,false,⟨#[]⟩,0⟩:SThing)) x_1).bind fun r1=>
 bif (!r1) then
  some (false,b_0)
 else
  bif ((decide (0≤r0)) && (decide (r0<(b_0.fThings.length:Int)))) then
  some (true,⟨b_0.fWord,b_0.fTries,(b_0.fThings.set r0.toNat x_1),b_0.fLast,b_0.fChain,b_0.fCount⟩)
  else none
 else none
 else
 bif (x_1.fId != (w64 (b_0.fLast+1))) then
  some (false,b_0)
 else
  bif (decide ((b_0.fThings.length:Int)≥8)) then
  some (false,b_0)
  else
  bif (decide (((b_0.fThings.length+1)*48)≤140737488355328)) then
  some (true,⟨b_0.fWord,b_0.fTries,(b_0.fThings++[x_1]),x_1.fId,b_0.fChain,b_0.fCount⟩)
  else none
noncomputable def Z7:TAQ:=UAQ Xh Y7
theorem SAl:Tells ctx PP 154 cv50 cv51 (fun a=>Z7 a.1 a.2):=fn_ok0 (hc HAI (hc QAl hl_nil)) Tryz.func154 ((fun z0 z1 a=>by kernel_rfl:∀ z0 z1,EntryIs0 ctx PP 154 [0] [(155,IAI z0),(193,RAl z1)] cv50 cv51 fun a=>UAQ z0 z1 a.1 a.2) Xh Y7)
noncomputable def TAl {γ:Type} (F:TAQ):Hd ctx γ:=hdl cv50.dec (fun a=>F a.1 a.2) cv51.enc
abbrev Qo:=SBook→SRec→Option (SBook×Bool)
noncomputable def VAQ (z0:IAA) (z1:Ku) (z2:I7) (z3:TAQ) (z4:Eu) (z5:Vs) (b_0:SBook) (r_1:SRec):Option (SBook×Bool):=
 (z0 r_1).bind fun r0=>
 (z1 b_0).bind fun r1=>
 bif (!r1) then
 some (⟨⟨#[]⟩,0,[],0,⟨#[]⟩,0⟩,false)
 else
 bif (!r0.2) then
  some (⟨⟨#[]⟩,0,[],0,⟨#[]⟩,0⟩,false)
 else
  bif (decide (b_0.fCount≥10000)) then
  some (⟨⟨#[]⟩,0,[],0,⟨#[]⟩,0⟩,false)
  else
  (z2 b_0).bind fun r2=>
  bif (r_1.fKind == 1) then
   bif (decide ((b_0.fChain.size+r0.1.size)≤9223372036854775807)) then
   (z5 (b_0.fChain++r0.1)).bind fun r3=>
   some (⟨r_1.fText,0,r2.fThings,r2.fLast,r3,(w64 (r2.fCount+1))⟩,true)
   else none
  else
   bif (r_1.fKind == 2) then
   bif (decide ((b_0.fChain.size+r0.1.size)≤9223372036854775807)) then
   (z5 (b_0.fChain++r0.1)).bind fun r4=>
   some (⟨r2.fWord,r_1.fNum,r2.fThings,r2.fLast,r4,(w64 (r2.fCount+1))⟩,true)
   else none
   else
   bif (r_1.fKind == 3) then
    (z3 r2 r_1.fThing).bind fun r5=>
    bif (!r5.1) then
    some (⟨⟨#[]⟩,0,[],0,⟨#[]⟩,0⟩,false)
    else
    bif (decide ((b_0.fChain.size+r0.1.size)≤9223372036854775807)) then
    (z5 (b_0.fChain++r0.1)).bind fun r6=>
    some (⟨r5.2.fWord,r5.2.fTries,r5.2.fThings,r5.2.fLast,r6,(w64 (r5.2.fCount+1))⟩,true)
    else none
   else
    bif (r_1.fKind == 4) then
    (z4 b_0 r_1.fNum).bind fun r7=>
    bif (decide (r7<0)) then
     some (⟨⟨#[]⟩,0,[],0,⟨#[]⟩,0⟩,false)
    else
     bif ((decide (0≤r7)) && (decide (r7≤(b_0.fThings.length:Int)))) then
     bif (decide ((((b_0.fThings.take r7.toNat).drop 0).length*48)≤140737488355328)) then
     bif ((decide (0≤(w64 (r7+1)))) && (decide ((w64 (r7+1))≤(b_0.fThings.length:Int)))) then
     bif (decide (((((b_0.fThings.take r7.toNat).drop 0).length+((b_0.fThings.take b_0.fThings.length).drop (w64 (r7+1)).toNat).length)*48)≤140737488355328)) then
     bif (decide ((b_0.fChain.size+r0.1.size)≤9223372036854775807)) then
     (z5 (b_0.fChain++r0.1)).bind fun r8=>
     some (⟨r2.fWord,r2.fTries,(((b_0.fThings.take r7.toNat).drop 0)++((b_0.fThings.take b_0.fThings.length).drop (w64 (r7+1)).toNat)),r2.fLast,r8,(w64 (r2.fCount+1))⟩,true)
     else none
     else none
     else none
     else none
     else none
    else
    bif (decide ((b_0.fChain.size+r0.1.size)≤9223372036854775807)) then
    (z5 (b_0.fChain++r0.1)).bind fun r9=>
    some (⟨r2.fWord,r2.fTries,r2.fThings,r2.fLast,r9,(w64 (r2.fCount+1))⟩,true)
    else none
noncomputable def Oc:Qo:=VAQ Fj Xf Ah Z7 Xh Lc
theorem JAU:Tells ctx PP 101 cv26 cv27 (fun a=>Oc a.1 a.2):=fn_ok0 (hc TAT (hc OAU (hc BAa (hc SAl (hc HAI (hc FAH hl_nil)))))) Tryz.func101 ((fun z0 z1 z2 z3 z4 z5 a=>by kernel_rfl:∀ z0 z1 z2 z3 z4 z5,EntryIs0 ctx PP 101 [] [(151,UAT z0),(63,MAI z1),(134,FAQ z2),(154,TAl z3),(155,IAI z4),(32,HAH z5)] cv26 cv27 fun a=>VAQ z0 z1 z2 z3 z4 z5 a.1 a.2) Fj Xf Ah Z7 Xh Lc)
noncomputable def SAA {γ:Type} (F:Qo):Hd ctx γ:=hdl cv26.dec (fun a=>F a.1 a.2) cv27.enc
abbrev MAA:=SBook→(List SRec)→Option (SBook×Bool)
inductive A8 where
 | c0 (v_13:(List SRec)) (v_14:Int) (v_15:Int) (v_4c0:ByteArray) (v_4c1:Int) (v_4c3:Int) (v_4c4:ByteArray) (v_4c5:Int) (out_6c0:ByteArray) (out_6c1:Int) (out_6c3:Int) (out_6c4:ByteArray) (out_6c5:Int) (v_4r2:(List SThing)) (out_6r2:(List SThing))
noncomputable def LAa:A8→LI
 | .c0 v_13 v_14 v_15 v_4c0 v_4c1 v_4c3 v_4c4 v_4c5 out_6c0 out_6c1 out_6c3 out_6c4 out_6c5 v_4r2 out_6r2=>(tdo Tryz.f74 232,[(4,[.one (.ptr 256 0)]),(6,[.one (.ptr 384 0)]),(13,[.one (.rsl 71 v_13)]),(14,[.one (.int .i64 v_14)]),(15,[.one (.int .i64 v_15)])],[(256,.var [.str v_4c0,.int .i64 v_4c1,.own 1016386,.int .i64 v_4c3,.str v_4c4,.int .i64 v_4c5]),(384,.var [.str out_6c0,.int .i64 out_6c1,.own 1024578,.int .i64 out_6c3,.str out_6c4,.int .i64 out_6c5]),(1016386,.sl 69 v_4r2),(1024578,.sl 69 out_6r2)])
noncomputable def WAQ (z0:I7) (z1:Qo) (k:A8→Option (SBook×Bool)) (b_0:SBook) (list_1:(List SRec)):Option (SBook×Bool):=
 (z0 b_0).bind fun r0=>
 k (.c0 list_1 (list_1.length:Int) 0 ⟨#[]⟩ 0 0 ⟨#[]⟩ 0 r0.fWord r0.fTries r0.fLast r0.fChain r0.fCount [] r0.fThings)
noncomputable def KAF (z0:I7) (z1:Qo) (k:A8→Option (SBook×Bool)):A8→Option (SBook×Bool)
 | .c0 v_13 v_14 v_15 v_4c0 v_4c1 v_4c3 v_4c4 v_4c5 out_6c0 out_6c1 out_6c3 out_6c4 out_6c5 v_4r2 out_6r2=>
 bif (decide (v_15<v_14)) then
  bif ((decide (0≤v_15)) && (decide (v_15<(v_13.length:Int)))) then
  (z1 ⟨out_6c0,out_6c1,out_6r2,out_6c3,out_6c4,out_6c5⟩ (v_13.getD v_15.toNat (⟨0,⟨#[]⟩,0,⟨0,0,false,false,false,false,⟨#[]⟩,0⟩⟩:SRec))).bind fun r0=>
  bif (!r0.2) then
  some (⟨⟨#[]⟩,0,[],0,⟨#[]⟩,0⟩,false)
  else
  k (.c0 v_13 v_14 (w64 (v_15+1)) v_4c0 v_4c1 v_4c3 v_4c4 v_4c5 r0.1.fWord r0.1.fTries r0.1.fLast r0.1.fChain r0.1.fCount v_4r2 r0.1.fThings)
  else none
 else
  some (⟨out_6c0,out_6c1,out_6r2,out_6c3,out_6c4,out_6c5⟩,true)
noncomputable def D8:Nat→A8→Option (SBook×Bool)
 | 0,_=>none
 | m+1,s=>KAF Ah Oc (D8 m) s
noncomputable def Ij:MAA:=WAQ Ah Oc (D8 gas)
theorem BAU:Tells ctx PP 74 cv113 cv27 (fun a=>Ij a.1 a.2):=
 have b:∀ z0 z1,CutIs ctx PP 74 Tryz.f74 [] [(134,FAQ z0),(101,SAA z1)] cv27 LAa (KAF z0 z1):=fun z0 z1 _ s=>by cases s <;> kernel_rfl
 have e:∀ z0 z1,EntryIs ctx PP 74 [] [(134,FAQ z0),(101,SAA z1)] cv113 cv27 LAa (fun k a=>WAQ z0 z1 k a.1 a.2):=fun z0 z1 _ a=>by kernel_rfl
 fn_ok (hc BAa (hc JAU hl_nil)) Tryz.func74 (fun s s' h=>by cases s;cases s';cases h;rfl) (fun _=>rfl) (fun _ _=>rfl) (b Ah Oc) (e Ah Oc) gas
noncomputable def DAU {γ:Type} (F:MAA):Hd ctx γ:=hdl cv113.dec (fun a=>F a.1 a.2) cv27.enc
abbrev XAQ:=(List SThing)→(List SThing)→Option Bool
inductive E8 where
 | c0 (a_0:(List SThing)) (b_1:(List SThing)) (v_12:Int) (v_13:Int)
noncomputable def MAa:E8→LI
 | .c0 a_0 b_1 v_12 v_13=>(tdo Tryz.f125 232,[(0,[.one (.rsl 69 a_0)]),(1,[.one (.rsl 69 b_1)]),(12,[.one (.int .i64 v_12)]),(13,[.one (.int .i64 v_13)])],[])
noncomputable def YAQ (k:E8→Option Bool) (a_0:(List SThing)) (b_1:(List SThing)):Option Bool:=
 bif ((a_0.length:Int) != (b_1.length:Int)) then
 some false
 else
 k (.c0 a_0 b_1 (a_0.length:Int) 0)
noncomputable def LAF (k:E8→Option Bool):E8→Option Bool
 | .c0 a_0 b_1 v_12 v_13=>
 bif (decide (v_13<v_12)) then
  bif ((decide (0≤v_13)) && (decide (v_13<(a_0.length:Int)))) then
  bif ((decide (0≤v_13)) && (decide (v_13<(b_1.length:Int)))) then
  bif (!(((a_0.getD v_13.toNat (⟨0,0,false,false,false,false,⟨#[]⟩,0⟩:SThing)).fId == (b_1.getD v_13.toNat (⟨0,0,false,false,false,false,⟨#[]⟩,0⟩:SThing)).fId) && (((a_0.getD v_13.toNat (⟨0,0,false,false,false,false,⟨#[]⟩,0⟩:SThing)).fKind == (b_1.getD v_13.toNat (⟨0,0,false,false,false,false,⟨#[]⟩,0⟩:SThing)).fKind) && (((a_0.getD v_13.toNat (⟨0,0,false,false,false,false,⟨#[]⟩,0⟩:SThing)).fHidden == (b_1.getD v_13.toNat (⟨0,0,false,false,false,false,⟨#[]⟩,0⟩:SThing)).fHidden) && (((a_0.getD v_13.toNat (⟨0,0,false,false,false,false,⟨#[]⟩,0⟩:SThing)).fFixed == (b_1.getD v_13.toNat (⟨0,0,false,false,false,false,⟨#[]⟩,0⟩:SThing)).fFixed) && (((a_0.getD v_13.toNat (⟨0,0,false,false,false,false,⟨#[]⟩,0⟩:SThing)).fSigns == (b_1.getD v_13.toNat (⟨0,0,false,false,false,false,⟨#[]⟩,0⟩:SThing)).fSigns) && (((a_0.getD v_13.toNat (⟨0,0,false,false,false,false,⟨#[]⟩,0⟩:SThing)).fWraps == (b_1.getD v_13.toNat (⟨0,0,false,false,false,false,⟨#[]⟩,0⟩:SThing)).fWraps) && (((ByteArray.toList (a_0.getD v_13.toNat (⟨0,0,false,false,false,false,⟨#[]⟩,0⟩:SThing)).fValue) == (ByteArray.toList (b_1.getD v_13.toNat (⟨0,0,false,false,false,false,⟨#[]⟩,0⟩:SThing)).fValue)) && (((a_0.getD v_13.toNat (⟨0,0,false,false,false,false,⟨#[]⟩,0⟩:SThing)).fNext == (b_1.getD v_13.toNat (⟨0,0,false,false,false,false,⟨#[]⟩,0⟩:SThing)).fNext) && true))))))))) then
  some false
  else
  k (.c0 a_0 b_1 v_12 (w64 (v_13+1)))
  else none
  else none
 else
  some true
noncomputable def F8:Nat→E8→Option Bool
 | 0,_=>none
 | m+1,s=>LAF (F8 m) s
noncomputable def G8:XAQ:=YAQ (F8 gas)
theorem UAl:Tells ctx PP 125 cv57 cv6 (fun a=>G8 a.1 a.2):=
 have b:CutIs ctx PP 125 Tryz.f125 [] [] cv6 MAa (LAF):=fun _ s=>by cases s <;> kernel_rfl
 have e:EntryIs ctx PP 125 [] [] cv57 cv6 MAa (fun k a=>YAQ k a.1 a.2):=fun _ a=>by kernel_rfl
 fn_ok hl_nil Tryz.func125 (fun s s' h=>by cases s;cases s';cases h;rfl) (fun _=>rfl) (fun _ _=>rfl) b e gas
noncomputable def VAl {γ:Type} (F:XAQ):Hd ctx γ:=hdl cv57.dec (fun a=>F a.1 a.2) cv6.enc
abbrev Du:=SBook→SBook→Option Bool
noncomputable def ZAQ (z0:XAQ) (a_0:SBook) (b_1:SBook):Option Bool:=
 bif ((ByteArray.toList a_0.fWord) == (ByteArray.toList b_1.fWord)) then
 bif (a_0.fTries == b_1.fTries) then
  (z0 a_0.fThings b_1.fThings).bind fun r0=>
  bif r0 then
  bif (a_0.fLast == b_1.fLast) then
   bif ((ByteArray.toList a_0.fChain) == (ByteArray.toList b_1.fChain)) then
   some (a_0.fCount == b_1.fCount)
   else
   some false
  else
   some false
  else
  some false
 else
  some false
 else
 some false
noncomputable def Uf:Du:=ZAQ G8
theorem FAU:Tells ctx PP 61 cv58 cv6 (fun a=>Uf a.1 a.2):=fn_ok0 (hc UAl hl_nil) Tryz.func61 ((fun z0 a=>by kernel_rfl:∀ z0,EntryIs0 ctx PP 61 [] [(125,VAl z0)] cv58 cv6 fun a=>ZAQ z0 a.1 a.2) G8)
noncomputable def FAI {γ:Type} (F:Du):Hd ctx γ:=hdl cv58.dec (fun a=>F a.1 a.2) cv6.enc
abbrev NAA:=SDisk→ByteArray→Option Int
inductive H8 where
 | c0 (name_1:ByteArray) (v_8:(List SFile)) (v_9:Int) (v_10:Int)
noncomputable def NAa:H8→LI
 | .c0 name_1 v_8 v_9 v_10=>(tdo Tryz.f128 104,[(1,[.one (.str name_1)]),(8,[.one (.rsl 155 v_8)]),(9,[.one (.int .i64 v_9)]),(10,[.one (.int .i64 v_10)])],[])
noncomputable def AAR (k:H8→Option Int) (d_0:SDisk) (name_1:ByteArray):Option Int:=
 k (.c0 name_1 d_0.fFiles (d_0.fFiles.length:Int) 0)
noncomputable def MAF (k:H8→Option Int):H8→Option Int
 | .c0 name_1 v_8 v_9 v_10=>
 bif (decide (v_10<v_9)) then
  bif ((decide (0≤v_10)) && (decide (v_10<(v_8.length:Int)))) then
  bif ((ByteArray.toList (v_8.getD v_10.toNat (⟨⟨#[]⟩,⟨#[]⟩,0⟩:SFile)).fName) == (ByteArray.toList name_1)) then
  some v_10
  else
  k (.c0 name_1 v_8 v_9 (w64 (v_10+1)))
  else none
 else
  some (-(1:Int))
noncomputable def I8:Nat→H8→Option Int
 | 0,_=>none
 | m+1,s=>MAF (I8 m) s
noncomputable def Jj:NAA:=AAR (I8 gas)
theorem CAU:Tells ctx PP 128 cv36 cv15 (fun a=>Jj a.1 a.2):=
 have b:CutIs ctx PP 128 Tryz.f128 [] [] cv15 NAa (MAF):=fun _ s=>by cases s <;> kernel_rfl
 have e:EntryIs ctx PP 128 [] [] cv36 cv15 NAa (fun k a=>AAR k a.1 a.2):=fun _ a=>by kernel_rfl
 fn_ok hl_nil Tryz.func128 (fun s s' h=>by cases s;cases s';cases h;rfl) (fun _=>rfl) (fun _ _=>rfl) b e gas
noncomputable def EAU {γ:Type} (F:NAA):Hd ctx γ:=hdl cv36.dec (fun a=>F a.1 a.2) cv15.enc
abbrev CAI:=SDisk→ByteArray→Option (ByteArray×Bool)
noncomputable def CAR (z0:NAA) (d_0:SDisk) (name_1:ByteArray):Option (ByteArray×Bool):=
 (z0 d_0 name_1).bind fun r0=>
 bif (decide (r0<0)) then
 some (⟨#[]⟩,false)
 else
 bif ((decide (0≤r0)) && (decide (r0<(d_0.fFiles.length:Int)))) then
 some ((d_0.fFiles.getD r0.toNat (⟨⟨#[]⟩,⟨#[]⟩,0⟩:SFile)).fText,true)
 else none
noncomputable def Au:CAI:=CAR Jj
theorem ZAe:Tells ctx PP 126 cv36 cv18 (fun a=>Au a.1 a.2):=fn_ok0 (hc CAU hl_nil) Tryz.func126 ((fun z0 a=>by kernel_rfl:∀ z0,EntryIs0 ctx PP 126 [] [(128,EAU z0)] cv36 cv18 fun a=>CAR z0 a.1 a.2) Jj)
noncomputable def AAf {γ:Type} (F:CAI):Hd ctx γ:=hdl cv36.dec (fun a=>F a.1 a.2) cv18.enc
abbrev Ui:=ByteArray→Int→Option (Int×Int×Bool)
inductive J8 where
 | c0 (text_0:ByteArray) (at_1:Int) (n_7:Int) (k_8:Int)
noncomputable def OAa:J8→LI
 | .c0 text_0 at_1 n_7 k_8=>(tdo Tryz.f202 976,[(0,[.one (.str text_0)]),(1,[.one (.int .i64 at_1)]),(7,[.one (.int .i64 n_7)]),(8,[.one (.int .i64 k_8)])],[])
noncomputable def L8 (z0:VY) (k:J8→Option (Int×Int×Bool)) (text_0:ByteArray) (at_1:Int):Option (Int×Int×Bool):=
 (z0 at_1 0 (text_0.size:Int)).bind fun r0=>
 bif (!r0) then
 some (0,(0,false))
 else
 k (.c0 text_0 at_1 0 0)
noncomputable def NAF (z0:VY) (k:J8→Option (Int×Int×Bool)):J8→Option (Int×Int×Bool)
 | .c0 text_0 at_1 n_7 k_8=>
 bif (decide (k_8<5)) then
  bif (decide ((w64 (at_1+k_8))<(text_0.size:Int))) then
  bif ((decide (0≤(w64 (at_1+k_8)))) && (decide ((w64 (at_1+k_8))<(text_0.size:Int)))) then
  bif (decide (0≤(w64 (7*k_8)))) then
  bif (decide ((w64 (bt text_0 (w64 (at_1+k_8))))<128)) then
   bif ((w64 (bt text_0 (w64 (at_1+k_8)))) == 0) then
   bif (decide (k_8 > 0)) then
    some (0,(0,false))
   else
    bif (decide ((w64 (n_7+(w64 (((w64 (bt text_0 (w64 (at_1+k_8)))).tmod 128)*(2 ^ (Min.min (w64 (7*k_8)).toNat (IntKind.bits IntKind.i64))))))) > 1000000000)) then
    some (0,(0,false))
    else
    some ((w64 (n_7+(w64 (((w64 (bt text_0 (w64 (at_1+k_8)))).tmod 128)*(2 ^ (Min.min (w64 (7*k_8)).toNat (IntKind.bits IntKind.i64))))))),((w64 ((w64 (at_1+k_8))+1)),true))
   else
   bif (decide ((w64 (n_7+(w64 (((w64 (bt text_0 (w64 (at_1+k_8)))).tmod 128)*(2 ^ (Min.min (w64 (7*k_8)).toNat (IntKind.bits IntKind.i64))))))) > 1000000000)) then
    some (0,(0,false))
   else
    some ((w64 (n_7+(w64 (((w64 (bt text_0 (w64 (at_1+k_8)))).tmod 128)*(2 ^ (Min.min (w64 (7*k_8)).toNat (IntKind.bits IntKind.i64))))))),((w64 ((w64 (at_1+k_8))+1)),true))
  else
   k (.c0 text_0 at_1 (w64 (n_7+(w64 (((w64 (bt text_0 (w64 (at_1+k_8)))).tmod 128)*(2 ^ (Min.min (w64 (7*k_8)).toNat (IntKind.bits IntKind.i64))))))) (w64 (k_8+1)))
  else none
  else none
  else
  some (0,(0,false))
 else
  some (0,(0,false))
noncomputable def Qe:Nat→J8→Option (Int×Int×Bool)
 | 0,_=>none
 | m+1,s=>NAF QX (Qe m) s
noncomputable def TY:Ui:=L8 QX (Qe gas)
theorem U9:Tells ctx PP 202 cv7 cv105 (fun a=>TY a.1 a.2):=
 have b:∀ z0,CutIs ctx PP 202 Tryz.f202 [] [(60,GZ z0)] cv105 OAa (NAF z0):=fun z0 _ s=>by cases s <;> kernel_rfl
 have e:∀ z0,EntryIs ctx PP 202 [] [(60,GZ z0)] cv7 cv105 OAa (fun k a=>L8 z0 k a.1 a.2):=fun z0 _ a=>by kernel_rfl
 fn_ok (hc Jc hl_nil) Tryz.func202 (fun s s' h=>by cases s;cases s';cases h;rfl) (fun _=>rfl) (fun _ _=>rfl) (b QX) (e QX) gas
noncomputable def Ls {γ:Type} (F:Ui):Hd ctx γ:=hdl cv7.dec (fun a=>F a.1 a.2) cv105.enc
abbrev DAR:=Int→ByteArray→Option Int
inductive N8 where
 | c0 (sum_0:Int) (text_1:ByteArray) (i_5:Int)
 | c1 (sum_0:Int) (text_1:ByteArray) (i_5:Int) (v_19:Int)
noncomputable def PAa:N8→LI
 | .c0 sum_0 text_1 i_5=>(tdo Tryz.f211 208,[(0,[.one (.int .u32 sum_0)]),(1,[.one (.str text_1)]),(5,[.one (.int .i64 i_5)])],[])
 | .c1 sum_0 text_1 i_5 v_19=>(tdo Tryz.f211 13464,[(0,[.one (.int .u32 sum_0)]),(1,[.one (.str text_1)]),(5,[.one (.int .i64 i_5)]),(19,[.one (.int .i64 v_19)])],[])
noncomputable def EAR (k:N8→Option Int) (sum_0:Int) (text_1:ByteArray):Option Int:=
 k (.c0 sum_0 text_1 0)
noncomputable def Wq (k:N8→Option Int):N8→Option Int
 | .c0 sum_0 text_1 i_5=>
 bif (decide (i_5<(text_1.size:Int))) then
  bif ((decide (0≤i_5)) && (decide (i_5<(text_1.size:Int)))) then
  k (.c1 (w32 (((BitVec.toNat ((BitVec.ofInt (IntKind.bits IntKind.u32) sum_0) ^^^ (BitVec.ofInt (IntKind.bits IntKind.u32) (w32 (bt text_1 i_5))))):Nat):Int)) text_1 i_5 0)
  else none
 else
  some sum_0
 | .c1 sum_0 text_1 i_5 v_19=>
 bif (decide (v_19<8)) then
  bif ((w32 (((BitVec.toNat ((BitVec.ofInt (IntKind.bits IntKind.u32) sum_0) &&& (BitVec.ofInt (IntKind.bits IntKind.u32) 1))):Nat):Int)) == 1) then
  k (.c1 (w32 (((BitVec.toNat ((BitVec.ofInt (IntKind.bits IntKind.u32) (Int.fdiv sum_0 (2 ^ (Min.min (1:Int).toNat (IntKind.bits IntKind.u32))))) ^^^ (BitVec.ofInt (IntKind.bits IntKind.u32) 3558460437))):Nat):Int)) text_1 i_5 (w64 (v_19+1)))
  else
  k (.c1 (Int.fdiv sum_0 (2 ^ (Min.min (1:Int).toNat (IntKind.bits IntKind.u32)))) text_1 i_5 (w64 (v_19+1)))
 else
  k (.c0 sum_0 text_1 (w64 (i_5+1)))
noncomputable def Dh:Nat→N8→Option Int
 | 0,_=>none
 | m+1,s=>Wq (Dh m) s
noncomputable def O8:DAR:=EAR (Dh gas)
theorem WAl:Tells ctx PP 211 cv32 cv8 (fun a=>O8 a.1 a.2):=
 have b:CutIs ctx PP 211 Tryz.f211 [] [] cv8 PAa (Wq):=fun _ s=>by cases s <;> kernel_rfl
 have e:EntryIs ctx PP 211 [] [] cv32 cv8 PAa (fun k a=>EAR k a.1 a.2):=fun _ a=>by kernel_rfl
 fn_ok hl_nil Tryz.func211 (fun s s' h=>by cases s <;> cases s' <;> first | (cases h;done) | (cases h;rfl) | exact (rg_ne h (by kernel_rfl)).elim) (fun _=>rfl) (fun _ _=>rfl) b e gas
noncomputable def XAl {γ:Type} (F:DAR):Hd ctx γ:=hdl cv32.dec (fun a=>F a.1 a.2) cv8.enc
abbrev Js:=ByteArray→Option Int
noncomputable def GAR (z0:DAR) (text_0:ByteArray):Option Int:=
 (z0 4294967295 text_0).bind fun r0=>
 some r0
noncomputable def Hf:Js:=GAR O8
theorem FAT:Tells ctx PP 192 cv3 cv8 (fun a=>Hf a):=fn_ok0 (hc WAl hl_nil) Tryz.func192 ((fun z0 a=>by kernel_rfl:∀ z0,EntryIs0 ctx PP 192 [] [(211,XAl z0)] cv3 cv8 fun a=>GAR z0 a) O8)
noncomputable def AAH {γ:Type} (F:Js):Hd ctx γ:=hdl cv3.dec (fun a=>F a) cv8.enc
end Go.Proofs.YthfpmhalgimbbaaGreatDoor.G

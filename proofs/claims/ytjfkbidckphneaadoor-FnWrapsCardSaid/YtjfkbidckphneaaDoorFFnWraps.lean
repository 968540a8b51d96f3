/- Functions of the program, told by plain functions: part 1 of 1. -/
import Derived.Test.YtjfkbidckphneaaDoorCtx
namespace Go.Proofs.YtjfkbidckphneaaDoor.G
open Go Go.Ev
set_option linter.unusedVariables false
set_option linter.unusedSectionVars false
variable [PC]
abbrev Tq:=Unit→Option Bool
noncomputable def Yy (code_0:Unit):Option Bool:=
 some (decide ((codeL.length:Int) > 1048576))
noncomputable def Lm:Tq:=Yy
theorem KAA:Tells ctx PP 9 cv0 cv1 (fun a=>Lm a):=fn_ok0 hl_nil Tryd.func9 (fun a=>by kernel_rfl:EntryIs0 ctx PP 9 [] [] cv0 cv1 fun a=>Yy a)
noncomputable def LAA {γ:Type} (F:Tq):Hd ctx γ:=hdl cv0.dec (fun a=>F a) cv1.enc
abbrev Om:=Unit→Option SL01Cur
inductive Jh where
 | c0 (h_3:Int) (i_4:Int)
noncomputable def Zy:Jh→LI
 | .c0 h_3 i_4=>(tdo Tryd.f53 464,[(0,[.one (.csl)]),(3,[.one (.int .i64 h_3)]),(4,[.one (.int .i64 i_4)])],[])
noncomputable def Vq (k:Jh→Option SL01Cur) (code_0:Unit):Option SL01Cur:=
 k (.c0 (w64 (27401+(codeL.length:Int))) 0)
noncomputable def Pm (k:Jh→Option SL01Cur):Jh→Option SL01Cur
 | .c0 h_3 i_4=>
 bif (decide (i_4<(codeL.length:Int))) then
  bif (decide (i_4<4000)) then
  bif ((decide (0≤i_4)) && (decide (i_4<(codeL.length:Int)))) then
  bif (Nat.blt i_4.toNat codeL.length) then
  k (.c0 (w64 (((BitVec.toNat ((BitVec.ofInt (IntKind.bits IntKind.i64) (w64 ((w64 ((w64 (h_3*131))+(w64 (codeL.getD i_4.toNat 0))))+7))) &&& (BitVec.ofInt (IntKind.bits IntKind.i64) 1073741823))):Nat):Int)) (w64 (i_4+1)))
  else none
  else none
  else
  some ⟨(),0,h_3⟩
 else
  some ⟨(),0,h_3⟩
noncomputable def Lh:Nat→Jh→Option SL01Cur
 | 0,_=>none
 | m+1,s=>Pm (Lh m) s
noncomputable def Zd:Om:=Vq (Lh gas)
theorem Az:Tells ctx PP 53 cv0 cv2 (fun a=>Zd a):=
 have b:CutIs ctx PP 53 Tryd.f53 [] [] cv2 Zy (Pm):=fun _ s=>by cases s <;> kernel_rfl
 have e:EntryIs ctx PP 53 [] [] cv0 cv2 Zy (fun k a=>Vq k a):=fun _ a=>by kernel_rfl
 fn_ok hl_nil Tryd.func53 (fun s s' h=>by cases s;cases s';cases h;rfl) (fun _=>rfl) (fun _ _=>rfl) b e gas
noncomputable def Bz {γ:Type} (F:Om):Hd ctx γ:=hdl cv0.dec (fun a=>F a) cv2.enc
abbrev Nh:=SL01Cur→Option (Int×SL01Cur)
noncomputable def Wq (c_0:SL01Cur):Option (Int×SL01Cur):=
 bif (decide (c_0.fI<(codeL.length:Int))) then
 bif ((decide (0≤c_0.fI)) && (decide (c_0.fI<(codeL.length:Int)))) then
 bif (Nat.blt c_0.fI.toNat codeL.length) then
 some ((w64 (((BitVec.toNat ((BitVec.ofInt (IntKind.bits IntKind.i64) (w64 ((w64 (((BitVec.toNat ((BitVec.ofInt (IntKind.bits IntKind.i64) (w64 (((BitVec.toNat ((BitVec.ofInt (IntKind.bits IntKind.i64) (Int.fdiv (w64 ((w64 (c_0.fH*6364136223846793005))+1442695040888963407)) (2 ^ (Min.min (33:Int).toNat (IntKind.bits IntKind.i64))))) ^^^ (BitVec.ofInt (IntKind.bits IntKind.i64) (Int.fdiv (w64 ((w64 (c_0.fH*6364136223846793005))+1442695040888963407)) (2 ^ (Min.min (45:Int).toNat (IntKind.bits IntKind.i64))))))):Nat):Int))) &&& (BitVec.ofInt (IntKind.bits IntKind.i64) 255))):Nat):Int))+(w64 (codeL.getD c_0.fI.toNat 0))))) &&& (BitVec.ofInt (IntKind.bits IntKind.i64) 255))):Nat):Int)),⟨(),(w64 (c_0.fI+1)),(w64 ((w64 (c_0.fH*6364136223846793005))+1442695040888963407))⟩)
 else none
 else none
 else
 some ((w64 (((BitVec.toNat ((BitVec.ofInt (IntKind.bits IntKind.i64) (w64 (((BitVec.toNat ((BitVec.ofInt (IntKind.bits IntKind.i64) (Int.fdiv (w64 ((w64 (c_0.fH*6364136223846793005))+1442695040888963407)) (2 ^ (Min.min (33:Int).toNat (IntKind.bits IntKind.i64))))) ^^^ (BitVec.ofInt (IntKind.bits IntKind.i64) (Int.fdiv (w64 ((w64 (c_0.fH*6364136223846793005))+1442695040888963407)) (2 ^ (Min.min (45:Int).toNat (IntKind.bits IntKind.i64))))))):Nat):Int))) &&& (BitVec.ofInt (IntKind.bits IntKind.i64) 255))):Nat):Int)),⟨(),c_0.fI,(w64 ((w64 (c_0.fH*6364136223846793005))+1442695040888963407))⟩)
noncomputable def Bc:Nh:=Wq
theorem Dz:Tells ctx PP 93 cv3 cv4 (fun a=>Bc a):=fn_ok0 hl_nil Tryd.func93 (fun a=>by kernel_rfl:EntryIs0 ctx PP 93 [0] [] cv3 cv4 fun a=>Wq a)
noncomputable def Xq {γ:Type} (F:Nh):Hd ctx γ:=hdl cv3.dec (fun a=>F a) cv4.enc
abbrev Cc:=SL01Cur→Int→Option (Int×SL01Cur)
noncomputable def Yq (z0:Nh) (c_0:SL01Cur) (n_1:Int):Option (Int×SL01Cur):=
 bif (decide (n_1≤0)) then
 some (0,⟨(),c_0.fI,c_0.fH⟩)
 else
 bif (decide (n_1≤256)) then
  (z0 ⟨(),c_0.fI,c_0.fH⟩).bind fun r0=>
  bif (!(n_1 == 0)) then
  some ((r0.1.tmod n_1),⟨(),r0.2.fI,r0.2.fH⟩)
  else none
 else
  (z0 ⟨(),c_0.fI,c_0.fH⟩).bind fun r1=>
  (z0 ⟨(),r1.2.fI,r1.2.fH⟩).bind fun r2=>
  (z0 ⟨(),r2.2.fI,r2.2.fH⟩).bind fun r3=>
  (z0 ⟨(),r3.2.fI,r3.2.fH⟩).bind fun r4=>
  bif (!(n_1 == 0)) then
  some (((w64 ((w64 ((w64 ((w64 (r1.1*16777216))+(w64 (r2.1*65536))))+(w64 (r3.1*256))))+r4.1)).tmod n_1),⟨(),r4.2.fI,r4.2.fH⟩)
  else none
noncomputable def AZ:Cc:=Yq Bc
theorem Ae:Tells ctx PP 57 cv5 cv4 (fun a=>AZ a.1 a.2):=fn_ok0 (hc Dz hl_nil) Tryd.func57 ((fun z0 a=>by kernel_rfl:∀ z0,EntryIs0 ctx PP 57 [0] [(93,Xq z0)] cv5 cv4 fun a=>Yq z0 a.1 a.2) Bc)
noncomputable def Ce {γ:Type} (F:Cc):Hd ctx γ:=hdl cv5.dec (fun a=>F a.1 a.2) cv4.enc
abbrev Oh:=SL01Cur→Int→Option (ByteArray×SL01Cur)
inductive Ph where
 | c0 (n_1:Int) (i_6:Int) (c_0c1:Int) (c_0c2:Int) (out_5:(List Int))
noncomputable def Ez:Ph→LI
 | .c0 n_1 i_6 c_0c1 c_0c2 out_5=>(tdo Tryd.f58 976,[(0,[.one (.ptr 0 0)]),(1,[.one (.int .i64 n_1)]),(5,[.one (.own 368)]),(6,[.one (.int .i64 i_6)])],[(0,.var [.csl,.int .i64 c_0c1,.int .i64 c_0c2]),(368,.sl 5 out_5)])
noncomputable def Zq (z0:Nh) (k:Ph→Option (ByteArray×SL01Cur)) (c_0:SL01Cur) (n_1:Int):Option (ByteArray×SL01Cur):=
 bif (decide (n_1 > 5000)) then
 k (.c0 5000 0 c_0.fI c_0.fH [])
 else
 k (.c0 n_1 0 c_0.fI c_0.fH [])
noncomputable def Qm (z0:Nh) (k:Ph→Option (ByteArray×SL01Cur)):Ph→Option (ByteArray×SL01Cur)
 | .c0 n_1 i_6 c_0c1 c_0c2 out_5=>
 bif (decide (i_6<n_1)) then
  (z0 ⟨(),c_0c1,c_0c2⟩).bind fun r0=>
  bif (decide (((out_5.length+1)*1)≤140737488355328)) then
  k (.c0 n_1 (w64 (i_6+1)) r0.2.fI r0.2.fH (out_5++[(w8 r0.1)]))
  else none
 else
  some ((ofBytes out_5),⟨(),c_0c1,c_0c2⟩)
noncomputable def Ig:Nat→Ph→Option (ByteArray×SL01Cur)
 | 0,_=>none
 | m+1,s=>Qm Bc (Ig m) s
noncomputable def Dc:Oh:=Zq Bc (Ig gas)
theorem Ar:Tells ctx PP 58 cv5 cv10 (fun a=>Dc a.1 a.2):=
 have b:∀ z0,CutIs ctx PP 58 Tryd.f58 [0] [(93,Xq z0)] cv10 Ez (Qm z0):=fun z0 _ s=>by cases s <;> kernel_rfl
 have e:∀ z0,EntryIs ctx PP 58 [0] [(93,Xq z0)] cv5 cv10 Ez (fun k a=>Zq z0 k a.1 a.2):=fun z0 _ a=>by kernel_rfl
 fn_ok (hc Dz hl_nil) Tryd.func58 (fun s s' h=>by cases s;cases s';cases h;rfl) (fun _=>rfl) (fun _ _=>rfl) (b Bc) (e Bc) gas
noncomputable def Hr {γ:Type} (F:Oh):Hd ctx γ:=hdl cv5.dec (fun a=>F a.1 a.2) cv10.enc
abbrev Sm:=SL01Cur→(List Int)→Option (Int×SL01Cur)
noncomputable def Ir (z0:Cc) (c_0:SL01Cur) (list_1:(List Int)):Option (Int×SL01Cur):=
 (z0 ⟨(),c_0.fI,c_0.fH⟩ (list_1.length:Int)).bind fun r0=>
 bif ((decide (0≤r0.1)) && (decide (r0.1<(list_1.length:Int)))) then
 some ((list_1.getD r0.1.toNat 0),⟨(),r0.2.fI,r0.2.fH⟩)
 else none
noncomputable def Ee:Sm:=Ir AZ
theorem Fz:Tells ctx PP 105 cv7 cv4 (fun a=>Ee a.1 a.2):=fn_ok0 (hc Ae hl_nil) Tryd.func105 ((fun z0 a=>by kernel_rfl:∀ z0,EntryIs0 ctx PP 105 [0] [(57,Ce z0)] cv7 cv4 fun a=>Ir z0 a.1 a.2) AZ)
noncomputable def Gz {γ:Type} (F:Sm):Hd ctx γ:=hdl cv7.dec (fun a=>F a.1 a.2) cv4.enc
abbrev Qh:=Int→Int→Option ByteArray
inductive Rh where
 | c0 (n_0:Int) (x_1:Int) (i_6:Int) (out_5:(List Int))
noncomputable def Hz:Rh→LI
 | .c0 n_0 x_1 i_6 out_5=>(tdo Tryd.f56 464,[(0,[.one (.int .i64 n_0)]),(1,[.one (.int .u8 x_1)]),(5,[.one (.own 368)]),(6,[.one (.int .i64 i_6)])],[(368,.sl 5 out_5)])
noncomputable def Jr (k:Rh→Option ByteArray) (n_0:Int) (x_1:Int):Option ByteArray:=
 bif ((((decide (0≤n_0)) && (decide (n_0≤n_0))) && (decide (n_0≤9223372036854775807))) && (decide ((n_0.toNat*1)≤140737488355328))) then
 k (.c0 n_0 x_1 0 (List.replicate n_0.toNat (0:Int)))
 else none
noncomputable def Um (k:Rh→Option ByteArray):Rh→Option ByteArray
 | .c0 n_0 x_1 i_6 out_5=>
 bif (decide (i_6<n_0)) then
  bif ((decide (0≤i_6)) && (decide (i_6<(out_5.length:Int)))) then
  k (.c0 n_0 x_1 (w64 (i_6+1)) (out_5.set i_6.toNat x_1))
  else none
 else
  some (ofBytes out_5)
noncomputable def Uh:Nat→Rh→Option ByteArray
 | 0,_=>none
 | m+1,s=>Um (Uh m) s
noncomputable def Ya:Qh:=Jr (Uh gas)
theorem Kr:Tells ctx PP 56 cv8 cv9 (fun a=>Ya a.1 a.2):=
 have b:CutIs ctx PP 56 Tryd.f56 [] [] cv9 Hz (Um):=fun _ s=>by cases s <;> kernel_rfl
 have e:EntryIs ctx PP 56 [] [] cv8 cv9 Hz (fun k a=>Jr k a.1 a.2):=fun _ a=>by kernel_rfl
 fn_ok hl_nil Tryd.func56 (fun s s' h=>by cases s;cases s';cases h;rfl) (fun _=>rfl) (fun _ _=>rfl) b e gas
noncomputable def Lr {γ:Type} (F:Qh):Hd ctx γ:=hdl cv8.dec (fun a=>F a.1 a.2) cv9.enc
abbrev Vm:=SL01Cur→Option (ByteArray×SL01Cur)
noncomputable def Nr (z0:Cc) (z1:Oh) (z2:Sm) (z3:Qh) (c_0:SL01Cur):Option (ByteArray×SL01Cur):=
 (z0 ⟨(),c_0.fI,c_0.fH⟩ 6).bind fun r0=>
 (z1 ⟨(),r0.2.fI,r0.2.fH⟩ r0.1).bind fun r1=>
 (z2 ⟨(),r1.2.fI,r1.2.fH⟩ [0,0,26,58,63,64,65,80]).bind fun r2=>
 (z3 r2.1 7).bind fun r3=>
 bif (decide ((r1.1.size+r3.size)≤9223372036854775807)) then
 some ((r1.1++r3),⟨(),r2.2.fI,r2.2.fH⟩)
 else none
noncomputable def Fe:Vm:=Nr AZ Dc Ee Ya
theorem Iz:Tells ctx PP 64 cv3 cv10 (fun a=>Fe a):=fn_ok0 (hc Ae (hc Ar (hc Fz (hc Kr hl_nil)))) Tryd.func64 ((fun z0 z1 z2 z3 a=>by kernel_rfl:∀ z0 z1 z2 z3,EntryIs0 ctx PP 64 [0] [(57,Ce z0),(58,Hr z1),(105,Gz z2),(56,Lr z3)] cv3 cv10 fun a=>Nr z0 z1 z2 z3 a) AZ Dc Ee Ya)
noncomputable def Jz {γ:Type} (F:Vm):Hd ctx γ:=hdl cv3.dec (fun a=>F a) cv10.enc
abbrev Qr:=SL01Cur→Int→Option (Bool×SL01Cur)
noncomputable def Sr (z0:Cc) (c_0:SL01Cur) (n_1:Int):Option (Bool×SL01Cur):=
 (z0 ⟨(),c_0.fI,c_0.fH⟩ n_1).bind fun r0=>
 some ((r0.1 == 0),⟨(),r0.2.fI,r0.2.fH⟩)
noncomputable def Vh:Qr:=Sr AZ
theorem MAA:Tells ctx PP 54 cv5 cv6 (fun a=>Vh a.1 a.2):=fn_ok0 (hc Ae hl_nil) Tryd.func54 ((fun z0 a=>by kernel_rfl:∀ z0,EntryIs0 ctx PP 54 [0] [(57,Ce z0)] cv5 cv6 fun a=>Sr z0 a.1 a.2) AZ)
noncomputable def NAA {γ:Type} (F:Qr):Hd ctx γ:=hdl cv5.dec (fun a=>F a.1 a.2) cv6.enc
abbrev Xm:=SL01Cur→Option (ByteArray×SL01Cur)
noncomputable def Ur (z0:Cc) (z1:Oh) (z2:Sm) (z3:Qh) (c_0:SL01Cur):Option (ByteArray×SL01Cur):=
 (z0 ⟨(),c_0.fI,c_0.fH⟩ 9).bind fun r0=>
 (z1 ⟨(),r0.2.fI,r0.2.fH⟩ r0.1).bind fun r1=>
 (z2 ⟨(),r1.2.fI,r1.2.fH⟩ [0,0,5,13,14,15,40]).bind fun r2=>
 (z3 r2.1 66).bind fun r3=>
 bif (decide ((r1.1.size+r3.size)≤9223372036854775807)) then
 some ((r1.1++r3),⟨(),r2.2.fI,r2.2.fH⟩)
 else none
noncomputable def He:Xm:=Ur AZ Dc Ee Ya
theorem Kz:Tells ctx PP 65 cv3 cv10 (fun a=>He a):=fn_ok0 (hc Ae (hc Ar (hc Fz (hc Kr hl_nil)))) Tryd.func65 ((fun z0 z1 z2 z3 a=>by kernel_rfl:∀ z0 z1 z2 z3,EntryIs0 ctx PP 65 [0] [(57,Ce z0),(58,Hr z1),(105,Gz z2),(56,Lr z3)] cv3 cv10 fun a=>Ur z0 z1 z2 z3 a) AZ Dc Ee Ya)
noncomputable def Nz {γ:Type} (F:Xm):Hd ctx γ:=hdl cv3.dec (fun a=>F a) cv10.enc
abbrev Vr:=Unit→Option (ByteArray×ByteArray)
noncomputable def Xr (z0:Om) (z1:Vm) (z2:Qr) (z3:Cc) (z4:Qh) (z5:Xm) (code_0:Unit):Option (ByteArray×ByteArray):=
 (z0 ()).bind fun r0=>
 (z1 ⟨(),r0.fI,r0.fH⟩).bind fun r1=>
 (z2 ⟨(),r1.2.fI,r1.2.fH⟩ 12).bind fun r2=>
 bif r2.1 then
 (z3 ⟨(),r2.2.fI,r2.2.fH⟩ 2).bind fun r3=>
 (z4 (w64 (400+r3.1)) 65).bind fun r4=>
 some (r1.1,r4)
 else
 (z5 ⟨(),r2.2.fI,r2.2.fH⟩).bind fun r5=>
 some (r1.1,r5.1)
noncomputable def Wh:Vr:=Xr Zd Fe Vh AZ Ya He
theorem OAA:Tells ctx PP 26 cv0 cv35 (fun a=>Wh a):=fn_ok0 (hc Az (hc Iz (hc MAA (hc Ae (hc Kr (hc Kz hl_nil)))))) Tryd.func26 ((fun z0 z1 z2 z3 z4 z5 a=>by kernel_rfl:∀ z0 z1 z2 z3 z4 z5,EntryIs0 ctx PP 26 [] [(53,Bz z0),(64,Jz z1),(54,NAA z2),(57,Ce z3),(56,Lr z4),(65,Nz z5)] cv0 cv35 fun a=>Xr z0 z1 z2 z3 z4 z5 a) Zd Fe Vh AZ Ya He)
noncomputable def PAA {γ:Type} (F:Vr):Hd ctx γ:=hdl cv0.dec (fun a=>F a) cv35.enc
abbrev Xh:=Int→Option ByteArray
inductive Yh where
 | c0 (n_0:Int) (out_3:(List Int))
noncomputable def Oz:Yh→LI
 | .c0 n_0 out_3=>(tdo Tryd.f114 224,[(0,[.one (.int .i64 n_0)]),(3,[.one (.own 240)])],[(240,.sl 5 out_3)])
noncomputable def Pz (k:Yh→Option ByteArray) (n_0:Int):Option ByteArray:=
 k (.c0 n_0 [])
noncomputable def Ym (k:Yh→Option ByteArray):Yh→Option ByteArray
 | .c0 n_0 out_3=>
 bif (decide (n_0 > 127)) then
  bif (decide (((out_3.length+1)*1)≤140737488355328)) then
  k (.c0 (w64 (n_0.tdiv 128)) (out_3++[(w8 (w64 (128+(n_0.tmod 128))))]))
  else none
 else
  bif (decide (((out_3.length+1)*1)≤140737488355328)) then
  some (ofBytes (out_3++[(w8 n_0)]))
  else none
noncomputable def Zh:Nat→Yh→Option ByteArray
 | 0,_=>none
 | m+1,s=>Ym (Zh m) s
noncomputable def Ld:Xh:=Pz (Zh gas)
theorem Yr:Tells ctx PP 114 cv14 cv9 (fun a=>Ld a):=
 have b:CutIs ctx PP 114 Tryd.f114 [] [] cv9 Oz (Ym):=fun _ s=>by cases s <;> kernel_rfl
 have e:EntryIs ctx PP 114 [] [] cv14 cv9 Oz (fun k a=>Pz k a):=fun _ a=>by kernel_rfl
 fn_ok hl_nil Tryd.func114 (fun s s' h=>by cases s;cases s';cases h;rfl) (fun _=>rfl) (fun _ _=>rfl) b e gas
noncomputable def Zr {γ:Type} (F:Xh):Hd ctx γ:=hdl cv14.dec (fun a=>F a) cv9.enc
abbrev Ai:=Int→Option ByteArray
noncomputable def Es (n_0:Int):Option ByteArray:=
 bif ((((decide (0≤n_0)) && (decide (n_0≤n_0))) && (decide (n_0≤9223372036854775807))) && (decide ((n_0.toNat*1)≤140737488355328))) then
 some (ofBytes (List.replicate n_0.toNat (0:Int)))
 else none
noncomputable def Za:Ai:=Es
theorem Gs:Tells ctx PP 92 cv14 cv9 (fun a=>Za a):=fn_ok0 hl_nil Tryd.func92 (fun a=>by kernel_rfl:EntryIs0 ctx PP 92 [] [] cv14 cv9 fun a=>Es a)
noncomputable def Js {γ:Type} (F:Ai):Hd ctx γ:=hdl cv14.dec (fun a=>F a) cv9.enc
abbrev Zm:=ByteArray→Option ByteArray
noncomputable def Ls (z0:Xh) (z1:Ai) (s_0:ByteArray):Option ByteArray:=
 (z0 (s_0.size:Int)).bind fun r0=>
 bif (decide ((r0.size+s_0.size)≤9223372036854775807)) then
 (z1 ((w64 (16 - (((r0++s_0).size:Int).tmod 16))).tmod 16)).bind fun r1=>
 bif (decide (((r0++s_0).size+r1.size)≤9223372036854775807)) then
 some ((r0++s_0)++r1)
 else none
 else none
noncomputable def Ie:Zm:=Ls Ld Za
theorem Qz:Tells ctx PP 76 cv9 cv9 (fun a=>Ie a):=fn_ok0 (hc Yr (hc Gs hl_nil)) Tryd.func76 ((fun z0 z1 a=>by kernel_rfl:∀ z0 z1,EntryIs0 ctx PP 76 [] [(114,Zr z0),(92,Js z1)] cv9 cv9 fun a=>Ls z0 z1 a) Ld Za)
noncomputable def Rz {γ:Type} (F:Zm):Hd ctx γ:=hdl cv9.dec (fun a=>F a) cv9.enc
abbrev Je:=Int→Int→Int→Option Bool
noncomputable def Sz (n_0:Int) (low_1:Int) (high_2:Int):Option Bool:=
 bif (decide (n_0≥low_1)) then
 some (decide (n_0≤high_2))
 else
 some false
noncomputable def YZ:Je:=Sz
theorem Ns:Tells ctx PP 62 cv22 cv1 (fun a=>YZ a.1 a.2.1 a.2.2):=fn_ok0 hl_nil Tryd.func62 (fun a=>by kernel_rfl:EntryIs0 ctx PP 62 [] [] cv22 cv1 fun a=>Sz a.1 a.2.1 a.2.2)
noncomputable def Ci {γ:Type} (F:Je):Hd ctx γ:=hdl cv22.dec (fun a=>F a.1 a.2.1 a.2.2) cv1.enc
abbrev Dn:=Int→Option (ByteArray×Bool)
noncomputable def Qs (z0:Je) (z1:Xh) (n_0:Int):Option (ByteArray×Bool):=
 (z0 n_0 0 1000000000).bind fun r0=>
 bif (!r0) then
 some (⟨#[]⟩,false)
 else
 (z1 n_0).bind fun r1=>
 some (r1,true)
noncomputable def Me:Dn:=Qs YZ Ld
theorem QAA:Tells ctx PP 73 cv14 cv33 (fun a=>Me a):=fn_ok0 (hc Ns (hc Yr hl_nil)) Tryd.func73 ((fun z0 z1 a=>by kernel_rfl:∀ z0 z1,EntryIs0 ctx PP 73 [] [(62,Ci z0),(114,Zr z1)] cv14 cv33 fun a=>Qs z0 z1 a) YZ Ld)
noncomputable def Tz {γ:Type} (F:Dn):Hd ctx γ:=hdl cv14.dec (fun a=>F a) cv33.enc
abbrev En:=Int→Option ByteArray
noncomputable def Us (n_0:Int):Option ByteArray:=
 some (ofBytes [(w8 n_0)])
noncomputable def Oe:En:=Us
theorem RAA:Tells ctx PP 75 cv14 cv9 (fun a=>Oe a):=fn_ok0 hl_nil Tryd.func75 (fun a=>by kernel_rfl:EntryIs0 ctx PP 75 [] [] cv14 cv9 fun a=>Us a)
noncomputable def Uz {γ:Type} (F:En):Hd ctx γ:=hdl cv14.dec (fun a=>F a) cv9.enc
abbrev Vs:=Option (List Int)
noncomputable def Vz  : Option (List Int):=
 some [1779033703,3144134277,1013904242,2773480762,1359893119,2600822924,528734635,1541459225]
noncomputable def Gn:Vs:=Vz
theorem SAA:Tells ctx PP 107 cv12 cv13 (fun _=>Gn):=fn_ok0 hl_nil Tryd.func107 (fun _=>by kernel_rfl:EntryIs0 ctx PP 107 [] [] cv12 cv13 fun _=>Vz)
noncomputable def TAA {γ:Type} (F:Vs):Hd ctx γ:=hdl cv12.dec (fun _=>F) cv13.enc
abbrev Di:=Int→Option ByteArray
noncomputable def Ws (n_0:Int):Option ByteArray:=
 some (ofBytes [(w8 (Int.fdiv n_0 (2 ^ (Min.min (24:Int).toNat (IntKind.bits IntKind.u32))))),(w8 (Int.fdiv n_0 (2 ^ (Min.min (16:Int).toNat (IntKind.bits IntKind.u32))))),(w8 (Int.fdiv n_0 (2 ^ (Min.min (8:Int).toNat (IntKind.bits IntKind.u32))))),(w8 n_0)])
noncomputable def Ic:Di:=Ws
theorem Xz:Tells ctx PP 134 cv15 cv9 (fun a=>Ic a):=fn_ok0 hl_nil Tryd.func134 (fun a=>by kernel_rfl:EntryIs0 ctx PP 134 [] [] cv15 cv9 fun a=>Ws a)
noncomputable def Dt {γ:Type} (F:Di):Hd ctx γ:=hdl cv15.dec (fun a=>F a) cv9.enc
abbrev Et:=Int→Option ByteArray
noncomputable def Gt (z0:Di) (n_0:Int):Option ByteArray:=
 (z0 (w32 (Int.fdiv n_0 (2 ^ (Min.min (32:Int).toNat (IntKind.bits IntKind.i64)))))).bind fun r0=>
 (z0 (w32 n_0)).bind fun r1=>
 bif (decide ((r0.size+r1.size)≤9223372036854775807)) then
 some (r0++r1)
 else none
noncomputable def Ei:Et:=Gt Ic
theorem UAA:Tells ctx PP 133 cv14 cv9 (fun a=>Ei a):=fn_ok0 (hc Xz hl_nil) Tryd.func133 ((fun z0 a=>by kernel_rfl:∀ z0,EntryIs0 ctx PP 133 [] [(134,Dt z0)] cv14 cv9 fun a=>Gt z0 a) Ic)
noncomputable def VAA {γ:Type} (F:Et):Hd ctx γ:=hdl cv14.dec (fun a=>F a) cv9.enc
abbrev Ht:=Int→Option ByteArray
noncomputable def Jt (z0:Ai) (z1:Et) (count_0:Int):Option ByteArray:=
 (z0 ((w64 (119 - (count_0.tmod 64))).tmod 64)).bind fun r0=>
 bif (decide (((⟨#[128]⟩:ByteArray).size+r0.size)≤9223372036854775807)) then
 (z1 (w64 (8*count_0))).bind fun r1=>
 bif (decide ((((⟨#[128]⟩:ByteArray)++r0).size+r1.size)≤9223372036854775807)) then
 some (((⟨#[128]⟩:ByteArray)++r0)++r1)
 else none
 else none
noncomputable def Gi:Ht:=Jt Za Ei
theorem WAA:Tells ctx PP 108 cv14 cv9 (fun a=>Gi a):=fn_ok0 (hc Gs (hc UAA hl_nil)) Tryd.func108 ((fun z0 z1 a=>by kernel_rfl:∀ z0 z1,EntryIs0 ctx PP 108 [] [(92,Js z0),(133,VAA z1)] cv14 cv9 fun a=>Jt z0 z1 a) Za Ei)
noncomputable def XAA {γ:Type} (F:Ht):Hd ctx γ:=hdl cv14.dec (fun a=>F a) cv9.enc
abbrev Kt:=Int→Int→Option Int
noncomputable def Ot (x_0:Int) (k_1:Int):Option Int:=
 bif (decide (0≤(wu64 (32 - (wu64 (((BitVec.toNat ((BitVec.ofInt (IntKind.bits IntKind.u64) (wu64 k_1)) &&& (BitVec.ofInt (IntKind.bits IntKind.u64) 31))):Nat):Int)))))) then
 some (w32 (((BitVec.toNat ((BitVec.ofInt (IntKind.bits IntKind.u32) (w32 (x_0*(2 ^ (Min.min (wu64 (((BitVec.toNat ((BitVec.ofInt (IntKind.bits IntKind.u64) (wu64 k_1)) &&& (BitVec.ofInt (IntKind.bits IntKind.u64) 31))):Nat):Int)).toNat (IntKind.bits IntKind.u32)))))) ||| (BitVec.ofInt (IntKind.bits IntKind.u32) (Int.fdiv x_0 (2 ^ (Min.min (wu64 (32 - (wu64 (((BitVec.toNat ((BitVec.ofInt (IntKind.bits IntKind.u64) (wu64 k_1)) &&& (BitVec.ofInt (IntKind.bits IntKind.u64) 31))):Nat):Int)))).toNat (IntKind.bits IntKind.u32))))))):Nat):Int))
 else none
noncomputable def Ii:Kt:=Ot
theorem YAA:Tells ctx PP 163 cv16 cv15 (fun a=>Ii a.1 a.2):=fn_ok0 hl_nil Tryd.func163 (fun a=>by kernel_rfl:EntryIs0 ctx PP 163 [] [] cv16 cv15 fun a=>Ot a.1 a.2)
noncomputable def ZAA {γ:Type} (F:Kt):Hd ctx γ:=hdl cv16.dec (fun a=>F a.1 a.2) cv15.enc
abbrev Jg:=Int→Int→Option Int
noncomputable def Rt (z0:Kt) (x_0:Int) (n_1:Int):Option Int:=
 (z0 x_0 (w64 (0 - n_1))).bind fun r0=>
 some r0
noncomputable def TY:Jg:=Rt Ii
theorem Yz:Tells ctx PP 154 cv16 cv15 (fun a=>TY a.1 a.2):=fn_ok0 (hc YAA hl_nil) Tryd.func154 ((fun z0 a=>by kernel_rfl:∀ z0,EntryIs0 ctx PP 154 [] [(163,ZAA z0)] cv16 cv15 fun a=>Rt z0 a.1 a.2) Ii)
noncomputable def Pn {γ:Type} (F:Jg):Hd ctx γ:=hdl cv16.dec (fun a=>F a.1 a.2) cv15.enc
abbrev Qn:=ByteArray→Option (List Int)
inductive Ji where
 | c0 (block_0:ByteArray) (v_11:Int) (v_2r0:(List Int)) (w_3r0:(List Int))
 | c1 (block_0:ByteArray) (i_4:Int) (v_11:Int) (v_14:Int) (v_2r0:(List Int)) (w_3r0:(List Int))
 | c2 (t_6:Int) (v_2r0:(List Int)) (w_3r0:(List Int))
noncomputable def Zz:Ji→LI
 | .c0 block_0 v_11 v_2r0 w_3r0=>(tdo Tryd.f153 232,[(0,[.one (.str block_0)]),(2,[.one (.ptr 128 0)]),(3,[.one (.ptr 192 0)]),(11,[.one (.int .i64 v_11)])],[(128,.ar 114 v_2r0),(192,.ar 114 w_3r0)])
 | .c1 block_0 i_4 v_11 v_14 v_2r0 w_3r0=>(tdo Tryd.f153 59800,[(0,[.one (.str block_0)]),(2,[.one (.ptr 128 0)]),(3,[.one (.ptr 192 0)]),(4,[.one (.int .i64 i_4)]),(11,[.one (.int .i64 v_11)]),(14,[.one (.int .i64 v_14)])],[(128,.ar 114 v_2r0),(192,.ar 114 w_3r0)])
 | .c2 t_6 v_2r0 w_3r0=>(tdo Tryd.f153 976,[(2,[.one (.ptr 128 0)]),(3,[.one (.ptr 192 0)]),(6,[.one (.int .i64 t_6)])],[(128,.ar 114 v_2r0),(192,.ar 114 w_3r0)])
noncomputable def Tt (z0:Jg) (k:Ji→Option (List Int)) (block_0:ByteArray):Option (List Int):=
 k (.c0 block_0 0 (List.replicate 64 (0:Int)) (List.replicate 64 (0:Int)))
noncomputable def Md (z0:Jg) (k:Ji→Option (List Int)):Ji→Option (List Int)
 | .c0 block_0 v_11 v_2r0 w_3r0=>
 bif (decide (v_11<16)) then
  k (.c1 block_0 v_11 v_11 0 v_2r0 w_3r0)
 else
  k (.c2 16 v_2r0 w_3r0)
 | .c1 block_0 i_4 v_11 v_14 v_2r0 w_3r0=>
 bif (decide (v_14<4)) then
  bif (Nat.beq 64 w_3r0.length) then
  bif ((decide (0≤i_4)) && (decide (i_4<(w_3r0.length:Int)))) then
  bif ((decide (0≤(w64 ((w64 (4*i_4))+v_14)))) && (decide ((w64 ((w64 (4*i_4))+v_14))<(block_0.size:Int)))) then
  bif (Nat.beq 64 w_3r0.length) then
  bif ((decide (0≤i_4)) && (decide (i_4<(w_3r0.length:Int)))) then
  k (.c1 block_0 i_4 v_11 (w64 (v_14+1)) v_2r0 (w_3r0.set i_4.toNat (w32 (((BitVec.toNat ((BitVec.ofInt (IntKind.bits IntKind.u32) (w32 ((w_3r0.getD i_4.toNat 0)*(2 ^ (Min.min (8:Int).toNat (IntKind.bits IntKind.u32)))))) ||| (BitVec.ofInt (IntKind.bits IntKind.u32) (w32 (bt block_0 (w64 ((w64 (4*i_4))+v_14))))))):Nat):Int))))
  else none
  else none
  else none
  else none
  else none
 else
  k (.c0 block_0 (w64 (v_11+1)) v_2r0 w_3r0)
 | .c2 t_6 v_2r0 w_3r0=>
 bif (decide (t_6<64)) then
  bif (Nat.beq 64 w_3r0.length) then
  bif ((decide (0≤(w64 (t_6 - 15)))) && (decide ((w64 (t_6 - 15))<(w_3r0.length:Int)))) then
  bif (Nat.beq 64 w_3r0.length) then
  bif ((decide (0≤(w64 (t_6 - 2)))) && (decide ((w64 (t_6 - 2))<(w_3r0.length:Int)))) then
  (z0 (w_3r0.getD (w64 (t_6 - 15)).toNat 0) 7).bind fun r0=>
  (z0 (w_3r0.getD (w64 (t_6 - 15)).toNat 0) 18).bind fun r1=>
  (z0 (w_3r0.getD (w64 (t_6 - 2)).toNat 0) 17).bind fun r2=>
  (z0 (w_3r0.getD (w64 (t_6 - 2)).toNat 0) 19).bind fun r3=>
  bif (Nat.beq 64 w_3r0.length) then
  bif ((decide (0≤(w64 (t_6 - 7)))) && (decide ((w64 (t_6 - 7))<(w_3r0.length:Int)))) then
  bif (Nat.beq 64 w_3r0.length) then
  bif ((decide (0≤(w64 (t_6 - 16)))) && (decide ((w64 (t_6 - 16))<(w_3r0.length:Int)))) then
  bif (Nat.beq 64 w_3r0.length) then
  bif ((decide (0≤t_6)) && (decide (t_6<(w_3r0.length:Int)))) then
  k (.c2 (w64 (t_6+1)) v_2r0 (w_3r0.set t_6.toNat (w32 ((w32 ((w32 ((w32 (((BitVec.toNat ((BitVec.ofInt (IntKind.bits IntKind.u32) (w32 (((BitVec.toNat ((BitVec.ofInt (IntKind.bits IntKind.u32) r2) ^^^ (BitVec.ofInt (IntKind.bits IntKind.u32) r3))):Nat):Int))) ^^^ (BitVec.ofInt (IntKind.bits IntKind.u32) (Int.fdiv (w_3r0.getD (w64 (t_6 - 2)).toNat 0) (2 ^ (Min.min (10:Int).toNat (IntKind.bits IntKind.u32))))))):Nat):Int))+(w_3r0.getD (w64 (t_6 - 7)).toNat 0)))+(w32 (((BitVec.toNat ((BitVec.ofInt (IntKind.bits IntKind.u32) (w32 (((BitVec.toNat ((BitVec.ofInt (IntKind.bits IntKind.u32) r0) ^^^ (BitVec.ofInt (IntKind.bits IntKind.u32) r1))):Nat):Int))) ^^^ (BitVec.ofInt (IntKind.bits IntKind.u32) (Int.fdiv (w_3r0.getD (w64 (t_6 - 15)).toNat 0) (2 ^ (Min.min (3:Int).toNat (IntKind.bits IntKind.u32))))))):Nat):Int))))+(w_3r0.getD (w64 (t_6 - 16)).toNat 0)))))
  else none
  else none
  else none
  else none
  else none
  else none
  else none
  else none
  else none
  else none
 else
  bif (Nat.beq 64 w_3r0.length) then
  bif ((Nat.beq w_3r0.length v_2r0.length) && (Nat.beq 64 w_3r0.length)) then
  bif ((Nat.beq 64 w_3r0.length) && true) then
  some w_3r0
  else none
  else none
  else none
noncomputable def QZ:Nat→Ji→Option (List Int)
 | 0,_=>none
 | m+1,s=>Md TY (QZ m) s
noncomputable def Qe:Qn:=Tt TY (QZ gas)
theorem AAB:Tells ctx PP 153 cv9 cv13 (fun a=>Qe a):=
 have b:∀ z0,CutIs ctx PP 153 Tryd.f153 [] [(154,Pn z0)] cv13 Zz (Md z0):=fun z0 _ s=>by cases s <;> kernel_rfl
 have e:∀ z0,EntryIs ctx PP 153 [] [(154,Pn z0)] cv9 cv13 Zz (fun k a=>Tt z0 k a):=fun z0 _ a=>by kernel_rfl
 fn_ok (hc Yz hl_nil) Tryd.func153 (fun s s' h=>by cases s <;> cases s' <;> first | (cases h;done) | (cases h;rfl) | exact (rg_ne h (by kernel_rfl)).elim) (fun _=>rfl) (fun _ _=>rfl) (b TY) (e TY) gas
noncomputable def O0 {γ:Type} (F:Qn):Hd ctx γ:=hdl cv9.dec (fun a=>F a) cv13.enc
abbrev Rn:=(List Int)→ByteArray→Option (List Int)
inductive Oi where
 | c0 (a_6:Int) (b_7:Int) (c_8:Int) (d_9:Int) (e_10:Int) (f_11:Int) (g_12:Int) (h_13:Int) (v_37:Int) (state_2r0:(List Int)) (v_4r0:(List Int)) (w_5r0:(List Int))
 | c1 (v_109:Int) (state_2r0:(List Int)) (v_4r0:(List Int)) (out_17r0:(List Int))
noncomputable def U0:Oi→LI
 | .c0 a_6 b_7 c_8 d_9 e_10 f_11 g_12 h_13 v_37 state_2r0 v_4r0 w_5r0=>(tdo Tryd.f132 488,[(2,[.one (.ptr 128 0)]),(4,[.one (.ptr 256 0)]),(5,[.one (.ptr 320 0)]),(6,[.one (.int .u32 a_6)]),(7,[.one (.int .u32 b_7)]),(8,[.one (.int .u32 c_8)]),(9,[.one (.int .u32 d_9)]),(10,[.one (.int .u32 e_10)]),(11,[.one (.int .u32 f_11)]),(12,[.one (.int .u32 g_12)]),(13,[.one (.int .u32 h_13)]),(37,[.one (.int .i64 v_37)])],[(128,.ar 114 state_2r0),(256,.ar 114 v_4r0),(320,.ar 114 w_5r0)])
 | .c1 v_109 state_2r0 v_4r0 out_17r0=>(tdo Tryd.f132 2024,[(2,[.one (.ptr 128 0)]),(4,[.one (.ptr 256 0)]),(17,[.one (.ptr 1088 0)]),(109,[.one (.int .i64 v_109)])],[(128,.ar 114 state_2r0),(256,.ar 114 v_4r0),(1088,.ar 114 out_17r0)])
noncomputable def Ut (z0:Qn) (z1:Jg) (k:Oi→Option (List Int)) (state_0:(List Int)) (block_1:ByteArray):Option (List Int):=
 (z0 block_1).bind fun r0=>
 bif ((Nat.beq r0.length (List.replicate 64 (0:Int)).length) && (Nat.beq 64 r0.length)) then
 bif (Nat.beq 8 state_0.length) then
 bif ((decide ((0:Int)≤(0:Int))) && (decide (0<(state_0.length:Int)))) then
 bif (Nat.beq 8 state_0.length) then
 bif ((decide ((0:Int)≤(1:Int))) && (decide (1<(state_0.length:Int)))) then
 bif (Nat.beq 8 state_0.length) then
 bif ((decide ((0:Int)≤(2:Int))) && (decide (2<(state_0.length:Int)))) then
 bif (Nat.beq 8 state_0.length) then
 bif ((decide ((0:Int)≤(3:Int))) && (decide (3<(state_0.length:Int)))) then
 bif (Nat.beq 8 state_0.length) then
 bif ((decide ((0:Int)≤(4:Int))) && (decide (4<(state_0.length:Int)))) then
 bif (Nat.beq 8 state_0.length) then
 bif ((decide ((0:Int)≤(5:Int))) && (decide (5<(state_0.length:Int)))) then
 bif (Nat.beq 8 state_0.length) then
 bif ((decide ((0:Int)≤(6:Int))) && (decide (6<(state_0.length:Int)))) then
 bif (Nat.beq 8 state_0.length) then
 bif ((decide ((0:Int)≤(7:Int))) && (decide (7<(state_0.length:Int)))) then
 k (.c0 (state_0.getD (0:Int).toNat 0) (state_0.getD (1:Int).toNat 0) (state_0.getD (2:Int).toNat 0) (state_0.getD (3:Int).toNat 0) (state_0.getD (4:Int).toNat 0) (state_0.getD (5:Int).toNat 0) (state_0.getD (6:Int).toNat 0) (state_0.getD (7:Int).toNat 0) 0 state_0 [0,0,0,0,0,0,0,0] r0)
 else none
 else none
 else none
 else none
 else none
 else none
 else none
 else none
 else none
 else none
 else none
 else none
 else none
 else none
 else none
 else none
 else none
noncomputable def Og (z0:Qn) (z1:Jg) (k:Oi→Option (List Int)):Oi→Option (List Int)
 | .c0 a_6 b_7 c_8 d_9 e_10 f_11 g_12 h_13 v_37 state_2r0 v_4r0 w_5r0=>
 bif (decide (v_37<64)) then
  (z1 e_10 6).bind fun r0=>
  (z1 e_10 11).bind fun r1=>
  (z1 e_10 25).bind fun r2=>
  bif ((decide (0≤v_37)) && (decide (v_37<((64:Nat):Int)))) then
  bif (Nat.blt v_37.toNat 64) then
  bif (Nat.beq 64 w_5r0.length) then
  bif ((decide (0≤v_37)) && (decide (v_37<(w_5r0.length:Int)))) then
  (z1 a_6 2).bind fun r3=>
  (z1 a_6 13).bind fun r4=>
  (z1 a_6 22).bind fun r5=>
  k (.c0 (w32 ((w32 ((w32 ((w32 ((w32 (h_13+(w32 (((BitVec.toNat ((BitVec.ofInt (IntKind.bits IntKind.u32) (w32 (((BitVec.toNat ((BitVec.ofInt (IntKind.bits IntKind.u32) r0) ^^^ (BitVec.ofInt (IntKind.bits IntKind.u32) r1))):Nat):Int))) ^^^ (BitVec.ofInt (IntKind.bits IntKind.u32) r2))):Nat):Int))))+(w32 (((BitVec.toNat ((BitVec.ofInt (IntKind.bits IntKind.u32) (w32 (((BitVec.toNat ((BitVec.ofInt (IntKind.bits IntKind.u32) e_10) &&& (BitVec.ofInt (IntKind.bits IntKind.u32) f_11))):Nat):Int))) ^^^ (BitVec.ofInt (IntKind.bits IntKind.u32) (w32 (((BitVec.toNat ((BitVec.ofInt (IntKind.bits IntKind.u32) (w32 (((BitVec.toNat ((BitVec.ofInt (IntKind.bits IntKind.u32) (ite ((IntKind.signed IntKind.u32)=true) (-(1:Int)) (IntKind.max IntKind.u32))) ^^^ (BitVec.ofInt (IntKind.bits IntKind.u32) e_10))):Nat):Int))) &&& (BitVec.ofInt (IntKind.bits IntKind.u32) g_12))):Nat):Int))))):Nat):Int))))+([(1116352408:Int),(1899447441:Int),(3049323471:Int),(3921009573:Int),(961987163:Int),(1508970993:Int),(2453635748:Int),(2870763221:Int),(3624381080:Int),(310598401:Int),(607225278:Int),(1426881987:Int),(1925078388:Int),(2162078206:Int),(2614888103:Int),(3248222580:Int),(3835390401:Int),(4022224774:Int),(264347078:Int),(604807628:Int),(770255983:Int),(1249150122:Int),(1555081692:Int),(1996064986:Int),(2554220882:Int),(2821834349:Int),(2952996808:Int),(3210313671:Int),(3336571891:Int),(3584528711:Int),(113926993:Int),(338241895:Int),(666307205:Int),(773529912:Int),(1294757372:Int),(1396182291:Int),(1695183700:Int),(1986661051:Int),(2177026350:Int),(2456956037:Int),(2730485921:Int),(2820302411:Int),(3259730800:Int),(3345764771:Int),(3516065817:Int),(3600352804:Int),(4094571909:Int),(275423344:Int),(430227734:Int),(506948616:Int),(659060556:Int),(883997877:Int),(958139571:Int),(1322822218:Int),(1537002063:Int),(1747873779:Int),(1955562222:Int),(2024104815:Int),(2227730452:Int),(2361852424:Int),(2428436474:Int),(2756734187:Int),(3204031479:Int),(3329325298:Int)].getD v_37.toNat 0)))+(w_5r0.getD v_37.toNat 0)))+(w32 ((w32 (((BitVec.toNat ((BitVec.ofInt (IntKind.bits IntKind.u32) (w32 (((BitVec.toNat ((BitVec.ofInt (IntKind.bits IntKind.u32) r3) ^^^ (BitVec.ofInt (IntKind.bits IntKind.u32) r4))):Nat):Int))) ^^^ (BitVec.ofInt (IntKind.bits IntKind.u32) r5))):Nat):Int))+(w32 (((BitVec.toNat ((BitVec.ofInt (IntKind.bits IntKind.u32) (w32 (((BitVec.toNat ((BitVec.ofInt (IntKind.bits IntKind.u32) (w32 (((BitVec.toNat ((BitVec.ofInt (IntKind.bits IntKind.u32) a_6) &&& (BitVec.ofInt (IntKind.bits IntKind.u32) b_7))):Nat):Int))) ^^^ (BitVec.ofInt (IntKind.bits IntKind.u32) (w32 (((BitVec.toNat ((BitVec.ofInt (IntKind.bits IntKind.u32) a_6) &&& (BitVec.ofInt (IntKind.bits IntKind.u32) c_8))):Nat):Int))))):Nat):Int))) ^^^ (BitVec.ofInt (IntKind.bits IntKind.u32) (w32 (((BitVec.toNat ((BitVec.ofInt (IntKind.bits IntKind.u32) b_7) &&& (BitVec.ofInt (IntKind.bits IntKind.u32) c_8))):Nat):Int))))):Nat):Int)))))) a_6 b_7 c_8 (w32 (d_9+(w32 ((w32 ((w32 ((w32 (h_13+(w32 (((BitVec.toNat ((BitVec.ofInt (IntKind.bits IntKind.u32) (w32 (((BitVec.toNat ((BitVec.ofInt (IntKind.bits IntKind.u32) r0) ^^^ (BitVec.ofInt (IntKind.bits IntKind.u32) r1))):Nat):Int))) ^^^ (BitVec.ofInt (IntKind.bits IntKind.u32) r2))):Nat):Int))))+(w32 (((BitVec.toNat ((BitVec.ofInt (IntKind.bits IntKind.u32) (w32 (((BitVec.toNat ((BitVec.ofInt (IntKind.bits IntKind.u32) e_10) &&& (BitVec.ofInt (IntKind.bits IntKind.u32) f_11))):Nat):Int))) ^^^ (BitVec.ofInt (IntKind.bits IntKind.u32) (w32 (((BitVec.toNat ((BitVec.ofInt (IntKind.bits IntKind.u32) (w32 (((BitVec.toNat ((BitVec.ofInt (IntKind.bits IntKind.u32) (ite ((IntKind.signed IntKind.u32)=true) (-(1:Int)) (IntKind.max IntKind.u32))) ^^^ (BitVec.ofInt (IntKind.bits IntKind.u32) e_10))):Nat):Int))) &&& (BitVec.ofInt (IntKind.bits IntKind.u32) g_12))):Nat):Int))))):Nat):Int))))+([(1116352408:Int),(1899447441:Int),(3049323471:Int),(3921009573:Int),(961987163:Int),(1508970993:Int),(2453635748:Int),(2870763221:Int),(3624381080:Int),(310598401:Int),(607225278:Int),(1426881987:Int),(1925078388:Int),(2162078206:Int),(2614888103:Int),(3248222580:Int),(3835390401:Int),(4022224774:Int),(264347078:Int),(604807628:Int),(770255983:Int),(1249150122:Int),(1555081692:Int),(1996064986:Int),(2554220882:Int),(2821834349:Int),(2952996808:Int),(3210313671:Int),(3336571891:Int),(3584528711:Int),(113926993:Int),(338241895:Int),(666307205:Int),(773529912:Int),(1294757372:Int),(1396182291:Int),(1695183700:Int),(1986661051:Int),(2177026350:Int),(2456956037:Int),(2730485921:Int),(2820302411:Int),(3259730800:Int),(3345764771:Int),(3516065817:Int),(3600352804:Int),(4094571909:Int),(275423344:Int),(430227734:Int),(506948616:Int),(659060556:Int),(883997877:Int),(958139571:Int),(1322822218:Int),(1537002063:Int),(1747873779:Int),(1955562222:Int),(2024104815:Int),(2227730452:Int),(2361852424:Int),(2428436474:Int),(2756734187:Int),(3204031479:Int),(3329325298:Int)].getD v_37.toNat 0)))+(w_5r0.getD v_37.toNat 0))))) e_10 f_11 g_12 (w64 (v_37+1)) state_2r0 v_4r0 w_5r0)
  else none
  else none
  else none
  else none
 else
  k (.c1 0 state_2r0 v_4r0 [a_6,b_7,c_8,d_9,e_10,f_11,g_12,h_13])
 | .c1 v_109 state_2r0 v_4r0 out_17r0=>
 bif (decide (v_109<8)) then
  bif (Nat.beq 8 out_17r0.length) then
  bif ((decide (0≤v_109)) && (decide (v_109<(out_17r0.length:Int)))) then
  bif (Nat.beq 8 state_2r0.length) then
  bif ((decide (0≤v_109)) && (decide (v_109<(state_2r0.length:Int)))) then
  bif (Nat.beq 8 out_17r0.length) then
  bif ((decide (0≤v_109)) && (decide (v_109<(out_17r0.length:Int)))) then
  k (.c1 (w64 (v_109+1)) state_2r0 v_4r0 (out_17r0.set v_109.toNat (w32 ((out_17r0.getD v_109.toNat 0)+(state_2r0.getD v_109.toNat 0)))))
  else none
  else none
  else none
  else none
  else none
  else none
 else
  bif (Nat.beq 8 out_17r0.length) then
  bif ((Nat.beq out_17r0.length v_4r0.length) && (Nat.beq 8 out_17r0.length)) then
  bif ((Nat.beq 8 out_17r0.length) && true) then
  some out_17r0
  else none
  else none
  else none
noncomputable def Fa:Nat→Oi→Option (List Int)
 | 0,_=>none
 | m+1,s=>Og Qe TY (Fa m) s
noncomputable def Ue:Rn:=Ut Qe TY (Fa gas)
theorem BAB:Tells ctx PP 132 cv17 cv13 (fun a=>Ue a.1 a.2):=
 have b:∀ z0 z1,CutIs ctx PP 132 Tryd.f132 [] [(153,O0 z0),(154,Pn z1)] cv13 U0 (Og z0 z1):=fun z0 z1 _ s=>by cases s <;> kernel_rfl
 have e:∀ z0 z1,EntryIs ctx PP 132 [] [(153,O0 z0),(154,Pn z1)] cv17 cv13 U0 (fun k a=>Ut z0 z1 k a.1 a.2):=fun z0 z1 _ a=>by kernel_rfl
 fn_ok (hc AAB (hc Yz hl_nil)) Tryd.func132 (fun s s' h=>by cases s <;> cases s' <;> first | (cases h;done) | (cases h;rfl) | exact (rg_ne h (by kernel_rfl)).elim) (fun _=>rfl) (fun _ _=>rfl) (b Qe TY) (e Qe TY) gas
noncomputable def X0 {γ:Type} (F:Rn):Hd ctx γ:=hdl cv17.dec (fun a=>F a.1 a.2) cv13.enc
abbrev Vt:=(List Int)→ByteArray→Option ((List Int)×ByteArray)
inductive Qi where
 | c0 (s_1:ByteArray) (state_2r0:(List Int)) (v_4r0:(List Int))
noncomputable def Y0:Qi→LI
 | .c0 s_1 state_2r0 v_4r0=>(tdo Tryd.f106 96,[(1,[.one (.str s_1)]),(2,[.one (.ptr 128 0)]),(4,[.one (.ptr 256 0)])],[(128,.ar 114 state_2r0),(256,.ar 114 v_4r0)])
noncomputable def Xt (z0:Rn) (k:Qi→Option ((List Int)×ByteArray)) (state_0:(List Int)) (s_1:ByteArray):Option ((List Int)×ByteArray):=
 k (.c0 s_1 state_0 [0,0,0,0,0,0,0,0])
noncomputable def Tn (z0:Rn) (k:Qi→Option ((List Int)×ByteArray)):Qi→Option ((List Int)×ByteArray)
 | .c0 s_1 state_2r0 v_4r0=>
 bif (decide ((s_1.size:Int)≥64)) then
  bif (Nat.beq 8 state_2r0.length) then
  bif ((decide ((0:Int)≤(64:Int))) && (decide (64≤(s_1.size:Int)))) then
  (z0 state_2r0 (s_1.extract 0 (64:Int).toNat)).bind fun r0=>
  bif ((Nat.beq r0.length state_2r0.length) && (Nat.beq 8 r0.length)) then
  bif ((decide ((0:Int)≤(64:Int))) && (decide (64≤(s_1.size:Int)))) then
  k (.c0 (s_1.extract (64:Int).toNat s_1.size) r0 v_4r0)
  else none
  else none
  else none
  else none
 else
  bif (Nat.beq 8 state_2r0.length) then
  bif ((Nat.beq state_2r0.length v_4r0.length) && (Nat.beq 8 state_2r0.length)) then
  bif ((Nat.beq 8 state_2r0.length) && true) then
  some (state_2r0,s_1)
  else none
  else none
  else none
noncomputable def Ri:Nat→Qi→Option ((List Int)×ByteArray)
 | 0,_=>none
 | m+1,s=>Tn Ue (Ri m) s
noncomputable def Si:Vt:=Xt Ue (Ri gas)
theorem CAB:Tells ctx PP 106 cv17 cv17 (fun a=>Si a.1 a.2):=
 have b:∀ z0,CutIs ctx PP 106 Tryd.f106 [] [(132,X0 z0)] cv17 Y0 (Tn z0):=fun z0 _ s=>by cases s <;> kernel_rfl
 have e:∀ z0,EntryIs ctx PP 106 [] [(132,X0 z0)] cv17 cv17 Y0 (fun k a=>Xt z0 k a.1 a.2):=fun z0 _ a=>by kernel_rfl
 fn_ok (hc BAB hl_nil) Tryd.func106 (fun s s' h=>by cases s;cases s';cases h;rfl) (fun _=>rfl) (fun _ _=>rfl) (b Ue) (e Ue) gas
noncomputable def DAB {γ:Type} (F:Vt):Hd ctx γ:=hdl cv17.dec (fun a=>F a.1 a.2) cv17.enc
abbrev Yt:=(List Int)→Option ByteArray
inductive Ti where
 | c0 (out_3:ByteArray) (v_6:(List Int)) (v_7:Int)
noncomputable def O1:Ti→LI
 | .c0 out_3 v_6 v_7=>(tdo Tryd.f109 232,[(3,[.one (.str out_3)]),(6,[.arr 114 v_6]),(7,[.one (.int .i64 v_7)])],[])
noncomputable def Zt (z0:Di) (k:Ti→Option ByteArray) (state_0:(List Int)):Option ByteArray:=
 bif (Nat.beq 8 state_0.length) then
 k (.c0 ⟨#[]⟩ state_0 0)
 else none
noncomputable def Un (z0:Di) (k:Ti→Option ByteArray):Ti→Option ByteArray
 | .c0 out_3 v_6 v_7=>
 bif (decide (v_7<8)) then
  bif (Nat.beq 8 v_6.length) then
  bif ((decide (0≤v_7)) && (decide (v_7<(v_6.length:Int)))) then
  (z0 (v_6.getD v_7.toNat 0)).bind fun r0=>
  bif (decide ((out_3.size+r0.size)≤9223372036854775807)) then
  k (.c0 (out_3++r0) v_6 (w64 (v_7+1)))
  else none
  else none
  else none
 else
  some out_3
noncomputable def Ui:Nat→Ti→Option ByteArray
 | 0,_=>none
 | m+1,s=>Un Ic (Ui m) s
noncomputable def Wi:Yt:=Zt Ic (Ui gas)
theorem EAB:Tells ctx PP 109 cv13 cv9 (fun a=>Wi a):=
 have b:∀ z0,CutIs ctx PP 109 Tryd.f109 [] [(134,Dt z0)] cv9 O1 (Un z0):=fun z0 _ s=>by cases s <;> kernel_rfl
 have e:∀ z0,EntryIs ctx PP 109 [] [(134,Dt z0)] cv13 cv9 O1 (fun k a=>Zt z0 k a):=fun z0 _ a=>by kernel_rfl
 fn_ok (hc Xz hl_nil) Tryd.func109 (fun s s' h=>by cases s;cases s';cases h;rfl) (fun _=>rfl) (fun _ _=>rfl) (b Ic) (e Ic) gas
noncomputable def FAB {γ:Type} (F:Yt):Hd ctx γ:=hdl cv13.dec (fun a=>F a) cv9.enc
abbrev Au:=ByteArray→Option ByteArray
noncomputable def Du (z0:Vs) (z1:Ht) (z2:Vt) (z3:Yt) (s_0:ByteArray):Option ByteArray:=
 z0.bind fun r0=>
 (z1 (s_0.size:Int)).bind fun r1=>
 bif (decide ((s_0.size+r1.size)≤9223372036854775807)) then
 (z2 r0 (s_0++r1)).bind fun r2=>
 bif ((Nat.beq r2.1.length 8) && (Nat.beq 8 r2.1.length)) then
 bif (Nat.beq 8 r2.1.length) then
 (z3 r2.1).bind fun r3=>
 some r3
 else none
 else none
 else none
noncomputable def Ve:Au:=Du Gn Gi Si Wi
theorem GAB:Tells ctx PP 59 cv9 cv9 (fun a=>Ve a):=fn_ok0 (hc SAA (hc WAA (hc CAB (hc EAB hl_nil)))) Tryd.func59 ((fun z0 z1 z2 z3 a=>by kernel_rfl:∀ z0 z1 z2 z3,EntryIs0 ctx PP 59 [] [(107,TAA z0),(108,XAA z1),(106,DAB z2),(109,FAB z3)] cv9 cv9 fun a=>Du z0 z1 z2 z3 a) Gn Gi Si Wi)
noncomputable def IAB {γ:Type} (F:Au):Hd ctx γ:=hdl cv9.dec (fun a=>F a) cv9.enc
abbrev Eu:=ByteArray→Int→Option ByteArray
inductive Xi where
 | c0 (x_1:Int) (v_10:Int) (v_11:Int) (out_5:(List Int))
noncomputable def U1:Xi→LI
 | .c0 x_1 v_10 v_11 out_5=>(tdo Tryd.f117 232,[(1,[.one (.int .u8 x_1)]),(5,[.one (.own 368)]),(10,[.one (.int .i64 v_10)]),(11,[.one (.int .i64 v_11)])],[(368,.sl 5 out_5)])
noncomputable def Gu (k:Xi→Option ByteArray) (s_0:ByteArray) (x_1:Int):Option ByteArray:=
 bif (decide (s_0.size≤9223372036854775807)) then
 k (.c0 x_1 ((bytesOf s_0).length:Int) 0 (bytesOf s_0))
 else none
noncomputable def Wn (k:Xi→Option ByteArray):Xi→Option ByteArray
 | .c0 x_1 v_10 v_11 out_5=>
 bif (decide (v_11<v_10)) then
  bif ((decide (0≤v_11)) && (decide (v_11<(out_5.length:Int)))) then
  bif ((decide (0≤v_11)) && (decide (v_11<(out_5.length:Int)))) then
  k (.c0 x_1 v_10 (w64 (v_11+1)) (out_5.set v_11.toNat (w8 (((BitVec.toNat ((BitVec.ofInt (IntKind.bits IntKind.u8) (out_5.getD v_11.toNat 0)) ^^^ (BitVec.ofInt (IntKind.bits IntKind.u8) x_1))):Nat):Int))))
  else none
  else none
 else
  some (ofBytes out_5)
noncomputable def Yi:Nat→Xi→Option ByteArray
 | 0,_=>none
 | m+1,s=>Wn (Yi m) s
noncomputable def Xe:Eu:=Gu (Yi gas)
theorem JAB:Tells ctx PP 117 cv34 cv9 (fun a=>Xe a.1 a.2):=
 have b:CutIs ctx PP 117 Tryd.f117 [] [] cv9 U1 (Wn):=fun _ s=>by cases s <;> kernel_rfl
 have e:EntryIs ctx PP 117 [] [] cv34 cv9 U1 (fun k a=>Gu k a.1 a.2):=fun _ a=>by kernel_rfl
 fn_ok hl_nil Tryd.func117 (fun s s' h=>by cases s;cases s';cases h;rfl) (fun _=>rfl) (fun _ _=>rfl) b e gas
noncomputable def KAB {γ:Type} (F:Eu):Hd ctx γ:=hdl cv34.dec (fun a=>F a.1 a.2) cv9.enc
abbrev Zi:=ByteArray→ByteArray→Option ByteArray
noncomputable def Hu (z0:Au) (z1:Ai) (z2:Eu) (key_0:ByteArray) (s_1:ByteArray):Option ByteArray:=
 bif (decide ((key_0.size:Int) > 64)) then
 (z0 key_0).bind fun r0=>
 (z1 (w64 (64 - (r0.size:Int)))).bind fun r1=>
 bif (decide ((r0.size+r1.size)≤9223372036854775807)) then
 (z2 (r0++r1) 92).bind fun r2=>
 (z2 (r0++r1) 54).bind fun r3=>
 bif (decide ((r3.size+s_1.size)≤9223372036854775807)) then
 (z0 (r3++s_1)).bind fun r4=>
 bif (decide ((r2.size+r4.size)≤9223372036854775807)) then
 (z0 (r2++r4)).bind fun r5=>
 some r5
 else none
 else none
 else none
 else
 (z1 (w64 (64 - (key_0.size:Int)))).bind fun r6=>
 bif (decide ((key_0.size+r6.size)≤9223372036854775807)) then
 (z2 (key_0++r6) 92).bind fun r7=>
 (z2 (key_0++r6) 54).bind fun r8=>
 bif (decide ((r8.size+s_1.size)≤9223372036854775807)) then
 (z0 (r8++s_1)).bind fun r9=>
 bif (decide ((r7.size+r9.size)≤9223372036854775807)) then
 (z0 (r7++r9)).bind fun r10=>
 some r10
 else none
 else none
 else none
noncomputable def Jc:Zi:=Hu Ve Za Xe
theorem Y1:Tells ctx PP 74 cv35 cv9 (fun a=>Jc a.1 a.2):=fn_ok0 (hc GAB (hc Gs (hc JAB hl_nil))) Tryd.func74 ((fun z0 z1 z2 a=>by kernel_rfl:∀ z0 z1 z2,EntryIs0 ctx PP 74 [] [(59,IAB z0),(92,Js z1),(117,KAB z2)] cv35 cv9 fun a=>Hu z0 z1 z2 a.1 a.2) Ve Za Xe)
noncomputable def Iu {γ:Type} (F:Zi):Hd ctx γ:=hdl cv35.dec (fun a=>F a.1 a.2) cv9.enc
abbrev Xn:=ByteArray→Int→Int→Option (ByteArray×Bool)
inductive Aj where
 | c0 (key_0:ByteArray) (n_2:Int) (v_8:ByteArray) (out_10:ByteArray) (i_11:Int)
noncomputable def U2:Aj→LI
 | .c0 key_0 n_2 v_8 out_10 i_11=>(tdo Tryd.f24 2000,[(0,[.one (.str key_0)]),(2,[.one (.int .i64 n_2)]),(8,[.one (.str v_8)]),(10,[.one (.str out_10)]),(11,[.one (.int .i64 i_11)])],[])
noncomputable def Ju (z0:Dn) (z1:Je) (z2:En) (z3:Zi) (k:Aj→Option (ByteArray×Bool)) (key_0:ByteArray) (num_1:Int) (n_2:Int):Option (ByteArray×Bool):=
 (z0 num_1).bind fun r0=>
 bif (!r0.2) then
 some (⟨#[]⟩,false)
 else
 (z1 n_2 0 8000).bind fun r1=>
 bif (!r1) then
  some (⟨#[]⟩,false)
 else
  k (.c0 key_0 n_2 r0.1 ⟨#[]⟩ 0)
noncomputable def Yn (z0:Dn) (z1:Je) (z2:En) (z3:Zi) (k:Aj→Option (ByteArray×Bool)):Aj→Option (ByteArray×Bool)
 | .c0 key_0 n_2 v_8 out_10 i_11=>
 bif (decide ((out_10.size:Int)<n_2)) then
  bif (decide (((⟨#[109]⟩:ByteArray).size+v_8.size)≤9223372036854775807)) then
  (z2 i_11).bind fun r0=>
  bif (decide ((((⟨#[109]⟩:ByteArray)++v_8).size+r0.size)≤9223372036854775807)) then
  (z3 key_0 (((⟨#[109]⟩:ByteArray)++v_8)++r0)).bind fun r1=>
  bif (decide ((out_10.size+r1.size)≤9223372036854775807)) then
  k (.c0 key_0 n_2 v_8 (out_10++r1) (w64 (i_11+1)))
  else none
  else none
  else none
 else
  bif ((decide (0≤n_2)) && (decide (n_2≤(out_10.size:Int)))) then
  some ((out_10.extract 0 n_2.toNat),true)
  else none
noncomputable def Bj:Nat→Aj→Option (ByteArray×Bool)
 | 0,_=>none
 | m+1,s=>Yn Me YZ Oe Jc (Bj m) s
noncomputable def Ye:Xn:=Ju Me YZ Oe Jc (Bj gas)
theorem Y2:Tells ctx PP 24 cv36 cv33 (fun a=>Ye a.1 a.2.1 a.2.2):=
 have b:∀ z0 z1 z2 z3,CutIs ctx PP 24 Tryd.f24 [] [(73,Tz z0),(62,Ci z1),(75,Uz z2),(74,Iu z3)] cv33 U2 (Yn z0 z1 z2 z3):=fun z0 z1 z2 z3 _ s=>by cases s <;> kernel_rfl
 have e:∀ z0 z1 z2 z3,EntryIs ctx PP 24 [] [(73,Tz z0),(62,Ci z1),(75,Uz z2),(74,Iu z3)] cv36 cv33 U2 (fun k a=>Ju z0 z1 z2 z3 k a.1 a.2.1 a.2.2):=fun z0 z1 z2 z3 _ a=>by kernel_rfl
 fn_ok (hc QAA (hc Ns (hc RAA (hc Y1 hl_nil)))) Tryd.func24 (fun s s' h=>by cases s;cases s';cases h;rfl) (fun _=>rfl) (fun _ _=>rfl) (b Me YZ Oe Jc) (e Me YZ Oe Jc) gas
noncomputable def J3 {γ:Type} (F:Xn):Hd ctx γ:=hdl cv36.dec (fun a=>F a.1 a.2.1 a.2.2) cv33.enc
abbrev Zn:=ByteArray→ByteArray→Option ByteArray
inductive Cj where
 | c0 (b_1:ByteArray) (v_10:Int) (v_11:Int) (out_5:(List Int))
noncomputable def O3:Cj→LI
 | .c0 b_1 v_10 v_11 out_5=>(tdo Tryd.f66 232,[(1,[.one (.str b_1)]),(5,[.one (.own 368)]),(10,[.one (.int .i64 v_10)]),(11,[.one (.int .i64 v_11)])],[(368,.sl 5 out_5)])
noncomputable def Ku (k:Cj→Option ByteArray) (a_0:ByteArray) (b_1:ByteArray):Option ByteArray:=
 bif (decide (a_0.size≤9223372036854775807)) then
 k (.c0 b_1 ((bytesOf a_0).length:Int) 0 (bytesOf a_0))
 else none
noncomputable def Bo (k:Cj→Option ByteArray):Cj→Option ByteArray
 | .c0 b_1 v_10 v_11 out_5=>
 bif (decide (v_11<v_10)) then
  bif ((decide (0≤v_11)) && (decide (v_11<(out_5.length:Int)))) then
  bif ((decide (0≤v_11)) && (decide (v_11<(b_1.size:Int)))) then
  bif ((decide (0≤v_11)) && (decide (v_11<(out_5.length:Int)))) then
  k (.c0 b_1 v_10 (w64 (v_11+1)) (out_5.set v_11.toNat (w8 (((BitVec.toNat ((BitVec.ofInt (IntKind.bits IntKind.u8) (out_5.getD v_11.toNat 0)) ^^^ (BitVec.ofInt (IntKind.bits IntKind.u8) (bt b_1 v_11)))):Nat):Int))))
  else none
  else none
  else none
 else
  some (ofBytes out_5)
noncomputable def Ej:Nat→Cj→Option ByteArray
 | 0,_=>none
 | m+1,s=>Bo (Ej m) s
noncomputable def Ze:Zn:=Ku (Ej gas)
theorem U3:Tells ctx PP 66 cv35 cv9 (fun a=>Ze a.1 a.2):=
 have b:CutIs ctx PP 66 Tryd.f66 [] [] cv9 O3 (Bo):=fun _ s=>by cases s <;> kernel_rfl
 have e:EntryIs ctx PP 66 [] [] cv35 cv9 O3 (fun k a=>Ku k a.1 a.2):=fun _ a=>by kernel_rfl
 fn_ok hl_nil Tryd.func66 (fun s s' h=>by cases s;cases s';cases h;rfl) (fun _=>rfl) (fun _ _=>rfl) b e gas
noncomputable def V3 {γ:Type} (F:Zn):Hd ctx γ:=hdl cv35.dec (fun a=>F a.1 a.2) cv9.enc
abbrev Eo:=ByteArray→Int→ByteArray→Option ByteArray
noncomputable def Lu (z0:Xh) (z1:Zi) (key_0:ByteArray) (num_1:Int) (s_2:ByteArray):Option ByteArray:=
 (z0 num_1).bind fun r0=>
 bif (decide (((⟨#[116]⟩:ByteArray).size+r0.size)≤9223372036854775807)) then
 bif (decide ((((⟨#[116]⟩:ByteArray)++r0).size+s_2.size)≤9223372036854775807)) then
 (z1 key_0 (((⟨#[116]⟩:ByteArray)++r0)++s_2)).bind fun r1=>
 bif ((decide ((0:Int)≤(16:Int))) && (decide (16≤(r1.size:Int)))) then
 some (r1.extract 0 (16:Int).toNat)
 else none
 else none
 else none
noncomputable def Af:Eo:=Lu Ld Jc
theorem X3:Tells ctx PP 67 cv32 cv9 (fun a=>Af a.1 a.2.1 a.2.2):=fn_ok0 (hc Yr (hc Y1 hl_nil)) Tryd.func67 ((fun z0 z1 a=>by kernel_rfl:∀ z0 z1,EntryIs0 ctx PP 67 [] [(114,Zr z0),(74,Iu z1)] cv32 cv9 fun a=>Lu z0 z1 a.1 a.2.1 a.2.2) Ld Jc)
noncomputable def Y3 {γ:Type} (F:Eo):Hd ctx γ:=hdl cv32.dec (fun a=>F a.1 a.2.1 a.2.2) cv9.enc
abbrev Nu:=ByteArray→Int→ByteArray→Option (ByteArray×Bool)
noncomputable def Ou (z0:Xn) (z1:Zn) (z2:Eo) (key_0:ByteArray) (num_1:Int) (s_2:ByteArray):Option (ByteArray×Bool):=
 (z0 key_0 num_1 (s_2.size:Int)).bind fun r0=>
 bif (!r0.2) then
 some (⟨#[]⟩,false)
 else
 (z1 s_2 r0.1).bind fun r1=>
 (z2 key_0 num_1 r1).bind fun r2=>
 bif (decide ((r1.size+r2.size)≤9223372036854775807)) then
 some ((r1++r2),true)
 else none
noncomputable def Fj:Nu:=Ou Ye Ze Af
theorem LAB:Tells ctx PP 19 cv32 cv33 (fun a=>Fj a.1 a.2.1 a.2.2):=fn_ok0 (hc Y2 (hc U3 (hc X3 hl_nil))) Tryd.func19 ((fun z0 z1 z2 a=>by kernel_rfl:∀ z0 z1 z2,EntryIs0 ctx PP 19 [] [(24,J3 z0),(66,V3 z1),(67,Y3 z2)] cv32 cv33 fun a=>Ou z0 z1 z2 a.1 a.2.1 a.2.2) Ye Ze Af)
noncomputable def MAB {γ:Type} (F:Nu):Hd ctx γ:=hdl cv32.dec (fun a=>F a.1 a.2.1 a.2.2) cv33.enc
abbrev Qu:=ByteArray→ByteArray→Option (ByteArray×Bool)
noncomputable def Ru (z0:Zm) (z1:Nu) (key_0:ByteArray) (s_1:ByteArray):Option (ByteArray×Bool):=
 bif (decide ((s_1.size:Int) > 400)) then
 some (⟨#[]⟩,false)
 else
 (z0 s_1).bind fun r0=>
 (z1 key_0 0 r0).bind fun r1=>
 some (r1.1,r1.2)
noncomputable def Gj:Qu:=Ru Ie Fj
theorem NAB:Tells ctx PP 27 cv35 cv33 (fun a=>Gj a.1 a.2):=fn_ok0 (hc Qz (hc LAB hl_nil)) Tryd.func27 ((fun z0 z1 a=>by kernel_rfl:∀ z0 z1,EntryIs0 ctx PP 27 [] [(76,Rz z0),(19,MAB z1)] cv35 cv33 fun a=>Ru z0 z1 a.1 a.2) Ie Fj)
noncomputable def OAB {γ:Type} (F:Qu):Hd ctx γ:=hdl cv35.dec (fun a=>F a.1 a.2) cv33.enc
abbrev Uu:=ByteArray→Int→ByteArray→Option (ByteArray×Bool)
noncomputable def Vu (z0:Xn) (z1:Eo) (z2:Zn) (key_0:ByteArray) (num_1:Int) (text_2:ByteArray):Option (ByteArray×Bool):=
 bif (decide ((w64 ((text_2.size:Int) - 16))<0)) then
 some (⟨#[]⟩,false)
 else
 (z0 key_0 num_1 (w64 ((text_2.size:Int) - 16))).bind fun r0=>
 bif (!r0.2) then
  some (⟨#[]⟩,false)
 else
  bif ((decide (0≤(w64 ((text_2.size:Int) - 16)))) && (decide ((w64 ((text_2.size:Int) - 16))≤(text_2.size:Int)))) then
  (z1 key_0 num_1 (text_2.extract 0 (w64 ((text_2.size:Int) - 16)).toNat)).bind fun r1=>
  bif ((decide (0≤(w64 ((text_2.size:Int) - 16)))) && (decide ((w64 ((text_2.size:Int) - 16))≤(text_2.size:Int)))) then
  bif (!((ByteArray.toList r1) == (ByteArray.toList (text_2.extract (w64 ((text_2.size:Int) - 16)).toNat text_2.size)))) then
  some (⟨#[]⟩,false)
  else
  bif ((decide (0≤(w64 ((text_2.size:Int) - 16)))) && (decide ((w64 ((text_2.size:Int) - 16))≤(text_2.size:Int)))) then
  (z2 (text_2.extract 0 (w64 ((text_2.size:Int) - 16)).toNat) r0.1).bind fun r2=>
  some (r2,true)
  else none
  else none
  else none
noncomputable def Ij:Uu:=Vu Ye Af Ze
theorem PAB:Tells ctx PP 20 cv32 cv33 (fun a=>Ij a.1 a.2.1 a.2.2):=fn_ok0 (hc Y2 (hc X3 (hc U3 hl_nil))) Tryd.func20 ((fun z0 z1 z2 a=>by kernel_rfl:∀ z0 z1 z2,EntryIs0 ctx PP 20 [] [(24,J3 z0),(67,Y3 z1),(66,V3 z2)] cv32 cv33 fun a=>Vu z0 z1 z2 a.1 a.2.1 a.2.2) Ye Af Ze)
noncomputable def QAB {γ:Type} (F:Uu):Hd ctx γ:=hdl cv32.dec (fun a=>F a.1 a.2.1 a.2.2) cv33.enc
abbrev Wu:=ByteArray→Int→Option (Int×Int×Bool)
inductive Jj where
 | c0 (text_0:ByteArray) (at_1:Int) (n_7:Int) (k_8:Int)
noncomputable def I4:Jj→LI
 | .c0 text_0 at_1 n_7 k_8=>(tdo Tryd.f118 976,[(0,[.one (.str text_0)]),(1,[.one (.int .i64 at_1)]),(7,[.one (.int .i64 n_7)]),(8,[.one (.int .i64 k_8)])],[])
noncomputable def Lj (z0:Je) (k:Jj→Option (Int×Int×Bool)) (text_0:ByteArray) (at_1:Int):Option (Int×Int×Bool):=
 (z0 at_1 0 (text_0.size:Int)).bind fun r0=>
 bif (!r0) then
 some (0,(0,false))
 else
 k (.c0 text_0 at_1 0 0)
noncomputable def Ho (z0:Je) (k:Jj→Option (Int×Int×Bool)):Jj→Option (Int×Int×Bool)
 | .c0 text_0 at_1 n_7 k_8=>
 bif (decide (k_8<5)) then
  bif (decide ((w64 (at_1+k_8))<(text_0.size:Int))) then
  bif ((decide (0≤(w64 (at_1+k_8)))) && (decide ((w64 (at_1+k_8))<(text_0.size:Int)))) then
  bif (decide (0≤(w64 (7*k_8)))) then
  bif (decide ((w64 (bt text_0 (w64 (at_1+k_8))))<128)) then
   bif ((w64 (bt text_0 (w64 (at_1+k_8)))) == 0) then
   bif (decide (k_8 > 0)) then
    some (0,(0,false))
   else
    bif (decide ((w64 (n_7+(w64 (((w64 (bt text_0 (w64 (at_1+k_8)))).tmod 128)*(2 ^ (Min.min (w64 (7*k_8)).toNat (IntKind.bits IntKind.i64))))))) > 1000000000)) then
    some (0,(0,false))
    else
    some ((w64 (n_7+(w64 (((w64 (bt text_0 (w64 (at_1+k_8)))).tmod 128)*(2 ^ (Min.min (w64 (7*k_8)).toNat (IntKind.bits IntKind.i64))))))),((w64 ((w64 (at_1+k_8))+1)),true))
   else
   bif (decide ((w64 (n_7+(w64 (((w64 (bt text_0 (w64 (at_1+k_8)))).tmod 128)*(2 ^ (Min.min (w64 (7*k_8)).toNat (IntKind.bits IntKind.i64))))))) > 1000000000)) then
    some (0,(0,false))
   else
    some ((w64 (n_7+(w64 (((w64 (bt text_0 (w64 (at_1+k_8)))).tmod 128)*(2 ^ (Min.min (w64 (7*k_8)).toNat (IntKind.bits IntKind.i64))))))),((w64 ((w64 (at_1+k_8))+1)),true))
  else
   k (.c0 text_0 at_1 (w64 (n_7+(w64 (((w64 (bt text_0 (w64 (at_1+k_8)))).tmod 128)*(2 ^ (Min.min (w64 (7*k_8)).toNat (IntKind.bits IntKind.i64))))))) (w64 (k_8+1)))
  else none
  else none
  else
  some (0,(0,false))
 else
  some (0,(0,false))
noncomputable def Cb:Nat→Jj→Option (Int×Int×Bool)
 | 0,_=>none
 | m+1,s=>Ho YZ (Cb m) s
noncomputable def Eb:Wu:=Lj YZ (Cb gas)
theorem RAB:Tells ctx PP 118 cv23 cv38 (fun a=>Eb a.1 a.2):=
 have b:∀ z0,CutIs ctx PP 118 Tryd.f118 [] [(62,Ci z0)] cv38 I4 (Ho z0):=fun z0 _ s=>by cases s <;> kernel_rfl
 have e:∀ z0,EntryIs ctx PP 118 [] [(62,Ci z0)] cv23 cv38 I4 (fun k a=>Lj z0 k a.1 a.2):=fun z0 _ a=>by kernel_rfl
 fn_ok (hc Ns hl_nil) Tryd.func118 (fun s s' h=>by cases s;cases s';cases h;rfl) (fun _=>rfl) (fun _ _=>rfl) (b YZ) (e YZ) gas
noncomputable def SAB {γ:Type} (F:Wu):Hd ctx γ:=hdl cv23.dec (fun a=>F a.1 a.2) cv38.enc
abbrev Xu:=ByteArray→Int→Option (ByteArray×Int×Bool)
noncomputable def Nj (z0:Wu) (text_0:ByteArray) (at_1:Int):Option (ByteArray×Int×Bool):=
 (z0 text_0 at_1).bind fun r0=>
 bif (!r0.2.2) then
 some (⟨#[]⟩,(0,false))
 else
 bif (decide (r0.1 > 20000)) then
  some (⟨#[]⟩,(0,false))
 else
  bif (decide (r0.1 > (w64 ((text_0.size:Int) - r0.2.1)))) then
  some (⟨#[]⟩,(0,false))
  else
  bif (((decide (0≤r0.2.1)) && (decide (r0.2.1≤(w64 (r0.2.1+r0.1))))) && (decide ((w64 (r0.2.1+r0.1))≤(text_0.size:Int)))) then
  some ((text_0.extract r0.2.1.toNat (w64 (r0.2.1+r0.1)).toNat),((w64 (r0.2.1+r0.1)),true))
  else none
noncomputable def Lc:Xu:=Nj Eb
theorem TAB:Tells ctx PP 77 cv23 cv39 (fun a=>Lc a.1 a.2):=fn_ok0 (hc RAB hl_nil) Tryd.func77 ((fun z0 a=>by kernel_rfl:∀ z0,EntryIs0 ctx PP 77 [] [(118,SAB z0)] cv23 cv39 fun a=>Nj z0 a.1 a.2) Eb)
noncomputable def UAB {γ:Type} (F:Xu):Hd ctx γ:=hdl cv23.dec (fun a=>F a.1 a.2) cv39.enc
abbrev Yu:=ByteArray→ByteArray→Option (ByteArray×Bool)
noncomputable def Zu (z0:Uu) (z1:Xu) (z2:Zm) (key_0:ByteArray) (text_1:ByteArray):Option (ByteArray×Bool):=
 (z0 key_0 0 text_1).bind fun r0=>
 (z1 r0.1 0).bind fun r1=>
 bif (!r0.2) then
 some (⟨#[]⟩,false)
 else
 bif (!r1.2.2) then
  some (⟨#[]⟩,false)
 else
  bif (decide ((r1.1.size:Int) > 400)) then
  some (⟨#[]⟩,false)
  else
  (z2 r1.1).bind fun r2=>
  bif (!((ByteArray.toList r2) == (ByteArray.toList r0.1))) then
   some (⟨#[]⟩,false)
  else
   some (r1.1,true)
noncomputable def Oj:Yu:=Zu Ij Lc Ie
theorem VAB:Tells ctx PP 28 cv35 cv33 (fun a=>Oj a.1 a.2):=fn_ok0 (hc PAB (hc TAB (hc Qz hl_nil))) Tryd.func28 ((fun z0 z1 z2 a=>by kernel_rfl:∀ z0 z1 z2,EntryIs0 ctx PP 28 [] [(20,QAB z0),(77,UAB z1),(76,Rz z2)] cv35 cv33 fun a=>Zu z0 z1 z2 a.1 a.2) Ij Lc Ie)
noncomputable def WAB {γ:Type} (F:Yu):Hd ctx γ:=hdl cv35.dec (fun a=>F a.1 a.2) cv33.enc
abbrev Mc:=Int→Option ByteArray
inductive Pj where
 | c0 (n_0:Int) (out_3:(List Int))
noncomputable def J4:Pj→LI
 | .c0 n_0 out_3=>(tdo Tryd.f78 224,[(0,[.one (.int .i64 n_0)]),(3,[.one (.own 240)])],[(240,.sl 5 out_3)])
noncomputable def O4 (k:Pj→Option ByteArray) (n_0:Int):Option ByteArray:=
 k (.c0 n_0 [])
noncomputable def Io (k:Pj→Option ByteArray):Pj→Option ByteArray
 | .c0 n_0 out_3=>
 bif (decide (n_0 > 127)) then
  bif (decide (((out_3.length+1)*1)≤140737488355328)) then
  k (.c0 (w64 (n_0.tdiv 128)) (out_3++[(w8 (w64 ((n_0.tmod 128)+128)))]))
  else none
 else
  bif (decide (((out_3.length+1)*1)≤140737488355328)) then
  some (ofBytes (out_3++[(w8 n_0)]))
  else none
noncomputable def Qj:Nat→Pj→Option ByteArray
 | 0,_=>none
 | m+1,s=>Io (Qj m) s
noncomputable def FZ:Mc:=O4 (Qj gas)
theorem Jo:Tells ctx PP 78 cv14 cv9 (fun a=>FZ a):=
 have b:CutIs ctx PP 78 Tryd.f78 [] [] cv9 J4 (Io):=fun _ s=>by cases s <;> kernel_rfl
 have e:EntryIs ctx PP 78 [] [] cv14 cv9 J4 (fun k a=>O4 k a):=fun _ a=>by kernel_rfl
 fn_ok hl_nil Tryd.func78 (fun s s' h=>by cases s;cases s';cases h;rfl) (fun _=>rfl) (fun _ _=>rfl) b e gas
noncomputable def Bf {γ:Type} (F:Mc):Hd ctx γ:=hdl cv14.dec (fun a=>F a) cv9.enc
abbrev Df:=Int→Int→Int→Option Bool
noncomputable def U4 (x_0:Int) (least_1:Int) (most_2:Int):Option Bool:=
 bif (decide (x_0≥least_1)) then
 some (decide (x_0≤most_2))
 else
 some false
noncomputable def Aa:Df:=U4
theorem Bv:Tells ctx PP 63 cv22 cv1 (fun a=>Aa a.1 a.2.1 a.2.2):=fn_ok0 hl_nil Tryd.func63 (fun a=>by kernel_rfl:EntryIs0 ctx PP 63 [] [] cv22 cv1 fun a=>U4 a.1 a.2.1 a.2.2)
noncomputable def Rj {γ:Type} (F:Df):Hd ctx γ:=hdl cv22.dec (fun a=>F a.1 a.2.1 a.2.2) cv1.enc
abbrev Ko:=Int→Option ByteArray
noncomputable def Dv (n_0:Int):Option ByteArray:=
 bif (decide ((n_0.tmod 256)<0)) then
 some (ofBytes [(w8 (w64 ((n_0.tmod 256)+256)))])
 else
 some (ofBytes [(w8 (n_0.tmod 256))])
noncomputable def Ef:Ko:=Dv
theorem XAB:Tells ctx PP 116 cv14 cv9 (fun a=>Ef a):=fn_ok0 hl_nil Tryd.func116 (fun a=>by kernel_rfl:EntryIs0 ctx PP 116 [] [] cv14 cv9 fun a=>Dv a)
noncomputable def V4 {γ:Type} (F:Ko):Hd ctx γ:=hdl cv14.dec (fun a=>F a) cv9.enc
abbrev Fv:=Option (List Int)
noncomputable def X4  : Option (List Int):=
 some [1779033703,3144134277,1013904242,2773480762,1359893119,2600822924,528734635,1541459225]
noncomputable def Oo:Fv:=X4
theorem YAB:Tells ctx PP 140 cv12 cv19 (fun _=>Oo):=fn_ok0 hl_nil Tryd.func140 (fun _=>by kernel_rfl:EntryIs0 ctx PP 140 [] [] cv12 cv19 fun _=>X4)
noncomputable def ZAB {γ:Type} (F:Fv):Hd ctx γ:=hdl cv12.dec (fun _=>F) cv19.enc
abbrev Gf:=(List Int)→Option ByteArray
inductive Sj where
 | c0 (words_0:(List Int)) (i_4:Int) (out_3:(List Int))
noncomputable def Y4:Sj→LI
 | .c0 words_0 i_4 out_3=>(tdo Tryd.f139 464,[(0,[.one (.rsl 114 words_0)]),(3,[.one (.own 240)]),(4,[.one (.int .i64 i_4)])],[(240,.sl 5 out_3)])
noncomputable def Z4 (k:Sj→Option ByteArray) (words_0:(List Int)):Option ByteArray:=
 k (.c0 words_0 0 [])
noncomputable def Po (k:Sj→Option ByteArray):Sj→Option ByteArray
 | .c0 words_0 i_4 out_3=>
 bif (decide (i_4<(words_0.length:Int))) then
  bif ((decide (0≤i_4)) && (decide (i_4<(words_0.length:Int)))) then
  bif (decide (((out_3.length+4)*1)≤140737488355328)) then
  k (.c0 words_0 (w64 (i_4+1)) (out_3++[(w8 (w32 ((words_0.getD i_4.toNat 0).tdiv 16777216))),(w8 ((w32 ((words_0.getD i_4.toNat 0).tdiv 65536)).tmod 256)),(w8 ((w32 ((words_0.getD i_4.toNat 0).tdiv 256)).tmod 256)),(w8 ((words_0.getD i_4.toNat 0).tmod 256))]))
  else none
  else none
 else
  some (ofBytes out_3)
noncomputable def Tj:Nat→Sj→Option ByteArray
 | 0,_=>none
 | m+1,s=>Po (Tj m) s
noncomputable def Ba:Gf:=Z4 (Tj gas)
theorem Gv:Tells ctx PP 139 cv20 cv9 (fun a=>Ba a):=
 have b:CutIs ctx PP 139 Tryd.f139 [] [] cv9 Y4 (Po):=fun _ s=>by cases s <;> kernel_rfl
 have e:EntryIs ctx PP 139 [] [] cv20 cv9 Y4 (fun k a=>Z4 k a):=fun _ a=>by kernel_rfl
 fn_ok hl_nil Tryd.func139 (fun s s' h=>by cases s;cases s';cases h;rfl) (fun _=>rfl) (fun _ _=>rfl) b e gas
noncomputable def Uj {γ:Type} (F:Gf):Hd ctx γ:=hdl cv20.dec (fun a=>F a) cv9.enc
abbrev Jv:=Option SHasher
noncomputable def Kv (z0:Fv) (z1:Gf)  : Option SHasher:=
 z0.bind fun r0=>
 (z1 r0).bind fun r1=>
 some ⟨r1,⟨#[]⟩,0⟩
noncomputable def Vj:Jv:=Kv Oo Ba
theorem AAC:Tells ctx PP 112 cv12 cv21 (fun _=>Vj):=fn_ok0 (hc YAB (hc Gv hl_nil)) Tryd.func112 ((fun z0 z1 _=>by kernel_rfl:∀ z0 z1,EntryIs0 ctx PP 112 [] [(140,ZAB z0),(139,Uj z1)] cv12 cv21 fun _=>Kv z0 z1) Oo Ba)
noncomputable def BAC {γ:Type} (F:Jv):Hd ctx γ:=hdl cv12.dec (fun _=>F) cv21.enc
abbrev Pg:=SHasher→Option Bool
noncomputable def Nv (z0:Df) (h_0:SHasher):Option Bool:=
 bif ((h_0.fState.size:Int) == 32) then
 bif (decide ((h_0.fRest.size:Int)<64)) then
  (z0 h_0.fCount 0 1000000000).bind fun r0=>
  bif r0 then
  some ((h_0.fCount.tmod 64) == (h_0.fRest.size:Int))
  else
  some false
 else
  some false
 else
 some false
noncomputable def RZ:Pg:=Nv Aa
theorem D5:Tells ctx PP 135 cv21 cv1 (fun a=>RZ a):=fn_ok0 (hc Bv hl_nil) Tryd.func135 ((fun z0 a=>by kernel_rfl:∀ z0,EntryIs0 ctx PP 135 [] [(63,Rj z0)] cv21 cv1 fun a=>Nv z0 a) Aa)
noncomputable def Qo {γ:Type} (F:Pg):Hd ctx γ:=hdl cv21.dec (fun a=>F a) cv1.enc
abbrev Ro:=ByteArray→Int→Option Int
noncomputable def Ov (s_0:ByteArray) (at_1:Int):Option Int:=
 bif ((decide (0≤at_1)) && (decide (at_1<(s_0.size:Int)))) then
 bif ((decide (0≤(w64 (at_1+1)))) && (decide ((w64 (at_1+1))<(s_0.size:Int)))) then
 bif ((decide (0≤(w64 (at_1+2)))) && (decide ((w64 (at_1+2))<(s_0.size:Int)))) then
 bif ((decide (0≤(w64 (at_1+3)))) && (decide ((w64 (at_1+3))<(s_0.size:Int)))) then
 some (w32 ((w32 ((w32 ((w32 ((w32 (bt s_0 at_1))*16777216))+(w32 ((w32 (bt s_0 (w64 (at_1+1))))*65536))))+(w32 ((w32 (bt s_0 (w64 (at_1+2))))*256))))+(w32 (bt s_0 (w64 (at_1+3))))))
 else none
 else none
 else none
 else none
noncomputable def Hf:Ro:=Ov
theorem CAC:Tells ctx PP 155 cv23 cv15 (fun a=>Hf a.1 a.2):=fn_ok0 hl_nil Tryd.func155 (fun a=>by kernel_rfl:EntryIs0 ctx PP 155 [] [] cv23 cv15 fun a=>Ov a.1 a.2)
noncomputable def E5 {γ:Type} (F:Ro):Hd ctx γ:=hdl cv23.dec (fun a=>F a.1 a.2) cv15.enc
abbrev Qd:=ByteArray→Option (List Int)
inductive Wj where
 | c0 (s_0:ByteArray) (i_4:Int) (out_3:(List Int))
noncomputable def F5:Wj→LI
 | .c0 s_0 i_4 out_3=>(tdo Tryd.f136 464,[(0,[.one (.str s_0)]),(3,[.one (.own 240)]),(4,[.one (.int .i64 i_4)])],[(240,.sl 114 out_3)])
noncomputable def G5 (z0:Ro) (k:Wj→Option (List Int)) (s_0:ByteArray):Option (List Int):=
 k (.c0 s_0 0 [])
noncomputable def Uo (z0:Ro) (k:Wj→Option (List Int)):Wj→Option (List Int)
 | .c0 s_0 i_4 out_3=>
 bif (decide ((w64 (i_4+4))≤(s_0.size:Int))) then
  (z0 s_0 i_4).bind fun r0=>
  bif (decide (((out_3.length+1)*4)≤140737488355328)) then
  k (.c0 s_0 (w64 (i_4+4)) (out_3++[r0]))
  else none
 else
  some out_3
noncomputable def Xj:Nat→Wj→Option (List Int)
 | 0,_=>none
 | m+1,s=>Uo Hf (Xj m) s
noncomputable def JZ:Qd:=G5 Hf (Xj gas)
theorem Pv:Tells ctx PP 136 cv9 cv19 (fun a=>JZ a):=
 have b:∀ z0,CutIs ctx PP 136 Tryd.f136 [] [(155,E5 z0)] cv19 F5 (Uo z0):=fun z0 _ s=>by cases s <;> kernel_rfl
 have e:∀ z0,EntryIs ctx PP 136 [] [(155,E5 z0)] cv9 cv19 F5 (fun k a=>G5 z0 k a):=fun z0 _ a=>by kernel_rfl
 fn_ok (hc CAC hl_nil) Tryd.func136 (fun s s' h=>by cases s;cases s';cases h;rfl) (fun _=>rfl) (fun _ _=>rfl) (b Hf) (e Hf) gas
noncomputable def Qg {γ:Type} (F:Qd):Hd ctx γ:=hdl cv9.dec (fun a=>F a) cv19.enc
abbrev Ug:=Option (List Int)
noncomputable def I5  : Option (List Int):=
 some [1116352408,1899447441,3049323471,3921009573,961987163,1508970993,2453635748,2870763221,3624381080,310598401,607225278,1426881987,1925078388,2162078206,2614888103,3248222580,3835390401,4022224774,264347078,604807628,770255983,1249150122,1555081692,1996064986,2554220882,2821834349,2952996808,3210313671,3336571891,3584528711,113926993,338241895,666307205,773529912,1294757372,1396182291,1695183700,1986661051,2177026350,2456956037,2730485921,2820302411,3259730800,3345764771,3516065817,3600352804,4094571909,275423344,430227734,506948616,659060556,883997877,958139571,1322822218,1537002063,1747873779,1955562222,2024104815,2227730452,2361852424,2428436474,2756734187,3204031479,3329325298]
noncomputable def Fb:Ug:=I5
theorem J5:Tells ctx PP 137 cv12 cv19 (fun _=>Fb):=fn_ok0 hl_nil Tryd.func137 (fun _=>by kernel_rfl:EntryIs0 ctx PP 137 [] [] cv12 cv19 fun _=>I5)
noncomputable def Vo {γ:Type} (F:Ug):Hd ctx γ:=hdl cv12.dec (fun _=>F) cv19.enc
abbrev Qv:=Int→Int→Int→Option Int
noncomputable def Sv (x_0:Int) (low_1:Int) (high_2:Int):Option Int:=
 bif (!(low_1 == 0)) then
 bif (!(low_1 == 0)) then
 some (w32 ((w32 (x_0.tdiv low_1))+(w32 ((x_0.tmod low_1)*high_2))))
 else none
 else none
noncomputable def Yj:Qv:=Sv
theorem DAC:Tells ctx PP 164 cv24 cv15 (fun a=>Yj a.1 a.2.1 a.2.2):=fn_ok0 hl_nil Tryd.func164 (fun a=>by kernel_rfl:EntryIs0 ctx PP 164 [] [] cv24 cv15 fun a=>Sv a.1 a.2.1 a.2.2)
noncomputable def EAC {γ:Type} (F:Qv):Hd ctx γ:=hdl cv24.dec (fun a=>F a.1 a.2.1 a.2.2) cv15.enc
abbrev Xo:=Int→Int→Int→Int→Bool→Option Int
noncomputable def Vg (z0:Qv) (x_0:Int) (a_1:Int) (b_2:Int) (c_3:Int) (last_4:Bool):Option Int:=
 bif (!(a_1 == 0)) then
 (z0 x_0 a_1 (w32 ((w32 ((2147483648:Int).tdiv a_1))*2))).bind fun r0=>
 bif (!(b_2 == 0)) then
 (z0 x_0 b_2 (w32 ((w32 ((2147483648:Int).tdiv b_2))*2))).bind fun r1=>
 bif (!(c_3 == 0)) then
 bif (!last_4) then
 bif (!(c_3 == 0)) then
 (z0 x_0 c_3 (w32 ((w32 ((2147483648:Int).tdiv c_3))*2))).bind fun r2=>
 some (w32 (((BitVec.toNat ((BitVec.ofInt (IntKind.bits IntKind.u32) (w32 (((BitVec.toNat ((BitVec.ofInt (IntKind.bits IntKind.u32) r0) ^^^ (BitVec.ofInt (IntKind.bits IntKind.u32) r1))):Nat):Int))) ^^^ (BitVec.ofInt (IntKind.bits IntKind.u32) r2))):Nat):Int))
 else none
 else
 some (w32 (((BitVec.toNat ((BitVec.ofInt (IntKind.bits IntKind.u32) (w32 (((BitVec.toNat ((BitVec.ofInt (IntKind.bits IntKind.u32) r0) ^^^ (BitVec.ofInt (IntKind.bits IntKind.u32) r1))):Nat):Int))) ^^^ (BitVec.ofInt (IntKind.bits IntKind.u32) (w32 (x_0.tdiv c_3))))):Nat):Int))
 else none
 else none
 else none
noncomputable def UZ:Xo:=Vg Yj
theorem FAC:Tells ctx PP 156 cv25 cv15 (fun a=>UZ a.1 a.2.1 a.2.2.1 a.2.2.2.1 a.2.2.2.2):=fn_ok0 (hc DAC hl_nil) Tryd.func156 ((fun z0 a=>by kernel_rfl:∀ z0,EntryIs0 ctx PP 156 [] [(164,EAC z0)] cv25 cv15 fun a=>Vg z0 a.1 a.2.1 a.2.2.1 a.2.2.2.1 a.2.2.2.2) Yj)
noncomputable def O5 {γ:Type} (F:Xo):Hd ctx γ:=hdl cv25.dec (fun a=>F a.1 a.2.1 a.2.2.1 a.2.2.2.1 a.2.2.2.2) cv15.enc
abbrev Xg:=(List Int)→(List Int)→ByteArray→Option (List Int)
inductive Zj where
 | c0 (t_0:(List Int)) (o_1:(List Int)) (v_8:Int) (v_7:(List Int))
 | c1 (t_0:(List Int)) (o_1:(List Int)) (v_10:Int) (v_7:(List Int)) (v_9:(List Int))
 | c2 (t_0:(List Int)) (o_1:(List Int)) (v_10:Int) (v_13:Int) (v_15:Int) (v_16:Int) (v_7:(List Int)) (v_9:(List Int))
 | c3 (t_0:(List Int)) (v_18:Int) (v_9:(List Int)) (v_17:(List Int))
noncomputable def P5:Zj→LI
 | .c0 t_0 o_1 v_8 v_7=>(tdo Tryd.f138 464,[(0,[.one (.rsl 114 t_0)]),(1,[.one (.rsl 114 o_1)]),(7,[.one (.own 496)]),(8,[.one (.int .i64 v_8)])],[(496,.sl 114 v_7)])
 | .c1 t_0 o_1 v_10 v_7 v_9=>(tdo Tryd.f138 2000,[(0,[.one (.rsl 114 t_0)]),(1,[.one (.rsl 114 o_1)]),(7,[.one (.own 496)]),(9,[.one (.own 624)]),(10,[.one (.int .i64 v_10)])],[(496,.sl 114 v_7),(624,.sl 114 v_9)])
 | .c2 t_0 o_1 v_10 v_13 v_15 v_16 v_7 v_9=>(tdo Tryd.f138 8202192,[(0,[.one (.rsl 114 t_0)]),(1,[.one (.rsl 114 o_1)]),(7,[.one (.own 496)]),(9,[.one (.own 624)]),(10,[.one (.int .i64 v_10)]),(13,[.one (.int .u32 v_13)]),(15,[.one (.int .u32 v_15)]),(16,[.one (.int .i64 v_16)])],[(496,.sl 114 v_7),(624,.sl 114 v_9)])
 | .c3 t_0 v_18 v_9 v_17=>(tdo Tryd.f138 8144,[(0,[.one (.rsl 114 t_0)]),(9,[.one (.own 624)]),(17,[.one (.own 1136)]),(18,[.one (.int .i64 v_18)])],[(624,.sl 114 v_9),(1136,.sl 114 v_17)])
noncomputable def Tv (z0:Qd) (z1:Xo) (k:Zj→Option (List Int)) (t_0:(List Int)) (o_1:(List Int)) (A_2:ByteArray):Option (List Int):=
 (z0 A_2).bind fun r0=>
 k (.c0 t_0 o_1 16 r0)
noncomputable def Ib (z0:Qd) (z1:Xo) (k:Zj→Option (List Int)):Zj→Option (List Int)
 | .c0 t_0 o_1 v_8 v_7=>
 bif (decide (v_8<64)) then
  bif ((decide (0≤(w64 (v_8 - 2)))) && (decide ((w64 (v_8 - 2))<(v_7.length:Int)))) then
  (z1 (v_7.getD (w64 (v_8 - 2)).toNat 0) 131072 524288 1024 true).bind fun r0=>
  bif ((decide (0≤(w64 (v_8 - 7)))) && (decide ((w64 (v_8 - 7))<(v_7.length:Int)))) then
  bif ((decide (0≤(w64 (v_8 - 15)))) && (decide ((w64 (v_8 - 15))<(v_7.length:Int)))) then
  (z1 (v_7.getD (w64 (v_8 - 15)).toNat 0) 128 262144 8 true).bind fun r1=>
  bif ((decide (0≤(w64 (v_8 - 16)))) && (decide ((w64 (v_8 - 16))<(v_7.length:Int)))) then
  bif (decide (((v_7.length+1)*4)≤140737488355328)) then
  k (.c0 t_0 o_1 (w64 (v_8+1)) (v_7++[(w32 ((w32 ((w32 (r0+(v_7.getD (w64 (v_8 - 7)).toNat 0)))+r1))+(v_7.getD (w64 (v_8 - 16)).toNat 0)))]))
  else none
  else none
  else none
  else none
  else none
 else
  bif (decide (((0+t_0.length)*4)≤140737488355328)) then
  k (.c1 t_0 o_1 0 v_7 ([]++t_0))
  else none
 | .c1 t_0 o_1 v_10 v_7 v_9=>
 bif (decide (v_10<64)) then
  bif ((decide ((0:Int)≤(4:Int))) && (decide (4<(v_9.length:Int)))) then
  bif ((decide ((0:Int)≤(5:Int))) && (decide (5<(v_9.length:Int)))) then
  bif ((decide ((0:Int)≤(6:Int))) && (decide (6<(v_9.length:Int)))) then
  bif ((decide ((0:Int)≤(7:Int))) && (decide (7<(v_9.length:Int)))) then
  (z1 (v_9.getD (4:Int).toNat 0) 64 2048 33554432 false).bind fun r0=>
  bif ((decide (0≤v_10)) && (decide (v_10<(o_1.length:Int)))) then
  bif ((decide (0≤v_10)) && (decide (v_10<(v_7.length:Int)))) then
  bif ((decide ((0:Int)≤(0:Int))) && (decide (0<(v_9.length:Int)))) then
  bif ((decide ((0:Int)≤(1:Int))) && (decide (1<(v_9.length:Int)))) then
  bif ((decide ((0:Int)≤(0:Int))) && (decide (0<(v_9.length:Int)))) then
  bif ((decide ((0:Int)≤(2:Int))) && (decide (2<(v_9.length:Int)))) then
  bif ((decide ((0:Int)≤(1:Int))) && (decide (1<(v_9.length:Int)))) then
  bif ((decide ((0:Int)≤(2:Int))) && (decide (2<(v_9.length:Int)))) then
  bif ((decide ((0:Int)≤(0:Int))) && (decide (0<(v_9.length:Int)))) then
  (z1 (v_9.getD (0:Int).toNat 0) 4 8192 4194304 false).bind fun r1=>
  k (.c2 t_0 o_1 v_10 (w32 ((w32 ((w32 ((w32 ((v_9.getD (7:Int).toNat 0)+r0))+(w32 (((BitVec.toNat ((BitVec.ofInt (IntKind.bits IntKind.u32) (w32 (((BitVec.toNat ((BitVec.ofInt (IntKind.bits IntKind.u32) (v_9.getD (4:Int).toNat 0)) &&& (BitVec.ofInt (IntKind.bits IntKind.u32) (v_9.getD (5:Int).toNat 0)))):Nat):Int))) ^^^ (BitVec.ofInt (IntKind.bits IntKind.u32) (w32 (((BitVec.toNat ((BitVec.ofInt (IntKind.bits IntKind.u32) (w32 (4294967295 - (v_9.getD (4:Int).toNat 0)))) &&& (BitVec.ofInt (IntKind.bits IntKind.u32) (v_9.getD (6:Int).toNat 0)))):Nat):Int))))):Nat):Int))))+(o_1.getD v_10.toNat 0)))+(v_7.getD v_10.toNat 0))) (w32 (r1+(w32 (((BitVec.toNat ((BitVec.ofInt (IntKind.bits IntKind.u32) (w32 (((BitVec.toNat ((BitVec.ofInt (IntKind.bits IntKind.u32) (w32 (((BitVec.toNat ((BitVec.ofInt (IntKind.bits IntKind.u32) (v_9.getD (0:Int).toNat 0)) &&& (BitVec.ofInt (IntKind.bits IntKind.u32) (v_9.getD (1:Int).toNat 0)))):Nat):Int))) ^^^ (BitVec.ofInt (IntKind.bits IntKind.u32) (w32 (((BitVec.toNat ((BitVec.ofInt (IntKind.bits IntKind.u32) (v_9.getD (0:Int).toNat 0)) &&& (BitVec.ofInt (IntKind.bits IntKind.u32) (v_9.getD (2:Int).toNat 0)))):Nat):Int))))):Nat):Int))) ^^^ (BitVec.ofInt (IntKind.bits IntKind.u32) (w32 (((BitVec.toNat ((BitVec.ofInt (IntKind.bits IntKind.u32) (v_9.getD (1:Int).toNat 0)) &&& (BitVec.ofInt (IntKind.bits IntKind.u32) (v_9.getD (2:Int).toNat 0)))):Nat):Int))))):Nat):Int)))) 7 v_7 v_9)
  else none
  else none
  else none
  else none
  else none
  else none
  else none
  else none
  else none
  else none
  else none
  else none
  else none
 else
  k (.c3 t_0 0 v_9 [])
 | .c2 t_0 o_1 v_10 v_13 v_15 v_16 v_7 v_9=>
 bif (decide (v_16 > 0)) then
  bif ((decide (0≤(w64 (v_16 - 1)))) && (decide ((w64 (v_16 - 1))<(v_9.length:Int)))) then
  bif ((decide (0≤v_16)) && (decide (v_16<(v_9.length:Int)))) then
  k (.c2 t_0 o_1 v_10 v_13 v_15 (w64 (v_16 - 1)) v_7 (v_9.set v_16.toNat (v_9.getD (w64 (v_16 - 1)).toNat 0)))
  else none
  else none
 else
  bif ((decide ((0:Int)≤(4:Int))) && (decide (4<(v_9.length:Int)))) then
  bif ((decide ((0:Int)≤(4:Int))) && (decide (4<(v_9.length:Int)))) then
  bif ((decide ((0:Int)≤(0:Int))) && (decide (0<((v_9.set (4:Int).toNat (w32 ((v_9.getD (4:Int).toNat 0)+v_13))).length:Int)))) then
  k (.c1 t_0 o_1 (w64 (v_10+1)) v_7 ((v_9.set (4:Int).toNat (w32 ((v_9.getD (4:Int).toNat 0)+v_13))).set (0:Int).toNat (w32 (v_13+v_15))))
  else none
  else none
  else none
 | .c3 t_0 v_18 v_9 v_17=>
 bif (decide (v_18<8)) then
  bif ((decide (0≤v_18)) && (decide (v_18<(t_0.length:Int)))) then
  bif ((decide (0≤v_18)) && (decide (v_18<(v_9.length:Int)))) then
  bif (decide (((v_17.length+1)*4)≤140737488355328)) then
  k (.c3 t_0 (w64 (v_18+1)) v_9 (v_17++[(w32 ((t_0.getD v_18.toNat 0)+(v_9.getD v_18.toNat 0)))]))
  else none
  else none
  else none
 else
  some v_17
noncomputable def BZ:Nat→Zj→Option (List Int)
 | 0,_=>none
 | m+1,s=>Ib JZ UZ (BZ m) s
noncomputable def Ia:Xg:=Tv JZ UZ (BZ gas)
theorem Q5:Tells ctx PP 138 cv26 cv19 (fun a=>Ia a.1 a.2.1 a.2.2):=
 have b:∀ z0 z1,CutIs ctx PP 138 Tryd.f138 [] [(136,Qg z0),(156,O5 z1)] cv19 P5 (Ib z0 z1):=fun z0 z1 _ s=>by cases s <;> kernel_rfl
 have e:∀ z0 z1,EntryIs ctx PP 138 [] [(136,Qg z0),(156,O5 z1)] cv26 cv19 P5 (fun k a=>Tv z0 z1 k a.1 a.2.1 a.2.2):=fun z0 z1 _ a=>by kernel_rfl
 fn_ok (hc Pv (hc FAC hl_nil)) Tryd.func138 (fun s s' h=>by cases s <;> cases s' <;> first | (cases h;done) | (cases h;rfl) | exact (rg_ne h (by kernel_rfl)).elim) (fun _=>rfl) (fun _ _=>rfl) (b JZ UZ) (e JZ UZ) gas
noncomputable def Yo {γ:Type} (F:Xg):Hd ctx γ:=hdl cv26.dec (fun a=>F a.1 a.2.1 a.2.2) cv19.enc
abbrev Wv:=SHasher→ByteArray→Option SHasher
inductive Ak where
 | c0 (s_1:ByteArray) (buf_7:ByteArray) (at_8:Int) (h_2:SHasher) (v_4:SHasher) (state_5:(List Int)) (k_6:(List Int))
noncomputable def U5:Ak→LI
 | .c0 s_1 buf_7 at_8 h_2 v_4 state_5 k_6=>(tdo Tryd.f111 4064,[(1,[.one (.str s_1)]),(2,[.one (.ptr 128 0)]),(4,[.one (.ptr 256 0)]),(5,[.one (.own 368)]),(6,[.one (.own 432)]),(7,[.one (.str buf_7)]),(8,[.one (.int .i64 at_8)])],[(128,.var [.str h_2.fState,.str h_2.fRest,.int .i64 h_2.fCount]),(256,.var [.str v_4.fState,.str v_4.fRest,.int .i64 v_4.fCount]),(368,.sl 114 state_5),(432,.sl 114 k_6)])
noncomputable def Xv (z0:Pg) (z1:Qd) (z2:Ug) (z3:Xg) (z4:Gf) (k:Ak→Option SHasher) (h_0:SHasher) (s_1:ByteArray):Option SHasher:=
 (z0 h_0).bind fun r0=>
 bif (!r0) then
 some h_0
 else
 bif (decide ((w64 (h_0.fCount+(s_1.size:Int))) > 1000000000)) then
  some h_0
 else
  (z1 h_0.fState).bind fun r1=>
  z2.bind fun r2=>
  bif (decide ((h_0.fRest.size+s_1.size)≤9223372036854775807)) then
  k (.c0 s_1 (h_0.fRest++s_1) 0 h_0 ⟨⟨#[]⟩,⟨#[]⟩,0⟩ r1 r2)
  else none
noncomputable def Zo (z0:Pg) (z1:Qd) (z2:Ug) (z3:Xg) (z4:Gf) (k:Ak→Option SHasher):Ak→Option SHasher
 | .c0 s_1 buf_7 at_8 h_2 v_4 state_5 k_6=>
 bif (decide ((w64 (at_8+64))≤(buf_7.size:Int))) then
  bif (((decide (0≤at_8)) && (decide (at_8≤(w64 (at_8+64))))) && (decide ((w64 (at_8+64))≤(buf_7.size:Int)))) then
  (z3 state_5 k_6 (buf_7.extract at_8.toNat (w64 (at_8+64)).toNat)).bind fun r0=>
  k (.c0 s_1 buf_7 (w64 (at_8+64)) h_2 v_4 r0 k_6)
  else none
 else
  (z4 state_5).bind fun r1=>
  bif ((decide (0≤at_8)) && (decide (at_8≤(buf_7.size:Int)))) then
  some ⟨r1,(buf_7.extract at_8.toNat buf_7.size),(w64 (h_2.fCount+(s_1.size:Int)))⟩
  else none
noncomputable def Ik:Nat→Ak→Option SHasher
 | 0,_=>none
 | m+1,s=>Zo RZ JZ Fb Ia Ba (Ik m) s
noncomputable def Jk:Wv:=Xv RZ JZ Fb Ia Ba (Ik gas)
theorem GAC:Tells ctx PP 111 cv27 cv21 (fun a=>Jk a.1 a.2):=
 have b:∀ z0 z1 z2 z3 z4,CutIs ctx PP 111 Tryd.f111 [] [(135,Qo z0),(136,Qg z1),(137,Vo z2),(138,Yo z3),(139,Uj z4)] cv21 U5 (Zo z0 z1 z2 z3 z4):=fun z0 z1 z2 z3 z4 _ s=>by cases s <;> kernel_rfl
 have e:∀ z0 z1 z2 z3 z4,EntryIs ctx PP 111 [] [(135,Qo z0),(136,Qg z1),(137,Vo z2),(138,Yo z3),(139,Uj z4)] cv27 cv21 U5 (fun k a=>Xv z0 z1 z2 z3 z4 k a.1 a.2):=fun z0 z1 z2 z3 z4 _ a=>by kernel_rfl
 fn_ok (hc D5 (hc Pv (hc J5 (hc Q5 (hc Gv hl_nil))))) Tryd.func111 (fun s s' h=>by cases s;cases s';(repeat cases ‹SHasher›);cases h;rfl) (fun _=>rfl) (fun _ _=>rfl) (b RZ JZ Fb Ia Ba) (e RZ JZ Fb Ia Ba) gas
noncomputable def HAC {γ:Type} (F:Wv):Hd ctx γ:=hdl cv27.dec (fun a=>F a.1 a.2) cv21.enc
abbrev Yv:=SHasher→Option ByteArray
inductive Nk where
 | c0 (h_1:SHasher) (tail_3:(List Int))
 | c1 (bits_4:Int) (i_5:Int) (h_1:SHasher) (tail_3:(List Int))
 | c2 (bits_4:Int) (i_5:Int) (x_6:Int) (k_7:Int) (h_1:SHasher) (tail_3:(List Int))
 | c3 (at_10:Int) (tail_3:(List Int)) (state_8:(List Int)) (k_9:(List Int))
noncomputable def V5:Nk→LI
 | .c0 h_1 tail_3=>(tdo Tryd.f110 992,[(1,[.one (.ptr 64 0)]),(3,[.one (.own 240)])],[(64,.var [.str h_1.fState,.str h_1.fRest,.int .i64 h_1.fCount]),(240,.sl 5 tail_3)])
 | .c1 bits_4 i_5 h_1 tail_3=>(tdo Tryd.f110 8144,[(1,[.one (.ptr 64 0)]),(3,[.one (.own 240)]),(4,[.one (.int .i64 bits_4)]),(5,[.one (.int .i64 i_5)])],[(64,.var [.str h_1.fState,.str h_1.fRest,.int .i64 h_1.fCount]),(240,.sl 5 tail_3)])
 | .c2 bits_4 i_5 x_6 k_7 h_1 tail_3=>(tdo Tryd.f110 2085456,[(1,[.one (.ptr 64 0)]),(3,[.one (.own 240)]),(4,[.one (.int .i64 bits_4)]),(5,[.one (.int .i64 i_5)]),(6,[.one (.int .i64 x_6)]),(7,[.one (.int .i64 k_7)])],[(64,.var [.str h_1.fState,.str h_1.fRest,.int .i64 h_1.fCount]),(240,.sl 5 tail_3)])
 | .c3 at_10 tail_3 state_8 k_9=>(tdo Tryd.f110 65488,[(3,[.one (.own 240)]),(8,[.one (.own 560)]),(9,[.one (.own 624)]),(10,[.one (.int .i64 at_10)])],[(240,.sl 5 tail_3),(560,.sl 114 state_8),(624,.sl 114 k_9)])
noncomputable def Zv (z0:Pg) (z1:Qd) (z2:Ug) (z3:Xg) (z4:Gf) (k:Nk→Option ByteArray) (h_0:SHasher):Option ByteArray:=
 (z0 h_0).bind fun r0=>
 bif (!r0) then
 some ⟨#[]⟩
 else
 bif (decide (h_0.fRest.size≤9223372036854775807)) then
 bif (decide ((((bytesOf h_0.fRest).length+1)*1)≤140737488355328)) then
 k (.c0 h_0 ((bytesOf h_0.fRest)++[(128:Int)]))
 else none
 else none
noncomputable def Jb (z0:Pg) (z1:Qd) (z2:Ug) (z3:Xg) (z4:Gf) (k:Nk→Option ByteArray):Nk→Option ByteArray
 | .c0 h_1 tail_3=>
 bif (((tail_3.length:Int).tmod 64) != 56) then
  bif (decide (((tail_3.length+1)*1)≤140737488355328)) then
  k (.c0 h_1 (tail_3++[(0:Int)]))
  else none
 else
  k (.c1 (w64 (8*h_1.fCount)) 7 h_1 tail_3)
 | .c1 bits_4 i_5 h_1 tail_3=>
 bif (decide (i_5≥0)) then
  k (.c2 bits_4 i_5 bits_4 0 h_1 tail_3)
 else
  (z1 h_1.fState).bind fun r0=>
  z2.bind fun r1=>
  k (.c3 0 tail_3 r0 r1)
 | .c2 bits_4 i_5 x_6 k_7 h_1 tail_3=>
 bif (decide (k_7<i_5)) then
  k (.c2 bits_4 i_5 (w64 (x_6.tdiv 256)) (w64 (k_7+1)) h_1 tail_3)
 else
  bif (decide (((tail_3.length+1)*1)≤140737488355328)) then
  k (.c1 bits_4 (w64 (i_5 - 1)) h_1 (tail_3++[(w8 (x_6.tmod 256))]))
  else none
 | .c3 at_10 tail_3 state_8 k_9=>
 bif (decide (at_10<(tail_3.length:Int))) then
  bif (((decide (0≤at_10)) && (decide (at_10≤(w64 (at_10+64))))) && (decide ((w64 (at_10+64))≤(tail_3.length:Int)))) then
  (z3 state_8 k_9 (ofBytes ((tail_3.drop at_10.toNat).take ((w64 (at_10+64)).toNat - at_10.toNat)))).bind fun r0=>
  k (.c3 (w64 (at_10+64)) tail_3 r0 k_9)
  else none
 else
  (z4 state_8).bind fun r1=>
  some r1
noncomputable def CZ:Nat→Nk→Option ByteArray
 | 0,_=>none
 | m+1,s=>Jb RZ JZ Fb Ia Ba (CZ m) s
noncomputable def Qk:Yv:=Zv RZ JZ Fb Ia Ba (CZ gas)
theorem IAC:Tells ctx PP 110 cv21 cv9 (fun a=>Qk a):=
 have b:∀ z0 z1 z2 z3 z4,CutIs ctx PP 110 Tryd.f110 [] [(135,Qo z0),(136,Qg z1),(137,Vo z2),(138,Yo z3),(139,Uj z4)] cv9 V5 (Jb z0 z1 z2 z3 z4):=fun z0 z1 z2 z3 z4 _ s=>by cases s <;> kernel_rfl
 have e:∀ z0 z1 z2 z3 z4,EntryIs ctx PP 110 [] [(135,Qo z0),(136,Qg z1),(137,Vo z2),(138,Yo z3),(139,Uj z4)] cv21 cv9 V5 (fun k a=>Zv z0 z1 z2 z3 z4 k a):=fun z0 z1 z2 z3 z4 _ a=>by kernel_rfl
 fn_ok (hc D5 (hc Pv (hc J5 (hc Q5 (hc Gv hl_nil))))) Tryd.func110 (fun s s' h=>by cases s <;> cases s' <;> first | ((repeat cases ‹SHasher›);cases h;done) | ((repeat cases ‹SHasher›);cases h;rfl) | exact (rg_ne h (by kernel_rfl)).elim) (fun _=>rfl) (fun _ _=>rfl) (b RZ JZ Fb Ia Ba) (e RZ JZ Fb Ia Ba) gas
noncomputable def JAC {γ:Type} (F:Yv):Hd ctx γ:=hdl cv21.dec (fun a=>F a) cv9.enc
abbrev Rk:=ByteArray→Option ByteArray
noncomputable def Aw (z0:Jv) (z1:Wv) (z2:Yv) (s_0:ByteArray):Option ByteArray:=
 z0.bind fun r0=>
 (z1 r0 s_0).bind fun r1=>
 (z2 r1).bind fun r2=>
 some r2
noncomputable def Nc:Rk:=Aw Vj Jk Qk
theorem X5:Tells ctx PP 60 cv9 cv9 (fun a=>Nc a):=fn_ok0 (hc AAC (hc GAC (hc IAC hl_nil))) Tryd.func60 ((fun z0 z1 z2 a=>by kernel_rfl:∀ z0 z1 z2,EntryIs0 ctx PP 60 [] [(112,BAC z0),(111,HAC z1),(110,JAC z2)] cv9 cv9 fun a=>Aw z0 z1 z2 a) Vj Jk Qk)
noncomputable def Dw {γ:Type} (F:Rk):Hd ctx γ:=hdl cv9.dec (fun a=>F a) cv9.enc
abbrev Ew:=ByteArray→Int→Option ByteArray
inductive Uk where
 | c0 (key_0:ByteArray) (x_1:Int) (i_6:Int) (out_5:(List Int))
noncomputable def Y5:Uk→LI
 | .c0 key_0 x_1 i_6 out_5=>(tdo Tryd.f141 976,[(0,[.one (.str key_0)]),(1,[.one (.int .u8 x_1)]),(5,[.one (.own 368)]),(6,[.one (.int .i64 i_6)])],[(368,.sl 5 out_5)])
noncomputable def Gw (z0:Rk) (k:Uk→Option ByteArray) (key_0:ByteArray) (x_1:Int):Option ByteArray:=
 bif (decide ((key_0.size:Int) > 64)) then
 (z0 key_0).bind fun r0=>
 k (.c0 r0 x_1 0 (List.replicate (64:Int).toNat (0:Int)))
 else
 k (.c0 key_0 x_1 0 (List.replicate (64:Int).toNat (0:Int)))
noncomputable def Ap (z0:Rk) (k:Uk→Option ByteArray):Uk→Option ByteArray
 | .c0 key_0 x_1 i_6 out_5=>
 bif (decide (i_6<64)) then
  bif (decide (i_6<(key_0.size:Int))) then
  bif ((decide (0≤i_6)) && (decide (i_6<(key_0.size:Int)))) then
  bif ((decide (0≤i_6)) && (decide (i_6<(out_5.length:Int)))) then
  bif ((decide (0≤i_6)) && (decide (i_6<((out_5.set i_6.toNat (bt key_0 i_6)).length:Int)))) then
  bif ((decide (0≤i_6)) && (decide (i_6<((out_5.set i_6.toNat (bt key_0 i_6)).length:Int)))) then
  k (.c0 key_0 x_1 (w64 (i_6+1)) ((out_5.set i_6.toNat (bt key_0 i_6)).set i_6.toNat (w8 (((BitVec.toNat ((BitVec.ofInt (IntKind.bits IntKind.u8) ((out_5.set i_6.toNat (bt key_0 i_6)).getD i_6.toNat 0)) ^^^ (BitVec.ofInt (IntKind.bits IntKind.u8) x_1))):Nat):Int))))
  else none
  else none
  else none
  else none
  else
  bif ((decide (0≤i_6)) && (decide (i_6<(out_5.length:Int)))) then
  bif ((decide (0≤i_6)) && (decide (i_6<(out_5.length:Int)))) then
  k (.c0 key_0 x_1 (w64 (i_6+1)) (out_5.set i_6.toNat (w8 (((BitVec.toNat ((BitVec.ofInt (IntKind.bits IntKind.u8) (out_5.getD i_6.toNat 0)) ^^^ (BitVec.ofInt (IntKind.bits IntKind.u8) x_1))):Nat):Int))))
  else none
  else none
 else
  some (ofBytes out_5)
noncomputable def Yg:Nat→Uk→Option ByteArray
 | 0,_=>none
 | m+1,s=>Ap Nc (Yg m) s
noncomputable def Vk:Ew:=Gw Nc (Yg gas)
theorem KAC:Tells ctx PP 141 cv34 cv9 (fun a=>Vk a.1 a.2):=
 have b:∀ z0,CutIs ctx PP 141 Tryd.f141 [] [(60,Dw z0)] cv9 Y5 (Ap z0):=fun z0 _ s=>by cases s <;> kernel_rfl
 have e:∀ z0,EntryIs ctx PP 141 [] [(60,Dw z0)] cv34 cv9 Y5 (fun k a=>Gw z0 k a.1 a.2):=fun z0 _ a=>by kernel_rfl
 fn_ok (hc X5 hl_nil) Tryd.func141 (fun s s' h=>by cases s;cases s';cases h;rfl) (fun _=>rfl) (fun _ _=>rfl) (b Nc) (e Nc) gas
noncomputable def LAC {γ:Type} (F:Ew):Hd ctx γ:=hdl cv34.dec (fun a=>F a.1 a.2) cv9.enc
abbrev Xk:=ByteArray→ByteArray→Option ByteArray
noncomputable def Hw (z0:Ew) (z1:Rk) (key_0:ByteArray) (s_1:ByteArray):Option ByteArray:=
 (z0 key_0 92).bind fun r0=>
 (z0 key_0 54).bind fun r1=>
 bif (decide ((r1.size+s_1.size)≤9223372036854775807)) then
 (z1 (r1++s_1)).bind fun r2=>
 bif (decide ((r0.size+r2.size)≤9223372036854775807)) then
 (z1 (r0++r2)).bind fun r3=>
 some r3
 else none
 else none
noncomputable def Oc:Xk:=Hw Vk Nc
theorem Z5:Tells ctx PP 115 cv35 cv9 (fun a=>Oc a.1 a.2):=fn_ok0 (hc KAC (hc X5 hl_nil)) Tryd.func115 ((fun z0 z1 a=>by kernel_rfl:∀ z0 z1,EntryIs0 ctx PP 115 [] [(141,LAC z0),(60,Dw z1)] cv35 cv9 fun a=>Hw z0 z1 a.1 a.2) Vk Nc)
noncomputable def Iw {γ:Type} (F:Xk):Hd ctx γ:=hdl cv35.dec (fun a=>F a.1 a.2) cv9.enc
abbrev Dp:=ByteArray→Int→Int→Option (ByteArray×Bool)
inductive Yk where
 | c0 (key_0:ByteArray) (num_1:Int) (n_2:Int) (i_9:Int) (out_8:(List Int))
noncomputable def D6:Yk→LI
 | .c0 key_0 num_1 n_2 i_9 out_8=>(tdo Tryd.f68 976,[(0,[.one (.str key_0)]),(1,[.one (.int .i64 num_1)]),(2,[.one (.int .i64 n_2)]),(8,[.one (.own 560)]),(9,[.one (.int .i64 i_9)])],[(560,.sl 5 out_8)])
noncomputable def Jw (z0:Df) (z1:Mc) (z2:Ko) (z3:Xk) (k:Yk→Option (ByteArray×Bool)) (key_0:ByteArray) (num_1:Int) (n_2:Int):Option (ByteArray×Bool):=
 (z0 num_1 0 1000000000).bind fun r0=>
 bif (!r0) then
 some (⟨#[]⟩,false)
 else
 (z0 n_2 0 8000).bind fun r1=>
 bif (!r1) then
  some (⟨#[]⟩,false)
 else
  k (.c0 key_0 num_1 n_2 0 [])
noncomputable def Ep (z0:Df) (z1:Mc) (z2:Ko) (z3:Xk) (k:Yk→Option (ByteArray×Bool)):Yk→Option (ByteArray×Bool)
 | .c0 key_0 num_1 n_2 i_9 out_8=>
 bif (decide ((out_8.length:Int)<n_2)) then
  (z1 num_1).bind fun r0=>
  bif (decide (((⟨#[109]⟩:ByteArray).size+r0.size)≤9223372036854775807)) then
  (z2 i_9).bind fun r1=>
  bif (decide ((((⟨#[109]⟩:ByteArray)++r0).size+r1.size)≤9223372036854775807)) then
  (z3 key_0 (((⟨#[109]⟩:ByteArray)++r0)++r1)).bind fun r2=>
  bif (decide (r2.size≤9223372036854775807)) then
  bif (decide (((out_8.length+(bytesOf r2).length)*1)≤140737488355328)) then
  k (.c0 key_0 num_1 n_2 (w64 (i_9+1)) (out_8++(bytesOf r2)))
  else none
  else none
  else none
  else none
 else
  bif ((decide (0≤n_2)) && (decide (n_2≤(out_8.length:Int)))) then
  some ((ofBytes ((out_8.drop 0).take (n_2.toNat - 0))),true)
  else none
noncomputable def Zk:Nat→Yk→Option (ByteArray×Bool)
 | 0,_=>none
 | m+1,s=>Ep Aa FZ Ef Oc (Zk m) s
noncomputable def Jf:Dp:=Jw Aa FZ Ef Oc (Zk gas)
theorem F6:Tells ctx PP 68 cv36 cv33 (fun a=>Jf a.1 a.2.1 a.2.2):=
 have b:∀ z0 z1 z2 z3,CutIs ctx PP 68 Tryd.f68 [] [(63,Rj z0),(78,Bf z1),(116,V4 z2),(115,Iw z3)] cv33 D6 (Ep z0 z1 z2 z3):=fun z0 z1 z2 z3 _ s=>by cases s <;> kernel_rfl
 have e:∀ z0 z1 z2 z3,EntryIs ctx PP 68 [] [(63,Rj z0),(78,Bf z1),(116,V4 z2),(115,Iw z3)] cv36 cv33 D6 (fun k a=>Jw z0 z1 z2 z3 k a.1 a.2.1 a.2.2):=fun z0 z1 z2 z3 _ a=>by kernel_rfl
 fn_ok (hc Bv (hc Jo (hc XAB (hc Z5 hl_nil)))) Tryd.func68 (fun s s' h=>by cases s;cases s';cases h;rfl) (fun _=>rfl) (fun _ _=>rfl) (b Aa FZ Ef Oc) (e Aa FZ Ef Oc) gas
noncomputable def G6 {γ:Type} (F:Dp):Hd ctx γ:=hdl cv36.dec (fun a=>F a.1 a.2.1 a.2.2) cv33.enc
abbrev Fp:=ByteArray→ByteArray→Option ByteArray
inductive Bl where
 | c0 (b_1:ByteArray) (i_6:Int) (out_5:(List Int))
noncomputable def H6:Bl→LI
 | .c0 b_1 i_6 out_5=>(tdo Tryd.f69 464,[(1,[.one (.str b_1)]),(5,[.one (.own 368)]),(6,[.one (.int .i64 i_6)])],[(368,.sl 5 out_5)])
noncomputable def Kw (k:Bl→Option ByteArray) (a_0:ByteArray) (b_1:ByteArray):Option ByteArray:=
 bif (decide (a_0.size≤9223372036854775807)) then
 k (.c0 b_1 0 (bytesOf a_0))
 else none
noncomputable def Gp (k:Bl→Option ByteArray):Bl→Option ByteArray
 | .c0 b_1 i_6 out_5=>
 bif (decide (i_6<(out_5.length:Int))) then
  bif ((decide (0≤i_6)) && (decide (i_6<(out_5.length:Int)))) then
  bif ((decide (0≤i_6)) && (decide (i_6<(b_1.size:Int)))) then
  bif ((decide (0≤i_6)) && (decide (i_6<(out_5.length:Int)))) then
  k (.c0 b_1 (w64 (i_6+1)) (out_5.set i_6.toNat (w8 (((BitVec.toNat ((BitVec.ofInt (IntKind.bits IntKind.u8) (out_5.getD i_6.toNat 0)) ^^^ (BitVec.ofInt (IntKind.bits IntKind.u8) (bt b_1 i_6)))):Nat):Int))))
  else none
  else none
  else none
 else
  some (ofBytes out_5)
noncomputable def Dl:Nat→Bl→Option ByteArray
 | 0,_=>none
 | m+1,s=>Gp (Dl m) s
noncomputable def Rf:Fp:=Kw (Dl gas)
theorem J6:Tells ctx PP 69 cv35 cv9 (fun a=>Rf a.1 a.2):=
 have b:CutIs ctx PP 69 Tryd.f69 [] [] cv9 H6 (Gp):=fun _ s=>by cases s <;> kernel_rfl
 have e:EntryIs ctx PP 69 [] [] cv35 cv9 H6 (fun k a=>Kw k a.1 a.2):=fun _ a=>by kernel_rfl
 fn_ok hl_nil Tryd.func69 (fun s s' h=>by cases s;cases s';cases h;rfl) (fun _=>rfl) (fun _ _=>rfl) b e gas
noncomputable def L6 {γ:Type} (F:Fp):Hd ctx γ:=hdl cv35.dec (fun a=>F a.1 a.2) cv9.enc
abbrev Ip:=ByteArray→Int→ByteArray→Option ByteArray
noncomputable def Nw (z0:Mc) (z1:Xk) (key_0:ByteArray) (num_1:Int) (s_2:ByteArray):Option ByteArray:=
 (z0 num_1).bind fun r0=>
 bif (decide (((⟨#[116]⟩:ByteArray).size+r0.size)≤9223372036854775807)) then
 bif (decide ((((⟨#[116]⟩:ByteArray)++r0).size+s_2.size)≤9223372036854775807)) then
 (z1 key_0 (((⟨#[116]⟩:ByteArray)++r0)++s_2)).bind fun r1=>
 bif ((decide ((0:Int)≤(16:Int))) && (decide (16≤(r1.size:Int)))) then
 some (r1.extract 0 (16:Int).toNat)
 else none
 else none
 else none
noncomputable def Tf:Ip:=Nw FZ Oc
theorem O6:Tells ctx PP 70 cv32 cv9 (fun a=>Tf a.1 a.2.1 a.2.2):=fn_ok0 (hc Jo (hc Z5 hl_nil)) Tryd.func70 ((fun z0 z1 a=>by kernel_rfl:∀ z0 z1,EntryIs0 ctx PP 70 [] [(78,Bf z0),(115,Iw z1)] cv32 cv9 fun a=>Nw z0 z1 a.1 a.2.1 a.2.2) FZ Oc)
noncomputable def P6 {γ:Type} (F:Ip):Hd ctx γ:=hdl cv32.dec (fun a=>F a.1 a.2.1 a.2.2) cv9.enc
abbrev Gl:=ByteArray→Int→ByteArray→Option (ByteArray×Bool)
noncomputable def Qw (z0:Dp) (z1:Fp) (z2:Ip) (key_0:ByteArray) (num_1:Int) (s_2:ByteArray):Option (ByteArray×Bool):=
 (z0 key_0 num_1 (s_2.size:Int)).bind fun r0=>
 bif (!r0.2) then
 some (⟨#[]⟩,false)
 else
 (z1 s_2 r0.1).bind fun r1=>
 (z2 key_0 num_1 r1).bind fun r2=>
 bif (decide ((r1.size+r2.size)≤9223372036854775807)) then
 some ((r1++r2),true)
 else none
noncomputable def Qc:Gl:=Qw Jf Rf Tf
theorem U6:Tells ctx PP 21 cv32 cv33 (fun a=>Qc a.1 a.2.1 a.2.2):=fn_ok0 (hc F6 (hc J6 (hc O6 hl_nil))) Tryd.func21 ((fun z0 z1 z2 a=>by kernel_rfl:∀ z0 z1 z2,EntryIs0 ctx PP 21 [] [(68,G6 z0),(69,L6 z1),(70,P6 z2)] cv32 cv33 fun a=>Qw z0 z1 z2 a.1 a.2.1 a.2.2) Jf Rf Tf)
noncomputable def Rw {γ:Type} (F:Gl):Hd ctx γ:=hdl cv32.dec (fun a=>F a.1 a.2.1 a.2.2) cv33.enc
abbrev Hl:=ByteArray→ByteArray→Option (ByteArray×Bool)
inductive Il where
 | c0 (key_0:ByteArray) (out_6:(List Int))
noncomputable def V6:Il→LI
 | .c0 key_0 out_6=>(tdo Tryd.f29 480,[(0,[.one (.str key_0)]),(6,[.one (.own 432)])],[(432,.sl 5 out_6)])
noncomputable def Uw (z0:Mc) (z1:Gl) (k:Il→Option (ByteArray×Bool)) (key_0:ByteArray) (s_1:ByteArray):Option (ByteArray×Bool):=
 bif (decide ((s_1.size:Int) > 400)) then
 some (⟨#[]⟩,false)
 else
 (z0 (s_1.size:Int)).bind fun r0=>
 bif (decide ((r0.size+s_1.size)≤9223372036854775807)) then
 bif (decide ((r0++s_1).size≤9223372036854775807)) then
 k (.c0 key_0 (bytesOf (r0++s_1)))
 else none
 else none
noncomputable def Jp (z0:Mc) (z1:Gl) (k:Il→Option (ByteArray×Bool)):Il→Option (ByteArray×Bool)
 | .c0 key_0 out_6=>
 bif (((out_6.length:Int).tmod 16) != 0) then
  bif (decide (((out_6.length+1)*1)≤140737488355328)) then
  k (.c0 key_0 (out_6++[(0:Int)]))
  else none
 else
  (z1 key_0 0 (ofBytes out_6)).bind fun r0=>
  some (r0.1,r0.2)
noncomputable def Jl:Nat→Il→Option (ByteArray×Bool)
 | 0,_=>none
 | m+1,s=>Jp FZ Qc (Jl m) s
noncomputable def Tc:Hl:=Uw FZ Qc (Jl gas)
theorem Vw:Tells ctx PP 29 cv35 cv33 (fun a=>Tc a.1 a.2):=
 have b:∀ z0 z1,CutIs ctx PP 29 Tryd.f29 [] [(78,Bf z0),(21,Rw z1)] cv33 V6 (Jp z0 z1):=fun z0 z1 _ s=>by cases s <;> kernel_rfl
 have e:∀ z0 z1,EntryIs ctx PP 29 [] [(78,Bf z0),(21,Rw z1)] cv35 cv33 V6 (fun k a=>Uw z0 z1 k a.1 a.2):=fun z0 z1 _ a=>by kernel_rfl
 fn_ok (hc Jo (hc U6 hl_nil)) Tryd.func29 (fun s s' h=>by cases s;cases s';cases h;rfl) (fun _=>rfl) (fun _ _=>rfl) (b FZ Qc) (e FZ Qc) gas
noncomputable def Xw {γ:Type} (F:Hl):Hd ctx γ:=hdl cv35.dec (fun a=>F a.1 a.2) cv33.enc
abbrev Yw:=SL01Cur→ByteArray→Option (ByteArray×SL01Cur)
noncomputable def Zw (z0:Cc) (z1:Oh) (c_0:SL01Cur) (s_1:ByteArray):Option (ByteArray×SL01Cur):=
 (z0 ⟨(),c_0.fI,c_0.fH⟩ 12).bind fun r0=>
 bif (r0.1 == 0) then
 (z1 ⟨(),r0.2.fI,r0.2.fH⟩ 1).bind fun r1=>
 bif (decide ((s_1.size+r1.1.size)≤9223372036854775807)) then
 some ((s_1++r1.1),⟨(),r1.2.fI,r1.2.fH⟩)
 else none
 else
 bif (r0.1 == 1) then
  (z0 ⟨(),r0.2.fI,r0.2.fH⟩ (w64 ((s_1.size:Int)+1))).bind fun r2=>
  bif ((decide (0≤r2.1)) && (decide (r2.1≤(s_1.size:Int)))) then
  some ((s_1.extract 0 r2.1.toNat),⟨(),r2.2.fI,r2.2.fH⟩)
  else none
 else
  bif (r0.1 == 2) then
  bif (r0.1 == 2) then
   bif (decide ((s_1.size:Int) > 0)) then
   (z0 ⟨(),r0.2.fI,r0.2.fH⟩ (s_1.size:Int)).bind fun r3=>
   bif ((decide (0≤r3.1)) && (decide (r3.1≤(s_1.size:Int)))) then
   (z1 ⟨(),r3.2.fI,r3.2.fH⟩ 1).bind fun r4=>
   bif (decide (((s_1.extract 0 r3.1.toNat).size+r4.1.size)≤9223372036854775807)) then
   bif ((decide (0≤(w64 (r3.1+1)))) && (decide ((w64 (r3.1+1))≤(s_1.size:Int)))) then
   bif (decide ((((s_1.extract 0 r3.1.toNat)++r4.1).size+(s_1.extract (w64 (r3.1+1)).toNat s_1.size).size)≤9223372036854775807)) then
   some ((((s_1.extract 0 r3.1.toNat)++r4.1)++(s_1.extract (w64 (r3.1+1)).toNat s_1.size)),⟨(),r4.2.fI,r4.2.fH⟩)
   else none
   else none
   else none
   else none
   else
   some (s_1,⟨(),r0.2.fI,r0.2.fH⟩)
  else
   some (s_1,⟨(),r0.2.fI,r0.2.fH⟩)
  else
  bif (r0.1 == 3) then
   bif (decide ((s_1.size:Int) > 0)) then
   (z0 ⟨(),r0.2.fI,r0.2.fH⟩ (s_1.size:Int)).bind fun r5=>
   bif ((decide (0≤r5.1)) && (decide (r5.1≤(s_1.size:Int)))) then
   (z1 ⟨(),r5.2.fI,r5.2.fH⟩ 1).bind fun r6=>
   bif (decide (((s_1.extract 0 r5.1.toNat).size+r6.1.size)≤9223372036854775807)) then
   bif ((decide (0≤(w64 (r5.1+1)))) && (decide ((w64 (r5.1+1))≤(s_1.size:Int)))) then
   bif (decide ((((s_1.extract 0 r5.1.toNat)++r6.1).size+(s_1.extract (w64 (r5.1+1)).toNat s_1.size).size)≤9223372036854775807)) then
   some ((((s_1.extract 0 r5.1.toNat)++r6.1)++(s_1.extract (w64 (r5.1+1)).toNat s_1.size)),⟨(),r6.2.fI,r6.2.fH⟩)
   else none
   else none
   else none
   else none
   else
   some (s_1,⟨(),r0.2.fI,r0.2.fH⟩)
  else
   some (s_1,⟨(),r0.2.fI,r0.2.fH⟩)
noncomputable def Ll:Yw:=Zw AZ Dc
theorem NAC:Tells ctx PP 71 cv37 cv10 (fun a=>Ll a.1 a.2):=fn_ok0 (hc Ae (hc Ar hl_nil)) Tryd.func71 ((fun z0 z1 a=>by kernel_rfl:∀ z0 z1,EntryIs0 ctx PP 71 [0] [(57,Ce z0),(58,Hr z1)] cv37 cv10 fun a=>Zw z0 z1 a.1 a.2) AZ Dc)
noncomputable def OAC {γ:Type} (F:Yw):Hd ctx γ:=hdl cv37.dec (fun a=>F a.1 a.2) cv10.enc
abbrev Dx:=Unit→Option (ByteArray×ByteArray)
noncomputable def Gx (z0:Om) (z1:Vm) (z2:Xm) (z3:Hl) (z4:Cc) (z5:Yw) (z6:Gl) (code_0:Unit):Option (ByteArray×ByteArray):=
 (z0 ()).bind fun r0=>
 (z1 ⟨(),r0.fI,r0.fH⟩).bind fun r1=>
 (z2 ⟨(),r1.2.fI,r1.2.fH⟩).bind fun r2=>
 (z3 r1.1 r2.1).bind fun r3=>
 (z4 ⟨(),r2.2.fI,r2.2.fH⟩ 6).bind fun r4=>
 bif (r4.1 == 0) then
 (z5 ⟨(),r4.2.fI,r4.2.fH⟩ r3.1).bind fun r5=>
 some (r1.1,r5.1)
 else
 bif (r4.1 == 1) then
  (z2 ⟨(),r4.2.fI,r4.2.fH⟩).bind fun r6=>
  (z6 r1.1 0 r6.1).bind fun r7=>
  some (r1.1,r7.1)
 else
  some (r1.1,r3.1)
noncomputable def Nl:Dx:=Gx Zd Fe He Tc AZ Ll Qc
theorem PAC:Tells ctx PP 30 cv0 cv35 (fun a=>Nl a):=fn_ok0 (hc Az (hc Iz (hc Kz (hc Vw (hc Ae (hc NAC (hc U6 hl_nil))))))) Tryd.func30 ((fun z0 z1 z2 z3 z4 z5 z6 a=>by kernel_rfl:∀ z0 z1 z2 z3 z4 z5 z6,EntryIs0 ctx PP 30 [] [(53,Bz z0),(64,Jz z1),(65,Nz z2),(29,Xw z3),(57,Ce z4),(71,OAC z5),(21,Rw z6)] cv0 cv35 fun a=>Gx z0 z1 z2 z3 z4 z5 z6 a) Zd Fe He Tc AZ Ll Qc)
noncomputable def QAC {γ:Type} (F:Dx):Hd ctx γ:=hdl cv0.dec (fun a=>F a) cv35.enc
abbrev Ox:=ByteArray→ByteArray→Option Bool
noncomputable def Px (a_0:ByteArray) (b_1:ByteArray):Option Bool:=
 some ((ByteArray.toList a_0) == (ByteArray.toList b_1))
noncomputable def Np:Ox:=Px
theorem RAC:Tells ctx PP 72 cv35 cv1 (fun a=>Np a.1 a.2):=fn_ok0 hl_nil Tryd.func72 (fun a=>by kernel_rfl:EntryIs0 ctx PP 72 [] [] cv35 cv1 fun a=>Px a.1 a.2)
noncomputable def SAC {γ:Type} (F:Ox):Hd ctx γ:=hdl cv35.dec (fun a=>F a.1 a.2) cv1.enc
abbrev Qx:=ByteArray→Int→ByteArray→Option (ByteArray×Bool)
noncomputable def Rx (z0:Dp) (z1:Ip) (z2:Ox) (z3:Fp) (key_0:ByteArray) (num_1:Int) (text_2:ByteArray):Option (ByteArray×Bool):=
 bif (decide ((text_2.size:Int)<16)) then
 some (⟨#[]⟩,false)
 else
 bif ((decide (0≤(w64 ((text_2.size:Int) - 16)))) && (decide ((w64 ((text_2.size:Int) - 16))≤(text_2.size:Int)))) then
 (z0 key_0 num_1 ((text_2.extract 0 (w64 ((text_2.size:Int) - 16)).toNat).size:Int)).bind fun r0=>
 bif (!r0.2) then
  some (⟨#[]⟩,false)
 else
  (z1 key_0 num_1 (text_2.extract 0 (w64 ((text_2.size:Int) - 16)).toNat)).bind fun r1=>
  bif ((decide (0≤((text_2.extract 0 (w64 ((text_2.size:Int) - 16)).toNat).size:Int))) && (decide (((text_2.extract 0 (w64 ((text_2.size:Int) - 16)).toNat).size:Int)≤(text_2.size:Int)))) then
  (z2 r1 (text_2.extract ((text_2.extract 0 (w64 ((text_2.size:Int) - 16)).toNat).size:Int).toNat text_2.size)).bind fun r2=>
  bif (!r2) then
  some (⟨#[]⟩,false)
  else
  (z3 (text_2.extract 0 (w64 ((text_2.size:Int) - 16)).toNat) r0.1).bind fun r3=>
  some (r3,true)
  else none
 else none
noncomputable def Ol:Qx:=Rx Jf Tf Np Rf
theorem UAC:Tells ctx PP 23 cv32 cv33 (fun a=>Ol a.1 a.2.1 a.2.2):=fn_ok0 (hc F6 (hc O6 (hc RAC (hc J6 hl_nil)))) Tryd.func23 ((fun z0 z1 z2 z3 a=>by kernel_rfl:∀ z0 z1 z2 z3,EntryIs0 ctx PP 23 [] [(68,G6 z0),(70,P6 z1),(72,SAC z2),(69,L6 z3)] cv32 cv33 fun a=>Rx z0 z1 z2 z3 a.1 a.2.1 a.2.2) Jf Tf Np Rf)
noncomputable def VAC {γ:Type} (F:Qx):Hd ctx γ:=hdl cv32.dec (fun a=>F a.1 a.2.1 a.2.2) cv33.enc
abbrev Ux:=ByteArray→Int→Option (Int×Int×Bool)
inductive Ql where
 | c0 (text_0:ByteArray) (at_1:Int) (n_7:Int) (scale_8:Int) (i_9:Int)
noncomputable def X6:Ql→LI
 | .c0 text_0 at_1 n_7 scale_8 i_9=>(tdo Tryd.f79 2000,[(0,[.one (.str text_0)]),(1,[.one (.int .i64 at_1)]),(7,[.one (.int .i64 n_7)]),(8,[.one (.int .i64 scale_8)]),(9,[.one (.int .i64 i_9)])],[])
noncomputable def Rl (z0:Df) (z1:Mc) (k:Ql→Option (Int×Int×Bool)) (text_0:ByteArray) (at_1:Int):Option (Int×Int×Bool):=
 (z0 at_1 0 (text_0.size:Int)).bind fun r0=>
 bif (!r0) then
 some (0,(0,false))
 else
 k (.c0 text_0 at_1 0 1 at_1)
noncomputable def Qp (z0:Df) (z1:Mc) (k:Ql→Option (Int×Int×Bool)):Ql→Option (Int×Int×Bool)
 | .c0 text_0 at_1 n_7 scale_8 i_9=>
 bif (decide (i_9<(text_0.size:Int))) then
  bif (decide (i_9<(w64 (at_1+5)))) then
  bif ((decide (0≤i_9)) && (decide (i_9<(text_0.size:Int)))) then
  bif ((decide (0≤i_9)) && (decide (i_9<(text_0.size:Int)))) then
  bif (decide ((bt text_0 i_9)<128)) then
   bif (decide ((w64 (n_7+(w64 (((w64 (bt text_0 i_9)).tmod 128)*scale_8)))) > 1000000000)) then
   some (0,(0,false))
   else
   (z1 (w64 (n_7+(w64 (((w64 (bt text_0 i_9)).tmod 128)*scale_8))))).bind fun r0=>
   bif (((decide (0≤at_1)) && (decide (at_1≤(w64 (i_9+1))))) && (decide ((w64 (i_9+1))≤(text_0.size:Int)))) then
   bif (!((ByteArray.toList r0) == (ByteArray.toList (text_0.extract at_1.toNat (w64 (i_9+1)).toNat)))) then
    some (0,(0,false))
   else
    some ((w64 (n_7+(w64 (((w64 (bt text_0 i_9)).tmod 128)*scale_8)))),((w64 (i_9+1)),true))
   else none
  else
   k (.c0 text_0 at_1 (w64 (n_7+(w64 (((w64 (bt text_0 i_9)).tmod 128)*scale_8)))) (w64 (scale_8*128)) (w64 (i_9+1)))
  else none
  else none
  else
  some (0,(0,false))
 else
  some (0,(0,false))
noncomputable def Nb:Nat→Ql→Option (Int×Int×Bool)
 | 0,_=>none
 | m+1,s=>Qp Aa FZ (Nb m) s
noncomputable def Ja:Ux:=Rl Aa FZ (Nb gas)
theorem WAC:Tells ctx PP 79 cv23 cv38 (fun a=>Ja a.1 a.2):=
 have b:∀ z0 z1,CutIs ctx PP 79 Tryd.f79 [] [(63,Rj z0),(78,Bf z1)] cv38 X6 (Qp z0 z1):=fun z0 z1 _ s=>by cases s <;> kernel_rfl
 have e:∀ z0 z1,EntryIs ctx PP 79 [] [(63,Rj z0),(78,Bf z1)] cv23 cv38 X6 (fun k a=>Rl z0 z1 k a.1 a.2):=fun z0 z1 _ a=>by kernel_rfl
 fn_ok (hc Bv (hc Jo hl_nil)) Tryd.func79 (fun s s' h=>by cases s;cases s';cases h;rfl) (fun _=>rfl) (fun _ _=>rfl) (b Aa FZ) (e Aa FZ) gas
noncomputable def XAC {γ:Type} (F:Ux):Hd ctx γ:=hdl cv23.dec (fun a=>F a.1 a.2) cv38.enc
abbrev Vx:=ByteArray→ByteArray→Option (ByteArray×Bool)
noncomputable def Wx (z0:Qx) (z1:Ux) (z2:Hl) (key_0:ByteArray) (text_1:ByteArray):Option (ByteArray×Bool):=
 (z0 key_0 0 text_1).bind fun r0=>
 (z1 r0.1 0).bind fun r1=>
 bif (!r0.2) then
 some (⟨#[]⟩,false)
 else
 bif (!r1.2.2) then
  some (⟨#[]⟩,false)
 else
  bif (decide (r1.1 > (w64 ((r0.1.size:Int) - r1.2.1)))) then
  some (⟨#[]⟩,false)
  else
  bif (((decide (0≤r1.2.1)) && (decide (r1.2.1≤(w64 (r1.2.1+r1.1))))) && (decide ((w64 (r1.2.1+r1.1))≤(r0.1.size:Int)))) then
  (z2 key_0 (r0.1.extract r1.2.1.toNat (w64 (r1.2.1+r1.1)).toNat)).bind fun r2=>
  bif (!r2.2) then
   some (⟨#[]⟩,false)
  else
   bif (!((ByteArray.toList r2.1) == (ByteArray.toList text_1))) then
   some (⟨#[]⟩,false)
   else
   some ((r0.1.extract r1.2.1.toNat (w64 (r1.2.1+r1.1)).toNat),true)
  else none
noncomputable def Sl:Vx:=Wx Ol Ja Tc
theorem YAC:Tells ctx PP 31 cv35 cv33 (fun a=>Sl a.1 a.2):=fn_ok0 (hc UAC (hc WAC (hc Vw hl_nil))) Tryd.func31 ((fun z0 z1 z2 a=>by kernel_rfl:∀ z0 z1 z2,EntryIs0 ctx PP 31 [] [(23,VAC z0),(79,XAC z1),(29,Xw z2)] cv35 cv33 fun a=>Wx z0 z1 z2 a.1 a.2) Ol Ja Tc)
noncomputable def ZAC {γ:Type} (F:Vx):Hd ctx γ:=hdl cv35.dec (fun a=>F a.1 a.2) cv33.enc
abbrev Y6:=Unit→Option Bool
noncomputable def Xx (z0:Tq) (z1:Vr) (z2:Qu) (z3:Yu) (z4:Hl) (z5:Dx) (z6:Vx) (code_0:Unit):Option Bool:=
 (z0 ()).bind fun r0=>
 bif r0 then
 some true
 else
 (z1 ()).bind fun r1=>
 (z2 r1.1 r1.2).bind fun r2=>
 (z3 r1.1 r2.1).bind fun r3=>
 (z4 r1.1 r1.2).bind fun r4=>
 bif (!(r2.2 == r4.2)) then
  some false
 else
  bif r2.2 then
  bif (!r3.2) then
   some false
  else
   bif (!((ByteArray.toList r3.1) == (ByteArray.toList r1.2))) then
   some false
   else
   bif (((r2.1.size:Int).tmod 16) != 0) then
    some false
   else
    (z5 ()).bind fun r5=>
    (z3 r5.1 r5.2).bind fun r6=>
    (z6 r5.1 r5.2).bind fun r7=>
    (z2 r5.1 r6.1).bind fun r8=>
    bif (r6.2 == r7.2) then
    bif (!r6.2) then
     some true
    else
     some ((ByteArray.toList r8.1) == (ByteArray.toList r5.2))
    else
    some false
  else
  (z5 ()).bind fun r9=>
  (z3 r9.1 r9.2).bind fun r10=>
  (z6 r9.1 r9.2).bind fun r11=>
  (z2 r9.1 r10.1).bind fun r12=>
  bif (r10.2 == r11.2) then
   bif (!r10.2) then
   some true
   else
   some ((ByteArray.toList r12.1) == (ByteArray.toList r9.2))
  else
   some false
noncomputable def laws_FnWraps:Y6:=Xx Lm Wh Gj Oj Tc Nl Sl
theorem ok_laws_FnWraps:Tells ctx PP 5 cv0 cv1 (fun a=>laws_FnWraps a):=fn_ok0 (hc KAA (hc OAA (hc NAB (hc VAB (hc Vw (hc PAC (hc YAC hl_nil))))))) Tryd.func5 ((fun z0 z1 z2 z3 z4 z5 z6 a=>by kernel_rfl:∀ z0 z1 z2 z3 z4 z5 z6,EntryIs0 ctx PP 5 [] [(9,LAA z0),(26,PAA z1),(27,OAB z2),(28,WAB z3),(29,Xw z4),(30,QAC z5),(31,ZAC z6)] cv0 cv1 fun a=>Xx z0 z1 z2 z3 z4 z5 z6 a) Lm Wh Gj Oj Tc Nl Sl)
noncomputable def CAH {γ:Type} (F:Y6):Hd ctx γ:=hdl cv0.dec (fun a=>F a) cv1.enc
end Go.Proofs.YtjfkbidckphneaaDoor.G

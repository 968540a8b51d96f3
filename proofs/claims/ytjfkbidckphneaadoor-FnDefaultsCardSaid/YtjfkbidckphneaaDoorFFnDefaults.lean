/- Functions of the program, told by plain functions: part 1 of 1. -/
import Derived.Test.YtjfkbidckphneaaDoorCtx
namespace Go.Proofs.YtjfkbidckphneaaDoor.G
open Go Go.Ev
set_option linter.unusedVariables false
set_option linter.unusedSectionVars false
variable [PC]
abbrev Di:=Unit→Option Bool
noncomputable def Vm (code_0:Unit):Option Bool:=
 some (decide ((codeL.length:Int) > 1048576))
noncomputable def Bg:Di:=Vm
theorem Zr:Tells ctx PP 9 cv0 cv1 (fun a=>Bg a):=fn_ok0 hl_nil Tryd.func9 (fun a=>by kernel_rfl:EntryIs0 ctx PP 9 [] [] cv0 cv1 fun a=>Vm a)
noncomputable def Es {γ:Type} (F:Di):Hd ctx γ:=hdl cv0.dec (fun a=>F a) cv1.enc
abbrev Fg:=Unit→Option SL01Cur
inductive Qc where
 | c0 (h_3:Int) (i_4:Int)
noncomputable def Xm:Qc→LI
 | .c0 h_3 i_4=>(tdo Tryd.f53 464,[(0,[.one (.csl)]),(3,[.one (.int .i64 h_3)]),(4,[.one (.int .i64 i_4)])],[])
noncomputable def Ei (k:Qc→Option SL01Cur) (code_0:Unit):Option SL01Cur:=
 k (.c0 (w64 (27401+(codeL.length:Int))) 0)
noncomputable def Gg (k:Qc→Option SL01Cur):Qc→Option SL01Cur
 | .c0 h_3 i_4=>
 bif (decide (i_4<(codeL.length:Int))) then
  bif (decide (i_4<4000)) then
  bif ((decide (0≤i_4)) && (decide (i_4<(codeL.length:Int)))) then
  bif (Nat.blt i_4.toNat codeL.length) then
  k (.c0 (w64 (((BitVec.toNat ((BitVec.ofInt (IntKind.bits IntKind.i64) (w64 ((w64 ((w64 (h_3*131))+(w64 (codeL.getD i_4.toNat 0))))+7))) &&& (BitVec.ofInt (IntKind.bits IntKind.i64) 1073741823))):Nat):Int)) (w64 (i_4+1)))
  else none
  else none
  else
  some ⟨(),0,h_3⟩
 else
  some ⟨(),0,h_3⟩
noncomputable def Tc:Nat→Qc→Option SL01Cur
 | 0,_=>none
 | m+1,s=>Gg (Tc m) s
noncomputable def Ea:Fg:=Ei (Tc gas)
theorem Ym:Tells ctx PP 53 cv0 cv2 (fun a=>Ea a):=
 have b:CutIs ctx PP 53 Tryd.f53 [] [] cv2 Xm (Gg):=fun _ s=>by cases s <;> kernel_rfl
 have e:EntryIs ctx PP 53 [] [] cv0 cv2 Xm (fun k a=>Ei k a):=fun _ a=>by kernel_rfl
 fn_ok hl_nil Tryd.func53 (fun s s' h=>by cases s;cases s';cases h;rfl) (fun _=>rfl) (fun _ _=>rfl) b e gas
noncomputable def Zm {γ:Type} (F:Fg):Hd ctx γ:=hdl cv0.dec (fun a=>F a) cv2.enc
abbrev Uc:=SL01Cur→Option (Int×SL01Cur)
noncomputable def Gi (c_0:SL01Cur):Option (Int×SL01Cur):=
 bif (decide (c_0.fI<(codeL.length:Int))) then
 bif ((decide (0≤c_0.fI)) && (decide (c_0.fI<(codeL.length:Int)))) then
 bif (Nat.blt c_0.fI.toNat codeL.length) then
 some ((w64 (((BitVec.toNat ((BitVec.ofInt (IntKind.bits IntKind.i64) (w64 ((w64 (((BitVec.toNat ((BitVec.ofInt (IntKind.bits IntKind.i64) (w64 (((BitVec.toNat ((BitVec.ofInt (IntKind.bits IntKind.i64) (Int.fdiv (w64 ((w64 (c_0.fH*6364136223846793005))+1442695040888963407)) (2 ^ (Min.min (33:Int).toNat (IntKind.bits IntKind.i64))))) ^^^ (BitVec.ofInt (IntKind.bits IntKind.i64) (Int.fdiv (w64 ((w64 (c_0.fH*6364136223846793005))+1442695040888963407)) (2 ^ (Min.min (45:Int).toNat (IntKind.bits IntKind.i64))))))):Nat):Int))) &&& (BitVec.ofInt (IntKind.bits IntKind.i64) 255))):Nat):Int))+(w64 (codeL.getD c_0.fI.toNat 0))))) &&& (BitVec.ofInt (IntKind.bits IntKind.i64) 255))):Nat):Int)),⟨(),(w64 (c_0.fI+1)),(w64 ((w64 (c_0.fH*6364136223846793005))+1442695040888963407))⟩)
 else none
 else none
 else
 some ((w64 (((BitVec.toNat ((BitVec.ofInt (IntKind.bits IntKind.i64) (w64 (((BitVec.toNat ((BitVec.ofInt (IntKind.bits IntKind.i64) (Int.fdiv (w64 ((w64 (c_0.fH*6364136223846793005))+1442695040888963407)) (2 ^ (Min.min (33:Int).toNat (IntKind.bits IntKind.i64))))) ^^^ (BitVec.ofInt (IntKind.bits IntKind.i64) (Int.fdiv (w64 ((w64 (c_0.fH*6364136223846793005))+1442695040888963407)) (2 ^ (Min.min (45:Int).toNat (IntKind.bits IntKind.i64))))))):Nat):Int))) &&& (BitVec.ofInt (IntKind.bits IntKind.i64) 255))):Nat):Int)),⟨(),c_0.fI,(w64 ((w64 (c_0.fH*6364136223846793005))+1442695040888963407))⟩)
noncomputable def PZ:Uc:=Gi
theorem Dn:Tells ctx PP 93 cv3 cv4 (fun a=>PZ a):=fn_ok0 hl_nil Tryd.func93 (fun a=>by kernel_rfl:EntryIs0 ctx PP 93 [0] [] cv3 cv4 fun a=>Gi a)
noncomputable def Ii {γ:Type} (F:Uc):Hd ctx γ:=hdl cv3.dec (fun a=>F a) cv4.enc
abbrev QZ:=SL01Cur→Int→Option (Int×SL01Cur)
noncomputable def Ji (z0:Uc) (c_0:SL01Cur) (n_1:Int):Option (Int×SL01Cur):=
 bif (decide (n_1≤0)) then
 some (0,⟨(),c_0.fI,c_0.fH⟩)
 else
 bif (decide (n_1≤256)) then
  (z0 ⟨(),c_0.fI,c_0.fH⟩).bind fun r0=>
  bif (!(n_1 == 0)) then
  some ((r0.1.tmod n_1),⟨(),r0.2.fI,r0.2.fH⟩)
  else none
 else
  (z0 ⟨(),c_0.fI,c_0.fH⟩).bind fun r1=>
  (z0 ⟨(),r1.2.fI,r1.2.fH⟩).bind fun r2=>
  (z0 ⟨(),r2.2.fI,r2.2.fH⟩).bind fun r3=>
  (z0 ⟨(),r3.2.fI,r3.2.fH⟩).bind fun r4=>
  bif (!(n_1 == 0)) then
  some (((w64 ((w64 ((w64 ((w64 (r1.1*16777216))+(w64 (r2.1*65536))))+(w64 (r3.1*256))))+r4.1)).tmod n_1),⟨(),r4.2.fI,r4.2.fH⟩)
  else none
noncomputable def LY:QZ:=Ji PZ
theorem Fa:Tells ctx PP 57 cv5 cv4 (fun a=>LY a.1 a.2):=fn_ok0 (hc Dn hl_nil) Tryd.func57 ((fun z0 a=>by kernel_rfl:∀ z0,EntryIs0 ctx PP 57 [0] [(93,Ii z0)] cv5 cv4 fun a=>Ji z0 a.1 a.2) PZ)
noncomputable def Ia {γ:Type} (F:QZ):Hd ctx γ:=hdl cv5.dec (fun a=>F a.1 a.2) cv4.enc
abbrev Xc:=SL01Cur→Int→Option (Bool×SL01Cur)
noncomputable def Oi (z0:QZ) (c_0:SL01Cur) (n_1:Int):Option (Bool×SL01Cur):=
 (z0 ⟨(),c_0.fI,c_0.fH⟩ n_1).bind fun r0=>
 some ((r0.1 == 0),⟨(),r0.2.fI,r0.2.fH⟩)
noncomputable def RZ:Xc:=Oi LY
theorem Qi:Tells ctx PP 54 cv5 cv6 (fun a=>RZ a.1 a.2):=fn_ok0 (hc Fa hl_nil) Tryd.func54 ((fun z0 a=>by kernel_rfl:∀ z0,EntryIs0 ctx PP 54 [0] [(57,Ia z0)] cv5 cv6 fun a=>Oi z0 a.1 a.2) LY)
noncomputable def Ri {γ:Type} (F:Xc):Hd ctx γ:=hdl cv5.dec (fun a=>F a.1 a.2) cv6.enc
abbrev Hg:=SL01Cur→(List Int)→Option (Int×SL01Cur)
noncomputable def Si (z0:QZ) (c_0:SL01Cur) (list_1:(List Int)):Option (Int×SL01Cur):=
 (z0 ⟨(),c_0.fI,c_0.fH⟩ (list_1.length:Int)).bind fun r0=>
 bif ((decide (0≤r0.1)) && (decide (r0.1<(list_1.length:Int)))) then
 some ((list_1.getD r0.1.toNat 0),⟨(),r0.2.fI,r0.2.fH⟩)
 else none
noncomputable def Ja:Hg:=Si LY
theorem En:Tells ctx PP 105 cv7 cv4 (fun a=>Ja a.1 a.2):=fn_ok0 (hc Fa hl_nil) Tryd.func105 ((fun z0 a=>by kernel_rfl:∀ z0,EntryIs0 ctx PP 105 [0] [(57,Ia z0)] cv7 cv4 fun a=>Si z0 a.1 a.2) LY)
noncomputable def Gn {γ:Type} (F:Hg):Hd ctx γ:=hdl cv7.dec (fun a=>F a.1 a.2) cv4.enc
abbrev Ti:=SL01Cur→Int→Option (Int×SL01Cur)
noncomputable def Ui (z0:Xc) (z1:Hg) (z2:QZ) (c_0:SL01Cur) (n_1:Int):Option (Int×SL01Cur):=
 (z0 ⟨(),c_0.fI,c_0.fH⟩ 15).bind fun r0=>
 bif r0.1 then
 (z1 ⟨(),r0.2.fI,r0.2.fH⟩ [(-(1:Int)),n_1,(w64 (n_1+1)),9223372036854775807,(-(9223372036854775808:Int))]).bind fun r1=>
 some (r1.1,⟨(),r1.2.fI,r1.2.fH⟩)
 else
 (z2 ⟨(),r0.2.fI,r0.2.fH⟩ n_1).bind fun r2=>
 some (r2.1,⟨(),r2.2.fI,r2.2.fH⟩)
noncomputable def Yc:Ti:=Ui RZ Ja LY
theorem Gs:Tells ctx PP 55 cv5 cv4 (fun a=>Yc a.1 a.2):=fn_ok0 (hc Qi (hc En (hc Fa hl_nil))) Tryd.func55 ((fun z0 z1 z2 a=>by kernel_rfl:∀ z0 z1 z2,EntryIs0 ctx PP 55 [0] [(54,Ri z0),(105,Gn z1),(57,Ia z2)] cv5 cv4 fun a=>Ui z0 z1 z2 a.1 a.2) RZ Ja LY)
noncomputable def Js {γ:Type} (F:Ti):Hd ctx γ:=hdl cv5.dec (fun a=>F a.1 a.2) cv4.enc
abbrev Ig:=Int→Int→Option ByteArray
inductive Ad where
 | c0 (n_0:Int) (x_1:Int) (i_6:Int) (out_5:(List Int))
noncomputable def Pn:Ad→LI
 | .c0 n_0 x_1 i_6 out_5=>(tdo Tryd.f56 464,[(0,[.one (.int .i64 n_0)]),(1,[.one (.int .u8 x_1)]),(5,[.one (.own 368)]),(6,[.one (.int .i64 i_6)])],[(368,.sl 5 out_5)])
noncomputable def Wi (k:Ad→Option ByteArray) (n_0:Int) (x_1:Int):Option ByteArray:=
 bif ((((decide (0≤n_0)) && (decide (n_0≤n_0))) && (decide (n_0≤9223372036854775807))) && (decide ((n_0.toNat*1)≤140737488355328))) then
 k (.c0 n_0 x_1 0 (List.replicate n_0.toNat (0:Int)))
 else none
noncomputable def Jg (k:Ad→Option ByteArray):Ad→Option ByteArray
 | .c0 n_0 x_1 i_6 out_5=>
 bif (decide (i_6<n_0)) then
  bif ((decide (0≤i_6)) && (decide (i_6<(out_5.length:Int)))) then
  k (.c0 n_0 x_1 (w64 (i_6+1)) (out_5.set i_6.toNat x_1))
  else none
 else
  some (ofBytes out_5)
noncomputable def Bd:Nat→Ad→Option ByteArray
 | 0,_=>none
 | m+1,s=>Jg (Bd m) s
noncomputable def XZ:Ig:=Wi (Bd gas)
theorem Qn:Tells ctx PP 56 cv8 cv9 (fun a=>XZ a.1 a.2):=
 have b:CutIs ctx PP 56 Tryd.f56 [] [] cv9 Pn (Jg):=fun _ s=>by cases s <;> kernel_rfl
 have e:EntryIs ctx PP 56 [] [] cv8 cv9 Pn (fun k a=>Wi k a.1 a.2):=fun _ a=>by kernel_rfl
 fn_ok hl_nil Tryd.func56 (fun s s' h=>by cases s;cases s';cases h;rfl) (fun _=>rfl) (fun _ _=>rfl) b e gas
noncomputable def Rn {γ:Type} (F:Ig):Hd ctx γ:=hdl cv8.dec (fun a=>F a.1 a.2) cv9.enc
abbrev Og:=SL01Cur→Int→Option (ByteArray×SL01Cur)
inductive Ed where
 | c0 (n_1:Int) (i_6:Int) (c_0c1:Int) (c_0c2:Int) (out_5:(List Int))
noncomputable def Tn:Ed→LI
 | .c0 n_1 i_6 c_0c1 c_0c2 out_5=>(tdo Tryd.f58 976,[(0,[.one (.ptr 0 0)]),(1,[.one (.int .i64 n_1)]),(5,[.one (.own 368)]),(6,[.one (.int .i64 i_6)])],[(0,.var [.csl,.int .i64 c_0c1,.int .i64 c_0c2]),(368,.sl 5 out_5)])
noncomputable def Xi (z0:Uc) (k:Ed→Option (ByteArray×SL01Cur)) (c_0:SL01Cur) (n_1:Int):Option (ByteArray×SL01Cur):=
 bif (decide (n_1 > 5000)) then
 k (.c0 5000 0 c_0.fI c_0.fH [])
 else
 k (.c0 n_1 0 c_0.fI c_0.fH [])
noncomputable def Pg (z0:Uc) (k:Ed→Option (ByteArray×SL01Cur)):Ed→Option (ByteArray×SL01Cur)
 | .c0 n_1 i_6 c_0c1 c_0c2 out_5=>
 bif (decide (i_6<n_1)) then
  (z0 ⟨(),c_0c1,c_0c2⟩).bind fun r0=>
  bif (decide (((out_5.length+1)*1)≤140737488355328)) then
  k (.c0 n_1 (w64 (i_6+1)) r0.2.fI r0.2.fH (out_5++[(w8 r0.1)]))
  else none
 else
  some ((ofBytes out_5),⟨(),c_0c1,c_0c2⟩)
noncomputable def Qb:Nat→Ed→Option (ByteArray×SL01Cur)
 | 0,_=>none
 | m+1,s=>Pg PZ (Qb m) s
noncomputable def La:Og:=Xi PZ (Qb gas)
theorem Un:Tells ctx PP 58 cv5 cv10 (fun a=>La a.1 a.2):=
 have b:∀ z0,CutIs ctx PP 58 Tryd.f58 [0] [(93,Ii z0)] cv10 Tn (Pg z0):=fun z0 _ s=>by cases s <;> kernel_rfl
 have e:∀ z0,EntryIs ctx PP 58 [0] [(93,Ii z0)] cv5 cv10 Tn (fun k a=>Xi z0 k a.1 a.2):=fun z0 _ a=>by kernel_rfl
 fn_ok (hc Dn hl_nil) Tryd.func58 (fun s s' h=>by cases s;cases s';cases h;rfl) (fun _=>rfl) (fun _ _=>rfl) (b PZ) (e PZ) gas
noncomputable def Wn {γ:Type} (F:Og):Hd ctx γ:=hdl cv5.dec (fun a=>F a.1 a.2) cv10.enc
abbrev Yi:=Unit→Option (Int×ByteArray)
noncomputable def Zi (z0:Fg) (z1:Xc) (z2:Ti) (z3:QZ) (z4:Ig) (z5:Og) (code_0:Unit):Option (Int×ByteArray):=
 (z0 ()).bind fun r0=>
 (z1 ⟨(),r0.fI,r0.fH⟩ 8).bind fun r1=>
 bif r1.1 then
 (z2 ⟨(),r1.2.fI,r1.2.fH⟩ 4).bind fun r2=>
 (z3 ⟨(),r2.2.fI,r2.2.fH⟩ 2).bind fun r3=>
 (z4 (w64 (100+r3.1)) 65).bind fun r4=>
 some (r2.1,r4)
 else
 (z2 ⟨(),r1.2.fI,r1.2.fH⟩ 4).bind fun r5=>
 (z3 ⟨(),r5.2.fI,r5.2.fH⟩ 9).bind fun r6=>
 (z5 ⟨(),r6.2.fI,r6.2.fH⟩ r6.1).bind fun r7=>
 some (r5.1,r7.1)
noncomputable def Jd:Yi:=Zi Ea RZ Yc LY XZ La
theorem Ls:Tells ctx PP 10 cv0 cv11 (fun a=>Jd a):=fn_ok0 (hc Ym (hc Qi (hc Gs (hc Fa (hc Qn (hc Un hl_nil)))))) Tryd.func10 ((fun z0 z1 z2 z3 z4 z5 a=>by kernel_rfl:∀ z0 z1 z2 z3 z4 z5,EntryIs0 ctx PP 10 [] [(53,Zm z0),(54,Ri z1),(55,Js z2),(57,Ia z3),(56,Rn z4),(58,Wn z5)] cv0 cv11 fun a=>Zi z0 z1 z2 z3 z4 z5 a) Ea RZ Yc LY XZ La)
noncomputable def Ns {γ:Type} (F:Yi):Hd ctx γ:=hdl cv0.dec (fun a=>F a) cv11.enc
abbrev Aj:=Option (List Int)
noncomputable def Xn  : Option (List Int):=
 some [1779033703,3144134277,1013904242,2773480762,1359893119,2600822924,528734635,1541459225]
noncomputable def Qg:Aj:=Xn
theorem Qs:Tells ctx PP 107 cv12 cv13 (fun _=>Qg):=fn_ok0 hl_nil Tryd.func107 (fun _=>by kernel_rfl:EntryIs0 ctx PP 107 [] [] cv12 cv13 fun _=>Xn)
noncomputable def Us {γ:Type} (F:Aj):Hd ctx γ:=hdl cv12.dec (fun _=>F) cv13.enc
abbrev Bj:=Int→Option ByteArray
noncomputable def Cj (n_0:Int):Option ByteArray:=
 bif ((((decide (0≤n_0)) && (decide (n_0≤n_0))) && (decide (n_0≤9223372036854775807))) && (decide ((n_0.toNat*1)≤140737488355328))) then
 some (ofBytes (List.replicate n_0.toNat (0:Int)))
 else none
noncomputable def Ld:Bj:=Cj
theorem Vs:Tells ctx PP 92 cv14 cv9 (fun a=>Ld a):=fn_ok0 hl_nil Tryd.func92 (fun a=>by kernel_rfl:EntryIs0 ctx PP 92 [] [] cv14 cv9 fun a=>Cj a)
noncomputable def Ws {γ:Type} (F:Bj):Hd ctx γ:=hdl cv14.dec (fun a=>F a) cv9.enc
abbrev Md:=Int→Option ByteArray
noncomputable def Ej (n_0:Int):Option ByteArray:=
 some (ofBytes [(w8 (Int.fdiv n_0 (2 ^ (Min.min (24:Int).toNat (IntKind.bits IntKind.u32))))),(w8 (Int.fdiv n_0 (2 ^ (Min.min (16:Int).toNat (IntKind.bits IntKind.u32))))),(w8 (Int.fdiv n_0 (2 ^ (Min.min (8:Int).toNat (IntKind.bits IntKind.u32))))),(w8 n_0)])
noncomputable def UZ:Md:=Ej
theorem Yn:Tells ctx PP 134 cv15 cv9 (fun a=>UZ a):=fn_ok0 hl_nil Tryd.func134 (fun a=>by kernel_rfl:EntryIs0 ctx PP 134 [] [] cv15 cv9 fun a=>Ej a)
noncomputable def Fj {γ:Type} (F:Md):Hd ctx γ:=hdl cv15.dec (fun a=>F a) cv9.enc
abbrev Gj:=Int→Option ByteArray
noncomputable def Ij (z0:Md) (n_0:Int):Option ByteArray:=
 (z0 (w32 (Int.fdiv n_0 (2 ^ (Min.min (32:Int).toNat (IntKind.bits IntKind.i64)))))).bind fun r0=>
 (z0 (w32 n_0)).bind fun r1=>
 bif (decide ((r0.size+r1.size)≤9223372036854775807)) then
 some (r0++r1)
 else none
noncomputable def Qd:Gj:=Ij UZ
theorem Dt:Tells ctx PP 133 cv14 cv9 (fun a=>Qd a):=fn_ok0 (hc Yn hl_nil) Tryd.func133 ((fun z0 a=>by kernel_rfl:∀ z0,EntryIs0 ctx PP 133 [] [(134,Fj z0)] cv14 cv9 fun a=>Ij z0 a) UZ)
noncomputable def Et {γ:Type} (F:Gj):Hd ctx γ:=hdl cv14.dec (fun a=>F a) cv9.enc
abbrev Jj:=Int→Option ByteArray
noncomputable def Lj (z0:Bj) (z1:Gj) (count_0:Int):Option ByteArray:=
 (z0 ((w64 (119 - (count_0.tmod 64))).tmod 64)).bind fun r0=>
 bif (decide (((⟨#[128]⟩:ByteArray).size+r0.size)≤9223372036854775807)) then
 (z1 (w64 (8*count_0))).bind fun r1=>
 bif (decide ((((⟨#[128]⟩:ByteArray)++r0).size+r1.size)≤9223372036854775807)) then
 some (((⟨#[128]⟩:ByteArray)++r0)++r1)
 else none
 else none
noncomputable def Td:Jj:=Lj Ld Qd
theorem Gt:Tells ctx PP 108 cv14 cv9 (fun a=>Td a):=fn_ok0 (hc Vs (hc Dt hl_nil)) Tryd.func108 ((fun z0 z1 a=>by kernel_rfl:∀ z0 z1,EntryIs0 ctx PP 108 [] [(92,Ws z0),(133,Et z1)] cv14 cv9 fun a=>Lj z0 z1 a) Ld Qd)
noncomputable def Ht {γ:Type} (F:Jj):Hd ctx γ:=hdl cv14.dec (fun a=>F a) cv9.enc
abbrev Nj:=Int→Int→Option Int
noncomputable def Oj (x_0:Int) (k_1:Int):Option Int:=
 bif (decide (0≤(wu64 (32 - (wu64 (((BitVec.toNat ((BitVec.ofInt (IntKind.bits IntKind.u64) (wu64 k_1)) &&& (BitVec.ofInt (IntKind.bits IntKind.u64) 31))):Nat):Int)))))) then
 some (w32 (((BitVec.toNat ((BitVec.ofInt (IntKind.bits IntKind.u32) (w32 (x_0*(2 ^ (Min.min (wu64 (((BitVec.toNat ((BitVec.ofInt (IntKind.bits IntKind.u64) (wu64 k_1)) &&& (BitVec.ofInt (IntKind.bits IntKind.u64) 31))):Nat):Int)).toNat (IntKind.bits IntKind.u32)))))) ||| (BitVec.ofInt (IntKind.bits IntKind.u32) (Int.fdiv x_0 (2 ^ (Min.min (wu64 (32 - (wu64 (((BitVec.toNat ((BitVec.ofInt (IntKind.bits IntKind.u64) (wu64 k_1)) &&& (BitVec.ofInt (IntKind.bits IntKind.u64) 31))):Nat):Int)))).toNat (IntKind.bits IntKind.u32))))))):Nat):Int))
 else none
noncomputable def Ud:Nj:=Oj
theorem Jt:Tells ctx PP 163 cv16 cv15 (fun a=>Ud a.1 a.2):=fn_ok0 hl_nil Tryd.func163 (fun a=>by kernel_rfl:EntryIs0 ctx PP 163 [] [] cv16 cv15 fun a=>Oj a.1 a.2)
noncomputable def Kt {γ:Type} (F:Nj):Hd ctx γ:=hdl cv16.dec (fun a=>F a.1 a.2) cv15.enc
abbrev Ub:=Int→Int→Option Int
noncomputable def Pj (z0:Nj) (x_0:Int) (n_1:Int):Option Int:=
 (z0 x_0 (w64 (0 - n_1))).bind fun r0=>
 some r0
noncomputable def JY:Ub:=Pj Ud
theorem Zn:Tells ctx PP 154 cv16 cv15 (fun a=>JY a.1 a.2):=fn_ok0 (hc Jt hl_nil) Tryd.func154 ((fun z0 a=>by kernel_rfl:∀ z0,EntryIs0 ctx PP 154 [] [(163,Kt z0)] cv16 cv15 fun a=>Pj z0 a.1 a.2) Ud)
noncomputable def Ug {γ:Type} (F:Ub):Hd ctx γ:=hdl cv16.dec (fun a=>F a.1 a.2) cv15.enc
abbrev Vg:=ByteArray→Option (List Int)
inductive Vd where
 | c0 (block_0:ByteArray) (v_11:Int) (v_2r0:(List Int)) (w_3r0:(List Int))
 | c1 (block_0:ByteArray) (i_4:Int) (v_11:Int) (v_14:Int) (v_2r0:(List Int)) (w_3r0:(List Int))
 | c2 (t_6:Int) (v_2r0:(List Int)) (w_3r0:(List Int))
noncomputable def Bo:Vd→LI
 | .c0 block_0 v_11 v_2r0 w_3r0=>(tdo Tryd.f153 232,[(0,[.one (.str block_0)]),(2,[.one (.ptr 128 0)]),(3,[.one (.ptr 192 0)]),(11,[.one (.int .i64 v_11)])],[(128,.ar 114 v_2r0),(192,.ar 114 w_3r0)])
 | .c1 block_0 i_4 v_11 v_14 v_2r0 w_3r0=>(tdo Tryd.f153 59800,[(0,[.one (.str block_0)]),(2,[.one (.ptr 128 0)]),(3,[.one (.ptr 192 0)]),(4,[.one (.int .i64 i_4)]),(11,[.one (.int .i64 v_11)]),(14,[.one (.int .i64 v_14)])],[(128,.ar 114 v_2r0),(192,.ar 114 w_3r0)])
 | .c2 t_6 v_2r0 w_3r0=>(tdo Tryd.f153 976,[(2,[.one (.ptr 128 0)]),(3,[.one (.ptr 192 0)]),(6,[.one (.int .i64 t_6)])],[(128,.ar 114 v_2r0),(192,.ar 114 w_3r0)])
noncomputable def Qj (z0:Ub) (k:Vd→Option (List Int)) (block_0:ByteArray):Option (List Int):=
 k (.c0 block_0 0 (List.replicate 64 (0:Int)) (List.replicate 64 (0:Int)))
noncomputable def YZ (z0:Ub) (k:Vd→Option (List Int)):Vd→Option (List Int)
 | .c0 block_0 v_11 v_2r0 w_3r0=>
 bif (decide (v_11<16)) then
  k (.c1 block_0 v_11 v_11 0 v_2r0 w_3r0)
 else
  k (.c2 16 v_2r0 w_3r0)
 | .c1 block_0 i_4 v_11 v_14 v_2r0 w_3r0=>
 bif (decide (v_14<4)) then
  bif (Nat.beq 64 w_3r0.length) then
  bif ((decide (0≤i_4)) && (decide (i_4<(w_3r0.length:Int)))) then
  bif ((decide (0≤(w64 ((w64 (4*i_4))+v_14)))) && (decide ((w64 ((w64 (4*i_4))+v_14))<(block_0.size:Int)))) then
  bif (Nat.beq 64 w_3r0.length) then
  bif ((decide (0≤i_4)) && (decide (i_4<(w_3r0.length:Int)))) then
  k (.c1 block_0 i_4 v_11 (w64 (v_14+1)) v_2r0 (w_3r0.set i_4.toNat (w32 (((BitVec.toNat ((BitVec.ofInt (IntKind.bits IntKind.u32) (w32 ((w_3r0.getD i_4.toNat 0)*(2 ^ (Min.min (8:Int).toNat (IntKind.bits IntKind.u32)))))) ||| (BitVec.ofInt (IntKind.bits IntKind.u32) (w32 (bt block_0 (w64 ((w64 (4*i_4))+v_14))))))):Nat):Int))))
  else none
  else none
  else none
  else none
  else none
 else
  k (.c0 block_0 (w64 (v_11+1)) v_2r0 w_3r0)
 | .c2 t_6 v_2r0 w_3r0=>
 bif (decide (t_6<64)) then
  bif (Nat.beq 64 w_3r0.length) then
  bif ((decide (0≤(w64 (t_6 - 15)))) && (decide ((w64 (t_6 - 15))<(w_3r0.length:Int)))) then
  bif (Nat.beq 64 w_3r0.length) then
  bif ((decide (0≤(w64 (t_6 - 2)))) && (decide ((w64 (t_6 - 2))<(w_3r0.length:Int)))) then
  (z0 (w_3r0.getD (w64 (t_6 - 15)).toNat 0) 7).bind fun r0=>
  (z0 (w_3r0.getD (w64 (t_6 - 15)).toNat 0) 18).bind fun r1=>
  (z0 (w_3r0.getD (w64 (t_6 - 2)).toNat 0) 17).bind fun r2=>
  (z0 (w_3r0.getD (w64 (t_6 - 2)).toNat 0) 19).bind fun r3=>
  bif (Nat.beq 64 w_3r0.length) then
  bif ((decide (0≤(w64 (t_6 - 7)))) && (decide ((w64 (t_6 - 7))<(w_3r0.length:Int)))) then
  bif (Nat.beq 64 w_3r0.length) then
  bif ((decide (0≤(w64 (t_6 - 16)))) && (decide ((w64 (t_6 - 16))<(w_3r0.length:Int)))) then
  bif (Nat.beq 64 w_3r0.length) then
  bif ((decide (0≤t_6)) && (decide (t_6<(w_3r0.length:Int)))) then
  k (.c2 (w64 (t_6+1)) v_2r0 (w_3r0.set t_6.toNat (w32 ((w32 ((w32 ((w32 (((BitVec.toNat ((BitVec.ofInt (IntKind.bits IntKind.u32) (w32 (((BitVec.toNat ((BitVec.ofInt (IntKind.bits IntKind.u32) r2) ^^^ (BitVec.ofInt (IntKind.bits IntKind.u32) r3))):Nat):Int))) ^^^ (BitVec.ofInt (IntKind.bits IntKind.u32) (Int.fdiv (w_3r0.getD (w64 (t_6 - 2)).toNat 0) (2 ^ (Min.min (10:Int).toNat (IntKind.bits IntKind.u32))))))):Nat):Int))+(w_3r0.getD (w64 (t_6 - 7)).toNat 0)))+(w32 (((BitVec.toNat ((BitVec.ofInt (IntKind.bits IntKind.u32) (w32 (((BitVec.toNat ((BitVec.ofInt (IntKind.bits IntKind.u32) r0) ^^^ (BitVec.ofInt (IntKind.bits IntKind.u32) r1))):Nat):Int))) ^^^ (BitVec.ofInt (IntKind.bits IntKind.u32) (Int.fdiv (w_3r0.getD (w64 (t_6 - 15)).toNat 0) (2 ^ (Min.min (3:Int).toNat (IntKind.bits IntKind.u32))))))):Nat):Int))))+(w_3r0.getD (w64 (t_6 - 16)).toNat 0)))))
  else none
  else none
  else none
  else none
  else none
  else none
  else none
  else none
  else none
  else none
 else
  bif (Nat.beq 64 w_3r0.length) then
  bif ((Nat.beq w_3r0.length v_2r0.length) && (Nat.beq 64 w_3r0.length)) then
  bif ((Nat.beq 64 w_3r0.length) && true) then
  some w_3r0
  else none
  else none
  else none
noncomputable def TY:Nat→Vd→Option (List Int)
 | 0,_=>none
 | m+1,s=>YZ JY (TY m) s
noncomputable def Na:Vg:=Qj JY (TY gas)
theorem Ot:Tells ctx PP 153 cv9 cv13 (fun a=>Na a):=
 have b:∀ z0,CutIs ctx PP 153 Tryd.f153 [] [(154,Ug z0)] cv13 Bo (YZ z0):=fun z0 _ s=>by cases s <;> kernel_rfl
 have e:∀ z0,EntryIs ctx PP 153 [] [(154,Ug z0)] cv9 cv13 Bo (fun k a=>Qj z0 k a):=fun z0 _ a=>by kernel_rfl
 fn_ok (hc Zn hl_nil) Tryd.func153 (fun s s' h=>by cases s <;> cases s' <;> first | (cases h;done) | (cases h;rfl) | exact (rg_ne h (by kernel_rfl)).elim) (fun _=>rfl) (fun _ _=>rfl) (b JY) (e JY) gas
noncomputable def Eo {γ:Type} (F:Vg):Hd ctx γ:=hdl cv9.dec (fun a=>F a) cv13.enc
abbrev Xg:=(List Int)→ByteArray→Option (List Int)
inductive Xd where
 | c0 (a_6:Int) (b_7:Int) (c_8:Int) (d_9:Int) (e_10:Int) (f_11:Int) (g_12:Int) (h_13:Int) (v_37:Int) (state_2r0:(List Int)) (v_4r0:(List Int)) (w_5r0:(List Int))
 | c1 (v_109:Int) (state_2r0:(List Int)) (v_4r0:(List Int)) (out_17r0:(List Int))
noncomputable def Ho:Xd→LI
 | .c0 a_6 b_7 c_8 d_9 e_10 f_11 g_12 h_13 v_37 state_2r0 v_4r0 w_5r0=>(tdo Tryd.f132 488,[(2,[.one (.ptr 128 0)]),(4,[.one (.ptr 256 0)]),(5,[.one (.ptr 320 0)]),(6,[.one (.int .u32 a_6)]),(7,[.one (.int .u32 b_7)]),(8,[.one (.int .u32 c_8)]),(9,[.one (.int .u32 d_9)]),(10,[.one (.int .u32 e_10)]),(11,[.one (.int .u32 f_11)]),(12,[.one (.int .u32 g_12)]),(13,[.one (.int .u32 h_13)]),(37,[.one (.int .i64 v_37)])],[(128,.ar 114 state_2r0),(256,.ar 114 v_4r0),(320,.ar 114 w_5r0)])
 | .c1 v_109 state_2r0 v_4r0 out_17r0=>(tdo Tryd.f132 2024,[(2,[.one (.ptr 128 0)]),(4,[.one (.ptr 256 0)]),(17,[.one (.ptr 1088 0)]),(109,[.one (.int .i64 v_109)])],[(128,.ar 114 state_2r0),(256,.ar 114 v_4r0),(1088,.ar 114 out_17r0)])
noncomputable def Rj (z0:Vg) (z1:Ub) (k:Xd→Option (List Int)) (state_0:(List Int)) (block_1:ByteArray):Option (List Int):=
 (z0 block_1).bind fun r0=>
 bif ((Nat.beq r0.length (List.replicate 64 (0:Int)).length) && (Nat.beq 64 r0.length)) then
 bif (Nat.beq 8 state_0.length) then
 bif ((decide ((0:Int)≤(0:Int))) && (decide (0<(state_0.length:Int)))) then
 bif (Nat.beq 8 state_0.length) then
 bif ((decide ((0:Int)≤(1:Int))) && (decide (1<(state_0.length:Int)))) then
 bif (Nat.beq 8 state_0.length) then
 bif ((decide ((0:Int)≤(2:Int))) && (decide (2<(state_0.length:Int)))) then
 bif (Nat.beq 8 state_0.length) then
 bif ((decide ((0:Int)≤(3:Int))) && (decide (3<(state_0.length:Int)))) then
 bif (Nat.beq 8 state_0.length) then
 bif ((decide ((0:Int)≤(4:Int))) && (decide (4<(state_0.length:Int)))) then
 bif (Nat.beq 8 state_0.length) then
 bif ((decide ((0:Int)≤(5:Int))) && (decide (5<(state_0.length:Int)))) then
 bif (Nat.beq 8 state_0.length) then
 bif ((decide ((0:Int)≤(6:Int))) && (decide (6<(state_0.length:Int)))) then
 bif (Nat.beq 8 state_0.length) then
 bif ((decide ((0:Int)≤(7:Int))) && (decide (7<(state_0.length:Int)))) then
 k (.c0 (state_0.getD (0:Int).toNat 0) (state_0.getD (1:Int).toNat 0) (state_0.getD (2:Int).toNat 0) (state_0.getD (3:Int).toNat 0) (state_0.getD (4:Int).toNat 0) (state_0.getD (5:Int).toNat 0) (state_0.getD (6:Int).toNat 0) (state_0.getD (7:Int).toNat 0) 0 state_0 [0,0,0,0,0,0,0,0] r0)
 else none
 else none
 else none
 else none
 else none
 else none
 else none
 else none
 else none
 else none
 else none
 else none
 else none
 else none
 else none
 else none
 else none
noncomputable def Vb (z0:Vg) (z1:Ub) (k:Xd→Option (List Int)):Xd→Option (List Int)
 | .c0 a_6 b_7 c_8 d_9 e_10 f_11 g_12 h_13 v_37 state_2r0 v_4r0 w_5r0=>
 bif (decide (v_37<64)) then
  (z1 e_10 6).bind fun r0=>
  (z1 e_10 11).bind fun r1=>
  (z1 e_10 25).bind fun r2=>
  bif ((decide (0≤v_37)) && (decide (v_37<((64:Nat):Int)))) then
  bif (Nat.blt v_37.toNat 64) then
  bif (Nat.beq 64 w_5r0.length) then
  bif ((decide (0≤v_37)) && (decide (v_37<(w_5r0.length:Int)))) then
  (z1 a_6 2).bind fun r3=>
  (z1 a_6 13).bind fun r4=>
  (z1 a_6 22).bind fun r5=>
  k (.c0 (w32 ((w32 ((w32 ((w32 ((w32 (h_13+(w32 (((BitVec.toNat ((BitVec.ofInt (IntKind.bits IntKind.u32) (w32 (((BitVec.toNat ((BitVec.ofInt (IntKind.bits IntKind.u32) r0) ^^^ (BitVec.ofInt (IntKind.bits IntKind.u32) r1))):Nat):Int))) ^^^ (BitVec.ofInt (IntKind.bits IntKind.u32) r2))):Nat):Int))))+(w32 (((BitVec.toNat ((BitVec.ofInt (IntKind.bits IntKind.u32) (w32 (((BitVec.toNat ((BitVec.ofInt (IntKind.bits IntKind.u32) e_10) &&& (BitVec.ofInt (IntKind.bits IntKind.u32) f_11))):Nat):Int))) ^^^ (BitVec.ofInt (IntKind.bits IntKind.u32) (w32 (((BitVec.toNat ((BitVec.ofInt (IntKind.bits IntKind.u32) (w32 (((BitVec.toNat ((BitVec.ofInt (IntKind.bits IntKind.u32) (ite ((IntKind.signed IntKind.u32)=true) (-(1:Int)) (IntKind.max IntKind.u32))) ^^^ (BitVec.ofInt (IntKind.bits IntKind.u32) e_10))):Nat):Int))) &&& (BitVec.ofInt (IntKind.bits IntKind.u32) g_12))):Nat):Int))))):Nat):Int))))+([(1116352408:Int),(1899447441:Int),(3049323471:Int),(3921009573:Int),(961987163:Int),(1508970993:Int),(2453635748:Int),(2870763221:Int),(3624381080:Int),(310598401:Int),(607225278:Int),(1426881987:Int),(1925078388:Int),(2162078206:Int),(2614888103:Int),(3248222580:Int),(3835390401:Int),(4022224774:Int),(264347078:Int),(604807628:Int),(770255983:Int),(1249150122:Int),(1555081692:Int),(1996064986:Int),(2554220882:Int),(2821834349:Int),(2952996808:Int),(3210313671:Int),(3336571891:Int),(3584528711:Int),(113926993:Int),(338241895:Int),(666307205:Int),(773529912:Int),(1294757372:Int),(1396182291:Int),(1695183700:Int),(1986661051:Int),(2177026350:Int),(2456956037:Int),(2730485921:Int),(2820302411:Int),(3259730800:Int),(3345764771:Int),(3516065817:Int),(3600352804:Int),(4094571909:Int),(275423344:Int),(430227734:Int),(506948616:Int),(659060556:Int),(883997877:Int),(958139571:Int),(1322822218:Int),(1537002063:Int),(1747873779:Int),(1955562222:Int),(2024104815:Int),(2227730452:Int),(2361852424:Int),(2428436474:Int),(2756734187:Int),(3204031479:Int),(3329325298:Int)].getD v_37.toNat 0)))+(w_5r0.getD v_37.toNat 0)))+(w32 ((w32 (((BitVec.toNat ((BitVec.ofInt (IntKind.bits IntKind.u32) (w32 (((BitVec.toNat ((BitVec.ofInt (IntKind.bits IntKind.u32) r3) ^^^ (BitVec.ofInt (IntKind.bits IntKind.u32) r4))):Nat):Int))) ^^^ (BitVec.ofInt (IntKind.bits IntKind.u32) r5))):Nat):Int))+(w32 (((BitVec.toNat ((BitVec.ofInt (IntKind.bits IntKind.u32) (w32 (((BitVec.toNat ((BitVec.ofInt (IntKind.bits IntKind.u32) (w32 (((BitVec.toNat ((BitVec.ofInt (IntKind.bits IntKind.u32) a_6) &&& (BitVec.ofInt (IntKind.bits IntKind.u32) b_7))):Nat):Int))) ^^^ (BitVec.ofInt (IntKind.bits IntKind.u32) (w32 (((BitVec.toNat ((BitVec.ofInt (IntKind.bits IntKind.u32) a_6) &&& (BitVec.ofInt (IntKind.bits IntKind.u32) c_8))):Nat):Int))))):Nat):Int))) ^^^ (BitVec.ofInt (IntKind.bits IntKind.u32) (w32 (((BitVec.toNat ((BitVec.ofInt (IntKind.bits IntKind.u32) b_7) &&& (BitVec.ofInt (IntKind.bits IntKind.u32) c_8))):Nat):Int))))):Nat):Int)))))) a_6 b_7 c_8 (w32 (d_9+(w32 ((w32 ((w32 ((w32 (h_13+(w32 (((BitVec.toNat ((BitVec.ofInt (IntKind.bits IntKind.u32) (w32 (((BitVec.toNat ((BitVec.ofInt (IntKind.bits IntKind.u32) r0) ^^^ (BitVec.ofInt (IntKind.bits IntKind.u32) r1))):Nat):Int))) ^^^ (BitVec.ofInt (IntKind.bits IntKind.u32) r2))):Nat):Int))))+(w32 (((BitVec.toNat ((BitVec.ofInt (IntKind.bits IntKind.u32) (w32 (((BitVec.toNat ((BitVec.ofInt (IntKind.bits IntKind.u32) e_10) &&& (BitVec.ofInt (IntKind.bits IntKind.u32) f_11))):Nat):Int))) ^^^ (BitVec.ofInt (IntKind.bits IntKind.u32) (w32 (((BitVec.toNat ((BitVec.ofInt (IntKind.bits IntKind.u32) (w32 (((BitVec.toNat ((BitVec.ofInt (IntKind.bits IntKind.u32) (ite ((IntKind.signed IntKind.u32)=true) (-(1:Int)) (IntKind.max IntKind.u32))) ^^^ (BitVec.ofInt (IntKind.bits IntKind.u32) e_10))):Nat):Int))) &&& (BitVec.ofInt (IntKind.bits IntKind.u32) g_12))):Nat):Int))))):Nat):Int))))+([(1116352408:Int),(1899447441:Int),(3049323471:Int),(3921009573:Int),(961987163:Int),(1508970993:Int),(2453635748:Int),(2870763221:Int),(3624381080:Int),(310598401:Int),(607225278:Int),(1426881987:Int),(1925078388:Int),(2162078206:Int),(2614888103:Int),(3248222580:Int),(3835390401:Int),(4022224774:Int),(264347078:Int),(604807628:Int),(770255983:Int),(1249150122:Int),(1555081692:Int),(1996064986:Int),(2554220882:Int),(2821834349:Int),(2952996808:Int),(3210313671:Int),(3336571891:Int),(3584528711:Int),(113926993:Int),(338241895:Int),(666307205:Int),(773529912:Int),(1294757372:Int),(1396182291:Int),(1695183700:Int),(1986661051:Int),(2177026350:Int),(2456956037:Int),(2730485921:Int),(2820302411:Int),(3259730800:Int),(3345764771:Int),(3516065817:Int),(3600352804:Int),(4094571909:Int),(275423344:Int),(430227734:Int),(506948616:Int),(659060556:Int),(883997877:Int),(958139571:Int),(1322822218:Int),(1537002063:Int),(1747873779:Int),(1955562222:Int),(2024104815:Int),(2227730452:Int),(2361852424:Int),(2428436474:Int),(2756734187:Int),(3204031479:Int),(3329325298:Int)].getD v_37.toNat 0)))+(w_5r0.getD v_37.toNat 0))))) e_10 f_11 g_12 (w64 (v_37+1)) state_2r0 v_4r0 w_5r0)
  else none
  else none
  else none
  else none
 else
  k (.c1 0 state_2r0 v_4r0 [a_6,b_7,c_8,d_9,e_10,f_11,g_12,h_13])
 | .c1 v_109 state_2r0 v_4r0 out_17r0=>
 bif (decide (v_109<8)) then
  bif (Nat.beq 8 out_17r0.length) then
  bif ((decide (0≤v_109)) && (decide (v_109<(out_17r0.length:Int)))) then
  bif (Nat.beq 8 state_2r0.length) then
  bif ((decide (0≤v_109)) && (decide (v_109<(state_2r0.length:Int)))) then
  bif (Nat.beq 8 out_17r0.length) then
  bif ((decide (0≤v_109)) && (decide (v_109<(out_17r0.length:Int)))) then
  k (.c1 (w64 (v_109+1)) state_2r0 v_4r0 (out_17r0.set v_109.toNat (w32 ((out_17r0.getD v_109.toNat 0)+(state_2r0.getD v_109.toNat 0)))))
  else none
  else none
  else none
  else none
  else none
  else none
 else
  bif (Nat.beq 8 out_17r0.length) then
  bif ((Nat.beq out_17r0.length v_4r0.length) && (Nat.beq 8 out_17r0.length)) then
  bif ((Nat.beq 8 out_17r0.length) && true) then
  some out_17r0
  else none
  else none
  else none
noncomputable def DZ:Nat→Xd→Option (List Int)
 | 0,_=>none
 | m+1,s=>Vb Na JY (DZ m) s
noncomputable def Oa:Xg:=Rj Na JY (DZ gas)
theorem Rt:Tells ctx PP 132 cv17 cv13 (fun a=>Oa a.1 a.2):=
 have b:∀ z0 z1,CutIs ctx PP 132 Tryd.f132 [] [(153,Eo z0),(154,Ug z1)] cv13 Ho (Vb z0 z1):=fun z0 z1 _ s=>by cases s <;> kernel_rfl
 have e:∀ z0 z1,EntryIs ctx PP 132 [] [(153,Eo z0),(154,Ug z1)] cv17 cv13 Ho (fun k a=>Rj z0 z1 k a.1 a.2):=fun z0 z1 _ a=>by kernel_rfl
 fn_ok (hc Ot (hc Zn hl_nil)) Tryd.func132 (fun s s' h=>by cases s <;> cases s' <;> first | (cases h;done) | (cases h;rfl) | exact (rg_ne h (by kernel_rfl)).elim) (fun _=>rfl) (fun _ _=>rfl) (b Na JY) (e Na JY) gas
noncomputable def Io {γ:Type} (F:Xg):Hd ctx γ:=hdl cv17.dec (fun a=>F a.1 a.2) cv13.enc
abbrev Sj:=(List Int)→ByteArray→Option ((List Int)×ByteArray)
inductive Yd where
 | c0 (s_1:ByteArray) (state_2r0:(List Int)) (v_4r0:(List Int))
noncomputable def Jo:Yd→LI
 | .c0 s_1 state_2r0 v_4r0=>(tdo Tryd.f106 96,[(1,[.one (.str s_1)]),(2,[.one (.ptr 128 0)]),(4,[.one (.ptr 256 0)])],[(128,.ar 114 state_2r0),(256,.ar 114 v_4r0)])
noncomputable def Tj (z0:Xg) (k:Yd→Option ((List Int)×ByteArray)) (state_0:(List Int)) (s_1:ByteArray):Option ((List Int)×ByteArray):=
 k (.c0 s_1 state_0 [0,0,0,0,0,0,0,0])
noncomputable def Yg (z0:Xg) (k:Yd→Option ((List Int)×ByteArray)):Yd→Option ((List Int)×ByteArray)
 | .c0 s_1 state_2r0 v_4r0=>
 bif (decide ((s_1.size:Int)≥64)) then
  bif (Nat.beq 8 state_2r0.length) then
  bif ((decide ((0:Int)≤(64:Int))) && (decide (64≤(s_1.size:Int)))) then
  (z0 state_2r0 (s_1.extract 0 (64:Int).toNat)).bind fun r0=>
  bif ((Nat.beq r0.length state_2r0.length) && (Nat.beq 8 r0.length)) then
  bif ((decide ((0:Int)≤(64:Int))) && (decide (64≤(s_1.size:Int)))) then
  k (.c0 (s_1.extract (64:Int).toNat s_1.size) r0 v_4r0)
  else none
  else none
  else none
  else none
 else
  bif (Nat.beq 8 state_2r0.length) then
  bif ((Nat.beq state_2r0.length v_4r0.length) && (Nat.beq 8 state_2r0.length)) then
  bif ((Nat.beq 8 state_2r0.length) && true) then
  some (state_2r0,s_1)
  else none
  else none
  else none
noncomputable def Zd:Nat→Yd→Option ((List Int)×ByteArray)
 | 0,_=>none
 | m+1,s=>Yg Oa (Zd m) s
noncomputable def Ae:Sj:=Tj Oa (Zd gas)
theorem Tt:Tells ctx PP 106 cv17 cv17 (fun a=>Ae a.1 a.2):=
 have b:∀ z0,CutIs ctx PP 106 Tryd.f106 [] [(132,Io z0)] cv17 Jo (Yg z0):=fun z0 _ s=>by cases s <;> kernel_rfl
 have e:∀ z0,EntryIs ctx PP 106 [] [(132,Io z0)] cv17 cv17 Jo (fun k a=>Tj z0 k a.1 a.2):=fun z0 _ a=>by kernel_rfl
 fn_ok (hc Rt hl_nil) Tryd.func106 (fun s s' h=>by cases s;cases s';cases h;rfl) (fun _=>rfl) (fun _ _=>rfl) (b Oa) (e Oa) gas
noncomputable def Ut {γ:Type} (F:Sj):Hd ctx γ:=hdl cv17.dec (fun a=>F a.1 a.2) cv17.enc
abbrev Uj:=(List Int)→Option ByteArray
inductive Ce where
 | c0 (out_3:ByteArray) (v_6:(List Int)) (v_7:Int)
noncomputable def Ko:Ce→LI
 | .c0 out_3 v_6 v_7=>(tdo Tryd.f109 232,[(3,[.one (.str out_3)]),(6,[.arr 114 v_6]),(7,[.one (.int .i64 v_7)])],[])
noncomputable def Vj (z0:Md) (k:Ce→Option ByteArray) (state_0:(List Int)):Option ByteArray:=
 bif (Nat.beq 8 state_0.length) then
 k (.c0 ⟨#[]⟩ state_0 0)
 else none
noncomputable def Zg (z0:Md) (k:Ce→Option ByteArray):Ce→Option ByteArray
 | .c0 out_3 v_6 v_7=>
 bif (decide (v_7<8)) then
  bif (Nat.beq 8 v_6.length) then
  bif ((decide (0≤v_7)) && (decide (v_7<(v_6.length:Int)))) then
  (z0 (v_6.getD v_7.toNat 0)).bind fun r0=>
  bif (decide ((out_3.size+r0.size)≤9223372036854775807)) then
  k (.c0 (out_3++r0) v_6 (w64 (v_7+1)))
  else none
  else none
  else none
 else
  some out_3
noncomputable def Ee:Nat→Ce→Option ByteArray
 | 0,_=>none
 | m+1,s=>Zg UZ (Ee m) s
noncomputable def Fe:Uj:=Vj UZ (Ee gas)
theorem Vt:Tells ctx PP 109 cv13 cv9 (fun a=>Fe a):=
 have b:∀ z0,CutIs ctx PP 109 Tryd.f109 [] [(134,Fj z0)] cv9 Ko (Zg z0):=fun z0 _ s=>by cases s <;> kernel_rfl
 have e:∀ z0,EntryIs ctx PP 109 [] [(134,Fj z0)] cv13 cv9 Ko (fun k a=>Vj z0 k a):=fun z0 _ a=>by kernel_rfl
 fn_ok (hc Yn hl_nil) Tryd.func109 (fun s s' h=>by cases s;cases s';cases h;rfl) (fun _=>rfl) (fun _ _=>rfl) (b UZ) (e UZ) gas
noncomputable def Xt {γ:Type} (F:Uj):Hd ctx γ:=hdl cv13.dec (fun a=>F a) cv9.enc
abbrev Wj:=ByteArray→Option ByteArray
noncomputable def Xj (z0:Aj) (z1:Jj) (z2:Sj) (z3:Uj) (s_0:ByteArray):Option ByteArray:=
 z0.bind fun r0=>
 (z1 (s_0.size:Int)).bind fun r1=>
 bif (decide ((s_0.size+r1.size)≤9223372036854775807)) then
 (z2 r0 (s_0++r1)).bind fun r2=>
 bif ((Nat.beq r2.1.length 8) && (Nat.beq 8 r2.1.length)) then
 bif (Nat.beq 8 r2.1.length) then
 (z3 r2.1).bind fun r3=>
 some r3
 else none
 else none
 else none
noncomputable def He:Wj:=Xj Qg Td Ae Fe
theorem Yt:Tells ctx PP 59 cv9 cv9 (fun a=>He a):=fn_ok0 (hc Qs (hc Gt (hc Tt (hc Vt hl_nil)))) Tryd.func59 ((fun z0 z1 z2 z3 a=>by kernel_rfl:∀ z0 z1 z2 z3,EntryIs0 ctx PP 59 [] [(107,Us z0),(108,Ht z1),(106,Ut z2),(109,Xt z3)] cv9 cv9 fun a=>Xj z0 z1 z2 z3 a) Qg Td Ae Fe)
noncomputable def Zt {γ:Type} (F:Wj):Hd ctx γ:=hdl cv9.dec (fun a=>F a) cv9.enc
abbrev Yj:=Int→ByteArray→Option (SThing×Bool)
noncomputable def Zj (z0:Wj) (kind_0:Int) (data_1:ByteArray):Option (SThing×Bool):=
 bif (kind_0 == 1) then
 (z0 data_1).bind fun r0=>
 some (⟨0,kind_0,true,false,false,true,r0,0⟩,true)
 else
 bif (kind_0 == 2) then
  (z0 data_1).bind fun r1=>
  some (⟨0,kind_0,true,false,true,false,r1,0⟩,true)
 else
  bif (kind_0 == 3) then
  bif (decide ((data_1.size:Int)≤100)) then
   some (⟨0,kind_0,false,false,false,false,data_1,0⟩,true)
  else
   some (⟨0,0,false,false,false,false,⟨#[]⟩,0⟩,false)
  else
  some (⟨0,0,false,false,false,false,⟨#[]⟩,0⟩,false)
noncomputable def Ie:Yj:=Zj He
theorem Au:Tells ctx PP 11 cv11 cv18 (fun a=>Ie a.1 a.2):=fn_ok0 (hc Yt hl_nil) Tryd.func11 ((fun z0 a=>by kernel_rfl:∀ z0,EntryIs0 ctx PP 11 [] [(59,Zt z0)] cv11 cv18 fun a=>Zj z0 a.1 a.2) He)
noncomputable def Du {γ:Type} (F:Yj):Hd ctx γ:=hdl cv11.dec (fun a=>F a.1 a.2) cv18.enc
abbrev Ak:=Option (List Int)
noncomputable def Oo  : Option (List Int):=
 some [1779033703,3144134277,1013904242,2773480762,1359893119,2600822924,528734635,1541459225]
noncomputable def Ah:Ak:=Oo
theorem Eu:Tells ctx PP 140 cv12 cv19 (fun _=>Ah):=fn_ok0 hl_nil Tryd.func140 (fun _=>by kernel_rfl:EntryIs0 ctx PP 140 [] [] cv12 cv19 fun _=>Oo)
noncomputable def Gu {γ:Type} (F:Ak):Hd ctx γ:=hdl cv12.dec (fun _=>F) cv19.enc
abbrev Qa:=(List Int)→Option ByteArray
inductive Je where
 | c0 (words_0:(List Int)) (i_4:Int) (out_3:(List Int))
noncomputable def Po:Je→LI
 | .c0 words_0 i_4 out_3=>(tdo Tryd.f139 464,[(0,[.one (.rsl 114 words_0)]),(3,[.one (.own 240)]),(4,[.one (.int .i64 i_4)])],[(240,.sl 5 out_3)])
noncomputable def Qo (k:Je→Option ByteArray) (words_0:(List Int)):Option ByteArray:=
 k (.c0 words_0 0 [])
noncomputable def Bh (k:Je→Option ByteArray):Je→Option ByteArray
 | .c0 words_0 i_4 out_3=>
 bif (decide (i_4<(words_0.length:Int))) then
  bif ((decide (0≤i_4)) && (decide (i_4<(words_0.length:Int)))) then
  bif (decide (((out_3.length+4)*1)≤140737488355328)) then
  k (.c0 words_0 (w64 (i_4+1)) (out_3++[(w8 (w32 ((words_0.getD i_4.toNat 0).tdiv 16777216))),(w8 ((w32 ((words_0.getD i_4.toNat 0).tdiv 65536)).tmod 256)),(w8 ((w32 ((words_0.getD i_4.toNat 0).tdiv 256)).tmod 256)),(w8 ((words_0.getD i_4.toNat 0).tmod 256))]))
  else none
  else none
 else
  some (ofBytes out_3)
noncomputable def Me:Nat→Je→Option ByteArray
 | 0,_=>none
 | m+1,s=>Bh (Me m) s
noncomputable def AZ:Qa:=Qo (Me gas)
theorem Ik:Tells ctx PP 139 cv20 cv9 (fun a=>AZ a):=
 have b:CutIs ctx PP 139 Tryd.f139 [] [] cv9 Po (Bh):=fun _ s=>by cases s <;> kernel_rfl
 have e:EntryIs ctx PP 139 [] [] cv20 cv9 Po (fun k a=>Qo k a):=fun _ a=>by kernel_rfl
 fn_ok hl_nil Tryd.func139 (fun s s' h=>by cases s;cases s';cases h;rfl) (fun _=>rfl) (fun _ _=>rfl) b e gas
noncomputable def Oe {γ:Type} (F:Qa):Hd ctx γ:=hdl cv20.dec (fun a=>F a) cv9.enc
abbrev Jk:=Option SHasher
noncomputable def Nk (z0:Ak) (z1:Qa)  : Option SHasher:=
 z0.bind fun r0=>
 (z1 r0).bind fun r1=>
 some ⟨r1,⟨#[]⟩,0⟩
noncomputable def Qe:Jk:=Nk Ah AZ
theorem Hu:Tells ctx PP 112 cv12 cv21 (fun _=>Qe):=fn_ok0 (hc Eu (hc Ik hl_nil)) Tryd.func112 ((fun z0 z1 _=>by kernel_rfl:∀ z0 z1,EntryIs0 ctx PP 112 [] [(140,Gu z0),(139,Oe z1)] cv12 cv21 fun _=>Nk z0 z1) Ah AZ)
noncomputable def Iu {γ:Type} (F:Jk):Hd ctx γ:=hdl cv12.dec (fun _=>F) cv21.enc
abbrev Dh:=Int→Int→Int→Option Bool
noncomputable def Ro (x_0:Int) (least_1:Int) (most_2:Int):Option Bool:=
 bif (decide (x_0≥least_1)) then
 some (decide (x_0≤most_2))
 else
 some false
noncomputable def Xb:Dh:=Ro
theorem Uo:Tells ctx PP 63 cv22 cv1 (fun a=>Xb a.1 a.2.1 a.2.2):=fn_ok0 hl_nil Tryd.func63 (fun a=>by kernel_rfl:EntryIs0 ctx PP 63 [] [] cv22 cv1 fun a=>Ro a.1 a.2.1 a.2.2)
noncomputable def Vo {γ:Type} (F:Dh):Hd ctx γ:=hdl cv22.dec (fun a=>F a.1 a.2.1 a.2.2) cv1.enc
abbrev Yb:=SHasher→Option Bool
noncomputable def Qk (z0:Dh) (h_0:SHasher):Option Bool:=
 bif ((h_0.fState.size:Int) == 32) then
 bif (decide ((h_0.fRest.size:Int)<64)) then
  (z0 h_0.fCount 0 1000000000).bind fun r0=>
  bif r0 then
  some ((h_0.fCount.tmod 64) == (h_0.fRest.size:Int))
  else
  some false
 else
  some false
 else
 some false
noncomputable def UY:Yb:=Qk Xb
theorem Xo:Tells ctx PP 135 cv21 cv1 (fun a=>UY a):=fn_ok0 (hc Uo hl_nil) Tryd.func135 ((fun z0 a=>by kernel_rfl:∀ z0,EntryIs0 ctx PP 135 [] [(63,Vo z0)] cv21 cv1 fun a=>Qk z0 a) Xb)
noncomputable def Eh {γ:Type} (F:Yb):Hd ctx γ:=hdl cv21.dec (fun a=>F a) cv1.enc
abbrev Fh:=ByteArray→Int→Option Int
noncomputable def Rk (s_0:ByteArray) (at_1:Int):Option Int:=
 bif ((decide (0≤at_1)) && (decide (at_1<(s_0.size:Int)))) then
 bif ((decide (0≤(w64 (at_1+1)))) && (decide ((w64 (at_1+1))<(s_0.size:Int)))) then
 bif ((decide (0≤(w64 (at_1+2)))) && (decide ((w64 (at_1+2))<(s_0.size:Int)))) then
 bif ((decide (0≤(w64 (at_1+3)))) && (decide ((w64 (at_1+3))<(s_0.size:Int)))) then
 some (w32 ((w32 ((w32 ((w32 ((w32 (bt s_0 at_1))*16777216))+(w32 ((w32 (bt s_0 (w64 (at_1+1))))*65536))))+(w32 ((w32 (bt s_0 (w64 (at_1+2))))*256))))+(w32 (bt s_0 (w64 (at_1+3))))))
 else none
 else none
 else none
 else none
noncomputable def Ua:Fh:=Rk
theorem Ju:Tells ctx PP 155 cv23 cv15 (fun a=>Ua a.1 a.2):=fn_ok0 hl_nil Tryd.func155 (fun a=>by kernel_rfl:EntryIs0 ctx PP 155 [] [] cv23 cv15 fun a=>Rk a.1 a.2)
noncomputable def Yo {γ:Type} (F:Fh):Hd ctx γ:=hdl cv23.dec (fun a=>F a.1 a.2) cv15.enc
abbrev Aa:=ByteArray→Option (List Int)
inductive Ue where
 | c0 (s_0:ByteArray) (i_4:Int) (out_3:(List Int))
noncomputable def Zo:Ue→LI
 | .c0 s_0 i_4 out_3=>(tdo Tryd.f136 464,[(0,[.one (.str s_0)]),(3,[.one (.own 240)]),(4,[.one (.int .i64 i_4)])],[(240,.sl 114 out_3)])
noncomputable def Ap (z0:Fh) (k:Ue→Option (List Int)) (s_0:ByteArray):Option (List Int):=
 k (.c0 s_0 0 [])
noncomputable def Gh (z0:Fh) (k:Ue→Option (List Int)):Ue→Option (List Int)
 | .c0 s_0 i_4 out_3=>
 bif (decide ((w64 (i_4+4))≤(s_0.size:Int))) then
  (z0 s_0 i_4).bind fun r0=>
  bif (decide (((out_3.length+1)*4)≤140737488355328)) then
  k (.c0 s_0 (w64 (i_4+4)) (out_3++[r0]))
  else none
 else
  some out_3
noncomputable def Ve:Nat→Ue→Option (List Int)
 | 0,_=>none
 | m+1,s=>Gh Ua (Ve m) s
noncomputable def QY:Aa:=Ap Ua (Ve gas)
theorem Uk:Tells ctx PP 136 cv9 cv19 (fun a=>QY a):=
 have b:∀ z0,CutIs ctx PP 136 Tryd.f136 [] [(155,Yo z0)] cv19 Zo (Gh z0):=fun z0 _ s=>by cases s <;> kernel_rfl
 have e:∀ z0,EntryIs ctx PP 136 [] [(155,Yo z0)] cv9 cv19 Zo (fun k a=>Ap z0 k a):=fun z0 _ a=>by kernel_rfl
 fn_ok (hc Ju hl_nil) Tryd.func136 (fun s s' h=>by cases s;cases s';cases h;rfl) (fun _=>rfl) (fun _ _=>rfl) (b Ua) (e Ua) gas
noncomputable def Zb {γ:Type} (F:Aa):Hd ctx γ:=hdl cv9.dec (fun a=>F a) cv19.enc
abbrev Ac:=Option (List Int)
noncomputable def Dp  : Option (List Int):=
 some [1116352408,1899447441,3049323471,3921009573,961987163,1508970993,2453635748,2870763221,3624381080,310598401,607225278,1426881987,1925078388,2162078206,2614888103,3248222580,3835390401,4022224774,264347078,604807628,770255983,1249150122,1555081692,1996064986,2554220882,2821834349,2952996808,3210313671,3336571891,3584528711,113926993,338241895,666307205,773529912,1294757372,1396182291,1695183700,1986661051,2177026350,2456956037,2730485921,2820302411,3259730800,3345764771,3516065817,3600352804,4094571909,275423344,430227734,506948616,659060556,883997877,958139571,1322822218,1537002063,1747873779,1955562222,2024104815,2227730452,2361852424,2428436474,2756734187,3204031479,3329325298]
noncomputable def JZ:Ac:=Dp
theorem Ep:Tells ctx PP 137 cv12 cv19 (fun _=>JZ):=fn_ok0 hl_nil Tryd.func137 (fun _=>by kernel_rfl:EntryIs0 ctx PP 137 [] [] cv12 cv19 fun _=>Dp)
noncomputable def Ih {γ:Type} (F:Ac):Hd ctx γ:=hdl cv12.dec (fun _=>F) cv19.enc
abbrev Vk:=Int→Int→Int→Option Int
noncomputable def Xk (x_0:Int) (low_1:Int) (high_2:Int):Option Int:=
 bif (!(low_1 == 0)) then
 bif (!(low_1 == 0)) then
 some (w32 ((w32 (x_0.tdiv low_1))+(w32 ((x_0.tmod low_1)*high_2))))
 else none
 else none
noncomputable def Xe:Vk:=Xk
theorem Ku:Tells ctx PP 164 cv24 cv15 (fun a=>Xe a.1 a.2.1 a.2.2):=fn_ok0 hl_nil Tryd.func164 (fun a=>by kernel_rfl:EntryIs0 ctx PP 164 [] [] cv24 cv15 fun a=>Xk a.1 a.2.1 a.2.2)
noncomputable def Lu {γ:Type} (F:Vk):Hd ctx γ:=hdl cv24.dec (fun a=>F a.1 a.2.1 a.2.2) cv15.enc
abbrev Jh:=Int→Int→Int→Int→Bool→Option Int
noncomputable def Bc (z0:Vk) (x_0:Int) (a_1:Int) (b_2:Int) (c_3:Int) (last_4:Bool):Option Int:=
 bif (!(a_1 == 0)) then
 (z0 x_0 a_1 (w32 ((w32 ((2147483648:Int).tdiv a_1))*2))).bind fun r0=>
 bif (!(b_2 == 0)) then
 (z0 x_0 b_2 (w32 ((w32 ((2147483648:Int).tdiv b_2))*2))).bind fun r1=>
 bif (!(c_3 == 0)) then
 bif (!last_4) then
 bif (!(c_3 == 0)) then
 (z0 x_0 c_3 (w32 ((w32 ((2147483648:Int).tdiv c_3))*2))).bind fun r2=>
 some (w32 (((BitVec.toNat ((BitVec.ofInt (IntKind.bits IntKind.u32) (w32 (((BitVec.toNat ((BitVec.ofInt (IntKind.bits IntKind.u32) r0) ^^^ (BitVec.ofInt (IntKind.bits IntKind.u32) r1))):Nat):Int))) ^^^ (BitVec.ofInt (IntKind.bits IntKind.u32) r2))):Nat):Int))
 else none
 else
 some (w32 (((BitVec.toNat ((BitVec.ofInt (IntKind.bits IntKind.u32) (w32 (((BitVec.toNat ((BitVec.ofInt (IntKind.bits IntKind.u32) r0) ^^^ (BitVec.ofInt (IntKind.bits IntKind.u32) r1))):Nat):Int))) ^^^ (BitVec.ofInt (IntKind.bits IntKind.u32) (w32 (x_0.tdiv c_3))))):Nat):Int))
 else none
 else none
 else none
noncomputable def VY:Jh:=Bc Xe
theorem Nu:Tells ctx PP 156 cv25 cv15 (fun a=>VY a.1 a.2.1 a.2.2.1 a.2.2.2.1 a.2.2.2.2):=fn_ok0 (hc Ku hl_nil) Tryd.func156 ((fun z0 a=>by kernel_rfl:∀ z0,EntryIs0 ctx PP 156 [] [(164,Lu z0)] cv25 cv15 fun a=>Bc z0 a.1 a.2.1 a.2.2.1 a.2.2.2.1 a.2.2.2.2) Xe)
noncomputable def Fp {γ:Type} (F:Jh):Hd ctx γ:=hdl cv25.dec (fun a=>F a.1 a.2.1 a.2.2.1 a.2.2.2.1 a.2.2.2.2) cv15.enc
abbrev Cc:=(List Int)→(List Int)→ByteArray→Option (List Int)
inductive Ye where
 | c0 (t_0:(List Int)) (o_1:(List Int)) (v_8:Int) (v_7:(List Int))
 | c1 (t_0:(List Int)) (o_1:(List Int)) (v_10:Int) (v_7:(List Int)) (v_9:(List Int))
 | c2 (t_0:(List Int)) (o_1:(List Int)) (v_10:Int) (v_13:Int) (v_15:Int) (v_16:Int) (v_7:(List Int)) (v_9:(List Int))
 | c3 (t_0:(List Int)) (v_18:Int) (v_9:(List Int)) (v_17:(List Int))
noncomputable def Gp:Ye→LI
 | .c0 t_0 o_1 v_8 v_7=>(tdo Tryd.f138 464,[(0,[.one (.rsl 114 t_0)]),(1,[.one (.rsl 114 o_1)]),(7,[.one (.own 496)]),(8,[.one (.int .i64 v_8)])],[(496,.sl 114 v_7)])
 | .c1 t_0 o_1 v_10 v_7 v_9=>(tdo Tryd.f138 2000,[(0,[.one (.rsl 114 t_0)]),(1,[.one (.rsl 114 o_1)]),(7,[.one (.own 496)]),(9,[.one (.own 624)]),(10,[.one (.int .i64 v_10)])],[(496,.sl 114 v_7),(624,.sl 114 v_9)])
 | .c2 t_0 o_1 v_10 v_13 v_15 v_16 v_7 v_9=>(tdo Tryd.f138 8202192,[(0,[.one (.rsl 114 t_0)]),(1,[.one (.rsl 114 o_1)]),(7,[.one (.own 496)]),(9,[.one (.own 624)]),(10,[.one (.int .i64 v_10)]),(13,[.one (.int .u32 v_13)]),(15,[.one (.int .u32 v_15)]),(16,[.one (.int .i64 v_16)])],[(496,.sl 114 v_7),(624,.sl 114 v_9)])
 | .c3 t_0 v_18 v_9 v_17=>(tdo Tryd.f138 8144,[(0,[.one (.rsl 114 t_0)]),(9,[.one (.own 624)]),(17,[.one (.own 1136)]),(18,[.one (.int .i64 v_18)])],[(624,.sl 114 v_9),(1136,.sl 114 v_17)])
noncomputable def Yk (z0:Aa) (z1:Jh) (k:Ye→Option (List Int)) (t_0:(List Int)) (o_1:(List Int)) (A_2:ByteArray):Option (List Int):=
 (z0 A_2).bind fun r0=>
 k (.c0 t_0 o_1 16 r0)
noncomputable def KZ (z0:Aa) (z1:Jh) (k:Ye→Option (List Int)):Ye→Option (List Int)
 | .c0 t_0 o_1 v_8 v_7=>
 bif (decide (v_8<64)) then
  bif ((decide (0≤(w64 (v_8 - 2)))) && (decide ((w64 (v_8 - 2))<(v_7.length:Int)))) then
  (z1 (v_7.getD (w64 (v_8 - 2)).toNat 0) 131072 524288 1024 true).bind fun r0=>
  bif ((decide (0≤(w64 (v_8 - 7)))) && (decide ((w64 (v_8 - 7))<(v_7.length:Int)))) then
  bif ((decide (0≤(w64 (v_8 - 15)))) && (decide ((w64 (v_8 - 15))<(v_7.length:Int)))) then
  (z1 (v_7.getD (w64 (v_8 - 15)).toNat 0) 128 262144 8 true).bind fun r1=>
  bif ((decide (0≤(w64 (v_8 - 16)))) && (decide ((w64 (v_8 - 16))<(v_7.length:Int)))) then
  bif (decide (((v_7.length+1)*4)≤140737488355328)) then
  k (.c0 t_0 o_1 (w64 (v_8+1)) (v_7++[(w32 ((w32 ((w32 (r0+(v_7.getD (w64 (v_8 - 7)).toNat 0)))+r1))+(v_7.getD (w64 (v_8 - 16)).toNat 0)))]))
  else none
  else none
  else none
  else none
  else none
 else
  bif (decide (((0+t_0.length)*4)≤140737488355328)) then
  k (.c1 t_0 o_1 0 v_7 ([]++t_0))
  else none
 | .c1 t_0 o_1 v_10 v_7 v_9=>
 bif (decide (v_10<64)) then
  bif ((decide ((0:Int)≤(4:Int))) && (decide (4<(v_9.length:Int)))) then
  bif ((decide ((0:Int)≤(5:Int))) && (decide (5<(v_9.length:Int)))) then
  bif ((decide ((0:Int)≤(6:Int))) && (decide (6<(v_9.length:Int)))) then
  bif ((decide ((0:Int)≤(7:Int))) && (decide (7<(v_9.length:Int)))) then
  (z1 (v_9.getD (4:Int).toNat 0) 64 2048 33554432 false).bind fun r0=>
  bif ((decide (0≤v_10)) && (decide (v_10<(o_1.length:Int)))) then
  bif ((decide (0≤v_10)) && (decide (v_10<(v_7.length:Int)))) then
  bif ((decide ((0:Int)≤(0:Int))) && (decide (0<(v_9.length:Int)))) then
  bif ((decide ((0:Int)≤(1:Int))) && (decide (1<(v_9.length:Int)))) then
  bif ((decide ((0:Int)≤(0:Int))) && (decide (0<(v_9.length:Int)))) then
  bif ((decide ((0:Int)≤(2:Int))) && (decide (2<(v_9.length:Int)))) then
  bif ((decide ((0:Int)≤(1:Int))) && (decide (1<(v_9.length:Int)))) then
  bif ((decide ((0:Int)≤(2:Int))) && (decide (2<(v_9.length:Int)))) then
  bif ((decide ((0:Int)≤(0:Int))) && (decide (0<(v_9.length:Int)))) then
  (z1 (v_9.getD (0:Int).toNat 0) 4 8192 4194304 false).bind fun r1=>
  k (.c2 t_0 o_1 v_10 (w32 ((w32 ((w32 ((w32 ((v_9.getD (7:Int).toNat 0)+r0))+(w32 (((BitVec.toNat ((BitVec.ofInt (IntKind.bits IntKind.u32) (w32 (((BitVec.toNat ((BitVec.ofInt (IntKind.bits IntKind.u32) (v_9.getD (4:Int).toNat 0)) &&& (BitVec.ofInt (IntKind.bits IntKind.u32) (v_9.getD (5:Int).toNat 0)))):Nat):Int))) ^^^ (BitVec.ofInt (IntKind.bits IntKind.u32) (w32 (((BitVec.toNat ((BitVec.ofInt (IntKind.bits IntKind.u32) (w32 (4294967295 - (v_9.getD (4:Int).toNat 0)))) &&& (BitVec.ofInt (IntKind.bits IntKind.u32) (v_9.getD (6:Int).toNat 0)))):Nat):Int))))):Nat):Int))))+(o_1.getD v_10.toNat 0)))+(v_7.getD v_10.toNat 0))) (w32 (r1+(w32 (((BitVec.toNat ((BitVec.ofInt (IntKind.bits IntKind.u32) (w32 (((BitVec.toNat ((BitVec.ofInt (IntKind.bits IntKind.u32) (w32 (((BitVec.toNat ((BitVec.ofInt (IntKind.bits IntKind.u32) (v_9.getD (0:Int).toNat 0)) &&& (BitVec.ofInt (IntKind.bits IntKind.u32) (v_9.getD (1:Int).toNat 0)))):Nat):Int))) ^^^ (BitVec.ofInt (IntKind.bits IntKind.u32) (w32 (((BitVec.toNat ((BitVec.ofInt (IntKind.bits IntKind.u32) (v_9.getD (0:Int).toNat 0)) &&& (BitVec.ofInt (IntKind.bits IntKind.u32) (v_9.getD (2:Int).toNat 0)))):Nat):Int))))):Nat):Int))) ^^^ (BitVec.ofInt (IntKind.bits IntKind.u32) (w32 (((BitVec.toNat ((BitVec.ofInt (IntKind.bits IntKind.u32) (v_9.getD (1:Int).toNat 0)) &&& (BitVec.ofInt (IntKind.bits IntKind.u32) (v_9.getD (2:Int).toNat 0)))):Nat):Int))))):Nat):Int)))) 7 v_7 v_9)
  else none
  else none
  else none
  else none
  else none
  else none
  else none
  else none
  else none
  else none
  else none
  else none
  else none
 else
  k (.c3 t_0 0 v_9 [])
 | .c2 t_0 o_1 v_10 v_13 v_15 v_16 v_7 v_9=>
 bif (decide (v_16 > 0)) then
  bif ((decide (0≤(w64 (v_16 - 1)))) && (decide ((w64 (v_16 - 1))<(v_9.length:Int)))) then
  bif ((decide (0≤v_16)) && (decide (v_16<(v_9.length:Int)))) then
  k (.c2 t_0 o_1 v_10 v_13 v_15 (w64 (v_16 - 1)) v_7 (v_9.set v_16.toNat (v_9.getD (w64 (v_16 - 1)).toNat 0)))
  else none
  else none
 else
  bif ((decide ((0:Int)≤(4:Int))) && (decide (4<(v_9.length:Int)))) then
  bif ((decide ((0:Int)≤(4:Int))) && (decide (4<(v_9.length:Int)))) then
  bif ((decide ((0:Int)≤(0:Int))) && (decide (0<((v_9.set (4:Int).toNat (w32 ((v_9.getD (4:Int).toNat 0)+v_13))).length:Int)))) then
  k (.c1 t_0 o_1 (w64 (v_10+1)) v_7 ((v_9.set (4:Int).toNat (w32 ((v_9.getD (4:Int).toNat 0)+v_13))).set (0:Int).toNat (w32 (v_13+v_15))))
  else none
  else none
  else none
 | .c3 t_0 v_18 v_9 v_17=>
 bif (decide (v_18<8)) then
  bif ((decide (0≤v_18)) && (decide (v_18<(t_0.length:Int)))) then
  bif ((decide (0≤v_18)) && (decide (v_18<(v_9.length:Int)))) then
  bif (decide (((v_17.length+1)*4)≤140737488355328)) then
  k (.c3 t_0 (w64 (v_18+1)) v_9 (v_17++[(w32 ((t_0.getD v_18.toNat 0)+(v_9.getD v_18.toNat 0)))]))
  else none
  else none
  else none
 else
  some v_17
noncomputable def NY:Nat→Ye→Option (List Int)
 | 0,_=>none
 | m+1,s=>KZ QY VY (NY m) s
noncomputable def EZ:Cc:=Yk QY VY (NY gas)
theorem Ip:Tells ctx PP 138 cv26 cv19 (fun a=>EZ a.1 a.2.1 a.2.2):=
 have b:∀ z0 z1,CutIs ctx PP 138 Tryd.f138 [] [(136,Zb z0),(156,Fp z1)] cv19 Gp (KZ z0 z1):=fun z0 z1 _ s=>by cases s <;> kernel_rfl
 have e:∀ z0 z1,EntryIs ctx PP 138 [] [(136,Zb z0),(156,Fp z1)] cv26 cv19 Gp (fun k a=>Yk z0 z1 k a.1 a.2.1 a.2.2):=fun z0 z1 _ a=>by kernel_rfl
 fn_ok (hc Uk (hc Nu hl_nil)) Tryd.func138 (fun s s' h=>by cases s <;> cases s' <;> first | (cases h;done) | (cases h;rfl) | exact (rg_ne h (by kernel_rfl)).elim) (fun _=>rfl) (fun _ _=>rfl) (b QY VY) (e QY VY) gas
noncomputable def Lh {γ:Type} (F:Cc):Hd ctx γ:=hdl cv26.dec (fun a=>F a.1 a.2.1 a.2.2) cv19.enc
abbrev Zk:=SHasher→ByteArray→Option SHasher
inductive Ze where
 | c0 (s_1:ByteArray) (buf_7:ByteArray) (at_8:Int) (h_2:SHasher) (v_4:SHasher) (state_5:(List Int)) (k_6:(List Int))
noncomputable def Jp:Ze→LI
 | .c0 s_1 buf_7 at_8 h_2 v_4 state_5 k_6=>(tdo Tryd.f111 4064,[(1,[.one (.str s_1)]),(2,[.one (.ptr 128 0)]),(4,[.one (.ptr 256 0)]),(5,[.one (.own 368)]),(6,[.one (.own 432)]),(7,[.one (.str buf_7)]),(8,[.one (.int .i64 at_8)])],[(128,.var [.str h_2.fState,.str h_2.fRest,.int .i64 h_2.fCount]),(256,.var [.str v_4.fState,.str v_4.fRest,.int .i64 v_4.fCount]),(368,.sl 114 state_5),(432,.sl 114 k_6)])
noncomputable def Bl (z0:Yb) (z1:Aa) (z2:Ac) (z3:Cc) (z4:Qa) (k:Ze→Option SHasher) (h_0:SHasher) (s_1:ByteArray):Option SHasher:=
 (z0 h_0).bind fun r0=>
 bif (!r0) then
 some h_0
 else
 bif (decide ((w64 (h_0.fCount+(s_1.size:Int))) > 1000000000)) then
  some h_0
 else
  (z1 h_0.fState).bind fun r1=>
  z2.bind fun r2=>
  bif (decide ((h_0.fRest.size+s_1.size)≤9223372036854775807)) then
  k (.c0 s_1 (h_0.fRest++s_1) 0 h_0 ⟨⟨#[]⟩,⟨#[]⟩,0⟩ r1 r2)
  else none
noncomputable def Nh (z0:Yb) (z1:Aa) (z2:Ac) (z3:Cc) (z4:Qa) (k:Ze→Option SHasher):Ze→Option SHasher
 | .c0 s_1 buf_7 at_8 h_2 v_4 state_5 k_6=>
 bif (decide ((w64 (at_8+64))≤(buf_7.size:Int))) then
  bif (((decide (0≤at_8)) && (decide (at_8≤(w64 (at_8+64))))) && (decide ((w64 (at_8+64))≤(buf_7.size:Int)))) then
  (z3 state_5 k_6 (buf_7.extract at_8.toNat (w64 (at_8+64)).toNat)).bind fun r0=>
  k (.c0 s_1 buf_7 (w64 (at_8+64)) h_2 v_4 r0 k_6)
  else none
 else
  (z4 state_5).bind fun r1=>
  bif ((decide (0≤at_8)) && (decide (at_8≤(buf_7.size:Int)))) then
  some ⟨r1,(buf_7.extract at_8.toNat buf_7.size),(w64 (h_2.fCount+(s_1.size:Int)))⟩
  else none
noncomputable def Af:Nat→Ze→Option SHasher
 | 0,_=>none
 | m+1,s=>Nh UY QY JZ EZ AZ (Af m) s
noncomputable def Bf:Zk:=Bl UY QY JZ EZ AZ (Af gas)
theorem Ou:Tells ctx PP 111 cv27 cv21 (fun a=>Bf a.1 a.2):=
 have b:∀ z0 z1 z2 z3 z4,CutIs ctx PP 111 Tryd.f111 [] [(135,Eh z0),(136,Zb z1),(137,Ih z2),(138,Lh z3),(139,Oe z4)] cv21 Jp (Nh z0 z1 z2 z3 z4):=fun z0 z1 z2 z3 z4 _ s=>by cases s <;> kernel_rfl
 have e:∀ z0 z1 z2 z3 z4,EntryIs ctx PP 111 [] [(135,Eh z0),(136,Zb z1),(137,Ih z2),(138,Lh z3),(139,Oe z4)] cv27 cv21 Jp (fun k a=>Bl z0 z1 z2 z3 z4 k a.1 a.2):=fun z0 z1 z2 z3 z4 _ a=>by kernel_rfl
 fn_ok (hc Xo (hc Uk (hc Ep (hc Ip (hc Ik hl_nil))))) Tryd.func111 (fun s s' h=>by cases s;cases s';(repeat cases ‹SHasher›);cases h;rfl) (fun _=>rfl) (fun _ _=>rfl) (b UY QY JZ EZ AZ) (e UY QY JZ EZ AZ) gas
noncomputable def Qu {γ:Type} (F:Zk):Hd ctx γ:=hdl cv27.dec (fun a=>F a.1 a.2) cv21.enc
abbrev Dl:=SHasher→Option ByteArray
inductive Df where
 | c0 (h_1:SHasher) (tail_3:(List Int))
 | c1 (bits_4:Int) (i_5:Int) (h_1:SHasher) (tail_3:(List Int))
 | c2 (bits_4:Int) (i_5:Int) (x_6:Int) (k_7:Int) (h_1:SHasher) (tail_3:(List Int))
 | c3 (at_10:Int) (tail_3:(List Int)) (state_8:(List Int)) (k_9:(List Int))
noncomputable def Np:Df→LI
 | .c0 h_1 tail_3=>(tdo Tryd.f110 992,[(1,[.one (.ptr 64 0)]),(3,[.one (.own 240)])],[(64,.var [.str h_1.fState,.str h_1.fRest,.int .i64 h_1.fCount]),(240,.sl 5 tail_3)])
 | .c1 bits_4 i_5 h_1 tail_3=>(tdo Tryd.f110 8144,[(1,[.one (.ptr 64 0)]),(3,[.one (.own 240)]),(4,[.one (.int .i64 bits_4)]),(5,[.one (.int .i64 i_5)])],[(64,.var [.str h_1.fState,.str h_1.fRest,.int .i64 h_1.fCount]),(240,.sl 5 tail_3)])
 | .c2 bits_4 i_5 x_6 k_7 h_1 tail_3=>(tdo Tryd.f110 2085456,[(1,[.one (.ptr 64 0)]),(3,[.one (.own 240)]),(4,[.one (.int .i64 bits_4)]),(5,[.one (.int .i64 i_5)]),(6,[.one (.int .i64 x_6)]),(7,[.one (.int .i64 k_7)])],[(64,.var [.str h_1.fState,.str h_1.fRest,.int .i64 h_1.fCount]),(240,.sl 5 tail_3)])
 | .c3 at_10 tail_3 state_8 k_9=>(tdo Tryd.f110 65488,[(3,[.one (.own 240)]),(8,[.one (.own 560)]),(9,[.one (.own 624)]),(10,[.one (.int .i64 at_10)])],[(240,.sl 5 tail_3),(560,.sl 114 state_8),(624,.sl 114 k_9)])
noncomputable def Gl (z0:Yb) (z1:Aa) (z2:Ac) (z3:Cc) (z4:Qa) (k:Df→Option ByteArray) (h_0:SHasher):Option ByteArray:=
 (z0 h_0).bind fun r0=>
 bif (!r0) then
 some ⟨#[]⟩
 else
 bif (decide (h_0.fRest.size≤9223372036854775807)) then
 bif (decide ((((bytesOf h_0.fRest).length+1)*1)≤140737488355328)) then
 k (.c0 h_0 ((bytesOf h_0.fRest)++[(128:Int)]))
 else none
 else none
noncomputable def LZ (z0:Yb) (z1:Aa) (z2:Ac) (z3:Cc) (z4:Qa) (k:Df→Option ByteArray):Df→Option ByteArray
 | .c0 h_1 tail_3=>
 bif (((tail_3.length:Int).tmod 64) != 56) then
  bif (decide (((tail_3.length+1)*1)≤140737488355328)) then
  k (.c0 h_1 (tail_3++[(0:Int)]))
  else none
 else
  k (.c1 (w64 (8*h_1.fCount)) 7 h_1 tail_3)
 | .c1 bits_4 i_5 h_1 tail_3=>
 bif (decide (i_5≥0)) then
  k (.c2 bits_4 i_5 bits_4 0 h_1 tail_3)
 else
  (z1 h_1.fState).bind fun r0=>
  z2.bind fun r1=>
  k (.c3 0 tail_3 r0 r1)
 | .c2 bits_4 i_5 x_6 k_7 h_1 tail_3=>
 bif (decide (k_7<i_5)) then
  k (.c2 bits_4 i_5 (w64 (x_6.tdiv 256)) (w64 (k_7+1)) h_1 tail_3)
 else
  bif (decide (((tail_3.length+1)*1)≤140737488355328)) then
  k (.c1 bits_4 (w64 (i_5 - 1)) h_1 (tail_3++[(w8 (x_6.tmod 256))]))
  else none
 | .c3 at_10 tail_3 state_8 k_9=>
 bif (decide (at_10<(tail_3.length:Int))) then
  bif (((decide (0≤at_10)) && (decide (at_10≤(w64 (at_10+64))))) && (decide ((w64 (at_10+64))≤(tail_3.length:Int)))) then
  (z3 state_8 k_9 (ofBytes ((tail_3.drop at_10.toNat).take ((w64 (at_10+64)).toNat - at_10.toNat)))).bind fun r0=>
  k (.c3 (w64 (at_10+64)) tail_3 r0 k_9)
  else none
 else
  (z4 state_8).bind fun r1=>
  some r1
noncomputable def OY:Nat→Df→Option ByteArray
 | 0,_=>none
 | m+1,s=>LZ UY QY JZ EZ AZ (OY m) s
noncomputable def Ef:Dl:=Gl UY QY JZ EZ AZ (OY gas)
theorem Ru:Tells ctx PP 110 cv21 cv9 (fun a=>Ef a):=
 have b:∀ z0 z1 z2 z3 z4,CutIs ctx PP 110 Tryd.f110 [] [(135,Eh z0),(136,Zb z1),(137,Ih z2),(138,Lh z3),(139,Oe z4)] cv9 Np (LZ z0 z1 z2 z3 z4):=fun z0 z1 z2 z3 z4 _ s=>by cases s <;> kernel_rfl
 have e:∀ z0 z1 z2 z3 z4,EntryIs ctx PP 110 [] [(135,Eh z0),(136,Zb z1),(137,Ih z2),(138,Lh z3),(139,Oe z4)] cv21 cv9 Np (fun k a=>Gl z0 z1 z2 z3 z4 k a):=fun z0 z1 z2 z3 z4 _ a=>by kernel_rfl
 fn_ok (hc Xo (hc Uk (hc Ep (hc Ip (hc Ik hl_nil))))) Tryd.func110 (fun s s' h=>by cases s <;> cases s' <;> first | ((repeat cases ‹SHasher›);cases h;done) | ((repeat cases ‹SHasher›);cases h;rfl) | exact (rg_ne h (by kernel_rfl)).elim) (fun _=>rfl) (fun _ _=>rfl) (b UY QY JZ EZ AZ) (e UY QY JZ EZ AZ) gas
noncomputable def Uu {γ:Type} (F:Dl):Hd ctx γ:=hdl cv21.dec (fun a=>F a) cv9.enc
abbrev Oh:=ByteArray→Option ByteArray
noncomputable def Hl (z0:Jk) (z1:Zk) (z2:Dl) (s_0:ByteArray):Option ByteArray:=
 z0.bind fun r0=>
 (z1 r0 s_0).bind fun r1=>
 (z2 r1).bind fun r2=>
 some r2
noncomputable def Va:Oh:=Hl Qe Bf Ef
theorem Qp:Tells ctx PP 60 cv9 cv9 (fun a=>Va a):=fn_ok0 (hc Hu (hc Ou (hc Ru hl_nil))) Tryd.func60 ((fun z0 z1 z2 a=>by kernel_rfl:∀ z0 z1 z2,EntryIs0 ctx PP 60 [] [(112,Iu z0),(111,Qu z1),(110,Uu z2)] cv9 cv9 fun a=>Hl z0 z1 z2 a) Qe Bf Ef)
noncomputable def Vp {γ:Type} (F:Oh):Hd ctx γ:=hdl cv9.dec (fun a=>F a) cv9.enc
abbrev Il:=Int→ByteArray→Option (SThing×Bool)
noncomputable def Jl (z0:Oh) (kind_0:Int) (data_1:ByteArray):Option (SThing×Bool):=
 bif (kind_0 == 1) then
 (z0 data_1).bind fun r0=>
 some (⟨0,kind_0,true,false,false,true,r0,0⟩,true)
 else
 bif (kind_0 == 2) then
  (z0 data_1).bind fun r1=>
  some (⟨0,kind_0,true,false,true,false,r1,0⟩,true)
 else
  bif (kind_0 == 3) then
  bif (decide ((data_1.size:Int)≤100)) then
   some (⟨0,kind_0,false,false,false,false,data_1,0⟩,true)
  else
   some (⟨0,0,false,false,false,false,⟨#[]⟩,0⟩,false)
  else
  some (⟨0,0,false,false,false,false,⟨#[]⟩,0⟩,false)
noncomputable def Gf:Il:=Jl Va
theorem Vu:Tells ctx PP 12 cv11 cv18 (fun a=>Gf a.1 a.2):=fn_ok0 (hc Qp hl_nil) Tryd.func12 ((fun z0 a=>by kernel_rfl:∀ z0,EntryIs0 ctx PP 12 [] [(60,Vp z0)] cv11 cv18 fun a=>Jl z0 a.1 a.2) Va)
noncomputable def Wu {γ:Type} (F:Il):Hd ctx γ:=hdl cv11.dec (fun a=>F a.1 a.2) cv18.enc
abbrev Ll:=SL01Cur→(List ByteArray)→Option (ByteArray×SL01Cur)
noncomputable def Nl (z0:QZ) (c_0:SL01Cur) (list_1:(List ByteArray)):Option (ByteArray×SL01Cur):=
 (z0 ⟨(),c_0.fI,c_0.fH⟩ (list_1.length:Int)).bind fun r0=>
 bif ((decide (0≤r0.1)) && (decide (r0.1<(list_1.length:Int)))) then
 some ((list_1.getD r0.1.toNat (⟨#[]⟩:ByteArray)),⟨(),r0.2.fI,r0.2.fH⟩)
 else none
noncomputable def Hf:Ll:=Nl LY
theorem Xu:Tells ctx PP 122 cv28 cv10 (fun a=>Hf a.1 a.2):=fn_ok0 (hc Fa hl_nil) Tryd.func122 ((fun z0 a=>by kernel_rfl:∀ z0,EntryIs0 ctx PP 122 [0] [(57,Ia z0)] cv28 cv10 fun a=>Nl z0 a.1 a.2) LY)
noncomputable def Yu {γ:Type} (F:Ll):Hd ctx γ:=hdl cv28.dec (fun a=>F a.1 a.2) cv10.enc
abbrev Ol:=SL01Cur→Option (SThing×SL01Cur)
noncomputable def Ql (z0:QZ) (z1:Xc) (z2:Og) (z3:Ll) (z4:Oh) (c_0:SL01Cur):Option (SThing×SL01Cur):=
 (z0 ⟨(),c_0.fI,c_0.fH⟩ 6).bind fun r0=>
 (z0 ⟨(),r0.2.fI,r0.2.fH⟩ 3).bind fun r1=>
 (z1 ⟨(),r1.2.fI,r1.2.fH⟩ 2).bind fun r2=>
 (z1 ⟨(),r2.2.fI,r2.2.fH⟩ 2).bind fun r3=>
 bif ((w64 (1+r1.1)) == 3) then
 (z0 ⟨(),r3.2.fI,r3.2.fH⟩ 9).bind fun r4=>
 (z2 ⟨(),r4.2.fI,r4.2.fH⟩ r4.1).bind fun r5=>
 some (⟨(w64 (1+r0.1)),(w64 (1+r1.1)),r2.1,r3.1,false,false,r5.1,0⟩,⟨(),r5.2.fI,r5.2.fH⟩)
 else
 bif ((w64 (1+r1.1)) == 2) then
  (z0 ⟨(),r3.2.fI,r3.2.fH⟩ 17).bind fun r6=>
  (z1 ⟨(),r6.2.fI,r6.2.fH⟩ 4).bind fun r7=>
  (z3 ⟨(),r7.2.fI,r7.2.fH⟩ [⟨#[97]⟩,⟨#[98]⟩,⟨#[99]⟩]).bind fun r8=>
  (z4 r8.1).bind fun r9=>
  some (⟨(w64 (1+r0.1)),(w64 (1+r1.1)),r2.1,r3.1,(!r7.1),false,r9,r6.1⟩,⟨(),r8.2.fI,r8.2.fH⟩)
 else
  (z1 ⟨(),r3.2.fI,r3.2.fH⟩ 4).bind fun r10=>
  (z3 ⟨(),r10.2.fI,r10.2.fH⟩ [⟨#[97]⟩,⟨#[98]⟩,⟨#[99]⟩]).bind fun r11=>
  (z4 r11.1).bind fun r12=>
  some (⟨(w64 (1+r0.1)),(w64 (1+r1.1)),r2.1,r3.1,false,(!r10.1),r12,0⟩,⟨(),r11.2.fI,r11.2.fH⟩)
noncomputable def Jf:Ol:=Ql LY RZ La Hf Va
theorem Zu:Tells ctx PP 113 cv3 cv29 (fun a=>Jf a):=fn_ok0 (hc Fa (hc Qi (hc Un (hc Xu (hc Qp hl_nil))))) Tryd.func113 ((fun z0 z1 z2 z3 z4 a=>by kernel_rfl:∀ z0 z1 z2 z3 z4,EntryIs0 ctx PP 113 [0] [(57,Ia z0),(54,Ri z1),(58,Wn z2),(122,Yu z3),(60,Vp z4)] cv3 cv29 fun a=>Ql z0 z1 z2 z3 z4 a) LY RZ La Hf Va)
noncomputable def Bv {γ:Type} (F:Ol):Hd ctx γ:=hdl cv3.dec (fun a=>F a) cv29.enc
abbrev Rl:=SL01Cur→Option (SThing×SL01Cur)
noncomputable def Sl (z0:Ol) (z1:QZ) (z2:Hg) (z3:Ig) (c_0:SL01Cur):Option (SThing×SL01Cur):=
 (z0 ⟨(),c_0.fI,c_0.fH⟩).bind fun r0=>
 (z1 ⟨(),r0.2.fI,r0.2.fH⟩ 20).bind fun r1=>
 bif (r1.1 == 0) then
 (z2 ⟨(),r1.2.fI,r1.2.fH⟩ [0,(-(1:Int)),1000,1001]).bind fun r2=>
 some (⟨r2.1,r0.1.fKind,r0.1.fHidden,r0.1.fFixed,r0.1.fSigns,r0.1.fWraps,r0.1.fValue,r0.1.fNext⟩,⟨(),r2.2.fI,r2.2.fH⟩)
 else
 bif (r1.1 == 1) then
  (z1 ⟨(),r1.2.fI,r1.2.fH⟩ 5).bind fun r3=>
  some (⟨r0.1.fId,r3.1,r0.1.fHidden,r0.1.fFixed,r0.1.fSigns,r0.1.fWraps,r0.1.fValue,r0.1.fNext⟩,⟨(),r3.2.fI,r3.2.fH⟩)
 else
  bif (r1.1 == 2) then
  some (⟨r0.1.fId,r0.1.fKind,r0.1.fHidden,r0.1.fFixed,(!r0.1.fSigns),r0.1.fWraps,r0.1.fValue,r0.1.fNext⟩,⟨(),r1.2.fI,r1.2.fH⟩)
  else
  bif (r1.1 == 3) then
   some (⟨r0.1.fId,r0.1.fKind,r0.1.fHidden,r0.1.fFixed,r0.1.fSigns,(!r0.1.fWraps),r0.1.fValue,r0.1.fNext⟩,⟨(),r1.2.fI,r1.2.fH⟩)
  else
   bif (r1.1 == 4) then
   (z2 ⟨(),r1.2.fI,r1.2.fH⟩ [(-(1:Int)),0,16,17]).bind fun r4=>
   some (⟨r0.1.fId,r0.1.fKind,r0.1.fHidden,r0.1.fFixed,r0.1.fSigns,r0.1.fWraps,r0.1.fValue,r4.1⟩,⟨(),r4.2.fI,r4.2.fH⟩)
   else
   bif (r1.1 == 5) then
    (z2 ⟨(),r1.2.fI,r1.2.fH⟩ [31,32,33,100,101]).bind fun r5=>
    (z3 r5.1 70).bind fun r6=>
    some (⟨r0.1.fId,r0.1.fKind,r0.1.fHidden,r0.1.fFixed,r0.1.fSigns,r0.1.fWraps,r6,r0.1.fNext⟩,⟨(),r5.2.fI,r5.2.fH⟩)
   else
    some (r0.1,⟨(),r1.2.fI,r1.2.fH⟩)
noncomputable def Rf:Rl:=Sl Jf LY Ja XZ
theorem Dv:Tells ctx PP 61 cv3 cv29 (fun a=>Rf a):=fn_ok0 (hc Zu (hc Fa (hc En (hc Qn hl_nil)))) Tryd.func61 ((fun z0 z1 z2 z3 a=>by kernel_rfl:∀ z0 z1 z2 z3,EntryIs0 ctx PP 61 [0] [(113,Bv z0),(57,Ia z1),(105,Gn z2),(56,Rn z3)] cv3 cv29 fun a=>Sl z0 z1 z2 z3 a) Jf LY Ja XZ)
noncomputable def Fv {γ:Type} (F:Rl):Hd ctx γ:=hdl cv3.dec (fun a=>F a) cv29.enc
abbrev Ul:=Unit→Option SThing
noncomputable def Vl (z0:Fg) (z1:Rl) (code_0:Unit):Option SThing:=
 (z0 ()).bind fun r0=>
 (z1 ⟨(),r0.fI,r0.fH⟩).bind fun r1=>
 some r1.1
noncomputable def Tf:Ul:=Vl Ea Rf
theorem Gv:Tells ctx PP 13 cv0 cv30 (fun a=>Tf a):=fn_ok0 (hc Ym (hc Dv hl_nil)) Tryd.func13 ((fun z0 z1 a=>by kernel_rfl:∀ z0 z1,EntryIs0 ctx PP 13 [] [(53,Zm z0),(61,Fv z1)] cv0 cv30 fun a=>Vl z0 z1 a) Ea Rf)
noncomputable def Jv {γ:Type} (F:Ul):Hd ctx γ:=hdl cv0.dec (fun a=>F a) cv30.enc
abbrev Wl:=SThing→Option SThing
noncomputable def Wp (x_0:SThing):Option SThing:=
 some ⟨0,x_0.fKind,x_0.fHidden,x_0.fFixed,false,x_0.fWraps,x_0.fValue,0⟩
noncomputable def Ph:Wl:=Wp
theorem Kv:Tells ctx PP 14 cv30 cv30 (fun a=>Ph a):=fn_ok0 hl_nil Tryd.func14 (fun a=>by kernel_rfl:EntryIs0 ctx PP 14 [] [] cv30 cv30 fun a=>Wp a)
noncomputable def Nv {γ:Type} (F:Wl):Hd ctx γ:=hdl cv30.dec (fun a=>F a) cv30.enc
abbrev Xl:=Int→Int→Int→Option Bool
noncomputable def Xp (n_0:Int) (low_1:Int) (high_2:Int):Option Bool:=
 bif (decide (n_0≥low_1)) then
 some (decide (n_0≤high_2))
 else
 some false
noncomputable def Qh:Xl:=Xp
theorem Ov:Tells ctx PP 62 cv22 cv1 (fun a=>Qh a.1 a.2.1 a.2.2):=fn_ok0 hl_nil Tryd.func62 (fun a=>by kernel_rfl:EntryIs0 ctx PP 62 [] [] cv22 cv1 fun a=>Xp a.1 a.2.1 a.2.2)
noncomputable def Pv {γ:Type} (F:Xl):Hd ctx γ:=hdl cv22.dec (fun a=>F a.1 a.2.1 a.2.2) cv1.enc
abbrev Rh:=SThing→Option Bool
noncomputable def Yl (z0:Xl) (x_0:SThing):Option Bool:=
 (z0 x_0.fId 1 1000).bind fun r0=>
 bif (!r0) then
 some false
 else
 (z0 x_0.fNext 0 16).bind fun r1=>
 bif (!r1) then
  some false
 else
  bif (x_0.fKind != 2) then
  bif (x_0.fNext != 0) then
   some false
  else
   bif x_0.fSigns then
   some false
   else
   bif (x_0.fKind != 1) then
    bif x_0.fWraps then
    some false
    else
    bif (x_0.fKind == 1) then
     bif (x_0.fKind == 1) then
     some ((x_0.fValue.size:Int) == 32)
     else
     bif (x_0.fKind == 3) then
      some (decide ((x_0.fValue.size:Int)≤100))
     else
      some false
    else
     bif (x_0.fKind == 2) then
     some ((x_0.fValue.size:Int) == 32)
     else
     bif (x_0.fKind == 3) then
      some (decide ((x_0.fValue.size:Int)≤100))
     else
      some false
   else
    bif (x_0.fKind == 1) then
    bif (x_0.fKind == 1) then
     some ((x_0.fValue.size:Int) == 32)
    else
     bif (x_0.fKind == 3) then
     some (decide ((x_0.fValue.size:Int)≤100))
     else
     some false
    else
    bif (x_0.fKind == 2) then
     some ((x_0.fValue.size:Int) == 32)
    else
     bif (x_0.fKind == 3) then
     some (decide ((x_0.fValue.size:Int)≤100))
     else
     some false
  else
  bif (x_0.fKind != 1) then
   bif x_0.fWraps then
   some false
   else
   bif (x_0.fKind == 1) then
    bif (x_0.fKind == 1) then
    some ((x_0.fValue.size:Int) == 32)
    else
    bif (x_0.fKind == 3) then
     some (decide ((x_0.fValue.size:Int)≤100))
    else
     some false
   else
    bif (x_0.fKind == 2) then
    some ((x_0.fValue.size:Int) == 32)
    else
    bif (x_0.fKind == 3) then
     some (decide ((x_0.fValue.size:Int)≤100))
    else
     some false
  else
   bif (x_0.fKind == 1) then
   bif (x_0.fKind == 1) then
    some ((x_0.fValue.size:Int) == 32)
   else
    bif (x_0.fKind == 3) then
    some (decide ((x_0.fValue.size:Int)≤100))
    else
    some false
   else
   bif (x_0.fKind == 2) then
    some ((x_0.fValue.size:Int) == 32)
   else
    bif (x_0.fKind == 3) then
    some (decide ((x_0.fValue.size:Int)≤100))
    else
    some false
noncomputable def Xa:Rh:=Yl Qh
theorem Yp:Tells ctx PP 16 cv30 cv1 (fun a=>Xa a):=fn_ok0 (hc Ov hl_nil) Tryd.func16 ((fun z0 a=>by kernel_rfl:∀ z0,EntryIs0 ctx PP 16 [] [(62,Pv z0)] cv30 cv1 fun a=>Yl z0 a) Qh)
noncomputable def Zp {γ:Type} (F:Rh):Hd ctx γ:=hdl cv30.dec (fun a=>F a) cv1.enc
abbrev Zl:=SThing→Int→Option Bool
noncomputable def Am (z0:Rh) (x_0:SThing) (do_1:Int):Option Bool:=
 (z0 x_0).bind fun r0=>
 bif (!r0) then
 some false
 else
 bif (do_1 == 1) then
  some (!x_0.fHidden)
 else
  bif (do_1 == 2) then
  bif (!x_0.fFixed) then
   some (x_0.fKind != 2)
  else
   some false
  else
  bif (do_1 == 3) then
   some x_0.fSigns
  else
   bif (do_1 == 4) then
   some x_0.fWraps
   else
   some (do_1 == 5)
noncomputable def Uf:Zl:=Am Xa
theorem Qv:Tells ctx PP 15 cv31 cv1 (fun a=>Uf a.1 a.2):=fn_ok0 (hc Yp hl_nil) Tryd.func15 ((fun z0 a=>by kernel_rfl:∀ z0,EntryIs0 ctx PP 15 [] [(16,Zp z0)] cv31 cv1 fun a=>Am z0 a.1 a.2) Xa)
noncomputable def Sv {γ:Type} (F:Zl):Hd ctx γ:=hdl cv31.dec (fun a=>F a.1 a.2) cv1.enc
abbrev Cm:=SThing→Option Bool
noncomputable def Em (z0:Dh) (x_0:SThing):Option Bool:=
 (z0 x_0.fId 1 1000).bind fun r0=>
 bif (!r0) then
 some false
 else
 (z0 x_0.fKind 1 3).bind fun r1=>
 bif (!r1) then
  some false
 else
  (z0 x_0.fNext 0 16).bind fun r2=>
  bif (!r2) then
  some false
  else
  bif (x_0.fKind != 2) then
   bif (x_0.fNext != 0) then
   some false
   else
   bif x_0.fSigns then
    some false
   else
    bif (x_0.fKind != 1) then
    bif x_0.fWraps then
     some false
    else
     bif (x_0.fKind == 3) then
     some (decide ((x_0.fValue.size:Int)≤100))
     else
     some ((x_0.fValue.size:Int) == 32)
    else
    bif (x_0.fKind == 3) then
     some (decide ((x_0.fValue.size:Int)≤100))
    else
     some ((x_0.fValue.size:Int) == 32)
  else
   bif (x_0.fKind != 1) then
   bif x_0.fWraps then
    some false
   else
    bif (x_0.fKind == 3) then
    some (decide ((x_0.fValue.size:Int)≤100))
    else
    some ((x_0.fValue.size:Int) == 32)
   else
   bif (x_0.fKind == 3) then
    some (decide ((x_0.fValue.size:Int)≤100))
   else
    some ((x_0.fValue.size:Int) == 32)
noncomputable def Vf:Cm:=Em Xb
theorem Tv:Tells ctx PP 17 cv30 cv1 (fun a=>Vf a):=fn_ok0 (hc Uo hl_nil) Tryd.func17 ((fun z0 a=>by kernel_rfl:∀ z0,EntryIs0 ctx PP 17 [] [(63,Vo z0)] cv30 cv1 fun a=>Em z0 a) Xb)
noncomputable def Wv {γ:Type} (F:Cm):Hd ctx γ:=hdl cv30.dec (fun a=>F a) cv1.enc
abbrev Aq:=Unit→Option Bool
noncomputable def Gm (z0:Di) (z1:Yi) (z2:Yj) (z3:Il) (z4:Ul) (z5:Wl) (z6:Zl) (z7:Rh) (z8:Cm) (code_0:Unit):Option Bool:=
 (z0 ()).bind fun r0=>
 bif r0 then
 some true
 else
 (z1 ()).bind fun r1=>
 (z2 r1.1 r1.2).bind fun r2=>
 (z3 r1.1 r1.2).bind fun r3=>
 bif (!(r2.2 == r3.2)) then
  some false
 else
  bif (!((r2.1.fId == r3.1.fId) && ((r2.1.fKind == r3.1.fKind) && ((r2.1.fHidden == r3.1.fHidden) && ((r2.1.fFixed == r3.1.fFixed) && ((r2.1.fSigns == r3.1.fSigns) && ((r2.1.fWraps == r3.1.fWraps) && (((ByteArray.toList r2.1.fValue) == (ByteArray.toList r3.1.fValue)) && ((r2.1.fNext == r3.1.fNext) && true))))))))) then
  some false
  else
  (z4 ()).bind fun r4=>
  (z5 r4).bind fun r5=>
  bif r5.fSigns then
   some false
  else
   bif (r5.fNext != 0) then
   some false
   else
   bif (r5.fId != 0) then
    some false
   else
    bif (!((ByteArray.toList r5.fValue) == (ByteArray.toList r4.fValue))) then
    some false
    else
    bif (!(r5.fHidden == r4.fHidden)) then
     some false
    else
     bif (!(r5.fFixed == r4.fFixed)) then
     some false
     else
     (z6 r5 3).bind fun r6=>
     bif r6 then
      some false
     else
      bif (!r2.2) then
      (z8 r4).bind fun r7=>
      bif (!r7) then
       bif r2.2 then
       some true
       else
       bif (decide (r1.1<1)) then
        some true
       else
        bif (decide (r1.1 > 3)) then
        some true
        else
        some (decide ((r1.2.size:Int) > 100))
      else
       (z7 ⟨1,r5.fKind,r5.fHidden,r5.fFixed,r5.fSigns,r5.fWraps,r5.fValue,r5.fNext⟩).bind fun r8=>
       bif r8 then
       bif r2.2 then
        some true
       else
        bif (decide (r1.1<1)) then
        some true
        else
        bif (decide (r1.1 > 3)) then
         some true
        else
         some (decide ((r1.2.size:Int) > 100))
       else
       some false
      else
      (z7 ⟨1,r2.1.fKind,r2.1.fHidden,r2.1.fFixed,r2.1.fSigns,r2.1.fWraps,r2.1.fValue,r2.1.fNext⟩).bind fun r9=>
      bif r9 then
       (z8 r4).bind fun r10=>
       bif (!r10) then
       bif r2.2 then
        some true
       else
        bif (decide (r1.1<1)) then
        some true
        else
        bif (decide (r1.1 > 3)) then
         some true
        else
         some (decide ((r1.2.size:Int) > 100))
       else
       (z7 ⟨1,r5.fKind,r5.fHidden,r5.fFixed,r5.fSigns,r5.fWraps,r5.fValue,r5.fNext⟩).bind fun r11=>
       bif r11 then
        bif r2.2 then
        some true
        else
        bif (decide (r1.1<1)) then
         some true
        else
         bif (decide (r1.1 > 3)) then
         some true
         else
         some (decide ((r1.2.size:Int) > 100))
       else
        some false
      else
       some false
noncomputable def laws_FnDefaults:Aq:=Gm Bg Jd Ie Gf Tf Ph Uf Xa Vf
theorem ok_laws_FnDefaults:Tells ctx PP 3 cv0 cv1 (fun a=>laws_FnDefaults a):=fn_ok0 (hc Zr (hc Ls (hc Au (hc Vu (hc Gv (hc Kv (hc Qv (hc Yp (hc Tv hl_nil))))))))) Tryd.func3 ((fun z0 z1 z2 z3 z4 z5 z6 z7 z8 a=>by kernel_rfl:∀ z0 z1 z2 z3 z4 z5 z6 z7 z8,EntryIs0 ctx PP 3 [] [(9,Es z0),(10,Ns z1),(11,Du z2),(12,Wu z3),(13,Jv z4),(14,Nv z5),(15,Sv z6),(16,Zp z7),(17,Wv z8)] cv0 cv1 fun a=>Gm z0 z1 z2 z3 z4 z5 z6 z7 z8 a) Bg Jd Ie Gf Tf Ph Uf Xa Vf)
noncomputable def O3 {γ:Type} (F:Aq):Hd ctx γ:=hdl cv0.dec (fun a=>F a) cv1.enc
end Go.Proofs.YtjfkbidckphneaaDoor.G

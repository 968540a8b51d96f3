/- Functions of the program, told by plain functions: part 1 of 1. -/
import Derived.Test.YtjfkbidckphneaaDoorCtx
namespace Go.Proofs.YtjfkbidckphneaaDoor.G
open Go Go.Ev
set_option linter.unusedVariables false
set_option linter.unusedSectionVars false
variable [PC]
abbrev Un:=Unit→Option Bool
noncomputable def Vu (code_0:Unit):Option Bool:=
 some (decide ((codeL.length:Int) > 1048576))
noncomputable def Wj:Un:=Vu
theorem J6:Tells ctx PP 9 cv0 cv1 (fun a=>Wj a):=fn_ok0 hl_nil Tryd.func9 (fun a=>by kernel_rfl:EntryIs0 ctx PP 9 [] [] cv0 cv1 fun a=>Vu a)
noncomputable def L6 {γ:Type} (F:Un):Hd ctx γ:=hdl cv0.dec (fun a=>F a) cv1.enc
abbrev Xj:=Unit→Option SL01Cur
inductive Vf where
 | c0 (h_3:Int) (i_4:Int)
noncomputable def Wu:Vf→LI
 | .c0 h_3 i_4=>(tdo Tryd.f53 464,[(0,[.one (.csl)]),(3,[.one (.int .i64 h_3)]),(4,[.one (.int .i64 i_4)])],[])
noncomputable def Wn (k:Vf→Option SL01Cur) (code_0:Unit):Option SL01Cur:=
 k (.c0 (w64 (27401+(codeL.length:Int))) 0)
noncomputable def Yj (k:Vf→Option SL01Cur):Vf→Option SL01Cur
 | .c0 h_3 i_4=>
 bif (decide (i_4<(codeL.length:Int))) then
  bif (decide (i_4<4000)) then
  bif ((decide (0≤i_4)) && (decide (i_4<(codeL.length:Int)))) then
  bif (Nat.blt i_4.toNat codeL.length) then
  k (.c0 (w64 (((BitVec.toNat ((BitVec.ofInt (IntKind.bits IntKind.i64) (w64 ((w64 ((w64 (h_3*131))+(w64 (codeL.getD i_4.toNat 0))))+7))) &&& (BitVec.ofInt (IntKind.bits IntKind.i64) 1073741823))):Nat):Int)) (w64 (i_4+1)))
  else none
  else none
  else
  some ⟨(),0,h_3⟩
 else
  some ⟨(),0,h_3⟩
noncomputable def Xf:Nat→Vf→Option SL01Cur
 | 0,_=>none
 | m+1,s=>Yj (Xf m) s
noncomputable def Nc:Xj:=Wn (Xf gas)
theorem Xu:Tells ctx PP 53 cv0 cv2 (fun a=>Nc a):=
 have b:CutIs ctx PP 53 Tryd.f53 [] [] cv2 Wu (Yj):=fun _ s=>by cases s <;> kernel_rfl
 have e:EntryIs ctx PP 53 [] [] cv0 cv2 Wu (fun k a=>Wn k a):=fun _ a=>by kernel_rfl
 fn_ok hl_nil Tryd.func53 (fun s s' h=>by cases s;cases s';cases h;rfl) (fun _=>rfl) (fun _ _=>rfl) b e gas
noncomputable def Yu {γ:Type} (F:Xj):Hd ctx γ:=hdl cv0.dec (fun a=>F a) cv2.enc
abbrev Yf:=SL01Cur→Option (Int×SL01Cur)
noncomputable def Xn (c_0:SL01Cur):Option (Int×SL01Cur):=
 bif (decide (c_0.fI<(codeL.length:Int))) then
 bif ((decide (0≤c_0.fI)) && (decide (c_0.fI<(codeL.length:Int)))) then
 bif (Nat.blt c_0.fI.toNat codeL.length) then
 some ((w64 (((BitVec.toNat ((BitVec.ofInt (IntKind.bits IntKind.i64) (w64 ((w64 (((BitVec.toNat ((BitVec.ofInt (IntKind.bits IntKind.i64) (w64 (((BitVec.toNat ((BitVec.ofInt (IntKind.bits IntKind.i64) (Int.fdiv (w64 ((w64 (c_0.fH*6364136223846793005))+1442695040888963407)) (2 ^ (Min.min (33:Int).toNat (IntKind.bits IntKind.i64))))) ^^^ (BitVec.ofInt (IntKind.bits IntKind.i64) (Int.fdiv (w64 ((w64 (c_0.fH*6364136223846793005))+1442695040888963407)) (2 ^ (Min.min (45:Int).toNat (IntKind.bits IntKind.i64))))))):Nat):Int))) &&& (BitVec.ofInt (IntKind.bits IntKind.i64) 255))):Nat):Int))+(w64 (codeL.getD c_0.fI.toNat 0))))) &&& (BitVec.ofInt (IntKind.bits IntKind.i64) 255))):Nat):Int)),⟨(),(w64 (c_0.fI+1)),(w64 ((w64 (c_0.fH*6364136223846793005))+1442695040888963407))⟩)
 else none
 else none
 else
 some ((w64 (((BitVec.toNat ((BitVec.ofInt (IntKind.bits IntKind.i64) (w64 (((BitVec.toNat ((BitVec.ofInt (IntKind.bits IntKind.i64) (Int.fdiv (w64 ((w64 (c_0.fH*6364136223846793005))+1442695040888963407)) (2 ^ (Min.min (33:Int).toNat (IntKind.bits IntKind.i64))))) ^^^ (BitVec.ofInt (IntKind.bits IntKind.i64) (Int.fdiv (w64 ((w64 (c_0.fH*6364136223846793005))+1442695040888963407)) (2 ^ (Min.min (45:Int).toNat (IntKind.bits IntKind.i64))))))):Nat):Int))) &&& (BitVec.ofInt (IntKind.bits IntKind.i64) 255))):Nat):Int)),⟨(),c_0.fI,(w64 ((w64 (c_0.fH*6364136223846793005))+1442695040888963407))⟩)
noncomputable def Xa:Yf:=Xn
theorem Zu:Tells ctx PP 93 cv3 cv4 (fun a=>Xa a):=fn_ok0 hl_nil Tryd.func93 (fun a=>by kernel_rfl:EntryIs0 ctx PP 93 [0] [] cv3 cv4 fun a=>Xn a)
noncomputable def Yn {γ:Type} (F:Yf):Hd ctx γ:=hdl cv3.dec (fun a=>F a) cv4.enc
abbrev Ya:=SL01Cur→Int→Option (Int×SL01Cur)
noncomputable def Zn (z0:Yf) (c_0:SL01Cur) (n_1:Int):Option (Int×SL01Cur):=
 bif (decide (n_1≤0)) then
 some (0,⟨(),c_0.fI,c_0.fH⟩)
 else
 bif (decide (n_1≤256)) then
  (z0 ⟨(),c_0.fI,c_0.fH⟩).bind fun r0=>
  bif (!(n_1 == 0)) then
  some ((r0.1.tmod n_1),⟨(),r0.2.fI,r0.2.fH⟩)
  else none
 else
  (z0 ⟨(),c_0.fI,c_0.fH⟩).bind fun r1=>
  (z0 ⟨(),r1.2.fI,r1.2.fH⟩).bind fun r2=>
  (z0 ⟨(),r2.2.fI,r2.2.fH⟩).bind fun r3=>
  (z0 ⟨(),r3.2.fI,r3.2.fH⟩).bind fun r4=>
  bif (!(n_1 == 0)) then
  some (((w64 ((w64 ((w64 ((w64 (r1.1*16777216))+(w64 (r2.1*65536))))+(w64 (r3.1*256))))+r4.1)).tmod n_1),⟨(),r4.2.fI,r4.2.fH⟩)
  else none
noncomputable def UY:Ya:=Zn Xa
theorem Oc:Tells ctx PP 57 cv5 cv4 (fun a=>UY a.1 a.2):=fn_ok0 (hc Zu hl_nil) Tryd.func57 ((fun z0 a=>by kernel_rfl:∀ z0,EntryIs0 ctx PP 57 [0] [(93,Yn z0)] cv5 cv4 fun a=>Zn z0 a.1 a.2) Xa)
noncomputable def Qc {γ:Type} (F:Ya):Hd ctx γ:=hdl cv5.dec (fun a=>F a.1 a.2) cv4.enc
abbrev Zf:=SL01Cur→Int→Option (ByteArray×SL01Cur)
inductive Ag where
 | c0 (n_1:Int) (i_6:Int) (c_0c1:Int) (c_0c2:Int) (out_5:(List Int))
noncomputable def Bv:Ag→LI
 | .c0 n_1 i_6 c_0c1 c_0c2 out_5=>(tdo Tryd.f58 976,[(0,[.one (.ptr 0 0)]),(1,[.one (.int .i64 n_1)]),(5,[.one (.own 368)]),(6,[.one (.int .i64 i_6)])],[(0,.var [.csl,.int .i64 c_0c1,.int .i64 c_0c2]),(368,.sl 5 out_5)])
noncomputable def Bo (z0:Yf) (k:Ag→Option (ByteArray×SL01Cur)) (c_0:SL01Cur) (n_1:Int):Option (ByteArray×SL01Cur):=
 bif (decide (n_1 > 5000)) then
 k (.c0 5000 0 c_0.fI c_0.fH [])
 else
 k (.c0 n_1 0 c_0.fI c_0.fH [])
noncomputable def Zj (z0:Yf) (k:Ag→Option (ByteArray×SL01Cur)):Ag→Option (ByteArray×SL01Cur)
 | .c0 n_1 i_6 c_0c1 c_0c2 out_5=>
 bif (decide (i_6<n_1)) then
  (z0 ⟨(),c_0c1,c_0c2⟩).bind fun r0=>
  bif (decide (((out_5.length+1)*1)≤140737488355328)) then
  k (.c0 n_1 (w64 (i_6+1)) r0.2.fI r0.2.fH (out_5++[(w8 r0.1)]))
  else none
 else
  some ((ofBytes out_5),⟨(),c_0c1,c_0c2⟩)
noncomputable def Qe:Nat→Ag→Option (ByteArray×SL01Cur)
 | 0,_=>none
 | m+1,s=>Zj Xa (Qe m) s
noncomputable def Za:Zf:=Bo Xa (Qe gas)
theorem Eo:Tells ctx PP 58 cv5 cv10 (fun a=>Za a.1 a.2):=
 have b:∀ z0,CutIs ctx PP 58 Tryd.f58 [0] [(93,Yn z0)] cv10 Bv (Zj z0):=fun z0 _ s=>by cases s <;> kernel_rfl
 have e:∀ z0,EntryIs ctx PP 58 [0] [(93,Yn z0)] cv5 cv10 Bv (fun k a=>Bo z0 k a.1 a.2):=fun z0 _ a=>by kernel_rfl
 fn_ok (hc Zu hl_nil) Tryd.func58 (fun s s' h=>by cases s;cases s';cases h;rfl) (fun _=>rfl) (fun _ _=>rfl) (b Xa) (e Xa) gas
noncomputable def Ho {γ:Type} (F:Zf):Hd ctx γ:=hdl cv5.dec (fun a=>F a.1 a.2) cv10.enc
abbrev Bg:=SL01Cur→(List Int)→Option (Int×SL01Cur)
noncomputable def Io (z0:Ya) (c_0:SL01Cur) (list_1:(List Int)):Option (Int×SL01Cur):=
 (z0 ⟨(),c_0.fI,c_0.fH⟩ (list_1.length:Int)).bind fun r0=>
 bif ((decide (0≤r0.1)) && (decide (r0.1<(list_1.length:Int)))) then
 some ((list_1.getD r0.1.toNat 0),⟨(),r0.2.fI,r0.2.fH⟩)
 else none
noncomputable def Cb:Bg:=Io UY
theorem Jo:Tells ctx PP 105 cv7 cv4 (fun a=>Cb a.1 a.2):=fn_ok0 (hc Oc hl_nil) Tryd.func105 ((fun z0 a=>by kernel_rfl:∀ z0,EntryIs0 ctx PP 105 [0] [(57,Qc z0)] cv7 cv4 fun a=>Io z0 a.1 a.2) UY)
noncomputable def Ko {γ:Type} (F:Bg):Hd ctx γ:=hdl cv7.dec (fun a=>F a.1 a.2) cv4.enc
abbrev Ak:=Int→Int→Option ByteArray
inductive Fg where
 | c0 (n_0:Int) (x_1:Int) (i_6:Int) (out_5:(List Int))
noncomputable def Dv:Fg→LI
 | .c0 n_0 x_1 i_6 out_5=>(tdo Tryd.f56 464,[(0,[.one (.int .i64 n_0)]),(1,[.one (.int .u8 x_1)]),(5,[.one (.own 368)]),(6,[.one (.int .i64 i_6)])],[(368,.sl 5 out_5)])
noncomputable def Oo (k:Fg→Option ByteArray) (n_0:Int) (x_1:Int):Option ByteArray:=
 bif ((((decide (0≤n_0)) && (decide (n_0≤n_0))) && (decide (n_0≤9223372036854775807))) && (decide ((n_0.toNat*1)≤140737488355328))) then
 k (.c0 n_0 x_1 0 (List.replicate n_0.toNat (0:Int)))
 else none
noncomputable def Ik (k:Fg→Option ByteArray):Fg→Option ByteArray
 | .c0 n_0 x_1 i_6 out_5=>
 bif (decide (i_6<n_0)) then
  bif ((decide (0≤i_6)) && (decide (i_6<(out_5.length:Int)))) then
  k (.c0 n_0 x_1 (w64 (i_6+1)) (out_5.set i_6.toNat x_1))
  else none
 else
  some (ofBytes out_5)
noncomputable def Gg:Nat→Fg→Option ByteArray
 | 0,_=>none
 | m+1,s=>Ik (Gg m) s
noncomputable def Xb:Ak:=Oo (Gg gas)
theorem Fv:Tells ctx PP 56 cv8 cv9 (fun a=>Xb a.1 a.2):=
 have b:CutIs ctx PP 56 Tryd.f56 [] [] cv9 Dv (Ik):=fun _ s=>by cases s <;> kernel_rfl
 have e:EntryIs ctx PP 56 [] [] cv8 cv9 Dv (fun k a=>Oo k a.1 a.2):=fun _ a=>by kernel_rfl
 fn_ok hl_nil Tryd.func56 (fun s s' h=>by cases s;cases s';cases h;rfl) (fun _=>rfl) (fun _ _=>rfl) b e gas
noncomputable def Gv {γ:Type} (F:Ak):Hd ctx γ:=hdl cv8.dec (fun a=>F a.1 a.2) cv9.enc
abbrev Jk:=SL01Cur→Option (ByteArray×SL01Cur)
noncomputable def Po (z0:Ya) (z1:Zf) (z2:Bg) (z3:Ak) (c_0:SL01Cur):Option (ByteArray×SL01Cur):=
 (z0 ⟨(),c_0.fI,c_0.fH⟩ 6).bind fun r0=>
 (z1 ⟨(),r0.2.fI,r0.2.fH⟩ r0.1).bind fun r1=>
 (z2 ⟨(),r1.2.fI,r1.2.fH⟩ [0,0,26,58,63,64,65,80]).bind fun r2=>
 (z3 r2.1 7).bind fun r3=>
 bif (decide ((r1.1.size+r3.size)≤9223372036854775807)) then
 some ((r1.1++r3),⟨(),r2.2.fI,r2.2.fH⟩)
 else none
noncomputable def Tc:Jk:=Po UY Za Cb Xb
theorem Jv:Tells ctx PP 64 cv3 cv10 (fun a=>Tc a):=fn_ok0 (hc Oc (hc Eo (hc Jo (hc Fv hl_nil)))) Tryd.func64 ((fun z0 z1 z2 z3 a=>by kernel_rfl:∀ z0 z1 z2 z3,EntryIs0 ctx PP 64 [0] [(57,Qc z0),(58,Ho z1),(105,Ko z2),(56,Gv z3)] cv3 cv10 fun a=>Po z0 z1 z2 z3 a) UY Za Cb Xb)
noncomputable def Kv {γ:Type} (F:Jk):Hd ctx γ:=hdl cv3.dec (fun a=>F a) cv10.enc
abbrev Qo:=SL01Cur→Int→Option (Bool×SL01Cur)
noncomputable def Ro (z0:Ya) (c_0:SL01Cur) (n_1:Int):Option (Bool×SL01Cur):=
 (z0 ⟨(),c_0.fI,c_0.fH⟩ n_1).bind fun r0=>
 some ((r0.1 == 0),⟨(),r0.2.fI,r0.2.fH⟩)
noncomputable def Hg:Qo:=Ro UY
theorem O6:Tells ctx PP 54 cv5 cv6 (fun a=>Hg a.1 a.2):=fn_ok0 (hc Oc hl_nil) Tryd.func54 ((fun z0 a=>by kernel_rfl:∀ z0,EntryIs0 ctx PP 54 [0] [(57,Qc z0)] cv5 cv6 fun a=>Ro z0 a.1 a.2) UY)
noncomputable def P6 {γ:Type} (F:Qo):Hd ctx γ:=hdl cv5.dec (fun a=>F a.1 a.2) cv6.enc
abbrev Uo:=SL01Cur→Int→Option (Int×SL01Cur)
noncomputable def Vo (z0:Qo) (z1:Bg) (z2:Ya) (c_0:SL01Cur) (n_1:Int):Option (Int×SL01Cur):=
 (z0 ⟨(),c_0.fI,c_0.fH⟩ 15).bind fun r0=>
 bif r0.1 then
 (z1 ⟨(),r0.2.fI,r0.2.fH⟩ [(-(1:Int)),n_1,(w64 (n_1+1)),9223372036854775807,(-(9223372036854775808:Int))]).bind fun r1=>
 some (r1.1,⟨(),r1.2.fI,r1.2.fH⟩)
 else
 (z2 ⟨(),r0.2.fI,r0.2.fH⟩ n_1).bind fun r2=>
 some (r2.1,⟨(),r2.2.fI,r2.2.fH⟩)
noncomputable def Ig:Uo:=Vo Hg Cb UY
theorem U6:Tells ctx PP 55 cv5 cv4 (fun a=>Ig a.1 a.2):=fn_ok0 (hc O6 (hc Jo (hc Oc hl_nil))) Tryd.func55 ((fun z0 z1 z2 a=>by kernel_rfl:∀ z0 z1 z2,EntryIs0 ctx PP 55 [0] [(54,P6 z0),(105,Ko z1),(57,Qc z2)] cv5 cv4 fun a=>Vo z0 z1 z2 a.1 a.2) Hg Cb UY)
noncomputable def V6 {γ:Type} (F:Uo):Hd ctx γ:=hdl cv5.dec (fun a=>F a.1 a.2) cv4.enc
abbrev Nk:=SL01Cur→Option (ByteArray×SL01Cur)
noncomputable def Xo (z0:Ya) (z1:Zf) (z2:Bg) (z3:Ak) (c_0:SL01Cur):Option (ByteArray×SL01Cur):=
 (z0 ⟨(),c_0.fI,c_0.fH⟩ 9).bind fun r0=>
 (z1 ⟨(),r0.2.fI,r0.2.fH⟩ r0.1).bind fun r1=>
 (z2 ⟨(),r1.2.fI,r1.2.fH⟩ [0,0,5,13,14,15,40]).bind fun r2=>
 (z3 r2.1 66).bind fun r3=>
 bif (decide ((r1.1.size+r3.size)≤9223372036854775807)) then
 some ((r1.1++r3),⟨(),r2.2.fI,r2.2.fH⟩)
 else none
noncomputable def Uc:Nk:=Xo UY Za Cb Xb
theorem Nv:Tells ctx PP 65 cv3 cv10 (fun a=>Uc a):=fn_ok0 (hc Oc (hc Eo (hc Jo (hc Fv hl_nil)))) Tryd.func65 ((fun z0 z1 z2 z3 a=>by kernel_rfl:∀ z0 z1 z2 z3,EntryIs0 ctx PP 65 [0] [(57,Qc z0),(58,Ho z1),(105,Ko z2),(56,Gv z3)] cv3 cv10 fun a=>Xo z0 z1 z2 z3 a) UY Za Cb Xb)
noncomputable def Ov {γ:Type} (F:Nk):Hd ctx γ:=hdl cv3.dec (fun a=>F a) cv10.enc
abbrev Yo:=Unit→Option (ByteArray×Int×ByteArray)
noncomputable def Zo (z0:Xj) (z1:Jk) (z2:Uo) (z3:Nk) (code_0:Unit):Option (ByteArray×Int×ByteArray):=
 (z0 ()).bind fun r0=>
 (z1 ⟨(),r0.fI,r0.fH⟩).bind fun r1=>
 (z2 ⟨(),r1.2.fI,r1.2.fH⟩ 300).bind fun r2=>
 (z3 ⟨(),r2.2.fI,r2.2.fH⟩).bind fun r3=>
 some (r1.1,(r2.1,r3.1))
noncomputable def Jg:Yo:=Zo Nc Tc Ig Uc
theorem X6:Tells ctx PP 18 cv0 cv32 (fun a=>Jg a):=fn_ok0 (hc Xu (hc Jv (hc U6 (hc Nv hl_nil)))) Tryd.func18 ((fun z0 z1 z2 z3 a=>by kernel_rfl:∀ z0 z1 z2 z3,EntryIs0 ctx PP 18 [] [(53,Yu z0),(64,Kv z1),(55,V6 z2),(65,Ov z3)] cv0 cv32 fun a=>Zo z0 z1 z2 z3 a) Nc Tc Ig Uc)
noncomputable def Y6 {γ:Type} (F:Yo):Hd ctx γ:=hdl cv0.dec (fun a=>F a) cv32.enc
abbrev Og:=Int→Int→Int→Option Bool
noncomputable def Pv (n_0:Int) (low_1:Int) (high_2:Int):Option Bool:=
 bif (decide (n_0≥low_1)) then
 some (decide (n_0≤high_2))
 else
 some false
noncomputable def Yb:Og:=Pv
theorem Qv:Tells ctx PP 62 cv22 cv1 (fun a=>Yb a.1 a.2.1 a.2.2):=fn_ok0 hl_nil Tryd.func62 (fun a=>by kernel_rfl:EntryIs0 ctx PP 62 [] [] cv22 cv1 fun a=>Pv a.1 a.2.1 a.2.2)
noncomputable def Ap {γ:Type} (F:Og):Hd ctx γ:=hdl cv22.dec (fun a=>F a.1 a.2.1 a.2.2) cv1.enc
abbrev Qk:=Int→Option ByteArray
inductive Pg where
 | c0 (n_0:Int) (out_3:(List Int))
noncomputable def Sv:Pg→LI
 | .c0 n_0 out_3=>(tdo Tryd.f114 224,[(0,[.one (.int .i64 n_0)]),(3,[.one (.own 240)])],[(240,.sl 5 out_3)])
noncomputable def Tv (k:Pg→Option ByteArray) (n_0:Int):Option ByteArray:=
 k (.c0 n_0 [])
noncomputable def Rk (k:Pg→Option ByteArray):Pg→Option ByteArray
 | .c0 n_0 out_3=>
 bif (decide (n_0 > 127)) then
  bif (decide (((out_3.length+1)*1)≤140737488355328)) then
  k (.c0 (w64 (n_0.tdiv 128)) (out_3++[(w8 (w64 (128+(n_0.tmod 128))))]))
  else none
 else
  bif (decide (((out_3.length+1)*1)≤140737488355328)) then
  some (ofBytes (out_3++[(w8 n_0)]))
  else none
noncomputable def Qg:Nat→Pg→Option ByteArray
 | 0,_=>none
 | m+1,s=>Rk (Qg m) s
noncomputable def Ue:Qk:=Tv (Qg gas)
theorem Wv:Tells ctx PP 114 cv14 cv9 (fun a=>Ue a):=
 have b:CutIs ctx PP 114 Tryd.f114 [] [] cv9 Sv (Rk):=fun _ s=>by cases s <;> kernel_rfl
 have e:EntryIs ctx PP 114 [] [] cv14 cv9 Sv (fun k a=>Tv k a):=fun _ a=>by kernel_rfl
 fn_ok hl_nil Tryd.func114 (fun s s' h=>by cases s;cases s';cases h;rfl) (fun _=>rfl) (fun _ _=>rfl) b e gas
noncomputable def Xv {γ:Type} (F:Qk):Hd ctx γ:=hdl cv14.dec (fun a=>F a) cv9.enc
abbrev Uk:=Int→Option (ByteArray×Bool)
noncomputable def Dp (z0:Og) (z1:Qk) (n_0:Int):Option (ByteArray×Bool):=
 (z0 n_0 0 1000000000).bind fun r0=>
 bif (!r0) then
 some (⟨#[]⟩,false)
 else
 (z1 n_0).bind fun r1=>
 some (r1,true)
noncomputable def Xc:Uk:=Dp Yb Ue
theorem D7:Tells ctx PP 73 cv14 cv33 (fun a=>Xc a):=fn_ok0 (hc Qv (hc Wv hl_nil)) Tryd.func73 ((fun z0 z1 a=>by kernel_rfl:∀ z0 z1,EntryIs0 ctx PP 73 [] [(62,Ap z0),(114,Xv z1)] cv14 cv33 fun a=>Dp z0 z1 a) Yb Ue)
noncomputable def Yv {γ:Type} (F:Uk):Hd ctx γ:=hdl cv14.dec (fun a=>F a) cv33.enc
abbrev Vk:=Int→Option ByteArray
noncomputable def Ep (n_0:Int):Option ByteArray:=
 some (ofBytes [(w8 n_0)])
noncomputable def Yc:Vk:=Ep
theorem F7:Tells ctx PP 75 cv14 cv9 (fun a=>Yc a):=fn_ok0 hl_nil Tryd.func75 (fun a=>by kernel_rfl:EntryIs0 ctx PP 75 [] [] cv14 cv9 fun a=>Ep a)
noncomputable def Zv {γ:Type} (F:Vk):Hd ctx γ:=hdl cv14.dec (fun a=>F a) cv9.enc
abbrev Fp:=Option (List Int)
noncomputable def Aw  : Option (List Int):=
 some [1779033703,3144134277,1013904242,2773480762,1359893119,2600822924,528734635,1541459225]
noncomputable def Xk:Fp:=Aw
theorem G7:Tells ctx PP 107 cv12 cv13 (fun _=>Xk):=fn_ok0 hl_nil Tryd.func107 (fun _=>by kernel_rfl:EntryIs0 ctx PP 107 [] [] cv12 cv13 fun _=>Aw)
noncomputable def H7 {γ:Type} (F:Fp):Hd ctx γ:=hdl cv12.dec (fun _=>F) cv13.enc
abbrev Yk:=Int→Option ByteArray
noncomputable def Gp (n_0:Int):Option ByteArray:=
 bif ((((decide (0≤n_0)) && (decide (n_0≤n_0))) && (decide (n_0≤9223372036854775807))) && (decide ((n_0.toNat*1)≤140737488355328))) then
 some (ofBytes (List.replicate n_0.toNat (0:Int)))
 else none
noncomputable def Zb:Yk:=Gp
theorem Dw:Tells ctx PP 92 cv14 cv9 (fun a=>Zb a):=fn_ok0 hl_nil Tryd.func92 (fun a=>by kernel_rfl:EntryIs0 ctx PP 92 [] [] cv14 cv9 fun a=>Gp a)
noncomputable def Ew {γ:Type} (F:Yk):Hd ctx γ:=hdl cv14.dec (fun a=>F a) cv9.enc
abbrev Ug:=Int→Option ByteArray
noncomputable def Ip (n_0:Int):Option ByteArray:=
 some (ofBytes [(w8 (Int.fdiv n_0 (2 ^ (Min.min (24:Int).toNat (IntKind.bits IntKind.u32))))),(w8 (Int.fdiv n_0 (2 ^ (Min.min (16:Int).toNat (IntKind.bits IntKind.u32))))),(w8 (Int.fdiv n_0 (2 ^ (Min.min (8:Int).toNat (IntKind.bits IntKind.u32))))),(w8 n_0)])
noncomputable def Eb:Ug:=Ip
theorem Gw:Tells ctx PP 134 cv15 cv9 (fun a=>Eb a):=fn_ok0 hl_nil Tryd.func134 (fun a=>by kernel_rfl:EntryIs0 ctx PP 134 [] [] cv15 cv9 fun a=>Ip a)
noncomputable def Jp {γ:Type} (F:Ug):Hd ctx γ:=hdl cv15.dec (fun a=>F a) cv9.enc
abbrev Np:=Int→Option ByteArray
noncomputable def Qp (z0:Ug) (n_0:Int):Option ByteArray:=
 (z0 (w32 (Int.fdiv n_0 (2 ^ (Min.min (32:Int).toNat (IntKind.bits IntKind.i64)))))).bind fun r0=>
 (z0 (w32 n_0)).bind fun r1=>
 bif (decide ((r0.size+r1.size)≤9223372036854775807)) then
 some (r0++r1)
 else none
noncomputable def Vg:Np:=Qp Eb
theorem I7:Tells ctx PP 133 cv14 cv9 (fun a=>Vg a):=fn_ok0 (hc Gw hl_nil) Tryd.func133 ((fun z0 a=>by kernel_rfl:∀ z0,EntryIs0 ctx PP 133 [] [(134,Jp z0)] cv14 cv9 fun a=>Qp z0 a) Eb)
noncomputable def J7 {γ:Type} (F:Np):Hd ctx γ:=hdl cv14.dec (fun a=>F a) cv9.enc
abbrev Vp:=Int→Option ByteArray
noncomputable def Wp (z0:Yk) (z1:Np) (count_0:Int):Option ByteArray:=
 (z0 ((w64 (119 - (count_0.tmod 64))).tmod 64)).bind fun r0=>
 bif (decide (((⟨#[128]⟩:ByteArray).size+r0.size)≤9223372036854775807)) then
 (z1 (w64 (8*count_0))).bind fun r1=>
 bif (decide ((((⟨#[128]⟩:ByteArray)++r0).size+r1.size)≤9223372036854775807)) then
 some (((⟨#[128]⟩:ByteArray)++r0)++r1)
 else none
 else none
noncomputable def Xg:Vp:=Wp Zb Vg
theorem N7:Tells ctx PP 108 cv14 cv9 (fun a=>Xg a):=fn_ok0 (hc Dw (hc I7 hl_nil)) Tryd.func108 ((fun z0 z1 a=>by kernel_rfl:∀ z0 z1,EntryIs0 ctx PP 108 [] [(92,Ew z0),(133,J7 z1)] cv14 cv9 fun a=>Wp z0 z1 a) Zb Vg)
noncomputable def O7 {γ:Type} (F:Vp):Hd ctx γ:=hdl cv14.dec (fun a=>F a) cv9.enc
abbrev Xp:=Int→Int→Option Int
noncomputable def Yp (x_0:Int) (k_1:Int):Option Int:=
 bif (decide (0≤(wu64 (32 - (wu64 (((BitVec.toNat ((BitVec.ofInt (IntKind.bits IntKind.u64) (wu64 k_1)) &&& (BitVec.ofInt (IntKind.bits IntKind.u64) 31))):Nat):Int)))))) then
 some (w32 (((BitVec.toNat ((BitVec.ofInt (IntKind.bits IntKind.u32) (w32 (x_0*(2 ^ (Min.min (wu64 (((BitVec.toNat ((BitVec.ofInt (IntKind.bits IntKind.u64) (wu64 k_1)) &&& (BitVec.ofInt (IntKind.bits IntKind.u64) 31))):Nat):Int)).toNat (IntKind.bits IntKind.u32)))))) ||| (BitVec.ofInt (IntKind.bits IntKind.u32) (Int.fdiv x_0 (2 ^ (Min.min (wu64 (32 - (wu64 (((BitVec.toNat ((BitVec.ofInt (IntKind.bits IntKind.u64) (wu64 k_1)) &&& (BitVec.ofInt (IntKind.bits IntKind.u64) 31))):Nat):Int)))).toNat (IntKind.bits IntKind.u32))))))):Nat):Int))
 else none
noncomputable def Yg:Xp:=Yp
theorem P7:Tells ctx PP 163 cv16 cv15 (fun a=>Yg a.1 a.2):=fn_ok0 hl_nil Tryd.func163 (fun a=>by kernel_rfl:EntryIs0 ctx PP 163 [] [] cv16 cv15 fun a=>Yp a.1 a.2)
noncomputable def Q7 {γ:Type} (F:Xp):Hd ctx γ:=hdl cv16.dec (fun a=>F a.1 a.2) cv15.enc
abbrev Ve:=Int→Int→Option Int
noncomputable def Zp (z0:Xp) (x_0:Int) (n_1:Int):Option Int:=
 (z0 x_0 (w64 (0 - n_1))).bind fun r0=>
 some r0
noncomputable def QY:Ve:=Zp Yg
theorem Hw:Tells ctx PP 154 cv16 cv15 (fun a=>QY a.1 a.2):=fn_ok0 (hc P7 hl_nil) Tryd.func154 ((fun z0 a=>by kernel_rfl:∀ z0,EntryIs0 ctx PP 154 [] [(163,Q7 z0)] cv16 cv15 fun a=>Zp z0 a.1 a.2) Yg)
noncomputable def Zk {γ:Type} (F:Ve):Hd ctx γ:=hdl cv16.dec (fun a=>F a.1 a.2) cv15.enc
abbrev Bl:=ByteArray→Option (List Int)
inductive Zg where
 | c0 (block_0:ByteArray) (v_11:Int) (v_2r0:(List Int)) (w_3r0:(List Int))
 | c1 (block_0:ByteArray) (i_4:Int) (v_11:Int) (v_14:Int) (v_2r0:(List Int)) (w_3r0:(List Int))
 | c2 (t_6:Int) (v_2r0:(List Int)) (w_3r0:(List Int))
noncomputable def Iw:Zg→LI
 | .c0 block_0 v_11 v_2r0 w_3r0=>(tdo Tryd.f153 232,[(0,[.one (.str block_0)]),(2,[.one (.ptr 128 0)]),(3,[.one (.ptr 192 0)]),(11,[.one (.int .i64 v_11)])],[(128,.ar 114 v_2r0),(192,.ar 114 w_3r0)])
 | .c1 block_0 i_4 v_11 v_14 v_2r0 w_3r0=>(tdo Tryd.f153 59800,[(0,[.one (.str block_0)]),(2,[.one (.ptr 128 0)]),(3,[.one (.ptr 192 0)]),(4,[.one (.int .i64 i_4)]),(11,[.one (.int .i64 v_11)]),(14,[.one (.int .i64 v_14)])],[(128,.ar 114 v_2r0),(192,.ar 114 w_3r0)])
 | .c2 t_6 v_2r0 w_3r0=>(tdo Tryd.f153 976,[(2,[.one (.ptr 128 0)]),(3,[.one (.ptr 192 0)]),(6,[.one (.int .i64 t_6)])],[(128,.ar 114 v_2r0),(192,.ar 114 w_3r0)])
noncomputable def Aq (z0:Ve) (k:Zg→Option (List Int)) (block_0:ByteArray):Option (List Int):=
 k (.c0 block_0 0 (List.replicate 64 (0:Int)) (List.replicate 64 (0:Int)))
noncomputable def Ac (z0:Ve) (k:Zg→Option (List Int)):Zg→Option (List Int)
 | .c0 block_0 v_11 v_2r0 w_3r0=>
 bif (decide (v_11<16)) then
  k (.c1 block_0 v_11 v_11 0 v_2r0 w_3r0)
 else
  k (.c2 16 v_2r0 w_3r0)
 | .c1 block_0 i_4 v_11 v_14 v_2r0 w_3r0=>
 bif (decide (v_14<4)) then
  bif (Nat.beq 64 w_3r0.length) then
  bif ((decide (0≤i_4)) && (decide (i_4<(w_3r0.length:Int)))) then
  bif ((decide (0≤(w64 ((w64 (4*i_4))+v_14)))) && (decide ((w64 ((w64 (4*i_4))+v_14))<(block_0.size:Int)))) then
  bif (Nat.beq 64 w_3r0.length) then
  bif ((decide (0≤i_4)) && (decide (i_4<(w_3r0.length:Int)))) then
  k (.c1 block_0 i_4 v_11 (w64 (v_14+1)) v_2r0 (w_3r0.set i_4.toNat (w32 (((BitVec.toNat ((BitVec.ofInt (IntKind.bits IntKind.u32) (w32 ((w_3r0.getD i_4.toNat 0)*(2 ^ (Min.min (8:Int).toNat (IntKind.bits IntKind.u32)))))) ||| (BitVec.ofInt (IntKind.bits IntKind.u32) (w32 (bt block_0 (w64 ((w64 (4*i_4))+v_14))))))):Nat):Int))))
  else none
  else none
  else none
  else none
  else none
 else
  k (.c0 block_0 (w64 (v_11+1)) v_2r0 w_3r0)
 | .c2 t_6 v_2r0 w_3r0=>
 bif (decide (t_6<64)) then
  bif (Nat.beq 64 w_3r0.length) then
  bif ((decide (0≤(w64 (t_6 - 15)))) && (decide ((w64 (t_6 - 15))<(w_3r0.length:Int)))) then
  bif (Nat.beq 64 w_3r0.length) then
  bif ((decide (0≤(w64 (t_6 - 2)))) && (decide ((w64 (t_6 - 2))<(w_3r0.length:Int)))) then
  (z0 (w_3r0.getD (w64 (t_6 - 15)).toNat 0) 7).bind fun r0=>
  (z0 (w_3r0.getD (w64 (t_6 - 15)).toNat 0) 18).bind fun r1=>
  (z0 (w_3r0.getD (w64 (t_6 - 2)).toNat 0) 17).bind fun r2=>
  (z0 (w_3r0.getD (w64 (t_6 - 2)).toNat 0) 19).bind fun r3=>
  bif (Nat.beq 64 w_3r0.length) then
  bif ((decide (0≤(w64 (t_6 - 7)))) && (decide ((w64 (t_6 - 7))<(w_3r0.length:Int)))) then
  bif (Nat.beq 64 w_3r0.length) then
  bif ((decide (0≤(w64 (t_6 - 16)))) && (decide ((w64 (t_6 - 16))<(w_3r0.length:Int)))) then
  bif (Nat.beq 64 w_3r0.length) then
  bif ((decide (0≤t_6)) && (decide (t_6<(w_3r0.length:Int)))) then
  k (.c2 (w64 (t_6+1)) v_2r0 (w_3r0.set t_6.toNat (w32 ((w32 ((w32 ((w32 (((BitVec.toNat ((BitVec.ofInt (IntKind.bits IntKind.u32) (w32 (((BitVec.toNat ((BitVec.ofInt (IntKind.bits IntKind.u32) r2) ^^^ (BitVec.ofInt (IntKind.bits IntKind.u32) r3))):Nat):Int))) ^^^ (BitVec.ofInt (IntKind.bits IntKind.u32) (Int.fdiv (w_3r0.getD (w64 (t_6 - 2)).toNat 0) (2 ^ (Min.min (10:Int).toNat (IntKind.bits IntKind.u32))))))):Nat):Int))+(w_3r0.getD (w64 (t_6 - 7)).toNat 0)))+(w32 (((BitVec.toNat ((BitVec.ofInt (IntKind.bits IntKind.u32) (w32 (((BitVec.toNat ((BitVec.ofInt (IntKind.bits IntKind.u32) r0) ^^^ (BitVec.ofInt (IntKind.bits IntKind.u32) r1))):Nat):Int))) ^^^ (BitVec.ofInt (IntKind.bits IntKind.u32) (Int.fdiv (w_3r0.getD (w64 (t_6 - 15)).toNat 0) (2 ^ (Min.min (3:Int).toNat (IntKind.bits IntKind.u32))))))):Nat):Int))))+(w_3r0.getD (w64 (t_6 - 16)).toNat 0)))))
  else none
  else none
  else none
  else none
  else none
  else none
  else none
  else none
  else none
  else none
 else
  bif (Nat.beq 64 w_3r0.length) then
  bif ((Nat.beq w_3r0.length v_2r0.length) && (Nat.beq 64 w_3r0.length)) then
  bif ((Nat.beq 64 w_3r0.length) && true) then
  some w_3r0
  else none
  else none
  else none
noncomputable def JZ:Nat→Zg→Option (List Int)
 | 0,_=>none
 | m+1,s=>Ac QY (JZ m) s
noncomputable def Ad:Bl:=Aq QY (JZ gas)
theorem U7:Tells ctx PP 153 cv9 cv13 (fun a=>Ad a):=
 have b:∀ z0,CutIs ctx PP 153 Tryd.f153 [] [(154,Zk z0)] cv13 Iw (Ac z0):=fun z0 _ s=>by cases s <;> kernel_rfl
 have e:∀ z0,EntryIs ctx PP 153 [] [(154,Zk z0)] cv9 cv13 Iw (fun k a=>Aq z0 k a):=fun z0 _ a=>by kernel_rfl
 fn_ok (hc Hw hl_nil) Tryd.func153 (fun s s' h=>by cases s <;> cases s' <;> first | (cases h;done) | (cases h;rfl) | exact (rg_ne h (by kernel_rfl)).elim) (fun _=>rfl) (fun _ _=>rfl) (b QY) (e QY) gas
noncomputable def Jw {γ:Type} (F:Bl):Hd ctx γ:=hdl cv9.dec (fun a=>F a) cv13.enc
abbrev Dl:=(List Int)→ByteArray→Option (List Int)
inductive Ah where
 | c0 (a_6:Int) (b_7:Int) (c_8:Int) (d_9:Int) (e_10:Int) (f_11:Int) (g_12:Int) (h_13:Int) (v_37:Int) (state_2r0:(List Int)) (v_4r0:(List Int)) (w_5r0:(List Int))
 | c1 (v_109:Int) (state_2r0:(List Int)) (v_4r0:(List Int)) (out_17r0:(List Int))
noncomputable def Kw:Ah→LI
 | .c0 a_6 b_7 c_8 d_9 e_10 f_11 g_12 h_13 v_37 state_2r0 v_4r0 w_5r0=>(tdo Tryd.f132 488,[(2,[.one (.ptr 128 0)]),(4,[.one (.ptr 256 0)]),(5,[.one (.ptr 320 0)]),(6,[.one (.int .u32 a_6)]),(7,[.one (.int .u32 b_7)]),(8,[.one (.int .u32 c_8)]),(9,[.one (.int .u32 d_9)]),(10,[.one (.int .u32 e_10)]),(11,[.one (.int .u32 f_11)]),(12,[.one (.int .u32 g_12)]),(13,[.one (.int .u32 h_13)]),(37,[.one (.int .i64 v_37)])],[(128,.ar 114 state_2r0),(256,.ar 114 v_4r0),(320,.ar 114 w_5r0)])
 | .c1 v_109 state_2r0 v_4r0 out_17r0=>(tdo Tryd.f132 2024,[(2,[.one (.ptr 128 0)]),(4,[.one (.ptr 256 0)]),(17,[.one (.ptr 1088 0)]),(109,[.one (.int .i64 v_109)])],[(128,.ar 114 state_2r0),(256,.ar 114 v_4r0),(1088,.ar 114 out_17r0)])
noncomputable def Bq (z0:Bl) (z1:Ve) (k:Ah→Option (List Int)) (state_0:(List Int)) (block_1:ByteArray):Option (List Int):=
 (z0 block_1).bind fun r0=>
 bif ((Nat.beq r0.length (List.replicate 64 (0:Int)).length) && (Nat.beq 64 r0.length)) then
 bif (Nat.beq 8 state_0.length) then
 bif ((decide ((0:Int)≤(0:Int))) && (decide (0<(state_0.length:Int)))) then
 bif (Nat.beq 8 state_0.length) then
 bif ((decide ((0:Int)≤(1:Int))) && (decide (1<(state_0.length:Int)))) then
 bif (Nat.beq 8 state_0.length) then
 bif ((decide ((0:Int)≤(2:Int))) && (decide (2<(state_0.length:Int)))) then
 bif (Nat.beq 8 state_0.length) then
 bif ((decide ((0:Int)≤(3:Int))) && (decide (3<(state_0.length:Int)))) then
 bif (Nat.beq 8 state_0.length) then
 bif ((decide ((0:Int)≤(4:Int))) && (decide (4<(state_0.length:Int)))) then
 bif (Nat.beq 8 state_0.length) then
 bif ((decide ((0:Int)≤(5:Int))) && (decide (5<(state_0.length:Int)))) then
 bif (Nat.beq 8 state_0.length) then
 bif ((decide ((0:Int)≤(6:Int))) && (decide (6<(state_0.length:Int)))) then
 bif (Nat.beq 8 state_0.length) then
 bif ((decide ((0:Int)≤(7:Int))) && (decide (7<(state_0.length:Int)))) then
 k (.c0 (state_0.getD (0:Int).toNat 0) (state_0.getD (1:Int).toNat 0) (state_0.getD (2:Int).toNat 0) (state_0.getD (3:Int).toNat 0) (state_0.getD (4:Int).toNat 0) (state_0.getD (5:Int).toNat 0) (state_0.getD (6:Int).toNat 0) (state_0.getD (7:Int).toNat 0) 0 state_0 [0,0,0,0,0,0,0,0] r0)
 else none
 else none
 else none
 else none
 else none
 else none
 else none
 else none
 else none
 else none
 else none
 else none
 else none
 else none
 else none
 else none
 else none
noncomputable def Xe (z0:Bl) (z1:Ve) (k:Ah→Option (List Int)):Ah→Option (List Int)
 | .c0 a_6 b_7 c_8 d_9 e_10 f_11 g_12 h_13 v_37 state_2r0 v_4r0 w_5r0=>
 bif (decide (v_37<64)) then
  (z1 e_10 6).bind fun r0=>
  (z1 e_10 11).bind fun r1=>
  (z1 e_10 25).bind fun r2=>
  bif ((decide (0≤v_37)) && (decide (v_37<((64:Nat):Int)))) then
  bif (Nat.blt v_37.toNat 64) then
  bif (Nat.beq 64 w_5r0.length) then
  bif ((decide (0≤v_37)) && (decide (v_37<(w_5r0.length:Int)))) then
  (z1 a_6 2).bind fun r3=>
  (z1 a_6 13).bind fun r4=>
  (z1 a_6 22).bind fun r5=>
  k (.c0 (w32 ((w32 ((w32 ((w32 ((w32 (h_13+(w32 (((BitVec.toNat ((BitVec.ofInt (IntKind.bits IntKind.u32) (w32 (((BitVec.toNat ((BitVec.ofInt (IntKind.bits IntKind.u32) r0) ^^^ (BitVec.ofInt (IntKind.bits IntKind.u32) r1))):Nat):Int))) ^^^ (BitVec.ofInt (IntKind.bits IntKind.u32) r2))):Nat):Int))))+(w32 (((BitVec.toNat ((BitVec.ofInt (IntKind.bits IntKind.u32) (w32 (((BitVec.toNat ((BitVec.ofInt (IntKind.bits IntKind.u32) e_10) &&& (BitVec.ofInt (IntKind.bits IntKind.u32) f_11))):Nat):Int))) ^^^ (BitVec.ofInt (IntKind.bits IntKind.u32) (w32 (((BitVec.toNat ((BitVec.ofInt (IntKind.bits IntKind.u32) (w32 (((BitVec.toNat ((BitVec.ofInt (IntKind.bits IntKind.u32) (ite ((IntKind.signed IntKind.u32)=true) (-(1:Int)) (IntKind.max IntKind.u32))) ^^^ (BitVec.ofInt (IntKind.bits IntKind.u32) e_10))):Nat):Int))) &&& (BitVec.ofInt (IntKind.bits IntKind.u32) g_12))):Nat):Int))))):Nat):Int))))+([(1116352408:Int),(1899447441:Int),(3049323471:Int),(3921009573:Int),(961987163:Int),(1508970993:Int),(2453635748:Int),(2870763221:Int),(3624381080:Int),(310598401:Int),(607225278:Int),(1426881987:Int),(1925078388:Int),(2162078206:Int),(2614888103:Int),(3248222580:Int),(3835390401:Int),(4022224774:Int),(264347078:Int),(604807628:Int),(770255983:Int),(1249150122:Int),(1555081692:Int),(1996064986:Int),(2554220882:Int),(2821834349:Int),(2952996808:Int),(3210313671:Int),(3336571891:Int),(3584528711:Int),(113926993:Int),(338241895:Int),(666307205:Int),(773529912:Int),(1294757372:Int),(1396182291:Int),(1695183700:Int),(1986661051:Int),(2177026350:Int),(2456956037:Int),(2730485921:Int),(2820302411:Int),(3259730800:Int),(3345764771:Int),(3516065817:Int),(3600352804:Int),(4094571909:Int),(275423344:Int),(430227734:Int),(506948616:Int),(659060556:Int),(883997877:Int),(958139571:Int),(1322822218:Int),(1537002063:Int),(1747873779:Int),(1955562222:Int),(2024104815:Int),(2227730452:Int),(2361852424:Int),(2428436474:Int),(2756734187:Int),(3204031479:Int),(3329325298:Int)].getD v_37.toNat 0)))+(w_5r0.getD v_37.toNat 0)))+(w32 ((w32 (((BitVec.toNat ((BitVec.ofInt (IntKind.bits IntKind.u32) (w32 (((BitVec.toNat ((BitVec.ofInt (IntKind.bits IntKind.u32) r3) ^^^ (BitVec.ofInt (IntKind.bits IntKind.u32) r4))):Nat):Int))) ^^^ (BitVec.ofInt (IntKind.bits IntKind.u32) r5))):Nat):Int))+(w32 (((BitVec.toNat ((BitVec.ofInt (IntKind.bits IntKind.u32) (w32 (((BitVec.toNat ((BitVec.ofInt (IntKind.bits IntKind.u32) (w32 (((BitVec.toNat ((BitVec.ofInt (IntKind.bits IntKind.u32) a_6) &&& (BitVec.ofInt (IntKind.bits IntKind.u32) b_7))):Nat):Int))) ^^^ (BitVec.ofInt (IntKind.bits IntKind.u32) (w32 (((BitVec.toNat ((BitVec.ofInt (IntKind.bits IntKind.u32) a_6) &&& (BitVec.ofInt (IntKind.bits IntKind.u32) c_8))):Nat):Int))))):Nat):Int))) ^^^ (BitVec.ofInt (IntKind.bits IntKind.u32) (w32 (((BitVec.toNat ((BitVec.ofInt (IntKind.bits IntKind.u32) b_7) &&& (BitVec.ofInt (IntKind.bits IntKind.u32) c_8))):Nat):Int))))):Nat):Int)))))) a_6 b_7 c_8 (w32 (d_9+(w32 ((w32 ((w32 ((w32 (h_13+(w32 (((BitVec.toNat ((BitVec.ofInt (IntKind.bits IntKind.u32) (w32 (((BitVec.toNat ((BitVec.ofInt (IntKind.bits IntKind.u32) r0) ^^^ (BitVec.ofInt (IntKind.bits IntKind.u32) r1))):Nat):Int))) ^^^ (BitVec.ofInt (IntKind.bits IntKind.u32) r2))):Nat):Int))))+(w32 (((BitVec.toNat ((BitVec.ofInt (IntKind.bits IntKind.u32) (w32 (((BitVec.toNat ((BitVec.ofInt (IntKind.bits IntKind.u32) e_10) &&& (BitVec.ofInt (IntKind.bits IntKind.u32) f_11))):Nat):Int))) ^^^ (BitVec.ofInt (IntKind.bits IntKind.u32) (w32 (((BitVec.toNat ((BitVec.ofInt (IntKind.bits IntKind.u32) (w32 (((BitVec.toNat ((BitVec.ofInt (IntKind.bits IntKind.u32) (ite ((IntKind.signed IntKind.u32)=true) (-(1:Int)) (IntKind.max IntKind.u32))) ^^^ (BitVec.ofInt (IntKind.bits IntKind.u32) e_10))):Nat):Int))) &&& (BitVec.ofInt (IntKind.bits IntKind.u32) g_12))):Nat):Int))))):Nat):Int))))+([(1116352408:Int),(1899447441:Int),(3049323471:Int),(3921009573:Int),(961987163:Int),(1508970993:Int),(2453635748:Int),(2870763221:Int),(3624381080:Int),(310598401:Int),(607225278:Int),(1426881987:Int),(1925078388:Int),(2162078206:Int),(2614888103:Int),(3248222580:Int),(3835390401:Int),(4022224774:Int),(264347078:Int),(604807628:Int),(770255983:Int),(1249150122:Int),(1555081692:Int),(1996064986:Int),(2554220882:Int),(2821834349:Int),(2952996808:Int),(3210313671:Int),(3336571891:Int),(3584528711:Int),(113926993:Int),(338241895:Int),(666307205:Int),(773529912:Int),(1294757372:Int),(1396182291:Int),(1695183700:Int),(1986661051:Int),(2177026350:Int),(2456956037:Int),(2730485921:Int),(2820302411:Int),(3259730800:Int),(3345764771:Int),(3516065817:Int),(3600352804:Int),(4094571909:Int),(275423344:Int),(430227734:Int),(506948616:Int),(659060556:Int),(883997877:Int),(958139571:Int),(1322822218:Int),(1537002063:Int),(1747873779:Int),(1955562222:Int),(2024104815:Int),(2227730452:Int),(2361852424:Int),(2428436474:Int),(2756734187:Int),(3204031479:Int),(3329325298:Int)].getD v_37.toNat 0)))+(w_5r0.getD v_37.toNat 0))))) e_10 f_11 g_12 (w64 (v_37+1)) state_2r0 v_4r0 w_5r0)
  else none
  else none
  else none
  else none
 else
  k (.c1 0 state_2r0 v_4r0 [a_6,b_7,c_8,d_9,e_10,f_11,g_12,h_13])
 | .c1 v_109 state_2r0 v_4r0 out_17r0=>
 bif (decide (v_109<8)) then
  bif (Nat.beq 8 out_17r0.length) then
  bif ((decide (0≤v_109)) && (decide (v_109<(out_17r0.length:Int)))) then
  bif (Nat.beq 8 state_2r0.length) then
  bif ((decide (0≤v_109)) && (decide (v_109<(state_2r0.length:Int)))) then
  bif (Nat.beq 8 out_17r0.length) then
  bif ((decide (0≤v_109)) && (decide (v_109<(out_17r0.length:Int)))) then
  k (.c1 (w64 (v_109+1)) state_2r0 v_4r0 (out_17r0.set v_109.toNat (w32 ((out_17r0.getD v_109.toNat 0)+(state_2r0.getD v_109.toNat 0)))))
  else none
  else none
  else none
  else none
  else none
  else none
 else
  bif (Nat.beq 8 out_17r0.length) then
  bif ((Nat.beq out_17r0.length v_4r0.length) && (Nat.beq 8 out_17r0.length)) then
  bif ((Nat.beq 8 out_17r0.length) && true) then
  some out_17r0
  else none
  else none
  else none
noncomputable def RZ:Nat→Ah→Option (List Int)
 | 0,_=>none
 | m+1,s=>Xe Ad QY (RZ m) s
noncomputable def Bd:Dl:=Bq Ad QY (RZ gas)
theorem V7:Tells ctx PP 132 cv17 cv13 (fun a=>Bd a.1 a.2):=
 have b:∀ z0 z1,CutIs ctx PP 132 Tryd.f132 [] [(153,Jw z0),(154,Zk z1)] cv13 Kw (Xe z0 z1):=fun z0 z1 _ s=>by cases s <;> kernel_rfl
 have e:∀ z0 z1,EntryIs ctx PP 132 [] [(153,Jw z0),(154,Zk z1)] cv17 cv13 Kw (fun k a=>Bq z0 z1 k a.1 a.2):=fun z0 z1 _ a=>by kernel_rfl
 fn_ok (hc U7 (hc Hw hl_nil)) Tryd.func132 (fun s s' h=>by cases s <;> cases s' <;> first | (cases h;done) | (cases h;rfl) | exact (rg_ne h (by kernel_rfl)).elim) (fun _=>rfl) (fun _ _=>rfl) (b Ad QY) (e Ad QY) gas
noncomputable def Nw {γ:Type} (F:Dl):Hd ctx γ:=hdl cv17.dec (fun a=>F a.1 a.2) cv13.enc
abbrev Dq:=(List Int)→ByteArray→Option ((List Int)×ByteArray)
inductive Bh where
 | c0 (s_1:ByteArray) (state_2r0:(List Int)) (v_4r0:(List Int))
noncomputable def Qw:Bh→LI
 | .c0 s_1 state_2r0 v_4r0=>(tdo Tryd.f106 96,[(1,[.one (.str s_1)]),(2,[.one (.ptr 128 0)]),(4,[.one (.ptr 256 0)])],[(128,.ar 114 state_2r0),(256,.ar 114 v_4r0)])
noncomputable def Fq (z0:Dl) (k:Bh→Option ((List Int)×ByteArray)) (state_0:(List Int)) (s_1:ByteArray):Option ((List Int)×ByteArray):=
 k (.c0 s_1 state_0 [0,0,0,0,0,0,0,0])
noncomputable def Gl (z0:Dl) (k:Bh→Option ((List Int)×ByteArray)):Bh→Option ((List Int)×ByteArray)
 | .c0 s_1 state_2r0 v_4r0=>
 bif (decide ((s_1.size:Int)≥64)) then
  bif (Nat.beq 8 state_2r0.length) then
  bif ((decide ((0:Int)≤(64:Int))) && (decide (64≤(s_1.size:Int)))) then
  (z0 state_2r0 (s_1.extract 0 (64:Int).toNat)).bind fun r0=>
  bif ((Nat.beq r0.length state_2r0.length) && (Nat.beq 8 r0.length)) then
  bif ((decide ((0:Int)≤(64:Int))) && (decide (64≤(s_1.size:Int)))) then
  k (.c0 (s_1.extract (64:Int).toNat s_1.size) r0 v_4r0)
  else none
  else none
  else none
  else none
 else
  bif (Nat.beq 8 state_2r0.length) then
  bif ((Nat.beq state_2r0.length v_4r0.length) && (Nat.beq 8 state_2r0.length)) then
  bif ((Nat.beq 8 state_2r0.length) && true) then
  some (state_2r0,s_1)
  else none
  else none
  else none
noncomputable def Dh:Nat→Bh→Option ((List Int)×ByteArray)
 | 0,_=>none
 | m+1,s=>Gl Bd (Dh m) s
noncomputable def Eh:Dq:=Fq Bd (Dh gas)
theorem X7:Tells ctx PP 106 cv17 cv17 (fun a=>Eh a.1 a.2):=
 have b:∀ z0,CutIs ctx PP 106 Tryd.f106 [] [(132,Nw z0)] cv17 Qw (Gl z0):=fun z0 _ s=>by cases s <;> kernel_rfl
 have e:∀ z0,EntryIs ctx PP 106 [] [(132,Nw z0)] cv17 cv17 Qw (fun k a=>Fq z0 k a.1 a.2):=fun z0 _ a=>by kernel_rfl
 fn_ok (hc V7 hl_nil) Tryd.func106 (fun s s' h=>by cases s;cases s';cases h;rfl) (fun _=>rfl) (fun _ _=>rfl) (b Bd) (e Bd) gas
noncomputable def Y7 {γ:Type} (F:Dq):Hd ctx γ:=hdl cv17.dec (fun a=>F a.1 a.2) cv17.enc
abbrev Gq:=(List Int)→Option ByteArray
inductive Fh where
 | c0 (out_3:ByteArray) (v_6:(List Int)) (v_7:Int)
noncomputable def Rw:Fh→LI
 | .c0 out_3 v_6 v_7=>(tdo Tryd.f109 232,[(3,[.one (.str out_3)]),(6,[.arr 114 v_6]),(7,[.one (.int .i64 v_7)])],[])
noncomputable def Hq (z0:Ug) (k:Fh→Option ByteArray) (state_0:(List Int)):Option ByteArray:=
 bif (Nat.beq 8 state_0.length) then
 k (.c0 ⟨#[]⟩ state_0 0)
 else none
noncomputable def Hl (z0:Ug) (k:Fh→Option ByteArray):Fh→Option ByteArray
 | .c0 out_3 v_6 v_7=>
 bif (decide (v_7<8)) then
  bif (Nat.beq 8 v_6.length) then
  bif ((decide (0≤v_7)) && (decide (v_7<(v_6.length:Int)))) then
  (z0 (v_6.getD v_7.toNat 0)).bind fun r0=>
  bif (decide ((out_3.size+r0.size)≤9223372036854775807)) then
  k (.c0 (out_3++r0) v_6 (w64 (v_7+1)))
  else none
  else none
  else none
 else
  some out_3
noncomputable def Gh:Nat→Fh→Option ByteArray
 | 0,_=>none
 | m+1,s=>Hl Eb (Gh m) s
noncomputable def Ih:Gq:=Hq Eb (Gh gas)
theorem Z7:Tells ctx PP 109 cv13 cv9 (fun a=>Ih a):=
 have b:∀ z0,CutIs ctx PP 109 Tryd.f109 [] [(134,Jp z0)] cv9 Rw (Hl z0):=fun z0 _ s=>by cases s <;> kernel_rfl
 have e:∀ z0,EntryIs ctx PP 109 [] [(134,Jp z0)] cv13 cv9 Rw (fun k a=>Hq z0 k a):=fun z0 _ a=>by kernel_rfl
 fn_ok (hc Gw hl_nil) Tryd.func109 (fun s s' h=>by cases s;cases s';cases h;rfl) (fun _=>rfl) (fun _ _=>rfl) (b Eb) (e Eb) gas
noncomputable def A8 {γ:Type} (F:Gq):Hd ctx γ:=hdl cv13.dec (fun a=>F a) cv9.enc
abbrev Iq:=ByteArray→Option ByteArray
noncomputable def Jq (z0:Fp) (z1:Vp) (z2:Dq) (z3:Gq) (s_0:ByteArray):Option ByteArray:=
 z0.bind fun r0=>
 (z1 (s_0.size:Int)).bind fun r1=>
 bif (decide ((s_0.size+r1.size)≤9223372036854775807)) then
 (z2 r0 (s_0++r1)).bind fun r2=>
 bif ((Nat.beq r2.1.length 8) && (Nat.beq 8 r2.1.length)) then
 bif (Nat.beq 8 r2.1.length) then
 (z3 r2.1).bind fun r3=>
 some r3
 else none
 else none
 else none
noncomputable def Ed:Iq:=Jq Xk Xg Eh Ih
theorem D8:Tells ctx PP 59 cv9 cv9 (fun a=>Ed a):=fn_ok0 (hc G7 (hc N7 (hc X7 (hc Z7 hl_nil)))) Tryd.func59 ((fun z0 z1 z2 z3 a=>by kernel_rfl:∀ z0 z1 z2 z3,EntryIs0 ctx PP 59 [] [(107,H7 z0),(108,O7 z1),(106,Y7 z2),(109,A8 z3)] cv9 cv9 fun a=>Jq z0 z1 z2 z3 a) Xk Xg Eh Ih)
noncomputable def E8 {γ:Type} (F:Iq):Hd ctx γ:=hdl cv9.dec (fun a=>F a) cv9.enc
abbrev Kq:=ByteArray→Int→Option ByteArray
inductive Jh where
 | c0 (x_1:Int) (v_10:Int) (v_11:Int) (out_5:(List Int))
noncomputable def Uw:Jh→LI
 | .c0 x_1 v_10 v_11 out_5=>(tdo Tryd.f117 232,[(1,[.one (.int .u8 x_1)]),(5,[.one (.own 368)]),(10,[.one (.int .i64 v_10)]),(11,[.one (.int .i64 v_11)])],[(368,.sl 5 out_5)])
noncomputable def Nq (k:Jh→Option ByteArray) (s_0:ByteArray) (x_1:Int):Option ByteArray:=
 bif (decide (s_0.size≤9223372036854775807)) then
 k (.c0 x_1 ((bytesOf s_0).length:Int) 0 (bytesOf s_0))
 else none
noncomputable def Il (k:Jh→Option ByteArray):Jh→Option ByteArray
 | .c0 x_1 v_10 v_11 out_5=>
 bif (decide (v_11<v_10)) then
  bif ((decide (0≤v_11)) && (decide (v_11<(out_5.length:Int)))) then
  bif ((decide (0≤v_11)) && (decide (v_11<(out_5.length:Int)))) then
  k (.c0 x_1 v_10 (w64 (v_11+1)) (out_5.set v_11.toNat (w8 (((BitVec.toNat ((BitVec.ofInt (IntKind.bits IntKind.u8) (out_5.getD v_11.toNat 0)) ^^^ (BitVec.ofInt (IntKind.bits IntKind.u8) x_1))):Nat):Int))))
  else none
  else none
 else
  some (ofBytes out_5)
noncomputable def Lh:Nat→Jh→Option ByteArray
 | 0,_=>none
 | m+1,s=>Il (Lh m) s
noncomputable def Jd:Kq:=Nq (Lh gas)
theorem F8:Tells ctx PP 117 cv34 cv9 (fun a=>Jd a.1 a.2):=
 have b:CutIs ctx PP 117 Tryd.f117 [] [] cv9 Uw (Il):=fun _ s=>by cases s <;> kernel_rfl
 have e:EntryIs ctx PP 117 [] [] cv34 cv9 Uw (fun k a=>Nq k a.1 a.2):=fun _ a=>by kernel_rfl
 fn_ok hl_nil Tryd.func117 (fun s s' h=>by cases s;cases s';cases h;rfl) (fun _=>rfl) (fun _ _=>rfl) b e gas
noncomputable def G8 {γ:Type} (F:Kq):Hd ctx γ:=hdl cv34.dec (fun a=>F a.1 a.2) cv9.enc
abbrev Nh:=ByteArray→ByteArray→Option ByteArray
noncomputable def Oq (z0:Iq) (z1:Yk) (z2:Kq) (key_0:ByteArray) (s_1:ByteArray):Option ByteArray:=
 bif (decide ((key_0.size:Int) > 64)) then
 (z0 key_0).bind fun r0=>
 (z1 (w64 (64 - (r0.size:Int)))).bind fun r1=>
 bif (decide ((r0.size+r1.size)≤9223372036854775807)) then
 (z2 (r0++r1) 92).bind fun r2=>
 (z2 (r0++r1) 54).bind fun r3=>
 bif (decide ((r3.size+s_1.size)≤9223372036854775807)) then
 (z0 (r3++s_1)).bind fun r4=>
 bif (decide ((r2.size+r4.size)≤9223372036854775807)) then
 (z0 (r2++r4)).bind fun r5=>
 some r5
 else none
 else none
 else none
 else
 (z1 (w64 (64 - (key_0.size:Int)))).bind fun r6=>
 bif (decide ((key_0.size+r6.size)≤9223372036854775807)) then
 (z2 (key_0++r6) 92).bind fun r7=>
 (z2 (key_0++r6) 54).bind fun r8=>
 bif (decide ((r8.size+s_1.size)≤9223372036854775807)) then
 (z0 (r8++s_1)).bind fun r9=>
 bif (decide ((r7.size+r9.size)≤9223372036854775807)) then
 (z0 (r7++r9)).bind fun r10=>
 some r10
 else none
 else none
 else none
noncomputable def Fb:Nh:=Oq Ed Zb Jd
theorem Vw:Tells ctx PP 74 cv35 cv9 (fun a=>Fb a.1 a.2):=fn_ok0 (hc D8 (hc Dw (hc F8 hl_nil))) Tryd.func74 ((fun z0 z1 z2 a=>by kernel_rfl:∀ z0 z1 z2,EntryIs0 ctx PP 74 [] [(59,E8 z0),(92,Ew z1),(117,G8 z2)] cv35 cv9 fun a=>Oq z0 z1 z2 a.1 a.2) Ed Zb Jd)
noncomputable def Pq {γ:Type} (F:Nh):Hd ctx γ:=hdl cv35.dec (fun a=>F a.1 a.2) cv9.enc
abbrev Oh:=ByteArray→Int→Int→Option (ByteArray×Bool)
inductive Ph where
 | c0 (key_0:ByteArray) (n_2:Int) (v_8:ByteArray) (out_10:ByteArray) (i_11:Int)
noncomputable def Xw:Ph→LI
 | .c0 key_0 n_2 v_8 out_10 i_11=>(tdo Tryd.f24 2000,[(0,[.one (.str key_0)]),(2,[.one (.int .i64 n_2)]),(8,[.one (.str v_8)]),(10,[.one (.str out_10)]),(11,[.one (.int .i64 i_11)])],[])
noncomputable def Qq (z0:Uk) (z1:Og) (z2:Vk) (z3:Nh) (k:Ph→Option (ByteArray×Bool)) (key_0:ByteArray) (num_1:Int) (n_2:Int):Option (ByteArray×Bool):=
 (z0 num_1).bind fun r0=>
 bif (!r0.2) then
 some (⟨#[]⟩,false)
 else
 (z1 n_2 0 8000).bind fun r1=>
 bif (!r1) then
  some (⟨#[]⟩,false)
 else
  k (.c0 key_0 n_2 r0.1 ⟨#[]⟩ 0)
noncomputable def Jl (z0:Uk) (z1:Og) (z2:Vk) (z3:Nh) (k:Ph→Option (ByteArray×Bool)):Ph→Option (ByteArray×Bool)
 | .c0 key_0 n_2 v_8 out_10 i_11=>
 bif (decide ((out_10.size:Int)<n_2)) then
  bif (decide (((⟨#[109]⟩:ByteArray).size+v_8.size)≤9223372036854775807)) then
  (z2 i_11).bind fun r0=>
  bif (decide ((((⟨#[109]⟩:ByteArray)++v_8).size+r0.size)≤9223372036854775807)) then
  (z3 key_0 (((⟨#[109]⟩:ByteArray)++v_8)++r0)).bind fun r1=>
  bif (decide ((out_10.size+r1.size)≤9223372036854775807)) then
  k (.c0 key_0 n_2 v_8 (out_10++r1) (w64 (i_11+1)))
  else none
  else none
  else none
 else
  bif ((decide (0≤n_2)) && (decide (n_2≤(out_10.size:Int)))) then
  some ((out_10.extract 0 n_2.toNat),true)
  else none
noncomputable def Qh:Nat→Ph→Option (ByteArray×Bool)
 | 0,_=>none
 | m+1,s=>Jl Xc Yb Yc Fb (Qh m) s
noncomputable def Ib:Oh:=Qq Xc Yb Yc Fb (Qh gas)
theorem Rq:Tells ctx PP 24 cv36 cv33 (fun a=>Ib a.1 a.2.1 a.2.2):=
 have b:∀ z0 z1 z2 z3,CutIs ctx PP 24 Tryd.f24 [] [(73,Yv z0),(62,Ap z1),(75,Zv z2),(74,Pq z3)] cv33 Xw (Jl z0 z1 z2 z3):=fun z0 z1 z2 z3 _ s=>by cases s <;> kernel_rfl
 have e:∀ z0 z1 z2 z3,EntryIs ctx PP 24 [] [(73,Yv z0),(62,Ap z1),(75,Zv z2),(74,Pq z3)] cv36 cv33 Xw (fun k a=>Qq z0 z1 z2 z3 k a.1 a.2.1 a.2.2):=fun z0 z1 z2 z3 _ a=>by kernel_rfl
 fn_ok (hc D7 (hc Qv (hc F7 (hc Vw hl_nil)))) Tryd.func24 (fun s s' h=>by cases s;cases s';cases h;rfl) (fun _=>rfl) (fun _ _=>rfl) (b Xc Yb Yc Fb) (e Xc Yb Yc Fb) gas
noncomputable def Tq {γ:Type} (F:Oh):Hd ctx γ:=hdl cv36.dec (fun a=>F a.1 a.2.1 a.2.2) cv33.enc
abbrev Ll:=ByteArray→ByteArray→Option ByteArray
inductive Rh where
 | c0 (b_1:ByteArray) (v_10:Int) (v_11:Int) (out_5:(List Int))
noncomputable def Yw:Rh→LI
 | .c0 b_1 v_10 v_11 out_5=>(tdo Tryd.f66 232,[(1,[.one (.str b_1)]),(5,[.one (.own 368)]),(10,[.one (.int .i64 v_10)]),(11,[.one (.int .i64 v_11)])],[(368,.sl 5 out_5)])
noncomputable def Vq (k:Rh→Option ByteArray) (a_0:ByteArray) (b_1:ByteArray):Option ByteArray:=
 bif (decide (a_0.size≤9223372036854775807)) then
 k (.c0 b_1 ((bytesOf a_0).length:Int) 0 (bytesOf a_0))
 else none
noncomputable def Nl (k:Rh→Option ByteArray):Rh→Option ByteArray
 | .c0 b_1 v_10 v_11 out_5=>
 bif (decide (v_11<v_10)) then
  bif ((decide (0≤v_11)) && (decide (v_11<(out_5.length:Int)))) then
  bif ((decide (0≤v_11)) && (decide (v_11<(b_1.size:Int)))) then
  bif ((decide (0≤v_11)) && (decide (v_11<(out_5.length:Int)))) then
  k (.c0 b_1 v_10 (w64 (v_11+1)) (out_5.set v_11.toNat (w8 (((BitVec.toNat ((BitVec.ofInt (IntKind.bits IntKind.u8) (out_5.getD v_11.toNat 0)) ^^^ (BitVec.ofInt (IntKind.bits IntKind.u8) (bt b_1 v_11)))):Nat):Int))))
  else none
  else none
  else none
 else
  some (ofBytes out_5)
noncomputable def Uh:Nat→Rh→Option ByteArray
 | 0,_=>none
 | m+1,s=>Nl (Uh m) s
noncomputable def Ld:Ll:=Vq (Uh gas)
theorem Zw:Tells ctx PP 66 cv35 cv9 (fun a=>Ld a.1 a.2):=
 have b:CutIs ctx PP 66 Tryd.f66 [] [] cv9 Yw (Nl):=fun _ s=>by cases s <;> kernel_rfl
 have e:EntryIs ctx PP 66 [] [] cv35 cv9 Yw (fun k a=>Vq k a.1 a.2):=fun _ a=>by kernel_rfl
 fn_ok hl_nil Tryd.func66 (fun s s' h=>by cases s;cases s';cases h;rfl) (fun _=>rfl) (fun _ _=>rfl) b e gas
noncomputable def Dx {γ:Type} (F:Ll):Hd ctx γ:=hdl cv35.dec (fun a=>F a.1 a.2) cv9.enc
abbrev Ol:=ByteArray→Int→ByteArray→Option ByteArray
noncomputable def Wq (z0:Qk) (z1:Nh) (key_0:ByteArray) (num_1:Int) (s_2:ByteArray):Option ByteArray:=
 (z0 num_1).bind fun r0=>
 bif (decide (((⟨#[116]⟩:ByteArray).size+r0.size)≤9223372036854775807)) then
 bif (decide ((((⟨#[116]⟩:ByteArray)++r0).size+s_2.size)≤9223372036854775807)) then
 (z1 key_0 (((⟨#[116]⟩:ByteArray)++r0)++s_2)).bind fun r1=>
 bif ((decide ((0:Int)≤(16:Int))) && (decide (16≤(r1.size:Int)))) then
 some (r1.extract 0 (16:Int).toNat)
 else none
 else none
 else none
noncomputable def Md:Ol:=Wq Ue Fb
theorem Gx:Tells ctx PP 67 cv32 cv9 (fun a=>Md a.1 a.2.1 a.2.2):=fn_ok0 (hc Wv (hc Vw hl_nil)) Tryd.func67 ((fun z0 z1 a=>by kernel_rfl:∀ z0 z1,EntryIs0 ctx PP 67 [] [(114,Xv z0),(74,Pq z1)] cv32 cv9 fun a=>Wq z0 z1 a.1 a.2.1 a.2.2) Ue Fb)
noncomputable def Ox {γ:Type} (F:Ol):Hd ctx γ:=hdl cv32.dec (fun a=>F a.1 a.2.1 a.2.2) cv9.enc
abbrev Xq:=ByteArray→Int→ByteArray→Option (ByteArray×Bool)
noncomputable def Yq (z0:Oh) (z1:Ll) (z2:Ol) (key_0:ByteArray) (num_1:Int) (s_2:ByteArray):Option (ByteArray×Bool):=
 (z0 key_0 num_1 (s_2.size:Int)).bind fun r0=>
 bif (!r0.2) then
 some (⟨#[]⟩,false)
 else
 (z1 s_2 r0.1).bind fun r1=>
 (z2 key_0 num_1 r1).bind fun r2=>
 bif (decide ((r1.size+r2.size)≤9223372036854775807)) then
 some ((r1++r2),true)
 else none
noncomputable def Vh:Xq:=Yq Ib Ld Md
theorem H8:Tells ctx PP 19 cv32 cv33 (fun a=>Vh a.1 a.2.1 a.2.2):=fn_ok0 (hc Rq (hc Zw (hc Gx hl_nil))) Tryd.func19 ((fun z0 z1 z2 a=>by kernel_rfl:∀ z0 z1 z2,EntryIs0 ctx PP 19 [] [(24,Tq z0),(66,Dx z1),(67,Ox z2)] cv32 cv33 fun a=>Yq z0 z1 z2 a.1 a.2.1 a.2.2) Ib Ld Md)
noncomputable def I8 {γ:Type} (F:Xq):Hd ctx γ:=hdl cv32.dec (fun a=>F a.1 a.2.1 a.2.2) cv33.enc
abbrev Zq:=ByteArray→Int→ByteArray→Option (ByteArray×Bool)
noncomputable def Ar (z0:Oh) (z1:Ol) (z2:Ll) (key_0:ByteArray) (num_1:Int) (text_2:ByteArray):Option (ByteArray×Bool):=
 bif (decide ((w64 ((text_2.size:Int) - 16))<0)) then
 some (⟨#[]⟩,false)
 else
 (z0 key_0 num_1 (w64 ((text_2.size:Int) - 16))).bind fun r0=>
 bif (!r0.2) then
  some (⟨#[]⟩,false)
 else
  bif ((decide (0≤(w64 ((text_2.size:Int) - 16)))) && (decide ((w64 ((text_2.size:Int) - 16))≤(text_2.size:Int)))) then
  (z1 key_0 num_1 (text_2.extract 0 (w64 ((text_2.size:Int) - 16)).toNat)).bind fun r1=>
  bif ((decide (0≤(w64 ((text_2.size:Int) - 16)))) && (decide ((w64 ((text_2.size:Int) - 16))≤(text_2.size:Int)))) then
  bif (!((ByteArray.toList r1) == (ByteArray.toList (text_2.extract (w64 ((text_2.size:Int) - 16)).toNat text_2.size)))) then
  some (⟨#[]⟩,false)
  else
  bif ((decide (0≤(w64 ((text_2.size:Int) - 16)))) && (decide ((w64 ((text_2.size:Int) - 16))≤(text_2.size:Int)))) then
  (z2 (text_2.extract 0 (w64 ((text_2.size:Int) - 16)).toNat) r0.1).bind fun r2=>
  some (r2,true)
  else none
  else none
  else none
noncomputable def Wh:Zq:=Ar Ib Md Ld
theorem J8:Tells ctx PP 20 cv32 cv33 (fun a=>Wh a.1 a.2.1 a.2.2):=fn_ok0 (hc Rq (hc Gx (hc Zw hl_nil))) Tryd.func20 ((fun z0 z1 z2 a=>by kernel_rfl:∀ z0 z1 z2,EntryIs0 ctx PP 20 [] [(24,Tq z0),(67,Ox z1),(66,Dx z2)] cv32 cv33 fun a=>Ar z0 z1 z2 a.1 a.2.1 a.2.2) Ib Md Ld)
noncomputable def L8 {γ:Type} (F:Zq):Hd ctx γ:=hdl cv32.dec (fun a=>F a.1 a.2.1 a.2.2) cv33.enc
abbrev Xh:=Int→Int→Int→Option Bool
noncomputable def Px (x_0:Int) (least_1:Int) (most_2:Int):Option Bool:=
 bif (decide (x_0≥least_1)) then
 some (decide (x_0≤most_2))
 else
 some false
noncomputable def Bc:Xh:=Px
theorem Qx:Tells ctx PP 63 cv22 cv1 (fun a=>Bc a.1 a.2.1 a.2.2):=fn_ok0 hl_nil Tryd.func63 (fun a=>by kernel_rfl:EntryIs0 ctx PP 63 [] [] cv22 cv1 fun a=>Px a.1 a.2.1 a.2.2)
noncomputable def Hr {γ:Type} (F:Xh):Hd ctx γ:=hdl cv22.dec (fun a=>F a.1 a.2.1 a.2.2) cv1.enc
abbrev Yh:=Int→Option ByteArray
inductive Zh where
 | c0 (n_0:Int) (out_3:(List Int))
noncomputable def Rx:Zh→LI
 | .c0 n_0 out_3=>(tdo Tryd.f78 224,[(0,[.one (.int .i64 n_0)]),(3,[.one (.own 240)])],[(240,.sl 5 out_3)])
noncomputable def Ux (k:Zh→Option ByteArray) (n_0:Int):Option ByteArray:=
 k (.c0 n_0 [])
noncomputable def Ql (k:Zh→Option ByteArray):Zh→Option ByteArray
 | .c0 n_0 out_3=>
 bif (decide (n_0 > 127)) then
  bif (decide (((out_3.length+1)*1)≤140737488355328)) then
  k (.c0 (w64 (n_0.tdiv 128)) (out_3++[(w8 (w64 ((n_0.tmod 128)+128)))]))
  else none
 else
  bif (decide (((out_3.length+1)*1)≤140737488355328)) then
  some (ofBytes (out_3++[(w8 n_0)]))
  else none
noncomputable def Ai:Nat→Zh→Option ByteArray
 | 0,_=>none
 | m+1,s=>Ql (Ai m) s
noncomputable def Cc:Yh:=Ux (Ai gas)
theorem Vx:Tells ctx PP 78 cv14 cv9 (fun a=>Cc a):=
 have b:CutIs ctx PP 78 Tryd.f78 [] [] cv9 Rx (Ql):=fun _ s=>by cases s <;> kernel_rfl
 have e:EntryIs ctx PP 78 [] [] cv14 cv9 Rx (fun k a=>Ux k a):=fun _ a=>by kernel_rfl
 fn_ok hl_nil Tryd.func78 (fun s s' h=>by cases s;cases s';cases h;rfl) (fun _=>rfl) (fun _ _=>rfl) b e gas
noncomputable def Ir {γ:Type} (F:Yh):Hd ctx γ:=hdl cv14.dec (fun a=>F a) cv9.enc
abbrev Rl:=Int→Option ByteArray
noncomputable def Jr (n_0:Int):Option ByteArray:=
 bif (decide ((n_0.tmod 256)<0)) then
 some (ofBytes [(w8 (w64 ((n_0.tmod 256)+256)))])
 else
 some (ofBytes [(w8 (n_0.tmod 256))])
noncomputable def Qd:Rl:=Jr
theorem N8:Tells ctx PP 116 cv14 cv9 (fun a=>Qd a):=fn_ok0 hl_nil Tryd.func116 (fun a=>by kernel_rfl:EntryIs0 ctx PP 116 [] [] cv14 cv9 fun a=>Jr a)
noncomputable def Wx {γ:Type} (F:Rl):Hd ctx γ:=hdl cv14.dec (fun a=>F a) cv9.enc
abbrev Kr:=Option (List Int)
noncomputable def Xx  : Option (List Int):=
 some [1779033703,3144134277,1013904242,2773480762,1359893119,2600822924,528734635,1541459225]
noncomputable def Sl:Kr:=Xx
theorem O8:Tells ctx PP 140 cv12 cv19 (fun _=>Sl):=fn_ok0 hl_nil Tryd.func140 (fun _=>by kernel_rfl:EntryIs0 ctx PP 140 [] [] cv12 cv19 fun _=>Xx)
noncomputable def P8 {γ:Type} (F:Kr):Hd ctx γ:=hdl cv12.dec (fun _=>F) cv19.enc
abbrev Td:=(List Int)→Option ByteArray
inductive Ci where
 | c0 (words_0:(List Int)) (i_4:Int) (out_3:(List Int))
noncomputable def Yx:Ci→LI
 | .c0 words_0 i_4 out_3=>(tdo Tryd.f139 464,[(0,[.one (.rsl 114 words_0)]),(3,[.one (.own 240)]),(4,[.one (.int .i64 i_4)])],[(240,.sl 5 out_3)])
noncomputable def Zx (k:Ci→Option ByteArray) (words_0:(List Int)):Option ByteArray:=
 k (.c0 words_0 0 [])
noncomputable def Ul (k:Ci→Option ByteArray):Ci→Option ByteArray
 | .c0 words_0 i_4 out_3=>
 bif (decide (i_4<(words_0.length:Int))) then
  bif ((decide (0≤i_4)) && (decide (i_4<(words_0.length:Int)))) then
  bif (decide (((out_3.length+4)*1)≤140737488355328)) then
  k (.c0 words_0 (w64 (i_4+1)) (out_3++[(w8 (w32 ((words_0.getD i_4.toNat 0).tdiv 16777216))),(w8 ((w32 ((words_0.getD i_4.toNat 0).tdiv 65536)).tmod 256)),(w8 ((w32 ((words_0.getD i_4.toNat 0).tdiv 256)).tmod 256)),(w8 ((words_0.getD i_4.toNat 0).tmod 256))]))
  else none
  else none
 else
  some (ofBytes out_3)
noncomputable def Di:Nat→Ci→Option ByteArray
 | 0,_=>none
 | m+1,s=>Ul (Di m) s
noncomputable def PZ:Td:=Zx (Di gas)
theorem Lr:Tells ctx PP 139 cv20 cv9 (fun a=>PZ a):=
 have b:CutIs ctx PP 139 Tryd.f139 [] [] cv9 Yx (Ul):=fun _ s=>by cases s <;> kernel_rfl
 have e:EntryIs ctx PP 139 [] [] cv20 cv9 Yx (fun k a=>Zx k a):=fun _ a=>by kernel_rfl
 fn_ok hl_nil Tryd.func139 (fun s s' h=>by cases s;cases s';cases h;rfl) (fun _=>rfl) (fun _ _=>rfl) b e gas
noncomputable def Ei {γ:Type} (F:Td):Hd ctx γ:=hdl cv20.dec (fun a=>F a) cv9.enc
abbrev Nr:=Option SHasher
noncomputable def Qr (z0:Kr) (z1:Td)  : Option SHasher:=
 z0.bind fun r0=>
 (z1 r0).bind fun r1=>
 some ⟨r1,⟨#[]⟩,0⟩
noncomputable def Gi:Nr:=Qr Sl PZ
theorem Q8:Tells ctx PP 112 cv12 cv21 (fun _=>Gi):=fn_ok0 (hc O8 (hc Lr hl_nil)) Tryd.func112 ((fun z0 z1 _=>by kernel_rfl:∀ z0 z1,EntryIs0 ctx PP 112 [] [(140,P8 z0),(139,Ei z1)] cv12 cv21 fun _=>Qr z0 z1) Sl PZ)
noncomputable def U8 {γ:Type} (F:Nr):Hd ctx γ:=hdl cv12.dec (fun _=>F) cv21.enc
abbrev Ye:=SHasher→Option Bool
noncomputable def Sr (z0:Xh) (h_0:SHasher):Option Bool:=
 bif ((h_0.fState.size:Int) == 32) then
 bif (decide ((h_0.fRest.size:Int)<64)) then
  (z0 h_0.fCount 0 1000000000).bind fun r0=>
  bif r0 then
  some ((h_0.fCount.tmod 64) == (h_0.fRest.size:Int))
  else
  some false
 else
  some false
 else
 some false
noncomputable def KZ:Ye:=Sr Bc
theorem Dy:Tells ctx PP 135 cv21 cv1 (fun a=>KZ a):=fn_ok0 (hc Qx hl_nil) Tryd.func135 ((fun z0 a=>by kernel_rfl:∀ z0,EntryIs0 ctx PP 135 [] [(63,Hr z0)] cv21 cv1 fun a=>Sr z0 a) Bc)
noncomputable def Vl {γ:Type} (F:Ye):Hd ctx γ:=hdl cv21.dec (fun a=>F a) cv1.enc
abbrev Wl:=ByteArray→Int→Option Int
noncomputable def Ur (s_0:ByteArray) (at_1:Int):Option Int:=
 bif ((decide (0≤at_1)) && (decide (at_1<(s_0.size:Int)))) then
 bif ((decide (0≤(w64 (at_1+1)))) && (decide ((w64 (at_1+1))<(s_0.size:Int)))) then
 bif ((decide (0≤(w64 (at_1+2)))) && (decide ((w64 (at_1+2))<(s_0.size:Int)))) then
 bif ((decide (0≤(w64 (at_1+3)))) && (decide ((w64 (at_1+3))<(s_0.size:Int)))) then
 some (w32 ((w32 ((w32 ((w32 ((w32 (bt s_0 at_1))*16777216))+(w32 ((w32 (bt s_0 (w64 (at_1+1))))*65536))))+(w32 ((w32 (bt s_0 (w64 (at_1+2))))*256))))+(w32 (bt s_0 (w64 (at_1+3))))))
 else none
 else none
 else none
 else none
noncomputable def Ud:Wl:=Ur
theorem V8:Tells ctx PP 155 cv23 cv15 (fun a=>Ud a.1 a.2):=fn_ok0 hl_nil Tryd.func155 (fun a=>by kernel_rfl:EntryIs0 ctx PP 155 [] [] cv23 cv15 fun a=>Ur a.1 a.2)
noncomputable def Ey {γ:Type} (F:Wl):Hd ctx γ:=hdl cv23.dec (fun a=>F a.1 a.2) cv15.enc
abbrev Dc:=ByteArray→Option (List Int)
inductive Ii where
 | c0 (s_0:ByteArray) (i_4:Int) (out_3:(List Int))
noncomputable def Gy:Ii→LI
 | .c0 s_0 i_4 out_3=>(tdo Tryd.f136 464,[(0,[.one (.str s_0)]),(3,[.one (.own 240)]),(4,[.one (.int .i64 i_4)])],[(240,.sl 114 out_3)])
noncomputable def Hy (z0:Wl) (k:Ii→Option (List Int)) (s_0:ByteArray):Option (List Int):=
 k (.c0 s_0 0 [])
noncomputable def Xl (z0:Wl) (k:Ii→Option (List Int)):Ii→Option (List Int)
 | .c0 s_0 i_4 out_3=>
 bif (decide ((w64 (i_4+4))≤(s_0.size:Int))) then
  (z0 s_0 i_4).bind fun r0=>
  bif (decide (((out_3.length+1)*4)≤140737488355328)) then
  k (.c0 s_0 (w64 (i_4+4)) (out_3++[r0]))
  else none
 else
  some out_3
noncomputable def Ji:Nat→Ii→Option (List Int)
 | 0,_=>none
 | m+1,s=>Xl Ud (Ji m) s
noncomputable def DZ:Dc:=Hy Ud (Ji gas)
theorem Vr:Tells ctx PP 136 cv9 cv19 (fun a=>DZ a):=
 have b:∀ z0,CutIs ctx PP 136 Tryd.f136 [] [(155,Ey z0)] cv19 Gy (Xl z0):=fun z0 _ s=>by cases s <;> kernel_rfl
 have e:∀ z0,EntryIs ctx PP 136 [] [(155,Ey z0)] cv9 cv19 Gy (fun k a=>Hy z0 k a):=fun z0 _ a=>by kernel_rfl
 fn_ok (hc V8 hl_nil) Tryd.func136 (fun s s' h=>by cases s;cases s';cases h;rfl) (fun _=>rfl) (fun _ _=>rfl) (b Ud) (e Ud) gas
noncomputable def Ze {γ:Type} (F:Dc):Hd ctx γ:=hdl cv9.dec (fun a=>F a) cv19.enc
abbrev Af:=Option (List Int)
noncomputable def Iy  : Option (List Int):=
 some [1116352408,1899447441,3049323471,3921009573,961987163,1508970993,2453635748,2870763221,3624381080,310598401,607225278,1426881987,1925078388,2162078206,2614888103,3248222580,3835390401,4022224774,264347078,604807628,770255983,1249150122,1555081692,1996064986,2554220882,2821834349,2952996808,3210313671,3336571891,3584528711,113926993,338241895,666307205,773529912,1294757372,1396182291,1695183700,1986661051,2177026350,2456956037,2730485921,2820302411,3259730800,3345764771,3516065817,3600352804,4094571909,275423344,430227734,506948616,659060556,883997877,958139571,1322822218,1537002063,1747873779,1955562222,2024104815,2227730452,2361852424,2428436474,2756734187,3204031479,3329325298]
noncomputable def Ba:Af:=Iy
theorem Jy:Tells ctx PP 137 cv12 cv19 (fun _=>Ba):=fn_ok0 hl_nil Tryd.func137 (fun _=>by kernel_rfl:EntryIs0 ctx PP 137 [] [] cv12 cv19 fun _=>Iy)
noncomputable def Yl {γ:Type} (F:Af):Hd ctx γ:=hdl cv12.dec (fun _=>F) cv19.enc
abbrev Xr:=Int→Int→Int→Option Int
noncomputable def Yr (x_0:Int) (low_1:Int) (high_2:Int):Option Int:=
 bif (!(low_1 == 0)) then
 bif (!(low_1 == 0)) then
 some (w32 ((w32 (x_0.tdiv low_1))+(w32 ((x_0.tmod low_1)*high_2))))
 else none
 else none
noncomputable def Oi:Xr:=Yr
theorem X8:Tells ctx PP 164 cv24 cv15 (fun a=>Oi a.1 a.2.1 a.2.2):=fn_ok0 hl_nil Tryd.func164 (fun a=>by kernel_rfl:EntryIs0 ctx PP 164 [] [] cv24 cv15 fun a=>Yr a.1 a.2.1 a.2.2)
noncomputable def Y8 {γ:Type} (F:Xr):Hd ctx γ:=hdl cv24.dec (fun a=>F a.1 a.2.1 a.2.2) cv15.enc
abbrev Zl:=Int→Int→Int→Int→Bool→Option Int
noncomputable def Bf (z0:Xr) (x_0:Int) (a_1:Int) (b_2:Int) (c_3:Int) (last_4:Bool):Option Int:=
 bif (!(a_1 == 0)) then
 (z0 x_0 a_1 (w32 ((w32 ((2147483648:Int).tdiv a_1))*2))).bind fun r0=>
 bif (!(b_2 == 0)) then
 (z0 x_0 b_2 (w32 ((w32 ((2147483648:Int).tdiv b_2))*2))).bind fun r1=>
 bif (!(c_3 == 0)) then
 bif (!last_4) then
 bif (!(c_3 == 0)) then
 (z0 x_0 c_3 (w32 ((w32 ((2147483648:Int).tdiv c_3))*2))).bind fun r2=>
 some (w32 (((BitVec.toNat ((BitVec.ofInt (IntKind.bits IntKind.u32) (w32 (((BitVec.toNat ((BitVec.ofInt (IntKind.bits IntKind.u32) r0) ^^^ (BitVec.ofInt (IntKind.bits IntKind.u32) r1))):Nat):Int))) ^^^ (BitVec.ofInt (IntKind.bits IntKind.u32) r2))):Nat):Int))
 else none
 else
 some (w32 (((BitVec.toNat ((BitVec.ofInt (IntKind.bits IntKind.u32) (w32 (((BitVec.toNat ((BitVec.ofInt (IntKind.bits IntKind.u32) r0) ^^^ (BitVec.ofInt (IntKind.bits IntKind.u32) r1))):Nat):Int))) ^^^ (BitVec.ofInt (IntKind.bits IntKind.u32) (w32 (x_0.tdiv c_3))))):Nat):Int))
 else none
 else none
 else none
noncomputable def LZ:Zl:=Bf Oi
theorem Z8:Tells ctx PP 156 cv25 cv15 (fun a=>LZ a.1 a.2.1 a.2.2.1 a.2.2.2.1 a.2.2.2.2):=fn_ok0 (hc X8 hl_nil) Tryd.func156 ((fun z0 a=>by kernel_rfl:∀ z0,EntryIs0 ctx PP 156 [] [(164,Y8 z0)] cv25 cv15 fun a=>Bf z0 a.1 a.2.1 a.2.2.1 a.2.2.2.1 a.2.2.2.2) Oi)
noncomputable def Ky {γ:Type} (F:Zl):Hd ctx γ:=hdl cv25.dec (fun a=>F a.1 a.2.1 a.2.2.1 a.2.2.2.1 a.2.2.2.2) cv15.enc
abbrev Df:=(List Int)→(List Int)→ByteArray→Option (List Int)
inductive Qi where
 | c0 (t_0:(List Int)) (o_1:(List Int)) (v_8:Int) (v_7:(List Int))
 | c1 (t_0:(List Int)) (o_1:(List Int)) (v_10:Int) (v_7:(List Int)) (v_9:(List Int))
 | c2 (t_0:(List Int)) (o_1:(List Int)) (v_10:Int) (v_13:Int) (v_15:Int) (v_16:Int) (v_7:(List Int)) (v_9:(List Int))
 | c3 (t_0:(List Int)) (v_18:Int) (v_9:(List Int)) (v_17:(List Int))
noncomputable def Ny:Qi→LI
 | .c0 t_0 o_1 v_8 v_7=>(tdo Tryd.f138 464,[(0,[.one (.rsl 114 t_0)]),(1,[.one (.rsl 114 o_1)]),(7,[.one (.own 496)]),(8,[.one (.int .i64 v_8)])],[(496,.sl 114 v_7)])
 | .c1 t_0 o_1 v_10 v_7 v_9=>(tdo Tryd.f138 2000,[(0,[.one (.rsl 114 t_0)]),(1,[.one (.rsl 114 o_1)]),(7,[.one (.own 496)]),(9,[.one (.own 624)]),(10,[.one (.int .i64 v_10)])],[(496,.sl 114 v_7),(624,.sl 114 v_9)])
 | .c2 t_0 o_1 v_10 v_13 v_15 v_16 v_7 v_9=>(tdo Tryd.f138 8202192,[(0,[.one (.rsl 114 t_0)]),(1,[.one (.rsl 114 o_1)]),(7,[.one (.own 496)]),(9,[.one (.own 624)]),(10,[.one (.int .i64 v_10)]),(13,[.one (.int .u32 v_13)]),(15,[.one (.int .u32 v_15)]),(16,[.one (.int .i64 v_16)])],[(496,.sl 114 v_7),(624,.sl 114 v_9)])
 | .c3 t_0 v_18 v_9 v_17=>(tdo Tryd.f138 8144,[(0,[.one (.rsl 114 t_0)]),(9,[.one (.own 624)]),(17,[.one (.own 1136)]),(18,[.one (.int .i64 v_18)])],[(624,.sl 114 v_9),(1136,.sl 114 v_17)])
noncomputable def Zr (z0:Dc) (z1:Zl) (k:Qi→Option (List Int)) (t_0:(List Int)) (o_1:(List Int)) (A_2:ByteArray):Option (List Int):=
 (z0 A_2).bind fun r0=>
 k (.c0 t_0 o_1 16 r0)
noncomputable def Ea (z0:Dc) (z1:Zl) (k:Qi→Option (List Int)):Qi→Option (List Int)
 | .c0 t_0 o_1 v_8 v_7=>
 bif (decide (v_8<64)) then
  bif ((decide (0≤(w64 (v_8 - 2)))) && (decide ((w64 (v_8 - 2))<(v_7.length:Int)))) then
  (z1 (v_7.getD (w64 (v_8 - 2)).toNat 0) 131072 524288 1024 true).bind fun r0=>
  bif ((decide (0≤(w64 (v_8 - 7)))) && (decide ((w64 (v_8 - 7))<(v_7.length:Int)))) then
  bif ((decide (0≤(w64 (v_8 - 15)))) && (decide ((w64 (v_8 - 15))<(v_7.length:Int)))) then
  (z1 (v_7.getD (w64 (v_8 - 15)).toNat 0) 128 262144 8 true).bind fun r1=>
  bif ((decide (0≤(w64 (v_8 - 16)))) && (decide ((w64 (v_8 - 16))<(v_7.length:Int)))) then
  bif (decide (((v_7.length+1)*4)≤140737488355328)) then
  k (.c0 t_0 o_1 (w64 (v_8+1)) (v_7++[(w32 ((w32 ((w32 (r0+(v_7.getD (w64 (v_8 - 7)).toNat 0)))+r1))+(v_7.getD (w64 (v_8 - 16)).toNat 0)))]))
  else none
  else none
  else none
  else none
  else none
 else
  bif (decide (((0+t_0.length)*4)≤140737488355328)) then
  k (.c1 t_0 o_1 0 v_7 ([]++t_0))
  else none
 | .c1 t_0 o_1 v_10 v_7 v_9=>
 bif (decide (v_10<64)) then
  bif ((decide ((0:Int)≤(4:Int))) && (decide (4<(v_9.length:Int)))) then
  bif ((decide ((0:Int)≤(5:Int))) && (decide (5<(v_9.length:Int)))) then
  bif ((decide ((0:Int)≤(6:Int))) && (decide (6<(v_9.length:Int)))) then
  bif ((decide ((0:Int)≤(7:Int))) && (decide (7<(v_9.length:Int)))) then
  (z1 (v_9.getD (4:Int).toNat 0) 64 2048 33554432 false).bind fun r0=>
  bif ((decide (0≤v_10)) && (decide (v_10<(o_1.length:Int)))) then
  bif ((decide (0≤v_10)) && (decide (v_10<(v_7.length:Int)))) then
  bif ((decide ((0:Int)≤(0:Int))) && (decide (0<(v_9.length:Int)))) then
  bif ((decide ((0:Int)≤(1:Int))) && (decide (1<(v_9.length:Int)))) then
  bif ((decide ((0:Int)≤(0:Int))) && (decide (0<(v_9.length:Int)))) then
  bif ((decide ((0:Int)≤(2:Int))) && (decide (2<(v_9.length:Int)))) then
  bif ((decide ((0:Int)≤(1:Int))) && (decide (1<(v_9.length:Int)))) then
  bif ((decide ((0:Int)≤(2:Int))) && (decide (2<(v_9.length:Int)))) then
  bif ((decide ((0:Int)≤(0:Int))) && (decide (0<(v_9.length:Int)))) then
  (z1 (v_9.getD (0:Int).toNat 0) 4 8192 4194304 false).bind fun r1=>
  k (.c2 t_0 o_1 v_10 (w32 ((w32 ((w32 ((w32 ((v_9.getD (7:Int).toNat 0)+r0))+(w32 (((BitVec.toNat ((BitVec.ofInt (IntKind.bits IntKind.u32) (w32 (((BitVec.toNat ((BitVec.ofInt (IntKind.bits IntKind.u32) (v_9.getD (4:Int).toNat 0)) &&& (BitVec.ofInt (IntKind.bits IntKind.u32) (v_9.getD (5:Int).toNat 0)))):Nat):Int))) ^^^ (BitVec.ofInt (IntKind.bits IntKind.u32) (w32 (((BitVec.toNat ((BitVec.ofInt (IntKind.bits IntKind.u32) (w32 (4294967295 - (v_9.getD (4:Int).toNat 0)))) &&& (BitVec.ofInt (IntKind.bits IntKind.u32) (v_9.getD (6:Int).toNat 0)))):Nat):Int))))):Nat):Int))))+(o_1.getD v_10.toNat 0)))+(v_7.getD v_10.toNat 0))) (w32 (r1+(w32 (((BitVec.toNat ((BitVec.ofInt (IntKind.bits IntKind.u32) (w32 (((BitVec.toNat ((BitVec.ofInt (IntKind.bits IntKind.u32) (w32 (((BitVec.toNat ((BitVec.ofInt (IntKind.bits IntKind.u32) (v_9.getD (0:Int).toNat 0)) &&& (BitVec.ofInt (IntKind.bits IntKind.u32) (v_9.getD (1:Int).toNat 0)))):Nat):Int))) ^^^ (BitVec.ofInt (IntKind.bits IntKind.u32) (w32 (((BitVec.toNat ((BitVec.ofInt (IntKind.bits IntKind.u32) (v_9.getD (0:Int).toNat 0)) &&& (BitVec.ofInt (IntKind.bits IntKind.u32) (v_9.getD (2:Int).toNat 0)))):Nat):Int))))):Nat):Int))) ^^^ (BitVec.ofInt (IntKind.bits IntKind.u32) (w32 (((BitVec.toNat ((BitVec.ofInt (IntKind.bits IntKind.u32) (v_9.getD (1:Int).toNat 0)) &&& (BitVec.ofInt (IntKind.bits IntKind.u32) (v_9.getD (2:Int).toNat 0)))):Nat):Int))))):Nat):Int)))) 7 v_7 v_9)
  else none
  else none
  else none
  else none
  else none
  else none
  else none
  else none
  else none
  else none
  else none
  else none
  else none
 else
  k (.c3 t_0 0 v_9 [])
 | .c2 t_0 o_1 v_10 v_13 v_15 v_16 v_7 v_9=>
 bif (decide (v_16 > 0)) then
  bif ((decide (0≤(w64 (v_16 - 1)))) && (decide ((w64 (v_16 - 1))<(v_9.length:Int)))) then
  bif ((decide (0≤v_16)) && (decide (v_16<(v_9.length:Int)))) then
  k (.c2 t_0 o_1 v_10 v_13 v_15 (w64 (v_16 - 1)) v_7 (v_9.set v_16.toNat (v_9.getD (w64 (v_16 - 1)).toNat 0)))
  else none
  else none
 else
  bif ((decide ((0:Int)≤(4:Int))) && (decide (4<(v_9.length:Int)))) then
  bif ((decide ((0:Int)≤(4:Int))) && (decide (4<(v_9.length:Int)))) then
  bif ((decide ((0:Int)≤(0:Int))) && (decide (0<((v_9.set (4:Int).toNat (w32 ((v_9.getD (4:Int).toNat 0)+v_13))).length:Int)))) then
  k (.c1 t_0 o_1 (w64 (v_10+1)) v_7 ((v_9.set (4:Int).toNat (w32 ((v_9.getD (4:Int).toNat 0)+v_13))).set (0:Int).toNat (w32 (v_13+v_15))))
  else none
  else none
  else none
 | .c3 t_0 v_18 v_9 v_17=>
 bif (decide (v_18<8)) then
  bif ((decide (0≤v_18)) && (decide (v_18<(t_0.length:Int)))) then
  bif ((decide (0≤v_18)) && (decide (v_18<(v_9.length:Int)))) then
  bif (decide (((v_17.length+1)*4)≤140737488355328)) then
  k (.c3 t_0 (w64 (v_18+1)) v_9 (v_17++[(w32 ((t_0.getD v_18.toNat 0)+(v_9.getD v_18.toNat 0)))]))
  else none
  else none
  else none
 else
  some v_17
noncomputable def VY:Nat→Qi→Option (List Int)
 | 0,_=>none
 | m+1,s=>Ea DZ LZ (VY m) s
noncomputable def UZ:Df:=Zr DZ LZ (VY gas)
theorem Oy:Tells ctx PP 138 cv26 cv19 (fun a=>UZ a.1 a.2.1 a.2.2):=
 have b:∀ z0 z1,CutIs ctx PP 138 Tryd.f138 [] [(136,Ze z0),(156,Ky z1)] cv19 Ny (Ea z0 z1):=fun z0 z1 _ s=>by cases s <;> kernel_rfl
 have e:∀ z0 z1,EntryIs ctx PP 138 [] [(136,Ze z0),(156,Ky z1)] cv26 cv19 Ny (fun k a=>Zr z0 z1 k a.1 a.2.1 a.2.2):=fun z0 z1 _ a=>by kernel_rfl
 fn_ok (hc Vr (hc Z8 hl_nil)) Tryd.func138 (fun s s' h=>by cases s <;> cases s' <;> first | (cases h;done) | (cases h;rfl) | exact (rg_ne h (by kernel_rfl)).elim) (fun _=>rfl) (fun _ _=>rfl) (b DZ LZ) (e DZ LZ) gas
noncomputable def Am {γ:Type} (F:Df):Hd ctx γ:=hdl cv26.dec (fun a=>F a.1 a.2.1 a.2.2) cv19.enc
abbrev Es:=SHasher→ByteArray→Option SHasher
inductive Ri where
 | c0 (s_1:ByteArray) (buf_7:ByteArray) (at_8:Int) (h_2:SHasher) (v_4:SHasher) (state_5:(List Int)) (k_6:(List Int))
noncomputable def Py:Ri→LI
 | .c0 s_1 buf_7 at_8 h_2 v_4 state_5 k_6=>(tdo Tryd.f111 4064,[(1,[.one (.str s_1)]),(2,[.one (.ptr 128 0)]),(4,[.one (.ptr 256 0)]),(5,[.one (.own 368)]),(6,[.one (.own 432)]),(7,[.one (.str buf_7)]),(8,[.one (.int .i64 at_8)])],[(128,.var [.str h_2.fState,.str h_2.fRest,.int .i64 h_2.fCount]),(256,.var [.str v_4.fState,.str v_4.fRest,.int .i64 v_4.fCount]),(368,.sl 114 state_5),(432,.sl 114 k_6)])
noncomputable def Gs (z0:Ye) (z1:Dc) (z2:Af) (z3:Df) (z4:Td) (k:Ri→Option SHasher) (h_0:SHasher) (s_1:ByteArray):Option SHasher:=
 (z0 h_0).bind fun r0=>
 bif (!r0) then
 some h_0
 else
 bif (decide ((w64 (h_0.fCount+(s_1.size:Int))) > 1000000000)) then
  some h_0
 else
  (z1 h_0.fState).bind fun r1=>
  z2.bind fun r2=>
  bif (decide ((h_0.fRest.size+s_1.size)≤9223372036854775807)) then
  k (.c0 s_1 (h_0.fRest++s_1) 0 h_0 ⟨⟨#[]⟩,⟨#[]⟩,0⟩ r1 r2)
  else none
noncomputable def Cm (z0:Ye) (z1:Dc) (z2:Af) (z3:Df) (z4:Td) (k:Ri→Option SHasher):Ri→Option SHasher
 | .c0 s_1 buf_7 at_8 h_2 v_4 state_5 k_6=>
 bif (decide ((w64 (at_8+64))≤(buf_7.size:Int))) then
  bif (((decide (0≤at_8)) && (decide (at_8≤(w64 (at_8+64))))) && (decide ((w64 (at_8+64))≤(buf_7.size:Int)))) then
  (z3 state_5 k_6 (buf_7.extract at_8.toNat (w64 (at_8+64)).toNat)).bind fun r0=>
  k (.c0 s_1 buf_7 (w64 (at_8+64)) h_2 v_4 r0 k_6)
  else none
 else
  (z4 state_5).bind fun r1=>
  bif ((decide (0≤at_8)) && (decide (at_8≤(buf_7.size:Int)))) then
  some ⟨r1,(buf_7.extract at_8.toNat buf_7.size),(w64 (h_2.fCount+(s_1.size:Int)))⟩
  else none
noncomputable def Si:Nat→Ri→Option SHasher
 | 0,_=>none
 | m+1,s=>Cm KZ DZ Ba UZ PZ (Si m) s
noncomputable def Ti:Es:=Gs KZ DZ Ba UZ PZ (Si gas)
theorem C9:Tells ctx PP 111 cv27 cv21 (fun a=>Ti a.1 a.2):=
 have b:∀ z0 z1 z2 z3 z4,CutIs ctx PP 111 Tryd.f111 [] [(135,Vl z0),(136,Ze z1),(137,Yl z2),(138,Am z3),(139,Ei z4)] cv21 Py (Cm z0 z1 z2 z3 z4):=fun z0 z1 z2 z3 z4 _ s=>by cases s <;> kernel_rfl
 have e:∀ z0 z1 z2 z3 z4,EntryIs ctx PP 111 [] [(135,Vl z0),(136,Ze z1),(137,Yl z2),(138,Am z3),(139,Ei z4)] cv27 cv21 Py (fun k a=>Gs z0 z1 z2 z3 z4 k a.1 a.2):=fun z0 z1 z2 z3 z4 _ a=>by kernel_rfl
 fn_ok (hc Dy (hc Vr (hc Jy (hc Oy (hc Lr hl_nil))))) Tryd.func111 (fun s s' h=>by cases s;cases s';(repeat cases ‹SHasher›);cases h;rfl) (fun _=>rfl) (fun _ _=>rfl) (b KZ DZ Ba UZ PZ) (e KZ DZ Ba UZ PZ) gas
noncomputable def D9 {γ:Type} (F:Es):Hd ctx γ:=hdl cv27.dec (fun a=>F a.1 a.2) cv21.enc
abbrev Js:=SHasher→Option ByteArray
inductive Ui where
 | c0 (h_1:SHasher) (tail_3:(List Int))
 | c1 (bits_4:Int) (i_5:Int) (h_1:SHasher) (tail_3:(List Int))
 | c2 (bits_4:Int) (i_5:Int) (x_6:Int) (k_7:Int) (h_1:SHasher) (tail_3:(List Int))
 | c3 (at_10:Int) (tail_3:(List Int)) (state_8:(List Int)) (k_9:(List Int))
noncomputable def Qy:Ui→LI
 | .c0 h_1 tail_3=>(tdo Tryd.f110 992,[(1,[.one (.ptr 64 0)]),(3,[.one (.own 240)])],[(64,.var [.str h_1.fState,.str h_1.fRest,.int .i64 h_1.fCount]),(240,.sl 5 tail_3)])
 | .c1 bits_4 i_5 h_1 tail_3=>(tdo Tryd.f110 8144,[(1,[.one (.ptr 64 0)]),(3,[.one (.own 240)]),(4,[.one (.int .i64 bits_4)]),(5,[.one (.int .i64 i_5)])],[(64,.var [.str h_1.fState,.str h_1.fRest,.int .i64 h_1.fCount]),(240,.sl 5 tail_3)])
 | .c2 bits_4 i_5 x_6 k_7 h_1 tail_3=>(tdo Tryd.f110 2085456,[(1,[.one (.ptr 64 0)]),(3,[.one (.own 240)]),(4,[.one (.int .i64 bits_4)]),(5,[.one (.int .i64 i_5)]),(6,[.one (.int .i64 x_6)]),(7,[.one (.int .i64 k_7)])],[(64,.var [.str h_1.fState,.str h_1.fRest,.int .i64 h_1.fCount]),(240,.sl 5 tail_3)])
 | .c3 at_10 tail_3 state_8 k_9=>(tdo Tryd.f110 65488,[(3,[.one (.own 240)]),(8,[.one (.own 560)]),(9,[.one (.own 624)]),(10,[.one (.int .i64 at_10)])],[(240,.sl 5 tail_3),(560,.sl 114 state_8),(624,.sl 114 k_9)])
noncomputable def Ls (z0:Ye) (z1:Dc) (z2:Af) (z3:Df) (z4:Td) (k:Ui→Option ByteArray) (h_0:SHasher):Option ByteArray:=
 (z0 h_0).bind fun r0=>
 bif (!r0) then
 some ⟨#[]⟩
 else
 bif (decide (h_0.fRest.size≤9223372036854775807)) then
 bif (decide ((((bytesOf h_0.fRest).length+1)*1)≤140737488355328)) then
 k (.c0 h_0 ((bytesOf h_0.fRest)++[(128:Int)]))
 else none
 else none
noncomputable def Fa (z0:Ye) (z1:Dc) (z2:Af) (z3:Df) (z4:Td) (k:Ui→Option ByteArray):Ui→Option ByteArray
 | .c0 h_1 tail_3=>
 bif (((tail_3.length:Int).tmod 64) != 56) then
  bif (decide (((tail_3.length+1)*1)≤140737488355328)) then
  k (.c0 h_1 (tail_3++[(0:Int)]))
  else none
 else
  k (.c1 (w64 (8*h_1.fCount)) 7 h_1 tail_3)
 | .c1 bits_4 i_5 h_1 tail_3=>
 bif (decide (i_5≥0)) then
  k (.c2 bits_4 i_5 bits_4 0 h_1 tail_3)
 else
  (z1 h_1.fState).bind fun r0=>
  z2.bind fun r1=>
  k (.c3 0 tail_3 r0 r1)
 | .c2 bits_4 i_5 x_6 k_7 h_1 tail_3=>
 bif (decide (k_7<i_5)) then
  k (.c2 bits_4 i_5 (w64 (x_6.tdiv 256)) (w64 (k_7+1)) h_1 tail_3)
 else
  bif (decide (((tail_3.length+1)*1)≤140737488355328)) then
  k (.c1 bits_4 (w64 (i_5 - 1)) h_1 (tail_3++[(w8 (x_6.tmod 256))]))
  else none
 | .c3 at_10 tail_3 state_8 k_9=>
 bif (decide (at_10<(tail_3.length:Int))) then
  bif (((decide (0≤at_10)) && (decide (at_10≤(w64 (at_10+64))))) && (decide ((w64 (at_10+64))≤(tail_3.length:Int)))) then
  (z3 state_8 k_9 (ofBytes ((tail_3.drop at_10.toNat).take ((w64 (at_10+64)).toNat - at_10.toNat)))).bind fun r0=>
  k (.c3 (w64 (at_10+64)) tail_3 r0 k_9)
  else none
 else
  (z4 state_8).bind fun r1=>
  some r1
noncomputable def WY:Nat→Ui→Option ByteArray
 | 0,_=>none
 | m+1,s=>Fa KZ DZ Ba UZ PZ (WY m) s
noncomputable def Wi:Js:=Ls KZ DZ Ba UZ PZ (WY gas)
theorem F9:Tells ctx PP 110 cv21 cv9 (fun a=>Wi a):=
 have b:∀ z0 z1 z2 z3 z4,CutIs ctx PP 110 Tryd.f110 [] [(135,Vl z0),(136,Ze z1),(137,Yl z2),(138,Am z3),(139,Ei z4)] cv9 Qy (Fa z0 z1 z2 z3 z4):=fun z0 z1 z2 z3 z4 _ s=>by cases s <;> kernel_rfl
 have e:∀ z0 z1 z2 z3 z4,EntryIs ctx PP 110 [] [(135,Vl z0),(136,Ze z1),(137,Yl z2),(138,Am z3),(139,Ei z4)] cv21 cv9 Qy (fun k a=>Ls z0 z1 z2 z3 z4 k a):=fun z0 z1 z2 z3 z4 _ a=>by kernel_rfl
 fn_ok (hc Dy (hc Vr (hc Jy (hc Oy (hc Lr hl_nil))))) Tryd.func110 (fun s s' h=>by cases s <;> cases s' <;> first | ((repeat cases ‹SHasher›);cases h;done) | ((repeat cases ‹SHasher›);cases h;rfl) | exact (rg_ne h (by kernel_rfl)).elim) (fun _=>rfl) (fun _ _=>rfl) (b KZ DZ Ba UZ PZ) (e KZ DZ Ba UZ PZ) gas
noncomputable def G9 {γ:Type} (F:Js):Hd ctx γ:=hdl cv21.dec (fun a=>F a) cv9.enc
abbrev Xi:=ByteArray→Option ByteArray
noncomputable def Ns (z0:Nr) (z1:Es) (z2:Js) (s_0:ByteArray):Option ByteArray:=
 z0.bind fun r0=>
 (z1 r0 s_0).bind fun r1=>
 (z2 r1).bind fun r2=>
 some r2
noncomputable def Jb:Xi:=Ns Gi Ti Wi
theorem Ry:Tells ctx PP 60 cv9 cv9 (fun a=>Jb a):=fn_ok0 (hc Q8 (hc C9 (hc F9 hl_nil))) Tryd.func60 ((fun z0 z1 z2 a=>by kernel_rfl:∀ z0 z1 z2,EntryIs0 ctx PP 60 [] [(112,U8 z0),(111,D9 z1),(110,G9 z2)] cv9 cv9 fun a=>Ns z0 z1 z2 a) Gi Ti Wi)
noncomputable def Qs {γ:Type} (F:Xi):Hd ctx γ:=hdl cv9.dec (fun a=>F a) cv9.enc
abbrev Us:=ByteArray→Int→Option ByteArray
inductive Yi where
 | c0 (key_0:ByteArray) (x_1:Int) (i_6:Int) (out_5:(List Int))
noncomputable def Uy:Yi→LI
 | .c0 key_0 x_1 i_6 out_5=>(tdo Tryd.f141 976,[(0,[.one (.str key_0)]),(1,[.one (.int .u8 x_1)]),(5,[.one (.own 368)]),(6,[.one (.int .i64 i_6)])],[(368,.sl 5 out_5)])
noncomputable def Vs (z0:Xi) (k:Yi→Option ByteArray) (key_0:ByteArray) (x_1:Int):Option ByteArray:=
 bif (decide ((key_0.size:Int) > 64)) then
 (z0 key_0).bind fun r0=>
 k (.c0 r0 x_1 0 (List.replicate (64:Int).toNat (0:Int)))
 else
 k (.c0 key_0 x_1 0 (List.replicate (64:Int).toNat (0:Int)))
noncomputable def Em (z0:Xi) (k:Yi→Option ByteArray):Yi→Option ByteArray
 | .c0 key_0 x_1 i_6 out_5=>
 bif (decide (i_6<64)) then
  bif (decide (i_6<(key_0.size:Int))) then
  bif ((decide (0≤i_6)) && (decide (i_6<(key_0.size:Int)))) then
  bif ((decide (0≤i_6)) && (decide (i_6<(out_5.length:Int)))) then
  bif ((decide (0≤i_6)) && (decide (i_6<((out_5.set i_6.toNat (bt key_0 i_6)).length:Int)))) then
  bif ((decide (0≤i_6)) && (decide (i_6<((out_5.set i_6.toNat (bt key_0 i_6)).length:Int)))) then
  k (.c0 key_0 x_1 (w64 (i_6+1)) ((out_5.set i_6.toNat (bt key_0 i_6)).set i_6.toNat (w8 (((BitVec.toNat ((BitVec.ofInt (IntKind.bits IntKind.u8) ((out_5.set i_6.toNat (bt key_0 i_6)).getD i_6.toNat 0)) ^^^ (BitVec.ofInt (IntKind.bits IntKind.u8) x_1))):Nat):Int))))
  else none
  else none
  else none
  else none
  else
  bif ((decide (0≤i_6)) && (decide (i_6<(out_5.length:Int)))) then
  bif ((decide (0≤i_6)) && (decide (i_6<(out_5.length:Int)))) then
  k (.c0 key_0 x_1 (w64 (i_6+1)) (out_5.set i_6.toNat (w8 (((BitVec.toNat ((BitVec.ofInt (IntKind.bits IntKind.u8) (out_5.getD i_6.toNat 0)) ^^^ (BitVec.ofInt (IntKind.bits IntKind.u8) x_1))):Nat):Int))))
  else none
  else none
 else
  some (ofBytes out_5)
noncomputable def Ef:Nat→Yi→Option ByteArray
 | 0,_=>none
 | m+1,s=>Em Jb (Ef m) s
noncomputable def Zi:Us:=Vs Jb (Ef gas)
theorem H9:Tells ctx PP 141 cv34 cv9 (fun a=>Zi a.1 a.2):=
 have b:∀ z0,CutIs ctx PP 141 Tryd.f141 [] [(60,Qs z0)] cv9 Uy (Em z0):=fun z0 _ s=>by cases s <;> kernel_rfl
 have e:∀ z0,EntryIs ctx PP 141 [] [(60,Qs z0)] cv34 cv9 Uy (fun k a=>Vs z0 k a.1 a.2):=fun z0 _ a=>by kernel_rfl
 fn_ok (hc Ry hl_nil) Tryd.func141 (fun s s' h=>by cases s;cases s';cases h;rfl) (fun _=>rfl) (fun _ _=>rfl) (b Jb) (e Jb) gas
noncomputable def I9 {γ:Type} (F:Us):Hd ctx γ:=hdl cv34.dec (fun a=>F a.1 a.2) cv9.enc
abbrev Aj:=ByteArray→ByteArray→Option ByteArray
noncomputable def Ws (z0:Us) (z1:Xi) (key_0:ByteArray) (s_1:ByteArray):Option ByteArray:=
 (z0 key_0 92).bind fun r0=>
 (z0 key_0 54).bind fun r1=>
 bif (decide ((r1.size+s_1.size)≤9223372036854775807)) then
 (z1 (r1++s_1)).bind fun r2=>
 bif (decide ((r0.size+r2.size)≤9223372036854775807)) then
 (z1 (r0++r2)).bind fun r3=>
 some r3
 else none
 else none
noncomputable def Nb:Aj:=Ws Zi Jb
theorem Vy:Tells ctx PP 115 cv35 cv9 (fun a=>Nb a.1 a.2):=fn_ok0 (hc H9 (hc Ry hl_nil)) Tryd.func115 ((fun z0 z1 a=>by kernel_rfl:∀ z0 z1,EntryIs0 ctx PP 115 [] [(141,I9 z0),(60,Qs z1)] cv35 cv9 fun a=>Ws z0 z1 a.1 a.2) Zi Jb)
noncomputable def Dt {γ:Type} (F:Aj):Hd ctx γ:=hdl cv35.dec (fun a=>F a.1 a.2) cv9.enc
abbrev Gm:=ByteArray→Int→Int→Option (ByteArray×Bool)
inductive Bj where
 | c0 (key_0:ByteArray) (num_1:Int) (n_2:Int) (i_9:Int) (out_8:(List Int))
noncomputable def Wy:Bj→LI
 | .c0 key_0 num_1 n_2 i_9 out_8=>(tdo Tryd.f68 976,[(0,[.one (.str key_0)]),(1,[.one (.int .i64 num_1)]),(2,[.one (.int .i64 n_2)]),(8,[.one (.own 560)]),(9,[.one (.int .i64 i_9)])],[(560,.sl 5 out_8)])
noncomputable def Et (z0:Xh) (z1:Yh) (z2:Rl) (z3:Aj) (k:Bj→Option (ByteArray×Bool)) (key_0:ByteArray) (num_1:Int) (n_2:Int):Option (ByteArray×Bool):=
 (z0 num_1 0 1000000000).bind fun r0=>
 bif (!r0) then
 some (⟨#[]⟩,false)
 else
 (z0 n_2 0 8000).bind fun r1=>
 bif (!r1) then
  some (⟨#[]⟩,false)
 else
  k (.c0 key_0 num_1 n_2 0 [])
noncomputable def Jm (z0:Xh) (z1:Yh) (z2:Rl) (z3:Aj) (k:Bj→Option (ByteArray×Bool)):Bj→Option (ByteArray×Bool)
 | .c0 key_0 num_1 n_2 i_9 out_8=>
 bif (decide ((out_8.length:Int)<n_2)) then
  (z1 num_1).bind fun r0=>
  bif (decide (((⟨#[109]⟩:ByteArray).size+r0.size)≤9223372036854775807)) then
  (z2 i_9).bind fun r1=>
  bif (decide ((((⟨#[109]⟩:ByteArray)++r0).size+r1.size)≤9223372036854775807)) then
  (z3 key_0 (((⟨#[109]⟩:ByteArray)++r0)++r1)).bind fun r2=>
  bif (decide (r2.size≤9223372036854775807)) then
  bif (decide (((out_8.length+(bytesOf r2).length)*1)≤140737488355328)) then
  k (.c0 key_0 num_1 n_2 (w64 (i_9+1)) (out_8++(bytesOf r2)))
  else none
  else none
  else none
  else none
 else
  bif ((decide (0≤n_2)) && (decide (n_2≤(out_8.length:Int)))) then
  some ((ofBytes ((out_8.drop 0).take (n_2.toNat - 0))),true)
  else none
noncomputable def Cj:Nat→Bj→Option (ByteArray×Bool)
 | 0,_=>none
 | m+1,s=>Jm Bc Cc Qd Nb (Cj m) s
noncomputable def Vd:Gm:=Et Bc Cc Qd Nb (Cj gas)
theorem Xy:Tells ctx PP 68 cv36 cv33 (fun a=>Vd a.1 a.2.1 a.2.2):=
 have b:∀ z0 z1 z2 z3,CutIs ctx PP 68 Tryd.f68 [] [(63,Hr z0),(78,Ir z1),(116,Wx z2),(115,Dt z3)] cv33 Wy (Jm z0 z1 z2 z3):=fun z0 z1 z2 z3 _ s=>by cases s <;> kernel_rfl
 have e:∀ z0 z1 z2 z3,EntryIs ctx PP 68 [] [(63,Hr z0),(78,Ir z1),(116,Wx z2),(115,Dt z3)] cv36 cv33 Wy (fun k a=>Et z0 z1 z2 z3 k a.1 a.2.1 a.2.2):=fun z0 z1 z2 z3 _ a=>by kernel_rfl
 fn_ok (hc Qx (hc Vx (hc N8 (hc Vy hl_nil)))) Tryd.func68 (fun s s' h=>by cases s;cases s';cases h;rfl) (fun _=>rfl) (fun _ _=>rfl) (b Bc Cc Qd Nb) (e Bc Cc Qd Nb) gas
noncomputable def Yy {γ:Type} (F:Gm):Hd ctx γ:=hdl cv36.dec (fun a=>F a.1 a.2.1 a.2.2) cv33.enc
abbrev Lm:=ByteArray→ByteArray→Option ByteArray
inductive Ej where
 | c0 (b_1:ByteArray) (i_6:Int) (out_5:(List Int))
noncomputable def Zy:Ej→LI
 | .c0 b_1 i_6 out_5=>(tdo Tryd.f69 464,[(1,[.one (.str b_1)]),(5,[.one (.own 368)]),(6,[.one (.int .i64 i_6)])],[(368,.sl 5 out_5)])
noncomputable def Gt (k:Ej→Option ByteArray) (a_0:ByteArray) (b_1:ByteArray):Option ByteArray:=
 bif (decide (a_0.size≤9223372036854775807)) then
 k (.c0 b_1 0 (bytesOf a_0))
 else none
noncomputable def Om (k:Ej→Option ByteArray):Ej→Option ByteArray
 | .c0 b_1 i_6 out_5=>
 bif (decide (i_6<(out_5.length:Int))) then
  bif ((decide (0≤i_6)) && (decide (i_6<(out_5.length:Int)))) then
  bif ((decide (0≤i_6)) && (decide (i_6<(b_1.size:Int)))) then
  bif ((decide (0≤i_6)) && (decide (i_6<(out_5.length:Int)))) then
  k (.c0 b_1 (w64 (i_6+1)) (out_5.set i_6.toNat (w8 (((BitVec.toNat ((BitVec.ofInt (IntKind.bits IntKind.u8) (out_5.getD i_6.toNat 0)) ^^^ (BitVec.ofInt (IntKind.bits IntKind.u8) (bt b_1 i_6)))):Nat):Int))))
  else none
  else none
  else none
 else
  some (ofBytes out_5)
noncomputable def Fj:Nat→Ej→Option ByteArray
 | 0,_=>none
 | m+1,s=>Om (Fj m) s
noncomputable def Xd:Lm:=Gt (Fj gas)
theorem Az:Tells ctx PP 69 cv35 cv9 (fun a=>Xd a.1 a.2):=
 have b:CutIs ctx PP 69 Tryd.f69 [] [] cv9 Zy (Om):=fun _ s=>by cases s <;> kernel_rfl
 have e:EntryIs ctx PP 69 [] [] cv35 cv9 Zy (fun k a=>Gt k a.1 a.2):=fun _ a=>by kernel_rfl
 fn_ok hl_nil Tryd.func69 (fun s s' h=>by cases s;cases s';cases h;rfl) (fun _=>rfl) (fun _ _=>rfl) b e gas
noncomputable def Bz {γ:Type} (F:Lm):Hd ctx γ:=hdl cv35.dec (fun a=>F a.1 a.2) cv9.enc
abbrev Pm:=ByteArray→Int→ByteArray→Option ByteArray
noncomputable def Ht (z0:Yh) (z1:Aj) (key_0:ByteArray) (num_1:Int) (s_2:ByteArray):Option ByteArray:=
 (z0 num_1).bind fun r0=>
 bif (decide (((⟨#[116]⟩:ByteArray).size+r0.size)≤9223372036854775807)) then
 bif (decide ((((⟨#[116]⟩:ByteArray)++r0).size+s_2.size)≤9223372036854775807)) then
 (z1 key_0 (((⟨#[116]⟩:ByteArray)++r0)++s_2)).bind fun r1=>
 bif ((decide ((0:Int)≤(16:Int))) && (decide (16≤(r1.size:Int)))) then
 some (r1.extract 0 (16:Int).toNat)
 else none
 else none
 else none
noncomputable def Yd:Pm:=Ht Cc Nb
theorem Dz:Tells ctx PP 70 cv32 cv9 (fun a=>Yd a.1 a.2.1 a.2.2):=fn_ok0 (hc Vx (hc Vy hl_nil)) Tryd.func70 ((fun z0 z1 a=>by kernel_rfl:∀ z0 z1,EntryIs0 ctx PP 70 [] [(78,Ir z0),(115,Dt z1)] cv32 cv9 fun a=>Ht z0 z1 a.1 a.2.1 a.2.2) Cc Nb)
noncomputable def Ez {γ:Type} (F:Pm):Hd ctx γ:=hdl cv32.dec (fun a=>F a.1 a.2.1 a.2.2) cv9.enc
abbrev Qm:=ByteArray→Int→ByteArray→Option (ByteArray×Bool)
noncomputable def Jt (z0:Gm) (z1:Lm) (z2:Pm) (key_0:ByteArray) (num_1:Int) (s_2:ByteArray):Option (ByteArray×Bool):=
 (z0 key_0 num_1 (s_2.size:Int)).bind fun r0=>
 bif (!r0.2) then
 some (⟨#[]⟩,false)
 else
 (z1 s_2 r0.1).bind fun r1=>
 (z2 key_0 num_1 r1).bind fun r2=>
 bif (decide ((r1.size+r2.size)≤9223372036854775807)) then
 some ((r1++r2),true)
 else none
noncomputable def Zd:Qm:=Jt Vd Xd Yd
theorem Fz:Tells ctx PP 21 cv32 cv33 (fun a=>Zd a.1 a.2.1 a.2.2):=fn_ok0 (hc Xy (hc Az (hc Dz hl_nil))) Tryd.func21 ((fun z0 z1 z2 a=>by kernel_rfl:∀ z0 z1 z2,EntryIs0 ctx PP 21 [] [(68,Yy z0),(69,Bz z1),(70,Ez z2)] cv32 cv33 fun a=>Jt z0 z1 z2 a.1 a.2.1 a.2.2) Vd Xd Yd)
noncomputable def Gz {γ:Type} (F:Qm):Hd ctx γ:=hdl cv32.dec (fun a=>F a.1 a.2.1 a.2.2) cv33.enc
abbrev Kt:=SL01Cur→ByteArray→Option (ByteArray×SL01Cur)
noncomputable def Ot (z0:Ya) (z1:Zf) (c_0:SL01Cur) (s_1:ByteArray):Option (ByteArray×SL01Cur):=
 (z0 ⟨(),c_0.fI,c_0.fH⟩ 12).bind fun r0=>
 bif (r0.1 == 0) then
 (z1 ⟨(),r0.2.fI,r0.2.fH⟩ 1).bind fun r1=>
 bif (decide ((s_1.size+r1.1.size)≤9223372036854775807)) then
 some ((s_1++r1.1),⟨(),r1.2.fI,r1.2.fH⟩)
 else none
 else
 bif (r0.1 == 1) then
  (z0 ⟨(),r0.2.fI,r0.2.fH⟩ (w64 ((s_1.size:Int)+1))).bind fun r2=>
  bif ((decide (0≤r2.1)) && (decide (r2.1≤(s_1.size:Int)))) then
  some ((s_1.extract 0 r2.1.toNat),⟨(),r2.2.fI,r2.2.fH⟩)
  else none
 else
  bif (r0.1 == 2) then
  bif (r0.1 == 2) then
   bif (decide ((s_1.size:Int) > 0)) then
   (z0 ⟨(),r0.2.fI,r0.2.fH⟩ (s_1.size:Int)).bind fun r3=>
   bif ((decide (0≤r3.1)) && (decide (r3.1≤(s_1.size:Int)))) then
   (z1 ⟨(),r3.2.fI,r3.2.fH⟩ 1).bind fun r4=>
   bif (decide (((s_1.extract 0 r3.1.toNat).size+r4.1.size)≤9223372036854775807)) then
   bif ((decide (0≤(w64 (r3.1+1)))) && (decide ((w64 (r3.1+1))≤(s_1.size:Int)))) then
   bif (decide ((((s_1.extract 0 r3.1.toNat)++r4.1).size+(s_1.extract (w64 (r3.1+1)).toNat s_1.size).size)≤9223372036854775807)) then
   some ((((s_1.extract 0 r3.1.toNat)++r4.1)++(s_1.extract (w64 (r3.1+1)).toNat s_1.size)),⟨(),r4.2.fI,r4.2.fH⟩)
   else none
   else none
   else none
   else none
   else
   some (s_1,⟨(),r0.2.fI,r0.2.fH⟩)
  else
   some (s_1,⟨(),r0.2.fI,r0.2.fH⟩)
  else
  bif (r0.1 == 3) then
   bif (decide ((s_1.size:Int) > 0)) then
   (z0 ⟨(),r0.2.fI,r0.2.fH⟩ (s_1.size:Int)).bind fun r5=>
   bif ((decide (0≤r5.1)) && (decide (r5.1≤(s_1.size:Int)))) then
   (z1 ⟨(),r5.2.fI,r5.2.fH⟩ 1).bind fun r6=>
   bif (decide (((s_1.extract 0 r5.1.toNat).size+r6.1.size)≤9223372036854775807)) then
   bif ((decide (0≤(w64 (r5.1+1)))) && (decide ((w64 (r5.1+1))≤(s_1.size:Int)))) then
   bif (decide ((((s_1.extract 0 r5.1.toNat)++r6.1).size+(s_1.extract (w64 (r5.1+1)).toNat s_1.size).size)≤9223372036854775807)) then
   some ((((s_1.extract 0 r5.1.toNat)++r6.1)++(s_1.extract (w64 (r5.1+1)).toNat s_1.size)),⟨(),r6.2.fI,r6.2.fH⟩)
   else none
   else none
   else none
   else none
   else
   some (s_1,⟨(),r0.2.fI,r0.2.fH⟩)
  else
   some (s_1,⟨(),r0.2.fI,r0.2.fH⟩)
noncomputable def Gj:Kt:=Ot UY Za
theorem J9:Tells ctx PP 71 cv37 cv10 (fun a=>Gj a.1 a.2):=fn_ok0 (hc Oc (hc Eo hl_nil)) Tryd.func71 ((fun z0 z1 a=>by kernel_rfl:∀ z0 z1,EntryIs0 ctx PP 71 [0] [(57,Qc z0),(58,Ho z1)] cv37 cv10 fun a=>Ot z0 z1 a.1 a.2) UY Za)
noncomputable def L9 {γ:Type} (F:Kt):Hd ctx γ:=hdl cv37.dec (fun a=>F a.1 a.2) cv10.enc
abbrev Rt:=Unit→Option (ByteArray×Int×ByteArray)
noncomputable def Tt (z0:Xj) (z1:Jk) (z2:Ya) (z3:Nk) (z4:Qm) (z5:Kt) (code_0:Unit):Option (ByteArray×Int×ByteArray):=
 (z0 ()).bind fun r0=>
 (z1 ⟨(),r0.fI,r0.fH⟩).bind fun r1=>
 (z2 ⟨(),r1.2.fI,r1.2.fH⟩ 300).bind fun r2=>
 (z3 ⟨(),r2.2.fI,r2.2.fH⟩).bind fun r3=>
 (z4 r1.1 r2.1 r3.1).bind fun r4=>
 (z2 ⟨(),r3.2.fI,r3.2.fH⟩ 6).bind fun r5=>
 bif (r5.1 == 0) then
 (z5 ⟨(),r5.2.fI,r5.2.fH⟩ r4.1).bind fun r6=>
 some (r1.1,(r2.1,r6.1))
 else
 bif (r5.1 == 1) then
  some (r1.1,((w64 (r2.1+1)),r4.1))
 else
  bif (r5.1 == 2) then
  bif (decide ((r1.1.size+(⟨#[120]⟩:ByteArray).size)≤9223372036854775807)) then
  some ((r1.1++(⟨#[120]⟩:ByteArray)),(r2.1,r4.1))
  else none
  else
  some (r1.1,(r2.1,r4.1))
noncomputable def Ij:Rt:=Tt Nc Tc UY Uc Zd Gj
theorem N9:Tells ctx PP 22 cv0 cv32 (fun a=>Ij a):=fn_ok0 (hc Xu (hc Jv (hc Oc (hc Nv (hc Fz (hc J9 hl_nil)))))) Tryd.func22 ((fun z0 z1 z2 z3 z4 z5 a=>by kernel_rfl:∀ z0 z1 z2 z3 z4 z5,EntryIs0 ctx PP 22 [] [(53,Yu z0),(64,Kv z1),(57,Qc z2),(65,Ov z3),(21,Gz z4),(71,L9 z5)] cv0 cv32 fun a=>Tt z0 z1 z2 z3 z4 z5 a) Nc Tc UY Uc Zd Gj)
noncomputable def O9 {γ:Type} (F:Rt):Hd ctx γ:=hdl cv0.dec (fun a=>F a) cv32.enc
abbrev Ut:=ByteArray→ByteArray→Option Bool
noncomputable def Vt (a_0:ByteArray) (b_1:ByteArray):Option Bool:=
 some ((ByteArray.toList a_0) == (ByteArray.toList b_1))
noncomputable def Sm:Ut:=Vt
theorem P9:Tells ctx PP 72 cv35 cv1 (fun a=>Sm a.1 a.2):=fn_ok0 hl_nil Tryd.func72 (fun a=>by kernel_rfl:EntryIs0 ctx PP 72 [] [] cv35 cv1 fun a=>Vt a.1 a.2)
noncomputable def Q9 {γ:Type} (F:Ut):Hd ctx γ:=hdl cv35.dec (fun a=>F a.1 a.2) cv1.enc
abbrev Xt:=ByteArray→Int→ByteArray→Option (ByteArray×Bool)
noncomputable def Yt (z0:Gm) (z1:Pm) (z2:Ut) (z3:Lm) (key_0:ByteArray) (num_1:Int) (text_2:ByteArray):Option (ByteArray×Bool):=
 bif (decide ((text_2.size:Int)<16)) then
 some (⟨#[]⟩,false)
 else
 bif ((decide (0≤(w64 ((text_2.size:Int) - 16)))) && (decide ((w64 ((text_2.size:Int) - 16))≤(text_2.size:Int)))) then
 (z0 key_0 num_1 ((text_2.extract 0 (w64 ((text_2.size:Int) - 16)).toNat).size:Int)).bind fun r0=>
 bif (!r0.2) then
  some (⟨#[]⟩,false)
 else
  (z1 key_0 num_1 (text_2.extract 0 (w64 ((text_2.size:Int) - 16)).toNat)).bind fun r1=>
  bif ((decide (0≤((text_2.extract 0 (w64 ((text_2.size:Int) - 16)).toNat).size:Int))) && (decide (((text_2.extract 0 (w64 ((text_2.size:Int) - 16)).toNat).size:Int)≤(text_2.size:Int)))) then
  (z2 r1 (text_2.extract ((text_2.extract 0 (w64 ((text_2.size:Int) - 16)).toNat).size:Int).toNat text_2.size)).bind fun r2=>
  bif (!r2) then
  some (⟨#[]⟩,false)
  else
  (z3 (text_2.extract 0 (w64 ((text_2.size:Int) - 16)).toNat) r0.1).bind fun r3=>
  some (r3,true)
  else none
 else none
noncomputable def Jj:Xt:=Yt Vd Yd Sm Xd
theorem S9:Tells ctx PP 23 cv32 cv33 (fun a=>Jj a.1 a.2.1 a.2.2):=fn_ok0 (hc Xy (hc Dz (hc P9 (hc Az hl_nil)))) Tryd.func23 ((fun z0 z1 z2 z3 a=>by kernel_rfl:∀ z0 z1 z2 z3,EntryIs0 ctx PP 23 [] [(68,Yy z0),(70,Ez z1),(72,Q9 z2),(69,Bz z3)] cv32 cv33 fun a=>Yt z0 z1 z2 z3 a.1 a.2.1 a.2.2) Vd Yd Sm Xd)
noncomputable def U9 {γ:Type} (F:Xt):Hd ctx γ:=hdl cv32.dec (fun a=>F a.1 a.2.1 a.2.2) cv33.enc
abbrev Zt:=ByteArray→ByteArray→Option Bool
noncomputable def Au (a_0:ByteArray) (b_1:ByteArray):Option Bool:=
 bif (decide ((a_0.size:Int)≤(b_1.size:Int))) then
 bif ((decide (0≤(a_0.size:Int))) && (decide ((a_0.size:Int)≤(b_1.size:Int)))) then
 some ((ByteArray.toList (b_1.extract 0 (a_0.size:Int).toNat)) == (ByteArray.toList a_0))
 else none
 else
 some false
noncomputable def Lj:Zt:=Au
theorem V9:Tells ctx PP 25 cv35 cv1 (fun a=>Lj a.1 a.2):=fn_ok0 hl_nil Tryd.func25 (fun a=>by kernel_rfl:EntryIs0 ctx PP 25 [] [] cv35 cv1 fun a=>Au a.1 a.2)
noncomputable def W9 {γ:Type} (F:Zt):Hd ctx γ:=hdl cv35.dec (fun a=>F a.1 a.2) cv1.enc
abbrev Hz:=Unit→Option Bool
noncomputable def Du (z0:Un) (z1:Yo) (z2:Xq) (z3:Zq) (z4:Qm) (z5:Rt) (z6:Xt) (z7:Oh) (z8:Zt) (t_0:Unit):Option Bool:=
 (z0 ()).bind fun r0=>
 bif r0 then
 some true
 else
 (z1 ()).bind fun r1=>
 (z2 r1.1 r1.2.1 r1.2.2).bind fun r2=>
 (z3 r1.1 r1.2.1 r2.1).bind fun r3=>
 (z4 r1.1 r1.2.1 r1.2.2).bind fun r4=>
 bif (!(r2.2 == r4.2)) then
  some false
 else
  bif r2.2 then
  bif (!r3.2) then
   some false
  else
   bif (!((ByteArray.toList r3.1) == (ByteArray.toList r1.2.2))) then
   some false
   else
   bif ((r2.1.size:Int) != (w64 ((r1.2.2.size:Int)+16))) then
    some false
   else
    (z5 ()).bind fun r5=>
    (z3 r5.1 r5.2.1 r5.2.2).bind fun r6=>
    (z6 r5.1 r5.2.1 r5.2.2).bind fun r7=>
    (z2 r5.1 r5.2.1 r6.1).bind fun r8=>
    (z7 r1.1 3 40).bind fun r9=>
    (z7 r1.1 3 70).bind fun r10=>
    bif (r6.2 == r7.2) then
    bif (!r6.2) then
     bif r9.2 then
     bif r10.2 then
      (z8 r9.1 r10.1).bind fun r11=>
      bif r11 then
      some ((r10.1.size:Int) == 70)
      else
      some false
     else
      some false
     else
     some false
    else
     bif ((ByteArray.toList r8.1) == (ByteArray.toList r5.2.2)) then
     bif r9.2 then
      bif r10.2 then
      (z8 r9.1 r10.1).bind fun r12=>
      bif r12 then
       some ((r10.1.size:Int) == 70)
      else
       some false
      else
      some false
     else
      some false
     else
     some false
    else
    some false
  else
  (z5 ()).bind fun r13=>
  (z3 r13.1 r13.2.1 r13.2.2).bind fun r14=>
  (z6 r13.1 r13.2.1 r13.2.2).bind fun r15=>
  (z2 r13.1 r13.2.1 r14.1).bind fun r16=>
  (z7 r1.1 3 40).bind fun r17=>
  (z7 r1.1 3 70).bind fun r18=>
  bif (r14.2 == r15.2) then
   bif (!r14.2) then
   bif r17.2 then
    bif r18.2 then
    (z8 r17.1 r18.1).bind fun r19=>
    bif r19 then
     some ((r18.1.size:Int) == 70)
    else
     some false
    else
    some false
   else
    some false
   else
   bif ((ByteArray.toList r16.1) == (ByteArray.toList r13.2.2)) then
    bif r17.2 then
    bif r18.2 then
     (z8 r17.1 r18.1).bind fun r20=>
     bif r20 then
     some ((r18.1.size:Int) == 70)
     else
     some false
    else
     some false
    else
    some false
   else
    some false
  else
   some false
noncomputable def laws_FnLocks:Hz:=Du Wj Jg Vh Wh Zd Ij Jj Ib Lj
theorem ok_laws_FnLocks:Tells ctx PP 4 cv0 cv1 (fun a=>laws_FnLocks a):=fn_ok0 (hc J6 (hc X6 (hc H8 (hc J8 (hc Fz (hc N9 (hc S9 (hc Rq (hc V9 hl_nil))))))))) Tryd.func4 ((fun z0 z1 z2 z3 z4 z5 z6 z7 z8 a=>by kernel_rfl:∀ z0 z1 z2 z3 z4 z5 z6 z7 z8,EntryIs0 ctx PP 4 [] [(9,L6 z0),(18,Y6 z1),(19,I8 z2),(20,L8 z3),(21,Gz z4),(22,O9 z5),(23,U9 z6),(24,Tq z7),(25,W9 z8)] cv0 cv1 fun a=>Du z0 z1 z2 z3 z4 z5 z6 z7 z8 a) Wj Jg Vh Wh Zd Ij Jj Ib Lj)
noncomputable def NAD {γ:Type} (F:Hz):Hd ctx γ:=hdl cv0.dec (fun a=>F a) cv1.enc
end Go.Proofs.YtjfkbidckphneaaDoor.G

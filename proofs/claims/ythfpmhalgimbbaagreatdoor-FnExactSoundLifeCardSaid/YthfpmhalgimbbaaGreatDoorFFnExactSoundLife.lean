/- Functions of the program, told by plain functions: part 2 of 2. -/
import Derived.Test.YthfpmhalgimbbaaGreatDoorFFnExactSoundLifea
namespace Go.Proofs.YthfpmhalgimbbaaGreatDoor.G
open Go Go.Ev
set_option linter.unusedVariables false
abbrev Q9:=ByteArray→Option ((List ByteArray)×Int)
inductive Gs where
 | c0 (file_0:ByteArray) (at_5:Int) (out_4:(List ByteArray))
noncomputable def EAT:Gs→LI
 | .c0 file_0 at_5 out_4=>(tdo Tryz.f169 496,[(0,[.one (.str file_0)]),(4,[.one (.own 304)]),(5,[.one (.int .i64 at_5)])],[(304,.sl 9 out_4)])
noncomputable def XAG (z0:Ui) (z1:VY) (z2:Js) (z3:Qh) (k:Gs→Option ((List ByteArray)×Int)) (file_0:ByteArray):Option ((List ByteArray)×Int):=
 bif (decide ((file_0.size:Int) > 20000)) then
 some ([],0)
 else
 k (.c0 file_0 0 [])
noncomputable def YAG (z0:Ui) (z1:VY) (z2:Js) (z3:Qh) (k:Gs→Option ((List ByteArray)×Int)):Gs→Option ((List ByteArray)×Int)
 | .c0 file_0 at_5 out_4=>
 (z0 file_0 at_5).bind fun r0=>
 bif (!r0.2.2) then
  some (out_4,at_5)
 else
  (z1 r0.1 1 9000).bind fun r1=>
  bif (!r1) then
  some (out_4,at_5)
  else
  bif (decide (r0.1 > (w64 ((w64 ((file_0.size:Int) - r0.2.1)) - 4)))) then
   some (out_4,at_5)
  else
   bif (((decide (0≤(w64 (r0.2.1+4)))) && (decide ((w64 (r0.2.1+4))≤(w64 ((w64 (r0.2.1+4))+r0.1))))) && (decide ((w64 ((w64 (r0.2.1+4))+r0.1))≤(file_0.size:Int)))) then
   bif (((decide (0≤r0.2.1)) && (decide (r0.2.1≤(w64 (r0.2.1+4))))) && (decide ((w64 (r0.2.1+4))≤(file_0.size:Int)))) then
   (z2 (file_0.extract (w64 (r0.2.1+4)).toNat (w64 ((w64 (r0.2.1+4))+r0.1)).toNat)).bind fun r2=>
   (z3 r2).bind fun r3=>
   bif (!((ByteArray.toList (file_0.extract r0.2.1.toNat (w64 (r0.2.1+4)).toNat)) == (ByteArray.toList r3))) then
   some (out_4,at_5)
   else
   bif (decide (((out_4.length+1)*16)≤140737488355328)) then
   k (.c0 file_0 (w64 ((w64 (r0.2.1+4))+r0.1)) (out_4++[(file_0.extract (w64 (r0.2.1+4)).toNat (w64 ((w64 (r0.2.1+4))+r0.1)).toNat)]))
   else none
   else none
   else none
noncomputable def S9:Nat→Gs→Option ((List ByteArray)×Int)
 | 0,_=>none
 | m+1,s=>YAG TY QX Hf WZ (S9 m) s
noncomputable def Wi:Q9:=XAG TY QX Hf WZ (S9 gas)
theorem CAe:Tells ctx PP 169 cv3 cv106 (fun a=>Wi a):=
 have b:∀ z0 z1 z2 z3,CutIs ctx PP 169 Tryz.f169 [] [(202,Ls z0),(60,GZ z1),(192,AAH z2),(158,Ho z3)] cv106 EAT (YAG z0 z1 z2 z3):=fun z0 z1 z2 z3 _ s=>by cases s <;> kernel_rfl
 have e:∀ z0 z1 z2 z3,EntryIs ctx PP 169 [] [(202,Ls z0),(60,GZ z1),(192,AAH z2),(158,Ho z3)] cv3 cv106 EAT (fun k a=>XAG z0 z1 z2 z3 k a):=fun z0 z1 z2 z3 _ a=>by kernel_rfl
 fn_ok (hc U9 (hc Jc (hc FAT (hc V9 hl_nil)))) Tryz.func169 (fun s s' h=>by cases s;cases s';cases h;rfl) (fun _=>rfl) (fun _ _=>rfl) (b TY QX Hf WZ) (e TY QX Hf WZ) gas
noncomputable def GAT {γ:Type} (F:Q9):Hd ctx γ:=hdl cv3.dec (fun a=>F a) cv106.enc
abbrev W9:=Int→Option (ByteArray×Bool)
noncomputable def BAH (z0:VY) (z1:Rh) (n_0:Int):Option (ByteArray×Bool):=
 (z0 n_0 0 1000000000).bind fun r0=>
 bif (!r0) then
 some (⟨#[]⟩,false)
 else
 (z1 n_0).bind fun r1=>
 some (r1,true)
noncomputable def Xi:W9:=BAH QX Ua
theorem DAe:Tells ctx PP 209 cv15 cv18 (fun a=>Xi a):=fn_ok0 (hc Jc (hc Io hl_nil)) Tryz.func209 ((fun z0 z1 a=>by kernel_rfl:∀ z0 z1,EntryIs0 ctx PP 209 [] [(60,GZ z0),(186,Jo z1)] cv15 cv18 fun a=>BAH z0 z1 a) QX Ua)
noncomputable def IAT {γ:Type} (F:W9):Hd ctx γ:=hdl cv15.dec (fun a=>F a) cv18.enc
abbrev CAH:=ByteArray→Int→Option ByteArray
inductive Ns where
 | c0 (x_1:Int) (v_10:Int) (v_11:Int) (out_5:(List Int))
noncomputable def JAT:Ns→LI
 | .c0 x_1 v_10 v_11 out_5=>(tdo Tryz.f217 232,[(1,[.one (.int .u8 x_1)]),(5,[.one (.own 368)]),(10,[.one (.int .i64 v_10)]),(11,[.one (.int .i64 v_11)])],[(368,.sl 5 out_5)])
noncomputable def DAH (k:Ns→Option ByteArray) (s_0:ByteArray) (x_1:Int):Option ByteArray:=
 bif (decide (s_0.size≤9223372036854775807)) then
 k (.c0 x_1 ((bytesOf s_0).length:Int) 0 (bytesOf s_0))
 else none
noncomputable def X9 (k:Ns→Option ByteArray):Ns→Option ByteArray
 | .c0 x_1 v_10 v_11 out_5=>
 bif (decide (v_11<v_10)) then
  bif ((decide (0≤v_11)) && (decide (v_11<(out_5.length:Int)))) then
  bif ((decide (0≤v_11)) && (decide (v_11<(out_5.length:Int)))) then
  k (.c0 x_1 v_10 (w64 (v_11+1)) (out_5.set v_11.toNat (w8 (((BitVec.toNat ((BitVec.ofInt (IntKind.bits IntKind.u8) (out_5.getD v_11.toNat 0)) ^^^ (BitVec.ofInt (IntKind.bits IntKind.u8) x_1))):Nat):Int))))
  else none
  else none
 else
  some (ofBytes out_5)
noncomputable def Qs:Nat→Ns→Option ByteArray
 | 0,_=>none
 | m+1,s=>X9 (Qs m) s
noncomputable def Yi:CAH:=DAH (Qs gas)
theorem EAe:Tells ctx PP 217 cv28 cv3 (fun a=>Yi a.1 a.2):=
 have b:CutIs ctx PP 217 Tryz.f217 [] [] cv3 JAT (X9):=fun _ s=>by cases s <;> kernel_rfl
 have e:EntryIs ctx PP 217 [] [] cv28 cv3 JAT (fun k a=>DAH k a.1 a.2):=fun _ a=>by kernel_rfl
 fn_ok hl_nil Tryz.func217 (fun s s' h=>by cases s;cases s';cases h;rfl) (fun _=>rfl) (fun _ _=>rfl) b e gas
noncomputable def FAe {γ:Type} (F:CAH):Hd ctx γ:=hdl cv28.dec (fun a=>F a.1 a.2) cv3.enc
abbrev Us:=ByteArray→ByteArray→Option ByteArray
noncomputable def EAH (z0:Vs) (z1:Ws) (z2:CAH) (key_0:ByteArray) (s_1:ByteArray):Option ByteArray:=
 bif (decide ((key_0.size:Int) > 64)) then
 (z0 key_0).bind fun r0=>
 (z1 (w64 (64 - (r0.size:Int)))).bind fun r1=>
 bif (decide ((r0.size+r1.size)≤9223372036854775807)) then
 (z2 (r0++r1) 92).bind fun r2=>
 (z2 (r0++r1) 54).bind fun r3=>
 bif (decide ((r3.size+s_1.size)≤9223372036854775807)) then
 (z0 (r3++s_1)).bind fun r4=>
 bif (decide ((r2.size+r4.size)≤9223372036854775807)) then
 (z0 (r2++r4)).bind fun r5=>
 some r5
 else none
 else none
 else none
 else
 (z1 (w64 (64 - (key_0.size:Int)))).bind fun r6=>
 bif (decide ((key_0.size+r6.size)≤9223372036854775807)) then
 (z2 (key_0++r6) 92).bind fun r7=>
 (z2 (key_0++r6) 54).bind fun r8=>
 bif (decide ((r8.size+s_1.size)≤9223372036854775807)) then
 (z0 (r8++s_1)).bind fun r9=>
 bif (decide ((r7.size+r9.size)≤9223372036854775807)) then
 (z0 (r7++r9)).bind fun r10=>
 some r10
 else none
 else none
 else none
noncomputable def Jf:Us:=EAH Lc He Yi
theorem KAT:Tells ctx PP 210 cv29 cv3 (fun a=>Jf a.1 a.2):=fn_ok0 (hc FAH (hc GAH (hc EAe hl_nil))) Tryz.func210 ((fun z0 z1 z2 a=>by kernel_rfl:∀ z0 z1 z2,EntryIs0 ctx PP 210 [] [(32,HAH z0),(99,IAH z1),(217,FAe z2)] cv29 cv3 fun a=>EAH z0 z1 z2 a.1 a.2) Lc He Yi)
noncomputable def JAH {γ:Type} (F:Us):Hd ctx γ:=hdl cv29.dec (fun a=>F a.1 a.2) cv3.enc
abbrev KAH:=ByteArray→Int→Int→Option (ByteArray×Bool)
inductive Dt where
 | c0 (key_0:ByteArray) (n_2:Int) (v_8:ByteArray) (out_10:ByteArray) (i_11:Int)
noncomputable def LAT:Dt→LI
 | .c0 key_0 n_2 v_8 out_10 i_11=>(tdo Tryz.f189 2000,[(0,[.one (.str key_0)]),(2,[.one (.int .i64 n_2)]),(8,[.one (.str v_8)]),(10,[.one (.str out_10)]),(11,[.one (.int .i64 i_11)])],[])
noncomputable def LAH (z0:W9) (z1:VY) (z2:Ko) (z3:Us) (k:Dt→Option (ByteArray×Bool)) (key_0:ByteArray) (num_1:Int) (n_2:Int):Option (ByteArray×Bool):=
 (z0 num_1).bind fun r0=>
 bif (!r0.2) then
 some (⟨#[]⟩,false)
 else
 (z1 n_2 0 8000).bind fun r1=>
 bif (!r1) then
  some (⟨#[]⟩,false)
 else
  k (.c0 key_0 n_2 r0.1 ⟨#[]⟩ 0)
noncomputable def Y9 (z0:W9) (z1:VY) (z2:Ko) (z3:Us) (k:Dt→Option (ByteArray×Bool)):Dt→Option (ByteArray×Bool)
 | .c0 key_0 n_2 v_8 out_10 i_11=>
 bif (decide ((out_10.size:Int)<n_2)) then
  bif (decide (((⟨#[109]⟩:ByteArray).size+v_8.size)≤9223372036854775807)) then
  (z2 i_11).bind fun r0=>
  bif (decide ((((⟨#[109]⟩:ByteArray)++v_8).size+r0.size)≤9223372036854775807)) then
  (z3 key_0 (((⟨#[109]⟩:ByteArray)++v_8)++r0)).bind fun r1=>
  bif (decide ((out_10.size+r1.size)≤9223372036854775807)) then
  k (.c0 key_0 n_2 v_8 (out_10++r1) (w64 (i_11+1)))
  else none
  else none
  else none
 else
  bif ((decide (0≤n_2)) && (decide (n_2≤(out_10.size:Int)))) then
  some ((out_10.extract 0 n_2.toNat),true)
  else none
noncomputable def Et:Nat→Dt→Option (ByteArray×Bool)
 | 0,_=>none
 | m+1,s=>Y9 Xi QX Mc Jf (Et m) s
noncomputable def Gt:KAH:=LAH Xi QX Mc Jf (Et gas)
theorem GAe:Tells ctx PP 189 cv30 cv18 (fun a=>Gt a.1 a.2.1 a.2.2):=
 have b:∀ z0 z1 z2 z3,CutIs ctx PP 189 Tryz.f189 [] [(209,IAT z0),(60,GZ z1),(188,Z9 z2),(210,JAH z3)] cv18 LAT (Y9 z0 z1 z2 z3):=fun z0 z1 z2 z3 _ s=>by cases s <;> kernel_rfl
 have e:∀ z0 z1 z2 z3,EntryIs ctx PP 189 [] [(209,IAT z0),(60,GZ z1),(188,Z9 z2),(210,JAH z3)] cv30 cv18 LAT (fun k a=>LAH z0 z1 z2 z3 k a.1 a.2.1 a.2.2):=fun z0 z1 z2 z3 _ a=>by kernel_rfl
 fn_ok (hc DAe (hc Jc (hc MAH (hc KAT hl_nil)))) Tryz.func189 (fun s s' h=>by cases s;cases s';cases h;rfl) (fun _=>rfl) (fun _ _=>rfl) (b Xi QX Mc Jf) (e Xi QX Mc Jf) gas
noncomputable def HAe {γ:Type} (F:KAH):Hd ctx γ:=hdl cv30.dec (fun a=>F a.1 a.2.1 a.2.2) cv18.enc
abbrev NAH:=ByteArray→Int→ByteArray→Option ByteArray
noncomputable def OAH (z0:Rh) (z1:Us) (key_0:ByteArray) (num_1:Int) (s_2:ByteArray):Option ByteArray:=
 (z0 num_1).bind fun r0=>
 bif (decide (((⟨#[116]⟩:ByteArray).size+r0.size)≤9223372036854775807)) then
 bif (decide ((((⟨#[116]⟩:ByteArray)++r0).size+s_2.size)≤9223372036854775807)) then
 (z1 key_0 (((⟨#[116]⟩:ByteArray)++r0)++s_2)).bind fun r1=>
 bif ((decide ((0:Int)≤(16:Int))) && (decide (16≤(r1.size:Int)))) then
 some (r1.extract 0 (16:Int).toNat)
 else none
 else none
 else none
noncomputable def Ht:NAH:=OAH Ua Jf
theorem IAe:Tells ctx PP 191 cv31 cv3 (fun a=>Ht a.1 a.2.1 a.2.2):=fn_ok0 (hc Io (hc KAT hl_nil)) Tryz.func191 ((fun z0 z1 a=>by kernel_rfl:∀ z0 z1,EntryIs0 ctx PP 191 [] [(186,Jo z0),(210,JAH z1)] cv31 cv3 fun a=>OAH z0 z1 a.1 a.2.1 a.2.2) Ua Jf)
noncomputable def JAe {γ:Type} (F:NAH):Hd ctx γ:=hdl cv31.dec (fun a=>F a.1 a.2.1 a.2.2) cv3.enc
abbrev PAH:=ByteArray→ByteArray→Option ByteArray
inductive Jt where
 | c0 (b_1:ByteArray) (v_10:Int) (v_11:Int) (out_5:(List Int))
noncomputable def MAT:Jt→LI
 | .c0 b_1 v_10 v_11 out_5=>(tdo Tryz.f190 232,[(1,[.one (.str b_1)]),(5,[.one (.own 368)]),(10,[.one (.int .i64 v_10)]),(11,[.one (.int .i64 v_11)])],[(368,.sl 5 out_5)])
noncomputable def QAH (k:Jt→Option ByteArray) (a_0:ByteArray) (b_1:ByteArray):Option ByteArray:=
 bif (decide (a_0.size≤9223372036854775807)) then
 k (.c0 b_1 ((bytesOf a_0).length:Int) 0 (bytesOf a_0))
 else none
noncomputable def AAA (k:Jt→Option ByteArray):Jt→Option ByteArray
 | .c0 b_1 v_10 v_11 out_5=>
 bif (decide (v_11<v_10)) then
  bif ((decide (0≤v_11)) && (decide (v_11<(out_5.length:Int)))) then
  bif ((decide (0≤v_11)) && (decide (v_11<(b_1.size:Int)))) then
  bif ((decide (0≤v_11)) && (decide (v_11<(out_5.length:Int)))) then
  k (.c0 b_1 v_10 (w64 (v_11+1)) (out_5.set v_11.toNat (w8 (((BitVec.toNat ((BitVec.ofInt (IntKind.bits IntKind.u8) (out_5.getD v_11.toNat 0)) ^^^ (BitVec.ofInt (IntKind.bits IntKind.u8) (bt b_1 v_11)))):Nat):Int))))
  else none
  else none
  else none
 else
  some (ofBytes out_5)
noncomputable def Kt:Nat→Jt→Option ByteArray
 | 0,_=>none
 | m+1,s=>AAA (Kt m) s
noncomputable def Ot:PAH:=QAH (Kt gas)
theorem KAe:Tells ctx PP 190 cv29 cv3 (fun a=>Ot a.1 a.2):=
 have b:CutIs ctx PP 190 Tryz.f190 [] [] cv3 MAT (AAA):=fun _ s=>by cases s <;> kernel_rfl
 have e:EntryIs ctx PP 190 [] [] cv29 cv3 MAT (fun k a=>QAH k a.1 a.2):=fun _ a=>by kernel_rfl
 fn_ok hl_nil Tryz.func190 (fun s s' h=>by cases s;cases s';cases h;rfl) (fun _=>rfl) (fun _ _=>rfl) b e gas
noncomputable def LAe {γ:Type} (F:PAH):Hd ctx γ:=hdl cv29.dec (fun a=>F a.1 a.2) cv3.enc
abbrev BAA:=ByteArray→Int→ByteArray→Option (ByteArray×Bool)
noncomputable def RAH (z0:KAH) (z1:NAH) (z2:PAH) (key_0:ByteArray) (num_1:Int) (text_2:ByteArray):Option (ByteArray×Bool):=
 bif (decide ((w64 ((text_2.size:Int) - 16))<0)) then
 some (⟨#[]⟩,false)
 else
 (z0 key_0 num_1 (w64 ((text_2.size:Int) - 16))).bind fun r0=>
 bif (!r0.2) then
  some (⟨#[]⟩,false)
 else
  bif ((decide (0≤(w64 ((text_2.size:Int) - 16)))) && (decide ((w64 ((text_2.size:Int) - 16))≤(text_2.size:Int)))) then
  (z1 key_0 num_1 (text_2.extract 0 (w64 ((text_2.size:Int) - 16)).toNat)).bind fun r1=>
  bif ((decide (0≤(w64 ((text_2.size:Int) - 16)))) && (decide ((w64 ((text_2.size:Int) - 16))≤(text_2.size:Int)))) then
  bif (!((ByteArray.toList r1) == (ByteArray.toList (text_2.extract (w64 ((text_2.size:Int) - 16)).toNat text_2.size)))) then
  some (⟨#[]⟩,false)
  else
  bif ((decide (0≤(w64 ((text_2.size:Int) - 16)))) && (decide ((w64 ((text_2.size:Int) - 16))≤(text_2.size:Int)))) then
  (z2 (text_2.extract 0 (w64 ((text_2.size:Int) - 16)).toNat) r0.1).bind fun r2=>
  some (r2,true)
  else none
  else none
  else none
noncomputable def Zi:BAA:=RAH Gt Ht Ot
theorem MAe:Tells ctx PP 170 cv31 cv18 (fun a=>Zi a.1 a.2.1 a.2.2):=fn_ok0 (hc GAe (hc IAe (hc KAe hl_nil))) Tryz.func170 ((fun z0 z1 z2 a=>by kernel_rfl:∀ z0 z1 z2,EntryIs0 ctx PP 170 [] [(189,HAe z0),(191,JAe z1),(190,LAe z2)] cv31 cv18 fun a=>RAH z0 z1 z2 a.1 a.2.1 a.2.2) Gt Ht Ot)
noncomputable def NAT {γ:Type} (F:BAA):Hd ctx γ:=hdl cv31.dec (fun a=>F a.1 a.2.1 a.2.2) cv18.enc
abbrev SAH:=SFields→Option (Int×SFields)
noncomputable def CAA (z0:Ui) (f_0:SFields):Option (Int×SFields):=
 (z0 f_0.fText f_0.fAt).bind fun r0=>
 bif (!r0.2.2) then
 some (0,⟨f_0.fText,f_0.fAt,true⟩)
 else
 some (r0.1,⟨f_0.fText,r0.2.1,f_0.fBad⟩)
noncomputable def Uh:SAH:=CAA TY
theorem NAe:Tells ctx PP 214 cv117 cv118 (fun a=>Uh a):=fn_ok0 (hc U9 hl_nil) Tryz.func214 ((fun z0 a=>by kernel_rfl:∀ z0,EntryIs0 ctx PP 214 [0] [(202,Ls z0)] cv117 cv118 fun a=>CAA z0 a) TY)
noncomputable def OAe {γ:Type} (F:SAH):Hd ctx γ:=hdl cv117.dec (fun a=>F a) cv118.enc
abbrev TAH:=ByteArray→Int→Option (ByteArray×Int×Bool)
noncomputable def DAA (z0:Ui) (text_0:ByteArray) (at_1:Int):Option (ByteArray×Int×Bool):=
 (z0 text_0 at_1).bind fun r0=>
 bif (!r0.2.2) then
 some (⟨#[]⟩,(0,false))
 else
 bif (decide (r0.1 > 20000)) then
  some (⟨#[]⟩,(0,false))
 else
  bif (decide (r0.1 > (w64 ((text_0.size:Int) - r0.2.1)))) then
  some (⟨#[]⟩,(0,false))
  else
  bif (((decide (0≤r0.2.1)) && (decide (r0.2.1≤(w64 (r0.2.1+r0.1))))) && (decide ((w64 (r0.2.1+r0.1))≤(text_0.size:Int)))) then
  some ((text_0.extract r0.2.1.toNat (w64 (r0.2.1+r0.1)).toNat),((w64 (r0.2.1+r0.1)),true))
  else none
noncomputable def Aj:TAH:=DAA TY
theorem PAe:Tells ctx PP 218 cv7 cv119 (fun a=>Aj a.1 a.2):=fn_ok0 (hc U9 hl_nil) Tryz.func218 ((fun z0 a=>by kernel_rfl:∀ z0,EntryIs0 ctx PP 218 [] [(202,Ls z0)] cv7 cv119 fun a=>DAA z0 a.1 a.2) TY)
noncomputable def QAe {γ:Type} (F:TAH):Hd ctx γ:=hdl cv7.dec (fun a=>F a.1 a.2) cv119.enc
abbrev UAH:=SFields→Option (ByteArray×SFields)
noncomputable def EAA (z0:TAH) (f_0:SFields):Option (ByteArray×SFields):=
 (z0 f_0.fText f_0.fAt).bind fun r0=>
 bif (!r0.2.2) then
 some (⟨#[]⟩,⟨f_0.fText,f_0.fAt,true⟩)
 else
 some (r0.1,⟨f_0.fText,r0.2.1,f_0.fBad⟩)
noncomputable def Bj:UAH:=EAA Aj
theorem RAe:Tells ctx PP 215 cv117 cv120 (fun a=>Bj a):=fn_ok0 (hc PAe hl_nil) Tryz.func215 ((fun z0 a=>by kernel_rfl:∀ z0,EntryIs0 ctx PP 215 [0] [(218,QAe z0)] cv117 cv120 fun a=>EAA z0 a) Aj)
noncomputable def SAe {γ:Type} (F:UAH):Hd ctx γ:=hdl cv117.dec (fun a=>F a) cv120.enc
abbrev VAH:=ByteArray→Option (SThing×Bool)
noncomputable def FAA (z0:SAH) (z1:UAH) (z2:GAA) (text_0:ByteArray):Option (SThing×Bool):=
 (z0 ⟨text_0,0,false⟩).bind fun r0=>
 (z0 r0.2).bind fun r1=>
 (z0 r1.2).bind fun r2=>
 (z1 r2.2).bind fun r3=>
 (z0 r3.2).bind fun r4=>
 (z2 ⟨r0.1,r1.1,((w64 (((BitVec.toNat ((BitVec.ofInt (IntKind.bits IntKind.i64) r2.1) &&& (BitVec.ofInt (IntKind.bits IntKind.i64) 1))):Nat):Int)) != 0),((w64 (((BitVec.toNat ((BitVec.ofInt (IntKind.bits IntKind.i64) r2.1) &&& (BitVec.ofInt (IntKind.bits IntKind.i64) 2))):Nat):Int)) != 0),((w64 (((BitVec.toNat ((BitVec.ofInt (IntKind.bits IntKind.i64) r2.1) &&& (BitVec.ofInt (IntKind.bits IntKind.i64) 4))):Nat):Int)) != 0),((w64 (((BitVec.toNat ((BitVec.ofInt (IntKind.bits IntKind.i64) r2.1) &&& (BitVec.ofInt (IntKind.bits IntKind.i64) 8))):Nat):Int)) != 0),r3.1,r4.1⟩).bind fun r5=>
 bif r4.2.fBad then
 some (⟨0,0,false,false,false,false,⟨#[]⟩,0⟩,false)
 else
 bif (!r5.2) then
  some (⟨0,0,false,false,false,false,⟨#[]⟩,0⟩,false)
 else
  bif (!((ByteArray.toList r5.1) == (ByteArray.toList text_0))) then
  some (⟨0,0,false,false,false,false,⟨#[]⟩,0⟩,false)
  else
  some (⟨r0.1,r1.1,((w64 (((BitVec.toNat ((BitVec.ofInt (IntKind.bits IntKind.i64) r2.1) &&& (BitVec.ofInt (IntKind.bits IntKind.i64) 1))):Nat):Int)) != 0),((w64 (((BitVec.toNat ((BitVec.ofInt (IntKind.bits IntKind.i64) r2.1) &&& (BitVec.ofInt (IntKind.bits IntKind.i64) 2))):Nat):Int)) != 0),((w64 (((BitVec.toNat ((BitVec.ofInt (IntKind.bits IntKind.i64) r2.1) &&& (BitVec.ofInt (IntKind.bits IntKind.i64) 4))):Nat):Int)) != 0),((w64 (((BitVec.toNat ((BitVec.ofInt (IntKind.bits IntKind.i64) r2.1) &&& (BitVec.ofInt (IntKind.bits IntKind.i64) 8))):Nat):Int)) != 0),r3.1,r4.1⟩,true)
noncomputable def Vh:VAH:=FAA Uh Bj Cj
theorem TAe:Tells ctx PP 203 cv3 cv22 (fun a=>Vh a):=fn_ok0 (hc NAe (hc RAe (hc OAT hl_nil))) Tryz.func203 ((fun z0 z1 z2 a=>by kernel_rfl:∀ z0 z1 z2,EntryIs0 ctx PP 203 [] [(214,OAe z0),(215,SAe z1),(187,QAT z2)] cv3 cv22 fun a=>FAA z0 z1 z2 a) Uh Bj Cj)
noncomputable def UAe {γ:Type} (F:VAH):Hd ctx γ:=hdl cv3.dec (fun a=>F a) cv22.enc
abbrev HAA:=ByteArray→Option (SRec×Bool)
noncomputable def Ej (z0:VAH) (z1:Ui) (z2:IAA) (text_0:ByteArray):Option (SRec×Bool):=
 bif ((ByteArray.toList text_0) == (ByteArray.toList ⟨#[]⟩)) then
 some (⟨0,⟨#[]⟩,0,⟨0,0,false,false,false,false,⟨#[]⟩,0⟩⟩,false)
 else
 bif ((decide ((0:Int)≤(0:Int))) && (decide (0<(text_0.size:Int)))) then
 bif ((w64 (bt text_0 0)) == 1) then
  bif ((decide ((0:Int)≤(1:Int))) && (decide (1≤(text_0.size:Int)))) then
  (z2 ⟨(w64 (bt text_0 0)),(text_0.extract (1:Int).toNat text_0.size),0,⟨0,0,false,false,false,false,⟨#[]⟩,0⟩⟩).bind fun r0=>
  bif (!r0.2) then
  some (⟨0,⟨#[]⟩,0,⟨0,0,false,false,false,false,⟨#[]⟩,0⟩⟩,false)
  else
  bif (!((ByteArray.toList r0.1) == (ByteArray.toList text_0))) then
   some (⟨0,⟨#[]⟩,0,⟨0,0,false,false,false,false,⟨#[]⟩,0⟩⟩,false)
  else
   some (⟨(w64 (bt text_0 0)),(text_0.extract (1:Int).toNat text_0.size),0,⟨0,0,false,false,false,false,⟨#[]⟩,0⟩⟩,true)
  else none
 else
  bif ((w64 (bt text_0 0)) == 3) then
  bif ((decide ((0:Int)≤(1:Int))) && (decide (1≤(text_0.size:Int)))) then
  (z0 (text_0.extract (1:Int).toNat text_0.size)).bind fun r1=>
  (z2 ⟨(w64 (bt text_0 0)),⟨#[]⟩,0,r1.1⟩).bind fun r2=>
  bif (!r2.2) then
   some (⟨0,⟨#[]⟩,0,⟨0,0,false,false,false,false,⟨#[]⟩,0⟩⟩,false)
  else
   bif (!((ByteArray.toList r2.1) == (ByteArray.toList text_0))) then
   some (⟨0,⟨#[]⟩,0,⟨0,0,false,false,false,false,⟨#[]⟩,0⟩⟩,false)
   else
   some (⟨(w64 (bt text_0 0)),⟨#[]⟩,0,r1.1⟩,true)
  else none
  else
  (z1 text_0 1).bind fun r3=>
  (z2 ⟨(w64 (bt text_0 0)),⟨#[]⟩,r3.1,⟨0,0,false,false,false,false,⟨#[]⟩,0⟩⟩).bind fun r4=>
  bif (!r4.2) then
   some (⟨0,⟨#[]⟩,0,⟨0,0,false,false,false,false,⟨#[]⟩,0⟩⟩,false)
  else
   bif (!((ByteArray.toList r4.1) == (ByteArray.toList text_0))) then
   some (⟨0,⟨#[]⟩,0,⟨0,0,false,false,false,false,⟨#[]⟩,0⟩⟩,false)
   else
   some (⟨(w64 (bt text_0 0)),⟨#[]⟩,r3.1,⟨0,0,false,false,false,false,⟨#[]⟩,0⟩⟩,true)
 else none
noncomputable def Va:HAA:=Ej Vh TY Fj
theorem VAe:Tells ctx PP 171 cv3 cv111 (fun a=>Va a):=fn_ok0 (hc TAe (hc U9 (hc TAT hl_nil))) Tryz.func171 ((fun z0 z1 z2 a=>by kernel_rfl:∀ z0 z1 z2,EntryIs0 ctx PP 171 [] [(203,UAe z0),(202,Ls z1),(151,UAT z2)] cv3 cv111 fun a=>Ej z0 z1 z2 a) Vh TY Fj)
noncomputable def VAT {γ:Type} (F:HAA):Hd ctx γ:=hdl cv3.dec (fun a=>F a) cv111.enc
abbrev JAA:=ByteArray→Option (ByteArray×Bool)
noncomputable def WAH (z0:VY) (z1:Rh) (z2:Js) (z3:Qh) (text_0:ByteArray):Option (ByteArray×Bool):=
 (z0 (text_0.size:Int) 1 9000).bind fun r0=>
 bif (!r0) then
 some (⟨#[]⟩,false)
 else
 (z1 (text_0.size:Int)).bind fun r1=>
 (z2 text_0).bind fun r2=>
 (z3 r2).bind fun r3=>
 bif (decide ((r1.size+r3.size)≤9223372036854775807)) then
 bif (decide (((r1++r3).size+text_0.size)≤9223372036854775807)) then
 some (((r1++r3)++text_0),true)
 else none
 else none
noncomputable def Gj:JAA:=WAH QX Ua Hf WZ
theorem WAe:Tells ctx PP 153 cv3 cv18 (fun a=>Gj a):=fn_ok0 (hc Jc (hc Io (hc FAT (hc V9 hl_nil)))) Tryz.func153 ((fun z0 z1 z2 z3 a=>by kernel_rfl:∀ z0 z1 z2 z3,EntryIs0 ctx PP 153 [] [(60,GZ z0),(186,Jo z1),(192,AAH z2),(158,Ho z3)] cv3 cv18 fun a=>WAH z0 z1 z2 z3 a) QX Ua Hf WZ)
noncomputable def WAT {γ:Type} (F:JAA):Hd ctx γ:=hdl cv3.dec (fun a=>F a) cv18.enc
abbrev XAH:=ByteArray→ByteArray→Option ((List SRec)×Int)
inductive Rt where
 | c0 (key_0:ByteArray) (at_9:Int) (v_24:Int) (v_25:Int) (out_8:(List SRec)) (v_23:(List ByteArray))
noncomputable def XAT:Rt→LI
 | .c0 key_0 at_9 v_24 v_25 out_8 v_23=>(tdo Tryz.f127 1000,[(0,[.one (.str key_0)]),(8,[.one (.own 560)]),(9,[.one (.int .i64 at_9)]),(23,[.one (.own 1520)]),(24,[.one (.int .i64 v_24)]),(25,[.one (.int .i64 v_25)])],[(560,.sl 71 out_8),(1520,.sl 9 v_23)])
noncomputable def YAH (z0:Q9) (z1:BAA) (z2:HAA) (z3:JAA) (k:Rt→Option ((List SRec)×Int)) (key_0:ByteArray) (file_1:ByteArray):Option ((List SRec)×Int):=
 (z0 file_1).bind fun r0=>
 k (.c0 key_0 0 (r0.1.length:Int) 0 [] r0.1)
noncomputable def KAA (z0:Q9) (z1:BAA) (z2:HAA) (z3:JAA) (k:Rt→Option ((List SRec)×Int)):Rt→Option ((List SRec)×Int)
 | .c0 key_0 at_9 v_24 v_25 out_8 v_23=>
 bif (decide (v_25<v_24)) then
  bif ((decide (0≤v_25)) && (decide (v_25<(v_23.length:Int)))) then
  (z1 key_0 (w64 (v_25+1)) (v_23.getD v_25.toNat (⟨#[]⟩:ByteArray))).bind fun r0=>
  (z2 r0.1).bind fun r1=>
  bif (!r0.2) then
  some (out_8,at_9)
  else
  bif (!r1.2) then
   some (out_8,at_9)
  else
   bif (decide (((out_8.length+1)*80)≤140737488355328)) then
   (z3 (v_23.getD v_25.toNat (⟨#[]⟩:ByteArray))).bind fun r2=>
   k (.c0 key_0 (w64 (at_9+(r2.1.size:Int))) v_24 (w64 (v_25+1)) (out_8++[r1.1]) v_23)
   else none
  else none
 else
  some (out_8,at_9)
noncomputable def Tt:Nat→Rt→Option ((List SRec)×Int)
 | 0,_=>none
 | m+1,s=>KAA Wi Zi Va Gj (Tt m) s
noncomputable def Ut:XAH:=YAH Wi Zi Va Gj (Tt gas)
theorem XAe:Tells ctx PP 127 cv29 cv112 (fun a=>Ut a.1 a.2):=
 have b:∀ z0 z1 z2 z3,CutIs ctx PP 127 Tryz.f127 [] [(169,GAT z0),(170,NAT z1),(171,VAT z2),(153,WAT z3)] cv112 XAT (KAA z0 z1 z2 z3):=fun z0 z1 z2 z3 _ s=>by cases s <;> kernel_rfl
 have e:∀ z0 z1 z2 z3,EntryIs ctx PP 127 [] [(169,GAT z0),(170,NAT z1),(171,VAT z2),(153,WAT z3)] cv29 cv112 XAT (fun k a=>YAH z0 z1 z2 z3 k a.1 a.2):=fun z0 z1 z2 z3 _ a=>by kernel_rfl
 fn_ok (hc CAe (hc MAe (hc VAe (hc WAe hl_nil)))) Tryz.func127 (fun s s' h=>by cases s;cases s';cases h;rfl) (fun _=>rfl) (fun _ _=>rfl) (b Wi Zi Va Gj) (e Wi Zi Va Gj) gas
noncomputable def YAe {γ:Type} (F:XAH):Hd ctx γ:=hdl cv29.dec (fun a=>F a.1 a.2) cv112.enc
abbrev Vt:=SDisk→Option Bool
inductive Xt where
 | c0 (v_6:(List SFile)) (v_7:Int) (v_8:Int) (d_1:SDisk)
noncomputable def YAT:Xt→LI
 | .c0 v_6 v_7 v_8 d_1=>(tdo Tryz.f59 104,[(1,[.one (.ptr 64 0)]),(6,[.one (.rsl 155 v_6)]),(7,[.one (.int .i64 v_7)]),(8,[.one (.int .i64 v_8)])],[(64,.var [.rsl 155 d_1.fFiles])])
noncomputable def ZAH (z0:VY) (k:Xt→Option Bool) (d_0:SDisk):Option Bool:=
 k (.c0 d_0.fFiles (d_0.fFiles.length:Int) 0 d_0)
noncomputable def LAA (z0:VY) (k:Xt→Option Bool):Xt→Option Bool
 | .c0 v_6 v_7 v_8 d_1=>
 bif (decide (v_8<v_7)) then
  bif ((decide (0≤v_8)) && (decide (v_8<(v_6.length:Int)))) then
  (z0 ((v_6.getD v_8.toNat (⟨⟨#[]⟩,⟨#[]⟩,0⟩:SFile)).fName.size:Int) 1 8).bind fun r0=>
  bif (!r0) then
  some false
  else
  bif (decide (((v_6.getD v_8.toNat (⟨⟨#[]⟩,⟨#[]⟩,0⟩:SFile)).fText.size:Int) > 20000)) then
   some false
  else
   (z0 (v_6.getD v_8.toNat (⟨⟨#[]⟩,⟨#[]⟩,0⟩:SFile)).fKept 0 ((v_6.getD v_8.toNat (⟨⟨#[]⟩,⟨#[]⟩,0⟩:SFile)).fText.size:Int)).bind fun r1=>
   bif (!r1) then
   some false
   else
   bif (decide (v_8 > 0)) then
    bif ((decide (0≤(w64 (v_8 - 1)))) && (decide ((w64 (v_8 - 1))<(d_1.fFiles.length:Int)))) then
    bif (!(Op.bytesLess (ByteArray.toList (d_1.fFiles.getD (w64 (v_8 - 1)).toNat (⟨⟨#[]⟩,⟨#[]⟩,0⟩:SFile)).fName) (ByteArray.toList (v_6.getD v_8.toNat (⟨⟨#[]⟩,⟨#[]⟩,0⟩:SFile)).fName))) then
    some false
    else
    k (.c0 v_6 v_7 (w64 (v_8+1)) d_1)
    else none
   else
    k (.c0 v_6 v_7 (w64 (v_8+1)) d_1)
  else none
 else
  some (decide ((d_1.fFiles.length:Int)≤30))
noncomputable def Yt:Nat→Xt→Option Bool
 | 0,_=>none
 | m+1,s=>LAA QX (Yt m) s
noncomputable def Rf:Vt:=ZAH QX (Yt gas)
theorem ZAT:Tells ctx PP 59 cv35 cv6 (fun a=>Rf a):=
 have b:∀ z0,CutIs ctx PP 59 Tryz.f59 [] [(60,GZ z0)] cv6 YAT (LAA z0):=fun z0 _ s=>by cases s <;> kernel_rfl
 have e:∀ z0,EntryIs ctx PP 59 [] [(60,GZ z0)] cv35 cv6 YAT (fun k a=>ZAH z0 k a):=fun z0 _ a=>by kernel_rfl
 fn_ok (hc Jc hl_nil) Tryz.func59 (fun s s' h=>by cases s;cases s';(repeat cases ‹SDisk›);cases h;rfl) (fun _=>rfl) (fun _ _=>rfl) (b QX) (e QX) gas
noncomputable def AAI {γ:Type} (F:Vt):Hd ctx γ:=hdl cv35.dec (fun a=>F a) cv6.enc
abbrev Zt:=ByteArray→SDisk→Option (SBook×(List SAct)×Bool)
noncomputable def BAI (z0:CAI) (z1:XAH) (z2:Wh) (z3:MAA) (z4:Vt) (z5:NAA) (key_0:ByteArray) (d_1:SDisk):Option (SBook×(List SAct)×Bool):=
 (z0 d_1 ⟨#[98,111,111,107]⟩).bind fun r0=>
 (z1 key_0 r0.1).bind fun r1=>
 z2.bind fun r2=>
 (z3 r2 r1.1).bind fun r3=>
 (z4 d_1).bind fun r4=>
 bif (!r4) then
 some (⟨⟨#[]⟩,0,[],0,⟨#[]⟩,0⟩,([],false))
 else
 bif (!r3.2) then
  some (⟨⟨#[]⟩,0,[],0,⟨#[]⟩,0⟩,([],false))
 else
  (z5 d_1 ⟨#[98,111,111,107,43]⟩).bind fun r5=>
  bif (decide (r5≥0)) then
  bif (r1.2 == (r0.1.size:Int)) then
   some (r3.1,([⟨4,⟨#[98,111,111,107,43]⟩,⟨#[]⟩,⟨#[]⟩⟩],true))
  else
   bif ((decide (0≤r1.2)) && (decide (r1.2≤(r0.1.size:Int)))) then
   some (r3.1,(([(⟨4,⟨#[98,111,111,107,43]⟩,⟨#[]⟩,⟨#[]⟩⟩:SAct)]++[(⟨1,⟨#[98,111,111,107,43]⟩,(r0.1.extract 0 r1.2.toNat),⟨#[]⟩⟩:SAct),(⟨2,⟨#[98,111,111,107,43]⟩,⟨#[]⟩,⟨#[]⟩⟩:SAct),(⟨3,⟨#[98,111,111,107,43]⟩,⟨#[]⟩,⟨#[98,111,111,107]⟩⟩:SAct)]),true))
   else none
  else
  bif (r1.2 == (r0.1.size:Int)) then
   some (r3.1,([],true))
  else
   bif ((decide (0≤r1.2)) && (decide (r1.2≤(r0.1.size:Int)))) then
   some (r3.1,([⟨1,⟨#[98,111,111,107,43]⟩,(r0.1.extract 0 r1.2.toNat),⟨#[]⟩⟩,⟨2,⟨#[98,111,111,107,43]⟩,⟨#[]⟩,⟨#[]⟩⟩,⟨3,⟨#[98,111,111,107,43]⟩,⟨#[]⟩,⟨#[98,111,111,107]⟩⟩],true))
   else none
noncomputable def Tf:Zt:=BAI Au Ut XZ Ij Rf Jj
theorem AAU:Tells ctx PP 62 cv114 cv115 (fun a=>Tf a.1 a.2):=fn_ok0 (hc ZAe (hc XAe (hc OAA (hc BAU (hc ZAT (hc CAU hl_nil)))))) Tryz.func62 ((fun z0 z1 z2 z3 z4 z5 a=>by kernel_rfl:∀ z0 z1 z2 z3 z4 z5,EntryIs0 ctx PP 62 [] [(126,AAf z0),(127,YAe z1),(30,Oo z2),(74,DAU z3),(59,AAI z4),(128,EAU z5)] cv114 cv115 fun a=>BAI z0 z1 z2 z3 z4 z5 a.1 a.2) Au Ut XZ Ij Rf Jj)
noncomputable def DAI {γ:Type} (F:Zt):Hd ctx γ:=hdl cv114.dec (fun a=>F a.1 a.2) cv115.enc
abbrev PAA:=SLife→Option Bool
noncomputable def EAI (z0:Wh) (z1:MAA) (z2:Du) (z3:Zt) (l_0:SLife):Option Bool:=
 z0.bind fun r0=>
 (z1 r0 l_0.fDone).bind fun r1=>
 bif (!r1.2) then
 some false
 else
 bif l_0.fBox.fUp then
  (z2 r1.1 l_0.fBox.fBook).bind fun r2=>
  some r2
 else
  (z3 l_0.fBox.fKey l_0.fBox.fDisk).bind fun r3=>
  bif r3.2.2 then
  (z2 r1.1 r3.1).bind fun r4=>
  some r4
  else
  some false
noncomputable def Lj:PAA:=EAI XZ Ij Uf Tf
theorem BAf:Tells ctx PP 20 cv138 cv6 (fun a=>Lj a):=fn_ok0 (hc OAA (hc BAU (hc FAU (hc AAU hl_nil)))) Tryz.func20 ((fun z0 z1 z2 z3 a=>by kernel_rfl:∀ z0 z1 z2 z3,EntryIs0 ctx PP 20 [] [(30,Oo z0),(74,DAU z1),(61,FAI z2),(62,DAI z3)] cv138 cv6 fun a=>EAI z0 z1 z2 z3 a) XZ Ij Uf Tf)
noncomputable def GAU {γ:Type} (F:PAA):Hd ctx γ:=hdl cv138.dec (fun a=>F a) cv6.enc
abbrev Po:=SBook→Int→Option (SThing×Bool)
noncomputable def GAI (z0:Eu) (b_0:SBook) (id_1:Int):Option (SThing×Bool):=
 (z0 b_0 id_1).bind fun r0=>
 bif (decide (r0<0)) then
 some (⟨0,0,false,false,false,false,⟨#[]⟩,0⟩,false)
 else
 bif ((decide (0≤r0)) && (decide (r0<(b_0.fThings.length:Int)))) then
 some ((b_0.fThings.getD r0.toNat (⟨0,0,false,false,false,false,⟨#[]⟩,0⟩:SThing)),true)
 else none
noncomputable def Nc:Po:=GAI Xh
theorem HAU:Tells ctx PP 130 cv21 cv22 (fun a=>Nc a.1 a.2):=fn_ok0 (hc HAI hl_nil) Tryz.func130 ((fun z0 a=>by kernel_rfl:∀ z0,EntryIs0 ctx PP 130 [] [(155,IAI z0)] cv21 cv22 fun a=>GAI z0 a.1 a.2) Xh)
noncomputable def QAA {γ:Type} (F:Po):Hd ctx γ:=hdl cv21.dec (fun a=>F a.1 a.2) cv22.enc
abbrev RAA:=(List SRec)→Option Bool
inductive Gu where
 | c0 (v_13:(List SRec)) (v_14:Int) (v_15:Int) (b_3c0:ByteArray) (b_3c1:Int) (b_3c3:Int) (b_3c4:ByteArray) (b_3c5:Int) (b_3r2:(List SThing))
 | c1 (v_13:(List SRec)) (v_14:Int) (v_15:Int) (v_29:Int) (v_30:Int) (b_3c0:ByteArray) (b_3c1:Int) (b_3c3:Int) (b_3c4:ByteArray) (b_3c5:Int) (next_6c0:ByteArray) (next_6c1:Int) (next_6c3:Int) (next_6c4:ByteArray) (next_6c5:Int) (v_28:(List SThing)) (next_6r2:(List SThing))
noncomputable def IAU:Gu→LI
 | .c0 v_13 v_14 v_15 b_3c0 b_3c1 b_3c3 b_3c4 b_3c5 b_3r2=>(tdo Tryz.f88 232,[(3,[.one (.ptr 192 0)]),(13,[.one (.rsl 71 v_13)]),(14,[.one (.int .i64 v_14)]),(15,[.one (.int .i64 v_15)])],[(192,.var [.str b_3c0,.int .i64 b_3c1,.own 1012290,.int .i64 b_3c3,.str b_3c4,.int .i64 b_3c5]),(1012290,.sl 69 b_3r2)])
 | .c1 v_13 v_14 v_15 v_29 v_30 b_3c0 b_3c1 b_3c3 b_3c4 b_3c5 next_6c0 next_6c1 next_6c3 next_6c4 next_6c5 v_28 next_6r2=>(tdo Tryz.f88 478440,[(3,[.one (.ptr 192 0)]),(6,[.one (.ptr 384 0)]),(13,[.one (.rsl 71 v_13)]),(14,[.one (.int .i64 v_14)]),(15,[.one (.int .i64 v_15)]),(28,[.one (.own 1840)]),(29,[.one (.int .i64 v_29)]),(30,[.one (.int .i64 v_30)])],[(192,.var [.str b_3c0,.int .i64 b_3c1,.own 1840,.int .i64 b_3c3,.str b_3c4,.int .i64 b_3c5]),(384,.var [.str next_6c0,.int .i64 next_6c1,.own 1024578,.int .i64 next_6c3,.str next_6c4,.int .i64 next_6c5]),(1840,.sl 69 v_28),(1024578,.sl 69 next_6r2)])
noncomputable def JAI (z0:Wh) (z1:Qo) (z2:Po) (k:Gu→Option Bool) (list_0:(List SRec)):Option Bool:=
 z0.bind fun r0=>
 k (.c0 list_0 (list_0.length:Int) 0 r0.fWord r0.fTries r0.fLast r0.fChain r0.fCount r0.fThings)
noncomputable def Ro (z0:Wh) (z1:Qo) (z2:Po) (k:Gu→Option Bool):Gu→Option Bool
 | .c0 v_13 v_14 v_15 b_3c0 b_3c1 b_3c3 b_3c4 b_3c5 b_3r2=>
 bif (decide (v_15<v_14)) then
  bif ((decide (0≤v_15)) && (decide (v_15<(v_13.length:Int)))) then
  (z1 ⟨b_3c0,b_3c1,b_3r2,b_3c3,b_3c4,b_3c5⟩ (v_13.getD v_15.toNat (⟨0,⟨#[]⟩,0,⟨0,0,false,false,false,false,⟨#[]⟩,0⟩⟩:SRec))).bind fun r0=>
  bif (!r0.2) then
  some false
  else
  k (.c1 v_13 v_14 v_15 (b_3r2.length:Int) 0 b_3c0 b_3c1 b_3c3 b_3c4 b_3c5 r0.1.fWord r0.1.fTries r0.1.fLast r0.1.fChain r0.1.fCount b_3r2 r0.1.fThings)
  else none
 else
  some true
 | .c1 v_13 v_14 v_15 v_29 v_30 b_3c0 b_3c1 b_3c3 b_3c4 b_3c5 next_6c0 next_6c1 next_6c3 next_6c4 next_6c5 v_28 next_6r2=>
 bif (decide (v_30<v_29)) then
  bif ((decide (0≤v_30)) && (decide (v_30<(v_28.length:Int)))) then
  (z2 ⟨next_6c0,next_6c1,next_6r2,next_6c3,next_6c4,next_6c5⟩ (v_28.getD v_30.toNat (⟨0,0,false,false,false,false,⟨#[]⟩,0⟩:SThing)).fId).bind fun r0=>
  bif r0.2 then
  bif (r0.1.fKind != (v_28.getD v_30.toNat (⟨0,0,false,false,false,false,⟨#[]⟩,0⟩:SThing)).fKind) then
   some false
  else
   bif (!((ByteArray.toList r0.1.fValue) == (ByteArray.toList (v_28.getD v_30.toNat (⟨0,0,false,false,false,false,⟨#[]⟩,0⟩:SThing)).fValue))) then
   some false
   else
   bif (v_28.getD v_30.toNat (⟨0,0,false,false,false,false,⟨#[]⟩,0⟩:SThing)).fHidden then
    bif (!r0.1.fHidden) then
    some false
    else
    bif (v_28.getD v_30.toNat (⟨0,0,false,false,false,false,⟨#[]⟩,0⟩:SThing)).fFixed then
     bif (!r0.1.fFixed) then
     some false
     else
     bif (decide (r0.1.fNext<(v_28.getD v_30.toNat (⟨0,0,false,false,false,false,⟨#[]⟩,0⟩:SThing)).fNext)) then
      some false
     else
      k (.c1 v_13 v_14 v_15 v_29 (w64 (v_30+1)) b_3c0 b_3c1 b_3c3 b_3c4 b_3c5 next_6c0 next_6c1 next_6c3 next_6c4 next_6c5 v_28 next_6r2)
    else
     bif (decide (r0.1.fNext<(v_28.getD v_30.toNat (⟨0,0,false,false,false,false,⟨#[]⟩,0⟩:SThing)).fNext)) then
     some false
     else
     k (.c1 v_13 v_14 v_15 v_29 (w64 (v_30+1)) b_3c0 b_3c1 b_3c3 b_3c4 b_3c5 next_6c0 next_6c1 next_6c3 next_6c4 next_6c5 v_28 next_6r2)
   else
    bif (v_28.getD v_30.toNat (⟨0,0,false,false,false,false,⟨#[]⟩,0⟩:SThing)).fFixed then
    bif (!r0.1.fFixed) then
     some false
    else
     bif (decide (r0.1.fNext<(v_28.getD v_30.toNat (⟨0,0,false,false,false,false,⟨#[]⟩,0⟩:SThing)).fNext)) then
     some false
     else
     k (.c1 v_13 v_14 v_15 v_29 (w64 (v_30+1)) b_3c0 b_3c1 b_3c3 b_3c4 b_3c5 next_6c0 next_6c1 next_6c3 next_6c4 next_6c5 v_28 next_6r2)
    else
    bif (decide (r0.1.fNext<(v_28.getD v_30.toNat (⟨0,0,false,false,false,false,⟨#[]⟩,0⟩:SThing)).fNext)) then
     some false
    else
     k (.c1 v_13 v_14 v_15 v_29 (w64 (v_30+1)) b_3c0 b_3c1 b_3c3 b_3c4 b_3c5 next_6c0 next_6c1 next_6c3 next_6c4 next_6c5 v_28 next_6r2)
  else
  k (.c1 v_13 v_14 v_15 v_29 (w64 (v_30+1)) b_3c0 b_3c1 b_3c3 b_3c4 b_3c5 next_6c0 next_6c1 next_6c3 next_6c4 next_6c5 v_28 next_6r2)
  else none
 else
  k (.c0 v_13 v_14 (w64 (v_15+1)) next_6c0 next_6c1 next_6c3 next_6c4 next_6c5 next_6r2)
noncomputable def Vf:Nat→Gu→Option Bool
 | 0,_=>none
 | m+1,s=>Ro XZ Oc Nc (Vf m) s
noncomputable def Nj:RAA:=JAI XZ Oc Nc (Vf gas)
theorem CAf:Tells ctx PP 88 cv148 cv6 (fun a=>Nj a):=
 have b:∀ z0 z1 z2,CutIs ctx PP 88 Tryz.f88 [] [(30,Oo z0),(101,SAA z1),(130,QAA z2)] cv6 IAU (Ro z0 z1 z2):=fun z0 z1 z2 _ s=>by cases s <;> kernel_rfl
 have e:∀ z0 z1 z2,EntryIs ctx PP 88 [] [(30,Oo z0),(101,SAA z1),(130,QAA z2)] cv148 cv6 IAU (fun k a=>JAI z0 z1 z2 k a):=fun z0 z1 z2 _ a=>by kernel_rfl
 fn_ok (hc OAA (hc JAU (hc HAU hl_nil))) Tryz.func88 (fun s s' h=>by cases s <;> cases s' <;> first | (cases h;done) | (cases h;rfl) | exact (rg_ne h (by kernel_rfl)).elim) (fun _=>rfl) (fun _ _=>rfl) (b XZ Oc Nc) (e XZ Oc Nc) gas
noncomputable def KAU {γ:Type} (F:RAA):Hd ctx γ:=hdl cv148.dec (fun a=>F a) cv6.enc
abbrev TAA:=SBox→Option Bool
inductive Hu where
 | c0 (v_8:(List SLive)) (v_9:Int) (v_10:Int) (b_1:SBox)
noncomputable def LAU:Hu→LI
 | .c0 v_8 v_9 v_10 b_1=>(tdo Tryz.f64 104,[(1,[.one (.ptr 64 0)]),(8,[.one (.rsl 149 v_8)]),(9,[.one (.int .i64 v_9)]),(10,[.one (.int .i64 v_10)])],[(64,.var [.str b_1.fKey,.bool b_1.fUp,.rsl 155 b_1.fDisk.fFiles,.str b_1.fBook.fWord,.int .i64 b_1.fBook.fTries,.rsl 69 b_1.fBook.fThings,.int .i64 b_1.fBook.fLast,.str b_1.fBook.fChain,.int .i64 b_1.fBook.fCount,.rsl 92 b_1.fSessions,.rsl 149 b_1.fLives,.int .i64 b_1.fOpened])])
noncomputable def KAI (z0:Po) (z1:VY) (k:Hu→Option Bool) (b_0:SBox):Option Bool:=
 k (.c0 b_0.fLives (b_0.fLives.length:Int) 0 b_0)
noncomputable def UAA (z0:Po) (z1:VY) (k:Hu→Option Bool):Hu→Option Bool
 | .c0 v_8 v_9 v_10 b_1=>
 bif (decide (v_10<v_9)) then
  bif ((decide (0≤v_10)) && (decide (v_10<(v_8.length:Int)))) then
  (z0 b_1.fBook (v_8.getD v_10.toNat (⟨0,0⟩:SLive)).fId).bind fun r0=>
  bif (!r0.2) then
  some false
  else
  bif (r0.1.fKind != 2) then
   some false
  else
   (z1 (v_8.getD v_10.toNat (⟨0,0⟩:SLive)).fNext 0 r0.1.fNext).bind fun r1=>
   bif (!r1) then
   some false
   else
   bif (decide (v_10 > 0)) then
    bif ((decide (0≤(w64 (v_10 - 1)))) && (decide ((w64 (v_10 - 1))<(b_1.fLives.length:Int)))) then
    bif (decide ((b_1.fLives.getD (w64 (v_10 - 1)).toNat (⟨0,0⟩:SLive)).fId≥(v_8.getD v_10.toNat (⟨0,0⟩:SLive)).fId)) then
    some false
    else
    k (.c0 v_8 v_9 (w64 (v_10+1)) b_1)
    else none
   else
    k (.c0 v_8 v_9 (w64 (v_10+1)) b_1)
  else none
 else
  some true
noncomputable def Iu:Nat→Hu→Option Bool
 | 0,_=>none
 | m+1,s=>UAA Nc QX (Iu m) s
noncomputable def Oj:TAA:=KAI Nc QX (Iu gas)
theorem DAf:Tells ctx PP 64 cv116 cv6 (fun a=>Oj a):=
 have b:∀ z0 z1,CutIs ctx PP 64 Tryz.f64 [] [(130,QAA z0),(60,GZ z1)] cv6 LAU (UAA z0 z1):=fun z0 z1 _ s=>by cases s <;> kernel_rfl
 have e:∀ z0 z1,EntryIs ctx PP 64 [] [(130,QAA z0),(60,GZ z1)] cv116 cv6 LAU (fun k a=>KAI z0 z1 k a):=fun z0 z1 _ a=>by kernel_rfl
 fn_ok (hc HAU (hc Jc hl_nil)) Tryz.func64 (fun s s' h=>by cases s;cases s';(repeat cases ‹SBox›);(repeat cases ‹SDisk›);(repeat cases ‹SBook›);cases h;rfl) (fun _=>rfl) (fun _ _=>rfl) (b Nc QX) (e Nc QX) gas
noncomputable def MAU {γ:Type} (F:TAA):Hd ctx γ:=hdl cv116.dec (fun a=>F a) cv6.enc
abbrev VAA:=SBox→Option Bool
inductive Ju where
 | c0 (v_44:(List SSession)) (v_45:Int) (v_46:Int) (b_1:SBox)
noncomputable def NAU:Ju→LI
 | .c0 v_44 v_45 v_46 b_1=>(tdo Tryz.f16 488,[(1,[.one (.ptr 64 0)]),(44,[.one (.rsl 92 v_44)]),(45,[.one (.int .i64 v_45)]),(46,[.one (.int .i64 v_46)])],[(64,.var [.str b_1.fKey,.bool b_1.fUp,.rsl 155 b_1.fDisk.fFiles,.str b_1.fBook.fWord,.int .i64 b_1.fBook.fTries,.rsl 69 b_1.fBook.fThings,.int .i64 b_1.fBook.fLast,.str b_1.fBook.fChain,.int .i64 b_1.fBook.fCount,.rsl 92 b_1.fSessions,.rsl 149 b_1.fLives,.int .i64 b_1.fOpened])])
noncomputable def LAI (z0:Vt) (z1:VY) (z2:Wh) (z3:Du) (z4:Zt) (z5:Ku) (z6:TAA) (k:Ju→Option Bool) (b_0:SBox):Option Bool:=
 bif ((b_0.fKey.size:Int) != 32) then
 some false
 else
 (z0 b_0.fDisk).bind fun r0=>
 bif (!r0) then
  some false
 else
  (z1 b_0.fOpened 0 1000).bind fun r1=>
  bif (!r1) then
  some false
  else
  bif (!b_0.fUp) then
   bif ((b_0.fSessions.length:Int) == 0) then
   bif ((b_0.fLives.length:Int) == 0) then
    z2.bind fun r2=>
    (z3 b_0.fBook r2).bind fun r3=>
    some r3
   else
    some false
   else
   some false
  else
   k (.c0 b_0.fSessions (b_0.fSessions.length:Int) 0 b_0)
noncomputable def Lu (z0:Vt) (z1:VY) (z2:Wh) (z3:Du) (z4:Zt) (z5:Ku) (z6:TAA) (k:Ju→Option Bool):Ju→Option Bool
 | .c0 v_44 v_45 v_46 b_1=>
 bif (decide (v_46<v_45)) then
  bif ((decide (0≤v_46)) && (decide (v_46<(v_44.length:Int)))) then
  bif (decide (v_46≥3)) then
  some false
  else
  (z1 (v_44.getD v_46.toNat (⟨0,false⟩:SSession)).fId 1 b_1.fOpened).bind fun r0=>
  bif (!r0) then
   some false
  else
   bif (decide (v_46 > 0)) then
   bif ((decide (0≤(w64 (v_46 - 1)))) && (decide ((w64 (v_46 - 1))<(b_1.fSessions.length:Int)))) then
   bif (decide ((b_1.fSessions.getD (w64 (v_46 - 1)).toNat (⟨0,false⟩:SSession)).fId≥(v_44.getD v_46.toNat (⟨0,false⟩:SSession)).fId)) then
    some false
   else
    k (.c0 v_44 v_45 (w64 (v_46+1)) b_1)
   else none
   else
   k (.c0 v_44 v_45 (w64 (v_46+1)) b_1)
  else none
 else
  (z4 b_1.fKey b_1.fDisk).bind fun r1=>
  (z5 b_1.fBook).bind fun r2=>
  bif r2 then
  bif r1.2.2 then
   bif ((r1.2.1.length:Int) == 0) then
   (z3 r1.1 b_1.fBook).bind fun r3=>
   bif r3 then
    (z6 b_1).bind fun r4=>
    some r4
   else
    some false
   else
   some false
  else
   some false
  else
  some false
noncomputable def Nu:Nat→Ju→Option Bool
 | 0,_=>none
 | m+1,s=>Lu Rf QX XZ Uf Tf Xf Oj (Nu m) s
noncomputable def Pj:VAA:=LAI Rf QX XZ Uf Tf Xf Oj (Nu gas)
theorem EAf:Tells ctx PP 16 cv116 cv6 (fun a=>Pj a):=
 have b:∀ z0 z1 z2 z3 z4 z5 z6,CutIs ctx PP 16 Tryz.f16 [] [(59,AAI z0),(60,GZ z1),(30,Oo z2),(61,FAI z3),(62,DAI z4),(63,MAI z5),(64,MAU z6)] cv6 NAU (Lu z0 z1 z2 z3 z4 z5 z6):=fun z0 z1 z2 z3 z4 z5 z6 _ s=>by cases s <;> kernel_rfl
 have e:∀ z0 z1 z2 z3 z4 z5 z6,EntryIs ctx PP 16 [] [(59,AAI z0),(60,GZ z1),(30,Oo z2),(61,FAI z3),(62,DAI z4),(63,MAI z5),(64,MAU z6)] cv116 cv6 NAU (fun k a=>LAI z0 z1 z2 z3 z4 z5 z6 k a):=fun z0 z1 z2 z3 z4 z5 z6 _ a=>by kernel_rfl
 fn_ok (hc ZAT (hc Jc (hc OAA (hc FAU (hc AAU (hc OAU (hc DAf hl_nil))))))) Tryz.func16 (fun s s' h=>by cases s;cases s';(repeat cases ‹SBox›);(repeat cases ‹SDisk›);(repeat cases ‹SBook›);cases h;rfl) (fun _=>rfl) (fun _ _=>rfl) (b Rf QX XZ Uf Tf Xf Oj) (e Rf QX XZ Uf Tf Xf Oj) gas
noncomputable def PAU {γ:Type} (F:VAA):Hd ctx γ:=hdl cv116.dec (fun a=>F a) cv6.enc
abbrev NAI:=SLife→Option Bool
inductive Ou where
 | c0 (v_6:(List SGiven)) (v_7:Int) (v_8:Int) (l_1:SLife)
noncomputable def QAU:Ou→LI
 | .c0 v_6 v_7 v_8 l_1=>(tdo Tryz.f25 104,[(1,[.one (.ptr 64 0)]),(6,[.one (.rsl 117 v_6)]),(7,[.one (.int .i64 v_7)]),(8,[.one (.int .i64 v_8)])],[(64,.var [.str l_1.fBox.fKey,.bool l_1.fBox.fUp,.rsl 155 l_1.fBox.fDisk.fFiles,.str l_1.fBox.fBook.fWord,.int .i64 l_1.fBox.fBook.fTries,.rsl 69 l_1.fBox.fBook.fThings,.int .i64 l_1.fBox.fBook.fLast,.str l_1.fBox.fBook.fChain,.int .i64 l_1.fBox.fBook.fCount,.rsl 92 l_1.fBox.fSessions,.rsl 149 l_1.fBox.fLives,.int .i64 l_1.fBox.fOpened,.rsl 3 l_1.fCodes,.rsl 9 l_1.fReplies,.rsl 117 l_1.fGives,.rsl 71 l_1.fDone])])
noncomputable def OAI (z0:WAA) (z1:XAA) (z2:YAA) (z3:PAA) (z4:RAA) (z5:VAA) (k:Ou→Option Bool) (l_0:SLife):Option Bool:=
 k (.c0 l_0.fGives (l_0.fGives.length:Int) 0 l_0)
noncomputable def ZAA (z0:WAA) (z1:XAA) (z2:YAA) (z3:PAA) (z4:RAA) (z5:VAA) (k:Ou→Option Bool):Ou→Option Bool
 | .c0 v_6 v_7 v_8 l_1=>
 bif (decide (v_8<v_7)) then
  bif ((decide (0≤v_8)) && (decide (v_8<(v_6.length:Int)))) then
  (z0 l_1.fDone (v_6.getD v_8.toNat (⟨0,0,0⟩:SGiven)).fThing).bind fun r0=>
  bif (decide ((v_6.getD v_8.toNat (⟨0,0,0⟩:SGiven)).fLeaf≥r0)) then
  some false
  else
  k (.c0 v_6 v_7 (w64 (v_8+1)) l_1)
  else none
 else
  (z1 l_1.fGives).bind fun r1=>
  bif r1 then
  (z2 l_1.fGives).bind fun r2=>
  bif r2 then
   (z3 l_1).bind fun r3=>
   bif r3 then
   (z4 l_1.fDone).bind fun r4=>
   bif r4 then
    (z5 l_1.fBox).bind fun r5=>
    some r5
   else
    some false
   else
   some false
  else
   some false
  else
  some false
noncomputable def Qu:Nat→Ou→Option Bool
 | 0,_=>none
 | m+1,s=>ZAA Qj Rj Sj Lj Nj Pj (Qu m) s
noncomputable def Ru:NAI:=OAI Qj Rj Sj Lj Nj Pj (Qu gas)
theorem FAf:Tells ctx PP 25 cv138 cv6 (fun a=>Ru a):=
 have b:∀ z0 z1 z2 z3 z4 z5,CutIs ctx PP 25 Tryz.f25 [] [(85,RAU z0),(86,SAU z1),(87,TAU z2),(20,GAU z3),(88,KAU z4),(16,PAU z5)] cv6 QAU (ZAA z0 z1 z2 z3 z4 z5):=fun z0 z1 z2 z3 z4 z5 _ s=>by cases s <;> kernel_rfl
 have e:∀ z0 z1 z2 z3 z4 z5,EntryIs ctx PP 25 [] [(85,RAU z0),(86,SAU z1),(87,TAU z2),(20,GAU z3),(88,KAU z4),(16,PAU z5)] cv138 cv6 QAU (fun k a=>OAI z0 z1 z2 z3 z4 z5 k a):=fun z0 z1 z2 z3 z4 z5 _ a=>by kernel_rfl
 fn_ok (hc GAf (hc HAf (hc IAf (hc BAf (hc CAf (hc EAf hl_nil)))))) Tryz.func25 (fun s s' h=>by cases s;cases s';(repeat cases ‹SLife›);(repeat cases ‹SBox›);(repeat cases ‹SDisk›);(repeat cases ‹SBook›);cases h;rfl) (fun _=>rfl) (fun _ _=>rfl) (b Qj Rj Sj Lj Nj Pj) (e Qj Rj Sj Lj Nj Pj) gas
noncomputable def JAf {γ:Type} (F:NAI):Hd ctx γ:=hdl cv138.dec (fun a=>F a) cv6.enc
abbrev AAB:=SFile→SFile→Option Bool
noncomputable def PAI (a_0:SFile) (b_1:SFile):Option Bool:=
 bif (!((ByteArray.toList a_0.fName) == (ByteArray.toList b_1.fName))) then
 some false
 else
 bif (!((ByteArray.toList a_0.fText) == (ByteArray.toList b_1.fText))) then
  some false
 else
  bif (a_0.fKept != b_1.fKept) then
  some false
  else
  some true
noncomputable def Tj:AAB:=PAI
theorem KAf:Tells ctx PP 159 cv54 cv6 (fun a=>Tj a.1 a.2):=fn_ok0 hl_nil Tryz.func159 (fun a=>by kernel_rfl:EntryIs0 ctx PP 159 [] [] cv54 cv6 fun a=>PAI a.1 a.2)
noncomputable def UAU {γ:Type} (F:AAB):Hd ctx γ:=hdl cv54.dec (fun a=>F a.1 a.2) cv6.enc
abbrev QAI:=(List SFile)→(List SFile)→Option Bool
inductive Uu where
 | c0 (a_0:(List SFile)) (b_1:(List SFile)) (i_5:Int)
noncomputable def VAU:Uu→LI
 | .c0 a_0 b_1 i_5=>(tdo Tryz.f106 464,[(0,[.one (.rsl 155 a_0)]),(1,[.one (.rsl 155 b_1)]),(5,[.one (.int .i64 i_5)])],[])
noncomputable def RAI (z0:AAB) (k:Uu→Option Bool) (a_0:(List SFile)) (b_1:(List SFile)):Option Bool:=
 bif ((a_0.length:Int) != (b_1.length:Int)) then
 some false
 else
 k (.c0 a_0 b_1 0)
noncomputable def BAB (z0:AAB) (k:Uu→Option Bool):Uu→Option Bool
 | .c0 a_0 b_1 i_5=>
 bif (decide (i_5<(a_0.length:Int))) then
  bif ((decide (0≤i_5)) && (decide (i_5<(a_0.length:Int)))) then
  bif ((decide (0≤i_5)) && (decide (i_5<(b_1.length:Int)))) then
  (z0 (a_0.getD i_5.toNat (⟨⟨#[]⟩,⟨#[]⟩,0⟩:SFile)) (b_1.getD i_5.toNat (⟨⟨#[]⟩,⟨#[]⟩,0⟩:SFile))).bind fun r0=>
  bif (!r0) then
  some false
  else
  k (.c0 a_0 b_1 (w64 (i_5+1)))
  else none
  else none
 else
  some true
noncomputable def Uo:Nat→Uu→Option Bool
 | 0,_=>none
 | m+1,s=>BAB Tj (Uo m) s
noncomputable def Vu:QAI:=RAI Tj (Uo gas)
theorem LAf:Tells ctx PP 106 cv55 cv6 (fun a=>Vu a.1 a.2):=
 have b:∀ z0,CutIs ctx PP 106 Tryz.f106 [] [(159,UAU z0)] cv6 VAU (BAB z0):=fun z0 _ s=>by cases s <;> kernel_rfl
 have e:∀ z0,EntryIs ctx PP 106 [] [(159,UAU z0)] cv55 cv6 VAU (fun k a=>RAI z0 k a.1 a.2):=fun z0 _ a=>by kernel_rfl
 fn_ok (hc KAf hl_nil) Tryz.func106 (fun s s' h=>by cases s;cases s';cases h;rfl) (fun _=>rfl) (fun _ _=>rfl) (b Tj) (e Tj) gas
noncomputable def MAf {γ:Type} (F:QAI):Hd ctx γ:=hdl cv55.dec (fun a=>F a.1 a.2) cv6.enc
abbrev SAI:=SDisk→SDisk→Option Bool
noncomputable def TAI (z0:QAI) (a_0:SDisk) (b_1:SDisk):Option Bool:=
 (z0 a_0.fFiles b_1.fFiles).bind fun r0=>
 bif (!r0) then
 some false
 else
 some true
noncomputable def Wu:SAI:=TAI Vu
theorem NAf:Tells ctx PP 33 cv56 cv6 (fun a=>Wu a.1 a.2):=fn_ok0 (hc LAf hl_nil) Tryz.func33 ((fun z0 a=>by kernel_rfl:∀ z0,EntryIs0 ctx PP 33 [] [(106,MAf z0)] cv56 cv6 fun a=>TAI z0 a.1 a.2) Vu)
noncomputable def OAf {γ:Type} (F:SAI):Hd ctx γ:=hdl cv56.dec (fun a=>F a.1 a.2) cv6.enc
abbrev Xu:=SThing→SThing→Option Bool
noncomputable def UAI (a_0:SThing) (b_1:SThing):Option Bool:=
 bif (a_0.fId != b_1.fId) then
 some false
 else
 bif (a_0.fKind != b_1.fKind) then
  some false
 else
  bif (!(a_0.fHidden == b_1.fHidden)) then
  some false
  else
  bif (!(a_0.fFixed == b_1.fFixed)) then
   some false
  else
   bif (!(a_0.fSigns == b_1.fSigns)) then
   some false
   else
   bif (!(a_0.fWraps == b_1.fWraps)) then
    some false
   else
    bif (!((ByteArray.toList a_0.fValue) == (ByteArray.toList b_1.fValue))) then
    some false
    else
    bif (a_0.fNext != b_1.fNext) then
     some false
    else
     some true
noncomputable def Yf:Xu:=UAI
theorem WAU:Tells ctx PP 160 cv23 cv6 (fun a=>Yf a.1 a.2):=fn_ok0 hl_nil Tryz.func160 (fun a=>by kernel_rfl:EntryIs0 ctx PP 160 [] [] cv23 cv6 fun a=>UAI a.1 a.2)
noncomputable def VAI {γ:Type} (F:Xu):Hd ctx γ:=hdl cv23.dec (fun a=>F a.1 a.2) cv6.enc
abbrev WAI:=(List SThing)→(List SThing)→Option Bool
inductive Yu where
 | c0 (a_0:(List SThing)) (b_1:(List SThing)) (i_5:Int)
noncomputable def XAU:Yu→LI
 | .c0 a_0 b_1 i_5=>(tdo Tryz.f107 464,[(0,[.one (.rsl 69 a_0)]),(1,[.one (.rsl 69 b_1)]),(5,[.one (.int .i64 i_5)])],[])
noncomputable def XAI (z0:Xu) (k:Yu→Option Bool) (a_0:(List SThing)) (b_1:(List SThing)):Option Bool:=
 bif ((a_0.length:Int) != (b_1.length:Int)) then
 some false
 else
 k (.c0 a_0 b_1 0)
noncomputable def CAB (z0:Xu) (k:Yu→Option Bool):Yu→Option Bool
 | .c0 a_0 b_1 i_5=>
 bif (decide (i_5<(a_0.length:Int))) then
  bif ((decide (0≤i_5)) && (decide (i_5<(a_0.length:Int)))) then
  bif ((decide (0≤i_5)) && (decide (i_5<(b_1.length:Int)))) then
  (z0 (a_0.getD i_5.toNat (⟨0,0,false,false,false,false,⟨#[]⟩,0⟩:SThing)) (b_1.getD i_5.toNat (⟨0,0,false,false,false,false,⟨#[]⟩,0⟩:SThing))).bind fun r0=>
  bif (!r0) then
  some false
  else
  k (.c0 a_0 b_1 (w64 (i_5+1)))
  else none
  else none
 else
  some true
noncomputable def Vo:Nat→Yu→Option Bool
 | 0,_=>none
 | m+1,s=>CAB Yf (Vo m) s
noncomputable def Zu:WAI:=XAI Yf (Vo gas)
theorem PAf:Tells ctx PP 107 cv57 cv6 (fun a=>Zu a.1 a.2):=
 have b:∀ z0,CutIs ctx PP 107 Tryz.f107 [] [(160,VAI z0)] cv6 XAU (CAB z0):=fun z0 _ s=>by cases s <;> kernel_rfl
 have e:∀ z0,EntryIs ctx PP 107 [] [(160,VAI z0)] cv57 cv6 XAU (fun k a=>XAI z0 k a.1 a.2):=fun z0 _ a=>by kernel_rfl
 fn_ok (hc WAU hl_nil) Tryz.func107 (fun s s' h=>by cases s;cases s';cases h;rfl) (fun _=>rfl) (fun _ _=>rfl) (b Yf) (e Yf) gas
noncomputable def QAf {γ:Type} (F:WAI):Hd ctx γ:=hdl cv57.dec (fun a=>F a.1 a.2) cv6.enc
abbrev YAI:=SBook→SBook→Option Bool
noncomputable def ZAI (z0:WAI) (a_0:SBook) (b_1:SBook):Option Bool:=
 bif (!((ByteArray.toList a_0.fWord) == (ByteArray.toList b_1.fWord))) then
 some false
 else
 bif (a_0.fTries != b_1.fTries) then
  some false
 else
  (z0 a_0.fThings b_1.fThings).bind fun r0=>
  bif (!r0) then
  some false
  else
  bif (a_0.fLast != b_1.fLast) then
   some false
  else
   bif (!((ByteArray.toList a_0.fChain) == (ByteArray.toList b_1.fChain))) then
   some false
   else
   bif (a_0.fCount != b_1.fCount) then
    some false
   else
    some true
noncomputable def Bv:YAI:=ZAI Zu
theorem RAf:Tells ctx PP 34 cv58 cv6 (fun a=>Bv a.1 a.2):=fn_ok0 (hc PAf hl_nil) Tryz.func34 ((fun z0 a=>by kernel_rfl:∀ z0,EntryIs0 ctx PP 34 [] [(107,QAf z0)] cv58 cv6 fun a=>ZAI z0 a.1 a.2) Zu)
noncomputable def SAf {γ:Type} (F:YAI):Hd ctx γ:=hdl cv58.dec (fun a=>F a.1 a.2) cv6.enc
abbrev DAB:=SSession→SSession→Option Bool
noncomputable def AAJ (a_0:SSession) (b_1:SSession):Option Bool:=
 bif (a_0.fId != b_1.fId) then
 some false
 else
 bif (!(a_0.fIn == b_1.fIn)) then
  some false
 else
  some true
noncomputable def Uj:DAB:=AAJ
theorem TAf:Tells ctx PP 108 cv59 cv6 (fun a=>Uj a.1 a.2):=fn_ok0 hl_nil Tryz.func108 (fun a=>by kernel_rfl:EntryIs0 ctx PP 108 [] [] cv59 cv6 fun a=>AAJ a.1 a.2)
noncomputable def YAU {γ:Type} (F:DAB):Hd ctx γ:=hdl cv59.dec (fun a=>F a.1 a.2) cv6.enc
abbrev BAJ:=(List SSession)→(List SSession)→Option Bool
inductive Dv where
 | c0 (a_0:(List SSession)) (b_1:(List SSession)) (i_5:Int)
noncomputable def ZAU:Dv→LI
 | .c0 a_0 b_1 i_5=>(tdo Tryz.f35 464,[(0,[.one (.rsl 92 a_0)]),(1,[.one (.rsl 92 b_1)]),(5,[.one (.int .i64 i_5)])],[])
noncomputable def CAJ (z0:DAB) (k:Dv→Option Bool) (a_0:(List SSession)) (b_1:(List SSession)):Option Bool:=
 bif ((a_0.length:Int) != (b_1.length:Int)) then
 some false
 else
 k (.c0 a_0 b_1 0)
noncomputable def EAB (z0:DAB) (k:Dv→Option Bool):Dv→Option Bool
 | .c0 a_0 b_1 i_5=>
 bif (decide (i_5<(a_0.length:Int))) then
  bif ((decide (0≤i_5)) && (decide (i_5<(a_0.length:Int)))) then
  bif ((decide (0≤i_5)) && (decide (i_5<(b_1.length:Int)))) then
  (z0 (a_0.getD i_5.toNat (⟨0,false⟩:SSession)) (b_1.getD i_5.toNat (⟨0,false⟩:SSession))).bind fun r0=>
  bif (!r0) then
  some false
  else
  k (.c0 a_0 b_1 (w64 (i_5+1)))
  else none
  else none
 else
  some true
noncomputable def Xo:Nat→Dv→Option Bool
 | 0,_=>none
 | m+1,s=>EAB Uj (Xo m) s
noncomputable def Fv:BAJ:=CAJ Uj (Xo gas)
theorem UAf:Tells ctx PP 35 cv60 cv6 (fun a=>Fv a.1 a.2):=
 have b:∀ z0,CutIs ctx PP 35 Tryz.f35 [] [(108,YAU z0)] cv6 ZAU (EAB z0):=fun z0 _ s=>by cases s <;> kernel_rfl
 have e:∀ z0,EntryIs ctx PP 35 [] [(108,YAU z0)] cv60 cv6 ZAU (fun k a=>CAJ z0 k a.1 a.2):=fun z0 _ a=>by kernel_rfl
 fn_ok (hc TAf hl_nil) Tryz.func35 (fun s s' h=>by cases s;cases s';cases h;rfl) (fun _=>rfl) (fun _ _=>rfl) (b Uj) (e Uj) gas
noncomputable def VAf {γ:Type} (F:BAJ):Hd ctx γ:=hdl cv60.dec (fun a=>F a.1 a.2) cv6.enc
abbrev FAB:=SLive→SLive→Option Bool
noncomputable def DAJ (a_0:SLive) (b_1:SLive):Option Bool:=
 bif (a_0.fId != b_1.fId) then
 some false
 else
 bif (a_0.fNext != b_1.fNext) then
  some false
 else
  some true
noncomputable def Vj:FAB:=DAJ
theorem WAf:Tells ctx PP 109 cv61 cv6 (fun a=>Vj a.1 a.2):=fn_ok0 hl_nil Tryz.func109 (fun a=>by kernel_rfl:EntryIs0 ctx PP 109 [] [] cv61 cv6 fun a=>DAJ a.1 a.2)
noncomputable def AAV {γ:Type} (F:FAB):Hd ctx γ:=hdl cv61.dec (fun a=>F a.1 a.2) cv6.enc
abbrev EAJ:=(List SLive)→(List SLive)→Option Bool
inductive Gv where
 | c0 (a_0:(List SLive)) (b_1:(List SLive)) (i_5:Int)
noncomputable def BAV:Gv→LI
 | .c0 a_0 b_1 i_5=>(tdo Tryz.f36 464,[(0,[.one (.rsl 149 a_0)]),(1,[.one (.rsl 149 b_1)]),(5,[.one (.int .i64 i_5)])],[])
noncomputable def FAJ (z0:FAB) (k:Gv→Option Bool) (a_0:(List SLive)) (b_1:(List SLive)):Option Bool:=
 bif ((a_0.length:Int) != (b_1.length:Int)) then
 some false
 else
 k (.c0 a_0 b_1 0)
noncomputable def GAB (z0:FAB) (k:Gv→Option Bool):Gv→Option Bool
 | .c0 a_0 b_1 i_5=>
 bif (decide (i_5<(a_0.length:Int))) then
  bif ((decide (0≤i_5)) && (decide (i_5<(a_0.length:Int)))) then
  bif ((decide (0≤i_5)) && (decide (i_5<(b_1.length:Int)))) then
  (z0 (a_0.getD i_5.toNat (⟨0,0⟩:SLive)) (b_1.getD i_5.toNat (⟨0,0⟩:SLive))).bind fun r0=>
  bif (!r0) then
  some false
  else
  k (.c0 a_0 b_1 (w64 (i_5+1)))
  else none
  else none
 else
  some true
noncomputable def Yo:Nat→Gv→Option Bool
 | 0,_=>none
 | m+1,s=>GAB Vj (Yo m) s
noncomputable def Jv:EAJ:=FAJ Vj (Yo gas)
theorem XAf:Tells ctx PP 36 cv62 cv6 (fun a=>Jv a.1 a.2):=
 have b:∀ z0,CutIs ctx PP 36 Tryz.f36 [] [(109,AAV z0)] cv6 BAV (GAB z0):=fun z0 _ s=>by cases s <;> kernel_rfl
 have e:∀ z0,EntryIs ctx PP 36 [] [(109,AAV z0)] cv62 cv6 BAV (fun k a=>FAJ z0 k a.1 a.2):=fun z0 _ a=>by kernel_rfl
 fn_ok (hc WAf hl_nil) Tryz.func36 (fun s s' h=>by cases s;cases s';cases h;rfl) (fun _=>rfl) (fun _ _=>rfl) (b Vj) (e Vj) gas
noncomputable def YAf {γ:Type} (F:EAJ):Hd ctx γ:=hdl cv62.dec (fun a=>F a.1 a.2) cv6.enc
abbrev GAJ:=SBox→SBox→Option Bool
noncomputable def HAJ (z0:SAI) (z1:YAI) (z2:BAJ) (z3:EAJ) (a_0:SBox) (b_1:SBox):Option Bool:=
 bif (!((ByteArray.toList a_0.fKey) == (ByteArray.toList b_1.fKey))) then
 some false
 else
 bif (!(a_0.fUp == b_1.fUp)) then
  some false
 else
  (z0 a_0.fDisk b_1.fDisk).bind fun r0=>
  bif (!r0) then
  some false
  else
  (z1 a_0.fBook b_1.fBook).bind fun r1=>
  bif (!r1) then
   some false
  else
   (z2 a_0.fSessions b_1.fSessions).bind fun r2=>
   bif (!r2) then
   some false
   else
   (z3 a_0.fLives b_1.fLives).bind fun r3=>
   bif (!r3) then
    some false
   else
    bif (a_0.fOpened != b_1.fOpened) then
    some false
    else
    some true
noncomputable def Kv:GAJ:=HAJ Wu Bv Fv Jv
theorem ZAf:Tells ctx PP 10 cv63 cv6 (fun a=>Kv a.1 a.2):=fn_ok0 (hc NAf (hc RAf (hc UAf (hc XAf hl_nil)))) Tryz.func10 ((fun z0 z1 z2 z3 a=>by kernel_rfl:∀ z0 z1 z2 z3,EntryIs0 ctx PP 10 [] [(33,OAf z0),(34,SAf z1),(35,VAf z2),(36,YAf z3)] cv63 cv6 fun a=>HAJ z0 z1 z2 z3 a.1 a.2) Wu Bv Fv Jv)
noncomputable def AAg {γ:Type} (F:GAJ):Hd ctx γ:=hdl cv63.dec (fun a=>F a.1 a.2) cv6.enc
abbrev IAJ:=(List Int)→(List Int)→Option Bool
inductive Nv where
 | c0 (a_0:(List Int)) (b_1:(List Int)) (i_5:Int)
noncomputable def CAV:Nv→LI
 | .c0 a_0 b_1 i_5=>(tdo Tryz.f75 464,[(0,[.one (.rsl 3 a_0)]),(1,[.one (.rsl 3 b_1)]),(5,[.one (.int .i64 i_5)])],[])
noncomputable def JAJ (k:Nv→Option Bool) (a_0:(List Int)) (b_1:(List Int)):Option Bool:=
 bif ((a_0.length:Int) != (b_1.length:Int)) then
 some false
 else
 k (.c0 a_0 b_1 0)
noncomputable def IAB (k:Nv→Option Bool):Nv→Option Bool
 | .c0 a_0 b_1 i_5=>
 bif (decide (i_5<(a_0.length:Int))) then
  bif ((decide (0≤i_5)) && (decide (i_5<(a_0.length:Int)))) then
  bif ((decide (0≤i_5)) && (decide (i_5<(b_1.length:Int)))) then
  bif ((a_0.getD i_5.toNat 0) != (b_1.getD i_5.toNat 0)) then
  some false
  else
  k (.c0 a_0 b_1 (w64 (i_5+1)))
  else none
  else none
 else
  some true
noncomputable def Zo:Nat→Nv→Option Bool
 | 0,_=>none
 | m+1,s=>IAB (Zo m) s
noncomputable def Ov:IAJ:=JAJ (Zo gas)
theorem BAg:Tells ctx PP 75 cv139 cv6 (fun a=>Ov a.1 a.2):=
 have b:CutIs ctx PP 75 Tryz.f75 [] [] cv6 CAV (IAB):=fun _ s=>by cases s <;> kernel_rfl
 have e:EntryIs ctx PP 75 [] [] cv139 cv6 CAV (fun k a=>JAJ k a.1 a.2):=fun _ a=>by kernel_rfl
 fn_ok hl_nil Tryz.func75 (fun s s' h=>by cases s;cases s';cases h;rfl) (fun _=>rfl) (fun _ _=>rfl) b e gas
noncomputable def CAg {γ:Type} (F:IAJ):Hd ctx γ:=hdl cv139.dec (fun a=>F a.1 a.2) cv6.enc
abbrev KAJ:=(List ByteArray)→(List ByteArray)→Option Bool
inductive Pv where
 | c0 (a_0:(List ByteArray)) (b_1:(List ByteArray)) (i_5:Int)
noncomputable def DAV:Pv→LI
 | .c0 a_0 b_1 i_5=>(tdo Tryz.f76 464,[(0,[.one (.rsl 9 a_0)]),(1,[.one (.rsl 9 b_1)]),(5,[.one (.int .i64 i_5)])],[])
noncomputable def LAJ (k:Pv→Option Bool) (a_0:(List ByteArray)) (b_1:(List ByteArray)):Option Bool:=
 bif ((a_0.length:Int) != (b_1.length:Int)) then
 some false
 else
 k (.c0 a_0 b_1 0)
noncomputable def JAB (k:Pv→Option Bool):Pv→Option Bool
 | .c0 a_0 b_1 i_5=>
 bif (decide (i_5<(a_0.length:Int))) then
  bif ((decide (0≤i_5)) && (decide (i_5<(a_0.length:Int)))) then
  bif ((decide (0≤i_5)) && (decide (i_5<(b_1.length:Int)))) then
  bif (!((ByteArray.toList (a_0.getD i_5.toNat (⟨#[]⟩:ByteArray))) == (ByteArray.toList (b_1.getD i_5.toNat (⟨#[]⟩:ByteArray))))) then
  some false
  else
  k (.c0 a_0 b_1 (w64 (i_5+1)))
  else none
  else none
 else
  some true
noncomputable def Ap:Nat→Pv→Option Bool
 | 0,_=>none
 | m+1,s=>JAB (Ap m) s
noncomputable def Qv:KAJ:=LAJ (Ap gas)
theorem DAg:Tells ctx PP 76 cv140 cv6 (fun a=>Qv a.1 a.2):=
 have b:CutIs ctx PP 76 Tryz.f76 [] [] cv6 DAV (JAB):=fun _ s=>by cases s <;> kernel_rfl
 have e:EntryIs ctx PP 76 [] [] cv140 cv6 DAV (fun k a=>LAJ k a.1 a.2):=fun _ a=>by kernel_rfl
 fn_ok hl_nil Tryz.func76 (fun s s' h=>by cases s;cases s';cases h;rfl) (fun _=>rfl) (fun _ _=>rfl) b e gas
noncomputable def EAg {γ:Type} (F:KAJ):Hd ctx γ:=hdl cv140.dec (fun a=>F a.1 a.2) cv6.enc
abbrev KAB:=SGiven→SGiven→Option Bool
noncomputable def MAJ (a_0:SGiven) (b_1:SGiven):Option Bool:=
 bif (a_0.fThing != b_1.fThing) then
 some false
 else
 bif (a_0.fLeaf != b_1.fLeaf) then
  some false
 else
  bif (a_0.fWhen != b_1.fWhen) then
  some false
  else
  some true
noncomputable def Wj:KAB:=MAJ
theorem FAg:Tells ctx PP 135 cv141 cv6 (fun a=>Wj a.1 a.2):=fn_ok0 hl_nil Tryz.func135 (fun a=>by kernel_rfl:EntryIs0 ctx PP 135 [] [] cv141 cv6 fun a=>MAJ a.1 a.2)
noncomputable def EAV {γ:Type} (F:KAB):Hd ctx γ:=hdl cv141.dec (fun a=>F a.1 a.2) cv6.enc
abbrev NAJ:=(List SGiven)→(List SGiven)→Option Bool
inductive Sv where
 | c0 (a_0:(List SGiven)) (b_1:(List SGiven)) (i_5:Int)
noncomputable def FAV:Sv→LI
 | .c0 a_0 b_1 i_5=>(tdo Tryz.f77 464,[(0,[.one (.rsl 117 a_0)]),(1,[.one (.rsl 117 b_1)]),(5,[.one (.int .i64 i_5)])],[])
noncomputable def OAJ (z0:KAB) (k:Sv→Option Bool) (a_0:(List SGiven)) (b_1:(List SGiven)):Option Bool:=
 bif ((a_0.length:Int) != (b_1.length:Int)) then
 some false
 else
 k (.c0 a_0 b_1 0)
noncomputable def LAB (z0:KAB) (k:Sv→Option Bool):Sv→Option Bool
 | .c0 a_0 b_1 i_5=>
 bif (decide (i_5<(a_0.length:Int))) then
  bif ((decide (0≤i_5)) && (decide (i_5<(a_0.length:Int)))) then
  bif ((decide (0≤i_5)) && (decide (i_5<(b_1.length:Int)))) then
  (z0 (a_0.getD i_5.toNat (⟨0,0,0⟩:SGiven)) (b_1.getD i_5.toNat (⟨0,0,0⟩:SGiven))).bind fun r0=>
  bif (!r0) then
  some false
  else
  k (.c0 a_0 b_1 (w64 (i_5+1)))
  else none
  else none
 else
  some true
noncomputable def Dp:Nat→Sv→Option Bool
 | 0,_=>none
 | m+1,s=>LAB Wj (Dp m) s
noncomputable def Tv:NAJ:=OAJ Wj (Dp gas)
theorem GAg:Tells ctx PP 77 cv142 cv6 (fun a=>Tv a.1 a.2):=
 have b:∀ z0,CutIs ctx PP 77 Tryz.f77 [] [(135,EAV z0)] cv6 FAV (LAB z0):=fun z0 _ s=>by cases s <;> kernel_rfl
 have e:∀ z0,EntryIs ctx PP 77 [] [(135,EAV z0)] cv142 cv6 FAV (fun k a=>OAJ z0 k a.1 a.2):=fun z0 _ a=>by kernel_rfl
 fn_ok (hc FAg hl_nil) Tryz.func77 (fun s s' h=>by cases s;cases s';cases h;rfl) (fun _=>rfl) (fun _ _=>rfl) (b Wj) (e Wj) gas
noncomputable def HAg {γ:Type} (F:NAJ):Hd ctx γ:=hdl cv142.dec (fun a=>F a.1 a.2) cv6.enc
abbrev MAB:=SRec→SRec→Option Bool
noncomputable def PAJ (z0:Xu) (a_0:SRec) (b_1:SRec):Option Bool:=
 bif (a_0.fKind != b_1.fKind) then
 some false
 else
 bif (!((ByteArray.toList a_0.fText) == (ByteArray.toList b_1.fText))) then
  some false
 else
  bif (a_0.fNum != b_1.fNum) then
  some false
  else
  (z0 a_0.fThing b_1.fThing).bind fun r0=>
  bif (!r0) then
   some false
  else
   some true
noncomputable def Xj:MAB:=PAJ Yf
theorem IAg:Tells ctx PP 136 cv143 cv6 (fun a=>Xj a.1 a.2):=fn_ok0 (hc WAU hl_nil) Tryz.func136 ((fun z0 a=>by kernel_rfl:∀ z0,EntryIs0 ctx PP 136 [] [(160,VAI z0)] cv143 cv6 fun a=>PAJ z0 a.1 a.2) Yf)
noncomputable def GAV {γ:Type} (F:MAB):Hd ctx γ:=hdl cv143.dec (fun a=>F a.1 a.2) cv6.enc
abbrev QAJ:=(List SRec)→(List SRec)→Option Bool
inductive Wv where
 | c0 (a_0:(List SRec)) (b_1:(List SRec)) (i_5:Int)
noncomputable def HAV:Wv→LI
 | .c0 a_0 b_1 i_5=>(tdo Tryz.f78 464,[(0,[.one (.rsl 71 a_0)]),(1,[.one (.rsl 71 b_1)]),(5,[.one (.int .i64 i_5)])],[])
noncomputable def RAJ (z0:MAB) (k:Wv→Option Bool) (a_0:(List SRec)) (b_1:(List SRec)):Option Bool:=
 bif ((a_0.length:Int) != (b_1.length:Int)) then
 some false
 else
 k (.c0 a_0 b_1 0)
noncomputable def NAB (z0:MAB) (k:Wv→Option Bool):Wv→Option Bool
 | .c0 a_0 b_1 i_5=>
 bif (decide (i_5<(a_0.length:Int))) then
  bif ((decide (0≤i_5)) && (decide (i_5<(a_0.length:Int)))) then
  bif ((decide (0≤i_5)) && (decide (i_5<(b_1.length:Int)))) then
  (z0 (a_0.getD i_5.toNat (⟨0,⟨#[]⟩,0,⟨0,0,false,false,false,false,⟨#[]⟩,0⟩⟩:SRec)) (b_1.getD i_5.toNat (⟨0,⟨#[]⟩,0,⟨0,0,false,false,false,false,⟨#[]⟩,0⟩⟩:SRec))).bind fun r0=>
  bif (!r0) then
  some false
  else
  k (.c0 a_0 b_1 (w64 (i_5+1)))
  else none
  else none
 else
  some true
noncomputable def Ep:Nat→Wv→Option Bool
 | 0,_=>none
 | m+1,s=>NAB Xj (Ep m) s
noncomputable def Xv:QAJ:=RAJ Xj (Ep gas)
theorem JAg:Tells ctx PP 78 cv144 cv6 (fun a=>Xv a.1 a.2):=
 have b:∀ z0,CutIs ctx PP 78 Tryz.f78 [] [(136,GAV z0)] cv6 HAV (NAB z0):=fun z0 _ s=>by cases s <;> kernel_rfl
 have e:∀ z0,EntryIs ctx PP 78 [] [(136,GAV z0)] cv144 cv6 HAV (fun k a=>RAJ z0 k a.1 a.2):=fun z0 _ a=>by kernel_rfl
 fn_ok (hc IAg hl_nil) Tryz.func78 (fun s s' h=>by cases s;cases s';cases h;rfl) (fun _=>rfl) (fun _ _=>rfl) (b Xj) (e Xj) gas
noncomputable def KAg {γ:Type} (F:QAJ):Hd ctx γ:=hdl cv144.dec (fun a=>F a.1 a.2) cv6.enc
abbrev SAJ:=SLife→SLife→Option Bool
noncomputable def TAJ (z0:GAJ) (z1:IAJ) (z2:KAJ) (z3:NAJ) (z4:QAJ) (a_0:SLife) (b_1:SLife):Option Bool:=
 (z0 a_0.fBox b_1.fBox).bind fun r0=>
 bif (!r0) then
 some false
 else
 (z1 a_0.fCodes b_1.fCodes).bind fun r1=>
 bif (!r1) then
  some false
 else
  (z2 a_0.fReplies b_1.fReplies).bind fun r2=>
  bif (!r2) then
  some false
  else
  (z3 a_0.fGives b_1.fGives).bind fun r3=>
  bif (!r3) then
   some false
  else
   (z4 a_0.fDone b_1.fDone).bind fun r4=>
   bif (!r4) then
   some false
   else
   some true
noncomputable def Yv:SAJ:=TAJ Kv Ov Qv Tv Xv
theorem LAg:Tells ctx PP 21 cv145 cv6 (fun a=>Yv a.1 a.2):=fn_ok0 (hc ZAf (hc BAg (hc DAg (hc GAg (hc JAg hl_nil))))) Tryz.func21 ((fun z0 z1 z2 z3 z4 a=>by kernel_rfl:∀ z0 z1 z2 z3 z4,EntryIs0 ctx PP 21 [] [(10,AAg z0),(75,CAg z1),(76,EAg z2),(77,HAg z3),(78,KAg z4)] cv145 cv6 fun a=>TAJ z0 z1 z2 z3 z4 a.1 a.2) Kv Ov Qv Tv Xv)
noncomputable def MAg {γ:Type} (F:SAJ):Hd ctx γ:=hdl cv145.dec (fun a=>F a.1 a.2) cv6.enc
abbrev IAV:=SLife→Option Bool
noncomputable def OAB (z0:UAJ) (z1:VAJ) (z2:WAJ) (z3:NAI) (z4:SAJ) (aL_0:SLife):Option Bool:=
 (z0 aL_0 1048576).bind fun r0=>
 bif (decide (r0<0)) then
 some true
 else
 (z1 aL_0).bind fun r1=>
 (z2 r1).bind fun r2=>
 (z1 aL_0).bind fun r3=>
 (z3 r3).bind fun r4=>
 bif (!(r4 == r2)) then
  some false
 else
  (z1 aL_0).bind fun r5=>
  (z4 r3 r5).bind fun r6=>
  bif (!r6) then
  some false
  else
  some true
noncomputable def laws_FnExactSoundLife:IAV:=OAB Yj Zv Aw Ru Yv
theorem ok_laws_FnExactSoundLife:Tells ctx PP 7 cv136 cv6 (fun a=>laws_FnExactSoundLife a):=fn_ok0 (hc NAg (hc OAg (hc PAg (hc FAf (hc LAg hl_nil))))) Tryz.func7 ((fun z0 z1 z2 z3 z4 a=>by kernel_rfl:∀ z0 z1 z2 z3 z4,EntryIs0 ctx PP 7 [] [(17,QAg z0),(19,RAg z1),(24,SAg z2),(25,JAf z3),(21,MAg z4)] cv136 cv6 fun a=>OAB z0 z1 z2 z3 z4 a) Yj Zv Aw Ru Yv)
noncomputable def OAu {γ:Type} (F:IAV):Hd ctx γ:=hdl cv136.dec (fun a=>F a) cv6.enc
end Go.Proofs.YthfpmhalgimbbaaGreatDoor.G

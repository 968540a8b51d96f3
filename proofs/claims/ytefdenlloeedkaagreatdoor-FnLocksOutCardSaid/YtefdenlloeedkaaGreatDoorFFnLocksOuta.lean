/- Functions of the program, told by plain functions: part 1 of 2. -/
import Derived.Test.YtefdenlloeedkaaGreatDoorCtx
namespace Go.Proofs.YtefdenlloeedkaaGreatDoor.G
open Go Go.Ev
set_option linter.unusedVariables false
set_option maxRecDepth 100000
set_option linter.unusedSectionVars false
variable [PC]
abbrev Yk:=Unit→Option Bool
noncomputable def Du (code_0:Unit):Option Bool:=
 some (decide ((codeL.length:Int) > 1048576))
noncomputable def Yg:Yk:=Du
theorem V6:Tells ctx PP 5 cv0 cv1 (fun a=>Yg a):=fn_ok0 hl_nil Tryz.func5 (fun a=>by kernel_rfl:EntryIs0 ctx PP 5 [] [] cv0 cv1 fun a=>Du a)
noncomputable def F7 {γ:Type} (F:Yk):Hd ctx γ:=hdl cv0.dec (fun a=>F a) cv1.enc
abbrev Gl:=Unit→Option SL01Cur
inductive Za where
 | c0 (h_3:Int) (i_4:Int)
noncomputable def Eu:Za→LI
 | .c0 h_3 i_4=>(tdo Tryz.f17 464,[(0,[.one (.csl)]),(3,[.one (.int .i64 h_3)]),(4,[.one (.int .i64 i_4)])],[])
noncomputable def E_spec_l01New (k:Za→Option SL01Cur) (code_0:Unit):Option SL01Cur:=
 k (.c0 (w64 (27401+(codeL.length:Int))) 0)
noncomputable def B_spec_l01New (k:Za→Option SL01Cur):Za→Option SL01Cur
 | .c0 h_3 i_4=>
 bif (decide (i_4<(codeL.length:Int))) then
  bif (decide (i_4<4000)) then
  bif ((decide (0≤i_4)) && (decide (i_4<(codeL.length:Int)))) then
  bif (Nat.blt i_4.toNat codeL.length) then
  k (.c0 (w64 (((BitVec.toNat ((BitVec.ofInt (IntKind.bits IntKind.i64) (w64 ((w64 ((w64 (h_3*131))+(w64 (codeL.getD i_4.toNat 0))))+7))) &&& (BitVec.ofInt (IntKind.bits IntKind.i64) 1073741823))):Nat):Int)) (w64 (i_4+1)))
  else none
  else none
  else
  some ⟨(),0,h_3⟩
 else
  some ⟨(),0,h_3⟩
noncomputable def L_spec_l01New:Nat→Za→Option SL01Cur
 | 0,_=>none
 | m+1,s=>B_spec_l01New (L_spec_l01New m) s
noncomputable def spec_l01New:Gl:=E_spec_l01New (L_spec_l01New gas)
theorem J7:Tells ctx PP 17 cv0 cv2 (fun a=>spec_l01New a):=
 have b:CutIs ctx PP 17 Tryz.f17 [] [] cv2 Eu (B_spec_l01New):=fun _ s=>by cases s <;> kernel_rfl
 have e:EntryIs ctx PP 17 [] [] cv0 cv2 Eu (fun k a=>E_spec_l01New k a):=fun _ a=>by kernel_rfl
 fn_ok hl_nil Tryz.func17 (fun s s' h=>by cases s;cases s';cases h;rfl) (fun _=>rfl) (fun _ _=>rfl) b e gas
noncomputable def N7 {γ:Type} (F:Gl):Hd ctx γ:=hdl cv0.dec (fun a=>F a) cv2.enc
abbrev Cb:=SL01Cur→Option (Int×SL01Cur)
noncomputable def E_spec_l01Byte (c_0:SL01Cur):Option (Int×SL01Cur):=
 bif (decide (c_0.fI<(codeL.length:Int))) then
 bif ((decide (0≤c_0.fI)) && (decide (c_0.fI<(codeL.length:Int)))) then
 bif (Nat.blt c_0.fI.toNat codeL.length) then
 some ((w64 (((BitVec.toNat ((BitVec.ofInt (IntKind.bits IntKind.i64) (w64 ((w64 (((BitVec.toNat ((BitVec.ofInt (IntKind.bits IntKind.i64) (w64 (((BitVec.toNat ((BitVec.ofInt (IntKind.bits IntKind.i64) (Int.fdiv (w64 ((w64 (c_0.fH*6364136223846793005))+1442695040888963407)) (2 ^ (Min.min (33:Int).toNat (IntKind.bits IntKind.i64))))) ^^^ (BitVec.ofInt (IntKind.bits IntKind.i64) (Int.fdiv (w64 ((w64 (c_0.fH*6364136223846793005))+1442695040888963407)) (2 ^ (Min.min (45:Int).toNat (IntKind.bits IntKind.i64))))))):Nat):Int))) &&& (BitVec.ofInt (IntKind.bits IntKind.i64) 255))):Nat):Int))+(w64 (codeL.getD c_0.fI.toNat 0))))) &&& (BitVec.ofInt (IntKind.bits IntKind.i64) 255))):Nat):Int)),⟨(),(w64 (c_0.fI+1)),(w64 ((w64 (c_0.fH*6364136223846793005))+1442695040888963407))⟩)
 else none
 else none
 else
 some ((w64 (((BitVec.toNat ((BitVec.ofInt (IntKind.bits IntKind.i64) (w64 (((BitVec.toNat ((BitVec.ofInt (IntKind.bits IntKind.i64) (Int.fdiv (w64 ((w64 (c_0.fH*6364136223846793005))+1442695040888963407)) (2 ^ (Min.min (33:Int).toNat (IntKind.bits IntKind.i64))))) ^^^ (BitVec.ofInt (IntKind.bits IntKind.i64) (Int.fdiv (w64 ((w64 (c_0.fH*6364136223846793005))+1442695040888963407)) (2 ^ (Min.min (45:Int).toNat (IntKind.bits IntKind.i64))))))):Nat):Int))) &&& (BitVec.ofInt (IntKind.bits IntKind.i64) 255))):Nat):Int)),⟨(),c_0.fI,(w64 ((w64 (c_0.fH*6364136223846793005))+1442695040888963407))⟩)
noncomputable def spec_l01Byte:Cb:=E_spec_l01Byte
theorem Gu:Tells ctx PP 18 cv3 cv4 (fun a=>spec_l01Byte a):=fn_ok0 hl_nil Tryz.func18 (fun a=>by kernel_rfl:EntryIs0 ctx PP 18 [0] [] cv3 cv4 fun a=>E_spec_l01Byte a)
noncomputable def Hl {γ:Type} (F:Cb):Hd ctx γ:=hdl cv3.dec (fun a=>F a) cv4.enc
abbrev Zg:=SL01Cur→Int→Option (Int×SL01Cur)
noncomputable def E_spec_l01Below (z0:Cb) (c_0:SL01Cur) (n_1:Int):Option (Int×SL01Cur):=
 bif (decide (n_1≤0)) then
 some (0,⟨(),c_0.fI,c_0.fH⟩)
 else
 bif (decide (n_1≤256)) then
  (z0 ⟨(),c_0.fI,c_0.fH⟩).bind fun r0=>
  bif (!(n_1 == 0)) then
  some ((r0.1.tmod n_1),⟨(),r0.2.fI,r0.2.fH⟩)
  else none
 else
  (z0 ⟨(),c_0.fI,c_0.fH⟩).bind fun r1=>
  (z0 ⟨(),r1.2.fI,r1.2.fH⟩).bind fun r2=>
  (z0 ⟨(),r2.2.fI,r2.2.fH⟩).bind fun r3=>
  (z0 ⟨(),r3.2.fI,r3.2.fH⟩).bind fun r4=>
  bif (!(n_1 == 0)) then
  some (((w64 ((w64 ((w64 ((w64 (r1.1*16777216))+(w64 (r2.1*65536))))+(w64 (r3.1*256))))+r4.1)).tmod n_1),⟨(),r4.2.fI,r4.2.fH⟩)
  else none
noncomputable def spec_l01Below:Zg:=E_spec_l01Below spec_l01Byte
theorem Hu:Tells ctx PP 19 cv5 cv4 (fun a=>spec_l01Below a.1 a.2):=fn_ok0 (hc Gu hl_nil) Tryz.func19 ((fun z0 a=>by kernel_rfl:∀ z0,EntryIs0 ctx PP 19 [0] [(18,Hl z0)] cv5 cv4 fun a=>E_spec_l01Below z0 a.1 a.2) spec_l01Byte)
noncomputable def Iu {γ:Type} (F:Zg):Hd ctx γ:=hdl cv5.dec (fun a=>F a.1 a.2) cv4.enc
abbrev Il:=SL01Cur→Int→Option (Bool×SL01Cur)
noncomputable def Jl (z0:Zg) (c_0:SL01Cur) (n_1:Int):Option (Bool×SL01Cur):=
 (z0 ⟨(),c_0.fI,c_0.fH⟩ n_1).bind fun r0=>
 some ((r0.1 == 0),⟨(),r0.2.fI,r0.2.fH⟩)
noncomputable def Eb:Il:=Jl spec_l01Below
theorem O7:Tells ctx PP 28 cv5 cv93 (fun a=>Eb a.1 a.2):=fn_ok0 (hc Hu hl_nil) Tryz.func28 ((fun z0 a=>by kernel_rfl:∀ z0,EntryIs0 ctx PP 28 [0] [(19,Iu z0)] cv5 cv93 fun a=>Jl z0 a.1 a.2) spec_l01Below)
noncomputable def P7 {γ:Type} (F:Il):Hd ctx γ:=hdl cv5.dec (fun a=>F a.1 a.2) cv93.enc
abbrev Ll:=SL01Cur→(List Int)→Option (Int×SL01Cur)
noncomputable def Nl (z0:Zg) (c_0:SL01Cur) (list_1:(List Int)):Option (Int×SL01Cur):=
 (z0 ⟨(),c_0.fI,c_0.fH⟩ (list_1.length:Int)).bind fun r0=>
 bif ((decide (0≤r0.1)) && (decide (r0.1<(list_1.length:Int)))) then
 some ((list_1.getD r0.1.toNat 0),⟨(),r0.2.fI,r0.2.fH⟩)
 else none
noncomputable def Fb:Ll:=Nl spec_l01Below
theorem Q7:Tells ctx PP 29 cv94 cv4 (fun a=>Fb a.1 a.2):=fn_ok0 (hc Hu hl_nil) Tryz.func29 ((fun z0 a=>by kernel_rfl:∀ z0,EntryIs0 ctx PP 29 [0] [(19,Iu z0)] cv94 cv4 fun a=>Nl z0 a.1 a.2) spec_l01Below)
noncomputable def U7 {γ:Type} (F:Ll):Hd ctx γ:=hdl cv94.dec (fun a=>F a.1 a.2) cv4.enc
abbrev Ah:=Int→Int→Option ByteArray
inductive Ib where
 | c0 (n_0:Int) (x_1:Int) (i_6:Int) (out_5:(List Int))
noncomputable def Ju:Ib→LI
 | .c0 n_0 x_1 i_6 out_5=>(tdo Tryz.f30 464,[(0,[.one (.int .i64 n_0)]),(1,[.one (.int .u8 x_1)]),(5,[.one (.own 368)]),(6,[.one (.int .i64 i_6)])],[(368,.sl 5 out_5)])
noncomputable def Ol (k:Ib→Option ByteArray) (n_0:Int) (x_1:Int):Option ByteArray:=
 bif ((((decide (0≤n_0)) && (decide (n_0≤n_0))) && (decide (n_0≤9223372036854775807))) && (decide ((n_0.toNat*1)≤140737488355328))) then
 k (.c0 n_0 x_1 0 (List.replicate n_0.toNat (0:Int)))
 else none
noncomputable def Bh (k:Ib→Option ByteArray):Ib→Option ByteArray
 | .c0 n_0 x_1 i_6 out_5=>
 bif (decide (i_6<n_0)) then
  bif ((decide (0≤i_6)) && (decide (i_6<(out_5.length:Int)))) then
  k (.c0 n_0 x_1 (w64 (i_6+1)) (out_5.set i_6.toNat x_1))
  else none
 else
  some (ofBytes out_5)
noncomputable def Jb:Nat→Ib→Option ByteArray
 | 0,_=>none
 | m+1,s=>Bh (Jb m) s
noncomputable def QY:Ah:=Ol (Jb gas)
theorem Ku:Tells ctx PP 30 cv95 cv9 (fun a=>QY a.1 a.2):=
 have b:CutIs ctx PP 30 Tryz.f30 [] [] cv9 Ju (Bh):=fun _ s=>by cases s <;> kernel_rfl
 have e:EntryIs ctx PP 30 [] [] cv95 cv9 Ju (fun k a=>Ol k a.1 a.2):=fun _ a=>by kernel_rfl
 fn_ok hl_nil Tryz.func30 (fun s s' h=>by cases s;cases s';cases h;rfl) (fun _=>rfl) (fun _ _=>rfl) b e gas
noncomputable def Lu {γ:Type} (F:Ah):Hd ctx γ:=hdl cv95.dec (fun a=>F a.1 a.2) cv9.enc
abbrev Ql:=SL01Cur→Int→Option (ByteArray×SL01Cur)
inductive Nb where
 | c0 (n_1:Int) (i_6:Int) (c_0c1:Int) (c_0c2:Int) (out_5:(List Int))
noncomputable def Nu:Nb→LI
 | .c0 n_1 i_6 c_0c1 c_0c2 out_5=>(tdo Tryz.f31 976,[(0,[.one (.ptr 0 0)]),(1,[.one (.int .i64 n_1)]),(5,[.one (.own 368)]),(6,[.one (.int .i64 i_6)])],[(0,.var [.csl,.int .i64 c_0c1,.int .i64 c_0c2]),(368,.sl 5 out_5)])
noncomputable def Rl (z0:Cb) (k:Nb→Option (ByteArray×SL01Cur)) (c_0:SL01Cur) (n_1:Int):Option (ByteArray×SL01Cur):=
 bif (decide (n_1 > 5000)) then
 k (.c0 5000 0 c_0.fI c_0.fH [])
 else
 k (.c0 n_1 0 c_0.fI c_0.fH [])
noncomputable def Dh (z0:Cb) (k:Nb→Option (ByteArray×SL01Cur)):Nb→Option (ByteArray×SL01Cur)
 | .c0 n_1 i_6 c_0c1 c_0c2 out_5=>
 bif (decide (i_6<n_1)) then
  (z0 ⟨(),c_0c1,c_0c2⟩).bind fun r0=>
  bif (decide (((out_5.length+1)*1)≤140737488355328)) then
  k (.c0 n_1 (w64 (i_6+1)) r0.2.fI r0.2.fH (out_5++[(w8 r0.1)]))
  else none
 else
  some ((ofBytes out_5),⟨(),c_0c1,c_0c2⟩)
noncomputable def KZ:Nat→Nb→Option (ByteArray×SL01Cur)
 | 0,_=>none
 | m+1,s=>Dh spec_l01Byte (KZ m) s
noncomputable def LZ:Ql:=Rl spec_l01Byte (KZ gas)
theorem V7:Tells ctx PP 31 cv5 cv96 (fun a=>LZ a.1 a.2):=
 have b:∀ z0,CutIs ctx PP 31 Tryz.f31 [0] [(18,Hl z0)] cv96 Nu (Dh z0):=fun z0 _ s=>by cases s <;> kernel_rfl
 have e:∀ z0,EntryIs ctx PP 31 [0] [(18,Hl z0)] cv5 cv96 Nu (fun k a=>Rl z0 k a.1 a.2):=fun z0 _ a=>by kernel_rfl
 fn_ok (hc Gu hl_nil) Tryz.func31 (fun s s' h=>by cases s;cases s';cases h;rfl) (fun _=>rfl) (fun _ _=>rfl) (b spec_l01Byte) (e spec_l01Byte) gas
noncomputable def X7 {γ:Type} (F:Ql):Hd ctx γ:=hdl cv5.dec (fun a=>F a.1 a.2) cv96.enc
abbrev Zk:=Unit→Option (ByteArray×ByteArray)
noncomputable def Sl (z0:Gl) (z1:Il) (z2:Ll) (z3:Ah) (z4:Ql) (code_0:Unit):Option (ByteArray×ByteArray):=
 (z0 ()).bind fun r0=>
 (z1 ⟨(),r0.fI,r0.fH⟩ 8).bind fun r1=>
 bif r1.1 then
 (z2 ⟨(),r1.2.fI,r1.2.fH⟩ [0,31,33]).bind fun r2=>
 (z3 r2.1 75).bind fun r3=>
 (z2 ⟨(),r2.2.fI,r2.2.fH⟩ [0,3,20,21]).bind fun r4=>
 (z4 ⟨(),r4.2.fI,r4.2.fH⟩ r4.1).bind fun r5=>
 some (r3,r5.1)
 else
 (z3 32 75).bind fun r6=>
 (z2 ⟨(),r1.2.fI,r1.2.fH⟩ [0,3,20,21]).bind fun r7=>
 (z4 ⟨(),r7.2.fI,r7.2.fH⟩ r7.1).bind fun r8=>
 some (r6,r8.1)
noncomputable def Xa:Zk:=Sl spec_l01New Eb Fb QY LZ
theorem X6:Tells ctx PP 11 cv0 cv29 (fun a=>Xa a):=fn_ok0 (hc J7 (hc O7 (hc Q7 (hc Ku (hc V7 hl_nil))))) Tryz.func11 ((fun z0 z1 z2 z3 z4 a=>by kernel_rfl:∀ z0 z1 z2 z3 z4,EntryIs0 ctx PP 11 [] [(17,N7 z0),(28,P7 z1),(29,U7 z2),(30,Lu z3),(31,X7 z4)] cv0 cv29 fun a=>Sl z0 z1 z2 z3 z4 a) spec_l01New Eb Fb QY LZ)
noncomputable def G7 {γ:Type} (F:Zk):Hd ctx γ:=hdl cv0.dec (fun a=>F a) cv29.enc
abbrev Ul:=Option (List Int)
noncomputable def Ou  : Option (List Int):=
 some [1779033703,3144134277,1013904242,2773480762,1359893119,2600822924,528734635,1541459225]
noncomputable def impl_firstState:Ul:=Ou
theorem Y7:Tells ctx PP 60 cv10 cv21 (fun _=>impl_firstState):=fn_ok0 hl_nil Tryz.func60 (fun _=>by kernel_rfl:EntryIs0 ctx PP 60 [] [] cv10 cv21 fun _=>Ou)
noncomputable def Z7 {γ:Type} (F:Ul):Hd ctx γ:=hdl cv10.dec (fun _=>F) cv21.enc
abbrev Ob:=Int→Option ByteArray
noncomputable def E_impl_zeros (n_0:Int):Option ByteArray:=
 bif ((((decide (0≤n_0)) && (decide (n_0≤n_0))) && (decide (n_0≤9223372036854775807))) && (decide ((n_0.toNat*1)≤140737488355328))) then
 some (ofBytes (List.replicate n_0.toNat (0:Int)))
 else none
noncomputable def impl_zeros:Ob:=E_impl_zeros
theorem Vl:Tells ctx PP 68 cv7 cv9 (fun a=>impl_zeros a):=fn_ok0 hl_nil Tryz.func68 (fun a=>by kernel_rfl:EntryIs0 ctx PP 68 [] [] cv7 cv9 fun a=>E_impl_zeros a)
noncomputable def Wl {γ:Type} (F:Ob):Hd ctx γ:=hdl cv7.dec (fun a=>F a) cv9.enc
abbrev RY:=Int→Option ByteArray
noncomputable def E_impl_fourBytes (n_0:Int):Option ByteArray:=
 some (ofBytes [(w8 (Int.fdiv n_0 (2 ^ (Min.min (24:Int).toNat (IntKind.bits IntKind.u32))))),(w8 (Int.fdiv n_0 (2 ^ (Min.min (16:Int).toNat (IntKind.bits IntKind.u32))))),(w8 (Int.fdiv n_0 (2 ^ (Min.min (8:Int).toNat (IntKind.bits IntKind.u32))))),(w8 n_0)])
noncomputable def impl_fourBytes:RY:=E_impl_fourBytes
theorem Eh:Tells ctx PP 107 cv16 cv9 (fun a=>impl_fourBytes a):=fn_ok0 hl_nil Tryz.func107 (fun a=>by kernel_rfl:EntryIs0 ctx PP 107 [] [] cv16 cv9 fun a=>E_impl_fourBytes a)
noncomputable def MZ {γ:Type} (F:RY):Hd ctx γ:=hdl cv16.dec (fun a=>F a) cv9.enc
abbrev Xl:=Int→Option ByteArray
noncomputable def E_impl_eightBytes (z0:RY) (n_0:Int):Option ByteArray:=
 (z0 (w32 (Int.fdiv n_0 (2 ^ (Min.min (32:Int).toNat (IntKind.bits IntKind.i64)))))).bind fun r0=>
 (z0 (w32 n_0)).bind fun r1=>
 bif (decide ((r0.size+r1.size)≤9223372036854775807)) then
 some (r0++r1)
 else none
noncomputable def impl_eightBytes:Xl:=E_impl_eightBytes impl_fourBytes
theorem A8:Tells ctx PP 106 cv7 cv9 (fun a=>impl_eightBytes a):=fn_ok0 (hc Eh hl_nil) Tryz.func106 ((fun z0 a=>by kernel_rfl:∀ z0,EntryIs0 ctx PP 106 [] [(107,MZ z0)] cv7 cv9 fun a=>E_impl_eightBytes z0 a) impl_fourBytes)
noncomputable def D8 {γ:Type} (F:Xl):Hd ctx γ:=hdl cv7.dec (fun a=>F a) cv9.enc
abbrev Yl:=Int→Option ByteArray
noncomputable def E_impl_ending (z0:Ob) (z1:Xl) (count_0:Int):Option ByteArray:=
 (z0 ((w64 (119 - (count_0.tmod 64))).tmod 64)).bind fun r0=>
 bif (decide (((⟨#[128]⟩:ByteArray).size+r0.size)≤9223372036854775807)) then
 (z1 (w64 (8*count_0))).bind fun r1=>
 bif (decide ((((⟨#[128]⟩:ByteArray)++r0).size+r1.size)≤9223372036854775807)) then
 some (((⟨#[128]⟩:ByteArray)++r0)++r1)
 else none
 else none
noncomputable def impl_ending:Yl:=E_impl_ending impl_zeros impl_eightBytes
theorem E8:Tells ctx PP 61 cv7 cv9 (fun a=>impl_ending a):=fn_ok0 (hc Vl (hc A8 hl_nil)) Tryz.func61 ((fun z0 z1 a=>by kernel_rfl:∀ z0 z1,EntryIs0 ctx PP 61 [] [(68,Wl z0),(106,D8 z1)] cv7 cv9 fun a=>E_impl_ending z0 z1 a) impl_zeros impl_eightBytes)
noncomputable def F8 {γ:Type} (F:Yl):Hd ctx γ:=hdl cv7.dec (fun a=>F a) cv9.enc
abbrev Zl:=Int→Int→Option Int
noncomputable def E_math_bits_RotateLeft32 (x_0:Int) (k_1:Int):Option Int:=
 bif (decide (0≤(wu64 (32 - (wu64 (((BitVec.toNat ((BitVec.ofInt (IntKind.bits IntKind.u64) (wu64 k_1)) &&& (BitVec.ofInt (IntKind.bits IntKind.u64) 31))):Nat):Int)))))) then
 some (w32 (((BitVec.toNat ((BitVec.ofInt (IntKind.bits IntKind.u32) (w32 (x_0*(2 ^ (Min.min (wu64 (((BitVec.toNat ((BitVec.ofInt (IntKind.bits IntKind.u64) (wu64 k_1)) &&& (BitVec.ofInt (IntKind.bits IntKind.u64) 31))):Nat):Int)).toNat (IntKind.bits IntKind.u32)))))) ||| (BitVec.ofInt (IntKind.bits IntKind.u32) (Int.fdiv x_0 (2 ^ (Min.min (wu64 (32 - (wu64 (((BitVec.toNat ((BitVec.ofInt (IntKind.bits IntKind.u64) (wu64 k_1)) &&& (BitVec.ofInt (IntKind.bits IntKind.u64) 31))):Nat):Int)))).toNat (IntKind.bits IntKind.u32))))))):Nat):Int))
 else none
noncomputable def math_bits_RotateLeft32:Zl:=E_math_bits_RotateLeft32
theorem G8:Tells ctx PP 187 cv22 cv16 (fun a=>math_bits_RotateLeft32 a.1 a.2):=fn_ok0 hl_nil Tryz.func187 (fun a=>by kernel_rfl:EntryIs0 ctx PP 187 [] [] cv22 cv16 fun a=>E_math_bits_RotateLeft32 a.1 a.2)
noncomputable def H8 {γ:Type} (F:Zl):Hd ctx γ:=hdl cv22.dec (fun a=>F a.1 a.2) cv16.enc
abbrev NZ:=Int→Int→Option Int
noncomputable def E_impl_right (z0:Zl) (x_0:Int) (n_1:Int):Option Int:=
 (z0 x_0 (w64 (0 - n_1))).bind fun r0=>
 some r0
noncomputable def impl_right:NZ:=E_impl_right math_bits_RotateLeft32
theorem Qu:Tells ctx PP 149 cv22 cv16 (fun a=>impl_right a.1 a.2):=fn_ok0 (hc G8 hl_nil) Tryz.func149 ((fun z0 a=>by kernel_rfl:∀ z0,EntryIs0 ctx PP 149 [] [(187,H8 z0)] cv22 cv16 fun a=>E_impl_right z0 a.1 a.2) math_bits_RotateLeft32)
noncomputable def Fh {γ:Type} (F:NZ):Hd ctx γ:=hdl cv22.dec (fun a=>F a.1 a.2) cv16.enc
abbrev Gh:=ByteArray→Option (List Int)
inductive Qb where
 | c0 (block_0:ByteArray) (v_11:Int) (v_2r0:(List Int)) (w_3r0:(List Int))
 | c1 (block_0:ByteArray) (i_4:Int) (v_11:Int) (v_14:Int) (v_2r0:(List Int)) (w_3r0:(List Int))
 | c2 (t_6:Int) (v_2r0:(List Int)) (w_3r0:(List Int))
noncomputable def Ru:Qb→LI
 | .c0 block_0 v_11 v_2r0 w_3r0=>(tdo Tryz.f148 232,[(0,[.one (.str block_0)]),(2,[.one (.ptr 128 0)]),(3,[.one (.ptr 192 0)]),(11,[.one (.int .i64 v_11)])],[(128,.ar 109 v_2r0),(192,.ar 109 w_3r0)])
 | .c1 block_0 i_4 v_11 v_14 v_2r0 w_3r0=>(tdo Tryz.f148 59800,[(0,[.one (.str block_0)]),(2,[.one (.ptr 128 0)]),(3,[.one (.ptr 192 0)]),(4,[.one (.int .i64 i_4)]),(11,[.one (.int .i64 v_11)]),(14,[.one (.int .i64 v_14)])],[(128,.ar 109 v_2r0),(192,.ar 109 w_3r0)])
 | .c2 t_6 v_2r0 w_3r0=>(tdo Tryz.f148 976,[(2,[.one (.ptr 128 0)]),(3,[.one (.ptr 192 0)]),(6,[.one (.int .i64 t_6)])],[(128,.ar 109 v_2r0),(192,.ar 109 w_3r0)])
noncomputable def E_impl_wordsOf (z0:NZ) (k:Qb→Option (List Int)) (block_0:ByteArray):Option (List Int):=
 k (.c0 block_0 0 (List.replicate 64 (0:Int)) (List.replicate 64 (0:Int)))
noncomputable def B_impl_wordsOf (z0:NZ) (k:Qb→Option (List Int)):Qb→Option (List Int)
 | .c0 block_0 v_11 v_2r0 w_3r0=>
 bif (decide (v_11<16)) then
  k (.c1 block_0 v_11 v_11 0 v_2r0 w_3r0)
 else
  k (.c2 16 v_2r0 w_3r0)
 | .c1 block_0 i_4 v_11 v_14 v_2r0 w_3r0=>
 bif (decide (v_14<4)) then
  bif (Nat.beq 64 w_3r0.length) then
  bif ((decide (0≤i_4)) && (decide (i_4<(w_3r0.length:Int)))) then
  bif ((decide (0≤(w64 ((w64 (4*i_4))+v_14)))) && (decide ((w64 ((w64 (4*i_4))+v_14))<(block_0.size:Int)))) then
  bif (Nat.beq 64 w_3r0.length) then
  bif ((decide (0≤i_4)) && (decide (i_4<(w_3r0.length:Int)))) then
  k (.c1 block_0 i_4 v_11 (w64 (v_14+1)) v_2r0 (w_3r0.set i_4.toNat (w32 (((BitVec.toNat ((BitVec.ofInt (IntKind.bits IntKind.u32) (w32 ((w_3r0.getD i_4.toNat 0)*(2 ^ (Min.min (8:Int).toNat (IntKind.bits IntKind.u32)))))) ||| (BitVec.ofInt (IntKind.bits IntKind.u32) (w32 (bt block_0 (w64 ((w64 (4*i_4))+v_14))))))):Nat):Int))))
  else none
  else none
  else none
  else none
  else none
 else
  k (.c0 block_0 (w64 (v_11+1)) v_2r0 w_3r0)
 | .c2 t_6 v_2r0 w_3r0=>
 bif (decide (t_6<64)) then
  bif (Nat.beq 64 w_3r0.length) then
  bif ((decide (0≤(w64 (t_6 - 15)))) && (decide ((w64 (t_6 - 15))<(w_3r0.length:Int)))) then
  bif (Nat.beq 64 w_3r0.length) then
  bif ((decide (0≤(w64 (t_6 - 2)))) && (decide ((w64 (t_6 - 2))<(w_3r0.length:Int)))) then
  (z0 (w_3r0.getD (w64 (t_6 - 15)).toNat 0) 7).bind fun r0=>
  (z0 (w_3r0.getD (w64 (t_6 - 15)).toNat 0) 18).bind fun r1=>
  (z0 (w_3r0.getD (w64 (t_6 - 2)).toNat 0) 17).bind fun r2=>
  (z0 (w_3r0.getD (w64 (t_6 - 2)).toNat 0) 19).bind fun r3=>
  bif (Nat.beq 64 w_3r0.length) then
  bif ((decide (0≤(w64 (t_6 - 7)))) && (decide ((w64 (t_6 - 7))<(w_3r0.length:Int)))) then
  bif (Nat.beq 64 w_3r0.length) then
  bif ((decide (0≤(w64 (t_6 - 16)))) && (decide ((w64 (t_6 - 16))<(w_3r0.length:Int)))) then
  bif (Nat.beq 64 w_3r0.length) then
  bif ((decide (0≤t_6)) && (decide (t_6<(w_3r0.length:Int)))) then
  k (.c2 (w64 (t_6+1)) v_2r0 (w_3r0.set t_6.toNat (w32 ((w32 ((w32 ((w32 (((BitVec.toNat ((BitVec.ofInt (IntKind.bits IntKind.u32) (w32 (((BitVec.toNat ((BitVec.ofInt (IntKind.bits IntKind.u32) r2) ^^^ (BitVec.ofInt (IntKind.bits IntKind.u32) r3))):Nat):Int))) ^^^ (BitVec.ofInt (IntKind.bits IntKind.u32) (Int.fdiv (w_3r0.getD (w64 (t_6 - 2)).toNat 0) (2 ^ (Min.min (10:Int).toNat (IntKind.bits IntKind.u32))))))):Nat):Int))+(w_3r0.getD (w64 (t_6 - 7)).toNat 0)))+(w32 (((BitVec.toNat ((BitVec.ofInt (IntKind.bits IntKind.u32) (w32 (((BitVec.toNat ((BitVec.ofInt (IntKind.bits IntKind.u32) r0) ^^^ (BitVec.ofInt (IntKind.bits IntKind.u32) r1))):Nat):Int))) ^^^ (BitVec.ofInt (IntKind.bits IntKind.u32) (Int.fdiv (w_3r0.getD (w64 (t_6 - 15)).toNat 0) (2 ^ (Min.min (3:Int).toNat (IntKind.bits IntKind.u32))))))):Nat):Int))))+(w_3r0.getD (w64 (t_6 - 16)).toNat 0)))))
  else none
  else none
  else none
  else none
  else none
  else none
  else none
  else none
  else none
  else none
 else
  bif (Nat.beq 64 w_3r0.length) then
  bif ((Nat.beq w_3r0.length v_2r0.length) && (Nat.beq 64 w_3r0.length)) then
  bif ((Nat.beq 64 w_3r0.length) && true) then
  some w_3r0
  else none
  else none
  else none
noncomputable def L_impl_wordsOf:Nat→Qb→Option (List Int)
 | 0,_=>none
 | m+1,s=>B_impl_wordsOf impl_right (L_impl_wordsOf m) s
noncomputable def impl_wordsOf:Gh:=E_impl_wordsOf impl_right (L_impl_wordsOf gas)
theorem I8:Tells ctx PP 148 cv9 cv21 (fun a=>impl_wordsOf a):=
 have b:∀ z0,CutIs ctx PP 148 Tryz.f148 [] [(149,Fh z0)] cv21 Ru (B_impl_wordsOf z0):=fun z0 _ s=>by cases s <;> kernel_rfl
 have e:∀ z0,EntryIs ctx PP 148 [] [(149,Fh z0)] cv9 cv21 Ru (fun k a=>E_impl_wordsOf z0 k a):=fun z0 _ a=>by kernel_rfl
 fn_ok (hc Qu hl_nil) Tryz.func148 (fun s s' h=>by cases s <;> cases s' <;> first | (cases h;done) | (cases h;rfl) | exact (rg_ne h (by kernel_rfl)).elim) (fun _=>rfl) (fun _ _=>rfl) (b impl_right) (e impl_right) gas
noncomputable def Uu {γ:Type} (F:Gh):Hd ctx γ:=hdl cv9.dec (fun a=>F a) cv21.enc
abbrev Ih:=(List Int)→ByteArray→Option (List Int)
inductive Ub where
 | c0 (a_6:Int) (b_7:Int) (c_8:Int) (d_9:Int) (e_10:Int) (f_11:Int) (g_12:Int) (h_13:Int) (v_37:Int) (state_2r0:(List Int)) (v_4r0:(List Int)) (w_5r0:(List Int))
 | c1 (v_109:Int) (state_2r0:(List Int)) (v_4r0:(List Int)) (out_17r0:(List Int))
noncomputable def Vu:Ub→LI
 | .c0 a_6 b_7 c_8 d_9 e_10 f_11 g_12 h_13 v_37 state_2r0 v_4r0 w_5r0=>(tdo Tryz.f105 488,[(2,[.one (.ptr 128 0)]),(4,[.one (.ptr 256 0)]),(5,[.one (.ptr 320 0)]),(6,[.one (.int .u32 a_6)]),(7,[.one (.int .u32 b_7)]),(8,[.one (.int .u32 c_8)]),(9,[.one (.int .u32 d_9)]),(10,[.one (.int .u32 e_10)]),(11,[.one (.int .u32 f_11)]),(12,[.one (.int .u32 g_12)]),(13,[.one (.int .u32 h_13)]),(37,[.one (.int .i64 v_37)])],[(128,.ar 109 state_2r0),(256,.ar 109 v_4r0),(320,.ar 109 w_5r0)])
 | .c1 v_109 state_2r0 v_4r0 out_17r0=>(tdo Tryz.f105 2024,[(2,[.one (.ptr 128 0)]),(4,[.one (.ptr 256 0)]),(17,[.one (.ptr 1088 0)]),(109,[.one (.int .i64 v_109)])],[(128,.ar 109 state_2r0),(256,.ar 109 v_4r0),(1088,.ar 109 out_17r0)])
noncomputable def E_impl_oneBlock (z0:Gh) (z1:NZ) (k:Ub→Option (List Int)) (state_0:(List Int)) (block_1:ByteArray):Option (List Int):=
 (z0 block_1).bind fun r0=>
 bif ((Nat.beq r0.length (List.replicate 64 (0:Int)).length) && (Nat.beq 64 r0.length)) then
 bif (Nat.beq 8 state_0.length) then
 bif ((decide ((0:Int)≤(0:Int))) && (decide (0<(state_0.length:Int)))) then
 bif (Nat.beq 8 state_0.length) then
 bif ((decide ((0:Int)≤(1:Int))) && (decide (1<(state_0.length:Int)))) then
 bif (Nat.beq 8 state_0.length) then
 bif ((decide ((0:Int)≤(2:Int))) && (decide (2<(state_0.length:Int)))) then
 bif (Nat.beq 8 state_0.length) then
 bif ((decide ((0:Int)≤(3:Int))) && (decide (3<(state_0.length:Int)))) then
 bif (Nat.beq 8 state_0.length) then
 bif ((decide ((0:Int)≤(4:Int))) && (decide (4<(state_0.length:Int)))) then
 bif (Nat.beq 8 state_0.length) then
 bif ((decide ((0:Int)≤(5:Int))) && (decide (5<(state_0.length:Int)))) then
 bif (Nat.beq 8 state_0.length) then
 bif ((decide ((0:Int)≤(6:Int))) && (decide (6<(state_0.length:Int)))) then
 bif (Nat.beq 8 state_0.length) then
 bif ((decide ((0:Int)≤(7:Int))) && (decide (7<(state_0.length:Int)))) then
 k (.c0 (state_0.getD (0:Int).toNat 0) (state_0.getD (1:Int).toNat 0) (state_0.getD (2:Int).toNat 0) (state_0.getD (3:Int).toNat 0) (state_0.getD (4:Int).toNat 0) (state_0.getD (5:Int).toNat 0) (state_0.getD (6:Int).toNat 0) (state_0.getD (7:Int).toNat 0) 0 state_0 [0,0,0,0,0,0,0,0] r0)
 else none
 else none
 else none
 else none
 else none
 else none
 else none
 else none
 else none
 else none
 else none
 else none
 else none
 else none
 else none
 else none
 else none
noncomputable def B_impl_oneBlock (z0:Gh) (z1:NZ) (k:Ub→Option (List Int)):Ub→Option (List Int)
 | .c0 a_6 b_7 c_8 d_9 e_10 f_11 g_12 h_13 v_37 state_2r0 v_4r0 w_5r0=>
 bif (decide (v_37<64)) then
  (z1 e_10 6).bind fun r0=>
  (z1 e_10 11).bind fun r1=>
  (z1 e_10 25).bind fun r2=>
  bif ((decide (0≤v_37)) && (decide (v_37<((64:Nat):Int)))) then
  bif (Nat.blt v_37.toNat 64) then
  bif (Nat.beq 64 w_5r0.length) then
  bif ((decide (0≤v_37)) && (decide (v_37<(w_5r0.length:Int)))) then
  (z1 a_6 2).bind fun r3=>
  (z1 a_6 13).bind fun r4=>
  (z1 a_6 22).bind fun r5=>
  k (.c0 (w32 ((w32 ((w32 ((w32 ((w32 (h_13+(w32 (((BitVec.toNat ((BitVec.ofInt (IntKind.bits IntKind.u32) (w32 (((BitVec.toNat ((BitVec.ofInt (IntKind.bits IntKind.u32) r0) ^^^ (BitVec.ofInt (IntKind.bits IntKind.u32) r1))):Nat):Int))) ^^^ (BitVec.ofInt (IntKind.bits IntKind.u32) r2))):Nat):Int))))+(w32 (((BitVec.toNat ((BitVec.ofInt (IntKind.bits IntKind.u32) (w32 (((BitVec.toNat ((BitVec.ofInt (IntKind.bits IntKind.u32) e_10) &&& (BitVec.ofInt (IntKind.bits IntKind.u32) f_11))):Nat):Int))) ^^^ (BitVec.ofInt (IntKind.bits IntKind.u32) (w32 (((BitVec.toNat ((BitVec.ofInt (IntKind.bits IntKind.u32) (w32 (((BitVec.toNat ((BitVec.ofInt (IntKind.bits IntKind.u32) (ite ((IntKind.signed IntKind.u32)=true) (-(1:Int)) (IntKind.max IntKind.u32))) ^^^ (BitVec.ofInt (IntKind.bits IntKind.u32) e_10))):Nat):Int))) &&& (BitVec.ofInt (IntKind.bits IntKind.u32) g_12))):Nat):Int))))):Nat):Int))))+([(1116352408:Int),(1899447441:Int),(3049323471:Int),(3921009573:Int),(961987163:Int),(1508970993:Int),(2453635748:Int),(2870763221:Int),(3624381080:Int),(310598401:Int),(607225278:Int),(1426881987:Int),(1925078388:Int),(2162078206:Int),(2614888103:Int),(3248222580:Int),(3835390401:Int),(4022224774:Int),(264347078:Int),(604807628:Int),(770255983:Int),(1249150122:Int),(1555081692:Int),(1996064986:Int),(2554220882:Int),(2821834349:Int),(2952996808:Int),(3210313671:Int),(3336571891:Int),(3584528711:Int),(113926993:Int),(338241895:Int),(666307205:Int),(773529912:Int),(1294757372:Int),(1396182291:Int),(1695183700:Int),(1986661051:Int),(2177026350:Int),(2456956037:Int),(2730485921:Int),(2820302411:Int),(3259730800:Int),(3345764771:Int),(3516065817:Int),(3600352804:Int),(4094571909:Int),(275423344:Int),(430227734:Int),(506948616:Int),(659060556:Int),(883997877:Int),(958139571:Int),(1322822218:Int),(1537002063:Int),(1747873779:Int),(1955562222:Int),(2024104815:Int),(2227730452:Int),(2361852424:Int),(2428436474:Int),(2756734187:Int),(3204031479:Int),(3329325298:Int)].getD v_37.toNat 0)))+(w_5r0.getD v_37.toNat 0)))+(w32 ((w32 (((BitVec.toNat ((BitVec.ofInt (IntKind.bits IntKind.u32) (w32 (((BitVec.toNat ((BitVec.ofInt (IntKind.bits IntKind.u32) r3) ^^^ (BitVec.ofInt (IntKind.bits IntKind.u32) r4))):Nat):Int))) ^^^ (BitVec.ofInt (IntKind.bits IntKind.u32) r5))):Nat):Int))+(w32 (((BitVec.toNat ((BitVec.ofInt (IntKind.bits IntKind.u32) (w32 (((BitVec.toNat ((BitVec.ofInt (IntKind.bits IntKind.u32) (w32 (((BitVec.toNat ((BitVec.ofInt (IntKind.bits IntKind.u32) a_6) &&& (BitVec.ofInt (IntKind.bits IntKind.u32) b_7))):Nat):Int))) ^^^ (BitVec.ofInt (IntKind.bits IntKind.u32) (w32 (((BitVec.toNat ((BitVec.ofInt (IntKind.bits IntKind.u32) a_6) &&& (BitVec.ofInt (IntKind.bits IntKind.u32) c_8))):Nat):Int))))):Nat):Int))) ^^^ (BitVec.ofInt (IntKind.bits IntKind.u32) (w32 (((BitVec.toNat ((BitVec.ofInt (IntKind.bits IntKind.u32) b_7) &&& (BitVec.ofInt (IntKind.bits IntKind.u32) c_8))):Nat):Int))))):Nat):Int)))))) a_6 b_7 c_8 (w32 (d_9+(w32 ((w32 ((w32 ((w32 (h_13+(w32 (((BitVec.toNat ((BitVec.ofInt (IntKind.bits IntKind.u32) (w32 (((BitVec.toNat ((BitVec.ofInt (IntKind.bits IntKind.u32) r0) ^^^ (BitVec.ofInt (IntKind.bits IntKind.u32) r1))):Nat):Int))) ^^^ (BitVec.ofInt (IntKind.bits IntKind.u32) r2))):Nat):Int))))+(w32 (((BitVec.toNat ((BitVec.ofInt (IntKind.bits IntKind.u32) (w32 (((BitVec.toNat ((BitVec.ofInt (IntKind.bits IntKind.u32) e_10) &&& (BitVec.ofInt (IntKind.bits IntKind.u32) f_11))):Nat):Int))) ^^^ (BitVec.ofInt (IntKind.bits IntKind.u32) (w32 (((BitVec.toNat ((BitVec.ofInt (IntKind.bits IntKind.u32) (w32 (((BitVec.toNat ((BitVec.ofInt (IntKind.bits IntKind.u32) (ite ((IntKind.signed IntKind.u32)=true) (-(1:Int)) (IntKind.max IntKind.u32))) ^^^ (BitVec.ofInt (IntKind.bits IntKind.u32) e_10))):Nat):Int))) &&& (BitVec.ofInt (IntKind.bits IntKind.u32) g_12))):Nat):Int))))):Nat):Int))))+([(1116352408:Int),(1899447441:Int),(3049323471:Int),(3921009573:Int),(961987163:Int),(1508970993:Int),(2453635748:Int),(2870763221:Int),(3624381080:Int),(310598401:Int),(607225278:Int),(1426881987:Int),(1925078388:Int),(2162078206:Int),(2614888103:Int),(3248222580:Int),(3835390401:Int),(4022224774:Int),(264347078:Int),(604807628:Int),(770255983:Int),(1249150122:Int),(1555081692:Int),(1996064986:Int),(2554220882:Int),(2821834349:Int),(2952996808:Int),(3210313671:Int),(3336571891:Int),(3584528711:Int),(113926993:Int),(338241895:Int),(666307205:Int),(773529912:Int),(1294757372:Int),(1396182291:Int),(1695183700:Int),(1986661051:Int),(2177026350:Int),(2456956037:Int),(2730485921:Int),(2820302411:Int),(3259730800:Int),(3345764771:Int),(3516065817:Int),(3600352804:Int),(4094571909:Int),(275423344:Int),(430227734:Int),(506948616:Int),(659060556:Int),(883997877:Int),(958139571:Int),(1322822218:Int),(1537002063:Int),(1747873779:Int),(1955562222:Int),(2024104815:Int),(2227730452:Int),(2361852424:Int),(2428436474:Int),(2756734187:Int),(3204031479:Int),(3329325298:Int)].getD v_37.toNat 0)))+(w_5r0.getD v_37.toNat 0))))) e_10 f_11 g_12 (w64 (v_37+1)) state_2r0 v_4r0 w_5r0)
  else none
  else none
  else none
  else none
 else
  k (.c1 0 state_2r0 v_4r0 [a_6,b_7,c_8,d_9,e_10,f_11,g_12,h_13])
 | .c1 v_109 state_2r0 v_4r0 out_17r0=>
 bif (decide (v_109<8)) then
  bif (Nat.beq 8 out_17r0.length) then
  bif ((decide (0≤v_109)) && (decide (v_109<(out_17r0.length:Int)))) then
  bif (Nat.beq 8 state_2r0.length) then
  bif ((decide (0≤v_109)) && (decide (v_109<(state_2r0.length:Int)))) then
  bif (Nat.beq 8 out_17r0.length) then
  bif ((decide (0≤v_109)) && (decide (v_109<(out_17r0.length:Int)))) then
  k (.c1 (w64 (v_109+1)) state_2r0 v_4r0 (out_17r0.set v_109.toNat (w32 ((out_17r0.getD v_109.toNat 0)+(state_2r0.getD v_109.toNat 0)))))
  else none
  else none
  else none
  else none
  else none
  else none
 else
  bif (Nat.beq 8 out_17r0.length) then
  bif ((Nat.beq out_17r0.length v_4r0.length) && (Nat.beq 8 out_17r0.length)) then
  bif ((Nat.beq 8 out_17r0.length) && true) then
  some out_17r0
  else none
  else none
  else none
noncomputable def L_impl_oneBlock:Nat→Ub→Option (List Int)
 | 0,_=>none
 | m+1,s=>B_impl_oneBlock impl_wordsOf impl_right (L_impl_oneBlock m) s
noncomputable def impl_oneBlock:Ih:=E_impl_oneBlock impl_wordsOf impl_right (L_impl_oneBlock gas)
theorem J8:Tells ctx PP 105 cv23 cv21 (fun a=>impl_oneBlock a.1 a.2):=
 have b:∀ z0 z1,CutIs ctx PP 105 Tryz.f105 [] [(148,Uu z0),(149,Fh z1)] cv21 Vu (B_impl_oneBlock z0 z1):=fun z0 z1 _ s=>by cases s <;> kernel_rfl
 have e:∀ z0 z1,EntryIs ctx PP 105 [] [(148,Uu z0),(149,Fh z1)] cv23 cv21 Vu (fun k a=>E_impl_oneBlock z0 z1 k a.1 a.2):=fun z0 z1 _ a=>by kernel_rfl
 fn_ok (hc I8 (hc Qu hl_nil)) Tryz.func105 (fun s s' h=>by cases s <;> cases s' <;> first | (cases h;done) | (cases h;rfl) | exact (rg_ne h (by kernel_rfl)).elim) (fun _=>rfl) (fun _ _=>rfl) (b impl_wordsOf impl_right) (e impl_wordsOf impl_right) gas
noncomputable def Wu {γ:Type} (F:Ih):Hd ctx γ:=hdl cv23.dec (fun a=>F a.1 a.2) cv21.enc
abbrev Am:=(List Int)→ByteArray→Option ((List Int)×ByteArray)
inductive Vb where
 | c0 (s_1:ByteArray) (state_2r0:(List Int)) (v_4r0:(List Int))
noncomputable def Xu:Vb→LI
 | .c0 s_1 state_2r0 v_4r0=>(tdo Tryz.f59 96,[(1,[.one (.str s_1)]),(2,[.one (.ptr 128 0)]),(4,[.one (.ptr 256 0)])],[(128,.ar 109 state_2r0),(256,.ar 109 v_4r0)])
noncomputable def E_impl_blocks (z0:Ih) (k:Vb→Option ((List Int)×ByteArray)) (state_0:(List Int)) (s_1:ByteArray):Option ((List Int)×ByteArray):=
 k (.c0 s_1 state_0 [0,0,0,0,0,0,0,0])
noncomputable def B_impl_blocks (z0:Ih) (k:Vb→Option ((List Int)×ByteArray)):Vb→Option ((List Int)×ByteArray)
 | .c0 s_1 state_2r0 v_4r0=>
 bif (decide ((s_1.size:Int)≥64)) then
  bif (Nat.beq 8 state_2r0.length) then
  bif ((decide ((0:Int)≤(64:Int))) && (decide (64≤(s_1.size:Int)))) then
  (z0 state_2r0 (s_1.extract 0 (64:Int).toNat)).bind fun r0=>
  bif ((Nat.beq r0.length state_2r0.length) && (Nat.beq 8 r0.length)) then
  bif ((decide ((0:Int)≤(64:Int))) && (decide (64≤(s_1.size:Int)))) then
  k (.c0 (s_1.extract (64:Int).toNat s_1.size) r0 v_4r0)
  else none
  else none
  else none
  else none
 else
  bif (Nat.beq 8 state_2r0.length) then
  bif ((Nat.beq state_2r0.length v_4r0.length) && (Nat.beq 8 state_2r0.length)) then
  bif ((Nat.beq 8 state_2r0.length) && true) then
  some (state_2r0,s_1)
  else none
  else none
  else none
noncomputable def L_impl_blocks:Nat→Vb→Option ((List Int)×ByteArray)
 | 0,_=>none
 | m+1,s=>B_impl_blocks impl_oneBlock (L_impl_blocks m) s
noncomputable def impl_blocks:Am:=E_impl_blocks impl_oneBlock (L_impl_blocks gas)
theorem L8:Tells ctx PP 59 cv23 cv23 (fun a=>impl_blocks a.1 a.2):=
 have b:∀ z0,CutIs ctx PP 59 Tryz.f59 [] [(105,Wu z0)] cv23 Xu (B_impl_blocks z0):=fun z0 _ s=>by cases s <;> kernel_rfl
 have e:∀ z0,EntryIs ctx PP 59 [] [(105,Wu z0)] cv23 cv23 Xu (fun k a=>E_impl_blocks z0 k a.1 a.2):=fun z0 _ a=>by kernel_rfl
 fn_ok (hc J8 hl_nil) Tryz.func59 (fun s s' h=>by cases s;cases s';cases h;rfl) (fun _=>rfl) (fun _ _=>rfl) (b impl_oneBlock) (e impl_oneBlock) gas
noncomputable def N8 {γ:Type} (F:Am):Hd ctx γ:=hdl cv23.dec (fun a=>F a.1 a.2) cv23.enc
abbrev Cm:=(List Int)→Option ByteArray
inductive Xb where
 | c0 (out_3:ByteArray) (v_6:(List Int)) (v_7:Int)
noncomputable def Yu:Xb→LI
 | .c0 out_3 v_6 v_7=>(tdo Tryz.f62 232,[(3,[.one (.str out_3)]),(6,[.arr 109 v_6]),(7,[.one (.int .i64 v_7)])],[])
noncomputable def E_impl_stateText (z0:RY) (k:Xb→Option ByteArray) (state_0:(List Int)):Option ByteArray:=
 bif (Nat.beq 8 state_0.length) then
 k (.c0 ⟨#[]⟩ state_0 0)
 else none
noncomputable def B_impl_stateText (z0:RY) (k:Xb→Option ByteArray):Xb→Option ByteArray
 | .c0 out_3 v_6 v_7=>
 bif (decide (v_7<8)) then
  bif (Nat.beq 8 v_6.length) then
  bif ((decide (0≤v_7)) && (decide (v_7<(v_6.length:Int)))) then
  (z0 (v_6.getD v_7.toNat 0)).bind fun r0=>
  bif (decide ((out_3.size+r0.size)≤9223372036854775807)) then
  k (.c0 (out_3++r0) v_6 (w64 (v_7+1)))
  else none
  else none
  else none
 else
  some out_3
noncomputable def L_impl_stateText:Nat→Xb→Option ByteArray
 | 0,_=>none
 | m+1,s=>B_impl_stateText impl_fourBytes (L_impl_stateText m) s
noncomputable def impl_stateText:Cm:=E_impl_stateText impl_fourBytes (L_impl_stateText gas)
theorem O8:Tells ctx PP 62 cv21 cv9 (fun a=>impl_stateText a):=
 have b:∀ z0,CutIs ctx PP 62 Tryz.f62 [] [(107,MZ z0)] cv9 Yu (B_impl_stateText z0):=fun z0 _ s=>by cases s <;> kernel_rfl
 have e:∀ z0,EntryIs ctx PP 62 [] [(107,MZ z0)] cv21 cv9 Yu (fun k a=>E_impl_stateText z0 k a):=fun z0 _ a=>by kernel_rfl
 fn_ok (hc Eh hl_nil) Tryz.func62 (fun s s' h=>by cases s;cases s';cases h;rfl) (fun _=>rfl) (fun _ _=>rfl) (b impl_fourBytes) (e impl_fourBytes) gas
noncomputable def P8 {γ:Type} (F:Cm):Hd ctx γ:=hdl cv21.dec (fun a=>F a) cv9.enc
abbrev PY:=ByteArray→Option ByteArray
noncomputable def E_impl_DigestOf (z0:Ul) (z1:Yl) (z2:Am) (z3:Cm) (s_0:ByteArray):Option ByteArray:=
 z0.bind fun r0=>
 (z1 (s_0.size:Int)).bind fun r1=>
 bif (decide ((s_0.size+r1.size)≤9223372036854775807)) then
 (z2 r0 (s_0++r1)).bind fun r2=>
 bif ((Nat.beq r2.1.length 8) && (Nat.beq 8 r2.1.length)) then
 bif (Nat.beq 8 r2.1.length) then
 (z3 r2.1).bind fun r3=>
 some r3
 else none
 else none
 else none
noncomputable def impl_DigestOf:PY:=E_impl_DigestOf impl_firstState impl_ending impl_blocks impl_stateText
theorem GZ:Tells ctx PP 25 cv9 cv9 (fun a=>impl_DigestOf a):=fn_ok0 (hc Y7 (hc E8 (hc L8 (hc O8 hl_nil)))) Tryz.func25 ((fun z0 z1 z2 z3 a=>by kernel_rfl:∀ z0 z1 z2 z3,EntryIs0 ctx PP 25 [] [(60,Z7 z0),(61,F8 z1),(59,N8 z2),(62,P8 z3)] cv9 cv9 fun a=>E_impl_DigestOf z0 z1 z2 z3 a) impl_firstState impl_ending impl_blocks impl_stateText)
noncomputable def IZ {γ:Type} (F:PY):Hd ctx γ:=hdl cv9.dec (fun a=>F a) cv9.enc
abbrev VY:=Option SBook
noncomputable def E_impl_BookNew (z0:PY) (z1:Ob)  : Option SBook:=
 (z0 ⟨#[]⟩).bind fun r0=>
 (z1 32).bind fun r1=>
 some ⟨r0,0,[],0,r1,0⟩
noncomputable def impl_BookNew:VY:=E_impl_BookNew impl_DigestOf impl_zeros
theorem Ug:Tells ctx PP 32 cv10 cv24 (fun _=>impl_BookNew):=fn_ok0 (hc GZ (hc Vl hl_nil)) Tryz.func32 ((fun z0 z1 _=>by kernel_rfl:∀ z0 z1,EntryIs0 ctx PP 32 [] [(25,IZ z0),(68,Wl z1)] cv10 cv24 fun _=>E_impl_BookNew z0 z1) impl_DigestOf impl_zeros)
noncomputable def Oa {γ:Type} (F:VY):Hd ctx γ:=hdl cv10.dec (fun _=>F) cv24.enc
abbrev SY:=Int→Option ByteArray
inductive Yb where
 | c0 (n_0:Int) (out_3:(List Int))
noncomputable def Zu:Yb→LI
 | .c0 n_0 out_3=>(tdo Tryz.f132 224,[(0,[.one (.int .i64 n_0)]),(3,[.one (.own 240)])],[(240,.sl 5 out_3)])
noncomputable def Bv (k:Yb→Option ByteArray) (n_0:Int):Option ByteArray:=
 k (.c0 n_0 [])
noncomputable def B_impl_varText (k:Yb→Option ByteArray):Yb→Option ByteArray
 | .c0 n_0 out_3=>
 bif (decide (n_0 > 127)) then
  bif (decide (((out_3.length+1)*1)≤140737488355328)) then
  k (.c0 (w64 (n_0.tdiv 128)) (out_3++[(w8 (w64 (128+(n_0.tmod 128))))]))
  else none
 else
  bif (decide (((out_3.length+1)*1)≤140737488355328)) then
  some (ofBytes (out_3++[(w8 n_0)]))
  else none
noncomputable def L_impl_varText:Nat→Yb→Option ByteArray
 | 0,_=>none
 | m+1,s=>B_impl_varText (L_impl_varText m) s
noncomputable def impl_varText:SY:=Bv (L_impl_varText gas)
theorem OZ:Tells ctx PP 132 cv7 cv9 (fun a=>impl_varText a):=
 have b:CutIs ctx PP 132 Tryz.f132 [] [] cv9 Zu (B_impl_varText):=fun _ s=>by cases s <;> kernel_rfl
 have e:EntryIs ctx PP 132 [] [] cv7 cv9 Zu (fun k a=>Bv k a):=fun _ a=>by kernel_rfl
 fn_ok hl_nil Tryz.func132 (fun s s' h=>by cases s;cases s';cases h;rfl) (fun _=>rfl) (fun _ _=>rfl) b e gas
noncomputable def PZ {γ:Type} (F:SY):Hd ctx γ:=hdl cv7.dec (fun a=>F a) cv9.enc
abbrev TB:=Int→Int→Int→Option Bool
noncomputable def Dv (n_0:Int) (low_1:Int) (high_2:Int):Option Bool:=
 bif (decide (n_0≥low_1)) then
 some (decide (n_0≤high_2))
 else
 some false
noncomputable def impl_in:TB:=Dv
theorem FN:Tells ctx PP 47 cv14 cv1 (fun a=>impl_in a.1 a.2.1 a.2.2):=fn_ok0 hl_nil Tryz.func47 (fun a=>by kernel_rfl:EntryIs0 ctx PP 47 [] [] cv14 cv1 fun a=>Dv a.1 a.2.1 a.2.2)
noncomputable def IK {γ:Type} (F:TB):Hd ctx γ:=hdl cv14.dec (fun a=>F a.1 a.2.1 a.2.2) cv1.enc
abbrev Zb:=SThing→Option Bool
noncomputable def E_impl_ThingOk (z0:TB) (x_0:SThing):Option Bool:=
 (z0 x_0.fId 1 1000).bind fun r0=>
 bif (!r0) then
 some false
 else
 (z0 x_0.fNext 0 16).bind fun r1=>
 bif (!r1) then
  some false
 else
  bif (x_0.fKind != 2) then
  bif (x_0.fNext != 0) then
   some false
  else
   bif x_0.fSigns then
   some false
   else
   bif (x_0.fKind != 1) then
    bif x_0.fWraps then
    some false
    else
    bif (x_0.fKind == 1) then
     bif (x_0.fKind == 1) then
     some ((x_0.fValue.size:Int) == 32)
     else
     bif (x_0.fKind == 3) then
      some (decide ((x_0.fValue.size:Int)≤100))
     else
      some false
    else
     bif (x_0.fKind == 2) then
     some ((x_0.fValue.size:Int) == 32)
     else
     bif (x_0.fKind == 3) then
      some (decide ((x_0.fValue.size:Int)≤100))
     else
      some false
   else
    bif (x_0.fKind == 1) then
    bif (x_0.fKind == 1) then
     some ((x_0.fValue.size:Int) == 32)
    else
     bif (x_0.fKind == 3) then
     some (decide ((x_0.fValue.size:Int)≤100))
     else
     some false
    else
    bif (x_0.fKind == 2) then
     some ((x_0.fValue.size:Int) == 32)
    else
     bif (x_0.fKind == 3) then
     some (decide ((x_0.fValue.size:Int)≤100))
     else
     some false
  else
  bif (x_0.fKind != 1) then
   bif x_0.fWraps then
   some false
   else
   bif (x_0.fKind == 1) then
    bif (x_0.fKind == 1) then
    some ((x_0.fValue.size:Int) == 32)
    else
    bif (x_0.fKind == 3) then
     some (decide ((x_0.fValue.size:Int)≤100))
    else
     some false
   else
    bif (x_0.fKind == 2) then
    some ((x_0.fValue.size:Int) == 32)
    else
    bif (x_0.fKind == 3) then
     some (decide ((x_0.fValue.size:Int)≤100))
    else
     some false
  else
   bif (x_0.fKind == 1) then
   bif (x_0.fKind == 1) then
    some ((x_0.fValue.size:Int) == 32)
   else
    bif (x_0.fKind == 3) then
    some (decide ((x_0.fValue.size:Int)≤100))
    else
    some false
   else
   bif (x_0.fKind == 2) then
    some ((x_0.fValue.size:Int) == 32)
   else
    bif (x_0.fKind == 3) then
    some (decide ((x_0.fValue.size:Int)≤100))
    else
    some false
noncomputable def impl_ThingOk:Zb:=E_impl_ThingOk impl_in
theorem Fv:Tells ctx PP 101 cv25 cv1 (fun a=>impl_ThingOk a):=fn_ok0 (hc FN hl_nil) Tryz.func101 ((fun z0 a=>by kernel_rfl:∀ z0,EntryIs0 ctx PP 101 [] [(47,IK z0)] cv25 cv1 fun a=>E_impl_ThingOk z0 a) impl_in)
noncomputable def Em {γ:Type} (F:Zb):Hd ctx γ:=hdl cv25.dec (fun a=>F a) cv1.enc
abbrev QZ:=Int→Option ByteArray
noncomputable def E_impl_oneByte (n_0:Int):Option ByteArray:=
 some (ofBytes [(w8 n_0)])
noncomputable def impl_oneByte:QZ:=E_impl_oneByte
theorem Gm:Tells ctx PP 133 cv7 cv9 (fun a=>impl_oneByte a):=fn_ok0 hl_nil Tryz.func133 (fun a=>by kernel_rfl:EntryIs0 ctx PP 133 [] [] cv7 cv9 fun a=>E_impl_oneByte a)
noncomputable def Jh {γ:Type} (F:QZ):Hd ctx γ:=hdl cv7.dec (fun a=>F a) cv9.enc
abbrev Jm:=SThing→Option Int
inductive Ac where
 | c0 (n_3:Int) (v_15:Int) (v_16:Int) (v_14:(List Bool))
noncomputable def Gv:Ac→LI
 | .c0 n_3 v_15 v_16 v_14=>(tdo Tryz.f134 232,[(3,[.one (.int .i64 n_3)]),(14,[.one (.own 944)]),(15,[.one (.int .i64 v_15)]),(16,[.one (.int .i64 v_16)])],[(944,.sl 4 v_14)])
noncomputable def E_impl_flags (k:Ac→Option Int) (x_0:SThing):Option Int:=
 k (.c0 0 ((4:Nat):Int) 0 [x_0.fHidden,x_0.fFixed,x_0.fSigns,x_0.fWraps])
noncomputable def Jv (k:Ac→Option Int):Ac→Option Int
 | .c0 n_3 v_15 v_16 v_14=>
 bif (decide (v_16<v_15)) then
  bif ((decide (0≤v_16)) && (decide (v_16<(v_14.length:Int)))) then
  bif (v_14.getD v_16.toNat false) then
  bif (decide (0≤v_16)) then
  k (.c0 (w64 (((BitVec.toNat ((BitVec.ofInt (IntKind.bits IntKind.i64) n_3) ||| (BitVec.ofInt (IntKind.bits IntKind.i64) (w64 (1*(2 ^ (Min.min v_16.toNat (IntKind.bits IntKind.i64)))))))):Nat):Int)) v_15 (w64 (v_16+1)) v_14)
  else none
  else
  k (.c0 n_3 v_15 (w64 (v_16+1)) v_14)
  else none
 else
  some n_3
noncomputable def L_impl_flags:Nat→Ac→Option Int
 | 0,_=>none
 | m+1,s=>Jv (L_impl_flags m) s
noncomputable def impl_flags:Jm:=E_impl_flags (L_impl_flags gas)
theorem Q8:Tells ctx PP 134 cv25 cv7 (fun a=>impl_flags a):=
 have b:CutIs ctx PP 134 Tryz.f134 [] [] cv7 Gv (Jv):=fun _ s=>by cases s <;> kernel_rfl
 have e:EntryIs ctx PP 134 [] [] cv25 cv7 Gv (fun k a=>E_impl_flags k a):=fun _ a=>by kernel_rfl
 fn_ok hl_nil Tryz.func134 (fun s s' h=>by cases s;cases s';cases h;rfl) (fun _=>rfl) (fun _ _=>rfl) b e gas
noncomputable def U8 {γ:Type} (F:Jm):Hd ctx γ:=hdl cv25.dec (fun a=>F a) cv7.enc
abbrev Lm:=ByteArray→Option ByteArray
noncomputable def E_impl_shortText (z0:SY) (s_0:ByteArray):Option ByteArray:=
 (z0 (s_0.size:Int)).bind fun r0=>
 bif (decide ((r0.size+s_0.size)≤9223372036854775807)) then
 some (r0++s_0)
 else none
noncomputable def impl_shortText:Lm:=E_impl_shortText impl_varText
theorem V8:Tells ctx PP 135 cv9 cv9 (fun a=>impl_shortText a):=fn_ok0 (hc OZ hl_nil) Tryz.func135 ((fun z0 a=>by kernel_rfl:∀ z0,EntryIs0 ctx PP 135 [] [(132,PZ z0)] cv9 cv9 fun a=>E_impl_shortText z0 a) impl_varText)
noncomputable def X8 {γ:Type} (F:Lm):Hd ctx γ:=hdl cv9.dec (fun a=>F a) cv9.enc
abbrev Lh:=SThing→Option (ByteArray×Bool)
noncomputable def E_impl_ThingText (z0:Zb) (z1:SY) (z2:QZ) (z3:Jm) (z4:Lm) (x_0:SThing):Option (ByteArray×Bool):=
 (z0 x_0).bind fun r0=>
 bif (!r0) then
 some (⟨#[]⟩,false)
 else
 (z1 x_0.fId).bind fun r1=>
 (z2 x_0.fKind).bind fun r2=>
 bif (decide ((r1.size+r2.size)≤9223372036854775807)) then
 (z3 x_0).bind fun r3=>
 (z2 r3).bind fun r4=>
 bif (decide (((r1++r2).size+r4.size)≤9223372036854775807)) then
 (z4 x_0.fValue).bind fun r5=>
 bif (decide ((((r1++r2)++r4).size+r5.size)≤9223372036854775807)) then
 (z1 x_0.fNext).bind fun r6=>
 bif (decide (((((r1++r2)++r4)++r5).size+r6.size)≤9223372036854775807)) then
 some (((((r1++r2)++r4)++r5)++r6),true)
 else none
 else none
 else none
 else none
noncomputable def impl_ThingText:Lh:=E_impl_ThingText impl_ThingOk impl_varText impl_oneByte impl_flags impl_shortText
theorem Kv:Tells ctx PP 90 cv25 cv26 (fun a=>impl_ThingText a):=fn_ok0 (hc Fv (hc OZ (hc Gm (hc Q8 (hc V8 hl_nil))))) Tryz.func90 ((fun z0 z1 z2 z3 z4 a=>by kernel_rfl:∀ z0 z1 z2 z3 z4,EntryIs0 ctx PP 90 [] [(101,Em z0),(132,PZ z1),(133,Jh z2),(134,U8 z3),(135,X8 z4)] cv25 cv26 fun a=>E_impl_ThingText z0 z1 z2 z3 z4 a) impl_ThingOk impl_varText impl_oneByte impl_flags impl_shortText)
noncomputable def Nv {γ:Type} (F:Lh):Hd ctx γ:=hdl cv25.dec (fun a=>F a) cv26.enc
abbrev Bc:=SRec→Option (ByteArray×Bool)
noncomputable def E_impl_RecText (z0:SY) (z1:TB) (z2:Lh) (z3:QZ) (r_0:SRec):Option (ByteArray×Bool):=
 bif (r_0.fKind == 1) then
 bif (!((r_0.fText.size:Int) == 32)) then
  some (⟨#[]⟩,false)
 else
  bif (!((r_0.fKind == r_0.fKind) && (((ByteArray.toList r_0.fText) == (ByteArray.toList r_0.fText)) && ((r_0.fNum == 0) && (((r_0.fThing.fId == 0) && ((r_0.fThing.fKind == 0) && ((r_0.fThing.fHidden == false) && ((r_0.fThing.fFixed == false) && ((r_0.fThing.fSigns == false) && ((r_0.fThing.fWraps == false) && (((ByteArray.toList r_0.fThing.fValue) == (ByteArray.toList ⟨#[]⟩)) && ((r_0.fThing.fNext == 0) && true)))))))) && true))))) then
  some (⟨#[]⟩,false)
  else
  (z3 r_0.fKind).bind fun r0=>
  bif (decide ((r0.size+r_0.fText.size)≤9223372036854775807)) then
  some ((r0++r_0.fText),true)
  else none
 else
 bif (r_0.fKind == 2) then
  (z0 r_0.fNum).bind fun r1=>
  (z1 r_0.fNum 0 3).bind fun r2=>
  bif (!r2) then
  some (⟨#[]⟩,false)
  else
  bif (!((r_0.fKind == r_0.fKind) && (((ByteArray.toList r_0.fText) == (ByteArray.toList ⟨#[]⟩)) && ((r_0.fNum == r_0.fNum) && (((r_0.fThing.fId == 0) && ((r_0.fThing.fKind == 0) && ((r_0.fThing.fHidden == false) && ((r_0.fThing.fFixed == false) && ((r_0.fThing.fSigns == false) && ((r_0.fThing.fWraps == false) && (((ByteArray.toList r_0.fThing.fValue) == (ByteArray.toList ⟨#[]⟩)) && ((r_0.fThing.fNext == 0) && true)))))))) && true))))) then
   some (⟨#[]⟩,false)
  else
   (z3 r_0.fKind).bind fun r3=>
   bif (decide ((r3.size+r1.size)≤9223372036854775807)) then
   some ((r3++r1),true)
   else none
 else
  bif (r_0.fKind == 3) then
  (z2 r_0.fThing).bind fun r4=>
  bif (!r4.2) then
   some (⟨#[]⟩,false)
  else
   bif (!((r_0.fKind == r_0.fKind) && (((ByteArray.toList r_0.fText) == (ByteArray.toList ⟨#[]⟩)) && ((r_0.fNum == 0) && (((r_0.fThing.fId == r_0.fThing.fId) && ((r_0.fThing.fKind == r_0.fThing.fKind) && ((r_0.fThing.fHidden == r_0.fThing.fHidden) && ((r_0.fThing.fFixed == r_0.fThing.fFixed) && ((r_0.fThing.fSigns == r_0.fThing.fSigns) && ((r_0.fThing.fWraps == r_0.fThing.fWraps) && (((ByteArray.toList r_0.fThing.fValue) == (ByteArray.toList r_0.fThing.fValue)) && ((r_0.fThing.fNext == r_0.fThing.fNext) && true)))))))) && true))))) then
   some (⟨#[]⟩,false)
   else
   (z3 r_0.fKind).bind fun r5=>
   bif (decide ((r5.size+r4.1.size)≤9223372036854775807)) then
   some ((r5++r4.1),true)
   else none
  else
  bif (r_0.fKind == 4) then
   (z0 r_0.fNum).bind fun r6=>
   (z1 r_0.fNum 1 1000).bind fun r7=>
   bif (!r7) then
   some (⟨#[]⟩,false)
   else
   bif (!((r_0.fKind == r_0.fKind) && (((ByteArray.toList r_0.fText) == (ByteArray.toList ⟨#[]⟩)) && ((r_0.fNum == r_0.fNum) && (((r_0.fThing.fId == 0) && ((r_0.fThing.fKind == 0) && ((r_0.fThing.fHidden == false) && ((r_0.fThing.fFixed == false) && ((r_0.fThing.fSigns == false) && ((r_0.fThing.fWraps == false) && (((ByteArray.toList r_0.fThing.fValue) == (ByteArray.toList ⟨#[]⟩)) && ((r_0.fThing.fNext == 0) && true)))))))) && true))))) then
    some (⟨#[]⟩,false)
   else
    (z3 r_0.fKind).bind fun r8=>
    bif (decide ((r8.size+r6.size)≤9223372036854775807)) then
    some ((r8++r6),true)
    else none
  else
   some (⟨#[]⟩,false)
noncomputable def impl_RecText:Bc:=E_impl_RecText impl_varText impl_in impl_ThingText impl_oneByte
theorem Om:Tells ctx PP 112 cv27 cv26 (fun a=>impl_RecText a):=fn_ok0 (hc OZ (hc FN (hc Kv (hc Gm hl_nil)))) Tryz.func112 ((fun z0 z1 z2 z3 a=>by kernel_rfl:∀ z0 z1 z2 z3,EntryIs0 ctx PP 112 [] [(132,PZ z0),(47,IK z1),(90,Nv z2),(133,Jh z3)] cv27 cv26 fun a=>E_impl_RecText z0 z1 z2 z3 a) impl_varText impl_in impl_ThingText impl_oneByte)
noncomputable def Pm {γ:Type} (F:Bc):Hd ctx γ:=hdl cv27.dec (fun a=>F a) cv26.enc
abbrev Nh:=Int→Option (ByteArray×Bool)
noncomputable def E_impl_VarText (z0:TB) (z1:SY) (n_0:Int):Option (ByteArray×Bool):=
 (z0 n_0 0 1000000000).bind fun r0=>
 bif (!r0) then
 some (⟨#[]⟩,false)
 else
 (z1 n_0).bind fun r1=>
 some (r1,true)
noncomputable def impl_VarText:Nh:=E_impl_VarText impl_in impl_varText
theorem Y8:Tells ctx PP 188 cv7 cv26 (fun a=>impl_VarText a):=fn_ok0 (hc FN (hc OZ hl_nil)) Tryz.func188 ((fun z0 z1 a=>by kernel_rfl:∀ z0 z1,EntryIs0 ctx PP 188 [] [(47,IK z0),(132,PZ z1)] cv7 cv26 fun a=>E_impl_VarText z0 z1 a) impl_in impl_varText)
noncomputable def Ov {γ:Type} (F:Nh):Hd ctx γ:=hdl cv7.dec (fun a=>F a) cv26.enc
abbrev Qm:=ByteArray→Int→Option ByteArray
inductive Cc where
 | c0 (x_1:Int) (v_10:Int) (v_11:Int) (out_5:(List Int))
noncomputable def Pv:Cc→LI
 | .c0 x_1 v_10 v_11 out_5=>(tdo Tryz.f218 232,[(1,[.one (.int .u8 x_1)]),(5,[.one (.own 368)]),(10,[.one (.int .i64 v_10)]),(11,[.one (.int .i64 v_11)])],[(368,.sl 5 out_5)])
noncomputable def E_impl_xored (k:Cc→Option ByteArray) (s_0:ByteArray) (x_1:Int):Option ByteArray:=
 bif (decide (s_0.size≤9223372036854775807)) then
 k (.c0 x_1 ((bytesOf s_0).length:Int) 0 (bytesOf s_0))
 else none
noncomputable def B_impl_xored (k:Cc→Option ByteArray):Cc→Option ByteArray
 | .c0 x_1 v_10 v_11 out_5=>
 bif (decide (v_11<v_10)) then
  bif ((decide (0≤v_11)) && (decide (v_11<(out_5.length:Int)))) then
  bif ((decide (0≤v_11)) && (decide (v_11<(out_5.length:Int)))) then
  k (.c0 x_1 v_10 (w64 (v_11+1)) (out_5.set v_11.toNat (w8 (((BitVec.toNat ((BitVec.ofInt (IntKind.bits IntKind.u8) (out_5.getD v_11.toNat 0)) ^^^ (BitVec.ofInt (IntKind.bits IntKind.u8) x_1))):Nat):Int))))
  else none
  else none
 else
  some (ofBytes out_5)
noncomputable def L_impl_xored:Nat→Cc→Option ByteArray
 | 0,_=>none
 | m+1,s=>B_impl_xored (L_impl_xored m) s
noncomputable def impl_xored:Qm:=E_impl_xored (L_impl_xored gas)
theorem Z8:Tells ctx PP 218 cv28 cv9 (fun a=>impl_xored a.1 a.2):=
 have b:CutIs ctx PP 218 Tryz.f218 [] [] cv9 Pv (B_impl_xored):=fun _ s=>by cases s <;> kernel_rfl
 have e:EntryIs ctx PP 218 [] [] cv28 cv9 Pv (fun k a=>E_impl_xored k a.1 a.2):=fun _ a=>by kernel_rfl
 fn_ok hl_nil Tryz.func218 (fun s s' h=>by cases s;cases s';cases h;rfl) (fun _=>rfl) (fun _ _=>rfl) b e gas
noncomputable def C9 {γ:Type} (F:Qm):Hd ctx γ:=hdl cv28.dec (fun a=>F a.1 a.2) cv9.enc
abbrev Dc:=ByteArray→ByteArray→Option ByteArray
noncomputable def E_impl_MacOf (z0:PY) (z1:Ob) (z2:Qm) (key_0:ByteArray) (s_1:ByteArray):Option ByteArray:=
 bif (decide ((key_0.size:Int) > 64)) then
 (z0 key_0).bind fun r0=>
 (z1 (w64 (64 - (r0.size:Int)))).bind fun r1=>
 bif (decide ((r0.size+r1.size)≤9223372036854775807)) then
 (z2 (r0++r1) 92).bind fun r2=>
 (z2 (r0++r1) 54).bind fun r3=>
 bif (decide ((r3.size+s_1.size)≤9223372036854775807)) then
 (z0 (r3++s_1)).bind fun r4=>
 bif (decide ((r2.size+r4.size)≤9223372036854775807)) then
 (z0 (r2++r4)).bind fun r5=>
 some r5
 else none
 else none
 else none
 else
 (z1 (w64 (64 - (key_0.size:Int)))).bind fun r6=>
 bif (decide ((key_0.size+r6.size)≤9223372036854775807)) then
 (z2 (key_0++r6) 92).bind fun r7=>
 (z2 (key_0++r6) 54).bind fun r8=>
 bif (decide ((r8.size+s_1.size)≤9223372036854775807)) then
 (z0 (r8++s_1)).bind fun r9=>
 bif (decide ((r7.size+r9.size)≤9223372036854775807)) then
 (z0 (r7++r9)).bind fun r10=>
 some r10
 else none
 else none
 else none
noncomputable def impl_MacOf:Dc:=E_impl_MacOf impl_DigestOf impl_zeros impl_xored
theorem Qv:Tells ctx PP 189 cv29 cv9 (fun a=>impl_MacOf a.1 a.2):=fn_ok0 (hc GZ (hc Vl (hc Z8 hl_nil))) Tryz.func189 ((fun z0 z1 z2 a=>by kernel_rfl:∀ z0 z1 z2,EntryIs0 ctx PP 189 [] [(25,IZ z0),(68,Wl z1),(218,C9 z2)] cv29 cv9 fun a=>E_impl_MacOf z0 z1 z2 a.1 a.2) impl_DigestOf impl_zeros impl_xored)
noncomputable def Sm {γ:Type} (F:Dc):Hd ctx γ:=hdl cv29.dec (fun a=>F a.1 a.2) cv9.enc
abbrev Oh:=ByteArray→Int→Int→Option (ByteArray×Bool)
inductive Ic where
 | c0 (key_0:ByteArray) (n_2:Int) (v_8:ByteArray) (out_10:ByteArray) (i_11:Int)
noncomputable def Sv:Ic→LI
 | .c0 key_0 n_2 v_8 out_10 i_11=>(tdo Tryz.f151 2000,[(0,[.one (.str key_0)]),(2,[.one (.int .i64 n_2)]),(8,[.one (.str v_8)]),(10,[.one (.str out_10)]),(11,[.one (.int .i64 i_11)])],[])
noncomputable def E_impl_Mask (z0:Nh) (z1:TB) (z2:QZ) (z3:Dc) (k:Ic→Option (ByteArray×Bool)) (key_0:ByteArray) (num_1:Int) (n_2:Int):Option (ByteArray×Bool):=
 (z0 num_1).bind fun r0=>
 bif (!r0.2) then
 some (⟨#[]⟩,false)
 else
 (z1 n_2 0 8000).bind fun r1=>
 bif (!r1) then
  some (⟨#[]⟩,false)
 else
  k (.c0 key_0 n_2 r0.1 ⟨#[]⟩ 0)
noncomputable def B_impl_Mask (z0:Nh) (z1:TB) (z2:QZ) (z3:Dc) (k:Ic→Option (ByteArray×Bool)):Ic→Option (ByteArray×Bool)
 | .c0 key_0 n_2 v_8 out_10 i_11=>
 bif (decide ((out_10.size:Int)<n_2)) then
  bif (decide (((⟨#[109]⟩:ByteArray).size+v_8.size)≤9223372036854775807)) then
  (z2 i_11).bind fun r0=>
  bif (decide ((((⟨#[109]⟩:ByteArray)++v_8).size+r0.size)≤9223372036854775807)) then
  (z3 key_0 (((⟨#[109]⟩:ByteArray)++v_8)++r0)).bind fun r1=>
  bif (decide ((out_10.size+r1.size)≤9223372036854775807)) then
  k (.c0 key_0 n_2 v_8 (out_10++r1) (w64 (i_11+1)))
  else none
  else none
  else none
 else
  bif ((decide (0≤n_2)) && (decide (n_2≤(out_10.size:Int)))) then
  some ((out_10.extract 0 n_2.toNat),true)
  else none
noncomputable def L_impl_Mask:Nat→Ic→Option (ByteArray×Bool)
 | 0,_=>none
 | m+1,s=>B_impl_Mask impl_VarText impl_in impl_oneByte impl_MacOf (L_impl_Mask m) s
noncomputable def impl_Mask:Oh:=E_impl_Mask impl_VarText impl_in impl_oneByte impl_MacOf (L_impl_Mask gas)
theorem Tv:Tells ctx PP 151 cv30 cv26 (fun a=>impl_Mask a.1 a.2.1 a.2.2):=
 have b:∀ z0 z1 z2 z3,CutIs ctx PP 151 Tryz.f151 [] [(188,Ov z0),(47,IK z1),(133,Jh z2),(189,Sm z3)] cv26 Sv (B_impl_Mask z0 z1 z2 z3):=fun z0 z1 z2 z3 _ s=>by cases s <;> kernel_rfl
 have e:∀ z0 z1 z2 z3,EntryIs ctx PP 151 [] [(188,Ov z0),(47,IK z1),(133,Jh z2),(189,Sm z3)] cv30 cv26 Sv (fun k a=>E_impl_Mask z0 z1 z2 z3 k a.1 a.2.1 a.2.2):=fun z0 z1 z2 z3 _ a=>by kernel_rfl
 fn_ok (hc Y8 (hc FN (hc Gm (hc Qv hl_nil)))) Tryz.func151 (fun s s' h=>by cases s;cases s';cases h;rfl) (fun _=>rfl) (fun _ _=>rfl) (b impl_VarText impl_in impl_oneByte impl_MacOf) (e impl_VarText impl_in impl_oneByte impl_MacOf) gas
noncomputable def Wv {γ:Type} (F:Oh):Hd ctx γ:=hdl cv30.dec (fun a=>F a.1 a.2.1 a.2.2) cv26.enc
abbrev Ph:=ByteArray→ByteArray→Option ByteArray
inductive Jc where
 | c0 (b_1:ByteArray) (v_10:Int) (v_11:Int) (out_5:(List Int))
noncomputable def Xv:Jc→LI
 | .c0 b_1 v_10 v_11 out_5=>(tdo Tryz.f152 232,[(1,[.one (.str b_1)]),(5,[.one (.own 368)]),(10,[.one (.int .i64 v_10)]),(11,[.one (.int .i64 v_11)])],[(368,.sl 5 out_5)])
noncomputable def E_impl_both (k:Jc→Option ByteArray) (a_0:ByteArray) (b_1:ByteArray):Option ByteArray:=
 bif (decide (a_0.size≤9223372036854775807)) then
 k (.c0 b_1 ((bytesOf a_0).length:Int) 0 (bytesOf a_0))
 else none
noncomputable def B_impl_both (k:Jc→Option ByteArray):Jc→Option ByteArray
 | .c0 b_1 v_10 v_11 out_5=>
 bif (decide (v_11<v_10)) then
  bif ((decide (0≤v_11)) && (decide (v_11<(out_5.length:Int)))) then
  bif ((decide (0≤v_11)) && (decide (v_11<(b_1.size:Int)))) then
  bif ((decide (0≤v_11)) && (decide (v_11<(out_5.length:Int)))) then
  k (.c0 b_1 v_10 (w64 (v_11+1)) (out_5.set v_11.toNat (w8 (((BitVec.toNat ((BitVec.ofInt (IntKind.bits IntKind.u8) (out_5.getD v_11.toNat 0)) ^^^ (BitVec.ofInt (IntKind.bits IntKind.u8) (bt b_1 v_11)))):Nat):Int))))
  else none
  else none
  else none
 else
  some (ofBytes out_5)
noncomputable def L_impl_both:Nat→Jc→Option ByteArray
 | 0,_=>none
 | m+1,s=>B_impl_both (L_impl_both m) s
noncomputable def impl_both:Ph:=E_impl_both (L_impl_both gas)
theorem Yv:Tells ctx PP 152 cv29 cv9 (fun a=>impl_both a.1 a.2):=
 have b:CutIs ctx PP 152 Tryz.f152 [] [] cv9 Xv (B_impl_both):=fun _ s=>by cases s <;> kernel_rfl
 have e:EntryIs ctx PP 152 [] [] cv29 cv9 Xv (fun k a=>E_impl_both k a.1 a.2):=fun _ a=>by kernel_rfl
 fn_ok hl_nil Tryz.func152 (fun s s' h=>by cases s;cases s';cases h;rfl) (fun _=>rfl) (fun _ _=>rfl) b e gas
noncomputable def Zv {γ:Type} (F:Ph):Hd ctx γ:=hdl cv29.dec (fun a=>F a.1 a.2) cv9.enc
abbrev Qh:=ByteArray→Int→ByteArray→Option ByteArray
noncomputable def E_impl_tag (z0:SY) (z1:Dc) (key_0:ByteArray) (num_1:Int) (s_2:ByteArray):Option ByteArray:=
 (z0 num_1).bind fun r0=>
 bif (decide (((⟨#[116]⟩:ByteArray).size+r0.size)≤9223372036854775807)) then
 bif (decide ((((⟨#[116]⟩:ByteArray)++r0).size+s_2.size)≤9223372036854775807)) then
 (z1 key_0 (((⟨#[116]⟩:ByteArray)++r0)++s_2)).bind fun r1=>
 bif ((decide ((0:Int)≤(16:Int))) && (decide (16≤(r1.size:Int)))) then
 some (r1.extract 0 (16:Int).toNat)
 else none
 else none
 else none
noncomputable def impl_tag:Qh:=E_impl_tag impl_varText impl_MacOf
theorem Aw:Tells ctx PP 153 cv31 cv9 (fun a=>impl_tag a.1 a.2.1 a.2.2):=fn_ok0 (hc OZ (hc Qv hl_nil)) Tryz.func153 ((fun z0 z1 a=>by kernel_rfl:∀ z0 z1,EntryIs0 ctx PP 153 [] [(132,PZ z0),(189,Sm z1)] cv31 cv9 fun a=>E_impl_tag z0 z1 a.1 a.2.1 a.2.2) impl_varText impl_MacOf)
noncomputable def Dw {γ:Type} (F:Qh):Hd ctx γ:=hdl cv31.dec (fun a=>F a.1 a.2.1 a.2.2) cv9.enc
abbrev Um:=ByteArray→Int→ByteArray→Option (ByteArray×Bool)
noncomputable def E_impl_LockText (z0:Oh) (z1:Ph) (z2:Qh) (key_0:ByteArray) (num_1:Int) (s_2:ByteArray):Option (ByteArray×Bool):=
 (z0 key_0 num_1 (s_2.size:Int)).bind fun r0=>
 bif (!r0.2) then
 some (⟨#[]⟩,false)
 else
 (z1 s_2 r0.1).bind fun r1=>
 (z2 key_0 num_1 r1).bind fun r2=>
 bif (decide ((r1.size+r2.size)≤9223372036854775807)) then
 some ((r1++r2),true)
 else none
noncomputable def impl_LockText:Um:=E_impl_LockText impl_Mask impl_both impl_tag
theorem D9:Tells ctx PP 113 cv31 cv26 (fun a=>impl_LockText a.1 a.2.1 a.2.2):=fn_ok0 (hc Tv (hc Yv (hc Aw hl_nil))) Tryz.func113 ((fun z0 z1 z2 a=>by kernel_rfl:∀ z0 z1 z2,EntryIs0 ctx PP 113 [] [(151,Wv z0),(152,Zv z1),(153,Dw z2)] cv31 cv26 fun a=>E_impl_LockText z0 z1 z2 a.1 a.2.1 a.2.2) impl_Mask impl_both impl_tag)
noncomputable def F9 {γ:Type} (F:Um):Hd ctx γ:=hdl cv31.dec (fun a=>F a.1 a.2.1 a.2.2) cv26.enc
abbrev Vm:=Int→ByteArray→Option Int
inductive Lc where
 | c0 (sum_0:Int) (text_1:ByteArray) (i_5:Int)
 | c1 (sum_0:Int) (text_1:ByteArray) (i_5:Int) (v_19:Int)
noncomputable def Ew:Lc→LI
 | .c0 sum_0 text_1 i_5=>(tdo Tryz.f190 208,[(0,[.one (.int .u32 sum_0)]),(1,[.one (.str text_1)]),(5,[.one (.int .i64 i_5)])],[])
 | .c1 sum_0 text_1 i_5 v_19=>(tdo Tryz.f190 13464,[(0,[.one (.int .u32 sum_0)]),(1,[.one (.str text_1)]),(5,[.one (.int .i64 i_5)]),(19,[.one (.int .i64 v_19)])],[])
noncomputable def E_impl_SumMore (k:Lc→Option Int) (sum_0:Int) (text_1:ByteArray):Option Int:=
 k (.c0 sum_0 text_1 0)
noncomputable def B_impl_SumMore (k:Lc→Option Int):Lc→Option Int
 | .c0 sum_0 text_1 i_5=>
 bif (decide (i_5<(text_1.size:Int))) then
  bif ((decide (0≤i_5)) && (decide (i_5<(text_1.size:Int)))) then
  k (.c1 (w32 (((BitVec.toNat ((BitVec.ofInt (IntKind.bits IntKind.u32) sum_0) ^^^ (BitVec.ofInt (IntKind.bits IntKind.u32) (w32 (bt text_1 i_5))))):Nat):Int)) text_1 i_5 0)
  else none
 else
  some sum_0
 | .c1 sum_0 text_1 i_5 v_19=>
 bif (decide (v_19<8)) then
  bif ((w32 (((BitVec.toNat ((BitVec.ofInt (IntKind.bits IntKind.u32) sum_0) &&& (BitVec.ofInt (IntKind.bits IntKind.u32) 1))):Nat):Int)) == 1) then
  k (.c1 (w32 (((BitVec.toNat ((BitVec.ofInt (IntKind.bits IntKind.u32) (Int.fdiv sum_0 (2 ^ (Min.min (1:Int).toNat (IntKind.bits IntKind.u32))))) ^^^ (BitVec.ofInt (IntKind.bits IntKind.u32) 3558460437))):Nat):Int)) text_1 i_5 (w64 (v_19+1)))
  else
  k (.c1 (Int.fdiv sum_0 (2 ^ (Min.min (1:Int).toNat (IntKind.bits IntKind.u32)))) text_1 i_5 (w64 (v_19+1)))
 else
  k (.c0 sum_0 text_1 (w64 (i_5+1)))
noncomputable def L_impl_SumMore:Nat→Lc→Option Int
 | 0,_=>none
 | m+1,s=>B_impl_SumMore (L_impl_SumMore m) s
noncomputable def impl_SumMore:Vm:=E_impl_SumMore (L_impl_SumMore gas)
theorem G9:Tells ctx PP 190 cv32 cv16 (fun a=>impl_SumMore a.1 a.2):=
 have b:CutIs ctx PP 190 Tryz.f190 [] [] cv16 Ew (B_impl_SumMore):=fun _ s=>by cases s <;> kernel_rfl
 have e:EntryIs ctx PP 190 [] [] cv32 cv16 Ew (fun k a=>E_impl_SumMore k a.1 a.2):=fun _ a=>by kernel_rfl
 fn_ok hl_nil Tryz.func190 (fun s s' h=>by cases s <;> cases s' <;> first | (cases h;done) | (cases h;rfl) | exact (rg_ne h (by kernel_rfl)).elim) (fun _=>rfl) (fun _ _=>rfl) b e gas
noncomputable def H9 {γ:Type} (F:Vm):Hd ctx γ:=hdl cv32.dec (fun a=>F a.1 a.2) cv16.enc
abbrev Mc:=ByteArray→Option Int
noncomputable def E_impl_SumOf (z0:Vm) (text_0:ByteArray):Option Int:=
 (z0 4294967295 text_0).bind fun r0=>
 some r0
noncomputable def impl_SumOf:Mc:=E_impl_SumOf impl_SumMore
theorem Gw:Tells ctx PP 154 cv9 cv16 (fun a=>impl_SumOf a):=fn_ok0 (hc G9 hl_nil) Tryz.func154 ((fun z0 a=>by kernel_rfl:∀ z0,EntryIs0 ctx PP 154 [] [(190,H9 z0)] cv9 cv16 fun a=>E_impl_SumOf z0 a) impl_SumMore)
noncomputable def Xm {γ:Type} (F:Mc):Hd ctx γ:=hdl cv9.dec (fun a=>F a) cv16.enc
abbrev Nc:=ByteArray→Option (ByteArray×Bool)
noncomputable def E_impl_Frame (z0:TB) (z1:SY) (z2:Mc) (z3:RY) (text_0:ByteArray):Option (ByteArray×Bool):=
 (z0 (text_0.size:Int) 1 9000).bind fun r0=>
 bif (!r0) then
 some (⟨#[]⟩,false)
 else
 (z1 (text_0.size:Int)).bind fun r1=>
 (z2 text_0).bind fun r2=>
 (z3 r2).bind fun r3=>
 bif (decide ((r1.size+r3.size)≤9223372036854775807)) then
 bif (decide (((r1++r3).size+text_0.size)≤9223372036854775807)) then
 some (((r1++r3)++text_0),true)
 else none
 else none
noncomputable def impl_Frame:Nc:=E_impl_Frame impl_in impl_varText impl_SumOf impl_fourBytes
theorem Hw:Tells ctx PP 114 cv9 cv26 (fun a=>impl_Frame a):=fn_ok0 (hc FN (hc OZ (hc Gw (hc Eh hl_nil)))) Tryz.func114 ((fun z0 z1 z2 z3 a=>by kernel_rfl:∀ z0 z1 z2 z3,EntryIs0 ctx PP 114 [] [(47,IK z0),(132,PZ z1),(154,Xm z2),(107,MZ z3)] cv9 cv26 fun a=>E_impl_Frame z0 z1 z2 z3 a) impl_in impl_varText impl_SumOf impl_fourBytes)
noncomputable def Ym {γ:Type} (F:Nc):Hd ctx γ:=hdl cv9.dec (fun a=>F a) cv26.enc
abbrev Zm:=ByteArray→Int→SRec→Option ((List SAct)×Bool)
noncomputable def E_impl_BookActs (z0:Bc) (z1:TB) (z2:Um) (z3:Nc) (key_0:ByteArray) (count_1:Int) (r_2:SRec):Option ((List SAct)×Bool):=
 (z0 r_2).bind fun r0=>
 bif (!r0.2) then
 some ([],false)
 else
 (z1 count_1 0 10000).bind fun r1=>
 bif (!r1) then
  some ([],false)
 else
  (z2 key_0 (w64 (count_1+1)) r0.1).bind fun r2=>
  (z3 r2.1).bind fun r3=>
  bif (!r2.2) then
  some ([],false)
  else
  bif (!r3.2) then
   some ([],false)
  else
   some ([⟨1,⟨#[98,111,111,107]⟩,r3.1,⟨#[]⟩⟩,⟨2,⟨#[98,111,111,107]⟩,⟨#[]⟩,⟨#[]⟩⟩],true)
noncomputable def impl_BookActs:Zm:=E_impl_BookActs impl_RecText impl_in impl_LockText impl_Frame
theorem I9:Tells ctx PP 69 cv33 cv34 (fun a=>impl_BookActs a.1 a.2.1 a.2.2):=fn_ok0 (hc Om (hc FN (hc D9 (hc Hw hl_nil)))) Tryz.func69 ((fun z0 z1 z2 z3 a=>by kernel_rfl:∀ z0 z1 z2 z3,EntryIs0 ctx PP 69 [] [(112,Pm z0),(47,IK z1),(113,F9 z2),(114,Ym z3)] cv33 cv34 fun a=>E_impl_BookActs z0 z1 z2 z3 a.1 a.2.1 a.2.2) impl_RecText impl_in impl_LockText impl_Frame)
noncomputable def J9 {γ:Type} (F:Zm):Hd ctx γ:=hdl cv33.dec (fun a=>F a.1 a.2.1 a.2.2) cv34.enc
abbrev JZ:=SDisk→Option SDisk
noncomputable def E_impl_copyDisk (d_0:SDisk):Option SDisk:=
 bif (decide ((d_0.fFiles.length*40)≤140737488355328)) then
 some d_0
 else none
noncomputable def impl_copyDisk:JZ:=E_impl_copyDisk
theorem Vk:Tells ctx PP 52 cv35 cv36 (fun a=>impl_copyDisk a):=fn_ok0 hl_nil Tryz.func52 (fun a=>by kernel_rfl:EntryIs0 ctx PP 52 [] [] cv35 cv36 fun a=>E_impl_copyDisk a)
noncomputable def Xg {γ:Type} (F:JZ):Hd ctx γ:=hdl cv35.dec (fun a=>F a) cv36.enc
abbrev RZ:=SDisk→ByteArray→Option Int
inductive Oc where
 | c0 (name_1:ByteArray) (v_8:(List SFile)) (v_9:Int) (v_10:Int)
noncomputable def Iw:Oc→LI
 | .c0 name_1 v_8 v_9 v_10=>(tdo Tryz.f100 104,[(1,[.one (.str name_1)]),(8,[.one (.rsl 148 v_8)]),(9,[.one (.int .i64 v_9)]),(10,[.one (.int .i64 v_10)])],[])
noncomputable def E_impl_fileAt (k:Oc→Option Int) (d_0:SDisk) (name_1:ByteArray):Option Int:=
 k (.c0 name_1 d_0.fFiles (d_0.fFiles.length:Int) 0)
noncomputable def B_impl_fileAt (k:Oc→Option Int):Oc→Option Int
 | .c0 name_1 v_8 v_9 v_10=>
 bif (decide (v_10<v_9)) then
  bif ((decide (0≤v_10)) && (decide (v_10<(v_8.length:Int)))) then
  bif ((ByteArray.toList (v_8.getD v_10.toNat (⟨⟨#[]⟩,⟨#[]⟩,0⟩:SFile)).fName) == (ByteArray.toList name_1)) then
  some v_10
  else
  k (.c0 name_1 v_8 v_9 (w64 (v_10+1)))
  else none
 else
  some (-(1:Int))
noncomputable def L_impl_fileAt:Nat→Oc→Option Int
 | 0,_=>none
 | m+1,s=>B_impl_fileAt (L_impl_fileAt m) s
noncomputable def impl_fileAt:RZ:=E_impl_fileAt (L_impl_fileAt gas)
theorem Rh:Tells ctx PP 100 cv37 cv7 (fun a=>impl_fileAt a.1 a.2):=
 have b:CutIs ctx PP 100 Tryz.f100 [] [] cv7 Iw (B_impl_fileAt):=fun _ s=>by cases s <;> kernel_rfl
 have e:EntryIs ctx PP 100 [] [] cv37 cv7 Iw (fun k a=>E_impl_fileAt k a.1 a.2):=fun _ a=>by kernel_rfl
 fn_ok hl_nil Tryz.func100 (fun s s' h=>by cases s;cases s';cases h;rfl) (fun _=>rfl) (fun _ _=>rfl) b e gas
noncomputable def Uh {γ:Type} (F:RZ):Hd ctx γ:=hdl cv37.dec (fun a=>F a.1 a.2) cv7.enc
abbrev FZ:=SDisk→Option Bool
inductive Qc where
 | c0 (v_6:(List SFile)) (v_7:Int) (v_8:Int) (d_1:SDisk)
noncomputable def Jw:Qc→LI
 | .c0 v_6 v_7 v_8 d_1=>(tdo Tryz.f46 104,[(1,[.one (.ptr 64 0)]),(6,[.one (.rsl 148 v_6)]),(7,[.one (.int .i64 v_7)]),(8,[.one (.int .i64 v_8)])],[(64,.var [.rsl 148 d_1.fFiles])])
noncomputable def E_impl_DiskOk (z0:TB) (k:Qc→Option Bool) (d_0:SDisk):Option Bool:=
 k (.c0 d_0.fFiles (d_0.fFiles.length:Int) 0 d_0)
noncomputable def B_impl_DiskOk (z0:TB) (k:Qc→Option Bool):Qc→Option Bool
 | .c0 v_6 v_7 v_8 d_1=>
 bif (decide (v_8<v_7)) then
  bif ((decide (0≤v_8)) && (decide (v_8<(v_6.length:Int)))) then
  (z0 ((v_6.getD v_8.toNat (⟨⟨#[]⟩,⟨#[]⟩,0⟩:SFile)).fName.size:Int) 1 8).bind fun r0=>
  bif (!r0) then
  some false
  else
  bif (decide (((v_6.getD v_8.toNat (⟨⟨#[]⟩,⟨#[]⟩,0⟩:SFile)).fText.size:Int) > 20000)) then
   some false
  else
   (z0 (v_6.getD v_8.toNat (⟨⟨#[]⟩,⟨#[]⟩,0⟩:SFile)).fKept 0 ((v_6.getD v_8.toNat (⟨⟨#[]⟩,⟨#[]⟩,0⟩:SFile)).fText.size:Int)).bind fun r1=>
   bif (!r1) then
   some false
   else
   bif (decide (v_8 > 0)) then
    bif ((decide (0≤(w64 (v_8 - 1)))) && (decide ((w64 (v_8 - 1))<(d_1.fFiles.length:Int)))) then
    bif (!(Op.bytesLess (ByteArray.toList (d_1.fFiles.getD (w64 (v_8 - 1)).toNat (⟨⟨#[]⟩,⟨#[]⟩,0⟩:SFile)).fName) (ByteArray.toList (v_6.getD v_8.toNat (⟨⟨#[]⟩,⟨#[]⟩,0⟩:SFile)).fName))) then
    some false
    else
    k (.c0 v_6 v_7 (w64 (v_8+1)) d_1)
    else none
   else
    k (.c0 v_6 v_7 (w64 (v_8+1)) d_1)
  else none
 else
  some (decide ((d_1.fFiles.length:Int)≤30))
noncomputable def L_impl_DiskOk:Nat→Qc→Option Bool
 | 0,_=>none
 | m+1,s=>B_impl_DiskOk impl_in (L_impl_DiskOk m) s
noncomputable def impl_DiskOk:FZ:=E_impl_DiskOk impl_in (L_impl_DiskOk gas)
theorem Jj:Tells ctx PP 46 cv35 cv1 (fun a=>impl_DiskOk a):=
 have b:∀ z0,CutIs ctx PP 46 Tryz.f46 [] [(47,IK z0)] cv1 Jw (B_impl_DiskOk z0):=fun z0 _ s=>by cases s <;> kernel_rfl
 have e:∀ z0,EntryIs ctx PP 46 [] [(47,IK z0)] cv35 cv1 Jw (fun k a=>E_impl_DiskOk z0 k a):=fun z0 _ a=>by kernel_rfl
 fn_ok (hc FN hl_nil) Tryz.func46 (fun s s' h=>by cases s;cases s';(repeat cases ‹SDisk›);cases h;rfl) (fun _=>rfl) (fun _ _=>rfl) (b impl_in) (e impl_in) gas
noncomputable def Qg {γ:Type} (F:FZ):Hd ctx γ:=hdl cv35.dec (fun a=>F a) cv1.enc
abbrev Tc:=SDisk→ByteArray→Option SDisk
noncomputable def E_impl_Disk_dropFile (z0:RZ) (d_0:SDisk) (name_1:ByteArray):Option SDisk:=
 (z0 d_0 name_1).bind fun r0=>
 bif (decide (r0≥0)) then
 bif ((decide (0≤r0)) && (decide (r0≤(d_0.fFiles.length:Int)))) then
 bif (decide ((((d_0.fFiles.drop 0).take (r0.toNat - 0)).length*40)≤140737488355328)) then
 bif ((decide (0≤(w64 (r0+1)))) && (decide ((w64 (r0+1))≤(d_0.fFiles.length:Int)))) then
 bif (decide (((((d_0.fFiles.drop 0).take (r0.toNat - 0)).length+((d_0.fFiles.drop (w64 (r0+1)).toNat).take (d_0.fFiles.length - (w64 (r0+1)).toNat)).length)*40)≤140737488355328)) then
 some ⟨(((d_0.fFiles.drop 0).take (r0.toNat - 0))++((d_0.fFiles.drop (w64 (r0+1)).toNat).take (d_0.fFiles.length - (w64 (r0+1)).toNat)))⟩
 else none
 else none
 else none
 else none
 else
 some d_0
noncomputable def impl_Disk_dropFile:Tc:=E_impl_Disk_dropFile impl_fileAt
theorem Kw:Tells ctx PP 156 cv38 cv36 (fun a=>impl_Disk_dropFile a.1 a.2):=fn_ok0 (hc Rh hl_nil) Tryz.func156 ((fun z0 a=>by kernel_rfl:∀ z0,EntryIs0 ctx PP 156 [0] [(100,Uh z0)] cv38 cv36 fun a=>E_impl_Disk_dropFile z0 a.1 a.2) impl_fileAt)
noncomputable def Dn {γ:Type} (F:Tc):Hd ctx γ:=hdl cv38.dec (fun a=>F a.1 a.2) cv36.enc
abbrev En:=SDisk→SFile→Option SDisk
inductive Uc where
 | c0 (k_4:Int) (f_3:SFile) (d_0r0:(List SFile))
noncomputable def Nw:Uc→LI
 | .c0 k_4 f_3 d_0r0=>(tdo Tryz.f155 480,[(0,[.one (.ptr 0 0)]),(3,[.one (.ptr 192 0)]),(4,[.one (.int .i64 k_4)])],[(0,.var [.own 1000000]),(192,.var [.str f_3.fName,.str f_3.fText,.int .i64 f_3.fKept]),(1000000,.sl 148 d_0r0)])
noncomputable def E_impl_Disk_putFile (z0:Tc) (k:Uc→Option SDisk) (d_0:SDisk) (f_1:SFile):Option SDisk:=
 (z0 d_0 f_1.fName).bind fun r0=>
 k (.c0 0 f_1 r0.fFiles)
noncomputable def B_impl_Disk_putFile (z0:Tc) (k:Uc→Option SDisk):Uc→Option SDisk
 | .c0 k_4 f_3 d_0r0=>
 bif (decide (k_4<(d_0r0.length:Int))) then
  bif ((decide (0≤k_4)) && (decide (k_4<(d_0r0.length:Int)))) then
  bif (Op.bytesLess (ByteArray.toList (d_0r0.getD k_4.toNat (⟨⟨#[]⟩,⟨#[]⟩,0⟩:SFile)).fName) (ByteArray.toList f_3.fName)) then
  k (.c0 (w64 (k_4+1)) f_3 d_0r0)
  else
  bif ((decide (0≤k_4)) && (decide (k_4≤(d_0r0.length:Int)))) then
  bif (decide ((((d_0r0.drop 0).take (k_4.toNat - 0)).length*40)≤140737488355328)) then
  bif (decide (((((d_0r0.drop 0).take (k_4.toNat - 0)).length+1)*40)≤140737488355328)) then
  bif ((decide (0≤k_4)) && (decide (k_4≤(d_0r0.length:Int)))) then
  bif (decide ((((((d_0r0.drop 0).take (k_4.toNat - 0))++[f_3]).length+((d_0r0.drop k_4.toNat).take (d_0r0.length - k_4.toNat)).length)*40)≤140737488355328)) then
  some ⟨((((d_0r0.drop 0).take (k_4.toNat - 0))++[f_3])++((d_0r0.drop k_4.toNat).take (d_0r0.length - k_4.toNat)))⟩
  else none
  else none
  else none
  else none
  else none
  else none
 else
  bif ((decide (0≤k_4)) && (decide (k_4≤(d_0r0.length:Int)))) then
  bif (decide ((((d_0r0.drop 0).take (k_4.toNat - 0)).length*40)≤140737488355328)) then
  bif (decide (((((d_0r0.drop 0).take (k_4.toNat - 0)).length+1)*40)≤140737488355328)) then
  bif ((decide (0≤k_4)) && (decide (k_4≤(d_0r0.length:Int)))) then
  bif (decide ((((((d_0r0.drop 0).take (k_4.toNat - 0))++[f_3]).length+((d_0r0.drop k_4.toNat).take (d_0r0.length - k_4.toNat)).length)*40)≤140737488355328)) then
  some ⟨((((d_0r0.drop 0).take (k_4.toNat - 0))++[f_3])++((d_0r0.drop k_4.toNat).take (d_0r0.length - k_4.toNat)))⟩
  else none
  else none
  else none
  else none
  else none
noncomputable def L_impl_Disk_putFile:Nat→Uc→Option SDisk
 | 0,_=>none
 | m+1,s=>B_impl_Disk_putFile impl_Disk_dropFile (L_impl_Disk_putFile m) s
noncomputable def impl_Disk_putFile:En:=E_impl_Disk_putFile impl_Disk_dropFile (L_impl_Disk_putFile gas)
theorem L9:Tells ctx PP 155 cv39 cv36 (fun a=>impl_Disk_putFile a.1 a.2):=
 have b:∀ z0,CutIs ctx PP 155 Tryz.f155 [0] [(156,Dn z0)] cv36 Nw (B_impl_Disk_putFile z0):=fun z0 _ s=>by cases s <;> kernel_rfl
 have e:∀ z0,EntryIs ctx PP 155 [0] [(156,Dn z0)] cv39 cv36 Nw (fun k a=>E_impl_Disk_putFile z0 k a.1 a.2):=fun z0 _ a=>by kernel_rfl
 fn_ok (hc Kw hl_nil) Tryz.func155 (fun s s' h=>by cases s;cases s';(repeat cases ‹SFile›);cases h;rfl) (fun _=>rfl) (fun _ _=>rfl) (b impl_Disk_dropFile) (e impl_Disk_dropFile) gas
noncomputable def N9 {γ:Type} (F:En):Hd ctx γ:=hdl cv39.dec (fun a=>F a.1 a.2) cv36.enc
abbrev Vh:=SDisk→SAct→Option (SDisk×Bool)
noncomputable def E_impl_DoAct (z0:RZ) (z1:FZ) (z2:JZ) (z3:En) (z4:Tc) (d_0:SDisk) (a_1:SAct):Option (SDisk×Bool):=
 (z0 d_0 a_1.fName).bind fun r0=>
 (z1 d_0).bind fun r1=>
 bif (!r1) then
 some (⟨[]⟩,false)
 else
 bif (a_1.fKind != 1) then
  bif (decide (r0<0)) then
  some (⟨[]⟩,false)
  else
  bif (!((ByteArray.toList a_1.fText) == (ByteArray.toList ⟨#[]⟩))) then
   some (⟨[]⟩,false)
  else
   bif (a_1.fKind != 3) then
   bif (!((ByteArray.toList a_1.fTo) == (ByteArray.toList ⟨#[]⟩))) then
    some (⟨[]⟩,false)
   else
    (z2 d_0).bind fun r2=>
    bif (decide (r0≥0)) then
    bif ((decide (0≤r0)) && (decide (r0<(d_0.fFiles.length:Int)))) then
    bif (a_1.fKind == 1) then
     bif (decide (((d_0.fFiles.getD r0.toNat (⟨⟨#[]⟩,⟨#[]⟩,0⟩:SFile)).fText.size+a_1.fText.size)≤9223372036854775807)) then
     (z3 r2 ⟨(d_0.fFiles.getD r0.toNat (⟨⟨#[]⟩,⟨#[]⟩,0⟩:SFile)).fName,((d_0.fFiles.getD r0.toNat (⟨⟨#[]⟩,⟨#[]⟩,0⟩:SFile)).fText++a_1.fText),(d_0.fFiles.getD r0.toNat (⟨⟨#[]⟩,⟨#[]⟩,0⟩:SFile)).fKept⟩).bind fun r3=>
     (z1 r3).bind fun r4=>
     bif (!r4) then
     some (⟨[]⟩,false)
     else
     some (r3,true)
     else none
    else
     bif (a_1.fKind == 2) then
     (z3 r2 ⟨(d_0.fFiles.getD r0.toNat (⟨⟨#[]⟩,⟨#[]⟩,0⟩:SFile)).fName,(d_0.fFiles.getD r0.toNat (⟨⟨#[]⟩,⟨#[]⟩,0⟩:SFile)).fText,((d_0.fFiles.getD r0.toNat (⟨⟨#[]⟩,⟨#[]⟩,0⟩:SFile)).fText.size:Int)⟩).bind fun r5=>
     (z1 r5).bind fun r6=>
     bif (!r6) then
      some (⟨[]⟩,false)
     else
      some (r5,true)
     else
     bif (a_1.fKind == 3) then
      bif ((d_0.fFiles.getD r0.toNat (⟨⟨#[]⟩,⟨#[]⟩,0⟩:SFile)).fKept != ((d_0.fFiles.getD r0.toNat (⟨⟨#[]⟩,⟨#[]⟩,0⟩:SFile)).fText.size:Int)) then
      some (⟨[]⟩,false)
      else
      bif ((ByteArray.toList a_1.fTo) == (ByteArray.toList a_1.fName)) then
       some (⟨[]⟩,false)
      else
       (z4 r2 a_1.fName).bind fun r7=>
       (z3 r7 ⟨a_1.fTo,(d_0.fFiles.getD r0.toNat (⟨⟨#[]⟩,⟨#[]⟩,0⟩:SFile)).fText,(d_0.fFiles.getD r0.toNat (⟨⟨#[]⟩,⟨#[]⟩,0⟩:SFile)).fKept⟩).bind fun r8=>
       (z1 r8).bind fun r9=>
       bif (!r9) then
       some (⟨[]⟩,false)
       else
       some (r8,true)
     else
      bif (a_1.fKind == 4) then
      (z4 r2 a_1.fName).bind fun r10=>
      (z1 r10).bind fun r11=>
      bif (!r11) then
       some (⟨[]⟩,false)
      else
       some (r10,true)
      else
      some (⟨[]⟩,false)
    else none
    else
    bif (a_1.fKind == 1) then
     bif (decide (((⟨#[]⟩:ByteArray).size+a_1.fText.size)≤9223372036854775807)) then
     (z3 r2 ⟨a_1.fName,((⟨#[]⟩:ByteArray)++a_1.fText),0⟩).bind fun r12=>
     (z1 r12).bind fun r13=>
     bif (!r13) then
     some (⟨[]⟩,false)
     else
     some (r12,true)
     else none
    else
     bif (a_1.fKind == 2) then
     (z3 r2 ⟨a_1.fName,⟨#[]⟩,((⟨#[]⟩:ByteArray).size:Int)⟩).bind fun r14=>
     (z1 r14).bind fun r15=>
     bif (!r15) then
      some (⟨[]⟩,false)
     else
      some (r14,true)
     else
     bif (a_1.fKind == 3) then
      bif ((ByteArray.toList a_1.fTo) == (ByteArray.toList a_1.fName)) then
      some (⟨[]⟩,false)
      else
      (z4 r2 a_1.fName).bind fun r16=>
      (z3 r16 ⟨a_1.fTo,⟨#[]⟩,0⟩).bind fun r17=>
      (z1 r17).bind fun r18=>
      bif (!r18) then
       some (⟨[]⟩,false)
      else
       some (r17,true)
     else
      bif (a_1.fKind == 4) then
      (z4 r2 a_1.fName).bind fun r19=>
      (z1 r19).bind fun r20=>
      bif (!r20) then
       some (⟨[]⟩,false)
      else
       some (r19,true)
      else
      some (⟨[]⟩,false)
   else
   (z2 d_0).bind fun r21=>
   bif (decide (r0≥0)) then
    bif ((decide (0≤r0)) && (decide (r0<(d_0.fFiles.length:Int)))) then
    bif (a_1.fKind == 1) then
    bif (decide (((d_0.fFiles.getD r0.toNat (⟨⟨#[]⟩,⟨#[]⟩,0⟩:SFile)).fText.size+a_1.fText.size)≤9223372036854775807)) then
    (z3 r21 ⟨(d_0.fFiles.getD r0.toNat (⟨⟨#[]⟩,⟨#[]⟩,0⟩:SFile)).fName,((d_0.fFiles.getD r0.toNat (⟨⟨#[]⟩,⟨#[]⟩,0⟩:SFile)).fText++a_1.fText),(d_0.fFiles.getD r0.toNat (⟨⟨#[]⟩,⟨#[]⟩,0⟩:SFile)).fKept⟩).bind fun r22=>
    (z1 r22).bind fun r23=>
    bif (!r23) then
     some (⟨[]⟩,false)
    else
     some (r22,true)
    else none
    else
    bif (a_1.fKind == 2) then
     (z3 r21 ⟨(d_0.fFiles.getD r0.toNat (⟨⟨#[]⟩,⟨#[]⟩,0⟩:SFile)).fName,(d_0.fFiles.getD r0.toNat (⟨⟨#[]⟩,⟨#[]⟩,0⟩:SFile)).fText,((d_0.fFiles.getD r0.toNat (⟨⟨#[]⟩,⟨#[]⟩,0⟩:SFile)).fText.size:Int)⟩).bind fun r24=>
     (z1 r24).bind fun r25=>
     bif (!r25) then
     some (⟨[]⟩,false)
     else
     some (r24,true)
    else
     bif (a_1.fKind == 3) then
     bif ((d_0.fFiles.getD r0.toNat (⟨⟨#[]⟩,⟨#[]⟩,0⟩:SFile)).fKept != ((d_0.fFiles.getD r0.toNat (⟨⟨#[]⟩,⟨#[]⟩,0⟩:SFile)).fText.size:Int)) then
      some (⟨[]⟩,false)
     else
      bif ((ByteArray.toList a_1.fTo) == (ByteArray.toList a_1.fName)) then
      some (⟨[]⟩,false)
      else
      (z4 r21 a_1.fName).bind fun r26=>
      (z3 r26 ⟨a_1.fTo,(d_0.fFiles.getD r0.toNat (⟨⟨#[]⟩,⟨#[]⟩,0⟩:SFile)).fText,(d_0.fFiles.getD r0.toNat (⟨⟨#[]⟩,⟨#[]⟩,0⟩:SFile)).fKept⟩).bind fun r27=>
      (z1 r27).bind fun r28=>
      bif (!r28) then
       some (⟨[]⟩,false)
      else
       some (r27,true)
     else
     bif (a_1.fKind == 4) then
      (z4 r21 a_1.fName).bind fun r29=>
      (z1 r29).bind fun r30=>
      bif (!r30) then
      some (⟨[]⟩,false)
      else
      some (r29,true)
     else
      some (⟨[]⟩,false)
    else none
   else
    bif (a_1.fKind == 1) then
    bif (decide (((⟨#[]⟩:ByteArray).size+a_1.fText.size)≤9223372036854775807)) then
    (z3 r21 ⟨a_1.fName,((⟨#[]⟩:ByteArray)++a_1.fText),0⟩).bind fun r31=>
    (z1 r31).bind fun r32=>
    bif (!r32) then
     some (⟨[]⟩,false)
    else
     some (r31,true)
    else none
    else
    bif (a_1.fKind == 2) then
     (z3 r21 ⟨a_1.fName,⟨#[]⟩,((⟨#[]⟩:ByteArray).size:Int)⟩).bind fun r33=>
     (z1 r33).bind fun r34=>
     bif (!r34) then
     some (⟨[]⟩,false)
     else
     some (r33,true)
    else
     bif (a_1.fKind == 3) then
     bif ((ByteArray.toList a_1.fTo) == (ByteArray.toList a_1.fName)) then
      some (⟨[]⟩,false)
     else
      (z4 r21 a_1.fName).bind fun r35=>
      (z3 r35 ⟨a_1.fTo,⟨#[]⟩,0⟩).bind fun r36=>
      (z1 r36).bind fun r37=>
      bif (!r37) then
      some (⟨[]⟩,false)
      else
      some (r36,true)
     else
     bif (a_1.fKind == 4) then
      (z4 r21 a_1.fName).bind fun r38=>
      (z1 r38).bind fun r39=>
      bif (!r39) then
      some (⟨[]⟩,false)
      else
      some (r38,true)
     else
      some (⟨[]⟩,false)
 else
  bif (a_1.fKind != 3) then
  bif (!((ByteArray.toList a_1.fTo) == (ByteArray.toList ⟨#[]⟩))) then
   some (⟨[]⟩,false)
  else
   (z2 d_0).bind fun r40=>
   bif (decide (r0≥0)) then
   bif ((decide (0≤r0)) && (decide (r0<(d_0.fFiles.length:Int)))) then
   bif (a_1.fKind == 1) then
    bif (decide (((d_0.fFiles.getD r0.toNat (⟨⟨#[]⟩,⟨#[]⟩,0⟩:SFile)).fText.size+a_1.fText.size)≤9223372036854775807)) then
    (z3 r40 ⟨(d_0.fFiles.getD r0.toNat (⟨⟨#[]⟩,⟨#[]⟩,0⟩:SFile)).fName,((d_0.fFiles.getD r0.toNat (⟨⟨#[]⟩,⟨#[]⟩,0⟩:SFile)).fText++a_1.fText),(d_0.fFiles.getD r0.toNat (⟨⟨#[]⟩,⟨#[]⟩,0⟩:SFile)).fKept⟩).bind fun r41=>
    (z1 r41).bind fun r42=>
    bif (!r42) then
    some (⟨[]⟩,false)
    else
    some (r41,true)
    else none
   else
    bif (a_1.fKind == 2) then
    (z3 r40 ⟨(d_0.fFiles.getD r0.toNat (⟨⟨#[]⟩,⟨#[]⟩,0⟩:SFile)).fName,(d_0.fFiles.getD r0.toNat (⟨⟨#[]⟩,⟨#[]⟩,0⟩:SFile)).fText,((d_0.fFiles.getD r0.toNat (⟨⟨#[]⟩,⟨#[]⟩,0⟩:SFile)).fText.size:Int)⟩).bind fun r43=>
    (z1 r43).bind fun r44=>
    bif (!r44) then
     some (⟨[]⟩,false)
    else
     some (r43,true)
    else
    bif (a_1.fKind == 3) then
     bif ((d_0.fFiles.getD r0.toNat (⟨⟨#[]⟩,⟨#[]⟩,0⟩:SFile)).fKept != ((d_0.fFiles.getD r0.toNat (⟨⟨#[]⟩,⟨#[]⟩,0⟩:SFile)).fText.size:Int)) then
     some (⟨[]⟩,false)
     else
     bif ((ByteArray.toList a_1.fTo) == (ByteArray.toList a_1.fName)) then
      some (⟨[]⟩,false)
     else
      (z4 r40 a_1.fName).bind fun r45=>
      (z3 r45 ⟨a_1.fTo,(d_0.fFiles.getD r0.toNat (⟨⟨#[]⟩,⟨#[]⟩,0⟩:SFile)).fText,(d_0.fFiles.getD r0.toNat (⟨⟨#[]⟩,⟨#[]⟩,0⟩:SFile)).fKept⟩).bind fun r46=>
      (z1 r46).bind fun r47=>
      bif (!r47) then
      some (⟨[]⟩,false)
      else
      some (r46,true)
    else
     bif (a_1.fKind == 4) then
     (z4 r40 a_1.fName).bind fun r48=>
     (z1 r48).bind fun r49=>
     bif (!r49) then
      some (⟨[]⟩,false)
     else
      some (r48,true)
     else
     some (⟨[]⟩,false)
   else none
   else
   bif (a_1.fKind == 1) then
    bif (decide (((⟨#[]⟩:ByteArray).size+a_1.fText.size)≤9223372036854775807)) then
    (z3 r40 ⟨a_1.fName,((⟨#[]⟩:ByteArray)++a_1.fText),0⟩).bind fun r50=>
    (z1 r50).bind fun r51=>
    bif (!r51) then
    some (⟨[]⟩,false)
    else
    some (r50,true)
    else none
   else
    bif (a_1.fKind == 2) then
    (z3 r40 ⟨a_1.fName,⟨#[]⟩,((⟨#[]⟩:ByteArray).size:Int)⟩).bind fun r52=>
    (z1 r52).bind fun r53=>
    bif (!r53) then
     some (⟨[]⟩,false)
    else
     some (r52,true)
    else
    bif (a_1.fKind == 3) then
     bif ((ByteArray.toList a_1.fTo) == (ByteArray.toList a_1.fName)) then
     some (⟨[]⟩,false)
     else
     (z4 r40 a_1.fName).bind fun r54=>
     (z3 r54 ⟨a_1.fTo,⟨#[]⟩,0⟩).bind fun r55=>
     (z1 r55).bind fun r56=>
     bif (!r56) then
      some (⟨[]⟩,false)
     else
      some (r55,true)
    else
     bif (a_1.fKind == 4) then
     (z4 r40 a_1.fName).bind fun r57=>
     (z1 r57).bind fun r58=>
     bif (!r58) then
      some (⟨[]⟩,false)
     else
      some (r57,true)
     else
     some (⟨[]⟩,false)
  else
  (z2 d_0).bind fun r59=>
  bif (decide (r0≥0)) then
   bif ((decide (0≤r0)) && (decide (r0<(d_0.fFiles.length:Int)))) then
   bif (a_1.fKind == 1) then
   bif (decide (((d_0.fFiles.getD r0.toNat (⟨⟨#[]⟩,⟨#[]⟩,0⟩:SFile)).fText.size+a_1.fText.size)≤9223372036854775807)) then
   (z3 r59 ⟨(d_0.fFiles.getD r0.toNat (⟨⟨#[]⟩,⟨#[]⟩,0⟩:SFile)).fName,((d_0.fFiles.getD r0.toNat (⟨⟨#[]⟩,⟨#[]⟩,0⟩:SFile)).fText++a_1.fText),(d_0.fFiles.getD r0.toNat (⟨⟨#[]⟩,⟨#[]⟩,0⟩:SFile)).fKept⟩).bind fun r60=>
   (z1 r60).bind fun r61=>
   bif (!r61) then
    some (⟨[]⟩,false)
   else
    some (r60,true)
   else none
   else
   bif (a_1.fKind == 2) then
    (z3 r59 ⟨(d_0.fFiles.getD r0.toNat (⟨⟨#[]⟩,⟨#[]⟩,0⟩:SFile)).fName,(d_0.fFiles.getD r0.toNat (⟨⟨#[]⟩,⟨#[]⟩,0⟩:SFile)).fText,((d_0.fFiles.getD r0.toNat (⟨⟨#[]⟩,⟨#[]⟩,0⟩:SFile)).fText.size:Int)⟩).bind fun r62=>
    (z1 r62).bind fun r63=>
    bif (!r63) then
    some (⟨[]⟩,false)
    else
    some (r62,true)
   else
    bif (a_1.fKind == 3) then
    bif ((d_0.fFiles.getD r0.toNat (⟨⟨#[]⟩,⟨#[]⟩,0⟩:SFile)).fKept != ((d_0.fFiles.getD r0.toNat (⟨⟨#[]⟩,⟨#[]⟩,0⟩:SFile)).fText.size:Int)) then
     some (⟨[]⟩,false)
    else
     bif ((ByteArray.toList a_1.fTo) == (ByteArray.toList a_1.fName)) then
     some (⟨[]⟩,false)
     else
     (z4 r59 a_1.fName).bind fun r64=>
     (z3 r64 ⟨a_1.fTo,(d_0.fFiles.getD r0.toNat (⟨⟨#[]⟩,⟨#[]⟩,0⟩:SFile)).fText,(d_0.fFiles.getD r0.toNat (⟨⟨#[]⟩,⟨#[]⟩,0⟩:SFile)).fKept⟩).bind fun r65=>
     (z1 r65).bind fun r66=>
     bif (!r66) then
      some (⟨[]⟩,false)
     else
      some (r65,true)
    else
    bif (a_1.fKind == 4) then
     (z4 r59 a_1.fName).bind fun r67=>
     (z1 r67).bind fun r68=>
     bif (!r68) then
     some (⟨[]⟩,false)
     else
     some (r67,true)
    else
     some (⟨[]⟩,false)
   else none
  else
   bif (a_1.fKind == 1) then
   bif (decide (((⟨#[]⟩:ByteArray).size+a_1.fText.size)≤9223372036854775807)) then
   (z3 r59 ⟨a_1.fName,((⟨#[]⟩:ByteArray)++a_1.fText),0⟩).bind fun r69=>
   (z1 r69).bind fun r70=>
   bif (!r70) then
    some (⟨[]⟩,false)
   else
    some (r69,true)
   else none
   else
   bif (a_1.fKind == 2) then
    (z3 r59 ⟨a_1.fName,⟨#[]⟩,((⟨#[]⟩:ByteArray).size:Int)⟩).bind fun r71=>
    (z1 r71).bind fun r72=>
    bif (!r72) then
    some (⟨[]⟩,false)
    else
    some (r71,true)
   else
    bif (a_1.fKind == 3) then
    bif ((ByteArray.toList a_1.fTo) == (ByteArray.toList a_1.fName)) then
     some (⟨[]⟩,false)
    else
     (z4 r59 a_1.fName).bind fun r73=>
     (z3 r73 ⟨a_1.fTo,⟨#[]⟩,0⟩).bind fun r74=>
     (z1 r74).bind fun r75=>
     bif (!r75) then
     some (⟨[]⟩,false)
     else
     some (r74,true)
    else
    bif (a_1.fKind == 4) then
     (z4 r59 a_1.fName).bind fun r76=>
     (z1 r76).bind fun r77=>
     bif (!r77) then
     some (⟨[]⟩,false)
     else
     some (r76,true)
    else
     some (⟨[]⟩,false)
noncomputable def impl_DoAct:Vh:=E_impl_DoAct impl_fileAt impl_DiskOk impl_copyDisk impl_Disk_putFile impl_Disk_dropFile
theorem O9:Tells ctx PP 115 cv40 cv41 (fun a=>impl_DoAct a.1 a.2):=fn_ok0 (hc Rh (hc Jj (hc Vk (hc L9 (hc Kw hl_nil))))) Tryz.func115 ((fun z0 z1 z2 z3 z4 a=>by kernel_rfl:∀ z0 z1 z2 z3 z4,EntryIs0 ctx PP 115 [] [(100,Uh z0),(46,Qg z1),(52,Xg z2),(155,N9 z3),(156,Dn z4)] cv40 cv41 fun a=>E_impl_DoAct z0 z1 z2 z3 z4 a.1 a.2) impl_fileAt impl_DiskOk impl_copyDisk impl_Disk_putFile impl_Disk_dropFile)
noncomputable def Qw {γ:Type} (F:Vh):Hd ctx γ:=hdl cv40.dec (fun a=>F a.1 a.2) cv41.enc
abbrev Gn:=SDisk→(List SAct)→Option (SDisk×Int)
inductive Xc where
 | c0 (list_1:(List SAct)) (v_13:(List SAct)) (v_14:Int) (v_15:Int) (v_4r0:(List SFile)) (out_6r0:(List SFile))
noncomputable def Rw:Xc→LI
 | .c0 list_1 v_13 v_14 v_15 v_4r0 out_6r0=>(tdo Tryz.f70 232,[(1,[.one (.rsl 156 list_1)]),(4,[.one (.ptr 256 0)]),(6,[.one (.ptr 384 0)]),(13,[.one (.rsl 156 v_13)]),(14,[.one (.int .i64 v_14)]),(15,[.one (.int .i64 v_15)])],[(256,.var [.own 1016384]),(384,.var [.own 1024576]),(1016384,.sl 148 v_4r0),(1024576,.sl 148 out_6r0)])
noncomputable def E_impl_DoActs (z0:JZ) (z1:Vh) (k:Xc→Option (SDisk×Int)) (d_0:SDisk) (list_1:(List SAct)):Option (SDisk×Int):=
 (z0 d_0).bind fun r0=>
 k (.c0 list_1 list_1 (list_1.length:Int) 0 [] r0.fFiles)
noncomputable def B_impl_DoActs (z0:JZ) (z1:Vh) (k:Xc→Option (SDisk×Int)):Xc→Option (SDisk×Int)
 | .c0 list_1 v_13 v_14 v_15 v_4r0 out_6r0=>
 bif (decide (v_15<v_14)) then
  bif ((decide (0≤v_15)) && (decide (v_15<(v_13.length:Int)))) then
  (z1 ⟨out_6r0⟩ (v_13.getD v_15.toNat (⟨0,⟨#[]⟩,⟨#[]⟩,⟨#[]⟩⟩:SAct))).bind fun r0=>
  bif (!r0.2) then
  some (⟨out_6r0⟩,v_15)
  else
  k (.c0 list_1 v_13 v_14 (w64 (v_15+1)) v_4r0 r0.1.fFiles)
  else none
 else
  some (⟨out_6r0⟩,(list_1.length:Int))
noncomputable def L_impl_DoActs:Nat→Xc→Option (SDisk×Int)
 | 0,_=>none
 | m+1,s=>B_impl_DoActs impl_copyDisk impl_DoAct (L_impl_DoActs m) s
noncomputable def impl_DoActs:Gn:=E_impl_DoActs impl_copyDisk impl_DoAct (L_impl_DoActs gas)
theorem P9:Tells ctx PP 70 cv42 cv43 (fun a=>impl_DoActs a.1 a.2):=
 have b:∀ z0 z1,CutIs ctx PP 70 Tryz.f70 [] [(52,Xg z0),(115,Qw z1)] cv43 Rw (B_impl_DoActs z0 z1):=fun z0 z1 _ s=>by cases s <;> kernel_rfl
 have e:∀ z0 z1,EntryIs ctx PP 70 [] [(52,Xg z0),(115,Qw z1)] cv42 cv43 Rw (fun k a=>E_impl_DoActs z0 z1 k a.1 a.2):=fun z0 z1 _ a=>by kernel_rfl
 fn_ok (hc Vk (hc O9 hl_nil)) Tryz.func70 (fun s s' h=>by cases s;cases s';cases h;rfl) (fun _=>rfl) (fun _ _=>rfl) (b impl_copyDisk impl_DoAct) (e impl_copyDisk impl_DoAct) gas
noncomputable def Q9 {γ:Type} (F:Gn):Hd ctx γ:=hdl cv42.dec (fun a=>F a.1 a.2) cv43.enc
abbrev Na:=SBook→Option Bool
inductive Yc where
 | c0 (v_6:(List SThing)) (v_7:Int) (v_8:Int) (b_1:SBook)
noncomputable def Uw:Yc→LI
 | .c0 v_6 v_7 v_8 b_1=>(tdo Tryz.f50 104,[(1,[.one (.ptr 64 0)]),(6,[.one (.rsl 71 v_6)]),(7,[.one (.int .i64 v_7)]),(8,[.one (.int .i64 v_8)])],[(64,.var [.str b_1.fWord,.int .i64 b_1.fTries,.rsl 71 b_1.fThings,.int .i64 b_1.fLast,.str b_1.fChain,.int .i64 b_1.fCount])])
noncomputable def E_impl_BookOk (z0:Zb) (z1:TB) (k:Yc→Option Bool) (b_0:SBook):Option Bool:=
 k (.c0 b_0.fThings (b_0.fThings.length:Int) 0 b_0)
noncomputable def B_impl_BookOk (z0:Zb) (z1:TB) (k:Yc→Option Bool):Yc→Option Bool
 | .c0 v_6 v_7 v_8 b_1=>
 bif (decide (v_8<v_7)) then
  bif ((decide (0≤v_8)) && (decide (v_8<(v_6.length:Int)))) then
  (z0 (v_6.getD v_8.toNat (⟨0,0,false,false,false,false,⟨#[]⟩,0⟩:SThing))).bind fun r0=>
  bif (!r0) then
  some false
  else
  bif (decide ((v_6.getD v_8.toNat (⟨0,0,false,false,false,false,⟨#[]⟩,0⟩:SThing)).fId > b_1.fLast)) then
   some false
  else
   bif (decide (v_8 > 0)) then
   bif ((decide (0≤(w64 (v_8 - 1)))) && (decide ((w64 (v_8 - 1))<(b_1.fThings.length:Int)))) then
   bif (decide ((b_1.fThings.getD (w64 (v_8 - 1)).toNat (⟨0,0,false,false,false,false,⟨#[]⟩,0⟩:SThing)).fId≥(v_6.getD v_8.toNat (⟨0,0,false,false,false,false,⟨#[]⟩,0⟩:SThing)).fId)) then
    some false
   else
    k (.c0 v_6 v_7 (w64 (v_8+1)) b_1)
   else none
   else
   k (.c0 v_6 v_7 (w64 (v_8+1)) b_1)
  else none
 else
  bif ((b_1.fWord.size:Int) == 32) then
  bif ((b_1.fChain.size:Int) == 32) then
   (z1 b_1.fTries 0 3).bind fun r1=>
   bif r1 then
   bif (decide ((b_1.fThings.length:Int)≤8)) then
    (z1 b_1.fLast 0 1000).bind fun r2=>
    bif r2 then
    (z1 b_1.fCount 0 10000).bind fun r3=>
    some r3
    else
    some false
   else
    some false
   else
   some false
  else
   some false
  else
  some false
noncomputable def L_impl_BookOk:Nat→Yc→Option Bool
 | 0,_=>none
 | m+1,s=>B_impl_BookOk impl_ThingOk impl_in (L_impl_BookOk m) s
noncomputable def impl_BookOk:Na:=E_impl_BookOk impl_ThingOk impl_in (L_impl_BookOk gas)
theorem Tt:Tells ctx PP 50 cv44 cv1 (fun a=>impl_BookOk a):=
 have b:∀ z0 z1,CutIs ctx PP 50 Tryz.f50 [] [(101,Em z0),(47,IK z1)] cv1 Uw (B_impl_BookOk z0 z1):=fun z0 z1 _ s=>by cases s <;> kernel_rfl
 have e:∀ z0 z1,EntryIs ctx PP 50 [] [(101,Em z0),(47,IK z1)] cv44 cv1 Uw (fun k a=>E_impl_BookOk z0 z1 k a):=fun z0 z1 _ a=>by kernel_rfl
 fn_ok (hc Fv (hc FN hl_nil)) Tryz.func50 (fun s s' h=>by cases s;cases s';(repeat cases ‹SBook›);cases h;rfl) (fun _=>rfl) (fun _ _=>rfl) (b impl_ThingOk impl_in) (e impl_ThingOk impl_in) gas
noncomputable def Ij {γ:Type} (F:Na):Hd ctx γ:=hdl cv44.dec (fun a=>F a) cv1.enc
abbrev Ad:=SBook→Option SBook
noncomputable def E_impl_copyBook (b_0:SBook):Option SBook:=
 bif (decide ((b_0.fThings.length*48)≤140737488355328)) then
 some b_0
 else none
noncomputable def impl_copyBook:Ad:=E_impl_copyBook
theorem Vw:Tells ctx PP 116 cv44 cv24 (fun a=>impl_copyBook a):=fn_ok0 hl_nil Tryz.func116 (fun a=>by kernel_rfl:EntryIs0 ctx PP 116 [] [] cv44 cv24 fun a=>E_impl_copyBook a)
noncomputable def Pn {γ:Type} (F:Ad):Hd ctx γ:=hdl cv44.dec (fun a=>F a) cv24.enc
abbrev Bd:=SBook→Int→Option Int
inductive Ed where
 | c0 (id_1:Int) (v_8:(List SThing)) (v_9:Int) (v_10:Int)
noncomputable def Xw:Ed→LI
 | .c0 id_1 v_8 v_9 v_10=>(tdo Tryz.f87 104,[(1,[.one (.int .i64 id_1)]),(8,[.one (.rsl 71 v_8)]),(9,[.one (.int .i64 v_9)]),(10,[.one (.int .i64 v_10)])],[])
noncomputable def Yw (k:Ed→Option Int) (b_0:SBook) (id_1:Int):Option Int:=
 k (.c0 id_1 b_0.fThings (b_0.fThings.length:Int) 0)
noncomputable def B_impl_thingAt (k:Ed→Option Int):Ed→Option Int
 | .c0 id_1 v_8 v_9 v_10=>
 bif (decide (v_10<v_9)) then
  bif ((decide (0≤v_10)) && (decide (v_10<(v_8.length:Int)))) then
  bif ((v_8.getD v_10.toNat (⟨0,0,false,false,false,false,⟨#[]⟩,0⟩:SThing)).fId == id_1) then
  some v_10
  else
  k (.c0 id_1 v_8 v_9 (w64 (v_10+1)))
  else none
 else
  some (-(1:Int))
noncomputable def L_impl_thingAt:Nat→Ed→Option Int
 | 0,_=>none
 | m+1,s=>B_impl_thingAt (L_impl_thingAt m) s
noncomputable def impl_thingAt:Bd:=Yw (L_impl_thingAt gas)
theorem Qn:Tells ctx PP 87 cv45 cv7 (fun a=>impl_thingAt a.1 a.2):=
 have b:CutIs ctx PP 87 Tryz.f87 [] [] cv7 Xw (B_impl_thingAt):=fun _ s=>by cases s <;> kernel_rfl
 have e:EntryIs ctx PP 87 [] [] cv45 cv7 Xw (fun k a=>Yw k a.1 a.2):=fun _ a=>by kernel_rfl
 fn_ok hl_nil Tryz.func87 (fun s s' h=>by cases s;cases s';cases h;rfl) (fun _=>rfl) (fun _ _=>rfl) b e gas
noncomputable def Rn {γ:Type} (F:Bd):Hd ctx γ:=hdl cv45.dec (fun a=>F a.1 a.2) cv7.enc
abbrev Tn:=SThing→SThing→Option Bool
noncomputable def E_impl_follows (x_0:SThing) (y_1:SThing):Option Bool:=
 bif (y_1.fKind == x_0.fKind) then
 bif ((ByteArray.toList y_1.fValue) == (ByteArray.toList x_0.fValue)) then
  bif (y_1.fSigns == x_0.fSigns) then
  bif (y_1.fWraps == x_0.fWraps) then
   bif (decide (y_1.fNext≥x_0.fNext)) then
   bif y_1.fHidden then
    bif y_1.fFixed then
    some true
    else
    some (!x_0.fFixed)
   else
    bif (!x_0.fHidden) then
    bif y_1.fFixed then
     some true
    else
     some (!x_0.fFixed)
    else
    some false
   else
   some false
  else
   some false
  else
  some false
 else
  some false
 else
 some false
noncomputable def impl_follows:Tn:=E_impl_follows
theorem S9:Tells ctx PP 157 cv46 cv1 (fun a=>impl_follows a.1 a.2):=fn_ok0 hl_nil Tryz.func157 (fun a=>by kernel_rfl:EntryIs0 ctx PP 157 [] [] cv46 cv1 fun a=>E_impl_follows a.1 a.2)
noncomputable def U9 {γ:Type} (F:Tn):Hd ctx γ:=hdl cv46.dec (fun a=>F a.1 a.2) cv1.enc
abbrev Un:=SBook→SThing→Option (Bool×SBook)
noncomputable def E_impl_Book_thing (z0:Bd) (z1:Tn) (b_0:SBook) (x_1:SThing):Option (Bool×SBook):=
 (z0 b_0 x_1.fId).bind fun r0=>
 bif (decide (r0≥0)) then
 bif ((decide (0≤r0)) && (decide (r0<(b_0.fThings.length:Int)))) then
 (z1 (b_0.fThings.getD r0.toNat (⟨0,0,false,false,false,false,⟨#[]⟩,0⟩:SThing)) x_1).bind fun r1=>
 bif (!r1) then
  some (false,b_0)
 else
  bif ((decide (0≤r0)) && (decide (r0<(b_0.fThings.length:Int)))) then
  some (true,⟨b_0.fWord,b_0.fTries,(b_0.fThings.set r0.toNat x_1),b_0.fLast,b_0.fChain,b_0.fCount⟩)
  else none
 else none
 else
 bif (x_1.fId != (w64 (b_0.fLast+1))) then
  some (false,b_0)
 else
  bif (decide ((b_0.fThings.length:Int)≥8)) then
  some (false,b_0)
  else
  bif (decide (((b_0.fThings.length+1)*48)≤140737488355328)) then
  some (true,⟨b_0.fWord,b_0.fTries,(b_0.fThings++[x_1]),x_1.fId,b_0.fChain,b_0.fCount⟩)
  else none
noncomputable def impl_Book_thing:Un:=E_impl_Book_thing impl_thingAt impl_follows
theorem V9:Tells ctx PP 117 cv47 cv48 (fun a=>impl_Book_thing a.1 a.2):=fn_ok0 (hc Qn (hc S9 hl_nil)) Tryz.func117 ((fun z0 z1 a=>by kernel_rfl:∀ z0 z1,EntryIs0 ctx PP 117 [0] [(87,Rn z0),(157,U9 z1)] cv47 cv48 fun a=>E_impl_Book_thing z0 z1 a.1 a.2) impl_thingAt impl_follows)
noncomputable def W9 {γ:Type} (F:Un):Hd ctx γ:=hdl cv47.dec (fun a=>F a.1 a.2) cv48.enc
abbrev Jd:=SBook→SRec→Option (SBook×Bool)
noncomputable def E_impl_Enter (z0:Bc) (z1:Na) (z2:Ad) (z3:Un) (z4:Bd) (z5:PY) (b_0:SBook) (r_1:SRec):Option (SBook×Bool):=
 (z0 r_1).bind fun r0=>
 (z1 b_0).bind fun r1=>
 bif (!r1) then
 some (⟨⟨#[]⟩,0,[],0,⟨#[]⟩,0⟩,false)
 else
 bif (!r0.2) then
  some (⟨⟨#[]⟩,0,[],0,⟨#[]⟩,0⟩,false)
 else
  bif (decide (b_0.fCount≥10000)) then
  some (⟨⟨#[]⟩,0,[],0,⟨#[]⟩,0⟩,false)
  else
  (z2 b_0).bind fun r2=>
  bif (r_1.fKind == 1) then
   bif (decide ((b_0.fChain.size+r0.1.size)≤9223372036854775807)) then
   (z5 (b_0.fChain++r0.1)).bind fun r3=>
   some (⟨r_1.fText,0,r2.fThings,r2.fLast,r3,(w64 (r2.fCount+1))⟩,true)
   else none
  else
   bif (r_1.fKind == 2) then
   bif (decide ((b_0.fChain.size+r0.1.size)≤9223372036854775807)) then
   (z5 (b_0.fChain++r0.1)).bind fun r4=>
   some (⟨r2.fWord,r_1.fNum,r2.fThings,r2.fLast,r4,(w64 (r2.fCount+1))⟩,true)
   else none
   else
   bif (r_1.fKind == 3) then
    (z3 r2 r_1.fThing).bind fun r5=>
    bif (!r5.1) then
    some (⟨⟨#[]⟩,0,[],0,⟨#[]⟩,0⟩,false)
    else
    bif (decide ((b_0.fChain.size+r0.1.size)≤9223372036854775807)) then
    (z5 (b_0.fChain++r0.1)).bind fun r6=>
    some (⟨r5.2.fWord,r5.2.fTries,r5.2.fThings,r5.2.fLast,r6,(w64 (r5.2.fCount+1))⟩,true)
    else none
   else
    bif (r_1.fKind == 4) then
    (z4 b_0 r_1.fNum).bind fun r7=>
    bif (decide (r7<0)) then
     some (⟨⟨#[]⟩,0,[],0,⟨#[]⟩,0⟩,false)
    else
     bif ((decide (0≤r7)) && (decide (r7≤(b_0.fThings.length:Int)))) then
     bif (decide ((((b_0.fThings.take r7.toNat).drop 0).length*48)≤140737488355328)) then
     bif ((decide (0≤(w64 (r7+1)))) && (decide ((w64 (r7+1))≤(b_0.fThings.length:Int)))) then
     bif (decide (((((b_0.fThings.take r7.toNat).drop 0).length+((b_0.fThings.take b_0.fThings.length).drop (w64 (r7+1)).toNat).length)*48)≤140737488355328)) then
     bif (decide ((b_0.fChain.size+r0.1.size)≤9223372036854775807)) then
     (z5 (b_0.fChain++r0.1)).bind fun r8=>
     some (⟨r2.fWord,r2.fTries,(((b_0.fThings.take r7.toNat).drop 0)++((b_0.fThings.take b_0.fThings.length).drop (w64 (r7+1)).toNat)),r2.fLast,r8,(w64 (r2.fCount+1))⟩,true)
     else none
     else none
     else none
     else none
     else none
    else
    bif (decide ((b_0.fChain.size+r0.1.size)≤9223372036854775807)) then
    (z5 (b_0.fChain++r0.1)).bind fun r9=>
    some (⟨r2.fWord,r2.fTries,r2.fThings,r2.fLast,r9,(w64 (r2.fCount+1))⟩,true)
    else none
noncomputable def impl_Enter:Jd:=E_impl_Enter impl_RecText impl_BookOk impl_copyBook impl_Book_thing impl_thingAt impl_DigestOf
theorem Zw:Tells ctx PP 71 cv49 cv50 (fun a=>impl_Enter a.1 a.2):=fn_ok0 (hc Om (hc Tt (hc Vw (hc V9 (hc Qn (hc GZ hl_nil)))))) Tryz.func71 ((fun z0 z1 z2 z3 z4 z5 a=>by kernel_rfl:∀ z0 z1 z2 z3 z4 z5,EntryIs0 ctx PP 71 [] [(112,Pm z0),(50,Ij z1),(116,Pn z2),(117,W9 z3),(87,Rn z4),(25,IZ z5)] cv49 cv50 fun a=>E_impl_Enter z0 z1 z2 z3 z4 z5 a.1 a.2) impl_RecText impl_BookOk impl_copyBook impl_Book_thing impl_thingAt impl_DigestOf)
noncomputable def Wn {γ:Type} (F:Jd):Hd ctx γ:=hdl cv49.dec (fun a=>F a.1 a.2) cv50.enc
abbrev Xn:=SBox→SRec→Option (Bool×SBox)
noncomputable def E_impl_Box_enter (z0:Zm) (z1:Gn) (z2:Jd) (b_0:SBox) (r_1:SRec):Option (Bool×SBox):=
 (z0 b_0.fKey b_0.fBook.fCount r_1).bind fun r0=>
 (z1 b_0.fDisk r0.1).bind fun r1=>
 (z2 b_0.fBook r_1).bind fun r2=>
 bif (!r0.2) then
 some (false,b_0)
 else
 bif (!r2.2) then
  some (false,b_0)
 else
  bif (decide (r1.2<(r0.1.length:Int))) then
  some (false,b_0)
  else
  some (true,⟨b_0.fKey,b_0.fUp,r1.1,r2.1,b_0.fSessions,b_0.fLives,b_0.fOpened⟩)
noncomputable def impl_Box_enter:Xn:=E_impl_Box_enter impl_BookActs impl_DoActs impl_Enter
theorem X9:Tells ctx PP 33 cv51 cv52 (fun a=>impl_Box_enter a.1 a.2):=fn_ok0 (hc I9 (hc P9 (hc Zw hl_nil))) Tryz.func33 ((fun z0 z1 z2 a=>by kernel_rfl:∀ z0 z1 z2,EntryIs0 ctx PP 33 [0] [(69,J9 z0),(70,Q9 z1),(71,Wn z2)] cv51 cv52 fun a=>E_impl_Box_enter z0 z1 z2 a.1 a.2) impl_BookActs impl_DoActs impl_Enter)
noncomputable def Y9 {γ:Type} (F:Xn):Hd ctx γ:=hdl cv51.dec (fun a=>F a.1 a.2) cv52.enc
abbrev Bl:=ByteArray→ByteArray→Option (SBox×Bool)
noncomputable def E_impl_BoxNew (z0:VY) (z1:PY) (z2:Xn) (key_0:ByteArray) (word_1:ByteArray):Option (SBox×Bool):=
 bif ((key_0.size:Int) != 32) then
 some (⟨⟨#[]⟩,false,⟨[]⟩,⟨⟨#[]⟩,0,[],0,⟨#[]⟩,0⟩,[],[],0⟩,false)
 else
 bif (decide ((word_1.size:Int) > 20)) then
  some (⟨⟨#[]⟩,false,⟨[]⟩,⟨⟨#[]⟩,0,[],0,⟨#[]⟩,0⟩,[],[],0⟩,false)
 else
  z0.bind fun r0=>
  (z1 word_1).bind fun r1=>
  (z2 ⟨key_0,true,⟨[]⟩,r0,[],[],0⟩ ⟨1,r1,0,⟨0,0,false,false,false,false,⟨#[]⟩,0⟩⟩).bind fun r2=>
  some (r2.2,true)
noncomputable def impl_BoxNew:Bl:=E_impl_BoxNew impl_BookNew impl_DigestOf impl_Box_enter
theorem Y6:Tells ctx PP 12 cv29 cv53 (fun a=>impl_BoxNew a.1 a.2):=fn_ok0 (hc Ug (hc GZ (hc X9 hl_nil))) Tryz.func12 ((fun z0 z1 z2 a=>by kernel_rfl:∀ z0 z1 z2,EntryIs0 ctx PP 12 [] [(32,Oa z0),(25,IZ z1),(33,Y9 z2)] cv29 cv53 fun a=>E_impl_BoxNew z0 z1 z2 a.1 a.2) impl_BookNew impl_DigestOf impl_Box_enter)
noncomputable def H7 {γ:Type} (F:Bl):Hd ctx γ:=hdl cv29.dec (fun a=>F a.1 a.2) cv53.enc
abbrev Yn:=Option (List Int)
noncomputable def Dx  : Option (List Int):=
 some [1779033703,3144134277,1013904242,2773480762,1359893119,2600822924,528734635,1541459225]
noncomputable def spec_l05First:Yn:=Dx
theorem Z9:Tells ctx PP 58 cv10 cv11 (fun _=>spec_l05First):=fn_ok0 hl_nil Tryz.func58 (fun _=>by kernel_rfl:EntryIs0 ctx PP 58 [] [] cv10 cv11 fun _=>Dx)
noncomputable def AAA {γ:Type} (F:Yn):Hd ctx γ:=hdl cv10.dec (fun _=>F) cv11.enc
abbrev WY:=(List Int)→Option ByteArray
inductive Ld where
 | c0 (words_0:(List Int)) (i_4:Int) (out_3:(List Int))
noncomputable def Gx:Ld→LI
 | .c0 words_0 i_4 out_3=>(tdo Tryz.f57 464,[(0,[.one (.rsl 109 words_0)]),(3,[.one (.own 240)]),(4,[.one (.int .i64 i_4)])],[(240,.sl 5 out_3)])
noncomputable def Ox (k:Ld→Option ByteArray) (words_0:(List Int)):Option ByteArray:=
 k (.c0 words_0 0 [])
noncomputable def B_spec_l05Bytes (k:Ld→Option ByteArray):Ld→Option ByteArray
 | .c0 words_0 i_4 out_3=>
 bif (decide (i_4<(words_0.length:Int))) then
  bif ((decide (0≤i_4)) && (decide (i_4<(words_0.length:Int)))) then
  bif (decide (((out_3.length+4)*1)≤140737488355328)) then
  k (.c0 words_0 (w64 (i_4+1)) (out_3++[(w8 (w32 ((words_0.getD i_4.toNat 0).tdiv 16777216))),(w8 ((w32 ((words_0.getD i_4.toNat 0).tdiv 65536)).tmod 256)),(w8 ((w32 ((words_0.getD i_4.toNat 0).tdiv 256)).tmod 256)),(w8 ((words_0.getD i_4.toNat 0).tmod 256))]))
  else none
  else none
 else
  some (ofBytes out_3)
noncomputable def L_spec_l05Bytes:Nat→Ld→Option ByteArray
 | 0,_=>none
 | m+1,s=>B_spec_l05Bytes (L_spec_l05Bytes m) s
noncomputable def spec_l05Bytes:WY:=Ox (L_spec_l05Bytes gas)
theorem Zn:Tells ctx PP 57 cv12 cv9 (fun a=>spec_l05Bytes a):=
 have b:CutIs ctx PP 57 Tryz.f57 [] [] cv9 Gx (B_spec_l05Bytes):=fun _ s=>by cases s <;> kernel_rfl
 have e:EntryIs ctx PP 57 [] [] cv12 cv9 Gx (fun k a=>Ox k a):=fun _ a=>by kernel_rfl
 fn_ok hl_nil Tryz.func57 (fun s s' h=>by cases s;cases s';cases h;rfl) (fun _=>rfl) (fun _ _=>rfl) b e gas
noncomputable def Md {γ:Type} (F:WY):Hd ctx γ:=hdl cv12.dec (fun a=>F a) cv9.enc
abbrev Bo:=Option SHasher
noncomputable def E_spec_HasherNew (z0:Yn) (z1:WY)  : Option SHasher:=
 z0.bind fun r0=>
 (z1 r0).bind fun r1=>
 some ⟨r1,⟨#[]⟩,0⟩
noncomputable def spec_HasherNew:Bo:=E_spec_HasherNew spec_l05First spec_l05Bytes
theorem BAA:Tells ctx PP 23 cv10 cv13 (fun _=>spec_HasherNew):=fn_ok0 (hc Z9 (hc Zn hl_nil)) Tryz.func23 ((fun z0 z1 _=>by kernel_rfl:∀ z0 z1,EntryIs0 ctx PP 23 [] [(58,AAA z0),(57,Md z1)] cv10 cv13 fun _=>E_spec_HasherNew z0 z1) spec_l05First spec_l05Bytes)
noncomputable def CAA {γ:Type} (F:Bo):Hd ctx γ:=hdl cv10.dec (fun _=>F) cv13.enc
abbrev NM:=Int→Int→Int→Option Bool
noncomputable def Px (x_0:Int) (least_1:Int) (most_2:Int):Option Bool:=
 bif (decide (x_0≥least_1)) then
 some (decide (x_0≤most_2))
 else
 some false
noncomputable def spec_l01In:NM:=Px
theorem CV:Tells ctx PP 102 cv14 cv1 (fun a=>spec_l01In a.1 a.2.1 a.2.2):=fn_ok0 hl_nil Tryz.func102 (fun a=>by kernel_rfl:EntryIs0 ctx PP 102 [] [] cv14 cv1 fun a=>Px a.1 a.2.1 a.2.2)
noncomputable def SN {γ:Type} (F:NM):Hd ctx γ:=hdl cv14.dec (fun a=>F a.1 a.2.1 a.2.2) cv1.enc
abbrev UZ:=SHasher→Option Bool
noncomputable def E_spec_HasherOk (z0:NM) (h_0:SHasher):Option Bool:=
 bif ((h_0.fState.size:Int) == 32) then
 bif (decide ((h_0.fRest.size:Int)<64)) then
  (z0 h_0.fCount 0 1000000000).bind fun r0=>
  bif r0 then
  some ((h_0.fCount.tmod 64) == (h_0.fRest.size:Int))
  else
  some false
 else
  some false
 else
 some false
noncomputable def spec_HasherOk:UZ:=E_spec_HasherOk spec_l01In
theorem Qx:Tells ctx PP 53 cv13 cv1 (fun a=>spec_HasherOk a):=fn_ok0 (hc CV hl_nil) Tryz.func53 ((fun z0 a=>by kernel_rfl:∀ z0,EntryIs0 ctx PP 53 [] [(102,SN z0)] cv13 cv1 fun a=>E_spec_HasherOk z0 a) spec_l01In)
noncomputable def Wh {γ:Type} (F:UZ):Hd ctx γ:=hdl cv13.dec (fun a=>F a) cv1.enc
abbrev Xh:=ByteArray→Int→Option Int
noncomputable def E_spec_l05Word (s_0:ByteArray) (at_1:Int):Option Int:=
 bif ((decide (0≤at_1)) && (decide (at_1<(s_0.size:Int)))) then
 bif ((decide (0≤(w64 (at_1+1)))) && (decide ((w64 (at_1+1))<(s_0.size:Int)))) then
 bif ((decide (0≤(w64 (at_1+2)))) && (decide ((w64 (at_1+2))<(s_0.size:Int)))) then
 bif ((decide (0≤(w64 (at_1+3)))) && (decide ((w64 (at_1+3))<(s_0.size:Int)))) then
 some (w32 ((w32 ((w32 ((w32 ((w32 (bt s_0 at_1))*16777216))+(w32 ((w32 (bt s_0 (w64 (at_1+1))))*65536))))+(w32 ((w32 (bt s_0 (w64 (at_1+2))))*256))))+(w32 (bt s_0 (w64 (at_1+3))))))
 else none
 else none
 else none
 else none
noncomputable def spec_l05Word:Xh:=E_spec_l05Word
theorem DAA:Tells ctx PP 103 cv15 cv16 (fun a=>spec_l05Word a.1 a.2):=fn_ok0 hl_nil Tryz.func103 (fun a=>by kernel_rfl:EntryIs0 ctx PP 103 [] [] cv15 cv16 fun a=>E_spec_l05Word a.1 a.2)
noncomputable def Rx {γ:Type} (F:Xh):Hd ctx γ:=hdl cv15.dec (fun a=>F a.1 a.2) cv16.enc
abbrev TY:=ByteArray→Option (List Int)
inductive Qd where
 | c0 (s_0:ByteArray) (i_4:Int) (out_3:(List Int))
noncomputable def Ux:Qd→LI
 | .c0 s_0 i_4 out_3=>(tdo Tryz.f54 464,[(0,[.one (.str s_0)]),(3,[.one (.own 240)]),(4,[.one (.int .i64 i_4)])],[(240,.sl 109 out_3)])
noncomputable def Vx (z0:Xh) (k:Qd→Option (List Int)) (s_0:ByteArray):Option (List Int):=
 k (.c0 s_0 0 [])
noncomputable def B_spec_l05Words (z0:Xh) (k:Qd→Option (List Int)):Qd→Option (List Int)
 | .c0 s_0 i_4 out_3=>
 bif (decide ((w64 (i_4+4))≤(s_0.size:Int))) then
  (z0 s_0 i_4).bind fun r0=>
  bif (decide (((out_3.length+1)*4)≤140737488355328)) then
  k (.c0 s_0 (w64 (i_4+4)) (out_3++[r0]))
  else none
 else
  some out_3
noncomputable def L_spec_l05Words:Nat→Qd→Option (List Int)
 | 0,_=>none
 | m+1,s=>B_spec_l05Words spec_l05Word (L_spec_l05Words m) s
noncomputable def spec_l05Words:TY:=Vx spec_l05Word (L_spec_l05Words gas)
theorem Eo:Tells ctx PP 54 cv9 cv11 (fun a=>spec_l05Words a):=
 have b:∀ z0,CutIs ctx PP 54 Tryz.f54 [] [(103,Rx z0)] cv11 Ux (B_spec_l05Words z0):=fun z0 _ s=>by cases s <;> kernel_rfl
 have e:∀ z0,EntryIs ctx PP 54 [] [(103,Rx z0)] cv9 cv11 Ux (fun k a=>Vx z0 k a):=fun z0 _ a=>by kernel_rfl
 fn_ok (hc DAA hl_nil) Tryz.func54 (fun s s' h=>by cases s;cases s';cases h;rfl) (fun _=>rfl) (fun _ _=>rfl) (b spec_l05Word) (e spec_l05Word) gas
noncomputable def VZ {γ:Type} (F:TY):Hd ctx γ:=hdl cv9.dec (fun a=>F a) cv11.enc
abbrev WZ:=Option (List Int)
noncomputable def Wx  : Option (List Int):=
 some [1116352408,1899447441,3049323471,3921009573,961987163,1508970993,2453635748,2870763221,3624381080,310598401,607225278,1426881987,1925078388,2162078206,2614888103,3248222580,3835390401,4022224774,264347078,604807628,770255983,1249150122,1555081692,1996064986,2554220882,2821834349,2952996808,3210313671,3336571891,3584528711,113926993,338241895,666307205,773529912,1294757372,1396182291,1695183700,1986661051,2177026350,2456956037,2730485921,2820302411,3259730800,3345764771,3516065817,3600352804,4094571909,275423344,430227734,506948616,659060556,883997877,958139571,1322822218,1537002063,1747873779,1955562222,2024104815,2227730452,2361852424,2428436474,2756734187,3204031479,3329325298]
noncomputable def spec_l05K:WZ:=Wx
theorem Xx:Tells ctx PP 55 cv10 cv11 (fun _=>spec_l05K):=fn_ok0 hl_nil Tryz.func55 (fun _=>by kernel_rfl:EntryIs0 ctx PP 55 [] [] cv10 cv11 fun _=>Wx)
noncomputable def Yh {γ:Type} (F:WZ):Hd ctx γ:=hdl cv10.dec (fun _=>F) cv11.enc
abbrev Ho:=Int→Int→Int→Option Int
noncomputable def E_spec_l05Right (x_0:Int) (low_1:Int) (high_2:Int):Option Int:=
 bif (!(low_1 == 0)) then
 bif (!(low_1 == 0)) then
 some (w32 ((w32 (x_0.tdiv low_1))+(w32 ((x_0.tmod low_1)*high_2))))
 else none
 else none
noncomputable def spec_l05Right:Ho:=E_spec_l05Right
theorem EAA:Tells ctx PP 147 cv17 cv16 (fun a=>spec_l05Right a.1 a.2.1 a.2.2):=fn_ok0 hl_nil Tryz.func147 (fun a=>by kernel_rfl:EntryIs0 ctx PP 147 [] [] cv17 cv16 fun a=>E_spec_l05Right a.1 a.2.1 a.2.2)
noncomputable def FAA {γ:Type} (F:Ho):Hd ctx γ:=hdl cv17.dec (fun a=>F a.1 a.2.1 a.2.2) cv16.enc
abbrev Zh:=Int→Int→Int→Int→Bool→Option Int
noncomputable def E_spec_l05S (z0:Ho) (x_0:Int) (a_1:Int) (b_2:Int) (c_3:Int) (last_4:Bool):Option Int:=
 bif (!(a_1 == 0)) then
 (z0 x_0 a_1 (w32 ((w32 ((2147483648:Int).tdiv a_1))*2))).bind fun r0=>
 bif (!(b_2 == 0)) then
 (z0 x_0 b_2 (w32 ((w32 ((2147483648:Int).tdiv b_2))*2))).bind fun r1=>
 bif (!(c_3 == 0)) then
 bif (!last_4) then
 bif (!(c_3 == 0)) then
 (z0 x_0 c_3 (w32 ((w32 ((2147483648:Int).tdiv c_3))*2))).bind fun r2=>
 some (w32 (((BitVec.toNat ((BitVec.ofInt (IntKind.bits IntKind.u32) (w32 (((BitVec.toNat ((BitVec.ofInt (IntKind.bits IntKind.u32) r0) ^^^ (BitVec.ofInt (IntKind.bits IntKind.u32) r1))):Nat):Int))) ^^^ (BitVec.ofInt (IntKind.bits IntKind.u32) r2))):Nat):Int))
 else none
 else
 some (w32 (((BitVec.toNat ((BitVec.ofInt (IntKind.bits IntKind.u32) (w32 (((BitVec.toNat ((BitVec.ofInt (IntKind.bits IntKind.u32) r0) ^^^ (BitVec.ofInt (IntKind.bits IntKind.u32) r1))):Nat):Int))) ^^^ (BitVec.ofInt (IntKind.bits IntKind.u32) (w32 (x_0.tdiv c_3))))):Nat):Int))
 else none
 else none
 else none
noncomputable def spec_l05S:Zh:=E_spec_l05S spec_l05Right
theorem GAA:Tells ctx PP 104 cv18 cv16 (fun a=>spec_l05S a.1 a.2.1 a.2.2.1 a.2.2.2.1 a.2.2.2.2):=fn_ok0 (hc EAA hl_nil) Tryz.func104 ((fun z0 a=>by kernel_rfl:∀ z0,EntryIs0 ctx PP 104 [] [(147,FAA z0)] cv18 cv16 fun a=>E_spec_l05S z0 a.1 a.2.1 a.2.2.1 a.2.2.2.1 a.2.2.2.2) spec_l05Right)
noncomputable def Yx {γ:Type} (F:Zh):Hd ctx γ:=hdl cv18.dec (fun a=>F a.1 a.2.1 a.2.2.1 a.2.2.2.1 a.2.2.2.2) cv16.enc
abbrev XZ:=(List Int)→(List Int)→ByteArray→Option (List Int)
inductive Td where
 | c0 (t_0:(List Int)) (o_1:(List Int)) (v_8:Int) (v_7:(List Int))
 | c1 (t_0:(List Int)) (o_1:(List Int)) (v_10:Int) (v_7:(List Int)) (v_9:(List Int))
 | c2 (t_0:(List Int)) (o_1:(List Int)) (v_10:Int) (v_13:Int) (v_15:Int) (v_16:Int) (v_7:(List Int)) (v_9:(List Int))
 | c3 (t_0:(List Int)) (v_18:Int) (v_9:(List Int)) (v_17:(List Int))
noncomputable def Zx:Td→LI
 | .c0 t_0 o_1 v_8 v_7=>(tdo Tryz.f56 464,[(0,[.one (.rsl 109 t_0)]),(1,[.one (.rsl 109 o_1)]),(7,[.one (.own 496)]),(8,[.one (.int .i64 v_8)])],[(496,.sl 109 v_7)])
 | .c1 t_0 o_1 v_10 v_7 v_9=>(tdo Tryz.f56 2000,[(0,[.one (.rsl 109 t_0)]),(1,[.one (.rsl 109 o_1)]),(7,[.one (.own 496)]),(9,[.one (.own 624)]),(10,[.one (.int .i64 v_10)])],[(496,.sl 109 v_7),(624,.sl 109 v_9)])
 | .c2 t_0 o_1 v_10 v_13 v_15 v_16 v_7 v_9=>(tdo Tryz.f56 8202192,[(0,[.one (.rsl 109 t_0)]),(1,[.one (.rsl 109 o_1)]),(7,[.one (.own 496)]),(9,[.one (.own 624)]),(10,[.one (.int .i64 v_10)]),(13,[.one (.int .u32 v_13)]),(15,[.one (.int .u32 v_15)]),(16,[.one (.int .i64 v_16)])],[(496,.sl 109 v_7),(624,.sl 109 v_9)])
 | .c3 t_0 v_18 v_9 v_17=>(tdo Tryz.f56 8144,[(0,[.one (.rsl 109 t_0)]),(9,[.one (.own 624)]),(17,[.one (.own 1136)]),(18,[.one (.int .i64 v_18)])],[(624,.sl 109 v_9),(1136,.sl 109 v_17)])
noncomputable def E_spec_l05Round (z0:TY) (z1:Zh) (k:Td→Option (List Int)) (t_0:(List Int)) (o_1:(List Int)) (A_2:ByteArray):Option (List Int):=
 (z0 A_2).bind fun r0=>
 k (.c0 t_0 o_1 16 r0)
noncomputable def B_spec_l05Round (z0:TY) (z1:Zh) (k:Td→Option (List Int)):Td→Option (List Int)
 | .c0 t_0 o_1 v_8 v_7=>
 bif (decide (v_8<64)) then
  bif ((decide (0≤(w64 (v_8 - 2)))) && (decide ((w64 (v_8 - 2))<(v_7.length:Int)))) then
  (z1 (v_7.getD (w64 (v_8 - 2)).toNat 0) 131072 524288 1024 true).bind fun r0=>
  bif ((decide (0≤(w64 (v_8 - 7)))) && (decide ((w64 (v_8 - 7))<(v_7.length:Int)))) then
  bif ((decide (0≤(w64 (v_8 - 15)))) && (decide ((w64 (v_8 - 15))<(v_7.length:Int)))) then
  (z1 (v_7.getD (w64 (v_8 - 15)).toNat 0) 128 262144 8 true).bind fun r1=>
  bif ((decide (0≤(w64 (v_8 - 16)))) && (decide ((w64 (v_8 - 16))<(v_7.length:Int)))) then
  bif (decide (((v_7.length+1)*4)≤140737488355328)) then
  k (.c0 t_0 o_1 (w64 (v_8+1)) (v_7++[(w32 ((w32 ((w32 (r0+(v_7.getD (w64 (v_8 - 7)).toNat 0)))+r1))+(v_7.getD (w64 (v_8 - 16)).toNat 0)))]))
  else none
  else none
  else none
  else none
  else none
 else
  bif (decide (((0+t_0.length)*4)≤140737488355328)) then
  k (.c1 t_0 o_1 0 v_7 ([]++t_0))
  else none
 | .c1 t_0 o_1 v_10 v_7 v_9=>
 bif (decide (v_10<64)) then
  bif ((decide ((0:Int)≤(4:Int))) && (decide (4<(v_9.length:Int)))) then
  bif ((decide ((0:Int)≤(5:Int))) && (decide (5<(v_9.length:Int)))) then
  bif ((decide ((0:Int)≤(6:Int))) && (decide (6<(v_9.length:Int)))) then
  bif ((decide ((0:Int)≤(7:Int))) && (decide (7<(v_9.length:Int)))) then
  (z1 (v_9.getD (4:Int).toNat 0) 64 2048 33554432 false).bind fun r0=>
  bif ((decide (0≤v_10)) && (decide (v_10<(o_1.length:Int)))) then
  bif ((decide (0≤v_10)) && (decide (v_10<(v_7.length:Int)))) then
  bif ((decide ((0:Int)≤(0:Int))) && (decide (0<(v_9.length:Int)))) then
  bif ((decide ((0:Int)≤(1:Int))) && (decide (1<(v_9.length:Int)))) then
  bif ((decide ((0:Int)≤(0:Int))) && (decide (0<(v_9.length:Int)))) then
  bif ((decide ((0:Int)≤(2:Int))) && (decide (2<(v_9.length:Int)))) then
  bif ((decide ((0:Int)≤(1:Int))) && (decide (1<(v_9.length:Int)))) then
  bif ((decide ((0:Int)≤(2:Int))) && (decide (2<(v_9.length:Int)))) then
  bif ((decide ((0:Int)≤(0:Int))) && (decide (0<(v_9.length:Int)))) then
  (z1 (v_9.getD (0:Int).toNat 0) 4 8192 4194304 false).bind fun r1=>
  k (.c2 t_0 o_1 v_10 (w32 ((w32 ((w32 ((w32 ((v_9.getD (7:Int).toNat 0)+r0))+(w32 (((BitVec.toNat ((BitVec.ofInt (IntKind.bits IntKind.u32) (w32 (((BitVec.toNat ((BitVec.ofInt (IntKind.bits IntKind.u32) (v_9.getD (4:Int).toNat 0)) &&& (BitVec.ofInt (IntKind.bits IntKind.u32) (v_9.getD (5:Int).toNat 0)))):Nat):Int))) ^^^ (BitVec.ofInt (IntKind.bits IntKind.u32) (w32 (((BitVec.toNat ((BitVec.ofInt (IntKind.bits IntKind.u32) (w32 (4294967295 - (v_9.getD (4:Int).toNat 0)))) &&& (BitVec.ofInt (IntKind.bits IntKind.u32) (v_9.getD (6:Int).toNat 0)))):Nat):Int))))):Nat):Int))))+(o_1.getD v_10.toNat 0)))+(v_7.getD v_10.toNat 0))) (w32 (r1+(w32 (((BitVec.toNat ((BitVec.ofInt (IntKind.bits IntKind.u32) (w32 (((BitVec.toNat ((BitVec.ofInt (IntKind.bits IntKind.u32) (w32 (((BitVec.toNat ((BitVec.ofInt (IntKind.bits IntKind.u32) (v_9.getD (0:Int).toNat 0)) &&& (BitVec.ofInt (IntKind.bits IntKind.u32) (v_9.getD (1:Int).toNat 0)))):Nat):Int))) ^^^ (BitVec.ofInt (IntKind.bits IntKind.u32) (w32 (((BitVec.toNat ((BitVec.ofInt (IntKind.bits IntKind.u32) (v_9.getD (0:Int).toNat 0)) &&& (BitVec.ofInt (IntKind.bits IntKind.u32) (v_9.getD (2:Int).toNat 0)))):Nat):Int))))):Nat):Int))) ^^^ (BitVec.ofInt (IntKind.bits IntKind.u32) (w32 (((BitVec.toNat ((BitVec.ofInt (IntKind.bits IntKind.u32) (v_9.getD (1:Int).toNat 0)) &&& (BitVec.ofInt (IntKind.bits IntKind.u32) (v_9.getD (2:Int).toNat 0)))):Nat):Int))))):Nat):Int)))) 7 v_7 v_9)
  else none
  else none
  else none
  else none
  else none
  else none
  else none
  else none
  else none
  else none
  else none
  else none
  else none
 else
  k (.c3 t_0 0 v_9 [])
 | .c2 t_0 o_1 v_10 v_13 v_15 v_16 v_7 v_9=>
 bif (decide (v_16 > 0)) then
  bif ((decide (0≤(w64 (v_16 - 1)))) && (decide ((w64 (v_16 - 1))<(v_9.length:Int)))) then
  bif ((decide (0≤v_16)) && (decide (v_16<(v_9.length:Int)))) then
  k (.c2 t_0 o_1 v_10 v_13 v_15 (w64 (v_16 - 1)) v_7 (v_9.set v_16.toNat (v_9.getD (w64 (v_16 - 1)).toNat 0)))
  else none
  else none
 else
  bif ((decide ((0:Int)≤(4:Int))) && (decide (4<(v_9.length:Int)))) then
  bif ((decide ((0:Int)≤(4:Int))) && (decide (4<(v_9.length:Int)))) then
  bif ((decide ((0:Int)≤(0:Int))) && (decide (0<((v_9.set (4:Int).toNat (w32 ((v_9.getD (4:Int).toNat 0)+v_13))).length:Int)))) then
  k (.c1 t_0 o_1 (w64 (v_10+1)) v_7 ((v_9.set (4:Int).toNat (w32 ((v_9.getD (4:Int).toNat 0)+v_13))).set (0:Int).toNat (w32 (v_13+v_15))))
  else none
  else none
  else none
 | .c3 t_0 v_18 v_9 v_17=>
 bif (decide (v_18<8)) then
  bif ((decide (0≤v_18)) && (decide (v_18<(t_0.length:Int)))) then
  bif ((decide (0≤v_18)) && (decide (v_18<(v_9.length:Int)))) then
  bif (decide (((v_17.length+1)*4)≤140737488355328)) then
  k (.c3 t_0 (w64 (v_18+1)) v_9 (v_17++[(w32 ((t_0.getD v_18.toNat 0)+(v_9.getD v_18.toNat 0)))]))
  else none
  else none
  else none
 else
  some v_17
noncomputable def L_spec_l05Round:Nat→Td→Option (List Int)
 | 0,_=>none
 | m+1,s=>B_spec_l05Round spec_l05Words spec_l05S (L_spec_l05Round m) s
noncomputable def spec_l05Round:XZ:=E_spec_l05Round spec_l05Words spec_l05S (L_spec_l05Round gas)
theorem Dy:Tells ctx PP 56 cv19 cv11 (fun a=>spec_l05Round a.1 a.2.1 a.2.2):=
 have b:∀ z0 z1,CutIs ctx PP 56 Tryz.f56 [] [(54,VZ z0),(104,Yx z1)] cv11 Zx (B_spec_l05Round z0 z1):=fun z0 z1 _ s=>by cases s <;> kernel_rfl
 have e:∀ z0 z1,EntryIs ctx PP 56 [] [(54,VZ z0),(104,Yx z1)] cv19 cv11 Zx (fun k a=>E_spec_l05Round z0 z1 k a.1 a.2.1 a.2.2):=fun z0 z1 _ a=>by kernel_rfl
 fn_ok (hc Eo (hc GAA hl_nil)) Tryz.func56 (fun s s' h=>by cases s <;> cases s' <;> first | (cases h;done) | (cases h;rfl) | exact (rg_ne h (by kernel_rfl)).elim) (fun _=>rfl) (fun _ _=>rfl) (b spec_l05Words spec_l05S) (e spec_l05Words spec_l05S) gas
noncomputable def Ai {γ:Type} (F:XZ):Hd ctx γ:=hdl cv19.dec (fun a=>F a.1 a.2.1 a.2.2) cv11.enc
abbrev Io:=SHasher→ByteArray→Option SHasher
inductive Ud where
 | c0 (s_1:ByteArray) (buf_7:ByteArray) (at_8:Int) (h_2:SHasher) (v_4:SHasher) (state_5:(List Int)) (k_6:(List Int))
noncomputable def Ey:Ud→LI
 | .c0 s_1 buf_7 at_8 h_2 v_4 state_5 k_6=>(tdo Tryz.f22 4064,[(1,[.one (.str s_1)]),(2,[.one (.ptr 128 0)]),(4,[.one (.ptr 256 0)]),(5,[.one (.own 368)]),(6,[.one (.own 432)]),(7,[.one (.str buf_7)]),(8,[.one (.int .i64 at_8)])],[(128,.var [.str h_2.fState,.str h_2.fRest,.int .i64 h_2.fCount]),(256,.var [.str v_4.fState,.str v_4.fRest,.int .i64 v_4.fCount]),(368,.sl 109 state_5),(432,.sl 109 k_6)])
noncomputable def E_spec_HashMore (z0:UZ) (z1:TY) (z2:WZ) (z3:XZ) (z4:WY) (k:Ud→Option SHasher) (h_0:SHasher) (s_1:ByteArray):Option SHasher:=
 (z0 h_0).bind fun r0=>
 bif (!r0) then
 some h_0
 else
 bif (decide ((w64 (h_0.fCount+(s_1.size:Int))) > 1000000000)) then
  some h_0
 else
  (z1 h_0.fState).bind fun r1=>
  z2.bind fun r2=>
  bif (decide ((h_0.fRest.size+s_1.size)≤9223372036854775807)) then
  k (.c0 s_1 (h_0.fRest++s_1) 0 h_0 ⟨⟨#[]⟩,⟨#[]⟩,0⟩ r1 r2)
  else none
noncomputable def B_spec_HashMore (z0:UZ) (z1:TY) (z2:WZ) (z3:XZ) (z4:WY) (k:Ud→Option SHasher):Ud→Option SHasher
 | .c0 s_1 buf_7 at_8 h_2 v_4 state_5 k_6=>
 bif (decide ((w64 (at_8+64))≤(buf_7.size:Int))) then
  bif (((decide (0≤at_8)) && (decide (at_8≤(w64 (at_8+64))))) && (decide ((w64 (at_8+64))≤(buf_7.size:Int)))) then
  (z3 state_5 k_6 (buf_7.extract at_8.toNat (w64 (at_8+64)).toNat)).bind fun r0=>
  k (.c0 s_1 buf_7 (w64 (at_8+64)) h_2 v_4 r0 k_6)
  else none
 else
  (z4 state_5).bind fun r1=>
  bif ((decide (0≤at_8)) && (decide (at_8≤(buf_7.size:Int)))) then
  some ⟨r1,(buf_7.extract at_8.toNat buf_7.size),(w64 (h_2.fCount+(s_1.size:Int)))⟩
  else none
noncomputable def L_spec_HashMore:Nat→Ud→Option SHasher
 | 0,_=>none
 | m+1,s=>B_spec_HashMore spec_HasherOk spec_l05Words spec_l05K spec_l05Round spec_l05Bytes (L_spec_HashMore m) s
noncomputable def spec_HashMore:Io:=E_spec_HashMore spec_HasherOk spec_l05Words spec_l05K spec_l05Round spec_l05Bytes (L_spec_HashMore gas)
theorem HAA:Tells ctx PP 22 cv20 cv13 (fun a=>spec_HashMore a.1 a.2):=
 have b:∀ z0 z1 z2 z3 z4,CutIs ctx PP 22 Tryz.f22 [] [(53,Wh z0),(54,VZ z1),(55,Yh z2),(56,Ai z3),(57,Md z4)] cv13 Ey (B_spec_HashMore z0 z1 z2 z3 z4):=fun z0 z1 z2 z3 z4 _ s=>by cases s <;> kernel_rfl
 have e:∀ z0 z1 z2 z3 z4,EntryIs ctx PP 22 [] [(53,Wh z0),(54,VZ z1),(55,Yh z2),(56,Ai z3),(57,Md z4)] cv20 cv13 Ey (fun k a=>E_spec_HashMore z0 z1 z2 z3 z4 k a.1 a.2):=fun z0 z1 z2 z3 z4 _ a=>by kernel_rfl
 fn_ok (hc Qx (hc Eo (hc Xx (hc Dy (hc Zn hl_nil))))) Tryz.func22 (fun s s' h=>by cases s;cases s';(repeat cases ‹SHasher›);cases h;rfl) (fun _=>rfl) (fun _ _=>rfl) (b spec_HasherOk spec_l05Words spec_l05K spec_l05Round spec_l05Bytes) (e spec_HasherOk spec_l05Words spec_l05K spec_l05Round spec_l05Bytes) gas
noncomputable def IAA {γ:Type} (F:Io):Hd ctx γ:=hdl cv20.dec (fun a=>F a.1 a.2) cv13.enc
abbrev Jo:=SHasher→Option ByteArray
inductive Vd where
 | c0 (h_1:SHasher) (tail_3:(List Int))
 | c1 (bits_4:Int) (i_5:Int) (h_1:SHasher) (tail_3:(List Int))
 | c2 (bits_4:Int) (i_5:Int) (x_6:Int) (k_7:Int) (h_1:SHasher) (tail_3:(List Int))
 | c3 (at_10:Int) (tail_3:(List Int)) (state_8:(List Int)) (k_9:(List Int))
noncomputable def Gy:Vd→LI
 | .c0 h_1 tail_3=>(tdo Tryz.f21 992,[(1,[.one (.ptr 64 0)]),(3,[.one (.own 240)])],[(64,.var [.str h_1.fState,.str h_1.fRest,.int .i64 h_1.fCount]),(240,.sl 5 tail_3)])
 | .c1 bits_4 i_5 h_1 tail_3=>(tdo Tryz.f21 8144,[(1,[.one (.ptr 64 0)]),(3,[.one (.own 240)]),(4,[.one (.int .i64 bits_4)]),(5,[.one (.int .i64 i_5)])],[(64,.var [.str h_1.fState,.str h_1.fRest,.int .i64 h_1.fCount]),(240,.sl 5 tail_3)])
 | .c2 bits_4 i_5 x_6 k_7 h_1 tail_3=>(tdo Tryz.f21 2085456,[(1,[.one (.ptr 64 0)]),(3,[.one (.own 240)]),(4,[.one (.int .i64 bits_4)]),(5,[.one (.int .i64 i_5)]),(6,[.one (.int .i64 x_6)]),(7,[.one (.int .i64 k_7)])],[(64,.var [.str h_1.fState,.str h_1.fRest,.int .i64 h_1.fCount]),(240,.sl 5 tail_3)])
 | .c3 at_10 tail_3 state_8 k_9=>(tdo Tryz.f21 65488,[(3,[.one (.own 240)]),(8,[.one (.own 560)]),(9,[.one (.own 624)]),(10,[.one (.int .i64 at_10)])],[(240,.sl 5 tail_3),(560,.sl 109 state_8),(624,.sl 109 k_9)])
noncomputable def E_spec_HashEnd (z0:UZ) (z1:TY) (z2:WZ) (z3:XZ) (z4:WY) (k:Vd→Option ByteArray) (h_0:SHasher):Option ByteArray:=
 (z0 h_0).bind fun r0=>
 bif (!r0) then
 some ⟨#[]⟩
 else
 bif (decide (h_0.fRest.size≤9223372036854775807)) then
 bif (decide ((((bytesOf h_0.fRest).length+1)*1)≤140737488355328)) then
 k (.c0 h_0 ((bytesOf h_0.fRest)++[(128:Int)]))
 else none
 else none
noncomputable def B_spec_HashEnd (z0:UZ) (z1:TY) (z2:WZ) (z3:XZ) (z4:WY) (k:Vd→Option ByteArray):Vd→Option ByteArray
 | .c0 h_1 tail_3=>
 bif (((tail_3.length:Int).tmod 64) != 56) then
  bif (decide (((tail_3.length+1)*1)≤140737488355328)) then
  k (.c0 h_1 (tail_3++[(0:Int)]))
  else none
 else
  k (.c1 (w64 (8*h_1.fCount)) 7 h_1 tail_3)
 | .c1 bits_4 i_5 h_1 tail_3=>
 bif (decide (i_5≥0)) then
  k (.c2 bits_4 i_5 bits_4 0 h_1 tail_3)
 else
  (z1 h_1.fState).bind fun r0=>
  z2.bind fun r1=>
  k (.c3 0 tail_3 r0 r1)
 | .c2 bits_4 i_5 x_6 k_7 h_1 tail_3=>
 bif (decide (k_7<i_5)) then
  k (.c2 bits_4 i_5 (w64 (x_6.tdiv 256)) (w64 (k_7+1)) h_1 tail_3)
 else
  bif (decide (((tail_3.length+1)*1)≤140737488355328)) then
  k (.c1 bits_4 (w64 (i_5 - 1)) h_1 (tail_3++[(w8 (x_6.tmod 256))]))
  else none
 | .c3 at_10 tail_3 state_8 k_9=>
 bif (decide (at_10<(tail_3.length:Int))) then
  bif (((decide (0≤at_10)) && (decide (at_10≤(w64 (at_10+64))))) && (decide ((w64 (at_10+64))≤(tail_3.length:Int)))) then
  (z3 state_8 k_9 (ofBytes ((tail_3.drop at_10.toNat).take ((w64 (at_10+64)).toNat - at_10.toNat)))).bind fun r0=>
  k (.c3 (w64 (at_10+64)) tail_3 r0 k_9)
  else none
 else
  (z4 state_8).bind fun r1=>
  some r1
noncomputable def L_spec_HashEnd:Nat→Vd→Option ByteArray
 | 0,_=>none
 | m+1,s=>B_spec_HashEnd spec_HasherOk spec_l05Words spec_l05K spec_l05Round spec_l05Bytes (L_spec_HashEnd m) s
noncomputable def spec_HashEnd:Jo:=E_spec_HashEnd spec_HasherOk spec_l05Words spec_l05K spec_l05Round spec_l05Bytes (L_spec_HashEnd gas)
theorem JAA:Tells ctx PP 21 cv13 cv9 (fun a=>spec_HashEnd a):=
 have b:∀ z0 z1 z2 z3 z4,CutIs ctx PP 21 Tryz.f21 [] [(53,Wh z0),(54,VZ z1),(55,Yh z2),(56,Ai z3),(57,Md z4)] cv9 Gy (B_spec_HashEnd z0 z1 z2 z3 z4):=fun z0 z1 z2 z3 z4 _ s=>by cases s <;> kernel_rfl
 have e:∀ z0 z1 z2 z3 z4,EntryIs ctx PP 21 [] [(53,Wh z0),(54,VZ z1),(55,Yh z2),(56,Ai z3),(57,Md z4)] cv13 cv9 Gy (fun k a=>E_spec_HashEnd z0 z1 z2 z3 z4 k a):=fun z0 z1 z2 z3 z4 _ a=>by kernel_rfl
 fn_ok (hc Qx (hc Eo (hc Xx (hc Dy (hc Zn hl_nil))))) Tryz.func21 (fun s s' h=>by cases s <;> cases s' <;> first | ((repeat cases ‹SHasher›);cases h;done) | ((repeat cases ‹SHasher›);cases h;rfl) | exact (rg_ne h (by kernel_rfl)).elim) (fun _=>rfl) (fun _ _=>rfl) (b spec_HasherOk spec_l05Words spec_l05K spec_l05Round spec_l05Bytes) (e spec_HasherOk spec_l05Words spec_l05K spec_l05Round spec_l05Bytes) gas
noncomputable def KAA {γ:Type} (F:Jo):Hd ctx γ:=hdl cv13.dec (fun a=>F a) cv9.enc
abbrev JY:=ByteArray→Option ByteArray
noncomputable def E_spec_DigestOf (z0:Bo) (z1:Io) (z2:Jo) (s_0:ByteArray):Option ByteArray:=
 z0.bind fun r0=>
 (z1 r0 s_0).bind fun r1=>
 (z2 r1).bind fun r2=>
 some r2
noncomputable def spec_DigestOf:JY:=E_spec_DigestOf spec_HasherNew spec_HashMore spec_HashEnd
theorem Xd:Tells ctx PP 8 cv9 cv9 (fun a=>spec_DigestOf a):=fn_ok0 (hc BAA (hc HAA (hc JAA hl_nil))) Tryz.func8 ((fun z0 z1 z2 a=>by kernel_rfl:∀ z0 z1 z2,EntryIs0 ctx PP 8 [] [(23,CAA z0),(22,IAA z1),(21,KAA z2)] cv9 cv9 fun a=>E_spec_DigestOf z0 z1 z2 a) spec_HasherNew spec_HashMore spec_HashEnd)
noncomputable def XY {γ:Type} (F:JY):Hd ctx γ:=hdl cv9.dec (fun a=>F a) cv9.enc
abbrev Ko:=Option SBook
noncomputable def Oo (z0:JY) (z1:Ah)  : Option SBook:=
 (z0 ⟨#[]⟩).bind fun r0=>
 (z1 32 0).bind fun r1=>
 some ⟨r0,0,[],0,r1,0⟩
noncomputable def Yd:Ko:=Oo spec_DigestOf QY
theorem LAA:Tells ctx PP 35 cv10 cv24 (fun _=>Yd):=fn_ok0 (hc Xd (hc Ku hl_nil)) Tryz.func35 ((fun z0 z1 _=>by kernel_rfl:∀ z0 z1,EntryIs0 ctx PP 35 [] [(8,XY z0),(30,Lu z1)] cv10 cv24 fun _=>Oo z0 z1) spec_DigestOf QY)
noncomputable def MAA {γ:Type} (F:Ko):Hd ctx γ:=hdl cv10.dec (fun _=>F) cv24.enc
abbrev KY:=Int→Option ByteArray
inductive Zd where
 | c0 (n_0:Int) (out_3:(List Int))
noncomputable def Hy:Zd→LI
 | .c0 n_0 out_3=>(tdo Tryz.f118 224,[(0,[.one (.int .i64 n_0)]),(3,[.one (.own 240)])],[(240,.sl 5 out_3)])
noncomputable def Iy (k:Zd→Option ByteArray) (n_0:Int):Option ByteArray:=
 k (.c0 n_0 [])
noncomputable def Ci (k:Zd→Option ByteArray):Zd→Option ByteArray
 | .c0 n_0 out_3=>
 bif (decide (n_0 > 127)) then
  bif (decide (((out_3.length+1)*1)≤140737488355328)) then
  k (.c0 (w64 (n_0.tdiv 128)) (out_3++[(w8 (w64 ((n_0.tmod 128)+128)))]))
  else none
 else
  bif (decide (((out_3.length+1)*1)≤140737488355328)) then
  some (ofBytes (out_3++[(w8 n_0)]))
  else none
noncomputable def Ae:Nat→Zd→Option ByteArray
 | 0,_=>none
 | m+1,s=>Ci (Ae m) s
noncomputable def spec_l01Var:KY:=Iy (Ae gas)
theorem YZ:Tells ctx PP 118 cv7 cv9 (fun a=>spec_l01Var a):=
 have b:CutIs ctx PP 118 Tryz.f118 [] [] cv9 Hy (Ci):=fun _ s=>by cases s <;> kernel_rfl
 have e:EntryIs ctx PP 118 [] [] cv7 cv9 Hy (fun k a=>Iy k a):=fun _ a=>by kernel_rfl
 fn_ok hl_nil Tryz.func118 (fun s s' h=>by cases s;cases s';cases h;rfl) (fun _=>rfl) (fun _ _=>rfl) b e gas
noncomputable def ZY {γ:Type} (F:KY):Hd ctx γ:=hdl cv7.dec (fun a=>F a) cv9.enc
abbrev Ce:=SThing→Option Bool
noncomputable def Po (z0:NM) (x_0:SThing):Option Bool:=
 (z0 x_0.fId 1 1000).bind fun r0=>
 bif (!r0) then
 some false
 else
 (z0 x_0.fKind 1 3).bind fun r1=>
 bif (!r1) then
  some false
 else
  (z0 x_0.fNext 0 16).bind fun r2=>
  bif (!r2) then
  some false
  else
  bif (x_0.fKind != 2) then
   bif (x_0.fNext != 0) then
   some false
   else
   bif x_0.fSigns then
    some false
   else
    bif (x_0.fKind != 1) then
    bif x_0.fWraps then
     some false
    else
     bif (x_0.fKind == 3) then
     some (decide ((x_0.fValue.size:Int)≤100))
     else
     some ((x_0.fValue.size:Int) == 32)
    else
    bif (x_0.fKind == 3) then
     some (decide ((x_0.fValue.size:Int)≤100))
    else
     some ((x_0.fValue.size:Int) == 32)
  else
   bif (x_0.fKind != 1) then
   bif x_0.fWraps then
    some false
   else
    bif (x_0.fKind == 3) then
    some (decide ((x_0.fValue.size:Int)≤100))
    else
    some ((x_0.fValue.size:Int) == 32)
   else
   bif (x_0.fKind == 3) then
    some (decide ((x_0.fValue.size:Int)≤100))
   else
    some ((x_0.fValue.size:Int) == 32)
noncomputable def spec_ThingOk:Ce:=Po spec_l01In
theorem Jy:Tells ctx PP 120 cv25 cv1 (fun a=>spec_ThingOk a):=fn_ok0 (hc CV hl_nil) Tryz.func120 ((fun z0 a=>by kernel_rfl:∀ z0,EntryIs0 ctx PP 120 [] [(102,SN z0)] cv25 cv1 fun a=>Po z0 a) spec_l01In)
noncomputable def Qo {γ:Type} (F:Ce):Hd ctx γ:=hdl cv25.dec (fun a=>F a) cv1.enc
abbrev Ro:=Bool→Int→Option Int
noncomputable def Ky (x_0:Bool) (n_1:Int):Option Int:=
 bif x_0 then
 some n_1
 else
 some 0
noncomputable def spec_l19Flag:Ro:=Ky
theorem NAA:Tells ctx PP 158 cv97 cv7 (fun a=>spec_l19Flag a.1 a.2):=fn_ok0 hl_nil Tryz.func158 (fun a=>by kernel_rfl:EntryIs0 ctx PP 158 [] [] cv97 cv7 fun a=>Ky a.1 a.2)
noncomputable def OAA {γ:Type} (F:Ro):Hd ctx γ:=hdl cv97.dec (fun a=>F a.1 a.2) cv7.enc
abbrev Ee:=Int→Option ByteArray
noncomputable def Uo (n_0:Int):Option ByteArray:=
 bif (decide ((n_0.tmod 256)<0)) then
 some (ofBytes [(w8 (w64 ((n_0.tmod 256)+256)))])
 else
 some (ofBytes [(w8 (n_0.tmod 256))])
noncomputable def spec_l06Byte:Ee:=Uo
theorem Ny:Tells ctx PP 159 cv7 cv9 (fun a=>spec_l06Byte a):=fn_ok0 hl_nil Tryz.func159 (fun a=>by kernel_rfl:EntryIs0 ctx PP 159 [] [] cv7 cv9 fun a=>Uo a)
noncomputable def Vo {γ:Type} (F:Ee):Hd ctx γ:=hdl cv7.dec (fun a=>F a) cv9.enc
abbrev Xo:=ByteArray→Option ByteArray
noncomputable def Yo (z0:KY) (s_0:ByteArray):Option ByteArray:=
 (z0 (s_0.size:Int)).bind fun r0=>
 bif (decide ((r0.size+s_0.size)≤9223372036854775807)) then
 some (r0++s_0)
 else none
noncomputable def spec_l19Short:Xo:=Yo spec_l01Var
theorem PAA:Tells ctx PP 160 cv9 cv9 (fun a=>spec_l19Short a):=fn_ok0 (hc YZ hl_nil) Tryz.func160 ((fun z0 a=>by kernel_rfl:∀ z0,EntryIs0 ctx PP 160 [] [(118,ZY z0)] cv9 cv9 fun a=>Yo z0 a) spec_l01Var)
noncomputable def QAA {γ:Type} (F:Xo):Hd ctx γ:=hdl cv9.dec (fun a=>F a) cv9.enc
abbrev Zo:=SThing→Option (ByteArray×Bool)
noncomputable def Ap (z0:Ce) (z1:Ro) (z2:KY) (z3:Ee) (z4:Xo) (x_0:SThing):Option (ByteArray×Bool):=
 (z0 x_0).bind fun r0=>
 bif (!r0) then
 some (⟨#[]⟩,false)
 else
 (z1 x_0.fHidden 1).bind fun r1=>
 (z1 x_0.fFixed 2).bind fun r2=>
 (z1 x_0.fSigns 4).bind fun r3=>
 (z1 x_0.fWraps 8).bind fun r4=>
 (z2 x_0.fId).bind fun r5=>
 (z3 x_0.fKind).bind fun r6=>
 bif (decide ((r5.size+r6.size)≤9223372036854775807)) then
 (z3 (w64 ((w64 ((w64 (r1+r2))+r3))+r4))).bind fun r7=>
 bif (decide (((r5++r6).size+r7.size)≤9223372036854775807)) then
 (z4 x_0.fValue).bind fun r8=>
 bif (decide ((((r5++r6)++r7).size+r8.size)≤9223372036854775807)) then
 (z2 x_0.fNext).bind fun r9=>
 bif (decide (((((r5++r6)++r7)++r8).size+r9.size)≤9223372036854775807)) then
 some (((((r5++r6)++r7)++r8)++r9),true)
 else none
 else none
 else none
 else none
noncomputable def spec_ThingText:Zo:=Ap spec_ThingOk spec_l19Flag spec_l01Var spec_l06Byte spec_l19Short
theorem RAA:Tells ctx PP 119 cv25 cv26 (fun a=>spec_ThingText a):=fn_ok0 (hc Jy (hc NAA (hc YZ (hc Ny (hc PAA hl_nil))))) Tryz.func119 ((fun z0 z1 z2 z3 z4 a=>by kernel_rfl:∀ z0 z1 z2 z3 z4,EntryIs0 ctx PP 119 [] [(120,Qo z0),(158,OAA z1),(118,ZY z2),(159,Vo z3),(160,QAA z4)] cv25 cv26 fun a=>Ap z0 z1 z2 z3 z4 a) spec_ThingOk spec_l19Flag spec_l01Var spec_l06Byte spec_l19Short)
noncomputable def SAA {γ:Type} (F:Zo):Hd ctx γ:=hdl cv25.dec (fun a=>F a) cv26.enc
abbrev Fe:=SRec→Option (ByteArray×Bool)
noncomputable def Dp (z0:NM) (z1:KY) (z2:Zo) (r_0:SRec):Option (ByteArray×Bool):=
 bif (r_0.fKind == 1) then
 bif ((r_0.fText.size:Int) == 32) then
  bif (r_0.fNum == 0) then
  bif ((r_0.fThing.fId == 0) && ((r_0.fThing.fKind == 0) && ((r_0.fThing.fHidden == false) && ((r_0.fThing.fFixed == false) && ((r_0.fThing.fSigns == false) && ((r_0.fThing.fWraps == false) && (((ByteArray.toList r_0.fThing.fValue) == (ByteArray.toList ⟨#[]⟩)) && ((r_0.fThing.fNext == 0) && true)))))))) then
   bif (decide (((⟨#[1]⟩:ByteArray).size+r_0.fText.size)≤9223372036854775807)) then
   some (((⟨#[1]⟩:ByteArray)++r_0.fText),true)
   else none
  else
   some (⟨#[]⟩,false)
  else
  some (⟨#[]⟩,false)
 else
  some (⟨#[]⟩,false)
 else
 bif (r_0.fKind == 2) then
  bif ((ByteArray.toList r_0.fText) == (ByteArray.toList ⟨#[]⟩)) then
  bif ((r_0.fThing.fId == 0) && ((r_0.fThing.fKind == 0) && ((r_0.fThing.fHidden == false) && ((r_0.fThing.fFixed == false) && ((r_0.fThing.fSigns == false) && ((r_0.fThing.fWraps == false) && (((ByteArray.toList r_0.fThing.fValue) == (ByteArray.toList ⟨#[]⟩)) && ((r_0.fThing.fNext == 0) && true)))))))) then
   (z0 r_0.fNum 0 3).bind fun r0=>
   bif r0 then
   (z1 r_0.fNum).bind fun r1=>
   bif (decide (((⟨#[2]⟩:ByteArray).size+r1.size)≤9223372036854775807)) then
   some (((⟨#[2]⟩:ByteArray)++r1),true)
   else none
   else
   some (⟨#[]⟩,false)
  else
   some (⟨#[]⟩,false)
  else
  some (⟨#[]⟩,false)
 else
  bif (r_0.fKind == 3) then
  (z2 r_0.fThing).bind fun r2=>
  bif r2.2 then
   bif ((ByteArray.toList r_0.fText) == (ByteArray.toList ⟨#[]⟩)) then
   bif (r_0.fNum == 0) then
    bif (decide (((⟨#[3]⟩:ByteArray).size+r2.1.size)≤9223372036854775807)) then
    some (((⟨#[3]⟩:ByteArray)++r2.1),true)
    else none
   else
    some (⟨#[]⟩,false)
   else
   some (⟨#[]⟩,false)
  else
   some (⟨#[]⟩,false)
  else
  bif (r_0.fKind == 4) then
   bif ((ByteArray.toList r_0.fText) == (ByteArray.toList ⟨#[]⟩)) then
   bif ((r_0.fThing.fId == 0) && ((r_0.fThing.fKind == 0) && ((r_0.fThing.fHidden == false) && ((r_0.fThing.fFixed == false) && ((r_0.fThing.fSigns == false) && ((r_0.fThing.fWraps == false) && (((ByteArray.toList r_0.fThing.fValue) == (ByteArray.toList ⟨#[]⟩)) && ((r_0.fThing.fNext == 0) && true)))))))) then
    (z0 r_0.fNum 1 1000).bind fun r3=>
    bif r3 then
    (z1 r_0.fNum).bind fun r4=>
    bif (decide (((⟨#[4]⟩:ByteArray).size+r4.size)≤9223372036854775807)) then
    some (((⟨#[4]⟩:ByteArray)++r4),true)
    else none
    else
    some (⟨#[]⟩,false)
   else
    some (⟨#[]⟩,false)
   else
   some (⟨#[]⟩,false)
  else
   some (⟨#[]⟩,false)
noncomputable def spec_RecText:Fe:=Dp spec_l01In spec_l01Var spec_ThingText
theorem Oy:Tells ctx PP 72 cv27 cv26 (fun a=>spec_RecText a):=fn_ok0 (hc CV (hc YZ (hc RAA hl_nil))) Tryz.func72 ((fun z0 z1 z2 a=>by kernel_rfl:∀ z0 z1 z2,EntryIs0 ctx PP 72 [] [(102,SN z0),(118,ZY z1),(119,SAA z2)] cv27 cv26 fun a=>Dp z0 z1 z2 a) spec_l01In spec_l01Var spec_ThingText)
noncomputable def Ep {γ:Type} (F:Fe):Hd ctx γ:=hdl cv27.dec (fun a=>F a) cv26.enc
abbrev Di:=SBook→Option Bool
inductive He where
 | c0 (i_3:Int) (b_1:SBook)
noncomputable def Py:He→LI
 | .c0 i_3 b_1=>(tdo Tryz.f73 464,[(1,[.one (.ptr 64 0)]),(3,[.one (.int .i64 i_3)])],[(64,.var [.str b_1.fWord,.int .i64 b_1.fTries,.rsl 71 b_1.fThings,.int .i64 b_1.fLast,.str b_1.fChain,.int .i64 b_1.fCount])])
noncomputable def Fp (z0:NM) (z1:Ce) (k:He→Option Bool) (b_0:SBook):Option Bool:=
 bif ((b_0.fWord.size:Int) != 32) then
 some false
 else
 bif ((b_0.fChain.size:Int) != 32) then
  some false
 else
  (z0 b_0.fTries 0 3).bind fun r0=>
  bif (!r0) then
  some false
  else
  bif (decide ((b_0.fThings.length:Int) > 8)) then
   some false
  else
   (z0 b_0.fLast 0 1000).bind fun r1=>
   bif (!r1) then
   some false
   else
   (z0 b_0.fCount 0 10000).bind fun r2=>
   bif (!r2) then
    some false
   else
    k (.c0 0 b_0)
noncomputable def Ei (z0:NM) (z1:Ce) (k:He→Option Bool):He→Option Bool
 | .c0 i_3 b_1=>
 bif (decide (i_3<(b_1.fThings.length:Int))) then
  bif ((decide (0≤i_3)) && (decide (i_3<(b_1.fThings.length:Int)))) then
  (z1 (b_1.fThings.getD i_3.toNat (⟨0,0,false,false,false,false,⟨#[]⟩,0⟩:SThing))).bind fun r0=>
  bif (!r0) then
  some false
  else
  bif ((decide (0≤i_3)) && (decide (i_3<(b_1.fThings.length:Int)))) then
  bif (decide ((b_1.fThings.getD i_3.toNat (⟨0,0,false,false,false,false,⟨#[]⟩,0⟩:SThing)).fId > b_1.fLast)) then
   some false
  else
   bif (decide (i_3 > 0)) then
   bif ((decide (0≤(w64 (i_3 - 1)))) && (decide ((w64 (i_3 - 1))<(b_1.fThings.length:Int)))) then
   bif ((decide (0≤i_3)) && (decide (i_3<(b_1.fThings.length:Int)))) then
   bif (decide ((b_1.fThings.getD (w64 (i_3 - 1)).toNat (⟨0,0,false,false,false,false,⟨#[]⟩,0⟩:SThing)).fId≥(b_1.fThings.getD i_3.toNat (⟨0,0,false,false,false,false,⟨#[]⟩,0⟩:SThing)).fId)) then
    some false
   else
    k (.c0 (w64 (i_3+1)) b_1)
   else none
   else none
   else
   k (.c0 (w64 (i_3+1)) b_1)
  else none
  else none
 else
  some true
noncomputable def AZ:Nat→He→Option Bool
 | 0,_=>none
 | m+1,s=>Ei spec_l01In spec_ThingOk (AZ m) s
noncomputable def spec_BookOk:Di:=Fp spec_l01In spec_ThingOk (AZ gas)
theorem TAA:Tells ctx PP 73 cv44 cv1 (fun a=>spec_BookOk a):=
 have b:∀ z0 z1,CutIs ctx PP 73 Tryz.f73 [] [(102,SN z0),(120,Qo z1)] cv1 Py (Ei z0 z1):=fun z0 z1 _ s=>by cases s <;> kernel_rfl
 have e:∀ z0 z1,EntryIs ctx PP 73 [] [(102,SN z0),(120,Qo z1)] cv44 cv1 Py (fun k a=>Fp z0 z1 k a):=fun z0 z1 _ a=>by kernel_rfl
 fn_ok (hc CV (hc Jy hl_nil)) Tryz.func73 (fun s s' h=>by cases s;cases s';(repeat cases ‹SBook›);cases h;rfl) (fun _=>rfl) (fun _ _=>rfl) (b spec_l01In spec_ThingOk) (e spec_l01In spec_ThingOk) gas
noncomputable def Qy {γ:Type} (F:Di):Hd ctx γ:=hdl cv44.dec (fun a=>F a) cv1.enc
abbrev Gi:=SBook→Option SBook
noncomputable def Gp (b_0:SBook):Option SBook:=
 bif (decide (((0+b_0.fThings.length)*48)≤140737488355328)) then
 some ⟨b_0.fWord,b_0.fTries,([]++b_0.fThings),b_0.fLast,b_0.fChain,b_0.fCount⟩
 else none
noncomputable def BZ:Gi:=Gp
theorem UAA:Tells ctx PP 74 cv44 cv24 (fun a=>BZ a):=fn_ok0 hl_nil Tryz.func74 (fun a=>by kernel_rfl:EntryIs0 ctx PP 74 [] [] cv44 cv24 fun a=>Gp a)
noncomputable def Ry {γ:Type} (F:Gi):Hd ctx γ:=hdl cv44.dec (fun a=>F a) cv24.enc
abbrev Ii:=SBook→Int→Option (SThing×Bool)
inductive Ie where
 | c0 (id_1:Int) (i_6:Int) (b_2:SBook) (v_4:SThing)
noncomputable def Uy:Ie→LI
 | .c0 id_1 i_6 b_2 v_4=>(tdo Tryz.f75 208,[(1,[.one (.int .i64 id_1)]),(2,[.one (.ptr 128 0)]),(4,[.one (.ptr 256 0)]),(6,[.one (.int .i64 i_6)])],[(128,.var [.str b_2.fWord,.int .i64 b_2.fTries,.rsl 71 b_2.fThings,.int .i64 b_2.fLast,.str b_2.fChain,.int .i64 b_2.fCount]),(256,.var [.int .i64 v_4.fId,.int .i64 v_4.fKind,.bool v_4.fHidden,.bool v_4.fFixed,.bool v_4.fSigns,.bool v_4.fWraps,.str v_4.fValue,.int .i64 v_4.fNext])])
noncomputable def Vy (k:Ie→Option (SThing×Bool)) (b_0:SBook) (id_1:Int):Option (SThing×Bool):=
 k (.c0 id_1 0 b_0 ⟨0,0,false,false,false,false,⟨#[]⟩,0⟩)
noncomputable def Ji (k:Ie→Option (SThing×Bool)):Ie→Option (SThing×Bool)
 | .c0 id_1 i_6 b_2 v_4=>
 bif (decide (i_6<(b_2.fThings.length:Int))) then
  bif ((decide (0≤i_6)) && (decide (i_6<(b_2.fThings.length:Int)))) then
  bif ((b_2.fThings.getD i_6.toNat (⟨0,0,false,false,false,false,⟨#[]⟩,0⟩:SThing)).fId == id_1) then
  bif ((decide (0≤i_6)) && (decide (i_6<(b_2.fThings.length:Int)))) then
  some ((b_2.fThings.getD i_6.toNat (⟨0,0,false,false,false,false,⟨#[]⟩,0⟩:SThing)),true)
  else none
  else
  k (.c0 id_1 (w64 (i_6+1)) b_2 v_4)
  else none
 else
  some (⟨0,0,false,false,false,false,⟨#[]⟩,0⟩,false)
noncomputable def Aa:Nat→Ie→Option (SThing×Bool)
 | 0,_=>none
 | m+1,s=>Ji (Aa m) s
noncomputable def spec_ThingOf:Ii:=Vy (Aa gas)
theorem VAA:Tells ctx PP 75 cv45 cv64 (fun a=>spec_ThingOf a.1 a.2):=
 have b:CutIs ctx PP 75 Tryz.f75 [] [] cv64 Uy (Ji):=fun _ s=>by cases s <;> kernel_rfl
 have e:EntryIs ctx PP 75 [] [] cv45 cv64 Uy (fun k a=>Vy k a.1 a.2):=fun _ a=>by kernel_rfl
 fn_ok hl_nil Tryz.func75 (fun s s' h=>by cases s;cases s';(repeat cases ‹SBook›);(repeat cases ‹SThing›);cases h;rfl) (fun _=>rfl) (fun _ _=>rfl) b e gas
noncomputable def Wy {γ:Type} (F:Ii):Hd ctx γ:=hdl cv45.dec (fun a=>F a.1 a.2) cv64.enc
abbrev Oi:=SThing→SThing→Option Bool
noncomputable def Ip (a_0:SThing) (b_1:SThing):Option Bool:=
 bif (a_0.fKind == b_1.fKind) then
 bif ((ByteArray.toList a_0.fValue) == (ByteArray.toList b_1.fValue)) then
  bif (a_0.fSigns == b_1.fSigns) then
  bif (a_0.fWraps == b_1.fWraps) then
   bif (decide (a_0.fNext≤b_1.fNext)) then
   bif b_1.fHidden then
    bif b_1.fFixed then
    some true
    else
    some (!a_0.fFixed)
   else
    bif (!a_0.fHidden) then
    bif b_1.fFixed then
     some true
    else
     some (!a_0.fFixed)
    else
    some false
   else
   some false
  else
   some false
  else
  some false
 else
  some false
 else
 some false
noncomputable def CZ:Oi:=Ip
theorem WAA:Tells ctx PP 76 cv46 cv1 (fun a=>CZ a.1 a.2):=fn_ok0 hl_nil Tryz.func76 (fun a=>by kernel_rfl:EntryIs0 ctx PP 76 [] [] cv46 cv1 fun a=>Ip a.1 a.2)
noncomputable def Xy {γ:Type} (F:Oi):Hd ctx γ:=hdl cv46.dec (fun a=>F a.1 a.2) cv1.enc
abbrev Qi:=(List SThing)→SThing→Option (List SThing)
inductive Je where
 | c0 (list_0:(List SThing)) (i_6:Int) (x_3:SThing) (out_5:(List SThing))
 | c1 (list_0:(List SThing)) (i_7:Int) (x_3:SThing) (out_5:(List SThing))
noncomputable def Yy:Je→LI
 | .c0 list_0 i_6 x_3 out_5=>(tdo Tryz.f77 464,[(0,[.one (.rsl 71 list_0)]),(3,[.one (.ptr 192 0)]),(5,[.one (.own 368)]),(6,[.one (.int .i64 i_6)])],[(192,.var [.int .i64 x_3.fId,.int .i64 x_3.fKind,.bool x_3.fHidden,.bool x_3.fFixed,.bool x_3.fSigns,.bool x_3.fWraps,.str x_3.fValue,.int .i64 x_3.fNext]),(368,.sl 71 out_5)])
 | .c1 list_0 i_7 x_3 out_5=>(tdo Tryz.f77 2000,[(0,[.one (.rsl 71 list_0)]),(3,[.one (.ptr 192 0)]),(5,[.one (.own 368)]),(7,[.one (.int .i64 i_7)])],[(192,.var [.int .i64 x_3.fId,.int .i64 x_3.fKind,.bool x_3.fHidden,.bool x_3.fFixed,.bool x_3.fSigns,.bool x_3.fWraps,.str x_3.fValue,.int .i64 x_3.fNext]),(368,.sl 71 out_5)])
noncomputable def Jp (k:Je→Option (List SThing)) (list_0:(List SThing)) (x_1:SThing):Option (List SThing):=
 k (.c0 list_0 0 x_1 [])
noncomputable def Ba (k:Je→Option (List SThing)):Je→Option (List SThing)
 | .c0 list_0 i_6 x_3 out_5=>
 bif (decide (i_6<(list_0.length:Int))) then
  bif ((decide (0≤i_6)) && (decide (i_6<(list_0.length:Int)))) then
  bif (decide ((list_0.getD i_6.toNat (⟨0,0,false,false,false,false,⟨#[]⟩,0⟩:SThing)).fId<x_3.fId)) then
  bif ((decide (0≤i_6)) && (decide (i_6<(list_0.length:Int)))) then
  bif (decide (((out_5.length+1)*48)≤140737488355328)) then
  k (.c0 list_0 (w64 (i_6+1)) x_3 (out_5++[(list_0.getD i_6.toNat (⟨0,0,false,false,false,false,⟨#[]⟩,0⟩:SThing))]))
  else none
  else none
  else
  k (.c0 list_0 (w64 (i_6+1)) x_3 out_5)
  else none
 else
  bif (decide (((out_5.length+1)*48)≤140737488355328)) then
  k (.c1 list_0 0 x_3 (out_5++[x_3]))
  else none
 | .c1 list_0 i_7 x_3 out_5=>
 bif (decide (i_7<(list_0.length:Int))) then
  bif ((decide (0≤i_7)) && (decide (i_7<(list_0.length:Int)))) then
  bif (decide ((list_0.getD i_7.toNat (⟨0,0,false,false,false,false,⟨#[]⟩,0⟩:SThing)).fId > x_3.fId)) then
  bif ((decide (0≤i_7)) && (decide (i_7<(list_0.length:Int)))) then
  bif (decide (((out_5.length+1)*48)≤140737488355328)) then
  k (.c1 list_0 (w64 (i_7+1)) x_3 (out_5++[(list_0.getD i_7.toNat (⟨0,0,false,false,false,false,⟨#[]⟩,0⟩:SThing))]))
  else none
  else none
  else
  k (.c1 list_0 (w64 (i_7+1)) x_3 out_5)
  else none
 else
  some out_5
noncomputable def LY:Nat→Je→Option (List SThing)
 | 0,_=>none
 | m+1,s=>Ba (LY m) s
noncomputable def DZ:Qi:=Jp (LY gas)
theorem XAA:Tells ctx PP 77 cv98 cv99 (fun a=>DZ a.1 a.2):=
 have b:CutIs ctx PP 77 Tryz.f77 [] [] cv99 Yy (Ba):=fun _ s=>by cases s <;> kernel_rfl
 have e:EntryIs ctx PP 77 [] [] cv98 cv99 Yy (fun k a=>Jp k a.1 a.2):=fun _ a=>by kernel_rfl
 fn_ok hl_nil Tryz.func77 (fun s s' h=>by cases s <;> cases s' <;> first | ((repeat cases ‹SThing›);cases h;done) | ((repeat cases ‹SThing›);cases h;rfl) | exact (rg_ne h (by kernel_rfl)).elim) (fun _=>rfl) (fun _ _=>rfl) b e gas
noncomputable def Zy {γ:Type} (F:Qi):Hd ctx γ:=hdl cv98.dec (fun a=>F a.1 a.2) cv99.enc
abbrev Np:=SBook→SRec→Option (SBook×Bool)
inductive Me where
 | c0 (y_6:ByteArray) (v_14:Int) (A_2:SBook) (r_3:SRec) (r_4c0:ByteArray) (r_4c1:Int) (r_4c3:Int) (r_4c4:ByteArray) (r_4c5:Int) (v_8c0:ByteArray) (v_8c1:Int) (v_8c3:Int) (v_8c4:ByteArray) (v_8c5:Int) (v_13:(List SThing)) (r_4r2:(List SThing)) (v_8r2:(List SThing))
noncomputable def Az:Me→LI
 | .c0 y_6 v_14 A_2 r_3 r_4c0 r_4c1 r_4c3 r_4c4 r_4c5 v_8c0 v_8c1 v_8c3 v_8c4 v_8c5 v_13 r_4r2 v_8r2=>(tdo Tryz.f34 32898512,[(2,[.one (.ptr 128 0)]),(3,[.one (.ptr 192 0)]),(4,[.one (.ptr 256 0)]),(6,[.one (.str y_6)]),(8,[.one (.ptr 512 0)]),(13,[.one (.own 880)]),(14,[.one (.int .i64 v_14)])],[(128,.var [.str A_2.fWord,.int .i64 A_2.fTries,.rsl 71 A_2.fThings,.int .i64 A_2.fLast,.str A_2.fChain,.int .i64 A_2.fCount]),(192,.var [.int .i64 r_3.fKind,.str r_3.fText,.int .i64 r_3.fNum,.int .i64 r_3.fThing.fId,.int .i64 r_3.fThing.fKind,.bool r_3.fThing.fHidden,.bool r_3.fThing.fFixed,.bool r_3.fThing.fSigns,.bool r_3.fThing.fWraps,.str r_3.fThing.fValue,.int .i64 r_3.fThing.fNext]),(256,.var [.str r_4c0,.int .i64 r_4c1,.own 1016386,.int .i64 r_4c3,.str r_4c4,.int .i64 r_4c5]),(512,.var [.str v_8c0,.int .i64 v_8c1,.own 1032770,.int .i64 v_8c3,.str v_8c4,.int .i64 v_8c5]),(880,.sl 71 v_13),(1016386,.sl 71 r_4r2),(1032770,.sl 71 v_8r2)])
noncomputable def Qp (z0:Fe) (z1:Di) (z2:Gi) (z3:Ii) (z4:Oi) (z5:Qi) (z6:JY) (k:Me→Option (SBook×Bool)) (t_0:SBook) (o_1:SRec):Option (SBook×Bool):=
 (z0 o_1).bind fun r0=>
 (z1 t_0).bind fun r1=>
 bif (!r1) then
 some (⟨⟨#[]⟩,0,[],0,⟨#[]⟩,0⟩,false)
 else
 bif (!r0.2) then
  some (⟨⟨#[]⟩,0,[],0,⟨#[]⟩,0⟩,false)
 else
  bif (t_0.fCount == 10000) then
  some (⟨⟨#[]⟩,0,[],0,⟨#[]⟩,0⟩,false)
  else
  (z2 t_0).bind fun r2=>
  bif (o_1.fKind == 1) then
   bif (decide ((t_0.fChain.size+r0.1.size)≤9223372036854775807)) then
   (z6 (t_0.fChain++r0.1)).bind fun r3=>
   (z1 ⟨o_1.fText,0,r2.fThings,r2.fLast,r3,(w64 (t_0.fCount+1))⟩).bind fun r4=>
   bif (!r4) then
   some (⟨⟨#[]⟩,0,[],0,⟨#[]⟩,0⟩,false)
   else
   some (⟨o_1.fText,0,r2.fThings,r2.fLast,r3,(w64 (t_0.fCount+1))⟩,true)
   else none
  else
   bif (o_1.fKind == 2) then
   bif (decide ((t_0.fChain.size+r0.1.size)≤9223372036854775807)) then
   (z6 (t_0.fChain++r0.1)).bind fun r5=>
   (z1 ⟨r2.fWord,o_1.fNum,r2.fThings,r2.fLast,r5,(w64 (t_0.fCount+1))⟩).bind fun r6=>
   bif (!r6) then
    some (⟨⟨#[]⟩,0,[],0,⟨#[]⟩,0⟩,false)
   else
    some (⟨r2.fWord,o_1.fNum,r2.fThings,r2.fLast,r5,(w64 (t_0.fCount+1))⟩,true)
   else none
   else
   bif (o_1.fKind == 3) then
    (z3 t_0 o_1.fThing.fId).bind fun r7=>
    bif r7.2 then
    (z4 r7.1 o_1.fThing).bind fun r8=>
    bif (!r8) then
     some (⟨⟨#[]⟩,0,[],0,⟨#[]⟩,0⟩,false)
    else
     bif (!r7.2) then
     bif (o_1.fThing.fId != (w64 (t_0.fLast+1))) then
      some (⟨⟨#[]⟩,0,[],0,⟨#[]⟩,0⟩,false)
     else
      bif ((t_0.fThings.length:Int) == 8) then
      some (⟨⟨#[]⟩,0,[],0,⟨#[]⟩,0⟩,false)
      else
      bif (!r7.2) then
       (z5 t_0.fThings o_1.fThing).bind fun r9=>
       bif (decide ((t_0.fChain.size+r0.1.size)≤9223372036854775807)) then
       (z6 (t_0.fChain++r0.1)).bind fun r10=>
       (z1 ⟨r2.fWord,r2.fTries,r9,o_1.fThing.fId,r10,(w64 (t_0.fCount+1))⟩).bind fun r11=>
       bif (!r11) then
       some (⟨⟨#[]⟩,0,[],0,⟨#[]⟩,0⟩,false)
       else
       some (⟨r2.fWord,r2.fTries,r9,o_1.fThing.fId,r10,(w64 (t_0.fCount+1))⟩,true)
       else none
      else
       (z5 t_0.fThings o_1.fThing).bind fun r12=>
       bif (decide ((t_0.fChain.size+r0.1.size)≤9223372036854775807)) then
       (z6 (t_0.fChain++r0.1)).bind fun r13=>
       (z1 ⟨r2.fWord,r2.fTries,r12,r2.fLast,r13,(w64 (t_0.fCount+1))⟩).bind fun r14=>
       bif (!r14) then
       some (⟨⟨#[]⟩,0,[],0,⟨#[]⟩,0⟩,false)
       else
       some (⟨r2.fWord,r2.fTries,r12,r2.fLast,r13,(w64 (t_0.fCount+1))⟩,true)
       else none
     else
     bif (!r7.2) then
      (z5 t_0.fThings o_1.fThing).bind fun r15=>
      bif (decide ((t_0.fChain.size+r0.1.size)≤9223372036854775807)) then
      (z6 (t_0.fChain++r0.1)).bind fun r16=>
      (z1 ⟨r2.fWord,r2.fTries,r15,o_1.fThing.fId,r16,(w64 (t_0.fCount+1))⟩).bind fun r17=>
      bif (!r17) then
      some (⟨⟨#[]⟩,0,[],0,⟨#[]⟩,0⟩,false)
      else
      some (⟨r2.fWord,r2.fTries,r15,o_1.fThing.fId,r16,(w64 (t_0.fCount+1))⟩,true)
      else none
     else
      (z5 t_0.fThings o_1.fThing).bind fun r18=>
      bif (decide ((t_0.fChain.size+r0.1.size)≤9223372036854775807)) then
      (z6 (t_0.fChain++r0.1)).bind fun r19=>
      (z1 ⟨r2.fWord,r2.fTries,r18,r2.fLast,r19,(w64 (t_0.fCount+1))⟩).bind fun r20=>
      bif (!r20) then
      some (⟨⟨#[]⟩,0,[],0,⟨#[]⟩,0⟩,false)
      else
      some (⟨r2.fWord,r2.fTries,r18,r2.fLast,r19,(w64 (t_0.fCount+1))⟩,true)
      else none
    else
    bif (!r7.2) then
     bif (o_1.fThing.fId != (w64 (t_0.fLast+1))) then
     some (⟨⟨#[]⟩,0,[],0,⟨#[]⟩,0⟩,false)
     else
     bif ((t_0.fThings.length:Int) == 8) then
      some (⟨⟨#[]⟩,0,[],0,⟨#[]⟩,0⟩,false)
     else
      bif (!r7.2) then
      (z5 t_0.fThings o_1.fThing).bind fun r21=>
      bif (decide ((t_0.fChain.size+r0.1.size)≤9223372036854775807)) then
      (z6 (t_0.fChain++r0.1)).bind fun r22=>
      (z1 ⟨r2.fWord,r2.fTries,r21,o_1.fThing.fId,r22,(w64 (t_0.fCount+1))⟩).bind fun r23=>
      bif (!r23) then
       some (⟨⟨#[]⟩,0,[],0,⟨#[]⟩,0⟩,false)
      else
       some (⟨r2.fWord,r2.fTries,r21,o_1.fThing.fId,r22,(w64 (t_0.fCount+1))⟩,true)
      else none
      else
      (z5 t_0.fThings o_1.fThing).bind fun r24=>
      bif (decide ((t_0.fChain.size+r0.1.size)≤9223372036854775807)) then
      (z6 (t_0.fChain++r0.1)).bind fun r25=>
      (z1 ⟨r2.fWord,r2.fTries,r24,r2.fLast,r25,(w64 (t_0.fCount+1))⟩).bind fun r26=>
      bif (!r26) then
       some (⟨⟨#[]⟩,0,[],0,⟨#[]⟩,0⟩,false)
      else
       some (⟨r2.fWord,r2.fTries,r24,r2.fLast,r25,(w64 (t_0.fCount+1))⟩,true)
      else none
    else
     bif (!r7.2) then
     (z5 t_0.fThings o_1.fThing).bind fun r27=>
     bif (decide ((t_0.fChain.size+r0.1.size)≤9223372036854775807)) then
     (z6 (t_0.fChain++r0.1)).bind fun r28=>
     (z1 ⟨r2.fWord,r2.fTries,r27,o_1.fThing.fId,r28,(w64 (t_0.fCount+1))⟩).bind fun r29=>
     bif (!r29) then
      some (⟨⟨#[]⟩,0,[],0,⟨#[]⟩,0⟩,false)
     else
      some (⟨r2.fWord,r2.fTries,r27,o_1.fThing.fId,r28,(w64 (t_0.fCount+1))⟩,true)
     else none
     else
     (z5 t_0.fThings o_1.fThing).bind fun r30=>
     bif (decide ((t_0.fChain.size+r0.1.size)≤9223372036854775807)) then
     (z6 (t_0.fChain++r0.1)).bind fun r31=>
     (z1 ⟨r2.fWord,r2.fTries,r30,r2.fLast,r31,(w64 (t_0.fCount+1))⟩).bind fun r32=>
     bif (!r32) then
      some (⟨⟨#[]⟩,0,[],0,⟨#[]⟩,0⟩,false)
     else
      some (⟨r2.fWord,r2.fTries,r30,r2.fLast,r31,(w64 (t_0.fCount+1))⟩,true)
     else none
   else
    bif (o_1.fKind == 4) then
    (z3 t_0 o_1.fNum).bind fun r33=>
    bif (!r33.2) then
     some (⟨⟨#[]⟩,0,[],0,⟨#[]⟩,0⟩,false)
    else
     k (.c0 r0.1 0 t_0 o_1 ⟨#[]⟩ 0 0 ⟨#[]⟩ 0 r2.fWord r2.fTries r2.fLast r2.fChain r2.fCount [] [] r2.fThings)
    else
    bif (decide ((t_0.fChain.size+r0.1.size)≤9223372036854775807)) then
    (z6 (t_0.fChain++r0.1)).bind fun r34=>
    (z1 ⟨r2.fWord,r2.fTries,r2.fThings,r2.fLast,r34,(w64 (t_0.fCount+1))⟩).bind fun r35=>
    bif (!r35) then
     some (⟨⟨#[]⟩,0,[],0,⟨#[]⟩,0⟩,false)
    else
     some (⟨r2.fWord,r2.fTries,r2.fThings,r2.fLast,r34,(w64 (t_0.fCount+1))⟩,true)
    else none
noncomputable def Ri (z0:Fe) (z1:Di) (z2:Gi) (z3:Ii) (z4:Oi) (z5:Qi) (z6:JY) (k:Me→Option (SBook×Bool)):Me→Option (SBook×Bool)
 | .c0 y_6 v_14 A_2 r_3 r_4c0 r_4c1 r_4c3 r_4c4 r_4c5 v_8c0 v_8c1 v_8c3 v_8c4 v_8c5 v_13 r_4r2 v_8r2=>
 bif (decide (v_14<(A_2.fThings.length:Int))) then
  bif ((decide (0≤v_14)) && (decide (v_14<(A_2.fThings.length:Int)))) then
  bif ((A_2.fThings.getD v_14.toNat (⟨0,0,false,false,false,false,⟨#[]⟩,0⟩:SThing)).fId != r_3.fNum) then
  bif ((decide (0≤v_14)) && (decide (v_14<(A_2.fThings.length:Int)))) then
  bif (decide (((v_13.length+1)*48)≤140737488355328)) then
  k (.c0 y_6 (w64 (v_14+1)) A_2 r_3 r_4c0 r_4c1 r_4c3 r_4c4 r_4c5 v_8c0 v_8c1 v_8c3 v_8c4 v_8c5 (v_13++[(A_2.fThings.getD v_14.toNat (⟨0,0,false,false,false,false,⟨#[]⟩,0⟩:SThing))]) r_4r2 v_8r2)
  else none
  else none
  else
  k (.c0 y_6 (w64 (v_14+1)) A_2 r_3 r_4c0 r_4c1 r_4c3 r_4c4 r_4c5 v_8c0 v_8c1 v_8c3 v_8c4 v_8c5 v_13 r_4r2 v_8r2)
  else none
 else
  bif (decide ((A_2.fChain.size+y_6.size)≤9223372036854775807)) then
  (z6 (A_2.fChain++y_6)).bind fun r0=>
  (z1 ⟨v_8c0,v_8c1,v_13,v_8c3,r0,(w64 (A_2.fCount+1))⟩).bind fun r1=>
  bif (!r1) then
  some (⟨⟨#[]⟩,0,[],0,⟨#[]⟩,0⟩,false)
  else
  some (⟨v_8c0,v_8c1,v_13,v_8c3,r0,(w64 (A_2.fCount+1))⟩,true)
  else none
noncomputable def Oe:Nat→Me→Option (SBook×Bool)
 | 0,_=>none
 | m+1,s=>Ri spec_RecText spec_BookOk BZ spec_ThingOf CZ DZ spec_DigestOf (Oe m) s
noncomputable def Qe:Np:=Qp spec_RecText spec_BookOk BZ spec_ThingOf CZ DZ spec_DigestOf (Oe gas)
theorem YAA:Tells ctx PP 34 cv49 cv50 (fun a=>Qe a.1 a.2):=
 have b:∀ z0 z1 z2 z3 z4 z5 z6,CutIs ctx PP 34 Tryz.f34 [] [(72,Ep z0),(73,Qy z1),(74,Ry z2),(75,Wy z3),(76,Xy z4),(77,Zy z5),(8,XY z6)] cv50 Az (Ri z0 z1 z2 z3 z4 z5 z6):=fun z0 z1 z2 z3 z4 z5 z6 _ s=>by cases s <;> kernel_rfl
 have e:∀ z0 z1 z2 z3 z4 z5 z6,EntryIs ctx PP 34 [] [(72,Ep z0),(73,Qy z1),(74,Ry z2),(75,Wy z3),(76,Xy z4),(77,Zy z5),(8,XY z6)] cv49 cv50 Az (fun k a=>Qp z0 z1 z2 z3 z4 z5 z6 k a.1 a.2):=fun z0 z1 z2 z3 z4 z5 z6 _ a=>by kernel_rfl
 fn_ok (hc Oy (hc TAA (hc UAA (hc VAA (hc WAA (hc XAA (hc Xd hl_nil))))))) Tryz.func34 (fun s s' h=>by cases s;cases s';(repeat cases ‹SBook›);(repeat cases ‹SRec›);(repeat cases ‹SThing›);cases h;rfl) (fun _=>rfl) (fun _ _=>rfl) (b spec_RecText spec_BookOk BZ spec_ThingOf CZ DZ spec_DigestOf) (e spec_RecText spec_BookOk BZ spec_ThingOf CZ DZ spec_DigestOf) gas
noncomputable def ZAA {γ:Type} (F:Np):Hd ctx γ:=hdl cv49.dec (fun a=>F a.1 a.2) cv50.enc
abbrev Vp:=ByteArray→Int→Option ByteArray
inductive Ue where
 | c0 (key_0:ByteArray) (x_1:Int) (i_6:Int) (out_5:(List Int))
noncomputable def Bz:Ue→LI
 | .c0 key_0 x_1 i_6 out_5=>(tdo Tryz.f219 976,[(0,[.one (.str key_0)]),(1,[.one (.int .u8 x_1)]),(5,[.one (.own 368)]),(6,[.one (.int .i64 i_6)])],[(368,.sl 5 out_5)])
noncomputable def Wp (z0:JY) (k:Ue→Option ByteArray) (key_0:ByteArray) (x_1:Int):Option ByteArray:=
 bif (decide ((key_0.size:Int) > 64)) then
 (z0 key_0).bind fun r0=>
 k (.c0 r0 x_1 0 (List.replicate (64:Int).toNat (0:Int)))
 else
 k (.c0 key_0 x_1 0 (List.replicate (64:Int).toNat (0:Int)))
noncomputable def Si (z0:JY) (k:Ue→Option ByteArray):Ue→Option ByteArray
 | .c0 key_0 x_1 i_6 out_5=>
 bif (decide (i_6<64)) then
  bif (decide (i_6<(key_0.size:Int))) then
  bif ((decide (0≤i_6)) && (decide (i_6<(key_0.size:Int)))) then
  bif ((decide (0≤i_6)) && (decide (i_6<(out_5.length:Int)))) then
  bif ((decide (0≤i_6)) && (decide (i_6<((out_5.set i_6.toNat (bt key_0 i_6)).length:Int)))) then
  bif ((decide (0≤i_6)) && (decide (i_6<((out_5.set i_6.toNat (bt key_0 i_6)).length:Int)))) then
  k (.c0 key_0 x_1 (w64 (i_6+1)) ((out_5.set i_6.toNat (bt key_0 i_6)).set i_6.toNat (w8 (((BitVec.toNat ((BitVec.ofInt (IntKind.bits IntKind.u8) ((out_5.set i_6.toNat (bt key_0 i_6)).getD i_6.toNat 0)) ^^^ (BitVec.ofInt (IntKind.bits IntKind.u8) x_1))):Nat):Int))))
  else none
  else none
  else none
  else none
  else
  bif ((decide (0≤i_6)) && (decide (i_6<(out_5.length:Int)))) then
  bif ((decide (0≤i_6)) && (decide (i_6<(out_5.length:Int)))) then
  k (.c0 key_0 x_1 (w64 (i_6+1)) (out_5.set i_6.toNat (w8 (((BitVec.toNat ((BitVec.ofInt (IntKind.bits IntKind.u8) (out_5.getD i_6.toNat 0)) ^^^ (BitVec.ofInt (IntKind.bits IntKind.u8) x_1))):Nat):Int))))
  else none
  else none
 else
  some (ofBytes out_5)
noncomputable def Ea:Nat→Ue→Option ByteArray
 | 0,_=>none
 | m+1,s=>Si spec_DigestOf (Ea m) s
noncomputable def spec_l06Mask:Vp:=Wp spec_DigestOf (Ea gas)
theorem AAB:Tells ctx PP 219 cv28 cv9 (fun a=>spec_l06Mask a.1 a.2):=
 have b:∀ z0,CutIs ctx PP 219 Tryz.f219 [] [(8,XY z0)] cv9 Bz (Si z0):=fun z0 _ s=>by cases s <;> kernel_rfl
 have e:∀ z0,EntryIs ctx PP 219 [] [(8,XY z0)] cv28 cv9 Bz (fun k a=>Wp z0 k a.1 a.2):=fun z0 _ a=>by kernel_rfl
 fn_ok (hc Xd hl_nil) Tryz.func219 (fun s s' h=>by cases s;cases s';cases h;rfl) (fun _=>rfl) (fun _ _=>rfl) (b spec_DigestOf) (e spec_DigestOf) gas
noncomputable def BAB {γ:Type} (F:Vp):Hd ctx γ:=hdl cv28.dec (fun a=>F a.1 a.2) cv9.enc
abbrev Ve:=ByteArray→ByteArray→Option ByteArray
noncomputable def Xp (z0:Vp) (z1:JY) (key_0:ByteArray) (s_1:ByteArray):Option ByteArray:=
 (z0 key_0 92).bind fun r0=>
 (z0 key_0 54).bind fun r1=>
 bif (decide ((r1.size+s_1.size)≤9223372036854775807)) then
 (z1 (r1++s_1)).bind fun r2=>
 bif (decide ((r0.size+r2.size)≤9223372036854775807)) then
 (z1 (r0++r2)).bind fun r3=>
 some r3
 else none
 else none
noncomputable def spec_MacOf:Ve:=Xp spec_l06Mask spec_DigestOf
theorem Dz:Tells ctx PP 191 cv29 cv9 (fun a=>spec_MacOf a.1 a.2):=fn_ok0 (hc AAB (hc Xd hl_nil)) Tryz.func191 ((fun z0 z1 a=>by kernel_rfl:∀ z0 z1,EntryIs0 ctx PP 191 [] [(219,BAB z0),(8,XY z1)] cv29 cv9 fun a=>Xp z0 z1 a.1 a.2) spec_l06Mask spec_DigestOf)
noncomputable def Yp {γ:Type} (F:Ve):Hd ctx γ:=hdl cv29.dec (fun a=>F a.1 a.2) cv9.enc
abbrev Zp:=ByteArray→Int→Int→Option (ByteArray×Bool)
inductive Xe where
 | c0 (key_0:ByteArray) (num_1:Int) (n_2:Int) (i_9:Int) (out_8:(List Int))
noncomputable def Ez:Xe→LI
 | .c0 key_0 num_1 n_2 i_9 out_8=>(tdo Tryz.f161 976,[(0,[.one (.str key_0)]),(1,[.one (.int .i64 num_1)]),(2,[.one (.int .i64 n_2)]),(8,[.one (.own 560)]),(9,[.one (.int .i64 i_9)])],[(560,.sl 5 out_8)])
noncomputable def Aq (z0:NM) (z1:KY) (z2:Ee) (z3:Ve) (k:Xe→Option (ByteArray×Bool)) (key_0:ByteArray) (num_1:Int) (n_2:Int):Option (ByteArray×Bool):=
 (z0 num_1 0 1000000000).bind fun r0=>
 bif (!r0) then
 some (⟨#[]⟩,false)
 else
 (z0 n_2 0 8000).bind fun r1=>
 bif (!r1) then
  some (⟨#[]⟩,false)
 else
  k (.c0 key_0 num_1 n_2 0 [])
noncomputable def Ti (z0:NM) (z1:KY) (z2:Ee) (z3:Ve) (k:Xe→Option (ByteArray×Bool)):Xe→Option (ByteArray×Bool)
 | .c0 key_0 num_1 n_2 i_9 out_8=>
 bif (decide ((out_8.length:Int)<n_2)) then
  (z1 num_1).bind fun r0=>
  bif (decide (((⟨#[109]⟩:ByteArray).size+r0.size)≤9223372036854775807)) then
  (z2 i_9).bind fun r1=>
  bif (decide ((((⟨#[109]⟩:ByteArray)++r0).size+r1.size)≤9223372036854775807)) then
  (z3 key_0 (((⟨#[109]⟩:ByteArray)++r0)++r1)).bind fun r2=>
  bif (decide (r2.size≤9223372036854775807)) then
  bif (decide (((out_8.length+(bytesOf r2).length)*1)≤140737488355328)) then
  k (.c0 key_0 num_1 n_2 (w64 (i_9+1)) (out_8++(bytesOf r2)))
  else none
  else none
  else none
  else none
 else
  bif ((decide (0≤n_2)) && (decide (n_2≤(out_8.length:Int)))) then
  some ((ofBytes ((out_8.drop 0).take (n_2.toNat - 0))),true)
  else none
noncomputable def Ye:Nat→Xe→Option (ByteArray×Bool)
 | 0,_=>none
 | m+1,s=>Ti spec_l01In spec_l01Var spec_l06Byte spec_MacOf (Ye m) s
noncomputable def spec_Mask:Zp:=Aq spec_l01In spec_l01Var spec_l06Byte spec_MacOf (Ye gas)
theorem CAB:Tells ctx PP 161 cv30 cv26 (fun a=>spec_Mask a.1 a.2.1 a.2.2):=
 have b:∀ z0 z1 z2 z3,CutIs ctx PP 161 Tryz.f161 [] [(102,SN z0),(118,ZY z1),(159,Vo z2),(191,Yp z3)] cv26 Ez (Ti z0 z1 z2 z3):=fun z0 z1 z2 z3 _ s=>by cases s <;> kernel_rfl
 have e:∀ z0 z1 z2 z3,EntryIs ctx PP 161 [] [(102,SN z0),(118,ZY z1),(159,Vo z2),(191,Yp z3)] cv30 cv26 Ez (fun k a=>Aq z0 z1 z2 z3 k a.1 a.2.1 a.2.2):=fun z0 z1 z2 z3 _ a=>by kernel_rfl
 fn_ok (hc CV (hc YZ (hc Ny (hc Dz hl_nil)))) Tryz.func161 (fun s s' h=>by cases s;cases s';cases h;rfl) (fun _=>rfl) (fun _ _=>rfl) (b spec_l01In spec_l01Var spec_l06Byte spec_MacOf) (e spec_l01In spec_l01Var spec_l06Byte spec_MacOf) gas
noncomputable def DAB {γ:Type} (F:Zp):Hd ctx γ:=hdl cv30.dec (fun a=>F a.1 a.2.1 a.2.2) cv26.enc
abbrev Bq:=ByteArray→ByteArray→Option ByteArray
inductive Ze where
 | c0 (b_1:ByteArray) (i_6:Int) (out_5:(List Int))
noncomputable def Fz:Ze→LI
 | .c0 b_1 i_6 out_5=>(tdo Tryz.f162 464,[(1,[.one (.str b_1)]),(5,[.one (.own 368)]),(6,[.one (.int .i64 i_6)])],[(368,.sl 5 out_5)])
noncomputable def Dq (k:Ze→Option ByteArray) (a_0:ByteArray) (b_1:ByteArray):Option ByteArray:=
 bif (decide (a_0.size≤9223372036854775807)) then
 k (.c0 b_1 0 (bytesOf a_0))
 else none
noncomputable def Ui (k:Ze→Option ByteArray):Ze→Option ByteArray
 | .c0 b_1 i_6 out_5=>
 bif (decide (i_6<(out_5.length:Int))) then
  bif ((decide (0≤i_6)) && (decide (i_6<(out_5.length:Int)))) then
  bif ((decide (0≤i_6)) && (decide (i_6<(b_1.size:Int)))) then
  bif ((decide (0≤i_6)) && (decide (i_6<(out_5.length:Int)))) then
  k (.c0 b_1 (w64 (i_6+1)) (out_5.set i_6.toNat (w8 (((BitVec.toNat ((BitVec.ofInt (IntKind.bits IntKind.u8) (out_5.getD i_6.toNat 0)) ^^^ (BitVec.ofInt (IntKind.bits IntKind.u8) (bt b_1 i_6)))):Nat):Int))))
  else none
  else none
  else none
 else
  some (ofBytes out_5)
noncomputable def Af:Nat→Ze→Option ByteArray
 | 0,_=>none
 | m+1,s=>Ui (Af m) s
noncomputable def spec_l18Xor:Bq:=Dq (Af gas)
theorem EAB:Tells ctx PP 162 cv29 cv9 (fun a=>spec_l18Xor a.1 a.2):=
 have b:CutIs ctx PP 162 Tryz.f162 [] [] cv9 Fz (Ui):=fun _ s=>by cases s <;> kernel_rfl
 have e:EntryIs ctx PP 162 [] [] cv29 cv9 Fz (fun k a=>Dq k a.1 a.2):=fun _ a=>by kernel_rfl
 fn_ok hl_nil Tryz.func162 (fun s s' h=>by cases s;cases s';cases h;rfl) (fun _=>rfl) (fun _ _=>rfl) b e gas
noncomputable def FAB {γ:Type} (F:Bq):Hd ctx γ:=hdl cv29.dec (fun a=>F a.1 a.2) cv9.enc
abbrev Fq:=ByteArray→Int→ByteArray→Option ByteArray
noncomputable def Gq (z0:KY) (z1:Ve) (key_0:ByteArray) (num_1:Int) (s_2:ByteArray):Option ByteArray:=
 (z0 num_1).bind fun r0=>
 bif (decide (((⟨#[116]⟩:ByteArray).size+r0.size)≤9223372036854775807)) then
 bif (decide ((((⟨#[116]⟩:ByteArray)++r0).size+s_2.size)≤9223372036854775807)) then
 (z1 key_0 (((⟨#[116]⟩:ByteArray)++r0)++s_2)).bind fun r1=>
 bif ((decide ((0:Int)≤(16:Int))) && (decide (16≤(r1.size:Int)))) then
 some (r1.extract 0 (16:Int).toNat)
 else none
 else none
 else none
noncomputable def spec_l18Tag:Fq:=Gq spec_l01Var spec_MacOf
theorem GAB:Tells ctx PP 163 cv31 cv9 (fun a=>spec_l18Tag a.1 a.2.1 a.2.2):=fn_ok0 (hc YZ (hc Dz hl_nil)) Tryz.func163 ((fun z0 z1 a=>by kernel_rfl:∀ z0 z1,EntryIs0 ctx PP 163 [] [(118,ZY z0),(191,Yp z1)] cv31 cv9 fun a=>Gq z0 z1 a.1 a.2.1 a.2.2) spec_l01Var spec_MacOf)
noncomputable def IAB {γ:Type} (F:Fq):Hd ctx γ:=hdl cv31.dec (fun a=>F a.1 a.2.1 a.2.2) cv9.enc
abbrev Hq:=ByteArray→Int→ByteArray→Option (ByteArray×Bool)
noncomputable def Iq (z0:Zp) (z1:Bq) (z2:Fq) (key_0:ByteArray) (num_1:Int) (s_2:ByteArray):Option (ByteArray×Bool):=
 (z0 key_0 num_1 (s_2.size:Int)).bind fun r0=>
 bif (!r0.2) then
 some (⟨#[]⟩,false)
 else
 (z1 s_2 r0.1).bind fun r1=>
 (z2 key_0 num_1 r1).bind fun r2=>
 bif (decide ((r1.size+r2.size)≤9223372036854775807)) then
 some ((r1++r2),true)
 else none
noncomputable def spec_LockText:Hq:=Iq spec_Mask spec_l18Xor spec_l18Tag
theorem JAB:Tells ctx PP 121 cv31 cv26 (fun a=>spec_LockText a.1 a.2.1 a.2.2):=fn_ok0 (hc CAB (hc EAB (hc GAB hl_nil))) Tryz.func121 ((fun z0 z1 z2 a=>by kernel_rfl:∀ z0 z1 z2,EntryIs0 ctx PP 121 [] [(161,DAB z0),(162,FAB z1),(163,IAB z2)] cv31 cv26 fun a=>Iq z0 z1 z2 a.1 a.2.1 a.2.2) spec_Mask spec_l18Xor spec_l18Tag)
noncomputable def KAB {γ:Type} (F:Hq):Hd ctx γ:=hdl cv31.dec (fun a=>F a.1 a.2.1 a.2.2) cv26.enc
abbrev Jq:=Int→ByteArray→Option Int
inductive Bf where
 | c0 (sum_0:Int) (text_1:ByteArray) (i_5:Int)
 | c1 (sum_0:Int) (text_1:ByteArray) (i_5:Int) (k_6:Int)
noncomputable def Gz:Bf→LI
 | .c0 sum_0 text_1 i_5=>(tdo Tryz.f192 208,[(0,[.one (.int .u32 sum_0)]),(1,[.one (.str text_1)]),(5,[.one (.int .i64 i_5)])],[])
 | .c1 sum_0 text_1 i_5 k_6=>(tdo Tryz.f192 26928,[(0,[.one (.int .u32 sum_0)]),(1,[.one (.str text_1)]),(5,[.one (.int .i64 i_5)]),(6,[.one (.int .i64 k_6)])],[])
noncomputable def Kq (k:Bf→Option Int) (sum_0:Int) (text_1:ByteArray):Option Int:=
 k (.c0 sum_0 text_1 0)
noncomputable def Fa (k:Bf→Option Int):Bf→Option Int
 | .c0 sum_0 text_1 i_5=>
 bif (decide (i_5<(text_1.size:Int))) then
  bif ((decide (0≤i_5)) && (decide (i_5<(text_1.size:Int)))) then
  k (.c1 (w32 (((BitVec.toNat ((BitVec.ofInt (IntKind.bits IntKind.u32) sum_0) ^^^ (BitVec.ofInt (IntKind.bits IntKind.u32) (w32 (bt text_1 i_5))))):Nat):Int)) text_1 i_5 0)
  else none
 else
  some sum_0
 | .c1 sum_0 text_1 i_5 k_6=>
 bif (decide (k_6<8)) then
  bif ((sum_0.tmod 2) == 1) then
  k (.c1 (w32 (((BitVec.toNat ((BitVec.ofInt (IntKind.bits IntKind.u32) (w32 (sum_0.tdiv 2))) ^^^ (BitVec.ofInt (IntKind.bits IntKind.u32) 3558460437))):Nat):Int)) text_1 i_5 (w64 (k_6+1)))
  else
  k (.c1 (w32 (sum_0.tdiv 2)) text_1 i_5 (w64 (k_6+1)))
 else
  k (.c0 sum_0 text_1 (w64 (i_5+1)))
noncomputable def NY:Nat→Bf→Option Int
 | 0,_=>none
 | m+1,s=>Fa (NY m) s
noncomputable def spec_SumMore:Jq:=Kq (NY gas)
theorem LAB:Tells ctx PP 192 cv32 cv16 (fun a=>spec_SumMore a.1 a.2):=
 have b:CutIs ctx PP 192 Tryz.f192 [] [] cv16 Gz (Fa):=fun _ s=>by cases s <;> kernel_rfl
 have e:EntryIs ctx PP 192 [] [] cv32 cv16 Gz (fun k a=>Kq k a.1 a.2):=fun _ a=>by kernel_rfl
 fn_ok hl_nil Tryz.func192 (fun s s' h=>by cases s <;> cases s' <;> first | (cases h;done) | (cases h;rfl) | exact (rg_ne h (by kernel_rfl)).elim) (fun _=>rfl) (fun _ _=>rfl) b e gas
noncomputable def MAB {γ:Type} (F:Jq):Hd ctx γ:=hdl cv32.dec (fun a=>F a.1 a.2) cv16.enc
abbrev Nq:=ByteArray→Option Int
noncomputable def Oq (z0:Jq) (text_0:ByteArray):Option Int:=
 (z0 4294967295 text_0).bind fun r0=>
 some r0
noncomputable def spec_SumOf:Nq:=Oq spec_SumMore
theorem NAB:Tells ctx PP 165 cv9 cv16 (fun a=>spec_SumOf a):=fn_ok0 (hc LAB hl_nil) Tryz.func165 ((fun z0 a=>by kernel_rfl:∀ z0,EntryIs0 ctx PP 165 [] [(192,MAB z0)] cv9 cv16 fun a=>Oq z0 a) spec_SumMore)
noncomputable def OAB {γ:Type} (F:Nq):Hd ctx γ:=hdl cv9.dec (fun a=>F a) cv16.enc
abbrev Pq:=Int→Option ByteArray
noncomputable def Qq (x_0:Int):Option ByteArray:=
 some (ofBytes [(w8 (Int.fdiv x_0 (2 ^ (Min.min (24:Int).toNat (IntKind.bits IntKind.u32))))),(w8 (Int.fdiv x_0 (2 ^ (Min.min (16:Int).toNat (IntKind.bits IntKind.u32))))),(w8 (Int.fdiv x_0 (2 ^ (Min.min (8:Int).toNat (IntKind.bits IntKind.u32))))),(w8 x_0)])
noncomputable def spec_l02Four:Pq:=Qq
theorem PAB:Tells ctx PP 164 cv16 cv9 (fun a=>spec_l02Four a):=fn_ok0 hl_nil Tryz.func164 (fun a=>by kernel_rfl:EntryIs0 ctx PP 164 [] [] cv16 cv9 fun a=>Qq a)
noncomputable def QAB {γ:Type} (F:Pq):Hd ctx γ:=hdl cv16.dec (fun a=>F a) cv9.enc
abbrev Rq:=ByteArray→Option (ByteArray×Bool)
noncomputable def Tq (z0:NM) (z1:KY) (z2:Nq) (z3:Pq) (text_0:ByteArray):Option (ByteArray×Bool):=
 (z0 (text_0.size:Int) 1 9000).bind fun r0=>
 bif (!r0) then
 some (⟨#[]⟩,false)
 else
 (z1 (text_0.size:Int)).bind fun r1=>
 (z2 text_0).bind fun r2=>
 (z3 r2).bind fun r3=>
 bif (decide ((r1.size+r3.size)≤9223372036854775807)) then
 bif (decide (((r1++r3).size+text_0.size)≤9223372036854775807)) then
 some (((r1++r3)++text_0),true)
 else none
 else none
noncomputable def spec_Frame:Rq:=Tq spec_l01In spec_l01Var spec_SumOf spec_l02Four
theorem RAB:Tells ctx PP 122 cv9 cv26 (fun a=>spec_Frame a):=fn_ok0 (hc CV (hc YZ (hc NAB (hc PAB hl_nil)))) Tryz.func122 ((fun z0 z1 z2 z3 a=>by kernel_rfl:∀ z0 z1 z2 z3,EntryIs0 ctx PP 122 [] [(102,SN z0),(118,ZY z1),(165,OAB z2),(164,QAB z3)] cv9 cv26 fun a=>Tq z0 z1 z2 z3 a) spec_l01In spec_l01Var spec_SumOf spec_l02Four)
noncomputable def SAB {γ:Type} (F:Rq):Hd ctx γ:=hdl cv9.dec (fun a=>F a) cv26.enc
abbrev Vq:=ByteArray→Int→SRec→Option ((List SAct)×Bool)
noncomputable def Wq (z0:Fe) (z1:NM) (z2:Hq) (z3:Rq) (key_0:ByteArray) (count_1:Int) (r_2:SRec):Option ((List SAct)×Bool):=
 (z0 r_2).bind fun r0=>
 bif (!r0.2) then
 some ([],false)
 else
 (z1 count_1 0 10000).bind fun r1=>
 bif (!r1) then
  some ([],false)
 else
  (z2 key_0 (w64 (count_1+1)) r0.1).bind fun r2=>
  (z3 r2.1).bind fun r3=>
  some ([⟨1,⟨#[98,111,111,107]⟩,r3.1,⟨#[]⟩⟩,⟨2,⟨#[98,111,111,107]⟩,⟨#[]⟩,⟨#[]⟩⟩],true)
noncomputable def spec_BookActs:Vq:=Wq spec_RecText spec_l01In spec_LockText spec_Frame
theorem TAB:Tells ctx PP 78 cv33 cv34 (fun a=>spec_BookActs a.1 a.2.1 a.2.2):=fn_ok0 (hc Oy (hc CV (hc JAB (hc RAB hl_nil)))) Tryz.func78 ((fun z0 z1 z2 z3 a=>by kernel_rfl:∀ z0 z1 z2 z3,EntryIs0 ctx PP 78 [] [(72,Ep z0),(102,SN z1),(121,KAB z2),(122,SAB z3)] cv33 cv34 fun a=>Wq z0 z1 z2 z3 a.1 a.2.1 a.2.2) spec_RecText spec_l01In spec_LockText spec_Frame)
noncomputable def UAB {γ:Type} (F:Vq):Hd ctx γ:=hdl cv33.dec (fun a=>F a.1 a.2.1 a.2.2) cv34.enc
abbrev Df:=ByteArray→Option Bool
noncomputable def Xq (z0:NM) (s_0:ByteArray):Option Bool:=
 (z0 (s_0.size:Int) 1 8).bind fun r0=>
 some r0
noncomputable def spec_l03Name:Df:=Xq spec_l01In
theorem Hz:Tells ctx PP 167 cv9 cv1 (fun a=>spec_l03Name a):=fn_ok0 (hc CV hl_nil) Tryz.func167 ((fun z0 a=>by kernel_rfl:∀ z0,EntryIs0 ctx PP 167 [] [(102,SN z0)] cv9 cv1 fun a=>Xq z0 a) spec_l01In)
noncomputable def Yq {γ:Type} (F:Df):Hd ctx γ:=hdl cv9.dec (fun a=>F a) cv1.enc
abbrev Zq:=SDisk→Option Bool
inductive Ef where
 | c0 (i_3:Int) (d_1:SDisk)
noncomputable def Iz:Ef→LI
 | .c0 i_3 d_1=>(tdo Tryz.f166 464,[(1,[.one (.ptr 64 0)]),(3,[.one (.int .i64 i_3)])],[(64,.var [.rsl 148 d_1.fFiles])])
noncomputable def Ar (z0:Df) (z1:NM) (k:Ef→Option Bool) (d_0:SDisk):Option Bool:=
 bif (decide ((d_0.fFiles.length:Int) > 30)) then
 some false
 else
 k (.c0 0 d_0)
noncomputable def Wi (z0:Df) (z1:NM) (k:Ef→Option Bool):Ef→Option Bool
 | .c0 i_3 d_1=>
 bif (decide (i_3<(d_1.fFiles.length:Int))) then
  bif ((decide (0≤i_3)) && (decide (i_3<(d_1.fFiles.length:Int)))) then
  (z0 (d_1.fFiles.getD i_3.toNat (⟨⟨#[]⟩,⟨#[]⟩,0⟩:SFile)).fName).bind fun r0=>
  bif (!r0) then
  some false
  else
  bif (decide (((d_1.fFiles.getD i_3.toNat (⟨⟨#[]⟩,⟨#[]⟩,0⟩:SFile)).fText.size:Int) > 20000)) then
   some false
  else
   (z1 (d_1.fFiles.getD i_3.toNat (⟨⟨#[]⟩,⟨#[]⟩,0⟩:SFile)).fKept 0 ((d_1.fFiles.getD i_3.toNat (⟨⟨#[]⟩,⟨#[]⟩,0⟩:SFile)).fText.size:Int)).bind fun r1=>
   bif (!r1) then
   some false
   else
   bif (decide (i_3 > 0)) then
    bif ((decide (0≤(w64 (i_3 - 1)))) && (decide ((w64 (i_3 - 1))<(d_1.fFiles.length:Int)))) then
    bif (!(Op.bytesLess (ByteArray.toList (d_1.fFiles.getD (w64 (i_3 - 1)).toNat (⟨⟨#[]⟩,⟨#[]⟩,0⟩:SFile)).fName) (ByteArray.toList (d_1.fFiles.getD i_3.toNat (⟨⟨#[]⟩,⟨#[]⟩,0⟩:SFile)).fName))) then
    some false
    else
    k (.c0 (w64 (i_3+1)) d_1)
    else none
   else
    k (.c0 (w64 (i_3+1)) d_1)
  else none
 else
  some true
noncomputable def Gf:Nat→Ef→Option Bool
 | 0,_=>none
 | m+1,s=>Wi spec_l03Name spec_l01In (Gf m) s
noncomputable def spec_DiskOk:Zq:=Ar spec_l03Name spec_l01In (Gf gas)
theorem VAB:Tells ctx PP 166 cv35 cv1 (fun a=>spec_DiskOk a):=
 have b:∀ z0 z1,CutIs ctx PP 166 Tryz.f166 [] [(167,Yq z0),(102,SN z1)] cv1 Iz (Wi z0 z1):=fun z0 z1 _ s=>by cases s <;> kernel_rfl
 have e:∀ z0 z1,EntryIs ctx PP 166 [] [(167,Yq z0),(102,SN z1)] cv35 cv1 Iz (fun k a=>Ar z0 z1 k a):=fun z0 z1 _ a=>by kernel_rfl
 fn_ok (hc Hz (hc CV hl_nil)) Tryz.func166 (fun s s' h=>by cases s;cases s';(repeat cases ‹SDisk›);cases h;rfl) (fun _=>rfl) (fun _ _=>rfl) (b spec_l03Name spec_l01In) (e spec_l03Name spec_l01In) gas
noncomputable def WAB {γ:Type} (F:Zq):Hd ctx γ:=hdl cv35.dec (fun a=>F a) cv1.enc
abbrev Hr:=SDisk→ByteArray→Option Int
inductive Hf where
 | c0 (name_1:ByteArray) (i_5:Int) (d_2:SDisk)
noncomputable def Jz:Hf→LI
 | .c0 name_1 i_5 d_2=>(tdo Tryz.f168 208,[(1,[.one (.str name_1)]),(2,[.one (.ptr 128 0)]),(5,[.one (.int .i64 i_5)])],[(128,.var [.rsl 148 d_2.fFiles])])
noncomputable def Ir (k:Hf→Option Int) (d_0:SDisk) (name_1:ByteArray):Option Int:=
 k (.c0 name_1 0 d_0)
noncomputable def Xi (k:Hf→Option Int):Hf→Option Int
 | .c0 name_1 i_5 d_2=>
 bif (decide (i_5<(d_2.fFiles.length:Int))) then
  bif ((decide (0≤i_5)) && (decide (i_5<(d_2.fFiles.length:Int)))) then
  bif ((ByteArray.toList (d_2.fFiles.getD i_5.toNat (⟨⟨#[]⟩,⟨#[]⟩,0⟩:SFile)).fName) == (ByteArray.toList name_1)) then
  some i_5
  else
  k (.c0 name_1 (w64 (i_5+1)) d_2)
  else none
 else
  some (-(1:Int))
noncomputable def Jf:Nat→Hf→Option Int
 | 0,_=>none
 | m+1,s=>Xi (Jf m) s
noncomputable def spec_l03At:Hr:=Ir (Jf gas)
theorem XAB:Tells ctx PP 168 cv37 cv7 (fun a=>spec_l03At a.1 a.2):=
 have b:CutIs ctx PP 168 Tryz.f168 [] [] cv7 Jz (Xi):=fun _ s=>by cases s <;> kernel_rfl
 have e:EntryIs ctx PP 168 [] [] cv37 cv7 Jz (fun k a=>Ir k a.1 a.2):=fun _ a=>by kernel_rfl
 fn_ok hl_nil Tryz.func168 (fun s s' h=>by cases s;cases s';(repeat cases ‹SDisk›);cases h;rfl) (fun _=>rfl) (fun _ _=>rfl) b e gas
noncomputable def YAB {γ:Type} (F:Hr):Hd ctx γ:=hdl cv37.dec (fun a=>F a.1 a.2) cv7.enc
abbrev Jr:=SDisk→SFile→Option SDisk
inductive Rf where
 | c0 (i_6:Int) (d_2:SDisk) (f_3:SFile) (v_4r0:(List SFile)) (out_5r0:(List SFile))
 | c1 (i_7:Int) (d_2:SDisk) (f_3:SFile) (v_4r0:(List SFile)) (out_5r0:(List SFile))
noncomputable def Kz:Rf→LI
 | .c0 i_6 d_2 f_3 v_4r0 out_5r0=>(tdo Tryz.f169 464,[(2,[.one (.ptr 128 0)]),(3,[.one (.ptr 192 0)]),(4,[.one (.ptr 256 0)]),(5,[.one (.ptr 320 0)]),(6,[.one (.int .i64 i_6)])],[(128,.var [.rsl 148 d_2.fFiles]),(192,.var [.str f_3.fName,.str f_3.fText,.int .i64 f_3.fKept]),(256,.var [.own 1016384]),(320,.var [.own 1020480]),(1016384,.sl 148 v_4r0),(1020480,.sl 148 out_5r0)])
 | .c1 i_7 d_2 f_3 v_4r0 out_5r0=>(tdo Tryz.f169 2000,[(2,[.one (.ptr 128 0)]),(3,[.one (.ptr 192 0)]),(4,[.one (.ptr 256 0)]),(5,[.one (.ptr 320 0)]),(7,[.one (.int .i64 i_7)])],[(128,.var [.rsl 148 d_2.fFiles]),(192,.var [.str f_3.fName,.str f_3.fText,.int .i64 f_3.fKept]),(256,.var [.own 1016384]),(320,.var [.own 1020480]),(1016384,.sl 148 v_4r0),(1020480,.sl 148 out_5r0)])
noncomputable def Kr (k:Rf→Option SDisk) (d_0:SDisk) (f_1:SFile):Option SDisk:=
 k (.c0 0 d_0 f_1 [] [])
noncomputable def Ia (k:Rf→Option SDisk):Rf→Option SDisk
 | .c0 i_6 d_2 f_3 v_4r0 out_5r0=>
 bif (decide (i_6<(d_2.fFiles.length:Int))) then
  bif ((decide (0≤i_6)) && (decide (i_6<(d_2.fFiles.length:Int)))) then
  bif (Op.bytesLess (ByteArray.toList (d_2.fFiles.getD i_6.toNat (⟨⟨#[]⟩,⟨#[]⟩,0⟩:SFile)).fName) (ByteArray.toList f_3.fName)) then
  bif ((decide (0≤i_6)) && (decide (i_6<(d_2.fFiles.length:Int)))) then
  bif (decide (((out_5r0.length+1)*40)≤140737488355328)) then
  k (.c0 (w64 (i_6+1)) d_2 f_3 v_4r0 (out_5r0++[(d_2.fFiles.getD i_6.toNat (⟨⟨#[]⟩,⟨#[]⟩,0⟩:SFile))]))
  else none
  else none
  else
  k (.c0 (w64 (i_6+1)) d_2 f_3 v_4r0 out_5r0)
  else none
 else
  bif (decide (((out_5r0.length+1)*40)≤140737488355328)) then
  k (.c1 0 d_2 f_3 v_4r0 (out_5r0++[f_3]))
  else none
 | .c1 i_7 d_2 f_3 v_4r0 out_5r0=>
 bif (decide (i_7<(d_2.fFiles.length:Int))) then
  bif ((decide (0≤i_7)) && (decide (i_7<(d_2.fFiles.length:Int)))) then
  bif (!((Op.bytesLess (ByteArray.toList (d_2.fFiles.getD i_7.toNat (⟨⟨#[]⟩,⟨#[]⟩,0⟩:SFile)).fName) (ByteArray.toList f_3.fName)) || ((ByteArray.toList (d_2.fFiles.getD i_7.toNat (⟨⟨#[]⟩,⟨#[]⟩,0⟩:SFile)).fName) == (ByteArray.toList f_3.fName)))) then
  bif ((decide (0≤i_7)) && (decide (i_7<(d_2.fFiles.length:Int)))) then
  bif (decide (((out_5r0.length+1)*40)≤140737488355328)) then
  k (.c1 (w64 (i_7+1)) d_2 f_3 v_4r0 (out_5r0++[(d_2.fFiles.getD i_7.toNat (⟨⟨#[]⟩,⟨#[]⟩,0⟩:SFile))]))
  else none
  else none
  else
  k (.c1 (w64 (i_7+1)) d_2 f_3 v_4r0 out_5r0)
  else none
 else
  some ⟨out_5r0⟩
noncomputable def OY:Nat→Rf→Option SDisk
 | 0,_=>none
 | m+1,s=>Ia (OY m) s
noncomputable def spec_l03Put:Jr:=Kr (OY gas)
theorem ZAB:Tells ctx PP 169 cv100 cv36 (fun a=>spec_l03Put a.1 a.2):=
 have b:CutIs ctx PP 169 Tryz.f169 [] [] cv36 Kz (Ia):=fun _ s=>by cases s <;> kernel_rfl
 have e:EntryIs ctx PP 169 [] [] cv100 cv36 Kz (fun k a=>Kr k a.1 a.2):=fun _ a=>by kernel_rfl
 fn_ok hl_nil Tryz.func169 (fun s s' h=>by cases s <;> cases s' <;> first | ((repeat cases ‹SDisk›);(repeat cases ‹SFile›);cases h;done) | ((repeat cases ‹SDisk›);(repeat cases ‹SFile›);cases h;rfl) | exact (rg_ne h (by kernel_rfl)).elim) (fun _=>rfl) (fun _ _=>rfl) b e gas
noncomputable def AAC {γ:Type} (F:Jr):Hd ctx γ:=hdl cv100.dec (fun a=>F a.1 a.2) cv36.enc
abbrev Lr:=SDisk→ByteArray→Option SDisk
inductive Tf where
 | c0 (name_1:ByteArray) (i_6:Int) (d_2:SDisk) (v_4r0:(List SFile)) (out_5r0:(List SFile))
noncomputable def Nz:Tf→LI
 | .c0 name_1 i_6 d_2 v_4r0 out_5r0=>(tdo Tryz.f170 464,[(1,[.one (.str name_1)]),(2,[.one (.ptr 128 0)]),(4,[.one (.ptr 256 0)]),(5,[.one (.ptr 320 0)]),(6,[.one (.int .i64 i_6)])],[(128,.var [.rsl 148 d_2.fFiles]),(256,.var [.own 1016384]),(320,.var [.own 1020480]),(1016384,.sl 148 v_4r0),(1020480,.sl 148 out_5r0)])
noncomputable def Nr (k:Tf→Option SDisk) (d_0:SDisk) (name_1:ByteArray):Option SDisk:=
 k (.c0 name_1 0 d_0 [] [])
noncomputable def Yi (k:Tf→Option SDisk):Tf→Option SDisk
 | .c0 name_1 i_6 d_2 v_4r0 out_5r0=>
 bif (decide (i_6<(d_2.fFiles.length:Int))) then
  bif ((decide (0≤i_6)) && (decide (i_6<(d_2.fFiles.length:Int)))) then
  bif (!((ByteArray.toList (d_2.fFiles.getD i_6.toNat (⟨⟨#[]⟩,⟨#[]⟩,0⟩:SFile)).fName) == (ByteArray.toList name_1))) then
  bif ((decide (0≤i_6)) && (decide (i_6<(d_2.fFiles.length:Int)))) then
  bif (decide (((out_5r0.length+1)*40)≤140737488355328)) then
  k (.c0 name_1 (w64 (i_6+1)) d_2 v_4r0 (out_5r0++[(d_2.fFiles.getD i_6.toNat (⟨⟨#[]⟩,⟨#[]⟩,0⟩:SFile))]))
  else none
  else none
  else
  k (.c0 name_1 (w64 (i_6+1)) d_2 v_4r0 out_5r0)
  else none
 else
  some ⟨out_5r0⟩
noncomputable def Uf:Nat→Tf→Option SDisk
 | 0,_=>none
 | m+1,s=>Yi (Uf m) s
noncomputable def spec_l03Without:Lr:=Nr (Uf gas)
theorem BAC:Tells ctx PP 170 cv37 cv36 (fun a=>spec_l03Without a.1 a.2):=
 have b:CutIs ctx PP 170 Tryz.f170 [] [] cv36 Nz (Yi):=fun _ s=>by cases s <;> kernel_rfl
 have e:EntryIs ctx PP 170 [] [] cv37 cv36 Nz (fun k a=>Nr k a.1 a.2):=fun _ a=>by kernel_rfl
 fn_ok hl_nil Tryz.func170 (fun s s' h=>by cases s;cases s';(repeat cases ‹SDisk›);cases h;rfl) (fun _=>rfl) (fun _ _=>rfl) b e gas
noncomputable def CAC {γ:Type} (F:Lr):Hd ctx γ:=hdl cv37.dec (fun a=>F a.1 a.2) cv36.enc
abbrev Zi:=SDisk→SAct→Option (SDisk×Bool)
noncomputable def Qr (z0:Zq) (z1:Df) (z2:Hr) (z3:Jr) (z4:Lr) (d_0:SDisk) (a_1:SAct):Option (SDisk×Bool):=
 (z0 d_0).bind fun r0=>
 bif (!r0) then
 some (⟨[]⟩,false)
 else
 (z1 a_1.fName).bind fun r1=>
 bif (!r1) then
  some (⟨[]⟩,false)
 else
  bif (a_1.fKind != 3) then
  bif (!((ByteArray.toList a_1.fTo) == (ByteArray.toList ⟨#[]⟩))) then
   some (⟨[]⟩,false)
  else
   bif (a_1.fKind != 1) then
   bif (!((ByteArray.toList a_1.fText) == (ByteArray.toList ⟨#[]⟩))) then
    some (⟨[]⟩,false)
   else
    (z2 d_0 a_1.fName).bind fun r2=>
    bif (decide (r2≥0)) then
    bif ((decide (0≤r2)) && (decide (r2<(d_0.fFiles.length:Int)))) then
    bif (a_1.fKind == 1) then
     bif (decide (((d_0.fFiles.getD r2.toNat (⟨⟨#[]⟩,⟨#[]⟩,0⟩:SFile)).fText.size+a_1.fText.size)≤9223372036854775807)) then
     (z3 d_0 ⟨(d_0.fFiles.getD r2.toNat (⟨⟨#[]⟩,⟨#[]⟩,0⟩:SFile)).fName,((d_0.fFiles.getD r2.toNat (⟨⟨#[]⟩,⟨#[]⟩,0⟩:SFile)).fText++a_1.fText),(d_0.fFiles.getD r2.toNat (⟨⟨#[]⟩,⟨#[]⟩,0⟩:SFile)).fKept⟩).bind fun r3=>
     (z0 r3).bind fun r4=>
     bif (!r4) then
     some (⟨[]⟩,false)
     else
     some (r3,true)
     else none
    else
     bif (decide (r2<0)) then
     some (⟨[]⟩,false)
     else
     bif (a_1.fKind == 2) then
      (z3 d_0 ⟨(d_0.fFiles.getD r2.toNat (⟨⟨#[]⟩,⟨#[]⟩,0⟩:SFile)).fName,(d_0.fFiles.getD r2.toNat (⟨⟨#[]⟩,⟨#[]⟩,0⟩:SFile)).fText,((d_0.fFiles.getD r2.toNat (⟨⟨#[]⟩,⟨#[]⟩,0⟩:SFile)).fText.size:Int)⟩).bind fun r5=>
      (z0 r5).bind fun r6=>
      bif (!r6) then
      some (⟨[]⟩,false)
      else
      some (r5,true)
     else
      bif (a_1.fKind == 3) then
      bif (decide ((d_0.fFiles.getD r2.toNat (⟨⟨#[]⟩,⟨#[]⟩,0⟩:SFile)).fKept<((d_0.fFiles.getD r2.toNat (⟨⟨#[]⟩,⟨#[]⟩,0⟩:SFile)).fText.size:Int))) then
       some (⟨[]⟩,false)
      else
       bif ((ByteArray.toList a_1.fTo) == (ByteArray.toList a_1.fName)) then
       some (⟨[]⟩,false)
       else
       (z1 a_1.fTo).bind fun r7=>
       bif (!r7) then
        some (⟨[]⟩,false)
       else
        (z4 d_0 a_1.fName).bind fun r8=>
        (z3 r8 ⟨a_1.fTo,(d_0.fFiles.getD r2.toNat (⟨⟨#[]⟩,⟨#[]⟩,0⟩:SFile)).fText,(d_0.fFiles.getD r2.toNat (⟨⟨#[]⟩,⟨#[]⟩,0⟩:SFile)).fKept⟩).bind fun r9=>
        (z0 r9).bind fun r10=>
        bif (!r10) then
        some (⟨[]⟩,false)
        else
        some (r9,true)
      else
      bif (a_1.fKind == 4) then
       (z4 d_0 a_1.fName).bind fun r11=>
       (z0 r11).bind fun r12=>
       bif (!r12) then
       some (⟨[]⟩,false)
       else
       some (r11,true)
      else
       some (⟨[]⟩,false)
    else none
    else
    bif (a_1.fKind == 1) then
     bif (decide (((⟨#[]⟩:ByteArray).size+a_1.fText.size)≤9223372036854775807)) then
     (z3 d_0 ⟨a_1.fName,((⟨#[]⟩:ByteArray)++a_1.fText),0⟩).bind fun r13=>
     (z0 r13).bind fun r14=>
     bif (!r14) then
     some (⟨[]⟩,false)
     else
     some (r13,true)
     else none
    else
     bif (decide (r2<0)) then
     some (⟨[]⟩,false)
     else
     bif (a_1.fKind == 2) then
      (z3 d_0 ⟨a_1.fName,⟨#[]⟩,((⟨#[]⟩:ByteArray).size:Int)⟩).bind fun r15=>
      (z0 r15).bind fun r16=>
      bif (!r16) then
      some (⟨[]⟩,false)
      else
      some (r15,true)
     else
      bif (a_1.fKind == 3) then
      bif ((ByteArray.toList a_1.fTo) == (ByteArray.toList a_1.fName)) then
       some (⟨[]⟩,false)
      else
       (z1 a_1.fTo).bind fun r17=>
       bif (!r17) then
       some (⟨[]⟩,false)
       else
       (z4 d_0 a_1.fName).bind fun r18=>
       (z3 r18 ⟨a_1.fTo,⟨#[]⟩,0⟩).bind fun r19=>
       (z0 r19).bind fun r20=>
       bif (!r20) then
        some (⟨[]⟩,false)
       else
        some (r19,true)
      else
      bif (a_1.fKind == 4) then
       (z4 d_0 a_1.fName).bind fun r21=>
       (z0 r21).bind fun r22=>
       bif (!r22) then
       some (⟨[]⟩,false)
       else
       some (r21,true)
      else
       some (⟨[]⟩,false)
   else
   (z2 d_0 a_1.fName).bind fun r23=>
   bif (decide (r23≥0)) then
    bif ((decide (0≤r23)) && (decide (r23<(d_0.fFiles.length:Int)))) then
    bif (a_1.fKind == 1) then
    bif (decide (((d_0.fFiles.getD r23.toNat (⟨⟨#[]⟩,⟨#[]⟩,0⟩:SFile)).fText.size+a_1.fText.size)≤9223372036854775807)) then
    (z3 d_0 ⟨(d_0.fFiles.getD r23.toNat (⟨⟨#[]⟩,⟨#[]⟩,0⟩:SFile)).fName,((d_0.fFiles.getD r23.toNat (⟨⟨#[]⟩,⟨#[]⟩,0⟩:SFile)).fText++a_1.fText),(d_0.fFiles.getD r23.toNat (⟨⟨#[]⟩,⟨#[]⟩,0⟩:SFile)).fKept⟩).bind fun r24=>
    (z0 r24).bind fun r25=>
    bif (!r25) then
     some (⟨[]⟩,false)
    else
     some (r24,true)
    else none
    else
    bif (decide (r23<0)) then
     some (⟨[]⟩,false)
    else
     bif (a_1.fKind == 2) then
     (z3 d_0 ⟨(d_0.fFiles.getD r23.toNat (⟨⟨#[]⟩,⟨#[]⟩,0⟩:SFile)).fName,(d_0.fFiles.getD r23.toNat (⟨⟨#[]⟩,⟨#[]⟩,0⟩:SFile)).fText,((d_0.fFiles.getD r23.toNat (⟨⟨#[]⟩,⟨#[]⟩,0⟩:SFile)).fText.size:Int)⟩).bind fun r26=>
     (z0 r26).bind fun r27=>
     bif (!r27) then
      some (⟨[]⟩,false)
     else
      some (r26,true)
     else
     bif (a_1.fKind == 3) then
      bif (decide ((d_0.fFiles.getD r23.toNat (⟨⟨#[]⟩,⟨#[]⟩,0⟩:SFile)).fKept<((d_0.fFiles.getD r23.toNat (⟨⟨#[]⟩,⟨#[]⟩,0⟩:SFile)).fText.size:Int))) then
      some (⟨[]⟩,false)
      else
      bif ((ByteArray.toList a_1.fTo) == (ByteArray.toList a_1.fName)) then
       some (⟨[]⟩,false)
      else
       (z1 a_1.fTo).bind fun r28=>
       bif (!r28) then
       some (⟨[]⟩,false)
       else
       (z4 d_0 a_1.fName).bind fun r29=>
       (z3 r29 ⟨a_1.fTo,(d_0.fFiles.getD r23.toNat (⟨⟨#[]⟩,⟨#[]⟩,0⟩:SFile)).fText,(d_0.fFiles.getD r23.toNat (⟨⟨#[]⟩,⟨#[]⟩,0⟩:SFile)).fKept⟩).bind fun r30=>
       (z0 r30).bind fun r31=>
       bif (!r31) then
        some (⟨[]⟩,false)
       else
        some (r30,true)
     else
      bif (a_1.fKind == 4) then
      (z4 d_0 a_1.fName).bind fun r32=>
      (z0 r32).bind fun r33=>
      bif (!r33) then
       some (⟨[]⟩,false)
      else
       some (r32,true)
      else
      some (⟨[]⟩,false)
    else none
   else
    bif (a_1.fKind == 1) then
    bif (decide (((⟨#[]⟩:ByteArray).size+a_1.fText.size)≤9223372036854775807)) then
    (z3 d_0 ⟨a_1.fName,((⟨#[]⟩:ByteArray)++a_1.fText),0⟩).bind fun r34=>
    (z0 r34).bind fun r35=>
    bif (!r35) then
     some (⟨[]⟩,false)
    else
     some (r34,true)
    else none
    else
    bif (decide (r23<0)) then
     some (⟨[]⟩,false)
    else
     bif (a_1.fKind == 2) then
     (z3 d_0 ⟨a_1.fName,⟨#[]⟩,((⟨#[]⟩:ByteArray).size:Int)⟩).bind fun r36=>
     (z0 r36).bind fun r37=>
     bif (!r37) then
      some (⟨[]⟩,false)
     else
      some (r36,true)
     else
     bif (a_1.fKind == 3) then
      bif ((ByteArray.toList a_1.fTo) == (ByteArray.toList a_1.fName)) then
      some (⟨[]⟩,false)
      else
      (z1 a_1.fTo).bind fun r38=>
      bif (!r38) then
       some (⟨[]⟩,false)
      else
       (z4 d_0 a_1.fName).bind fun r39=>
       (z3 r39 ⟨a_1.fTo,⟨#[]⟩,0⟩).bind fun r40=>
       (z0 r40).bind fun r41=>
       bif (!r41) then
       some (⟨[]⟩,false)
       else
       some (r40,true)
     else
      bif (a_1.fKind == 4) then
      (z4 d_0 a_1.fName).bind fun r42=>
      (z0 r42).bind fun r43=>
      bif (!r43) then
       some (⟨[]⟩,false)
      else
       some (r42,true)
      else
      some (⟨[]⟩,false)
  else
  bif (a_1.fKind != 1) then
   bif (!((ByteArray.toList a_1.fText) == (ByteArray.toList ⟨#[]⟩))) then
   some (⟨[]⟩,false)
   else
   (z2 d_0 a_1.fName).bind fun r44=>
   bif (decide (r44≥0)) then
    bif ((decide (0≤r44)) && (decide (r44<(d_0.fFiles.length:Int)))) then
    bif (a_1.fKind == 1) then
    bif (decide (((d_0.fFiles.getD r44.toNat (⟨⟨#[]⟩,⟨#[]⟩,0⟩:SFile)).fText.size+a_1.fText.size)≤9223372036854775807)) then
    (z3 d_0 ⟨(d_0.fFiles.getD r44.toNat (⟨⟨#[]⟩,⟨#[]⟩,0⟩:SFile)).fName,((d_0.fFiles.getD r44.toNat (⟨⟨#[]⟩,⟨#[]⟩,0⟩:SFile)).fText++a_1.fText),(d_0.fFiles.getD r44.toNat (⟨⟨#[]⟩,⟨#[]⟩,0⟩:SFile)).fKept⟩).bind fun r45=>
    (z0 r45).bind fun r46=>
    bif (!r46) then
     some (⟨[]⟩,false)
    else
     some (r45,true)
    else none
    else
    bif (decide (r44<0)) then
     some (⟨[]⟩,false)
    else
     bif (a_1.fKind == 2) then
     (z3 d_0 ⟨(d_0.fFiles.getD r44.toNat (⟨⟨#[]⟩,⟨#[]⟩,0⟩:SFile)).fName,(d_0.fFiles.getD r44.toNat (⟨⟨#[]⟩,⟨#[]⟩,0⟩:SFile)).fText,((d_0.fFiles.getD r44.toNat (⟨⟨#[]⟩,⟨#[]⟩,0⟩:SFile)).fText.size:Int)⟩).bind fun r47=>
     (z0 r47).bind fun r48=>
     bif (!r48) then
      some (⟨[]⟩,false)
     else
      some (r47,true)
     else
     bif (a_1.fKind == 3) then
      bif (decide ((d_0.fFiles.getD r44.toNat (⟨⟨#[]⟩,⟨#[]⟩,0⟩:SFile)).fKept<((d_0.fFiles.getD r44.toNat (⟨⟨#[]⟩,⟨#[]⟩,0⟩:SFile)).fText.size:Int))) then
      some (⟨[]⟩,false)
      else
      bif ((ByteArray.toList a_1.fTo) == (ByteArray.toList a_1.fName)) then
       some (⟨[]⟩,false)
      else
       (z1 a_1.fTo).bind fun r49=>
       bif (!r49) then
       some (⟨[]⟩,false)
       else
       (z4 d_0 a_1.fName).bind fun r50=>
       (z3 r50 ⟨a_1.fTo,(d_0.fFiles.getD r44.toNat (⟨⟨#[]⟩,⟨#[]⟩,0⟩:SFile)).fText,(d_0.fFiles.getD r44.toNat (⟨⟨#[]⟩,⟨#[]⟩,0⟩:SFile)).fKept⟩).bind fun r51=>
       (z0 r51).bind fun r52=>
       bif (!r52) then
        some (⟨[]⟩,false)
       else
        some (r51,true)
     else
      bif (a_1.fKind == 4) then
      (z4 d_0 a_1.fName).bind fun r53=>
      (z0 r53).bind fun r54=>
      bif (!r54) then
       some (⟨[]⟩,false)
      else
       some (r53,true)
      else
      some (⟨[]⟩,false)
    else none
   else
    bif (a_1.fKind == 1) then
    bif (decide (((⟨#[]⟩:ByteArray).size+a_1.fText.size)≤9223372036854775807)) then
    (z3 d_0 ⟨a_1.fName,((⟨#[]⟩:ByteArray)++a_1.fText),0⟩).bind fun r55=>
    (z0 r55).bind fun r56=>
    bif (!r56) then
     some (⟨[]⟩,false)
    else
     some (r55,true)
    else none
    else
    bif (decide (r44<0)) then
     some (⟨[]⟩,false)
    else
     bif (a_1.fKind == 2) then
     (z3 d_0 ⟨a_1.fName,⟨#[]⟩,((⟨#[]⟩:ByteArray).size:Int)⟩).bind fun r57=>
     (z0 r57).bind fun r58=>
     bif (!r58) then
      some (⟨[]⟩,false)
     else
      some (r57,true)
     else
     bif (a_1.fKind == 3) then
      bif ((ByteArray.toList a_1.fTo) == (ByteArray.toList a_1.fName)) then
      some (⟨[]⟩,false)
      else
      (z1 a_1.fTo).bind fun r59=>
      bif (!r59) then
       some (⟨[]⟩,false)
      else
       (z4 d_0 a_1.fName).bind fun r60=>
       (z3 r60 ⟨a_1.fTo,⟨#[]⟩,0⟩).bind fun r61=>
       (z0 r61).bind fun r62=>
       bif (!r62) then
       some (⟨[]⟩,false)
       else
       some (r61,true)
     else
      bif (a_1.fKind == 4) then
      (z4 d_0 a_1.fName).bind fun r63=>
      (z0 r63).bind fun r64=>
      bif (!r64) then
       some (⟨[]⟩,false)
      else
       some (r63,true)
      else
      some (⟨[]⟩,false)
  else
   (z2 d_0 a_1.fName).bind fun r65=>
   bif (decide (r65≥0)) then
   bif ((decide (0≤r65)) && (decide (r65<(d_0.fFiles.length:Int)))) then
   bif (a_1.fKind == 1) then
    bif (decide (((d_0.fFiles.getD r65.toNat (⟨⟨#[]⟩,⟨#[]⟩,0⟩:SFile)).fText.size+a_1.fText.size)≤9223372036854775807)) then
    (z3 d_0 ⟨(d_0.fFiles.getD r65.toNat (⟨⟨#[]⟩,⟨#[]⟩,0⟩:SFile)).fName,((d_0.fFiles.getD r65.toNat (⟨⟨#[]⟩,⟨#[]⟩,0⟩:SFile)).fText++a_1.fText),(d_0.fFiles.getD r65.toNat (⟨⟨#[]⟩,⟨#[]⟩,0⟩:SFile)).fKept⟩).bind fun r66=>
    (z0 r66).bind fun r67=>
    bif (!r67) then
    some (⟨[]⟩,false)
    else
    some (r66,true)
    else none
   else
    bif (decide (r65<0)) then
    some (⟨[]⟩,false)
    else
    bif (a_1.fKind == 2) then
     (z3 d_0 ⟨(d_0.fFiles.getD r65.toNat (⟨⟨#[]⟩,⟨#[]⟩,0⟩:SFile)).fName,(d_0.fFiles.getD r65.toNat (⟨⟨#[]⟩,⟨#[]⟩,0⟩:SFile)).fText,((d_0.fFiles.getD r65.toNat (⟨⟨#[]⟩,⟨#[]⟩,0⟩:SFile)).fText.size:Int)⟩).bind fun r68=>
     (z0 r68).bind fun r69=>
     bif (!r69) then
     some (⟨[]⟩,false)
     else
     some (r68,true)
    else
     bif (a_1.fKind == 3) then
     bif (decide ((d_0.fFiles.getD r65.toNat (⟨⟨#[]⟩,⟨#[]⟩,0⟩:SFile)).fKept<((d_0.fFiles.getD r65.toNat (⟨⟨#[]⟩,⟨#[]⟩,0⟩:SFile)).fText.size:Int))) then
      some (⟨[]⟩,false)
     else
      bif ((ByteArray.toList a_1.fTo) == (ByteArray.toList a_1.fName)) then
      some (⟨[]⟩,false)
      else
      (z1 a_1.fTo).bind fun r70=>
      bif (!r70) then
       some (⟨[]⟩,false)
      else
       (z4 d_0 a_1.fName).bind fun r71=>
       (z3 r71 ⟨a_1.fTo,(d_0.fFiles.getD r65.toNat (⟨⟨#[]⟩,⟨#[]⟩,0⟩:SFile)).fText,(d_0.fFiles.getD r65.toNat (⟨⟨#[]⟩,⟨#[]⟩,0⟩:SFile)).fKept⟩).bind fun r72=>
       (z0 r72).bind fun r73=>
       bif (!r73) then
       some (⟨[]⟩,false)
       else
       some (r72,true)
     else
     bif (a_1.fKind == 4) then
      (z4 d_0 a_1.fName).bind fun r74=>
      (z0 r74).bind fun r75=>
      bif (!r75) then
      some (⟨[]⟩,false)
      else
      some (r74,true)
     else
      some (⟨[]⟩,false)
   else none
   else
   bif (a_1.fKind == 1) then
    bif (decide (((⟨#[]⟩:ByteArray).size+a_1.fText.size)≤9223372036854775807)) then
    (z3 d_0 ⟨a_1.fName,((⟨#[]⟩:ByteArray)++a_1.fText),0⟩).bind fun r76=>
    (z0 r76).bind fun r77=>
    bif (!r77) then
    some (⟨[]⟩,false)
    else
    some (r76,true)
    else none
   else
    bif (decide (r65<0)) then
    some (⟨[]⟩,false)
    else
    bif (a_1.fKind == 2) then
     (z3 d_0 ⟨a_1.fName,⟨#[]⟩,((⟨#[]⟩:ByteArray).size:Int)⟩).bind fun r78=>
     (z0 r78).bind fun r79=>
     bif (!r79) then
     some (⟨[]⟩,false)
     else
     some (r78,true)
    else
     bif (a_1.fKind == 3) then
     bif ((ByteArray.toList a_1.fTo) == (ByteArray.toList a_1.fName)) then
      some (⟨[]⟩,false)
     else
      (z1 a_1.fTo).bind fun r80=>
      bif (!r80) then
      some (⟨[]⟩,false)
      else
      (z4 d_0 a_1.fName).bind fun r81=>
      (z3 r81 ⟨a_1.fTo,⟨#[]⟩,0⟩).bind fun r82=>
      (z0 r82).bind fun r83=>
      bif (!r83) then
       some (⟨[]⟩,false)
      else
       some (r82,true)
     else
     bif (a_1.fKind == 4) then
      (z4 d_0 a_1.fName).bind fun r84=>
      (z0 r84).bind fun r85=>
      bif (!r85) then
      some (⟨[]⟩,false)
      else
      some (r84,true)
     else
      some (⟨[]⟩,false)
noncomputable def spec_DoAct:Zi:=Qr spec_DiskOk spec_l03Name spec_l03At spec_l03Put spec_l03Without
theorem DAC:Tells ctx PP 123 cv40 cv41 (fun a=>spec_DoAct a.1 a.2):=fn_ok0 (hc VAB (hc Hz (hc XAB (hc ZAB (hc BAC hl_nil))))) Tryz.func123 ((fun z0 z1 z2 z3 z4 a=>by kernel_rfl:∀ z0 z1 z2 z3 z4,EntryIs0 ctx PP 123 [] [(166,WAB z0),(167,Yq z1),(168,YAB z2),(169,AAC z3),(170,CAC z4)] cv40 cv41 fun a=>Qr z0 z1 z2 z3 z4 a.1 a.2) spec_DiskOk spec_l03Name spec_l03At spec_l03Put spec_l03Without)
noncomputable def Oz {γ:Type} (F:Zi):Hd ctx γ:=hdl cv40.dec (fun a=>F a.1 a.2) cv41.enc
abbrev Sr:=SDisk→(List SAct)→Option (SDisk×Int)
inductive Vf where
 | c0 (list_1:(List SAct)) (i_7:Int) (v_4r0:(List SFile)) (out_6r0:(List SFile))
noncomputable def Pz:Vf→LI
 | .c0 list_1 i_7 v_4r0 out_6r0=>(tdo Tryz.f79 464,[(1,[.one (.rsl 156 list_1)]),(4,[.one (.ptr 256 0)]),(6,[.one (.ptr 384 0)]),(7,[.one (.int .i64 i_7)])],[(256,.var [.own 1016384]),(384,.var [.own 1024576]),(1016384,.sl 148 v_4r0),(1024576,.sl 148 out_6r0)])
noncomputable def Ur (z0:Zi) (k:Vf→Option (SDisk×Int)) (d_0:SDisk) (list_1:(List SAct)):Option (SDisk×Int):=
 bif (decide (((0+d_0.fFiles.length)*40)≤140737488355328)) then
 k (.c0 list_1 0 [] ([]++d_0.fFiles))
 else none
noncomputable def Aj (z0:Zi) (k:Vf→Option (SDisk×Int)):Vf→Option (SDisk×Int)
 | .c0 list_1 i_7 v_4r0 out_6r0=>
 bif (decide (i_7<(list_1.length:Int))) then
  bif ((decide (0≤i_7)) && (decide (i_7<(list_1.length:Int)))) then
  (z0 ⟨out_6r0⟩ (list_1.getD i_7.toNat (⟨0,⟨#[]⟩,⟨#[]⟩,⟨#[]⟩⟩:SAct))).bind fun r0=>
  bif (!r0.2) then
  some (⟨out_6r0⟩,i_7)
  else
  k (.c0 list_1 (w64 (i_7+1)) v_4r0 r0.1.fFiles)
  else none
 else
  some (⟨out_6r0⟩,(list_1.length:Int))
noncomputable def Xf:Nat→Vf→Option (SDisk×Int)
 | 0,_=>none
 | m+1,s=>Aj spec_DoAct (Xf m) s
noncomputable def spec_DoActs:Sr:=Ur spec_DoAct (Xf gas)
theorem EAC:Tells ctx PP 79 cv42 cv43 (fun a=>spec_DoActs a.1 a.2):=
 have b:∀ z0,CutIs ctx PP 79 Tryz.f79 [] [(123,Oz z0)] cv43 Pz (Aj z0):=fun z0 _ s=>by cases s <;> kernel_rfl
 have e:∀ z0,EntryIs ctx PP 79 [] [(123,Oz z0)] cv42 cv43 Pz (fun k a=>Ur z0 k a.1 a.2):=fun z0 _ a=>by kernel_rfl
 fn_ok (hc DAC hl_nil) Tryz.func79 (fun s s' h=>by cases s;cases s';cases h;rfl) (fun _=>rfl) (fun _ _=>rfl) (b spec_DoAct) (e spec_DoAct) gas
noncomputable def FAC {γ:Type} (F:Sr):Hd ctx γ:=hdl cv42.dec (fun a=>F a.1 a.2) cv43.enc
abbrev Vr:=ByteArray→SDisk→Int→SRec→Option SDisk
noncomputable def Xr (z0:Vq) (z1:Sr) (key_0:ByteArray) (d_1:SDisk) (count_2:Int) (r_3:SRec):Option SDisk:=
 (z0 key_0 count_2 r_3).bind fun r0=>
 (z1 d_1 r0.1).bind fun r1=>
 some r1.1
noncomputable def spec_l22Write:Vr:=Xr spec_BookActs spec_DoActs
theorem GAC:Tells ctx PP 36 cv101 cv36 (fun a=>spec_l22Write a.1 a.2.1 a.2.2.1 a.2.2.2):=fn_ok0 (hc TAB (hc EAC hl_nil)) Tryz.func36 ((fun z0 z1 a=>by kernel_rfl:∀ z0 z1,EntryIs0 ctx PP 36 [] [(78,UAB z0),(79,FAC z1)] cv101 cv36 fun a=>Xr z0 z1 a.1 a.2.1 a.2.2.1 a.2.2.2) spec_BookActs spec_DoActs)
noncomputable def HAC {γ:Type} (F:Vr):Hd ctx γ:=hdl cv101.dec (fun a=>F a.1 a.2.1 a.2.2.1 a.2.2.2) cv36.enc
abbrev Dl:=ByteArray→ByteArray→Option (SBox×Bool)
noncomputable def Yr (z0:JY) (z1:Ko) (z2:Np) (z3:Vr) (key_0:ByteArray) (word_1:ByteArray):Option (SBox×Bool):=
 bif ((key_0.size:Int) != 32) then
 some (⟨⟨#[]⟩,false,⟨[]⟩,⟨⟨#[]⟩,0,[],0,⟨#[]⟩,0⟩,[],[],0⟩,false)
 else
 bif (decide ((word_1.size:Int) > 20)) then
  some (⟨⟨#[]⟩,false,⟨[]⟩,⟨⟨#[]⟩,0,[],0,⟨#[]⟩,0⟩,[],[],0⟩,false)
 else
  (z0 word_1).bind fun r0=>
  z1.bind fun r1=>
  (z2 r1 ⟨1,r0,0,⟨0,0,false,false,false,false,⟨#[]⟩,0⟩⟩).bind fun r2=>
  (z3 key_0 ⟨[]⟩ 0 ⟨1,r0,0,⟨0,0,false,false,false,false,⟨#[]⟩,0⟩⟩).bind fun r3=>
  some (⟨key_0,true,r3,r2.1,[],[],0⟩,true)
noncomputable def Ya:Dl:=Yr spec_DigestOf Yd Qe spec_l22Write
theorem D7:Tells ctx PP 13 cv29 cv53 (fun a=>Ya a.1 a.2):=fn_ok0 (hc Xd (hc LAA (hc YAA (hc GAC hl_nil)))) Tryz.func13 ((fun z0 z1 z2 z3 a=>by kernel_rfl:∀ z0 z1 z2 z3,EntryIs0 ctx PP 13 [] [(8,XY z0),(35,MAA z1),(34,ZAA z2),(36,HAC z3)] cv29 cv53 fun a=>Yr z0 z1 z2 z3 a.1 a.2) spec_DigestOf Yd Qe spec_l22Write)
noncomputable def I7 {γ:Type} (F:Dl):Hd ctx γ:=hdl cv29.dec (fun a=>F a.1 a.2) cv53.enc
abbrev Zr:=(List SThing)→(List SThing)→Option Bool
inductive Yf where
 | c0 (a_0:(List SThing)) (b_1:(List SThing)) (v_12:Int) (v_13:Int)
noncomputable def Qz:Yf→LI
 | .c0 a_0 b_1 v_12 v_13=>(tdo Tryz.f96 232,[(0,[.one (.rsl 71 a_0)]),(1,[.one (.rsl 71 b_1)]),(12,[.one (.int .i64 v_12)]),(13,[.one (.int .i64 v_13)])],[])
noncomputable def E_impl_sameThings (k:Yf→Option Bool) (a_0:(List SThing)) (b_1:(List SThing)):Option Bool:=
 bif ((a_0.length:Int) != (b_1.length:Int)) then
 some false
 else
 k (.c0 a_0 b_1 (a_0.length:Int) 0)
noncomputable def B_impl_sameThings (k:Yf→Option Bool):Yf→Option Bool
 | .c0 a_0 b_1 v_12 v_13=>
 bif (decide (v_13<v_12)) then
  bif ((decide (0≤v_13)) && (decide (v_13<(a_0.length:Int)))) then
  bif ((decide (0≤v_13)) && (decide (v_13<(b_1.length:Int)))) then
  bif (!(((a_0.getD v_13.toNat (⟨0,0,false,false,false,false,⟨#[]⟩,0⟩:SThing)).fId == (b_1.getD v_13.toNat (⟨0,0,false,false,false,false,⟨#[]⟩,0⟩:SThing)).fId) && (((a_0.getD v_13.toNat (⟨0,0,false,false,false,false,⟨#[]⟩,0⟩:SThing)).fKind == (b_1.getD v_13.toNat (⟨0,0,false,false,false,false,⟨#[]⟩,0⟩:SThing)).fKind) && (((a_0.getD v_13.toNat (⟨0,0,false,false,false,false,⟨#[]⟩,0⟩:SThing)).fHidden == (b_1.getD v_13.toNat (⟨0,0,false,false,false,false,⟨#[]⟩,0⟩:SThing)).fHidden) && (((a_0.getD v_13.toNat (⟨0,0,false,false,false,false,⟨#[]⟩,0⟩:SThing)).fFixed == (b_1.getD v_13.toNat (⟨0,0,false,false,false,false,⟨#[]⟩,0⟩:SThing)).fFixed) && (((a_0.getD v_13.toNat (⟨0,0,false,false,false,false,⟨#[]⟩,0⟩:SThing)).fSigns == (b_1.getD v_13.toNat (⟨0,0,false,false,false,false,⟨#[]⟩,0⟩:SThing)).fSigns) && (((a_0.getD v_13.toNat (⟨0,0,false,false,false,false,⟨#[]⟩,0⟩:SThing)).fWraps == (b_1.getD v_13.toNat (⟨0,0,false,false,false,false,⟨#[]⟩,0⟩:SThing)).fWraps) && (((ByteArray.toList (a_0.getD v_13.toNat (⟨0,0,false,false,false,false,⟨#[]⟩,0⟩:SThing)).fValue) == (ByteArray.toList (b_1.getD v_13.toNat (⟨0,0,false,false,false,false,⟨#[]⟩,0⟩:SThing)).fValue)) && (((a_0.getD v_13.toNat (⟨0,0,false,false,false,false,⟨#[]⟩,0⟩:SThing)).fNext == (b_1.getD v_13.toNat (⟨0,0,false,false,false,false,⟨#[]⟩,0⟩:SThing)).fNext) && true))))))))) then
  some false
  else
  k (.c0 a_0 b_1 v_12 (w64 (v_13+1)))
  else none
  else none
 else
  some true
noncomputable def L_impl_sameThings:Nat→Yf→Option Bool
 | 0,_=>none
 | m+1,s=>B_impl_sameThings (L_impl_sameThings m) s
noncomputable def impl_sameThings:Zr:=E_impl_sameThings (L_impl_sameThings gas)
theorem IAC:Tells ctx PP 96 cv56 cv1 (fun a=>impl_sameThings a.1 a.2):=
 have b:CutIs ctx PP 96 Tryz.f96 [] [] cv1 Qz (B_impl_sameThings):=fun _ s=>by cases s <;> kernel_rfl
 have e:EntryIs ctx PP 96 [] [] cv56 cv1 Qz (fun k a=>E_impl_sameThings k a.1 a.2):=fun _ a=>by kernel_rfl
 fn_ok hl_nil Tryz.func96 (fun s s' h=>by cases s;cases s';cases h;rfl) (fun _=>rfl) (fun _ _=>rfl) b e gas
noncomputable def JAC {γ:Type} (F:Zr):Hd ctx γ:=hdl cv56.dec (fun a=>F a.1 a.2) cv1.enc
abbrev Jg:=SBook→SBook→Option Bool
noncomputable def E_impl_sameBook (z0:Zr) (a_0:SBook) (b_1:SBook):Option Bool:=
 bif ((ByteArray.toList a_0.fWord) == (ByteArray.toList b_1.fWord)) then
 bif (a_0.fTries == b_1.fTries) then
  (z0 a_0.fThings b_1.fThings).bind fun r0=>
  bif r0 then
  bif (a_0.fLast == b_1.fLast) then
   bif ((ByteArray.toList a_0.fChain) == (ByteArray.toList b_1.fChain)) then
   some (a_0.fCount == b_1.fCount)
   else
   some false
  else
   some false
  else
  some false
 else
  some false
 else
 some false
noncomputable def impl_sameBook:Jg:=E_impl_sameBook impl_sameThings
theorem U3:Tells ctx PP 48 cv57 cv1 (fun a=>impl_sameBook a.1 a.2):=fn_ok0 (hc IAC hl_nil) Tryz.func48 ((fun z0 a=>by kernel_rfl:∀ z0,EntryIs0 ctx PP 48 [] [(96,JAC z0)] cv57 cv1 fun a=>E_impl_sameBook z0 a.1 a.2) impl_sameThings)
noncomputable def Kt {γ:Type} (F:Jg):Hd ctx γ:=hdl cv57.dec (fun a=>F a.1 a.2) cv1.enc
abbrev Es:=SDisk→ByteArray→Option (ByteArray×Bool)
noncomputable def E_impl_FileAt (z0:RZ) (d_0:SDisk) (name_1:ByteArray):Option (ByteArray×Bool):=
 (z0 d_0 name_1).bind fun r0=>
 bif (decide (r0<0)) then
 some (⟨#[]⟩,false)
 else
 bif ((decide (0≤r0)) && (decide (r0<(d_0.fFiles.length:Int)))) then
 some ((d_0.fFiles.getD r0.toNat (⟨⟨#[]⟩,⟨#[]⟩,0⟩:SFile)).fText,true)
 else none
noncomputable def impl_FileAt:Es:=E_impl_FileAt impl_fileAt
theorem KAC:Tells ctx PP 97 cv37 cv26 (fun a=>impl_FileAt a.1 a.2):=fn_ok0 (hc Rh hl_nil) Tryz.func97 ((fun z0 a=>by kernel_rfl:∀ z0,EntryIs0 ctx PP 97 [] [(100,Uh z0)] cv37 cv26 fun a=>E_impl_FileAt z0 a.1 a.2) impl_fileAt)
noncomputable def LAC {γ:Type} (F:Es):Hd ctx γ:=hdl cv37.dec (fun a=>F a.1 a.2) cv26.enc
abbrev EZ:=ByteArray→Int→Option (Int×Int×Bool)
inductive Zf where
 | c0 (text_0:ByteArray) (at_1:Int) (n_7:Int) (k_8:Int)
noncomputable def Rz:Zf→LI
 | .c0 text_0 at_1 n_7 k_8=>(tdo Tryz.f172 976,[(0,[.one (.str text_0)]),(1,[.one (.int .i64 at_1)]),(7,[.one (.int .i64 n_7)]),(8,[.one (.int .i64 k_8)])],[])
noncomputable def E_impl_ReadVar (z0:TB) (k:Zf→Option (Int×Int×Bool)) (text_0:ByteArray) (at_1:Int):Option (Int×Int×Bool):=
 (z0 at_1 0 (text_0.size:Int)).bind fun r0=>
 bif (!r0) then
 some (0,(0,false))
 else
 k (.c0 text_0 at_1 0 0)
noncomputable def B_impl_ReadVar (z0:TB) (k:Zf→Option (Int×Int×Bool)):Zf→Option (Int×Int×Bool)
 | .c0 text_0 at_1 n_7 k_8=>
 bif (decide (k_8<5)) then
  bif (decide ((w64 (at_1+k_8))<(text_0.size:Int))) then
  bif ((decide (0≤(w64 (at_1+k_8)))) && (decide ((w64 (at_1+k_8))<(text_0.size:Int)))) then
  bif (decide (0≤(w64 (7*k_8)))) then
  bif (decide ((w64 (bt text_0 (w64 (at_1+k_8))))<128)) then
   bif ((w64 (bt text_0 (w64 (at_1+k_8)))) == 0) then
   bif (decide (k_8 > 0)) then
    some (0,(0,false))
   else
    bif (decide ((w64 (n_7+(w64 (((w64 (bt text_0 (w64 (at_1+k_8)))).tmod 128)*(2 ^ (Min.min (w64 (7*k_8)).toNat (IntKind.bits IntKind.i64))))))) > 1000000000)) then
    some (0,(0,false))
    else
    some ((w64 (n_7+(w64 (((w64 (bt text_0 (w64 (at_1+k_8)))).tmod 128)*(2 ^ (Min.min (w64 (7*k_8)).toNat (IntKind.bits IntKind.i64))))))),((w64 ((w64 (at_1+k_8))+1)),true))
   else
   bif (decide ((w64 (n_7+(w64 (((w64 (bt text_0 (w64 (at_1+k_8)))).tmod 128)*(2 ^ (Min.min (w64 (7*k_8)).toNat (IntKind.bits IntKind.i64))))))) > 1000000000)) then
    some (0,(0,false))
   else
    some ((w64 (n_7+(w64 (((w64 (bt text_0 (w64 (at_1+k_8)))).tmod 128)*(2 ^ (Min.min (w64 (7*k_8)).toNat (IntKind.bits IntKind.i64))))))),((w64 ((w64 (at_1+k_8))+1)),true))
  else
   k (.c0 text_0 at_1 (w64 (n_7+(w64 (((w64 (bt text_0 (w64 (at_1+k_8)))).tmod 128)*(2 ^ (Min.min (w64 (7*k_8)).toNat (IntKind.bits IntKind.i64))))))) (w64 (k_8+1)))
  else none
  else none
  else
  some (0,(0,false))
 else
  some (0,(0,false))
noncomputable def L_impl_ReadVar:Nat→Zf→Option (Int×Int×Bool)
 | 0,_=>none
 | m+1,s=>B_impl_ReadVar impl_in (L_impl_ReadVar m) s
noncomputable def impl_ReadVar:EZ:=E_impl_ReadVar impl_in (L_impl_ReadVar gas)
theorem Bj:Tells ctx PP 172 cv15 cv58 (fun a=>impl_ReadVar a.1 a.2):=
 have b:∀ z0,CutIs ctx PP 172 Tryz.f172 [] [(47,IK z0)] cv58 Rz (B_impl_ReadVar z0):=fun z0 _ s=>by cases s <;> kernel_rfl
 have e:∀ z0,EntryIs ctx PP 172 [] [(47,IK z0)] cv15 cv58 Rz (fun k a=>E_impl_ReadVar z0 k a.1 a.2):=fun z0 _ a=>by kernel_rfl
 fn_ok (hc FN hl_nil) Tryz.func172 (fun s s' h=>by cases s;cases s';cases h;rfl) (fun _=>rfl) (fun _ _=>rfl) (b impl_in) (e impl_in) gas
noncomputable def Ag {γ:Type} (F:EZ):Hd ctx γ:=hdl cv15.dec (fun a=>F a.1 a.2) cv58.enc
abbrev Cj:=ByteArray→Option ((List ByteArray)×Int)
inductive Bg where
 | c0 (file_0:ByteArray) (at_5:Int) (out_4:(List ByteArray))
noncomputable def Sz:Bg→LI
 | .c0 file_0 at_5 out_4=>(tdo Tryz.f145 496,[(0,[.one (.str file_0)]),(4,[.one (.own 304)]),(5,[.one (.int .i64 at_5)])],[(304,.sl 9 out_4)])
noncomputable def E_impl_Unframe (z0:EZ) (z1:TB) (z2:Mc) (z3:RY) (k:Bg→Option ((List ByteArray)×Int)) (file_0:ByteArray):Option ((List ByteArray)×Int):=
 bif (decide ((file_0.size:Int) > 20000)) then
 some ([],0)
 else
 k (.c0 file_0 0 [])
noncomputable def B_impl_Unframe (z0:EZ) (z1:TB) (z2:Mc) (z3:RY) (k:Bg→Option ((List ByteArray)×Int)):Bg→Option ((List ByteArray)×Int)
 | .c0 file_0 at_5 out_4=>
 (z0 file_0 at_5).bind fun r0=>
 bif (!r0.2.2) then
  some (out_4,at_5)
 else
  (z1 r0.1 1 9000).bind fun r1=>
  bif (!r1) then
  some (out_4,at_5)
  else
  bif (decide (r0.1 > (w64 ((w64 ((file_0.size:Int) - r0.2.1)) - 4)))) then
   some (out_4,at_5)
  else
   bif (((decide (0≤(w64 (r0.2.1+4)))) && (decide ((w64 (r0.2.1+4))≤(w64 ((w64 (r0.2.1+4))+r0.1))))) && (decide ((w64 ((w64 (r0.2.1+4))+r0.1))≤(file_0.size:Int)))) then
   bif (((decide (0≤r0.2.1)) && (decide (r0.2.1≤(w64 (r0.2.1+4))))) && (decide ((w64 (r0.2.1+4))≤(file_0.size:Int)))) then
   (z2 (file_0.extract (w64 (r0.2.1+4)).toNat (w64 ((w64 (r0.2.1+4))+r0.1)).toNat)).bind fun r2=>
   (z3 r2).bind fun r3=>
   bif (!((ByteArray.toList (file_0.extract r0.2.1.toNat (w64 (r0.2.1+4)).toNat)) == (ByteArray.toList r3))) then
   some (out_4,at_5)
   else
   bif (decide (((out_4.length+1)*16)≤140737488355328)) then
   k (.c0 file_0 (w64 ((w64 (r0.2.1+4))+r0.1)) (out_4++[(file_0.extract (w64 (r0.2.1+4)).toNat (w64 ((w64 (r0.2.1+4))+r0.1)).toNat)]))
   else none
   else none
   else none
noncomputable def L_impl_Unframe:Nat→Bg→Option ((List ByteArray)×Int)
 | 0,_=>none
 | m+1,s=>B_impl_Unframe impl_ReadVar impl_in impl_SumOf impl_fourBytes (L_impl_Unframe m) s
noncomputable def impl_Unframe:Cj:=E_impl_Unframe impl_ReadVar impl_in impl_SumOf impl_fourBytes (L_impl_Unframe gas)
theorem NAC:Tells ctx PP 145 cv9 cv59 (fun a=>impl_Unframe a):=
 have b:∀ z0 z1 z2 z3,CutIs ctx PP 145 Tryz.f145 [] [(172,Ag z0),(47,IK z1),(154,Xm z2),(107,MZ z3)] cv59 Sz (B_impl_Unframe z0 z1 z2 z3):=fun z0 z1 z2 z3 _ s=>by cases s <;> kernel_rfl
 have e:∀ z0 z1 z2 z3,EntryIs ctx PP 145 [] [(172,Ag z0),(47,IK z1),(154,Xm z2),(107,MZ z3)] cv9 cv59 Sz (fun k a=>E_impl_Unframe z0 z1 z2 z3 k a):=fun z0 z1 z2 z3 _ a=>by kernel_rfl
 fn_ok (hc Bj (hc FN (hc Gw (hc Eh hl_nil)))) Tryz.func145 (fun s s' h=>by cases s;cases s';cases h;rfl) (fun _=>rfl) (fun _ _=>rfl) (b impl_ReadVar impl_in impl_SumOf impl_fourBytes) (e impl_ReadVar impl_in impl_SumOf impl_fourBytes) gas
noncomputable def Tz {γ:Type} (F:Cj):Hd ctx γ:=hdl cv9.dec (fun a=>F a) cv59.enc
abbrev Ej:=ByteArray→Int→ByteArray→Option (ByteArray×Bool)
noncomputable def E_impl_OpenText (z0:Oh) (z1:Qh) (z2:Ph) (key_0:ByteArray) (num_1:Int) (text_2:ByteArray):Option (ByteArray×Bool):=
 bif (decide ((w64 ((text_2.size:Int) - 16))<0)) then
 some (⟨#[]⟩,false)
 else
 (z0 key_0 num_1 (w64 ((text_2.size:Int) - 16))).bind fun r0=>
 bif (!r0.2) then
  some (⟨#[]⟩,false)
 else
  bif ((decide (0≤(w64 ((text_2.size:Int) - 16)))) && (decide ((w64 ((text_2.size:Int) - 16))≤(text_2.size:Int)))) then
  (z1 key_0 num_1 (text_2.extract 0 (w64 ((text_2.size:Int) - 16)).toNat)).bind fun r1=>
  bif ((decide (0≤(w64 ((text_2.size:Int) - 16)))) && (decide ((w64 ((text_2.size:Int) - 16))≤(text_2.size:Int)))) then
  bif (!((ByteArray.toList r1) == (ByteArray.toList (text_2.extract (w64 ((text_2.size:Int) - 16)).toNat text_2.size)))) then
  some (⟨#[]⟩,false)
  else
  bif ((decide (0≤(w64 ((text_2.size:Int) - 16)))) && (decide ((w64 ((text_2.size:Int) - 16))≤(text_2.size:Int)))) then
  (z2 (text_2.extract 0 (w64 ((text_2.size:Int) - 16)).toNat) r0.1).bind fun r2=>
  some (r2,true)
  else none
  else none
  else none
noncomputable def impl_OpenText:Ej:=E_impl_OpenText impl_Mask impl_tag impl_both
theorem OAC:Tells ctx PP 125 cv31 cv26 (fun a=>impl_OpenText a.1 a.2.1 a.2.2):=fn_ok0 (hc Tv (hc Aw (hc Yv hl_nil))) Tryz.func125 ((fun z0 z1 z2 a=>by kernel_rfl:∀ z0 z1 z2,EntryIs0 ctx PP 125 [] [(151,Wv z0),(153,Dw z1),(152,Zv z2)] cv31 cv26 fun a=>E_impl_OpenText z0 z1 z2 a.1 a.2.1 a.2.2) impl_Mask impl_tag impl_both)
noncomputable def Uz {γ:Type} (F:Ej):Hd ctx γ:=hdl cv31.dec (fun a=>F a.1 a.2.1 a.2.2) cv26.enc
abbrev Gs:=SFields→Option (Int×SFields)
noncomputable def E_impl_fields_num (z0:EZ) (f_0:SFields):Option (Int×SFields):=
 (z0 f_0.fText f_0.fAt).bind fun r0=>
 bif (!r0.2.2) then
 some (0,⟨f_0.fText,f_0.fAt,true⟩)
 else
 some (r0.1,⟨f_0.fText,r0.2.1,f_0.fBad⟩)
noncomputable def impl_fields_num:Gs:=E_impl_fields_num impl_ReadVar
theorem PAC:Tells ctx PP 128 cv60 cv61 (fun a=>impl_fields_num a):=fn_ok0 (hc Bj hl_nil) Tryz.func128 ((fun z0 a=>by kernel_rfl:∀ z0,EntryIs0 ctx PP 128 [0] [(172,Ag z0)] cv60 cv61 fun a=>E_impl_fields_num z0 a) impl_ReadVar)
noncomputable def QAC {γ:Type} (F:Gs):Hd ctx γ:=hdl cv60.dec (fun a=>F a) cv61.enc
abbrev Js:=ByteArray→Int→Option (ByteArray×Int×Bool)
noncomputable def E_impl_ReadShort (z0:EZ) (text_0:ByteArray) (at_1:Int):Option (ByteArray×Int×Bool):=
 (z0 text_0 at_1).bind fun r0=>
 bif (!r0.2.2) then
 some (⟨#[]⟩,(0,false))
 else
 bif (decide (r0.1 > 20000)) then
  some (⟨#[]⟩,(0,false))
 else
  bif (decide (r0.1 > (w64 ((text_0.size:Int) - r0.2.1)))) then
  some (⟨#[]⟩,(0,false))
  else
  bif (((decide (0≤r0.2.1)) && (decide (r0.2.1≤(w64 (r0.2.1+r0.1))))) && (decide ((w64 (r0.2.1+r0.1))≤(text_0.size:Int)))) then
  some ((text_0.extract r0.2.1.toNat (w64 (r0.2.1+r0.1)).toNat),((w64 (r0.2.1+r0.1)),true))
  else none
noncomputable def impl_ReadShort:Js:=E_impl_ReadShort impl_ReadVar
theorem RAC:Tells ctx PP 126 cv15 cv62 (fun a=>impl_ReadShort a.1 a.2):=fn_ok0 (hc Bj hl_nil) Tryz.func126 ((fun z0 a=>by kernel_rfl:∀ z0,EntryIs0 ctx PP 126 [] [(172,Ag z0)] cv15 cv62 fun a=>E_impl_ReadShort z0 a.1 a.2) impl_ReadVar)
noncomputable def SAC {γ:Type} (F:Js):Hd ctx γ:=hdl cv15.dec (fun a=>F a.1 a.2) cv62.enc
abbrev Ls:=SFields→Option (ByteArray×SFields)
noncomputable def E_impl_fields_short (z0:Js) (f_0:SFields):Option (ByteArray×SFields):=
 (z0 f_0.fText f_0.fAt).bind fun r0=>
 bif (!r0.2.2) then
 some (⟨#[]⟩,⟨f_0.fText,f_0.fAt,true⟩)
 else
 some (r0.1,⟨f_0.fText,r0.2.1,f_0.fBad⟩)
noncomputable def impl_fields_short:Ls:=E_impl_fields_short impl_ReadShort
theorem UAC:Tells ctx PP 129 cv60 cv63 (fun a=>impl_fields_short a):=fn_ok0 (hc RAC hl_nil) Tryz.func129 ((fun z0 a=>by kernel_rfl:∀ z0,EntryIs0 ctx PP 129 [0] [(126,SAC z0)] cv60 cv63 fun a=>E_impl_fields_short z0 a) impl_ReadShort)
noncomputable def VAC {γ:Type} (F:Ls):Hd ctx γ:=hdl cv60.dec (fun a=>F a) cv63.enc
abbrev Ns:=ByteArray→Option (SThing×Bool)
noncomputable def E_impl_ReadThing (z0:Gs) (z1:Ls) (z2:Lh) (text_0:ByteArray):Option (SThing×Bool):=
 (z0 ⟨text_0,0,false⟩).bind fun r0=>
 (z0 r0.2).bind fun r1=>
 (z0 r1.2).bind fun r2=>
 (z1 r2.2).bind fun r3=>
 (z0 r3.2).bind fun r4=>
 (z2 ⟨r0.1,r1.1,((w64 (((BitVec.toNat ((BitVec.ofInt (IntKind.bits IntKind.i64) r2.1) &&& (BitVec.ofInt (IntKind.bits IntKind.i64) 1))):Nat):Int)) != 0),((w64 (((BitVec.toNat ((BitVec.ofInt (IntKind.bits IntKind.i64) r2.1) &&& (BitVec.ofInt (IntKind.bits IntKind.i64) 2))):Nat):Int)) != 0),((w64 (((BitVec.toNat ((BitVec.ofInt (IntKind.bits IntKind.i64) r2.1) &&& (BitVec.ofInt (IntKind.bits IntKind.i64) 4))):Nat):Int)) != 0),((w64 (((BitVec.toNat ((BitVec.ofInt (IntKind.bits IntKind.i64) r2.1) &&& (BitVec.ofInt (IntKind.bits IntKind.i64) 8))):Nat):Int)) != 0),r3.1,r4.1⟩).bind fun r5=>
 bif r4.2.fBad then
 some (⟨0,0,false,false,false,false,⟨#[]⟩,0⟩,false)
 else
 bif (!r5.2) then
  some (⟨0,0,false,false,false,false,⟨#[]⟩,0⟩,false)
 else
  bif (!((ByteArray.toList r5.1) == (ByteArray.toList text_0))) then
  some (⟨0,0,false,false,false,false,⟨#[]⟩,0⟩,false)
  else
  some (⟨r0.1,r1.1,((w64 (((BitVec.toNat ((BitVec.ofInt (IntKind.bits IntKind.i64) r2.1) &&& (BitVec.ofInt (IntKind.bits IntKind.i64) 1))):Nat):Int)) != 0),((w64 (((BitVec.toNat ((BitVec.ofInt (IntKind.bits IntKind.i64) r2.1) &&& (BitVec.ofInt (IntKind.bits IntKind.i64) 2))):Nat):Int)) != 0),((w64 (((BitVec.toNat ((BitVec.ofInt (IntKind.bits IntKind.i64) r2.1) &&& (BitVec.ofInt (IntKind.bits IntKind.i64) 4))):Nat):Int)) != 0),((w64 (((BitVec.toNat ((BitVec.ofInt (IntKind.bits IntKind.i64) r2.1) &&& (BitVec.ofInt (IntKind.bits IntKind.i64) 8))):Nat):Int)) != 0),r3.1,r4.1⟩,true)
noncomputable def impl_ReadThing:Ns:=E_impl_ReadThing impl_fields_num impl_fields_short impl_ThingText
theorem WAC:Tells ctx PP 85 cv9 cv64 (fun a=>impl_ReadThing a):=fn_ok0 (hc PAC (hc UAC (hc Kv hl_nil))) Tryz.func85 ((fun z0 z1 z2 a=>by kernel_rfl:∀ z0 z1 z2,EntryIs0 ctx PP 85 [] [(128,QAC z0),(129,VAC z1),(90,Nv z2)] cv9 cv64 fun a=>E_impl_ReadThing z0 z1 z2 a) impl_fields_num impl_fields_short impl_ThingText)
noncomputable def XAC {γ:Type} (F:Ns):Hd ctx γ:=hdl cv9.dec (fun a=>F a) cv64.enc
abbrev Fj:=ByteArray→Option (SRec×Bool)
noncomputable def E_impl_ReadRec (z0:Ns) (z1:EZ) (z2:Bc) (text_0:ByteArray):Option (SRec×Bool):=
 bif ((ByteArray.toList text_0) == (ByteArray.toList ⟨#[]⟩)) then
 some (⟨0,⟨#[]⟩,0,⟨0,0,false,false,false,false,⟨#[]⟩,0⟩⟩,false)
 else
 bif ((decide ((0:Int)≤(0:Int))) && (decide (0<(text_0.size:Int)))) then
 bif ((w64 (bt text_0 0)) == 1) then
  bif ((decide ((0:Int)≤(1:Int))) && (decide (1≤(text_0.size:Int)))) then
  (z2 ⟨(w64 (bt text_0 0)),(text_0.extract (1:Int).toNat text_0.size),0,⟨0,0,false,false,false,false,⟨#[]⟩,0⟩⟩).bind fun r0=>
  bif (!r0.2) then
  some (⟨0,⟨#[]⟩,0,⟨0,0,false,false,false,false,⟨#[]⟩,0⟩⟩,false)
  else
  bif (!((ByteArray.toList r0.1) == (ByteArray.toList text_0))) then
   some (⟨0,⟨#[]⟩,0,⟨0,0,false,false,false,false,⟨#[]⟩,0⟩⟩,false)
  else
   some (⟨(w64 (bt text_0 0)),(text_0.extract (1:Int).toNat text_0.size),0,⟨0,0,false,false,false,false,⟨#[]⟩,0⟩⟩,true)
  else none
 else
  bif ((w64 (bt text_0 0)) == 3) then
  bif ((decide ((0:Int)≤(1:Int))) && (decide (1≤(text_0.size:Int)))) then
  (z0 (text_0.extract (1:Int).toNat text_0.size)).bind fun r1=>
  (z2 ⟨(w64 (bt text_0 0)),⟨#[]⟩,0,r1.1⟩).bind fun r2=>
  bif (!r2.2) then
   some (⟨0,⟨#[]⟩,0,⟨0,0,false,false,false,false,⟨#[]⟩,0⟩⟩,false)
  else
   bif (!((ByteArray.toList r2.1) == (ByteArray.toList text_0))) then
   some (⟨0,⟨#[]⟩,0,⟨0,0,false,false,false,false,⟨#[]⟩,0⟩⟩,false)
   else
   some (⟨(w64 (bt text_0 0)),⟨#[]⟩,0,r1.1⟩,true)
  else none
  else
  (z1 text_0 1).bind fun r3=>
  (z2 ⟨(w64 (bt text_0 0)),⟨#[]⟩,r3.1,⟨0,0,false,false,false,false,⟨#[]⟩,0⟩⟩).bind fun r4=>
  bif (!r4.2) then
   some (⟨0,⟨#[]⟩,0,⟨0,0,false,false,false,false,⟨#[]⟩,0⟩⟩,false)
  else
   bif (!((ByteArray.toList r4.1) == (ByteArray.toList text_0))) then
   some (⟨0,⟨#[]⟩,0,⟨0,0,false,false,false,false,⟨#[]⟩,0⟩⟩,false)
   else
   some (⟨(w64 (bt text_0 0)),⟨#[]⟩,r3.1,⟨0,0,false,false,false,false,⟨#[]⟩,0⟩⟩,true)
 else none
noncomputable def impl_ReadRec:Fj:=E_impl_ReadRec impl_ReadThing impl_ReadVar impl_RecText
theorem YAC:Tells ctx PP 146 cv9 cv65 (fun a=>impl_ReadRec a):=fn_ok0 (hc WAC (hc Bj (hc Om hl_nil))) Tryz.func146 ((fun z0 z1 z2 a=>by kernel_rfl:∀ z0 z1 z2,EntryIs0 ctx PP 146 [] [(85,XAC z0),(172,Ag z1),(112,Pm z2)] cv9 cv65 fun a=>E_impl_ReadRec z0 z1 z2 a) impl_ReadThing impl_ReadVar impl_RecText)
noncomputable def Vz {γ:Type} (F:Fj):Hd ctx γ:=hdl cv9.dec (fun a=>F a) cv65.enc
abbrev Qs:=ByteArray→ByteArray→Option ((List SRec)×Int)
inductive Fg where
 | c0 (key_0:ByteArray) (at_9:Int) (v_24:Int) (v_25:Int) (out_8:(List SRec)) (v_23:(List ByteArray))
noncomputable def Xz:Fg→LI
 | .c0 key_0 at_9 v_24 v_25 out_8 v_23=>(tdo Tryz.f98 1000,[(0,[.one (.str key_0)]),(8,[.one (.own 560)]),(9,[.one (.int .i64 at_9)]),(23,[.one (.own 1520)]),(24,[.one (.int .i64 v_24)]),(25,[.one (.int .i64 v_25)])],[(560,.sl 73 out_8),(1520,.sl 9 v_23)])
noncomputable def E_impl_ReadBook (z0:Cj) (z1:Ej) (z2:Fj) (z3:Nc) (k:Fg→Option ((List SRec)×Int)) (key_0:ByteArray) (file_1:ByteArray):Option ((List SRec)×Int):=
 (z0 file_1).bind fun r0=>
 k (.c0 key_0 0 (r0.1.length:Int) 0 [] r0.1)
noncomputable def B_impl_ReadBook (z0:Cj) (z1:Ej) (z2:Fj) (z3:Nc) (k:Fg→Option ((List SRec)×Int)):Fg→Option ((List SRec)×Int)
 | .c0 key_0 at_9 v_24 v_25 out_8 v_23=>
 bif (decide (v_25<v_24)) then
  bif ((decide (0≤v_25)) && (decide (v_25<(v_23.length:Int)))) then
  (z1 key_0 (w64 (v_25+1)) (v_23.getD v_25.toNat (⟨#[]⟩:ByteArray))).bind fun r0=>
  (z2 r0.1).bind fun r1=>
  bif (!r0.2) then
  some (out_8,at_9)
  else
  bif (!r1.2) then
   some (out_8,at_9)
  else
   bif (decide (((out_8.length+1)*80)≤140737488355328)) then
   (z3 (v_23.getD v_25.toNat (⟨#[]⟩:ByteArray))).bind fun r2=>
   k (.c0 key_0 (w64 (at_9+(r2.1.size:Int))) v_24 (w64 (v_25+1)) (out_8++[r1.1]) v_23)
   else none
  else none
 else
  some (out_8,at_9)
noncomputable def L_impl_ReadBook:Nat→Fg→Option ((List SRec)×Int)
 | 0,_=>none
 | m+1,s=>B_impl_ReadBook impl_Unframe impl_OpenText impl_ReadRec impl_Frame (L_impl_ReadBook m) s
noncomputable def impl_ReadBook:Qs:=E_impl_ReadBook impl_Unframe impl_OpenText impl_ReadRec impl_Frame (L_impl_ReadBook gas)
theorem ZAC:Tells ctx PP 98 cv29 cv66 (fun a=>impl_ReadBook a.1 a.2):=
 have b:∀ z0 z1 z2 z3,CutIs ctx PP 98 Tryz.f98 [] [(145,Tz z0),(125,Uz z1),(146,Vz z2),(114,Ym z3)] cv66 Xz (B_impl_ReadBook z0 z1 z2 z3):=fun z0 z1 z2 z3 _ s=>by cases s <;> kernel_rfl
 have e:∀ z0 z1 z2 z3,EntryIs ctx PP 98 [] [(145,Tz z0),(125,Uz z1),(146,Vz z2),(114,Ym z3)] cv29 cv66 Xz (fun k a=>E_impl_ReadBook z0 z1 z2 z3 k a.1 a.2):=fun z0 z1 z2 z3 _ a=>by kernel_rfl
 fn_ok (hc NAC (hc OAC (hc YAC (hc Hw hl_nil)))) Tryz.func98 (fun s s' h=>by cases s;cases s';cases h;rfl) (fun _=>rfl) (fun _ _=>rfl) (b impl_Unframe impl_OpenText impl_ReadRec impl_Frame) (e impl_Unframe impl_OpenText impl_ReadRec impl_Frame) gas
noncomputable def AAD {γ:Type} (F:Qs):Hd ctx γ:=hdl cv29.dec (fun a=>F a.1 a.2) cv66.enc
abbrev Us:=SBook→(List SRec)→Option (SBook×Bool)
inductive Gg where
 | c0 (v_13:(List SRec)) (v_14:Int) (v_15:Int) (v_4c0:ByteArray) (v_4c1:Int) (v_4c3:Int) (v_4c4:ByteArray) (v_4c5:Int) (out_6c0:ByteArray) (out_6c1:Int) (out_6c3:Int) (out_6c4:ByteArray) (out_6c5:Int) (v_4r2:(List SThing)) (out_6r2:(List SThing))
noncomputable def Yz:Gg→LI
 | .c0 v_13 v_14 v_15 v_4c0 v_4c1 v_4c3 v_4c4 v_4c5 out_6c0 out_6c1 out_6c3 out_6c4 out_6c5 v_4r2 out_6r2=>(tdo Tryz.f99 232,[(4,[.one (.ptr 256 0)]),(6,[.one (.ptr 384 0)]),(13,[.one (.rsl 73 v_13)]),(14,[.one (.int .i64 v_14)]),(15,[.one (.int .i64 v_15)])],[(256,.var [.str v_4c0,.int .i64 v_4c1,.own 1016386,.int .i64 v_4c3,.str v_4c4,.int .i64 v_4c5]),(384,.var [.str out_6c0,.int .i64 out_6c1,.own 1024578,.int .i64 out_6c3,.str out_6c4,.int .i64 out_6c5]),(1016386,.sl 71 v_4r2),(1024578,.sl 71 out_6r2)])
noncomputable def E_impl_EnterAll (z0:Ad) (z1:Jd) (k:Gg→Option (SBook×Bool)) (b_0:SBook) (list_1:(List SRec)):Option (SBook×Bool):=
 (z0 b_0).bind fun r0=>
 k (.c0 list_1 (list_1.length:Int) 0 ⟨#[]⟩ 0 0 ⟨#[]⟩ 0 r0.fWord r0.fTries r0.fLast r0.fChain r0.fCount [] r0.fThings)
noncomputable def B_impl_EnterAll (z0:Ad) (z1:Jd) (k:Gg→Option (SBook×Bool)):Gg→Option (SBook×Bool)
 | .c0 v_13 v_14 v_15 v_4c0 v_4c1 v_4c3 v_4c4 v_4c5 out_6c0 out_6c1 out_6c3 out_6c4 out_6c5 v_4r2 out_6r2=>
 bif (decide (v_15<v_14)) then
  bif ((decide (0≤v_15)) && (decide (v_15<(v_13.length:Int)))) then
  (z1 ⟨out_6c0,out_6c1,out_6r2,out_6c3,out_6c4,out_6c5⟩ (v_13.getD v_15.toNat (⟨0,⟨#[]⟩,0,⟨0,0,false,false,false,false,⟨#[]⟩,0⟩⟩:SRec))).bind fun r0=>
  bif (!r0.2) then
  some (⟨⟨#[]⟩,0,[],0,⟨#[]⟩,0⟩,false)
  else
  k (.c0 v_13 v_14 (w64 (v_15+1)) v_4c0 v_4c1 v_4c3 v_4c4 v_4c5 r0.1.fWord r0.1.fTries r0.1.fLast r0.1.fChain r0.1.fCount v_4r2 r0.1.fThings)
  else none
 else
  some (⟨out_6c0,out_6c1,out_6r2,out_6c3,out_6c4,out_6c5⟩,true)
noncomputable def L_impl_EnterAll:Nat→Gg→Option (SBook×Bool)
 | 0,_=>none
 | m+1,s=>B_impl_EnterAll impl_copyBook impl_Enter (L_impl_EnterAll m) s
noncomputable def impl_EnterAll:Us:=E_impl_EnterAll impl_copyBook impl_Enter (L_impl_EnterAll gas)
theorem CAD:Tells ctx PP 99 cv67 cv50 (fun a=>impl_EnterAll a.1 a.2):=
 have b:∀ z0 z1,CutIs ctx PP 99 Tryz.f99 [] [(116,Pn z0),(71,Wn z1)] cv50 Yz (B_impl_EnterAll z0 z1):=fun z0 z1 _ s=>by cases s <;> kernel_rfl
 have e:∀ z0 z1,EntryIs ctx PP 99 [] [(116,Pn z0),(71,Wn z1)] cv67 cv50 Yz (fun k a=>E_impl_EnterAll z0 z1 k a.1 a.2):=fun z0 z1 _ a=>by kernel_rfl
 fn_ok (hc Vw (hc Zw hl_nil)) Tryz.func99 (fun s s' h=>by cases s;cases s';cases h;rfl) (fun _=>rfl) (fun _ _=>rfl) (b impl_copyBook impl_Enter) (e impl_copyBook impl_Enter) gas
noncomputable def DAD {γ:Type} (F:Us):Hd ctx γ:=hdl cv67.dec (fun a=>F a.1 a.2) cv50.enc
abbrev Og:=ByteArray→SDisk→Option (SBook×(List SAct)×Bool)
noncomputable def E_impl_Mount (z0:Es) (z1:Qs) (z2:VY) (z3:Us) (z4:FZ) (z5:RZ) (key_0:ByteArray) (d_1:SDisk):Option (SBook×(List SAct)×Bool):=
 (z0 d_1 ⟨#[98,111,111,107]⟩).bind fun r0=>
 (z1 key_0 r0.1).bind fun r1=>
 z2.bind fun r2=>
 (z3 r2 r1.1).bind fun r3=>
 (z4 d_1).bind fun r4=>
 bif (!r4) then
 some (⟨⟨#[]⟩,0,[],0,⟨#[]⟩,0⟩,([],false))
 else
 bif (!r3.2) then
  some (⟨⟨#[]⟩,0,[],0,⟨#[]⟩,0⟩,([],false))
 else
  (z5 d_1 ⟨#[98,111,111,107,43]⟩).bind fun r5=>
  bif (decide (r5≥0)) then
  bif (r1.2 == (r0.1.size:Int)) then
   some (r3.1,([⟨4,⟨#[98,111,111,107,43]⟩,⟨#[]⟩,⟨#[]⟩⟩],true))
  else
   bif ((decide (0≤r1.2)) && (decide (r1.2≤(r0.1.size:Int)))) then
   some (r3.1,(([(⟨4,⟨#[98,111,111,107,43]⟩,⟨#[]⟩,⟨#[]⟩⟩:SAct)]++[(⟨1,⟨#[98,111,111,107,43]⟩,(r0.1.extract 0 r1.2.toNat),⟨#[]⟩⟩:SAct),(⟨2,⟨#[98,111,111,107,43]⟩,⟨#[]⟩,⟨#[]⟩⟩:SAct),(⟨3,⟨#[98,111,111,107,43]⟩,⟨#[]⟩,⟨#[98,111,111,107]⟩⟩:SAct)]),true))
   else none
  else
  bif (r1.2 == (r0.1.size:Int)) then
   some (r3.1,([],true))
  else
   bif ((decide (0≤r1.2)) && (decide (r1.2≤(r0.1.size:Int)))) then
   some (r3.1,([⟨1,⟨#[98,111,111,107,43]⟩,(r0.1.extract 0 r1.2.toNat),⟨#[]⟩⟩,⟨2,⟨#[98,111,111,107,43]⟩,⟨#[]⟩,⟨#[]⟩⟩,⟨3,⟨#[98,111,111,107,43]⟩,⟨#[]⟩,⟨#[98,111,111,107]⟩⟩],true))
   else none
noncomputable def impl_Mount:Og:=E_impl_Mount impl_FileAt impl_ReadBook impl_BookNew impl_EnterAll impl_DiskOk impl_fileAt
theorem V3:Tells ctx PP 49 cv68 cv69 (fun a=>impl_Mount a.1 a.2):=fn_ok0 (hc KAC (hc ZAC (hc Ug (hc CAD (hc Jj (hc Rh hl_nil)))))) Tryz.func49 ((fun z0 z1 z2 z3 z4 z5 a=>by kernel_rfl:∀ z0 z1 z2 z3 z4 z5,EntryIs0 ctx PP 49 [] [(97,LAC z0),(98,AAD z1),(32,Oa z2),(99,DAD z3),(46,Qg z4),(100,Uh z5)] cv68 cv69 fun a=>E_impl_Mount z0 z1 z2 z3 z4 z5 a.1 a.2) impl_FileAt impl_ReadBook impl_BookNew impl_EnterAll impl_DiskOk impl_fileAt)
noncomputable def Ot {γ:Type} (F:Og):Hd ctx γ:=hdl cv68.dec (fun a=>F a.1 a.2) cv69.enc
abbrev Va:=SBook→Int→Option (SThing×Bool)
noncomputable def E_impl_ThingOf (z0:Bd) (b_0:SBook) (id_1:Int):Option (SThing×Bool):=
 (z0 b_0 id_1).bind fun r0=>
 bif (decide (r0<0)) then
 some (⟨0,0,false,false,false,false,⟨#[]⟩,0⟩,false)
 else
 bif ((decide (0≤r0)) && (decide (r0<(b_0.fThings.length:Int)))) then
 some ((b_0.fThings.getD r0.toNat (⟨0,0,false,false,false,false,⟨#[]⟩,0⟩:SThing)),true)
 else none
noncomputable def impl_ThingOf:Va:=E_impl_ThingOf impl_thingAt
theorem Zt:Tells ctx PP 44 cv45 cv64 (fun a=>impl_ThingOf a.1 a.2):=fn_ok0 (hc Qn hl_nil) Tryz.func44 ((fun z0 a=>by kernel_rfl:∀ z0,EntryIs0 ctx PP 44 [] [(87,Rn z0)] cv45 cv64 fun a=>E_impl_ThingOf z0 a.1 a.2) impl_thingAt)
noncomputable def Rk {γ:Type} (F:Va):Hd ctx γ:=hdl cv45.dec (fun a=>F a.1 a.2) cv64.enc
abbrev Pg:=SBox→Option Bool
inductive Hg where
 | c0 (v_8:(List SLive)) (v_9:Int) (v_10:Int) (b_1:SBox)
noncomputable def Zz:Hg→LI
 | .c0 v_8 v_9 v_10 b_1=>(tdo Tryz.f51 104,[(1,[.one (.ptr 64 0)]),(8,[.one (.rsl 159 v_8)]),(9,[.one (.int .i64 v_9)]),(10,[.one (.int .i64 v_10)])],[(64,.var [.str b_1.fKey,.bool b_1.fUp,.rsl 148 b_1.fDisk.fFiles,.str b_1.fBook.fWord,.int .i64 b_1.fBook.fTries,.rsl 71 b_1.fBook.fThings,.int .i64 b_1.fBook.fLast,.str b_1.fBook.fChain,.int .i64 b_1.fBook.fCount,.rsl 88 b_1.fSessions,.rsl 159 b_1.fLives,.int .i64 b_1.fOpened])])
noncomputable def E_impl_livesOk (z0:Va) (z1:TB) (k:Hg→Option Bool) (b_0:SBox):Option Bool:=
 k (.c0 b_0.fLives (b_0.fLives.length:Int) 0 b_0)
noncomputable def B_impl_livesOk (z0:Va) (z1:TB) (k:Hg→Option Bool):Hg→Option Bool
 | .c0 v_8 v_9 v_10 b_1=>
 bif (decide (v_10<v_9)) then
  bif ((decide (0≤v_10)) && (decide (v_10<(v_8.length:Int)))) then
  (z0 b_1.fBook (v_8.getD v_10.toNat (⟨0,0⟩:SLive)).fId).bind fun r0=>
  bif (!r0.2) then
  some false
  else
  bif (r0.1.fKind != 2) then
   some false
  else
   (z1 (v_8.getD v_10.toNat (⟨0,0⟩:SLive)).fNext 0 r0.1.fNext).bind fun r1=>
   bif (!r1) then
   some false
   else
   bif (decide (v_10 > 0)) then
    bif ((decide (0≤(w64 (v_10 - 1)))) && (decide ((w64 (v_10 - 1))<(b_1.fLives.length:Int)))) then
    bif (decide ((b_1.fLives.getD (w64 (v_10 - 1)).toNat (⟨0,0⟩:SLive)).fId≥(v_8.getD v_10.toNat (⟨0,0⟩:SLive)).fId)) then
    some false
    else
    k (.c0 v_8 v_9 (w64 (v_10+1)) b_1)
    else none
   else
    k (.c0 v_8 v_9 (w64 (v_10+1)) b_1)
  else none
 else
  some true
noncomputable def L_impl_livesOk:Nat→Hg→Option Bool
 | 0,_=>none
 | m+1,s=>B_impl_livesOk impl_ThingOf impl_in (L_impl_livesOk m) s
noncomputable def impl_livesOk:Pg:=E_impl_livesOk impl_ThingOf impl_in (L_impl_livesOk gas)
theorem X3:Tells ctx PP 51 cv70 cv1 (fun a=>impl_livesOk a):=
 have b:∀ z0 z1,CutIs ctx PP 51 Tryz.f51 [] [(44,Rk z0),(47,IK z1)] cv1 Zz (B_impl_livesOk z0 z1):=fun z0 z1 _ s=>by cases s <;> kernel_rfl
 have e:∀ z0 z1,EntryIs ctx PP 51 [] [(44,Rk z0),(47,IK z1)] cv70 cv1 Zz (fun k a=>E_impl_livesOk z0 z1 k a):=fun z0 z1 _ a=>by kernel_rfl
 fn_ok (hc Zt (hc FN hl_nil)) Tryz.func51 (fun s s' h=>by cases s;cases s';(repeat cases ‹SBox›);(repeat cases ‹SDisk›);(repeat cases ‹SBook›);cases h;rfl) (fun _=>rfl) (fun _ _=>rfl) (b impl_ThingOf impl_in) (e impl_ThingOf impl_in) gas
noncomputable def Rt {γ:Type} (F:Pg):Hd ctx γ:=hdl cv70.dec (fun a=>F a) cv1.enc
end Go.Proofs.YtefdenlloeedkaaGreatDoor.G

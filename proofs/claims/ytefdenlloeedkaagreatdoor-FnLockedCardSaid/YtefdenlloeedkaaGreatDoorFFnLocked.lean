/- Functions of the program, told by plain functions: part 1 of 1. -/
import Derived.Test.YtefdenlloeedkaaGreatDoorCtx
namespace Go.Proofs.YtefdenlloeedkaaGreatDoor.G
open Go Go.Ev
set_option linter.unusedVariables false
set_option maxRecDepth 100000
set_option linter.unusedSectionVars false
variable [PC]
abbrev Jk:=Unit→Option Bool
noncomputable def Hr (code_0:Unit):Option Bool:=
 some (decide ((codeL.length:Int) > 1048576))
noncomputable def Xg:Jk:=Hr
theorem Tz:Tells ctx PP 5 cv0 cv1 (fun a=>Xg a):=fn_ok0 hl_nil Tryz.func5 (fun a=>by kernel_rfl:EntryIs0 ctx PP 5 [] [] cv0 cv1 fun a=>Hr a)
noncomputable def Uz {γ:Type} (F:Jk):Hd ctx γ:=hdl cv0.dec (fun a=>F a) cv1.enc
abbrev Yg:=Unit→Option SL01Cur
inductive Ub where
 | c0 (h_3:Int) (i_4:Int)
noncomputable def Ir:Ub→LI
 | .c0 h_3 i_4=>(tdo Tryz.f17 464,[(0,[.one (.csl)]),(3,[.one (.int .i64 h_3)]),(4,[.one (.int .i64 i_4)])],[])
noncomputable def E_spec_l01New (k:Ub→Option SL01Cur) (code_0:Unit):Option SL01Cur:=
 k (.c0 (w64 (27401+(codeL.length:Int))) 0)
noncomputable def B_spec_l01New (k:Ub→Option SL01Cur):Ub→Option SL01Cur
 | .c0 h_3 i_4=>
 bif (decide (i_4<(codeL.length:Int))) then
  bif (decide (i_4<4000)) then
  bif ((decide (0≤i_4)) && (decide (i_4<(codeL.length:Int)))) then
  bif (Nat.blt i_4.toNat codeL.length) then
  k (.c0 (w64 (((BitVec.toNat ((BitVec.ofInt (IntKind.bits IntKind.i64) (w64 ((w64 ((w64 (h_3*131))+(w64 (codeL.getD i_4.toNat 0))))+7))) &&& (BitVec.ofInt (IntKind.bits IntKind.i64) 1073741823))):Nat):Int)) (w64 (i_4+1)))
  else none
  else none
  else
  some ⟨(),0,h_3⟩
 else
  some ⟨(),0,h_3⟩
noncomputable def L_spec_l01New:Nat→Ub→Option SL01Cur
 | 0,_=>none
 | m+1,s=>B_spec_l01New (L_spec_l01New m) s
noncomputable def spec_l01New:Yg:=E_spec_l01New (L_spec_l01New gas)
theorem Vz:Tells ctx PP 17 cv0 cv2 (fun a=>spec_l01New a):=
 have b:CutIs ctx PP 17 Tryz.f17 [] [] cv2 Ir (B_spec_l01New):=fun _ s=>by cases s <;> kernel_rfl
 have e:EntryIs ctx PP 17 [] [] cv0 cv2 Ir (fun k a=>E_spec_l01New k a):=fun _ a=>by kernel_rfl
 fn_ok hl_nil Tryz.func17 (fun s s' h=>by cases s;cases s';cases h;rfl) (fun _=>rfl) (fun _ _=>rfl) b e gas
noncomputable def Jr {γ:Type} (F:Yg):Hd ctx γ:=hdl cv0.dec (fun a=>F a) cv2.enc
abbrev Vb:=SL01Cur→Option (Int×SL01Cur)
noncomputable def E_spec_l01Byte (c_0:SL01Cur):Option (Int×SL01Cur):=
 bif (decide (c_0.fI<(codeL.length:Int))) then
 bif ((decide (0≤c_0.fI)) && (decide (c_0.fI<(codeL.length:Int)))) then
 bif (Nat.blt c_0.fI.toNat codeL.length) then
 some ((w64 (((BitVec.toNat ((BitVec.ofInt (IntKind.bits IntKind.i64) (w64 ((w64 (((BitVec.toNat ((BitVec.ofInt (IntKind.bits IntKind.i64) (w64 (((BitVec.toNat ((BitVec.ofInt (IntKind.bits IntKind.i64) (Int.fdiv (w64 ((w64 (c_0.fH*6364136223846793005))+1442695040888963407)) (2 ^ (Min.min (33:Int).toNat (IntKind.bits IntKind.i64))))) ^^^ (BitVec.ofInt (IntKind.bits IntKind.i64) (Int.fdiv (w64 ((w64 (c_0.fH*6364136223846793005))+1442695040888963407)) (2 ^ (Min.min (45:Int).toNat (IntKind.bits IntKind.i64))))))):Nat):Int))) &&& (BitVec.ofInt (IntKind.bits IntKind.i64) 255))):Nat):Int))+(w64 (codeL.getD c_0.fI.toNat 0))))) &&& (BitVec.ofInt (IntKind.bits IntKind.i64) 255))):Nat):Int)),⟨(),(w64 (c_0.fI+1)),(w64 ((w64 (c_0.fH*6364136223846793005))+1442695040888963407))⟩)
 else none
 else none
 else
 some ((w64 (((BitVec.toNat ((BitVec.ofInt (IntKind.bits IntKind.i64) (w64 (((BitVec.toNat ((BitVec.ofInt (IntKind.bits IntKind.i64) (Int.fdiv (w64 ((w64 (c_0.fH*6364136223846793005))+1442695040888963407)) (2 ^ (Min.min (33:Int).toNat (IntKind.bits IntKind.i64))))) ^^^ (BitVec.ofInt (IntKind.bits IntKind.i64) (Int.fdiv (w64 ((w64 (c_0.fH*6364136223846793005))+1442695040888963407)) (2 ^ (Min.min (45:Int).toNat (IntKind.bits IntKind.i64))))))):Nat):Int))) &&& (BitVec.ofInt (IntKind.bits IntKind.i64) 255))):Nat):Int)),⟨(),c_0.fI,(w64 ((w64 (c_0.fH*6364136223846793005))+1442695040888963407))⟩)
noncomputable def spec_l01Byte:Vb:=E_spec_l01Byte
theorem Kr:Tells ctx PP 18 cv3 cv4 (fun a=>spec_l01Byte a):=fn_ok0 hl_nil Tryz.func18 (fun a=>by kernel_rfl:EntryIs0 ctx PP 18 [0] [] cv3 cv4 fun a=>E_spec_l01Byte a)
noncomputable def Nk {γ:Type} (F:Vb):Hd ctx γ:=hdl cv3.dec (fun a=>F a) cv4.enc
abbrev Zg:=SL01Cur→Int→Option (Int×SL01Cur)
noncomputable def E_spec_l01Below (z0:Vb) (c_0:SL01Cur) (n_1:Int):Option (Int×SL01Cur):=
 bif (decide (n_1≤0)) then
 some (0,⟨(),c_0.fI,c_0.fH⟩)
 else
 bif (decide (n_1≤256)) then
  (z0 ⟨(),c_0.fI,c_0.fH⟩).bind fun r0=>
  bif (!(n_1 == 0)) then
  some ((r0.1.tmod n_1),⟨(),r0.2.fI,r0.2.fH⟩)
  else none
 else
  (z0 ⟨(),c_0.fI,c_0.fH⟩).bind fun r1=>
  (z0 ⟨(),r1.2.fI,r1.2.fH⟩).bind fun r2=>
  (z0 ⟨(),r2.2.fI,r2.2.fH⟩).bind fun r3=>
  (z0 ⟨(),r3.2.fI,r3.2.fH⟩).bind fun r4=>
  bif (!(n_1 == 0)) then
  some (((w64 ((w64 ((w64 ((w64 (r1.1*16777216))+(w64 (r2.1*65536))))+(w64 (r3.1*256))))+r4.1)).tmod n_1),⟨(),r4.2.fI,r4.2.fH⟩)
  else none
noncomputable def spec_l01Below:Zg:=E_spec_l01Below spec_l01Byte
theorem Xz:Tells ctx PP 19 cv5 cv4 (fun a=>spec_l01Below a.1 a.2):=fn_ok0 (hc Kr hl_nil) Tryz.func19 ((fun z0 a=>by kernel_rfl:∀ z0,EntryIs0 ctx PP 19 [0] [(18,Nk z0)] cv5 cv4 fun a=>E_spec_l01Below z0 a.1 a.2) spec_l01Byte)
noncomputable def Lr {γ:Type} (F:Zg):Hd ctx γ:=hdl cv5.dec (fun a=>F a.1 a.2) cv4.enc
abbrev Qk:=Unit→Option (List Int)
inductive Xb where
 | c0 (i_5:Int) (v_7c1:Int) (v_7c2:Int) (out_4:(List Int))
noncomputable def Nr:Xb→LI
 | .c0 i_5 v_7c1 v_7c2 out_4=>(tdo Tryz.f6 2000,[(3,[.one (.ptr 448 0)]),(4,[.one (.own 304)]),(5,[.one (.int .i64 i_5)])],[(448,.var [.csl,.int .i64 v_7c1,.int .i64 v_7c2]),(304,.sl 3 out_4)])
noncomputable def E_spec_DrawPlaces (z0:Yg) (z1:Vb) (z2:Zg) (k:Xb→Option (List Int)) (code_0:Unit):Option (List Int):=
 (z0 ()).bind fun r0=>
 (z1 ⟨(),r0.fI,r0.fH⟩).bind fun r1=>
 k (.c0 0 r1.2.fI r1.2.fH [])
noncomputable def B_spec_DrawPlaces (z0:Yg) (z1:Vb) (z2:Zg) (k:Xb→Option (List Int)):Xb→Option (List Int)
 | .c0 i_5 v_7c1 v_7c2 out_4=>
 bif (decide (i_5<12)) then
  (z2 ⟨(),v_7c1,v_7c2⟩ 10000).bind fun r0=>
  bif (decide (((out_4.length+1)*8)≤140737488355328)) then
  k (.c0 (w64 (i_5+1)) r0.2.fI r0.2.fH (out_4++[r0.1]))
  else none
 else
  some out_4
noncomputable def L_spec_DrawPlaces:Nat→Xb→Option (List Int)
 | 0,_=>none
 | m+1,s=>B_spec_DrawPlaces spec_l01New spec_l01Byte spec_l01Below (L_spec_DrawPlaces m) s
noncomputable def spec_DrawPlaces:Qk:=E_spec_DrawPlaces spec_l01New spec_l01Byte spec_l01Below (L_spec_DrawPlaces gas)
theorem Yz:Tells ctx PP 6 cv0 cv6 (fun a=>spec_DrawPlaces a):=
 have b:∀ z0 z1 z2,CutIs ctx PP 6 Tryz.f6 [] [(17,Jr z0),(18,Nk z1),(19,Lr z2)] cv6 Nr (B_spec_DrawPlaces z0 z1 z2):=fun z0 z1 z2 _ s=>by cases s <;> kernel_rfl
 have e:∀ z0 z1 z2,EntryIs ctx PP 6 [] [(17,Jr z0),(18,Nk z1),(19,Lr z2)] cv0 cv6 Nr (fun k a=>E_spec_DrawPlaces z0 z1 z2 k a):=fun z0 z1 z2 _ a=>by kernel_rfl
 fn_ok (hc Vz (hc Kr (hc Xz hl_nil))) Tryz.func6 (fun s s' h=>by cases s;cases s';cases h;rfl) (fun _=>rfl) (fun _ _=>rfl) (b spec_l01New spec_l01Byte spec_l01Below) (e spec_l01New spec_l01Byte spec_l01Below) gas
noncomputable def Zz {γ:Type} (F:Qk):Hd ctx γ:=hdl cv0.dec (fun a=>F a) cv6.enc
abbrev Ah:=Int→Option Int
noncomputable def Rk (x_0:Int):Option Int:=
 bif (decide (x_0<10)) then
 some (w8 (w64 (48+x_0)))
 else
 some (w8 (w64 ((w64 (97+x_0)) - 10)))
noncomputable def Ia:Ah:=Rk
theorem O0:Tells ctx PP 20 cv7 cv8 (fun a=>Ia a):=fn_ok0 hl_nil Tryz.func20 (fun a=>by kernel_rfl:EntryIs0 ctx PP 20 [] [] cv7 cv8 fun a=>Rk a)
noncomputable def Qr {γ:Type} (F:Ah):Hd ctx γ:=hdl cv7.dec (fun a=>F a) cv8.enc
abbrev Uk:=Int→Option ByteArray
inductive Yb where
 | c0 (n_0:Int) (below_3:Bool) (s_4:ByteArray)
noncomputable def Sr:Yb→LI
 | .c0 n_0 below_3 s_4=>(tdo Tryz.f7 992,[(0,[.one (.int .i64 n_0)]),(3,[.one (.bool below_3)]),(4,[.one (.str s_4)])],[])
noncomputable def Vk (z0:Ah) (k:Yb→Option ByteArray) (n_0:Int):Option ByteArray:=
 bif (n_0 == 0) then
 some ⟨#[48]⟩
 else
 k (.c0 n_0 (decide (n_0<0)) ⟨#[]⟩)
noncomputable def Xk (z0:Ah) (k:Yb→Option ByteArray):Yb→Option ByteArray
 | .c0 n_0 below_3 s_4=>
 bif (n_0 != 0) then
  bif (decide ((n_0.tmod 10)<0)) then
  (z0 (w64 (0 - (n_0.tmod 10)))).bind fun r0=>
  bif (decide (((ofBytes [r0]).size+s_4.size)≤9223372036854775807)) then
  k (.c0 (w64 (n_0.tdiv 10)) below_3 ((ofBytes [r0])++s_4))
  else none
  else
  (z0 (n_0.tmod 10)).bind fun r1=>
  bif (decide (((ofBytes [r1]).size+s_4.size)≤9223372036854775807)) then
  k (.c0 (w64 (n_0.tdiv 10)) below_3 ((ofBytes [r1])++s_4))
  else none
 else
  bif below_3 then
  bif (decide (((⟨#[45]⟩:ByteArray).size+s_4.size)≤9223372036854775807)) then
  some ((⟨#[45]⟩:ByteArray)++s_4)
  else none
  else
  some s_4
noncomputable def Bh:Nat→Yb→Option ByteArray
 | 0,_=>none
 | m+1,s=>Xk Ia (Bh m) s
noncomputable def Zb:Uk:=Vk Ia (Bh gas)
theorem U0:Tells ctx PP 7 cv7 cv9 (fun a=>Zb a):=
 have b:∀ z0,CutIs ctx PP 7 Tryz.f7 [] [(20,Qr z0)] cv9 Sr (Xk z0):=fun z0 _ s=>by cases s <;> kernel_rfl
 have e:∀ z0,EntryIs ctx PP 7 [] [(20,Qr z0)] cv7 cv9 Sr (fun k a=>Vk z0 k a):=fun z0 _ a=>by kernel_rfl
 fn_ok (hc O0 hl_nil) Tryz.func7 (fun s s' h=>by cases s;cases s';cases h;rfl) (fun _=>rfl) (fun _ _=>rfl) (b Ia) (e Ia) gas
noncomputable def X0 {γ:Type} (F:Uk):Hd ctx γ:=hdl cv7.dec (fun a=>F a) cv9.enc
abbrev Yk:=Option (List Int)
noncomputable def Ur  : Option (List Int):=
 some [1779033703,3144134277,1013904242,2773480762,1359893119,2600822924,528734635,1541459225]
noncomputable def spec_l05First:Yk:=Ur
theorem Y0:Tells ctx PP 58 cv10 cv11 (fun _=>spec_l05First):=fn_ok0 hl_nil Tryz.func58 (fun _=>by kernel_rfl:EntryIs0 ctx PP 58 [] [] cv10 cv11 fun _=>Ur)
noncomputable def O1 {γ:Type} (F:Yk):Hd ctx γ:=hdl cv10.dec (fun _=>F) cv11.enc
abbrev RZ:=(List Int)→Option ByteArray
inductive Ac where
 | c0 (words_0:(List Int)) (i_4:Int) (out_3:(List Int))
noncomputable def Vr:Ac→LI
 | .c0 words_0 i_4 out_3=>(tdo Tryz.f57 464,[(0,[.one (.rsl 109 words_0)]),(3,[.one (.own 240)]),(4,[.one (.int .i64 i_4)])],[(240,.sl 5 out_3)])
noncomputable def Xr (k:Ac→Option ByteArray) (words_0:(List Int)):Option ByteArray:=
 k (.c0 words_0 0 [])
noncomputable def B_spec_l05Bytes (k:Ac→Option ByteArray):Ac→Option ByteArray
 | .c0 words_0 i_4 out_3=>
 bif (decide (i_4<(words_0.length:Int))) then
  bif ((decide (0≤i_4)) && (decide (i_4<(words_0.length:Int)))) then
  bif (decide (((out_3.length+4)*1)≤140737488355328)) then
  k (.c0 words_0 (w64 (i_4+1)) (out_3++[(w8 (w32 ((words_0.getD i_4.toNat 0).tdiv 16777216))),(w8 ((w32 ((words_0.getD i_4.toNat 0).tdiv 65536)).tmod 256)),(w8 ((w32 ((words_0.getD i_4.toNat 0).tdiv 256)).tmod 256)),(w8 ((words_0.getD i_4.toNat 0).tmod 256))]))
  else none
  else none
 else
  some (ofBytes out_3)
noncomputable def L_spec_l05Bytes:Nat→Ac→Option ByteArray
 | 0,_=>none
 | m+1,s=>B_spec_l05Bytes (L_spec_l05Bytes m) s
noncomputable def spec_l05Bytes:RZ:=Xr (L_spec_l05Bytes gas)
theorem Zk:Tells ctx PP 57 cv12 cv9 (fun a=>spec_l05Bytes a):=
 have b:CutIs ctx PP 57 Tryz.f57 [] [] cv9 Vr (B_spec_l05Bytes):=fun _ s=>by cases s <;> kernel_rfl
 have e:EntryIs ctx PP 57 [] [] cv12 cv9 Vr (fun k a=>Xr k a):=fun _ a=>by kernel_rfl
 fn_ok hl_nil Tryz.func57 (fun s s' h=>by cases s;cases s';cases h;rfl) (fun _=>rfl) (fun _ _=>rfl) b e gas
noncomputable def Bc {γ:Type} (F:RZ):Hd ctx γ:=hdl cv12.dec (fun a=>F a) cv9.enc
abbrev Bl:=Option SHasher
noncomputable def E_spec_HasherNew (z0:Yk) (z1:RZ)  : Option SHasher:=
 z0.bind fun r0=>
 (z1 r0).bind fun r1=>
 some ⟨r1,⟨#[]⟩,0⟩
noncomputable def spec_HasherNew:Bl:=E_spec_HasherNew spec_l05First spec_l05Bytes
theorem U1:Tells ctx PP 23 cv10 cv13 (fun _=>spec_HasherNew):=fn_ok0 (hc Y0 (hc Zk hl_nil)) Tryz.func23 ((fun z0 z1 _=>by kernel_rfl:∀ z0 z1,EntryIs0 ctx PP 23 [] [(58,O1 z0),(57,Bc z1)] cv10 cv13 fun _=>E_spec_HasherNew z0 z1) spec_l05First spec_l05Bytes)
noncomputable def Y1 {γ:Type} (F:Bl):Hd ctx γ:=hdl cv10.dec (fun _=>F) cv13.enc
abbrev Dl:=Int→Int→Int→Option Bool
noncomputable def Yr (x_0:Int) (least_1:Int) (most_2:Int):Option Bool:=
 bif (decide (x_0≥least_1)) then
 some (decide (x_0≤most_2))
 else
 some false
noncomputable def spec_l01In:Dl:=Yr
theorem U2:Tells ctx PP 102 cv14 cv1 (fun a=>spec_l01In a.1 a.2.1 a.2.2):=fn_ok0 hl_nil Tryz.func102 (fun a=>by kernel_rfl:EntryIs0 ctx PP 102 [] [] cv14 cv1 fun a=>Yr a.1 a.2.1 a.2.2)
noncomputable def Y2 {γ:Type} (F:Dl):Hd ctx γ:=hdl cv14.dec (fun a=>F a.1 a.2.1 a.2.2) cv1.enc
abbrev Ja:=SHasher→Option Bool
noncomputable def E_spec_HasherOk (z0:Dl) (h_0:SHasher):Option Bool:=
 bif ((h_0.fState.size:Int) == 32) then
 bif (decide ((h_0.fRest.size:Int)<64)) then
  (z0 h_0.fCount 0 1000000000).bind fun r0=>
  bif r0 then
  some ((h_0.fCount.tmod 64) == (h_0.fRest.size:Int))
  else
  some false
 else
  some false
 else
 some false
noncomputable def spec_HasherOk:Ja:=E_spec_HasherOk spec_l01In
theorem Zr:Tells ctx PP 53 cv13 cv1 (fun a=>spec_HasherOk a):=fn_ok0 (hc U2 hl_nil) Tryz.func53 ((fun z0 a=>by kernel_rfl:∀ z0,EntryIs0 ctx PP 53 [] [(102,Y2 z0)] cv13 cv1 fun a=>E_spec_HasherOk z0 a) spec_l01In)
noncomputable def Dh {γ:Type} (F:Ja):Hd ctx γ:=hdl cv13.dec (fun a=>F a) cv1.enc
abbrev Eh:=ByteArray→Int→Option Int
noncomputable def E_spec_l05Word (s_0:ByteArray) (at_1:Int):Option Int:=
 bif ((decide (0≤at_1)) && (decide (at_1<(s_0.size:Int)))) then
 bif ((decide (0≤(w64 (at_1+1)))) && (decide ((w64 (at_1+1))<(s_0.size:Int)))) then
 bif ((decide (0≤(w64 (at_1+2)))) && (decide ((w64 (at_1+2))<(s_0.size:Int)))) then
 bif ((decide (0≤(w64 (at_1+3)))) && (decide ((w64 (at_1+3))<(s_0.size:Int)))) then
 some (w32 ((w32 ((w32 ((w32 ((w32 (bt s_0 at_1))*16777216))+(w32 ((w32 (bt s_0 (w64 (at_1+1))))*65536))))+(w32 ((w32 (bt s_0 (w64 (at_1+2))))*256))))+(w32 (bt s_0 (w64 (at_1+3))))))
 else none
 else none
 else none
 else none
noncomputable def spec_l05Word:Eh:=E_spec_l05Word
theorem J3:Tells ctx PP 103 cv15 cv16 (fun a=>spec_l05Word a.1 a.2):=fn_ok0 hl_nil Tryz.func103 (fun a=>by kernel_rfl:EntryIs0 ctx PP 103 [] [] cv15 cv16 fun a=>E_spec_l05Word a.1 a.2)
noncomputable def Es {γ:Type} (F:Eh):Hd ctx γ:=hdl cv15.dec (fun a=>F a.1 a.2) cv16.enc
abbrev GZ:=ByteArray→Option (List Int)
inductive Cc where
 | c0 (s_0:ByteArray) (i_4:Int) (out_3:(List Int))
noncomputable def Gs:Cc→LI
 | .c0 s_0 i_4 out_3=>(tdo Tryz.f54 464,[(0,[.one (.str s_0)]),(3,[.one (.own 240)]),(4,[.one (.int .i64 i_4)])],[(240,.sl 109 out_3)])
noncomputable def Js (z0:Eh) (k:Cc→Option (List Int)) (s_0:ByteArray):Option (List Int):=
 k (.c0 s_0 0 [])
noncomputable def B_spec_l05Words (z0:Eh) (k:Cc→Option (List Int)):Cc→Option (List Int)
 | .c0 s_0 i_4 out_3=>
 bif (decide ((w64 (i_4+4))≤(s_0.size:Int))) then
  (z0 s_0 i_4).bind fun r0=>
  bif (decide (((out_3.length+1)*4)≤140737488355328)) then
  k (.c0 s_0 (w64 (i_4+4)) (out_3++[r0]))
  else none
 else
  some out_3
noncomputable def L_spec_l05Words:Nat→Cc→Option (List Int)
 | 0,_=>none
 | m+1,s=>B_spec_l05Words spec_l05Word (L_spec_l05Words m) s
noncomputable def spec_l05Words:GZ:=Js spec_l05Word (L_spec_l05Words gas)
theorem Gl:Tells ctx PP 54 cv9 cv11 (fun a=>spec_l05Words a):=
 have b:∀ z0,CutIs ctx PP 54 Tryz.f54 [] [(103,Es z0)] cv11 Gs (B_spec_l05Words z0):=fun z0 _ s=>by cases s <;> kernel_rfl
 have e:∀ z0,EntryIs ctx PP 54 [] [(103,Es z0)] cv9 cv11 Gs (fun k a=>Js z0 k a):=fun z0 _ a=>by kernel_rfl
 fn_ok (hc J3 hl_nil) Tryz.func54 (fun s s' h=>by cases s;cases s';cases h;rfl) (fun _=>rfl) (fun _ _=>rfl) (b spec_l05Word) (e spec_l05Word) gas
noncomputable def La {γ:Type} (F:GZ):Hd ctx γ:=hdl cv9.dec (fun a=>F a) cv11.enc
abbrev Na:=Option (List Int)
noncomputable def Ls  : Option (List Int):=
 some [1116352408,1899447441,3049323471,3921009573,961987163,1508970993,2453635748,2870763221,3624381080,310598401,607225278,1426881987,1925078388,2162078206,2614888103,3248222580,3835390401,4022224774,264347078,604807628,770255983,1249150122,1555081692,1996064986,2554220882,2821834349,2952996808,3210313671,3336571891,3584528711,113926993,338241895,666307205,773529912,1294757372,1396182291,1695183700,1986661051,2177026350,2456956037,2730485921,2820302411,3259730800,3345764771,3516065817,3600352804,4094571909,275423344,430227734,506948616,659060556,883997877,958139571,1322822218,1537002063,1747873779,1955562222,2024104815,2227730452,2361852424,2428436474,2756734187,3204031479,3329325298]
noncomputable def spec_l05K:Na:=Ls
theorem Ns:Tells ctx PP 55 cv10 cv11 (fun _=>spec_l05K):=fn_ok0 hl_nil Tryz.func55 (fun _=>by kernel_rfl:EntryIs0 ctx PP 55 [] [] cv10 cv11 fun _=>Ls)
noncomputable def Fh {γ:Type} (F:Na):Hd ctx γ:=hdl cv10.dec (fun _=>F) cv11.enc
abbrev Hl:=Int→Int→Int→Option Int
noncomputable def E_spec_l05Right (x_0:Int) (low_1:Int) (high_2:Int):Option Int:=
 bif (!(low_1 == 0)) then
 bif (!(low_1 == 0)) then
 some (w32 ((w32 (x_0.tdiv low_1))+(w32 ((x_0.tmod low_1)*high_2))))
 else none
 else none
noncomputable def spec_l05Right:Hl:=E_spec_l05Right
theorem O3:Tells ctx PP 147 cv17 cv16 (fun a=>spec_l05Right a.1 a.2.1 a.2.2):=fn_ok0 hl_nil Tryz.func147 (fun a=>by kernel_rfl:EntryIs0 ctx PP 147 [] [] cv17 cv16 fun a=>E_spec_l05Right a.1 a.2.1 a.2.2)
noncomputable def U3 {γ:Type} (F:Hl):Hd ctx γ:=hdl cv17.dec (fun a=>F a.1 a.2.1 a.2.2) cv16.enc
abbrev Gh:=Int→Int→Int→Int→Bool→Option Int
noncomputable def E_spec_l05S (z0:Hl) (x_0:Int) (a_1:Int) (b_2:Int) (c_3:Int) (last_4:Bool):Option Int:=
 bif (!(a_1 == 0)) then
 (z0 x_0 a_1 (w32 ((w32 ((2147483648:Int).tdiv a_1))*2))).bind fun r0=>
 bif (!(b_2 == 0)) then
 (z0 x_0 b_2 (w32 ((w32 ((2147483648:Int).tdiv b_2))*2))).bind fun r1=>
 bif (!(c_3 == 0)) then
 bif (!last_4) then
 bif (!(c_3 == 0)) then
 (z0 x_0 c_3 (w32 ((w32 ((2147483648:Int).tdiv c_3))*2))).bind fun r2=>
 some (w32 (((BitVec.toNat ((BitVec.ofInt (IntKind.bits IntKind.u32) (w32 (((BitVec.toNat ((BitVec.ofInt (IntKind.bits IntKind.u32) r0) ^^^ (BitVec.ofInt (IntKind.bits IntKind.u32) r1))):Nat):Int))) ^^^ (BitVec.ofInt (IntKind.bits IntKind.u32) r2))):Nat):Int))
 else none
 else
 some (w32 (((BitVec.toNat ((BitVec.ofInt (IntKind.bits IntKind.u32) (w32 (((BitVec.toNat ((BitVec.ofInt (IntKind.bits IntKind.u32) r0) ^^^ (BitVec.ofInt (IntKind.bits IntKind.u32) r1))):Nat):Int))) ^^^ (BitVec.ofInt (IntKind.bits IntKind.u32) (w32 (x_0.tdiv c_3))))):Nat):Int))
 else none
 else none
 else none
noncomputable def spec_l05S:Gh:=E_spec_l05S spec_l05Right
theorem V3:Tells ctx PP 104 cv18 cv16 (fun a=>spec_l05S a.1 a.2.1 a.2.2.1 a.2.2.2.1 a.2.2.2.2):=fn_ok0 (hc O3 hl_nil) Tryz.func104 ((fun z0 a=>by kernel_rfl:∀ z0,EntryIs0 ctx PP 104 [] [(147,U3 z0)] cv18 cv16 fun a=>E_spec_l05S z0 a.1 a.2.1 a.2.2.1 a.2.2.2.1 a.2.2.2.2) spec_l05Right)
noncomputable def Qs {γ:Type} (F:Gh):Hd ctx γ:=hdl cv18.dec (fun a=>F a.1 a.2.1 a.2.2.1 a.2.2.2.1 a.2.2.2.2) cv16.enc
abbrev Oa:=(List Int)→(List Int)→ByteArray→Option (List Int)
inductive Dc where
 | c0 (t_0:(List Int)) (o_1:(List Int)) (v_8:Int) (v_7:(List Int))
 | c1 (t_0:(List Int)) (o_1:(List Int)) (v_10:Int) (v_7:(List Int)) (v_9:(List Int))
 | c2 (t_0:(List Int)) (o_1:(List Int)) (v_10:Int) (v_13:Int) (v_15:Int) (v_16:Int) (v_7:(List Int)) (v_9:(List Int))
 | c3 (t_0:(List Int)) (v_18:Int) (v_9:(List Int)) (v_17:(List Int))
noncomputable def Us:Dc→LI
 | .c0 t_0 o_1 v_8 v_7=>(tdo Tryz.f56 464,[(0,[.one (.rsl 109 t_0)]),(1,[.one (.rsl 109 o_1)]),(7,[.one (.own 496)]),(8,[.one (.int .i64 v_8)])],[(496,.sl 109 v_7)])
 | .c1 t_0 o_1 v_10 v_7 v_9=>(tdo Tryz.f56 2000,[(0,[.one (.rsl 109 t_0)]),(1,[.one (.rsl 109 o_1)]),(7,[.one (.own 496)]),(9,[.one (.own 624)]),(10,[.one (.int .i64 v_10)])],[(496,.sl 109 v_7),(624,.sl 109 v_9)])
 | .c2 t_0 o_1 v_10 v_13 v_15 v_16 v_7 v_9=>(tdo Tryz.f56 8202192,[(0,[.one (.rsl 109 t_0)]),(1,[.one (.rsl 109 o_1)]),(7,[.one (.own 496)]),(9,[.one (.own 624)]),(10,[.one (.int .i64 v_10)]),(13,[.one (.int .u32 v_13)]),(15,[.one (.int .u32 v_15)]),(16,[.one (.int .i64 v_16)])],[(496,.sl 109 v_7),(624,.sl 109 v_9)])
 | .c3 t_0 v_18 v_9 v_17=>(tdo Tryz.f56 8144,[(0,[.one (.rsl 109 t_0)]),(9,[.one (.own 624)]),(17,[.one (.own 1136)]),(18,[.one (.int .i64 v_18)])],[(624,.sl 109 v_9),(1136,.sl 109 v_17)])
noncomputable def E_spec_l05Round (z0:GZ) (z1:Gh) (k:Dc→Option (List Int)) (t_0:(List Int)) (o_1:(List Int)) (A_2:ByteArray):Option (List Int):=
 (z0 A_2).bind fun r0=>
 k (.c0 t_0 o_1 16 r0)
noncomputable def B_spec_l05Round (z0:GZ) (z1:Gh) (k:Dc→Option (List Int)):Dc→Option (List Int)
 | .c0 t_0 o_1 v_8 v_7=>
 bif (decide (v_8<64)) then
  bif ((decide (0≤(w64 (v_8 - 2)))) && (decide ((w64 (v_8 - 2))<(v_7.length:Int)))) then
  (z1 (v_7.getD (w64 (v_8 - 2)).toNat 0) 131072 524288 1024 true).bind fun r0=>
  bif ((decide (0≤(w64 (v_8 - 7)))) && (decide ((w64 (v_8 - 7))<(v_7.length:Int)))) then
  bif ((decide (0≤(w64 (v_8 - 15)))) && (decide ((w64 (v_8 - 15))<(v_7.length:Int)))) then
  (z1 (v_7.getD (w64 (v_8 - 15)).toNat 0) 128 262144 8 true).bind fun r1=>
  bif ((decide (0≤(w64 (v_8 - 16)))) && (decide ((w64 (v_8 - 16))<(v_7.length:Int)))) then
  bif (decide (((v_7.length+1)*4)≤140737488355328)) then
  k (.c0 t_0 o_1 (w64 (v_8+1)) (v_7++[(w32 ((w32 ((w32 (r0+(v_7.getD (w64 (v_8 - 7)).toNat 0)))+r1))+(v_7.getD (w64 (v_8 - 16)).toNat 0)))]))
  else none
  else none
  else none
  else none
  else none
 else
  bif (decide (((0+t_0.length)*4)≤140737488355328)) then
  k (.c1 t_0 o_1 0 v_7 ([]++t_0))
  else none
 | .c1 t_0 o_1 v_10 v_7 v_9=>
 bif (decide (v_10<64)) then
  bif ((decide ((0:Int)≤(4:Int))) && (decide (4<(v_9.length:Int)))) then
  bif ((decide ((0:Int)≤(5:Int))) && (decide (5<(v_9.length:Int)))) then
  bif ((decide ((0:Int)≤(6:Int))) && (decide (6<(v_9.length:Int)))) then
  bif ((decide ((0:Int)≤(7:Int))) && (decide (7<(v_9.length:Int)))) then
  (z1 (v_9.getD (4:Int).toNat 0) 64 2048 33554432 false).bind fun r0=>
  bif ((decide (0≤v_10)) && (decide (v_10<(o_1.length:Int)))) then
  bif ((decide (0≤v_10)) && (decide (v_10<(v_7.length:Int)))) then
  bif ((decide ((0:Int)≤(0:Int))) && (decide (0<(v_9.length:Int)))) then
  bif ((decide ((0:Int)≤(1:Int))) && (decide (1<(v_9.length:Int)))) then
  bif ((decide ((0:Int)≤(0:Int))) && (decide (0<(v_9.length:Int)))) then
  bif ((decide ((0:Int)≤(2:Int))) && (decide (2<(v_9.length:Int)))) then
  bif ((decide ((0:Int)≤(1:Int))) && (decide (1<(v_9.length:Int)))) then
  bif ((decide ((0:Int)≤(2:Int))) && (decide (2<(v_9.length:Int)))) then
  bif ((decide ((0:Int)≤(0:Int))) && (decide (0<(v_9.length:Int)))) then
  (z1 (v_9.getD (0:Int).toNat 0) 4 8192 4194304 false).bind fun r1=>
  k (.c2 t_0 o_1 v_10 (w32 ((w32 ((w32 ((w32 ((v_9.getD (7:Int).toNat 0)+r0))+(w32 (((BitVec.toNat ((BitVec.ofInt (IntKind.bits IntKind.u32) (w32 (((BitVec.toNat ((BitVec.ofInt (IntKind.bits IntKind.u32) (v_9.getD (4:Int).toNat 0)) &&& (BitVec.ofInt (IntKind.bits IntKind.u32) (v_9.getD (5:Int).toNat 0)))):Nat):Int))) ^^^ (BitVec.ofInt (IntKind.bits IntKind.u32) (w32 (((BitVec.toNat ((BitVec.ofInt (IntKind.bits IntKind.u32) (w32 (4294967295 - (v_9.getD (4:Int).toNat 0)))) &&& (BitVec.ofInt (IntKind.bits IntKind.u32) (v_9.getD (6:Int).toNat 0)))):Nat):Int))))):Nat):Int))))+(o_1.getD v_10.toNat 0)))+(v_7.getD v_10.toNat 0))) (w32 (r1+(w32 (((BitVec.toNat ((BitVec.ofInt (IntKind.bits IntKind.u32) (w32 (((BitVec.toNat ((BitVec.ofInt (IntKind.bits IntKind.u32) (w32 (((BitVec.toNat ((BitVec.ofInt (IntKind.bits IntKind.u32) (v_9.getD (0:Int).toNat 0)) &&& (BitVec.ofInt (IntKind.bits IntKind.u32) (v_9.getD (1:Int).toNat 0)))):Nat):Int))) ^^^ (BitVec.ofInt (IntKind.bits IntKind.u32) (w32 (((BitVec.toNat ((BitVec.ofInt (IntKind.bits IntKind.u32) (v_9.getD (0:Int).toNat 0)) &&& (BitVec.ofInt (IntKind.bits IntKind.u32) (v_9.getD (2:Int).toNat 0)))):Nat):Int))))):Nat):Int))) ^^^ (BitVec.ofInt (IntKind.bits IntKind.u32) (w32 (((BitVec.toNat ((BitVec.ofInt (IntKind.bits IntKind.u32) (v_9.getD (1:Int).toNat 0)) &&& (BitVec.ofInt (IntKind.bits IntKind.u32) (v_9.getD (2:Int).toNat 0)))):Nat):Int))))):Nat):Int)))) 7 v_7 v_9)
  else none
  else none
  else none
  else none
  else none
  else none
  else none
  else none
  else none
  else none
  else none
  else none
  else none
 else
  k (.c3 t_0 0 v_9 [])
 | .c2 t_0 o_1 v_10 v_13 v_15 v_16 v_7 v_9=>
 bif (decide (v_16 > 0)) then
  bif ((decide (0≤(w64 (v_16 - 1)))) && (decide ((w64 (v_16 - 1))<(v_9.length:Int)))) then
  bif ((decide (0≤v_16)) && (decide (v_16<(v_9.length:Int)))) then
  k (.c2 t_0 o_1 v_10 v_13 v_15 (w64 (v_16 - 1)) v_7 (v_9.set v_16.toNat (v_9.getD (w64 (v_16 - 1)).toNat 0)))
  else none
  else none
 else
  bif ((decide ((0:Int)≤(4:Int))) && (decide (4<(v_9.length:Int)))) then
  bif ((decide ((0:Int)≤(4:Int))) && (decide (4<(v_9.length:Int)))) then
  bif ((decide ((0:Int)≤(0:Int))) && (decide (0<((v_9.set (4:Int).toNat (w32 ((v_9.getD (4:Int).toNat 0)+v_13))).length:Int)))) then
  k (.c1 t_0 o_1 (w64 (v_10+1)) v_7 ((v_9.set (4:Int).toNat (w32 ((v_9.getD (4:Int).toNat 0)+v_13))).set (0:Int).toNat (w32 (v_13+v_15))))
  else none
  else none
  else none
 | .c3 t_0 v_18 v_9 v_17=>
 bif (decide (v_18<8)) then
  bif ((decide (0≤v_18)) && (decide (v_18<(t_0.length:Int)))) then
  bif ((decide (0≤v_18)) && (decide (v_18<(v_9.length:Int)))) then
  bif (decide (((v_17.length+1)*4)≤140737488355328)) then
  k (.c3 t_0 (w64 (v_18+1)) v_9 (v_17++[(w32 ((t_0.getD v_18.toNat 0)+(v_9.getD v_18.toNat 0)))]))
  else none
  else none
  else none
 else
  some v_17
noncomputable def L_spec_l05Round:Nat→Dc→Option (List Int)
 | 0,_=>none
 | m+1,s=>B_spec_l05Round spec_l05Words spec_l05S (L_spec_l05Round m) s
noncomputable def spec_l05Round:Oa:=E_spec_l05Round spec_l05Words spec_l05S (L_spec_l05Round gas)
theorem Vs:Tells ctx PP 56 cv19 cv11 (fun a=>spec_l05Round a.1 a.2.1 a.2.2):=
 have b:∀ z0 z1,CutIs ctx PP 56 Tryz.f56 [] [(54,La z0),(104,Qs z1)] cv11 Us (B_spec_l05Round z0 z1):=fun z0 z1 _ s=>by cases s <;> kernel_rfl
 have e:∀ z0 z1,EntryIs ctx PP 56 [] [(54,La z0),(104,Qs z1)] cv19 cv11 Us (fun k a=>E_spec_l05Round z0 z1 k a.1 a.2.1 a.2.2):=fun z0 z1 _ a=>by kernel_rfl
 fn_ok (hc Gl (hc V3 hl_nil)) Tryz.func56 (fun s s' h=>by cases s <;> cases s' <;> first | (cases h;done) | (cases h;rfl) | exact (rg_ne h (by kernel_rfl)).elim) (fun _=>rfl) (fun _ _=>rfl) (b spec_l05Words spec_l05S) (e spec_l05Words spec_l05S) gas
noncomputable def Ih {γ:Type} (F:Oa):Hd ctx γ:=hdl cv19.dec (fun a=>F a.1 a.2.1 a.2.2) cv11.enc
abbrev Il:=SHasher→ByteArray→Option SHasher
inductive Ic where
 | c0 (s_1:ByteArray) (buf_7:ByteArray) (at_8:Int) (h_2:SHasher) (v_4:SHasher) (state_5:(List Int)) (k_6:(List Int))
noncomputable def Ws:Ic→LI
 | .c0 s_1 buf_7 at_8 h_2 v_4 state_5 k_6=>(tdo Tryz.f22 4064,[(1,[.one (.str s_1)]),(2,[.one (.ptr 128 0)]),(4,[.one (.ptr 256 0)]),(5,[.one (.own 368)]),(6,[.one (.own 432)]),(7,[.one (.str buf_7)]),(8,[.one (.int .i64 at_8)])],[(128,.var [.str h_2.fState,.str h_2.fRest,.int .i64 h_2.fCount]),(256,.var [.str v_4.fState,.str v_4.fRest,.int .i64 v_4.fCount]),(368,.sl 109 state_5),(432,.sl 109 k_6)])
noncomputable def E_spec_HashMore (z0:Ja) (z1:GZ) (z2:Na) (z3:Oa) (z4:RZ) (k:Ic→Option SHasher) (h_0:SHasher) (s_1:ByteArray):Option SHasher:=
 (z0 h_0).bind fun r0=>
 bif (!r0) then
 some h_0
 else
 bif (decide ((w64 (h_0.fCount+(s_1.size:Int))) > 1000000000)) then
  some h_0
 else
  (z1 h_0.fState).bind fun r1=>
  z2.bind fun r2=>
  bif (decide ((h_0.fRest.size+s_1.size)≤9223372036854775807)) then
  k (.c0 s_1 (h_0.fRest++s_1) 0 h_0 ⟨⟨#[]⟩,⟨#[]⟩,0⟩ r1 r2)
  else none
noncomputable def B_spec_HashMore (z0:Ja) (z1:GZ) (z2:Na) (z3:Oa) (z4:RZ) (k:Ic→Option SHasher):Ic→Option SHasher
 | .c0 s_1 buf_7 at_8 h_2 v_4 state_5 k_6=>
 bif (decide ((w64 (at_8+64))≤(buf_7.size:Int))) then
  bif (((decide (0≤at_8)) && (decide (at_8≤(w64 (at_8+64))))) && (decide ((w64 (at_8+64))≤(buf_7.size:Int)))) then
  (z3 state_5 k_6 (buf_7.extract at_8.toNat (w64 (at_8+64)).toNat)).bind fun r0=>
  k (.c0 s_1 buf_7 (w64 (at_8+64)) h_2 v_4 r0 k_6)
  else none
 else
  (z4 state_5).bind fun r1=>
  bif ((decide (0≤at_8)) && (decide (at_8≤(buf_7.size:Int)))) then
  some ⟨r1,(buf_7.extract at_8.toNat buf_7.size),(w64 (h_2.fCount+(s_1.size:Int)))⟩
  else none
noncomputable def L_spec_HashMore:Nat→Ic→Option SHasher
 | 0,_=>none
 | m+1,s=>B_spec_HashMore spec_HasherOk spec_l05Words spec_l05K spec_l05Round spec_l05Bytes (L_spec_HashMore m) s
noncomputable def spec_HashMore:Il:=E_spec_HashMore spec_HasherOk spec_l05Words spec_l05K spec_l05Round spec_l05Bytes (L_spec_HashMore gas)
theorem X3:Tells ctx PP 22 cv20 cv13 (fun a=>spec_HashMore a.1 a.2):=
 have b:∀ z0 z1 z2 z3 z4,CutIs ctx PP 22 Tryz.f22 [] [(53,Dh z0),(54,La z1),(55,Fh z2),(56,Ih z3),(57,Bc z4)] cv13 Ws (B_spec_HashMore z0 z1 z2 z3 z4):=fun z0 z1 z2 z3 z4 _ s=>by cases s <;> kernel_rfl
 have e:∀ z0 z1 z2 z3 z4,EntryIs ctx PP 22 [] [(53,Dh z0),(54,La z1),(55,Fh z2),(56,Ih z3),(57,Bc z4)] cv20 cv13 Ws (fun k a=>E_spec_HashMore z0 z1 z2 z3 z4 k a.1 a.2):=fun z0 z1 z2 z3 z4 _ a=>by kernel_rfl
 fn_ok (hc Zr (hc Gl (hc Ns (hc Vs (hc Zk hl_nil))))) Tryz.func22 (fun s s' h=>by cases s;cases s';(repeat cases ‹SHasher›);cases h;rfl) (fun _=>rfl) (fun _ _=>rfl) (b spec_HasherOk spec_l05Words spec_l05K spec_l05Round spec_l05Bytes) (e spec_HasherOk spec_l05Words spec_l05K spec_l05Round spec_l05Bytes) gas
noncomputable def Y3 {γ:Type} (F:Il):Hd ctx γ:=hdl cv20.dec (fun a=>F a.1 a.2) cv13.enc
abbrev Jl:=SHasher→Option ByteArray
inductive Jc where
 | c0 (h_1:SHasher) (tail_3:(List Int))
 | c1 (bits_4:Int) (i_5:Int) (h_1:SHasher) (tail_3:(List Int))
 | c2 (bits_4:Int) (i_5:Int) (x_6:Int) (k_7:Int) (h_1:SHasher) (tail_3:(List Int))
 | c3 (at_10:Int) (tail_3:(List Int)) (state_8:(List Int)) (k_9:(List Int))
noncomputable def Dt:Jc→LI
 | .c0 h_1 tail_3=>(tdo Tryz.f21 992,[(1,[.one (.ptr 64 0)]),(3,[.one (.own 240)])],[(64,.var [.str h_1.fState,.str h_1.fRest,.int .i64 h_1.fCount]),(240,.sl 5 tail_3)])
 | .c1 bits_4 i_5 h_1 tail_3=>(tdo Tryz.f21 8144,[(1,[.one (.ptr 64 0)]),(3,[.one (.own 240)]),(4,[.one (.int .i64 bits_4)]),(5,[.one (.int .i64 i_5)])],[(64,.var [.str h_1.fState,.str h_1.fRest,.int .i64 h_1.fCount]),(240,.sl 5 tail_3)])
 | .c2 bits_4 i_5 x_6 k_7 h_1 tail_3=>(tdo Tryz.f21 2085456,[(1,[.one (.ptr 64 0)]),(3,[.one (.own 240)]),(4,[.one (.int .i64 bits_4)]),(5,[.one (.int .i64 i_5)]),(6,[.one (.int .i64 x_6)]),(7,[.one (.int .i64 k_7)])],[(64,.var [.str h_1.fState,.str h_1.fRest,.int .i64 h_1.fCount]),(240,.sl 5 tail_3)])
 | .c3 at_10 tail_3 state_8 k_9=>(tdo Tryz.f21 65488,[(3,[.one (.own 240)]),(8,[.one (.own 560)]),(9,[.one (.own 624)]),(10,[.one (.int .i64 at_10)])],[(240,.sl 5 tail_3),(560,.sl 109 state_8),(624,.sl 109 k_9)])
noncomputable def E_spec_HashEnd (z0:Ja) (z1:GZ) (z2:Na) (z3:Oa) (z4:RZ) (k:Jc→Option ByteArray) (h_0:SHasher):Option ByteArray:=
 (z0 h_0).bind fun r0=>
 bif (!r0) then
 some ⟨#[]⟩
 else
 bif (decide (h_0.fRest.size≤9223372036854775807)) then
 bif (decide ((((bytesOf h_0.fRest).length+1)*1)≤140737488355328)) then
 k (.c0 h_0 ((bytesOf h_0.fRest)++[(128:Int)]))
 else none
 else none
noncomputable def B_spec_HashEnd (z0:Ja) (z1:GZ) (z2:Na) (z3:Oa) (z4:RZ) (k:Jc→Option ByteArray):Jc→Option ByteArray
 | .c0 h_1 tail_3=>
 bif (((tail_3.length:Int).tmod 64) != 56) then
  bif (decide (((tail_3.length+1)*1)≤140737488355328)) then
  k (.c0 h_1 (tail_3++[(0:Int)]))
  else none
 else
  k (.c1 (w64 (8*h_1.fCount)) 7 h_1 tail_3)
 | .c1 bits_4 i_5 h_1 tail_3=>
 bif (decide (i_5≥0)) then
  k (.c2 bits_4 i_5 bits_4 0 h_1 tail_3)
 else
  (z1 h_1.fState).bind fun r0=>
  z2.bind fun r1=>
  k (.c3 0 tail_3 r0 r1)
 | .c2 bits_4 i_5 x_6 k_7 h_1 tail_3=>
 bif (decide (k_7<i_5)) then
  k (.c2 bits_4 i_5 (w64 (x_6.tdiv 256)) (w64 (k_7+1)) h_1 tail_3)
 else
  bif (decide (((tail_3.length+1)*1)≤140737488355328)) then
  k (.c1 bits_4 (w64 (i_5 - 1)) h_1 (tail_3++[(w8 (x_6.tmod 256))]))
  else none
 | .c3 at_10 tail_3 state_8 k_9=>
 bif (decide (at_10<(tail_3.length:Int))) then
  bif (((decide (0≤at_10)) && (decide (at_10≤(w64 (at_10+64))))) && (decide ((w64 (at_10+64))≤(tail_3.length:Int)))) then
  (z3 state_8 k_9 (ofBytes ((tail_3.drop at_10.toNat).take ((w64 (at_10+64)).toNat - at_10.toNat)))).bind fun r0=>
  k (.c3 (w64 (at_10+64)) tail_3 r0 k_9)
  else none
 else
  (z4 state_8).bind fun r1=>
  some r1
noncomputable def L_spec_HashEnd:Nat→Jc→Option ByteArray
 | 0,_=>none
 | m+1,s=>B_spec_HashEnd spec_HasherOk spec_l05Words spec_l05K spec_l05Round spec_l05Bytes (L_spec_HashEnd m) s
noncomputable def spec_HashEnd:Jl:=E_spec_HashEnd spec_HasherOk spec_l05Words spec_l05K spec_l05Round spec_l05Bytes (L_spec_HashEnd gas)
theorem I4:Tells ctx PP 21 cv13 cv9 (fun a=>spec_HashEnd a):=
 have b:∀ z0 z1 z2 z3 z4,CutIs ctx PP 21 Tryz.f21 [] [(53,Dh z0),(54,La z1),(55,Fh z2),(56,Ih z3),(57,Bc z4)] cv9 Dt (B_spec_HashEnd z0 z1 z2 z3 z4):=fun z0 z1 z2 z3 z4 _ s=>by cases s <;> kernel_rfl
 have e:∀ z0 z1 z2 z3 z4,EntryIs ctx PP 21 [] [(53,Dh z0),(54,La z1),(55,Fh z2),(56,Ih z3),(57,Bc z4)] cv13 cv9 Dt (fun k a=>E_spec_HashEnd z0 z1 z2 z3 z4 k a):=fun z0 z1 z2 z3 z4 _ a=>by kernel_rfl
 fn_ok (hc Zr (hc Gl (hc Ns (hc Vs (hc Zk hl_nil))))) Tryz.func21 (fun s s' h=>by cases s <;> cases s' <;> first | ((repeat cases ‹SHasher›);cases h;done) | ((repeat cases ‹SHasher›);cases h;rfl) | exact (rg_ne h (by kernel_rfl)).elim) (fun _=>rfl) (fun _ _=>rfl) (b spec_HasherOk spec_l05Words spec_l05K spec_l05Round spec_l05Bytes) (e spec_HasherOk spec_l05Words spec_l05K spec_l05Round spec_l05Bytes) gas
noncomputable def J4 {γ:Type} (F:Jl):Hd ctx γ:=hdl cv13.dec (fun a=>F a) cv9.enc
abbrev Ll:=ByteArray→Option ByteArray
noncomputable def E_spec_DigestOf (z0:Bl) (z1:Il) (z2:Jl) (s_0:ByteArray):Option ByteArray:=
 z0.bind fun r0=>
 (z1 r0 s_0).bind fun r1=>
 (z2 r1).bind fun r2=>
 some r2
noncomputable def spec_DigestOf:Ll:=E_spec_DigestOf spec_HasherNew spec_HashMore spec_HashEnd
theorem O4:Tells ctx PP 8 cv9 cv9 (fun a=>spec_DigestOf a):=fn_ok0 (hc U1 (hc X3 (hc I4 hl_nil))) Tryz.func8 ((fun z0 z1 z2 a=>by kernel_rfl:∀ z0 z1 z2,EntryIs0 ctx PP 8 [] [(23,Y1 z0),(22,Y3 z1),(21,J4 z2)] cv9 cv9 fun a=>E_spec_DigestOf z0 z1 z2 a) spec_HasherNew spec_HashMore spec_HashEnd)
noncomputable def U4 {γ:Type} (F:Ll):Hd ctx γ:=hdl cv9.dec (fun a=>F a) cv9.enc
abbrev Nl:=Option (List Int)
noncomputable def Et  : Option (List Int):=
 some [1779033703,3144134277,1013904242,2773480762,1359893119,2600822924,528734635,1541459225]
noncomputable def impl_firstState:Nl:=Et
theorem V4:Tells ctx PP 60 cv10 cv21 (fun _=>impl_firstState):=fn_ok0 hl_nil Tryz.func60 (fun _=>by kernel_rfl:EntryIs0 ctx PP 60 [] [] cv10 cv21 fun _=>Et)
noncomputable def X4 {γ:Type} (F:Nl):Hd ctx γ:=hdl cv10.dec (fun _=>F) cv21.enc
abbrev Lc:=Int→Option ByteArray
noncomputable def E_impl_zeros (n_0:Int):Option ByteArray:=
 bif ((((decide (0≤n_0)) && (decide (n_0≤n_0))) && (decide (n_0≤9223372036854775807))) && (decide ((n_0.toNat*1)≤140737488355328))) then
 some (ofBytes (List.replicate n_0.toNat (0:Int)))
 else none
noncomputable def impl_zeros:Lc:=E_impl_zeros
theorem Ol:Tells ctx PP 68 cv7 cv9 (fun a=>impl_zeros a):=fn_ok0 hl_nil Tryz.func68 (fun a=>by kernel_rfl:EntryIs0 ctx PP 68 [] [] cv7 cv9 fun a=>E_impl_zeros a)
noncomputable def Ql {γ:Type} (F:Lc):Hd ctx γ:=hdl cv7.dec (fun a=>F a) cv9.enc
abbrev IZ:=Int→Option ByteArray
noncomputable def E_impl_fourBytes (n_0:Int):Option ByteArray:=
 some (ofBytes [(w8 (Int.fdiv n_0 (2 ^ (Min.min (24:Int).toNat (IntKind.bits IntKind.u32))))),(w8 (Int.fdiv n_0 (2 ^ (Min.min (16:Int).toNat (IntKind.bits IntKind.u32))))),(w8 (Int.fdiv n_0 (2 ^ (Min.min (8:Int).toNat (IntKind.bits IntKind.u32))))),(w8 n_0)])
noncomputable def impl_fourBytes:IZ:=E_impl_fourBytes
theorem Jh:Tells ctx PP 107 cv16 cv9 (fun a=>impl_fourBytes a):=fn_ok0 hl_nil Tryz.func107 (fun a=>by kernel_rfl:EntryIs0 ctx PP 107 [] [] cv16 cv9 fun a=>E_impl_fourBytes a)
noncomputable def Qa {γ:Type} (F:IZ):Hd ctx γ:=hdl cv16.dec (fun a=>F a) cv9.enc
abbrev Rl:=Int→Option ByteArray
noncomputable def E_impl_eightBytes (z0:IZ) (n_0:Int):Option ByteArray:=
 (z0 (w32 (Int.fdiv n_0 (2 ^ (Min.min (32:Int).toNat (IntKind.bits IntKind.i64)))))).bind fun r0=>
 (z0 (w32 n_0)).bind fun r1=>
 bif (decide ((r0.size+r1.size)≤9223372036854775807)) then
 some (r0++r1)
 else none
noncomputable def impl_eightBytes:Rl:=E_impl_eightBytes impl_fourBytes
theorem Y4:Tells ctx PP 106 cv7 cv9 (fun a=>impl_eightBytes a):=fn_ok0 (hc Jh hl_nil) Tryz.func106 ((fun z0 a=>by kernel_rfl:∀ z0,EntryIs0 ctx PP 106 [] [(107,Qa z0)] cv7 cv9 fun a=>E_impl_eightBytes z0 a) impl_fourBytes)
noncomputable def Z4 {γ:Type} (F:Rl):Hd ctx γ:=hdl cv7.dec (fun a=>F a) cv9.enc
abbrev Sl:=Int→Option ByteArray
noncomputable def E_impl_ending (z0:Lc) (z1:Rl) (count_0:Int):Option ByteArray:=
 (z0 ((w64 (119 - (count_0.tmod 64))).tmod 64)).bind fun r0=>
 bif (decide (((⟨#[128]⟩:ByteArray).size+r0.size)≤9223372036854775807)) then
 (z1 (w64 (8*count_0))).bind fun r1=>
 bif (decide ((((⟨#[128]⟩:ByteArray)++r0).size+r1.size)≤9223372036854775807)) then
 some (((⟨#[128]⟩:ByteArray)++r0)++r1)
 else none
 else none
noncomputable def impl_ending:Sl:=E_impl_ending impl_zeros impl_eightBytes
theorem D5:Tells ctx PP 61 cv7 cv9 (fun a=>impl_ending a):=fn_ok0 (hc Ol (hc Y4 hl_nil)) Tryz.func61 ((fun z0 z1 a=>by kernel_rfl:∀ z0 z1,EntryIs0 ctx PP 61 [] [(68,Ql z0),(106,Z4 z1)] cv7 cv9 fun a=>E_impl_ending z0 z1 a) impl_zeros impl_eightBytes)
noncomputable def E5 {γ:Type} (F:Sl):Hd ctx γ:=hdl cv7.dec (fun a=>F a) cv9.enc
abbrev Ul:=Int→Int→Option Int
noncomputable def E_math_bits_RotateLeft32 (x_0:Int) (k_1:Int):Option Int:=
 bif (decide (0≤(wu64 (32 - (wu64 (((BitVec.toNat ((BitVec.ofInt (IntKind.bits IntKind.u64) (wu64 k_1)) &&& (BitVec.ofInt (IntKind.bits IntKind.u64) 31))):Nat):Int)))))) then
 some (w32 (((BitVec.toNat ((BitVec.ofInt (IntKind.bits IntKind.u32) (w32 (x_0*(2 ^ (Min.min (wu64 (((BitVec.toNat ((BitVec.ofInt (IntKind.bits IntKind.u64) (wu64 k_1)) &&& (BitVec.ofInt (IntKind.bits IntKind.u64) 31))):Nat):Int)).toNat (IntKind.bits IntKind.u32)))))) ||| (BitVec.ofInt (IntKind.bits IntKind.u32) (Int.fdiv x_0 (2 ^ (Min.min (wu64 (32 - (wu64 (((BitVec.toNat ((BitVec.ofInt (IntKind.bits IntKind.u64) (wu64 k_1)) &&& (BitVec.ofInt (IntKind.bits IntKind.u64) 31))):Nat):Int)))).toNat (IntKind.bits IntKind.u32))))))):Nat):Int))
 else none
noncomputable def math_bits_RotateLeft32:Ul:=E_math_bits_RotateLeft32
theorem F5:Tells ctx PP 187 cv22 cv16 (fun a=>math_bits_RotateLeft32 a.1 a.2):=fn_ok0 hl_nil Tryz.func187 (fun a=>by kernel_rfl:EntryIs0 ctx PP 187 [] [] cv22 cv16 fun a=>E_math_bits_RotateLeft32 a.1 a.2)
noncomputable def G5 {γ:Type} (F:Ul):Hd ctx γ:=hdl cv22.dec (fun a=>F a.1 a.2) cv16.enc
abbrev Ua:=Int→Int→Option Int
noncomputable def E_impl_right (z0:Ul) (x_0:Int) (n_1:Int):Option Int:=
 (z0 x_0 (w64 (0 - n_1))).bind fun r0=>
 some r0
noncomputable def impl_right:Ua:=E_impl_right math_bits_RotateLeft32
theorem Gt:Tells ctx PP 149 cv22 cv16 (fun a=>impl_right a.1 a.2):=fn_ok0 (hc F5 hl_nil) Tryz.func149 ((fun z0 a=>by kernel_rfl:∀ z0,EntryIs0 ctx PP 149 [] [(187,G5 z0)] cv22 cv16 fun a=>E_impl_right z0 a.1 a.2) math_bits_RotateLeft32)
noncomputable def Lh {γ:Type} (F:Ua):Hd ctx γ:=hdl cv22.dec (fun a=>F a.1 a.2) cv16.enc
abbrev Nh:=ByteArray→Option (List Int)
inductive Mc where
 | c0 (block_0:ByteArray) (v_11:Int) (v_2r0:(List Int)) (w_3r0:(List Int))
 | c1 (block_0:ByteArray) (i_4:Int) (v_11:Int) (v_14:Int) (v_2r0:(List Int)) (w_3r0:(List Int))
 | c2 (t_6:Int) (v_2r0:(List Int)) (w_3r0:(List Int))
noncomputable def Ht:Mc→LI
 | .c0 block_0 v_11 v_2r0 w_3r0=>(tdo Tryz.f148 232,[(0,[.one (.str block_0)]),(2,[.one (.ptr 128 0)]),(3,[.one (.ptr 192 0)]),(11,[.one (.int .i64 v_11)])],[(128,.ar 109 v_2r0),(192,.ar 109 w_3r0)])
 | .c1 block_0 i_4 v_11 v_14 v_2r0 w_3r0=>(tdo Tryz.f148 59800,[(0,[.one (.str block_0)]),(2,[.one (.ptr 128 0)]),(3,[.one (.ptr 192 0)]),(4,[.one (.int .i64 i_4)]),(11,[.one (.int .i64 v_11)]),(14,[.one (.int .i64 v_14)])],[(128,.ar 109 v_2r0),(192,.ar 109 w_3r0)])
 | .c2 t_6 v_2r0 w_3r0=>(tdo Tryz.f148 976,[(2,[.one (.ptr 128 0)]),(3,[.one (.ptr 192 0)]),(6,[.one (.int .i64 t_6)])],[(128,.ar 109 v_2r0),(192,.ar 109 w_3r0)])
noncomputable def E_impl_wordsOf (z0:Ua) (k:Mc→Option (List Int)) (block_0:ByteArray):Option (List Int):=
 k (.c0 block_0 0 (List.replicate 64 (0:Int)) (List.replicate 64 (0:Int)))
noncomputable def B_impl_wordsOf (z0:Ua) (k:Mc→Option (List Int)):Mc→Option (List Int)
 | .c0 block_0 v_11 v_2r0 w_3r0=>
 bif (decide (v_11<16)) then
  k (.c1 block_0 v_11 v_11 0 v_2r0 w_3r0)
 else
  k (.c2 16 v_2r0 w_3r0)
 | .c1 block_0 i_4 v_11 v_14 v_2r0 w_3r0=>
 bif (decide (v_14<4)) then
  bif (Nat.beq 64 w_3r0.length) then
  bif ((decide (0≤i_4)) && (decide (i_4<(w_3r0.length:Int)))) then
  bif ((decide (0≤(w64 ((w64 (4*i_4))+v_14)))) && (decide ((w64 ((w64 (4*i_4))+v_14))<(block_0.size:Int)))) then
  bif (Nat.beq 64 w_3r0.length) then
  bif ((decide (0≤i_4)) && (decide (i_4<(w_3r0.length:Int)))) then
  k (.c1 block_0 i_4 v_11 (w64 (v_14+1)) v_2r0 (w_3r0.set i_4.toNat (w32 (((BitVec.toNat ((BitVec.ofInt (IntKind.bits IntKind.u32) (w32 ((w_3r0.getD i_4.toNat 0)*(2 ^ (Min.min (8:Int).toNat (IntKind.bits IntKind.u32)))))) ||| (BitVec.ofInt (IntKind.bits IntKind.u32) (w32 (bt block_0 (w64 ((w64 (4*i_4))+v_14))))))):Nat):Int))))
  else none
  else none
  else none
  else none
  else none
 else
  k (.c0 block_0 (w64 (v_11+1)) v_2r0 w_3r0)
 | .c2 t_6 v_2r0 w_3r0=>
 bif (decide (t_6<64)) then
  bif (Nat.beq 64 w_3r0.length) then
  bif ((decide (0≤(w64 (t_6 - 15)))) && (decide ((w64 (t_6 - 15))<(w_3r0.length:Int)))) then
  bif (Nat.beq 64 w_3r0.length) then
  bif ((decide (0≤(w64 (t_6 - 2)))) && (decide ((w64 (t_6 - 2))<(w_3r0.length:Int)))) then
  (z0 (w_3r0.getD (w64 (t_6 - 15)).toNat 0) 7).bind fun r0=>
  (z0 (w_3r0.getD (w64 (t_6 - 15)).toNat 0) 18).bind fun r1=>
  (z0 (w_3r0.getD (w64 (t_6 - 2)).toNat 0) 17).bind fun r2=>
  (z0 (w_3r0.getD (w64 (t_6 - 2)).toNat 0) 19).bind fun r3=>
  bif (Nat.beq 64 w_3r0.length) then
  bif ((decide (0≤(w64 (t_6 - 7)))) && (decide ((w64 (t_6 - 7))<(w_3r0.length:Int)))) then
  bif (Nat.beq 64 w_3r0.length) then
  bif ((decide (0≤(w64 (t_6 - 16)))) && (decide ((w64 (t_6 - 16))<(w_3r0.length:Int)))) then
  bif (Nat.beq 64 w_3r0.length) then
  bif ((decide (0≤t_6)) && (decide (t_6<(w_3r0.length:Int)))) then
  k (.c2 (w64 (t_6+1)) v_2r0 (w_3r0.set t_6.toNat (w32 ((w32 ((w32 ((w32 (((BitVec.toNat ((BitVec.ofInt (IntKind.bits IntKind.u32) (w32 (((BitVec.toNat ((BitVec.ofInt (IntKind.bits IntKind.u32) r2) ^^^ (BitVec.ofInt (IntKind.bits IntKind.u32) r3))):Nat):Int))) ^^^ (BitVec.ofInt (IntKind.bits IntKind.u32) (Int.fdiv (w_3r0.getD (w64 (t_6 - 2)).toNat 0) (2 ^ (Min.min (10:Int).toNat (IntKind.bits IntKind.u32))))))):Nat):Int))+(w_3r0.getD (w64 (t_6 - 7)).toNat 0)))+(w32 (((BitVec.toNat ((BitVec.ofInt (IntKind.bits IntKind.u32) (w32 (((BitVec.toNat ((BitVec.ofInt (IntKind.bits IntKind.u32) r0) ^^^ (BitVec.ofInt (IntKind.bits IntKind.u32) r1))):Nat):Int))) ^^^ (BitVec.ofInt (IntKind.bits IntKind.u32) (Int.fdiv (w_3r0.getD (w64 (t_6 - 15)).toNat 0) (2 ^ (Min.min (3:Int).toNat (IntKind.bits IntKind.u32))))))):Nat):Int))))+(w_3r0.getD (w64 (t_6 - 16)).toNat 0)))))
  else none
  else none
  else none
  else none
  else none
  else none
  else none
  else none
  else none
  else none
 else
  bif (Nat.beq 64 w_3r0.length) then
  bif ((Nat.beq w_3r0.length v_2r0.length) && (Nat.beq 64 w_3r0.length)) then
  bif ((Nat.beq 64 w_3r0.length) && true) then
  some w_3r0
  else none
  else none
  else none
noncomputable def L_impl_wordsOf:Nat→Mc→Option (List Int)
 | 0,_=>none
 | m+1,s=>B_impl_wordsOf impl_right (L_impl_wordsOf m) s
noncomputable def impl_wordsOf:Nh:=E_impl_wordsOf impl_right (L_impl_wordsOf gas)
theorem I5:Tells ctx PP 148 cv9 cv21 (fun a=>impl_wordsOf a):=
 have b:∀ z0,CutIs ctx PP 148 Tryz.f148 [] [(149,Lh z0)] cv21 Ht (B_impl_wordsOf z0):=fun z0 _ s=>by cases s <;> kernel_rfl
 have e:∀ z0,EntryIs ctx PP 148 [] [(149,Lh z0)] cv9 cv21 Ht (fun k a=>E_impl_wordsOf z0 k a):=fun z0 _ a=>by kernel_rfl
 fn_ok (hc Gt hl_nil) Tryz.func148 (fun s s' h=>by cases s <;> cases s' <;> first | (cases h;done) | (cases h;rfl) | exact (rg_ne h (by kernel_rfl)).elim) (fun _=>rfl) (fun _ _=>rfl) (b impl_right) (e impl_right) gas
noncomputable def Jt {γ:Type} (F:Nh):Hd ctx γ:=hdl cv9.dec (fun a=>F a) cv21.enc
abbrev Oh:=(List Int)→ByteArray→Option (List Int)
inductive Nc where
 | c0 (a_6:Int) (b_7:Int) (c_8:Int) (d_9:Int) (e_10:Int) (f_11:Int) (g_12:Int) (h_13:Int) (v_37:Int) (state_2r0:(List Int)) (v_4r0:(List Int)) (w_5r0:(List Int))
 | c1 (v_109:Int) (state_2r0:(List Int)) (v_4r0:(List Int)) (out_17r0:(List Int))
noncomputable def Kt:Nc→LI
 | .c0 a_6 b_7 c_8 d_9 e_10 f_11 g_12 h_13 v_37 state_2r0 v_4r0 w_5r0=>(tdo Tryz.f105 488,[(2,[.one (.ptr 128 0)]),(4,[.one (.ptr 256 0)]),(5,[.one (.ptr 320 0)]),(6,[.one (.int .u32 a_6)]),(7,[.one (.int .u32 b_7)]),(8,[.one (.int .u32 c_8)]),(9,[.one (.int .u32 d_9)]),(10,[.one (.int .u32 e_10)]),(11,[.one (.int .u32 f_11)]),(12,[.one (.int .u32 g_12)]),(13,[.one (.int .u32 h_13)]),(37,[.one (.int .i64 v_37)])],[(128,.ar 109 state_2r0),(256,.ar 109 v_4r0),(320,.ar 109 w_5r0)])
 | .c1 v_109 state_2r0 v_4r0 out_17r0=>(tdo Tryz.f105 2024,[(2,[.one (.ptr 128 0)]),(4,[.one (.ptr 256 0)]),(17,[.one (.ptr 1088 0)]),(109,[.one (.int .i64 v_109)])],[(128,.ar 109 state_2r0),(256,.ar 109 v_4r0),(1088,.ar 109 out_17r0)])
noncomputable def E_impl_oneBlock (z0:Nh) (z1:Ua) (k:Nc→Option (List Int)) (state_0:(List Int)) (block_1:ByteArray):Option (List Int):=
 (z0 block_1).bind fun r0=>
 bif ((Nat.beq r0.length (List.replicate 64 (0:Int)).length) && (Nat.beq 64 r0.length)) then
 bif (Nat.beq 8 state_0.length) then
 bif ((decide ((0:Int)≤(0:Int))) && (decide (0<(state_0.length:Int)))) then
 bif (Nat.beq 8 state_0.length) then
 bif ((decide ((0:Int)≤(1:Int))) && (decide (1<(state_0.length:Int)))) then
 bif (Nat.beq 8 state_0.length) then
 bif ((decide ((0:Int)≤(2:Int))) && (decide (2<(state_0.length:Int)))) then
 bif (Nat.beq 8 state_0.length) then
 bif ((decide ((0:Int)≤(3:Int))) && (decide (3<(state_0.length:Int)))) then
 bif (Nat.beq 8 state_0.length) then
 bif ((decide ((0:Int)≤(4:Int))) && (decide (4<(state_0.length:Int)))) then
 bif (Nat.beq 8 state_0.length) then
 bif ((decide ((0:Int)≤(5:Int))) && (decide (5<(state_0.length:Int)))) then
 bif (Nat.beq 8 state_0.length) then
 bif ((decide ((0:Int)≤(6:Int))) && (decide (6<(state_0.length:Int)))) then
 bif (Nat.beq 8 state_0.length) then
 bif ((decide ((0:Int)≤(7:Int))) && (decide (7<(state_0.length:Int)))) then
 k (.c0 (state_0.getD (0:Int).toNat 0) (state_0.getD (1:Int).toNat 0) (state_0.getD (2:Int).toNat 0) (state_0.getD (3:Int).toNat 0) (state_0.getD (4:Int).toNat 0) (state_0.getD (5:Int).toNat 0) (state_0.getD (6:Int).toNat 0) (state_0.getD (7:Int).toNat 0) 0 state_0 [0,0,0,0,0,0,0,0] r0)
 else none
 else none
 else none
 else none
 else none
 else none
 else none
 else none
 else none
 else none
 else none
 else none
 else none
 else none
 else none
 else none
 else none
noncomputable def B_impl_oneBlock (z0:Nh) (z1:Ua) (k:Nc→Option (List Int)):Nc→Option (List Int)
 | .c0 a_6 b_7 c_8 d_9 e_10 f_11 g_12 h_13 v_37 state_2r0 v_4r0 w_5r0=>
 bif (decide (v_37<64)) then
  (z1 e_10 6).bind fun r0=>
  (z1 e_10 11).bind fun r1=>
  (z1 e_10 25).bind fun r2=>
  bif ((decide (0≤v_37)) && (decide (v_37<((64:Nat):Int)))) then
  bif (Nat.blt v_37.toNat 64) then
  bif (Nat.beq 64 w_5r0.length) then
  bif ((decide (0≤v_37)) && (decide (v_37<(w_5r0.length:Int)))) then
  (z1 a_6 2).bind fun r3=>
  (z1 a_6 13).bind fun r4=>
  (z1 a_6 22).bind fun r5=>
  k (.c0 (w32 ((w32 ((w32 ((w32 ((w32 (h_13+(w32 (((BitVec.toNat ((BitVec.ofInt (IntKind.bits IntKind.u32) (w32 (((BitVec.toNat ((BitVec.ofInt (IntKind.bits IntKind.u32) r0) ^^^ (BitVec.ofInt (IntKind.bits IntKind.u32) r1))):Nat):Int))) ^^^ (BitVec.ofInt (IntKind.bits IntKind.u32) r2))):Nat):Int))))+(w32 (((BitVec.toNat ((BitVec.ofInt (IntKind.bits IntKind.u32) (w32 (((BitVec.toNat ((BitVec.ofInt (IntKind.bits IntKind.u32) e_10) &&& (BitVec.ofInt (IntKind.bits IntKind.u32) f_11))):Nat):Int))) ^^^ (BitVec.ofInt (IntKind.bits IntKind.u32) (w32 (((BitVec.toNat ((BitVec.ofInt (IntKind.bits IntKind.u32) (w32 (((BitVec.toNat ((BitVec.ofInt (IntKind.bits IntKind.u32) (ite ((IntKind.signed IntKind.u32)=true) (-(1:Int)) (IntKind.max IntKind.u32))) ^^^ (BitVec.ofInt (IntKind.bits IntKind.u32) e_10))):Nat):Int))) &&& (BitVec.ofInt (IntKind.bits IntKind.u32) g_12))):Nat):Int))))):Nat):Int))))+([(1116352408:Int),(1899447441:Int),(3049323471:Int),(3921009573:Int),(961987163:Int),(1508970993:Int),(2453635748:Int),(2870763221:Int),(3624381080:Int),(310598401:Int),(607225278:Int),(1426881987:Int),(1925078388:Int),(2162078206:Int),(2614888103:Int),(3248222580:Int),(3835390401:Int),(4022224774:Int),(264347078:Int),(604807628:Int),(770255983:Int),(1249150122:Int),(1555081692:Int),(1996064986:Int),(2554220882:Int),(2821834349:Int),(2952996808:Int),(3210313671:Int),(3336571891:Int),(3584528711:Int),(113926993:Int),(338241895:Int),(666307205:Int),(773529912:Int),(1294757372:Int),(1396182291:Int),(1695183700:Int),(1986661051:Int),(2177026350:Int),(2456956037:Int),(2730485921:Int),(2820302411:Int),(3259730800:Int),(3345764771:Int),(3516065817:Int),(3600352804:Int),(4094571909:Int),(275423344:Int),(430227734:Int),(506948616:Int),(659060556:Int),(883997877:Int),(958139571:Int),(1322822218:Int),(1537002063:Int),(1747873779:Int),(1955562222:Int),(2024104815:Int),(2227730452:Int),(2361852424:Int),(2428436474:Int),(2756734187:Int),(3204031479:Int),(3329325298:Int)].getD v_37.toNat 0)))+(w_5r0.getD v_37.toNat 0)))+(w32 ((w32 (((BitVec.toNat ((BitVec.ofInt (IntKind.bits IntKind.u32) (w32 (((BitVec.toNat ((BitVec.ofInt (IntKind.bits IntKind.u32) r3) ^^^ (BitVec.ofInt (IntKind.bits IntKind.u32) r4))):Nat):Int))) ^^^ (BitVec.ofInt (IntKind.bits IntKind.u32) r5))):Nat):Int))+(w32 (((BitVec.toNat ((BitVec.ofInt (IntKind.bits IntKind.u32) (w32 (((BitVec.toNat ((BitVec.ofInt (IntKind.bits IntKind.u32) (w32 (((BitVec.toNat ((BitVec.ofInt (IntKind.bits IntKind.u32) a_6) &&& (BitVec.ofInt (IntKind.bits IntKind.u32) b_7))):Nat):Int))) ^^^ (BitVec.ofInt (IntKind.bits IntKind.u32) (w32 (((BitVec.toNat ((BitVec.ofInt (IntKind.bits IntKind.u32) a_6) &&& (BitVec.ofInt (IntKind.bits IntKind.u32) c_8))):Nat):Int))))):Nat):Int))) ^^^ (BitVec.ofInt (IntKind.bits IntKind.u32) (w32 (((BitVec.toNat ((BitVec.ofInt (IntKind.bits IntKind.u32) b_7) &&& (BitVec.ofInt (IntKind.bits IntKind.u32) c_8))):Nat):Int))))):Nat):Int)))))) a_6 b_7 c_8 (w32 (d_9+(w32 ((w32 ((w32 ((w32 (h_13+(w32 (((BitVec.toNat ((BitVec.ofInt (IntKind.bits IntKind.u32) (w32 (((BitVec.toNat ((BitVec.ofInt (IntKind.bits IntKind.u32) r0) ^^^ (BitVec.ofInt (IntKind.bits IntKind.u32) r1))):Nat):Int))) ^^^ (BitVec.ofInt (IntKind.bits IntKind.u32) r2))):Nat):Int))))+(w32 (((BitVec.toNat ((BitVec.ofInt (IntKind.bits IntKind.u32) (w32 (((BitVec.toNat ((BitVec.ofInt (IntKind.bits IntKind.u32) e_10) &&& (BitVec.ofInt (IntKind.bits IntKind.u32) f_11))):Nat):Int))) ^^^ (BitVec.ofInt (IntKind.bits IntKind.u32) (w32 (((BitVec.toNat ((BitVec.ofInt (IntKind.bits IntKind.u32) (w32 (((BitVec.toNat ((BitVec.ofInt (IntKind.bits IntKind.u32) (ite ((IntKind.signed IntKind.u32)=true) (-(1:Int)) (IntKind.max IntKind.u32))) ^^^ (BitVec.ofInt (IntKind.bits IntKind.u32) e_10))):Nat):Int))) &&& (BitVec.ofInt (IntKind.bits IntKind.u32) g_12))):Nat):Int))))):Nat):Int))))+([(1116352408:Int),(1899447441:Int),(3049323471:Int),(3921009573:Int),(961987163:Int),(1508970993:Int),(2453635748:Int),(2870763221:Int),(3624381080:Int),(310598401:Int),(607225278:Int),(1426881987:Int),(1925078388:Int),(2162078206:Int),(2614888103:Int),(3248222580:Int),(3835390401:Int),(4022224774:Int),(264347078:Int),(604807628:Int),(770255983:Int),(1249150122:Int),(1555081692:Int),(1996064986:Int),(2554220882:Int),(2821834349:Int),(2952996808:Int),(3210313671:Int),(3336571891:Int),(3584528711:Int),(113926993:Int),(338241895:Int),(666307205:Int),(773529912:Int),(1294757372:Int),(1396182291:Int),(1695183700:Int),(1986661051:Int),(2177026350:Int),(2456956037:Int),(2730485921:Int),(2820302411:Int),(3259730800:Int),(3345764771:Int),(3516065817:Int),(3600352804:Int),(4094571909:Int),(275423344:Int),(430227734:Int),(506948616:Int),(659060556:Int),(883997877:Int),(958139571:Int),(1322822218:Int),(1537002063:Int),(1747873779:Int),(1955562222:Int),(2024104815:Int),(2227730452:Int),(2361852424:Int),(2428436474:Int),(2756734187:Int),(3204031479:Int),(3329325298:Int)].getD v_37.toNat 0)))+(w_5r0.getD v_37.toNat 0))))) e_10 f_11 g_12 (w64 (v_37+1)) state_2r0 v_4r0 w_5r0)
  else none
  else none
  else none
  else none
 else
  k (.c1 0 state_2r0 v_4r0 [a_6,b_7,c_8,d_9,e_10,f_11,g_12,h_13])
 | .c1 v_109 state_2r0 v_4r0 out_17r0=>
 bif (decide (v_109<8)) then
  bif (Nat.beq 8 out_17r0.length) then
  bif ((decide (0≤v_109)) && (decide (v_109<(out_17r0.length:Int)))) then
  bif (Nat.beq 8 state_2r0.length) then
  bif ((decide (0≤v_109)) && (decide (v_109<(state_2r0.length:Int)))) then
  bif (Nat.beq 8 out_17r0.length) then
  bif ((decide (0≤v_109)) && (decide (v_109<(out_17r0.length:Int)))) then
  k (.c1 (w64 (v_109+1)) state_2r0 v_4r0 (out_17r0.set v_109.toNat (w32 ((out_17r0.getD v_109.toNat 0)+(state_2r0.getD v_109.toNat 0)))))
  else none
  else none
  else none
  else none
  else none
  else none
 else
  bif (Nat.beq 8 out_17r0.length) then
  bif ((Nat.beq out_17r0.length v_4r0.length) && (Nat.beq 8 out_17r0.length)) then
  bif ((Nat.beq 8 out_17r0.length) && true) then
  some out_17r0
  else none
  else none
  else none
noncomputable def L_impl_oneBlock:Nat→Nc→Option (List Int)
 | 0,_=>none
 | m+1,s=>B_impl_oneBlock impl_wordsOf impl_right (L_impl_oneBlock m) s
noncomputable def impl_oneBlock:Oh:=E_impl_oneBlock impl_wordsOf impl_right (L_impl_oneBlock gas)
theorem J5:Tells ctx PP 105 cv23 cv21 (fun a=>impl_oneBlock a.1 a.2):=
 have b:∀ z0 z1,CutIs ctx PP 105 Tryz.f105 [] [(148,Jt z0),(149,Lh z1)] cv21 Kt (B_impl_oneBlock z0 z1):=fun z0 z1 _ s=>by cases s <;> kernel_rfl
 have e:∀ z0 z1,EntryIs ctx PP 105 [] [(148,Jt z0),(149,Lh z1)] cv23 cv21 Kt (fun k a=>E_impl_oneBlock z0 z1 k a.1 a.2):=fun z0 z1 _ a=>by kernel_rfl
 fn_ok (hc I5 (hc Gt hl_nil)) Tryz.func105 (fun s s' h=>by cases s <;> cases s' <;> first | (cases h;done) | (cases h;rfl) | exact (rg_ne h (by kernel_rfl)).elim) (fun _=>rfl) (fun _ _=>rfl) (b impl_wordsOf impl_right) (e impl_wordsOf impl_right) gas
noncomputable def Ot {γ:Type} (F:Oh):Hd ctx γ:=hdl cv23.dec (fun a=>F a.1 a.2) cv21.enc
abbrev Vl:=(List Int)→ByteArray→Option ((List Int)×ByteArray)
inductive Oc where
 | c0 (s_1:ByteArray) (state_2r0:(List Int)) (v_4r0:(List Int))
noncomputable def Rt:Oc→LI
 | .c0 s_1 state_2r0 v_4r0=>(tdo Tryz.f59 96,[(1,[.one (.str s_1)]),(2,[.one (.ptr 128 0)]),(4,[.one (.ptr 256 0)])],[(128,.ar 109 state_2r0),(256,.ar 109 v_4r0)])
noncomputable def E_impl_blocks (z0:Oh) (k:Oc→Option ((List Int)×ByteArray)) (state_0:(List Int)) (s_1:ByteArray):Option ((List Int)×ByteArray):=
 k (.c0 s_1 state_0 [0,0,0,0,0,0,0,0])
noncomputable def B_impl_blocks (z0:Oh) (k:Oc→Option ((List Int)×ByteArray)):Oc→Option ((List Int)×ByteArray)
 | .c0 s_1 state_2r0 v_4r0=>
 bif (decide ((s_1.size:Int)≥64)) then
  bif (Nat.beq 8 state_2r0.length) then
  bif ((decide ((0:Int)≤(64:Int))) && (decide (64≤(s_1.size:Int)))) then
  (z0 state_2r0 (s_1.extract 0 (64:Int).toNat)).bind fun r0=>
  bif ((Nat.beq r0.length state_2r0.length) && (Nat.beq 8 r0.length)) then
  bif ((decide ((0:Int)≤(64:Int))) && (decide (64≤(s_1.size:Int)))) then
  k (.c0 (s_1.extract (64:Int).toNat s_1.size) r0 v_4r0)
  else none
  else none
  else none
  else none
 else
  bif (Nat.beq 8 state_2r0.length) then
  bif ((Nat.beq state_2r0.length v_4r0.length) && (Nat.beq 8 state_2r0.length)) then
  bif ((Nat.beq 8 state_2r0.length) && true) then
  some (state_2r0,s_1)
  else none
  else none
  else none
noncomputable def L_impl_blocks:Nat→Oc→Option ((List Int)×ByteArray)
 | 0,_=>none
 | m+1,s=>B_impl_blocks impl_oneBlock (L_impl_blocks m) s
noncomputable def impl_blocks:Vl:=E_impl_blocks impl_oneBlock (L_impl_blocks gas)
theorem O5:Tells ctx PP 59 cv23 cv23 (fun a=>impl_blocks a.1 a.2):=
 have b:∀ z0,CutIs ctx PP 59 Tryz.f59 [] [(105,Ot z0)] cv23 Rt (B_impl_blocks z0):=fun z0 _ s=>by cases s <;> kernel_rfl
 have e:∀ z0,EntryIs ctx PP 59 [] [(105,Ot z0)] cv23 cv23 Rt (fun k a=>E_impl_blocks z0 k a.1 a.2):=fun z0 _ a=>by kernel_rfl
 fn_ok (hc J5 hl_nil) Tryz.func59 (fun s s' h=>by cases s;cases s';cases h;rfl) (fun _=>rfl) (fun _ _=>rfl) (b impl_oneBlock) (e impl_oneBlock) gas
noncomputable def P5 {γ:Type} (F:Vl):Hd ctx γ:=hdl cv23.dec (fun a=>F a.1 a.2) cv23.enc
abbrev Wl:=(List Int)→Option ByteArray
inductive Qc where
 | c0 (out_3:ByteArray) (v_6:(List Int)) (v_7:Int)
noncomputable def Tt:Qc→LI
 | .c0 out_3 v_6 v_7=>(tdo Tryz.f62 232,[(3,[.one (.str out_3)]),(6,[.arr 109 v_6]),(7,[.one (.int .i64 v_7)])],[])
noncomputable def E_impl_stateText (z0:IZ) (k:Qc→Option ByteArray) (state_0:(List Int)):Option ByteArray:=
 bif (Nat.beq 8 state_0.length) then
 k (.c0 ⟨#[]⟩ state_0 0)
 else none
noncomputable def B_impl_stateText (z0:IZ) (k:Qc→Option ByteArray):Qc→Option ByteArray
 | .c0 out_3 v_6 v_7=>
 bif (decide (v_7<8)) then
  bif (Nat.beq 8 v_6.length) then
  bif ((decide (0≤v_7)) && (decide (v_7<(v_6.length:Int)))) then
  (z0 (v_6.getD v_7.toNat 0)).bind fun r0=>
  bif (decide ((out_3.size+r0.size)≤9223372036854775807)) then
  k (.c0 (out_3++r0) v_6 (w64 (v_7+1)))
  else none
  else none
  else none
 else
  some out_3
noncomputable def L_impl_stateText:Nat→Qc→Option ByteArray
 | 0,_=>none
 | m+1,s=>B_impl_stateText impl_fourBytes (L_impl_stateText m) s
noncomputable def impl_stateText:Wl:=E_impl_stateText impl_fourBytes (L_impl_stateText gas)
theorem Q5:Tells ctx PP 62 cv21 cv9 (fun a=>impl_stateText a):=
 have b:∀ z0,CutIs ctx PP 62 Tryz.f62 [] [(107,Qa z0)] cv9 Tt (B_impl_stateText z0):=fun z0 _ s=>by cases s <;> kernel_rfl
 have e:∀ z0,EntryIs ctx PP 62 [] [(107,Qa z0)] cv21 cv9 Tt (fun k a=>E_impl_stateText z0 k a):=fun z0 _ a=>by kernel_rfl
 fn_ok (hc Jh hl_nil) Tryz.func62 (fun s s' h=>by cases s;cases s';cases h;rfl) (fun _=>rfl) (fun _ _=>rfl) (b impl_fourBytes) (e impl_fourBytes) gas
noncomputable def U5 {γ:Type} (F:Wl):Hd ctx γ:=hdl cv21.dec (fun a=>F a) cv9.enc
abbrev AZ:=ByteArray→Option ByteArray
noncomputable def E_impl_DigestOf (z0:Nl) (z1:Sl) (z2:Vl) (z3:Wl) (s_0:ByteArray):Option ByteArray:=
 z0.bind fun r0=>
 (z1 (s_0.size:Int)).bind fun r1=>
 bif (decide ((s_0.size+r1.size)≤9223372036854775807)) then
 (z2 r0 (s_0++r1)).bind fun r2=>
 bif ((Nat.beq r2.1.length 8) && (Nat.beq 8 r2.1.length)) then
 bif (Nat.beq 8 r2.1.length) then
 (z3 r2.1).bind fun r3=>
 some r3
 else none
 else none
 else none
noncomputable def impl_DigestOf:AZ:=E_impl_DigestOf impl_firstState impl_ending impl_blocks impl_stateText
theorem UZ:Tells ctx PP 25 cv9 cv9 (fun a=>impl_DigestOf a):=fn_ok0 (hc V4 (hc D5 (hc O5 (hc Q5 hl_nil)))) Tryz.func25 ((fun z0 z1 z2 z3 a=>by kernel_rfl:∀ z0 z1 z2 z3,EntryIs0 ctx PP 25 [] [(60,X4 z0),(61,E5 z1),(59,P5 z2),(62,U5 z3)] cv9 cv9 fun a=>E_impl_DigestOf z0 z1 z2 z3 a) impl_firstState impl_ending impl_blocks impl_stateText)
noncomputable def JZ {γ:Type} (F:AZ):Hd ctx γ:=hdl cv9.dec (fun a=>F a) cv9.enc
abbrev VZ:=Option SBook
noncomputable def E_impl_BookNew (z0:AZ) (z1:Lc)  : Option SBook:=
 (z0 ⟨#[]⟩).bind fun r0=>
 (z1 32).bind fun r1=>
 some ⟨r0,0,[],0,r1,0⟩
noncomputable def impl_BookNew:VZ:=E_impl_BookNew impl_DigestOf impl_zeros
theorem Ph:Tells ctx PP 32 cv10 cv24 (fun _=>impl_BookNew):=fn_ok0 (hc UZ (hc Ol hl_nil)) Tryz.func32 ((fun z0 z1 _=>by kernel_rfl:∀ z0 z1,EntryIs0 ctx PP 32 [] [(25,JZ z0),(68,Ql z1)] cv10 cv24 fun _=>E_impl_BookNew z0 z1) impl_DigestOf impl_zeros)
noncomputable def Tc {γ:Type} (F:VZ):Hd ctx γ:=hdl cv10.dec (fun _=>F) cv24.enc
abbrev KZ:=Int→Option ByteArray
inductive Uc where
 | c0 (n_0:Int) (out_3:(List Int))
noncomputable def Ut:Uc→LI
 | .c0 n_0 out_3=>(tdo Tryz.f132 224,[(0,[.one (.int .i64 n_0)]),(3,[.one (.own 240)])],[(240,.sl 5 out_3)])
noncomputable def Vt (k:Uc→Option ByteArray) (n_0:Int):Option ByteArray:=
 k (.c0 n_0 [])
noncomputable def B_impl_varText (k:Uc→Option ByteArray):Uc→Option ByteArray
 | .c0 n_0 out_3=>
 bif (decide (n_0 > 127)) then
  bif (decide (((out_3.length+1)*1)≤140737488355328)) then
  k (.c0 (w64 (n_0.tdiv 128)) (out_3++[(w8 (w64 (128+(n_0.tmod 128))))]))
  else none
 else
  bif (decide (((out_3.length+1)*1)≤140737488355328)) then
  some (ofBytes (out_3++[(w8 n_0)]))
  else none
noncomputable def L_impl_varText:Nat→Uc→Option ByteArray
 | 0,_=>none
 | m+1,s=>B_impl_varText (L_impl_varText m) s
noncomputable def impl_varText:KZ:=Vt (L_impl_varText gas)
theorem Va:Tells ctx PP 132 cv7 cv9 (fun a=>impl_varText a):=
 have b:CutIs ctx PP 132 Tryz.f132 [] [] cv9 Ut (B_impl_varText):=fun _ s=>by cases s <;> kernel_rfl
 have e:EntryIs ctx PP 132 [] [] cv7 cv9 Ut (fun k a=>Vt k a):=fun _ a=>by kernel_rfl
 fn_ok hl_nil Tryz.func132 (fun s s' h=>by cases s;cases s';cases h;rfl) (fun _=>rfl) (fun _ _=>rfl) b e gas
noncomputable def Xa {γ:Type} (F:KZ):Hd ctx γ:=hdl cv7.dec (fun a=>F a) cv9.enc
abbrev TT:=Int→Int→Int→Option Bool
noncomputable def Xt (n_0:Int) (low_1:Int) (high_2:Int):Option Bool:=
 bif (decide (n_0≥low_1)) then
 some (decide (n_0≤high_2))
 else
 some false
noncomputable def impl_in:TT:=Xt
theorem QY:Tells ctx PP 47 cv14 cv1 (fun a=>impl_in a.1 a.2.1 a.2.2):=fn_ok0 hl_nil Tryz.func47 (fun a=>by kernel_rfl:EntryIs0 ctx PP 47 [] [] cv14 cv1 fun a=>Xt a.1 a.2.1 a.2.2)
noncomputable def JY {γ:Type} (F:TT):Hd ctx γ:=hdl cv14.dec (fun a=>F a.1 a.2.1 a.2.2) cv1.enc
abbrev Xc:=SThing→Option Bool
noncomputable def E_impl_ThingOk (z0:TT) (x_0:SThing):Option Bool:=
 (z0 x_0.fId 1 1000).bind fun r0=>
 bif (!r0) then
 some false
 else
 (z0 x_0.fNext 0 16).bind fun r1=>
 bif (!r1) then
  some false
 else
  bif (x_0.fKind != 2) then
  bif (x_0.fNext != 0) then
   some false
  else
   bif x_0.fSigns then
   some false
   else
   bif (x_0.fKind != 1) then
    bif x_0.fWraps then
    some false
    else
    bif (x_0.fKind == 1) then
     bif (x_0.fKind == 1) then
     some ((x_0.fValue.size:Int) == 32)
     else
     bif (x_0.fKind == 3) then
      some (decide ((x_0.fValue.size:Int)≤100))
     else
      some false
    else
     bif (x_0.fKind == 2) then
     some ((x_0.fValue.size:Int) == 32)
     else
     bif (x_0.fKind == 3) then
      some (decide ((x_0.fValue.size:Int)≤100))
     else
      some false
   else
    bif (x_0.fKind == 1) then
    bif (x_0.fKind == 1) then
     some ((x_0.fValue.size:Int) == 32)
    else
     bif (x_0.fKind == 3) then
     some (decide ((x_0.fValue.size:Int)≤100))
     else
     some false
    else
    bif (x_0.fKind == 2) then
     some ((x_0.fValue.size:Int) == 32)
    else
     bif (x_0.fKind == 3) then
     some (decide ((x_0.fValue.size:Int)≤100))
     else
     some false
  else
  bif (x_0.fKind != 1) then
   bif x_0.fWraps then
   some false
   else
   bif (x_0.fKind == 1) then
    bif (x_0.fKind == 1) then
    some ((x_0.fValue.size:Int) == 32)
    else
    bif (x_0.fKind == 3) then
     some (decide ((x_0.fValue.size:Int)≤100))
    else
     some false
   else
    bif (x_0.fKind == 2) then
    some ((x_0.fValue.size:Int) == 32)
    else
    bif (x_0.fKind == 3) then
     some (decide ((x_0.fValue.size:Int)≤100))
    else
     some false
  else
   bif (x_0.fKind == 1) then
   bif (x_0.fKind == 1) then
    some ((x_0.fValue.size:Int) == 32)
   else
    bif (x_0.fKind == 3) then
    some (decide ((x_0.fValue.size:Int)≤100))
    else
    some false
   else
   bif (x_0.fKind == 2) then
    some ((x_0.fValue.size:Int) == 32)
   else
    bif (x_0.fKind == 3) then
    some (decide ((x_0.fValue.size:Int)≤100))
    else
    some false
noncomputable def impl_ThingOk:Xc:=E_impl_ThingOk impl_in
theorem Yt:Tells ctx PP 101 cv25 cv1 (fun a=>impl_ThingOk a):=fn_ok0 (hc QY hl_nil) Tryz.func101 ((fun z0 a=>by kernel_rfl:∀ z0,EntryIs0 ctx PP 101 [] [(47,JY z0)] cv25 cv1 fun a=>E_impl_ThingOk z0 a) impl_in)
noncomputable def Xl {γ:Type} (F:Xc):Hd ctx γ:=hdl cv25.dec (fun a=>F a) cv1.enc
abbrev Ya:=Int→Option ByteArray
noncomputable def E_impl_oneByte (n_0:Int):Option ByteArray:=
 some (ofBytes [(w8 n_0)])
noncomputable def impl_oneByte:Ya:=E_impl_oneByte
theorem Yl:Tells ctx PP 133 cv7 cv9 (fun a=>impl_oneByte a):=fn_ok0 hl_nil Tryz.func133 (fun a=>by kernel_rfl:EntryIs0 ctx PP 133 [] [] cv7 cv9 fun a=>E_impl_oneByte a)
noncomputable def Qh {γ:Type} (F:Ya):Hd ctx γ:=hdl cv7.dec (fun a=>F a) cv9.enc
abbrev Zl:=SThing→Option Int
inductive Yc where
 | c0 (n_3:Int) (v_15:Int) (v_16:Int) (v_14:(List Bool))
noncomputable def Zt:Yc→LI
 | .c0 n_3 v_15 v_16 v_14=>(tdo Tryz.f134 232,[(3,[.one (.int .i64 n_3)]),(14,[.one (.own 944)]),(15,[.one (.int .i64 v_15)]),(16,[.one (.int .i64 v_16)])],[(944,.sl 4 v_14)])
noncomputable def E_impl_flags (k:Yc→Option Int) (x_0:SThing):Option Int:=
 k (.c0 0 ((4:Nat):Int) 0 [x_0.fHidden,x_0.fFixed,x_0.fSigns,x_0.fWraps])
noncomputable def Au (k:Yc→Option Int):Yc→Option Int
 | .c0 n_3 v_15 v_16 v_14=>
 bif (decide (v_16<v_15)) then
  bif ((decide (0≤v_16)) && (decide (v_16<(v_14.length:Int)))) then
  bif (v_14.getD v_16.toNat false) then
  bif (decide (0≤v_16)) then
  k (.c0 (w64 (((BitVec.toNat ((BitVec.ofInt (IntKind.bits IntKind.i64) n_3) ||| (BitVec.ofInt (IntKind.bits IntKind.i64) (w64 (1*(2 ^ (Min.min v_16.toNat (IntKind.bits IntKind.i64)))))))):Nat):Int)) v_15 (w64 (v_16+1)) v_14)
  else none
  else
  k (.c0 n_3 v_15 (w64 (v_16+1)) v_14)
  else none
 else
  some n_3
noncomputable def L_impl_flags:Nat→Yc→Option Int
 | 0,_=>none
 | m+1,s=>Au (L_impl_flags m) s
noncomputable def impl_flags:Zl:=E_impl_flags (L_impl_flags gas)
theorem V5:Tells ctx PP 134 cv25 cv7 (fun a=>impl_flags a):=
 have b:CutIs ctx PP 134 Tryz.f134 [] [] cv7 Zt (Au):=fun _ s=>by cases s <;> kernel_rfl
 have e:EntryIs ctx PP 134 [] [] cv25 cv7 Zt (fun k a=>E_impl_flags k a):=fun _ a=>by kernel_rfl
 fn_ok hl_nil Tryz.func134 (fun s s' h=>by cases s;cases s';cases h;rfl) (fun _=>rfl) (fun _ _=>rfl) b e gas
noncomputable def X5 {γ:Type} (F:Zl):Hd ctx γ:=hdl cv25.dec (fun a=>F a) cv7.enc
abbrev Am:=ByteArray→Option ByteArray
noncomputable def E_impl_shortText (z0:KZ) (s_0:ByteArray):Option ByteArray:=
 (z0 (s_0.size:Int)).bind fun r0=>
 bif (decide ((r0.size+s_0.size)≤9223372036854775807)) then
 some (r0++s_0)
 else none
noncomputable def impl_shortText:Am:=E_impl_shortText impl_varText
theorem Y5:Tells ctx PP 135 cv9 cv9 (fun a=>impl_shortText a):=fn_ok0 (hc Va hl_nil) Tryz.func135 ((fun z0 a=>by kernel_rfl:∀ z0,EntryIs0 ctx PP 135 [] [(132,Xa z0)] cv9 cv9 fun a=>E_impl_shortText z0 a) impl_varText)
noncomputable def Z5 {γ:Type} (F:Am):Hd ctx γ:=hdl cv9.dec (fun a=>F a) cv9.enc
abbrev Rh:=SThing→Option (ByteArray×Bool)
noncomputable def E_impl_ThingText (z0:Xc) (z1:KZ) (z2:Ya) (z3:Zl) (z4:Am) (x_0:SThing):Option (ByteArray×Bool):=
 (z0 x_0).bind fun r0=>
 bif (!r0) then
 some (⟨#[]⟩,false)
 else
 (z1 x_0.fId).bind fun r1=>
 (z2 x_0.fKind).bind fun r2=>
 bif (decide ((r1.size+r2.size)≤9223372036854775807)) then
 (z3 x_0).bind fun r3=>
 (z2 r3).bind fun r4=>
 bif (decide (((r1++r2).size+r4.size)≤9223372036854775807)) then
 (z4 x_0.fValue).bind fun r5=>
 bif (decide ((((r1++r2)++r4).size+r5.size)≤9223372036854775807)) then
 (z1 x_0.fNext).bind fun r6=>
 bif (decide (((((r1++r2)++r4)++r5).size+r6.size)≤9223372036854775807)) then
 some (((((r1++r2)++r4)++r5)++r6),true)
 else none
 else none
 else none
 else none
noncomputable def impl_ThingText:Rh:=E_impl_ThingText impl_ThingOk impl_varText impl_oneByte impl_flags impl_shortText
theorem Du:Tells ctx PP 90 cv25 cv26 (fun a=>impl_ThingText a):=fn_ok0 (hc Yt (hc Va (hc Yl (hc V5 (hc Y5 hl_nil))))) Tryz.func90 ((fun z0 z1 z2 z3 z4 a=>by kernel_rfl:∀ z0 z1 z2 z3 z4,EntryIs0 ctx PP 90 [] [(101,Xl z0),(132,Xa z1),(133,Qh z2),(134,X5 z3),(135,Z5 z4)] cv25 cv26 fun a=>E_impl_ThingText z0 z1 z2 z3 z4 a) impl_ThingOk impl_varText impl_oneByte impl_flags impl_shortText)
noncomputable def Eu {γ:Type} (F:Rh):Hd ctx γ:=hdl cv25.dec (fun a=>F a) cv26.enc
abbrev Ad:=SRec→Option (ByteArray×Bool)
noncomputable def E_impl_RecText (z0:KZ) (z1:TT) (z2:Rh) (z3:Ya) (r_0:SRec):Option (ByteArray×Bool):=
 bif (r_0.fKind == 1) then
 bif (!((r_0.fText.size:Int) == 32)) then
  some (⟨#[]⟩,false)
 else
  bif (!((r_0.fKind == r_0.fKind) && (((ByteArray.toList r_0.fText) == (ByteArray.toList r_0.fText)) && ((r_0.fNum == 0) && (((r_0.fThing.fId == 0) && ((r_0.fThing.fKind == 0) && ((r_0.fThing.fHidden == false) && ((r_0.fThing.fFixed == false) && ((r_0.fThing.fSigns == false) && ((r_0.fThing.fWraps == false) && (((ByteArray.toList r_0.fThing.fValue) == (ByteArray.toList ⟨#[]⟩)) && ((r_0.fThing.fNext == 0) && true)))))))) && true))))) then
  some (⟨#[]⟩,false)
  else
  (z3 r_0.fKind).bind fun r0=>
  bif (decide ((r0.size+r_0.fText.size)≤9223372036854775807)) then
  some ((r0++r_0.fText),true)
  else none
 else
 bif (r_0.fKind == 2) then
  (z0 r_0.fNum).bind fun r1=>
  (z1 r_0.fNum 0 3).bind fun r2=>
  bif (!r2) then
  some (⟨#[]⟩,false)
  else
  bif (!((r_0.fKind == r_0.fKind) && (((ByteArray.toList r_0.fText) == (ByteArray.toList ⟨#[]⟩)) && ((r_0.fNum == r_0.fNum) && (((r_0.fThing.fId == 0) && ((r_0.fThing.fKind == 0) && ((r_0.fThing.fHidden == false) && ((r_0.fThing.fFixed == false) && ((r_0.fThing.fSigns == false) && ((r_0.fThing.fWraps == false) && (((ByteArray.toList r_0.fThing.fValue) == (ByteArray.toList ⟨#[]⟩)) && ((r_0.fThing.fNext == 0) && true)))))))) && true))))) then
   some (⟨#[]⟩,false)
  else
   (z3 r_0.fKind).bind fun r3=>
   bif (decide ((r3.size+r1.size)≤9223372036854775807)) then
   some ((r3++r1),true)
   else none
 else
  bif (r_0.fKind == 3) then
  (z2 r_0.fThing).bind fun r4=>
  bif (!r4.2) then
   some (⟨#[]⟩,false)
  else
   bif (!((r_0.fKind == r_0.fKind) && (((ByteArray.toList r_0.fText) == (ByteArray.toList ⟨#[]⟩)) && ((r_0.fNum == 0) && (((r_0.fThing.fId == r_0.fThing.fId) && ((r_0.fThing.fKind == r_0.fThing.fKind) && ((r_0.fThing.fHidden == r_0.fThing.fHidden) && ((r_0.fThing.fFixed == r_0.fThing.fFixed) && ((r_0.fThing.fSigns == r_0.fThing.fSigns) && ((r_0.fThing.fWraps == r_0.fThing.fWraps) && (((ByteArray.toList r_0.fThing.fValue) == (ByteArray.toList r_0.fThing.fValue)) && ((r_0.fThing.fNext == r_0.fThing.fNext) && true)))))))) && true))))) then
   some (⟨#[]⟩,false)
   else
   (z3 r_0.fKind).bind fun r5=>
   bif (decide ((r5.size+r4.1.size)≤9223372036854775807)) then
   some ((r5++r4.1),true)
   else none
  else
  bif (r_0.fKind == 4) then
   (z0 r_0.fNum).bind fun r6=>
   (z1 r_0.fNum 1 1000).bind fun r7=>
   bif (!r7) then
   some (⟨#[]⟩,false)
   else
   bif (!((r_0.fKind == r_0.fKind) && (((ByteArray.toList r_0.fText) == (ByteArray.toList ⟨#[]⟩)) && ((r_0.fNum == r_0.fNum) && (((r_0.fThing.fId == 0) && ((r_0.fThing.fKind == 0) && ((r_0.fThing.fHidden == false) && ((r_0.fThing.fFixed == false) && ((r_0.fThing.fSigns == false) && ((r_0.fThing.fWraps == false) && (((ByteArray.toList r_0.fThing.fValue) == (ByteArray.toList ⟨#[]⟩)) && ((r_0.fThing.fNext == 0) && true)))))))) && true))))) then
    some (⟨#[]⟩,false)
   else
    (z3 r_0.fKind).bind fun r8=>
    bif (decide ((r8.size+r6.size)≤9223372036854775807)) then
    some ((r8++r6),true)
    else none
  else
   some (⟨#[]⟩,false)
noncomputable def impl_RecText:Ad:=E_impl_RecText impl_varText impl_in impl_ThingText impl_oneByte
theorem Cm:Tells ctx PP 112 cv27 cv26 (fun a=>impl_RecText a):=fn_ok0 (hc Va (hc QY (hc Du (hc Yl hl_nil)))) Tryz.func112 ((fun z0 z1 z2 z3 a=>by kernel_rfl:∀ z0 z1 z2 z3,EntryIs0 ctx PP 112 [] [(132,Xa z0),(47,JY z1),(90,Eu z2),(133,Qh z3)] cv27 cv26 fun a=>E_impl_RecText z0 z1 z2 z3 a) impl_varText impl_in impl_ThingText impl_oneByte)
noncomputable def Em {γ:Type} (F:Ad):Hd ctx γ:=hdl cv27.dec (fun a=>F a) cv26.enc
abbrev Uh:=Int→Option (ByteArray×Bool)
noncomputable def E_impl_VarText (z0:TT) (z1:KZ) (n_0:Int):Option (ByteArray×Bool):=
 (z0 n_0 0 1000000000).bind fun r0=>
 bif (!r0) then
 some (⟨#[]⟩,false)
 else
 (z1 n_0).bind fun r1=>
 some (r1,true)
noncomputable def impl_VarText:Uh:=E_impl_VarText impl_in impl_varText
theorem D6:Tells ctx PP 188 cv7 cv26 (fun a=>impl_VarText a):=fn_ok0 (hc QY (hc Va hl_nil)) Tryz.func188 ((fun z0 z1 a=>by kernel_rfl:∀ z0 z1,EntryIs0 ctx PP 188 [] [(47,JY z0),(132,Xa z1)] cv7 cv26 fun a=>E_impl_VarText z0 z1 a) impl_in impl_varText)
noncomputable def Gu {γ:Type} (F:Uh):Hd ctx γ:=hdl cv7.dec (fun a=>F a) cv26.enc
abbrev Gm:=ByteArray→Int→Option ByteArray
inductive Bd where
 | c0 (x_1:Int) (v_10:Int) (v_11:Int) (out_5:(List Int))
noncomputable def Hu:Bd→LI
 | .c0 x_1 v_10 v_11 out_5=>(tdo Tryz.f218 232,[(1,[.one (.int .u8 x_1)]),(5,[.one (.own 368)]),(10,[.one (.int .i64 v_10)]),(11,[.one (.int .i64 v_11)])],[(368,.sl 5 out_5)])
noncomputable def E_impl_xored (k:Bd→Option ByteArray) (s_0:ByteArray) (x_1:Int):Option ByteArray:=
 bif (decide (s_0.size≤9223372036854775807)) then
 k (.c0 x_1 ((bytesOf s_0).length:Int) 0 (bytesOf s_0))
 else none
noncomputable def B_impl_xored (k:Bd→Option ByteArray):Bd→Option ByteArray
 | .c0 x_1 v_10 v_11 out_5=>
 bif (decide (v_11<v_10)) then
  bif ((decide (0≤v_11)) && (decide (v_11<(out_5.length:Int)))) then
  bif ((decide (0≤v_11)) && (decide (v_11<(out_5.length:Int)))) then
  k (.c0 x_1 v_10 (w64 (v_11+1)) (out_5.set v_11.toNat (w8 (((BitVec.toNat ((BitVec.ofInt (IntKind.bits IntKind.u8) (out_5.getD v_11.toNat 0)) ^^^ (BitVec.ofInt (IntKind.bits IntKind.u8) x_1))):Nat):Int))))
  else none
  else none
 else
  some (ofBytes out_5)
noncomputable def L_impl_xored:Nat→Bd→Option ByteArray
 | 0,_=>none
 | m+1,s=>B_impl_xored (L_impl_xored m) s
noncomputable def impl_xored:Gm:=E_impl_xored (L_impl_xored gas)
theorem F6:Tells ctx PP 218 cv28 cv9 (fun a=>impl_xored a.1 a.2):=
 have b:CutIs ctx PP 218 Tryz.f218 [] [] cv9 Hu (B_impl_xored):=fun _ s=>by cases s <;> kernel_rfl
 have e:EntryIs ctx PP 218 [] [] cv28 cv9 Hu (fun k a=>E_impl_xored k a.1 a.2):=fun _ a=>by kernel_rfl
 fn_ok hl_nil Tryz.func218 (fun s s' h=>by cases s;cases s';cases h;rfl) (fun _=>rfl) (fun _ _=>rfl) b e gas
noncomputable def G6 {γ:Type} (F:Gm):Hd ctx γ:=hdl cv28.dec (fun a=>F a.1 a.2) cv9.enc
abbrev Ed:=ByteArray→ByteArray→Option ByteArray
noncomputable def E_impl_MacOf (z0:AZ) (z1:Lc) (z2:Gm) (key_0:ByteArray) (s_1:ByteArray):Option ByteArray:=
 bif (decide ((key_0.size:Int) > 64)) then
 (z0 key_0).bind fun r0=>
 (z1 (w64 (64 - (r0.size:Int)))).bind fun r1=>
 bif (decide ((r0.size+r1.size)≤9223372036854775807)) then
 (z2 (r0++r1) 92).bind fun r2=>
 (z2 (r0++r1) 54).bind fun r3=>
 bif (decide ((r3.size+s_1.size)≤9223372036854775807)) then
 (z0 (r3++s_1)).bind fun r4=>
 bif (decide ((r2.size+r4.size)≤9223372036854775807)) then
 (z0 (r2++r4)).bind fun r5=>
 some r5
 else none
 else none
 else none
 else
 (z1 (w64 (64 - (key_0.size:Int)))).bind fun r6=>
 bif (decide ((key_0.size+r6.size)≤9223372036854775807)) then
 (z2 (key_0++r6) 92).bind fun r7=>
 (z2 (key_0++r6) 54).bind fun r8=>
 bif (decide ((r8.size+s_1.size)≤9223372036854775807)) then
 (z0 (r8++s_1)).bind fun r9=>
 bif (decide ((r7.size+r9.size)≤9223372036854775807)) then
 (z0 (r7++r9)).bind fun r10=>
 some r10
 else none
 else none
 else none
noncomputable def impl_MacOf:Ed:=E_impl_MacOf impl_DigestOf impl_zeros impl_xored
theorem Iu:Tells ctx PP 189 cv29 cv9 (fun a=>impl_MacOf a.1 a.2):=fn_ok0 (hc UZ (hc Ol (hc F6 hl_nil))) Tryz.func189 ((fun z0 z1 z2 a=>by kernel_rfl:∀ z0 z1 z2,EntryIs0 ctx PP 189 [] [(25,JZ z0),(68,Ql z1),(218,G6 z2)] cv29 cv9 fun a=>E_impl_MacOf z0 z1 z2 a.1 a.2) impl_DigestOf impl_zeros impl_xored)
noncomputable def Jm {γ:Type} (F:Ed):Hd ctx γ:=hdl cv29.dec (fun a=>F a.1 a.2) cv9.enc
abbrev Vh:=ByteArray→Int→Int→Option (ByteArray×Bool)
inductive Jd where
 | c0 (key_0:ByteArray) (n_2:Int) (v_8:ByteArray) (out_10:ByteArray) (i_11:Int)
noncomputable def Ju:Jd→LI
 | .c0 key_0 n_2 v_8 out_10 i_11=>(tdo Tryz.f151 2000,[(0,[.one (.str key_0)]),(2,[.one (.int .i64 n_2)]),(8,[.one (.str v_8)]),(10,[.one (.str out_10)]),(11,[.one (.int .i64 i_11)])],[])
noncomputable def E_impl_Mask (z0:Uh) (z1:TT) (z2:Ya) (z3:Ed) (k:Jd→Option (ByteArray×Bool)) (key_0:ByteArray) (num_1:Int) (n_2:Int):Option (ByteArray×Bool):=
 (z0 num_1).bind fun r0=>
 bif (!r0.2) then
 some (⟨#[]⟩,false)
 else
 (z1 n_2 0 8000).bind fun r1=>
 bif (!r1) then
  some (⟨#[]⟩,false)
 else
  k (.c0 key_0 n_2 r0.1 ⟨#[]⟩ 0)
noncomputable def B_impl_Mask (z0:Uh) (z1:TT) (z2:Ya) (z3:Ed) (k:Jd→Option (ByteArray×Bool)):Jd→Option (ByteArray×Bool)
 | .c0 key_0 n_2 v_8 out_10 i_11=>
 bif (decide ((out_10.size:Int)<n_2)) then
  bif (decide (((⟨#[109]⟩:ByteArray).size+v_8.size)≤9223372036854775807)) then
  (z2 i_11).bind fun r0=>
  bif (decide ((((⟨#[109]⟩:ByteArray)++v_8).size+r0.size)≤9223372036854775807)) then
  (z3 key_0 (((⟨#[109]⟩:ByteArray)++v_8)++r0)).bind fun r1=>
  bif (decide ((out_10.size+r1.size)≤9223372036854775807)) then
  k (.c0 key_0 n_2 v_8 (out_10++r1) (w64 (i_11+1)))
  else none
  else none
  else none
 else
  bif ((decide (0≤n_2)) && (decide (n_2≤(out_10.size:Int)))) then
  some ((out_10.extract 0 n_2.toNat),true)
  else none
noncomputable def L_impl_Mask:Nat→Jd→Option (ByteArray×Bool)
 | 0,_=>none
 | m+1,s=>B_impl_Mask impl_VarText impl_in impl_oneByte impl_MacOf (L_impl_Mask m) s
noncomputable def impl_Mask:Vh:=E_impl_Mask impl_VarText impl_in impl_oneByte impl_MacOf (L_impl_Mask gas)
theorem Ku:Tells ctx PP 151 cv30 cv26 (fun a=>impl_Mask a.1 a.2.1 a.2.2):=
 have b:∀ z0 z1 z2 z3,CutIs ctx PP 151 Tryz.f151 [] [(188,Gu z0),(47,JY z1),(133,Qh z2),(189,Jm z3)] cv26 Ju (B_impl_Mask z0 z1 z2 z3):=fun z0 z1 z2 z3 _ s=>by cases s <;> kernel_rfl
 have e:∀ z0 z1 z2 z3,EntryIs ctx PP 151 [] [(188,Gu z0),(47,JY z1),(133,Qh z2),(189,Jm z3)] cv30 cv26 Ju (fun k a=>E_impl_Mask z0 z1 z2 z3 k a.1 a.2.1 a.2.2):=fun z0 z1 z2 z3 _ a=>by kernel_rfl
 fn_ok (hc D6 (hc QY (hc Yl (hc Iu hl_nil)))) Tryz.func151 (fun s s' h=>by cases s;cases s';cases h;rfl) (fun _=>rfl) (fun _ _=>rfl) (b impl_VarText impl_in impl_oneByte impl_MacOf) (e impl_VarText impl_in impl_oneByte impl_MacOf) gas
noncomputable def Lu {γ:Type} (F:Vh):Hd ctx γ:=hdl cv30.dec (fun a=>F a.1 a.2.1 a.2.2) cv26.enc
abbrev Wh:=ByteArray→ByteArray→Option ByteArray
inductive Ld where
 | c0 (b_1:ByteArray) (v_10:Int) (v_11:Int) (out_5:(List Int))
noncomputable def Nu:Ld→LI
 | .c0 b_1 v_10 v_11 out_5=>(tdo Tryz.f152 232,[(1,[.one (.str b_1)]),(5,[.one (.own 368)]),(10,[.one (.int .i64 v_10)]),(11,[.one (.int .i64 v_11)])],[(368,.sl 5 out_5)])
noncomputable def E_impl_both (k:Ld→Option ByteArray) (a_0:ByteArray) (b_1:ByteArray):Option ByteArray:=
 bif (decide (a_0.size≤9223372036854775807)) then
 k (.c0 b_1 ((bytesOf a_0).length:Int) 0 (bytesOf a_0))
 else none
noncomputable def B_impl_both (k:Ld→Option ByteArray):Ld→Option ByteArray
 | .c0 b_1 v_10 v_11 out_5=>
 bif (decide (v_11<v_10)) then
  bif ((decide (0≤v_11)) && (decide (v_11<(out_5.length:Int)))) then
  bif ((decide (0≤v_11)) && (decide (v_11<(b_1.size:Int)))) then
  bif ((decide (0≤v_11)) && (decide (v_11<(out_5.length:Int)))) then
  k (.c0 b_1 v_10 (w64 (v_11+1)) (out_5.set v_11.toNat (w8 (((BitVec.toNat ((BitVec.ofInt (IntKind.bits IntKind.u8) (out_5.getD v_11.toNat 0)) ^^^ (BitVec.ofInt (IntKind.bits IntKind.u8) (bt b_1 v_11)))):Nat):Int))))
  else none
  else none
  else none
 else
  some (ofBytes out_5)
noncomputable def L_impl_both:Nat→Ld→Option ByteArray
 | 0,_=>none
 | m+1,s=>B_impl_both (L_impl_both m) s
noncomputable def impl_both:Wh:=E_impl_both (L_impl_both gas)
theorem Ou:Tells ctx PP 152 cv29 cv9 (fun a=>impl_both a.1 a.2):=
 have b:CutIs ctx PP 152 Tryz.f152 [] [] cv9 Nu (B_impl_both):=fun _ s=>by cases s <;> kernel_rfl
 have e:EntryIs ctx PP 152 [] [] cv29 cv9 Nu (fun k a=>E_impl_both k a.1 a.2):=fun _ a=>by kernel_rfl
 fn_ok hl_nil Tryz.func152 (fun s s' h=>by cases s;cases s';cases h;rfl) (fun _=>rfl) (fun _ _=>rfl) b e gas
noncomputable def Qu {γ:Type} (F:Wh):Hd ctx γ:=hdl cv29.dec (fun a=>F a.1 a.2) cv9.enc
abbrev Xh:=ByteArray→Int→ByteArray→Option ByteArray
noncomputable def E_impl_tag (z0:KZ) (z1:Ed) (key_0:ByteArray) (num_1:Int) (s_2:ByteArray):Option ByteArray:=
 (z0 num_1).bind fun r0=>
 bif (decide (((⟨#[116]⟩:ByteArray).size+r0.size)≤9223372036854775807)) then
 bif (decide ((((⟨#[116]⟩:ByteArray)++r0).size+s_2.size)≤9223372036854775807)) then
 (z1 key_0 (((⟨#[116]⟩:ByteArray)++r0)++s_2)).bind fun r1=>
 bif ((decide ((0:Int)≤(16:Int))) && (decide (16≤(r1.size:Int)))) then
 some (r1.extract 0 (16:Int).toNat)
 else none
 else none
 else none
noncomputable def impl_tag:Xh:=E_impl_tag impl_varText impl_MacOf
theorem Ru:Tells ctx PP 153 cv31 cv9 (fun a=>impl_tag a.1 a.2.1 a.2.2):=fn_ok0 (hc Va (hc Iu hl_nil)) Tryz.func153 ((fun z0 z1 a=>by kernel_rfl:∀ z0 z1,EntryIs0 ctx PP 153 [] [(132,Xa z0),(189,Jm z1)] cv31 cv9 fun a=>E_impl_tag z0 z1 a.1 a.2.1 a.2.2) impl_varText impl_MacOf)
noncomputable def Uu {γ:Type} (F:Xh):Hd ctx γ:=hdl cv31.dec (fun a=>F a.1 a.2.1 a.2.2) cv9.enc
abbrev Lm:=ByteArray→Int→ByteArray→Option (ByteArray×Bool)
noncomputable def E_impl_LockText (z0:Vh) (z1:Wh) (z2:Xh) (key_0:ByteArray) (num_1:Int) (s_2:ByteArray):Option (ByteArray×Bool):=
 (z0 key_0 num_1 (s_2.size:Int)).bind fun r0=>
 bif (!r0.2) then
 some (⟨#[]⟩,false)
 else
 (z1 s_2 r0.1).bind fun r1=>
 (z2 key_0 num_1 r1).bind fun r2=>
 bif (decide ((r1.size+r2.size)≤9223372036854775807)) then
 some ((r1++r2),true)
 else none
noncomputable def impl_LockText:Lm:=E_impl_LockText impl_Mask impl_both impl_tag
theorem H6:Tells ctx PP 113 cv31 cv26 (fun a=>impl_LockText a.1 a.2.1 a.2.2):=fn_ok0 (hc Ku (hc Ou (hc Ru hl_nil))) Tryz.func113 ((fun z0 z1 z2 a=>by kernel_rfl:∀ z0 z1 z2,EntryIs0 ctx PP 113 [] [(151,Lu z0),(152,Qu z1),(153,Uu z2)] cv31 cv26 fun a=>E_impl_LockText z0 z1 z2 a.1 a.2.1 a.2.2) impl_Mask impl_both impl_tag)
noncomputable def J6 {γ:Type} (F:Lm):Hd ctx γ:=hdl cv31.dec (fun a=>F a.1 a.2.1 a.2.2) cv26.enc
abbrev Om:=Int→ByteArray→Option Int
inductive Md where
 | c0 (sum_0:Int) (text_1:ByteArray) (i_5:Int)
 | c1 (sum_0:Int) (text_1:ByteArray) (i_5:Int) (v_19:Int)
noncomputable def Vu:Md→LI
 | .c0 sum_0 text_1 i_5=>(tdo Tryz.f190 208,[(0,[.one (.int .u32 sum_0)]),(1,[.one (.str text_1)]),(5,[.one (.int .i64 i_5)])],[])
 | .c1 sum_0 text_1 i_5 v_19=>(tdo Tryz.f190 13464,[(0,[.one (.int .u32 sum_0)]),(1,[.one (.str text_1)]),(5,[.one (.int .i64 i_5)]),(19,[.one (.int .i64 v_19)])],[])
noncomputable def E_impl_SumMore (k:Md→Option Int) (sum_0:Int) (text_1:ByteArray):Option Int:=
 k (.c0 sum_0 text_1 0)
noncomputable def B_impl_SumMore (k:Md→Option Int):Md→Option Int
 | .c0 sum_0 text_1 i_5=>
 bif (decide (i_5<(text_1.size:Int))) then
  bif ((decide (0≤i_5)) && (decide (i_5<(text_1.size:Int)))) then
  k (.c1 (w32 (((BitVec.toNat ((BitVec.ofInt (IntKind.bits IntKind.u32) sum_0) ^^^ (BitVec.ofInt (IntKind.bits IntKind.u32) (w32 (bt text_1 i_5))))):Nat):Int)) text_1 i_5 0)
  else none
 else
  some sum_0
 | .c1 sum_0 text_1 i_5 v_19=>
 bif (decide (v_19<8)) then
  bif ((w32 (((BitVec.toNat ((BitVec.ofInt (IntKind.bits IntKind.u32) sum_0) &&& (BitVec.ofInt (IntKind.bits IntKind.u32) 1))):Nat):Int)) == 1) then
  k (.c1 (w32 (((BitVec.toNat ((BitVec.ofInt (IntKind.bits IntKind.u32) (Int.fdiv sum_0 (2 ^ (Min.min (1:Int).toNat (IntKind.bits IntKind.u32))))) ^^^ (BitVec.ofInt (IntKind.bits IntKind.u32) 3558460437))):Nat):Int)) text_1 i_5 (w64 (v_19+1)))
  else
  k (.c1 (Int.fdiv sum_0 (2 ^ (Min.min (1:Int).toNat (IntKind.bits IntKind.u32)))) text_1 i_5 (w64 (v_19+1)))
 else
  k (.c0 sum_0 text_1 (w64 (i_5+1)))
noncomputable def L_impl_SumMore:Nat→Md→Option Int
 | 0,_=>none
 | m+1,s=>B_impl_SumMore (L_impl_SumMore m) s
noncomputable def impl_SumMore:Om:=E_impl_SumMore (L_impl_SumMore gas)
theorem O6:Tells ctx PP 190 cv32 cv16 (fun a=>impl_SumMore a.1 a.2):=
 have b:CutIs ctx PP 190 Tryz.f190 [] [] cv16 Vu (B_impl_SumMore):=fun _ s=>by cases s <;> kernel_rfl
 have e:EntryIs ctx PP 190 [] [] cv32 cv16 Vu (fun k a=>E_impl_SumMore k a.1 a.2):=fun _ a=>by kernel_rfl
 fn_ok hl_nil Tryz.func190 (fun s s' h=>by cases s <;> cases s' <;> first | (cases h;done) | (cases h;rfl) | exact (rg_ne h (by kernel_rfl)).elim) (fun _=>rfl) (fun _ _=>rfl) b e gas
noncomputable def P6 {γ:Type} (F:Om):Hd ctx γ:=hdl cv32.dec (fun a=>F a.1 a.2) cv16.enc
abbrev Qd:=ByteArray→Option Int
noncomputable def E_impl_SumOf (z0:Om) (text_0:ByteArray):Option Int:=
 (z0 4294967295 text_0).bind fun r0=>
 some r0
noncomputable def impl_SumOf:Qd:=E_impl_SumOf impl_SumMore
theorem Wu:Tells ctx PP 154 cv9 cv16 (fun a=>impl_SumOf a):=fn_ok0 (hc O6 hl_nil) Tryz.func154 ((fun z0 a=>by kernel_rfl:∀ z0,EntryIs0 ctx PP 154 [] [(190,P6 z0)] cv9 cv16 fun a=>E_impl_SumOf z0 a) impl_SumMore)
noncomputable def Pm {γ:Type} (F:Qd):Hd ctx γ:=hdl cv9.dec (fun a=>F a) cv16.enc
abbrev Td:=ByteArray→Option (ByteArray×Bool)
noncomputable def E_impl_Frame (z0:TT) (z1:KZ) (z2:Qd) (z3:IZ) (text_0:ByteArray):Option (ByteArray×Bool):=
 (z0 (text_0.size:Int) 1 9000).bind fun r0=>
 bif (!r0) then
 some (⟨#[]⟩,false)
 else
 (z1 (text_0.size:Int)).bind fun r1=>
 (z2 text_0).bind fun r2=>
 (z3 r2).bind fun r3=>
 bif (decide ((r1.size+r3.size)≤9223372036854775807)) then
 bif (decide (((r1++r3).size+text_0.size)≤9223372036854775807)) then
 some (((r1++r3)++text_0),true)
 else none
 else none
noncomputable def impl_Frame:Td:=E_impl_Frame impl_in impl_varText impl_SumOf impl_fourBytes
theorem Xu:Tells ctx PP 114 cv9 cv26 (fun a=>impl_Frame a):=fn_ok0 (hc QY (hc Va (hc Wu (hc Jh hl_nil)))) Tryz.func114 ((fun z0 z1 z2 z3 a=>by kernel_rfl:∀ z0 z1 z2 z3,EntryIs0 ctx PP 114 [] [(47,JY z0),(132,Xa z1),(154,Pm z2),(107,Qa z3)] cv9 cv26 fun a=>E_impl_Frame z0 z1 z2 z3 a) impl_in impl_varText impl_SumOf impl_fourBytes)
noncomputable def Qm {γ:Type} (F:Td):Hd ctx γ:=hdl cv9.dec (fun a=>F a) cv26.enc
abbrev Yh:=ByteArray→Int→SRec→Option ((List SAct)×Bool)
noncomputable def E_impl_BookActs (z0:Ad) (z1:TT) (z2:Lm) (z3:Td) (key_0:ByteArray) (count_1:Int) (r_2:SRec):Option ((List SAct)×Bool):=
 (z0 r_2).bind fun r0=>
 bif (!r0.2) then
 some ([],false)
 else
 (z1 count_1 0 10000).bind fun r1=>
 bif (!r1) then
  some ([],false)
 else
  (z2 key_0 (w64 (count_1+1)) r0.1).bind fun r2=>
  (z3 r2.1).bind fun r3=>
  bif (!r2.2) then
  some ([],false)
  else
  bif (!r3.2) then
   some ([],false)
  else
   some ([⟨1,⟨#[98,111,111,107]⟩,r3.1,⟨#[]⟩⟩,⟨2,⟨#[98,111,111,107]⟩,⟨#[]⟩,⟨#[]⟩⟩],true)
noncomputable def impl_BookActs:Yh:=E_impl_BookActs impl_RecText impl_in impl_LockText impl_Frame
theorem Yu:Tells ctx PP 69 cv33 cv34 (fun a=>impl_BookActs a.1 a.2.1 a.2.2):=fn_ok0 (hc Cm (hc QY (hc H6 (hc Xu hl_nil)))) Tryz.func69 ((fun z0 z1 z2 z3 a=>by kernel_rfl:∀ z0 z1 z2 z3,EntryIs0 ctx PP 69 [] [(112,Em z0),(47,JY z1),(113,J6 z2),(114,Qm z3)] cv33 cv34 fun a=>E_impl_BookActs z0 z1 z2 z3 a.1 a.2.1 a.2.2) impl_RecText impl_in impl_LockText impl_Frame)
noncomputable def Zu {γ:Type} (F:Yh):Hd ctx γ:=hdl cv33.dec (fun a=>F a.1 a.2.1 a.2.2) cv34.enc
abbrev DZ:=SDisk→Option SDisk
noncomputable def E_impl_copyDisk (d_0:SDisk):Option SDisk:=
 bif (decide ((d_0.fFiles.length*40)≤140737488355328)) then
 some d_0
 else none
noncomputable def impl_copyDisk:DZ:=E_impl_copyDisk
theorem Ud:Tells ctx PP 52 cv35 cv36 (fun a=>impl_copyDisk a):=fn_ok0 hl_nil Tryz.func52 (fun a=>by kernel_rfl:EntryIs0 ctx PP 52 [] [] cv35 cv36 fun a=>E_impl_copyDisk a)
noncomputable def WZ {γ:Type} (F:DZ):Hd ctx γ:=hdl cv35.dec (fun a=>F a) cv36.enc
abbrev Za:=SDisk→ByteArray→Option Int
inductive Vd where
 | c0 (name_1:ByteArray) (v_8:(List SFile)) (v_9:Int) (v_10:Int)
noncomputable def Bv:Vd→LI
 | .c0 name_1 v_8 v_9 v_10=>(tdo Tryz.f100 104,[(1,[.one (.str name_1)]),(8,[.one (.rsl 148 v_8)]),(9,[.one (.int .i64 v_9)]),(10,[.one (.int .i64 v_10)])],[])
noncomputable def E_impl_fileAt (k:Vd→Option Int) (d_0:SDisk) (name_1:ByteArray):Option Int:=
 k (.c0 name_1 d_0.fFiles (d_0.fFiles.length:Int) 0)
noncomputable def B_impl_fileAt (k:Vd→Option Int):Vd→Option Int
 | .c0 name_1 v_8 v_9 v_10=>
 bif (decide (v_10<v_9)) then
  bif ((decide (0≤v_10)) && (decide (v_10<(v_8.length:Int)))) then
  bif ((ByteArray.toList (v_8.getD v_10.toNat (⟨⟨#[]⟩,⟨#[]⟩,0⟩:SFile)).fName) == (ByteArray.toList name_1)) then
  some v_10
  else
  k (.c0 name_1 v_8 v_9 (w64 (v_10+1)))
  else none
 else
  some (-(1:Int))
noncomputable def L_impl_fileAt:Nat→Vd→Option Int
 | 0,_=>none
 | m+1,s=>B_impl_fileAt (L_impl_fileAt m) s
noncomputable def impl_fileAt:Za:=E_impl_fileAt (L_impl_fileAt gas)
theorem Zh:Tells ctx PP 100 cv37 cv7 (fun a=>impl_fileAt a.1 a.2):=
 have b:CutIs ctx PP 100 Tryz.f100 [] [] cv7 Bv (B_impl_fileAt):=fun _ s=>by cases s <;> kernel_rfl
 have e:EntryIs ctx PP 100 [] [] cv37 cv7 Bv (fun k a=>E_impl_fileAt k a.1 a.2):=fun _ a=>by kernel_rfl
 fn_ok hl_nil Tryz.func100 (fun s s' h=>by cases s;cases s';cases h;rfl) (fun _=>rfl) (fun _ _=>rfl) b e gas
noncomputable def Ai {γ:Type} (F:Za):Hd ctx γ:=hdl cv37.dec (fun a=>F a.1 a.2) cv7.enc
abbrev LZ:=SDisk→Option Bool
inductive Xd where
 | c0 (v_6:(List SFile)) (v_7:Int) (v_8:Int) (d_1:SDisk)
noncomputable def Dv:Xd→LI
 | .c0 v_6 v_7 v_8 d_1=>(tdo Tryz.f46 104,[(1,[.one (.ptr 64 0)]),(6,[.one (.rsl 148 v_6)]),(7,[.one (.int .i64 v_7)]),(8,[.one (.int .i64 v_8)])],[(64,.var [.rsl 148 d_1.fFiles])])
noncomputable def E_impl_DiskOk (z0:TT) (k:Xd→Option Bool) (d_0:SDisk):Option Bool:=
 k (.c0 d_0.fFiles (d_0.fFiles.length:Int) 0 d_0)
noncomputable def B_impl_DiskOk (z0:TT) (k:Xd→Option Bool):Xd→Option Bool
 | .c0 v_6 v_7 v_8 d_1=>
 bif (decide (v_8<v_7)) then
  bif ((decide (0≤v_8)) && (decide (v_8<(v_6.length:Int)))) then
  (z0 ((v_6.getD v_8.toNat (⟨⟨#[]⟩,⟨#[]⟩,0⟩:SFile)).fName.size:Int) 1 8).bind fun r0=>
  bif (!r0) then
  some false
  else
  bif (decide (((v_6.getD v_8.toNat (⟨⟨#[]⟩,⟨#[]⟩,0⟩:SFile)).fText.size:Int) > 20000)) then
   some false
  else
   (z0 (v_6.getD v_8.toNat (⟨⟨#[]⟩,⟨#[]⟩,0⟩:SFile)).fKept 0 ((v_6.getD v_8.toNat (⟨⟨#[]⟩,⟨#[]⟩,0⟩:SFile)).fText.size:Int)).bind fun r1=>
   bif (!r1) then
   some false
   else
   bif (decide (v_8 > 0)) then
    bif ((decide (0≤(w64 (v_8 - 1)))) && (decide ((w64 (v_8 - 1))<(d_1.fFiles.length:Int)))) then
    bif (!(Op.bytesLess (ByteArray.toList (d_1.fFiles.getD (w64 (v_8 - 1)).toNat (⟨⟨#[]⟩,⟨#[]⟩,0⟩:SFile)).fName) (ByteArray.toList (v_6.getD v_8.toNat (⟨⟨#[]⟩,⟨#[]⟩,0⟩:SFile)).fName))) then
    some false
    else
    k (.c0 v_6 v_7 (w64 (v_8+1)) d_1)
    else none
   else
    k (.c0 v_6 v_7 (w64 (v_8+1)) d_1)
  else none
 else
  some (decide ((d_1.fFiles.length:Int)≤30))
noncomputable def L_impl_DiskOk:Nat→Xd→Option Bool
 | 0,_=>none
 | m+1,s=>B_impl_DiskOk impl_in (L_impl_DiskOk m) s
noncomputable def impl_DiskOk:LZ:=E_impl_DiskOk impl_in (L_impl_DiskOk gas)
theorem Ci:Tells ctx PP 46 cv35 cv1 (fun a=>impl_DiskOk a):=
 have b:∀ z0,CutIs ctx PP 46 Tryz.f46 [] [(47,JY z0)] cv1 Dv (B_impl_DiskOk z0):=fun z0 _ s=>by cases s <;> kernel_rfl
 have e:∀ z0,EntryIs ctx PP 46 [] [(47,JY z0)] cv35 cv1 Dv (fun k a=>E_impl_DiskOk z0 k a):=fun z0 _ a=>by kernel_rfl
 fn_ok (hc QY hl_nil) Tryz.func46 (fun s s' h=>by cases s;cases s';(repeat cases ‹SDisk›);cases h;rfl) (fun _=>rfl) (fun _ _=>rfl) (b impl_in) (e impl_in) gas
noncomputable def Cb {γ:Type} (F:LZ):Hd ctx γ:=hdl cv35.dec (fun a=>F a) cv1.enc
abbrev Yd:=SDisk→ByteArray→Option SDisk
noncomputable def E_impl_Disk_dropFile (z0:Za) (d_0:SDisk) (name_1:ByteArray):Option SDisk:=
 (z0 d_0 name_1).bind fun r0=>
 bif (decide (r0≥0)) then
 bif ((decide (0≤r0)) && (decide (r0≤(d_0.fFiles.length:Int)))) then
 bif (decide ((((d_0.fFiles.drop 0).take (r0.toNat - 0)).length*40)≤140737488355328)) then
 bif ((decide (0≤(w64 (r0+1)))) && (decide ((w64 (r0+1))≤(d_0.fFiles.length:Int)))) then
 bif (decide (((((d_0.fFiles.drop 0).take (r0.toNat - 0)).length+((d_0.fFiles.drop (w64 (r0+1)).toNat).take (d_0.fFiles.length - (w64 (r0+1)).toNat)).length)*40)≤140737488355328)) then
 some ⟨(((d_0.fFiles.drop 0).take (r0.toNat - 0))++((d_0.fFiles.drop (w64 (r0+1)).toNat).take (d_0.fFiles.length - (w64 (r0+1)).toNat)))⟩
 else none
 else none
 else none
 else none
 else
 some d_0
noncomputable def impl_Disk_dropFile:Yd:=E_impl_Disk_dropFile impl_fileAt
theorem Fv:Tells ctx PP 156 cv38 cv36 (fun a=>impl_Disk_dropFile a.1 a.2):=fn_ok0 (hc Zh hl_nil) Tryz.func156 ((fun z0 a=>by kernel_rfl:∀ z0,EntryIs0 ctx PP 156 [0] [(100,Ai z0)] cv38 cv36 fun a=>E_impl_Disk_dropFile z0 a.1 a.2) impl_fileAt)
noncomputable def Sm {γ:Type} (F:Yd):Hd ctx γ:=hdl cv38.dec (fun a=>F a.1 a.2) cv36.enc
abbrev Um:=SDisk→SFile→Option SDisk
inductive Zd where
 | c0 (k_4:Int) (f_3:SFile) (d_0r0:(List SFile))
noncomputable def Gv:Zd→LI
 | .c0 k_4 f_3 d_0r0=>(tdo Tryz.f155 480,[(0,[.one (.ptr 0 0)]),(3,[.one (.ptr 192 0)]),(4,[.one (.int .i64 k_4)])],[(0,.var [.own 1000000]),(192,.var [.str f_3.fName,.str f_3.fText,.int .i64 f_3.fKept]),(1000000,.sl 148 d_0r0)])
noncomputable def E_impl_Disk_putFile (z0:Yd) (k:Zd→Option SDisk) (d_0:SDisk) (f_1:SFile):Option SDisk:=
 (z0 d_0 f_1.fName).bind fun r0=>
 k (.c0 0 f_1 r0.fFiles)
noncomputable def B_impl_Disk_putFile (z0:Yd) (k:Zd→Option SDisk):Zd→Option SDisk
 | .c0 k_4 f_3 d_0r0=>
 bif (decide (k_4<(d_0r0.length:Int))) then
  bif ((decide (0≤k_4)) && (decide (k_4<(d_0r0.length:Int)))) then
  bif (Op.bytesLess (ByteArray.toList (d_0r0.getD k_4.toNat (⟨⟨#[]⟩,⟨#[]⟩,0⟩:SFile)).fName) (ByteArray.toList f_3.fName)) then
  k (.c0 (w64 (k_4+1)) f_3 d_0r0)
  else
  bif ((decide (0≤k_4)) && (decide (k_4≤(d_0r0.length:Int)))) then
  bif (decide ((((d_0r0.drop 0).take (k_4.toNat - 0)).length*40)≤140737488355328)) then
  bif (decide (((((d_0r0.drop 0).take (k_4.toNat - 0)).length+1)*40)≤140737488355328)) then
  bif ((decide (0≤k_4)) && (decide (k_4≤(d_0r0.length:Int)))) then
  bif (decide ((((((d_0r0.drop 0).take (k_4.toNat - 0))++[f_3]).length+((d_0r0.drop k_4.toNat).take (d_0r0.length - k_4.toNat)).length)*40)≤140737488355328)) then
  some ⟨((((d_0r0.drop 0).take (k_4.toNat - 0))++[f_3])++((d_0r0.drop k_4.toNat).take (d_0r0.length - k_4.toNat)))⟩
  else none
  else none
  else none
  else none
  else none
  else none
 else
  bif ((decide (0≤k_4)) && (decide (k_4≤(d_0r0.length:Int)))) then
  bif (decide ((((d_0r0.drop 0).take (k_4.toNat - 0)).length*40)≤140737488355328)) then
  bif (decide (((((d_0r0.drop 0).take (k_4.toNat - 0)).length+1)*40)≤140737488355328)) then
  bif ((decide (0≤k_4)) && (decide (k_4≤(d_0r0.length:Int)))) then
  bif (decide ((((((d_0r0.drop 0).take (k_4.toNat - 0))++[f_3]).length+((d_0r0.drop k_4.toNat).take (d_0r0.length - k_4.toNat)).length)*40)≤140737488355328)) then
  some ⟨((((d_0r0.drop 0).take (k_4.toNat - 0))++[f_3])++((d_0r0.drop k_4.toNat).take (d_0r0.length - k_4.toNat)))⟩
  else none
  else none
  else none
  else none
  else none
noncomputable def L_impl_Disk_putFile:Nat→Zd→Option SDisk
 | 0,_=>none
 | m+1,s=>B_impl_Disk_putFile impl_Disk_dropFile (L_impl_Disk_putFile m) s
noncomputable def impl_Disk_putFile:Um:=E_impl_Disk_putFile impl_Disk_dropFile (L_impl_Disk_putFile gas)
theorem U6:Tells ctx PP 155 cv39 cv36 (fun a=>impl_Disk_putFile a.1 a.2):=
 have b:∀ z0,CutIs ctx PP 155 Tryz.f155 [0] [(156,Sm z0)] cv36 Gv (B_impl_Disk_putFile z0):=fun z0 _ s=>by cases s <;> kernel_rfl
 have e:∀ z0,EntryIs ctx PP 155 [0] [(156,Sm z0)] cv39 cv36 Gv (fun k a=>E_impl_Disk_putFile z0 k a.1 a.2):=fun z0 _ a=>by kernel_rfl
 fn_ok (hc Fv hl_nil) Tryz.func155 (fun s s' h=>by cases s;cases s';(repeat cases ‹SFile›);cases h;rfl) (fun _=>rfl) (fun _ _=>rfl) (b impl_Disk_dropFile) (e impl_Disk_dropFile) gas
noncomputable def V6 {γ:Type} (F:Um):Hd ctx γ:=hdl cv39.dec (fun a=>F a.1 a.2) cv36.enc
abbrev Di:=SDisk→SAct→Option (SDisk×Bool)
noncomputable def E_impl_DoAct (z0:Za) (z1:LZ) (z2:DZ) (z3:Um) (z4:Yd) (d_0:SDisk) (a_1:SAct):Option (SDisk×Bool):=
 (z0 d_0 a_1.fName).bind fun r0=>
 (z1 d_0).bind fun r1=>
 bif (!r1) then
 some (⟨[]⟩,false)
 else
 bif (a_1.fKind != 1) then
  bif (decide (r0<0)) then
  some (⟨[]⟩,false)
  else
  bif (!((ByteArray.toList a_1.fText) == (ByteArray.toList ⟨#[]⟩))) then
   some (⟨[]⟩,false)
  else
   bif (a_1.fKind != 3) then
   bif (!((ByteArray.toList a_1.fTo) == (ByteArray.toList ⟨#[]⟩))) then
    some (⟨[]⟩,false)
   else
    (z2 d_0).bind fun r2=>
    bif (decide (r0≥0)) then
    bif ((decide (0≤r0)) && (decide (r0<(d_0.fFiles.length:Int)))) then
    bif (a_1.fKind == 1) then
     bif (decide (((d_0.fFiles.getD r0.toNat (⟨⟨#[]⟩,⟨#[]⟩,0⟩:SFile)).fText.size+a_1.fText.size)≤9223372036854775807)) then
     (z3 r2 ⟨(d_0.fFiles.getD r0.toNat (⟨⟨#[]⟩,⟨#[]⟩,0⟩:SFile)).fName,((d_0.fFiles.getD r0.toNat (⟨⟨#[]⟩,⟨#[]⟩,0⟩:SFile)).fText++a_1.fText),(d_0.fFiles.getD r0.toNat (⟨⟨#[]⟩,⟨#[]⟩,0⟩:SFile)).fKept⟩).bind fun r3=>
     (z1 r3).bind fun r4=>
     bif (!r4) then
     some (⟨[]⟩,false)
     else
     some (r3,true)
     else none
    else
     bif (a_1.fKind == 2) then
     (z3 r2 ⟨(d_0.fFiles.getD r0.toNat (⟨⟨#[]⟩,⟨#[]⟩,0⟩:SFile)).fName,(d_0.fFiles.getD r0.toNat (⟨⟨#[]⟩,⟨#[]⟩,0⟩:SFile)).fText,((d_0.fFiles.getD r0.toNat (⟨⟨#[]⟩,⟨#[]⟩,0⟩:SFile)).fText.size:Int)⟩).bind fun r5=>
     (z1 r5).bind fun r6=>
     bif (!r6) then
      some (⟨[]⟩,false)
     else
      some (r5,true)
     else
     bif (a_1.fKind == 3) then
      bif ((d_0.fFiles.getD r0.toNat (⟨⟨#[]⟩,⟨#[]⟩,0⟩:SFile)).fKept != ((d_0.fFiles.getD r0.toNat (⟨⟨#[]⟩,⟨#[]⟩,0⟩:SFile)).fText.size:Int)) then
      some (⟨[]⟩,false)
      else
      bif ((ByteArray.toList a_1.fTo) == (ByteArray.toList a_1.fName)) then
       some (⟨[]⟩,false)
      else
       (z4 r2 a_1.fName).bind fun r7=>
       (z3 r7 ⟨a_1.fTo,(d_0.fFiles.getD r0.toNat (⟨⟨#[]⟩,⟨#[]⟩,0⟩:SFile)).fText,(d_0.fFiles.getD r0.toNat (⟨⟨#[]⟩,⟨#[]⟩,0⟩:SFile)).fKept⟩).bind fun r8=>
       (z1 r8).bind fun r9=>
       bif (!r9) then
       some (⟨[]⟩,false)
       else
       some (r8,true)
     else
      bif (a_1.fKind == 4) then
      (z4 r2 a_1.fName).bind fun r10=>
      (z1 r10).bind fun r11=>
      bif (!r11) then
       some (⟨[]⟩,false)
      else
       some (r10,true)
      else
      some (⟨[]⟩,false)
    else none
    else
    bif (a_1.fKind == 1) then
     bif (decide (((⟨#[]⟩:ByteArray).size+a_1.fText.size)≤9223372036854775807)) then
     (z3 r2 ⟨a_1.fName,((⟨#[]⟩:ByteArray)++a_1.fText),0⟩).bind fun r12=>
     (z1 r12).bind fun r13=>
     bif (!r13) then
     some (⟨[]⟩,false)
     else
     some (r12,true)
     else none
    else
     bif (a_1.fKind == 2) then
     (z3 r2 ⟨a_1.fName,⟨#[]⟩,((⟨#[]⟩:ByteArray).size:Int)⟩).bind fun r14=>
     (z1 r14).bind fun r15=>
     bif (!r15) then
      some (⟨[]⟩,false)
     else
      some (r14,true)
     else
     bif (a_1.fKind == 3) then
      bif ((ByteArray.toList a_1.fTo) == (ByteArray.toList a_1.fName)) then
      some (⟨[]⟩,false)
      else
      (z4 r2 a_1.fName).bind fun r16=>
      (z3 r16 ⟨a_1.fTo,⟨#[]⟩,0⟩).bind fun r17=>
      (z1 r17).bind fun r18=>
      bif (!r18) then
       some (⟨[]⟩,false)
      else
       some (r17,true)
     else
      bif (a_1.fKind == 4) then
      (z4 r2 a_1.fName).bind fun r19=>
      (z1 r19).bind fun r20=>
      bif (!r20) then
       some (⟨[]⟩,false)
      else
       some (r19,true)
      else
      some (⟨[]⟩,false)
   else
   (z2 d_0).bind fun r21=>
   bif (decide (r0≥0)) then
    bif ((decide (0≤r0)) && (decide (r0<(d_0.fFiles.length:Int)))) then
    bif (a_1.fKind == 1) then
    bif (decide (((d_0.fFiles.getD r0.toNat (⟨⟨#[]⟩,⟨#[]⟩,0⟩:SFile)).fText.size+a_1.fText.size)≤9223372036854775807)) then
    (z3 r21 ⟨(d_0.fFiles.getD r0.toNat (⟨⟨#[]⟩,⟨#[]⟩,0⟩:SFile)).fName,((d_0.fFiles.getD r0.toNat (⟨⟨#[]⟩,⟨#[]⟩,0⟩:SFile)).fText++a_1.fText),(d_0.fFiles.getD r0.toNat (⟨⟨#[]⟩,⟨#[]⟩,0⟩:SFile)).fKept⟩).bind fun r22=>
    (z1 r22).bind fun r23=>
    bif (!r23) then
     some (⟨[]⟩,false)
    else
     some (r22,true)
    else none
    else
    bif (a_1.fKind == 2) then
     (z3 r21 ⟨(d_0.fFiles.getD r0.toNat (⟨⟨#[]⟩,⟨#[]⟩,0⟩:SFile)).fName,(d_0.fFiles.getD r0.toNat (⟨⟨#[]⟩,⟨#[]⟩,0⟩:SFile)).fText,((d_0.fFiles.getD r0.toNat (⟨⟨#[]⟩,⟨#[]⟩,0⟩:SFile)).fText.size:Int)⟩).bind fun r24=>
     (z1 r24).bind fun r25=>
     bif (!r25) then
     some (⟨[]⟩,false)
     else
     some (r24,true)
    else
     bif (a_1.fKind == 3) then
     bif ((d_0.fFiles.getD r0.toNat (⟨⟨#[]⟩,⟨#[]⟩,0⟩:SFile)).fKept != ((d_0.fFiles.getD r0.toNat (⟨⟨#[]⟩,⟨#[]⟩,0⟩:SFile)).fText.size:Int)) then
      some (⟨[]⟩,false)
     else
      bif ((ByteArray.toList a_1.fTo) == (ByteArray.toList a_1.fName)) then
      some (⟨[]⟩,false)
      else
      (z4 r21 a_1.fName).bind fun r26=>
      (z3 r26 ⟨a_1.fTo,(d_0.fFiles.getD r0.toNat (⟨⟨#[]⟩,⟨#[]⟩,0⟩:SFile)).fText,(d_0.fFiles.getD r0.toNat (⟨⟨#[]⟩,⟨#[]⟩,0⟩:SFile)).fKept⟩).bind fun r27=>
      (z1 r27).bind fun r28=>
      bif (!r28) then
       some (⟨[]⟩,false)
      else
       some (r27,true)
     else
     bif (a_1.fKind == 4) then
      (z4 r21 a_1.fName).bind fun r29=>
      (z1 r29).bind fun r30=>
      bif (!r30) then
      some (⟨[]⟩,false)
      else
      some (r29,true)
     else
      some (⟨[]⟩,false)
    else none
   else
    bif (a_1.fKind == 1) then
    bif (decide (((⟨#[]⟩:ByteArray).size+a_1.fText.size)≤9223372036854775807)) then
    (z3 r21 ⟨a_1.fName,((⟨#[]⟩:ByteArray)++a_1.fText),0⟩).bind fun r31=>
    (z1 r31).bind fun r32=>
    bif (!r32) then
     some (⟨[]⟩,false)
    else
     some (r31,true)
    else none
    else
    bif (a_1.fKind == 2) then
     (z3 r21 ⟨a_1.fName,⟨#[]⟩,((⟨#[]⟩:ByteArray).size:Int)⟩).bind fun r33=>
     (z1 r33).bind fun r34=>
     bif (!r34) then
     some (⟨[]⟩,false)
     else
     some (r33,true)
    else
     bif (a_1.fKind == 3) then
     bif ((ByteArray.toList a_1.fTo) == (ByteArray.toList a_1.fName)) then
      some (⟨[]⟩,false)
     else
      (z4 r21 a_1.fName).bind fun r35=>
      (z3 r35 ⟨a_1.fTo,⟨#[]⟩,0⟩).bind fun r36=>
      (z1 r36).bind fun r37=>
      bif (!r37) then
      some (⟨[]⟩,false)
      else
      some (r36,true)
     else
     bif (a_1.fKind == 4) then
      (z4 r21 a_1.fName).bind fun r38=>
      (z1 r38).bind fun r39=>
      bif (!r39) then
      some (⟨[]⟩,false)
      else
      some (r38,true)
     else
      some (⟨[]⟩,false)
 else
  bif (a_1.fKind != 3) then
  bif (!((ByteArray.toList a_1.fTo) == (ByteArray.toList ⟨#[]⟩))) then
   some (⟨[]⟩,false)
  else
   (z2 d_0).bind fun r40=>
   bif (decide (r0≥0)) then
   bif ((decide (0≤r0)) && (decide (r0<(d_0.fFiles.length:Int)))) then
   bif (a_1.fKind == 1) then
    bif (decide (((d_0.fFiles.getD r0.toNat (⟨⟨#[]⟩,⟨#[]⟩,0⟩:SFile)).fText.size+a_1.fText.size)≤9223372036854775807)) then
    (z3 r40 ⟨(d_0.fFiles.getD r0.toNat (⟨⟨#[]⟩,⟨#[]⟩,0⟩:SFile)).fName,((d_0.fFiles.getD r0.toNat (⟨⟨#[]⟩,⟨#[]⟩,0⟩:SFile)).fText++a_1.fText),(d_0.fFiles.getD r0.toNat (⟨⟨#[]⟩,⟨#[]⟩,0⟩:SFile)).fKept⟩).bind fun r41=>
    (z1 r41).bind fun r42=>
    bif (!r42) then
    some (⟨[]⟩,false)
    else
    some (r41,true)
    else none
   else
    bif (a_1.fKind == 2) then
    (z3 r40 ⟨(d_0.fFiles.getD r0.toNat (⟨⟨#[]⟩,⟨#[]⟩,0⟩:SFile)).fName,(d_0.fFiles.getD r0.toNat (⟨⟨#[]⟩,⟨#[]⟩,0⟩:SFile)).fText,((d_0.fFiles.getD r0.toNat (⟨⟨#[]⟩,⟨#[]⟩,0⟩:SFile)).fText.size:Int)⟩).bind fun r43=>
    (z1 r43).bind fun r44=>
    bif (!r44) then
     some (⟨[]⟩,false)
    else
     some (r43,true)
    else
    bif (a_1.fKind == 3) then
     bif ((d_0.fFiles.getD r0.toNat (⟨⟨#[]⟩,⟨#[]⟩,0⟩:SFile)).fKept != ((d_0.fFiles.getD r0.toNat (⟨⟨#[]⟩,⟨#[]⟩,0⟩:SFile)).fText.size:Int)) then
     some (⟨[]⟩,false)
     else
     bif ((ByteArray.toList a_1.fTo) == (ByteArray.toList a_1.fName)) then
      some (⟨[]⟩,false)
     else
      (z4 r40 a_1.fName).bind fun r45=>
      (z3 r45 ⟨a_1.fTo,(d_0.fFiles.getD r0.toNat (⟨⟨#[]⟩,⟨#[]⟩,0⟩:SFile)).fText,(d_0.fFiles.getD r0.toNat (⟨⟨#[]⟩,⟨#[]⟩,0⟩:SFile)).fKept⟩).bind fun r46=>
      (z1 r46).bind fun r47=>
      bif (!r47) then
      some (⟨[]⟩,false)
      else
      some (r46,true)
    else
     bif (a_1.fKind == 4) then
     (z4 r40 a_1.fName).bind fun r48=>
     (z1 r48).bind fun r49=>
     bif (!r49) then
      some (⟨[]⟩,false)
     else
      some (r48,true)
     else
     some (⟨[]⟩,false)
   else none
   else
   bif (a_1.fKind == 1) then
    bif (decide (((⟨#[]⟩:ByteArray).size+a_1.fText.size)≤9223372036854775807)) then
    (z3 r40 ⟨a_1.fName,((⟨#[]⟩:ByteArray)++a_1.fText),0⟩).bind fun r50=>
    (z1 r50).bind fun r51=>
    bif (!r51) then
    some (⟨[]⟩,false)
    else
    some (r50,true)
    else none
   else
    bif (a_1.fKind == 2) then
    (z3 r40 ⟨a_1.fName,⟨#[]⟩,((⟨#[]⟩:ByteArray).size:Int)⟩).bind fun r52=>
    (z1 r52).bind fun r53=>
    bif (!r53) then
     some (⟨[]⟩,false)
    else
     some (r52,true)
    else
    bif (a_1.fKind == 3) then
     bif ((ByteArray.toList a_1.fTo) == (ByteArray.toList a_1.fName)) then
     some (⟨[]⟩,false)
     else
     (z4 r40 a_1.fName).bind fun r54=>
     (z3 r54 ⟨a_1.fTo,⟨#[]⟩,0⟩).bind fun r55=>
     (z1 r55).bind fun r56=>
     bif (!r56) then
      some (⟨[]⟩,false)
     else
      some (r55,true)
    else
     bif (a_1.fKind == 4) then
     (z4 r40 a_1.fName).bind fun r57=>
     (z1 r57).bind fun r58=>
     bif (!r58) then
      some (⟨[]⟩,false)
     else
      some (r57,true)
     else
     some (⟨[]⟩,false)
  else
  (z2 d_0).bind fun r59=>
  bif (decide (r0≥0)) then
   bif ((decide (0≤r0)) && (decide (r0<(d_0.fFiles.length:Int)))) then
   bif (a_1.fKind == 1) then
   bif (decide (((d_0.fFiles.getD r0.toNat (⟨⟨#[]⟩,⟨#[]⟩,0⟩:SFile)).fText.size+a_1.fText.size)≤9223372036854775807)) then
   (z3 r59 ⟨(d_0.fFiles.getD r0.toNat (⟨⟨#[]⟩,⟨#[]⟩,0⟩:SFile)).fName,((d_0.fFiles.getD r0.toNat (⟨⟨#[]⟩,⟨#[]⟩,0⟩:SFile)).fText++a_1.fText),(d_0.fFiles.getD r0.toNat (⟨⟨#[]⟩,⟨#[]⟩,0⟩:SFile)).fKept⟩).bind fun r60=>
   (z1 r60).bind fun r61=>
   bif (!r61) then
    some (⟨[]⟩,false)
   else
    some (r60,true)
   else none
   else
   bif (a_1.fKind == 2) then
    (z3 r59 ⟨(d_0.fFiles.getD r0.toNat (⟨⟨#[]⟩,⟨#[]⟩,0⟩:SFile)).fName,(d_0.fFiles.getD r0.toNat (⟨⟨#[]⟩,⟨#[]⟩,0⟩:SFile)).fText,((d_0.fFiles.getD r0.toNat (⟨⟨#[]⟩,⟨#[]⟩,0⟩:SFile)).fText.size:Int)⟩).bind fun r62=>
    (z1 r62).bind fun r63=>
    bif (!r63) then
    some (⟨[]⟩,false)
    else
    some (r62,true)
   else
    bif (a_1.fKind == 3) then
    bif ((d_0.fFiles.getD r0.toNat (⟨⟨#[]⟩,⟨#[]⟩,0⟩:SFile)).fKept != ((d_0.fFiles.getD r0.toNat (⟨⟨#[]⟩,⟨#[]⟩,0⟩:SFile)).fText.size:Int)) then
     some (⟨[]⟩,false)
    else
     bif ((ByteArray.toList a_1.fTo) == (ByteArray.toList a_1.fName)) then
     some (⟨[]⟩,false)
     else
     (z4 r59 a_1.fName).bind fun r64=>
     (z3 r64 ⟨a_1.fTo,(d_0.fFiles.getD r0.toNat (⟨⟨#[]⟩,⟨#[]⟩,0⟩:SFile)).fText,(d_0.fFiles.getD r0.toNat (⟨⟨#[]⟩,⟨#[]⟩,0⟩:SFile)).fKept⟩).bind fun r65=>
     (z1 r65).bind fun r66=>
     bif (!r66) then
      some (⟨[]⟩,false)
     else
      some (r65,true)
    else
    bif (a_1.fKind == 4) then
     (z4 r59 a_1.fName).bind fun r67=>
     (z1 r67).bind fun r68=>
     bif (!r68) then
     some (⟨[]⟩,false)
     else
     some (r67,true)
    else
     some (⟨[]⟩,false)
   else none
  else
   bif (a_1.fKind == 1) then
   bif (decide (((⟨#[]⟩:ByteArray).size+a_1.fText.size)≤9223372036854775807)) then
   (z3 r59 ⟨a_1.fName,((⟨#[]⟩:ByteArray)++a_1.fText),0⟩).bind fun r69=>
   (z1 r69).bind fun r70=>
   bif (!r70) then
    some (⟨[]⟩,false)
   else
    some (r69,true)
   else none
   else
   bif (a_1.fKind == 2) then
    (z3 r59 ⟨a_1.fName,⟨#[]⟩,((⟨#[]⟩:ByteArray).size:Int)⟩).bind fun r71=>
    (z1 r71).bind fun r72=>
    bif (!r72) then
    some (⟨[]⟩,false)
    else
    some (r71,true)
   else
    bif (a_1.fKind == 3) then
    bif ((ByteArray.toList a_1.fTo) == (ByteArray.toList a_1.fName)) then
     some (⟨[]⟩,false)
    else
     (z4 r59 a_1.fName).bind fun r73=>
     (z3 r73 ⟨a_1.fTo,⟨#[]⟩,0⟩).bind fun r74=>
     (z1 r74).bind fun r75=>
     bif (!r75) then
     some (⟨[]⟩,false)
     else
     some (r74,true)
    else
    bif (a_1.fKind == 4) then
     (z4 r59 a_1.fName).bind fun r76=>
     (z1 r76).bind fun r77=>
     bif (!r77) then
     some (⟨[]⟩,false)
     else
     some (r76,true)
    else
     some (⟨[]⟩,false)
noncomputable def impl_DoAct:Di:=E_impl_DoAct impl_fileAt impl_DiskOk impl_copyDisk impl_Disk_putFile impl_Disk_dropFile
theorem X6:Tells ctx PP 115 cv40 cv41 (fun a=>impl_DoAct a.1 a.2):=fn_ok0 (hc Zh (hc Ci (hc Ud (hc U6 (hc Fv hl_nil))))) Tryz.func115 ((fun z0 z1 z2 z3 z4 a=>by kernel_rfl:∀ z0 z1 z2 z3 z4,EntryIs0 ctx PP 115 [] [(100,Ai z0),(46,Cb z1),(52,WZ z2),(155,V6 z3),(156,Sm z4)] cv40 cv41 fun a=>E_impl_DoAct z0 z1 z2 z3 z4 a.1 a.2) impl_fileAt impl_DiskOk impl_copyDisk impl_Disk_putFile impl_Disk_dropFile)
noncomputable def Jv {γ:Type} (F:Di):Hd ctx γ:=hdl cv40.dec (fun a=>F a.1 a.2) cv41.enc
abbrev Ae:=SDisk→(List SAct)→Option (SDisk×Int)
inductive Ce where
 | c0 (list_1:(List SAct)) (v_13:(List SAct)) (v_14:Int) (v_15:Int) (v_4r0:(List SFile)) (out_6r0:(List SFile))
noncomputable def Kv:Ce→LI
 | .c0 list_1 v_13 v_14 v_15 v_4r0 out_6r0=>(tdo Tryz.f70 232,[(1,[.one (.rsl 156 list_1)]),(4,[.one (.ptr 256 0)]),(6,[.one (.ptr 384 0)]),(13,[.one (.rsl 156 v_13)]),(14,[.one (.int .i64 v_14)]),(15,[.one (.int .i64 v_15)])],[(256,.var [.own 1016384]),(384,.var [.own 1024576]),(1016384,.sl 148 v_4r0),(1024576,.sl 148 out_6r0)])
noncomputable def E_impl_DoActs (z0:DZ) (z1:Di) (k:Ce→Option (SDisk×Int)) (d_0:SDisk) (list_1:(List SAct)):Option (SDisk×Int):=
 (z0 d_0).bind fun r0=>
 k (.c0 list_1 list_1 (list_1.length:Int) 0 [] r0.fFiles)
noncomputable def B_impl_DoActs (z0:DZ) (z1:Di) (k:Ce→Option (SDisk×Int)):Ce→Option (SDisk×Int)
 | .c0 list_1 v_13 v_14 v_15 v_4r0 out_6r0=>
 bif (decide (v_15<v_14)) then
  bif ((decide (0≤v_15)) && (decide (v_15<(v_13.length:Int)))) then
  (z1 ⟨out_6r0⟩ (v_13.getD v_15.toNat (⟨0,⟨#[]⟩,⟨#[]⟩,⟨#[]⟩⟩:SAct))).bind fun r0=>
  bif (!r0.2) then
  some (⟨out_6r0⟩,v_15)
  else
  k (.c0 list_1 v_13 v_14 (w64 (v_15+1)) v_4r0 r0.1.fFiles)
  else none
 else
  some (⟨out_6r0⟩,(list_1.length:Int))
noncomputable def L_impl_DoActs:Nat→Ce→Option (SDisk×Int)
 | 0,_=>none
 | m+1,s=>B_impl_DoActs impl_copyDisk impl_DoAct (L_impl_DoActs m) s
noncomputable def impl_DoActs:Ae:=E_impl_DoActs impl_copyDisk impl_DoAct (L_impl_DoActs gas)
theorem Vm:Tells ctx PP 70 cv42 cv43 (fun a=>impl_DoActs a.1 a.2):=
 have b:∀ z0 z1,CutIs ctx PP 70 Tryz.f70 [] [(52,WZ z0),(115,Jv z1)] cv43 Kv (B_impl_DoActs z0 z1):=fun z0 z1 _ s=>by cases s <;> kernel_rfl
 have e:∀ z0 z1,EntryIs ctx PP 70 [] [(52,WZ z0),(115,Jv z1)] cv42 cv43 Kv (fun k a=>E_impl_DoActs z0 z1 k a.1 a.2):=fun z0 z1 _ a=>by kernel_rfl
 fn_ok (hc Ud (hc X6 hl_nil)) Tryz.func70 (fun s s' h=>by cases s;cases s';cases h;rfl) (fun _=>rfl) (fun _ _=>rfl) (b impl_copyDisk impl_DoAct) (e impl_copyDisk impl_DoAct) gas
noncomputable def Xm {γ:Type} (F:Ae):Hd ctx γ:=hdl cv42.dec (fun a=>F a.1 a.2) cv43.enc
abbrev Ee:=SBook→Option Bool
inductive Fe where
 | c0 (v_6:(List SThing)) (v_7:Int) (v_8:Int) (b_1:SBook)
noncomputable def Nv:Fe→LI
 | .c0 v_6 v_7 v_8 b_1=>(tdo Tryz.f50 104,[(1,[.one (.ptr 64 0)]),(6,[.one (.rsl 71 v_6)]),(7,[.one (.int .i64 v_7)]),(8,[.one (.int .i64 v_8)])],[(64,.var [.str b_1.fWord,.int .i64 b_1.fTries,.rsl 71 b_1.fThings,.int .i64 b_1.fLast,.str b_1.fChain,.int .i64 b_1.fCount])])
noncomputable def E_impl_BookOk (z0:Xc) (z1:TT) (k:Fe→Option Bool) (b_0:SBook):Option Bool:=
 k (.c0 b_0.fThings (b_0.fThings.length:Int) 0 b_0)
noncomputable def B_impl_BookOk (z0:Xc) (z1:TT) (k:Fe→Option Bool):Fe→Option Bool
 | .c0 v_6 v_7 v_8 b_1=>
 bif (decide (v_8<v_7)) then
  bif ((decide (0≤v_8)) && (decide (v_8<(v_6.length:Int)))) then
  (z0 (v_6.getD v_8.toNat (⟨0,0,false,false,false,false,⟨#[]⟩,0⟩:SThing))).bind fun r0=>
  bif (!r0) then
  some false
  else
  bif (decide ((v_6.getD v_8.toNat (⟨0,0,false,false,false,false,⟨#[]⟩,0⟩:SThing)).fId > b_1.fLast)) then
   some false
  else
   bif (decide (v_8 > 0)) then
   bif ((decide (0≤(w64 (v_8 - 1)))) && (decide ((w64 (v_8 - 1))<(b_1.fThings.length:Int)))) then
   bif (decide ((b_1.fThings.getD (w64 (v_8 - 1)).toNat (⟨0,0,false,false,false,false,⟨#[]⟩,0⟩:SThing)).fId≥(v_6.getD v_8.toNat (⟨0,0,false,false,false,false,⟨#[]⟩,0⟩:SThing)).fId)) then
    some false
   else
    k (.c0 v_6 v_7 (w64 (v_8+1)) b_1)
   else none
   else
   k (.c0 v_6 v_7 (w64 (v_8+1)) b_1)
  else none
 else
  bif ((b_1.fWord.size:Int) == 32) then
  bif ((b_1.fChain.size:Int) == 32) then
   (z1 b_1.fTries 0 3).bind fun r1=>
   bif r1 then
   bif (decide ((b_1.fThings.length:Int)≤8)) then
    (z1 b_1.fLast 0 1000).bind fun r2=>
    bif r2 then
    (z1 b_1.fCount 0 10000).bind fun r3=>
    some r3
    else
    some false
   else
    some false
   else
   some false
  else
   some false
  else
  some false
noncomputable def L_impl_BookOk:Nat→Fe→Option Bool
 | 0,_=>none
 | m+1,s=>B_impl_BookOk impl_ThingOk impl_in (L_impl_BookOk m) s
noncomputable def impl_BookOk:Ee:=E_impl_BookOk impl_ThingOk impl_in (L_impl_BookOk gas)
theorem Ov:Tells ctx PP 50 cv44 cv1 (fun a=>impl_BookOk a):=
 have b:∀ z0 z1,CutIs ctx PP 50 Tryz.f50 [] [(101,Xl z0),(47,JY z1)] cv1 Nv (B_impl_BookOk z0 z1):=fun z0 z1 _ s=>by cases s <;> kernel_rfl
 have e:∀ z0 z1,EntryIs ctx PP 50 [] [(101,Xl z0),(47,JY z1)] cv44 cv1 Nv (fun k a=>E_impl_BookOk z0 z1 k a):=fun z0 z1 _ a=>by kernel_rfl
 fn_ok (hc Yt (hc QY hl_nil)) Tryz.func50 (fun s s' h=>by cases s;cases s';(repeat cases ‹SBook›);cases h;rfl) (fun _=>rfl) (fun _ _=>rfl) (b impl_ThingOk impl_in) (e impl_ThingOk impl_in) gas
noncomputable def Ym {γ:Type} (F:Ee):Hd ctx γ:=hdl cv44.dec (fun a=>F a) cv1.enc
abbrev Eb:=SBook→Option SBook
noncomputable def E_impl_copyBook (b_0:SBook):Option SBook:=
 bif (decide ((b_0.fThings.length*48)≤140737488355328)) then
 some b_0
 else none
noncomputable def impl_copyBook:Eb:=E_impl_copyBook
theorem Zm:Tells ctx PP 116 cv44 cv24 (fun a=>impl_copyBook a):=fn_ok0 hl_nil Tryz.func116 (fun a=>by kernel_rfl:EntryIs0 ctx PP 116 [] [] cv44 cv24 fun a=>E_impl_copyBook a)
noncomputable def Ei {γ:Type} (F:Eb):Hd ctx γ:=hdl cv44.dec (fun a=>F a) cv24.enc
abbrev He:=SBook→Int→Option Int
inductive Ie where
 | c0 (id_1:Int) (v_8:(List SThing)) (v_9:Int) (v_10:Int)
noncomputable def Pv:Ie→LI
 | .c0 id_1 v_8 v_9 v_10=>(tdo Tryz.f87 104,[(1,[.one (.int .i64 id_1)]),(8,[.one (.rsl 71 v_8)]),(9,[.one (.int .i64 v_9)]),(10,[.one (.int .i64 v_10)])],[])
noncomputable def Qv (k:Ie→Option Int) (b_0:SBook) (id_1:Int):Option Int:=
 k (.c0 id_1 b_0.fThings (b_0.fThings.length:Int) 0)
noncomputable def B_impl_thingAt (k:Ie→Option Int):Ie→Option Int
 | .c0 id_1 v_8 v_9 v_10=>
 bif (decide (v_10<v_9)) then
  bif ((decide (0≤v_10)) && (decide (v_10<(v_8.length:Int)))) then
  bif ((v_8.getD v_10.toNat (⟨0,0,false,false,false,false,⟨#[]⟩,0⟩:SThing)).fId == id_1) then
  some v_10
  else
  k (.c0 id_1 v_8 v_9 (w64 (v_10+1)))
  else none
 else
  some (-(1:Int))
noncomputable def L_impl_thingAt:Nat→Ie→Option Int
 | 0,_=>none
 | m+1,s=>B_impl_thingAt (L_impl_thingAt m) s
noncomputable def impl_thingAt:He:=Qv (L_impl_thingAt gas)
theorem Dn:Tells ctx PP 87 cv45 cv7 (fun a=>impl_thingAt a.1 a.2):=
 have b:CutIs ctx PP 87 Tryz.f87 [] [] cv7 Pv (B_impl_thingAt):=fun _ s=>by cases s <;> kernel_rfl
 have e:EntryIs ctx PP 87 [] [] cv45 cv7 Pv (fun k a=>Qv k a.1 a.2):=fun _ a=>by kernel_rfl
 fn_ok hl_nil Tryz.func87 (fun s s' h=>by cases s;cases s';cases h;rfl) (fun _=>rfl) (fun _ _=>rfl) b e gas
noncomputable def En {γ:Type} (F:He):Hd ctx γ:=hdl cv45.dec (fun a=>F a.1 a.2) cv7.enc
abbrev Gn:=SThing→SThing→Option Bool
noncomputable def E_impl_follows (x_0:SThing) (y_1:SThing):Option Bool:=
 bif (y_1.fKind == x_0.fKind) then
 bif ((ByteArray.toList y_1.fValue) == (ByteArray.toList x_0.fValue)) then
  bif (y_1.fSigns == x_0.fSigns) then
  bif (y_1.fWraps == x_0.fWraps) then
   bif (decide (y_1.fNext≥x_0.fNext)) then
   bif y_1.fHidden then
    bif y_1.fFixed then
    some true
    else
    some (!x_0.fFixed)
   else
    bif (!x_0.fHidden) then
    bif y_1.fFixed then
     some true
    else
     some (!x_0.fFixed)
    else
    some false
   else
   some false
  else
   some false
  else
  some false
 else
  some false
 else
 some false
noncomputable def impl_follows:Gn:=E_impl_follows
theorem Y6:Tells ctx PP 157 cv46 cv1 (fun a=>impl_follows a.1 a.2):=fn_ok0 hl_nil Tryz.func157 (fun a=>by kernel_rfl:EntryIs0 ctx PP 157 [] [] cv46 cv1 fun a=>E_impl_follows a.1 a.2)
noncomputable def D7 {γ:Type} (F:Gn):Hd ctx γ:=hdl cv46.dec (fun a=>F a.1 a.2) cv1.enc
abbrev Pn:=SBook→SThing→Option (Bool×SBook)
noncomputable def E_impl_Book_thing (z0:He) (z1:Gn) (b_0:SBook) (x_1:SThing):Option (Bool×SBook):=
 (z0 b_0 x_1.fId).bind fun r0=>
 bif (decide (r0≥0)) then
 bif ((decide (0≤r0)) && (decide (r0<(b_0.fThings.length:Int)))) then
 (z1 (b_0.fThings.getD r0.toNat (⟨0,0,false,false,false,false,⟨#[]⟩,0⟩:SThing)) x_1).bind fun r1=>
 bif (!r1) then
  some (false,b_0)
 else
  bif ((decide (0≤r0)) && (decide (r0<(b_0.fThings.length:Int)))) then
  some (true,⟨b_0.fWord,b_0.fTries,(b_0.fThings.set r0.toNat x_1),b_0.fLast,b_0.fChain,b_0.fCount⟩)
  else none
 else none
 else
 bif (x_1.fId != (w64 (b_0.fLast+1))) then
  some (false,b_0)
 else
  bif (decide ((b_0.fThings.length:Int)≥8)) then
  some (false,b_0)
  else
  bif (decide (((b_0.fThings.length+1)*48)≤140737488355328)) then
  some (true,⟨b_0.fWord,b_0.fTries,(b_0.fThings++[x_1]),x_1.fId,b_0.fChain,b_0.fCount⟩)
  else none
noncomputable def impl_Book_thing:Pn:=E_impl_Book_thing impl_thingAt impl_follows
theorem F7:Tells ctx PP 117 cv47 cv48 (fun a=>impl_Book_thing a.1 a.2):=fn_ok0 (hc Dn (hc Y6 hl_nil)) Tryz.func117 ((fun z0 z1 a=>by kernel_rfl:∀ z0 z1,EntryIs0 ctx PP 117 [0] [(87,En z0),(157,D7 z1)] cv47 cv48 fun a=>E_impl_Book_thing z0 z1 a.1 a.2) impl_thingAt impl_follows)
noncomputable def G7 {γ:Type} (F:Pn):Hd ctx γ:=hdl cv47.dec (fun a=>F a.1 a.2) cv48.enc
abbrev Je:=SBook→SRec→Option (SBook×Bool)
noncomputable def E_impl_Enter (z0:Ad) (z1:Ee) (z2:Eb) (z3:Pn) (z4:He) (z5:AZ) (b_0:SBook) (r_1:SRec):Option (SBook×Bool):=
 (z0 r_1).bind fun r0=>
 (z1 b_0).bind fun r1=>
 bif (!r1) then
 some (⟨⟨#[]⟩,0,[],0,⟨#[]⟩,0⟩,false)
 else
 bif (!r0.2) then
  some (⟨⟨#[]⟩,0,[],0,⟨#[]⟩,0⟩,false)
 else
  bif (decide (b_0.fCount≥10000)) then
  some (⟨⟨#[]⟩,0,[],0,⟨#[]⟩,0⟩,false)
  else
  (z2 b_0).bind fun r2=>
  bif (r_1.fKind == 1) then
   bif (decide ((b_0.fChain.size+r0.1.size)≤9223372036854775807)) then
   (z5 (b_0.fChain++r0.1)).bind fun r3=>
   some (⟨r_1.fText,0,r2.fThings,r2.fLast,r3,(w64 (r2.fCount+1))⟩,true)
   else none
  else
   bif (r_1.fKind == 2) then
   bif (decide ((b_0.fChain.size+r0.1.size)≤9223372036854775807)) then
   (z5 (b_0.fChain++r0.1)).bind fun r4=>
   some (⟨r2.fWord,r_1.fNum,r2.fThings,r2.fLast,r4,(w64 (r2.fCount+1))⟩,true)
   else none
   else
   bif (r_1.fKind == 3) then
    (z3 r2 r_1.fThing).bind fun r5=>
    bif (!r5.1) then
    some (⟨⟨#[]⟩,0,[],0,⟨#[]⟩,0⟩,false)
    else
    bif (decide ((b_0.fChain.size+r0.1.size)≤9223372036854775807)) then
    (z5 (b_0.fChain++r0.1)).bind fun r6=>
    some (⟨r5.2.fWord,r5.2.fTries,r5.2.fThings,r5.2.fLast,r6,(w64 (r5.2.fCount+1))⟩,true)
    else none
   else
    bif (r_1.fKind == 4) then
    (z4 b_0 r_1.fNum).bind fun r7=>
    bif (decide (r7<0)) then
     some (⟨⟨#[]⟩,0,[],0,⟨#[]⟩,0⟩,false)
    else
     bif ((decide (0≤r7)) && (decide (r7≤(b_0.fThings.length:Int)))) then
     bif (decide ((((b_0.fThings.take r7.toNat).drop 0).length*48)≤140737488355328)) then
     bif ((decide (0≤(w64 (r7+1)))) && (decide ((w64 (r7+1))≤(b_0.fThings.length:Int)))) then
     bif (decide (((((b_0.fThings.take r7.toNat).drop 0).length+((b_0.fThings.take b_0.fThings.length).drop (w64 (r7+1)).toNat).length)*48)≤140737488355328)) then
     bif (decide ((b_0.fChain.size+r0.1.size)≤9223372036854775807)) then
     (z5 (b_0.fChain++r0.1)).bind fun r8=>
     some (⟨r2.fWord,r2.fTries,(((b_0.fThings.take r7.toNat).drop 0)++((b_0.fThings.take b_0.fThings.length).drop (w64 (r7+1)).toNat)),r2.fLast,r8,(w64 (r2.fCount+1))⟩,true)
     else none
     else none
     else none
     else none
     else none
    else
    bif (decide ((b_0.fChain.size+r0.1.size)≤9223372036854775807)) then
    (z5 (b_0.fChain++r0.1)).bind fun r9=>
    some (⟨r2.fWord,r2.fTries,r2.fThings,r2.fLast,r9,(w64 (r2.fCount+1))⟩,true)
    else none
noncomputable def impl_Enter:Je:=E_impl_Enter impl_RecText impl_BookOk impl_copyBook impl_Book_thing impl_thingAt impl_DigestOf
theorem Sv:Tells ctx PP 71 cv49 cv50 (fun a=>impl_Enter a.1 a.2):=fn_ok0 (hc Cm (hc Ov (hc Zm (hc F7 (hc Dn (hc UZ hl_nil)))))) Tryz.func71 ((fun z0 z1 z2 z3 z4 z5 a=>by kernel_rfl:∀ z0 z1 z2 z3 z4 z5,EntryIs0 ctx PP 71 [] [(112,Em z0),(50,Ym z1),(116,Ei z2),(117,G7 z3),(87,En z4),(25,JZ z5)] cv49 cv50 fun a=>E_impl_Enter z0 z1 z2 z3 z4 z5 a.1 a.2) impl_RecText impl_BookOk impl_copyBook impl_Book_thing impl_thingAt impl_DigestOf)
noncomputable def Qn {γ:Type} (F:Je):Hd ctx γ:=hdl cv49.dec (fun a=>F a.1 a.2) cv50.enc
abbrev Me:=SBox→SRec→Option (Bool×SBox)
noncomputable def E_impl_Box_enter (z0:Yh) (z1:Ae) (z2:Je) (b_0:SBox) (r_1:SRec):Option (Bool×SBox):=
 (z0 b_0.fKey b_0.fBook.fCount r_1).bind fun r0=>
 (z1 b_0.fDisk r0.1).bind fun r1=>
 (z2 b_0.fBook r_1).bind fun r2=>
 bif (!r0.2) then
 some (false,b_0)
 else
 bif (!r2.2) then
  some (false,b_0)
 else
  bif (decide (r1.2<(r0.1.length:Int))) then
  some (false,b_0)
  else
  some (true,⟨b_0.fKey,b_0.fUp,r1.1,r2.1,b_0.fSessions,b_0.fLives,b_0.fOpened⟩)
noncomputable def impl_Box_enter:Me:=E_impl_Box_enter impl_BookActs impl_DoActs impl_Enter
theorem Tv:Tells ctx PP 33 cv51 cv52 (fun a=>impl_Box_enter a.1 a.2):=fn_ok0 (hc Yu (hc Vm (hc Sv hl_nil))) Tryz.func33 ((fun z0 z1 z2 a=>by kernel_rfl:∀ z0 z1 z2,EntryIs0 ctx PP 33 [0] [(69,Zu z0),(70,Xm z1),(71,Qn z2)] cv51 cv52 fun a=>E_impl_Box_enter z0 z1 z2 a.1 a.2) impl_BookActs impl_DoActs impl_Enter)
noncomputable def Rn {γ:Type} (F:Me):Hd ctx γ:=hdl cv51.dec (fun a=>F a.1 a.2) cv52.enc
abbrev Gi:=ByteArray→ByteArray→Option (SBox×Bool)
noncomputable def E_impl_BoxNew (z0:VZ) (z1:AZ) (z2:Me) (key_0:ByteArray) (word_1:ByteArray):Option (SBox×Bool):=
 bif ((key_0.size:Int) != 32) then
 some (⟨⟨#[]⟩,false,⟨[]⟩,⟨⟨#[]⟩,0,[],0,⟨#[]⟩,0⟩,[],[],0⟩,false)
 else
 bif (decide ((word_1.size:Int) > 20)) then
  some (⟨⟨#[]⟩,false,⟨[]⟩,⟨⟨#[]⟩,0,[],0,⟨#[]⟩,0⟩,[],[],0⟩,false)
 else
  z0.bind fun r0=>
  (z1 word_1).bind fun r1=>
  (z2 ⟨key_0,true,⟨[]⟩,r0,[],[],0⟩ ⟨1,r1,0,⟨0,0,false,false,false,false,⟨#[]⟩,0⟩⟩).bind fun r2=>
  some (r2.2,true)
noncomputable def impl_BoxNew:Gi:=E_impl_BoxNew impl_BookNew impl_DigestOf impl_Box_enter
theorem H7:Tells ctx PP 12 cv29 cv53 (fun a=>impl_BoxNew a.1 a.2):=fn_ok0 (hc Ph (hc UZ (hc Tv hl_nil))) Tryz.func12 ((fun z0 z1 z2 a=>by kernel_rfl:∀ z0 z1 z2,EntryIs0 ctx PP 12 [] [(32,Tc z0),(25,JZ z1),(33,Rn z2)] cv29 cv53 fun a=>E_impl_BoxNew z0 z1 z2 a.1 a.2) impl_BookNew impl_DigestOf impl_Box_enter)
noncomputable def Wv {γ:Type} (F:Gi):Hd ctx γ:=hdl cv29.dec (fun a=>F a.1 a.2) cv53.enc
abbrev Ii:=SCall→Option Bool
noncomputable def E_impl_CallOk (z0:TT) (c_0:SCall):Option Bool:=
 (z0 c_0.fOp 1 13).bind fun r0=>
 bif r0 then
 (z0 c_0.fSession 0 1000).bind fun r1=>
 bif r1 then
  (z0 c_0.fThing 0 1000).bind fun r2=>
  bif r2 then
  (z0 c_0.fKind 0 3).bind fun r3=>
  bif r3 then
   some (decide ((c_0.fText.size:Int)≤1000))
  else
   some false
  else
  some false
 else
  some false
 else
 some false
noncomputable def impl_CallOk:Ii:=E_impl_CallOk impl_in
theorem Xv:Tells ctx PP 37 cv54 cv1 (fun a=>impl_CallOk a):=fn_ok0 (hc QY hl_nil) Tryz.func37 ((fun z0 a=>by kernel_rfl:∀ z0,EntryIs0 ctx PP 37 [] [(47,JY z0)] cv54 cv1 fun a=>E_impl_CallOk z0 a) impl_in)
noncomputable def Yv {γ:Type} (F:Ii):Hd ctx γ:=hdl cv54.dec (fun a=>F a) cv1.enc
abbrev Ji:=SEvent→Option Bool
noncomputable def E_impl_EventOk (z0:Ii) (e_0:SEvent):Option Bool:=
 (z0 e_0.fCall).bind fun r0=>
 bif r0 then
 some (decide ((e_0.fLeft.length:Int)≤30))
 else
 bif e_0.fRise then
  bif ((e_0.fCall.fOp == 0) && ((e_0.fCall.fSession == 0) && ((e_0.fCall.fThing == 0) && ((e_0.fCall.fKind == 0) && (((ByteArray.toList e_0.fCall.fText) == (ByteArray.toList ⟨#[]⟩)) && ((e_0.fCall.fHidden == false) && ((e_0.fCall.fFixed == false) && true))))))) then
  some (decide ((e_0.fLeft.length:Int)≤30))
  else
  some false
 else
  some false
noncomputable def impl_EventOk:Ji:=E_impl_EventOk impl_CallOk
theorem I7:Tells ctx PP 24 cv55 cv1 (fun a=>impl_EventOk a):=fn_ok0 (hc Xv hl_nil) Tryz.func24 ((fun z0 a=>by kernel_rfl:∀ z0,EntryIs0 ctx PP 24 [] [(37,Yv z0)] cv55 cv1 fun a=>E_impl_EventOk z0 a) impl_CallOk)
noncomputable def Zv {γ:Type} (F:Ji):Hd ctx γ:=hdl cv55.dec (fun a=>F a) cv1.enc
abbrev Tn:=(List SThing)→(List SThing)→Option Bool
inductive Oe where
 | c0 (a_0:(List SThing)) (b_1:(List SThing)) (v_12:Int) (v_13:Int)
noncomputable def Aw:Oe→LI
 | .c0 a_0 b_1 v_12 v_13=>(tdo Tryz.f96 232,[(0,[.one (.rsl 71 a_0)]),(1,[.one (.rsl 71 b_1)]),(12,[.one (.int .i64 v_12)]),(13,[.one (.int .i64 v_13)])],[])
noncomputable def E_impl_sameThings (k:Oe→Option Bool) (a_0:(List SThing)) (b_1:(List SThing)):Option Bool:=
 bif ((a_0.length:Int) != (b_1.length:Int)) then
 some false
 else
 k (.c0 a_0 b_1 (a_0.length:Int) 0)
noncomputable def B_impl_sameThings (k:Oe→Option Bool):Oe→Option Bool
 | .c0 a_0 b_1 v_12 v_13=>
 bif (decide (v_13<v_12)) then
  bif ((decide (0≤v_13)) && (decide (v_13<(a_0.length:Int)))) then
  bif ((decide (0≤v_13)) && (decide (v_13<(b_1.length:Int)))) then
  bif (!(((a_0.getD v_13.toNat (⟨0,0,false,false,false,false,⟨#[]⟩,0⟩:SThing)).fId == (b_1.getD v_13.toNat (⟨0,0,false,false,false,false,⟨#[]⟩,0⟩:SThing)).fId) && (((a_0.getD v_13.toNat (⟨0,0,false,false,false,false,⟨#[]⟩,0⟩:SThing)).fKind == (b_1.getD v_13.toNat (⟨0,0,false,false,false,false,⟨#[]⟩,0⟩:SThing)).fKind) && (((a_0.getD v_13.toNat (⟨0,0,false,false,false,false,⟨#[]⟩,0⟩:SThing)).fHidden == (b_1.getD v_13.toNat (⟨0,0,false,false,false,false,⟨#[]⟩,0⟩:SThing)).fHidden) && (((a_0.getD v_13.toNat (⟨0,0,false,false,false,false,⟨#[]⟩,0⟩:SThing)).fFixed == (b_1.getD v_13.toNat (⟨0,0,false,false,false,false,⟨#[]⟩,0⟩:SThing)).fFixed) && (((a_0.getD v_13.toNat (⟨0,0,false,false,false,false,⟨#[]⟩,0⟩:SThing)).fSigns == (b_1.getD v_13.toNat (⟨0,0,false,false,false,false,⟨#[]⟩,0⟩:SThing)).fSigns) && (((a_0.getD v_13.toNat (⟨0,0,false,false,false,false,⟨#[]⟩,0⟩:SThing)).fWraps == (b_1.getD v_13.toNat (⟨0,0,false,false,false,false,⟨#[]⟩,0⟩:SThing)).fWraps) && (((ByteArray.toList (a_0.getD v_13.toNat (⟨0,0,false,false,false,false,⟨#[]⟩,0⟩:SThing)).fValue) == (ByteArray.toList (b_1.getD v_13.toNat (⟨0,0,false,false,false,false,⟨#[]⟩,0⟩:SThing)).fValue)) && (((a_0.getD v_13.toNat (⟨0,0,false,false,false,false,⟨#[]⟩,0⟩:SThing)).fNext == (b_1.getD v_13.toNat (⟨0,0,false,false,false,false,⟨#[]⟩,0⟩:SThing)).fNext) && true))))))))) then
  some false
  else
  k (.c0 a_0 b_1 v_12 (w64 (v_13+1)))
  else none
  else none
 else
  some true
noncomputable def L_impl_sameThings:Nat→Oe→Option Bool
 | 0,_=>none
 | m+1,s=>B_impl_sameThings (L_impl_sameThings m) s
noncomputable def impl_sameThings:Tn:=E_impl_sameThings (L_impl_sameThings gas)
theorem J7:Tells ctx PP 96 cv56 cv1 (fun a=>impl_sameThings a.1 a.2):=
 have b:CutIs ctx PP 96 Tryz.f96 [] [] cv1 Aw (B_impl_sameThings):=fun _ s=>by cases s <;> kernel_rfl
 have e:EntryIs ctx PP 96 [] [] cv56 cv1 Aw (fun k a=>E_impl_sameThings k a.1 a.2):=fun _ a=>by kernel_rfl
 fn_ok hl_nil Tryz.func96 (fun s s' h=>by cases s;cases s';cases h;rfl) (fun _=>rfl) (fun _ _=>rfl) b e gas
noncomputable def N7 {γ:Type} (F:Tn):Hd ctx γ:=hdl cv56.dec (fun a=>F a.1 a.2) cv1.enc
abbrev Oi:=SBook→SBook→Option Bool
noncomputable def E_impl_sameBook (z0:Tn) (a_0:SBook) (b_1:SBook):Option Bool:=
 bif ((ByteArray.toList a_0.fWord) == (ByteArray.toList b_1.fWord)) then
 bif (a_0.fTries == b_1.fTries) then
  (z0 a_0.fThings b_1.fThings).bind fun r0=>
  bif r0 then
  bif (a_0.fLast == b_1.fLast) then
   bif ((ByteArray.toList a_0.fChain) == (ByteArray.toList b_1.fChain)) then
   some (a_0.fCount == b_1.fCount)
   else
   some false
  else
   some false
  else
  some false
 else
  some false
 else
 some false
noncomputable def impl_sameBook:Oi:=E_impl_sameBook impl_sameThings
theorem O7:Tells ctx PP 48 cv57 cv1 (fun a=>impl_sameBook a.1 a.2):=fn_ok0 (hc J7 hl_nil) Tryz.func48 ((fun z0 a=>by kernel_rfl:∀ z0,EntryIs0 ctx PP 48 [] [(96,N7 z0)] cv57 cv1 fun a=>E_impl_sameBook z0 a.1 a.2) impl_sameThings)
noncomputable def Dw {γ:Type} (F:Oi):Hd ctx γ:=hdl cv57.dec (fun a=>F a.1 a.2) cv1.enc
abbrev Qi:=SDisk→ByteArray→Option (ByteArray×Bool)
noncomputable def E_impl_FileAt (z0:Za) (d_0:SDisk) (name_1:ByteArray):Option (ByteArray×Bool):=
 (z0 d_0 name_1).bind fun r0=>
 bif (decide (r0<0)) then
 some (⟨#[]⟩,false)
 else
 bif ((decide (0≤r0)) && (decide (r0<(d_0.fFiles.length:Int)))) then
 some ((d_0.fFiles.getD r0.toNat (⟨⟨#[]⟩,⟨#[]⟩,0⟩:SFile)).fText,true)
 else none
noncomputable def impl_FileAt:Qi:=E_impl_FileAt impl_fileAt
theorem Ew:Tells ctx PP 97 cv37 cv26 (fun a=>impl_FileAt a.1 a.2):=fn_ok0 (hc Zh hl_nil) Tryz.func97 ((fun z0 a=>by kernel_rfl:∀ z0,EntryIs0 ctx PP 97 [] [(100,Ai z0)] cv37 cv26 fun a=>E_impl_FileAt z0 a.1 a.2) impl_fileAt)
noncomputable def Gw {γ:Type} (F:Qi):Hd ctx γ:=hdl cv37.dec (fun a=>F a.1 a.2) cv26.enc
abbrev XZ:=ByteArray→Int→Option (Int×Int×Bool)
inductive Qe where
 | c0 (text_0:ByteArray) (at_1:Int) (n_7:Int) (k_8:Int)
noncomputable def Hw:Qe→LI
 | .c0 text_0 at_1 n_7 k_8=>(tdo Tryz.f172 976,[(0,[.one (.str text_0)]),(1,[.one (.int .i64 at_1)]),(7,[.one (.int .i64 n_7)]),(8,[.one (.int .i64 k_8)])],[])
noncomputable def E_impl_ReadVar (z0:TT) (k:Qe→Option (Int×Int×Bool)) (text_0:ByteArray) (at_1:Int):Option (Int×Int×Bool):=
 (z0 at_1 0 (text_0.size:Int)).bind fun r0=>
 bif (!r0) then
 some (0,(0,false))
 else
 k (.c0 text_0 at_1 0 0)
noncomputable def B_impl_ReadVar (z0:TT) (k:Qe→Option (Int×Int×Bool)):Qe→Option (Int×Int×Bool)
 | .c0 text_0 at_1 n_7 k_8=>
 bif (decide (k_8<5)) then
  bif (decide ((w64 (at_1+k_8))<(text_0.size:Int))) then
  bif ((decide (0≤(w64 (at_1+k_8)))) && (decide ((w64 (at_1+k_8))<(text_0.size:Int)))) then
  bif (decide (0≤(w64 (7*k_8)))) then
  bif (decide ((w64 (bt text_0 (w64 (at_1+k_8))))<128)) then
   bif ((w64 (bt text_0 (w64 (at_1+k_8)))) == 0) then
   bif (decide (k_8 > 0)) then
    some (0,(0,false))
   else
    bif (decide ((w64 (n_7+(w64 (((w64 (bt text_0 (w64 (at_1+k_8)))).tmod 128)*(2 ^ (Min.min (w64 (7*k_8)).toNat (IntKind.bits IntKind.i64))))))) > 1000000000)) then
    some (0,(0,false))
    else
    some ((w64 (n_7+(w64 (((w64 (bt text_0 (w64 (at_1+k_8)))).tmod 128)*(2 ^ (Min.min (w64 (7*k_8)).toNat (IntKind.bits IntKind.i64))))))),((w64 ((w64 (at_1+k_8))+1)),true))
   else
   bif (decide ((w64 (n_7+(w64 (((w64 (bt text_0 (w64 (at_1+k_8)))).tmod 128)*(2 ^ (Min.min (w64 (7*k_8)).toNat (IntKind.bits IntKind.i64))))))) > 1000000000)) then
    some (0,(0,false))
   else
    some ((w64 (n_7+(w64 (((w64 (bt text_0 (w64 (at_1+k_8)))).tmod 128)*(2 ^ (Min.min (w64 (7*k_8)).toNat (IntKind.bits IntKind.i64))))))),((w64 ((w64 (at_1+k_8))+1)),true))
  else
   k (.c0 text_0 at_1 (w64 (n_7+(w64 (((w64 (bt text_0 (w64 (at_1+k_8)))).tmod 128)*(2 ^ (Min.min (w64 (7*k_8)).toNat (IntKind.bits IntKind.i64))))))) (w64 (k_8+1)))
  else none
  else none
  else
  some (0,(0,false))
 else
  some (0,(0,false))
noncomputable def L_impl_ReadVar:Nat→Qe→Option (Int×Int×Bool)
 | 0,_=>none
 | m+1,s=>B_impl_ReadVar impl_in (L_impl_ReadVar m) s
noncomputable def impl_ReadVar:XZ:=E_impl_ReadVar impl_in (L_impl_ReadVar gas)
theorem Ri:Tells ctx PP 172 cv15 cv58 (fun a=>impl_ReadVar a.1 a.2):=
 have b:∀ z0,CutIs ctx PP 172 Tryz.f172 [] [(47,JY z0)] cv58 Hw (B_impl_ReadVar z0):=fun z0 _ s=>by cases s <;> kernel_rfl
 have e:∀ z0,EntryIs ctx PP 172 [] [(47,JY z0)] cv15 cv58 Hw (fun k a=>E_impl_ReadVar z0 k a.1 a.2):=fun z0 _ a=>by kernel_rfl
 fn_ok (hc QY hl_nil) Tryz.func172 (fun s s' h=>by cases s;cases s';cases h;rfl) (fun _=>rfl) (fun _ _=>rfl) (b impl_in) (e impl_in) gas
noncomputable def Ue {γ:Type} (F:XZ):Hd ctx γ:=hdl cv15.dec (fun a=>F a.1 a.2) cv58.enc
abbrev Si:=ByteArray→Option ((List ByteArray)×Int)
inductive Ve where
 | c0 (file_0:ByteArray) (at_5:Int) (out_4:(List ByteArray))
noncomputable def Iw:Ve→LI
 | .c0 file_0 at_5 out_4=>(tdo Tryz.f145 496,[(0,[.one (.str file_0)]),(4,[.one (.own 304)]),(5,[.one (.int .i64 at_5)])],[(304,.sl 9 out_4)])
noncomputable def E_impl_Unframe (z0:XZ) (z1:TT) (z2:Qd) (z3:IZ) (k:Ve→Option ((List ByteArray)×Int)) (file_0:ByteArray):Option ((List ByteArray)×Int):=
 bif (decide ((file_0.size:Int) > 20000)) then
 some ([],0)
 else
 k (.c0 file_0 0 [])
noncomputable def B_impl_Unframe (z0:XZ) (z1:TT) (z2:Qd) (z3:IZ) (k:Ve→Option ((List ByteArray)×Int)):Ve→Option ((List ByteArray)×Int)
 | .c0 file_0 at_5 out_4=>
 (z0 file_0 at_5).bind fun r0=>
 bif (!r0.2.2) then
  some (out_4,at_5)
 else
  (z1 r0.1 1 9000).bind fun r1=>
  bif (!r1) then
  some (out_4,at_5)
  else
  bif (decide (r0.1 > (w64 ((w64 ((file_0.size:Int) - r0.2.1)) - 4)))) then
   some (out_4,at_5)
  else
   bif (((decide (0≤(w64 (r0.2.1+4)))) && (decide ((w64 (r0.2.1+4))≤(w64 ((w64 (r0.2.1+4))+r0.1))))) && (decide ((w64 ((w64 (r0.2.1+4))+r0.1))≤(file_0.size:Int)))) then
   bif (((decide (0≤r0.2.1)) && (decide (r0.2.1≤(w64 (r0.2.1+4))))) && (decide ((w64 (r0.2.1+4))≤(file_0.size:Int)))) then
   (z2 (file_0.extract (w64 (r0.2.1+4)).toNat (w64 ((w64 (r0.2.1+4))+r0.1)).toNat)).bind fun r2=>
   (z3 r2).bind fun r3=>
   bif (!((ByteArray.toList (file_0.extract r0.2.1.toNat (w64 (r0.2.1+4)).toNat)) == (ByteArray.toList r3))) then
   some (out_4,at_5)
   else
   bif (decide (((out_4.length+1)*16)≤140737488355328)) then
   k (.c0 file_0 (w64 ((w64 (r0.2.1+4))+r0.1)) (out_4++[(file_0.extract (w64 (r0.2.1+4)).toNat (w64 ((w64 (r0.2.1+4))+r0.1)).toNat)]))
   else none
   else none
   else none
noncomputable def L_impl_Unframe:Nat→Ve→Option ((List ByteArray)×Int)
 | 0,_=>none
 | m+1,s=>B_impl_Unframe impl_ReadVar impl_in impl_SumOf impl_fourBytes (L_impl_Unframe m) s
noncomputable def impl_Unframe:Si:=E_impl_Unframe impl_ReadVar impl_in impl_SumOf impl_fourBytes (L_impl_Unframe gas)
theorem P7:Tells ctx PP 145 cv9 cv59 (fun a=>impl_Unframe a):=
 have b:∀ z0 z1 z2 z3,CutIs ctx PP 145 Tryz.f145 [] [(172,Ue z0),(47,JY z1),(154,Pm z2),(107,Qa z3)] cv59 Iw (B_impl_Unframe z0 z1 z2 z3):=fun z0 z1 z2 z3 _ s=>by cases s <;> kernel_rfl
 have e:∀ z0 z1 z2 z3,EntryIs ctx PP 145 [] [(172,Ue z0),(47,JY z1),(154,Pm z2),(107,Qa z3)] cv9 cv59 Iw (fun k a=>E_impl_Unframe z0 z1 z2 z3 k a):=fun z0 z1 z2 z3 _ a=>by kernel_rfl
 fn_ok (hc Ri (hc QY (hc Wu (hc Jh hl_nil)))) Tryz.func145 (fun s s' h=>by cases s;cases s';cases h;rfl) (fun _=>rfl) (fun _ _=>rfl) (b impl_ReadVar impl_in impl_SumOf impl_fourBytes) (e impl_ReadVar impl_in impl_SumOf impl_fourBytes) gas
noncomputable def Jw {γ:Type} (F:Si):Hd ctx γ:=hdl cv9.dec (fun a=>F a) cv59.enc
abbrev Ti:=ByteArray→Int→ByteArray→Option (ByteArray×Bool)
noncomputable def E_impl_OpenText (z0:Vh) (z1:Xh) (z2:Wh) (key_0:ByteArray) (num_1:Int) (text_2:ByteArray):Option (ByteArray×Bool):=
 bif (decide ((w64 ((text_2.size:Int) - 16))<0)) then
 some (⟨#[]⟩,false)
 else
 (z0 key_0 num_1 (w64 ((text_2.size:Int) - 16))).bind fun r0=>
 bif (!r0.2) then
  some (⟨#[]⟩,false)
 else
  bif ((decide (0≤(w64 ((text_2.size:Int) - 16)))) && (decide ((w64 ((text_2.size:Int) - 16))≤(text_2.size:Int)))) then
  (z1 key_0 num_1 (text_2.extract 0 (w64 ((text_2.size:Int) - 16)).toNat)).bind fun r1=>
  bif ((decide (0≤(w64 ((text_2.size:Int) - 16)))) && (decide ((w64 ((text_2.size:Int) - 16))≤(text_2.size:Int)))) then
  bif (!((ByteArray.toList r1) == (ByteArray.toList (text_2.extract (w64 ((text_2.size:Int) - 16)).toNat text_2.size)))) then
  some (⟨#[]⟩,false)
  else
  bif ((decide (0≤(w64 ((text_2.size:Int) - 16)))) && (decide ((w64 ((text_2.size:Int) - 16))≤(text_2.size:Int)))) then
  (z2 (text_2.extract 0 (w64 ((text_2.size:Int) - 16)).toNat) r0.1).bind fun r2=>
  some (r2,true)
  else none
  else none
  else none
noncomputable def impl_OpenText:Ti:=E_impl_OpenText impl_Mask impl_tag impl_both
theorem Q7:Tells ctx PP 125 cv31 cv26 (fun a=>impl_OpenText a.1 a.2.1 a.2.2):=fn_ok0 (hc Ku (hc Ru (hc Ou hl_nil))) Tryz.func125 ((fun z0 z1 z2 a=>by kernel_rfl:∀ z0 z1 z2,EntryIs0 ctx PP 125 [] [(151,Lu z0),(153,Uu z1),(152,Qu z2)] cv31 cv26 fun a=>E_impl_OpenText z0 z1 z2 a.1 a.2.1 a.2.2) impl_Mask impl_tag impl_both)
noncomputable def Kw {γ:Type} (F:Ti):Hd ctx γ:=hdl cv31.dec (fun a=>F a.1 a.2.1 a.2.2) cv26.enc
abbrev Un:=SFields→Option (Int×SFields)
noncomputable def E_impl_fields_num (z0:XZ) (f_0:SFields):Option (Int×SFields):=
 (z0 f_0.fText f_0.fAt).bind fun r0=>
 bif (!r0.2.2) then
 some (0,⟨f_0.fText,f_0.fAt,true⟩)
 else
 some (r0.1,⟨f_0.fText,r0.2.1,f_0.fBad⟩)
noncomputable def impl_fields_num:Un:=E_impl_fields_num impl_ReadVar
theorem U7:Tells ctx PP 128 cv60 cv61 (fun a=>impl_fields_num a):=fn_ok0 (hc Ri hl_nil) Tryz.func128 ((fun z0 a=>by kernel_rfl:∀ z0,EntryIs0 ctx PP 128 [0] [(172,Ue z0)] cv60 cv61 fun a=>E_impl_fields_num z0 a) impl_ReadVar)
noncomputable def V7 {γ:Type} (F:Un):Hd ctx γ:=hdl cv60.dec (fun a=>F a) cv61.enc
abbrev Wn:=ByteArray→Int→Option (ByteArray×Int×Bool)
noncomputable def E_impl_ReadShort (z0:XZ) (text_0:ByteArray) (at_1:Int):Option (ByteArray×Int×Bool):=
 (z0 text_0 at_1).bind fun r0=>
 bif (!r0.2.2) then
 some (⟨#[]⟩,(0,false))
 else
 bif (decide (r0.1 > 20000)) then
  some (⟨#[]⟩,(0,false))
 else
  bif (decide (r0.1 > (w64 ((text_0.size:Int) - r0.2.1)))) then
  some (⟨#[]⟩,(0,false))
  else
  bif (((decide (0≤r0.2.1)) && (decide (r0.2.1≤(w64 (r0.2.1+r0.1))))) && (decide ((w64 (r0.2.1+r0.1))≤(text_0.size:Int)))) then
  some ((text_0.extract r0.2.1.toNat (w64 (r0.2.1+r0.1)).toNat),((w64 (r0.2.1+r0.1)),true))
  else none
noncomputable def impl_ReadShort:Wn:=E_impl_ReadShort impl_ReadVar
theorem X7:Tells ctx PP 126 cv15 cv62 (fun a=>impl_ReadShort a.1 a.2):=fn_ok0 (hc Ri hl_nil) Tryz.func126 ((fun z0 a=>by kernel_rfl:∀ z0,EntryIs0 ctx PP 126 [] [(172,Ue z0)] cv15 cv62 fun a=>E_impl_ReadShort z0 a.1 a.2) impl_ReadVar)
noncomputable def Y7 {γ:Type} (F:Wn):Hd ctx γ:=hdl cv15.dec (fun a=>F a.1 a.2) cv62.enc
abbrev Xn:=SFields→Option (ByteArray×SFields)
noncomputable def E_impl_fields_short (z0:Wn) (f_0:SFields):Option (ByteArray×SFields):=
 (z0 f_0.fText f_0.fAt).bind fun r0=>
 bif (!r0.2.2) then
 some (⟨#[]⟩,⟨f_0.fText,f_0.fAt,true⟩)
 else
 some (r0.1,⟨f_0.fText,r0.2.1,f_0.fBad⟩)
noncomputable def impl_fields_short:Xn:=E_impl_fields_short impl_ReadShort
theorem Z7:Tells ctx PP 129 cv60 cv63 (fun a=>impl_fields_short a):=fn_ok0 (hc X7 hl_nil) Tryz.func129 ((fun z0 a=>by kernel_rfl:∀ z0,EntryIs0 ctx PP 129 [0] [(126,Y7 z0)] cv60 cv63 fun a=>E_impl_fields_short z0 a) impl_ReadShort)
noncomputable def A8 {γ:Type} (F:Xn):Hd ctx γ:=hdl cv60.dec (fun a=>F a) cv63.enc
abbrev Yn:=ByteArray→Option (SThing×Bool)
noncomputable def E_impl_ReadThing (z0:Un) (z1:Xn) (z2:Rh) (text_0:ByteArray):Option (SThing×Bool):=
 (z0 ⟨text_0,0,false⟩).bind fun r0=>
 (z0 r0.2).bind fun r1=>
 (z0 r1.2).bind fun r2=>
 (z1 r2.2).bind fun r3=>
 (z0 r3.2).bind fun r4=>
 (z2 ⟨r0.1,r1.1,((w64 (((BitVec.toNat ((BitVec.ofInt (IntKind.bits IntKind.i64) r2.1) &&& (BitVec.ofInt (IntKind.bits IntKind.i64) 1))):Nat):Int)) != 0),((w64 (((BitVec.toNat ((BitVec.ofInt (IntKind.bits IntKind.i64) r2.1) &&& (BitVec.ofInt (IntKind.bits IntKind.i64) 2))):Nat):Int)) != 0),((w64 (((BitVec.toNat ((BitVec.ofInt (IntKind.bits IntKind.i64) r2.1) &&& (BitVec.ofInt (IntKind.bits IntKind.i64) 4))):Nat):Int)) != 0),((w64 (((BitVec.toNat ((BitVec.ofInt (IntKind.bits IntKind.i64) r2.1) &&& (BitVec.ofInt (IntKind.bits IntKind.i64) 8))):Nat):Int)) != 0),r3.1,r4.1⟩).bind fun r5=>
 bif r4.2.fBad then
 some (⟨0,0,false,false,false,false,⟨#[]⟩,0⟩,false)
 else
 bif (!r5.2) then
  some (⟨0,0,false,false,false,false,⟨#[]⟩,0⟩,false)
 else
  bif (!((ByteArray.toList r5.1) == (ByteArray.toList text_0))) then
  some (⟨0,0,false,false,false,false,⟨#[]⟩,0⟩,false)
  else
  some (⟨r0.1,r1.1,((w64 (((BitVec.toNat ((BitVec.ofInt (IntKind.bits IntKind.i64) r2.1) &&& (BitVec.ofInt (IntKind.bits IntKind.i64) 1))):Nat):Int)) != 0),((w64 (((BitVec.toNat ((BitVec.ofInt (IntKind.bits IntKind.i64) r2.1) &&& (BitVec.ofInt (IntKind.bits IntKind.i64) 2))):Nat):Int)) != 0),((w64 (((BitVec.toNat ((BitVec.ofInt (IntKind.bits IntKind.i64) r2.1) &&& (BitVec.ofInt (IntKind.bits IntKind.i64) 4))):Nat):Int)) != 0),((w64 (((BitVec.toNat ((BitVec.ofInt (IntKind.bits IntKind.i64) r2.1) &&& (BitVec.ofInt (IntKind.bits IntKind.i64) 8))):Nat):Int)) != 0),r3.1,r4.1⟩,true)
noncomputable def impl_ReadThing:Yn:=E_impl_ReadThing impl_fields_num impl_fields_short impl_ThingText
theorem D8:Tells ctx PP 85 cv9 cv64 (fun a=>impl_ReadThing a):=fn_ok0 (hc U7 (hc Z7 (hc Du hl_nil))) Tryz.func85 ((fun z0 z1 z2 a=>by kernel_rfl:∀ z0 z1 z2,EntryIs0 ctx PP 85 [] [(128,V7 z0),(129,A8 z1),(90,Eu z2)] cv9 cv64 fun a=>E_impl_ReadThing z0 z1 z2 a) impl_fields_num impl_fields_short impl_ThingText)
noncomputable def E8 {γ:Type} (F:Yn):Hd ctx γ:=hdl cv9.dec (fun a=>F a) cv64.enc
abbrev Ui:=ByteArray→Option (SRec×Bool)
noncomputable def E_impl_ReadRec (z0:Yn) (z1:XZ) (z2:Ad) (text_0:ByteArray):Option (SRec×Bool):=
 bif ((ByteArray.toList text_0) == (ByteArray.toList ⟨#[]⟩)) then
 some (⟨0,⟨#[]⟩,0,⟨0,0,false,false,false,false,⟨#[]⟩,0⟩⟩,false)
 else
 bif ((decide ((0:Int)≤(0:Int))) && (decide (0<(text_0.size:Int)))) then
 bif ((w64 (bt text_0 0)) == 1) then
  bif ((decide ((0:Int)≤(1:Int))) && (decide (1≤(text_0.size:Int)))) then
  (z2 ⟨(w64 (bt text_0 0)),(text_0.extract (1:Int).toNat text_0.size),0,⟨0,0,false,false,false,false,⟨#[]⟩,0⟩⟩).bind fun r0=>
  bif (!r0.2) then
  some (⟨0,⟨#[]⟩,0,⟨0,0,false,false,false,false,⟨#[]⟩,0⟩⟩,false)
  else
  bif (!((ByteArray.toList r0.1) == (ByteArray.toList text_0))) then
   some (⟨0,⟨#[]⟩,0,⟨0,0,false,false,false,false,⟨#[]⟩,0⟩⟩,false)
  else
   some (⟨(w64 (bt text_0 0)),(text_0.extract (1:Int).toNat text_0.size),0,⟨0,0,false,false,false,false,⟨#[]⟩,0⟩⟩,true)
  else none
 else
  bif ((w64 (bt text_0 0)) == 3) then
  bif ((decide ((0:Int)≤(1:Int))) && (decide (1≤(text_0.size:Int)))) then
  (z0 (text_0.extract (1:Int).toNat text_0.size)).bind fun r1=>
  (z2 ⟨(w64 (bt text_0 0)),⟨#[]⟩,0,r1.1⟩).bind fun r2=>
  bif (!r2.2) then
   some (⟨0,⟨#[]⟩,0,⟨0,0,false,false,false,false,⟨#[]⟩,0⟩⟩,false)
  else
   bif (!((ByteArray.toList r2.1) == (ByteArray.toList text_0))) then
   some (⟨0,⟨#[]⟩,0,⟨0,0,false,false,false,false,⟨#[]⟩,0⟩⟩,false)
   else
   some (⟨(w64 (bt text_0 0)),⟨#[]⟩,0,r1.1⟩,true)
  else none
  else
  (z1 text_0 1).bind fun r3=>
  (z2 ⟨(w64 (bt text_0 0)),⟨#[]⟩,r3.1,⟨0,0,false,false,false,false,⟨#[]⟩,0⟩⟩).bind fun r4=>
  bif (!r4.2) then
   some (⟨0,⟨#[]⟩,0,⟨0,0,false,false,false,false,⟨#[]⟩,0⟩⟩,false)
  else
   bif (!((ByteArray.toList r4.1) == (ByteArray.toList text_0))) then
   some (⟨0,⟨#[]⟩,0,⟨0,0,false,false,false,false,⟨#[]⟩,0⟩⟩,false)
   else
   some (⟨(w64 (bt text_0 0)),⟨#[]⟩,r3.1,⟨0,0,false,false,false,false,⟨#[]⟩,0⟩⟩,true)
 else none
noncomputable def impl_ReadRec:Ui:=E_impl_ReadRec impl_ReadThing impl_ReadVar impl_RecText
theorem F8:Tells ctx PP 146 cv9 cv65 (fun a=>impl_ReadRec a):=fn_ok0 (hc D8 (hc Ri (hc Cm hl_nil))) Tryz.func146 ((fun z0 z1 z2 a=>by kernel_rfl:∀ z0 z1 z2,EntryIs0 ctx PP 146 [] [(85,E8 z0),(172,Ue z1),(112,Em z2)] cv9 cv65 fun a=>E_impl_ReadRec z0 z1 z2 a) impl_ReadThing impl_ReadVar impl_RecText)
noncomputable def Nw {γ:Type} (F:Ui):Hd ctx γ:=hdl cv9.dec (fun a=>F a) cv65.enc
abbrev Wi:=ByteArray→ByteArray→Option ((List SRec)×Int)
inductive Xe where
 | c0 (key_0:ByteArray) (at_9:Int) (v_24:Int) (v_25:Int) (out_8:(List SRec)) (v_23:(List ByteArray))
noncomputable def Qw:Xe→LI
 | .c0 key_0 at_9 v_24 v_25 out_8 v_23=>(tdo Tryz.f98 1000,[(0,[.one (.str key_0)]),(8,[.one (.own 560)]),(9,[.one (.int .i64 at_9)]),(23,[.one (.own 1520)]),(24,[.one (.int .i64 v_24)]),(25,[.one (.int .i64 v_25)])],[(560,.sl 73 out_8),(1520,.sl 9 v_23)])
noncomputable def E_impl_ReadBook (z0:Si) (z1:Ti) (z2:Ui) (z3:Td) (k:Xe→Option ((List SRec)×Int)) (key_0:ByteArray) (file_1:ByteArray):Option ((List SRec)×Int):=
 (z0 file_1).bind fun r0=>
 k (.c0 key_0 0 (r0.1.length:Int) 0 [] r0.1)
noncomputable def B_impl_ReadBook (z0:Si) (z1:Ti) (z2:Ui) (z3:Td) (k:Xe→Option ((List SRec)×Int)):Xe→Option ((List SRec)×Int)
 | .c0 key_0 at_9 v_24 v_25 out_8 v_23=>
 bif (decide (v_25<v_24)) then
  bif ((decide (0≤v_25)) && (decide (v_25<(v_23.length:Int)))) then
  (z1 key_0 (w64 (v_25+1)) (v_23.getD v_25.toNat (⟨#[]⟩:ByteArray))).bind fun r0=>
  (z2 r0.1).bind fun r1=>
  bif (!r0.2) then
  some (out_8,at_9)
  else
  bif (!r1.2) then
   some (out_8,at_9)
  else
   bif (decide (((out_8.length+1)*80)≤140737488355328)) then
   (z3 (v_23.getD v_25.toNat (⟨#[]⟩:ByteArray))).bind fun r2=>
   k (.c0 key_0 (w64 (at_9+(r2.1.size:Int))) v_24 (w64 (v_25+1)) (out_8++[r1.1]) v_23)
   else none
  else none
 else
  some (out_8,at_9)
noncomputable def L_impl_ReadBook:Nat→Xe→Option ((List SRec)×Int)
 | 0,_=>none
 | m+1,s=>B_impl_ReadBook impl_Unframe impl_OpenText impl_ReadRec impl_Frame (L_impl_ReadBook m) s
noncomputable def impl_ReadBook:Wi:=E_impl_ReadBook impl_Unframe impl_OpenText impl_ReadRec impl_Frame (L_impl_ReadBook gas)
theorem Rw:Tells ctx PP 98 cv29 cv66 (fun a=>impl_ReadBook a.1 a.2):=
 have b:∀ z0 z1 z2 z3,CutIs ctx PP 98 Tryz.f98 [] [(145,Jw z0),(125,Kw z1),(146,Nw z2),(114,Qm z3)] cv66 Qw (B_impl_ReadBook z0 z1 z2 z3):=fun z0 z1 z2 z3 _ s=>by cases s <;> kernel_rfl
 have e:∀ z0 z1 z2 z3,EntryIs ctx PP 98 [] [(145,Jw z0),(125,Kw z1),(146,Nw z2),(114,Qm z3)] cv29 cv66 Qw (fun k a=>E_impl_ReadBook z0 z1 z2 z3 k a.1 a.2):=fun z0 z1 z2 z3 _ a=>by kernel_rfl
 fn_ok (hc P7 (hc Q7 (hc F8 (hc Xu hl_nil)))) Tryz.func98 (fun s s' h=>by cases s;cases s';cases h;rfl) (fun _=>rfl) (fun _ _=>rfl) (b impl_Unframe impl_OpenText impl_ReadRec impl_Frame) (e impl_Unframe impl_OpenText impl_ReadRec impl_Frame) gas
noncomputable def Uw {γ:Type} (F:Wi):Hd ctx γ:=hdl cv29.dec (fun a=>F a.1 a.2) cv66.enc
abbrev Zn:=SBook→(List SRec)→Option (SBook×Bool)
inductive Ye where
 | c0 (v_13:(List SRec)) (v_14:Int) (v_15:Int) (v_4c0:ByteArray) (v_4c1:Int) (v_4c3:Int) (v_4c4:ByteArray) (v_4c5:Int) (out_6c0:ByteArray) (out_6c1:Int) (out_6c3:Int) (out_6c4:ByteArray) (out_6c5:Int) (v_4r2:(List SThing)) (out_6r2:(List SThing))
noncomputable def Vw:Ye→LI
 | .c0 v_13 v_14 v_15 v_4c0 v_4c1 v_4c3 v_4c4 v_4c5 out_6c0 out_6c1 out_6c3 out_6c4 out_6c5 v_4r2 out_6r2=>(tdo Tryz.f99 232,[(4,[.one (.ptr 256 0)]),(6,[.one (.ptr 384 0)]),(13,[.one (.rsl 73 v_13)]),(14,[.one (.int .i64 v_14)]),(15,[.one (.int .i64 v_15)])],[(256,.var [.str v_4c0,.int .i64 v_4c1,.own 1016386,.int .i64 v_4c3,.str v_4c4,.int .i64 v_4c5]),(384,.var [.str out_6c0,.int .i64 out_6c1,.own 1024578,.int .i64 out_6c3,.str out_6c4,.int .i64 out_6c5]),(1016386,.sl 71 v_4r2),(1024578,.sl 71 out_6r2)])
noncomputable def E_impl_EnterAll (z0:Eb) (z1:Je) (k:Ye→Option (SBook×Bool)) (b_0:SBook) (list_1:(List SRec)):Option (SBook×Bool):=
 (z0 b_0).bind fun r0=>
 k (.c0 list_1 (list_1.length:Int) 0 ⟨#[]⟩ 0 0 ⟨#[]⟩ 0 r0.fWord r0.fTries r0.fLast r0.fChain r0.fCount [] r0.fThings)
noncomputable def B_impl_EnterAll (z0:Eb) (z1:Je) (k:Ye→Option (SBook×Bool)):Ye→Option (SBook×Bool)
 | .c0 v_13 v_14 v_15 v_4c0 v_4c1 v_4c3 v_4c4 v_4c5 out_6c0 out_6c1 out_6c3 out_6c4 out_6c5 v_4r2 out_6r2=>
 bif (decide (v_15<v_14)) then
  bif ((decide (0≤v_15)) && (decide (v_15<(v_13.length:Int)))) then
  (z1 ⟨out_6c0,out_6c1,out_6r2,out_6c3,out_6c4,out_6c5⟩ (v_13.getD v_15.toNat (⟨0,⟨#[]⟩,0,⟨0,0,false,false,false,false,⟨#[]⟩,0⟩⟩:SRec))).bind fun r0=>
  bif (!r0.2) then
  some (⟨⟨#[]⟩,0,[],0,⟨#[]⟩,0⟩,false)
  else
  k (.c0 v_13 v_14 (w64 (v_15+1)) v_4c0 v_4c1 v_4c3 v_4c4 v_4c5 r0.1.fWord r0.1.fTries r0.1.fLast r0.1.fChain r0.1.fCount v_4r2 r0.1.fThings)
  else none
 else
  some (⟨out_6c0,out_6c1,out_6r2,out_6c3,out_6c4,out_6c5⟩,true)
noncomputable def L_impl_EnterAll:Nat→Ye→Option (SBook×Bool)
 | 0,_=>none
 | m+1,s=>B_impl_EnterAll impl_copyBook impl_Enter (L_impl_EnterAll m) s
noncomputable def impl_EnterAll:Zn:=E_impl_EnterAll impl_copyBook impl_Enter (L_impl_EnterAll gas)
theorem G8:Tells ctx PP 99 cv67 cv50 (fun a=>impl_EnterAll a.1 a.2):=
 have b:∀ z0 z1,CutIs ctx PP 99 Tryz.f99 [] [(116,Ei z0),(71,Qn z1)] cv50 Vw (B_impl_EnterAll z0 z1):=fun z0 z1 _ s=>by cases s <;> kernel_rfl
 have e:∀ z0 z1,EntryIs ctx PP 99 [] [(116,Ei z0),(71,Qn z1)] cv67 cv50 Vw (fun k a=>E_impl_EnterAll z0 z1 k a.1 a.2):=fun z0 z1 _ a=>by kernel_rfl
 fn_ok (hc Zm (hc Sv hl_nil)) Tryz.func99 (fun s s' h=>by cases s;cases s';cases h;rfl) (fun _=>rfl) (fun _ _=>rfl) (b impl_copyBook impl_Enter) (e impl_copyBook impl_Enter) gas
noncomputable def H8 {γ:Type} (F:Zn):Hd ctx γ:=hdl cv67.dec (fun a=>F a.1 a.2) cv50.enc
abbrev Ze:=ByteArray→SDisk→Option (SBook×(List SAct)×Bool)
noncomputable def E_impl_Mount (z0:Qi) (z1:Wi) (z2:VZ) (z3:Zn) (z4:LZ) (z5:Za) (key_0:ByteArray) (d_1:SDisk):Option (SBook×(List SAct)×Bool):=
 (z0 d_1 ⟨#[98,111,111,107]⟩).bind fun r0=>
 (z1 key_0 r0.1).bind fun r1=>
 z2.bind fun r2=>
 (z3 r2 r1.1).bind fun r3=>
 (z4 d_1).bind fun r4=>
 bif (!r4) then
 some (⟨⟨#[]⟩,0,[],0,⟨#[]⟩,0⟩,([],false))
 else
 bif (!r3.2) then
  some (⟨⟨#[]⟩,0,[],0,⟨#[]⟩,0⟩,([],false))
 else
  (z5 d_1 ⟨#[98,111,111,107,43]⟩).bind fun r5=>
  bif (decide (r5≥0)) then
  bif (r1.2 == (r0.1.size:Int)) then
   some (r3.1,([⟨4,⟨#[98,111,111,107,43]⟩,⟨#[]⟩,⟨#[]⟩⟩],true))
  else
   bif ((decide (0≤r1.2)) && (decide (r1.2≤(r0.1.size:Int)))) then
   some (r3.1,(([(⟨4,⟨#[98,111,111,107,43]⟩,⟨#[]⟩,⟨#[]⟩⟩:SAct)]++[(⟨1,⟨#[98,111,111,107,43]⟩,(r0.1.extract 0 r1.2.toNat),⟨#[]⟩⟩:SAct),(⟨2,⟨#[98,111,111,107,43]⟩,⟨#[]⟩,⟨#[]⟩⟩:SAct),(⟨3,⟨#[98,111,111,107,43]⟩,⟨#[]⟩,⟨#[98,111,111,107]⟩⟩:SAct)]),true))
   else none
  else
  bif (r1.2 == (r0.1.size:Int)) then
   some (r3.1,([],true))
  else
   bif ((decide (0≤r1.2)) && (decide (r1.2≤(r0.1.size:Int)))) then
   some (r3.1,([⟨1,⟨#[98,111,111,107,43]⟩,(r0.1.extract 0 r1.2.toNat),⟨#[]⟩⟩,⟨2,⟨#[98,111,111,107,43]⟩,⟨#[]⟩,⟨#[]⟩⟩,⟨3,⟨#[98,111,111,107,43]⟩,⟨#[]⟩,⟨#[98,111,111,107]⟩⟩],true))
   else none
noncomputable def impl_Mount:Ze:=E_impl_Mount impl_FileAt impl_ReadBook impl_BookNew impl_EnterAll impl_DiskOk impl_fileAt
theorem Xw:Tells ctx PP 49 cv68 cv69 (fun a=>impl_Mount a.1 a.2):=fn_ok0 (hc Ew (hc Rw (hc Ph (hc G8 (hc Ci (hc Zh hl_nil)))))) Tryz.func49 ((fun z0 z1 z2 z3 z4 z5 a=>by kernel_rfl:∀ z0 z1 z2 z3 z4 z5,EntryIs0 ctx PP 49 [] [(97,Gw z0),(98,Uw z1),(32,Tc z2),(99,H8 z3),(46,Cb z4),(100,Ai z5)] cv68 cv69 fun a=>E_impl_Mount z0 z1 z2 z3 z4 z5 a.1 a.2) impl_FileAt impl_ReadBook impl_BookNew impl_EnterAll impl_DiskOk impl_fileAt)
noncomputable def Bo {γ:Type} (F:Ze):Hd ctx γ:=hdl cv68.dec (fun a=>F a.1 a.2) cv69.enc
abbrev MZ:=SBook→Int→Option (SThing×Bool)
noncomputable def E_impl_ThingOf (z0:He) (b_0:SBook) (id_1:Int):Option (SThing×Bool):=
 (z0 b_0 id_1).bind fun r0=>
 bif (decide (r0<0)) then
 some (⟨0,0,false,false,false,false,⟨#[]⟩,0⟩,false)
 else
 bif ((decide (0≤r0)) && (decide (r0<(b_0.fThings.length:Int)))) then
 some ((b_0.fThings.getD r0.toNat (⟨0,0,false,false,false,false,⟨#[]⟩,0⟩:SThing)),true)
 else none
noncomputable def impl_ThingOf:MZ:=E_impl_ThingOf impl_thingAt
theorem Xi:Tells ctx PP 44 cv45 cv64 (fun a=>impl_ThingOf a.1 a.2):=fn_ok0 (hc Dn hl_nil) Tryz.func44 ((fun z0 a=>by kernel_rfl:∀ z0,EntryIs0 ctx PP 44 [] [(87,En z0)] cv45 cv64 fun a=>E_impl_ThingOf z0 a.1 a.2) impl_thingAt)
noncomputable def Fb {γ:Type} (F:MZ):Hd ctx γ:=hdl cv45.dec (fun a=>F a.1 a.2) cv64.enc
abbrev Yi:=SBox→Option Bool
inductive Af where
 | c0 (v_8:(List SLive)) (v_9:Int) (v_10:Int) (b_1:SBox)
noncomputable def Yw:Af→LI
 | .c0 v_8 v_9 v_10 b_1=>(tdo Tryz.f51 104,[(1,[.one (.ptr 64 0)]),(8,[.one (.rsl 159 v_8)]),(9,[.one (.int .i64 v_9)]),(10,[.one (.int .i64 v_10)])],[(64,.var [.str b_1.fKey,.bool b_1.fUp,.rsl 148 b_1.fDisk.fFiles,.str b_1.fBook.fWord,.int .i64 b_1.fBook.fTries,.rsl 71 b_1.fBook.fThings,.int .i64 b_1.fBook.fLast,.str b_1.fBook.fChain,.int .i64 b_1.fBook.fCount,.rsl 88 b_1.fSessions,.rsl 159 b_1.fLives,.int .i64 b_1.fOpened])])
noncomputable def E_impl_livesOk (z0:MZ) (z1:TT) (k:Af→Option Bool) (b_0:SBox):Option Bool:=
 k (.c0 b_0.fLives (b_0.fLives.length:Int) 0 b_0)
noncomputable def B_impl_livesOk (z0:MZ) (z1:TT) (k:Af→Option Bool):Af→Option Bool
 | .c0 v_8 v_9 v_10 b_1=>
 bif (decide (v_10<v_9)) then
  bif ((decide (0≤v_10)) && (decide (v_10<(v_8.length:Int)))) then
  (z0 b_1.fBook (v_8.getD v_10.toNat (⟨0,0⟩:SLive)).fId).bind fun r0=>
  bif (!r0.2) then
  some false
  else
  bif (r0.1.fKind != 2) then
   some false
  else
   (z1 (v_8.getD v_10.toNat (⟨0,0⟩:SLive)).fNext 0 r0.1.fNext).bind fun r1=>
   bif (!r1) then
   some false
   else
   bif (decide (v_10 > 0)) then
    bif ((decide (0≤(w64 (v_10 - 1)))) && (decide ((w64 (v_10 - 1))<(b_1.fLives.length:Int)))) then
    bif (decide ((b_1.fLives.getD (w64 (v_10 - 1)).toNat (⟨0,0⟩:SLive)).fId≥(v_8.getD v_10.toNat (⟨0,0⟩:SLive)).fId)) then
    some false
    else
    k (.c0 v_8 v_9 (w64 (v_10+1)) b_1)
    else none
   else
    k (.c0 v_8 v_9 (w64 (v_10+1)) b_1)
  else none
 else
  some true
noncomputable def L_impl_livesOk:Nat→Af→Option Bool
 | 0,_=>none
 | m+1,s=>B_impl_livesOk impl_ThingOf impl_in (L_impl_livesOk m) s
noncomputable def impl_livesOk:Yi:=E_impl_livesOk impl_ThingOf impl_in (L_impl_livesOk gas)
theorem I8:Tells ctx PP 51 cv70 cv1 (fun a=>impl_livesOk a):=
 have b:∀ z0 z1,CutIs ctx PP 51 Tryz.f51 [] [(44,Fb z0),(47,JY z1)] cv1 Yw (B_impl_livesOk z0 z1):=fun z0 z1 _ s=>by cases s <;> kernel_rfl
 have e:∀ z0 z1,EntryIs ctx PP 51 [] [(44,Fb z0),(47,JY z1)] cv70 cv1 Yw (fun k a=>E_impl_livesOk z0 z1 k a):=fun z0 z1 _ a=>by kernel_rfl
 fn_ok (hc Xi (hc QY hl_nil)) Tryz.func51 (fun s s' h=>by cases s;cases s';(repeat cases ‹SBox›);(repeat cases ‹SDisk›);(repeat cases ‹SBook›);cases h;rfl) (fun _=>rfl) (fun _ _=>rfl) (b impl_ThingOf impl_in) (e impl_ThingOf impl_in) gas
noncomputable def Zw {γ:Type} (F:Yi):Hd ctx γ:=hdl cv70.dec (fun a=>F a) cv1.enc
abbrev Zi:=SBox→Option Bool
inductive Bf where
 | c0 (v_44:(List SSession)) (v_45:Int) (v_46:Int) (b_1:SBox)
noncomputable def Dx:Bf→LI
 | .c0 v_44 v_45 v_46 b_1=>(tdo Tryz.f15 488,[(1,[.one (.ptr 64 0)]),(44,[.one (.rsl 88 v_44)]),(45,[.one (.int .i64 v_45)]),(46,[.one (.int .i64 v_46)])],[(64,.var [.str b_1.fKey,.bool b_1.fUp,.rsl 148 b_1.fDisk.fFiles,.str b_1.fBook.fWord,.int .i64 b_1.fBook.fTries,.rsl 71 b_1.fBook.fThings,.int .i64 b_1.fBook.fLast,.str b_1.fBook.fChain,.int .i64 b_1.fBook.fCount,.rsl 88 b_1.fSessions,.rsl 159 b_1.fLives,.int .i64 b_1.fOpened])])
noncomputable def E_impl_BoxOk (z0:LZ) (z1:TT) (z2:VZ) (z3:Oi) (z4:Ze) (z5:Ee) (z6:Yi) (k:Bf→Option Bool) (b_0:SBox):Option Bool:=
 bif ((b_0.fKey.size:Int) != 32) then
 some false
 else
 (z0 b_0.fDisk).bind fun r0=>
 bif (!r0) then
  some false
 else
  (z1 b_0.fOpened 0 1000).bind fun r1=>
  bif (!r1) then
  some false
  else
  bif (!b_0.fUp) then
   bif ((b_0.fSessions.length:Int) == 0) then
   bif ((b_0.fLives.length:Int) == 0) then
    z2.bind fun r2=>
    (z3 b_0.fBook r2).bind fun r3=>
    some r3
   else
    some false
   else
   some false
  else
   k (.c0 b_0.fSessions (b_0.fSessions.length:Int) 0 b_0)
noncomputable def B_impl_BoxOk (z0:LZ) (z1:TT) (z2:VZ) (z3:Oi) (z4:Ze) (z5:Ee) (z6:Yi) (k:Bf→Option Bool):Bf→Option Bool
 | .c0 v_44 v_45 v_46 b_1=>
 bif (decide (v_46<v_45)) then
  bif ((decide (0≤v_46)) && (decide (v_46<(v_44.length:Int)))) then
  bif (decide (v_46≥3)) then
  some false
  else
  (z1 (v_44.getD v_46.toNat (⟨0,false⟩:SSession)).fId 1 b_1.fOpened).bind fun r0=>
  bif (!r0) then
   some false
  else
   bif (decide (v_46 > 0)) then
   bif ((decide (0≤(w64 (v_46 - 1)))) && (decide ((w64 (v_46 - 1))<(b_1.fSessions.length:Int)))) then
   bif (decide ((b_1.fSessions.getD (w64 (v_46 - 1)).toNat (⟨0,false⟩:SSession)).fId≥(v_44.getD v_46.toNat (⟨0,false⟩:SSession)).fId)) then
    some false
   else
    k (.c0 v_44 v_45 (w64 (v_46+1)) b_1)
   else none
   else
   k (.c0 v_44 v_45 (w64 (v_46+1)) b_1)
  else none
 else
  (z4 b_1.fKey b_1.fDisk).bind fun r1=>
  (z5 b_1.fBook).bind fun r2=>
  bif r2 then
  bif r1.2.2 then
   bif ((r1.2.1.length:Int) == 0) then
   (z3 r1.1 b_1.fBook).bind fun r3=>
   bif r3 then
    (z6 b_1).bind fun r4=>
    some r4
   else
    some false
   else
   some false
  else
   some false
  else
  some false
noncomputable def L_impl_BoxOk:Nat→Bf→Option Bool
 | 0,_=>none
 | m+1,s=>B_impl_BoxOk impl_DiskOk impl_in impl_BookNew impl_sameBook impl_Mount impl_BookOk impl_livesOk (L_impl_BoxOk m) s
noncomputable def impl_BoxOk:Zi:=E_impl_BoxOk impl_DiskOk impl_in impl_BookNew impl_sameBook impl_Mount impl_BookOk impl_livesOk (L_impl_BoxOk gas)
theorem Gx:Tells ctx PP 15 cv70 cv1 (fun a=>impl_BoxOk a):=
 have b:∀ z0 z1 z2 z3 z4 z5 z6,CutIs ctx PP 15 Tryz.f15 [] [(46,Cb z0),(47,JY z1),(32,Tc z2),(48,Dw z3),(49,Bo z4),(50,Ym z5),(51,Zw z6)] cv1 Dx (B_impl_BoxOk z0 z1 z2 z3 z4 z5 z6):=fun z0 z1 z2 z3 z4 z5 z6 _ s=>by cases s <;> kernel_rfl
 have e:∀ z0 z1 z2 z3 z4 z5 z6,EntryIs ctx PP 15 [] [(46,Cb z0),(47,JY z1),(32,Tc z2),(48,Dw z3),(49,Bo z4),(50,Ym z5),(51,Zw z6)] cv70 cv1 Dx (fun k a=>E_impl_BoxOk z0 z1 z2 z3 z4 z5 z6 k a):=fun z0 z1 z2 z3 z4 z5 z6 _ a=>by kernel_rfl
 fn_ok (hc Ci (hc QY (hc Ph (hc O7 (hc Xw (hc Ov (hc I8 hl_nil))))))) Tryz.func15 (fun s s' h=>by cases s;cases s';(repeat cases ‹SBox›);(repeat cases ‹SDisk›);(repeat cases ‹SBook›);cases h;rfl) (fun _=>rfl) (fun _ _=>rfl) (b impl_DiskOk impl_in impl_BookNew impl_sameBook impl_Mount impl_BookOk impl_livesOk) (e impl_DiskOk impl_in impl_BookNew impl_sameBook impl_Mount impl_BookOk impl_livesOk) gas
noncomputable def Ox {γ:Type} (F:Zi):Hd ctx γ:=hdl cv70.dec (fun a=>F a) cv1.enc
abbrev Eo:=SBox→Option (SBox×Bool)
noncomputable def E_impl_Rise (z0:Zi) (z1:Ze) (z2:Ae) (b_0:SBox):Option (SBox×Bool):=
 bif b_0.fUp then
 some (⟨⟨#[]⟩,false,⟨[]⟩,⟨⟨#[]⟩,0,[],0,⟨#[]⟩,0⟩,[],[],0⟩,false)
 else
 (z0 b_0).bind fun r0=>
 bif (!r0) then
  some (⟨⟨#[]⟩,false,⟨[]⟩,⟨⟨#[]⟩,0,[],0,⟨#[]⟩,0⟩,[],[],0⟩,false)
 else
  (z1 b_0.fKey b_0.fDisk).bind fun r1=>
  (z2 b_0.fDisk r1.2.1).bind fun r2=>
  bif (!r1.2.2) then
  some (⟨⟨#[]⟩,false,⟨[]⟩,⟨⟨#[]⟩,0,[],0,⟨#[]⟩,0⟩,[],[],0⟩,false)
  else
  bif (decide (r2.2<(r1.2.1.length:Int))) then
   some (⟨⟨#[]⟩,false,⟨[]⟩,⟨⟨#[]⟩,0,[],0,⟨#[]⟩,0⟩,[],[],0⟩,false)
  else
   some (⟨b_0.fKey,true,r2.1,r1.1,[],[],0⟩,true)
noncomputable def impl_Rise:Eo:=E_impl_Rise impl_BoxOk impl_Mount impl_DoActs
theorem J8:Tells ctx PP 63 cv70 cv53 (fun a=>impl_Rise a):=fn_ok0 (hc Gx (hc Xw (hc Vm hl_nil))) Tryz.func63 ((fun z0 z1 z2 a=>by kernel_rfl:∀ z0 z1 z2,EntryIs0 ctx PP 63 [] [(15,Ox z0),(49,Bo z1),(70,Xm z2)] cv70 cv53 fun a=>E_impl_Rise z0 z1 z2 a) impl_BoxOk impl_Mount impl_DoActs)
noncomputable def L8 {γ:Type} (F:Eo):Hd ctx γ:=hdl cv70.dec (fun a=>F a) cv53.enc
abbrev Ib:=SLife→Int→ByteArray→Option SLife
noncomputable def E_impl_Life_tell (l_0:SLife) (code_1:Int) (reply_2:ByteArray):Option SLife:=
 bif (decide (((l_0.fCodes.length+1)*8)≤140737488355328)) then
 bif (decide (((l_0.fReplies.length+1)*16)≤140737488355328)) then
 some ⟨l_0.fBox,(l_0.fCodes++[code_1]),(l_0.fReplies++[reply_2]),l_0.fGives,l_0.fDone⟩
 else none
 else none
noncomputable def impl_Life_tell:Ib:=E_impl_Life_tell
theorem Ho:Tells ctx PP 64 cv71 cv72 (fun a=>impl_Life_tell a.1 a.2.1 a.2.2):=fn_ok0 hl_nil Tryz.func64 (fun a=>by kernel_rfl:EntryIs0 ctx PP 64 [0] [] cv71 cv72 fun a=>E_impl_Life_tell a.1 a.2.1 a.2.2)
noncomputable def Aj {γ:Type} (F:Ib):Hd ctx γ:=hdl cv71.dec (fun a=>F a.1 a.2.1 a.2.2) cv72.enc
abbrev Bj:=SLife→Option SLife
noncomputable def Io (z0:Eo) (z1:Ib) (l_0:SLife):Option SLife:=
 (z0 l_0.fBox).bind fun r0=>
 bif (!r0.2) then
 (z1 l_0 1 ⟨#[]⟩).bind fun r1=>
 some r1
 else
 (z1 ⟨r0.1,l_0.fCodes,l_0.fReplies,l_0.fGives,l_0.fDone⟩ 0 ⟨#[]⟩).bind fun r2=>
 some r2
noncomputable def TY:Bj:=Io impl_Rise impl_Life_tell
theorem N8:Tells ctx PP 26 cv72 cv72 (fun a=>TY a):=fn_ok0 (hc J8 (hc Ho hl_nil)) Tryz.func26 ((fun z0 z1 a=>by kernel_rfl:∀ z0 z1,EntryIs0 ctx PP 26 [0] [(63,L8 z0),(64,Aj z1)] cv72 cv72 fun a=>Io z0 z1 a) impl_Rise impl_Life_tell)
noncomputable def Px {γ:Type} (F:Bj):Hd ctx γ:=hdl cv72.dec (fun a=>F a) cv72.enc
abbrev Cj:=Int→Option ((List SRec)×Int×ByteArray)
noncomputable def E_impl_refused (code_0:Int):Option ((List SRec)×Int×ByteArray):=
 bif ((decide (0≤code_0)) && (decide (code_0<((10:Nat):Int)))) then
 some ([],(code_0,([(⟨#[]⟩:ByteArray),(⟨#[102,117,108,108]⟩:ByteArray),(⟨#[115,101,115,115,105,111,110]⟩:ByteArray),(⟨#[108,111,99,107,101,100]⟩:ByteArray),(⟨#[119,111,114,100]⟩:ByteArray),(⟨#[111,117,116]⟩:ByteArray),(⟨#[119,114,111,110,103]⟩:ByteArray),(⟨#[110,111,110,101]⟩:ByteArray),(⟨#[112,111,108,105,99,121]⟩:ByteArray),(⟨#[100,111,119,110]⟩:ByteArray)].getD code_0.toNat (⟨#[]⟩:ByteArray))))
 else none
noncomputable def impl_refused:Cj:=E_impl_refused
theorem Qx:Tells ctx PP 38 cv7 cv73 (fun a=>impl_refused a):=fn_ok0 hl_nil Tryz.func38 (fun a=>by kernel_rfl:EntryIs0 ctx PP 38 [] [] cv7 cv73 fun a=>E_impl_refused a)
noncomputable def Rx {γ:Type} (F:Cj):Hd ctx γ:=hdl cv7.dec (fun a=>F a) cv73.enc
abbrev Jo:=Int→Option ByteArray
noncomputable def E_internal_strconv_small (i_0:Int):Option ByteArray:=
 bif (decide (i_0<10)) then
 bif (((decide (0≤i_0)) && (decide (i_0≤(w64 (i_0+1))))) && (decide ((w64 (i_0+1))≤((⟨#[48,49,50,51,52,53,54,55,56,57,97,98,99,100,101,102,103,104,105,106,107,108,109,110,111,112,113,114,115,116,117,118,119,120,121,122]⟩:ByteArray).size:Int)))) then
 some ((⟨#[48,49,50,51,52,53,54,55,56,57,97,98,99,100,101,102,103,104,105,106,107,108,109,110,111,112,113,114,115,116,117,118,119,120,121,122]⟩:ByteArray).extract i_0.toNat (w64 (i_0+1)).toNat)
 else none
 else
 bif (((decide (0≤(w64 (i_0*2)))) && (decide ((w64 (i_0*2))≤(w64 ((w64 (i_0*2))+2))))) && (decide ((w64 ((w64 (i_0*2))+2))≤((⟨#[48,48,48,49,48,50,48,51,48,52,48,53,48,54,48,55,48,56,48,57,49,48,49,49,49,50,49,51,49,52,49,53,49,54,49,55,49,56,49,57,50,48,50,49,50,50,50,51,50,52,50,53,50,54,50,55,50,56,50,57,51,48,51,49,51,50,51,51,51,52,51,53,51,54,51,55,51,56,51,57,52,48,52,49,52,50,52,51,52,52,52,53,52,54,52,55,52,56,52,57,53,48,53,49,53,50,53,51,53,52,53,53,53,54,53,55,53,56,53,57,54,48,54,49,54,50,54,51,54,52,54,53,54,54,54,55,54,56,54,57,55,48,55,49,55,50,55,51,55,52,55,53,55,54,55,55,55,56,55,57,56,48,56,49,56,50,56,51,56,52,56,53,56,54,56,55,56,56,56,57,57,48,57,49,57,50,57,51,57,52,57,53,57,54,57,55,57,56,57,57]⟩:ByteArray).size:Int)))) then
 some ((⟨#[48,48,48,49,48,50,48,51,48,52,48,53,48,54,48,55,48,56,48,57,49,48,49,49,49,50,49,51,49,52,49,53,49,54,49,55,49,56,49,57,50,48,50,49,50,50,50,51,50,52,50,53,50,54,50,55,50,56,50,57,51,48,51,49,51,50,51,51,51,52,51,53,51,54,51,55,51,56,51,57,52,48,52,49,52,50,52,51,52,52,52,53,52,54,52,55,52,56,52,57,53,48,53,49,53,50,53,51,53,52,53,53,53,54,53,55,53,56,53,57,54,48,54,49,54,50,54,51,54,52,54,53,54,54,54,55,54,56,54,57,55,48,55,49,55,50,55,51,55,52,55,53,55,54,55,55,55,56,55,57,56,48,56,49,56,50,56,51,56,52,56,53,56,54,56,55,56,56,56,57,57,48,57,49,57,50,57,51,57,52,57,53,57,54,57,55,57,56,57,57]⟩:ByteArray).extract (w64 (i_0*2)).toNat (w64 ((w64 (i_0*2))+2)).toNat)
 else none
noncomputable def internal_strconv_small:Jo:=E_internal_strconv_small
theorem O8:Tells ctx PP 193 cv7 cv9 (fun a=>internal_strconv_small a):=fn_ok0 hl_nil Tryz.func193 (fun a=>by kernel_rfl:EntryIs0 ctx PP 193 [] [] cv7 cv9 fun a=>E_internal_strconv_small a)
noncomputable def P8 {γ:Type} (F:Jo):Hd ctx γ:=hdl cv7.dec (fun a=>F a) cv9.enc
abbrev Ko:=Int→Option Int
noncomputable def internal_strconv_numDigits:Ko:=fun _=>none
theorem Q8:Tells ctx PP 194 cv74 cv7 (fun a=>internal_strconv_numDigits a):=fun _ r h=>by
 have h:none=some r:=h
 cases h
noncomputable def U8 {γ:Type} (F:Ko):Hd ctx γ:=hdl cv74.dec (fun a=>F a) cv7.enc
abbrev Oo:=(List Int)→Int→Option (List Int)
noncomputable def internal_strconv_formatBase10:Oo:=fun _ _=>none
theorem V8:Tells ctx PP 195 cv75 cv76 (fun a=>internal_strconv_formatBase10 a.1 a.2):=fun _ r h=>by
 have h:none=some r:=h
 cases h
noncomputable def X8 {γ:Type} (F:Oo):Hd ctx γ:=hdl cv75.dec (fun a=>F a.1 a.2) cv76.enc
abbrev Po:=(List Int)→Int→Int→Bool→Bool→Option ((List Int)×ByteArray)
noncomputable def Qo:Po:=fun _ _ _ _ _=>none
theorem Y8:Tells ctx PP 196 cv77 cv78 (fun a=>Qo a.1 a.2.1 a.2.2.1 a.2.2.2.1 a.2.2.2.2):=fun _ r h=>by
 have h:none=some r:=h
 cases h
noncomputable def Z8 {γ:Type} (F:Po):Hd ctx γ:=hdl cv77.dec (fun a=>F a.1 a.2.1 a.2.2.1 a.2.2.2.1 a.2.2.2.2) cv78.enc
abbrev Ro:=Int→Int→Option ByteArray
noncomputable def E_internal_strconv_FormatInt (z0:Jo) (z1:Ko) (z2:Oo) (z3:Po) (i_0:Int) (base_1:Int):Option ByteArray:=
 bif (base_1 == 10) then
 bif (decide (0≤i_0)) then
  bif (decide (i_0<100)) then
  (z0 i_0).bind fun r0=>
  some r0
  else
  bif (decide (i_0<0)) then
   (z1 (wu64 (0 - (wu64 i_0)))).bind fun r1=>
   none
  else
   (z1 (wu64 i_0)).bind fun r2=>
   none
 else
  bif (decide (i_0<0)) then
  (z1 (wu64 (0 - (wu64 i_0)))).bind fun r3=>
  none
  else
  (z1 (wu64 i_0)).bind fun r4=>
  none
 else
 (z3 [] (wu64 i_0) base_1 (decide (i_0<0)) false).bind fun r5=>
 some r5.2
noncomputable def internal_strconv_FormatInt:Ro:=E_internal_strconv_FormatInt internal_strconv_small internal_strconv_numDigits internal_strconv_formatBase10 Qo
theorem C9:Tells ctx PP 171 cv79 cv9 (fun a=>internal_strconv_FormatInt a.1 a.2):=fn_ok0 (hc O8 (hc Q8 (hc V8 (hc Y8 hl_nil)))) Tryz.func171 ((fun z0 z1 z2 z3 a=>by kernel_rfl:∀ z0 z1 z2 z3,EntryIs0 ctx PP 171 [] [(193,P8 z0),(194,U8 z1),(195,X8 z2),(196,Z8 z3)] cv79 cv9 fun a=>E_internal_strconv_FormatInt z0 z1 z2 z3 a.1 a.2) internal_strconv_small internal_strconv_numDigits internal_strconv_formatBase10 Qo)
noncomputable def D9 {γ:Type} (F:Ro):Hd ctx γ:=hdl cv79.dec (fun a=>F a.1 a.2) cv9.enc
abbrev Uo:=Int→Option ByteArray
noncomputable def E_internal_strconv_Itoa (z0:Ro) (i_0:Int):Option ByteArray:=
 (z0 i_0 10).bind fun r0=>
 some r0
noncomputable def internal_strconv_Itoa:Uo:=E_internal_strconv_Itoa internal_strconv_FormatInt
theorem F9:Tells ctx PP 124 cv7 cv9 (fun a=>internal_strconv_Itoa a):=fn_ok0 (hc C9 hl_nil) Tryz.func124 ((fun z0 a=>by kernel_rfl:∀ z0,EntryIs0 ctx PP 124 [] [(171,D9 z0)] cv7 cv9 fun a=>E_internal_strconv_Itoa z0 a) internal_strconv_FormatInt)
noncomputable def G9 {γ:Type} (F:Uo):Hd ctx γ:=hdl cv7.dec (fun a=>F a) cv9.enc
abbrev Vo:=Int→Option ByteArray
noncomputable def E_strconv_Itoa (z0:Uo) (i_0:Int):Option ByteArray:=
 (z0 i_0).bind fun r0=>
 some r0
noncomputable def strconv_Itoa:Vo:=E_strconv_Itoa internal_strconv_Itoa
theorem H9:Tells ctx PP 80 cv7 cv9 (fun a=>strconv_Itoa a):=fn_ok0 (hc F9 hl_nil) Tryz.func80 ((fun z0 a=>by kernel_rfl:∀ z0,EntryIs0 ctx PP 80 [] [(124,G9 z0)] cv7 cv9 fun a=>E_strconv_Itoa z0 a) internal_strconv_Itoa)
noncomputable def I9 {γ:Type} (F:Vo):Hd ctx γ:=hdl cv7.dec (fun a=>F a) cv9.enc
abbrev Xo:=Int→Option ByteArray
noncomputable def E_impl_Decimal (z0:Vo) (n_0:Int):Option ByteArray:=
 (z0 n_0).bind fun r0=>
 some r0
noncomputable def impl_Decimal:Xo:=E_impl_Decimal strconv_Itoa
theorem J9:Tells ctx PP 39 cv7 cv9 (fun a=>impl_Decimal a):=fn_ok0 (hc H9 hl_nil) Tryz.func39 ((fun z0 a=>by kernel_rfl:∀ z0,EntryIs0 ctx PP 39 [] [(80,I9 z0)] cv7 cv9 fun a=>E_impl_Decimal z0 a) strconv_Itoa)
noncomputable def L9 {γ:Type} (F:Xo):Hd ctx γ:=hdl cv7.dec (fun a=>F a) cv9.enc
abbrev Df:=SBox→Int→Option Int
inductive Ef where
 | c0 (id_1:Int) (v_8:(List SSession)) (v_9:Int) (v_10:Int)
noncomputable def Ux:Ef→LI
 | .c0 id_1 v_8 v_9 v_10=>(tdo Tryz.f40 104,[(1,[.one (.int .i64 id_1)]),(8,[.one (.rsl 88 v_8)]),(9,[.one (.int .i64 v_9)]),(10,[.one (.int .i64 v_10)])],[])
noncomputable def E_impl_sessionAt (k:Ef→Option Int) (b_0:SBox) (id_1:Int):Option Int:=
 k (.c0 id_1 b_0.fSessions (b_0.fSessions.length:Int) 0)
noncomputable def B_impl_sessionAt (k:Ef→Option Int):Ef→Option Int
 | .c0 id_1 v_8 v_9 v_10=>
 bif (decide (v_10<v_9)) then
  bif ((decide (0≤v_10)) && (decide (v_10<(v_8.length:Int)))) then
  bif ((v_8.getD v_10.toNat (⟨0,false⟩:SSession)).fId == id_1) then
  some v_10
  else
  k (.c0 id_1 v_8 v_9 (w64 (v_10+1)))
  else none
 else
  some (-(1:Int))
noncomputable def L_impl_sessionAt:Nat→Ef→Option Int
 | 0,_=>none
 | m+1,s=>B_impl_sessionAt (L_impl_sessionAt m) s
noncomputable def impl_sessionAt:Df:=E_impl_sessionAt (L_impl_sessionAt gas)
theorem Vx:Tells ctx PP 40 cv80 cv7 (fun a=>impl_sessionAt a.1 a.2):=
 have b:CutIs ctx PP 40 Tryz.f40 [] [] cv7 Ux (B_impl_sessionAt):=fun _ s=>by cases s <;> kernel_rfl
 have e:EntryIs ctx PP 40 [] [] cv80 cv7 Ux (fun k a=>E_impl_sessionAt k a.1 a.2):=fun _ a=>by kernel_rfl
 fn_ok hl_nil Tryz.func40 (fun s s' h=>by cases s;cases s';cases h;rfl) (fun _=>rfl) (fun _ _=>rfl) b e gas
noncomputable def Yo {γ:Type} (F:Df):Hd ctx γ:=hdl cv80.dec (fun a=>F a.1 a.2) cv7.enc
abbrev Zo:=SBox→SCall→Option ((List SRec)×Int×ByteArray)
noncomputable def E_impl_planWord (z0:Cj) (z1:AZ) (b_0:SBox) (c_1:SCall):Option ((List SRec)×Int×ByteArray):=
 bif (decide (b_0.fBook.fTries≥3)) then
 (z0 3).bind fun r0=>
 some (r0.1,(r0.2.1,r0.2.2))
 else
 (z1 c_1.fText).bind fun r1=>
 bif (!((ByteArray.toList r1) == (ByteArray.toList b_0.fBook.fWord))) then
  (z0 4).bind fun r2=>
  some ([⟨2,⟨#[]⟩,(w64 (b_0.fBook.fTries+1)),⟨0,0,false,false,false,false,⟨#[]⟩,0⟩⟩],(r2.2.1,r2.2.2))
 else
  bif (b_0.fBook.fTries == 0) then
  some ([],(0,⟨#[]⟩))
  else
  some ([⟨2,⟨#[]⟩,0,⟨0,0,false,false,false,false,⟨#[]⟩,0⟩⟩],(0,⟨#[]⟩))
noncomputable def impl_planWord:Zo:=E_impl_planWord impl_refused impl_DigestOf
theorem N9:Tells ctx PP 41 cv81 cv73 (fun a=>impl_planWord a.1 a.2):=fn_ok0 (hc Qx (hc UZ hl_nil)) Tryz.func41 ((fun z0 z1 a=>by kernel_rfl:∀ z0 z1,EntryIs0 ctx PP 41 [] [(38,Rx z0),(25,JZ z1)] cv81 cv73 fun a=>E_impl_planWord z0 z1 a.1 a.2) impl_refused impl_DigestOf)
noncomputable def O9 {γ:Type} (F:Zo):Hd ctx γ:=hdl cv81.dec (fun a=>F a.1 a.2) cv73.enc
abbrev Ap:=SBox→SCall→Option ((List SRec)×Int×ByteArray)
noncomputable def Dp:Ap:=fun _ _=>none
theorem P9:Tells ctx PP 42 cv81 cv73 (fun a=>Dp a.1 a.2):=fun _ r h=>by
 have h:none=some r:=h
 cases h
noncomputable def Q9 {γ:Type} (F:Ap):Hd ctx γ:=hdl cv81.dec (fun a=>F a.1 a.2) cv73.enc
abbrev Ep:=SBox→SCall→Option ((List SRec)×Int×ByteArray)
noncomputable def Fp:Ep:=fun _ _=>none
theorem S9:Tells ctx PP 43 cv81 cv73 (fun a=>Fp a.1 a.2):=fun _ r h=>by
 have h:none=some r:=h
 cases h
noncomputable def U9 {γ:Type} (F:Ep):Hd ctx γ:=hdl cv81.dec (fun a=>F a.1 a.2) cv73.enc
abbrev Gp:=SBox→SCall→SThing→Option ((List SRec)×Int×ByteArray)
noncomputable def Ip:Gp:=fun _ _ _=>none
theorem V9:Tells ctx PP 45 cv82 cv73 (fun a=>Ip a.1 a.2.1 a.2.2):=fun _ r h=>by
 have h:none=some r:=h
 cases h
noncomputable def W9 {γ:Type} (F:Gp):Hd ctx γ:=hdl cv82.dec (fun a=>F a.1 a.2.1 a.2.2) cv73.enc
abbrev Ej:=SBox→SCall→Option ((List SRec)×Int×ByteArray)
noncomputable def Fj (z0:Zi) (z1:Ii) (z2:Cj) (z3:Xo) (z4:Df) (z5:Zo) (z6:AZ) (z7:Ap) (z8:Ep) (z9:MZ) (z10:Gp) (t_0:SBox) (o_1:SCall):Option ((List SRec)×Int×ByteArray):=
 (z0 t_0).bind fun r0=>
 bif (!r0) then
 (z2 9).bind fun r1=>
 some (r1.1,(r1.2.1,r1.2.2))
 else
 bif (!t_0.fUp) then
  (z2 9).bind fun r2=>
  some (r2.1,(r2.2.1,r2.2.2))
 else
  (z1 o_1).bind fun r3=>
  bif (!r3) then
  (z2 9).bind fun r4=>
  some (r4.1,(r4.2.1,r4.2.2))
  else
  bif (decide (t_0.fBook.fCount≥10000)) then
   (z2 9).bind fun r5=>
   some (r5.1,(r5.2.1,r5.2.2))
  else
   bif (o_1.fOp == 1) then
   bif (decide ((t_0.fSessions.length:Int)≥3)) then
    (z2 1).bind fun r6=>
    some (r6.1,(r6.2.1,r6.2.2))
   else
    bif (decide (t_0.fOpened≥1000)) then
    (z2 1).bind fun r7=>
    some (r7.1,(r7.2.1,r7.2.2))
    else
    (z3 (w64 (t_0.fOpened+1))).bind fun r8=>
    some ([],(0,r8))
   else
   (z4 t_0 o_1.fSession).bind fun r9=>
   bif (decide (r9<0)) then
    (z2 2).bind fun r10=>
    some (r10.1,(r10.2.1,r10.2.2))
   else
    bif (o_1.fOp == 13) then
    some ([],(0,⟨#[]⟩))
    else
    bif (o_1.fOp == 2) then
     (z5 t_0 o_1).bind fun r11=>
     some (r11.1,(r11.2.1,r11.2.2))
    else
     bif ((decide (0≤r9)) && (decide (r9<(t_0.fSessions.length:Int)))) then
     bif (!(t_0.fSessions.getD r9.toNat (⟨0,false⟩:SSession)).fIn) then
     (z2 5).bind fun r12=>
     some (r12.1,(r12.2.1,r12.2.2))
     else
     bif (o_1.fOp == 3) then
      bif (decide ((o_1.fText.size:Int) > 20)) then
      (z2 6).bind fun r13=>
      some (r13.1,(r13.2.1,r13.2.2))
      else
      (z6 o_1.fText).bind fun r14=>
      some ([⟨1,r14,0,⟨0,0,false,false,false,false,⟨#[]⟩,0⟩⟩],(0,⟨#[]⟩))
     else
      bif (o_1.fOp == 4) then
      (z7 t_0 o_1).bind fun r15=>
      some (r15.1,(r15.2.1,r15.2.2))
      else
      bif (o_1.fOp == 11) then
       (z8 t_0 o_1).bind fun r16=>
       some (r16.1,(r16.2.1,r16.2.2))
      else
       (z9 t_0.fBook o_1.fThing).bind fun r17=>
       bif (!r17.2) then
       (z2 7).bind fun r18=>
       some (r18.1,(r18.2.1,r18.2.2))
       else
       (z10 t_0 o_1 r17.1).bind fun r19=>
       some (r19.1,(r19.2.1,r19.2.2))
     else none
noncomputable def UY:Ej:=Fj impl_BoxOk impl_CallOk impl_refused impl_Decimal impl_sessionAt impl_planWord impl_DigestOf Dp Fp impl_ThingOf Ip
theorem X9:Tells ctx PP 14 cv81 cv73 (fun a=>UY a.1 a.2):=fn_ok0 (hc Gx (hc Xv (hc Qx (hc J9 (hc Vx (hc N9 (hc UZ (hc P9 (hc S9 (hc Xi (hc V9 hl_nil))))))))))) Tryz.func14 ((fun z0 z1 z2 z3 z4 z5 z6 z7 z8 z9 z10 a=>by kernel_rfl:∀ z0 z1 z2 z3 z4 z5 z6 z7 z8 z9 z10,EntryIs0 ctx PP 14 [] [(15,Ox z0),(37,Yv z1),(38,Rx z2),(39,L9 z3),(40,Yo z4),(41,O9 z5),(25,JZ z6),(42,Q9 z7),(43,U9 z8),(44,Fb z9),(45,W9 z10)] cv81 cv73 fun a=>Fj z0 z1 z2 z3 z4 z5 z6 z7 z8 z9 z10 a.1 a.2) impl_BoxOk impl_CallOk impl_refused impl_Decimal impl_sessionAt impl_planWord impl_DigestOf Dp Fp impl_ThingOf Ip)
noncomputable def Wx {γ:Type} (F:Ej):Hd ctx γ:=hdl cv81.dec (fun a=>F a.1 a.2) cv73.enc
abbrev Jp:=SDisk→(List Int)→Option (SDisk×Bool)
inductive Gf where
 | c0 (left_1:(List Int)) (v_18:Int) (v_19:Int) (v_4r0:(List SFile)) (out_6r0:(List SFile))
noncomputable def Xx:Gf→LI
 | .c0 left_1 v_18 v_19 v_4r0 out_6r0=>(tdo Tryz.f150 488,[(1,[.one (.rsl 3 left_1)]),(4,[.one (.ptr 256 0)]),(6,[.one (.ptr 384 0)]),(18,[.one (.int .i64 v_18)]),(19,[.one (.int .i64 v_19)])],[(256,.var [.own 1016384]),(384,.var [.own 1024576]),(1016384,.sl 148 v_4r0),(1024576,.sl 148 out_6r0)])
noncomputable def Np (z0:LZ) (z1:DZ) (k:Gf→Option (SDisk×Bool)) (d_0:SDisk) (left_1:(List Int)):Option (SDisk×Bool):=
 (z0 d_0).bind fun r0=>
 bif (!r0) then
 some (⟨[]⟩,false)
 else
 (z1 d_0).bind fun r1=>
 k (.c0 left_1 (r1.fFiles.length:Int) 0 [] r1.fFiles)
noncomputable def Qp (z0:LZ) (z1:DZ) (k:Gf→Option (SDisk×Bool)):Gf→Option (SDisk×Bool)
 | .c0 left_1 v_18 v_19 v_4r0 out_6r0=>
 bif (decide (v_19<v_18)) then
  bif ((decide (0≤v_19)) && (decide (v_19<(out_6r0.length:Int)))) then
  bif (decide (v_19<(left_1.length:Int))) then
  bif ((decide (0≤v_19)) && (decide (v_19<(left_1.length:Int)))) then
  bif ((decide (0≤(ite ((out_6r0.getD v_19.toNat (⟨⟨#[]⟩,⟨#[]⟩,0⟩:SFile)).fKept > (ite ((ite (((out_6r0.getD v_19.toNat (⟨⟨#[]⟩,⟨#[]⟩,0⟩:SFile)).fText.size:Int)<(left_1.getD v_19.toNat 0)) ((out_6r0.getD v_19.toNat (⟨⟨#[]⟩,⟨#[]⟩,0⟩:SFile)).fText.size:Int) (left_1.getD v_19.toNat 0)) > 0) (ite (((out_6r0.getD v_19.toNat (⟨⟨#[]⟩,⟨#[]⟩,0⟩:SFile)).fText.size:Int)<(left_1.getD v_19.toNat 0)) ((out_6r0.getD v_19.toNat (⟨⟨#[]⟩,⟨#[]⟩,0⟩:SFile)).fText.size:Int) (left_1.getD v_19.toNat 0)) 0)) (out_6r0.getD v_19.toNat (⟨⟨#[]⟩,⟨#[]⟩,0⟩:SFile)).fKept (ite ((ite (((out_6r0.getD v_19.toNat (⟨⟨#[]⟩,⟨#[]⟩,0⟩:SFile)).fText.size:Int)<(left_1.getD v_19.toNat 0)) ((out_6r0.getD v_19.toNat (⟨⟨#[]⟩,⟨#[]⟩,0⟩:SFile)).fText.size:Int) (left_1.getD v_19.toNat 0)) > 0) (ite (((out_6r0.getD v_19.toNat (⟨⟨#[]⟩,⟨#[]⟩,0⟩:SFile)).fText.size:Int)<(left_1.getD v_19.toNat 0)) ((out_6r0.getD v_19.toNat (⟨⟨#[]⟩,⟨#[]⟩,0⟩:SFile)).fText.size:Int) (left_1.getD v_19.toNat 0)) 0)))) && (decide ((ite ((out_6r0.getD v_19.toNat (⟨⟨#[]⟩,⟨#[]⟩,0⟩:SFile)).fKept > (ite ((ite (((out_6r0.getD v_19.toNat (⟨⟨#[]⟩,⟨#[]⟩,0⟩:SFile)).fText.size:Int)<(left_1.getD v_19.toNat 0)) ((out_6r0.getD v_19.toNat (⟨⟨#[]⟩,⟨#[]⟩,0⟩:SFile)).fText.size:Int) (left_1.getD v_19.toNat 0)) > 0) (ite (((out_6r0.getD v_19.toNat (⟨⟨#[]⟩,⟨#[]⟩,0⟩:SFile)).fText.size:Int)<(left_1.getD v_19.toNat 0)) ((out_6r0.getD v_19.toNat (⟨⟨#[]⟩,⟨#[]⟩,0⟩:SFile)).fText.size:Int) (left_1.getD v_19.toNat 0)) 0)) (out_6r0.getD v_19.toNat (⟨⟨#[]⟩,⟨#[]⟩,0⟩:SFile)).fKept (ite ((ite (((out_6r0.getD v_19.toNat (⟨⟨#[]⟩,⟨#[]⟩,0⟩:SFile)).fText.size:Int)<(left_1.getD v_19.toNat 0)) ((out_6r0.getD v_19.toNat (⟨⟨#[]⟩,⟨#[]⟩,0⟩:SFile)).fText.size:Int) (left_1.getD v_19.toNat 0)) > 0) (ite (((out_6r0.getD v_19.toNat (⟨⟨#[]⟩,⟨#[]⟩,0⟩:SFile)).fText.size:Int)<(left_1.getD v_19.toNat 0)) ((out_6r0.getD v_19.toNat (⟨⟨#[]⟩,⟨#[]⟩,0⟩:SFile)).fText.size:Int) (left_1.getD v_19.toNat 0)) 0))≤((out_6r0.getD v_19.toNat (⟨⟨#[]⟩,⟨#[]⟩,0⟩:SFile)).fText.size:Int)))) then
  k (.c0 left_1 v_18 (w64 (v_19+1)) v_4r0 ((out_6r0.set v_19.toNat (⟨(out_6r0.getD v_19.toNat (⟨⟨#[]⟩,⟨#[]⟩,0⟩:SFile)).fName,((out_6r0.getD v_19.toNat (⟨⟨#[]⟩,⟨#[]⟩,0⟩:SFile)).fText.extract 0 (ite ((out_6r0.getD v_19.toNat (⟨⟨#[]⟩,⟨#[]⟩,0⟩:SFile)).fKept > (ite ((ite (((out_6r0.getD v_19.toNat (⟨⟨#[]⟩,⟨#[]⟩,0⟩:SFile)).fText.size:Int)<(left_1.getD v_19.toNat 0)) ((out_6r0.getD v_19.toNat (⟨⟨#[]⟩,⟨#[]⟩,0⟩:SFile)).fText.size:Int) (left_1.getD v_19.toNat 0)) > 0) (ite (((out_6r0.getD v_19.toNat (⟨⟨#[]⟩,⟨#[]⟩,0⟩:SFile)).fText.size:Int)<(left_1.getD v_19.toNat 0)) ((out_6r0.getD v_19.toNat (⟨⟨#[]⟩,⟨#[]⟩,0⟩:SFile)).fText.size:Int) (left_1.getD v_19.toNat 0)) 0)) (out_6r0.getD v_19.toNat (⟨⟨#[]⟩,⟨#[]⟩,0⟩:SFile)).fKept (ite ((ite (((out_6r0.getD v_19.toNat (⟨⟨#[]⟩,⟨#[]⟩,0⟩:SFile)).fText.size:Int)<(left_1.getD v_19.toNat 0)) ((out_6r0.getD v_19.toNat (⟨⟨#[]⟩,⟨#[]⟩,0⟩:SFile)).fText.size:Int) (left_1.getD v_19.toNat 0)) > 0) (ite (((out_6r0.getD v_19.toNat (⟨⟨#[]⟩,⟨#[]⟩,0⟩:SFile)).fText.size:Int)<(left_1.getD v_19.toNat 0)) ((out_6r0.getD v_19.toNat (⟨⟨#[]⟩,⟨#[]⟩,0⟩:SFile)).fText.size:Int) (left_1.getD v_19.toNat 0)) 0)).toNat),(out_6r0.getD v_19.toNat (⟨⟨#[]⟩,⟨#[]⟩,0⟩:SFile)).fKept⟩:SFile)).set v_19.toNat (⟨((out_6r0.set v_19.toNat (⟨(out_6r0.getD v_19.toNat (⟨⟨#[]⟩,⟨#[]⟩,0⟩:SFile)).fName,((out_6r0.getD v_19.toNat (⟨⟨#[]⟩,⟨#[]⟩,0⟩:SFile)).fText.extract 0 (ite ((out_6r0.getD v_19.toNat (⟨⟨#[]⟩,⟨#[]⟩,0⟩:SFile)).fKept > (ite ((ite (((out_6r0.getD v_19.toNat (⟨⟨#[]⟩,⟨#[]⟩,0⟩:SFile)).fText.size:Int)<(left_1.getD v_19.toNat 0)) ((out_6r0.getD v_19.toNat (⟨⟨#[]⟩,⟨#[]⟩,0⟩:SFile)).fText.size:Int) (left_1.getD v_19.toNat 0)) > 0) (ite (((out_6r0.getD v_19.toNat (⟨⟨#[]⟩,⟨#[]⟩,0⟩:SFile)).fText.size:Int)<(left_1.getD v_19.toNat 0)) ((out_6r0.getD v_19.toNat (⟨⟨#[]⟩,⟨#[]⟩,0⟩:SFile)).fText.size:Int) (left_1.getD v_19.toNat 0)) 0)) (out_6r0.getD v_19.toNat (⟨⟨#[]⟩,⟨#[]⟩,0⟩:SFile)).fKept (ite ((ite (((out_6r0.getD v_19.toNat (⟨⟨#[]⟩,⟨#[]⟩,0⟩:SFile)).fText.size:Int)<(left_1.getD v_19.toNat 0)) ((out_6r0.getD v_19.toNat (⟨⟨#[]⟩,⟨#[]⟩,0⟩:SFile)).fText.size:Int) (left_1.getD v_19.toNat 0)) > 0) (ite (((out_6r0.getD v_19.toNat (⟨⟨#[]⟩,⟨#[]⟩,0⟩:SFile)).fText.size:Int)<(left_1.getD v_19.toNat 0)) ((out_6r0.getD v_19.toNat (⟨⟨#[]⟩,⟨#[]⟩,0⟩:SFile)).fText.size:Int) (left_1.getD v_19.toNat 0)) 0)).toNat),(out_6r0.getD v_19.toNat (⟨⟨#[]⟩,⟨#[]⟩,0⟩:SFile)).fKept⟩:SFile)).getD v_19.toNat (⟨⟨#[]⟩,⟨#[]⟩,0⟩:SFile)).fName,((out_6r0.set v_19.toNat (⟨(out_6r0.getD v_19.toNat (⟨⟨#[]⟩,⟨#[]⟩,0⟩:SFile)).fName,((out_6r0.getD v_19.toNat (⟨⟨#[]⟩,⟨#[]⟩,0⟩:SFile)).fText.extract 0 (ite ((out_6r0.getD v_19.toNat (⟨⟨#[]⟩,⟨#[]⟩,0⟩:SFile)).fKept > (ite ((ite (((out_6r0.getD v_19.toNat (⟨⟨#[]⟩,⟨#[]⟩,0⟩:SFile)).fText.size:Int)<(left_1.getD v_19.toNat 0)) ((out_6r0.getD v_19.toNat (⟨⟨#[]⟩,⟨#[]⟩,0⟩:SFile)).fText.size:Int) (left_1.getD v_19.toNat 0)) > 0) (ite (((out_6r0.getD v_19.toNat (⟨⟨#[]⟩,⟨#[]⟩,0⟩:SFile)).fText.size:Int)<(left_1.getD v_19.toNat 0)) ((out_6r0.getD v_19.toNat (⟨⟨#[]⟩,⟨#[]⟩,0⟩:SFile)).fText.size:Int) (left_1.getD v_19.toNat 0)) 0)) (out_6r0.getD v_19.toNat (⟨⟨#[]⟩,⟨#[]⟩,0⟩:SFile)).fKept (ite ((ite (((out_6r0.getD v_19.toNat (⟨⟨#[]⟩,⟨#[]⟩,0⟩:SFile)).fText.size:Int)<(left_1.getD v_19.toNat 0)) ((out_6r0.getD v_19.toNat (⟨⟨#[]⟩,⟨#[]⟩,0⟩:SFile)).fText.size:Int) (left_1.getD v_19.toNat 0)) > 0) (ite (((out_6r0.getD v_19.toNat (⟨⟨#[]⟩,⟨#[]⟩,0⟩:SFile)).fText.size:Int)<(left_1.getD v_19.toNat 0)) ((out_6r0.getD v_19.toNat (⟨⟨#[]⟩,⟨#[]⟩,0⟩:SFile)).fText.size:Int) (left_1.getD v_19.toNat 0)) 0)).toNat),(out_6r0.getD v_19.toNat (⟨⟨#[]⟩,⟨#[]⟩,0⟩:SFile)).fKept⟩:SFile)).getD v_19.toNat (⟨⟨#[]⟩,⟨#[]⟩,0⟩:SFile)).fText,(ite ((out_6r0.getD v_19.toNat (⟨⟨#[]⟩,⟨#[]⟩,0⟩:SFile)).fKept > (ite ((ite (((out_6r0.getD v_19.toNat (⟨⟨#[]⟩,⟨#[]⟩,0⟩:SFile)).fText.size:Int)<(left_1.getD v_19.toNat 0)) ((out_6r0.getD v_19.toNat (⟨⟨#[]⟩,⟨#[]⟩,0⟩:SFile)).fText.size:Int) (left_1.getD v_19.toNat 0)) > 0) (ite (((out_6r0.getD v_19.toNat (⟨⟨#[]⟩,⟨#[]⟩,0⟩:SFile)).fText.size:Int)<(left_1.getD v_19.toNat 0)) ((out_6r0.getD v_19.toNat (⟨⟨#[]⟩,⟨#[]⟩,0⟩:SFile)).fText.size:Int) (left_1.getD v_19.toNat 0)) 0)) (out_6r0.getD v_19.toNat (⟨⟨#[]⟩,⟨#[]⟩,0⟩:SFile)).fKept (ite ((ite (((out_6r0.getD v_19.toNat (⟨⟨#[]⟩,⟨#[]⟩,0⟩:SFile)).fText.size:Int)<(left_1.getD v_19.toNat 0)) ((out_6r0.getD v_19.toNat (⟨⟨#[]⟩,⟨#[]⟩,0⟩:SFile)).fText.size:Int) (left_1.getD v_19.toNat 0)) > 0) (ite (((out_6r0.getD v_19.toNat (⟨⟨#[]⟩,⟨#[]⟩,0⟩:SFile)).fText.size:Int)<(left_1.getD v_19.toNat 0)) ((out_6r0.getD v_19.toNat (⟨⟨#[]⟩,⟨#[]⟩,0⟩:SFile)).fText.size:Int) (left_1.getD v_19.toNat 0)) 0))⟩:SFile)))
  else none
  else none
  else
  bif ((decide (0≤(ite ((out_6r0.getD v_19.toNat (⟨⟨#[]⟩,⟨#[]⟩,0⟩:SFile)).fKept > 0) (out_6r0.getD v_19.toNat (⟨⟨#[]⟩,⟨#[]⟩,0⟩:SFile)).fKept 0))) && (decide ((ite ((out_6r0.getD v_19.toNat (⟨⟨#[]⟩,⟨#[]⟩,0⟩:SFile)).fKept > 0) (out_6r0.getD v_19.toNat (⟨⟨#[]⟩,⟨#[]⟩,0⟩:SFile)).fKept 0)≤((out_6r0.getD v_19.toNat (⟨⟨#[]⟩,⟨#[]⟩,0⟩:SFile)).fText.size:Int)))) then
  k (.c0 left_1 v_18 (w64 (v_19+1)) v_4r0 ((out_6r0.set v_19.toNat (⟨(out_6r0.getD v_19.toNat (⟨⟨#[]⟩,⟨#[]⟩,0⟩:SFile)).fName,((out_6r0.getD v_19.toNat (⟨⟨#[]⟩,⟨#[]⟩,0⟩:SFile)).fText.extract 0 (ite ((out_6r0.getD v_19.toNat (⟨⟨#[]⟩,⟨#[]⟩,0⟩:SFile)).fKept > 0) (out_6r0.getD v_19.toNat (⟨⟨#[]⟩,⟨#[]⟩,0⟩:SFile)).fKept 0).toNat),(out_6r0.getD v_19.toNat (⟨⟨#[]⟩,⟨#[]⟩,0⟩:SFile)).fKept⟩:SFile)).set v_19.toNat (⟨((out_6r0.set v_19.toNat (⟨(out_6r0.getD v_19.toNat (⟨⟨#[]⟩,⟨#[]⟩,0⟩:SFile)).fName,((out_6r0.getD v_19.toNat (⟨⟨#[]⟩,⟨#[]⟩,0⟩:SFile)).fText.extract 0 (ite ((out_6r0.getD v_19.toNat (⟨⟨#[]⟩,⟨#[]⟩,0⟩:SFile)).fKept > 0) (out_6r0.getD v_19.toNat (⟨⟨#[]⟩,⟨#[]⟩,0⟩:SFile)).fKept 0).toNat),(out_6r0.getD v_19.toNat (⟨⟨#[]⟩,⟨#[]⟩,0⟩:SFile)).fKept⟩:SFile)).getD v_19.toNat (⟨⟨#[]⟩,⟨#[]⟩,0⟩:SFile)).fName,((out_6r0.set v_19.toNat (⟨(out_6r0.getD v_19.toNat (⟨⟨#[]⟩,⟨#[]⟩,0⟩:SFile)).fName,((out_6r0.getD v_19.toNat (⟨⟨#[]⟩,⟨#[]⟩,0⟩:SFile)).fText.extract 0 (ite ((out_6r0.getD v_19.toNat (⟨⟨#[]⟩,⟨#[]⟩,0⟩:SFile)).fKept > 0) (out_6r0.getD v_19.toNat (⟨⟨#[]⟩,⟨#[]⟩,0⟩:SFile)).fKept 0).toNat),(out_6r0.getD v_19.toNat (⟨⟨#[]⟩,⟨#[]⟩,0⟩:SFile)).fKept⟩:SFile)).getD v_19.toNat (⟨⟨#[]⟩,⟨#[]⟩,0⟩:SFile)).fText,(ite ((out_6r0.getD v_19.toNat (⟨⟨#[]⟩,⟨#[]⟩,0⟩:SFile)).fKept > 0) (out_6r0.getD v_19.toNat (⟨⟨#[]⟩,⟨#[]⟩,0⟩:SFile)).fKept 0)⟩:SFile)))
  else none
  else none
 else
  some (⟨out_6r0⟩,true)
noncomputable def Gj:Nat→Gf→Option (SDisk×Bool)
 | 0,_=>none
 | m+1,s=>Qp impl_DiskOk impl_copyDisk (Gj m) s
noncomputable def Hf:Jp:=Np impl_DiskOk impl_copyDisk (Gj gas)
theorem Y9:Tells ctx PP 150 cv83 cv41 (fun a=>Hf a.1 a.2):=
 have b:∀ z0 z1,CutIs ctx PP 150 Tryz.f150 [] [(46,Cb z0),(52,WZ z1)] cv41 Xx (Qp z0 z1):=fun z0 z1 _ s=>by cases s <;> kernel_rfl
 have e:∀ z0 z1,EntryIs ctx PP 150 [] [(46,Cb z0),(52,WZ z1)] cv83 cv41 Xx (fun k a=>Np z0 z1 k a.1 a.2):=fun z0 z1 _ a=>by kernel_rfl
 fn_ok (hc Ci (hc Ud hl_nil)) Tryz.func150 (fun s s' h=>by cases s;cases s';cases h;rfl) (fun _=>rfl) (fun _ _=>rfl) (b impl_DiskOk impl_copyDisk) (e impl_DiskOk impl_copyDisk) gas
noncomputable def Z9 {γ:Type} (F:Jp):Hd ctx γ:=hdl cv83.dec (fun a=>F a.1 a.2) cv41.enc
abbrev Vp:=SDisk→(List SAct)→Int→(List Int)→Option (SDisk×Bool)
noncomputable def Wp (z0:TT) (z1:Ae) (z2:Jp) (d_0:SDisk) (list_1:(List SAct)) (whole_2:Int) (left_3:(List Int)):Option (SDisk×Bool):=
 (z0 whole_2 0 (list_1.length:Int)).bind fun r0=>
 bif (!r0) then
 some (⟨[]⟩,false)
 else
 bif ((decide (0≤whole_2)) && (decide (whole_2≤(list_1.length:Int)))) then
 (z1 d_0 ((list_1.take whole_2.toNat).drop 0)).bind fun r1=>
 bif (decide (r1.2<whole_2)) then
  some (⟨[]⟩,false)
 else
  (z2 r1.1 left_3).bind fun r2=>
  some (r2.1,r2.2)
 else none
noncomputable def Jf:Vp:=Wp impl_in impl_DoActs Hf
theorem AAA:Tells ctx PP 108 cv84 cv41 (fun a=>Jf a.1 a.2.1 a.2.2.1 a.2.2.2):=fn_ok0 (hc QY (hc Vm (hc Y9 hl_nil))) Tryz.func108 ((fun z0 z1 z2 a=>by kernel_rfl:∀ z0 z1 z2,EntryIs0 ctx PP 108 [] [(47,JY z0),(70,Xm z1),(150,Z9 z2)] cv84 cv41 fun a=>Wp z0 z1 z2 a.1 a.2.1 a.2.2.1 a.2.2.2) impl_in impl_DoActs Hf)
noncomputable def BAA {γ:Type} (F:Vp):Hd ctx γ:=hdl cv84.dec (fun a=>F a.1 a.2.1 a.2.2.1 a.2.2.2) cv41.enc
abbrev Xp:=SBox→Option SBox
noncomputable def E_impl_Fallen (z0:DZ) (z1:VZ) (b_0:SBox):Option SBox:=
 (z0 b_0.fDisk).bind fun r0=>
 z1.bind fun r1=>
 some ⟨b_0.fKey,false,r0,r1,[],[],0⟩
noncomputable def impl_Fallen:Xp:=E_impl_Fallen impl_copyDisk impl_BookNew
theorem CAA:Tells ctx PP 16 cv70 cv85 (fun a=>impl_Fallen a):=fn_ok0 (hc Ud (hc Ph hl_nil)) Tryz.func16 ((fun z0 z1 a=>by kernel_rfl:∀ z0 z1,EntryIs0 ctx PP 16 [] [(52,WZ z0),(32,Tc z1)] cv70 cv85 fun a=>E_impl_Fallen z0 z1 a) impl_copyDisk impl_BookNew)
noncomputable def DAA {γ:Type} (F:Xp):Hd ctx γ:=hdl cv70.dec (fun a=>F a) cv85.enc
abbrev Ij:=SLife→SRec→(List Int)→Option SLife
noncomputable def Yp (z0:Yh) (z1:Vp) (z2:Xp) (z3:Qi) (z4:Wi) (z5:Ib) (l_0:SLife) (r_1:SRec) (left_2:(List Int)):Option SLife:=
 (z0 l_0.fBox.fKey l_0.fBox.fBook.fCount r_1).bind fun r0=>
 (z1 l_0.fBox.fDisk r0.1 1 left_2).bind fun r1=>
 (z2 l_0.fBox).bind fun r2=>
 bif r1.2 then
 (z3 r1.1 ⟨#[98,111,111,107]⟩).bind fun r3=>
 (z4 r2.fKey r3.1).bind fun r4=>
 bif (decide ((r4.1.length:Int) > l_0.fBox.fBook.fCount)) then
  bif (decide (((l_0.fDone.length+1)*80)≤140737488355328)) then
  (z5 ⟨⟨r2.fKey,r2.fUp,r1.1,r2.fBook,r2.fSessions,r2.fLives,r2.fOpened⟩,l_0.fCodes,l_0.fReplies,l_0.fGives,(l_0.fDone++[r_1])⟩ 10 ⟨#[]⟩).bind fun r5=>
  some r5
  else none
 else
  (z5 ⟨⟨r2.fKey,r2.fUp,r1.1,r2.fBook,r2.fSessions,r2.fLives,r2.fOpened⟩,l_0.fCodes,l_0.fReplies,l_0.fGives,l_0.fDone⟩ 10 ⟨#[]⟩).bind fun r6=>
  some r6
 else
 (z3 r2.fDisk ⟨#[98,111,111,107]⟩).bind fun r7=>
 (z4 r2.fKey r7.1).bind fun r8=>
 bif (decide ((r8.1.length:Int) > l_0.fBox.fBook.fCount)) then
  bif (decide (((l_0.fDone.length+1)*80)≤140737488355328)) then
  (z5 ⟨r2,l_0.fCodes,l_0.fReplies,l_0.fGives,(l_0.fDone++[r_1])⟩ 10 ⟨#[]⟩).bind fun r9=>
  some r9
  else none
 else
  (z5 ⟨r2,l_0.fCodes,l_0.fReplies,l_0.fGives,l_0.fDone⟩ 10 ⟨#[]⟩).bind fun r10=>
  some r10
noncomputable def NZ:Ij:=Yp impl_BookActs Jf impl_Fallen impl_FileAt impl_ReadBook impl_Life_tell
theorem EAA:Tells ctx PP 65 cv86 cv72 (fun a=>NZ a.1 a.2.1 a.2.2):=fn_ok0 (hc Yu (hc AAA (hc CAA (hc Ew (hc Rw (hc Ho hl_nil)))))) Tryz.func65 ((fun z0 z1 z2 z3 z4 z5 a=>by kernel_rfl:∀ z0 z1 z2 z3 z4 z5,EntryIs0 ctx PP 65 [0] [(69,Zu z0),(108,BAA z1),(16,DAA z2),(97,Gw z3),(98,Uw z4),(64,Aj z5)] cv86 cv72 fun a=>Yp z0 z1 z2 z3 z4 z5 a.1 a.2.1 a.2.2) impl_BookActs Jf impl_Fallen impl_FileAt impl_ReadBook impl_Life_tell)
noncomputable def Yx {γ:Type} (F:Ij):Hd ctx γ:=hdl cv86.dec (fun a=>F a.1 a.2.1 a.2.2) cv72.enc
abbrev YZ:=SBox→Int→Option Int
inductive Rf where
 | c0 (id_1:Int) (v_8:(List SLive)) (v_9:Int) (v_10:Int)
noncomputable def Zx:Rf→LI
 | .c0 id_1 v_8 v_9 v_10=>(tdo Tryz.f109 104,[(1,[.one (.int .i64 id_1)]),(8,[.one (.rsl 159 v_8)]),(9,[.one (.int .i64 v_9)]),(10,[.one (.int .i64 v_10)])],[])
noncomputable def E_impl_liveAt (k:Rf→Option Int) (b_0:SBox) (id_1:Int):Option Int:=
 k (.c0 id_1 b_0.fLives (b_0.fLives.length:Int) 0)
noncomputable def B_impl_liveAt (k:Rf→Option Int):Rf→Option Int
 | .c0 id_1 v_8 v_9 v_10=>
 bif (decide (v_10<v_9)) then
  bif ((decide (0≤v_10)) && (decide (v_10<(v_8.length:Int)))) then
  bif ((v_8.getD v_10.toNat (⟨0,0⟩:SLive)).fId == id_1) then
  some v_10
  else
  k (.c0 id_1 v_8 v_9 (w64 (v_10+1)))
  else none
 else
  some (-(1:Int))
noncomputable def L_impl_liveAt:Nat→Rf→Option Int
 | 0,_=>none
 | m+1,s=>B_impl_liveAt (L_impl_liveAt m) s
noncomputable def impl_liveAt:YZ:=E_impl_liveAt (L_impl_liveAt gas)
theorem Zp:Tells ctx PP 109 cv80 cv7 (fun a=>impl_liveAt a.1 a.2):=
 have b:CutIs ctx PP 109 Tryz.f109 [] [] cv7 Zx (B_impl_liveAt):=fun _ s=>by cases s <;> kernel_rfl
 have e:EntryIs ctx PP 109 [] [] cv80 cv7 Zx (fun k a=>E_impl_liveAt k a.1 a.2):=fun _ a=>by kernel_rfl
 fn_ok hl_nil Tryz.func109 (fun s s' h=>by cases s;cases s';cases h;rfl) (fun _=>rfl) (fun _ _=>rfl) b e gas
noncomputable def Tf {γ:Type} (F:YZ):Hd ctx γ:=hdl cv80.dec (fun a=>F a.1 a.2) cv7.enc
abbrev Jj:=SBox→Int→Option Int
noncomputable def E_impl_LeafOf (z0:MZ) (z1:YZ) (b_0:SBox) (id_1:Int):Option Int:=
 (z0 b_0.fBook id_1).bind fun r0=>
 bif (!r0.2) then
 some (-(1:Int))
 else
 bif (r0.1.fKind != 2) then
  some (-(1:Int))
 else
  (z1 b_0 id_1).bind fun r1=>
  bif (decide (r1≥0)) then
  bif ((decide (0≤r1)) && (decide (r1<(b_0.fLives.length:Int)))) then
  some (b_0.fLives.getD r1.toNat (⟨0,0⟩:SLive)).fNext
  else none
  else
  some r0.1.fNext
noncomputable def impl_LeafOf:Jj:=E_impl_LeafOf impl_ThingOf impl_liveAt
theorem FAA:Tells ctx PP 66 cv80 cv7 (fun a=>impl_LeafOf a.1 a.2):=fn_ok0 (hc Xi (hc Zp hl_nil)) Tryz.func66 ((fun z0 z1 a=>by kernel_rfl:∀ z0 z1,EntryIs0 ctx PP 66 [] [(44,Fb z0),(109,Tf z1)] cv80 cv7 fun a=>E_impl_LeafOf z0 z1 a.1 a.2) impl_ThingOf impl_liveAt)
noncomputable def Dy {γ:Type} (F:Jj):Hd ctx γ:=hdl cv80.dec (fun a=>F a.1 a.2) cv7.enc
abbrev Lj:=SBox→Option SBox
noncomputable def E_impl_copyBox (z0:DZ) (z1:Eb) (b_0:SBox):Option SBox:=
 (z0 b_0.fDisk).bind fun r0=>
 (z1 b_0.fBook).bind fun r1=>
 bif (decide ((b_0.fSessions.length*16)≤140737488355328)) then
 bif (decide ((b_0.fLives.length*16)≤140737488355328)) then
 some ⟨b_0.fKey,b_0.fUp,r0,r1,b_0.fSessions,b_0.fLives,b_0.fOpened⟩
 else none
 else none
noncomputable def impl_copyBox:Lj:=E_impl_copyBox impl_copyDisk impl_copyBook
theorem GAA:Tells ctx PP 110 cv70 cv85 (fun a=>impl_copyBox a):=fn_ok0 (hc Ud (hc Zm hl_nil)) Tryz.func110 ((fun z0 z1 a=>by kernel_rfl:∀ z0 z1,EntryIs0 ctx PP 110 [] [(52,WZ z0),(116,Ei z1)] cv70 cv85 fun a=>E_impl_copyBox z0 z1 a) impl_copyDisk impl_copyBook)
noncomputable def Ey {γ:Type} (F:Lj):Hd ctx γ:=hdl cv70.dec (fun a=>F a) cv85.enc
abbrev Nj:=SBox→Int→Int→Option SBox
inductive Uf where
 | c0 (id_1:Int) (next_2:Int) (k_7:Int) (b_0c0:ByteArray) (b_0c1:Bool) (b_0c3:ByteArray) (b_0c4:Int) (b_0c6:Int) (b_0c7:ByteArray) (b_0c8:Int) (b_0c11:Int) (b_0r2:(List SFile)) (b_0r5:(List SThing)) (b_0r9:(List SSession)) (b_0r10:(List SLive))
noncomputable def Gy:Uf→LI
 | .c0 id_1 next_2 k_7 b_0c0 b_0c1 b_0c3 b_0c4 b_0c6 b_0c7 b_0c8 b_0c11 b_0r2 b_0r5 b_0r9 b_0r10=>(tdo Tryz.f111 224,[(0,[.one (.ptr 0 0)]),(1,[.one (.int .i64 id_1)]),(2,[.one (.int .i64 next_2)]),(7,[.one (.int .i64 k_7)])],[(0,.var [.str b_0c0,.bool b_0c1,.own 1000002,.str b_0c3,.int .i64 b_0c4,.own 1000005,.int .i64 b_0c6,.str b_0c7,.int .i64 b_0c8,.own 1000009,.own 1000010,.int .i64 b_0c11]),(1000002,.sl 148 b_0r2),(1000005,.sl 71 b_0r5),(1000009,.sl 88 b_0r9),(1000010,.sl 159 b_0r10)])
noncomputable def Aq (z0:YZ) (k:Uf→Option SBox) (b_0:SBox) (id_1:Int) (next_2:Int):Option SBox:=
 (z0 b_0 id_1).bind fun r0=>
 bif (decide (r0≥0)) then
 bif ((decide (0≤r0)) && (decide (r0<(b_0.fLives.length:Int)))) then
 some ⟨b_0.fKey,b_0.fUp,b_0.fDisk,b_0.fBook,b_0.fSessions,(b_0.fLives.set r0.toNat (⟨(b_0.fLives.getD r0.toNat (⟨0,0⟩:SLive)).fId,next_2⟩:SLive)),b_0.fOpened⟩
 else none
 else
 k (.c0 id_1 next_2 0 b_0.fKey b_0.fUp b_0.fBook.fWord b_0.fBook.fTries b_0.fBook.fLast b_0.fBook.fChain b_0.fBook.fCount b_0.fOpened b_0.fDisk.fFiles b_0.fBook.fThings b_0.fSessions b_0.fLives)
noncomputable def Oj (z0:YZ) (k:Uf→Option SBox):Uf→Option SBox
 | .c0 id_1 next_2 k_7 b_0c0 b_0c1 b_0c3 b_0c4 b_0c6 b_0c7 b_0c8 b_0c11 b_0r2 b_0r5 b_0r9 b_0r10=>
 bif (decide (k_7<(b_0r10.length:Int))) then
  bif ((decide (0≤k_7)) && (decide (k_7<(b_0r10.length:Int)))) then
  bif (decide ((b_0r10.getD k_7.toNat (⟨0,0⟩:SLive)).fId<id_1)) then
  k (.c0 id_1 next_2 (w64 (k_7+1)) b_0c0 b_0c1 b_0c3 b_0c4 b_0c6 b_0c7 b_0c8 b_0c11 b_0r2 b_0r5 b_0r9 b_0r10)
  else
  bif ((decide (0≤k_7)) && (decide (k_7≤(b_0r10.length:Int)))) then
  bif (decide ((((b_0r10.drop 0).take (k_7.toNat - 0)).length*16)≤140737488355328)) then
  bif (decide (((((b_0r10.drop 0).take (k_7.toNat - 0)).length+1)*16)≤140737488355328)) then
  bif ((decide (0≤k_7)) && (decide (k_7≤(b_0r10.length:Int)))) then
  bif (decide ((((((b_0r10.drop 0).take (k_7.toNat - 0))++[(⟨id_1,next_2⟩:SLive)]).length+((b_0r10.drop k_7.toNat).take (b_0r10.length - k_7.toNat)).length)*16)≤140737488355328)) then
  some ⟨b_0c0,b_0c1,⟨b_0r2⟩,⟨b_0c3,b_0c4,b_0r5,b_0c6,b_0c7,b_0c8⟩,b_0r9,((((b_0r10.drop 0).take (k_7.toNat - 0))++[(⟨id_1,next_2⟩:SLive)])++((b_0r10.drop k_7.toNat).take (b_0r10.length - k_7.toNat))),b_0c11⟩
  else none
  else none
  else none
  else none
  else none
  else none
 else
  bif ((decide (0≤k_7)) && (decide (k_7≤(b_0r10.length:Int)))) then
  bif (decide ((((b_0r10.drop 0).take (k_7.toNat - 0)).length*16)≤140737488355328)) then
  bif (decide (((((b_0r10.drop 0).take (k_7.toNat - 0)).length+1)*16)≤140737488355328)) then
  bif ((decide (0≤k_7)) && (decide (k_7≤(b_0r10.length:Int)))) then
  bif (decide ((((((b_0r10.drop 0).take (k_7.toNat - 0))++[(⟨id_1,next_2⟩:SLive)]).length+((b_0r10.drop k_7.toNat).take (b_0r10.length - k_7.toNat)).length)*16)≤140737488355328)) then
  some ⟨b_0c0,b_0c1,⟨b_0r2⟩,⟨b_0c3,b_0c4,b_0r5,b_0c6,b_0c7,b_0c8⟩,b_0r9,((((b_0r10.drop 0).take (k_7.toNat - 0))++[(⟨id_1,next_2⟩:SLive)])++((b_0r10.drop k_7.toNat).take (b_0r10.length - k_7.toNat))),b_0c11⟩
  else none
  else none
  else none
  else none
  else none
noncomputable def Vf:Nat→Uf→Option SBox
 | 0,_=>none
 | m+1,s=>Oj impl_liveAt (Vf m) s
noncomputable def Aa:Nj:=Aq impl_liveAt (Vf gas)
theorem HAA:Tells ctx PP 111 cv87 cv85 (fun a=>Aa a.1 a.2.1 a.2.2):=
 have b:∀ z0,CutIs ctx PP 111 Tryz.f111 [0] [(109,Tf z0)] cv85 Gy (Oj z0):=fun z0 _ s=>by cases s <;> kernel_rfl
 have e:∀ z0,EntryIs ctx PP 111 [0] [(109,Tf z0)] cv87 cv85 Gy (fun k a=>Aq z0 k a.1 a.2.1 a.2.2):=fun z0 _ a=>by kernel_rfl
 fn_ok (hc Zp hl_nil) Tryz.func111 (fun s s' h=>by cases s;cases s';cases h;rfl) (fun _=>rfl) (fun _ _=>rfl) (b impl_liveAt) (e impl_liveAt) gas
noncomputable def Hy {γ:Type} (F:Nj):Hd ctx γ:=hdl cv87.dec (fun a=>F a.1 a.2.1 a.2.2) cv85.enc
abbrev Pj:=SBox→SCall→Int→Int→Option SBox
inductive Xf where
 | c0 (leaf_3:Int) (ok_12:Bool) (b_4:SBox) (c_5:SCall) (v_8c0:ByteArray) (v_8c1:Bool) (v_8c3:ByteArray) (v_8c4:Int) (v_8c6:Int) (v_8c7:ByteArray) (v_8c8:Int) (v_8c11:Int) (out_9c0:ByteArray) (out_9c1:Bool) (out_9c3:ByteArray) (out_9c4:Int) (out_9c6:Int) (out_9c7:ByteArray) (out_9c8:Int) (out_9c11:Int) (x_11:SThing) (v_8r2:(List SFile)) (v_8r5:(List SThing)) (v_8r9:(List SSession)) (v_8r10:(List SLive)) (out_9r2:(List SFile)) (out_9r5:(List SThing)) (out_9r9:(List SSession)) (out_9r10:(List SLive))
 | c1 (b_4:SBox) (c_5:SCall) (v_8c0:ByteArray) (v_8c1:Bool) (v_8c3:ByteArray) (v_8c4:Int) (v_8c6:Int) (v_8c7:ByteArray) (v_8c8:Int) (v_8c11:Int) (out_9c0:ByteArray) (out_9c1:Bool) (out_9c3:ByteArray) (out_9c4:Int) (out_9c6:Int) (out_9c7:ByteArray) (out_9c8:Int) (out_9c11:Int) (v_8r2:(List SFile)) (v_8r5:(List SThing)) (v_8r9:(List SSession)) (v_8r10:(List SLive)) (out_9r2:(List SFile)) (out_9r5:(List SThing)) (out_9r9:(List SSession)) (out_9r10:(List SLive))
noncomputable def Iy:Xf→LI
 | .c0 leaf_3 ok_12 b_4 c_5 v_8c0 v_8c1 v_8c3 v_8c4 v_8c6 v_8c7 v_8c8 v_8c11 out_9c0 out_9c1 out_9c3 out_9c4 out_9c6 out_9c7 out_9c8 out_9c11 x_11 v_8r2 v_8r5 v_8r9 v_8r10 out_9r2 out_9r5 out_9r9 out_9r10=>(tdo Tryz.f67 32382,[(3,[.one (.int .i64 leaf_3)]),(4,[.one (.ptr 256 0)]),(5,[.one (.ptr 320 0)]),(8,[.one (.ptr 512 0)]),(9,[.one (.ptr 576 0)]),(11,[.one (.ptr 704 0)]),(12,[.one (.bool ok_12)])],[(256,.var [.str b_4.fKey,.bool b_4.fUp,.rsl 148 b_4.fDisk.fFiles,.str b_4.fBook.fWord,.int .i64 b_4.fBook.fTries,.rsl 71 b_4.fBook.fThings,.int .i64 b_4.fBook.fLast,.str b_4.fBook.fChain,.int .i64 b_4.fBook.fCount,.rsl 88 b_4.fSessions,.rsl 159 b_4.fLives,.int .i64 b_4.fOpened]),(320,.var [.int .i64 c_5.fOp,.int .i64 c_5.fSession,.int .i64 c_5.fThing,.int .i64 c_5.fKind,.str c_5.fText,.bool c_5.fHidden,.bool c_5.fFixed]),(512,.var [.str v_8c0,.bool v_8c1,.own 1032770,.str v_8c3,.int .i64 v_8c4,.own 1032773,.int .i64 v_8c6,.str v_8c7,.int .i64 v_8c8,.own 1032777,.own 1032778,.int .i64 v_8c11]),(576,.var [.str out_9c0,.bool out_9c1,.own 1036866,.str out_9c3,.int .i64 out_9c4,.own 1036869,.int .i64 out_9c6,.str out_9c7,.int .i64 out_9c8,.own 1036873,.own 1036874,.int .i64 out_9c11]),(704,.var [.int .i64 x_11.fId,.int .i64 x_11.fKind,.bool x_11.fHidden,.bool x_11.fFixed,.bool x_11.fSigns,.bool x_11.fWraps,.str x_11.fValue,.int .i64 x_11.fNext]),(1032770,.sl 148 v_8r2),(1032773,.sl 71 v_8r5),(1032777,.sl 88 v_8r9),(1032778,.sl 159 v_8r10),(1036866,.sl 148 out_9r2),(1036869,.sl 71 out_9r5),(1036873,.sl 88 out_9r9),(1036874,.sl 159 out_9r10)])
 | .c1 b_4 c_5 v_8c0 v_8c1 v_8c3 v_8c4 v_8c6 v_8c7 v_8c8 v_8c11 out_9c0 out_9c1 out_9c3 out_9c4 out_9c6 out_9c7 out_9c8 out_9c11 v_8r2 v_8r5 v_8r9 v_8r10 out_9r2 out_9r5 out_9r9 out_9r10=>(tdo Tryz.f67 129534,[(4,[.one (.ptr 256 0)]),(5,[.one (.ptr 320 0)]),(8,[.one (.ptr 512 0)]),(9,[.one (.ptr 576 0)])],[(256,.var [.str b_4.fKey,.bool b_4.fUp,.rsl 148 b_4.fDisk.fFiles,.str b_4.fBook.fWord,.int .i64 b_4.fBook.fTries,.rsl 71 b_4.fBook.fThings,.int .i64 b_4.fBook.fLast,.str b_4.fBook.fChain,.int .i64 b_4.fBook.fCount,.rsl 88 b_4.fSessions,.rsl 159 b_4.fLives,.int .i64 b_4.fOpened]),(320,.var [.int .i64 c_5.fOp,.int .i64 c_5.fSession,.int .i64 c_5.fThing,.int .i64 c_5.fKind,.str c_5.fText,.bool c_5.fHidden,.bool c_5.fFixed]),(512,.var [.str v_8c0,.bool v_8c1,.own 1032770,.str v_8c3,.int .i64 v_8c4,.own 1032773,.int .i64 v_8c6,.str v_8c7,.int .i64 v_8c8,.own 1032777,.own 1032778,.int .i64 v_8c11]),(576,.var [.str out_9c0,.bool out_9c1,.own 1036866,.str out_9c3,.int .i64 out_9c4,.own 1036869,.int .i64 out_9c6,.str out_9c7,.int .i64 out_9c8,.own 1036873,.own 1036874,.int .i64 out_9c11]),(1032770,.sl 148 v_8r2),(1032773,.sl 71 v_8r5),(1032777,.sl 88 v_8r9),(1032778,.sl 159 v_8r10),(1036866,.sl 148 out_9r2),(1036869,.sl 71 out_9r5),(1036873,.sl 88 out_9r9),(1036874,.sl 159 out_9r10)])
noncomputable def Yf (z0:Lj) (z1:Df) (z2:MZ) (z3:Nj) (z4:YZ) (k:Xf→Option SBox) (b_0:SBox) (c_1:SCall) (code_2:Int) (leaf_3:Int):Option SBox:=
 (z0 b_0).bind fun r0=>
 bif (code_2 != 0) then
 some r0
 else
 (z1 b_0 c_1.fSession).bind fun r1=>
 (z2 b_0.fBook c_1.fThing).bind fun r2=>
 bif (c_1.fOp == 1) then
  bif (decide (((r0.fSessions.length+1)*16)≤140737488355328)) then
  some ⟨r0.fKey,r0.fUp,r0.fDisk,r0.fBook,(r0.fSessions++[(⟨(w64 (r0.fOpened+1)),false⟩:SSession)]),r0.fLives,(w64 (r0.fOpened+1))⟩
  else none
 else
  bif (c_1.fOp == 13) then
  bif (decide (r1≥0)) then
   bif ((decide (0≤r1)) && (decide (r1≤(r0.fSessions.length:Int)))) then
   bif ((decide (0≤(w64 (r1+1)))) && (decide ((w64 (r1+1))≤(r0.fSessions.length:Int)))) then
   bif ((decide (0<r0.fSessions.length)) && (decide (((r1.toNat - 0)+((r0.fSessions.drop (w64 (r1+1)).toNat).take (r0.fSessions.length - (w64 (r1+1)).toNat)).length)≤r0.fSessions.length))) then
   some ⟨r0.fKey,r0.fUp,r0.fDisk,r0.fBook,((r0.fSessions.take (r1.toNat - 0))++((r0.fSessions.drop (w64 (r1+1)).toNat).take (r0.fSessions.length - (w64 (r1+1)).toNat))),r0.fLives,r0.fOpened⟩
   else none
   else none
   else none
  else
   bif (c_1.fOp == 2) then
   bif (decide (r1≥0)) then
    bif ((decide (0≤r1)) && (decide (r1<(r0.fSessions.length:Int)))) then
    some ⟨r0.fKey,r0.fUp,r0.fDisk,r0.fBook,(r0.fSessions.set r1.toNat (⟨(r0.fSessions.getD r1.toNat (⟨0,false⟩:SSession)).fId,true⟩:SSession)),r0.fLives,r0.fOpened⟩
    else none
   else
    k (.c0 leaf_3 r2.2 b_0 c_1 ⟨#[]⟩ false ⟨#[]⟩ 0 0 ⟨#[]⟩ 0 0 r0.fKey r0.fUp r0.fBook.fWord r0.fBook.fTries r0.fBook.fLast r0.fBook.fChain r0.fBook.fCount r0.fOpened r2.1 [] [] [] [] r0.fDisk.fFiles r0.fBook.fThings r0.fSessions r0.fLives)
   else
   k (.c0 leaf_3 r2.2 b_0 c_1 ⟨#[]⟩ false ⟨#[]⟩ 0 0 ⟨#[]⟩ 0 0 r0.fKey r0.fUp r0.fBook.fWord r0.fBook.fTries r0.fBook.fLast r0.fBook.fChain r0.fBook.fCount r0.fOpened r2.1 [] [] [] [] r0.fDisk.fFiles r0.fBook.fThings r0.fSessions r0.fLives)
  else
  bif (c_1.fOp == 2) then
   bif (decide (r1≥0)) then
   bif ((decide (0≤r1)) && (decide (r1<(r0.fSessions.length:Int)))) then
   some ⟨r0.fKey,r0.fUp,r0.fDisk,r0.fBook,(r0.fSessions.set r1.toNat (⟨(r0.fSessions.getD r1.toNat (⟨0,false⟩:SSession)).fId,true⟩:SSession)),r0.fLives,r0.fOpened⟩
   else none
   else
   k (.c0 leaf_3 r2.2 b_0 c_1 ⟨#[]⟩ false ⟨#[]⟩ 0 0 ⟨#[]⟩ 0 0 r0.fKey r0.fUp r0.fBook.fWord r0.fBook.fTries r0.fBook.fLast r0.fBook.fChain r0.fBook.fCount r0.fOpened r2.1 [] [] [] [] r0.fDisk.fFiles r0.fBook.fThings r0.fSessions r0.fLives)
  else
   k (.c0 leaf_3 r2.2 b_0 c_1 ⟨#[]⟩ false ⟨#[]⟩ 0 0 ⟨#[]⟩ 0 0 r0.fKey r0.fUp r0.fBook.fWord r0.fBook.fTries r0.fBook.fLast r0.fBook.fChain r0.fBook.fCount r0.fOpened r2.1 [] [] [] [] r0.fDisk.fFiles r0.fBook.fThings r0.fSessions r0.fLives)
noncomputable def Jy (z0:Lj) (z1:Df) (z2:MZ) (z3:Nj) (z4:YZ) (k:Xf→Option SBox):Xf→Option SBox
 | .c0 leaf_3 ok_12 b_4 c_5 v_8c0 v_8c1 v_8c3 v_8c4 v_8c6 v_8c7 v_8c8 v_8c11 out_9c0 out_9c1 out_9c3 out_9c4 out_9c6 out_9c7 out_9c8 out_9c11 x_11 v_8r2 v_8r5 v_8r9 v_8r10 out_9r2 out_9r5 out_9r9 out_9r10=>
 bif (c_5.fOp == 5) then
  bif ok_12 then
  bif (x_11.fKind == 2) then
   bif (decide (leaf_3≥0)) then
   bif (decide (leaf_3<x_11.fNext)) then
    (z3 ⟨out_9c0,out_9c1,⟨out_9r2⟩,⟨out_9c3,out_9c4,out_9r5,out_9c6,out_9c7,out_9c8⟩,out_9r9,out_9r10,out_9c11⟩ x_11.fId (w64 (leaf_3+1))).bind fun r0=>
    some r0
   else
    k (.c1 b_4 c_5 v_8c0 v_8c1 v_8c3 v_8c4 v_8c6 v_8c7 v_8c8 v_8c11 out_9c0 out_9c1 out_9c3 out_9c4 out_9c6 out_9c7 out_9c8 out_9c11 v_8r2 v_8r5 v_8r9 v_8r10 out_9r2 out_9r5 out_9r9 out_9r10)
   else
   k (.c1 b_4 c_5 v_8c0 v_8c1 v_8c3 v_8c4 v_8c6 v_8c7 v_8c8 v_8c11 out_9c0 out_9c1 out_9c3 out_9c4 out_9c6 out_9c7 out_9c8 out_9c11 v_8r2 v_8r5 v_8r9 v_8r10 out_9r2 out_9r5 out_9r9 out_9r10)
  else
   k (.c1 b_4 c_5 v_8c0 v_8c1 v_8c3 v_8c4 v_8c6 v_8c7 v_8c8 v_8c11 out_9c0 out_9c1 out_9c3 out_9c4 out_9c6 out_9c7 out_9c8 out_9c11 v_8r2 v_8r5 v_8r9 v_8r10 out_9r2 out_9r5 out_9r9 out_9r10)
  else
  k (.c1 b_4 c_5 v_8c0 v_8c1 v_8c3 v_8c4 v_8c6 v_8c7 v_8c8 v_8c11 out_9c0 out_9c1 out_9c3 out_9c4 out_9c6 out_9c7 out_9c8 out_9c11 v_8r2 v_8r5 v_8r9 v_8r10 out_9r2 out_9r5 out_9r9 out_9r10)
 else
  k (.c1 b_4 c_5 v_8c0 v_8c1 v_8c3 v_8c4 v_8c6 v_8c7 v_8c8 v_8c11 out_9c0 out_9c1 out_9c3 out_9c4 out_9c6 out_9c7 out_9c8 out_9c11 v_8r2 v_8r5 v_8r9 v_8r10 out_9r2 out_9r5 out_9r9 out_9r10)
 | .c1 b_4 c_5 v_8c0 v_8c1 v_8c3 v_8c4 v_8c6 v_8c7 v_8c8 v_8c11 out_9c0 out_9c1 out_9c3 out_9c4 out_9c6 out_9c7 out_9c8 out_9c11 v_8r2 v_8r5 v_8r9 v_8r10 out_9r2 out_9r5 out_9r9 out_9r10=>
 bif (c_5.fOp == 9) then
  (z4 b_4 c_5.fThing).bind fun r0=>
  bif (decide (r0≥0)) then
  bif ((decide (0≤r0)) && (decide (r0≤(out_9r10.length:Int)))) then
  bif ((decide (0≤(w64 (r0+1)))) && (decide ((w64 (r0+1))≤(out_9r10.length:Int)))) then
  bif ((decide (0<out_9r10.length)) && (decide (((r0.toNat - 0)+((out_9r10.drop (w64 (r0+1)).toNat).take (out_9r10.length - (w64 (r0+1)).toNat)).length)≤out_9r10.length))) then
  some ⟨out_9c0,out_9c1,⟨out_9r2⟩,⟨out_9c3,out_9c4,out_9r5,out_9c6,out_9c7,out_9c8⟩,out_9r9,((out_9r10.take (r0.toNat - 0))++((out_9r10.drop (w64 (r0+1)).toNat).take (out_9r10.length - (w64 (r0+1)).toNat))),out_9c11⟩
  else none
  else none
  else none
  else
  some ⟨out_9c0,out_9c1,⟨out_9r2⟩,⟨out_9c3,out_9c4,out_9r5,out_9c6,out_9c7,out_9c8⟩,out_9r9,out_9r10,out_9c11⟩
 else
  some ⟨out_9c0,out_9c1,⟨out_9r2⟩,⟨out_9c3,out_9c4,out_9r5,out_9c6,out_9c7,out_9c8⟩,out_9r9,out_9r10,out_9c11⟩
noncomputable def Ky:Nat→Xf→Option SBox
 | 0,_=>none
 | m+1,s=>Jy impl_copyBox impl_sessionAt impl_ThingOf Aa impl_liveAt (Ky m) s
noncomputable def NY:Pj:=Yf impl_copyBox impl_sessionAt impl_ThingOf Aa impl_liveAt (Ky gas)
theorem IAA:Tells ctx PP 67 cv88 cv85 (fun a=>NY a.1 a.2.1 a.2.2.1 a.2.2.2):=
 have b:∀ z0 z1 z2 z3 z4,CutIs ctx PP 67 Tryz.f67 [] [(110,Ey z0),(40,Yo z1),(44,Fb z2),(111,Hy z3),(109,Tf z4)] cv85 Iy (Jy z0 z1 z2 z3 z4):=fun z0 z1 z2 z3 z4 _ s=>by cases s <;> kernel_rfl
 have e:∀ z0 z1 z2 z3 z4,EntryIs ctx PP 67 [] [(110,Ey z0),(40,Yo z1),(44,Fb z2),(111,Hy z3),(109,Tf z4)] cv88 cv85 Iy (fun k a=>Yf z0 z1 z2 z3 z4 k a.1 a.2.1 a.2.2.1 a.2.2.2):=fun z0 z1 z2 z3 z4 _ a=>by kernel_rfl
 fn_ok (hc GAA (hc Vx (hc Xi (hc HAA (hc Zp hl_nil))))) Tryz.func67 (fun s s' h=>by cases s <;> cases s' <;> first | ((repeat cases ‹SBox›);(repeat cases ‹SCall›);(repeat cases ‹SThing›);(repeat cases ‹SDisk›);(repeat cases ‹SBook›);cases h;done) | ((repeat cases ‹SBox›);(repeat cases ‹SCall›);(repeat cases ‹SThing›);(repeat cases ‹SDisk›);(repeat cases ‹SBook›);cases h;rfl) | exact (rg_ne h (by kernel_rfl)).elim) (fun _=>rfl) (fun _ _=>rfl) (b impl_copyBox impl_sessionAt impl_ThingOf Aa impl_liveAt) (e impl_copyBox impl_sessionAt impl_ThingOf Aa impl_liveAt) gas
noncomputable def Ny {γ:Type} (F:Pj):Hd ctx γ:=hdl cv88.dec (fun a=>F a.1 a.2.1 a.2.2.1 a.2.2.2) cv85.enc
abbrev Qj:=SLife→SEvent→Int→Option SLife
inductive Zf where
 | c0 (when_2:Int) (code_7:Int) (reply_8:ByteArray) (leaf_9:Int) (v_46:Int) (v_47:Int) (l_0c0:ByteArray) (l_0c1:Bool) (l_0c3:ByteArray) (l_0c4:Int) (l_0c6:Int) (l_0c7:ByteArray) (l_0c8:Int) (l_0c11:Int) (e_4:SEvent) (v_45:(List SRec)) (l_0r2:(List SFile)) (l_0r5:(List SThing)) (l_0r9:(List SSession)) (l_0r10:(List SLive)) (l_0r12:(List Int)) (l_0r13:(List ByteArray)) (l_0r14:(List SGiven)) (l_0r15:(List SRec))
noncomputable def Oy:Zf→LI
 | .c0 when_2 code_7 reply_8 leaf_9 v_46 v_47 l_0c0 l_0c1 l_0c3 l_0c4 l_0c6 l_0c7 l_0c8 l_0c11 e_4 v_45 l_0r2 l_0r5 l_0r9 l_0r10 l_0r12 l_0r13 l_0r14 l_0r15=>(tdo Tryz.f27 1000,[(0,[.one (.ptr 0 0)]),(2,[.one (.int .i64 when_2)]),(4,[.one (.ptr 256 0)]),(7,[.one (.int .i64 code_7)]),(8,[.one (.str reply_8)]),(9,[.one (.int .i64 leaf_9)]),(45,[.one (.own 2928)]),(46,[.one (.int .i64 v_46)]),(47,[.one (.int .i64 v_47)])],[(0,.var [.str l_0c0,.bool l_0c1,.own 1000002,.str l_0c3,.int .i64 l_0c4,.own 1000005,.int .i64 l_0c6,.str l_0c7,.int .i64 l_0c8,.own 1000009,.own 1000010,.int .i64 l_0c11,.own 1000012,.own 1000013,.own 1000014,.own 1000015]),(256,.var [.int .i64 e_4.fCall.fOp,.int .i64 e_4.fCall.fSession,.int .i64 e_4.fCall.fThing,.int .i64 e_4.fCall.fKind,.str e_4.fCall.fText,.bool e_4.fCall.fHidden,.bool e_4.fCall.fFixed,.bool e_4.fCut,.rsl 3 e_4.fLeft,.bool e_4.fRise]),(2928,.sl 73 v_45),(1000002,.sl 148 l_0r2),(1000005,.sl 71 l_0r5),(1000009,.sl 88 l_0r9),(1000010,.sl 159 l_0r10),(1000012,.sl 3 l_0r12),(1000013,.sl 9 l_0r13),(1000014,.sl 121 l_0r14),(1000015,.sl 73 l_0r15)])
noncomputable def Ag (z0:Ej) (z1:Ij) (z2:Jj) (z3:Me) (z4:Pj) (z5:Ib) (k:Zf→Option SLife) (l_0:SLife) (e_1:SEvent) (when_2:Int):Option SLife:=
 (z0 l_0.fBox e_1.fCall).bind fun r0=>
 bif e_1.fCut then
 bif (decide ((r0.1.length:Int) > 0)) then
  bif ((decide ((0:Int)≤(0:Int))) && (decide (0<(r0.1.length:Int)))) then
  (z1 l_0 (r0.1.getD (0:Int).toNat (⟨0,⟨#[]⟩,0,⟨0,0,false,false,false,false,⟨#[]⟩,0⟩⟩:SRec)) e_1.fLeft).bind fun r1=>
  some r1
  else none
 else
  (z2 l_0.fBox e_1.fCall.fThing).bind fun r2=>
  k (.c0 when_2 r0.2.1 r0.2.2 r2 (r0.1.length:Int) 0 l_0.fBox.fKey l_0.fBox.fUp l_0.fBox.fBook.fWord l_0.fBox.fBook.fTries l_0.fBox.fBook.fLast l_0.fBox.fBook.fChain l_0.fBox.fBook.fCount l_0.fBox.fOpened e_1 r0.1 l_0.fBox.fDisk.fFiles l_0.fBox.fBook.fThings l_0.fBox.fSessions l_0.fBox.fLives l_0.fCodes l_0.fReplies l_0.fGives l_0.fDone)
 else
 (z2 l_0.fBox e_1.fCall.fThing).bind fun r3=>
 k (.c0 when_2 r0.2.1 r0.2.2 r3 (r0.1.length:Int) 0 l_0.fBox.fKey l_0.fBox.fUp l_0.fBox.fBook.fWord l_0.fBox.fBook.fTries l_0.fBox.fBook.fLast l_0.fBox.fBook.fChain l_0.fBox.fBook.fCount l_0.fBox.fOpened e_1 r0.1 l_0.fBox.fDisk.fFiles l_0.fBox.fBook.fThings l_0.fBox.fSessions l_0.fBox.fLives l_0.fCodes l_0.fReplies l_0.fGives l_0.fDone)
noncomputable def Bg (z0:Ej) (z1:Ij) (z2:Jj) (z3:Me) (z4:Pj) (z5:Ib) (k:Zf→Option SLife):Zf→Option SLife
 | .c0 when_2 code_7 reply_8 leaf_9 v_46 v_47 l_0c0 l_0c1 l_0c3 l_0c4 l_0c6 l_0c7 l_0c8 l_0c11 e_4 v_45 l_0r2 l_0r5 l_0r9 l_0r10 l_0r12 l_0r13 l_0r14 l_0r15=>
 bif (decide (v_47<v_46)) then
  bif ((decide (0≤v_47)) && (decide (v_47<(v_45.length:Int)))) then
  (z3 ⟨l_0c0,l_0c1,⟨l_0r2⟩,⟨l_0c3,l_0c4,l_0r5,l_0c6,l_0c7,l_0c8⟩,l_0r9,l_0r10,l_0c11⟩ (v_45.getD v_47.toNat (⟨0,⟨#[]⟩,0,⟨0,0,false,false,false,false,⟨#[]⟩,0⟩⟩:SRec))).bind fun r0=>
  bif r0.1 then
  bif (decide (((l_0r15.length+1)*80)≤140737488355328)) then
  k (.c0 when_2 code_7 reply_8 leaf_9 v_46 (w64 (v_47+1)) r0.2.fKey r0.2.fUp r0.2.fBook.fWord r0.2.fBook.fTries r0.2.fBook.fLast r0.2.fBook.fChain r0.2.fBook.fCount r0.2.fOpened e_4 v_45 r0.2.fDisk.fFiles r0.2.fBook.fThings r0.2.fSessions r0.2.fLives l_0r12 l_0r13 l_0r14 (l_0r15++[(v_45.getD v_47.toNat (⟨0,⟨#[]⟩,0,⟨0,0,false,false,false,false,⟨#[]⟩,0⟩⟩:SRec))]))
  else none
  else
  k (.c0 when_2 code_7 reply_8 leaf_9 v_46 (w64 (v_47+1)) r0.2.fKey r0.2.fUp r0.2.fBook.fWord r0.2.fBook.fTries r0.2.fBook.fLast r0.2.fBook.fChain r0.2.fBook.fCount r0.2.fOpened e_4 v_45 r0.2.fDisk.fFiles r0.2.fBook.fThings r0.2.fSessions r0.2.fLives l_0r12 l_0r13 l_0r14 l_0r15)
  else none
 else
  (z4 ⟨l_0c0,l_0c1,⟨l_0r2⟩,⟨l_0c3,l_0c4,l_0r5,l_0c6,l_0c7,l_0c8⟩,l_0r9,l_0r10,l_0c11⟩ e_4.fCall code_7 leaf_9).bind fun r1=>
  (z5 ⟨r1,l_0r12,l_0r13,l_0r14,l_0r15⟩ code_7 reply_8).bind fun r2=>
  bif (e_4.fCall.fOp == 5) then
  bif (code_7 == 0) then
   bif (decide (((r2.fGives.length+1)*24)≤140737488355328)) then
   some ⟨r2.fBox,r2.fCodes,r2.fReplies,(r2.fGives++[(⟨e_4.fCall.fThing,leaf_9,when_2⟩:SGiven)]),r2.fDone⟩
   else none
  else
   some r2
  else
  some r2
noncomputable def Jb:Nat→Zf→Option SLife
 | 0,_=>none
 | m+1,s=>Bg UY NZ impl_LeafOf impl_Box_enter NY impl_Life_tell (Jb m) s
noncomputable def CV:Qj:=Ag UY NZ impl_LeafOf impl_Box_enter NY impl_Life_tell (Jb gas)
theorem JAA:Tells ctx PP 27 cv89 cv72 (fun a=>CV a.1 a.2.1 a.2.2):=
 have b:∀ z0 z1 z2 z3 z4 z5,CutIs ctx PP 27 Tryz.f27 [0] [(14,Wx z0),(65,Yx z1),(66,Dy z2),(33,Rn z3),(67,Ny z4),(64,Aj z5)] cv72 Oy (Bg z0 z1 z2 z3 z4 z5):=fun z0 z1 z2 z3 z4 z5 _ s=>by cases s <;> kernel_rfl
 have e:∀ z0 z1 z2 z3 z4 z5,EntryIs ctx PP 27 [0] [(14,Wx z0),(65,Yx z1),(66,Dy z2),(33,Rn z3),(67,Ny z4),(64,Aj z5)] cv89 cv72 Oy (fun k a=>Ag z0 z1 z2 z3 z4 z5 k a.1 a.2.1 a.2.2):=fun z0 z1 z2 z3 z4 z5 _ a=>by kernel_rfl
 fn_ok (hc X9 (hc EAA (hc FAA (hc Tv (hc IAA (hc Ho hl_nil)))))) Tryz.func27 (fun s s' h=>by cases s;cases s';(repeat cases ‹SEvent›);(repeat cases ‹SCall›);cases h;rfl) (fun _=>rfl) (fun _ _=>rfl) (b UY NZ impl_LeafOf impl_Box_enter NY impl_Life_tell) (e UY NZ impl_LeafOf impl_Box_enter NY impl_Life_tell) gas
noncomputable def Py {γ:Type} (F:Qj):Hd ctx γ:=hdl cv89.dec (fun a=>F a.1 a.2.1 a.2.2) cv72.enc
abbrev Bq:=ByteArray→ByteArray→(List SEvent)→Option (SLife×Bool)
inductive Fg where
 | c0 (word_1:ByteArray) (events_2:(List SEvent)) (v_29:(List SEvent)) (v_30:Int) (v_31:Int) (v_6c0:ByteArray) (v_6c1:Bool) (v_6c3:ByteArray) (v_6c4:Int) (v_6c6:Int) (v_6c7:ByteArray) (v_6c8:Int) (v_6c11:Int) (b_8c0:ByteArray) (b_8c1:Bool) (b_8c3:ByteArray) (b_8c4:Int) (b_8c6:Int) (b_8c7:ByteArray) (b_8c8:Int) (b_8c11:Int) (v_6r2:(List SFile)) (v_6r5:(List SThing)) (v_6r9:(List SSession)) (v_6r10:(List SLive)) (v_6r12:(List Int)) (v_6r13:(List ByteArray)) (v_6r14:(List SGiven)) (v_6r15:(List SRec)) (b_8r2:(List SFile)) (b_8r5:(List SThing)) (b_8r9:(List SSession)) (b_8r10:(List SLive))
 | c1 (v_46:(List SEvent)) (v_47:Int) (v_48:Int) (v_6c0:ByteArray) (v_6c1:Bool) (v_6c3:ByteArray) (v_6c4:Int) (v_6c6:Int) (v_6c7:ByteArray) (v_6c8:Int) (v_6c11:Int) (l_12c0:ByteArray) (l_12c1:Bool) (l_12c3:ByteArray) (l_12c4:Int) (l_12c6:Int) (l_12c7:ByteArray) (l_12c8:Int) (l_12c11:Int) (v_6r2:(List SFile)) (v_6r5:(List SThing)) (v_6r9:(List SSession)) (v_6r10:(List SLive)) (v_6r12:(List Int)) (v_6r13:(List ByteArray)) (v_6r14:(List SGiven)) (v_6r15:(List SRec)) (l_12r2:(List SFile)) (l_12r5:(List SThing)) (l_12r9:(List SSession)) (l_12r10:(List SLive)) (l_12r12:(List Int)) (l_12r13:(List ByteArray)) (l_12r14:(List SGiven)) (l_12r15:(List SRec))
noncomputable def Qy:Fg→LI
 | .c0 word_1 events_2 v_29 v_30 v_31 v_6c0 v_6c1 v_6c3 v_6c4 v_6c6 v_6c7 v_6c8 v_6c11 b_8c0 b_8c1 b_8c3 b_8c4 b_8c6 b_8c7 b_8c8 b_8c11 v_6r2 v_6r5 v_6r9 v_6r10 v_6r12 v_6r13 v_6r14 v_6r15 b_8r2 b_8r5 b_8r9 b_8r10=>(tdo Tryz.f9 488,[(1,[.one (.str word_1)]),(2,[.one (.rsl 31 events_2)]),(6,[.one (.ptr 384 0)]),(8,[.one (.ptr 512 0)]),(29,[.one (.rsl 31 v_29)]),(30,[.one (.int .i64 v_30)]),(31,[.one (.int .i64 v_31)])],[(384,.var [.str v_6c0,.bool v_6c1,.own 1024578,.str v_6c3,.int .i64 v_6c4,.own 1024581,.int .i64 v_6c6,.str v_6c7,.int .i64 v_6c8,.own 1024585,.own 1024586,.int .i64 v_6c11,.own 1024588,.own 1024589,.own 1024590,.own 1024591]),(512,.var [.str b_8c0,.bool b_8c1,.own 1032770,.str b_8c3,.int .i64 b_8c4,.own 1032773,.int .i64 b_8c6,.str b_8c7,.int .i64 b_8c8,.own 1032777,.own 1032778,.int .i64 b_8c11]),(1024578,.sl 148 v_6r2),(1024581,.sl 71 v_6r5),(1024585,.sl 88 v_6r9),(1024586,.sl 159 v_6r10),(1024588,.sl 3 v_6r12),(1024589,.sl 9 v_6r13),(1024590,.sl 121 v_6r14),(1024591,.sl 73 v_6r15),(1032770,.sl 148 b_8r2),(1032773,.sl 71 b_8r5),(1032777,.sl 88 b_8r9),(1032778,.sl 159 b_8r10)])
 | .c1 v_46 v_47 v_48 v_6c0 v_6c1 v_6c3 v_6c4 v_6c6 v_6c7 v_6c8 v_6c11 l_12c0 l_12c1 l_12c3 l_12c4 l_12c6 l_12c7 l_12c8 l_12c11 v_6r2 v_6r5 v_6r9 v_6r10 v_6r12 v_6r13 v_6r14 v_6r15 l_12r2 l_12r5 l_12r9 l_12r10 l_12r12 l_12r13 l_12r14 l_12r15=>(tdo Tryz.f9 2024,[(6,[.one (.ptr 384 0)]),(12,[.one (.ptr 768 0)]),(46,[.one (.rsl 31 v_46)]),(47,[.one (.int .i64 v_47)]),(48,[.one (.int .i64 v_48)])],[(384,.var [.str v_6c0,.bool v_6c1,.own 1024578,.str v_6c3,.int .i64 v_6c4,.own 1024581,.int .i64 v_6c6,.str v_6c7,.int .i64 v_6c8,.own 1024585,.own 1024586,.int .i64 v_6c11,.own 1024588,.own 1024589,.own 1024590,.own 1024591]),(768,.var [.str l_12c0,.bool l_12c1,.own 1049154,.str l_12c3,.int .i64 l_12c4,.own 1049157,.int .i64 l_12c6,.str l_12c7,.int .i64 l_12c8,.own 1049161,.own 1049162,.int .i64 l_12c11,.own 1049164,.own 1049165,.own 1049166,.own 1049167]),(1024578,.sl 148 v_6r2),(1024581,.sl 71 v_6r5),(1024585,.sl 88 v_6r9),(1024586,.sl 159 v_6r10),(1024588,.sl 3 v_6r12),(1024589,.sl 9 v_6r13),(1024590,.sl 121 v_6r14),(1024591,.sl 73 v_6r15),(1049154,.sl 148 l_12r2),(1049157,.sl 71 l_12r5),(1049161,.sl 88 l_12r9),(1049162,.sl 159 l_12r10),(1049164,.sl 3 l_12r12),(1049165,.sl 9 l_12r13),(1049166,.sl 121 l_12r14),(1049167,.sl 73 l_12r15)])
noncomputable def Dq (z0:Gi) (z1:Ji) (z2:AZ) (z3:Bj) (z4:Qj) (k:Fg→Option (SLife×Bool)) (key_0:ByteArray) (word_1:ByteArray) (events_2:(List SEvent)):Option (SLife×Bool):=
 (z0 key_0 word_1).bind fun r0=>
 bif (!r0.2) then
 some (⟨⟨⟨#[]⟩,false,⟨[]⟩,⟨⟨#[]⟩,0,[],0,⟨#[]⟩,0⟩,[],[],0⟩,[],[],[],[]⟩,false)
 else
 bif (decide ((events_2.length:Int) > 40)) then
  some (⟨⟨⟨#[]⟩,false,⟨[]⟩,⟨⟨#[]⟩,0,[],0,⟨#[]⟩,0⟩,[],[],0⟩,[],[],[],[]⟩,false)
 else
  k (.c0 word_1 events_2 events_2 (events_2.length:Int) 0 ⟨#[]⟩ false ⟨#[]⟩ 0 0 ⟨#[]⟩ 0 0 r0.1.fKey r0.1.fUp r0.1.fBook.fWord r0.1.fBook.fTries r0.1.fBook.fLast r0.1.fBook.fChain r0.1.fBook.fCount r0.1.fOpened [] [] [] [] [] [] [] [] r0.1.fDisk.fFiles r0.1.fBook.fThings r0.1.fSessions r0.1.fLives)
noncomputable def Nb (z0:Gi) (z1:Ji) (z2:AZ) (z3:Bj) (z4:Qj) (k:Fg→Option (SLife×Bool)):Fg→Option (SLife×Bool)
 | .c0 word_1 events_2 v_29 v_30 v_31 v_6c0 v_6c1 v_6c3 v_6c4 v_6c6 v_6c7 v_6c8 v_6c11 b_8c0 b_8c1 b_8c3 b_8c4 b_8c6 b_8c7 b_8c8 b_8c11 v_6r2 v_6r5 v_6r9 v_6r10 v_6r12 v_6r13 v_6r14 v_6r15 b_8r2 b_8r5 b_8r9 b_8r10=>
 bif (decide (v_31<v_30)) then
  bif ((decide (0≤v_31)) && (decide (v_31<(v_29.length:Int)))) then
  (z1 (v_29.getD v_31.toNat (⟨⟨0,0,0,0,⟨#[]⟩,false,false⟩,false,[],false⟩:SEvent))).bind fun r0=>
  bif (!r0) then
  some (⟨⟨⟨#[]⟩,false,⟨[]⟩,⟨⟨#[]⟩,0,[],0,⟨#[]⟩,0⟩,[],[],0⟩,[],[],[],[]⟩,false)
  else
  k (.c0 word_1 events_2 v_29 v_30 (w64 (v_31+1)) v_6c0 v_6c1 v_6c3 v_6c4 v_6c6 v_6c7 v_6c8 v_6c11 b_8c0 b_8c1 b_8c3 b_8c4 b_8c6 b_8c7 b_8c8 b_8c11 v_6r2 v_6r5 v_6r9 v_6r10 v_6r12 v_6r13 v_6r14 v_6r15 b_8r2 b_8r5 b_8r9 b_8r10)
  else none
 else
  (z2 word_1).bind fun r1=>
  k (.c1 events_2 (events_2.length:Int) 0 v_6c0 v_6c1 v_6c3 v_6c4 v_6c6 v_6c7 v_6c8 v_6c11 b_8c0 b_8c1 b_8c3 b_8c4 b_8c6 b_8c7 b_8c8 b_8c11 v_6r2 v_6r5 v_6r9 v_6r10 v_6r12 v_6r13 v_6r14 v_6r15 b_8r2 b_8r5 b_8r9 b_8r10 [] [] [] [⟨1,r1,0,⟨0,0,false,false,false,false,⟨#[]⟩,0⟩⟩])
 | .c1 v_46 v_47 v_48 v_6c0 v_6c1 v_6c3 v_6c4 v_6c6 v_6c7 v_6c8 v_6c11 l_12c0 l_12c1 l_12c3 l_12c4 l_12c6 l_12c7 l_12c8 l_12c11 v_6r2 v_6r5 v_6r9 v_6r10 v_6r12 v_6r13 v_6r14 v_6r15 l_12r2 l_12r5 l_12r9 l_12r10 l_12r12 l_12r13 l_12r14 l_12r15=>
 bif (decide (v_48<v_47)) then
  bif ((decide (0≤v_48)) && (decide (v_48<(v_46.length:Int)))) then
  bif (v_46.getD v_48.toNat (⟨⟨0,0,0,0,⟨#[]⟩,false,false⟩,false,[],false⟩:SEvent)).fRise then
  (z3 ⟨⟨l_12c0,l_12c1,⟨l_12r2⟩,⟨l_12c3,l_12c4,l_12r5,l_12c6,l_12c7,l_12c8⟩,l_12r9,l_12r10,l_12c11⟩,l_12r12,l_12r13,l_12r14,l_12r15⟩).bind fun r0=>
  k (.c1 v_46 v_47 (w64 (v_48+1)) v_6c0 v_6c1 v_6c3 v_6c4 v_6c6 v_6c7 v_6c8 v_6c11 r0.fBox.fKey r0.fBox.fUp r0.fBox.fBook.fWord r0.fBox.fBook.fTries r0.fBox.fBook.fLast r0.fBox.fBook.fChain r0.fBox.fBook.fCount r0.fBox.fOpened v_6r2 v_6r5 v_6r9 v_6r10 v_6r12 v_6r13 v_6r14 v_6r15 r0.fBox.fDisk.fFiles r0.fBox.fBook.fThings r0.fBox.fSessions r0.fBox.fLives r0.fCodes r0.fReplies r0.fGives r0.fDone)
  else
  (z4 ⟨⟨l_12c0,l_12c1,⟨l_12r2⟩,⟨l_12c3,l_12c4,l_12r5,l_12c6,l_12c7,l_12c8⟩,l_12r9,l_12r10,l_12c11⟩,l_12r12,l_12r13,l_12r14,l_12r15⟩ (v_46.getD v_48.toNat (⟨⟨0,0,0,0,⟨#[]⟩,false,false⟩,false,[],false⟩:SEvent)) v_48).bind fun r1=>
  k (.c1 v_46 v_47 (w64 (v_48+1)) v_6c0 v_6c1 v_6c3 v_6c4 v_6c6 v_6c7 v_6c8 v_6c11 r1.fBox.fKey r1.fBox.fUp r1.fBox.fBook.fWord r1.fBox.fBook.fTries r1.fBox.fBook.fLast r1.fBox.fBook.fChain r1.fBox.fBook.fCount r1.fBox.fOpened v_6r2 v_6r5 v_6r9 v_6r10 v_6r12 v_6r13 v_6r14 v_6r15 r1.fBox.fDisk.fFiles r1.fBox.fBook.fThings r1.fBox.fSessions r1.fBox.fLives r1.fCodes r1.fReplies r1.fGives r1.fDone)
  else none
 else
  some (⟨⟨l_12c0,l_12c1,⟨l_12r2⟩,⟨l_12c3,l_12c4,l_12r5,l_12c6,l_12c7,l_12c8⟩,l_12r9,l_12r10,l_12c11⟩,l_12r12,l_12r13,l_12r14,l_12r15⟩,true)
noncomputable def OZ:Nat→Fg→Option (SLife×Bool)
 | 0,_=>none
 | m+1,s=>Nb impl_BoxNew impl_EventOk impl_DigestOf TY CV (OZ m) s
noncomputable def EZ:Bq:=Dq impl_BoxNew impl_EventOk impl_DigestOf TY CV (OZ gas)
theorem KAA:Tells ctx PP 9 cv90 cv91 (fun a=>EZ a.1 a.2.1 a.2.2):=
 have b:∀ z0 z1 z2 z3 z4,CutIs ctx PP 9 Tryz.f9 [] [(12,Wv z0),(24,Zv z1),(25,JZ z2),(26,Px z3),(27,Py z4)] cv91 Qy (Nb z0 z1 z2 z3 z4):=fun z0 z1 z2 z3 z4 _ s=>by cases s <;> kernel_rfl
 have e:∀ z0 z1 z2 z3 z4,EntryIs ctx PP 9 [] [(12,Wv z0),(24,Zv z1),(25,JZ z2),(26,Px z3),(27,Py z4)] cv90 cv91 Qy (fun k a=>Dq z0 z1 z2 z3 z4 k a.1 a.2.1 a.2.2):=fun z0 z1 z2 z3 z4 _ a=>by kernel_rfl
 fn_ok (hc H7 (hc I7 (hc UZ (hc N8 (hc JAA hl_nil))))) Tryz.func9 (fun s s' h=>by cases s <;> cases s' <;> first | (cases h;done) | (cases h;rfl) | exact (rg_ne h (by kernel_rfl)).elim) (fun _=>rfl) (fun _ _=>rfl) (b impl_BoxNew impl_EventOk impl_DigestOf TY CV) (e impl_BoxNew impl_EventOk impl_DigestOf TY CV) gas
noncomputable def LAA {γ:Type} (F:Bq):Hd ctx γ:=hdl cv90.dec (fun a=>F a.1 a.2.1 a.2.2) cv91.enc
abbrev Fq:=(List Int)→(List Int)→Option Bool
inductive Gg where
 | c0 (a_0:(List Int)) (b_1:(List Int)) (i_5:Int)
noncomputable def Ry:Gg→LI
 | .c0 a_0 b_1 i_5=>(tdo Tryz.f10 464,[(0,[.one (.rsl 3 a_0)]),(1,[.one (.rsl 3 b_1)]),(5,[.one (.int .i64 i_5)])],[])
noncomputable def Gq (k:Gg→Option Bool) (a_0:(List Int)) (b_1:(List Int)):Option Bool:=
 bif ((a_0.length:Int) != (b_1.length:Int)) then
 some false
 else
 k (.c0 a_0 b_1 0)
noncomputable def Rj (k:Gg→Option Bool):Gg→Option Bool
 | .c0 a_0 b_1 i_5=>
 bif (decide (i_5<(a_0.length:Int))) then
  bif ((decide (0≤i_5)) && (decide (i_5<(a_0.length:Int)))) then
  bif ((decide (0≤i_5)) && (decide (i_5<(b_1.length:Int)))) then
  bif ((a_0.getD i_5.toNat 0) != (b_1.getD i_5.toNat 0)) then
  some false
  else
  k (.c0 a_0 b_1 (w64 (i_5+1)))
  else none
  else none
 else
  some true
noncomputable def Hg:Nat→Gg→Option Bool
 | 0,_=>none
 | m+1,s=>Rj (Hg m) s
noncomputable def Ig:Fq:=Gq (Hg gas)
theorem MAA:Tells ctx PP 10 cv92 cv1 (fun a=>Ig a.1 a.2):=
 have b:CutIs ctx PP 10 Tryz.f10 [] [] cv1 Ry (Rj):=fun _ s=>by cases s <;> kernel_rfl
 have e:EntryIs ctx PP 10 [] [] cv92 cv1 Ry (fun k a=>Gq k a.1 a.2):=fun _ a=>by kernel_rfl
 fn_ok hl_nil Tryz.func10 (fun s s' h=>by cases s;cases s';cases h;rfl) (fun _=>rfl) (fun _ _=>rfl) b e gas
noncomputable def NAA {γ:Type} (F:Fq):Hd ctx γ:=hdl cv92.dec (fun a=>F a.1 a.2) cv1.enc
abbrev Uy:=Unit→Option Bool
noncomputable def Hq (z0:Jk) (z1:Qk) (z2:Uk) (z3:Ll) (z4:Bq) (z5:Fq) (code_0:Unit):Option Bool:=
 (z0 ()).bind fun r0=>
 bif r0 then
 some true
 else
 (z1 ()).bind fun r1=>
 bif ((decide ((0:Int)≤(0:Int))) && (decide (0<(r1.length:Int)))) then
 (z2 (r1.getD (0:Int).toNat 0)).bind fun r2=>
 (z3 r2).bind fun r3=>
 (z4 r3 r2 [⟨⟨1,0,0,0,⟨#[]⟩,false,false⟩,false,[],false⟩,⟨⟨2,1,0,0,r2,false,false⟩,false,[],false⟩,⟨⟨2,1,0,0,⟨#[110,111]⟩,false,false⟩,false,[],false⟩,⟨⟨2,1,0,0,⟨#[110,111]⟩,false,false⟩,false,[],false⟩,⟨⟨2,1,0,0,⟨#[110,111]⟩,false,false⟩,false,[],false⟩,⟨⟨2,1,0,0,r2,false,false⟩,false,[],false⟩]).bind fun r4=>
 (z4 r3 r2 [⟨⟨1,0,0,0,⟨#[]⟩,false,false⟩,false,[],false⟩,⟨⟨2,1,0,0,⟨#[110,111]⟩,false,false⟩,false,[],false⟩,⟨⟨2,1,0,0,⟨#[110,111]⟩,false,false⟩,false,[],false⟩,⟨⟨2,1,0,0,r2,false,false⟩,false,[],false⟩,⟨⟨2,1,0,0,⟨#[110,111]⟩,false,false⟩,false,[],false⟩,⟨⟨2,1,0,0,r2,false,false⟩,false,[],false⟩]).bind fun r5=>
 (z4 r3 r2 [⟨⟨1,0,0,0,⟨#[]⟩,false,false⟩,false,[],false⟩,⟨⟨2,1,0,0,⟨#[110,111]⟩,false,false⟩,false,[],false⟩,⟨⟨2,1,0,0,⟨#[110,111]⟩,false,false⟩,false,[],false⟩,⟨⟨2,1,0,0,⟨#[110,111]⟩,false,false⟩,true,[9000],false⟩,⟨⟨0,0,0,0,⟨#[]⟩,false,false⟩,false,[],true⟩,⟨⟨1,0,0,0,⟨#[]⟩,false,false⟩,false,[],false⟩,⟨⟨2,1,0,0,r2,false,false⟩,false,[],false⟩]).bind fun r6=>
 bif r4.2 then
  bif r5.2 then
  bif r6.2 then
   (z5 r4.1.fCodes [0,0,4,4,4,3]).bind fun r7=>
   bif r7 then
   (z5 r5.1.fCodes [0,4,4,0,4,0]).bind fun r8=>
   bif r8 then
    (z5 r6.1.fCodes [0,4,4,10,0,0,3]).bind fun r9=>
    bif r9 then
    some (r4.1.fBox.fBook.fTries == 3)
    else
    some false
   else
    some false
   else
   some false
  else
   some false
  else
  some false
 else
  some false
 else none
noncomputable def laws_FnLocked:Uy:=Hq Xg spec_DrawPlaces Zb spec_DigestOf EZ Ig
theorem ok_laws_FnLocked:Tells ctx PP 3 cv0 cv1 (fun a=>laws_FnLocked a):=fn_ok0 (hc Tz (hc Yz (hc U0 (hc O4 (hc KAA (hc MAA hl_nil)))))) Tryz.func3 ((fun z0 z1 z2 z3 z4 z5 a=>by kernel_rfl:∀ z0 z1 z2 z3 z4 z5,EntryIs0 ctx PP 3 [] [(5,Uz z0),(6,Zz z1),(7,X0 z2),(8,U4 z3),(9,LAA z4),(10,NAA z5)] cv0 cv1 fun a=>Hq z0 z1 z2 z3 z4 z5 a) Xg spec_DrawPlaces Zb spec_DigestOf EZ Ig)
noncomputable def YAC {γ:Type} (F:Uy):Hd ctx γ:=hdl cv0.dec (fun a=>F a) cv1.enc
end Go.Proofs.YtefdenlloeedkaaGreatDoor.G

/- Functions of the program, told by plain functions: part 1 of 2. -/
import Derived.Test.YtnmmhkanpfmaaaaGreatDoorCtx
namespace Go.Proofs.YtnmmhkanpfmaaaaGreatDoor.G
open Go Go.Ev
set_option linter.unusedVariables false
set_option maxRecDepth 100000
set_option linter.unusedSectionVars false
variable [PC]
abbrev Om:=Unit→Option Bool
noncomputable def D6 (code_0:Unit):Option Bool:=
 some (decide ((codeL.length:Int) > 1048576))
noncomputable def laws_big:Om:=D6
theorem VAD:Tells ctx PP 10 cv49 cv4 (fun a=>laws_big a):=fn_ok0 hl_nil Tryz.func10 (fun a=>by kernel_rfl:EntryIs0 ctx PP 10 [] [] cv49 cv4 fun a=>D6 a)
noncomputable def V5 {γ:Type} (F:Om):Hd ctx γ:=hdl cv49.dec (fun a=>F a) cv4.enc
abbrev Um:=Unit→Option SL01Cur
inductive Jg where
 | c0 (h_3:Int) (i_4:Int)
noncomputable def F6:Jg→LI
 | .c0 h_3 i_4=>(tdo Tryz.f28 464,[(0,[.one (.csl)]),(3,[.one (.int .i64 h_3)]),(4,[.one (.int .i64 i_4)])],[])
noncomputable def E_spec_l01New (k:Jg→Option SL01Cur) (code_0:Unit):Option SL01Cur:=
 k (.c0 (w64 (27401+(codeL.length:Int))) 0)
noncomputable def B_spec_l01New (k:Jg→Option SL01Cur):Jg→Option SL01Cur
 | .c0 h_3 i_4=>
 bif (decide (i_4<(codeL.length:Int))) then
  bif (decide (i_4<4000)) then
  bif ((decide (0≤i_4)) && (decide (i_4<(codeL.length:Int)))) then
  bif (Nat.blt i_4.toNat codeL.length) then
  k (.c0 (w64 (((BitVec.toNat ((BitVec.ofInt (IntKind.bits IntKind.i64) (w64 ((w64 ((w64 (h_3*131))+(w64 (codeL.getD i_4.toNat 0))))+7))) &&& (BitVec.ofInt (IntKind.bits IntKind.i64) 1073741823))):Nat):Int)) (w64 (i_4+1)))
  else none
  else none
  else
  some ⟨(),0,h_3⟩
 else
  some ⟨(),0,h_3⟩
noncomputable def L_spec_l01New:Nat→Jg→Option SL01Cur
 | 0,_=>none
 | m+1,s=>B_spec_l01New (L_spec_l01New m) s
noncomputable def spec_l01New:Um:=E_spec_l01New (L_spec_l01New gas)
theorem ZAD:Tells ctx PP 28 cv49 cv50 (fun a=>spec_l01New a):=
 have b:CutIs ctx PP 28 Tryz.f28 [] [] cv50 F6 (B_spec_l01New):=fun _ s=>by cases s <;> kernel_rfl
 have e:EntryIs ctx PP 28 [] [] cv49 cv50 F6 (fun k a=>E_spec_l01New k a):=fun _ a=>by kernel_rfl
 fn_ok hl_nil Tryz.func28 (fun s s' h=>by cases s;cases s';cases h;rfl) (fun _=>rfl) (fun _ _=>rfl) b e gas
noncomputable def G6 {γ:Type} (F:Um):Hd ctx γ:=hdl cv49.dec (fun a=>F a) cv50.enc
abbrev Og:=SL01Cur→Option (Int×SL01Cur)
noncomputable def E_spec_l01Byte (c_0:SL01Cur):Option (Int×SL01Cur):=
 bif (decide (c_0.fI<(codeL.length:Int))) then
 bif ((decide (0≤c_0.fI)) && (decide (c_0.fI<(codeL.length:Int)))) then
 bif (Nat.blt c_0.fI.toNat codeL.length) then
 some ((w64 (((BitVec.toNat ((BitVec.ofInt (IntKind.bits IntKind.i64) (w64 ((w64 (((BitVec.toNat ((BitVec.ofInt (IntKind.bits IntKind.i64) (w64 (((BitVec.toNat ((BitVec.ofInt (IntKind.bits IntKind.i64) (Int.fdiv (w64 ((w64 (c_0.fH*6364136223846793005))+1442695040888963407)) (2 ^ (Min.min (33:Int).toNat (IntKind.bits IntKind.i64))))) ^^^ (BitVec.ofInt (IntKind.bits IntKind.i64) (Int.fdiv (w64 ((w64 (c_0.fH*6364136223846793005))+1442695040888963407)) (2 ^ (Min.min (45:Int).toNat (IntKind.bits IntKind.i64))))))):Nat):Int))) &&& (BitVec.ofInt (IntKind.bits IntKind.i64) 255))):Nat):Int))+(w64 (codeL.getD c_0.fI.toNat 0))))) &&& (BitVec.ofInt (IntKind.bits IntKind.i64) 255))):Nat):Int)),⟨(),(w64 (c_0.fI+1)),(w64 ((w64 (c_0.fH*6364136223846793005))+1442695040888963407))⟩)
 else none
 else none
 else
 some ((w64 (((BitVec.toNat ((BitVec.ofInt (IntKind.bits IntKind.i64) (w64 (((BitVec.toNat ((BitVec.ofInt (IntKind.bits IntKind.i64) (Int.fdiv (w64 ((w64 (c_0.fH*6364136223846793005))+1442695040888963407)) (2 ^ (Min.min (33:Int).toNat (IntKind.bits IntKind.i64))))) ^^^ (BitVec.ofInt (IntKind.bits IntKind.i64) (Int.fdiv (w64 ((w64 (c_0.fH*6364136223846793005))+1442695040888963407)) (2 ^ (Min.min (45:Int).toNat (IntKind.bits IntKind.i64))))))):Nat):Int))) &&& (BitVec.ofInt (IntKind.bits IntKind.i64) 255))):Nat):Int)),⟨(),c_0.fI,(w64 ((w64 (c_0.fH*6364136223846793005))+1442695040888963407))⟩)
noncomputable def spec_l01Byte:Og:=E_spec_l01Byte
theorem H6:Tells ctx PP 42 cv51 cv52 (fun a=>spec_l01Byte a):=fn_ok0 hl_nil Tryz.func42 (fun a=>by kernel_rfl:EntryIs0 ctx PP 42 [0] [] cv51 cv52 fun a=>E_spec_l01Byte a)
noncomputable def Es {γ:Type} (F:Og):Hd ctx γ:=hdl cv51.dec (fun a=>F a) cv52.enc
abbrev Vm:=SL01Cur→Int→Option (Int×SL01Cur)
noncomputable def E_spec_l01Below (z0:Og) (c_0:SL01Cur) (n_1:Int):Option (Int×SL01Cur):=
 bif (decide (n_1≤0)) then
 some (0,⟨(),c_0.fI,c_0.fH⟩)
 else
 bif (decide (n_1≤256)) then
  (z0 ⟨(),c_0.fI,c_0.fH⟩).bind fun r0=>
  bif (!(n_1 == 0)) then
  some ((r0.1.tmod n_1),⟨(),r0.2.fI,r0.2.fH⟩)
  else none
 else
  (z0 ⟨(),c_0.fI,c_0.fH⟩).bind fun r1=>
  (z0 ⟨(),r1.2.fI,r1.2.fH⟩).bind fun r2=>
  (z0 ⟨(),r2.2.fI,r2.2.fH⟩).bind fun r3=>
  (z0 ⟨(),r3.2.fI,r3.2.fH⟩).bind fun r4=>
  bif (!(n_1 == 0)) then
  some (((w64 ((w64 ((w64 ((w64 (r1.1*16777216))+(w64 (r2.1*65536))))+(w64 (r3.1*256))))+r4.1)).tmod n_1),⟨(),r4.2.fI,r4.2.fH⟩)
  else none
noncomputable def spec_l01Below:Vm:=E_spec_l01Below spec_l01Byte
theorem AAE:Tells ctx PP 43 cv53 cv52 (fun a=>spec_l01Below a.1 a.2):=fn_ok0 (hc H6 hl_nil) Tryz.func43 ((fun z0 a=>by kernel_rfl:∀ z0,EntryIs0 ctx PP 43 [0] [(42,Es z0)] cv53 cv52 fun a=>E_spec_l01Below z0 a.1 a.2) spec_l01Byte)
noncomputable def J6 {γ:Type} (F:Vm):Hd ctx γ:=hdl cv53.dec (fun a=>F a.1 a.2) cv52.enc
abbrev Pm:=Unit→Option (List Int)
inductive Pg where
 | c0 (i_5:Int) (v_7c1:Int) (v_7c2:Int) (out_4:(List Int))
noncomputable def O6:Pg→LI
 | .c0 i_5 v_7c1 v_7c2 out_4=>(tdo Tryz.f18 2000,[(3,[.one (.ptr 448 0)]),(4,[.one (.own 304)]),(5,[.one (.int .i64 i_5)])],[(448,.var [.csl,.int .i64 v_7c1,.int .i64 v_7c2]),(304,.sl 3 out_4)])
noncomputable def E_spec_DrawPlaces (z0:Um) (z1:Og) (z2:Vm) (k:Pg→Option (List Int)) (code_0:Unit):Option (List Int):=
 (z0 ()).bind fun r0=>
 (z1 ⟨(),r0.fI,r0.fH⟩).bind fun r1=>
 k (.c0 0 r1.2.fI r1.2.fH [])
noncomputable def B_spec_DrawPlaces (z0:Um) (z1:Og) (z2:Vm) (k:Pg→Option (List Int)):Pg→Option (List Int)
 | .c0 i_5 v_7c1 v_7c2 out_4=>
 bif (decide (i_5<12)) then
  (z2 ⟨(),v_7c1,v_7c2⟩ 10000).bind fun r0=>
  bif (decide (((out_4.length+1)*8)≤140737488355328)) then
  k (.c0 (w64 (i_5+1)) r0.2.fI r0.2.fH (out_4++[r0.1]))
  else none
 else
  some out_4
noncomputable def L_spec_DrawPlaces:Nat→Pg→Option (List Int)
 | 0,_=>none
 | m+1,s=>B_spec_DrawPlaces spec_l01New spec_l01Byte spec_l01Below (L_spec_DrawPlaces m) s
noncomputable def spec_DrawPlaces:Pm:=E_spec_DrawPlaces spec_l01New spec_l01Byte spec_l01Below (L_spec_DrawPlaces gas)
theorem WAD:Tells ctx PP 18 cv49 cv17 (fun a=>spec_DrawPlaces a):=
 have b:∀ z0 z1 z2,CutIs ctx PP 18 Tryz.f18 [] [(28,G6 z0),(42,Es z1),(43,J6 z2)] cv17 O6 (B_spec_DrawPlaces z0 z1 z2):=fun z0 z1 z2 _ s=>by cases s <;> kernel_rfl
 have e:∀ z0 z1 z2,EntryIs ctx PP 18 [] [(28,G6 z0),(42,Es z1),(43,J6 z2)] cv49 cv17 O6 (fun k a=>E_spec_DrawPlaces z0 z1 z2 k a):=fun z0 z1 z2 _ a=>by kernel_rfl
 fn_ok (hc ZAD (hc H6 (hc AAE hl_nil))) Tryz.func18 (fun s s' h=>by cases s;cases s';cases h;rfl) (fun _=>rfl) (fun _ _=>rfl) (b spec_l01New spec_l01Byte spec_l01Below) (e spec_l01New spec_l01Byte spec_l01Below) gas
noncomputable def X5 {γ:Type} (F:Pm):Hd ctx γ:=hdl cv49.dec (fun a=>F a) cv17.enc
abbrev Xm:=Int→Option Int
noncomputable def Gs (x_0:Int):Option Int:=
 bif (decide (x_0<10)) then
 some (w8 (w64 (48+x_0)))
 else
 some (w8 (w64 ((w64 (97+x_0)) - 10)))
noncomputable def Ld:Xm:=Gs
theorem BAE:Tells ctx PP 47 cv1 cv71 (fun a=>Ld a):=fn_ok0 hl_nil Tryz.func47 (fun a=>by kernel_rfl:EntryIs0 ctx PP 47 [] [] cv1 cv71 fun a=>Gs a)
noncomputable def P6 {γ:Type} (F:Xm):Hd ctx γ:=hdl cv1.dec (fun a=>F a) cv71.enc
abbrev Qm:=Int→Option ByteArray
inductive Qg where
 | c0 (n_0:Int) (below_3:Bool) (s_4:ByteArray)
noncomputable def U6:Qg→LI
 | .c0 n_0 below_3 s_4=>(tdo Tryz.f20 992,[(0,[.one (.int .i64 n_0)]),(3,[.one (.bool below_3)]),(4,[.one (.str s_4)])],[])
noncomputable def Js (z0:Xm) (k:Qg→Option ByteArray) (n_0:Int):Option ByteArray:=
 bif (n_0 == 0) then
 some ⟨#[48]⟩
 else
 k (.c0 n_0 (decide (n_0<0)) ⟨#[]⟩)
noncomputable def Ls (z0:Xm) (k:Qg→Option ByteArray):Qg→Option ByteArray
 | .c0 n_0 below_3 s_4=>
 bif (n_0 != 0) then
  bif (decide ((n_0.tmod 10)<0)) then
  (z0 (w64 (0 - (n_0.tmod 10)))).bind fun r0=>
  bif (decide (((ofBytes [r0]).size+s_4.size)≤9223372036854775807)) then
  k (.c0 (w64 (n_0.tdiv 10)) below_3 ((ofBytes [r0])++s_4))
  else none
  else
  (z0 (n_0.tmod 10)).bind fun r1=>
  bif (decide (((ofBytes [r1]).size+s_4.size)≤9223372036854775807)) then
  k (.c0 (w64 (n_0.tdiv 10)) below_3 ((ofBytes [r1])++s_4))
  else none
 else
  bif below_3 then
  bif (decide (((⟨#[45]⟩:ByteArray).size+s_4.size)≤9223372036854775807)) then
  some ((⟨#[45]⟩:ByteArray)++s_4)
  else none
  else
  some s_4
noncomputable def Ym:Nat→Qg→Option ByteArray
 | 0,_=>none
 | m+1,s=>Ls Ld (Ym m) s
noncomputable def Qb:Qm:=Js Ld (Ym gas)
theorem XAD:Tells ctx PP 20 cv1 cv8 (fun a=>Qb a):=
 have b:∀ z0,CutIs ctx PP 20 Tryz.f20 [] [(47,P6 z0)] cv8 U6 (Ls z0):=fun z0 _ s=>by cases s <;> kernel_rfl
 have e:∀ z0,EntryIs ctx PP 20 [] [(47,P6 z0)] cv1 cv8 U6 (fun k a=>Js z0 k a):=fun z0 _ a=>by kernel_rfl
 fn_ok (hc BAE hl_nil) Tryz.func20 (fun s s' h=>by cases s;cases s';cases h;rfl) (fun _=>rfl) (fun _ _=>rfl) (b Ld) (e Ld) gas
noncomputable def Y5 {γ:Type} (F:Qm):Hd ctx γ:=hdl cv1.dec (fun a=>F a) cv8.enc
abbrev Ns:=Option (List Int)
noncomputable def V6  : Option (List Int):=
 some [1779033703,3144134277,1013904242,2773480762,1359893119,2600822924,528734635,1541459225]
noncomputable def spec_l05First:Ns:=V6
theorem CAE:Tells ctx PP 84 cv5 cv6 (fun _=>spec_l05First):=fn_ok0 hl_nil Tryz.func84 (fun _=>by kernel_rfl:EntryIs0 ctx PP 84 [] [] cv5 cv6 fun _=>V6)
noncomputable def DAE {γ:Type} (F:Ns):Hd ctx γ:=hdl cv5.dec (fun _=>F) cv6.enc
abbrev Ub:=(List Int)→Option ByteArray
inductive Ug where
 | c0 (words_0:(List Int)) (i_4:Int) (out_3:(List Int))
noncomputable def X6:Ug→LI
 | .c0 words_0 i_4 out_3=>(tdo Tryz.f83 464,[(0,[.one (.rsl 133 words_0)]),(3,[.one (.own 240)]),(4,[.one (.int .i64 i_4)])],[(240,.sl 5 out_3)])
noncomputable def Y6 (k:Ug→Option ByteArray) (words_0:(List Int)):Option ByteArray:=
 k (.c0 words_0 0 [])
noncomputable def B_spec_l05Bytes (k:Ug→Option ByteArray):Ug→Option ByteArray
 | .c0 words_0 i_4 out_3=>
 bif (decide (i_4<(words_0.length:Int))) then
  bif ((decide (0≤i_4)) && (decide (i_4<(words_0.length:Int)))) then
  bif (decide (((out_3.length+4)*1)≤140737488355328)) then
  k (.c0 words_0 (w64 (i_4+1)) (out_3++[(w8 (w32 ((words_0.getD i_4.toNat 0).tdiv 16777216))),(w8 ((w32 ((words_0.getD i_4.toNat 0).tdiv 65536)).tmod 256)),(w8 ((w32 ((words_0.getD i_4.toNat 0).tdiv 256)).tmod 256)),(w8 ((words_0.getD i_4.toNat 0).tmod 256))]))
  else none
  else none
 else
  some (ofBytes out_3)
noncomputable def L_spec_l05Bytes:Nat→Ug→Option ByteArray
 | 0,_=>none
 | m+1,s=>B_spec_l05Bytes (L_spec_l05Bytes m) s
noncomputable def spec_l05Bytes:Ub:=Y6 (L_spec_l05Bytes gas)
theorem Qs:Tells ctx PP 83 cv7 cv8 (fun a=>spec_l05Bytes a):=
 have b:CutIs ctx PP 83 Tryz.f83 [] [] cv8 X6 (B_spec_l05Bytes):=fun _ s=>by cases s <;> kernel_rfl
 have e:EntryIs ctx PP 83 [] [] cv7 cv8 X6 (fun k a=>Y6 k a):=fun _ a=>by kernel_rfl
 fn_ok hl_nil Tryz.func83 (fun s s' h=>by cases s;cases s';cases h;rfl) (fun _=>rfl) (fun _ _=>rfl) b e gas
noncomputable def Vg {γ:Type} (F:Ub):Hd ctx γ:=hdl cv7.dec (fun a=>F a) cv8.enc
abbrev Us:=Option SHasher
noncomputable def E_spec_HasherNew (z0:Ns) (z1:Ub)  : Option SHasher:=
 z0.bind fun r0=>
 (z1 r0).bind fun r1=>
 some ⟨r1,⟨#[]⟩,0⟩
noncomputable def spec_HasherNew:Us:=E_spec_HasherNew spec_l05First spec_l05Bytes
theorem EAE:Tells ctx PP 46 cv5 cv9 (fun _=>spec_HasherNew):=fn_ok0 (hc CAE (hc Qs hl_nil)) Tryz.func46 ((fun z0 z1 _=>by kernel_rfl:∀ z0 z1,EntryIs0 ctx PP 46 [] [(84,DAE z0),(83,Vg z1)] cv5 cv9 fun _=>E_spec_HasherNew z0 z1) spec_l05First spec_l05Bytes)
noncomputable def FAE {γ:Type} (F:Us):Hd ctx γ:=hdl cv5.dec (fun _=>F) cv9.enc
abbrev Vs:=Int→Int→Int→Option Bool
noncomputable def D7 (x_0:Int) (least_1:Int) (most_2:Int):Option Bool:=
 bif (decide (x_0≥least_1)) then
 some (decide (x_0≤most_2))
 else
 some false
noncomputable def spec_l01In:Vs:=D7
theorem GAE:Tells ctx PP 35 cv3 cv4 (fun a=>spec_l01In a.1 a.2.1 a.2.2):=fn_ok0 hl_nil Tryz.func35 (fun a=>by kernel_rfl:EntryIs0 ctx PP 35 [] [] cv3 cv4 fun a=>D7 a.1 a.2.1 a.2.2)
noncomputable def HAE {γ:Type} (F:Vs):Hd ctx γ:=hdl cv3.dec (fun a=>F a.1 a.2.1 a.2.2) cv4.enc
abbrev Md:=SHasher→Option Bool
noncomputable def E_spec_HasherOk (z0:Vs) (h_0:SHasher):Option Bool:=
 bif ((h_0.fState.size:Int) == 32) then
 bif (decide ((h_0.fRest.size:Int)<64)) then
  (z0 h_0.fCount 0 1000000000).bind fun r0=>
  bif r0 then
  some ((h_0.fCount.tmod 64) == (h_0.fRest.size:Int))
  else
  some false
 else
  some false
 else
 some false
noncomputable def spec_HasherOk:Md:=E_spec_HasherOk spec_l01In
theorem F7:Tells ctx PP 79 cv9 cv4 (fun a=>spec_HasherOk a):=fn_ok0 (hc GAE hl_nil) Tryz.func79 ((fun z0 a=>by kernel_rfl:∀ z0,EntryIs0 ctx PP 79 [] [(35,HAE z0)] cv9 cv4 fun a=>E_spec_HasherOk z0 a) spec_l01In)
noncomputable def Zm {γ:Type} (F:Md):Hd ctx γ:=hdl cv9.dec (fun a=>F a) cv4.enc
abbrev Dn:=ByteArray→Int→Option Int
noncomputable def E_spec_l05Word (s_0:ByteArray) (at_1:Int):Option Int:=
 bif ((decide (0≤at_1)) && (decide (at_1<(s_0.size:Int)))) then
 bif ((decide (0≤(w64 (at_1+1)))) && (decide ((w64 (at_1+1))<(s_0.size:Int)))) then
 bif ((decide (0≤(w64 (at_1+2)))) && (decide ((w64 (at_1+2))<(s_0.size:Int)))) then
 bif ((decide (0≤(w64 (at_1+3)))) && (decide ((w64 (at_1+3))<(s_0.size:Int)))) then
 some (w32 ((w32 ((w32 ((w32 ((w32 (bt s_0 at_1))*16777216))+(w32 ((w32 (bt s_0 (w64 (at_1+1))))*65536))))+(w32 ((w32 (bt s_0 (w64 (at_1+2))))*256))))+(w32 (bt s_0 (w64 (at_1+3))))))
 else none
 else none
 else none
 else none
noncomputable def spec_l05Word:Dn:=E_spec_l05Word
theorem IAE:Tells ctx PP 119 cv10 cv11 (fun a=>spec_l05Word a.1 a.2):=fn_ok0 hl_nil Tryz.func119 (fun a=>by kernel_rfl:EntryIs0 ctx PP 119 [] [] cv10 cv11 fun a=>E_spec_l05Word a.1 a.2)
noncomputable def G7 {γ:Type} (F:Dn):Hd ctx γ:=hdl cv10.dec (fun a=>F a.1 a.2) cv11.enc
abbrev Va:=ByteArray→Option (List Int)
inductive Xg where
 | c0 (s_0:ByteArray) (i_4:Int) (out_3:(List Int))
noncomputable def H7:Xg→LI
 | .c0 s_0 i_4 out_3=>(tdo Tryz.f80 464,[(0,[.one (.str s_0)]),(3,[.one (.own 240)]),(4,[.one (.int .i64 i_4)])],[(240,.sl 133 out_3)])
noncomputable def I7 (z0:Dn) (k:Xg→Option (List Int)) (s_0:ByteArray):Option (List Int):=
 k (.c0 s_0 0 [])
noncomputable def B_spec_l05Words (z0:Dn) (k:Xg→Option (List Int)):Xg→Option (List Int)
 | .c0 s_0 i_4 out_3=>
 bif (decide ((w64 (i_4+4))≤(s_0.size:Int))) then
  (z0 s_0 i_4).bind fun r0=>
  bif (decide (((out_3.length+1)*4)≤140737488355328)) then
  k (.c0 s_0 (w64 (i_4+4)) (out_3++[r0]))
  else none
 else
  some out_3
noncomputable def L_spec_l05Words:Nat→Xg→Option (List Int)
 | 0,_=>none
 | m+1,s=>B_spec_l05Words spec_l05Word (L_spec_l05Words m) s
noncomputable def spec_l05Words:Va:=I7 spec_l05Word (L_spec_l05Words gas)
theorem Ws:Tells ctx PP 80 cv8 cv6 (fun a=>spec_l05Words a):=
 have b:∀ z0,CutIs ctx PP 80 Tryz.f80 [] [(119,G7 z0)] cv6 H7 (B_spec_l05Words z0):=fun z0 _ s=>by cases s <;> kernel_rfl
 have e:∀ z0,EntryIs ctx PP 80 [] [(119,G7 z0)] cv8 cv6 H7 (fun k a=>I7 z0 k a):=fun z0 _ a=>by kernel_rfl
 fn_ok (hc IAE hl_nil) Tryz.func80 (fun s s' h=>by cases s;cases s';cases h;rfl) (fun _=>rfl) (fun _ _=>rfl) (b spec_l05Word) (e spec_l05Word) gas
noncomputable def Qd {γ:Type} (F:Va):Hd ctx γ:=hdl cv8.dec (fun a=>F a) cv6.enc
abbrev Td:=Option (List Int)
noncomputable def J7  : Option (List Int):=
 some [1116352408,1899447441,3049323471,3921009573,961987163,1508970993,2453635748,2870763221,3624381080,310598401,607225278,1426881987,1925078388,2162078206,2614888103,3248222580,3835390401,4022224774,264347078,604807628,770255983,1249150122,1555081692,1996064986,2554220882,2821834349,2952996808,3210313671,3336571891,3584528711,113926993,338241895,666307205,773529912,1294757372,1396182291,1695183700,1986661051,2177026350,2456956037,2730485921,2820302411,3259730800,3345764771,3516065817,3600352804,4094571909,275423344,430227734,506948616,659060556,883997877,958139571,1322822218,1537002063,1747873779,1955562222,2024104815,2227730452,2361852424,2428436474,2756734187,3204031479,3329325298]
noncomputable def spec_l05K:Td:=J7
theorem N7:Tells ctx PP 81 cv5 cv6 (fun _=>spec_l05K):=fn_ok0 hl_nil Tryz.func81 (fun _=>by kernel_rfl:EntryIs0 ctx PP 81 [] [] cv5 cv6 fun _=>J7)
noncomputable def En {γ:Type} (F:Td):Hd ctx γ:=hdl cv5.dec (fun _=>F) cv6.enc
abbrev Dt:=Int→Int→Int→Option Int
noncomputable def E_spec_l05Right (x_0:Int) (low_1:Int) (high_2:Int):Option Int:=
 bif (!(low_1 == 0)) then
 bif (!(low_1 == 0)) then
 some (w32 ((w32 (x_0.tdiv low_1))+(w32 ((x_0.tmod low_1)*high_2))))
 else none
 else none
noncomputable def spec_l05Right:Dt:=E_spec_l05Right
theorem JAE:Tells ctx PP 161 cv12 cv11 (fun a=>spec_l05Right a.1 a.2.1 a.2.2):=fn_ok0 hl_nil Tryz.func161 (fun a=>by kernel_rfl:EntryIs0 ctx PP 161 [] [] cv12 cv11 fun a=>E_spec_l05Right a.1 a.2.1 a.2.2)
noncomputable def KAE {γ:Type} (F:Dt):Hd ctx γ:=hdl cv12.dec (fun a=>F a.1 a.2.1 a.2.2) cv11.enc
abbrev Gn:=Int→Int→Int→Int→Bool→Option Int
noncomputable def E_spec_l05S (z0:Dt) (x_0:Int) (a_1:Int) (b_2:Int) (c_3:Int) (last_4:Bool):Option Int:=
 bif (!(a_1 == 0)) then
 (z0 x_0 a_1 (w32 ((w32 ((2147483648:Int).tdiv a_1))*2))).bind fun r0=>
 bif (!(b_2 == 0)) then
 (z0 x_0 b_2 (w32 ((w32 ((2147483648:Int).tdiv b_2))*2))).bind fun r1=>
 bif (!(c_3 == 0)) then
 bif (!last_4) then
 bif (!(c_3 == 0)) then
 (z0 x_0 c_3 (w32 ((w32 ((2147483648:Int).tdiv c_3))*2))).bind fun r2=>
 some (w32 (((BitVec.toNat ((BitVec.ofInt (IntKind.bits IntKind.u32) (w32 (((BitVec.toNat ((BitVec.ofInt (IntKind.bits IntKind.u32) r0) ^^^ (BitVec.ofInt (IntKind.bits IntKind.u32) r1))):Nat):Int))) ^^^ (BitVec.ofInt (IntKind.bits IntKind.u32) r2))):Nat):Int))
 else none
 else
 some (w32 (((BitVec.toNat ((BitVec.ofInt (IntKind.bits IntKind.u32) (w32 (((BitVec.toNat ((BitVec.ofInt (IntKind.bits IntKind.u32) r0) ^^^ (BitVec.ofInt (IntKind.bits IntKind.u32) r1))):Nat):Int))) ^^^ (BitVec.ofInt (IntKind.bits IntKind.u32) (w32 (x_0.tdiv c_3))))):Nat):Int))
 else none
 else none
 else none
noncomputable def spec_l05S:Gn:=E_spec_l05S spec_l05Right
theorem LAE:Tells ctx PP 120 cv13 cv11 (fun a=>spec_l05S a.1 a.2.1 a.2.2.1 a.2.2.2.1 a.2.2.2.2):=fn_ok0 (hc JAE hl_nil) Tryz.func120 ((fun z0 a=>by kernel_rfl:∀ z0,EntryIs0 ctx PP 120 [] [(161,KAE z0)] cv13 cv11 fun a=>E_spec_l05S z0 a.1 a.2.1 a.2.2.1 a.2.2.2.1 a.2.2.2.2) spec_l05Right)
noncomputable def O7 {γ:Type} (F:Gn):Hd ctx γ:=hdl cv13.dec (fun a=>F a.1 a.2.1 a.2.2.1 a.2.2.2.1 a.2.2.2.2) cv11.enc
abbrev Ud:=(List Int)→(List Int)→ByteArray→Option (List Int)
inductive Yg where
 | c0 (t_0:(List Int)) (o_1:(List Int)) (v_8:Int) (v_7:(List Int))
 | c1 (t_0:(List Int)) (o_1:(List Int)) (v_10:Int) (v_7:(List Int)) (v_9:(List Int))
 | c2 (t_0:(List Int)) (o_1:(List Int)) (v_10:Int) (v_13:Int) (v_15:Int) (v_16:Int) (v_7:(List Int)) (v_9:(List Int))
 | c3 (t_0:(List Int)) (v_18:Int) (v_9:(List Int)) (v_17:(List Int))
noncomputable def P7:Yg→LI
 | .c0 t_0 o_1 v_8 v_7=>(tdo Tryz.f82 464,[(0,[.one (.rsl 133 t_0)]),(1,[.one (.rsl 133 o_1)]),(7,[.one (.own 496)]),(8,[.one (.int .i64 v_8)])],[(496,.sl 133 v_7)])
 | .c1 t_0 o_1 v_10 v_7 v_9=>(tdo Tryz.f82 2000,[(0,[.one (.rsl 133 t_0)]),(1,[.one (.rsl 133 o_1)]),(7,[.one (.own 496)]),(9,[.one (.own 624)]),(10,[.one (.int .i64 v_10)])],[(496,.sl 133 v_7),(624,.sl 133 v_9)])
 | .c2 t_0 o_1 v_10 v_13 v_15 v_16 v_7 v_9=>(tdo Tryz.f82 8202192,[(0,[.one (.rsl 133 t_0)]),(1,[.one (.rsl 133 o_1)]),(7,[.one (.own 496)]),(9,[.one (.own 624)]),(10,[.one (.int .i64 v_10)]),(13,[.one (.int .u32 v_13)]),(15,[.one (.int .u32 v_15)]),(16,[.one (.int .i64 v_16)])],[(496,.sl 133 v_7),(624,.sl 133 v_9)])
 | .c3 t_0 v_18 v_9 v_17=>(tdo Tryz.f82 8144,[(0,[.one (.rsl 133 t_0)]),(9,[.one (.own 624)]),(17,[.one (.own 1136)]),(18,[.one (.int .i64 v_18)])],[(624,.sl 133 v_9),(1136,.sl 133 v_17)])
noncomputable def E_spec_l05Round (z0:Va) (z1:Gn) (k:Yg→Option (List Int)) (t_0:(List Int)) (o_1:(List Int)) (A_2:ByteArray):Option (List Int):=
 (z0 A_2).bind fun r0=>
 k (.c0 t_0 o_1 16 r0)
noncomputable def B_spec_l05Round (z0:Va) (z1:Gn) (k:Yg→Option (List Int)):Yg→Option (List Int)
 | .c0 t_0 o_1 v_8 v_7=>
 bif (decide (v_8<64)) then
  bif ((decide (0≤(w64 (v_8 - 2)))) && (decide ((w64 (v_8 - 2))<(v_7.length:Int)))) then
  (z1 (v_7.getD (w64 (v_8 - 2)).toNat 0) 131072 524288 1024 true).bind fun r0=>
  bif ((decide (0≤(w64 (v_8 - 7)))) && (decide ((w64 (v_8 - 7))<(v_7.length:Int)))) then
  bif ((decide (0≤(w64 (v_8 - 15)))) && (decide ((w64 (v_8 - 15))<(v_7.length:Int)))) then
  (z1 (v_7.getD (w64 (v_8 - 15)).toNat 0) 128 262144 8 true).bind fun r1=>
  bif ((decide (0≤(w64 (v_8 - 16)))) && (decide ((w64 (v_8 - 16))<(v_7.length:Int)))) then
  bif (decide (((v_7.length+1)*4)≤140737488355328)) then
  k (.c0 t_0 o_1 (w64 (v_8+1)) (v_7++[(w32 ((w32 ((w32 (r0+(v_7.getD (w64 (v_8 - 7)).toNat 0)))+r1))+(v_7.getD (w64 (v_8 - 16)).toNat 0)))]))
  else none
  else none
  else none
  else none
  else none
 else
  bif (decide (((0+t_0.length)*4)≤140737488355328)) then
  k (.c1 t_0 o_1 0 v_7 ([]++t_0))
  else none
 | .c1 t_0 o_1 v_10 v_7 v_9=>
 bif (decide (v_10<64)) then
  bif ((decide ((0:Int)≤(4:Int))) && (decide (4<(v_9.length:Int)))) then
  bif ((decide ((0:Int)≤(5:Int))) && (decide (5<(v_9.length:Int)))) then
  bif ((decide ((0:Int)≤(6:Int))) && (decide (6<(v_9.length:Int)))) then
  bif ((decide ((0:Int)≤(7:Int))) && (decide (7<(v_9.length:Int)))) then
  (z1 (v_9.getD (4:Int).toNat 0) 64 2048 33554432 false).bind fun r0=>
  bif ((decide (0≤v_10)) && (decide (v_10<(o_1.length:Int)))) then
  bif ((decide (0≤v_10)) && (decide (v_10<(v_7.length:Int)))) then
  bif ((decide ((0:Int)≤(0:Int))) && (decide (0<(v_9.length:Int)))) then
  bif ((decide ((0:Int)≤(1:Int))) && (decide (1<(v_9.length:Int)))) then
  bif ((decide ((0:Int)≤(0:Int))) && (decide (0<(v_9.length:Int)))) then
  bif ((decide ((0:Int)≤(2:Int))) && (decide (2<(v_9.length:Int)))) then
  bif ((decide ((0:Int)≤(1:Int))) && (decide (1<(v_9.length:Int)))) then
  bif ((decide ((0:Int)≤(2:Int))) && (decide (2<(v_9.length:Int)))) then
  bif ((decide ((0:Int)≤(0:Int))) && (decide (0<(v_9.length:Int)))) then
  (z1 (v_9.getD (0:Int).toNat 0) 4 8192 4194304 false).bind fun r1=>
  k (.c2 t_0 o_1 v_10 (w32 ((w32 ((w32 ((w32 ((v_9.getD (7:Int).toNat 0)+r0))+(w32 (((BitVec.toNat ((BitVec.ofInt (IntKind.bits IntKind.u32) (w32 (((BitVec.toNat ((BitVec.ofInt (IntKind.bits IntKind.u32) (v_9.getD (4:Int).toNat 0)) &&& (BitVec.ofInt (IntKind.bits IntKind.u32) (v_9.getD (5:Int).toNat 0)))):Nat):Int))) ^^^ (BitVec.ofInt (IntKind.bits IntKind.u32) (w32 (((BitVec.toNat ((BitVec.ofInt (IntKind.bits IntKind.u32) (w32 (4294967295 - (v_9.getD (4:Int).toNat 0)))) &&& (BitVec.ofInt (IntKind.bits IntKind.u32) (v_9.getD (6:Int).toNat 0)))):Nat):Int))))):Nat):Int))))+(o_1.getD v_10.toNat 0)))+(v_7.getD v_10.toNat 0))) (w32 (r1+(w32 (((BitVec.toNat ((BitVec.ofInt (IntKind.bits IntKind.u32) (w32 (((BitVec.toNat ((BitVec.ofInt (IntKind.bits IntKind.u32) (w32 (((BitVec.toNat ((BitVec.ofInt (IntKind.bits IntKind.u32) (v_9.getD (0:Int).toNat 0)) &&& (BitVec.ofInt (IntKind.bits IntKind.u32) (v_9.getD (1:Int).toNat 0)))):Nat):Int))) ^^^ (BitVec.ofInt (IntKind.bits IntKind.u32) (w32 (((BitVec.toNat ((BitVec.ofInt (IntKind.bits IntKind.u32) (v_9.getD (0:Int).toNat 0)) &&& (BitVec.ofInt (IntKind.bits IntKind.u32) (v_9.getD (2:Int).toNat 0)))):Nat):Int))))):Nat):Int))) ^^^ (BitVec.ofInt (IntKind.bits IntKind.u32) (w32 (((BitVec.toNat ((BitVec.ofInt (IntKind.bits IntKind.u32) (v_9.getD (1:Int).toNat 0)) &&& (BitVec.ofInt (IntKind.bits IntKind.u32) (v_9.getD (2:Int).toNat 0)))):Nat):Int))))):Nat):Int)))) 7 v_7 v_9)
  else none
  else none
  else none
  else none
  else none
  else none
  else none
  else none
  else none
  else none
  else none
  else none
  else none
 else
  k (.c3 t_0 0 v_9 [])
 | .c2 t_0 o_1 v_10 v_13 v_15 v_16 v_7 v_9=>
 bif (decide (v_16 > 0)) then
  bif ((decide (0≤(w64 (v_16 - 1)))) && (decide ((w64 (v_16 - 1))<(v_9.length:Int)))) then
  bif ((decide (0≤v_16)) && (decide (v_16<(v_9.length:Int)))) then
  k (.c2 t_0 o_1 v_10 v_13 v_15 (w64 (v_16 - 1)) v_7 (v_9.set v_16.toNat (v_9.getD (w64 (v_16 - 1)).toNat 0)))
  else none
  else none
 else
  bif ((decide ((0:Int)≤(4:Int))) && (decide (4<(v_9.length:Int)))) then
  bif ((decide ((0:Int)≤(4:Int))) && (decide (4<(v_9.length:Int)))) then
  bif ((decide ((0:Int)≤(0:Int))) && (decide (0<((v_9.set (4:Int).toNat (w32 ((v_9.getD (4:Int).toNat 0)+v_13))).length:Int)))) then
  k (.c1 t_0 o_1 (w64 (v_10+1)) v_7 ((v_9.set (4:Int).toNat (w32 ((v_9.getD (4:Int).toNat 0)+v_13))).set (0:Int).toNat (w32 (v_13+v_15))))
  else none
  else none
  else none
 | .c3 t_0 v_18 v_9 v_17=>
 bif (decide (v_18<8)) then
  bif ((decide (0≤v_18)) && (decide (v_18<(t_0.length:Int)))) then
  bif ((decide (0≤v_18)) && (decide (v_18<(v_9.length:Int)))) then
  bif (decide (((v_17.length+1)*4)≤140737488355328)) then
  k (.c3 t_0 (w64 (v_18+1)) v_9 (v_17++[(w32 ((t_0.getD v_18.toNat 0)+(v_9.getD v_18.toNat 0)))]))
  else none
  else none
  else none
 else
  some v_17
noncomputable def L_spec_l05Round:Nat→Yg→Option (List Int)
 | 0,_=>none
 | m+1,s=>B_spec_l05Round spec_l05Words spec_l05S (L_spec_l05Round m) s
noncomputable def spec_l05Round:Ud:=E_spec_l05Round spec_l05Words spec_l05S (L_spec_l05Round gas)
theorem Q7:Tells ctx PP 82 cv14 cv6 (fun a=>spec_l05Round a.1 a.2.1 a.2.2):=
 have b:∀ z0 z1,CutIs ctx PP 82 Tryz.f82 [] [(80,Qd z0),(120,O7 z1)] cv6 P7 (B_spec_l05Round z0 z1):=fun z0 z1 _ s=>by cases s <;> kernel_rfl
 have e:∀ z0 z1,EntryIs ctx PP 82 [] [(80,Qd z0),(120,O7 z1)] cv14 cv6 P7 (fun k a=>E_spec_l05Round z0 z1 k a.1 a.2.1 a.2.2):=fun z0 z1 _ a=>by kernel_rfl
 fn_ok (hc Ws (hc LAE hl_nil)) Tryz.func82 (fun s s' h=>by cases s <;> cases s' <;> first | (cases h;done) | (cases h;rfl) | exact (rg_ne h (by kernel_rfl)).elim) (fun _=>rfl) (fun _ _=>rfl) (b spec_l05Words spec_l05S) (e spec_l05Words spec_l05S) gas
noncomputable def Pn {γ:Type} (F:Ud):Hd ctx γ:=hdl cv14.dec (fun a=>F a.1 a.2.1 a.2.2) cv6.enc
abbrev Et:=SHasher→ByteArray→Option SHasher
inductive Zg where
 | c0 (s_1:ByteArray) (buf_7:ByteArray) (at_8:Int) (h_2:SHasher) (v_4:SHasher) (state_5:(List Int)) (k_6:(List Int))
noncomputable def U7:Zg→LI
 | .c0 s_1 buf_7 at_8 h_2 v_4 state_5 k_6=>(tdo Tryz.f45 4064,[(1,[.one (.str s_1)]),(2,[.one (.ptr 128 0)]),(4,[.one (.ptr 256 0)]),(5,[.one (.own 368)]),(6,[.one (.own 432)]),(7,[.one (.str buf_7)]),(8,[.one (.int .i64 at_8)])],[(128,.var [.str h_2.fState,.str h_2.fRest,.int .i64 h_2.fCount]),(256,.var [.str v_4.fState,.str v_4.fRest,.int .i64 v_4.fCount]),(368,.sl 133 state_5),(432,.sl 133 k_6)])
noncomputable def E_spec_HashMore (z0:Md) (z1:Va) (z2:Td) (z3:Ud) (z4:Ub) (k:Zg→Option SHasher) (h_0:SHasher) (s_1:ByteArray):Option SHasher:=
 (z0 h_0).bind fun r0=>
 bif (!r0) then
 some h_0
 else
 bif (decide ((w64 (h_0.fCount+(s_1.size:Int))) > 1000000000)) then
  some h_0
 else
  (z1 h_0.fState).bind fun r1=>
  z2.bind fun r2=>
  bif (decide ((h_0.fRest.size+s_1.size)≤9223372036854775807)) then
  k (.c0 s_1 (h_0.fRest++s_1) 0 h_0 ⟨⟨#[]⟩,⟨#[]⟩,0⟩ r1 r2)
  else none
noncomputable def B_spec_HashMore (z0:Md) (z1:Va) (z2:Td) (z3:Ud) (z4:Ub) (k:Zg→Option SHasher):Zg→Option SHasher
 | .c0 s_1 buf_7 at_8 h_2 v_4 state_5 k_6=>
 bif (decide ((w64 (at_8+64))≤(buf_7.size:Int))) then
  bif (((decide (0≤at_8)) && (decide (at_8≤(w64 (at_8+64))))) && (decide ((w64 (at_8+64))≤(buf_7.size:Int)))) then
  (z3 state_5 k_6 (buf_7.extract at_8.toNat (w64 (at_8+64)).toNat)).bind fun r0=>
  k (.c0 s_1 buf_7 (w64 (at_8+64)) h_2 v_4 r0 k_6)
  else none
 else
  (z4 state_5).bind fun r1=>
  bif ((decide (0≤at_8)) && (decide (at_8≤(buf_7.size:Int)))) then
  some ⟨r1,(buf_7.extract at_8.toNat buf_7.size),(w64 (h_2.fCount+(s_1.size:Int)))⟩
  else none
noncomputable def L_spec_HashMore:Nat→Zg→Option SHasher
 | 0,_=>none
 | m+1,s=>B_spec_HashMore spec_HasherOk spec_l05Words spec_l05K spec_l05Round spec_l05Bytes (L_spec_HashMore m) s
noncomputable def spec_HashMore:Et:=E_spec_HashMore spec_HasherOk spec_l05Words spec_l05K spec_l05Round spec_l05Bytes (L_spec_HashMore gas)
theorem MAE:Tells ctx PP 45 cv15 cv9 (fun a=>spec_HashMore a.1 a.2):=
 have b:∀ z0 z1 z2 z3 z4,CutIs ctx PP 45 Tryz.f45 [] [(79,Zm z0),(80,Qd z1),(81,En z2),(82,Pn z3),(83,Vg z4)] cv9 U7 (B_spec_HashMore z0 z1 z2 z3 z4):=fun z0 z1 z2 z3 z4 _ s=>by cases s <;> kernel_rfl
 have e:∀ z0 z1 z2 z3 z4,EntryIs ctx PP 45 [] [(79,Zm z0),(80,Qd z1),(81,En z2),(82,Pn z3),(83,Vg z4)] cv15 cv9 U7 (fun k a=>E_spec_HashMore z0 z1 z2 z3 z4 k a.1 a.2):=fun z0 z1 z2 z3 z4 _ a=>by kernel_rfl
 fn_ok (hc F7 (hc Ws (hc N7 (hc Q7 (hc Qs hl_nil))))) Tryz.func45 (fun s s' h=>by cases s;cases s';(repeat cases ‹SHasher›);cases h;rfl) (fun _=>rfl) (fun _ _=>rfl) (b spec_HasherOk spec_l05Words spec_l05K spec_l05Round spec_l05Bytes) (e spec_HasherOk spec_l05Words spec_l05K spec_l05Round spec_l05Bytes) gas
noncomputable def NAE {γ:Type} (F:Et):Hd ctx γ:=hdl cv15.dec (fun a=>F a.1 a.2) cv9.enc
abbrev Gt:=SHasher→Option ByteArray
inductive Ah where
 | c0 (h_1:SHasher) (tail_3:(List Int))
 | c1 (bits_4:Int) (i_5:Int) (h_1:SHasher) (tail_3:(List Int))
 | c2 (bits_4:Int) (i_5:Int) (x_6:Int) (k_7:Int) (h_1:SHasher) (tail_3:(List Int))
 | c3 (at_10:Int) (tail_3:(List Int)) (state_8:(List Int)) (k_9:(List Int))
noncomputable def V7:Ah→LI
 | .c0 h_1 tail_3=>(tdo Tryz.f44 992,[(1,[.one (.ptr 64 0)]),(3,[.one (.own 240)])],[(64,.var [.str h_1.fState,.str h_1.fRest,.int .i64 h_1.fCount]),(240,.sl 5 tail_3)])
 | .c1 bits_4 i_5 h_1 tail_3=>(tdo Tryz.f44 8144,[(1,[.one (.ptr 64 0)]),(3,[.one (.own 240)]),(4,[.one (.int .i64 bits_4)]),(5,[.one (.int .i64 i_5)])],[(64,.var [.str h_1.fState,.str h_1.fRest,.int .i64 h_1.fCount]),(240,.sl 5 tail_3)])
 | .c2 bits_4 i_5 x_6 k_7 h_1 tail_3=>(tdo Tryz.f44 2085456,[(1,[.one (.ptr 64 0)]),(3,[.one (.own 240)]),(4,[.one (.int .i64 bits_4)]),(5,[.one (.int .i64 i_5)]),(6,[.one (.int .i64 x_6)]),(7,[.one (.int .i64 k_7)])],[(64,.var [.str h_1.fState,.str h_1.fRest,.int .i64 h_1.fCount]),(240,.sl 5 tail_3)])
 | .c3 at_10 tail_3 state_8 k_9=>(tdo Tryz.f44 65488,[(3,[.one (.own 240)]),(8,[.one (.own 560)]),(9,[.one (.own 624)]),(10,[.one (.int .i64 at_10)])],[(240,.sl 5 tail_3),(560,.sl 133 state_8),(624,.sl 133 k_9)])
noncomputable def E_spec_HashEnd (z0:Md) (z1:Va) (z2:Td) (z3:Ud) (z4:Ub) (k:Ah→Option ByteArray) (h_0:SHasher):Option ByteArray:=
 (z0 h_0).bind fun r0=>
 bif (!r0) then
 some ⟨#[]⟩
 else
 bif (decide (h_0.fRest.size≤9223372036854775807)) then
 bif (decide ((((bytesOf h_0.fRest).length+1)*1)≤140737488355328)) then
 k (.c0 h_0 ((bytesOf h_0.fRest)++[(128:Int)]))
 else none
 else none
noncomputable def B_spec_HashEnd (z0:Md) (z1:Va) (z2:Td) (z3:Ud) (z4:Ub) (k:Ah→Option ByteArray):Ah→Option ByteArray
 | .c0 h_1 tail_3=>
 bif (((tail_3.length:Int).tmod 64) != 56) then
  bif (decide (((tail_3.length+1)*1)≤140737488355328)) then
  k (.c0 h_1 (tail_3++[(0:Int)]))
  else none
 else
  k (.c1 (w64 (8*h_1.fCount)) 7 h_1 tail_3)
 | .c1 bits_4 i_5 h_1 tail_3=>
 bif (decide (i_5≥0)) then
  k (.c2 bits_4 i_5 bits_4 0 h_1 tail_3)
 else
  (z1 h_1.fState).bind fun r0=>
  z2.bind fun r1=>
  k (.c3 0 tail_3 r0 r1)
 | .c2 bits_4 i_5 x_6 k_7 h_1 tail_3=>
 bif (decide (k_7<i_5)) then
  k (.c2 bits_4 i_5 (w64 (x_6.tdiv 256)) (w64 (k_7+1)) h_1 tail_3)
 else
  bif (decide (((tail_3.length+1)*1)≤140737488355328)) then
  k (.c1 bits_4 (w64 (i_5 - 1)) h_1 (tail_3++[(w8 (x_6.tmod 256))]))
  else none
 | .c3 at_10 tail_3 state_8 k_9=>
 bif (decide (at_10<(tail_3.length:Int))) then
  bif (((decide (0≤at_10)) && (decide (at_10≤(w64 (at_10+64))))) && (decide ((w64 (at_10+64))≤(tail_3.length:Int)))) then
  (z3 state_8 k_9 (ofBytes ((tail_3.drop at_10.toNat).take ((w64 (at_10+64)).toNat - at_10.toNat)))).bind fun r0=>
  k (.c3 (w64 (at_10+64)) tail_3 r0 k_9)
  else none
 else
  (z4 state_8).bind fun r1=>
  some r1
noncomputable def L_spec_HashEnd:Nat→Ah→Option ByteArray
 | 0,_=>none
 | m+1,s=>B_spec_HashEnd spec_HasherOk spec_l05Words spec_l05K spec_l05Round spec_l05Bytes (L_spec_HashEnd m) s
noncomputable def spec_HashEnd:Gt:=E_spec_HashEnd spec_HasherOk spec_l05Words spec_l05K spec_l05Round spec_l05Bytes (L_spec_HashEnd gas)
theorem OAE:Tells ctx PP 44 cv9 cv8 (fun a=>spec_HashEnd a):=
 have b:∀ z0 z1 z2 z3 z4,CutIs ctx PP 44 Tryz.f44 [] [(79,Zm z0),(80,Qd z1),(81,En z2),(82,Pn z3),(83,Vg z4)] cv8 V7 (B_spec_HashEnd z0 z1 z2 z3 z4):=fun z0 z1 z2 z3 z4 _ s=>by cases s <;> kernel_rfl
 have e:∀ z0 z1 z2 z3 z4,EntryIs ctx PP 44 [] [(79,Zm z0),(80,Qd z1),(81,En z2),(82,Pn z3),(83,Vg z4)] cv9 cv8 V7 (fun k a=>E_spec_HashEnd z0 z1 z2 z3 z4 k a):=fun z0 z1 z2 z3 z4 _ a=>by kernel_rfl
 fn_ok (hc F7 (hc Ws (hc N7 (hc Q7 (hc Qs hl_nil))))) Tryz.func44 (fun s s' h=>by cases s <;> cases s' <;> first | ((repeat cases ‹SHasher›);cases h;done) | ((repeat cases ‹SHasher›);cases h;rfl) | exact (rg_ne h (by kernel_rfl)).elim) (fun _=>rfl) (fun _ _=>rfl) (b spec_HasherOk spec_l05Words spec_l05K spec_l05Round spec_l05Bytes) (e spec_HasherOk spec_l05Words spec_l05K spec_l05Round spec_l05Bytes) gas
noncomputable def PAE {γ:Type} (F:Gt):Hd ctx γ:=hdl cv9.dec (fun a=>F a) cv8.enc
abbrev Sm:=ByteArray→Option ByteArray
noncomputable def E_spec_DigestOf (z0:Us) (z1:Et) (z2:Gt) (s_0:ByteArray):Option ByteArray:=
 z0.bind fun r0=>
 (z1 r0 s_0).bind fun r1=>
 (z2 r1).bind fun r2=>
 some r2
noncomputable def spec_DigestOf:Sm:=E_spec_DigestOf spec_HasherNew spec_HashMore spec_HashEnd
theorem YAD:Tells ctx PP 19 cv8 cv8 (fun a=>spec_DigestOf a):=fn_ok0 (hc EAE (hc MAE (hc OAE hl_nil))) Tryz.func19 ((fun z0 z1 z2 a=>by kernel_rfl:∀ z0 z1 z2,EntryIs0 ctx PP 19 [] [(46,FAE z0),(45,NAE z1),(44,PAE z2)] cv8 cv8 fun a=>E_spec_DigestOf z0 z1 z2 a) spec_HasherNew spec_HashMore spec_HashEnd)
noncomputable def Z5 {γ:Type} (F:Sm):Hd ctx γ:=hdl cv8.dec (fun a=>F a) cv8.enc
abbrev Ht:=Option (List Int)
noncomputable def X7  : Option (List Int):=
 some [1779033703,3144134277,1013904242,2773480762,1359893119,2600822924,528734635,1541459225]
noncomputable def impl_firstState:Ht:=X7
theorem QAE:Tells ctx PP 89 cv5 cv41 (fun _=>impl_firstState):=fn_ok0 hl_nil Tryz.func89 (fun _=>by kernel_rfl:EntryIs0 ctx PP 89 [] [] cv5 cv41 fun _=>X7)
noncomputable def RAE {γ:Type} (F:Ht):Hd ctx γ:=hdl cv5.dec (fun _=>F) cv41.enc
abbrev Bh:=Int→Option ByteArray
noncomputable def E_impl_zeros (n_0:Int):Option ByteArray:=
 bif ((((decide (0≤n_0)) && (decide (n_0≤n_0))) && (decide (n_0≤9223372036854775807))) && (decide ((n_0.toNat*1)≤140737488355328))) then
 some (ofBytes (List.replicate n_0.toNat (0:Int)))
 else none
noncomputable def impl_zeros:Bh:=E_impl_zeros
theorem Jt:Tells ctx PP 121 cv1 cv8 (fun a=>impl_zeros a):=fn_ok0 hl_nil Tryz.func121 (fun a=>by kernel_rfl:EntryIs0 ctx PP 121 [] [] cv1 cv8 fun a=>E_impl_zeros a)
noncomputable def Kt {γ:Type} (F:Bh):Hd ctx γ:=hdl cv1.dec (fun a=>F a) cv8.enc
abbrev Xa:=Int→Option ByteArray
noncomputable def E_impl_fourBytes (n_0:Int):Option ByteArray:=
 some (ofBytes [(w8 (Int.fdiv n_0 (2 ^ (Min.min (24:Int).toNat (IntKind.bits IntKind.u32))))),(w8 (Int.fdiv n_0 (2 ^ (Min.min (16:Int).toNat (IntKind.bits IntKind.u32))))),(w8 (Int.fdiv n_0 (2 ^ (Min.min (8:Int).toNat (IntKind.bits IntKind.u32))))),(w8 n_0)])
noncomputable def impl_fourBytes:Xa:=E_impl_fourBytes
theorem Qn:Tells ctx PP 127 cv11 cv8 (fun a=>impl_fourBytes a):=fn_ok0 hl_nil Tryz.func127 (fun a=>by kernel_rfl:EntryIs0 ctx PP 127 [] [] cv11 cv8 fun a=>E_impl_fourBytes a)
noncomputable def Vd {γ:Type} (F:Xa):Hd ctx γ:=hdl cv11.dec (fun a=>F a) cv8.enc
abbrev Ot:=Int→Option ByteArray
noncomputable def E_impl_eightBytes (z0:Xa) (n_0:Int):Option ByteArray:=
 (z0 (w32 (Int.fdiv n_0 (2 ^ (Min.min (32:Int).toNat (IntKind.bits IntKind.i64)))))).bind fun r0=>
 (z0 (w32 n_0)).bind fun r1=>
 bif (decide ((r0.size+r1.size)≤9223372036854775807)) then
 some (r0++r1)
 else none
noncomputable def impl_eightBytes:Ot:=E_impl_eightBytes impl_fourBytes
theorem SAE:Tells ctx PP 126 cv1 cv8 (fun a=>impl_eightBytes a):=fn_ok0 (hc Qn hl_nil) Tryz.func126 ((fun z0 a=>by kernel_rfl:∀ z0,EntryIs0 ctx PP 126 [] [(127,Vd z0)] cv1 cv8 fun a=>E_impl_eightBytes z0 a) impl_fourBytes)
noncomputable def TAE {γ:Type} (F:Ot):Hd ctx γ:=hdl cv1.dec (fun a=>F a) cv8.enc
abbrev Rt:=Int→Option ByteArray
noncomputable def E_impl_ending (z0:Bh) (z1:Ot) (count_0:Int):Option ByteArray:=
 (z0 ((w64 (119 - (count_0.tmod 64))).tmod 64)).bind fun r0=>
 bif (decide (((⟨#[128]⟩:ByteArray).size+r0.size)≤9223372036854775807)) then
 (z1 (w64 (8*count_0))).bind fun r1=>
 bif (decide ((((⟨#[128]⟩:ByteArray)++r0).size+r1.size)≤9223372036854775807)) then
 some (((⟨#[128]⟩:ByteArray)++r0)++r1)
 else none
 else none
noncomputable def impl_ending:Rt:=E_impl_ending impl_zeros impl_eightBytes
theorem UAE:Tells ctx PP 90 cv1 cv8 (fun a=>impl_ending a):=fn_ok0 (hc Jt (hc SAE hl_nil)) Tryz.func90 ((fun z0 z1 a=>by kernel_rfl:∀ z0 z1,EntryIs0 ctx PP 90 [] [(121,Kt z0),(126,TAE z1)] cv1 cv8 fun a=>E_impl_ending z0 z1 a) impl_zeros impl_eightBytes)
noncomputable def VAE {γ:Type} (F:Rt):Hd ctx γ:=hdl cv1.dec (fun a=>F a) cv8.enc
abbrev Tt:=Int→Int→Option Int
noncomputable def E_math_bits_RotateLeft32 (x_0:Int) (k_1:Int):Option Int:=
 bif (decide (0≤(wu64 (32 - (wu64 (((BitVec.toNat ((BitVec.ofInt (IntKind.bits IntKind.u64) (wu64 k_1)) &&& (BitVec.ofInt (IntKind.bits IntKind.u64) 31))):Nat):Int)))))) then
 some (w32 (((BitVec.toNat ((BitVec.ofInt (IntKind.bits IntKind.u32) (w32 (x_0*(2 ^ (Min.min (wu64 (((BitVec.toNat ((BitVec.ofInt (IntKind.bits IntKind.u64) (wu64 k_1)) &&& (BitVec.ofInt (IntKind.bits IntKind.u64) 31))):Nat):Int)).toNat (IntKind.bits IntKind.u32)))))) ||| (BitVec.ofInt (IntKind.bits IntKind.u32) (Int.fdiv x_0 (2 ^ (Min.min (wu64 (32 - (wu64 (((BitVec.toNat ((BitVec.ofInt (IntKind.bits IntKind.u64) (wu64 k_1)) &&& (BitVec.ofInt (IntKind.bits IntKind.u64) 31))):Nat):Int)))).toNat (IntKind.bits IntKind.u32))))))):Nat):Int))
 else none
noncomputable def math_bits_RotateLeft32:Tt:=E_math_bits_RotateLeft32
theorem WAE:Tells ctx PP 212 cv42 cv11 (fun a=>math_bits_RotateLeft32 a.1 a.2):=fn_ok0 hl_nil Tryz.func212 (fun a=>by kernel_rfl:EntryIs0 ctx PP 212 [] [] cv42 cv11 fun a=>E_math_bits_RotateLeft32 a.1 a.2)
noncomputable def XAE {γ:Type} (F:Tt):Hd ctx γ:=hdl cv42.dec (fun a=>F a.1 a.2) cv11.enc
abbrev Xd:=Int→Int→Option Int
noncomputable def E_impl_right (z0:Tt) (x_0:Int) (n_1:Int):Option Int:=
 (z0 x_0 (w64 (0 - n_1))).bind fun r0=>
 some r0
noncomputable def impl_right:Xd:=E_impl_right math_bits_RotateLeft32
theorem Y7:Tells ctx PP 172 cv42 cv11 (fun a=>impl_right a.1 a.2):=fn_ok0 (hc WAE hl_nil) Tryz.func172 ((fun z0 a=>by kernel_rfl:∀ z0,EntryIs0 ctx PP 172 [] [(212,XAE z0)] cv42 cv11 fun a=>E_impl_right z0 a.1 a.2) math_bits_RotateLeft32)
noncomputable def Rn {γ:Type} (F:Xd):Hd ctx γ:=hdl cv42.dec (fun a=>F a.1 a.2) cv11.enc
abbrev Tn:=ByteArray→Option (List Int)
inductive Dh where
 | c0 (block_0:ByteArray) (v_11:Int) (v_2r0:(List Int)) (w_3r0:(List Int))
 | c1 (block_0:ByteArray) (i_4:Int) (v_11:Int) (v_14:Int) (v_2r0:(List Int)) (w_3r0:(List Int))
 | c2 (t_6:Int) (v_2r0:(List Int)) (w_3r0:(List Int))
noncomputable def Z7:Dh→LI
 | .c0 block_0 v_11 v_2r0 w_3r0=>(tdo Tryz.f171 232,[(0,[.one (.str block_0)]),(2,[.one (.ptr 128 0)]),(3,[.one (.ptr 192 0)]),(11,[.one (.int .i64 v_11)])],[(128,.ar 133 v_2r0),(192,.ar 133 w_3r0)])
 | .c1 block_0 i_4 v_11 v_14 v_2r0 w_3r0=>(tdo Tryz.f171 59800,[(0,[.one (.str block_0)]),(2,[.one (.ptr 128 0)]),(3,[.one (.ptr 192 0)]),(4,[.one (.int .i64 i_4)]),(11,[.one (.int .i64 v_11)]),(14,[.one (.int .i64 v_14)])],[(128,.ar 133 v_2r0),(192,.ar 133 w_3r0)])
 | .c2 t_6 v_2r0 w_3r0=>(tdo Tryz.f171 976,[(2,[.one (.ptr 128 0)]),(3,[.one (.ptr 192 0)]),(6,[.one (.int .i64 t_6)])],[(128,.ar 133 v_2r0),(192,.ar 133 w_3r0)])
noncomputable def E_impl_wordsOf (z0:Xd) (k:Dh→Option (List Int)) (block_0:ByteArray):Option (List Int):=
 k (.c0 block_0 0 (List.replicate 64 (0:Int)) (List.replicate 64 (0:Int)))
noncomputable def B_impl_wordsOf (z0:Xd) (k:Dh→Option (List Int)):Dh→Option (List Int)
 | .c0 block_0 v_11 v_2r0 w_3r0=>
 bif (decide (v_11<16)) then
  k (.c1 block_0 v_11 v_11 0 v_2r0 w_3r0)
 else
  k (.c2 16 v_2r0 w_3r0)
 | .c1 block_0 i_4 v_11 v_14 v_2r0 w_3r0=>
 bif (decide (v_14<4)) then
  bif (Nat.beq 64 w_3r0.length) then
  bif ((decide (0≤i_4)) && (decide (i_4<(w_3r0.length:Int)))) then
  bif ((decide (0≤(w64 ((w64 (4*i_4))+v_14)))) && (decide ((w64 ((w64 (4*i_4))+v_14))<(block_0.size:Int)))) then
  bif (Nat.beq 64 w_3r0.length) then
  bif ((decide (0≤i_4)) && (decide (i_4<(w_3r0.length:Int)))) then
  k (.c1 block_0 i_4 v_11 (w64 (v_14+1)) v_2r0 (w_3r0.set i_4.toNat (w32 (((BitVec.toNat ((BitVec.ofInt (IntKind.bits IntKind.u32) (w32 ((w_3r0.getD i_4.toNat 0)*(2 ^ (Min.min (8:Int).toNat (IntKind.bits IntKind.u32)))))) ||| (BitVec.ofInt (IntKind.bits IntKind.u32) (w32 (bt block_0 (w64 ((w64 (4*i_4))+v_14))))))):Nat):Int))))
  else none
  else none
  else none
  else none
  else none
 else
  k (.c0 block_0 (w64 (v_11+1)) v_2r0 w_3r0)
 | .c2 t_6 v_2r0 w_3r0=>
 bif (decide (t_6<64)) then
  bif (Nat.beq 64 w_3r0.length) then
  bif ((decide (0≤(w64 (t_6 - 15)))) && (decide ((w64 (t_6 - 15))<(w_3r0.length:Int)))) then
  bif (Nat.beq 64 w_3r0.length) then
  bif ((decide (0≤(w64 (t_6 - 2)))) && (decide ((w64 (t_6 - 2))<(w_3r0.length:Int)))) then
  (z0 (w_3r0.getD (w64 (t_6 - 15)).toNat 0) 7).bind fun r0=>
  (z0 (w_3r0.getD (w64 (t_6 - 15)).toNat 0) 18).bind fun r1=>
  (z0 (w_3r0.getD (w64 (t_6 - 2)).toNat 0) 17).bind fun r2=>
  (z0 (w_3r0.getD (w64 (t_6 - 2)).toNat 0) 19).bind fun r3=>
  bif (Nat.beq 64 w_3r0.length) then
  bif ((decide (0≤(w64 (t_6 - 7)))) && (decide ((w64 (t_6 - 7))<(w_3r0.length:Int)))) then
  bif (Nat.beq 64 w_3r0.length) then
  bif ((decide (0≤(w64 (t_6 - 16)))) && (decide ((w64 (t_6 - 16))<(w_3r0.length:Int)))) then
  bif (Nat.beq 64 w_3r0.length) then
  bif ((decide (0≤t_6)) && (decide (t_6<(w_3r0.length:Int)))) then
  k (.c2 (w64 (t_6+1)) v_2r0 (w_3r0.set t_6.toNat (w32 ((w32 ((w32 ((w32 (((BitVec.toNat ((BitVec.ofInt (IntKind.bits IntKind.u32) (w32 (((BitVec.toNat ((BitVec.ofInt (IntKind.bits IntKind.u32) r2) ^^^ (BitVec.ofInt (IntKind.bits IntKind.u32) r3))):Nat):Int))) ^^^ (BitVec.ofInt (IntKind.bits IntKind.u32) (Int.fdiv (w_3r0.getD (w64 (t_6 - 2)).toNat 0) (2 ^ (Min.min (10:Int).toNat (IntKind.bits IntKind.u32))))))):Nat):Int))+(w_3r0.getD (w64 (t_6 - 7)).toNat 0)))+(w32 (((BitVec.toNat ((BitVec.ofInt (IntKind.bits IntKind.u32) (w32 (((BitVec.toNat ((BitVec.ofInt (IntKind.bits IntKind.u32) r0) ^^^ (BitVec.ofInt (IntKind.bits IntKind.u32) r1))):Nat):Int))) ^^^ (BitVec.ofInt (IntKind.bits IntKind.u32) (Int.fdiv (w_3r0.getD (w64 (t_6 - 15)).toNat 0) (2 ^ (Min.min (3:Int).toNat (IntKind.bits IntKind.u32))))))):Nat):Int))))+(w_3r0.getD (w64 (t_6 - 16)).toNat 0)))))
  else none
  else none
  else none
  else none
  else none
  else none
  else none
  else none
  else none
  else none
 else
  bif (Nat.beq 64 w_3r0.length) then
  bif ((Nat.beq w_3r0.length v_2r0.length) && (Nat.beq 64 w_3r0.length)) then
  bif ((Nat.beq 64 w_3r0.length) && true) then
  some w_3r0
  else none
  else none
  else none
noncomputable def L_impl_wordsOf:Nat→Dh→Option (List Int)
 | 0,_=>none
 | m+1,s=>B_impl_wordsOf impl_right (L_impl_wordsOf m) s
noncomputable def impl_wordsOf:Tn:=E_impl_wordsOf impl_right (L_impl_wordsOf gas)
theorem YAE:Tells ctx PP 171 cv8 cv41 (fun a=>impl_wordsOf a):=
 have b:∀ z0,CutIs ctx PP 171 Tryz.f171 [] [(172,Rn z0)] cv41 Z7 (B_impl_wordsOf z0):=fun z0 _ s=>by cases s <;> kernel_rfl
 have e:∀ z0,EntryIs ctx PP 171 [] [(172,Rn z0)] cv8 cv41 Z7 (fun k a=>E_impl_wordsOf z0 k a):=fun z0 _ a=>by kernel_rfl
 fn_ok (hc Y7 hl_nil) Tryz.func171 (fun s s' h=>by cases s <;> cases s' <;> first | (cases h;done) | (cases h;rfl) | exact (rg_ne h (by kernel_rfl)).elim) (fun _=>rfl) (fun _ _=>rfl) (b impl_right) (e impl_right) gas
noncomputable def A8 {γ:Type} (F:Tn):Hd ctx γ:=hdl cv8.dec (fun a=>F a) cv41.enc
abbrev Un:=(List Int)→ByteArray→Option (List Int)
inductive Eh where
 | c0 (a_6:Int) (b_7:Int) (c_8:Int) (d_9:Int) (e_10:Int) (f_11:Int) (g_12:Int) (h_13:Int) (v_37:Int) (state_2r0:(List Int)) (v_4r0:(List Int)) (w_5r0:(List Int))
 | c1 (v_109:Int) (state_2r0:(List Int)) (v_4r0:(List Int)) (out_17r0:(List Int))
noncomputable def D8:Eh→LI
 | .c0 a_6 b_7 c_8 d_9 e_10 f_11 g_12 h_13 v_37 state_2r0 v_4r0 w_5r0=>(tdo Tryz.f125 488,[(2,[.one (.ptr 128 0)]),(4,[.one (.ptr 256 0)]),(5,[.one (.ptr 320 0)]),(6,[.one (.int .u32 a_6)]),(7,[.one (.int .u32 b_7)]),(8,[.one (.int .u32 c_8)]),(9,[.one (.int .u32 d_9)]),(10,[.one (.int .u32 e_10)]),(11,[.one (.int .u32 f_11)]),(12,[.one (.int .u32 g_12)]),(13,[.one (.int .u32 h_13)]),(37,[.one (.int .i64 v_37)])],[(128,.ar 133 state_2r0),(256,.ar 133 v_4r0),(320,.ar 133 w_5r0)])
 | .c1 v_109 state_2r0 v_4r0 out_17r0=>(tdo Tryz.f125 2024,[(2,[.one (.ptr 128 0)]),(4,[.one (.ptr 256 0)]),(17,[.one (.ptr 1088 0)]),(109,[.one (.int .i64 v_109)])],[(128,.ar 133 state_2r0),(256,.ar 133 v_4r0),(1088,.ar 133 out_17r0)])
noncomputable def E_impl_oneBlock (z0:Tn) (z1:Xd) (k:Eh→Option (List Int)) (state_0:(List Int)) (block_1:ByteArray):Option (List Int):=
 (z0 block_1).bind fun r0=>
 bif ((Nat.beq r0.length (List.replicate 64 (0:Int)).length) && (Nat.beq 64 r0.length)) then
 bif (Nat.beq 8 state_0.length) then
 bif ((decide ((0:Int)≤(0:Int))) && (decide (0<(state_0.length:Int)))) then
 bif (Nat.beq 8 state_0.length) then
 bif ((decide ((0:Int)≤(1:Int))) && (decide (1<(state_0.length:Int)))) then
 bif (Nat.beq 8 state_0.length) then
 bif ((decide ((0:Int)≤(2:Int))) && (decide (2<(state_0.length:Int)))) then
 bif (Nat.beq 8 state_0.length) then
 bif ((decide ((0:Int)≤(3:Int))) && (decide (3<(state_0.length:Int)))) then
 bif (Nat.beq 8 state_0.length) then
 bif ((decide ((0:Int)≤(4:Int))) && (decide (4<(state_0.length:Int)))) then
 bif (Nat.beq 8 state_0.length) then
 bif ((decide ((0:Int)≤(5:Int))) && (decide (5<(state_0.length:Int)))) then
 bif (Nat.beq 8 state_0.length) then
 bif ((decide ((0:Int)≤(6:Int))) && (decide (6<(state_0.length:Int)))) then
 bif (Nat.beq 8 state_0.length) then
 bif ((decide ((0:Int)≤(7:Int))) && (decide (7<(state_0.length:Int)))) then
 k (.c0 (state_0.getD (0:Int).toNat 0) (state_0.getD (1:Int).toNat 0) (state_0.getD (2:Int).toNat 0) (state_0.getD (3:Int).toNat 0) (state_0.getD (4:Int).toNat 0) (state_0.getD (5:Int).toNat 0) (state_0.getD (6:Int).toNat 0) (state_0.getD (7:Int).toNat 0) 0 state_0 [0,0,0,0,0,0,0,0] r0)
 else none
 else none
 else none
 else none
 else none
 else none
 else none
 else none
 else none
 else none
 else none
 else none
 else none
 else none
 else none
 else none
 else none
noncomputable def B_impl_oneBlock (z0:Tn) (z1:Xd) (k:Eh→Option (List Int)):Eh→Option (List Int)
 | .c0 a_6 b_7 c_8 d_9 e_10 f_11 g_12 h_13 v_37 state_2r0 v_4r0 w_5r0=>
 bif (decide (v_37<64)) then
  (z1 e_10 6).bind fun r0=>
  (z1 e_10 11).bind fun r1=>
  (z1 e_10 25).bind fun r2=>
  bif ((decide (0≤v_37)) && (decide (v_37<((64:Nat):Int)))) then
  bif (Nat.blt v_37.toNat 64) then
  bif (Nat.beq 64 w_5r0.length) then
  bif ((decide (0≤v_37)) && (decide (v_37<(w_5r0.length:Int)))) then
  (z1 a_6 2).bind fun r3=>
  (z1 a_6 13).bind fun r4=>
  (z1 a_6 22).bind fun r5=>
  k (.c0 (w32 ((w32 ((w32 ((w32 ((w32 (h_13+(w32 (((BitVec.toNat ((BitVec.ofInt (IntKind.bits IntKind.u32) (w32 (((BitVec.toNat ((BitVec.ofInt (IntKind.bits IntKind.u32) r0) ^^^ (BitVec.ofInt (IntKind.bits IntKind.u32) r1))):Nat):Int))) ^^^ (BitVec.ofInt (IntKind.bits IntKind.u32) r2))):Nat):Int))))+(w32 (((BitVec.toNat ((BitVec.ofInt (IntKind.bits IntKind.u32) (w32 (((BitVec.toNat ((BitVec.ofInt (IntKind.bits IntKind.u32) e_10) &&& (BitVec.ofInt (IntKind.bits IntKind.u32) f_11))):Nat):Int))) ^^^ (BitVec.ofInt (IntKind.bits IntKind.u32) (w32 (((BitVec.toNat ((BitVec.ofInt (IntKind.bits IntKind.u32) (w32 (((BitVec.toNat ((BitVec.ofInt (IntKind.bits IntKind.u32) (ite ((IntKind.signed IntKind.u32)=true) (-(1:Int)) (IntKind.max IntKind.u32))) ^^^ (BitVec.ofInt (IntKind.bits IntKind.u32) e_10))):Nat):Int))) &&& (BitVec.ofInt (IntKind.bits IntKind.u32) g_12))):Nat):Int))))):Nat):Int))))+([(1116352408:Int),(1899447441:Int),(3049323471:Int),(3921009573:Int),(961987163:Int),(1508970993:Int),(2453635748:Int),(2870763221:Int),(3624381080:Int),(310598401:Int),(607225278:Int),(1426881987:Int),(1925078388:Int),(2162078206:Int),(2614888103:Int),(3248222580:Int),(3835390401:Int),(4022224774:Int),(264347078:Int),(604807628:Int),(770255983:Int),(1249150122:Int),(1555081692:Int),(1996064986:Int),(2554220882:Int),(2821834349:Int),(2952996808:Int),(3210313671:Int),(3336571891:Int),(3584528711:Int),(113926993:Int),(338241895:Int),(666307205:Int),(773529912:Int),(1294757372:Int),(1396182291:Int),(1695183700:Int),(1986661051:Int),(2177026350:Int),(2456956037:Int),(2730485921:Int),(2820302411:Int),(3259730800:Int),(3345764771:Int),(3516065817:Int),(3600352804:Int),(4094571909:Int),(275423344:Int),(430227734:Int),(506948616:Int),(659060556:Int),(883997877:Int),(958139571:Int),(1322822218:Int),(1537002063:Int),(1747873779:Int),(1955562222:Int),(2024104815:Int),(2227730452:Int),(2361852424:Int),(2428436474:Int),(2756734187:Int),(3204031479:Int),(3329325298:Int)].getD v_37.toNat 0)))+(w_5r0.getD v_37.toNat 0)))+(w32 ((w32 (((BitVec.toNat ((BitVec.ofInt (IntKind.bits IntKind.u32) (w32 (((BitVec.toNat ((BitVec.ofInt (IntKind.bits IntKind.u32) r3) ^^^ (BitVec.ofInt (IntKind.bits IntKind.u32) r4))):Nat):Int))) ^^^ (BitVec.ofInt (IntKind.bits IntKind.u32) r5))):Nat):Int))+(w32 (((BitVec.toNat ((BitVec.ofInt (IntKind.bits IntKind.u32) (w32 (((BitVec.toNat ((BitVec.ofInt (IntKind.bits IntKind.u32) (w32 (((BitVec.toNat ((BitVec.ofInt (IntKind.bits IntKind.u32) a_6) &&& (BitVec.ofInt (IntKind.bits IntKind.u32) b_7))):Nat):Int))) ^^^ (BitVec.ofInt (IntKind.bits IntKind.u32) (w32 (((BitVec.toNat ((BitVec.ofInt (IntKind.bits IntKind.u32) a_6) &&& (BitVec.ofInt (IntKind.bits IntKind.u32) c_8))):Nat):Int))))):Nat):Int))) ^^^ (BitVec.ofInt (IntKind.bits IntKind.u32) (w32 (((BitVec.toNat ((BitVec.ofInt (IntKind.bits IntKind.u32) b_7) &&& (BitVec.ofInt (IntKind.bits IntKind.u32) c_8))):Nat):Int))))):Nat):Int)))))) a_6 b_7 c_8 (w32 (d_9+(w32 ((w32 ((w32 ((w32 (h_13+(w32 (((BitVec.toNat ((BitVec.ofInt (IntKind.bits IntKind.u32) (w32 (((BitVec.toNat ((BitVec.ofInt (IntKind.bits IntKind.u32) r0) ^^^ (BitVec.ofInt (IntKind.bits IntKind.u32) r1))):Nat):Int))) ^^^ (BitVec.ofInt (IntKind.bits IntKind.u32) r2))):Nat):Int))))+(w32 (((BitVec.toNat ((BitVec.ofInt (IntKind.bits IntKind.u32) (w32 (((BitVec.toNat ((BitVec.ofInt (IntKind.bits IntKind.u32) e_10) &&& (BitVec.ofInt (IntKind.bits IntKind.u32) f_11))):Nat):Int))) ^^^ (BitVec.ofInt (IntKind.bits IntKind.u32) (w32 (((BitVec.toNat ((BitVec.ofInt (IntKind.bits IntKind.u32) (w32 (((BitVec.toNat ((BitVec.ofInt (IntKind.bits IntKind.u32) (ite ((IntKind.signed IntKind.u32)=true) (-(1:Int)) (IntKind.max IntKind.u32))) ^^^ (BitVec.ofInt (IntKind.bits IntKind.u32) e_10))):Nat):Int))) &&& (BitVec.ofInt (IntKind.bits IntKind.u32) g_12))):Nat):Int))))):Nat):Int))))+([(1116352408:Int),(1899447441:Int),(3049323471:Int),(3921009573:Int),(961987163:Int),(1508970993:Int),(2453635748:Int),(2870763221:Int),(3624381080:Int),(310598401:Int),(607225278:Int),(1426881987:Int),(1925078388:Int),(2162078206:Int),(2614888103:Int),(3248222580:Int),(3835390401:Int),(4022224774:Int),(264347078:Int),(604807628:Int),(770255983:Int),(1249150122:Int),(1555081692:Int),(1996064986:Int),(2554220882:Int),(2821834349:Int),(2952996808:Int),(3210313671:Int),(3336571891:Int),(3584528711:Int),(113926993:Int),(338241895:Int),(666307205:Int),(773529912:Int),(1294757372:Int),(1396182291:Int),(1695183700:Int),(1986661051:Int),(2177026350:Int),(2456956037:Int),(2730485921:Int),(2820302411:Int),(3259730800:Int),(3345764771:Int),(3516065817:Int),(3600352804:Int),(4094571909:Int),(275423344:Int),(430227734:Int),(506948616:Int),(659060556:Int),(883997877:Int),(958139571:Int),(1322822218:Int),(1537002063:Int),(1747873779:Int),(1955562222:Int),(2024104815:Int),(2227730452:Int),(2361852424:Int),(2428436474:Int),(2756734187:Int),(3204031479:Int),(3329325298:Int)].getD v_37.toNat 0)))+(w_5r0.getD v_37.toNat 0))))) e_10 f_11 g_12 (w64 (v_37+1)) state_2r0 v_4r0 w_5r0)
  else none
  else none
  else none
  else none
 else
  k (.c1 0 state_2r0 v_4r0 [a_6,b_7,c_8,d_9,e_10,f_11,g_12,h_13])
 | .c1 v_109 state_2r0 v_4r0 out_17r0=>
 bif (decide (v_109<8)) then
  bif (Nat.beq 8 out_17r0.length) then
  bif ((decide (0≤v_109)) && (decide (v_109<(out_17r0.length:Int)))) then
  bif (Nat.beq 8 state_2r0.length) then
  bif ((decide (0≤v_109)) && (decide (v_109<(state_2r0.length:Int)))) then
  bif (Nat.beq 8 out_17r0.length) then
  bif ((decide (0≤v_109)) && (decide (v_109<(out_17r0.length:Int)))) then
  k (.c1 (w64 (v_109+1)) state_2r0 v_4r0 (out_17r0.set v_109.toNat (w32 ((out_17r0.getD v_109.toNat 0)+(state_2r0.getD v_109.toNat 0)))))
  else none
  else none
  else none
  else none
  else none
  else none
 else
  bif (Nat.beq 8 out_17r0.length) then
  bif ((Nat.beq out_17r0.length v_4r0.length) && (Nat.beq 8 out_17r0.length)) then
  bif ((Nat.beq 8 out_17r0.length) && true) then
  some out_17r0
  else none
  else none
  else none
noncomputable def L_impl_oneBlock:Nat→Eh→Option (List Int)
 | 0,_=>none
 | m+1,s=>B_impl_oneBlock impl_wordsOf impl_right (L_impl_oneBlock m) s
noncomputable def impl_oneBlock:Un:=E_impl_oneBlock impl_wordsOf impl_right (L_impl_oneBlock gas)
theorem ZAE:Tells ctx PP 125 cv43 cv41 (fun a=>impl_oneBlock a.1 a.2):=
 have b:∀ z0 z1,CutIs ctx PP 125 Tryz.f125 [] [(171,A8 z0),(172,Rn z1)] cv41 D8 (B_impl_oneBlock z0 z1):=fun z0 z1 _ s=>by cases s <;> kernel_rfl
 have e:∀ z0 z1,EntryIs ctx PP 125 [] [(171,A8 z0),(172,Rn z1)] cv43 cv41 D8 (fun k a=>E_impl_oneBlock z0 z1 k a.1 a.2):=fun z0 z1 _ a=>by kernel_rfl
 fn_ok (hc YAE (hc Y7 hl_nil)) Tryz.func125 (fun s s' h=>by cases s <;> cases s' <;> first | (cases h;done) | (cases h;rfl) | exact (rg_ne h (by kernel_rfl)).elim) (fun _=>rfl) (fun _ _=>rfl) (b impl_wordsOf impl_right) (e impl_wordsOf impl_right) gas
noncomputable def E8 {γ:Type} (F:Un):Hd ctx γ:=hdl cv43.dec (fun a=>F a.1 a.2) cv41.enc
abbrev Ut:=(List Int)→ByteArray→Option ((List Int)×ByteArray)
inductive Fh where
 | c0 (s_1:ByteArray) (state_2r0:(List Int)) (v_4r0:(List Int))
noncomputable def F8:Fh→LI
 | .c0 s_1 state_2r0 v_4r0=>(tdo Tryz.f88 96,[(1,[.one (.str s_1)]),(2,[.one (.ptr 128 0)]),(4,[.one (.ptr 256 0)])],[(128,.ar 133 state_2r0),(256,.ar 133 v_4r0)])
noncomputable def E_impl_blocks (z0:Un) (k:Fh→Option ((List Int)×ByteArray)) (state_0:(List Int)) (s_1:ByteArray):Option ((List Int)×ByteArray):=
 k (.c0 s_1 state_0 [0,0,0,0,0,0,0,0])
noncomputable def B_impl_blocks (z0:Un) (k:Fh→Option ((List Int)×ByteArray)):Fh→Option ((List Int)×ByteArray)
 | .c0 s_1 state_2r0 v_4r0=>
 bif (decide ((s_1.size:Int)≥64)) then
  bif (Nat.beq 8 state_2r0.length) then
  bif ((decide ((0:Int)≤(64:Int))) && (decide (64≤(s_1.size:Int)))) then
  (z0 state_2r0 (s_1.extract 0 (64:Int).toNat)).bind fun r0=>
  bif ((Nat.beq r0.length state_2r0.length) && (Nat.beq 8 r0.length)) then
  bif ((decide ((0:Int)≤(64:Int))) && (decide (64≤(s_1.size:Int)))) then
  k (.c0 (s_1.extract (64:Int).toNat s_1.size) r0 v_4r0)
  else none
  else none
  else none
  else none
 else
  bif (Nat.beq 8 state_2r0.length) then
  bif ((Nat.beq state_2r0.length v_4r0.length) && (Nat.beq 8 state_2r0.length)) then
  bif ((Nat.beq 8 state_2r0.length) && true) then
  some (state_2r0,s_1)
  else none
  else none
  else none
noncomputable def L_impl_blocks:Nat→Fh→Option ((List Int)×ByteArray)
 | 0,_=>none
 | m+1,s=>B_impl_blocks impl_oneBlock (L_impl_blocks m) s
noncomputable def impl_blocks:Ut:=E_impl_blocks impl_oneBlock (L_impl_blocks gas)
theorem AAF:Tells ctx PP 88 cv43 cv43 (fun a=>impl_blocks a.1 a.2):=
 have b:∀ z0,CutIs ctx PP 88 Tryz.f88 [] [(125,E8 z0)] cv43 F8 (B_impl_blocks z0):=fun z0 _ s=>by cases s <;> kernel_rfl
 have e:∀ z0,EntryIs ctx PP 88 [] [(125,E8 z0)] cv43 cv43 F8 (fun k a=>E_impl_blocks z0 k a.1 a.2):=fun z0 _ a=>by kernel_rfl
 fn_ok (hc ZAE hl_nil) Tryz.func88 (fun s s' h=>by cases s;cases s';cases h;rfl) (fun _=>rfl) (fun _ _=>rfl) (b impl_oneBlock) (e impl_oneBlock) gas
noncomputable def BAF {γ:Type} (F:Ut):Hd ctx γ:=hdl cv43.dec (fun a=>F a.1 a.2) cv43.enc
abbrev Vt:=(List Int)→Option ByteArray
inductive Gh where
 | c0 (out_3:ByteArray) (v_6:(List Int)) (v_7:Int)
noncomputable def G8:Gh→LI
 | .c0 out_3 v_6 v_7=>(tdo Tryz.f91 232,[(3,[.one (.str out_3)]),(6,[.arr 133 v_6]),(7,[.one (.int .i64 v_7)])],[])
noncomputable def E_impl_stateText (z0:Xa) (k:Gh→Option ByteArray) (state_0:(List Int)):Option ByteArray:=
 bif (Nat.beq 8 state_0.length) then
 k (.c0 ⟨#[]⟩ state_0 0)
 else none
noncomputable def B_impl_stateText (z0:Xa) (k:Gh→Option ByteArray):Gh→Option ByteArray
 | .c0 out_3 v_6 v_7=>
 bif (decide (v_7<8)) then
  bif (Nat.beq 8 v_6.length) then
  bif ((decide (0≤v_7)) && (decide (v_7<(v_6.length:Int)))) then
  (z0 (v_6.getD v_7.toNat 0)).bind fun r0=>
  bif (decide ((out_3.size+r0.size)≤9223372036854775807)) then
  k (.c0 (out_3++r0) v_6 (w64 (v_7+1)))
  else none
  else none
  else none
 else
  some out_3
noncomputable def L_impl_stateText:Nat→Gh→Option ByteArray
 | 0,_=>none
 | m+1,s=>B_impl_stateText impl_fourBytes (L_impl_stateText m) s
noncomputable def impl_stateText:Vt:=E_impl_stateText impl_fourBytes (L_impl_stateText gas)
theorem CAF:Tells ctx PP 91 cv41 cv8 (fun a=>impl_stateText a):=
 have b:∀ z0,CutIs ctx PP 91 Tryz.f91 [] [(127,Vd z0)] cv8 G8 (B_impl_stateText z0):=fun z0 _ s=>by cases s <;> kernel_rfl
 have e:∀ z0,EntryIs ctx PP 91 [] [(127,Vd z0)] cv41 cv8 G8 (fun k a=>E_impl_stateText z0 k a):=fun z0 _ a=>by kernel_rfl
 fn_ok (hc Qn hl_nil) Tryz.func91 (fun s s' h=>by cases s;cases s';cases h;rfl) (fun _=>rfl) (fun _ _=>rfl) (b impl_fourBytes) (e impl_fourBytes) gas
noncomputable def DAF {γ:Type} (F:Vt):Hd ctx γ:=hdl cv41.dec (fun a=>F a) cv8.enc
abbrev IZ:=ByteArray→Option ByteArray
noncomputable def E_impl_DigestOf (z0:Ht) (z1:Rt) (z2:Ut) (z3:Vt) (s_0:ByteArray):Option ByteArray:=
 z0.bind fun r0=>
 (z1 (s_0.size:Int)).bind fun r1=>
 bif (decide ((s_0.size+r1.size)≤9223372036854775807)) then
 (z2 r0 (s_0++r1)).bind fun r2=>
 bif ((Nat.beq r2.1.length 8) && (Nat.beq 8 r2.1.length)) then
 bif (Nat.beq 8 r2.1.length) then
 (z3 r2.1).bind fun r3=>
 some r3
 else none
 else none
 else none
noncomputable def impl_DigestOf:IZ:=E_impl_DigestOf impl_firstState impl_ending impl_blocks impl_stateText
theorem Ba:Tells ctx PP 50 cv8 cv8 (fun a=>impl_DigestOf a):=fn_ok0 (hc QAE (hc UAE (hc AAF (hc CAF hl_nil)))) Tryz.func50 ((fun z0 z1 z2 z3 a=>by kernel_rfl:∀ z0 z1 z2 z3,EntryIs0 ctx PP 50 [] [(89,RAE z0),(90,VAE z1),(88,BAF z2),(91,DAF z3)] cv8 cv8 fun a=>E_impl_DigestOf z0 z1 z2 z3 a) impl_firstState impl_ending impl_blocks impl_stateText)
noncomputable def PZ {γ:Type} (F:IZ):Hd ctx γ:=hdl cv8.dec (fun a=>F a) cv8.enc
abbrev Nb:=Option SBook
noncomputable def E_impl_BookNew (z0:IZ) (z1:Bh)  : Option SBook:=
 (z0 ⟨#[]⟩).bind fun r0=>
 (z1 32).bind fun r1=>
 some ⟨r0,0,[],0,r1,0⟩
noncomputable def impl_BookNew:Nb:=E_impl_BookNew impl_DigestOf impl_zeros
theorem Jl:Tells ctx PP 85 cv5 cv72 (fun _=>impl_BookNew):=fn_ok0 (hc Ba (hc Jt hl_nil)) Tryz.func85 ((fun z0 z1 _=>by kernel_rfl:∀ z0 z1,EntryIs0 ctx PP 85 [] [(50,PZ z0),(121,Kt z1)] cv5 cv72 fun _=>E_impl_BookNew z0 z1) impl_DigestOf impl_zeros)
noncomputable def Jf {γ:Type} (F:Nb):Hd ctx γ:=hdl cv5.dec (fun _=>F) cv72.enc
abbrev Ya:=Int→Option ByteArray
inductive Ih where
 | c0 (n_0:Int) (out_3:(List Int))
noncomputable def H8:Ih→LI
 | .c0 n_0 out_3=>(tdo Tryz.f29 224,[(0,[.one (.int .i64 n_0)]),(3,[.one (.own 240)])],[(240,.sl 5 out_3)])
noncomputable def I8 (k:Ih→Option ByteArray) (n_0:Int):Option ByteArray:=
 k (.c0 n_0 [])
noncomputable def B_impl_varText (k:Ih→Option ByteArray):Ih→Option ByteArray
 | .c0 n_0 out_3=>
 bif (decide (n_0 > 127)) then
  bif (decide (((out_3.length+1)*1)≤140737488355328)) then
  k (.c0 (w64 (n_0.tdiv 128)) (out_3++[(w8 (w64 (128+(n_0.tmod 128))))]))
  else none
 else
  bif (decide (((out_3.length+1)*1)≤140737488355328)) then
  some (ofBytes (out_3++[(w8 n_0)]))
  else none
noncomputable def L_impl_varText:Nat→Ih→Option ByteArray
 | 0,_=>none
 | m+1,s=>B_impl_varText (L_impl_varText m) s
noncomputable def impl_varText:Ya:=I8 (L_impl_varText gas)
theorem Yd:Tells ctx PP 29 cv1 cv8 (fun a=>impl_varText a):=
 have b:CutIs ctx PP 29 Tryz.f29 [] [] cv8 H8 (B_impl_varText):=fun _ s=>by cases s <;> kernel_rfl
 have e:EntryIs ctx PP 29 [] [] cv1 cv8 H8 (fun k a=>I8 k a):=fun _ a=>by kernel_rfl
 fn_ok hl_nil Tryz.func29 (fun s s' h=>by cases s;cases s';cases h;rfl) (fun _=>rfl) (fun _ _=>rfl) b e gas
noncomputable def Zd {γ:Type} (F:Ya):Hd ctx γ:=hdl cv1.dec (fun a=>F a) cv8.enc
abbrev CV:=Int→Int→Int→Option Bool
noncomputable def J8 (n_0:Int) (low_1:Int) (high_2:Int):Option Bool:=
 bif (decide (n_0≥low_1)) then
 some (decide (n_0≤high_2))
 else
 some false
noncomputable def impl_in:CV:=J8
theorem UY:Tells ctx PP 36 cv3 cv4 (fun a=>impl_in a.1 a.2.1 a.2.2):=fn_ok0 hl_nil Tryz.func36 (fun a=>by kernel_rfl:EntryIs0 ctx PP 36 [] [] cv3 cv4 fun a=>J8 a.1 a.2.1 a.2.2)
noncomputable def OY {γ:Type} (F:CV):Hd ctx γ:=hdl cv3.dec (fun a=>F a.1 a.2.1 a.2.2) cv4.enc
abbrev Ae:=SThing→Option Bool
noncomputable def E_impl_ThingOk (z0:CV) (x_0:SThing):Option Bool:=
 (z0 x_0.fId 1 1000).bind fun r0=>
 bif (!r0) then
 some false
 else
 (z0 x_0.fNext 0 16).bind fun r1=>
 bif (!r1) then
  some false
 else
  bif (x_0.fKind != 2) then
  bif (x_0.fNext != 0) then
   some false
  else
   bif x_0.fSigns then
   some false
   else
   bif (x_0.fKind != 1) then
    bif x_0.fWraps then
    some false
    else
    bif (x_0.fKind == 1) then
     bif (x_0.fKind == 1) then
     some ((x_0.fValue.size:Int) == 32)
     else
     bif (x_0.fKind == 3) then
      some (decide ((x_0.fValue.size:Int)≤100))
     else
      some false
    else
     bif (x_0.fKind == 2) then
     some ((x_0.fValue.size:Int) == 32)
     else
     bif (x_0.fKind == 3) then
      some (decide ((x_0.fValue.size:Int)≤100))
     else
      some false
   else
    bif (x_0.fKind == 1) then
    bif (x_0.fKind == 1) then
     some ((x_0.fValue.size:Int) == 32)
    else
     bif (x_0.fKind == 3) then
     some (decide ((x_0.fValue.size:Int)≤100))
     else
     some false
    else
    bif (x_0.fKind == 2) then
     some ((x_0.fValue.size:Int) == 32)
    else
     bif (x_0.fKind == 3) then
     some (decide ((x_0.fValue.size:Int)≤100))
     else
     some false
  else
  bif (x_0.fKind != 1) then
   bif x_0.fWraps then
   some false
   else
   bif (x_0.fKind == 1) then
    bif (x_0.fKind == 1) then
    some ((x_0.fValue.size:Int) == 32)
    else
    bif (x_0.fKind == 3) then
     some (decide ((x_0.fValue.size:Int)≤100))
    else
     some false
   else
    bif (x_0.fKind == 2) then
    some ((x_0.fValue.size:Int) == 32)
    else
    bif (x_0.fKind == 3) then
     some (decide ((x_0.fValue.size:Int)≤100))
    else
     some false
  else
   bif (x_0.fKind == 1) then
   bif (x_0.fKind == 1) then
    some ((x_0.fValue.size:Int) == 32)
   else
    bif (x_0.fKind == 3) then
    some (decide ((x_0.fValue.size:Int)≤100))
    else
    some false
   else
   bif (x_0.fKind == 2) then
    some ((x_0.fValue.size:Int) == 32)
   else
    bif (x_0.fKind == 3) then
    some (decide ((x_0.fValue.size:Int)≤100))
    else
    some false
noncomputable def impl_ThingOk:Ae:=E_impl_ThingOk impl_in
theorem Xt:Tells ctx PP 15 cv2 cv4 (fun a=>impl_ThingOk a):=fn_ok0 (hc UY hl_nil) Tryz.func15 ((fun z0 a=>by kernel_rfl:∀ z0,EntryIs0 ctx PP 15 [] [(36,OY z0)] cv2 cv4 fun a=>E_impl_ThingOk z0 a) impl_in)
noncomputable def Wn {γ:Type} (F:Ae):Hd ctx γ:=hdl cv2.dec (fun a=>F a) cv4.enc
abbrev AZ:=Int→Option ByteArray
noncomputable def E_impl_oneByte (n_0:Int):Option ByteArray:=
 some (ofBytes [(w8 n_0)])
noncomputable def impl_oneByte:AZ:=E_impl_oneByte
theorem Za:Tells ctx PP 30 cv1 cv8 (fun a=>impl_oneByte a):=fn_ok0 hl_nil Tryz.func30 (fun a=>by kernel_rfl:EntryIs0 ctx PP 30 [] [] cv1 cv8 fun a=>E_impl_oneByte a)
noncomputable def JZ {γ:Type} (F:AZ):Hd ctx γ:=hdl cv1.dec (fun a=>F a) cv8.enc
abbrev Yt:=SThing→Option Int
inductive Jh where
 | c0 (n_3:Int) (v_15:Int) (v_16:Int) (v_14:(List Bool))
noncomputable def L8:Jh→LI
 | .c0 n_3 v_15 v_16 v_14=>(tdo Tryz.f31 232,[(3,[.one (.int .i64 n_3)]),(14,[.one (.own 944)]),(15,[.one (.int .i64 v_15)]),(16,[.one (.int .i64 v_16)])],[(944,.sl 4 v_14)])
noncomputable def E_impl_flags (k:Jh→Option Int) (x_0:SThing):Option Int:=
 k (.c0 0 ((4:Nat):Int) 0 [x_0.fHidden,x_0.fFixed,x_0.fSigns,x_0.fWraps])
noncomputable def N8 (k:Jh→Option Int):Jh→Option Int
 | .c0 n_3 v_15 v_16 v_14=>
 bif (decide (v_16<v_15)) then
  bif ((decide (0≤v_16)) && (decide (v_16<(v_14.length:Int)))) then
  bif (v_14.getD v_16.toNat false) then
  bif (decide (0≤v_16)) then
  k (.c0 (w64 (((BitVec.toNat ((BitVec.ofInt (IntKind.bits IntKind.i64) n_3) ||| (BitVec.ofInt (IntKind.bits IntKind.i64) (w64 (1*(2 ^ (Min.min v_16.toNat (IntKind.bits IntKind.i64)))))))):Nat):Int)) v_15 (w64 (v_16+1)) v_14)
  else none
  else
  k (.c0 n_3 v_15 (w64 (v_16+1)) v_14)
  else none
 else
  some n_3
noncomputable def L_impl_flags:Nat→Jh→Option Int
 | 0,_=>none
 | m+1,s=>N8 (L_impl_flags m) s
noncomputable def impl_flags:Yt:=E_impl_flags (L_impl_flags gas)
theorem EAF:Tells ctx PP 31 cv2 cv1 (fun a=>impl_flags a):=
 have b:CutIs ctx PP 31 Tryz.f31 [] [] cv1 L8 (N8):=fun _ s=>by cases s <;> kernel_rfl
 have e:EntryIs ctx PP 31 [] [] cv2 cv1 L8 (fun k a=>E_impl_flags k a):=fun _ a=>by kernel_rfl
 fn_ok hl_nil Tryz.func31 (fun s s' h=>by cases s;cases s';cases h;rfl) (fun _=>rfl) (fun _ _=>rfl) b e gas
noncomputable def FAF {γ:Type} (F:Yt):Hd ctx γ:=hdl cv2.dec (fun a=>F a) cv1.enc
abbrev Zt:=ByteArray→Option ByteArray
noncomputable def E_impl_shortText (z0:Ya) (s_0:ByteArray):Option ByteArray:=
 (z0 (s_0.size:Int)).bind fun r0=>
 bif (decide ((r0.size+s_0.size)≤9223372036854775807)) then
 some (r0++s_0)
 else none
noncomputable def impl_shortText:Zt:=E_impl_shortText impl_varText
theorem GAF:Tells ctx PP 32 cv8 cv8 (fun a=>impl_shortText a):=fn_ok0 (hc Yd hl_nil) Tryz.func32 ((fun z0 a=>by kernel_rfl:∀ z0,EntryIs0 ctx PP 32 [] [(29,Zd z0)] cv8 cv8 fun a=>E_impl_shortText z0 a) impl_varText)
noncomputable def HAF {γ:Type} (F:Zt):Hd ctx γ:=hdl cv8.dec (fun a=>F a) cv8.enc
abbrev Lh:=SThing→Option (ByteArray×Bool)
noncomputable def E_impl_ThingText (z0:Ae) (z1:Ya) (z2:AZ) (z3:Yt) (z4:Zt) (x_0:SThing):Option (ByteArray×Bool):=
 (z0 x_0).bind fun r0=>
 bif (!r0) then
 some (⟨#[]⟩,false)
 else
 (z1 x_0.fId).bind fun r1=>
 (z2 x_0.fKind).bind fun r2=>
 bif (decide ((r1.size+r2.size)≤9223372036854775807)) then
 (z3 x_0).bind fun r3=>
 (z2 r3).bind fun r4=>
 bif (decide (((r1++r2).size+r4.size)≤9223372036854775807)) then
 (z4 x_0.fValue).bind fun r5=>
 bif (decide ((((r1++r2)++r4).size+r5.size)≤9223372036854775807)) then
 (z1 x_0.fNext).bind fun r6=>
 bif (decide (((((r1++r2)++r4)++r5).size+r6.size)≤9223372036854775807)) then
 some (((((r1++r2)++r4)++r5)++r6),true)
 else none
 else none
 else none
 else none
noncomputable def impl_ThingText:Lh:=E_impl_ThingText impl_ThingOk impl_varText impl_oneByte impl_flags impl_shortText
theorem Au:Tells ctx PP 12 cv2 cv28 (fun a=>impl_ThingText a):=fn_ok0 (hc Xt (hc Yd (hc Za (hc EAF (hc GAF hl_nil))))) Tryz.func12 ((fun z0 z1 z2 z3 z4 a=>by kernel_rfl:∀ z0 z1 z2 z3 z4,EntryIs0 ctx PP 12 [] [(15,Wn z0),(29,Zd z1),(30,JZ z2),(31,FAF z3),(32,HAF z4)] cv2 cv28 fun a=>E_impl_ThingText z0 z1 z2 z3 z4 a) impl_ThingOk impl_varText impl_oneByte impl_flags impl_shortText)
noncomputable def Du {γ:Type} (F:Lh):Hd ctx γ:=hdl cv2.dec (fun a=>F a) cv28.enc
abbrev Nh:=SRec→Option (ByteArray×Bool)
noncomputable def E_impl_RecText (z0:Ya) (z1:CV) (z2:Lh) (z3:AZ) (r_0:SRec):Option (ByteArray×Bool):=
 bif (r_0.fKind == 1) then
 bif (!((r_0.fText.size:Int) == 32)) then
  some (⟨#[]⟩,false)
 else
  bif (!((r_0.fKind == r_0.fKind) && (((ByteArray.toList r_0.fText) == (ByteArray.toList r_0.fText)) && ((r_0.fNum == 0) && (((r_0.fThing.fId == 0) && ((r_0.fThing.fKind == 0) && ((r_0.fThing.fHidden == false) && ((r_0.fThing.fFixed == false) && ((r_0.fThing.fSigns == false) && ((r_0.fThing.fWraps == false) && (((ByteArray.toList r_0.fThing.fValue) == (ByteArray.toList ⟨#[]⟩)) && ((r_0.fThing.fNext == 0) && true)))))))) && true))))) then
  some (⟨#[]⟩,false)
  else
  (z3 r_0.fKind).bind fun r0=>
  bif (decide ((r0.size+r_0.fText.size)≤9223372036854775807)) then
  some ((r0++r_0.fText),true)
  else none
 else
 bif (r_0.fKind == 2) then
  (z0 r_0.fNum).bind fun r1=>
  (z1 r_0.fNum 0 3).bind fun r2=>
  bif (!r2) then
  some (⟨#[]⟩,false)
  else
  bif (!((r_0.fKind == r_0.fKind) && (((ByteArray.toList r_0.fText) == (ByteArray.toList ⟨#[]⟩)) && ((r_0.fNum == r_0.fNum) && (((r_0.fThing.fId == 0) && ((r_0.fThing.fKind == 0) && ((r_0.fThing.fHidden == false) && ((r_0.fThing.fFixed == false) && ((r_0.fThing.fSigns == false) && ((r_0.fThing.fWraps == false) && (((ByteArray.toList r_0.fThing.fValue) == (ByteArray.toList ⟨#[]⟩)) && ((r_0.fThing.fNext == 0) && true)))))))) && true))))) then
   some (⟨#[]⟩,false)
  else
   (z3 r_0.fKind).bind fun r3=>
   bif (decide ((r3.size+r1.size)≤9223372036854775807)) then
   some ((r3++r1),true)
   else none
 else
  bif (r_0.fKind == 3) then
  (z2 r_0.fThing).bind fun r4=>
  bif (!r4.2) then
   some (⟨#[]⟩,false)
  else
   bif (!((r_0.fKind == r_0.fKind) && (((ByteArray.toList r_0.fText) == (ByteArray.toList ⟨#[]⟩)) && ((r_0.fNum == 0) && (((r_0.fThing.fId == r_0.fThing.fId) && ((r_0.fThing.fKind == r_0.fThing.fKind) && ((r_0.fThing.fHidden == r_0.fThing.fHidden) && ((r_0.fThing.fFixed == r_0.fThing.fFixed) && ((r_0.fThing.fSigns == r_0.fThing.fSigns) && ((r_0.fThing.fWraps == r_0.fThing.fWraps) && (((ByteArray.toList r_0.fThing.fValue) == (ByteArray.toList r_0.fThing.fValue)) && ((r_0.fThing.fNext == r_0.fThing.fNext) && true)))))))) && true))))) then
   some (⟨#[]⟩,false)
   else
   (z3 r_0.fKind).bind fun r5=>
   bif (decide ((r5.size+r4.1.size)≤9223372036854775807)) then
   some ((r5++r4.1),true)
   else none
  else
  bif (r_0.fKind == 4) then
   (z0 r_0.fNum).bind fun r6=>
   (z1 r_0.fNum 1 1000).bind fun r7=>
   bif (!r7) then
   some (⟨#[]⟩,false)
   else
   bif (!((r_0.fKind == r_0.fKind) && (((ByteArray.toList r_0.fText) == (ByteArray.toList ⟨#[]⟩)) && ((r_0.fNum == r_0.fNum) && (((r_0.fThing.fId == 0) && ((r_0.fThing.fKind == 0) && ((r_0.fThing.fHidden == false) && ((r_0.fThing.fFixed == false) && ((r_0.fThing.fSigns == false) && ((r_0.fThing.fWraps == false) && (((ByteArray.toList r_0.fThing.fValue) == (ByteArray.toList ⟨#[]⟩)) && ((r_0.fThing.fNext == 0) && true)))))))) && true))))) then
    some (⟨#[]⟩,false)
   else
    (z3 r_0.fKind).bind fun r8=>
    bif (decide ((r8.size+r6.size)≤9223372036854775807)) then
    some ((r8++r6),true)
    else none
  else
   some (⟨#[]⟩,false)
noncomputable def impl_RecText:Nh:=E_impl_RecText impl_varText impl_in impl_ThingText impl_oneByte
theorem Eu:Tells ctx PP 162 cv73 cv28 (fun a=>impl_RecText a):=fn_ok0 (hc Yd (hc UY (hc Au (hc Za hl_nil)))) Tryz.func162 ((fun z0 z1 z2 z3 a=>by kernel_rfl:∀ z0 z1 z2 z3,EntryIs0 ctx PP 162 [] [(29,Zd z0),(36,OY z1),(12,Du z2),(30,JZ z3)] cv73 cv28 fun a=>E_impl_RecText z0 z1 z2 z3 a) impl_varText impl_in impl_ThingText impl_oneByte)
noncomputable def Gu {γ:Type} (F:Nh):Hd ctx γ:=hdl cv73.dec (fun a=>F a) cv28.enc
abbrev Xn:=Int→Option (ByteArray×Bool)
noncomputable def E_impl_VarText (z0:CV) (z1:Ya) (n_0:Int):Option (ByteArray×Bool):=
 (z0 n_0 0 1000000000).bind fun r0=>
 bif (!r0) then
 some (⟨#[]⟩,false)
 else
 (z1 n_0).bind fun r1=>
 some (r1,true)
noncomputable def impl_VarText:Xn:=E_impl_VarText impl_in impl_varText
theorem IAF:Tells ctx PP 227 cv1 cv28 (fun a=>impl_VarText a):=fn_ok0 (hc UY (hc Yd hl_nil)) Tryz.func227 ((fun z0 z1 a=>by kernel_rfl:∀ z0 z1,EntryIs0 ctx PP 227 [] [(36,OY z0),(29,Zd z1)] cv1 cv28 fun a=>E_impl_VarText z0 z1 a) impl_in impl_varText)
noncomputable def O8 {γ:Type} (F:Xn):Hd ctx γ:=hdl cv1.dec (fun a=>F a) cv28.enc
abbrev Hu:=ByteArray→Int→Option ByteArray
inductive Oh where
 | c0 (x_1:Int) (v_10:Int) (v_11:Int) (out_5:(List Int))
noncomputable def P8:Oh→LI
 | .c0 x_1 v_10 v_11 out_5=>(tdo Tryz.f243 232,[(1,[.one (.int .u8 x_1)]),(5,[.one (.own 368)]),(10,[.one (.int .i64 v_10)]),(11,[.one (.int .i64 v_11)])],[(368,.sl 5 out_5)])
noncomputable def E_impl_xored (k:Oh→Option ByteArray) (s_0:ByteArray) (x_1:Int):Option ByteArray:=
 bif (decide (s_0.size≤9223372036854775807)) then
 k (.c0 x_1 ((bytesOf s_0).length:Int) 0 (bytesOf s_0))
 else none
noncomputable def B_impl_xored (k:Oh→Option ByteArray):Oh→Option ByteArray
 | .c0 x_1 v_10 v_11 out_5=>
 bif (decide (v_11<v_10)) then
  bif ((decide (0≤v_11)) && (decide (v_11<(out_5.length:Int)))) then
  bif ((decide (0≤v_11)) && (decide (v_11<(out_5.length:Int)))) then
  k (.c0 x_1 v_10 (w64 (v_11+1)) (out_5.set v_11.toNat (w8 (((BitVec.toNat ((BitVec.ofInt (IntKind.bits IntKind.u8) (out_5.getD v_11.toNat 0)) ^^^ (BitVec.ofInt (IntKind.bits IntKind.u8) x_1))):Nat):Int))))
  else none
  else none
 else
  some (ofBytes out_5)
noncomputable def L_impl_xored:Nat→Oh→Option ByteArray
 | 0,_=>none
 | m+1,s=>B_impl_xored (L_impl_xored m) s
noncomputable def impl_xored:Hu:=E_impl_xored (L_impl_xored gas)
theorem JAF:Tells ctx PP 243 cv74 cv8 (fun a=>impl_xored a.1 a.2):=
 have b:CutIs ctx PP 243 Tryz.f243 [] [] cv8 P8 (B_impl_xored):=fun _ s=>by cases s <;> kernel_rfl
 have e:EntryIs ctx PP 243 [] [] cv74 cv8 P8 (fun k a=>E_impl_xored k a.1 a.2):=fun _ a=>by kernel_rfl
 fn_ok hl_nil Tryz.func243 (fun s s' h=>by cases s;cases s';cases h;rfl) (fun _=>rfl) (fun _ _=>rfl) b e gas
noncomputable def KAF {γ:Type} (F:Hu):Hd ctx γ:=hdl cv74.dec (fun a=>F a.1 a.2) cv8.enc
abbrev Ph:=ByteArray→ByteArray→Option ByteArray
noncomputable def E_impl_MacOf (z0:IZ) (z1:Bh) (z2:Hu) (key_0:ByteArray) (s_1:ByteArray):Option ByteArray:=
 bif (decide ((key_0.size:Int) > 64)) then
 (z0 key_0).bind fun r0=>
 (z1 (w64 (64 - (r0.size:Int)))).bind fun r1=>
 bif (decide ((r0.size+r1.size)≤9223372036854775807)) then
 (z2 (r0++r1) 92).bind fun r2=>
 (z2 (r0++r1) 54).bind fun r3=>
 bif (decide ((r3.size+s_1.size)≤9223372036854775807)) then
 (z0 (r3++s_1)).bind fun r4=>
 bif (decide ((r2.size+r4.size)≤9223372036854775807)) then
 (z0 (r2++r4)).bind fun r5=>
 some r5
 else none
 else none
 else none
 else
 (z1 (w64 (64 - (key_0.size:Int)))).bind fun r6=>
 bif (decide ((key_0.size+r6.size)≤9223372036854775807)) then
 (z2 (key_0++r6) 92).bind fun r7=>
 (z2 (key_0++r6) 54).bind fun r8=>
 bif (decide ((r8.size+s_1.size)≤9223372036854775807)) then
 (z0 (r8++s_1)).bind fun r9=>
 bif (decide ((r7.size+r9.size)≤9223372036854775807)) then
 (z0 (r7++r9)).bind fun r10=>
 some r10
 else none
 else none
 else none
noncomputable def impl_MacOf:Ph:=E_impl_MacOf impl_DigestOf impl_zeros impl_xored
theorem Q8:Tells ctx PP 228 cv75 cv8 (fun a=>impl_MacOf a.1 a.2):=fn_ok0 (hc Ba (hc Jt (hc JAF hl_nil))) Tryz.func228 ((fun z0 z1 z2 a=>by kernel_rfl:∀ z0 z1 z2,EntryIs0 ctx PP 228 [] [(50,PZ z0),(121,Kt z1),(243,KAF z2)] cv75 cv8 fun a=>E_impl_MacOf z0 z1 z2 a.1 a.2) impl_DigestOf impl_zeros impl_xored)
noncomputable def Iu {γ:Type} (F:Ph):Hd ctx γ:=hdl cv75.dec (fun a=>F a.1 a.2) cv8.enc
abbrev Yn:=ByteArray→Int→Int→Option (ByteArray×Bool)
inductive Qh where
 | c0 (key_0:ByteArray) (n_2:Int) (v_8:ByteArray) (out_10:ByteArray) (i_11:Int)
noncomputable def U8:Qh→LI
 | .c0 key_0 n_2 v_8 out_10 i_11=>(tdo Tryz.f205 2000,[(0,[.one (.str key_0)]),(2,[.one (.int .i64 n_2)]),(8,[.one (.str v_8)]),(10,[.one (.str out_10)]),(11,[.one (.int .i64 i_11)])],[])
noncomputable def E_impl_Mask (z0:Xn) (z1:CV) (z2:AZ) (z3:Ph) (k:Qh→Option (ByteArray×Bool)) (key_0:ByteArray) (num_1:Int) (n_2:Int):Option (ByteArray×Bool):=
 (z0 num_1).bind fun r0=>
 bif (!r0.2) then
 some (⟨#[]⟩,false)
 else
 (z1 n_2 0 8000).bind fun r1=>
 bif (!r1) then
  some (⟨#[]⟩,false)
 else
  k (.c0 key_0 n_2 r0.1 ⟨#[]⟩ 0)
noncomputable def B_impl_Mask (z0:Xn) (z1:CV) (z2:AZ) (z3:Ph) (k:Qh→Option (ByteArray×Bool)):Qh→Option (ByteArray×Bool)
 | .c0 key_0 n_2 v_8 out_10 i_11=>
 bif (decide ((out_10.size:Int)<n_2)) then
  bif (decide (((⟨#[109]⟩:ByteArray).size+v_8.size)≤9223372036854775807)) then
  (z2 i_11).bind fun r0=>
  bif (decide ((((⟨#[109]⟩:ByteArray)++v_8).size+r0.size)≤9223372036854775807)) then
  (z3 key_0 (((⟨#[109]⟩:ByteArray)++v_8)++r0)).bind fun r1=>
  bif (decide ((out_10.size+r1.size)≤9223372036854775807)) then
  k (.c0 key_0 n_2 v_8 (out_10++r1) (w64 (i_11+1)))
  else none
  else none
  else none
 else
  bif ((decide (0≤n_2)) && (decide (n_2≤(out_10.size:Int)))) then
  some ((out_10.extract 0 n_2.toNat),true)
  else none
noncomputable def L_impl_Mask:Nat→Qh→Option (ByteArray×Bool)
 | 0,_=>none
 | m+1,s=>B_impl_Mask impl_VarText impl_in impl_oneByte impl_MacOf (L_impl_Mask m) s
noncomputable def impl_Mask:Yn:=E_impl_Mask impl_VarText impl_in impl_oneByte impl_MacOf (L_impl_Mask gas)
theorem V8:Tells ctx PP 205 cv26 cv28 (fun a=>impl_Mask a.1 a.2.1 a.2.2):=
 have b:∀ z0 z1 z2 z3,CutIs ctx PP 205 Tryz.f205 [] [(227,O8 z0),(36,OY z1),(30,JZ z2),(228,Iu z3)] cv28 U8 (B_impl_Mask z0 z1 z2 z3):=fun z0 z1 z2 z3 _ s=>by cases s <;> kernel_rfl
 have e:∀ z0 z1 z2 z3,EntryIs ctx PP 205 [] [(227,O8 z0),(36,OY z1),(30,JZ z2),(228,Iu z3)] cv26 cv28 U8 (fun k a=>E_impl_Mask z0 z1 z2 z3 k a.1 a.2.1 a.2.2):=fun z0 z1 z2 z3 _ a=>by kernel_rfl
 fn_ok (hc IAF (hc UY (hc Za (hc Q8 hl_nil)))) Tryz.func205 (fun s s' h=>by cases s;cases s';cases h;rfl) (fun _=>rfl) (fun _ _=>rfl) (b impl_VarText impl_in impl_oneByte impl_MacOf) (e impl_VarText impl_in impl_oneByte impl_MacOf) gas
noncomputable def X8 {γ:Type} (F:Yn):Hd ctx γ:=hdl cv26.dec (fun a=>F a.1 a.2.1 a.2.2) cv28.enc
abbrev Zn:=ByteArray→ByteArray→Option ByteArray
inductive Rh where
 | c0 (b_1:ByteArray) (v_10:Int) (v_11:Int) (out_5:(List Int))
noncomputable def Y8:Rh→LI
 | .c0 b_1 v_10 v_11 out_5=>(tdo Tryz.f206 232,[(1,[.one (.str b_1)]),(5,[.one (.own 368)]),(10,[.one (.int .i64 v_10)]),(11,[.one (.int .i64 v_11)])],[(368,.sl 5 out_5)])
noncomputable def E_impl_both (k:Rh→Option ByteArray) (a_0:ByteArray) (b_1:ByteArray):Option ByteArray:=
 bif (decide (a_0.size≤9223372036854775807)) then
 k (.c0 b_1 ((bytesOf a_0).length:Int) 0 (bytesOf a_0))
 else none
noncomputable def B_impl_both (k:Rh→Option ByteArray):Rh→Option ByteArray
 | .c0 b_1 v_10 v_11 out_5=>
 bif (decide (v_11<v_10)) then
  bif ((decide (0≤v_11)) && (decide (v_11<(out_5.length:Int)))) then
  bif ((decide (0≤v_11)) && (decide (v_11<(b_1.size:Int)))) then
  bif ((decide (0≤v_11)) && (decide (v_11<(out_5.length:Int)))) then
  k (.c0 b_1 v_10 (w64 (v_11+1)) (out_5.set v_11.toNat (w8 (((BitVec.toNat ((BitVec.ofInt (IntKind.bits IntKind.u8) (out_5.getD v_11.toNat 0)) ^^^ (BitVec.ofInt (IntKind.bits IntKind.u8) (bt b_1 v_11)))):Nat):Int))))
  else none
  else none
  else none
 else
  some (ofBytes out_5)
noncomputable def L_impl_both:Nat→Rh→Option ByteArray
 | 0,_=>none
 | m+1,s=>B_impl_both (L_impl_both m) s
noncomputable def impl_both:Zn:=E_impl_both (L_impl_both gas)
theorem Z8:Tells ctx PP 206 cv75 cv8 (fun a=>impl_both a.1 a.2):=
 have b:CutIs ctx PP 206 Tryz.f206 [] [] cv8 Y8 (B_impl_both):=fun _ s=>by cases s <;> kernel_rfl
 have e:EntryIs ctx PP 206 [] [] cv75 cv8 Y8 (fun k a=>E_impl_both k a.1 a.2):=fun _ a=>by kernel_rfl
 fn_ok hl_nil Tryz.func206 (fun s s' h=>by cases s;cases s';cases h;rfl) (fun _=>rfl) (fun _ _=>rfl) b e gas
noncomputable def C9 {γ:Type} (F:Zn):Hd ctx γ:=hdl cv75.dec (fun a=>F a.1 a.2) cv8.enc
abbrev Bo:=ByteArray→Int→ByteArray→Option ByteArray
noncomputable def E_impl_tag (z0:Ya) (z1:Ph) (key_0:ByteArray) (num_1:Int) (s_2:ByteArray):Option ByteArray:=
 (z0 num_1).bind fun r0=>
 bif (decide (((⟨#[116]⟩:ByteArray).size+r0.size)≤9223372036854775807)) then
 bif (decide ((((⟨#[116]⟩:ByteArray)++r0).size+s_2.size)≤9223372036854775807)) then
 (z1 key_0 (((⟨#[116]⟩:ByteArray)++r0)++s_2)).bind fun r1=>
 bif ((decide ((0:Int)≤(16:Int))) && (decide (16≤(r1.size:Int)))) then
 some (r1.extract 0 (16:Int).toNat)
 else none
 else none
 else none
noncomputable def impl_tag:Bo:=E_impl_tag impl_varText impl_MacOf
theorem D9:Tells ctx PP 207 cv76 cv8 (fun a=>impl_tag a.1 a.2.1 a.2.2):=fn_ok0 (hc Yd (hc Q8 hl_nil)) Tryz.func207 ((fun z0 z1 a=>by kernel_rfl:∀ z0 z1,EntryIs0 ctx PP 207 [] [(29,Zd z0),(228,Iu z1)] cv76 cv8 fun a=>E_impl_tag z0 z1 a.1 a.2.1 a.2.2) impl_varText impl_MacOf)
noncomputable def F9 {γ:Type} (F:Bo):Hd ctx γ:=hdl cv76.dec (fun a=>F a.1 a.2.1 a.2.2) cv8.enc
abbrev Ju:=ByteArray→Int→ByteArray→Option (ByteArray×Bool)
noncomputable def E_impl_LockText (z0:Yn) (z1:Zn) (z2:Bo) (key_0:ByteArray) (num_1:Int) (s_2:ByteArray):Option (ByteArray×Bool):=
 (z0 key_0 num_1 (s_2.size:Int)).bind fun r0=>
 bif (!r0.2) then
 some (⟨#[]⟩,false)
 else
 (z1 s_2 r0.1).bind fun r1=>
 (z2 key_0 num_1 r1).bind fun r2=>
 bif (decide ((r1.size+r2.size)≤9223372036854775807)) then
 some ((r1++r2),true)
 else none
noncomputable def impl_LockText:Ju:=E_impl_LockText impl_Mask impl_both impl_tag
theorem LAF:Tells ctx PP 163 cv76 cv28 (fun a=>impl_LockText a.1 a.2.1 a.2.2):=fn_ok0 (hc V8 (hc Z8 (hc D9 hl_nil))) Tryz.func163 ((fun z0 z1 z2 a=>by kernel_rfl:∀ z0 z1 z2,EntryIs0 ctx PP 163 [] [(205,X8 z0),(206,C9 z1),(207,F9 z2)] cv76 cv28 fun a=>E_impl_LockText z0 z1 z2 a.1 a.2.1 a.2.2) impl_Mask impl_both impl_tag)
noncomputable def MAF {γ:Type} (F:Ju):Hd ctx γ:=hdl cv76.dec (fun a=>F a.1 a.2.1 a.2.2) cv28.enc
abbrev Ku:=Int→ByteArray→Option Int
inductive Uh where
 | c0 (sum_0:Int) (text_1:ByteArray) (i_5:Int)
 | c1 (sum_0:Int) (text_1:ByteArray) (i_5:Int) (v_19:Int)
noncomputable def G9:Uh→LI
 | .c0 sum_0 text_1 i_5=>(tdo Tryz.f229 208,[(0,[.one (.int .u32 sum_0)]),(1,[.one (.str text_1)]),(5,[.one (.int .i64 i_5)])],[])
 | .c1 sum_0 text_1 i_5 v_19=>(tdo Tryz.f229 13464,[(0,[.one (.int .u32 sum_0)]),(1,[.one (.str text_1)]),(5,[.one (.int .i64 i_5)]),(19,[.one (.int .i64 v_19)])],[])
noncomputable def E_impl_SumMore (k:Uh→Option Int) (sum_0:Int) (text_1:ByteArray):Option Int:=
 k (.c0 sum_0 text_1 0)
noncomputable def B_impl_SumMore (k:Uh→Option Int):Uh→Option Int
 | .c0 sum_0 text_1 i_5=>
 bif (decide (i_5<(text_1.size:Int))) then
  bif ((decide (0≤i_5)) && (decide (i_5<(text_1.size:Int)))) then
  k (.c1 (w32 (((BitVec.toNat ((BitVec.ofInt (IntKind.bits IntKind.u32) sum_0) ^^^ (BitVec.ofInt (IntKind.bits IntKind.u32) (w32 (bt text_1 i_5))))):Nat):Int)) text_1 i_5 0)
  else none
 else
  some sum_0
 | .c1 sum_0 text_1 i_5 v_19=>
 bif (decide (v_19<8)) then
  bif ((w32 (((BitVec.toNat ((BitVec.ofInt (IntKind.bits IntKind.u32) sum_0) &&& (BitVec.ofInt (IntKind.bits IntKind.u32) 1))):Nat):Int)) == 1) then
  k (.c1 (w32 (((BitVec.toNat ((BitVec.ofInt (IntKind.bits IntKind.u32) (Int.fdiv sum_0 (2 ^ (Min.min (1:Int).toNat (IntKind.bits IntKind.u32))))) ^^^ (BitVec.ofInt (IntKind.bits IntKind.u32) 3558460437))):Nat):Int)) text_1 i_5 (w64 (v_19+1)))
  else
  k (.c1 (Int.fdiv sum_0 (2 ^ (Min.min (1:Int).toNat (IntKind.bits IntKind.u32)))) text_1 i_5 (w64 (v_19+1)))
 else
  k (.c0 sum_0 text_1 (w64 (i_5+1)))
noncomputable def L_impl_SumMore:Nat→Uh→Option Int
 | 0,_=>none
 | m+1,s=>B_impl_SumMore (L_impl_SumMore m) s
noncomputable def impl_SumMore:Ku:=E_impl_SumMore (L_impl_SumMore gas)
theorem NAF:Tells ctx PP 229 cv77 cv11 (fun a=>impl_SumMore a.1 a.2):=
 have b:CutIs ctx PP 229 Tryz.f229 [] [] cv11 G9 (B_impl_SumMore):=fun _ s=>by cases s <;> kernel_rfl
 have e:EntryIs ctx PP 229 [] [] cv77 cv11 G9 (fun k a=>E_impl_SumMore k a.1 a.2):=fun _ a=>by kernel_rfl
 fn_ok hl_nil Tryz.func229 (fun s s' h=>by cases s <;> cases s' <;> first | (cases h;done) | (cases h;rfl) | exact (rg_ne h (by kernel_rfl)).elim) (fun _=>rfl) (fun _ _=>rfl) b e gas
noncomputable def OAF {γ:Type} (F:Ku):Hd ctx γ:=hdl cv77.dec (fun a=>F a.1 a.2) cv11.enc
abbrev Vh:=ByteArray→Option Int
noncomputable def E_impl_SumOf (z0:Ku) (text_0:ByteArray):Option Int:=
 (z0 4294967295 text_0).bind fun r0=>
 some r0
noncomputable def impl_SumOf:Vh:=E_impl_SumOf impl_SumMore
theorem H9:Tells ctx PP 208 cv8 cv11 (fun a=>impl_SumOf a):=fn_ok0 (hc NAF hl_nil) Tryz.func208 ((fun z0 a=>by kernel_rfl:∀ z0,EntryIs0 ctx PP 208 [] [(229,OAF z0)] cv8 cv11 fun a=>E_impl_SumOf z0 a) impl_SumMore)
noncomputable def Lu {γ:Type} (F:Vh):Hd ctx γ:=hdl cv8.dec (fun a=>F a) cv11.enc
abbrev Wh:=ByteArray→Option (ByteArray×Bool)
noncomputable def E_impl_Frame (z0:CV) (z1:Ya) (z2:Vh) (z3:Xa) (text_0:ByteArray):Option (ByteArray×Bool):=
 (z0 (text_0.size:Int) 1 9000).bind fun r0=>
 bif (!r0) then
 some (⟨#[]⟩,false)
 else
 (z1 (text_0.size:Int)).bind fun r1=>
 (z2 text_0).bind fun r2=>
 (z3 r2).bind fun r3=>
 bif (decide ((r1.size+r3.size)≤9223372036854775807)) then
 bif (decide (((r1++r3).size+text_0.size)≤9223372036854775807)) then
 some (((r1++r3)++text_0),true)
 else none
 else none
noncomputable def impl_Frame:Wh:=E_impl_Frame impl_in impl_varText impl_SumOf impl_fourBytes
theorem I9:Tells ctx PP 164 cv8 cv28 (fun a=>impl_Frame a):=fn_ok0 (hc UY (hc Yd (hc H9 (hc Qn hl_nil)))) Tryz.func164 ((fun z0 z1 z2 z3 a=>by kernel_rfl:∀ z0 z1 z2 z3,EntryIs0 ctx PP 164 [] [(36,OY z0),(29,Zd z1),(208,Lu z2),(127,Vd z3)] cv8 cv28 fun a=>E_impl_Frame z0 z1 z2 z3 a) impl_in impl_varText impl_SumOf impl_fourBytes)
noncomputable def Nu {γ:Type} (F:Wh):Hd ctx γ:=hdl cv8.dec (fun a=>F a) cv28.enc
abbrev Nl:=ByteArray→Int→SRec→Option ((List SAct)×Bool)
noncomputable def E_impl_BookActs (z0:Nh) (z1:CV) (z2:Ju) (z3:Wh) (key_0:ByteArray) (count_1:Int) (r_2:SRec):Option ((List SAct)×Bool):=
 (z0 r_2).bind fun r0=>
 bif (!r0.2) then
 some ([],false)
 else
 (z1 count_1 0 10000).bind fun r1=>
 bif (!r1) then
  some ([],false)
 else
  (z2 key_0 (w64 (count_1+1)) r0.1).bind fun r2=>
  (z3 r2.1).bind fun r3=>
  bif (!r2.2) then
  some ([],false)
  else
  bif (!r3.2) then
   some ([],false)
  else
   some ([⟨1,⟨#[98,111,111,107]⟩,r3.1,⟨#[]⟩⟩,⟨2,⟨#[98,111,111,107]⟩,⟨#[]⟩,⟨#[]⟩⟩],true)
noncomputable def impl_BookActs:Nl:=E_impl_BookActs impl_RecText impl_in impl_LockText impl_Frame
theorem U1:Tells ctx PP 122 cv78 cv79 (fun a=>impl_BookActs a.1 a.2.1 a.2.2):=fn_ok0 (hc Eu (hc UY (hc LAF (hc I9 hl_nil)))) Tryz.func122 ((fun z0 z1 z2 z3 a=>by kernel_rfl:∀ z0 z1 z2 z3,EntryIs0 ctx PP 122 [] [(162,Gu z0),(36,OY z1),(163,MAF z2),(164,Nu z3)] cv78 cv79 fun a=>E_impl_BookActs z0 z1 z2 z3 a.1 a.2.1 a.2.2) impl_RecText impl_in impl_LockText impl_Frame)
noncomputable def Y2 {γ:Type} (F:Nl):Hd ctx γ:=hdl cv78.dec (fun a=>F a.1 a.2.1 a.2.2) cv79.enc
abbrev Aa:=SDisk→Option SDisk
noncomputable def E_impl_copyDisk (d_0:SDisk):Option SDisk:=
 bif (decide ((d_0.fFiles.length*40)≤140737488355328)) then
 some d_0
 else none
noncomputable def impl_copyDisk:Aa:=E_impl_copyDisk
theorem Gf:Tells ctx PP 165 cv80 cv81 (fun a=>impl_copyDisk a):=fn_ok0 hl_nil Tryz.func165 (fun a=>by kernel_rfl:EntryIs0 ctx PP 165 [] [] cv80 cv81 fun a=>E_impl_copyDisk a)
noncomputable def Jb {γ:Type} (F:Aa):Hd ctx γ:=hdl cv80.dec (fun a=>F a) cv81.enc
abbrev Ce:=SDisk→ByteArray→Option Int
inductive Xh where
 | c0 (name_1:ByteArray) (v_8:(List SFile)) (v_9:Int) (v_10:Int)
noncomputable def J9:Xh→LI
 | .c0 name_1 v_8 v_9 v_10=>(tdo Tryz.f177 104,[(1,[.one (.str name_1)]),(8,[.one (.rsl 223 v_8)]),(9,[.one (.int .i64 v_9)]),(10,[.one (.int .i64 v_10)])],[])
noncomputable def E_impl_fileAt (k:Xh→Option Int) (d_0:SDisk) (name_1:ByteArray):Option Int:=
 k (.c0 name_1 d_0.fFiles (d_0.fFiles.length:Int) 0)
noncomputable def B_impl_fileAt (k:Xh→Option Int):Xh→Option Int
 | .c0 name_1 v_8 v_9 v_10=>
 bif (decide (v_10<v_9)) then
  bif ((decide (0≤v_10)) && (decide (v_10<(v_8.length:Int)))) then
  bif ((ByteArray.toList (v_8.getD v_10.toNat (⟨⟨#[]⟩,⟨#[]⟩,0⟩:SFile)).fName) == (ByteArray.toList name_1)) then
  some v_10
  else
  k (.c0 name_1 v_8 v_9 (w64 (v_10+1)))
  else none
 else
  some (-(1:Int))
noncomputable def L_impl_fileAt:Nat→Xh→Option Int
 | 0,_=>none
 | m+1,s=>B_impl_fileAt (L_impl_fileAt m) s
noncomputable def impl_fileAt:Ce:=E_impl_fileAt (L_impl_fileAt gas)
theorem Eo:Tells ctx PP 177 cv82 cv1 (fun a=>impl_fileAt a.1 a.2):=
 have b:CutIs ctx PP 177 Tryz.f177 [] [] cv1 J9 (B_impl_fileAt):=fun _ s=>by cases s <;> kernel_rfl
 have e:EntryIs ctx PP 177 [] [] cv82 cv1 J9 (fun k a=>E_impl_fileAt k a.1 a.2):=fun _ a=>by kernel_rfl
 fn_ok hl_nil Tryz.func177 (fun s s' h=>by cases s;cases s';cases h;rfl) (fun _=>rfl) (fun _ _=>rfl) b e gas
noncomputable def Ho {γ:Type} (F:Ce):Hd ctx γ:=hdl cv82.dec (fun a=>F a.1 a.2) cv1.enc
abbrev La:=SDisk→Option Bool
inductive Yh where
 | c0 (v_6:(List SFile)) (v_7:Int) (v_8:Int) (d_1:SDisk)
noncomputable def L9:Yh→LI
 | .c0 v_6 v_7 v_8 d_1=>(tdo Tryz.f173 104,[(1,[.one (.ptr 64 0)]),(6,[.one (.rsl 223 v_6)]),(7,[.one (.int .i64 v_7)]),(8,[.one (.int .i64 v_8)])],[(64,.var [.rsl 223 d_1.fFiles])])
noncomputable def E_impl_DiskOk (z0:CV) (k:Yh→Option Bool) (d_0:SDisk):Option Bool:=
 k (.c0 d_0.fFiles (d_0.fFiles.length:Int) 0 d_0)
noncomputable def B_impl_DiskOk (z0:CV) (k:Yh→Option Bool):Yh→Option Bool
 | .c0 v_6 v_7 v_8 d_1=>
 bif (decide (v_8<v_7)) then
  bif ((decide (0≤v_8)) && (decide (v_8<(v_6.length:Int)))) then
  (z0 ((v_6.getD v_8.toNat (⟨⟨#[]⟩,⟨#[]⟩,0⟩:SFile)).fName.size:Int) 1 8).bind fun r0=>
  bif (!r0) then
  some false
  else
  bif (decide (((v_6.getD v_8.toNat (⟨⟨#[]⟩,⟨#[]⟩,0⟩:SFile)).fText.size:Int) > 20000)) then
   some false
  else
   (z0 (v_6.getD v_8.toNat (⟨⟨#[]⟩,⟨#[]⟩,0⟩:SFile)).fKept 0 ((v_6.getD v_8.toNat (⟨⟨#[]⟩,⟨#[]⟩,0⟩:SFile)).fText.size:Int)).bind fun r1=>
   bif (!r1) then
   some false
   else
   bif (decide (v_8 > 0)) then
    bif ((decide (0≤(w64 (v_8 - 1)))) && (decide ((w64 (v_8 - 1))<(d_1.fFiles.length:Int)))) then
    bif (!(Op.bytesLess (ByteArray.toList (d_1.fFiles.getD (w64 (v_8 - 1)).toNat (⟨⟨#[]⟩,⟨#[]⟩,0⟩:SFile)).fName) (ByteArray.toList (v_6.getD v_8.toNat (⟨⟨#[]⟩,⟨#[]⟩,0⟩:SFile)).fName))) then
    some false
    else
    k (.c0 v_6 v_7 (w64 (v_8+1)) d_1)
    else none
   else
    k (.c0 v_6 v_7 (w64 (v_8+1)) d_1)
  else none
 else
  some (decide ((d_1.fFiles.length:Int)≤30))
noncomputable def L_impl_DiskOk:Nat→Yh→Option Bool
 | 0,_=>none
 | m+1,s=>B_impl_DiskOk impl_in (L_impl_DiskOk m) s
noncomputable def impl_DiskOk:La:=E_impl_DiskOk impl_in (L_impl_DiskOk gas)
theorem Il:Tells ctx PP 173 cv80 cv4 (fun a=>impl_DiskOk a):=
 have b:∀ z0,CutIs ctx PP 173 Tryz.f173 [] [(36,OY z0)] cv4 L9 (B_impl_DiskOk z0):=fun z0 _ s=>by cases s <;> kernel_rfl
 have e:∀ z0,EntryIs ctx PP 173 [] [(36,OY z0)] cv80 cv4 L9 (fun k a=>E_impl_DiskOk z0 k a):=fun z0 _ a=>by kernel_rfl
 fn_ok (hc UY hl_nil) Tryz.func173 (fun s s' h=>by cases s;cases s';(repeat cases ‹SDisk›);cases h;rfl) (fun _=>rfl) (fun _ _=>rfl) (b impl_in) (e impl_in) gas
noncomputable def Ad {γ:Type} (F:La):Hd ctx γ:=hdl cv80.dec (fun a=>F a) cv4.enc
abbrev Zh:=SDisk→ByteArray→Option SDisk
noncomputable def E_impl_Disk_dropFile (z0:Ce) (d_0:SDisk) (name_1:ByteArray):Option SDisk:=
 (z0 d_0 name_1).bind fun r0=>
 bif (decide (r0≥0)) then
 bif ((decide (0≤r0)) && (decide (r0≤(d_0.fFiles.length:Int)))) then
 bif (decide ((((d_0.fFiles.drop 0).take (r0.toNat - 0)).length*40)≤140737488355328)) then
 bif ((decide (0≤(w64 (r0+1)))) && (decide ((w64 (r0+1))≤(d_0.fFiles.length:Int)))) then
 bif (decide (((((d_0.fFiles.drop 0).take (r0.toNat - 0)).length+((d_0.fFiles.drop (w64 (r0+1)).toNat).take (d_0.fFiles.length - (w64 (r0+1)).toNat)).length)*40)≤140737488355328)) then
 some ⟨(((d_0.fFiles.drop 0).take (r0.toNat - 0))++((d_0.fFiles.drop (w64 (r0+1)).toNat).take (d_0.fFiles.length - (w64 (r0+1)).toNat)))⟩
 else none
 else none
 else none
 else none
 else
 some d_0
noncomputable def impl_Disk_dropFile:Zh:=E_impl_Disk_dropFile impl_fileAt
theorem N9:Tells ctx PP 210 cv83 cv81 (fun a=>impl_Disk_dropFile a.1 a.2):=fn_ok0 (hc Eo hl_nil) Tryz.func210 ((fun z0 a=>by kernel_rfl:∀ z0,EntryIs0 ctx PP 210 [0] [(177,Ho z0)] cv83 cv81 fun a=>E_impl_Disk_dropFile z0 a.1 a.2) impl_fileAt)
noncomputable def Ou {γ:Type} (F:Zh):Hd ctx γ:=hdl cv83.dec (fun a=>F a.1 a.2) cv81.enc
abbrev Qu:=SDisk→SFile→Option SDisk
inductive Ai where
 | c0 (k_4:Int) (f_3:SFile) (d_0r0:(List SFile))
noncomputable def O9:Ai→LI
 | .c0 k_4 f_3 d_0r0=>(tdo Tryz.f209 480,[(0,[.one (.ptr 0 0)]),(3,[.one (.ptr 192 0)]),(4,[.one (.int .i64 k_4)])],[(0,.var [.own 1000000]),(192,.var [.str f_3.fName,.str f_3.fText,.int .i64 f_3.fKept]),(1000000,.sl 223 d_0r0)])
noncomputable def E_impl_Disk_putFile (z0:Zh) (k:Ai→Option SDisk) (d_0:SDisk) (f_1:SFile):Option SDisk:=
 (z0 d_0 f_1.fName).bind fun r0=>
 k (.c0 0 f_1 r0.fFiles)
noncomputable def B_impl_Disk_putFile (z0:Zh) (k:Ai→Option SDisk):Ai→Option SDisk
 | .c0 k_4 f_3 d_0r0=>
 bif (decide (k_4<(d_0r0.length:Int))) then
  bif ((decide (0≤k_4)) && (decide (k_4<(d_0r0.length:Int)))) then
  bif (Op.bytesLess (ByteArray.toList (d_0r0.getD k_4.toNat (⟨⟨#[]⟩,⟨#[]⟩,0⟩:SFile)).fName) (ByteArray.toList f_3.fName)) then
  k (.c0 (w64 (k_4+1)) f_3 d_0r0)
  else
  bif ((decide (0≤k_4)) && (decide (k_4≤(d_0r0.length:Int)))) then
  bif (decide ((((d_0r0.drop 0).take (k_4.toNat - 0)).length*40)≤140737488355328)) then
  bif (decide (((((d_0r0.drop 0).take (k_4.toNat - 0)).length+1)*40)≤140737488355328)) then
  bif ((decide (0≤k_4)) && (decide (k_4≤(d_0r0.length:Int)))) then
  bif (decide ((((((d_0r0.drop 0).take (k_4.toNat - 0))++[f_3]).length+((d_0r0.drop k_4.toNat).take (d_0r0.length - k_4.toNat)).length)*40)≤140737488355328)) then
  some ⟨((((d_0r0.drop 0).take (k_4.toNat - 0))++[f_3])++((d_0r0.drop k_4.toNat).take (d_0r0.length - k_4.toNat)))⟩
  else none
  else none
  else none
  else none
  else none
  else none
 else
  bif ((decide (0≤k_4)) && (decide (k_4≤(d_0r0.length:Int)))) then
  bif (decide ((((d_0r0.drop 0).take (k_4.toNat - 0)).length*40)≤140737488355328)) then
  bif (decide (((((d_0r0.drop 0).take (k_4.toNat - 0)).length+1)*40)≤140737488355328)) then
  bif ((decide (0≤k_4)) && (decide (k_4≤(d_0r0.length:Int)))) then
  bif (decide ((((((d_0r0.drop 0).take (k_4.toNat - 0))++[f_3]).length+((d_0r0.drop k_4.toNat).take (d_0r0.length - k_4.toNat)).length)*40)≤140737488355328)) then
  some ⟨((((d_0r0.drop 0).take (k_4.toNat - 0))++[f_3])++((d_0r0.drop k_4.toNat).take (d_0r0.length - k_4.toNat)))⟩
  else none
  else none
  else none
  else none
  else none
noncomputable def L_impl_Disk_putFile:Nat→Ai→Option SDisk
 | 0,_=>none
 | m+1,s=>B_impl_Disk_putFile impl_Disk_dropFile (L_impl_Disk_putFile m) s
noncomputable def impl_Disk_putFile:Qu:=E_impl_Disk_putFile impl_Disk_dropFile (L_impl_Disk_putFile gas)
theorem PAF:Tells ctx PP 209 cv84 cv81 (fun a=>impl_Disk_putFile a.1 a.2):=
 have b:∀ z0,CutIs ctx PP 209 Tryz.f209 [0] [(210,Ou z0)] cv81 O9 (B_impl_Disk_putFile z0):=fun z0 _ s=>by cases s <;> kernel_rfl
 have e:∀ z0,EntryIs ctx PP 209 [0] [(210,Ou z0)] cv84 cv81 O9 (fun k a=>E_impl_Disk_putFile z0 k a.1 a.2):=fun z0 _ a=>by kernel_rfl
 fn_ok (hc N9 hl_nil) Tryz.func209 (fun s s' h=>by cases s;cases s';(repeat cases ‹SFile›);cases h;rfl) (fun _=>rfl) (fun _ _=>rfl) (b impl_Disk_dropFile) (e impl_Disk_dropFile) gas
noncomputable def QAF {γ:Type} (F:Qu):Hd ctx γ:=hdl cv84.dec (fun a=>F a.1 a.2) cv81.enc
abbrev Io:=SDisk→SAct→Option (SDisk×Bool)
noncomputable def E_impl_DoAct (z0:Ce) (z1:La) (z2:Aa) (z3:Qu) (z4:Zh) (d_0:SDisk) (a_1:SAct):Option (SDisk×Bool):=
 (z0 d_0 a_1.fName).bind fun r0=>
 (z1 d_0).bind fun r1=>
 bif (!r1) then
 some (⟨[]⟩,false)
 else
 bif (a_1.fKind != 1) then
  bif (decide (r0<0)) then
  some (⟨[]⟩,false)
  else
  bif (!((ByteArray.toList a_1.fText) == (ByteArray.toList ⟨#[]⟩))) then
   some (⟨[]⟩,false)
  else
   bif (a_1.fKind != 3) then
   bif (!((ByteArray.toList a_1.fTo) == (ByteArray.toList ⟨#[]⟩))) then
    some (⟨[]⟩,false)
   else
    (z2 d_0).bind fun r2=>
    bif (decide (r0≥0)) then
    bif ((decide (0≤r0)) && (decide (r0<(d_0.fFiles.length:Int)))) then
    bif (a_1.fKind == 1) then
     bif (decide (((d_0.fFiles.getD r0.toNat (⟨⟨#[]⟩,⟨#[]⟩,0⟩:SFile)).fText.size+a_1.fText.size)≤9223372036854775807)) then
     (z3 r2 ⟨(d_0.fFiles.getD r0.toNat (⟨⟨#[]⟩,⟨#[]⟩,0⟩:SFile)).fName,((d_0.fFiles.getD r0.toNat (⟨⟨#[]⟩,⟨#[]⟩,0⟩:SFile)).fText++a_1.fText),(d_0.fFiles.getD r0.toNat (⟨⟨#[]⟩,⟨#[]⟩,0⟩:SFile)).fKept⟩).bind fun r3=>
     (z1 r3).bind fun r4=>
     bif (!r4) then
     some (⟨[]⟩,false)
     else
     some (r3,true)
     else none
    else
     bif (a_1.fKind == 2) then
     (z3 r2 ⟨(d_0.fFiles.getD r0.toNat (⟨⟨#[]⟩,⟨#[]⟩,0⟩:SFile)).fName,(d_0.fFiles.getD r0.toNat (⟨⟨#[]⟩,⟨#[]⟩,0⟩:SFile)).fText,((d_0.fFiles.getD r0.toNat (⟨⟨#[]⟩,⟨#[]⟩,0⟩:SFile)).fText.size:Int)⟩).bind fun r5=>
     (z1 r5).bind fun r6=>
     bif (!r6) then
      some (⟨[]⟩,false)
     else
      some (r5,true)
     else
     bif (a_1.fKind == 3) then
      bif ((d_0.fFiles.getD r0.toNat (⟨⟨#[]⟩,⟨#[]⟩,0⟩:SFile)).fKept != ((d_0.fFiles.getD r0.toNat (⟨⟨#[]⟩,⟨#[]⟩,0⟩:SFile)).fText.size:Int)) then
      some (⟨[]⟩,false)
      else
      bif ((ByteArray.toList a_1.fTo) == (ByteArray.toList a_1.fName)) then
       some (⟨[]⟩,false)
      else
       (z4 r2 a_1.fName).bind fun r7=>
       (z3 r7 ⟨a_1.fTo,(d_0.fFiles.getD r0.toNat (⟨⟨#[]⟩,⟨#[]⟩,0⟩:SFile)).fText,(d_0.fFiles.getD r0.toNat (⟨⟨#[]⟩,⟨#[]⟩,0⟩:SFile)).fKept⟩).bind fun r8=>
       (z1 r8).bind fun r9=>
       bif (!r9) then
       some (⟨[]⟩,false)
       else
       some (r8,true)
     else
      bif (a_1.fKind == 4) then
      (z4 r2 a_1.fName).bind fun r10=>
      (z1 r10).bind fun r11=>
      bif (!r11) then
       some (⟨[]⟩,false)
      else
       some (r10,true)
      else
      some (⟨[]⟩,false)
    else none
    else
    bif (a_1.fKind == 1) then
     bif (decide (((⟨#[]⟩:ByteArray).size+a_1.fText.size)≤9223372036854775807)) then
     (z3 r2 ⟨a_1.fName,((⟨#[]⟩:ByteArray)++a_1.fText),0⟩).bind fun r12=>
     (z1 r12).bind fun r13=>
     bif (!r13) then
     some (⟨[]⟩,false)
     else
     some (r12,true)
     else none
    else
     bif (a_1.fKind == 2) then
     (z3 r2 ⟨a_1.fName,⟨#[]⟩,((⟨#[]⟩:ByteArray).size:Int)⟩).bind fun r14=>
     (z1 r14).bind fun r15=>
     bif (!r15) then
      some (⟨[]⟩,false)
     else
      some (r14,true)
     else
     bif (a_1.fKind == 3) then
      bif ((ByteArray.toList a_1.fTo) == (ByteArray.toList a_1.fName)) then
      some (⟨[]⟩,false)
      else
      (z4 r2 a_1.fName).bind fun r16=>
      (z3 r16 ⟨a_1.fTo,⟨#[]⟩,0⟩).bind fun r17=>
      (z1 r17).bind fun r18=>
      bif (!r18) then
       some (⟨[]⟩,false)
      else
       some (r17,true)
     else
      bif (a_1.fKind == 4) then
      (z4 r2 a_1.fName).bind fun r19=>
      (z1 r19).bind fun r20=>
      bif (!r20) then
       some (⟨[]⟩,false)
      else
       some (r19,true)
      else
      some (⟨[]⟩,false)
   else
   (z2 d_0).bind fun r21=>
   bif (decide (r0≥0)) then
    bif ((decide (0≤r0)) && (decide (r0<(d_0.fFiles.length:Int)))) then
    bif (a_1.fKind == 1) then
    bif (decide (((d_0.fFiles.getD r0.toNat (⟨⟨#[]⟩,⟨#[]⟩,0⟩:SFile)).fText.size+a_1.fText.size)≤9223372036854775807)) then
    (z3 r21 ⟨(d_0.fFiles.getD r0.toNat (⟨⟨#[]⟩,⟨#[]⟩,0⟩:SFile)).fName,((d_0.fFiles.getD r0.toNat (⟨⟨#[]⟩,⟨#[]⟩,0⟩:SFile)).fText++a_1.fText),(d_0.fFiles.getD r0.toNat (⟨⟨#[]⟩,⟨#[]⟩,0⟩:SFile)).fKept⟩).bind fun r22=>
    (z1 r22).bind fun r23=>
    bif (!r23) then
     some (⟨[]⟩,false)
    else
     some (r22,true)
    else none
    else
    bif (a_1.fKind == 2) then
     (z3 r21 ⟨(d_0.fFiles.getD r0.toNat (⟨⟨#[]⟩,⟨#[]⟩,0⟩:SFile)).fName,(d_0.fFiles.getD r0.toNat (⟨⟨#[]⟩,⟨#[]⟩,0⟩:SFile)).fText,((d_0.fFiles.getD r0.toNat (⟨⟨#[]⟩,⟨#[]⟩,0⟩:SFile)).fText.size:Int)⟩).bind fun r24=>
     (z1 r24).bind fun r25=>
     bif (!r25) then
     some (⟨[]⟩,false)
     else
     some (r24,true)
    else
     bif (a_1.fKind == 3) then
     bif ((d_0.fFiles.getD r0.toNat (⟨⟨#[]⟩,⟨#[]⟩,0⟩:SFile)).fKept != ((d_0.fFiles.getD r0.toNat (⟨⟨#[]⟩,⟨#[]⟩,0⟩:SFile)).fText.size:Int)) then
      some (⟨[]⟩,false)
     else
      bif ((ByteArray.toList a_1.fTo) == (ByteArray.toList a_1.fName)) then
      some (⟨[]⟩,false)
      else
      (z4 r21 a_1.fName).bind fun r26=>
      (z3 r26 ⟨a_1.fTo,(d_0.fFiles.getD r0.toNat (⟨⟨#[]⟩,⟨#[]⟩,0⟩:SFile)).fText,(d_0.fFiles.getD r0.toNat (⟨⟨#[]⟩,⟨#[]⟩,0⟩:SFile)).fKept⟩).bind fun r27=>
      (z1 r27).bind fun r28=>
      bif (!r28) then
       some (⟨[]⟩,false)
      else
       some (r27,true)
     else
     bif (a_1.fKind == 4) then
      (z4 r21 a_1.fName).bind fun r29=>
      (z1 r29).bind fun r30=>
      bif (!r30) then
      some (⟨[]⟩,false)
      else
      some (r29,true)
     else
      some (⟨[]⟩,false)
    else none
   else
    bif (a_1.fKind == 1) then
    bif (decide (((⟨#[]⟩:ByteArray).size+a_1.fText.size)≤9223372036854775807)) then
    (z3 r21 ⟨a_1.fName,((⟨#[]⟩:ByteArray)++a_1.fText),0⟩).bind fun r31=>
    (z1 r31).bind fun r32=>
    bif (!r32) then
     some (⟨[]⟩,false)
    else
     some (r31,true)
    else none
    else
    bif (a_1.fKind == 2) then
     (z3 r21 ⟨a_1.fName,⟨#[]⟩,((⟨#[]⟩:ByteArray).size:Int)⟩).bind fun r33=>
     (z1 r33).bind fun r34=>
     bif (!r34) then
     some (⟨[]⟩,false)
     else
     some (r33,true)
    else
     bif (a_1.fKind == 3) then
     bif ((ByteArray.toList a_1.fTo) == (ByteArray.toList a_1.fName)) then
      some (⟨[]⟩,false)
     else
      (z4 r21 a_1.fName).bind fun r35=>
      (z3 r35 ⟨a_1.fTo,⟨#[]⟩,0⟩).bind fun r36=>
      (z1 r36).bind fun r37=>
      bif (!r37) then
      some (⟨[]⟩,false)
      else
      some (r36,true)
     else
     bif (a_1.fKind == 4) then
      (z4 r21 a_1.fName).bind fun r38=>
      (z1 r38).bind fun r39=>
      bif (!r39) then
      some (⟨[]⟩,false)
      else
      some (r38,true)
     else
      some (⟨[]⟩,false)
 else
  bif (a_1.fKind != 3) then
  bif (!((ByteArray.toList a_1.fTo) == (ByteArray.toList ⟨#[]⟩))) then
   some (⟨[]⟩,false)
  else
   (z2 d_0).bind fun r40=>
   bif (decide (r0≥0)) then
   bif ((decide (0≤r0)) && (decide (r0<(d_0.fFiles.length:Int)))) then
   bif (a_1.fKind == 1) then
    bif (decide (((d_0.fFiles.getD r0.toNat (⟨⟨#[]⟩,⟨#[]⟩,0⟩:SFile)).fText.size+a_1.fText.size)≤9223372036854775807)) then
    (z3 r40 ⟨(d_0.fFiles.getD r0.toNat (⟨⟨#[]⟩,⟨#[]⟩,0⟩:SFile)).fName,((d_0.fFiles.getD r0.toNat (⟨⟨#[]⟩,⟨#[]⟩,0⟩:SFile)).fText++a_1.fText),(d_0.fFiles.getD r0.toNat (⟨⟨#[]⟩,⟨#[]⟩,0⟩:SFile)).fKept⟩).bind fun r41=>
    (z1 r41).bind fun r42=>
    bif (!r42) then
    some (⟨[]⟩,false)
    else
    some (r41,true)
    else none
   else
    bif (a_1.fKind == 2) then
    (z3 r40 ⟨(d_0.fFiles.getD r0.toNat (⟨⟨#[]⟩,⟨#[]⟩,0⟩:SFile)).fName,(d_0.fFiles.getD r0.toNat (⟨⟨#[]⟩,⟨#[]⟩,0⟩:SFile)).fText,((d_0.fFiles.getD r0.toNat (⟨⟨#[]⟩,⟨#[]⟩,0⟩:SFile)).fText.size:Int)⟩).bind fun r43=>
    (z1 r43).bind fun r44=>
    bif (!r44) then
     some (⟨[]⟩,false)
    else
     some (r43,true)
    else
    bif (a_1.fKind == 3) then
     bif ((d_0.fFiles.getD r0.toNat (⟨⟨#[]⟩,⟨#[]⟩,0⟩:SFile)).fKept != ((d_0.fFiles.getD r0.toNat (⟨⟨#[]⟩,⟨#[]⟩,0⟩:SFile)).fText.size:Int)) then
     some (⟨[]⟩,false)
     else
     bif ((ByteArray.toList a_1.fTo) == (ByteArray.toList a_1.fName)) then
      some (⟨[]⟩,false)
     else
      (z4 r40 a_1.fName).bind fun r45=>
      (z3 r45 ⟨a_1.fTo,(d_0.fFiles.getD r0.toNat (⟨⟨#[]⟩,⟨#[]⟩,0⟩:SFile)).fText,(d_0.fFiles.getD r0.toNat (⟨⟨#[]⟩,⟨#[]⟩,0⟩:SFile)).fKept⟩).bind fun r46=>
      (z1 r46).bind fun r47=>
      bif (!r47) then
      some (⟨[]⟩,false)
      else
      some (r46,true)
    else
     bif (a_1.fKind == 4) then
     (z4 r40 a_1.fName).bind fun r48=>
     (z1 r48).bind fun r49=>
     bif (!r49) then
      some (⟨[]⟩,false)
     else
      some (r48,true)
     else
     some (⟨[]⟩,false)
   else none
   else
   bif (a_1.fKind == 1) then
    bif (decide (((⟨#[]⟩:ByteArray).size+a_1.fText.size)≤9223372036854775807)) then
    (z3 r40 ⟨a_1.fName,((⟨#[]⟩:ByteArray)++a_1.fText),0⟩).bind fun r50=>
    (z1 r50).bind fun r51=>
    bif (!r51) then
    some (⟨[]⟩,false)
    else
    some (r50,true)
    else none
   else
    bif (a_1.fKind == 2) then
    (z3 r40 ⟨a_1.fName,⟨#[]⟩,((⟨#[]⟩:ByteArray).size:Int)⟩).bind fun r52=>
    (z1 r52).bind fun r53=>
    bif (!r53) then
     some (⟨[]⟩,false)
    else
     some (r52,true)
    else
    bif (a_1.fKind == 3) then
     bif ((ByteArray.toList a_1.fTo) == (ByteArray.toList a_1.fName)) then
     some (⟨[]⟩,false)
     else
     (z4 r40 a_1.fName).bind fun r54=>
     (z3 r54 ⟨a_1.fTo,⟨#[]⟩,0⟩).bind fun r55=>
     (z1 r55).bind fun r56=>
     bif (!r56) then
      some (⟨[]⟩,false)
     else
      some (r55,true)
    else
     bif (a_1.fKind == 4) then
     (z4 r40 a_1.fName).bind fun r57=>
     (z1 r57).bind fun r58=>
     bif (!r58) then
      some (⟨[]⟩,false)
     else
      some (r57,true)
     else
     some (⟨[]⟩,false)
  else
  (z2 d_0).bind fun r59=>
  bif (decide (r0≥0)) then
   bif ((decide (0≤r0)) && (decide (r0<(d_0.fFiles.length:Int)))) then
   bif (a_1.fKind == 1) then
   bif (decide (((d_0.fFiles.getD r0.toNat (⟨⟨#[]⟩,⟨#[]⟩,0⟩:SFile)).fText.size+a_1.fText.size)≤9223372036854775807)) then
   (z3 r59 ⟨(d_0.fFiles.getD r0.toNat (⟨⟨#[]⟩,⟨#[]⟩,0⟩:SFile)).fName,((d_0.fFiles.getD r0.toNat (⟨⟨#[]⟩,⟨#[]⟩,0⟩:SFile)).fText++a_1.fText),(d_0.fFiles.getD r0.toNat (⟨⟨#[]⟩,⟨#[]⟩,0⟩:SFile)).fKept⟩).bind fun r60=>
   (z1 r60).bind fun r61=>
   bif (!r61) then
    some (⟨[]⟩,false)
   else
    some (r60,true)
   else none
   else
   bif (a_1.fKind == 2) then
    (z3 r59 ⟨(d_0.fFiles.getD r0.toNat (⟨⟨#[]⟩,⟨#[]⟩,0⟩:SFile)).fName,(d_0.fFiles.getD r0.toNat (⟨⟨#[]⟩,⟨#[]⟩,0⟩:SFile)).fText,((d_0.fFiles.getD r0.toNat (⟨⟨#[]⟩,⟨#[]⟩,0⟩:SFile)).fText.size:Int)⟩).bind fun r62=>
    (z1 r62).bind fun r63=>
    bif (!r63) then
    some (⟨[]⟩,false)
    else
    some (r62,true)
   else
    bif (a_1.fKind == 3) then
    bif ((d_0.fFiles.getD r0.toNat (⟨⟨#[]⟩,⟨#[]⟩,0⟩:SFile)).fKept != ((d_0.fFiles.getD r0.toNat (⟨⟨#[]⟩,⟨#[]⟩,0⟩:SFile)).fText.size:Int)) then
     some (⟨[]⟩,false)
    else
     bif ((ByteArray.toList a_1.fTo) == (ByteArray.toList a_1.fName)) then
     some (⟨[]⟩,false)
     else
     (z4 r59 a_1.fName).bind fun r64=>
     (z3 r64 ⟨a_1.fTo,(d_0.fFiles.getD r0.toNat (⟨⟨#[]⟩,⟨#[]⟩,0⟩:SFile)).fText,(d_0.fFiles.getD r0.toNat (⟨⟨#[]⟩,⟨#[]⟩,0⟩:SFile)).fKept⟩).bind fun r65=>
     (z1 r65).bind fun r66=>
     bif (!r66) then
      some (⟨[]⟩,false)
     else
      some (r65,true)
    else
    bif (a_1.fKind == 4) then
     (z4 r59 a_1.fName).bind fun r67=>
     (z1 r67).bind fun r68=>
     bif (!r68) then
     some (⟨[]⟩,false)
     else
     some (r67,true)
    else
     some (⟨[]⟩,false)
   else none
  else
   bif (a_1.fKind == 1) then
   bif (decide (((⟨#[]⟩:ByteArray).size+a_1.fText.size)≤9223372036854775807)) then
   (z3 r59 ⟨a_1.fName,((⟨#[]⟩:ByteArray)++a_1.fText),0⟩).bind fun r69=>
   (z1 r69).bind fun r70=>
   bif (!r70) then
    some (⟨[]⟩,false)
   else
    some (r69,true)
   else none
   else
   bif (a_1.fKind == 2) then
    (z3 r59 ⟨a_1.fName,⟨#[]⟩,((⟨#[]⟩:ByteArray).size:Int)⟩).bind fun r71=>
    (z1 r71).bind fun r72=>
    bif (!r72) then
    some (⟨[]⟩,false)
    else
    some (r71,true)
   else
    bif (a_1.fKind == 3) then
    bif ((ByteArray.toList a_1.fTo) == (ByteArray.toList a_1.fName)) then
     some (⟨[]⟩,false)
    else
     (z4 r59 a_1.fName).bind fun r73=>
     (z3 r73 ⟨a_1.fTo,⟨#[]⟩,0⟩).bind fun r74=>
     (z1 r74).bind fun r75=>
     bif (!r75) then
     some (⟨[]⟩,false)
     else
     some (r74,true)
    else
    bif (a_1.fKind == 4) then
     (z4 r59 a_1.fName).bind fun r76=>
     (z1 r76).bind fun r77=>
     bif (!r77) then
     some (⟨[]⟩,false)
     else
     some (r76,true)
    else
     some (⟨[]⟩,false)
noncomputable def impl_DoAct:Io:=E_impl_DoAct impl_fileAt impl_DiskOk impl_copyDisk impl_Disk_putFile impl_Disk_dropFile
theorem RAF:Tells ctx PP 166 cv85 cv86 (fun a=>impl_DoAct a.1 a.2):=fn_ok0 (hc Eo (hc Il (hc Gf (hc PAF (hc N9 hl_nil))))) Tryz.func166 ((fun z0 z1 z2 z3 z4 a=>by kernel_rfl:∀ z0 z1 z2 z3 z4,EntryIs0 ctx PP 166 [] [(177,Ho z0),(173,Ad z1),(165,Jb z2),(209,QAF z3),(210,Ou z4)] cv85 cv86 fun a=>E_impl_DoAct z0 z1 z2 z3 z4 a.1 a.2) impl_fileAt impl_DiskOk impl_copyDisk impl_Disk_putFile impl_Disk_dropFile)
noncomputable def P9 {γ:Type} (F:Io):Hd ctx γ:=hdl cv85.dec (fun a=>F a.1 a.2) cv86.enc
abbrev Hf:=SDisk→(List SAct)→Option (SDisk×Int)
inductive Ci where
 | c0 (list_1:(List SAct)) (v_13:(List SAct)) (v_14:Int) (v_15:Int) (v_4r0:(List SFile)) (out_6r0:(List SFile))
noncomputable def Q9:Ci→LI
 | .c0 list_1 v_13 v_14 v_15 v_4r0 out_6r0=>(tdo Tryz.f123 232,[(1,[.one (.rsl 201 list_1)]),(4,[.one (.ptr 256 0)]),(6,[.one (.ptr 384 0)]),(13,[.one (.rsl 201 v_13)]),(14,[.one (.int .i64 v_14)]),(15,[.one (.int .i64 v_15)])],[(256,.var [.own 1016384]),(384,.var [.own 1024576]),(1016384,.sl 223 v_4r0),(1024576,.sl 223 out_6r0)])
noncomputable def E_impl_DoActs (z0:Aa) (z1:Io) (k:Ci→Option (SDisk×Int)) (d_0:SDisk) (list_1:(List SAct)):Option (SDisk×Int):=
 (z0 d_0).bind fun r0=>
 k (.c0 list_1 list_1 (list_1.length:Int) 0 [] r0.fFiles)
noncomputable def B_impl_DoActs (z0:Aa) (z1:Io) (k:Ci→Option (SDisk×Int)):Ci→Option (SDisk×Int)
 | .c0 list_1 v_13 v_14 v_15 v_4r0 out_6r0=>
 bif (decide (v_15<v_14)) then
  bif ((decide (0≤v_15)) && (decide (v_15<(v_13.length:Int)))) then
  (z1 ⟨out_6r0⟩ (v_13.getD v_15.toNat (⟨0,⟨#[]⟩,⟨#[]⟩,⟨#[]⟩⟩:SAct))).bind fun r0=>
  bif (!r0.2) then
  some (⟨out_6r0⟩,v_15)
  else
  k (.c0 list_1 v_13 v_14 (w64 (v_15+1)) v_4r0 r0.1.fFiles)
  else none
 else
  some (⟨out_6r0⟩,(list_1.length:Int))
noncomputable def L_impl_DoActs:Nat→Ci→Option (SDisk×Int)
 | 0,_=>none
 | m+1,s=>B_impl_DoActs impl_copyDisk impl_DoAct (L_impl_DoActs m) s
noncomputable def impl_DoActs:Hf:=E_impl_DoActs impl_copyDisk impl_DoAct (L_impl_DoActs gas)
theorem Jr:Tells ctx PP 123 cv87 cv88 (fun a=>impl_DoActs a.1 a.2):=
 have b:∀ z0 z1,CutIs ctx PP 123 Tryz.f123 [] [(165,Jb z0),(166,P9 z1)] cv88 Q9 (B_impl_DoActs z0 z1):=fun z0 z1 _ s=>by cases s <;> kernel_rfl
 have e:∀ z0 z1,EntryIs ctx PP 123 [] [(165,Jb z0),(166,P9 z1)] cv87 cv88 Q9 (fun k a=>E_impl_DoActs z0 z1 k a.1 a.2):=fun z0 z1 _ a=>by kernel_rfl
 fn_ok (hc Gf (hc RAF hl_nil)) Tryz.func123 (fun s s' h=>by cases s;cases s';cases h;rfl) (fun _=>rfl) (fun _ _=>rfl) (b impl_copyDisk impl_DoAct) (e impl_copyDisk impl_DoAct) gas
noncomputable def Kr {γ:Type} (F:Hf):Hd ctx γ:=hdl cv87.dec (fun a=>F a.1 a.2) cv88.enc
abbrev Di:=SBook→Option Bool
inductive Ei where
 | c0 (v_6:(List SThing)) (v_7:Int) (v_8:Int) (b_1:SBook)
noncomputable def S9:Ei→LI
 | .c0 v_6 v_7 v_8 b_1=>(tdo Tryz.f167 104,[(1,[.one (.ptr 64 0)]),(6,[.one (.rsl 26 v_6)]),(7,[.one (.int .i64 v_7)]),(8,[.one (.int .i64 v_8)])],[(64,.var [.str b_1.fWord,.int .i64 b_1.fTries,.rsl 26 b_1.fThings,.int .i64 b_1.fLast,.str b_1.fChain,.int .i64 b_1.fCount])])
noncomputable def E_impl_BookOk (z0:Ae) (z1:CV) (k:Ei→Option Bool) (b_0:SBook):Option Bool:=
 k (.c0 b_0.fThings (b_0.fThings.length:Int) 0 b_0)
noncomputable def B_impl_BookOk (z0:Ae) (z1:CV) (k:Ei→Option Bool):Ei→Option Bool
 | .c0 v_6 v_7 v_8 b_1=>
 bif (decide (v_8<v_7)) then
  bif ((decide (0≤v_8)) && (decide (v_8<(v_6.length:Int)))) then
  (z0 (v_6.getD v_8.toNat (⟨0,0,false,false,false,false,⟨#[]⟩,0⟩:SThing))).bind fun r0=>
  bif (!r0) then
  some false
  else
  bif (decide ((v_6.getD v_8.toNat (⟨0,0,false,false,false,false,⟨#[]⟩,0⟩:SThing)).fId > b_1.fLast)) then
   some false
  else
   bif (decide (v_8 > 0)) then
   bif ((decide (0≤(w64 (v_8 - 1)))) && (decide ((w64 (v_8 - 1))<(b_1.fThings.length:Int)))) then
   bif (decide ((b_1.fThings.getD (w64 (v_8 - 1)).toNat (⟨0,0,false,false,false,false,⟨#[]⟩,0⟩:SThing)).fId≥(v_6.getD v_8.toNat (⟨0,0,false,false,false,false,⟨#[]⟩,0⟩:SThing)).fId)) then
    some false
   else
    k (.c0 v_6 v_7 (w64 (v_8+1)) b_1)
   else none
   else
   k (.c0 v_6 v_7 (w64 (v_8+1)) b_1)
  else none
 else
  bif ((b_1.fWord.size:Int) == 32) then
  bif ((b_1.fChain.size:Int) == 32) then
   (z1 b_1.fTries 0 3).bind fun r1=>
   bif r1 then
   bif (decide ((b_1.fThings.length:Int)≤8)) then
    (z1 b_1.fLast 0 1000).bind fun r2=>
    bif r2 then
    (z1 b_1.fCount 0 10000).bind fun r3=>
    some r3
    else
    some false
   else
    some false
   else
   some false
  else
   some false
  else
  some false
noncomputable def L_impl_BookOk:Nat→Ei→Option Bool
 | 0,_=>none
 | m+1,s=>B_impl_BookOk impl_ThingOk impl_in (L_impl_BookOk m) s
noncomputable def impl_BookOk:Di:=E_impl_BookOk impl_ThingOk impl_in (L_impl_BookOk gas)
theorem U9:Tells ctx PP 167 cv89 cv4 (fun a=>impl_BookOk a):=
 have b:∀ z0 z1,CutIs ctx PP 167 Tryz.f167 [] [(15,Wn z0),(36,OY z1)] cv4 S9 (B_impl_BookOk z0 z1):=fun z0 z1 _ s=>by cases s <;> kernel_rfl
 have e:∀ z0 z1,EntryIs ctx PP 167 [] [(15,Wn z0),(36,OY z1)] cv89 cv4 S9 (fun k a=>E_impl_BookOk z0 z1 k a):=fun z0 z1 _ a=>by kernel_rfl
 fn_ok (hc Xt (hc UY hl_nil)) Tryz.func167 (fun s s' h=>by cases s;cases s';(repeat cases ‹SBook›);cases h;rfl) (fun _=>rfl) (fun _ _=>rfl) (b impl_ThingOk impl_in) (e impl_ThingOk impl_in) gas
noncomputable def Ru {γ:Type} (F:Di):Hd ctx γ:=hdl cv89.dec (fun a=>F a) cv4.enc
abbrev Ed:=SBook→Option SBook
noncomputable def E_impl_copyBook (b_0:SBook):Option SBook:=
 bif (decide ((b_0.fThings.length*48)≤140737488355328)) then
 some b_0
 else none
noncomputable def impl_copyBook:Ed:=E_impl_copyBook
theorem Qr:Tells ctx PP 168 cv89 cv72 (fun a=>impl_copyBook a):=fn_ok0 hl_nil Tryz.func168 (fun a=>by kernel_rfl:EntryIs0 ctx PP 168 [] [] cv89 cv72 fun a=>E_impl_copyBook a)
noncomputable def Ul {γ:Type} (F:Ed):Hd ctx γ:=hdl cv89.dec (fun a=>F a) cv72.enc
abbrev Gi:=SBook→Int→Option Int
inductive Ii where
 | c0 (id_1:Int) (v_8:(List SThing)) (v_9:Int) (v_10:Int)
noncomputable def V9:Ii→LI
 | .c0 id_1 v_8 v_9 v_10=>(tdo Tryz.f170 104,[(1,[.one (.int .i64 id_1)]),(8,[.one (.rsl 26 v_8)]),(9,[.one (.int .i64 v_9)]),(10,[.one (.int .i64 v_10)])],[])
noncomputable def W9 (k:Ii→Option Int) (b_0:SBook) (id_1:Int):Option Int:=
 k (.c0 id_1 b_0.fThings (b_0.fThings.length:Int) 0)
noncomputable def B_impl_thingAt (k:Ii→Option Int):Ii→Option Int
 | .c0 id_1 v_8 v_9 v_10=>
 bif (decide (v_10<v_9)) then
  bif ((decide (0≤v_10)) && (decide (v_10<(v_8.length:Int)))) then
  bif ((v_8.getD v_10.toNat (⟨0,0,false,false,false,false,⟨#[]⟩,0⟩:SThing)).fId == id_1) then
  some v_10
  else
  k (.c0 id_1 v_8 v_9 (w64 (v_10+1)))
  else none
 else
  some (-(1:Int))
noncomputable def L_impl_thingAt:Nat→Ii→Option Int
 | 0,_=>none
 | m+1,s=>B_impl_thingAt (L_impl_thingAt m) s
noncomputable def impl_thingAt:Gi:=W9 (L_impl_thingAt gas)
theorem Uu:Tells ctx PP 170 cv90 cv1 (fun a=>impl_thingAt a.1 a.2):=
 have b:CutIs ctx PP 170 Tryz.f170 [] [] cv1 V9 (B_impl_thingAt):=fun _ s=>by cases s <;> kernel_rfl
 have e:EntryIs ctx PP 170 [] [] cv90 cv1 V9 (fun k a=>W9 k a.1 a.2):=fun _ a=>by kernel_rfl
 fn_ok hl_nil Tryz.func170 (fun s s' h=>by cases s;cases s';cases h;rfl) (fun _=>rfl) (fun _ _=>rfl) b e gas
noncomputable def Vu {γ:Type} (F:Gi):Hd ctx γ:=hdl cv90.dec (fun a=>F a.1 a.2) cv1.enc
abbrev Wu:=SThing→SThing→Option Bool
noncomputable def E_impl_follows (x_0:SThing) (y_1:SThing):Option Bool:=
 bif (y_1.fKind == x_0.fKind) then
 bif ((ByteArray.toList y_1.fValue) == (ByteArray.toList x_0.fValue)) then
  bif (y_1.fSigns == x_0.fSigns) then
  bif (y_1.fWraps == x_0.fWraps) then
   bif (decide (y_1.fNext≥x_0.fNext)) then
   bif y_1.fHidden then
    bif y_1.fFixed then
    some true
    else
    some (!x_0.fFixed)
   else
    bif (!x_0.fHidden) then
    bif y_1.fFixed then
     some true
    else
     some (!x_0.fFixed)
    else
    some false
   else
   some false
  else
   some false
  else
  some false
 else
  some false
 else
 some false
noncomputable def impl_follows:Wu:=E_impl_follows
theorem SAF:Tells ctx PP 211 cv91 cv4 (fun a=>impl_follows a.1 a.2):=fn_ok0 hl_nil Tryz.func211 (fun a=>by kernel_rfl:EntryIs0 ctx PP 211 [] [] cv91 cv4 fun a=>E_impl_follows a.1 a.2)
noncomputable def TAF {γ:Type} (F:Wu):Hd ctx γ:=hdl cv91.dec (fun a=>F a.1 a.2) cv4.enc
abbrev Xu:=SBook→SThing→Option (Bool×SBook)
noncomputable def E_impl_Book_thing (z0:Gi) (z1:Wu) (b_0:SBook) (x_1:SThing):Option (Bool×SBook):=
 (z0 b_0 x_1.fId).bind fun r0=>
 bif (decide (r0≥0)) then
 bif ((decide (0≤r0)) && (decide (r0<(b_0.fThings.length:Int)))) then
 (z1 (b_0.fThings.getD r0.toNat (⟨0,0,false,false,false,false,⟨#[]⟩,0⟩:SThing)) x_1).bind fun r1=>
 bif (!r1) then
  some (false,b_0)
 else
  bif ((decide (0≤r0)) && (decide (r0<(b_0.fThings.length:Int)))) then
  some (true,⟨b_0.fWord,b_0.fTries,(b_0.fThings.set r0.toNat x_1),b_0.fLast,b_0.fChain,b_0.fCount⟩)
  else none
 else none
 else
 bif (x_1.fId != (w64 (b_0.fLast+1))) then
  some (false,b_0)
 else
  bif (decide ((b_0.fThings.length:Int)≥8)) then
  some (false,b_0)
  else
  bif (decide (((b_0.fThings.length+1)*48)≤140737488355328)) then
  some (true,⟨b_0.fWord,b_0.fTries,(b_0.fThings++[x_1]),x_1.fId,b_0.fChain,b_0.fCount⟩)
  else none
noncomputable def impl_Book_thing:Xu:=E_impl_Book_thing impl_thingAt impl_follows
theorem UAF:Tells ctx PP 169 cv92 cv93 (fun a=>impl_Book_thing a.1 a.2):=fn_ok0 (hc Uu (hc SAF hl_nil)) Tryz.func169 ((fun z0 z1 a=>by kernel_rfl:∀ z0 z1,EntryIs0 ctx PP 169 [0] [(170,Vu z0),(211,TAF z1)] cv92 cv93 fun a=>E_impl_Book_thing z0 z1 a.1 a.2) impl_thingAt impl_follows)
noncomputable def VAF {γ:Type} (F:Xu):Hd ctx γ:=hdl cv92.dec (fun a=>F a.1 a.2) cv93.enc
abbrev Ji:=SBook→SRec→Option (SBook×Bool)
noncomputable def E_impl_Enter (z0:Nh) (z1:Di) (z2:Ed) (z3:Xu) (z4:Gi) (z5:IZ) (b_0:SBook) (r_1:SRec):Option (SBook×Bool):=
 (z0 r_1).bind fun r0=>
 (z1 b_0).bind fun r1=>
 bif (!r1) then
 some (⟨⟨#[]⟩,0,[],0,⟨#[]⟩,0⟩,false)
 else
 bif (!r0.2) then
  some (⟨⟨#[]⟩,0,[],0,⟨#[]⟩,0⟩,false)
 else
  bif (decide (b_0.fCount≥10000)) then
  some (⟨⟨#[]⟩,0,[],0,⟨#[]⟩,0⟩,false)
  else
  (z2 b_0).bind fun r2=>
  bif (r_1.fKind == 1) then
   bif (decide ((b_0.fChain.size+r0.1.size)≤9223372036854775807)) then
   (z5 (b_0.fChain++r0.1)).bind fun r3=>
   some (⟨r_1.fText,0,r2.fThings,r2.fLast,r3,(w64 (r2.fCount+1))⟩,true)
   else none
  else
   bif (r_1.fKind == 2) then
   bif (decide ((b_0.fChain.size+r0.1.size)≤9223372036854775807)) then
   (z5 (b_0.fChain++r0.1)).bind fun r4=>
   some (⟨r2.fWord,r_1.fNum,r2.fThings,r2.fLast,r4,(w64 (r2.fCount+1))⟩,true)
   else none
   else
   bif (r_1.fKind == 3) then
    (z3 r2 r_1.fThing).bind fun r5=>
    bif (!r5.1) then
    some (⟨⟨#[]⟩,0,[],0,⟨#[]⟩,0⟩,false)
    else
    bif (decide ((b_0.fChain.size+r0.1.size)≤9223372036854775807)) then
    (z5 (b_0.fChain++r0.1)).bind fun r6=>
    some (⟨r5.2.fWord,r5.2.fTries,r5.2.fThings,r5.2.fLast,r6,(w64 (r5.2.fCount+1))⟩,true)
    else none
   else
    bif (r_1.fKind == 4) then
    (z4 b_0 r_1.fNum).bind fun r7=>
    bif (decide (r7<0)) then
     some (⟨⟨#[]⟩,0,[],0,⟨#[]⟩,0⟩,false)
    else
     bif ((decide (0≤r7)) && (decide (r7≤(b_0.fThings.length:Int)))) then
     bif (decide ((((b_0.fThings.take r7.toNat).drop 0).length*48)≤140737488355328)) then
     bif ((decide (0≤(w64 (r7+1)))) && (decide ((w64 (r7+1))≤(b_0.fThings.length:Int)))) then
     bif (decide (((((b_0.fThings.take r7.toNat).drop 0).length+((b_0.fThings.take b_0.fThings.length).drop (w64 (r7+1)).toNat).length)*48)≤140737488355328)) then
     bif (decide ((b_0.fChain.size+r0.1.size)≤9223372036854775807)) then
     (z5 (b_0.fChain++r0.1)).bind fun r8=>
     some (⟨r2.fWord,r2.fTries,(((b_0.fThings.take r7.toNat).drop 0)++((b_0.fThings.take b_0.fThings.length).drop (w64 (r7+1)).toNat)),r2.fLast,r8,(w64 (r2.fCount+1))⟩,true)
     else none
     else none
     else none
     else none
     else none
    else
    bif (decide ((b_0.fChain.size+r0.1.size)≤9223372036854775807)) then
    (z5 (b_0.fChain++r0.1)).bind fun r9=>
    some (⟨r2.fWord,r2.fTries,r2.fThings,r2.fLast,r9,(w64 (r2.fCount+1))⟩,true)
    else none
noncomputable def impl_Enter:Ji:=E_impl_Enter impl_RecText impl_BookOk impl_copyBook impl_Book_thing impl_thingAt impl_DigestOf
theorem X9:Tells ctx PP 124 cv94 cv95 (fun a=>impl_Enter a.1 a.2):=fn_ok0 (hc Eu (hc U9 (hc Qr (hc UAF (hc Uu (hc Ba hl_nil)))))) Tryz.func124 ((fun z0 z1 z2 z3 z4 z5 a=>by kernel_rfl:∀ z0 z1 z2 z3 z4 z5,EntryIs0 ctx PP 124 [] [(162,Gu z0),(167,Ru z1),(168,Ul z2),(169,VAF z3),(170,Vu z4),(50,PZ z5)] cv94 cv95 fun a=>E_impl_Enter z0 z1 z2 z3 z4 z5 a.1 a.2) impl_RecText impl_BookOk impl_copyBook impl_Book_thing impl_thingAt impl_DigestOf)
noncomputable def Yu {γ:Type} (F:Ji):Hd ctx γ:=hdl cv94.dec (fun a=>F a.1 a.2) cv95.enc
abbrev Fg:=SBox→SRec→Option (Bool×SBox)
noncomputable def E_impl_Box_enter (z0:Nl) (z1:Hf) (z2:Ji) (b_0:SBox) (r_1:SRec):Option (Bool×SBox):=
 (z0 b_0.fKey b_0.fBook.fCount r_1).bind fun r0=>
 (z1 b_0.fDisk r0.1).bind fun r1=>
 (z2 b_0.fBook r_1).bind fun r2=>
 bif (!r0.2) then
 some (false,b_0)
 else
 bif (!r2.2) then
  some (false,b_0)
 else
  bif (decide (r1.2<(r0.1.length:Int))) then
  some (false,b_0)
  else
  some (true,⟨b_0.fKey,b_0.fUp,r1.1,r2.1,b_0.fSessions,b_0.fLives,b_0.fOpened⟩)
noncomputable def impl_Box_enter:Fg:=E_impl_Box_enter impl_BookActs impl_DoActs impl_Enter
theorem Y4:Tells ctx PP 86 cv96 cv97 (fun a=>impl_Box_enter a.1 a.2):=fn_ok0 (hc U1 (hc Jr (hc X9 hl_nil))) Tryz.func86 ((fun z0 z1 z2 a=>by kernel_rfl:∀ z0 z1 z2,EntryIs0 ctx PP 86 [0] [(122,Y2 z0),(123,Kr z1),(124,Yu z2)] cv96 cv97 fun a=>E_impl_Box_enter z0 z1 z2 a.1 a.2) impl_BookActs impl_DoActs impl_Enter)
noncomputable def Yr {γ:Type} (F:Fg):Hd ctx γ:=hdl cv96.dec (fun a=>F a.1 a.2) cv97.enc
abbrev Em:=ByteArray→ByteArray→Option (SBox×Bool)
noncomputable def E_impl_BoxNew (z0:Nb) (z1:IZ) (z2:Fg) (key_0:ByteArray) (word_1:ByteArray):Option (SBox×Bool):=
 bif ((key_0.size:Int) != 32) then
 some (⟨⟨#[]⟩,false,⟨[]⟩,⟨⟨#[]⟩,0,[],0,⟨#[]⟩,0⟩,[],[],0⟩,false)
 else
 bif (decide ((word_1.size:Int) > 20)) then
  some (⟨⟨#[]⟩,false,⟨[]⟩,⟨⟨#[]⟩,0,[],0,⟨#[]⟩,0⟩,[],[],0⟩,false)
 else
  z0.bind fun r0=>
  (z1 word_1).bind fun r1=>
  (z2 ⟨key_0,true,⟨[]⟩,r0,[],[],0⟩ ⟨1,r1,0,⟨0,0,false,false,false,false,⟨#[]⟩,0⟩⟩).bind fun r2=>
  some (r2.2,true)
noncomputable def impl_BoxNew:Em:=E_impl_BoxNew impl_BookNew impl_DigestOf impl_Box_enter
theorem RAD:Tells ctx PP 48 cv75 cv98 (fun a=>impl_BoxNew a.1 a.2):=fn_ok0 (hc Jl (hc Ba (hc Y4 hl_nil))) Tryz.func48 ((fun z0 z1 z2 a=>by kernel_rfl:∀ z0 z1 z2,EntryIs0 ctx PP 48 [] [(85,Jf z0),(50,PZ z1),(86,Yr z2)] cv75 cv98 fun a=>E_impl_BoxNew z0 z1 z2 a.1 a.2) impl_BookNew impl_DigestOf impl_Box_enter)
noncomputable def E5 {γ:Type} (F:Em):Hd ctx γ:=hdl cv75.dec (fun a=>F a.1 a.2) cv98.enc
abbrev Jo:=SCall→Option Bool
noncomputable def E_impl_CallOk (z0:CV) (c_0:SCall):Option Bool:=
 (z0 c_0.fOp 1 13).bind fun r0=>
 bif r0 then
 (z0 c_0.fSession 0 1000).bind fun r1=>
 bif r1 then
  (z0 c_0.fThing 0 1000).bind fun r2=>
  bif r2 then
  (z0 c_0.fKind 0 3).bind fun r3=>
  bif r3 then
   some (decide ((c_0.fText.size:Int)≤1000))
  else
   some false
  else
  some false
 else
  some false
 else
 some false
noncomputable def impl_CallOk:Jo:=E_impl_CallOk impl_in
theorem Y9:Tells ctx PP 87 cv99 cv4 (fun a=>impl_CallOk a):=fn_ok0 (hc UY hl_nil) Tryz.func87 ((fun z0 a=>by kernel_rfl:∀ z0,EntryIs0 ctx PP 87 [] [(36,OY z0)] cv99 cv4 fun a=>E_impl_CallOk z0 a) impl_in)
noncomputable def Z9 {γ:Type} (F:Jo):Hd ctx γ:=hdl cv99.dec (fun a=>F a) cv4.enc
abbrev Gm:=SEvent→Option Bool
noncomputable def E_impl_EventOk (z0:Jo) (e_0:SEvent):Option Bool:=
 (z0 e_0.fCall).bind fun r0=>
 bif r0 then
 some (decide ((e_0.fLeft.length:Int)≤30))
 else
 bif e_0.fRise then
  bif ((e_0.fCall.fOp == 0) && ((e_0.fCall.fSession == 0) && ((e_0.fCall.fThing == 0) && ((e_0.fCall.fKind == 0) && (((ByteArray.toList e_0.fCall.fText) == (ByteArray.toList ⟨#[]⟩)) && ((e_0.fCall.fHidden == false) && ((e_0.fCall.fFixed == false) && true))))))) then
  some (decide ((e_0.fLeft.length:Int)≤30))
  else
  some false
 else
  some false
noncomputable def impl_EventOk:Gm:=E_impl_EventOk impl_CallOk
theorem SAD:Tells ctx PP 49 cv100 cv4 (fun a=>impl_EventOk a):=fn_ok0 (hc Y9 hl_nil) Tryz.func49 ((fun z0 a=>by kernel_rfl:∀ z0,EntryIs0 ctx PP 49 [] [(87,Z9 z0)] cv100 cv4 fun a=>E_impl_EventOk z0 a) impl_CallOk)
noncomputable def F5 {γ:Type} (F:Gm):Hd ctx γ:=hdl cv100.dec (fun a=>F a) cv4.enc
abbrev Zu:=(List SThing)→(List SThing)→Option Bool
inductive Oi where
 | c0 (a_0:(List SThing)) (b_1:(List SThing)) (v_12:Int) (v_13:Int)
noncomputable def AAA:Oi→LI
 | .c0 a_0 b_1 v_12 v_13=>(tdo Tryz.f213 232,[(0,[.one (.rsl 26 a_0)]),(1,[.one (.rsl 26 b_1)]),(12,[.one (.int .i64 v_12)]),(13,[.one (.int .i64 v_13)])],[])
noncomputable def E_impl_sameThings (k:Oi→Option Bool) (a_0:(List SThing)) (b_1:(List SThing)):Option Bool:=
 bif ((a_0.length:Int) != (b_1.length:Int)) then
 some false
 else
 k (.c0 a_0 b_1 (a_0.length:Int) 0)
noncomputable def B_impl_sameThings (k:Oi→Option Bool):Oi→Option Bool
 | .c0 a_0 b_1 v_12 v_13=>
 bif (decide (v_13<v_12)) then
  bif ((decide (0≤v_13)) && (decide (v_13<(a_0.length:Int)))) then
  bif ((decide (0≤v_13)) && (decide (v_13<(b_1.length:Int)))) then
  bif (!(((a_0.getD v_13.toNat (⟨0,0,false,false,false,false,⟨#[]⟩,0⟩:SThing)).fId == (b_1.getD v_13.toNat (⟨0,0,false,false,false,false,⟨#[]⟩,0⟩:SThing)).fId) && (((a_0.getD v_13.toNat (⟨0,0,false,false,false,false,⟨#[]⟩,0⟩:SThing)).fKind == (b_1.getD v_13.toNat (⟨0,0,false,false,false,false,⟨#[]⟩,0⟩:SThing)).fKind) && (((a_0.getD v_13.toNat (⟨0,0,false,false,false,false,⟨#[]⟩,0⟩:SThing)).fHidden == (b_1.getD v_13.toNat (⟨0,0,false,false,false,false,⟨#[]⟩,0⟩:SThing)).fHidden) && (((a_0.getD v_13.toNat (⟨0,0,false,false,false,false,⟨#[]⟩,0⟩:SThing)).fFixed == (b_1.getD v_13.toNat (⟨0,0,false,false,false,false,⟨#[]⟩,0⟩:SThing)).fFixed) && (((a_0.getD v_13.toNat (⟨0,0,false,false,false,false,⟨#[]⟩,0⟩:SThing)).fSigns == (b_1.getD v_13.toNat (⟨0,0,false,false,false,false,⟨#[]⟩,0⟩:SThing)).fSigns) && (((a_0.getD v_13.toNat (⟨0,0,false,false,false,false,⟨#[]⟩,0⟩:SThing)).fWraps == (b_1.getD v_13.toNat (⟨0,0,false,false,false,false,⟨#[]⟩,0⟩:SThing)).fWraps) && (((ByteArray.toList (a_0.getD v_13.toNat (⟨0,0,false,false,false,false,⟨#[]⟩,0⟩:SThing)).fValue) == (ByteArray.toList (b_1.getD v_13.toNat (⟨0,0,false,false,false,false,⟨#[]⟩,0⟩:SThing)).fValue)) && (((a_0.getD v_13.toNat (⟨0,0,false,false,false,false,⟨#[]⟩,0⟩:SThing)).fNext == (b_1.getD v_13.toNat (⟨0,0,false,false,false,false,⟨#[]⟩,0⟩:SThing)).fNext) && true))))))))) then
  some false
  else
  k (.c0 a_0 b_1 v_12 (w64 (v_13+1)))
  else none
  else none
 else
  some true
noncomputable def L_impl_sameThings:Nat→Oi→Option Bool
 | 0,_=>none
 | m+1,s=>B_impl_sameThings (L_impl_sameThings m) s
noncomputable def impl_sameThings:Zu:=E_impl_sameThings (L_impl_sameThings gas)
theorem WAF:Tells ctx PP 213 cv101 cv4 (fun a=>impl_sameThings a.1 a.2):=
 have b:CutIs ctx PP 213 Tryz.f213 [] [] cv4 AAA (B_impl_sameThings):=fun _ s=>by cases s <;> kernel_rfl
 have e:EntryIs ctx PP 213 [] [] cv101 cv4 AAA (fun k a=>E_impl_sameThings k a.1 a.2):=fun _ a=>by kernel_rfl
 fn_ok hl_nil Tryz.func213 (fun s s' h=>by cases s;cases s';cases h;rfl) (fun _=>rfl) (fun _ _=>rfl) b e gas
noncomputable def XAF {γ:Type} (F:Zu):Hd ctx γ:=hdl cv101.dec (fun a=>F a.1 a.2) cv4.enc
abbrev Ko:=SBook→SBook→Option Bool
noncomputable def E_impl_sameBook (z0:Zu) (a_0:SBook) (b_1:SBook):Option Bool:=
 bif ((ByteArray.toList a_0.fWord) == (ByteArray.toList b_1.fWord)) then
 bif (a_0.fTries == b_1.fTries) then
  (z0 a_0.fThings b_1.fThings).bind fun r0=>
  bif r0 then
  bif (a_0.fLast == b_1.fLast) then
   bif ((ByteArray.toList a_0.fChain) == (ByteArray.toList b_1.fChain)) then
   some (a_0.fCount == b_1.fCount)
   else
   some false
  else
   some false
  else
  some false
 else
  some false
 else
 some false
noncomputable def impl_sameBook:Ko:=E_impl_sameBook impl_sameThings
theorem YAF:Tells ctx PP 174 cv102 cv4 (fun a=>impl_sameBook a.1 a.2):=fn_ok0 (hc WAF hl_nil) Tryz.func174 ((fun z0 a=>by kernel_rfl:∀ z0,EntryIs0 ctx PP 174 [] [(213,XAF z0)] cv102 cv4 fun a=>E_impl_sameBook z0 a.1 a.2) impl_sameThings)
noncomputable def BAA {γ:Type} (F:Ko):Hd ctx γ:=hdl cv102.dec (fun a=>F a.1 a.2) cv4.enc
abbrev Ol:=SDisk→ByteArray→Option (ByteArray×Bool)
noncomputable def E_impl_FileAt (z0:Ce) (d_0:SDisk) (name_1:ByteArray):Option (ByteArray×Bool):=
 (z0 d_0 name_1).bind fun r0=>
 bif (decide (r0<0)) then
 some (⟨#[]⟩,false)
 else
 bif ((decide (0≤r0)) && (decide (r0<(d_0.fFiles.length:Int)))) then
 some ((d_0.fFiles.getD r0.toNat (⟨⟨#[]⟩,⟨#[]⟩,0⟩:SFile)).fText,true)
 else none
noncomputable def impl_FileAt:Ol:=E_impl_FileAt impl_fileAt
theorem Y1:Tells ctx PP 140 cv82 cv28 (fun a=>impl_FileAt a.1 a.2):=fn_ok0 (hc Eo hl_nil) Tryz.func140 ((fun z0 a=>by kernel_rfl:∀ z0,EntryIs0 ctx PP 140 [] [(177,Ho z0)] cv82 cv28 fun a=>E_impl_FileAt z0 a.1 a.2) impl_fileAt)
noncomputable def J3 {γ:Type} (F:Ol):Hd ctx γ:=hdl cv82.dec (fun a=>F a.1 a.2) cv28.enc
abbrev Vb:=ByteArray→Int→Option (Int×Int×Bool)
inductive Qi where
 | c0 (text_0:ByteArray) (at_1:Int) (n_7:Int) (k_8:Int)
noncomputable def CAA:Qi→LI
 | .c0 text_0 at_1 n_7 k_8=>(tdo Tryz.f70 976,[(0,[.one (.str text_0)]),(1,[.one (.int .i64 at_1)]),(7,[.one (.int .i64 n_7)]),(8,[.one (.int .i64 k_8)])],[])
noncomputable def E_impl_ReadVar (z0:CV) (k:Qi→Option (Int×Int×Bool)) (text_0:ByteArray) (at_1:Int):Option (Int×Int×Bool):=
 (z0 at_1 0 (text_0.size:Int)).bind fun r0=>
 bif (!r0) then
 some (0,(0,false))
 else
 k (.c0 text_0 at_1 0 0)
noncomputable def B_impl_ReadVar (z0:CV) (k:Qi→Option (Int×Int×Bool)):Qi→Option (Int×Int×Bool)
 | .c0 text_0 at_1 n_7 k_8=>
 bif (decide (k_8<5)) then
  bif (decide ((w64 (at_1+k_8))<(text_0.size:Int))) then
  bif ((decide (0≤(w64 (at_1+k_8)))) && (decide ((w64 (at_1+k_8))<(text_0.size:Int)))) then
  bif (decide (0≤(w64 (7*k_8)))) then
  bif (decide ((w64 (bt text_0 (w64 (at_1+k_8))))<128)) then
   bif ((w64 (bt text_0 (w64 (at_1+k_8)))) == 0) then
   bif (decide (k_8 > 0)) then
    some (0,(0,false))
   else
    bif (decide ((w64 (n_7+(w64 (((w64 (bt text_0 (w64 (at_1+k_8)))).tmod 128)*(2 ^ (Min.min (w64 (7*k_8)).toNat (IntKind.bits IntKind.i64))))))) > 1000000000)) then
    some (0,(0,false))
    else
    some ((w64 (n_7+(w64 (((w64 (bt text_0 (w64 (at_1+k_8)))).tmod 128)*(2 ^ (Min.min (w64 (7*k_8)).toNat (IntKind.bits IntKind.i64))))))),((w64 ((w64 (at_1+k_8))+1)),true))
   else
   bif (decide ((w64 (n_7+(w64 (((w64 (bt text_0 (w64 (at_1+k_8)))).tmod 128)*(2 ^ (Min.min (w64 (7*k_8)).toNat (IntKind.bits IntKind.i64))))))) > 1000000000)) then
    some (0,(0,false))
   else
    some ((w64 (n_7+(w64 (((w64 (bt text_0 (w64 (at_1+k_8)))).tmod 128)*(2 ^ (Min.min (w64 (7*k_8)).toNat (IntKind.bits IntKind.i64))))))),((w64 ((w64 (at_1+k_8))+1)),true))
  else
   k (.c0 text_0 at_1 (w64 (n_7+(w64 (((w64 (bt text_0 (w64 (at_1+k_8)))).tmod 128)*(2 ^ (Min.min (w64 (7*k_8)).toNat (IntKind.bits IntKind.i64))))))) (w64 (k_8+1)))
  else none
  else none
  else
  some (0,(0,false))
 else
  some (0,(0,false))
noncomputable def L_impl_ReadVar:Nat→Qi→Option (Int×Int×Bool)
 | 0,_=>none
 | m+1,s=>B_impl_ReadVar impl_in (L_impl_ReadVar m) s
noncomputable def impl_ReadVar:Vb:=E_impl_ReadVar impl_in (L_impl_ReadVar gas)
theorem Oo:Tells ctx PP 70 cv10 cv60 (fun a=>impl_ReadVar a.1 a.2):=
 have b:∀ z0,CutIs ctx PP 70 Tryz.f70 [] [(36,OY z0)] cv60 CAA (B_impl_ReadVar z0):=fun z0 _ s=>by cases s <;> kernel_rfl
 have e:∀ z0,EntryIs ctx PP 70 [] [(36,OY z0)] cv10 cv60 CAA (fun k a=>E_impl_ReadVar z0 k a.1 a.2):=fun z0 _ a=>by kernel_rfl
 fn_ok (hc UY hl_nil) Tryz.func70 (fun s s' h=>by cases s;cases s';cases h;rfl) (fun _=>rfl) (fun _ _=>rfl) (b impl_in) (e impl_in) gas
noncomputable def Ri {γ:Type} (F:Vb):Hd ctx γ:=hdl cv10.dec (fun a=>F a.1 a.2) cv60.enc
abbrev Po:=ByteArray→Option ((List ByteArray)×Int)
inductive Si where
 | c0 (file_0:ByteArray) (at_5:Int) (out_4:(List ByteArray))
noncomputable def DAA:Si→LI
 | .c0 file_0 at_5 out_4=>(tdo Tryz.f190 496,[(0,[.one (.str file_0)]),(4,[.one (.own 304)]),(5,[.one (.int .i64 at_5)])],[(304,.sl 9 out_4)])
noncomputable def E_impl_Unframe (z0:Vb) (z1:CV) (z2:Vh) (z3:Xa) (k:Si→Option ((List ByteArray)×Int)) (file_0:ByteArray):Option ((List ByteArray)×Int):=
 bif (decide ((file_0.size:Int) > 20000)) then
 some ([],0)
 else
 k (.c0 file_0 0 [])
noncomputable def B_impl_Unframe (z0:Vb) (z1:CV) (z2:Vh) (z3:Xa) (k:Si→Option ((List ByteArray)×Int)):Si→Option ((List ByteArray)×Int)
 | .c0 file_0 at_5 out_4=>
 (z0 file_0 at_5).bind fun r0=>
 bif (!r0.2.2) then
  some (out_4,at_5)
 else
  (z1 r0.1 1 9000).bind fun r1=>
  bif (!r1) then
  some (out_4,at_5)
  else
  bif (decide (r0.1 > (w64 ((w64 ((file_0.size:Int) - r0.2.1)) - 4)))) then
   some (out_4,at_5)
  else
   bif (((decide (0≤(w64 (r0.2.1+4)))) && (decide ((w64 (r0.2.1+4))≤(w64 ((w64 (r0.2.1+4))+r0.1))))) && (decide ((w64 ((w64 (r0.2.1+4))+r0.1))≤(file_0.size:Int)))) then
   bif (((decide (0≤r0.2.1)) && (decide (r0.2.1≤(w64 (r0.2.1+4))))) && (decide ((w64 (r0.2.1+4))≤(file_0.size:Int)))) then
   (z2 (file_0.extract (w64 (r0.2.1+4)).toNat (w64 ((w64 (r0.2.1+4))+r0.1)).toNat)).bind fun r2=>
   (z3 r2).bind fun r3=>
   bif (!((ByteArray.toList (file_0.extract r0.2.1.toNat (w64 (r0.2.1+4)).toNat)) == (ByteArray.toList r3))) then
   some (out_4,at_5)
   else
   bif (decide (((out_4.length+1)*16)≤140737488355328)) then
   k (.c0 file_0 (w64 ((w64 (r0.2.1+4))+r0.1)) (out_4++[(file_0.extract (w64 (r0.2.1+4)).toNat (w64 ((w64 (r0.2.1+4))+r0.1)).toNat)]))
   else none
   else none
   else none
noncomputable def L_impl_Unframe:Nat→Si→Option ((List ByteArray)×Int)
 | 0,_=>none
 | m+1,s=>B_impl_Unframe impl_ReadVar impl_in impl_SumOf impl_fourBytes (L_impl_Unframe m) s
noncomputable def impl_Unframe:Po:=E_impl_Unframe impl_ReadVar impl_in impl_SumOf impl_fourBytes (L_impl_Unframe gas)
theorem ZAF:Tells ctx PP 190 cv8 cv103 (fun a=>impl_Unframe a):=
 have b:∀ z0 z1 z2 z3,CutIs ctx PP 190 Tryz.f190 [] [(70,Ri z0),(36,OY z1),(208,Lu z2),(127,Vd z3)] cv103 DAA (B_impl_Unframe z0 z1 z2 z3):=fun z0 z1 z2 z3 _ s=>by cases s <;> kernel_rfl
 have e:∀ z0 z1 z2 z3,EntryIs ctx PP 190 [] [(70,Ri z0),(36,OY z1),(208,Lu z2),(127,Vd z3)] cv8 cv103 DAA (fun k a=>E_impl_Unframe z0 z1 z2 z3 k a):=fun z0 z1 z2 z3 _ a=>by kernel_rfl
 fn_ok (hc Oo (hc UY (hc H9 (hc Qn hl_nil)))) Tryz.func190 (fun s s' h=>by cases s;cases s';cases h;rfl) (fun _=>rfl) (fun _ _=>rfl) (b impl_ReadVar impl_in impl_SumOf impl_fourBytes) (e impl_ReadVar impl_in impl_SumOf impl_fourBytes) gas
noncomputable def EAA {γ:Type} (F:Po):Hd ctx γ:=hdl cv8.dec (fun a=>F a) cv103.enc
abbrev Qo:=ByteArray→Int→ByteArray→Option (ByteArray×Bool)
noncomputable def E_impl_OpenText (z0:Yn) (z1:Bo) (z2:Zn) (key_0:ByteArray) (num_1:Int) (text_2:ByteArray):Option (ByteArray×Bool):=
 bif (decide ((w64 ((text_2.size:Int) - 16))<0)) then
 some (⟨#[]⟩,false)
 else
 (z0 key_0 num_1 (w64 ((text_2.size:Int) - 16))).bind fun r0=>
 bif (!r0.2) then
  some (⟨#[]⟩,false)
 else
  bif ((decide (0≤(w64 ((text_2.size:Int) - 16)))) && (decide ((w64 ((text_2.size:Int) - 16))≤(text_2.size:Int)))) then
  (z1 key_0 num_1 (text_2.extract 0 (w64 ((text_2.size:Int) - 16)).toNat)).bind fun r1=>
  bif ((decide (0≤(w64 ((text_2.size:Int) - 16)))) && (decide ((w64 ((text_2.size:Int) - 16))≤(text_2.size:Int)))) then
  bif (!((ByteArray.toList r1) == (ByteArray.toList (text_2.extract (w64 ((text_2.size:Int) - 16)).toNat text_2.size)))) then
  some (⟨#[]⟩,false)
  else
  bif ((decide (0≤(w64 ((text_2.size:Int) - 16)))) && (decide ((w64 ((text_2.size:Int) - 16))≤(text_2.size:Int)))) then
  (z2 (text_2.extract 0 (w64 ((text_2.size:Int) - 16)).toNat) r0.1).bind fun r2=>
  some (r2,true)
  else none
  else none
  else none
noncomputable def impl_OpenText:Qo:=E_impl_OpenText impl_Mask impl_tag impl_both
theorem AAG:Tells ctx PP 191 cv76 cv28 (fun a=>impl_OpenText a.1 a.2.1 a.2.2):=fn_ok0 (hc V8 (hc D9 (hc Z8 hl_nil))) Tryz.func191 ((fun z0 z1 z2 a=>by kernel_rfl:∀ z0 z1 z2,EntryIs0 ctx PP 191 [] [(205,X8 z0),(207,F9 z1),(206,C9 z2)] cv76 cv28 fun a=>E_impl_OpenText z0 z1 z2 a.1 a.2.1 a.2.2) impl_Mask impl_tag impl_both)
noncomputable def FAA {γ:Type} (F:Qo):Hd ctx γ:=hdl cv76.dec (fun a=>F a.1 a.2.1 a.2.2) cv28.enc
abbrev Bv:=SFields→Option (Int×SFields)
noncomputable def E_impl_fields_num (z0:Vb) (f_0:SFields):Option (Int×SFields):=
 (z0 f_0.fText f_0.fAt).bind fun r0=>
 bif (!r0.2.2) then
 some (0,⟨f_0.fText,f_0.fAt,true⟩)
 else
 some (r0.1,⟨f_0.fText,r0.2.1,f_0.fBad⟩)
noncomputable def impl_fields_num:Bv:=E_impl_fields_num impl_ReadVar
theorem BAG:Tells ctx PP 33 cv61 cv62 (fun a=>impl_fields_num a):=fn_ok0 (hc Oo hl_nil) Tryz.func33 ((fun z0 a=>by kernel_rfl:∀ z0,EntryIs0 ctx PP 33 [0] [(70,Ri z0)] cv61 cv62 fun a=>E_impl_fields_num z0 a) impl_ReadVar)
noncomputable def CAG {γ:Type} (F:Bv):Hd ctx γ:=hdl cv61.dec (fun a=>F a) cv62.enc
abbrev Dv:=ByteArray→Int→Option (ByteArray×Int×Bool)
noncomputable def E_impl_ReadShort (z0:Vb) (text_0:ByteArray) (at_1:Int):Option (ByteArray×Int×Bool):=
 (z0 text_0 at_1).bind fun r0=>
 bif (!r0.2.2) then
 some (⟨#[]⟩,(0,false))
 else
 bif (decide (r0.1 > 20000)) then
  some (⟨#[]⟩,(0,false))
 else
  bif (decide (r0.1 > (w64 ((text_0.size:Int) - r0.2.1)))) then
  some (⟨#[]⟩,(0,false))
  else
  bif (((decide (0≤r0.2.1)) && (decide (r0.2.1≤(w64 (r0.2.1+r0.1))))) && (decide ((w64 (r0.2.1+r0.1))≤(text_0.size:Int)))) then
  some ((text_0.extract r0.2.1.toNat (w64 (r0.2.1+r0.1)).toNat),((w64 (r0.2.1+r0.1)),true))
  else none
noncomputable def impl_ReadShort:Dv:=E_impl_ReadShort impl_ReadVar
theorem EAG:Tells ctx PP 71 cv10 cv46 (fun a=>impl_ReadShort a.1 a.2):=fn_ok0 (hc Oo hl_nil) Tryz.func71 ((fun z0 a=>by kernel_rfl:∀ z0,EntryIs0 ctx PP 71 [] [(70,Ri z0)] cv10 cv46 fun a=>E_impl_ReadShort z0 a.1 a.2) impl_ReadVar)
noncomputable def FAG {γ:Type} (F:Dv):Hd ctx γ:=hdl cv10.dec (fun a=>F a.1 a.2) cv46.enc
abbrev Fv:=SFields→Option (ByteArray×SFields)
noncomputable def E_impl_fields_short (z0:Dv) (f_0:SFields):Option (ByteArray×SFields):=
 (z0 f_0.fText f_0.fAt).bind fun r0=>
 bif (!r0.2.2) then
 some (⟨#[]⟩,⟨f_0.fText,f_0.fAt,true⟩)
 else
 some (r0.1,⟨f_0.fText,r0.2.1,f_0.fBad⟩)
noncomputable def impl_fields_short:Fv:=E_impl_fields_short impl_ReadShort
theorem GAG:Tells ctx PP 34 cv61 cv63 (fun a=>impl_fields_short a):=fn_ok0 (hc EAG hl_nil) Tryz.func34 ((fun z0 a=>by kernel_rfl:∀ z0,EntryIs0 ctx PP 34 [0] [(71,FAG z0)] cv61 cv63 fun a=>E_impl_fields_short z0 a) impl_ReadShort)
noncomputable def HAG {γ:Type} (F:Fv):Hd ctx γ:=hdl cv61.dec (fun a=>F a) cv63.enc
abbrev Gv:=ByteArray→Option (SThing×Bool)
noncomputable def E_impl_ReadThing (z0:Bv) (z1:Fv) (z2:Lh) (text_0:ByteArray):Option (SThing×Bool):=
 (z0 ⟨text_0,0,false⟩).bind fun r0=>
 (z0 r0.2).bind fun r1=>
 (z0 r1.2).bind fun r2=>
 (z1 r2.2).bind fun r3=>
 (z0 r3.2).bind fun r4=>
 (z2 ⟨r0.1,r1.1,((w64 (((BitVec.toNat ((BitVec.ofInt (IntKind.bits IntKind.i64) r2.1) &&& (BitVec.ofInt (IntKind.bits IntKind.i64) 1))):Nat):Int)) != 0),((w64 (((BitVec.toNat ((BitVec.ofInt (IntKind.bits IntKind.i64) r2.1) &&& (BitVec.ofInt (IntKind.bits IntKind.i64) 2))):Nat):Int)) != 0),((w64 (((BitVec.toNat ((BitVec.ofInt (IntKind.bits IntKind.i64) r2.1) &&& (BitVec.ofInt (IntKind.bits IntKind.i64) 4))):Nat):Int)) != 0),((w64 (((BitVec.toNat ((BitVec.ofInt (IntKind.bits IntKind.i64) r2.1) &&& (BitVec.ofInt (IntKind.bits IntKind.i64) 8))):Nat):Int)) != 0),r3.1,r4.1⟩).bind fun r5=>
 bif r4.2.fBad then
 some (⟨0,0,false,false,false,false,⟨#[]⟩,0⟩,false)
 else
 bif (!r5.2) then
  some (⟨0,0,false,false,false,false,⟨#[]⟩,0⟩,false)
 else
  bif (!((ByteArray.toList r5.1) == (ByteArray.toList text_0))) then
  some (⟨0,0,false,false,false,false,⟨#[]⟩,0⟩,false)
  else
  some (⟨r0.1,r1.1,((w64 (((BitVec.toNat ((BitVec.ofInt (IntKind.bits IntKind.i64) r2.1) &&& (BitVec.ofInt (IntKind.bits IntKind.i64) 1))):Nat):Int)) != 0),((w64 (((BitVec.toNat ((BitVec.ofInt (IntKind.bits IntKind.i64) r2.1) &&& (BitVec.ofInt (IntKind.bits IntKind.i64) 2))):Nat):Int)) != 0),((w64 (((BitVec.toNat ((BitVec.ofInt (IntKind.bits IntKind.i64) r2.1) &&& (BitVec.ofInt (IntKind.bits IntKind.i64) 4))):Nat):Int)) != 0),((w64 (((BitVec.toNat ((BitVec.ofInt (IntKind.bits IntKind.i64) r2.1) &&& (BitVec.ofInt (IntKind.bits IntKind.i64) 8))):Nat):Int)) != 0),r3.1,r4.1⟩,true)
noncomputable def impl_ReadThing:Gv:=E_impl_ReadThing impl_fields_num impl_fields_short impl_ThingText
theorem IAG:Tells ctx PP 13 cv8 cv64 (fun a=>impl_ReadThing a):=fn_ok0 (hc BAG (hc GAG (hc Au hl_nil))) Tryz.func13 ((fun z0 z1 z2 a=>by kernel_rfl:∀ z0 z1 z2,EntryIs0 ctx PP 13 [] [(33,CAG z0),(34,HAG z1),(12,Du z2)] cv8 cv64 fun a=>E_impl_ReadThing z0 z1 z2 a) impl_fields_num impl_fields_short impl_ThingText)
noncomputable def JAG {γ:Type} (F:Gv):Hd ctx γ:=hdl cv8.dec (fun a=>F a) cv64.enc
abbrev Ro:=ByteArray→Option (SRec×Bool)
noncomputable def E_impl_ReadRec (z0:Gv) (z1:Vb) (z2:Nh) (text_0:ByteArray):Option (SRec×Bool):=
 bif ((ByteArray.toList text_0) == (ByteArray.toList ⟨#[]⟩)) then
 some (⟨0,⟨#[]⟩,0,⟨0,0,false,false,false,false,⟨#[]⟩,0⟩⟩,false)
 else
 bif ((decide ((0:Int)≤(0:Int))) && (decide (0<(text_0.size:Int)))) then
 bif ((w64 (bt text_0 0)) == 1) then
  bif ((decide ((0:Int)≤(1:Int))) && (decide (1≤(text_0.size:Int)))) then
  (z2 ⟨(w64 (bt text_0 0)),(text_0.extract (1:Int).toNat text_0.size),0,⟨0,0,false,false,false,false,⟨#[]⟩,0⟩⟩).bind fun r0=>
  bif (!r0.2) then
  some (⟨0,⟨#[]⟩,0,⟨0,0,false,false,false,false,⟨#[]⟩,0⟩⟩,false)
  else
  bif (!((ByteArray.toList r0.1) == (ByteArray.toList text_0))) then
   some (⟨0,⟨#[]⟩,0,⟨0,0,false,false,false,false,⟨#[]⟩,0⟩⟩,false)
  else
   some (⟨(w64 (bt text_0 0)),(text_0.extract (1:Int).toNat text_0.size),0,⟨0,0,false,false,false,false,⟨#[]⟩,0⟩⟩,true)
  else none
 else
  bif ((w64 (bt text_0 0)) == 3) then
  bif ((decide ((0:Int)≤(1:Int))) && (decide (1≤(text_0.size:Int)))) then
  (z0 (text_0.extract (1:Int).toNat text_0.size)).bind fun r1=>
  (z2 ⟨(w64 (bt text_0 0)),⟨#[]⟩,0,r1.1⟩).bind fun r2=>
  bif (!r2.2) then
   some (⟨0,⟨#[]⟩,0,⟨0,0,false,false,false,false,⟨#[]⟩,0⟩⟩,false)
  else
   bif (!((ByteArray.toList r2.1) == (ByteArray.toList text_0))) then
   some (⟨0,⟨#[]⟩,0,⟨0,0,false,false,false,false,⟨#[]⟩,0⟩⟩,false)
   else
   some (⟨(w64 (bt text_0 0)),⟨#[]⟩,0,r1.1⟩,true)
  else none
  else
  (z1 text_0 1).bind fun r3=>
  (z2 ⟨(w64 (bt text_0 0)),⟨#[]⟩,r3.1,⟨0,0,false,false,false,false,⟨#[]⟩,0⟩⟩).bind fun r4=>
  bif (!r4.2) then
   some (⟨0,⟨#[]⟩,0,⟨0,0,false,false,false,false,⟨#[]⟩,0⟩⟩,false)
  else
   bif (!((ByteArray.toList r4.1) == (ByteArray.toList text_0))) then
   some (⟨0,⟨#[]⟩,0,⟨0,0,false,false,false,false,⟨#[]⟩,0⟩⟩,false)
   else
   some (⟨(w64 (bt text_0 0)),⟨#[]⟩,r3.1,⟨0,0,false,false,false,false,⟨#[]⟩,0⟩⟩,true)
 else none
noncomputable def impl_ReadRec:Ro:=E_impl_ReadRec impl_ReadThing impl_ReadVar impl_RecText
theorem KAG:Tells ctx PP 192 cv8 cv104 (fun a=>impl_ReadRec a):=fn_ok0 (hc IAG (hc Oo (hc Eu hl_nil))) Tryz.func192 ((fun z0 z1 z2 a=>by kernel_rfl:∀ z0 z1 z2,EntryIs0 ctx PP 192 [] [(13,JAG z0),(70,Ri z1),(162,Gu z2)] cv8 cv104 fun a=>E_impl_ReadRec z0 z1 z2 a) impl_ReadThing impl_ReadVar impl_RecText)
noncomputable def GAA {γ:Type} (F:Ro):Hd ctx γ:=hdl cv8.dec (fun a=>F a) cv104.enc
abbrev Ql:=ByteArray→ByteArray→Option ((List SRec)×Int)
inductive Ti where
 | c0 (key_0:ByteArray) (at_9:Int) (v_24:Int) (v_25:Int) (out_8:(List SRec)) (v_23:(List ByteArray))
noncomputable def HAA:Ti→LI
 | .c0 key_0 at_9 v_24 v_25 out_8 v_23=>(tdo Tryz.f141 1000,[(0,[.one (.str key_0)]),(8,[.one (.own 560)]),(9,[.one (.int .i64 at_9)]),(23,[.one (.own 1520)]),(24,[.one (.int .i64 v_24)]),(25,[.one (.int .i64 v_25)])],[(560,.sl 99 out_8),(1520,.sl 9 v_23)])
noncomputable def E_impl_ReadBook (z0:Po) (z1:Qo) (z2:Ro) (z3:Wh) (k:Ti→Option ((List SRec)×Int)) (key_0:ByteArray) (file_1:ByteArray):Option ((List SRec)×Int):=
 (z0 file_1).bind fun r0=>
 k (.c0 key_0 0 (r0.1.length:Int) 0 [] r0.1)
noncomputable def B_impl_ReadBook (z0:Po) (z1:Qo) (z2:Ro) (z3:Wh) (k:Ti→Option ((List SRec)×Int)):Ti→Option ((List SRec)×Int)
 | .c0 key_0 at_9 v_24 v_25 out_8 v_23=>
 bif (decide (v_25<v_24)) then
  bif ((decide (0≤v_25)) && (decide (v_25<(v_23.length:Int)))) then
  (z1 key_0 (w64 (v_25+1)) (v_23.getD v_25.toNat (⟨#[]⟩:ByteArray))).bind fun r0=>
  (z2 r0.1).bind fun r1=>
  bif (!r0.2) then
  some (out_8,at_9)
  else
  bif (!r1.2) then
   some (out_8,at_9)
  else
   bif (decide (((out_8.length+1)*80)≤140737488355328)) then
   (z3 (v_23.getD v_25.toNat (⟨#[]⟩:ByteArray))).bind fun r2=>
   k (.c0 key_0 (w64 (at_9+(r2.1.size:Int))) v_24 (w64 (v_25+1)) (out_8++[r1.1]) v_23)
   else none
  else none
 else
  some (out_8,at_9)
noncomputable def L_impl_ReadBook:Nat→Ti→Option ((List SRec)×Int)
 | 0,_=>none
 | m+1,s=>B_impl_ReadBook impl_Unframe impl_OpenText impl_ReadRec impl_Frame (L_impl_ReadBook m) s
noncomputable def impl_ReadBook:Ql:=E_impl_ReadBook impl_Unframe impl_OpenText impl_ReadRec impl_Frame (L_impl_ReadBook gas)
theorem U2:Tells ctx PP 141 cv75 cv105 (fun a=>impl_ReadBook a.1 a.2):=
 have b:∀ z0 z1 z2 z3,CutIs ctx PP 141 Tryz.f141 [] [(190,EAA z0),(191,FAA z1),(192,GAA z2),(164,Nu z3)] cv105 HAA (B_impl_ReadBook z0 z1 z2 z3):=fun z0 z1 z2 z3 _ s=>by cases s <;> kernel_rfl
 have e:∀ z0 z1 z2 z3,EntryIs ctx PP 141 [] [(190,EAA z0),(191,FAA z1),(192,GAA z2),(164,Nu z3)] cv75 cv105 HAA (fun k a=>E_impl_ReadBook z0 z1 z2 z3 k a.1 a.2):=fun z0 z1 z2 z3 _ a=>by kernel_rfl
 fn_ok (hc ZAF (hc AAG (hc KAG (hc I9 hl_nil)))) Tryz.func141 (fun s s' h=>by cases s;cases s';cases h;rfl) (fun _=>rfl) (fun _ _=>rfl) (b impl_Unframe impl_OpenText impl_ReadRec impl_Frame) (e impl_Unframe impl_OpenText impl_ReadRec impl_Frame) gas
noncomputable def O3 {γ:Type} (F:Ql):Hd ctx γ:=hdl cv75.dec (fun a=>F a.1 a.2) cv105.enc
abbrev Jv:=SBook→(List SRec)→Option (SBook×Bool)
inductive Ui where
 | c0 (v_13:(List SRec)) (v_14:Int) (v_15:Int) (v_4c0:ByteArray) (v_4c1:Int) (v_4c3:Int) (v_4c4:ByteArray) (v_4c5:Int) (out_6c0:ByteArray) (out_6c1:Int) (out_6c3:Int) (out_6c4:ByteArray) (out_6c5:Int) (v_4r2:(List SThing)) (out_6r2:(List SThing))
noncomputable def IAA:Ui→LI
 | .c0 v_13 v_14 v_15 v_4c0 v_4c1 v_4c3 v_4c4 v_4c5 out_6c0 out_6c1 out_6c3 out_6c4 out_6c5 v_4r2 out_6r2=>(tdo Tryz.f176 232,[(4,[.one (.ptr 256 0)]),(6,[.one (.ptr 384 0)]),(13,[.one (.rsl 99 v_13)]),(14,[.one (.int .i64 v_14)]),(15,[.one (.int .i64 v_15)])],[(256,.var [.str v_4c0,.int .i64 v_4c1,.own 1016386,.int .i64 v_4c3,.str v_4c4,.int .i64 v_4c5]),(384,.var [.str out_6c0,.int .i64 out_6c1,.own 1024578,.int .i64 out_6c3,.str out_6c4,.int .i64 out_6c5]),(1016386,.sl 26 v_4r2),(1024578,.sl 26 out_6r2)])
noncomputable def E_impl_EnterAll (z0:Ed) (z1:Ji) (k:Ui→Option (SBook×Bool)) (b_0:SBook) (list_1:(List SRec)):Option (SBook×Bool):=
 (z0 b_0).bind fun r0=>
 k (.c0 list_1 (list_1.length:Int) 0 ⟨#[]⟩ 0 0 ⟨#[]⟩ 0 r0.fWord r0.fTries r0.fLast r0.fChain r0.fCount [] r0.fThings)
noncomputable def B_impl_EnterAll (z0:Ed) (z1:Ji) (k:Ui→Option (SBook×Bool)):Ui→Option (SBook×Bool)
 | .c0 v_13 v_14 v_15 v_4c0 v_4c1 v_4c3 v_4c4 v_4c5 out_6c0 out_6c1 out_6c3 out_6c4 out_6c5 v_4r2 out_6r2=>
 bif (decide (v_15<v_14)) then
  bif ((decide (0≤v_15)) && (decide (v_15<(v_13.length:Int)))) then
  (z1 ⟨out_6c0,out_6c1,out_6r2,out_6c3,out_6c4,out_6c5⟩ (v_13.getD v_15.toNat (⟨0,⟨#[]⟩,0,⟨0,0,false,false,false,false,⟨#[]⟩,0⟩⟩:SRec))).bind fun r0=>
  bif (!r0.2) then
  some (⟨⟨#[]⟩,0,[],0,⟨#[]⟩,0⟩,false)
  else
  k (.c0 v_13 v_14 (w64 (v_15+1)) v_4c0 v_4c1 v_4c3 v_4c4 v_4c5 r0.1.fWord r0.1.fTries r0.1.fLast r0.1.fChain r0.1.fCount v_4r2 r0.1.fThings)
  else none
 else
  some (⟨out_6c0,out_6c1,out_6r2,out_6c3,out_6c4,out_6c5⟩,true)
noncomputable def L_impl_EnterAll:Nat→Ui→Option (SBook×Bool)
 | 0,_=>none
 | m+1,s=>B_impl_EnterAll impl_copyBook impl_Enter (L_impl_EnterAll m) s
noncomputable def impl_EnterAll:Jv:=E_impl_EnterAll impl_copyBook impl_Enter (L_impl_EnterAll gas)
theorem LAG:Tells ctx PP 176 cv106 cv95 (fun a=>impl_EnterAll a.1 a.2):=
 have b:∀ z0 z1,CutIs ctx PP 176 Tryz.f176 [] [(168,Ul z0),(124,Yu z1)] cv95 IAA (B_impl_EnterAll z0 z1):=fun z0 z1 _ s=>by cases s <;> kernel_rfl
 have e:∀ z0 z1,EntryIs ctx PP 176 [] [(168,Ul z0),(124,Yu z1)] cv106 cv95 IAA (fun k a=>E_impl_EnterAll z0 z1 k a.1 a.2):=fun z0 z1 _ a=>by kernel_rfl
 fn_ok (hc Qr (hc X9 hl_nil)) Tryz.func176 (fun s s' h=>by cases s;cases s';cases h;rfl) (fun _=>rfl) (fun _ _=>rfl) (b impl_copyBook impl_Enter) (e impl_copyBook impl_Enter) gas
noncomputable def MAG {γ:Type} (F:Jv):Hd ctx γ:=hdl cv106.dec (fun a=>F a.1 a.2) cv95.enc
abbrev Wi:=ByteArray→SDisk→Option (SBook×(List SAct)×Bool)
noncomputable def E_impl_Mount (z0:Ol) (z1:Ql) (z2:Nb) (z3:Jv) (z4:La) (z5:Ce) (key_0:ByteArray) (d_1:SDisk):Option (SBook×(List SAct)×Bool):=
 (z0 d_1 ⟨#[98,111,111,107]⟩).bind fun r0=>
 (z1 key_0 r0.1).bind fun r1=>
 z2.bind fun r2=>
 (z3 r2 r1.1).bind fun r3=>
 (z4 d_1).bind fun r4=>
 bif (!r4) then
 some (⟨⟨#[]⟩,0,[],0,⟨#[]⟩,0⟩,([],false))
 else
 bif (!r3.2) then
  some (⟨⟨#[]⟩,0,[],0,⟨#[]⟩,0⟩,([],false))
 else
  (z5 d_1 ⟨#[98,111,111,107,43]⟩).bind fun r5=>
  bif (decide (r5≥0)) then
  bif (r1.2 == (r0.1.size:Int)) then
   some (r3.1,([⟨4,⟨#[98,111,111,107,43]⟩,⟨#[]⟩,⟨#[]⟩⟩],true))
  else
   bif ((decide (0≤r1.2)) && (decide (r1.2≤(r0.1.size:Int)))) then
   some (r3.1,(([(⟨4,⟨#[98,111,111,107,43]⟩,⟨#[]⟩,⟨#[]⟩⟩:SAct)]++[(⟨1,⟨#[98,111,111,107,43]⟩,(r0.1.extract 0 r1.2.toNat),⟨#[]⟩⟩:SAct),(⟨2,⟨#[98,111,111,107,43]⟩,⟨#[]⟩,⟨#[]⟩⟩:SAct),(⟨3,⟨#[98,111,111,107,43]⟩,⟨#[]⟩,⟨#[98,111,111,107]⟩⟩:SAct)]),true))
   else none
  else
  bif (r1.2 == (r0.1.size:Int)) then
   some (r3.1,([],true))
  else
   bif ((decide (0≤r1.2)) && (decide (r1.2≤(r0.1.size:Int)))) then
   some (r3.1,([⟨1,⟨#[98,111,111,107,43]⟩,(r0.1.extract 0 r1.2.toNat),⟨#[]⟩⟩,⟨2,⟨#[98,111,111,107,43]⟩,⟨#[]⟩,⟨#[]⟩⟩,⟨3,⟨#[98,111,111,107,43]⟩,⟨#[]⟩,⟨#[98,111,111,107]⟩⟩],true))
   else none
noncomputable def impl_Mount:Wi:=E_impl_Mount impl_FileAt impl_ReadBook impl_BookNew impl_EnterAll impl_DiskOk impl_fileAt
theorem JAA:Tells ctx PP 129 cv107 cv108 (fun a=>impl_Mount a.1 a.2):=fn_ok0 (hc Y1 (hc U2 (hc Jl (hc LAG (hc Il (hc Eo hl_nil)))))) Tryz.func129 ((fun z0 z1 z2 z3 z4 z5 a=>by kernel_rfl:∀ z0 z1 z2 z3 z4 z5,EntryIs0 ctx PP 129 [] [(140,J3 z0),(141,O3 z1),(85,Jf z2),(176,MAG z3),(173,Ad z4),(177,Ho z5)] cv107 cv108 fun a=>E_impl_Mount z0 z1 z2 z3 z4 z5 a.1 a.2) impl_FileAt impl_ReadBook impl_BookNew impl_EnterAll impl_DiskOk impl_fileAt)
noncomputable def Kv {γ:Type} (F:Wi):Hd ctx γ:=hdl cv107.dec (fun a=>F a.1 a.2) cv108.enc
abbrev Oa:=SBook→Int→Option (SThing×Bool)
noncomputable def E_impl_ThingOf (z0:Gi) (b_0:SBook) (id_1:Int):Option (SThing×Bool):=
 (z0 b_0 id_1).bind fun r0=>
 bif (decide (r0<0)) then
 some (⟨0,0,false,false,false,false,⟨#[]⟩,0⟩,false)
 else
 bif ((decide (0≤r0)) && (decide (r0<(b_0.fThings.length:Int)))) then
 some ((b_0.fThings.getD r0.toNat (⟨0,0,false,false,false,false,⟨#[]⟩,0⟩:SThing)),true)
 else none
noncomputable def impl_ThingOf:Oa:=E_impl_ThingOf impl_thingAt
theorem Yl:Tells ctx PP 136 cv90 cv64 (fun a=>impl_ThingOf a.1 a.2):=fn_ok0 (hc Uu hl_nil) Tryz.func136 ((fun z0 a=>by kernel_rfl:∀ z0,EntryIs0 ctx PP 136 [] [(170,Vu z0)] cv90 cv64 fun a=>E_impl_ThingOf z0 a.1 a.2) impl_thingAt)
noncomputable def Jd {γ:Type} (F:Oa):Hd ctx γ:=hdl cv90.dec (fun a=>F a.1 a.2) cv64.enc
abbrev Uo:=SBox→Option Bool
inductive Xi where
 | c0 (v_8:(List SLive)) (v_9:Int) (v_10:Int) (b_1:SBox)
noncomputable def KAA:Xi→LI
 | .c0 v_8 v_9 v_10 b_1=>(tdo Tryz.f175 104,[(1,[.one (.ptr 64 0)]),(8,[.one (.rsl 186 v_8)]),(9,[.one (.int .i64 v_9)]),(10,[.one (.int .i64 v_10)])],[(64,.var [.str b_1.fKey,.bool b_1.fUp,.rsl 223 b_1.fDisk.fFiles,.str b_1.fBook.fWord,.int .i64 b_1.fBook.fTries,.rsl 26 b_1.fBook.fThings,.int .i64 b_1.fBook.fLast,.str b_1.fBook.fChain,.int .i64 b_1.fBook.fCount,.rsl 176 b_1.fSessions,.rsl 186 b_1.fLives,.int .i64 b_1.fOpened])])
noncomputable def E_impl_livesOk (z0:Oa) (z1:CV) (k:Xi→Option Bool) (b_0:SBox):Option Bool:=
 k (.c0 b_0.fLives (b_0.fLives.length:Int) 0 b_0)
noncomputable def B_impl_livesOk (z0:Oa) (z1:CV) (k:Xi→Option Bool):Xi→Option Bool
 | .c0 v_8 v_9 v_10 b_1=>
 bif (decide (v_10<v_9)) then
  bif ((decide (0≤v_10)) && (decide (v_10<(v_8.length:Int)))) then
  (z0 b_1.fBook (v_8.getD v_10.toNat (⟨0,0⟩:SLive)).fId).bind fun r0=>
  bif (!r0.2) then
  some false
  else
  bif (r0.1.fKind != 2) then
   some false
  else
   (z1 (v_8.getD v_10.toNat (⟨0,0⟩:SLive)).fNext 0 r0.1.fNext).bind fun r1=>
   bif (!r1) then
   some false
   else
   bif (decide (v_10 > 0)) then
    bif ((decide (0≤(w64 (v_10 - 1)))) && (decide ((w64 (v_10 - 1))<(b_1.fLives.length:Int)))) then
    bif (decide ((b_1.fLives.getD (w64 (v_10 - 1)).toNat (⟨0,0⟩:SLive)).fId≥(v_8.getD v_10.toNat (⟨0,0⟩:SLive)).fId)) then
    some false
    else
    k (.c0 v_8 v_9 (w64 (v_10+1)) b_1)
    else none
   else
    k (.c0 v_8 v_9 (w64 (v_10+1)) b_1)
  else none
 else
  some true
noncomputable def L_impl_livesOk:Nat→Xi→Option Bool
 | 0,_=>none
 | m+1,s=>B_impl_livesOk impl_ThingOf impl_in (L_impl_livesOk m) s
noncomputable def impl_livesOk:Uo:=E_impl_livesOk impl_ThingOf impl_in (L_impl_livesOk gas)
theorem NAG:Tells ctx PP 175 cv109 cv4 (fun a=>impl_livesOk a):=
 have b:∀ z0 z1,CutIs ctx PP 175 Tryz.f175 [] [(136,Jd z0),(36,OY z1)] cv4 KAA (B_impl_livesOk z0 z1):=fun z0 z1 _ s=>by cases s <;> kernel_rfl
 have e:∀ z0 z1,EntryIs ctx PP 175 [] [(136,Jd z0),(36,OY z1)] cv109 cv4 KAA (fun k a=>E_impl_livesOk z0 z1 k a):=fun z0 z1 _ a=>by kernel_rfl
 fn_ok (hc Yl (hc UY hl_nil)) Tryz.func175 (fun s s' h=>by cases s;cases s';(repeat cases ‹SBox›);(repeat cases ‹SDisk›);(repeat cases ‹SBook›);cases h;rfl) (fun _=>rfl) (fun _ _=>rfl) (b impl_ThingOf impl_in) (e impl_ThingOf impl_in) gas
noncomputable def LAA {γ:Type} (F:Uo):Hd ctx γ:=hdl cv109.dec (fun a=>F a) cv4.enc
abbrev Vo:=SBox→Option Bool
inductive Yi where
 | c0 (v_44:(List SSession)) (v_45:Int) (v_46:Int) (b_1:SBox)
noncomputable def MAA:Yi→LI
 | .c0 v_44 v_45 v_46 b_1=>(tdo Tryz.f128 488,[(1,[.one (.ptr 64 0)]),(44,[.one (.rsl 176 v_44)]),(45,[.one (.int .i64 v_45)]),(46,[.one (.int .i64 v_46)])],[(64,.var [.str b_1.fKey,.bool b_1.fUp,.rsl 223 b_1.fDisk.fFiles,.str b_1.fBook.fWord,.int .i64 b_1.fBook.fTries,.rsl 26 b_1.fBook.fThings,.int .i64 b_1.fBook.fLast,.str b_1.fBook.fChain,.int .i64 b_1.fBook.fCount,.rsl 176 b_1.fSessions,.rsl 186 b_1.fLives,.int .i64 b_1.fOpened])])
noncomputable def E_impl_BoxOk (z0:La) (z1:CV) (z2:Nb) (z3:Ko) (z4:Wi) (z5:Di) (z6:Uo) (k:Yi→Option Bool) (b_0:SBox):Option Bool:=
 bif ((b_0.fKey.size:Int) != 32) then
 some false
 else
 (z0 b_0.fDisk).bind fun r0=>
 bif (!r0) then
  some false
 else
  (z1 b_0.fOpened 0 1000).bind fun r1=>
  bif (!r1) then
  some false
  else
  bif (!b_0.fUp) then
   bif ((b_0.fSessions.length:Int) == 0) then
   bif ((b_0.fLives.length:Int) == 0) then
    z2.bind fun r2=>
    (z3 b_0.fBook r2).bind fun r3=>
    some r3
   else
    some false
   else
   some false
  else
   k (.c0 b_0.fSessions (b_0.fSessions.length:Int) 0 b_0)
noncomputable def B_impl_BoxOk (z0:La) (z1:CV) (z2:Nb) (z3:Ko) (z4:Wi) (z5:Di) (z6:Uo) (k:Yi→Option Bool):Yi→Option Bool
 | .c0 v_44 v_45 v_46 b_1=>
 bif (decide (v_46<v_45)) then
  bif ((decide (0≤v_46)) && (decide (v_46<(v_44.length:Int)))) then
  bif (decide (v_46≥3)) then
  some false
  else
  (z1 (v_44.getD v_46.toNat (⟨0,false⟩:SSession)).fId 1 b_1.fOpened).bind fun r0=>
  bif (!r0) then
   some false
  else
   bif (decide (v_46 > 0)) then
   bif ((decide (0≤(w64 (v_46 - 1)))) && (decide ((w64 (v_46 - 1))<(b_1.fSessions.length:Int)))) then
   bif (decide ((b_1.fSessions.getD (w64 (v_46 - 1)).toNat (⟨0,false⟩:SSession)).fId≥(v_44.getD v_46.toNat (⟨0,false⟩:SSession)).fId)) then
    some false
   else
    k (.c0 v_44 v_45 (w64 (v_46+1)) b_1)
   else none
   else
   k (.c0 v_44 v_45 (w64 (v_46+1)) b_1)
  else none
 else
  (z4 b_1.fKey b_1.fDisk).bind fun r1=>
  (z5 b_1.fBook).bind fun r2=>
  bif r2 then
  bif r1.2.2 then
   bif ((r1.2.1.length:Int) == 0) then
   (z3 r1.1 b_1.fBook).bind fun r3=>
   bif r3 then
    (z6 b_1).bind fun r4=>
    some r4
   else
    some false
   else
   some false
  else
   some false
  else
  some false
noncomputable def L_impl_BoxOk:Nat→Yi→Option Bool
 | 0,_=>none
 | m+1,s=>B_impl_BoxOk impl_DiskOk impl_in impl_BookNew impl_sameBook impl_Mount impl_BookOk impl_livesOk (L_impl_BoxOk m) s
noncomputable def impl_BoxOk:Vo:=E_impl_BoxOk impl_DiskOk impl_in impl_BookNew impl_sameBook impl_Mount impl_BookOk impl_livesOk (L_impl_BoxOk gas)
theorem NAA:Tells ctx PP 128 cv109 cv4 (fun a=>impl_BoxOk a):=
 have b:∀ z0 z1 z2 z3 z4 z5 z6,CutIs ctx PP 128 Tryz.f128 [] [(173,Ad z0),(36,OY z1),(85,Jf z2),(174,BAA z3),(129,Kv z4),(167,Ru z5),(175,LAA z6)] cv4 MAA (B_impl_BoxOk z0 z1 z2 z3 z4 z5 z6):=fun z0 z1 z2 z3 z4 z5 z6 _ s=>by cases s <;> kernel_rfl
 have e:∀ z0 z1 z2 z3 z4 z5 z6,EntryIs ctx PP 128 [] [(173,Ad z0),(36,OY z1),(85,Jf z2),(174,BAA z3),(129,Kv z4),(167,Ru z5),(175,LAA z6)] cv109 cv4 MAA (fun k a=>E_impl_BoxOk z0 z1 z2 z3 z4 z5 z6 k a):=fun z0 z1 z2 z3 z4 z5 z6 _ a=>by kernel_rfl
 fn_ok (hc Il (hc UY (hc Jl (hc YAF (hc JAA (hc U9 (hc NAG hl_nil))))))) Tryz.func128 (fun s s' h=>by cases s;cases s';(repeat cases ‹SBox›);(repeat cases ‹SDisk›);(repeat cases ‹SBook›);cases h;rfl) (fun _=>rfl) (fun _ _=>rfl) (b impl_DiskOk impl_in impl_BookNew impl_sameBook impl_Mount impl_BookOk impl_livesOk) (e impl_DiskOk impl_in impl_BookNew impl_sameBook impl_Mount impl_BookOk impl_livesOk) gas
noncomputable def OAA {γ:Type} (F:Vo):Hd ctx γ:=hdl cv109.dec (fun a=>F a) cv4.enc
abbrev Nv:=SBox→Option (SBox×Bool)
noncomputable def E_impl_Rise (z0:Vo) (z1:Wi) (z2:Hf) (b_0:SBox):Option (SBox×Bool):=
 bif b_0.fUp then
 some (⟨⟨#[]⟩,false,⟨[]⟩,⟨⟨#[]⟩,0,[],0,⟨#[]⟩,0⟩,[],[],0⟩,false)
 else
 (z0 b_0).bind fun r0=>
 bif (!r0) then
  some (⟨⟨#[]⟩,false,⟨[]⟩,⟨⟨#[]⟩,0,[],0,⟨#[]⟩,0⟩,[],[],0⟩,false)
 else
  (z1 b_0.fKey b_0.fDisk).bind fun r1=>
  (z2 b_0.fDisk r1.2.1).bind fun r2=>
  bif (!r1.2.2) then
  some (⟨⟨#[]⟩,false,⟨[]⟩,⟨⟨#[]⟩,0,[],0,⟨#[]⟩,0⟩,[],[],0⟩,false)
  else
  bif (decide (r2.2<(r1.2.1.length:Int))) then
   some (⟨⟨#[]⟩,false,⟨[]⟩,⟨⟨#[]⟩,0,[],0,⟨#[]⟩,0⟩,[],[],0⟩,false)
  else
   some (⟨b_0.fKey,true,r2.1,r1.1,[],[],0⟩,true)
noncomputable def impl_Rise:Nv:=E_impl_Rise impl_BoxOk impl_Mount impl_DoActs
theorem OAG:Tells ctx PP 92 cv109 cv98 (fun a=>impl_Rise a):=fn_ok0 (hc NAA (hc JAA (hc Jr hl_nil))) Tryz.func92 ((fun z0 z1 z2 a=>by kernel_rfl:∀ z0 z1 z2,EntryIs0 ctx PP 92 [] [(128,OAA z0),(129,Kv z1),(123,Kr z2)] cv109 cv98 fun a=>E_impl_Rise z0 z1 z2 a) impl_BoxOk impl_Mount impl_DoActs)
noncomputable def PAG {γ:Type} (F:Nv):Hd ctx γ:=hdl cv109.dec (fun a=>F a) cv98.enc
abbrev Bd:=SLife→Int→ByteArray→Option SLife
noncomputable def E_impl_Life_tell (l_0:SLife) (code_1:Int) (reply_2:ByteArray):Option SLife:=
 bif (decide (((l_0.fCodes.length+1)*8)≤140737488355328)) then
 bif (decide (((l_0.fReplies.length+1)*16)≤140737488355328)) then
 some ⟨l_0.fBox,(l_0.fCodes++[code_1]),(l_0.fReplies++[reply_2]),l_0.fGives,l_0.fDone⟩
 else none
 else none
noncomputable def impl_Life_tell:Bd:=E_impl_Life_tell
theorem Nr:Tells ctx PP 93 cv110 cv111 (fun a=>impl_Life_tell a.1 a.2.1 a.2.2):=fn_ok0 hl_nil Tryz.func93 (fun a=>by kernel_rfl:EntryIs0 ctx PP 93 [0] [] cv110 cv111 fun a=>E_impl_Life_tell a.1 a.2.1 a.2.2)
noncomputable def Rl {γ:Type} (F:Bd):Hd ctx γ:=hdl cv110.dec (fun a=>F a.1 a.2.1 a.2.2) cv111.enc
abbrev Jm:=SLife→Option SLife
noncomputable def E_impl_Life_rise (z0:Nv) (z1:Bd) (l_0:SLife):Option SLife:=
 (z0 l_0.fBox).bind fun r0=>
 bif (!r0.2) then
 (z1 l_0 1 ⟨#[]⟩).bind fun r1=>
 some r1
 else
 (z1 ⟨r0.1,l_0.fCodes,l_0.fReplies,l_0.fGives,l_0.fDone⟩ 0 ⟨#[]⟩).bind fun r2=>
 some r2
noncomputable def impl_Life_rise:Jm:=E_impl_Life_rise impl_Rise impl_Life_tell
theorem TAD:Tells ctx PP 51 cv111 cv111 (fun a=>impl_Life_rise a):=fn_ok0 (hc OAG (hc Nr hl_nil)) Tryz.func51 ((fun z0 z1 a=>by kernel_rfl:∀ z0 z1,EntryIs0 ctx PP 51 [0] [(92,PAG z0),(93,Rl z1)] cv111 cv111 fun a=>E_impl_Life_rise z0 z1 a) impl_Rise impl_Life_tell)
noncomputable def G5 {γ:Type} (F:Jm):Hd ctx γ:=hdl cv111.dec (fun a=>F a) cv111.enc
abbrev Xb:=Int→Option ((List SRec)×Int×ByteArray)
noncomputable def E_impl_refused (code_0:Int):Option ((List SRec)×Int×ByteArray):=
 bif ((decide (0≤code_0)) && (decide (code_0<((10:Nat):Int)))) then
 some ([],(code_0,([(⟨#[]⟩:ByteArray),(⟨#[102,117,108,108]⟩:ByteArray),(⟨#[115,101,115,115,105,111,110]⟩:ByteArray),(⟨#[108,111,99,107,101,100]⟩:ByteArray),(⟨#[119,111,114,100]⟩:ByteArray),(⟨#[111,117,116]⟩:ByteArray),(⟨#[119,114,111,110,103]⟩:ByteArray),(⟨#[110,111,110,101]⟩:ByteArray),(⟨#[112,111,108,105,99,121]⟩:ByteArray),(⟨#[100,111,119,110]⟩:ByteArray)].getD code_0.toNat (⟨#[]⟩:ByteArray))))
 else none
noncomputable def impl_refused:Xb:=E_impl_refused
theorem Zi:Tells ctx PP 130 cv1 cv112 (fun a=>impl_refused a):=fn_ok0 hl_nil Tryz.func130 (fun a=>by kernel_rfl:EntryIs0 ctx PP 130 [] [] cv1 cv112 fun a=>E_impl_refused a)
noncomputable def Aj {γ:Type} (F:Xb):Hd ctx γ:=hdl cv1.dec (fun a=>F a) cv112.enc
abbrev Ov:=Int→Option ByteArray
noncomputable def E_internal_strconv_small (i_0:Int):Option ByteArray:=
 bif (decide (i_0<10)) then
 bif (((decide (0≤i_0)) && (decide (i_0≤(w64 (i_0+1))))) && (decide ((w64 (i_0+1))≤((⟨#[48,49,50,51,52,53,54,55,56,57,97,98,99,100,101,102,103,104,105,106,107,108,109,110,111,112,113,114,115,116,117,118,119,120,121,122]⟩:ByteArray).size:Int)))) then
 some ((⟨#[48,49,50,51,52,53,54,55,56,57,97,98,99,100,101,102,103,104,105,106,107,108,109,110,111,112,113,114,115,116,117,118,119,120,121,122]⟩:ByteArray).extract i_0.toNat (w64 (i_0+1)).toNat)
 else none
 else
 bif (((decide (0≤(w64 (i_0*2)))) && (decide ((w64 (i_0*2))≤(w64 ((w64 (i_0*2))+2))))) && (decide ((w64 ((w64 (i_0*2))+2))≤((⟨#[48,48,48,49,48,50,48,51,48,52,48,53,48,54,48,55,48,56,48,57,49,48,49,49,49,50,49,51,49,52,49,53,49,54,49,55,49,56,49,57,50,48,50,49,50,50,50,51,50,52,50,53,50,54,50,55,50,56,50,57,51,48,51,49,51,50,51,51,51,52,51,53,51,54,51,55,51,56,51,57,52,48,52,49,52,50,52,51,52,52,52,53,52,54,52,55,52,56,52,57,53,48,53,49,53,50,53,51,53,52,53,53,53,54,53,55,53,56,53,57,54,48,54,49,54,50,54,51,54,52,54,53,54,54,54,55,54,56,54,57,55,48,55,49,55,50,55,51,55,52,55,53,55,54,55,55,55,56,55,57,56,48,56,49,56,50,56,51,56,52,56,53,56,54,56,55,56,56,56,57,57,48,57,49,57,50,57,51,57,52,57,53,57,54,57,55,57,56,57,57]⟩:ByteArray).size:Int)))) then
 some ((⟨#[48,48,48,49,48,50,48,51,48,52,48,53,48,54,48,55,48,56,48,57,49,48,49,49,49,50,49,51,49,52,49,53,49,54,49,55,49,56,49,57,50,48,50,49,50,50,50,51,50,52,50,53,50,54,50,55,50,56,50,57,51,48,51,49,51,50,51,51,51,52,51,53,51,54,51,55,51,56,51,57,52,48,52,49,52,50,52,51,52,52,52,53,52,54,52,55,52,56,52,57,53,48,53,49,53,50,53,51,53,52,53,53,53,54,53,55,53,56,53,57,54,48,54,49,54,50,54,51,54,52,54,53,54,54,54,55,54,56,54,57,55,48,55,49,55,50,55,51,55,52,55,53,55,54,55,55,55,56,55,57,56,48,56,49,56,50,56,51,56,52,56,53,56,54,56,55,56,56,56,57,57,48,57,49,57,50,57,51,57,52,57,53,57,54,57,55,57,56,57,57]⟩:ByteArray).extract (w64 (i_0*2)).toNat (w64 ((w64 (i_0*2))+2)).toNat)
 else none
noncomputable def internal_strconv_small:Ov:=E_internal_strconv_small
theorem QAG:Tells ctx PP 244 cv1 cv8 (fun a=>internal_strconv_small a):=fn_ok0 hl_nil Tryz.func244 (fun a=>by kernel_rfl:EntryIs0 ctx PP 244 [] [] cv1 cv8 fun a=>E_internal_strconv_small a)
noncomputable def RAG {γ:Type} (F:Ov):Hd ctx γ:=hdl cv1.dec (fun a=>F a) cv8.enc
abbrev Pv:=Int→Option Int
noncomputable def internal_strconv_numDigits:Pv:=fun _=>none
theorem SAG:Tells ctx PP 245 cv19 cv1 (fun a=>internal_strconv_numDigits a):=fun _ r h=>by
 have h:none=some r:=h
 cases h
noncomputable def UAG {γ:Type} (F:Pv):Hd ctx γ:=hdl cv19.dec (fun a=>F a) cv1.enc
abbrev Qv:=(List Int)→Int→Option (List Int)
noncomputable def internal_strconv_formatBase10:Qv:=fun _ _=>none
theorem VAG:Tells ctx PP 246 cv113 cv114 (fun a=>internal_strconv_formatBase10 a.1 a.2):=fun _ r h=>by
 have h:none=some r:=h
 cases h
noncomputable def WAG {γ:Type} (F:Qv):Hd ctx γ:=hdl cv113.dec (fun a=>F a.1 a.2) cv114.enc
abbrev Sv:=(List Int)→Int→Int→Bool→Bool→Option ((List Int)×ByteArray)
noncomputable def Tv:Sv:=fun _ _ _ _ _=>none
theorem XAG:Tells ctx PP 247 cv115 cv116 (fun a=>Tv a.1 a.2.1 a.2.2.1 a.2.2.2.1 a.2.2.2.2):=fun _ r h=>by
 have h:none=some r:=h
 cases h
noncomputable def YAG {γ:Type} (F:Sv):Hd ctx γ:=hdl cv115.dec (fun a=>F a.1 a.2.1 a.2.2.1 a.2.2.2.1 a.2.2.2.2) cv116.enc
abbrev Wv:=Int→Int→Option ByteArray
noncomputable def E_internal_strconv_FormatInt (z0:Ov) (z1:Pv) (z2:Qv) (z3:Sv) (i_0:Int) (base_1:Int):Option ByteArray:=
 bif (base_1 == 10) then
 bif (decide (0≤i_0)) then
  bif (decide (i_0<100)) then
  (z0 i_0).bind fun r0=>
  some r0
  else
  bif (decide (i_0<0)) then
   (z1 (wu64 (0 - (wu64 i_0)))).bind fun r1=>
   none
  else
   (z1 (wu64 i_0)).bind fun r2=>
   none
 else
  bif (decide (i_0<0)) then
  (z1 (wu64 (0 - (wu64 i_0)))).bind fun r3=>
  none
  else
  (z1 (wu64 i_0)).bind fun r4=>
  none
 else
 (z3 [] (wu64 i_0) base_1 (decide (i_0<0)) false).bind fun r5=>
 some r5.2
noncomputable def internal_strconv_FormatInt:Wv:=E_internal_strconv_FormatInt internal_strconv_small internal_strconv_numDigits internal_strconv_formatBase10 Tv
theorem AAH:Tells ctx PP 230 cv30 cv8 (fun a=>internal_strconv_FormatInt a.1 a.2):=fn_ok0 (hc QAG (hc SAG (hc VAG (hc XAG hl_nil)))) Tryz.func230 ((fun z0 z1 z2 z3 a=>by kernel_rfl:∀ z0 z1 z2 z3,EntryIs0 ctx PP 230 [] [(244,RAG z0),(245,UAG z1),(246,WAG z2),(247,YAG z3)] cv30 cv8 fun a=>E_internal_strconv_FormatInt z0 z1 z2 z3 a.1 a.2) internal_strconv_small internal_strconv_numDigits internal_strconv_formatBase10 Tv)
noncomputable def BAH {γ:Type} (F:Wv):Hd ctx γ:=hdl cv30.dec (fun a=>F a.1 a.2) cv8.enc
abbrev Xv:=Int→Option ByteArray
noncomputable def E_internal_strconv_Itoa (z0:Wv) (i_0:Int):Option ByteArray:=
 (z0 i_0 10).bind fun r0=>
 some r0
noncomputable def internal_strconv_Itoa:Xv:=E_internal_strconv_Itoa internal_strconv_FormatInt
theorem CAH:Tells ctx PP 214 cv1 cv8 (fun a=>internal_strconv_Itoa a):=fn_ok0 (hc AAH hl_nil) Tryz.func214 ((fun z0 a=>by kernel_rfl:∀ z0,EntryIs0 ctx PP 214 [] [(230,BAH z0)] cv1 cv8 fun a=>E_internal_strconv_Itoa z0 a) internal_strconv_FormatInt)
noncomputable def DAH {γ:Type} (F:Xv):Hd ctx γ:=hdl cv1.dec (fun a=>F a) cv8.enc
abbrev Yv:=Int→Option ByteArray
noncomputable def E_strconv_Itoa (z0:Xv) (i_0:Int):Option ByteArray:=
 (z0 i_0).bind fun r0=>
 some r0
noncomputable def strconv_Itoa:Yv:=E_strconv_Itoa internal_strconv_Itoa
theorem EAH:Tells ctx PP 178 cv1 cv8 (fun a=>strconv_Itoa a):=fn_ok0 (hc CAH hl_nil) Tryz.func178 ((fun z0 a=>by kernel_rfl:∀ z0,EntryIs0 ctx PP 178 [] [(214,DAH z0)] cv1 cv8 fun a=>E_strconv_Itoa z0 a) internal_strconv_Itoa)
noncomputable def FAH {γ:Type} (F:Yv):Hd ctx γ:=hdl cv1.dec (fun a=>F a) cv8.enc
abbrev Bj:=Int→Option ByteArray
noncomputable def E_impl_Decimal (z0:Yv) (n_0:Int):Option ByteArray:=
 (z0 n_0).bind fun r0=>
 some r0
noncomputable def impl_Decimal:Bj:=E_impl_Decimal strconv_Itoa
theorem Zv:Tells ctx PP 131 cv1 cv8 (fun a=>impl_Decimal a):=fn_ok0 (hc EAH hl_nil) Tryz.func131 ((fun z0 a=>by kernel_rfl:∀ z0,EntryIs0 ctx PP 131 [] [(178,FAH z0)] cv1 cv8 fun a=>E_impl_Decimal z0 a) strconv_Itoa)
noncomputable def Aw {γ:Type} (F:Bj):Hd ctx γ:=hdl cv1.dec (fun a=>F a) cv8.enc
abbrev Xf:=SBox→Int→Option Int
inductive Cj where
 | c0 (id_1:Int) (v_8:(List SSession)) (v_9:Int) (v_10:Int)
noncomputable def PAA:Cj→LI
 | .c0 id_1 v_8 v_9 v_10=>(tdo Tryz.f132 104,[(1,[.one (.int .i64 id_1)]),(8,[.one (.rsl 176 v_8)]),(9,[.one (.int .i64 v_9)]),(10,[.one (.int .i64 v_10)])],[])
noncomputable def E_impl_sessionAt (k:Cj→Option Int) (b_0:SBox) (id_1:Int):Option Int:=
 k (.c0 id_1 b_0.fSessions (b_0.fSessions.length:Int) 0)
noncomputable def B_impl_sessionAt (k:Cj→Option Int):Cj→Option Int
 | .c0 id_1 v_8 v_9 v_10=>
 bif (decide (v_10<v_9)) then
  bif ((decide (0≤v_10)) && (decide (v_10<(v_8.length:Int)))) then
  bif ((v_8.getD v_10.toNat (⟨0,false⟩:SSession)).fId == id_1) then
  some v_10
  else
  k (.c0 id_1 v_8 v_9 (w64 (v_10+1)))
  else none
 else
  some (-(1:Int))
noncomputable def L_impl_sessionAt:Nat→Cj→Option Int
 | 0,_=>none
 | m+1,s=>B_impl_sessionAt (L_impl_sessionAt m) s
noncomputable def impl_sessionAt:Xf:=E_impl_sessionAt (L_impl_sessionAt gas)
theorem J4:Tells ctx PP 132 cv117 cv1 (fun a=>impl_sessionAt a.1 a.2):=
 have b:CutIs ctx PP 132 Tryz.f132 [] [] cv1 PAA (B_impl_sessionAt):=fun _ s=>by cases s <;> kernel_rfl
 have e:EntryIs ctx PP 132 [] [] cv117 cv1 PAA (fun k a=>E_impl_sessionAt k a.1 a.2):=fun _ a=>by kernel_rfl
 fn_ok hl_nil Tryz.func132 (fun s s' h=>by cases s;cases s';cases h;rfl) (fun _=>rfl) (fun _ _=>rfl) b e gas
noncomputable def Vr {γ:Type} (F:Xf):Hd ctx γ:=hdl cv117.dec (fun a=>F a.1 a.2) cv1.enc
abbrev Dw:=SBox→SCall→Option ((List SRec)×Int×ByteArray)
noncomputable def E_impl_planWord (z0:Xb) (z1:IZ) (b_0:SBox) (c_1:SCall):Option ((List SRec)×Int×ByteArray):=
 bif (decide (b_0.fBook.fTries≥3)) then
 (z0 3).bind fun r0=>
 some (r0.1,(r0.2.1,r0.2.2))
 else
 (z1 c_1.fText).bind fun r1=>
 bif (!((ByteArray.toList r1) == (ByteArray.toList b_0.fBook.fWord))) then
  (z0 4).bind fun r2=>
  some ([⟨2,⟨#[]⟩,(w64 (b_0.fBook.fTries+1)),⟨0,0,false,false,false,false,⟨#[]⟩,0⟩⟩],(r2.2.1,r2.2.2))
 else
  bif (b_0.fBook.fTries == 0) then
  some ([],(0,⟨#[]⟩))
  else
  some ([⟨2,⟨#[]⟩,0,⟨0,0,false,false,false,false,⟨#[]⟩,0⟩⟩],(0,⟨#[]⟩))
noncomputable def impl_planWord:Dw:=E_impl_planWord impl_refused impl_DigestOf
theorem GAH:Tells ctx PP 133 cv118 cv112 (fun a=>impl_planWord a.1 a.2):=fn_ok0 (hc Zi (hc Ba hl_nil)) Tryz.func133 ((fun z0 z1 a=>by kernel_rfl:∀ z0 z1,EntryIs0 ctx PP 133 [] [(130,Aj z0),(50,PZ z1)] cv118 cv112 fun a=>E_impl_planWord z0 z1 a.1 a.2) impl_refused impl_DigestOf)
noncomputable def HAH {γ:Type} (F:Dw):Hd ctx γ:=hdl cv118.dec (fun a=>F a.1 a.2) cv112.enc
abbrev Ew:=Int→ByteArray→Option (SThing×Bool)
noncomputable def E_impl_Defaults (z0:IZ) (kind_0:Int) (data_1:ByteArray):Option (SThing×Bool):=
 bif (kind_0 == 1) then
 (z0 data_1).bind fun r0=>
 some (⟨0,kind_0,true,false,false,true,r0,0⟩,true)
 else
 bif (kind_0 == 2) then
  (z0 data_1).bind fun r1=>
  some (⟨0,kind_0,true,false,true,false,r1,0⟩,true)
 else
  bif (kind_0 == 3) then
  bif (decide ((data_1.size:Int)≤100)) then
   some (⟨0,kind_0,false,false,false,false,data_1,0⟩,true)
  else
   some (⟨0,0,false,false,false,false,⟨#[]⟩,0⟩,false)
  else
  some (⟨0,0,false,false,false,false,⟨#[]⟩,0⟩,false)
noncomputable def impl_Defaults:Ew:=E_impl_Defaults impl_DigestOf
theorem IAH:Tells ctx PP 179 cv119 cv64 (fun a=>impl_Defaults a.1 a.2):=fn_ok0 (hc Ba hl_nil) Tryz.func179 ((fun z0 a=>by kernel_rfl:∀ z0,EntryIs0 ctx PP 179 [] [(50,PZ z0)] cv119 cv64 fun a=>E_impl_Defaults z0 a.1 a.2) impl_DigestOf)
noncomputable def JAH {γ:Type} (F:Ew):Hd ctx γ:=hdl cv119.dec (fun a=>F a.1 a.2) cv64.enc
abbrev Gw:=SBox→SCall→SThing→Bool→Option ((List SRec)×Int×ByteArray)
noncomputable def Hw (z0:Xb) (z1:Bj) (b_0:SBox) (c_1:SCall) (x_2:SThing) (ok_3:Bool):Option ((List SRec)×Int×ByteArray):=
 bif (!ok_3) then
 (z0 6).bind fun r0=>
 some (r0.1,(r0.2.1,r0.2.2))
 else
 bif (decide ((b_0.fBook.fThings.length:Int)≥8)) then
  (z0 1).bind fun r1=>
  some (r1.1,(r1.2.1,r1.2.2))
 else
  bif (decide (b_0.fBook.fLast≥1000)) then
  (z0 1).bind fun r2=>
  some (r2.1,(r2.2.1,r2.2.2))
  else
  bif x_2.fHidden then
   bif x_2.fFixed then
   (z1 (w64 (b_0.fBook.fLast+1))).bind fun r3=>
   some ([⟨3,⟨#[]⟩,0,⟨(w64 (b_0.fBook.fLast+1)),x_2.fKind,true,true,x_2.fSigns,x_2.fWraps,x_2.fValue,x_2.fNext⟩⟩],(0,r3))
   else
   (z1 (w64 (b_0.fBook.fLast+1))).bind fun r4=>
   some ([⟨3,⟨#[]⟩,0,⟨(w64 (b_0.fBook.fLast+1)),x_2.fKind,true,c_1.fFixed,x_2.fSigns,x_2.fWraps,x_2.fValue,x_2.fNext⟩⟩],(0,r4))
  else
   bif x_2.fFixed then
   (z1 (w64 (b_0.fBook.fLast+1))).bind fun r5=>
   some ([⟨3,⟨#[]⟩,0,⟨(w64 (b_0.fBook.fLast+1)),x_2.fKind,c_1.fHidden,true,x_2.fSigns,x_2.fWraps,x_2.fValue,x_2.fNext⟩⟩],(0,r5))
   else
   (z1 (w64 (b_0.fBook.fLast+1))).bind fun r6=>
   some ([⟨3,⟨#[]⟩,0,⟨(w64 (b_0.fBook.fLast+1)),x_2.fKind,c_1.fHidden,c_1.fFixed,x_2.fSigns,x_2.fWraps,x_2.fValue,x_2.fNext⟩⟩],(0,r6))
noncomputable def Ej:Gw:=Hw impl_refused impl_Decimal
theorem KAH:Tells ctx PP 180 cv120 cv112 (fun a=>Ej a.1 a.2.1 a.2.2.1 a.2.2.2):=fn_ok0 (hc Zi (hc Zv hl_nil)) Tryz.func180 ((fun z0 z1 a=>by kernel_rfl:∀ z0 z1,EntryIs0 ctx PP 180 [] [(130,Aj z0),(131,Aw z1)] cv120 cv112 fun a=>Hw z0 z1 a.1 a.2.1 a.2.2.1 a.2.2.2) impl_refused impl_Decimal)
noncomputable def LAH {γ:Type} (F:Gw):Hd ctx γ:=hdl cv120.dec (fun a=>F a.1 a.2.1 a.2.2.1 a.2.2.2) cv112.enc
abbrev Iw:=SBox→SCall→Option ((List SRec)×Int×ByteArray)
noncomputable def Xo (z0:Bj) (z1:Ew) (z2:Gw) (b_0:SBox) (c_1:SCall):Option ((List SRec)×Int×ByteArray):=
 bif (c_1.fKind == 2) then
 (z0 (w64 (b_0.fBook.fLast+1))).bind fun r0=>
 bif (decide ((r0.size+(⟨#[32]⟩:ByteArray).size)≤9223372036854775807)) then
 bif (decide (((r0++(⟨#[32]⟩:ByteArray)).size+c_1.fText.size)≤9223372036854775807)) then
 (z1 c_1.fKind ((r0++(⟨#[32]⟩:ByteArray))++c_1.fText)).bind fun r1=>
 (z2 b_0 c_1 r1.1 r1.2).bind fun r2=>
 some (r2.1,(r2.2.1,r2.2.2))
 else none
 else none
 else
 (z1 c_1.fKind c_1.fText).bind fun r3=>
 (z2 b_0 c_1 r3.1 r3.2).bind fun r4=>
 some (r4.1,(r4.2.1,r4.2.2))
noncomputable def Yb:Iw:=Xo impl_Decimal impl_Defaults Ej
theorem MAH:Tells ctx PP 134 cv118 cv112 (fun a=>Yb a.1 a.2):=fn_ok0 (hc Zv (hc IAH (hc KAH hl_nil))) Tryz.func134 ((fun z0 z1 z2 a=>by kernel_rfl:∀ z0 z1 z2,EntryIs0 ctx PP 134 [] [(131,Aw z0),(179,JAH z1),(180,LAH z2)] cv118 cv112 fun a=>Xo z0 z1 z2 a.1 a.2) impl_Decimal impl_Defaults Ej)
noncomputable def NAH {γ:Type} (F:Iw):Hd ctx γ:=hdl cv118.dec (fun a=>F a.1 a.2) cv112.enc
abbrev Jw:=SBox→SCall→Option ((List SRec)×Int×ByteArray)
noncomputable def Kw:Jw:=fun _ _=>none
theorem OAH:Tells ctx PP 135 cv118 cv112 (fun a=>Kw a.1 a.2):=fun _ r h=>by
 have h:none=some r:=h
 cases h
noncomputable def PAH {γ:Type} (F:Jw):Hd ctx γ:=hdl cv118.dec (fun a=>F a.1 a.2) cv112.enc
abbrev Nw:=SThing→Int→Option Bool
noncomputable def E_impl_May (z0:Ae) (x_0:SThing) (do_1:Int):Option Bool:=
 (z0 x_0).bind fun r0=>
 bif (!r0) then
 some false
 else
 bif (do_1 == 1) then
  some (!x_0.fHidden)
 else
  bif (do_1 == 2) then
  bif (!x_0.fFixed) then
   some (x_0.fKind != 2)
  else
   some false
  else
  bif (do_1 == 3) then
   some x_0.fSigns
  else
   bif (do_1 == 4) then
   some x_0.fWraps
   else
   some (do_1 == 5)
noncomputable def impl_May:Nw:=E_impl_May impl_ThingOk
theorem QAH:Tells ctx PP 184 cv0 cv4 (fun a=>impl_May a.1 a.2):=fn_ok0 (hc Xt hl_nil) Tryz.func184 ((fun z0 a=>by kernel_rfl:∀ z0,EntryIs0 ctx PP 184 [] [(15,Wn z0)] cv0 cv4 fun a=>E_impl_May z0 a.1 a.2) impl_ThingOk)
noncomputable def RAH {γ:Type} (F:Nw):Hd ctx γ:=hdl cv0.dec (fun a=>F a.1 a.2) cv4.enc
abbrev Ob:=SBox→Int→Option Int
inductive Fj where
 | c0 (id_1:Int) (v_8:(List SLive)) (v_9:Int) (v_10:Int)
noncomputable def QAA:Fj→LI
 | .c0 id_1 v_8 v_9 v_10=>(tdo Tryz.f142 104,[(1,[.one (.int .i64 id_1)]),(8,[.one (.rsl 186 v_8)]),(9,[.one (.int .i64 v_9)]),(10,[.one (.int .i64 v_10)])],[])
noncomputable def E_impl_liveAt (k:Fj→Option Int) (b_0:SBox) (id_1:Int):Option Int:=
 k (.c0 id_1 b_0.fLives (b_0.fLives.length:Int) 0)
noncomputable def B_impl_liveAt (k:Fj→Option Int):Fj→Option Int
 | .c0 id_1 v_8 v_9 v_10=>
 bif (decide (v_10<v_9)) then
  bif ((decide (0≤v_10)) && (decide (v_10<(v_8.length:Int)))) then
  bif ((v_8.getD v_10.toNat (⟨0,0⟩:SLive)).fId == id_1) then
  some v_10
  else
  k (.c0 id_1 v_8 v_9 (w64 (v_10+1)))
  else none
 else
  some (-(1:Int))
noncomputable def L_impl_liveAt:Nat→Fj→Option Int
 | 0,_=>none
 | m+1,s=>B_impl_liveAt (L_impl_liveAt m) s
noncomputable def impl_liveAt:Ob:=E_impl_liveAt (L_impl_liveAt gas)
theorem Ur:Tells ctx PP 142 cv117 cv1 (fun a=>impl_liveAt a.1 a.2):=
 have b:CutIs ctx PP 142 Tryz.f142 [] [] cv1 QAA (B_impl_liveAt):=fun _ s=>by cases s <;> kernel_rfl
 have e:EntryIs ctx PP 142 [] [] cv117 cv1 QAA (fun k a=>E_impl_liveAt k a.1 a.2):=fun _ a=>by kernel_rfl
 fn_ok hl_nil Tryz.func142 (fun s s' h=>by cases s;cases s';cases h;rfl) (fun _=>rfl) (fun _ _=>rfl) b e gas
noncomputable def Uf {γ:Type} (F:Ob):Hd ctx γ:=hdl cv117.dec (fun a=>F a.1 a.2) cv1.enc
abbrev Bg:=SBox→Int→Option Int
noncomputable def E_impl_LeafOf (z0:Oa) (z1:Ob) (b_0:SBox) (id_1:Int):Option Int:=
 (z0 b_0.fBook id_1).bind fun r0=>
 bif (!r0.2) then
 some (-(1:Int))
 else
 bif (r0.1.fKind != 2) then
  some (-(1:Int))
 else
  (z1 b_0 id_1).bind fun r1=>
  bif (decide (r1≥0)) then
  bif ((decide (0≤r1)) && (decide (r1<(b_0.fLives.length:Int)))) then
  some (b_0.fLives.getD r1.toNat (⟨0,0⟩:SLive)).fNext
  else none
  else
  some r0.1.fNext
noncomputable def impl_LeafOf:Bg:=E_impl_LeafOf impl_ThingOf impl_liveAt
theorem X4:Tells ctx PP 96 cv117 cv1 (fun a=>impl_LeafOf a.1 a.2):=fn_ok0 (hc Yl (hc Ur hl_nil)) Tryz.func96 ((fun z0 z1 a=>by kernel_rfl:∀ z0 z1,EntryIs0 ctx PP 96 [] [(136,Jd z0),(142,Uf z1)] cv117 cv1 fun a=>E_impl_LeafOf z0 z1 a.1 a.2) impl_ThingOf impl_liveAt)
noncomputable def Xr {γ:Type} (F:Bg):Hd ctx γ:=hdl cv117.dec (fun a=>F a.1 a.2) cv1.enc
abbrev MZ:=ByteArray→Option ByteArray
noncomputable def Qw (z0:IZ) (s_0:ByteArray):Option ByteArray:=
 (z0 s_0).bind fun r0=>
 bif ((decide ((0:Int)≤(4:Int))) && (decide (4≤(r0.size:Int)))) then
 some (r0.extract 0 (4:Int).toNat)
 else none
noncomputable def QY:MZ:=Qw impl_DigestOf
theorem Gj:Tells ctx PP 204 cv8 cv8 (fun a=>QY a):=fn_ok0 (hc Ba hl_nil) Tryz.func204 ((fun z0 a=>by kernel_rfl:∀ z0,EntryIs0 ctx PP 204 [] [(50,PZ z0)] cv8 cv8 fun a=>Qw z0 a) impl_DigestOf)
noncomputable def Ea {γ:Type} (F:MZ):Hd ctx γ:=hdl cv8.dec (fun a=>F a) cv8.enc
abbrev Ij:=ByteArray→Int→Option (List ByteArray)
inductive Jj where
 | c0 (seed_0:ByteArray) (leaf_1:Int) (v_7:Int) (out_5:(List ByteArray))
noncomputable def RAA:Jj→LI
 | .c0 seed_0 leaf_1 v_7 out_5=>(tdo Tryz.f160 232,[(0,[.one (.str seed_0)]),(1,[.one (.int .i64 leaf_1)]),(5,[.one (.own 368)]),(7,[.one (.int .i64 v_7)])],[(368,.sl 9 out_5)])
noncomputable def Rw (z0:AZ) (z1:MZ) (k:Jj→Option (List ByteArray)) (seed_0:ByteArray) (leaf_1:Int):Option (List ByteArray):=
 k (.c0 seed_0 leaf_1 0 [])
noncomputable def Yo (z0:AZ) (z1:MZ) (k:Jj→Option (List ByteArray)):Jj→Option (List ByteArray)
 | .c0 seed_0 leaf_1 v_7 out_5=>
 bif (decide (v_7<10)) then
  (z0 leaf_1).bind fun r0=>
  bif (decide ((seed_0.size+r0.size)≤9223372036854775807)) then
  (z0 v_7).bind fun r1=>
  bif (decide (((seed_0++r0).size+r1.size)≤9223372036854775807)) then
  bif (decide ((((seed_0++r0)++r1).size+(⟨#[111]⟩:ByteArray).size)≤9223372036854775807)) then
  (z1 (((seed_0++r0)++r1)++(⟨#[111]⟩:ByteArray))).bind fun r2=>
  bif (decide (((out_5.length+1)*16)≤140737488355328)) then
  k (.c0 seed_0 leaf_1 (w64 (v_7+1)) (out_5++[r2]))
  else none
  else none
  else none
  else none
 else
  some out_5
noncomputable def Ee:Nat→Jj→Option (List ByteArray)
 | 0,_=>none
 | m+1,s=>Yo impl_oneByte QY (Ee m) s
noncomputable def Fa:Ij:=Rw impl_oneByte QY (Ee gas)
theorem SAA:Tells ctx PP 160 cv10 cv35 (fun a=>Fa a.1 a.2):=
 have b:∀ z0 z1,CutIs ctx PP 160 Tryz.f160 [] [(30,JZ z0),(204,Ea z1)] cv35 RAA (Yo z0 z1):=fun z0 z1 _ s=>by cases s <;> kernel_rfl
 have e:∀ z0 z1,EntryIs ctx PP 160 [] [(30,JZ z0),(204,Ea z1)] cv10 cv35 RAA (fun k a=>Rw z0 z1 k a.1 a.2):=fun z0 z1 _ a=>by kernel_rfl
 fn_ok (hc Za (hc Gj hl_nil)) Tryz.func160 (fun s s' h=>by cases s;cases s';cases h;rfl) (fun _=>rfl) (fun _ _=>rfl) (b impl_oneByte QY) (e impl_oneByte QY) gas
noncomputable def Uw {γ:Type} (F:Ij):Hd ctx γ:=hdl cv10.dec (fun a=>F a.1 a.2) cv35.enc
abbrev Zo:=Int→Option Int
noncomputable def Vw (c_0:Int):Option Int:=
 some 0
noncomputable def Fe:Zo:=Vw
theorem SAH:Tells ctx PP 202 cv1 cv1 (fun a=>Fe a):=fn_ok0 hl_nil Tryz.func202 (fun a=>by kernel_rfl:EntryIs0 ctx PP 202 [] [] cv1 cv1 fun a=>Vw a)
noncomputable def TAA {γ:Type} (F:Zo):Hd ctx γ:=hdl cv1.dec (fun a=>F a) cv1.enc
abbrev Ap:=Int→Option Int
noncomputable def Xw (c_0:Int):Option Int:=
 some 15
noncomputable def He:Ap:=Xw
theorem TAH:Tells ctx PP 203 cv1 cv1 (fun a=>He a):=fn_ok0 hl_nil Tryz.func203 (fun a=>by kernel_rfl:EntryIs0 ctx PP 203 [] [] cv1 cv1 fun a=>Xw a)
noncomputable def UAA {γ:Type} (F:Ap):Hd ctx γ:=hdl cv1.dec (fun a=>F a) cv1.enc
abbrev Ie:=ByteArray→Int→Int→Int→Int→Option ByteArray
inductive Lj where
 | c0 (x_0:ByteArray) (leaf_1:Int) (chain_2:Int) (from_3:Int) (v_13:Int) (v_14:Int)
noncomputable def VAA:Lj→LI
 | .c0 x_0 leaf_1 chain_2 from_3 v_13 v_14=>(tdo Tryz.f226 104,[(0,[.one (.str x_0)]),(1,[.one (.int .i64 leaf_1)]),(2,[.one (.int .i64 chain_2)]),(3,[.one (.int .i64 from_3)]),(13,[.one (.int .i64 v_13)]),(14,[.one (.int .i64 v_14)])],[])
noncomputable def Yw (z0:AZ) (z1:MZ) (k:Lj→Option ByteArray) (x_0:ByteArray) (leaf_1:Int) (chain_2:Int) (from_3:Int) (steps_4:Int):Option ByteArray:=
 k (.c0 x_0 leaf_1 chain_2 from_3 (ite (15<steps_4) 15 steps_4) 0)
noncomputable def Dp (z0:AZ) (z1:MZ) (k:Lj→Option ByteArray):Lj→Option ByteArray
 | .c0 x_0 leaf_1 chain_2 from_3 v_13 v_14=>
 bif (decide (v_14<v_13)) then
  (z0 leaf_1).bind fun r0=>
  (z0 chain_2).bind fun r1=>
  bif (decide ((r0.size+r1.size)≤9223372036854775807)) then
  (z0 (w64 (from_3+v_14))).bind fun r2=>
  bif (decide (((r0++r1).size+r2.size)≤9223372036854775807)) then
  bif (decide ((((r0++r1)++r2).size+x_0.size)≤9223372036854775807)) then
  (z1 (((r0++r1)++r2)++x_0)).bind fun r3=>
  k (.c0 r3 leaf_1 chain_2 from_3 v_13 (w64 (v_14+1)))
  else none
  else none
  else none
 else
  some x_0
noncomputable def Nj:Nat→Lj→Option ByteArray
 | 0,_=>none
 | m+1,s=>Dp impl_oneByte QY (Nj m) s
noncomputable def CZ:Ie:=Yw impl_oneByte QY (Nj gas)
theorem WAA:Tells ctx PP 226 cv36 cv8 (fun a=>CZ a.1 a.2.1 a.2.2.1 a.2.2.2.1 a.2.2.2.2):=
 have b:∀ z0 z1,CutIs ctx PP 226 Tryz.f226 [] [(30,JZ z0),(204,Ea z1)] cv8 VAA (Dp z0 z1):=fun z0 z1 _ s=>by cases s <;> kernel_rfl
 have e:∀ z0 z1,EntryIs ctx PP 226 [] [(30,JZ z0),(204,Ea z1)] cv36 cv8 VAA (fun k a=>Yw z0 z1 k a.1 a.2.1 a.2.2.1 a.2.2.2.1 a.2.2.2.2):=fun z0 z1 _ a=>by kernel_rfl
 fn_ok (hc Za (hc Gj hl_nil)) Tryz.func226 (fun s s' h=>by cases s;cases s';cases h;rfl) (fun _=>rfl) (fun _ _=>rfl) (b impl_oneByte QY) (e impl_oneByte QY) gas
noncomputable def Ep {γ:Type} (F:Ie):Hd ctx γ:=hdl cv36.dec (fun a=>F a.1 a.2.1 a.2.2.1 a.2.2.2.1 a.2.2.2.2) cv8.enc
abbrev Zw:=(List ByteArray)→Int→Nat→Nat→Option ByteArray
inductive Oj where
 | c0 (leaf_1:Int) (from_2:Nat) (steps_3:Nat) (all_9:ByteArray) (v_15:(List ByteArray)) (v_16:Int) (v_17:Int)
noncomputable def XAA:Oj→LI
 | .c0 leaf_1 from_2 steps_3 all_9 v_15 v_16 v_17=>(tdo Tryz.f201 488,[(1,[.one (.int .i64 leaf_1)]),(2,[.one (.fn from_2)]),(3,[.one (.fn steps_3)]),(9,[.one (.str all_9)]),(15,[.one (.rsl 9 v_15)]),(16,[.one (.int .i64 v_16)]),(17,[.one (.int .i64 v_17)])],[])
noncomputable def Dx (z0:Zo) (z1:Ap) (z2:Ie) (z3:MZ) (k:Oj→Option ByteArray) (list_0:(List ByteArray)) (leaf_1:Int) (from_2:Nat) (steps_3:Nat):Option ByteArray:=
 bif ((list_0.length:Int) != 10) then
 some ⟨#[]⟩
 else
 k (.c0 leaf_1 from_2 steps_3 ⟨#[]⟩ list_0 (list_0.length:Int) 0)
noncomputable def Fp (z0:Zo) (z1:Ap) (z2:Ie) (z3:MZ) (k:Oj→Option ByteArray):Oj→Option ByteArray
 | .c0 leaf_1 from_2 steps_3 all_9 v_15 v_16 v_17=>
 bif (decide (v_17<v_16)) then
  bif ((decide (0≤v_17)) && (decide (v_17<(v_15.length:Int)))) then
  bif (Nat.beq from_2 112) then
  none
  else
  bif (Nat.beq from_2 202) then
   (z0 v_17).bind fun r0=>
   bif (Nat.beq steps_3 112) then
   none
   else
   bif (Nat.beq steps_3 202) then
    (z0 v_17).bind fun r1=>
    (z2 (v_15.getD v_17.toNat (⟨#[]⟩:ByteArray)) leaf_1 v_17 r0 r1).bind fun r2=>
    bif (decide ((all_9.size+r2.size)≤9223372036854775807)) then
    k (.c0 leaf_1 from_2 steps_3 (all_9++r2) v_15 v_16 (w64 (v_17+1)))
    else none
   else
    bif (Nat.beq steps_3 203) then
    (z1 v_17).bind fun r3=>
    (z2 (v_15.getD v_17.toNat (⟨#[]⟩:ByteArray)) leaf_1 v_17 r0 r3).bind fun r4=>
    bif (decide ((all_9.size+r4.size)≤9223372036854775807)) then
    k (.c0 leaf_1 from_2 steps_3 (all_9++r4) v_15 v_16 (w64 (v_17+1)))
    else none
    else
    bif (Nat.beq steps_3 271) then none else none
  else
   bif (Nat.beq from_2 203) then
   (z1 v_17).bind fun r5=>
   bif (Nat.beq steps_3 112) then
    none
   else
    bif (Nat.beq steps_3 202) then
    (z0 v_17).bind fun r6=>
    (z2 (v_15.getD v_17.toNat (⟨#[]⟩:ByteArray)) leaf_1 v_17 r5 r6).bind fun r7=>
    bif (decide ((all_9.size+r7.size)≤9223372036854775807)) then
    k (.c0 leaf_1 from_2 steps_3 (all_9++r7) v_15 v_16 (w64 (v_17+1)))
    else none
    else
    bif (Nat.beq steps_3 203) then
     (z1 v_17).bind fun r8=>
     (z2 (v_15.getD v_17.toNat (⟨#[]⟩:ByteArray)) leaf_1 v_17 r5 r8).bind fun r9=>
     bif (decide ((all_9.size+r9.size)≤9223372036854775807)) then
     k (.c0 leaf_1 from_2 steps_3 (all_9++r9) v_15 v_16 (w64 (v_17+1)))
     else none
    else
     bif (Nat.beq steps_3 271) then none else none
   else
   bif (Nat.beq from_2 271) then none else none
  else none
 else
  (z3 all_9).bind fun r10=>
  some r10
noncomputable def Zb:Nat→Oj→Option ByteArray
 | 0,_=>none
 | m+1,s=>Fp Fe He CZ QY (Zb m) s
noncomputable def Gp:Zw:=Dx Fe He CZ QY (Zb gas)
theorem UAH:Tells ctx PP 201 cv48 cv8 (fun a=>Gp a.1 a.2.1 a.2.2.1 a.2.2.2):=
 have b:∀ z0 z1 z2 z3,CutIs ctx PP 201 Tryz.f201 [] [(202,TAA z0),(203,UAA z1),(226,Ep z2),(204,Ea z3)] cv8 XAA (Fp z0 z1 z2 z3):=fun z0 z1 z2 z3 _ s=>by cases s <;> kernel_rfl
 have e:∀ z0 z1 z2 z3,EntryIs ctx PP 201 [] [(202,TAA z0),(203,UAA z1),(226,Ep z2),(204,Ea z3)] cv48 cv8 XAA (fun k a=>Dx z0 z1 z2 z3 k a.1 a.2.1 a.2.2.1 a.2.2.2):=fun z0 z1 z2 z3 _ a=>by kernel_rfl
 fn_ok (hc SAH (hc TAH (hc WAA (hc Gj hl_nil)))) Tryz.func201 (fun s s' h=>by cases s;cases s';cases h;rfl) (fun _=>rfl) (fun _ _=>rfl) (b Fe He CZ QY) (e Fe He CZ QY) gas
noncomputable def VAH {γ:Type} (F:Zw):Hd ctx γ:=hdl cv48.dec (fun a=>F a.1 a.2.1 a.2.2.1 a.2.2.2) cv8.enc
abbrev Ip:=(List ByteArray)→Int→Option ByteArray
noncomputable def Gx (z0:Zw) (keys_0:(List ByteArray)) (leaf_1:Int):Option ByteArray:=
 (z0 keys_0 leaf_1 202 203).bind fun r0=>
 some r0
noncomputable def Ac:Ip:=Gx Gp
theorem WAH:Tells ctx PP 159 cv37 cv8 (fun a=>Ac a.1 a.2):=fn_ok0 (hc UAH hl_nil) Tryz.func159 ((fun z0 a=>by kernel_rfl:∀ z0,EntryIs0 ctx PP 159 [] [(201,VAH z0)] cv37 cv8 fun a=>Gx z0 a.1 a.2) Gp)
noncomputable def YAA {γ:Type} (F:Ip):Hd ctx γ:=hdl cv37.dec (fun a=>F a.1 a.2) cv8.enc
abbrev Jp:=ByteArray→Option (List ByteArray)
inductive Pj where
 | c0 (seed_0:ByteArray) (v_5:Int) (out_3:(List ByteArray))
noncomputable def ZAA:Pj→LI
 | .c0 seed_0 v_5 out_3=>(tdo Tryz.f116 232,[(0,[.one (.str seed_0)]),(3,[.one (.own 240)]),(5,[.one (.int .i64 v_5)])],[(240,.sl 9 out_3)])
noncomputable def Ox (z0:Ij) (z1:Ip) (k:Pj→Option (List ByteArray)) (seed_0:ByteArray):Option (List ByteArray):=
 k (.c0 seed_0 0 [])
noncomputable def Np (z0:Ij) (z1:Ip) (k:Pj→Option (List ByteArray)):Pj→Option (List ByteArray)
 | .c0 seed_0 v_5 out_3=>
 bif (decide (v_5<4)) then
  (z0 seed_0 v_5).bind fun r0=>
  (z1 r0 v_5).bind fun r1=>
  bif (decide (((out_3.length+1)*16)≤140737488355328)) then
  k (.c0 seed_0 (w64 (v_5+1)) (out_3++[r1]))
  else none
 else
  some out_3
noncomputable def Qj:Nat→Pj→Option (List ByteArray)
 | 0,_=>none
 | m+1,s=>Np Fa Ac (Qj m) s
noncomputable def Bc:Jp:=Ox Fa Ac (Qj gas)
theorem AAB:Tells ctx PP 116 cv8 cv35 (fun a=>Bc a):=
 have b:∀ z0 z1,CutIs ctx PP 116 Tryz.f116 [] [(160,Uw z0),(159,YAA z1)] cv35 ZAA (Np z0 z1):=fun z0 z1 _ s=>by cases s <;> kernel_rfl
 have e:∀ z0 z1,EntryIs ctx PP 116 [] [(160,Uw z0),(159,YAA z1)] cv8 cv35 ZAA (fun k a=>Ox z0 z1 k a):=fun z0 z1 _ a=>by kernel_rfl
 fn_ok (hc SAA (hc WAH hl_nil)) Tryz.func116 (fun s s' h=>by cases s;cases s';cases h;rfl) (fun _=>rfl) (fun _ _=>rfl) (b Fa Ac) (e Fa Ac) gas
noncomputable def BAB {γ:Type} (F:Jp):Hd ctx γ:=hdl cv8.dec (fun a=>F a) cv35.enc
abbrev Qp:=Int→Int→ByteArray→ByteArray→Option ByteArray
noncomputable def Px (z0:AZ) (z1:MZ) (level_0:Int) (place_1:Int) (a_2:ByteArray) (b_3:ByteArray):Option ByteArray:=
 (z0 level_0).bind fun r0=>
 (z0 place_1).bind fun r1=>
 bif (decide ((r0.size+r1.size)≤9223372036854775807)) then
 bif (decide (((r0++r1).size+a_2.size)≤9223372036854775807)) then
 bif (decide ((((r0++r1)++a_2).size+b_3.size)≤9223372036854775807)) then
 bif (decide (((((r0++r1)++a_2)++b_3).size+(⟨#[110]⟩:ByteArray).size)≤9223372036854775807)) then
 (z1 ((((r0++r1)++a_2)++b_3)++(⟨#[110]⟩:ByteArray))).bind fun r2=>
 some r2
 else none
 else none
 else none
 else none
noncomputable def QZ:Qp:=Px impl_oneByte QY
theorem XAH:Tells ctx PP 200 cv38 cv8 (fun a=>QZ a.1 a.2.1 a.2.2.1 a.2.2.2):=fn_ok0 (hc Za (hc Gj hl_nil)) Tryz.func200 ((fun z0 z1 a=>by kernel_rfl:∀ z0 z1,EntryIs0 ctx PP 200 [] [(30,JZ z0),(204,Ea z1)] cv38 cv8 fun a=>Px z0 z1 a.1 a.2.1 a.2.2.1 a.2.2.2) impl_oneByte QY)
noncomputable def CAB {γ:Type} (F:Qp):Hd ctx γ:=hdl cv38.dec (fun a=>F a.1 a.2.1 a.2.2.1 a.2.2.2) cv8.enc
abbrev Je:=Int→(List ByteArray)→Option (List ByteArray)
inductive Rj where
 | c0 (level_0:Int) (list_1:(List ByteArray)) (i_6:Int) (out_5:(List ByteArray))
noncomputable def DAB:Rj→LI
 | .c0 level_0 list_1 i_6 out_5=>(tdo Tryz.f158 464,[(0,[.one (.int .i64 level_0)]),(1,[.one (.rsl 9 list_1)]),(5,[.one (.own 368)]),(6,[.one (.int .i64 i_6)])],[(368,.sl 9 out_5)])
noncomputable def Vp (z0:Qp) (k:Rj→Option (List ByteArray)) (level_0:Int) (list_1:(List ByteArray)):Option (List ByteArray):=
 k (.c0 level_0 list_1 0 [])
noncomputable def Cc (z0:Qp) (k:Rj→Option (List ByteArray)):Rj→Option (List ByteArray)
 | .c0 level_0 list_1 i_6 out_5=>
 bif (decide ((w64 (i_6+1))<(list_1.length:Int))) then
  bif ((decide (0≤i_6)) && (decide (i_6<(list_1.length:Int)))) then
  bif ((decide (0≤(w64 (i_6+1)))) && (decide ((w64 (i_6+1))<(list_1.length:Int)))) then
  (z0 level_0 (w64 (i_6.tdiv 2)) (list_1.getD i_6.toNat (⟨#[]⟩:ByteArray)) (list_1.getD (w64 (i_6+1)).toNat (⟨#[]⟩:ByteArray))).bind fun r0=>
  bif (decide (((out_5.length+1)*16)≤140737488355328)) then
  k (.c0 level_0 list_1 (w64 (i_6+2)) (out_5++[r0]))
  else none
  else none
  else none
 else
  some out_5
noncomputable def Dc:Nat→Rj→Option (List ByteArray)
 | 0,_=>none
 | m+1,s=>Cc QZ (Dc m) s
noncomputable def DZ:Je:=Vp QZ (Dc gas)
theorem EAB:Tells ctx PP 158 cv39 cv35 (fun a=>DZ a.1 a.2):=
 have b:∀ z0,CutIs ctx PP 158 Tryz.f158 [] [(200,CAB z0)] cv35 DAB (Cc z0):=fun z0 _ s=>by cases s <;> kernel_rfl
 have e:∀ z0,EntryIs ctx PP 158 [] [(200,CAB z0)] cv39 cv35 DAB (fun k a=>Vp z0 k a.1 a.2):=fun z0 _ a=>by kernel_rfl
 fn_ok (hc XAH hl_nil) Tryz.func158 (fun s s' h=>by cases s;cases s';cases h;rfl) (fun _=>rfl) (fun _ _=>rfl) (b QZ) (e QZ) gas
noncomputable def Wp {γ:Type} (F:Je):Hd ctx γ:=hdl cv39.dec (fun a=>F a.1 a.2) cv35.enc
abbrev Qx:=(List ByteArray)→Option ByteArray
inductive Sj where
 | c0 (list_0:(List ByteArray)) (level_3:Int)
 | c1 (level_3:Int) (list_0:(List ByteArray))
noncomputable def FAB:Sj→LI
 | .c0 list_0 level_3=>(tdo Tryz.f115 464,[(0,[.one (.rsl 9 list_0)]),(3,[.one (.int .i64 level_3)])],[])
 | .c1 level_3 list_0=>(tdo Tryz.f115 464,[(0,[.one (.own 48)]),(3,[.one (.int .i64 level_3)])],[(48,.sl 9 list_0)])
noncomputable def Rx (z0:Je) (k:Sj→Option ByteArray) (list_0:(List ByteArray)):Option ByteArray:=
 bif ((list_0.length:Int) != 4) then
 some ⟨#[]⟩
 else
 k (.c0 list_0 1)
noncomputable def Tj (z0:Je) (k:Sj→Option ByteArray):Sj→Option ByteArray
 | .c0 list_0 level_3=>
 bif (decide ((list_0.length:Int) > 1)) then
  (z0 level_3 list_0).bind fun r0=>
  k (.c1 (w64 (level_3+1)) r0)
 else
  bif ((decide ((0:Int)≤(0:Int))) && (decide (0<(list_0.length:Int)))) then
  some (list_0.getD (0:Int).toNat (⟨#[]⟩:ByteArray))
  else none
 | .c1 level_3 list_0=>
 bif (decide ((list_0.length:Int) > 1)) then
  (z0 level_3 list_0).bind fun r0=>
  k (.c1 (w64 (level_3+1)) r0)
 else
  bif ((decide ((0:Int)≤(0:Int))) && (decide (0<(list_0.length:Int)))) then
  some (list_0.getD (0:Int).toNat (⟨#[]⟩:ByteArray))
  else none
noncomputable def Uj:Nat→Sj→Option ByteArray
 | 0,_=>none
 | m+1,s=>Tj DZ (Uj m) s
noncomputable def Vj:Qx:=Rx DZ (Uj gas)
theorem YAH:Tells ctx PP 115 cv40 cv8 (fun a=>Vj a):=
 have b:∀ z0,CutIs ctx PP 115 Tryz.f115 [] [(158,Wp z0)] cv8 FAB (Tj z0):=fun z0 _ s=>by cases s <;> kernel_rfl
 have e:∀ z0,EntryIs ctx PP 115 [] [(158,Wp z0)] cv40 cv8 FAB (fun k a=>Rx z0 k a):=fun z0 _ a=>by kernel_rfl
 fn_ok (hc EAB hl_nil) Tryz.func115 (fun s s' h=>by cases s <;> cases s' <;> first | (cases h;done) | (cases h;rfl) | exact (rg_ne h (by kernel_rfl)).elim) (fun _=>rfl) (fun _ _=>rfl) (b DZ) (e DZ) gas
noncomputable def ZAH {γ:Type} (F:Qx):Hd ctx γ:=hdl cv40.dec (fun a=>F a) cv8.enc
abbrev Ux:=ByteArray→Option ByteArray
noncomputable def Vx (z0:Jp) (z1:Qx) (seed_0:ByteArray):Option ByteArray:=
 (z0 seed_0).bind fun r0=>
 (z1 r0).bind fun r1=>
 some r1
noncomputable def Me:Ux:=Vx Bc Vj
theorem AAI:Tells ctx PP 66 cv8 cv8 (fun a=>Me a):=fn_ok0 (hc AAB (hc YAH hl_nil)) Tryz.func66 ((fun z0 z1 a=>by kernel_rfl:∀ z0 z1,EntryIs0 ctx PP 66 [] [(116,BAB z0),(115,ZAH z1)] cv8 cv8 fun a=>Vx z0 z1 a) Bc Vj)
noncomputable def BAI {γ:Type} (F:Ux):Hd ctx γ:=hdl cv8.dec (fun a=>F a) cv8.enc
abbrev Xp:=ByteArray→Option (List Int)
inductive Wj where
 | c0 (rest_4:Int) (s_5:ByteArray) (v_11:Int) (out_3:(List Int))
 | c1 (rest_4:Int) (v_29:Int) (v_30:Int) (out_3:(List Int))
noncomputable def GAB:Wj→LI
 | .c0 rest_4 s_5 v_11 out_3=>(tdo Tryz.f267 1000,[(3,[.one (.own 240)]),(4,[.one (.int .i64 rest_4)]),(5,[.one (.str s_5)]),(11,[.one (.int .i64 v_11)])],[(240,.sl 3 out_3)])
 | .c1 rest_4 v_29 v_30 out_3=>(tdo Tryz.f267 2024,[(3,[.one (.own 240)]),(4,[.one (.int .i64 rest_4)]),(28,[.one (.own 240)]),(29,[.one (.int .i64 v_29)]),(30,[.one (.int .i64 v_30)])],[(240,.sl 3 out_3)])
noncomputable def Wx (z0:MZ) (k:Wj→Option (List Int)) (m_0:ByteArray):Option (List Int):=
 (z0 m_0).bind fun r0=>
 k (.c0 0 r0 0 [])
noncomputable def Oe (z0:MZ) (k:Wj→Option (List Int)):Wj→Option (List Int)
 | .c0 rest_4 s_5 v_11 out_3=>
 bif (decide (v_11<4)) then
  bif ((decide (0≤v_11)) && (decide (v_11<(s_5.size:Int)))) then
  bif ((decide (0≤v_11)) && (decide (v_11<(s_5.size:Int)))) then
  bif (decide (((out_3.length+2)*8)≤140737488355328)) then
  k (.c0 rest_4 s_5 (w64 (v_11+1)) (out_3++[(w64 (Int.fdiv (bt s_5 v_11) (2 ^ (Min.min (4:Int).toNat (IntKind.bits IntKind.u8))))),(w64 (w8 (((BitVec.toNat ((BitVec.ofInt (IntKind.bits IntKind.u8) (bt s_5 v_11)) &&& (BitVec.ofInt (IntKind.bits IntKind.u8) 15))):Nat):Int)))]))
  else none
  else none
  else none
 else
  k (.c1 rest_4 (out_3.length:Int) 0 out_3)
 | .c1 rest_4 v_29 v_30 out_3=>
 bif (decide (v_30<v_29)) then
  bif ((decide (0≤v_30)) && (decide (v_30<(out_3.length:Int)))) then
  k (.c1 (w64 (rest_4+(w64 (15 - (out_3.getD v_30.toNat 0))))) v_29 (w64 (v_30+1)) out_3)
  else none
 else
  bif (decide (((out_3.length+2)*8)≤140737488355328)) then
  some (out_3++[(w64 (rest_4.tdiv 16)),(rest_4.tmod 16)])
  else none
noncomputable def Cb:Nat→Wj→Option (List Int)
 | 0,_=>none
 | m+1,s=>Oe QY (Cb m) s
noncomputable def Ic:Xp:=Wx QY (Cb gas)
theorem CAI:Tells ctx PP 267 cv8 cv17 (fun a=>Ic a):=
 have b:∀ z0,CutIs ctx PP 267 Tryz.f267 [] [(204,Ea z0)] cv17 GAB (Oe z0):=fun z0 _ s=>by cases s <;> kernel_rfl
 have e:∀ z0,EntryIs ctx PP 267 [] [(204,Ea z0)] cv8 cv17 GAB (fun k a=>Wx z0 k a):=fun z0 _ a=>by kernel_rfl
 fn_ok (hc Gj hl_nil) Tryz.func267 (fun s s' h=>by cases s <;> cases s' <;> first | (cases h;done) | (cases h;rfl) | exact (rg_ne h (by kernel_rfl)).elim) (fun _=>rfl) (fun _ _=>rfl) (b QY) (e QY) gas
noncomputable def IAB {γ:Type} (F:Xp):Hd ctx γ:=hdl cv8.dec (fun a=>F a) cv17.enc
abbrev Xx:=(List ByteArray)→Int→ByteArray→Option (List ByteArray)
inductive Xj where
 | c0 (leaf_1:Int) (v_16:(List ByteArray)) (v_17:Int) (v_18:Int) (digits_7:(List Int)) (out_8:(List ByteArray))
noncomputable def JAB:Xj→LI
 | .c0 leaf_1 v_16 v_17 v_18 digits_7 out_8=>(tdo Tryz.f248 1000,[(1,[.one (.int .i64 leaf_1)]),(7,[.one (.own 496)]),(8,[.one (.own 560)]),(16,[.one (.rsl 9 v_16)]),(17,[.one (.int .i64 v_17)]),(18,[.one (.int .i64 v_18)])],[(496,.sl 3 digits_7),(560,.sl 9 out_8)])
noncomputable def Yx (z0:Xp) (z1:Ie) (k:Xj→Option (List ByteArray)) (keys_0:(List ByteArray)) (leaf_1:Int) (m_2:ByteArray):Option (List ByteArray):=
 bif ((keys_0.length:Int) != 10) then
 some []
 else
 (z0 m_2).bind fun r0=>
 k (.c0 leaf_1 keys_0 (keys_0.length:Int) 0 r0 [])
noncomputable def Yp (z0:Xp) (z1:Ie) (k:Xj→Option (List ByteArray)):Xj→Option (List ByteArray)
 | .c0 leaf_1 v_16 v_17 v_18 digits_7 out_8=>
 bif (decide (v_18<v_17)) then
  bif ((decide (0≤v_18)) && (decide (v_18<(v_16.length:Int)))) then
  bif ((decide (0≤v_18)) && (decide (v_18<(digits_7.length:Int)))) then
  (z1 (v_16.getD v_18.toNat (⟨#[]⟩:ByteArray)) leaf_1 v_18 0 (digits_7.getD v_18.toNat 0)).bind fun r0=>
  bif (decide (((out_8.length+1)*16)≤140737488355328)) then
  k (.c0 leaf_1 v_16 v_17 (w64 (v_18+1)) digits_7 (out_8++[r0]))
  else none
  else none
  else none
 else
  some out_8
noncomputable def Qe:Nat→Xj→Option (List ByteArray)
 | 0,_=>none
 | m+1,s=>Yp Ic CZ (Qe m) s
noncomputable def Yj:Xx:=Yx Ic CZ (Qe gas)
theorem DAI:Tells ctx PP 248 cv121 cv35 (fun a=>Yj a.1 a.2.1 a.2.2):=
 have b:∀ z0 z1,CutIs ctx PP 248 Tryz.f248 [] [(267,IAB z0),(226,Ep z1)] cv35 JAB (Yp z0 z1):=fun z0 z1 _ s=>by cases s <;> kernel_rfl
 have e:∀ z0 z1,EntryIs ctx PP 248 [] [(267,IAB z0),(226,Ep z1)] cv121 cv35 JAB (fun k a=>Yx z0 z1 k a.1 a.2.1 a.2.2):=fun z0 z1 _ a=>by kernel_rfl
 fn_ok (hc CAI (hc WAA hl_nil)) Tryz.func248 (fun s s' h=>by cases s;cases s';cases h;rfl) (fun _=>rfl) (fun _ _=>rfl) (b Ic CZ) (e Ic CZ) gas
noncomputable def EAI {γ:Type} (F:Xx):Hd ctx γ:=hdl cv121.dec (fun a=>F a.1 a.2.1 a.2.2) cv35.enc
abbrev Zx:=(List ByteArray)→Int→Option (List ByteArray)
inductive Zj where
 | c0 (list_0:(List ByteArray)) (leaf_1:Int) (level_6:Int) (out_5:(List ByteArray))
 | c1 (leaf_1:Int) (level_6:Int) (list_0:(List ByteArray)) (out_5:(List ByteArray))
noncomputable def KAB:Zj→LI
 | .c0 list_0 leaf_1 level_6 out_5=>(tdo Tryz.f249 976,[(0,[.one (.rsl 9 list_0)]),(1,[.one (.int .i64 leaf_1)]),(5,[.one (.own 368)]),(6,[.one (.int .i64 level_6)])],[(368,.sl 9 out_5)])
 | .c1 leaf_1 level_6 list_0 out_5=>(tdo Tryz.f249 976,[(0,[.one (.own 48)]),(1,[.one (.int .i64 leaf_1)]),(5,[.one (.own 368)]),(6,[.one (.int .i64 level_6)])],[(48,.sl 9 list_0),(368,.sl 9 out_5)])
noncomputable def Dy (z0:CV) (z1:Je) (k:Zj→Option (List ByteArray)) (list_0:(List ByteArray)) (leaf_1:Int):Option (List ByteArray):=
 bif ((list_0.length:Int) != 4) then
 some []
 else
 (z0 leaf_1 0 3).bind fun r0=>
 bif (!r0) then
  some []
 else
  k (.c0 list_0 leaf_1 1 [])
noncomputable def Ak (z0:CV) (z1:Je) (k:Zj→Option (List ByteArray)):Zj→Option (List ByteArray)
 | .c0 list_0 leaf_1 level_6 out_5=>
 bif (decide ((list_0.length:Int) > 1)) then
  bif ((decide (0≤(w64 (((BitVec.toNat ((BitVec.ofInt (IntKind.bits IntKind.i64) leaf_1) ^^^ (BitVec.ofInt (IntKind.bits IntKind.i64) 1))):Nat):Int)))) && (decide ((w64 (((BitVec.toNat ((BitVec.ofInt (IntKind.bits IntKind.i64) leaf_1) ^^^ (BitVec.ofInt (IntKind.bits IntKind.i64) 1))):Nat):Int))<(list_0.length:Int)))) then
  bif (decide (((out_5.length+1)*16)≤140737488355328)) then
  (z1 level_6 list_0).bind fun r0=>
  k (.c1 (w64 (leaf_1.tdiv 2)) (w64 (level_6+1)) r0 (out_5++[(list_0.getD (w64 (((BitVec.toNat ((BitVec.ofInt (IntKind.bits IntKind.i64) leaf_1) ^^^ (BitVec.ofInt (IntKind.bits IntKind.i64) 1))):Nat):Int)).toNat (⟨#[]⟩:ByteArray))]))
  else none
  else none
 else
  some out_5
 | .c1 leaf_1 level_6 list_0 out_5=>
 bif (decide ((list_0.length:Int) > 1)) then
  bif ((decide (0≤(w64 (((BitVec.toNat ((BitVec.ofInt (IntKind.bits IntKind.i64) leaf_1) ^^^ (BitVec.ofInt (IntKind.bits IntKind.i64) 1))):Nat):Int)))) && (decide ((w64 (((BitVec.toNat ((BitVec.ofInt (IntKind.bits IntKind.i64) leaf_1) ^^^ (BitVec.ofInt (IntKind.bits IntKind.i64) 1))):Nat):Int))<(list_0.length:Int)))) then
  bif (decide (((out_5.length+1)*16)≤140737488355328)) then
  (z1 level_6 list_0).bind fun r0=>
  k (.c1 (w64 (leaf_1.tdiv 2)) (w64 (level_6+1)) r0 (out_5++[(list_0.getD (w64 (((BitVec.toNat ((BitVec.ofInt (IntKind.bits IntKind.i64) leaf_1) ^^^ (BitVec.ofInt (IntKind.bits IntKind.i64) 1))):Nat):Int)).toNat (⟨#[]⟩:ByteArray))]))
  else none
  else none
 else
  some out_5
noncomputable def Eb:Nat→Zj→Option (List ByteArray)
 | 0,_=>none
 | m+1,s=>Ak impl_in DZ (Eb m) s
noncomputable def Ik:Zx:=Dy impl_in DZ (Eb gas)
theorem FAI:Tells ctx PP 249 cv37 cv35 (fun a=>Ik a.1 a.2):=
 have b:∀ z0 z1,CutIs ctx PP 249 Tryz.f249 [] [(36,OY z0),(158,Wp z1)] cv35 KAB (Ak z0 z1):=fun z0 z1 _ s=>by cases s <;> kernel_rfl
 have e:∀ z0 z1,EntryIs ctx PP 249 [] [(36,OY z0),(158,Wp z1)] cv37 cv35 KAB (fun k a=>Dy z0 z1 k a.1 a.2):=fun z0 z1 _ a=>by kernel_rfl
 fn_ok (hc UY (hc EAB hl_nil)) Tryz.func249 (fun s s' h=>by cases s <;> cases s' <;> first | (cases h;done) | (cases h;rfl) | exact (rg_ne h (by kernel_rfl)).elim) (fun _=>rfl) (fun _ _=>rfl) (b impl_in DZ) (e impl_in DZ) gas
noncomputable def GAI {γ:Type} (F:Zx):Hd ctx γ:=hdl cv37.dec (fun a=>F a.1 a.2) cv35.enc
abbrev Ey:=ByteArray→Int→ByteArray→Option (SSig×Bool)
noncomputable def Gy (z0:CV) (z1:Ij) (z2:Xx) (z3:Jp) (z4:Zx) (seed_0:ByteArray) (leaf_1:Int) (m_2:ByteArray):Option (SSig×Bool):=
 (z0 leaf_1 0 3).bind fun r0=>
 bif (!r0) then
 some (⟨0,[],[]⟩,false)
 else
 (z1 seed_0 leaf_1).bind fun r1=>
 (z2 r1 leaf_1 m_2).bind fun r2=>
 (z3 seed_0).bind fun r3=>
 (z4 r3 leaf_1).bind fun r4=>
 some (⟨leaf_1,r2,r4⟩,true)
noncomputable def Jc:Ey:=Gy impl_in Fa Yj Bc Ik
theorem HAI:Tells ctx PP 231 cv76 cv122 (fun a=>Jc a.1 a.2.1 a.2.2):=fn_ok0 (hc UY (hc SAA (hc DAI (hc AAB (hc FAI hl_nil))))) Tryz.func231 ((fun z0 z1 z2 z3 z4 a=>by kernel_rfl:∀ z0 z1 z2 z3 z4,EntryIs0 ctx PP 231 [] [(36,OY z0),(160,Uw z1),(248,EAI z2),(116,BAB z3),(249,GAI z4)] cv76 cv122 fun a=>Gy z0 z1 z2 z3 z4 a.1 a.2.1 a.2.2) impl_in Fa Yj Bc Ik)
noncomputable def IAI {γ:Type} (F:Ey):Hd ctx γ:=hdl cv76.dec (fun a=>F a.1 a.2.1 a.2.2) cv122.enc
abbrev Hy:=ByteArray→Int→ByteArray→Option (SHyper×Bool)
noncomputable def Iy (z0:CV) (z1:AZ) (z2:Ux) (z3:Ey) (seed_0:ByteArray) (index_1:Int) (m_2:ByteArray):Option (SHyper×Bool):=
 (z0 index_1 0 15).bind fun r0=>
 bif (!r0) then
 some (⟨⟨0,[],[]⟩,⟨#[]⟩,⟨0,[],[]⟩⟩,false)
 else
 (z1 (w64 (index_1.tdiv 4))).bind fun r1=>
 bif (decide ((seed_0.size+r1.size)≤9223372036854775807)) then
 bif (decide (((seed_0++r1).size+(⟨#[108]⟩:ByteArray).size)≤9223372036854775807)) then
 (z2 ((seed_0++r1)++(⟨#[108]⟩:ByteArray))).bind fun r2=>
 (z3 ((seed_0++r1)++(⟨#[108]⟩:ByteArray)) (index_1.tmod 4) m_2).bind fun r3=>
 bif (decide ((seed_0.size+(⟨#[116]⟩:ByteArray).size)≤9223372036854775807)) then
 (z3 (seed_0++(⟨#[116]⟩:ByteArray)) (w64 (index_1.tdiv 4)) r2).bind fun r4=>
 some (⟨r4.1,r2,r3.1⟩,true)
 else none
 else none
 else none
noncomputable def Jk:Hy:=Iy impl_in impl_oneByte Me Jc
theorem JAI:Tells ctx PP 216 cv76 cv123 (fun a=>Jk a.1 a.2.1 a.2.2):=fn_ok0 (hc UY (hc Za (hc AAI (hc HAI hl_nil)))) Tryz.func216 ((fun z0 z1 z2 z3 a=>by kernel_rfl:∀ z0 z1 z2 z3,EntryIs0 ctx PP 216 [] [(36,OY z0),(30,JZ z1),(66,BAI z2),(231,IAI z3)] cv76 cv123 fun a=>Iy z0 z1 z2 z3 a.1 a.2.1 a.2.2) impl_in impl_oneByte Me Jc)
noncomputable def KAI {γ:Type} (F:Hy):Hd ctx γ:=hdl cv76.dec (fun a=>F a.1 a.2.1 a.2.2) cv123.enc
abbrev Jy:=(List ByteArray)→Int→Option Bool
inductive Nk where
 | c0 (l_0:(List ByteArray)) (n_1:Int) (v_7:(List ByteArray)) (v_8:Int) (v_9:Int)
noncomputable def LAB:Nk→LI
 | .c0 l_0 n_1 v_7 v_8 v_9=>(tdo Tryz.f268 104,[(0,[.one (.rsl 9 l_0)]),(1,[.one (.int .i64 n_1)]),(7,[.one (.rsl 9 v_7)]),(8,[.one (.int .i64 v_8)]),(9,[.one (.int .i64 v_9)])],[])
noncomputable def Ky (k:Nk→Option Bool) (l_0:(List ByteArray)) (n_1:Int):Option Bool:=
 k (.c0 l_0 n_1 l_0 (l_0.length:Int) 0)
noncomputable def Zp (k:Nk→Option Bool):Nk→Option Bool
 | .c0 l_0 n_1 v_7 v_8 v_9=>
 bif (decide (v_9<v_8)) then
  bif ((decide (0≤v_9)) && (decide (v_9<(v_7.length:Int)))) then
  bif (((v_7.getD v_9.toNat (⟨#[]⟩:ByteArray)).size:Int) != 4) then
  some false
  else
  k (.c0 l_0 n_1 v_7 v_8 (w64 (v_9+1)))
  else none
 else
  some ((l_0.length:Int) == n_1)
noncomputable def Qk:Nat→Nk→Option Bool
 | 0,_=>none
 | m+1,s=>Zp (Qk m) s
noncomputable def Lc:Jy:=Ky (Qk gas)
theorem LAI:Tells ctx PP 268 cv37 cv4 (fun a=>Lc a.1 a.2):=
 have b:CutIs ctx PP 268 Tryz.f268 [] [] cv4 LAB (Zp):=fun _ s=>by cases s <;> kernel_rfl
 have e:EntryIs ctx PP 268 [] [] cv37 cv4 LAB (fun k a=>Ky k a.1 a.2):=fun _ a=>by kernel_rfl
 fn_ok hl_nil Tryz.func268 (fun s s' h=>by cases s;cases s';cases h;rfl) (fun _=>rfl) (fun _ _=>rfl) b e gas
noncomputable def MAI {γ:Type} (F:Jy):Hd ctx γ:=hdl cv37.dec (fun a=>F a.1 a.2) cv4.enc
abbrev Aq:=SSig→Option Bool
noncomputable def Ny (z0:CV) (z1:Jy) (s_0:SSig):Option Bool:=
 (z0 s_0.fLeaf 0 3).bind fun r0=>
 bif r0 then
 (z1 s_0.fOnce 10).bind fun r1=>
 bif r1 then
  (z1 s_0.fPath 2).bind fun r2=>
  some r2
 else
  some false
 else
 some false
noncomputable def Mc:Aq:=Ny impl_in Lc
theorem NAI:Tells ctx PP 250 cv124 cv4 (fun a=>Mc a):=fn_ok0 (hc UY (hc LAI hl_nil)) Tryz.func250 ((fun z0 z1 a=>by kernel_rfl:∀ z0 z1,EntryIs0 ctx PP 250 [] [(36,OY z0),(268,MAI z1)] cv124 cv4 fun a=>Ny z0 z1 a) impl_in Lc)
noncomputable def MAB {γ:Type} (F:Aq):Hd ctx γ:=hdl cv124.dec (fun a=>F a) cv4.enc
abbrev Oy:=SSig→Option (ByteArray×Bool)
inductive Rk where
 | c0 (out_4:ByteArray) (v_16:(List ByteArray)) (v_17:Int) (v_18:Int) (s_1:SSig)
 | c1 (out_4:ByteArray) (v_27:(List ByteArray)) (v_28:Int) (v_29:Int)
noncomputable def NAB:Rk→LI
 | .c0 out_4 v_16 v_17 v_18 s_1=>(tdo Tryz.f232 488,[(1,[.one (.ptr 64 0)]),(4,[.one (.str out_4)]),(16,[.one (.rsl 9 v_16)]),(17,[.one (.int .i64 v_17)]),(18,[.one (.int .i64 v_18)])],[(64,.var [.int .i64 s_1.fLeaf,.rsl 9 s_1.fOnce,.rsl 9 s_1.fPath])])
 | .c1 out_4 v_27 v_28 v_29=>(tdo Tryz.f232 1000,[(4,[.one (.str out_4)]),(27,[.one (.rsl 9 v_27)]),(28,[.one (.int .i64 v_28)]),(29,[.one (.int .i64 v_29)])],[])
noncomputable def Py (z0:Aq) (z1:AZ) (k:Rk→Option (ByteArray×Bool)) (s_0:SSig):Option (ByteArray×Bool):=
 (z0 s_0).bind fun r0=>
 bif (!r0) then
 some (⟨#[]⟩,false)
 else
 (z1 s_0.fLeaf).bind fun r1=>
 k (.c0 r1 s_0.fOnce (s_0.fOnce.length:Int) 0 s_0)
noncomputable def Ue (z0:Aq) (z1:AZ) (k:Rk→Option (ByteArray×Bool)):Rk→Option (ByteArray×Bool)
 | .c0 out_4 v_16 v_17 v_18 s_1=>
 bif (decide (v_18<v_17)) then
  bif ((decide (0≤v_18)) && (decide (v_18<(v_16.length:Int)))) then
  bif (decide ((out_4.size+(v_16.getD v_18.toNat (⟨#[]⟩:ByteArray)).size)≤9223372036854775807)) then
  k (.c0 (out_4++(v_16.getD v_18.toNat (⟨#[]⟩:ByteArray))) v_16 v_17 (w64 (v_18+1)) s_1)
  else none
  else none
 else
  k (.c1 out_4 s_1.fPath (s_1.fPath.length:Int) 0)
 | .c1 out_4 v_27 v_28 v_29=>
 bif (decide (v_29<v_28)) then
  bif ((decide (0≤v_29)) && (decide (v_29<(v_27.length:Int)))) then
  bif (decide ((out_4.size+(v_27.getD v_29.toNat (⟨#[]⟩:ByteArray)).size)≤9223372036854775807)) then
  k (.c1 (out_4++(v_27.getD v_29.toNat (⟨#[]⟩:ByteArray))) v_27 v_28 (w64 (v_29+1)))
  else none
  else none
 else
  some (out_4,true)
noncomputable def Fb:Nat→Rk→Option (ByteArray×Bool)
 | 0,_=>none
 | m+1,s=>Ue Mc impl_oneByte (Fb m) s
noncomputable def Uk:Oy:=Py Mc impl_oneByte (Fb gas)
theorem OAI:Tells ctx PP 232 cv124 cv28 (fun a=>Uk a):=
 have b:∀ z0 z1,CutIs ctx PP 232 Tryz.f232 [] [(250,MAB z0),(30,JZ z1)] cv28 NAB (Ue z0 z1):=fun z0 z1 _ s=>by cases s <;> kernel_rfl
 have e:∀ z0 z1,EntryIs ctx PP 232 [] [(250,MAB z0),(30,JZ z1)] cv124 cv28 NAB (fun k a=>Py z0 z1 k a):=fun z0 z1 _ a=>by kernel_rfl
 fn_ok (hc NAI (hc Za hl_nil)) Tryz.func232 (fun s s' h=>by cases s <;> cases s' <;> first | ((repeat cases ‹SSig›);cases h;done) | ((repeat cases ‹SSig›);cases h;rfl) | exact (rg_ne h (by kernel_rfl)).elim) (fun _=>rfl) (fun _ _=>rfl) (b Mc impl_oneByte) (e Mc impl_oneByte) gas
noncomputable def PAI {γ:Type} (F:Oy):Hd ctx γ:=hdl cv124.dec (fun a=>F a) cv28.enc
abbrev Qy:=SHyper→Option (ByteArray×Bool)
noncomputable def Ry (z0:Oy) (h_0:SHyper):Option (ByteArray×Bool):=
 (z0 h_0.fTop).bind fun r0=>
 (z0 h_0.fLow).bind fun r1=>
 bif (!r0.2) then
 some (⟨#[]⟩,false)
 else
 bif (!r1.2) then
  some (⟨#[]⟩,false)
 else
  bif ((h_0.fRoot.size:Int) != 4) then
  some (⟨#[]⟩,false)
  else
  bif (decide ((r0.1.size+h_0.fRoot.size)≤9223372036854775807)) then
  bif (decide (((r0.1++h_0.fRoot).size+r1.1.size)≤9223372036854775807)) then
  some (((r0.1++h_0.fRoot)++r1.1),true)
  else none
  else none
noncomputable def Vk:Qy:=Ry Uk
theorem QAI:Tells ctx PP 217 cv125 cv28 (fun a=>Vk a):=fn_ok0 (hc OAI hl_nil) Tryz.func217 ((fun z0 a=>by kernel_rfl:∀ z0,EntryIs0 ctx PP 217 [] [(232,PAI z0)] cv125 cv28 fun a=>Ry z0 a) Uk)
noncomputable def RAI {γ:Type} (F:Qy):Hd ctx γ:=hdl cv125.dec (fun a=>F a) cv28.enc
abbrev Uy:=SBox→SCall→SThing→Option ((List SRec)×Int×ByteArray)
noncomputable def Vy (z0:Bg) (z1:Xb) (z2:Hy) (z3:Qy) (b_0:SBox) (c_1:SCall) (x_2:SThing):Option ((List SRec)×Int×ByteArray):=
 (z0 b_0 x_2.fId).bind fun r0=>
 bif (decide (r0≥16)) then
 (z1 1).bind fun r1=>
 some (r1.1,(r1.2.1,r1.2.2))
 else
 (z2 x_2.fValue r0 c_1.fText).bind fun r2=>
 (z3 r2.1).bind fun r3=>
 bif (r0 != x_2.fNext) then
  some ([],(0,r3.1))
 else
  some ([⟨3,⟨#[]⟩,0,⟨x_2.fId,x_2.fKind,x_2.fHidden,x_2.fFixed,x_2.fSigns,x_2.fWraps,x_2.fValue,(ite (16<(w64 (x_2.fNext+3))) 16 (w64 (x_2.fNext+3)))⟩⟩],(0,r3.1))
noncomputable def Bq:Uy:=Vy impl_LeafOf impl_refused Jk Vk
theorem SAI:Tells ctx PP 185 cv126 cv112 (fun a=>Bq a.1 a.2.1 a.2.2):=fn_ok0 (hc X4 (hc Zi (hc JAI (hc QAI hl_nil)))) Tryz.func185 ((fun z0 z1 z2 z3 a=>by kernel_rfl:∀ z0 z1 z2 z3,EntryIs0 ctx PP 185 [] [(96,Xr z0),(130,Aj z1),(216,KAI z2),(217,RAI z3)] cv126 cv112 fun a=>Vy z0 z1 z2 z3 a.1 a.2.1 a.2.2) impl_LeafOf impl_refused Jk Vk)
noncomputable def TAI {γ:Type} (F:Uy):Hd ctx γ:=hdl cv126.dec (fun a=>F a.1 a.2.1 a.2.2) cv112.enc
abbrev Wy:=SBox→Option ByteArray
noncomputable def Xy:Wy:=fun _=>none
theorem UAI:Tells ctx PP 182 cv109 cv8 (fun a=>Xy a):=fun _ r h=>by
 have h:none=some r:=h
 cases h
noncomputable def VAI {γ:Type} (F:Wy):Hd ctx γ:=hdl cv109.dec (fun a=>F a) cv8.enc
abbrev Yy:=ByteArray→ByteArray→Option (ByteArray×Bool)
noncomputable def Zy:Yy:=fun _ _=>none
theorem WAI:Tells ctx PP 186 cv75 cv28 (fun a=>Zy a.1 a.2):=fun _ r h=>by
 have h:none=some r:=h
 cases h
noncomputable def XAI {γ:Type} (F:Yy):Hd ctx γ:=hdl cv75.dec (fun a=>F a.1 a.2) cv28.enc
abbrev Az:=ByteArray→Option (SPair×Bool)
noncomputable def Bz:Az:=fun _=>none
theorem YAI:Tells ctx PP 25 cv8 cv34 (fun a=>Bz a):=fun _ r h=>by
 have h:none=some r:=h
 cases h
noncomputable def ZAI {γ:Type} (F:Az):Hd ctx γ:=hdl cv8.dec (fun a=>F a) cv34.enc
abbrev Dz:=ByteArray→ByteArray→Option (ByteArray×Bool)
noncomputable def Ez:Dz:=fun _ _=>none
theorem AAJ:Tells ctx PP 187 cv75 cv28 (fun a=>Ez a.1 a.2):=fun _ r h=>by
 have h:none=some r:=h
 cases h
noncomputable def BAJ {γ:Type} (F:Dz):Hd ctx γ:=hdl cv75.dec (fun a=>F a.1 a.2) cv28.enc
abbrev Fz:=SThing→Bool→Bool→Option (SThing×Bool)
noncomputable def Gz:Fz:=fun _ _ _=>none
theorem CAJ:Tells ctx PP 188 cv127 cv64 (fun a=>Gz a.1 a.2.1 a.2.2):=fun _ r h=>by
 have h:none=some r:=h
 cases h
noncomputable def DAJ {γ:Type} (F:Fz):Hd ctx γ:=hdl cv127.dec (fun a=>F a.1 a.2.1 a.2.2) cv64.enc
abbrev Hz:=SThing→Option ByteArray
noncomputable def Iz:Hz:=fun _=>none
theorem EAJ:Tells ctx PP 9 cv2 cv8 (fun a=>Iz a):=fun _ r h=>by
 have h:none=some r:=h
 cases h
noncomputable def FAJ {γ:Type} (F:Hz):Hd ctx γ:=hdl cv2.dec (fun a=>F a) cv8.enc
abbrev Jz:=SBox→SCall→SThing→Option ((List SRec)×Int×ByteArray)
noncomputable def Kz (z0:Nw) (z1:Uy) (z2:Lh) (z3:Wy) (z4:Yy) (z5:Az) (z6:Dz) (z7:Xb) (z8:Fz) (z9:Hz) (b_0:SBox) (c_1:SCall) (x_2:SThing):Option ((List SRec)×Int×ByteArray):=
 bif (c_1.fOp == 6) then
 (z0 x_2 1).bind fun r0=>
 bif r0 then
  some ([],(0,x_2.fValue))
 else
  (z7 8).bind fun r1=>
  some (r1.1,(r1.2.1,r1.2.2))
 else
 bif (c_1.fOp == 5) then
  (z0 x_2 3).bind fun r2=>
  bif r2 then
  (z1 b_0 c_1 x_2).bind fun r3=>
  some (r3.1,(r3.2.1,r3.2.2))
  else
  (z7 8).bind fun r4=>
  some (r4.1,(r4.2.1,r4.2.2))
 else
  bif (c_1.fOp == 10) then
  (z0 x_2 2).bind fun r5=>
  bif r5 then
   (z2 x_2).bind fun r6=>
   (z3 b_0).bind fun r7=>
   (z4 r7 r6.1).bind fun r8=>
   some ([],(0,r8.1))
  else
   (z7 8).bind fun r9=>
   some (r9.1,(r9.2.1,r9.2.2))
  else
  bif (c_1.fOp == 12) then
   (z0 x_2 4).bind fun r10=>
   bif r10 then
   (z5 x_2.fValue).bind fun r11=>
   (z6 r11.1.fSecret c_1.fText).bind fun r12=>
   bif (!r12.2) then
    (z7 6).bind fun r13=>
    some (r13.1,(r13.2.1,r13.2.2))
   else
    some ([],(0,r12.1))
   else
   (z7 8).bind fun r14=>
   some (r14.1,(r14.2.1,r14.2.2))
  else
   bif (c_1.fOp == 8) then
   (z8 x_2 c_1.fHidden c_1.fFixed).bind fun r15=>
   bif r15.2 then
    some ([⟨3,⟨#[]⟩,0,r15.1⟩],(0,⟨#[]⟩))
   else
    (z7 8).bind fun r16=>
    some (r16.1,(r16.2.1,r16.2.2))
   else
   bif (c_1.fOp == 7) then
    (z9 x_2).bind fun r17=>
    some ([],(0,r17))
   else
    bif (c_1.fOp == 9) then
    some ([⟨4,⟨#[]⟩,x_2.fId,⟨0,0,false,false,false,false,⟨#[]⟩,0⟩⟩],(0,⟨#[]⟩))
    else
    (z7 8).bind fun r18=>
    some (r18.1,(r18.2.1,r18.2.2))
noncomputable def Ve:Jz:=Kz impl_May Bq impl_ThingText Xy Zy Bz Ez impl_refused Gz Iz
theorem GAJ:Tells ctx PP 137 cv126 cv112 (fun a=>Ve a.1 a.2.1 a.2.2):=fn_ok0 (hc QAH (hc SAI (hc Au (hc UAI (hc WAI (hc YAI (hc AAJ (hc Zi (hc CAJ (hc EAJ hl_nil)))))))))) Tryz.func137 ((fun z0 z1 z2 z3 z4 z5 z6 z7 z8 z9 a=>by kernel_rfl:∀ z0 z1 z2 z3 z4 z5 z6 z7 z8 z9,EntryIs0 ctx PP 137 [] [(184,RAH z0),(185,TAI z1),(12,Du z2),(182,VAI z3),(186,XAI z4),(25,ZAI z5),(187,BAJ z6),(130,Aj z7),(188,DAJ z8),(9,FAJ z9)] cv126 cv112 fun a=>Kz z0 z1 z2 z3 z4 z5 z6 z7 z8 z9 a.1 a.2.1 a.2.2) impl_May Bq impl_ThingText Xy Zy Bz Ez impl_refused Gz Iz)
noncomputable def HAJ {γ:Type} (F:Jz):Hd ctx γ:=hdl cv126.dec (fun a=>F a.1 a.2.1 a.2.2) cv112.enc
abbrev Am:=SBox→SCall→Option ((List SRec)×Int×ByteArray)
noncomputable def E_impl_Plan (z0:Vo) (z1:Jo) (z2:Xb) (z3:Bj) (z4:Xf) (z5:Dw) (z6:IZ) (z7:Iw) (z8:Jw) (z9:Oa) (z10:Jz) (t_0:SBox) (o_1:SCall):Option ((List SRec)×Int×ByteArray):=
 (z0 t_0).bind fun r0=>
 bif (!r0) then
 (z2 9).bind fun r1=>
 some (r1.1,(r1.2.1,r1.2.2))
 else
 bif (!t_0.fUp) then
  (z2 9).bind fun r2=>
  some (r2.1,(r2.2.1,r2.2.2))
 else
  (z1 o_1).bind fun r3=>
  bif (!r3) then
  (z2 9).bind fun r4=>
  some (r4.1,(r4.2.1,r4.2.2))
  else
  bif (decide (t_0.fBook.fCount≥10000)) then
   (z2 9).bind fun r5=>
   some (r5.1,(r5.2.1,r5.2.2))
  else
   bif (o_1.fOp == 1) then
   bif (decide ((t_0.fSessions.length:Int)≥3)) then
    (z2 1).bind fun r6=>
    some (r6.1,(r6.2.1,r6.2.2))
   else
    bif (decide (t_0.fOpened≥1000)) then
    (z2 1).bind fun r7=>
    some (r7.1,(r7.2.1,r7.2.2))
    else
    (z3 (w64 (t_0.fOpened+1))).bind fun r8=>
    some ([],(0,r8))
   else
   (z4 t_0 o_1.fSession).bind fun r9=>
   bif (decide (r9<0)) then
    (z2 2).bind fun r10=>
    some (r10.1,(r10.2.1,r10.2.2))
   else
    bif (o_1.fOp == 13) then
    some ([],(0,⟨#[]⟩))
    else
    bif (o_1.fOp == 2) then
     (z5 t_0 o_1).bind fun r11=>
     some (r11.1,(r11.2.1,r11.2.2))
    else
     bif ((decide (0≤r9)) && (decide (r9<(t_0.fSessions.length:Int)))) then
     bif (!(t_0.fSessions.getD r9.toNat (⟨0,false⟩:SSession)).fIn) then
     (z2 5).bind fun r12=>
     some (r12.1,(r12.2.1,r12.2.2))
     else
     bif (o_1.fOp == 3) then
      bif (decide ((o_1.fText.size:Int) > 20)) then
      (z2 6).bind fun r13=>
      some (r13.1,(r13.2.1,r13.2.2))
      else
      (z6 o_1.fText).bind fun r14=>
      some ([⟨1,r14,0,⟨0,0,false,false,false,false,⟨#[]⟩,0⟩⟩],(0,⟨#[]⟩))
     else
      bif (o_1.fOp == 4) then
      (z7 t_0 o_1).bind fun r15=>
      some (r15.1,(r15.2.1,r15.2.2))
      else
      bif (o_1.fOp == 11) then
       (z8 t_0 o_1).bind fun r16=>
       some (r16.1,(r16.2.1,r16.2.2))
      else
       (z9 t_0.fBook o_1.fThing).bind fun r17=>
       bif (!r17.2) then
       (z2 7).bind fun r18=>
       some (r18.1,(r18.2.1,r18.2.2))
       else
       (z10 t_0 o_1 r17.1).bind fun r19=>
       some (r19.1,(r19.2.1,r19.2.2))
     else none
noncomputable def impl_Plan:Am:=E_impl_Plan impl_BoxOk impl_CallOk impl_refused impl_Decimal impl_sessionAt impl_planWord impl_DigestOf Yb Kw impl_ThingOf Ve
theorem PAD:Tells ctx PP 94 cv118 cv112 (fun a=>impl_Plan a.1 a.2):=fn_ok0 (hc NAA (hc Y9 (hc Zi (hc Zv (hc J4 (hc GAH (hc Ba (hc MAH (hc OAH (hc Yl (hc GAJ hl_nil))))))))))) Tryz.func94 ((fun z0 z1 z2 z3 z4 z5 z6 z7 z8 z9 z10 a=>by kernel_rfl:∀ z0 z1 z2 z3 z4 z5 z6 z7 z8 z9 z10,EntryIs0 ctx PP 94 [] [(128,OAA z0),(87,Z9 z1),(130,Aj z2),(131,Aw z3),(132,Vr z4),(133,HAH z5),(50,PZ z6),(134,NAH z7),(135,PAH z8),(136,Jd z9),(137,HAJ z10)] cv118 cv112 fun a=>E_impl_Plan z0 z1 z2 z3 z4 z5 z6 z7 z8 z9 z10 a.1 a.2) impl_BoxOk impl_CallOk impl_refused impl_Decimal impl_sessionAt impl_planWord impl_DigestOf Yb Kw impl_ThingOf Ve)
noncomputable def V4 {γ:Type} (F:Am):Hd ctx γ:=hdl cv118.dec (fun a=>F a.1 a.2) cv112.enc
end Go.Proofs.YtnmmhkanpfmaaaaGreatDoor.G

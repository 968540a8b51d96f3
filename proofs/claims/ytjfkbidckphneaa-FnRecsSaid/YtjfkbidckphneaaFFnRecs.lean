/- Functions of the program, told by plain functions: part 1 of 1. -/
import Derived.Test.YtjfkbidckphneaaCtx
namespace Go.Proofs.Ytjfkbidckphneaa.G
open Go Go.Ev
set_option linter.unusedVariables false
set_option linter.unusedSectionVars false
variable [PC]
abbrev T_laws_big:=Unit→Option Bool
noncomputable def E_laws_big (code_0:Unit):Option Bool:=
 some (decide ((codeL.length:Int) > 1048576))
noncomputable def laws_big:T_laws_big:=E_laws_big
theorem ok_laws_big:Tells ctx PP 5 cv0 cv1 (fun a=>laws_big a):=fn_ok0 hl_nil Try.func5 (fun a=>by kernel_rfl:EntryIs0 ctx PP 5 [] [] cv0 cv1 fun a=>E_laws_big a)
noncomputable def H_laws_big {γ:Type} (F:T_laws_big):Hd ctx γ:=hdl cv0.dec (fun a=>F a) cv1.enc
abbrev T_spec_l01New:=Unit→Option SL01Cur
inductive St_spec_l01New where
 | c0 (h_3:Int) (i_4:Int)
noncomputable def at_spec_l01New:St_spec_l01New→LI
 | .c0 h_3 i_4=>(tdo Try.f18 464,[(0,[.one (.csl)]),(3,[.one (.int .i64 h_3)]),(4,[.one (.int .i64 i_4)])],[])
noncomputable def E_spec_l01New (k:St_spec_l01New→Option SL01Cur) (code_0:Unit):Option SL01Cur:=
 k (.c0 (w64 (27401+(codeL.length:Int))) 0)
noncomputable def B_spec_l01New (k:St_spec_l01New→Option SL01Cur):St_spec_l01New→Option SL01Cur
 | .c0 h_3 i_4=>
 bif (decide (i_4<(codeL.length:Int))) then
  bif (decide (i_4<4000)) then
  bif ((decide (0≤i_4)) && (decide (i_4<(codeL.length:Int)))) then
  bif (Nat.blt i_4.toNat codeL.length) then
  k (.c0 (w64 (((BitVec.toNat ((BitVec.ofInt (IntKind.bits IntKind.i64) (w64 ((w64 ((w64 (h_3*131))+(w64 (codeL.getD i_4.toNat 0))))+7))) &&& (BitVec.ofInt (IntKind.bits IntKind.i64) 1073741823))):Nat):Int)) (w64 (i_4+1)))
  else none
  else none
  else
  some ⟨(),0,h_3⟩
 else
  some ⟨(),0,h_3⟩
noncomputable def L_spec_l01New:Nat→St_spec_l01New→Option SL01Cur
 | 0,_=>none
 | m+1,s=>B_spec_l01New (L_spec_l01New m) s
noncomputable def spec_l01New:T_spec_l01New:=E_spec_l01New (L_spec_l01New gas)
theorem ok_spec_l01New:Tells ctx PP 18 cv0 cv2 (fun a=>spec_l01New a):=
 have b:CutIs ctx PP 18 Try.f18 [] [] cv2 at_spec_l01New (B_spec_l01New):=fun _ s=>by cases s <;> kernel_rfl
 have e:EntryIs ctx PP 18 [] [] cv0 cv2 at_spec_l01New (fun k a=>E_spec_l01New k a):=fun _ a=>by kernel_rfl
 fn_ok hl_nil Try.func18 (fun s s' h=>by cases s;cases s';cases h;rfl) (fun _=>rfl) (fun _ _=>rfl) b e gas
noncomputable def H_spec_l01New {γ:Type} (F:T_spec_l01New):Hd ctx γ:=hdl cv0.dec (fun a=>F a) cv2.enc
abbrev T_spec_l05First:=Option (List Int)
noncomputable def E_spec_l05First  : Option (List Int):=
 some [1779033703,3144134277,1013904242,2773480762,1359893119,2600822924,528734635,1541459225]
noncomputable def spec_l05First:T_spec_l05First:=E_spec_l05First
theorem ok_spec_l05First:Tells ctx PP 71 cv9 cv10 (fun _=>spec_l05First):=fn_ok0 hl_nil Try.func71 (fun _=>by kernel_rfl:EntryIs0 ctx PP 71 [] [] cv9 cv10 fun _=>E_spec_l05First)
noncomputable def H_spec_l05First {γ:Type} (F:T_spec_l05First):Hd ctx γ:=hdl cv9.dec (fun _=>F) cv10.enc
abbrev T_spec_l05Bytes:=(List Int)→Option ByteArray
inductive St_spec_l05Bytes where
 | c0 (words_0:(List Int)) (i_4:Int) (out_3:(List Int))
noncomputable def at_spec_l05Bytes:St_spec_l05Bytes→LI
 | .c0 words_0 i_4 out_3=>(tdo Try.f70 464,[(0,[.one (.rsl 105 words_0)]),(3,[.one (.own 240)]),(4,[.one (.int .i64 i_4)])],[(240,.sl 5 out_3)])
noncomputable def E_spec_l05Bytes (k:St_spec_l05Bytes→Option ByteArray) (words_0:(List Int)):Option ByteArray:=
 k (.c0 words_0 0 [])
noncomputable def B_spec_l05Bytes (k:St_spec_l05Bytes→Option ByteArray):St_spec_l05Bytes→Option ByteArray
 | .c0 words_0 i_4 out_3=>
 bif (decide (i_4<(words_0.length:Int))) then
  bif ((decide (0≤i_4)) && (decide (i_4<(words_0.length:Int)))) then
  bif (decide (((out_3.length+4)*1)≤140737488355328)) then
  k (.c0 words_0 (w64 (i_4+1)) (out_3++[(w8 (w32 ((words_0.getD i_4.toNat 0).tdiv 16777216))),(w8 ((w32 ((words_0.getD i_4.toNat 0).tdiv 65536)).tmod 256)),(w8 ((w32 ((words_0.getD i_4.toNat 0).tdiv 256)).tmod 256)),(w8 ((words_0.getD i_4.toNat 0).tmod 256))]))
  else none
  else none
 else
  some (ofBytes out_3)
noncomputable def L_spec_l05Bytes:Nat→St_spec_l05Bytes→Option ByteArray
 | 0,_=>none
 | m+1,s=>B_spec_l05Bytes (L_spec_l05Bytes m) s
noncomputable def spec_l05Bytes:T_spec_l05Bytes:=E_spec_l05Bytes (L_spec_l05Bytes gas)
theorem ok_spec_l05Bytes:Tells ctx PP 70 cv11 cv12 (fun a=>spec_l05Bytes a):=
 have b:CutIs ctx PP 70 Try.f70 [] [] cv12 at_spec_l05Bytes (B_spec_l05Bytes):=fun _ s=>by cases s <;> kernel_rfl
 have e:EntryIs ctx PP 70 [] [] cv11 cv12 at_spec_l05Bytes (fun k a=>E_spec_l05Bytes k a):=fun _ a=>by kernel_rfl
 fn_ok hl_nil Try.func70 (fun s s' h=>by cases s;cases s';cases h;rfl) (fun _=>rfl) (fun _ _=>rfl) b e gas
noncomputable def H_spec_l05Bytes {γ:Type} (F:T_spec_l05Bytes):Hd ctx γ:=hdl cv11.dec (fun a=>F a) cv12.enc
abbrev T_spec_HasherNew:=Option SHasher
noncomputable def E_spec_HasherNew (z0:T_spec_l05First) (z1:T_spec_l05Bytes)  : Option SHasher:=
 z0.bind fun r0=>
 (z1 r0).bind fun r1=>
 some ⟨r1,⟨#[]⟩,0⟩
noncomputable def spec_HasherNew:T_spec_HasherNew:=E_spec_HasherNew spec_l05First spec_l05Bytes
theorem ok_spec_HasherNew:Tells ctx PP 65 cv9 cv13 (fun _=>spec_HasherNew):=fn_ok0 (hc ok_spec_l05First (hc ok_spec_l05Bytes hl_nil)) Try.func65 ((fun z0 z1 _=>by kernel_rfl:∀ z0 z1,EntryIs0 ctx PP 65 [] [(71,H_spec_l05First z0),(70,H_spec_l05Bytes z1)] cv9 cv13 fun _=>E_spec_HasherNew z0 z1) spec_l05First spec_l05Bytes)
noncomputable def H_spec_HasherNew {γ:Type} (F:T_spec_HasherNew):Hd ctx γ:=hdl cv9.dec (fun _=>F) cv13.enc
abbrev T_spec_l01In:=Int→Int→Int→Option Bool
noncomputable def E_spec_l01In (x_0:Int) (least_1:Int) (most_2:Int):Option Bool:=
 bif (decide (x_0≥least_1)) then
 some (decide (x_0≤most_2))
 else
 some false
noncomputable def spec_l01In:T_spec_l01In:=E_spec_l01In
theorem ok_spec_l01In:Tells ctx PP 21 cv14 cv1 (fun a=>spec_l01In a.1 a.2.1 a.2.2):=fn_ok0 hl_nil Try.func21 (fun a=>by kernel_rfl:EntryIs0 ctx PP 21 [] [] cv14 cv1 fun a=>E_spec_l01In a.1 a.2.1 a.2.2)
noncomputable def H_spec_l01In {γ:Type} (F:T_spec_l01In):Hd ctx γ:=hdl cv14.dec (fun a=>F a.1 a.2.1 a.2.2) cv1.enc
abbrev T_spec_HasherOk:=SHasher→Option Bool
noncomputable def E_spec_HasherOk (z0:T_spec_l01In) (h_0:SHasher):Option Bool:=
 bif ((h_0.fState.size:Int) == 32) then
 bif (decide ((h_0.fRest.size:Int)<64)) then
  (z0 h_0.fCount 0 1000000000).bind fun r0=>
  bif r0 then
  some ((h_0.fCount.tmod 64) == (h_0.fRest.size:Int))
  else
  some false
 else
  some false
 else
 some false
noncomputable def spec_HasherOk:T_spec_HasherOk:=E_spec_HasherOk spec_l01In
theorem ok_spec_HasherOk:Tells ctx PP 66 cv13 cv1 (fun a=>spec_HasherOk a):=fn_ok0 (hc ok_spec_l01In hl_nil) Try.func66 ((fun z0 a=>by kernel_rfl:∀ z0,EntryIs0 ctx PP 66 [] [(21,H_spec_l01In z0)] cv13 cv1 fun a=>E_spec_HasherOk z0 a) spec_l01In)
noncomputable def H_spec_HasherOk {γ:Type} (F:T_spec_HasherOk):Hd ctx γ:=hdl cv13.dec (fun a=>F a) cv1.enc
abbrev T_spec_l05Word:=ByteArray→Int→Option Int
noncomputable def E_spec_l05Word (s_0:ByteArray) (at_1:Int):Option Int:=
 bif ((decide (0≤at_1)) && (decide (at_1<(s_0.size:Int)))) then
 bif ((decide (0≤(w64 (at_1+1)))) && (decide ((w64 (at_1+1))<(s_0.size:Int)))) then
 bif ((decide (0≤(w64 (at_1+2)))) && (decide ((w64 (at_1+2))<(s_0.size:Int)))) then
 bif ((decide (0≤(w64 (at_1+3)))) && (decide ((w64 (at_1+3))<(s_0.size:Int)))) then
 some (w32 ((w32 ((w32 ((w32 ((w32 (bt s_0 at_1))*16777216))+(w32 ((w32 (bt s_0 (w64 (at_1+1))))*65536))))+(w32 ((w32 (bt s_0 (w64 (at_1+2))))*256))))+(w32 (bt s_0 (w64 (at_1+3))))))
 else none
 else none
 else none
 else none
noncomputable def spec_l05Word:T_spec_l05Word:=E_spec_l05Word
theorem ok_spec_l05Word:Tells ctx PP 72 cv15 cv16 (fun a=>spec_l05Word a.1 a.2):=fn_ok0 hl_nil Try.func72 (fun a=>by kernel_rfl:EntryIs0 ctx PP 72 [] [] cv15 cv16 fun a=>E_spec_l05Word a.1 a.2)
noncomputable def H_spec_l05Word {γ:Type} (F:T_spec_l05Word):Hd ctx γ:=hdl cv15.dec (fun a=>F a.1 a.2) cv16.enc
abbrev T_spec_l05Words:=ByteArray→Option (List Int)
inductive St_spec_l05Words where
 | c0 (s_0:ByteArray) (i_4:Int) (out_3:(List Int))
noncomputable def at_spec_l05Words:St_spec_l05Words→LI
 | .c0 s_0 i_4 out_3=>(tdo Try.f67 464,[(0,[.one (.str s_0)]),(3,[.one (.own 240)]),(4,[.one (.int .i64 i_4)])],[(240,.sl 105 out_3)])
noncomputable def E_spec_l05Words (z0:T_spec_l05Word) (k:St_spec_l05Words→Option (List Int)) (s_0:ByteArray):Option (List Int):=
 k (.c0 s_0 0 [])
noncomputable def B_spec_l05Words (z0:T_spec_l05Word) (k:St_spec_l05Words→Option (List Int)):St_spec_l05Words→Option (List Int)
 | .c0 s_0 i_4 out_3=>
 bif (decide ((w64 (i_4+4))≤(s_0.size:Int))) then
  (z0 s_0 i_4).bind fun r0=>
  bif (decide (((out_3.length+1)*4)≤140737488355328)) then
  k (.c0 s_0 (w64 (i_4+4)) (out_3++[r0]))
  else none
 else
  some out_3
noncomputable def L_spec_l05Words:Nat→St_spec_l05Words→Option (List Int)
 | 0,_=>none
 | m+1,s=>B_spec_l05Words spec_l05Word (L_spec_l05Words m) s
noncomputable def spec_l05Words:T_spec_l05Words:=E_spec_l05Words spec_l05Word (L_spec_l05Words gas)
theorem ok_spec_l05Words:Tells ctx PP 67 cv12 cv10 (fun a=>spec_l05Words a):=
 have b:∀ z0,CutIs ctx PP 67 Try.f67 [] [(72,H_spec_l05Word z0)] cv10 at_spec_l05Words (B_spec_l05Words z0):=fun z0 _ s=>by cases s <;> kernel_rfl
 have e:∀ z0,EntryIs ctx PP 67 [] [(72,H_spec_l05Word z0)] cv12 cv10 at_spec_l05Words (fun k a=>E_spec_l05Words z0 k a):=fun z0 _ a=>by kernel_rfl
 fn_ok (hc ok_spec_l05Word hl_nil) Try.func67 (fun s s' h=>by cases s;cases s';cases h;rfl) (fun _=>rfl) (fun _ _=>rfl) (b spec_l05Word) (e spec_l05Word) gas
noncomputable def H_spec_l05Words {γ:Type} (F:T_spec_l05Words):Hd ctx γ:=hdl cv12.dec (fun a=>F a) cv10.enc
abbrev T_spec_l05K:=Option (List Int)
noncomputable def E_spec_l05K  : Option (List Int):=
 some [1116352408,1899447441,3049323471,3921009573,961987163,1508970993,2453635748,2870763221,3624381080,310598401,607225278,1426881987,1925078388,2162078206,2614888103,3248222580,3835390401,4022224774,264347078,604807628,770255983,1249150122,1555081692,1996064986,2554220882,2821834349,2952996808,3210313671,3336571891,3584528711,113926993,338241895,666307205,773529912,1294757372,1396182291,1695183700,1986661051,2177026350,2456956037,2730485921,2820302411,3259730800,3345764771,3516065817,3600352804,4094571909,275423344,430227734,506948616,659060556,883997877,958139571,1322822218,1537002063,1747873779,1955562222,2024104815,2227730452,2361852424,2428436474,2756734187,3204031479,3329325298]
noncomputable def spec_l05K:T_spec_l05K:=E_spec_l05K
theorem ok_spec_l05K:Tells ctx PP 68 cv9 cv10 (fun _=>spec_l05K):=fn_ok0 hl_nil Try.func68 (fun _=>by kernel_rfl:EntryIs0 ctx PP 68 [] [] cv9 cv10 fun _=>E_spec_l05K)
noncomputable def H_spec_l05K {γ:Type} (F:T_spec_l05K):Hd ctx γ:=hdl cv9.dec (fun _=>F) cv10.enc
abbrev T_spec_l05Right:=Int→Int→Int→Option Int
noncomputable def E_spec_l05Right (x_0:Int) (low_1:Int) (high_2:Int):Option Int:=
 bif (!(low_1 == 0)) then
 bif (!(low_1 == 0)) then
 some (w32 ((w32 (x_0.tdiv low_1))+(w32 ((x_0.tmod low_1)*high_2))))
 else none
 else none
noncomputable def spec_l05Right:T_spec_l05Right:=E_spec_l05Right
theorem ok_spec_l05Right:Tells ctx PP 74 cv17 cv16 (fun a=>spec_l05Right a.1 a.2.1 a.2.2):=fn_ok0 hl_nil Try.func74 (fun a=>by kernel_rfl:EntryIs0 ctx PP 74 [] [] cv17 cv16 fun a=>E_spec_l05Right a.1 a.2.1 a.2.2)
noncomputable def H_spec_l05Right {γ:Type} (F:T_spec_l05Right):Hd ctx γ:=hdl cv17.dec (fun a=>F a.1 a.2.1 a.2.2) cv16.enc
abbrev T_spec_l05S:=Int→Int→Int→Int→Bool→Option Int
noncomputable def E_spec_l05S (z0:T_spec_l05Right) (x_0:Int) (a_1:Int) (b_2:Int) (c_3:Int) (last_4:Bool):Option Int:=
 bif (!(a_1 == 0)) then
 (z0 x_0 a_1 (w32 ((w32 ((2147483648:Int).tdiv a_1))*2))).bind fun r0=>
 bif (!(b_2 == 0)) then
 (z0 x_0 b_2 (w32 ((w32 ((2147483648:Int).tdiv b_2))*2))).bind fun r1=>
 bif (!(c_3 == 0)) then
 bif (!last_4) then
 bif (!(c_3 == 0)) then
 (z0 x_0 c_3 (w32 ((w32 ((2147483648:Int).tdiv c_3))*2))).bind fun r2=>
 some (w32 (((BitVec.toNat ((BitVec.ofInt (IntKind.bits IntKind.u32) (w32 (((BitVec.toNat ((BitVec.ofInt (IntKind.bits IntKind.u32) r0) ^^^ (BitVec.ofInt (IntKind.bits IntKind.u32) r1))):Nat):Int))) ^^^ (BitVec.ofInt (IntKind.bits IntKind.u32) r2))):Nat):Int))
 else none
 else
 some (w32 (((BitVec.toNat ((BitVec.ofInt (IntKind.bits IntKind.u32) (w32 (((BitVec.toNat ((BitVec.ofInt (IntKind.bits IntKind.u32) r0) ^^^ (BitVec.ofInt (IntKind.bits IntKind.u32) r1))):Nat):Int))) ^^^ (BitVec.ofInt (IntKind.bits IntKind.u32) (w32 (x_0.tdiv c_3))))):Nat):Int))
 else none
 else none
 else none
noncomputable def spec_l05S:T_spec_l05S:=E_spec_l05S spec_l05Right
theorem ok_spec_l05S:Tells ctx PP 73 cv18 cv16 (fun a=>spec_l05S a.1 a.2.1 a.2.2.1 a.2.2.2.1 a.2.2.2.2):=fn_ok0 (hc ok_spec_l05Right hl_nil) Try.func73 ((fun z0 a=>by kernel_rfl:∀ z0,EntryIs0 ctx PP 73 [] [(74,H_spec_l05Right z0)] cv18 cv16 fun a=>E_spec_l05S z0 a.1 a.2.1 a.2.2.1 a.2.2.2.1 a.2.2.2.2) spec_l05Right)
noncomputable def H_spec_l05S {γ:Type} (F:T_spec_l05S):Hd ctx γ:=hdl cv18.dec (fun a=>F a.1 a.2.1 a.2.2.1 a.2.2.2.1 a.2.2.2.2) cv16.enc
abbrev T_spec_l05Round:=(List Int)→(List Int)→ByteArray→Option (List Int)
inductive St_spec_l05Round where
 | c0 (t_0:(List Int)) (o_1:(List Int)) (v_8:Int) (v_7:(List Int))
 | c1 (t_0:(List Int)) (o_1:(List Int)) (v_10:Int) (v_7:(List Int)) (v_9:(List Int))
 | c2 (t_0:(List Int)) (o_1:(List Int)) (v_10:Int) (v_13:Int) (v_15:Int) (v_16:Int) (v_7:(List Int)) (v_9:(List Int))
 | c3 (t_0:(List Int)) (v_18:Int) (v_9:(List Int)) (v_17:(List Int))
noncomputable def at_spec_l05Round:St_spec_l05Round→LI
 | .c0 t_0 o_1 v_8 v_7=>(tdo Try.f69 464,[(0,[.one (.rsl 105 t_0)]),(1,[.one (.rsl 105 o_1)]),(7,[.one (.own 496)]),(8,[.one (.int .i64 v_8)])],[(496,.sl 105 v_7)])
 | .c1 t_0 o_1 v_10 v_7 v_9=>(tdo Try.f69 2000,[(0,[.one (.rsl 105 t_0)]),(1,[.one (.rsl 105 o_1)]),(7,[.one (.own 496)]),(9,[.one (.own 624)]),(10,[.one (.int .i64 v_10)])],[(496,.sl 105 v_7),(624,.sl 105 v_9)])
 | .c2 t_0 o_1 v_10 v_13 v_15 v_16 v_7 v_9=>(tdo Try.f69 8202192,[(0,[.one (.rsl 105 t_0)]),(1,[.one (.rsl 105 o_1)]),(7,[.one (.own 496)]),(9,[.one (.own 624)]),(10,[.one (.int .i64 v_10)]),(13,[.one (.int .u32 v_13)]),(15,[.one (.int .u32 v_15)]),(16,[.one (.int .i64 v_16)])],[(496,.sl 105 v_7),(624,.sl 105 v_9)])
 | .c3 t_0 v_18 v_9 v_17=>(tdo Try.f69 8144,[(0,[.one (.rsl 105 t_0)]),(9,[.one (.own 624)]),(17,[.one (.own 1136)]),(18,[.one (.int .i64 v_18)])],[(624,.sl 105 v_9),(1136,.sl 105 v_17)])
noncomputable def E_spec_l05Round (z0:T_spec_l05Words) (z1:T_spec_l05S) (k:St_spec_l05Round→Option (List Int)) (t_0:(List Int)) (o_1:(List Int)) (A_2:ByteArray):Option (List Int):=
 (z0 A_2).bind fun r0=>
 k (.c0 t_0 o_1 16 r0)
noncomputable def B_spec_l05Round (z0:T_spec_l05Words) (z1:T_spec_l05S) (k:St_spec_l05Round→Option (List Int)):St_spec_l05Round→Option (List Int)
 | .c0 t_0 o_1 v_8 v_7=>
 bif (decide (v_8<64)) then
  bif ((decide (0≤(w64 (v_8 - 2)))) && (decide ((w64 (v_8 - 2))<(v_7.length:Int)))) then
  (z1 (v_7.getD (w64 (v_8 - 2)).toNat 0) 131072 524288 1024 true).bind fun r0=>
  bif ((decide (0≤(w64 (v_8 - 7)))) && (decide ((w64 (v_8 - 7))<(v_7.length:Int)))) then
  bif ((decide (0≤(w64 (v_8 - 15)))) && (decide ((w64 (v_8 - 15))<(v_7.length:Int)))) then
  (z1 (v_7.getD (w64 (v_8 - 15)).toNat 0) 128 262144 8 true).bind fun r1=>
  bif ((decide (0≤(w64 (v_8 - 16)))) && (decide ((w64 (v_8 - 16))<(v_7.length:Int)))) then
  bif (decide (((v_7.length+1)*4)≤140737488355328)) then
  k (.c0 t_0 o_1 (w64 (v_8+1)) (v_7++[(w32 ((w32 ((w32 (r0+(v_7.getD (w64 (v_8 - 7)).toNat 0)))+r1))+(v_7.getD (w64 (v_8 - 16)).toNat 0)))]))
  else none
  else none
  else none
  else none
  else none
 else
  bif (decide (((0+t_0.length)*4)≤140737488355328)) then
  k (.c1 t_0 o_1 0 v_7 ([]++t_0))
  else none
 | .c1 t_0 o_1 v_10 v_7 v_9=>
 bif (decide (v_10<64)) then
  bif ((decide ((0:Int)≤(4:Int))) && (decide (4<(v_9.length:Int)))) then
  bif ((decide ((0:Int)≤(5:Int))) && (decide (5<(v_9.length:Int)))) then
  bif ((decide ((0:Int)≤(6:Int))) && (decide (6<(v_9.length:Int)))) then
  bif ((decide ((0:Int)≤(7:Int))) && (decide (7<(v_9.length:Int)))) then
  (z1 (v_9.getD (4:Int).toNat 0) 64 2048 33554432 false).bind fun r0=>
  bif ((decide (0≤v_10)) && (decide (v_10<(o_1.length:Int)))) then
  bif ((decide (0≤v_10)) && (decide (v_10<(v_7.length:Int)))) then
  bif ((decide ((0:Int)≤(0:Int))) && (decide (0<(v_9.length:Int)))) then
  bif ((decide ((0:Int)≤(1:Int))) && (decide (1<(v_9.length:Int)))) then
  bif ((decide ((0:Int)≤(0:Int))) && (decide (0<(v_9.length:Int)))) then
  bif ((decide ((0:Int)≤(2:Int))) && (decide (2<(v_9.length:Int)))) then
  bif ((decide ((0:Int)≤(1:Int))) && (decide (1<(v_9.length:Int)))) then
  bif ((decide ((0:Int)≤(2:Int))) && (decide (2<(v_9.length:Int)))) then
  bif ((decide ((0:Int)≤(0:Int))) && (decide (0<(v_9.length:Int)))) then
  (z1 (v_9.getD (0:Int).toNat 0) 4 8192 4194304 false).bind fun r1=>
  k (.c2 t_0 o_1 v_10 (w32 ((w32 ((w32 ((w32 ((v_9.getD (7:Int).toNat 0)+r0))+(w32 (((BitVec.toNat ((BitVec.ofInt (IntKind.bits IntKind.u32) (w32 (((BitVec.toNat ((BitVec.ofInt (IntKind.bits IntKind.u32) (v_9.getD (4:Int).toNat 0)) &&& (BitVec.ofInt (IntKind.bits IntKind.u32) (v_9.getD (5:Int).toNat 0)))):Nat):Int))) ^^^ (BitVec.ofInt (IntKind.bits IntKind.u32) (w32 (((BitVec.toNat ((BitVec.ofInt (IntKind.bits IntKind.u32) (w32 (4294967295 - (v_9.getD (4:Int).toNat 0)))) &&& (BitVec.ofInt (IntKind.bits IntKind.u32) (v_9.getD (6:Int).toNat 0)))):Nat):Int))))):Nat):Int))))+(o_1.getD v_10.toNat 0)))+(v_7.getD v_10.toNat 0))) (w32 (r1+(w32 (((BitVec.toNat ((BitVec.ofInt (IntKind.bits IntKind.u32) (w32 (((BitVec.toNat ((BitVec.ofInt (IntKind.bits IntKind.u32) (w32 (((BitVec.toNat ((BitVec.ofInt (IntKind.bits IntKind.u32) (v_9.getD (0:Int).toNat 0)) &&& (BitVec.ofInt (IntKind.bits IntKind.u32) (v_9.getD (1:Int).toNat 0)))):Nat):Int))) ^^^ (BitVec.ofInt (IntKind.bits IntKind.u32) (w32 (((BitVec.toNat ((BitVec.ofInt (IntKind.bits IntKind.u32) (v_9.getD (0:Int).toNat 0)) &&& (BitVec.ofInt (IntKind.bits IntKind.u32) (v_9.getD (2:Int).toNat 0)))):Nat):Int))))):Nat):Int))) ^^^ (BitVec.ofInt (IntKind.bits IntKind.u32) (w32 (((BitVec.toNat ((BitVec.ofInt (IntKind.bits IntKind.u32) (v_9.getD (1:Int).toNat 0)) &&& (BitVec.ofInt (IntKind.bits IntKind.u32) (v_9.getD (2:Int).toNat 0)))):Nat):Int))))):Nat):Int)))) 7 v_7 v_9)
  else none
  else none
  else none
  else none
  else none
  else none
  else none
  else none
  else none
  else none
  else none
  else none
  else none
 else
  k (.c3 t_0 0 v_9 [])
 | .c2 t_0 o_1 v_10 v_13 v_15 v_16 v_7 v_9=>
 bif (decide (v_16 > 0)) then
  bif ((decide (0≤(w64 (v_16 - 1)))) && (decide ((w64 (v_16 - 1))<(v_9.length:Int)))) then
  bif ((decide (0≤v_16)) && (decide (v_16<(v_9.length:Int)))) then
  k (.c2 t_0 o_1 v_10 v_13 v_15 (w64 (v_16 - 1)) v_7 (v_9.set v_16.toNat (v_9.getD (w64 (v_16 - 1)).toNat 0)))
  else none
  else none
 else
  bif ((decide ((0:Int)≤(4:Int))) && (decide (4<(v_9.length:Int)))) then
  bif ((decide ((0:Int)≤(4:Int))) && (decide (4<(v_9.length:Int)))) then
  bif ((decide ((0:Int)≤(0:Int))) && (decide (0<((v_9.set (4:Int).toNat (w32 ((v_9.getD (4:Int).toNat 0)+v_13))).length:Int)))) then
  k (.c1 t_0 o_1 (w64 (v_10+1)) v_7 ((v_9.set (4:Int).toNat (w32 ((v_9.getD (4:Int).toNat 0)+v_13))).set (0:Int).toNat (w32 (v_13+v_15))))
  else none
  else none
  else none
 | .c3 t_0 v_18 v_9 v_17=>
 bif (decide (v_18<8)) then
  bif ((decide (0≤v_18)) && (decide (v_18<(t_0.length:Int)))) then
  bif ((decide (0≤v_18)) && (decide (v_18<(v_9.length:Int)))) then
  bif (decide (((v_17.length+1)*4)≤140737488355328)) then
  k (.c3 t_0 (w64 (v_18+1)) v_9 (v_17++[(w32 ((t_0.getD v_18.toNat 0)+(v_9.getD v_18.toNat 0)))]))
  else none
  else none
  else none
 else
  some v_17
noncomputable def L_spec_l05Round:Nat→St_spec_l05Round→Option (List Int)
 | 0,_=>none
 | m+1,s=>B_spec_l05Round spec_l05Words spec_l05S (L_spec_l05Round m) s
noncomputable def spec_l05Round:T_spec_l05Round:=E_spec_l05Round spec_l05Words spec_l05S (L_spec_l05Round gas)
theorem ok_spec_l05Round:Tells ctx PP 69 cv19 cv10 (fun a=>spec_l05Round a.1 a.2.1 a.2.2):=
 have b:∀ z0 z1,CutIs ctx PP 69 Try.f69 [] [(67,H_spec_l05Words z0),(73,H_spec_l05S z1)] cv10 at_spec_l05Round (B_spec_l05Round z0 z1):=fun z0 z1 _ s=>by cases s <;> kernel_rfl
 have e:∀ z0 z1,EntryIs ctx PP 69 [] [(67,H_spec_l05Words z0),(73,H_spec_l05S z1)] cv19 cv10 at_spec_l05Round (fun k a=>E_spec_l05Round z0 z1 k a.1 a.2.1 a.2.2):=fun z0 z1 _ a=>by kernel_rfl
 fn_ok (hc ok_spec_l05Words (hc ok_spec_l05S hl_nil)) Try.func69 (fun s s' h=>by cases s <;> cases s' <;> first | (cases h;done) | (cases h;rfl) | exact (rg_ne h (by kernel_rfl)).elim) (fun _=>rfl) (fun _ _=>rfl) (b spec_l05Words spec_l05S) (e spec_l05Words spec_l05S) gas
noncomputable def H_spec_l05Round {γ:Type} (F:T_spec_l05Round):Hd ctx γ:=hdl cv19.dec (fun a=>F a.1 a.2.1 a.2.2) cv10.enc
abbrev T_spec_HashMore:=SHasher→ByteArray→Option SHasher
inductive St_spec_HashMore where
 | c0 (s_1:ByteArray) (buf_7:ByteArray) (at_8:Int) (h_2:SHasher) (v_4:SHasher) (state_5:(List Int)) (k_6:(List Int))
noncomputable def at_spec_HashMore:St_spec_HashMore→LI
 | .c0 s_1 buf_7 at_8 h_2 v_4 state_5 k_6=>(tdo Try.f64 4064,[(1,[.one (.str s_1)]),(2,[.one (.ptr 128 0)]),(4,[.one (.ptr 256 0)]),(5,[.one (.own 368)]),(6,[.one (.own 432)]),(7,[.one (.str buf_7)]),(8,[.one (.int .i64 at_8)])],[(128,.var [.str h_2.fState,.str h_2.fRest,.int .i64 h_2.fCount]),(256,.var [.str v_4.fState,.str v_4.fRest,.int .i64 v_4.fCount]),(368,.sl 105 state_5),(432,.sl 105 k_6)])
noncomputable def E_spec_HashMore (z0:T_spec_HasherOk) (z1:T_spec_l05Words) (z2:T_spec_l05K) (z3:T_spec_l05Round) (z4:T_spec_l05Bytes) (k:St_spec_HashMore→Option SHasher) (h_0:SHasher) (s_1:ByteArray):Option SHasher:=
 (z0 h_0).bind fun r0=>
 bif (!r0) then
 some h_0
 else
 bif (decide ((w64 (h_0.fCount+(s_1.size:Int))) > 1000000000)) then
  some h_0
 else
  (z1 h_0.fState).bind fun r1=>
  z2.bind fun r2=>
  bif (decide ((h_0.fRest.size+s_1.size)≤9223372036854775807)) then
  k (.c0 s_1 (h_0.fRest++s_1) 0 h_0 ⟨⟨#[]⟩,⟨#[]⟩,0⟩ r1 r2)
  else none
noncomputable def B_spec_HashMore (z0:T_spec_HasherOk) (z1:T_spec_l05Words) (z2:T_spec_l05K) (z3:T_spec_l05Round) (z4:T_spec_l05Bytes) (k:St_spec_HashMore→Option SHasher):St_spec_HashMore→Option SHasher
 | .c0 s_1 buf_7 at_8 h_2 v_4 state_5 k_6=>
 bif (decide ((w64 (at_8+64))≤(buf_7.size:Int))) then
  bif (((decide (0≤at_8)) && (decide (at_8≤(w64 (at_8+64))))) && (decide ((w64 (at_8+64))≤(buf_7.size:Int)))) then
  (z3 state_5 k_6 (buf_7.extract at_8.toNat (w64 (at_8+64)).toNat)).bind fun r0=>
  k (.c0 s_1 buf_7 (w64 (at_8+64)) h_2 v_4 r0 k_6)
  else none
 else
  (z4 state_5).bind fun r1=>
  bif ((decide (0≤at_8)) && (decide (at_8≤(buf_7.size:Int)))) then
  some ⟨r1,(buf_7.extract at_8.toNat buf_7.size),(w64 (h_2.fCount+(s_1.size:Int)))⟩
  else none
noncomputable def L_spec_HashMore:Nat→St_spec_HashMore→Option SHasher
 | 0,_=>none
 | m+1,s=>B_spec_HashMore spec_HasherOk spec_l05Words spec_l05K spec_l05Round spec_l05Bytes (L_spec_HashMore m) s
noncomputable def spec_HashMore:T_spec_HashMore:=E_spec_HashMore spec_HasherOk spec_l05Words spec_l05K spec_l05Round spec_l05Bytes (L_spec_HashMore gas)
theorem ok_spec_HashMore:Tells ctx PP 64 cv20 cv13 (fun a=>spec_HashMore a.1 a.2):=
 have b:∀ z0 z1 z2 z3 z4,CutIs ctx PP 64 Try.f64 [] [(66,H_spec_HasherOk z0),(67,H_spec_l05Words z1),(68,H_spec_l05K z2),(69,H_spec_l05Round z3),(70,H_spec_l05Bytes z4)] cv13 at_spec_HashMore (B_spec_HashMore z0 z1 z2 z3 z4):=fun z0 z1 z2 z3 z4 _ s=>by cases s <;> kernel_rfl
 have e:∀ z0 z1 z2 z3 z4,EntryIs ctx PP 64 [] [(66,H_spec_HasherOk z0),(67,H_spec_l05Words z1),(68,H_spec_l05K z2),(69,H_spec_l05Round z3),(70,H_spec_l05Bytes z4)] cv20 cv13 at_spec_HashMore (fun k a=>E_spec_HashMore z0 z1 z2 z3 z4 k a.1 a.2):=fun z0 z1 z2 z3 z4 _ a=>by kernel_rfl
 fn_ok (hc ok_spec_HasherOk (hc ok_spec_l05Words (hc ok_spec_l05K (hc ok_spec_l05Round (hc ok_spec_l05Bytes hl_nil))))) Try.func64 (fun s s' h=>by cases s;cases s';(repeat cases ‹SHasher›);cases h;rfl) (fun _=>rfl) (fun _ _=>rfl) (b spec_HasherOk spec_l05Words spec_l05K spec_l05Round spec_l05Bytes) (e spec_HasherOk spec_l05Words spec_l05K spec_l05Round spec_l05Bytes) gas
noncomputable def H_spec_HashMore {γ:Type} (F:T_spec_HashMore):Hd ctx γ:=hdl cv20.dec (fun a=>F a.1 a.2) cv13.enc
abbrev T_spec_HashEnd:=SHasher→Option ByteArray
inductive St_spec_HashEnd where
 | c0 (h_1:SHasher) (tail_3:(List Int))
 | c1 (bits_4:Int) (i_5:Int) (h_1:SHasher) (tail_3:(List Int))
 | c2 (bits_4:Int) (i_5:Int) (x_6:Int) (k_7:Int) (h_1:SHasher) (tail_3:(List Int))
 | c3 (at_10:Int) (tail_3:(List Int)) (state_8:(List Int)) (k_9:(List Int))
noncomputable def at_spec_HashEnd:St_spec_HashEnd→LI
 | .c0 h_1 tail_3=>(tdo Try.f63 992,[(1,[.one (.ptr 64 0)]),(3,[.one (.own 240)])],[(64,.var [.str h_1.fState,.str h_1.fRest,.int .i64 h_1.fCount]),(240,.sl 5 tail_3)])
 | .c1 bits_4 i_5 h_1 tail_3=>(tdo Try.f63 8144,[(1,[.one (.ptr 64 0)]),(3,[.one (.own 240)]),(4,[.one (.int .i64 bits_4)]),(5,[.one (.int .i64 i_5)])],[(64,.var [.str h_1.fState,.str h_1.fRest,.int .i64 h_1.fCount]),(240,.sl 5 tail_3)])
 | .c2 bits_4 i_5 x_6 k_7 h_1 tail_3=>(tdo Try.f63 2085456,[(1,[.one (.ptr 64 0)]),(3,[.one (.own 240)]),(4,[.one (.int .i64 bits_4)]),(5,[.one (.int .i64 i_5)]),(6,[.one (.int .i64 x_6)]),(7,[.one (.int .i64 k_7)])],[(64,.var [.str h_1.fState,.str h_1.fRest,.int .i64 h_1.fCount]),(240,.sl 5 tail_3)])
 | .c3 at_10 tail_3 state_8 k_9=>(tdo Try.f63 65488,[(3,[.one (.own 240)]),(8,[.one (.own 560)]),(9,[.one (.own 624)]),(10,[.one (.int .i64 at_10)])],[(240,.sl 5 tail_3),(560,.sl 105 state_8),(624,.sl 105 k_9)])
noncomputable def E_spec_HashEnd (z0:T_spec_HasherOk) (z1:T_spec_l05Words) (z2:T_spec_l05K) (z3:T_spec_l05Round) (z4:T_spec_l05Bytes) (k:St_spec_HashEnd→Option ByteArray) (h_0:SHasher):Option ByteArray:=
 (z0 h_0).bind fun r0=>
 bif (!r0) then
 some ⟨#[]⟩
 else
 bif (decide (h_0.fRest.size≤9223372036854775807)) then
 bif (decide ((((bytesOf h_0.fRest).length+1)*1)≤140737488355328)) then
 k (.c0 h_0 ((bytesOf h_0.fRest)++[(128:Int)]))
 else none
 else none
noncomputable def B_spec_HashEnd (z0:T_spec_HasherOk) (z1:T_spec_l05Words) (z2:T_spec_l05K) (z3:T_spec_l05Round) (z4:T_spec_l05Bytes) (k:St_spec_HashEnd→Option ByteArray):St_spec_HashEnd→Option ByteArray
 | .c0 h_1 tail_3=>
 bif (((tail_3.length:Int).tmod 64) != 56) then
  bif (decide (((tail_3.length+1)*1)≤140737488355328)) then
  k (.c0 h_1 (tail_3++[(0:Int)]))
  else none
 else
  k (.c1 (w64 (8*h_1.fCount)) 7 h_1 tail_3)
 | .c1 bits_4 i_5 h_1 tail_3=>
 bif (decide (i_5≥0)) then
  k (.c2 bits_4 i_5 bits_4 0 h_1 tail_3)
 else
  (z1 h_1.fState).bind fun r0=>
  z2.bind fun r1=>
  k (.c3 0 tail_3 r0 r1)
 | .c2 bits_4 i_5 x_6 k_7 h_1 tail_3=>
 bif (decide (k_7<i_5)) then
  k (.c2 bits_4 i_5 (w64 (x_6.tdiv 256)) (w64 (k_7+1)) h_1 tail_3)
 else
  bif (decide (((tail_3.length+1)*1)≤140737488355328)) then
  k (.c1 bits_4 (w64 (i_5 - 1)) h_1 (tail_3++[(w8 (x_6.tmod 256))]))
  else none
 | .c3 at_10 tail_3 state_8 k_9=>
 bif (decide (at_10<(tail_3.length:Int))) then
  bif (((decide (0≤at_10)) && (decide (at_10≤(w64 (at_10+64))))) && (decide ((w64 (at_10+64))≤(tail_3.length:Int)))) then
  (z3 state_8 k_9 (ofBytes ((tail_3.drop at_10.toNat).take ((w64 (at_10+64)).toNat - at_10.toNat)))).bind fun r0=>
  k (.c3 (w64 (at_10+64)) tail_3 r0 k_9)
  else none
 else
  (z4 state_8).bind fun r1=>
  some r1
noncomputable def L_spec_HashEnd:Nat→St_spec_HashEnd→Option ByteArray
 | 0,_=>none
 | m+1,s=>B_spec_HashEnd spec_HasherOk spec_l05Words spec_l05K spec_l05Round spec_l05Bytes (L_spec_HashEnd m) s
noncomputable def spec_HashEnd:T_spec_HashEnd:=E_spec_HashEnd spec_HasherOk spec_l05Words spec_l05K spec_l05Round spec_l05Bytes (L_spec_HashEnd gas)
theorem ok_spec_HashEnd:Tells ctx PP 63 cv13 cv12 (fun a=>spec_HashEnd a):=
 have b:∀ z0 z1 z2 z3 z4,CutIs ctx PP 63 Try.f63 [] [(66,H_spec_HasherOk z0),(67,H_spec_l05Words z1),(68,H_spec_l05K z2),(69,H_spec_l05Round z3),(70,H_spec_l05Bytes z4)] cv12 at_spec_HashEnd (B_spec_HashEnd z0 z1 z2 z3 z4):=fun z0 z1 z2 z3 z4 _ s=>by cases s <;> kernel_rfl
 have e:∀ z0 z1 z2 z3 z4,EntryIs ctx PP 63 [] [(66,H_spec_HasherOk z0),(67,H_spec_l05Words z1),(68,H_spec_l05K z2),(69,H_spec_l05Round z3),(70,H_spec_l05Bytes z4)] cv13 cv12 at_spec_HashEnd (fun k a=>E_spec_HashEnd z0 z1 z2 z3 z4 k a):=fun z0 z1 z2 z3 z4 _ a=>by kernel_rfl
 fn_ok (hc ok_spec_HasherOk (hc ok_spec_l05Words (hc ok_spec_l05K (hc ok_spec_l05Round (hc ok_spec_l05Bytes hl_nil))))) Try.func63 (fun s s' h=>by cases s <;> cases s' <;> first | ((repeat cases ‹SHasher›);cases h;done) | ((repeat cases ‹SHasher›);cases h;rfl) | exact (rg_ne h (by kernel_rfl)).elim) (fun _=>rfl) (fun _ _=>rfl) (b spec_HasherOk spec_l05Words spec_l05K spec_l05Round spec_l05Bytes) (e spec_HasherOk spec_l05Words spec_l05K spec_l05Round spec_l05Bytes) gas
noncomputable def H_spec_HashEnd {γ:Type} (F:T_spec_HashEnd):Hd ctx γ:=hdl cv13.dec (fun a=>F a) cv12.enc
abbrev T_spec_DigestOf:=ByteArray→Option ByteArray
noncomputable def E_spec_DigestOf (z0:T_spec_HasherNew) (z1:T_spec_HashMore) (z2:T_spec_HashEnd) (s_0:ByteArray):Option ByteArray:=
 z0.bind fun r0=>
 (z1 r0 s_0).bind fun r1=>
 (z2 r1).bind fun r2=>
 some r2
noncomputable def spec_DigestOf:T_spec_DigestOf:=E_spec_DigestOf spec_HasherNew spec_HashMore spec_HashEnd
theorem ok_spec_DigestOf:Tells ctx PP 54 cv12 cv12 (fun a=>spec_DigestOf a):=fn_ok0 (hc ok_spec_HasherNew (hc ok_spec_HashMore (hc ok_spec_HashEnd hl_nil))) Try.func54 ((fun z0 z1 z2 a=>by kernel_rfl:∀ z0 z1 z2,EntryIs0 ctx PP 54 [] [(65,H_spec_HasherNew z0),(64,H_spec_HashMore z1),(63,H_spec_HashEnd z2)] cv12 cv12 fun a=>E_spec_DigestOf z0 z1 z2 a) spec_HasherNew spec_HashMore spec_HashEnd)
noncomputable def H_spec_DigestOf {γ:Type} (F:T_spec_DigestOf):Hd ctx γ:=hdl cv12.dec (fun a=>F a) cv12.enc
abbrev T_spec_l01Long:=Int→Int→Option ByteArray
inductive St_spec_l01Long where
 | c0 (n_0:Int) (x_1:Int) (i_6:Int) (out_5:(List Int))
noncomputable def at_spec_l01Long:St_spec_l01Long→LI
 | .c0 n_0 x_1 i_6 out_5=>(tdo Try.f40 464,[(0,[.one (.int .i64 n_0)]),(1,[.one (.int .u8 x_1)]),(5,[.one (.own 368)]),(6,[.one (.int .i64 i_6)])],[(368,.sl 5 out_5)])
noncomputable def E_spec_l01Long (k:St_spec_l01Long→Option ByteArray) (n_0:Int) (x_1:Int):Option ByteArray:=
 bif ((((decide (0≤n_0)) && (decide (n_0≤n_0))) && (decide (n_0≤9223372036854775807))) && (decide ((n_0.toNat*1)≤140737488355328))) then
 k (.c0 n_0 x_1 0 (List.replicate n_0.toNat (0:Int)))
 else none
noncomputable def B_spec_l01Long (k:St_spec_l01Long→Option ByteArray):St_spec_l01Long→Option ByteArray
 | .c0 n_0 x_1 i_6 out_5=>
 bif (decide (i_6<n_0)) then
  bif ((decide (0≤i_6)) && (decide (i_6<(out_5.length:Int)))) then
  k (.c0 n_0 x_1 (w64 (i_6+1)) (out_5.set i_6.toNat x_1))
  else none
 else
  some (ofBytes out_5)
noncomputable def L_spec_l01Long:Nat→St_spec_l01Long→Option ByteArray
 | 0,_=>none
 | m+1,s=>B_spec_l01Long (L_spec_l01Long m) s
noncomputable def spec_l01Long:T_spec_l01Long:=E_spec_l01Long (L_spec_l01Long gas)
theorem ok_spec_l01Long:Tells ctx PP 40 cv23 cv12 (fun a=>spec_l01Long a.1 a.2):=
 have b:CutIs ctx PP 40 Try.f40 [] [] cv12 at_spec_l01Long (B_spec_l01Long):=fun _ s=>by cases s <;> kernel_rfl
 have e:EntryIs ctx PP 40 [] [] cv23 cv12 at_spec_l01Long (fun k a=>E_spec_l01Long k a.1 a.2):=fun _ a=>by kernel_rfl
 fn_ok hl_nil Try.func40 (fun s s' h=>by cases s;cases s';cases h;rfl) (fun _=>rfl) (fun _ _=>rfl) b e gas
noncomputable def H_spec_l01Long {γ:Type} (F:T_spec_l01Long):Hd ctx γ:=hdl cv23.dec (fun a=>F a.1 a.2) cv12.enc
abbrev Ve:=Option SBook
noncomputable def Qh (z0:T_spec_DigestOf) (z1:T_spec_l01Long)  : Option SBook:=
 (z0 ⟨#[]⟩).bind fun r0=>
 (z1 32 0).bind fun r1=>
 some ⟨r0,0,[],0,r1,0⟩
noncomputable def VZ:Ve:=Qh spec_DigestOf spec_l01Long
theorem Aq:Tells ctx PP 41 cv9 cv28 (fun _=>VZ):=fn_ok0 (hc ok_spec_DigestOf (hc ok_spec_l01Long hl_nil)) Try.func41 ((fun z0 z1 _=>by kernel_rfl:∀ z0 z1,EntryIs0 ctx PP 41 [] [(54,H_spec_DigestOf z0),(40,H_spec_l01Long z1)] cv9 cv28 fun _=>Qh z0 z1) spec_DigestOf spec_l01Long)
noncomputable def Sl {γ:Type} (F:Ve):Hd ctx γ:=hdl cv9.dec (fun _=>F) cv28.enc
abbrev T_spec_l01Byte:=SL01Cur→Option (Int×SL01Cur)
noncomputable def E_spec_l01Byte (c_0:SL01Cur):Option (Int×SL01Cur):=
 bif (decide (c_0.fI<(codeL.length:Int))) then
 bif ((decide (0≤c_0.fI)) && (decide (c_0.fI<(codeL.length:Int)))) then
 bif (Nat.blt c_0.fI.toNat codeL.length) then
 some ((w64 (((BitVec.toNat ((BitVec.ofInt (IntKind.bits IntKind.i64) (w64 ((w64 (((BitVec.toNat ((BitVec.ofInt (IntKind.bits IntKind.i64) (w64 (((BitVec.toNat ((BitVec.ofInt (IntKind.bits IntKind.i64) (Int.fdiv (w64 ((w64 (c_0.fH*6364136223846793005))+1442695040888963407)) (2 ^ (Min.min (33:Int).toNat (IntKind.bits IntKind.i64))))) ^^^ (BitVec.ofInt (IntKind.bits IntKind.i64) (Int.fdiv (w64 ((w64 (c_0.fH*6364136223846793005))+1442695040888963407)) (2 ^ (Min.min (45:Int).toNat (IntKind.bits IntKind.i64))))))):Nat):Int))) &&& (BitVec.ofInt (IntKind.bits IntKind.i64) 255))):Nat):Int))+(w64 (codeL.getD c_0.fI.toNat 0))))) &&& (BitVec.ofInt (IntKind.bits IntKind.i64) 255))):Nat):Int)),⟨(),(w64 (c_0.fI+1)),(w64 ((w64 (c_0.fH*6364136223846793005))+1442695040888963407))⟩)
 else none
 else none
 else
 some ((w64 (((BitVec.toNat ((BitVec.ofInt (IntKind.bits IntKind.i64) (w64 (((BitVec.toNat ((BitVec.ofInt (IntKind.bits IntKind.i64) (Int.fdiv (w64 ((w64 (c_0.fH*6364136223846793005))+1442695040888963407)) (2 ^ (Min.min (33:Int).toNat (IntKind.bits IntKind.i64))))) ^^^ (BitVec.ofInt (IntKind.bits IntKind.i64) (Int.fdiv (w64 ((w64 (c_0.fH*6364136223846793005))+1442695040888963407)) (2 ^ (Min.min (45:Int).toNat (IntKind.bits IntKind.i64))))))):Nat):Int))) &&& (BitVec.ofInt (IntKind.bits IntKind.i64) 255))):Nat):Int)),⟨(),c_0.fI,(w64 ((w64 (c_0.fH*6364136223846793005))+1442695040888963407))⟩)
noncomputable def spec_l01Byte:T_spec_l01Byte:=E_spec_l01Byte
theorem ok_spec_l01Byte:Tells ctx PP 56 cv3 cv4 (fun a=>spec_l01Byte a):=fn_ok0 hl_nil Try.func56 (fun a=>by kernel_rfl:EntryIs0 ctx PP 56 [0] [] cv3 cv4 fun a=>E_spec_l01Byte a)
noncomputable def H_spec_l01Byte {γ:Type} (F:T_spec_l01Byte):Hd ctx γ:=hdl cv3.dec (fun a=>F a) cv4.enc
abbrev T_spec_l01Below:=SL01Cur→Int→Option (Int×SL01Cur)
noncomputable def E_spec_l01Below (z0:T_spec_l01Byte) (c_0:SL01Cur) (n_1:Int):Option (Int×SL01Cur):=
 bif (decide (n_1≤0)) then
 some (0,⟨(),c_0.fI,c_0.fH⟩)
 else
 bif (decide (n_1≤256)) then
  (z0 ⟨(),c_0.fI,c_0.fH⟩).bind fun r0=>
  bif (!(n_1 == 0)) then
  some ((r0.1.tmod n_1),⟨(),r0.2.fI,r0.2.fH⟩)
  else none
 else
  (z0 ⟨(),c_0.fI,c_0.fH⟩).bind fun r1=>
  (z0 ⟨(),r1.2.fI,r1.2.fH⟩).bind fun r2=>
  (z0 ⟨(),r2.2.fI,r2.2.fH⟩).bind fun r3=>
  (z0 ⟨(),r3.2.fI,r3.2.fH⟩).bind fun r4=>
  bif (!(n_1 == 0)) then
  some (((w64 ((w64 ((w64 ((w64 (r1.1*16777216))+(w64 (r2.1*65536))))+(w64 (r3.1*256))))+r4.1)).tmod n_1),⟨(),r4.2.fI,r4.2.fH⟩)
  else none
noncomputable def spec_l01Below:T_spec_l01Below:=E_spec_l01Below spec_l01Byte
theorem ok_spec_l01Below:Tells ctx PP 38 cv5 cv4 (fun a=>spec_l01Below a.1 a.2):=fn_ok0 (hc ok_spec_l01Byte hl_nil) Try.func38 ((fun z0 a=>by kernel_rfl:∀ z0,EntryIs0 ctx PP 38 [0] [(56,H_spec_l01Byte z0)] cv5 cv4 fun a=>E_spec_l01Below z0 a.1 a.2) spec_l01Byte)
noncomputable def H_spec_l01Below {γ:Type} (F:T_spec_l01Below):Hd ctx γ:=hdl cv5.dec (fun a=>F a.1 a.2) cv4.enc
abbrev T_spec_l01PickInt:=SL01Cur→(List Int)→Option (Int×SL01Cur)
noncomputable def E_spec_l01PickInt (z0:T_spec_l01Below) (c_0:SL01Cur) (list_1:(List Int)):Option (Int×SL01Cur):=
 (z0 ⟨(),c_0.fI,c_0.fH⟩ (list_1.length:Int)).bind fun r0=>
 bif ((decide (0≤r0.1)) && (decide (r0.1<(list_1.length:Int)))) then
 some ((list_1.getD r0.1.toNat 0),⟨(),r0.2.fI,r0.2.fH⟩)
 else none
noncomputable def spec_l01PickInt:T_spec_l01PickInt:=E_spec_l01PickInt spec_l01Below
theorem ok_spec_l01PickInt:Tells ctx PP 39 cv22 cv4 (fun a=>spec_l01PickInt a.1 a.2):=fn_ok0 (hc ok_spec_l01Below hl_nil) Try.func39 ((fun z0 a=>by kernel_rfl:∀ z0,EntryIs0 ctx PP 39 [0] [(38,H_spec_l01Below z0)] cv22 cv4 fun a=>E_spec_l01PickInt z0 a.1 a.2) spec_l01Below)
noncomputable def H_spec_l01PickInt {γ:Type} (F:T_spec_l01PickInt):Hd ctx γ:=hdl cv22.dec (fun a=>F a.1 a.2) cv4.enc
abbrev T_spec_l01Pick:=SL01Cur→(List ByteArray)→Option (ByteArray×SL01Cur)
noncomputable def E_spec_l01Pick (z0:T_spec_l01Below) (c_0:SL01Cur) (list_1:(List ByteArray)):Option (ByteArray×SL01Cur):=
 (z0 ⟨(),c_0.fI,c_0.fH⟩ (list_1.length:Int)).bind fun r0=>
 bif ((decide (0≤r0.1)) && (decide (r0.1<(list_1.length:Int)))) then
 some ((list_1.getD r0.1.toNat (⟨#[]⟩:ByteArray)),⟨(),r0.2.fI,r0.2.fH⟩)
 else none
noncomputable def spec_l01Pick:T_spec_l01Pick:=E_spec_l01Pick spec_l01Below
theorem ok_spec_l01Pick:Tells ctx PP 55 cv8 cv7 (fun a=>spec_l01Pick a.1 a.2):=fn_ok0 (hc ok_spec_l01Below hl_nil) Try.func55 ((fun z0 a=>by kernel_rfl:∀ z0,EntryIs0 ctx PP 55 [0] [(38,H_spec_l01Below z0)] cv8 cv7 fun a=>E_spec_l01Pick z0 a.1 a.2) spec_l01Below)
noncomputable def H_spec_l01Pick {γ:Type} (F:T_spec_l01Pick):Hd ctx γ:=hdl cv8.dec (fun a=>F a.1 a.2) cv7.enc
abbrev T_spec_l01Once:=SL01Cur→Int→Option (Bool×SL01Cur)
noncomputable def E_spec_l01Once (z0:T_spec_l01Below) (c_0:SL01Cur) (n_1:Int):Option (Bool×SL01Cur):=
 (z0 ⟨(),c_0.fI,c_0.fH⟩ n_1).bind fun r0=>
 some ((r0.1 == 0),⟨(),r0.2.fI,r0.2.fH⟩)
noncomputable def spec_l01Once:T_spec_l01Once:=E_spec_l01Once spec_l01Below
theorem ok_spec_l01Once:Tells ctx PP 20 cv5 cv6 (fun a=>spec_l01Once a.1 a.2):=fn_ok0 (hc ok_spec_l01Below hl_nil) Try.func20 ((fun z0 a=>by kernel_rfl:∀ z0,EntryIs0 ctx PP 20 [0] [(38,H_spec_l01Below z0)] cv5 cv6 fun a=>E_spec_l01Once z0 a.1 a.2) spec_l01Below)
noncomputable def H_spec_l01Once {γ:Type} (F:T_spec_l01Once):Hd ctx γ:=hdl cv5.dec (fun a=>F a.1 a.2) cv6.enc
abbrev T_spec_l01Text:=SL01Cur→Int→Option (ByteArray×SL01Cur)
inductive St_spec_l01Text where
 | c0 (n_1:Int) (i_6:Int) (c_0c1:Int) (c_0c2:Int) (out_5:(List Int))
noncomputable def at_spec_l01Text:St_spec_l01Text→LI
 | .c0 n_1 i_6 c_0c1 c_0c2 out_5=>(tdo Try.f51 976,[(0,[.one (.ptr 0 0)]),(1,[.one (.int .i64 n_1)]),(5,[.one (.own 368)]),(6,[.one (.int .i64 i_6)])],[(0,.var [.csl,.int .i64 c_0c1,.int .i64 c_0c2]),(368,.sl 5 out_5)])
noncomputable def E_spec_l01Text (z0:T_spec_l01Byte) (k:St_spec_l01Text→Option (ByteArray×SL01Cur)) (c_0:SL01Cur) (n_1:Int):Option (ByteArray×SL01Cur):=
 bif (decide (n_1 > 5000)) then
 k (.c0 5000 0 c_0.fI c_0.fH [])
 else
 k (.c0 n_1 0 c_0.fI c_0.fH [])
noncomputable def B_spec_l01Text (z0:T_spec_l01Byte) (k:St_spec_l01Text→Option (ByteArray×SL01Cur)):St_spec_l01Text→Option (ByteArray×SL01Cur)
 | .c0 n_1 i_6 c_0c1 c_0c2 out_5=>
 bif (decide (i_6<n_1)) then
  (z0 ⟨(),c_0c1,c_0c2⟩).bind fun r0=>
  bif (decide (((out_5.length+1)*1)≤140737488355328)) then
  k (.c0 n_1 (w64 (i_6+1)) r0.2.fI r0.2.fH (out_5++[(w8 r0.1)]))
  else none
 else
  some ((ofBytes out_5),⟨(),c_0c1,c_0c2⟩)
noncomputable def L_spec_l01Text:Nat→St_spec_l01Text→Option (ByteArray×SL01Cur)
 | 0,_=>none
 | m+1,s=>B_spec_l01Text spec_l01Byte (L_spec_l01Text m) s
noncomputable def spec_l01Text:T_spec_l01Text:=E_spec_l01Text spec_l01Byte (L_spec_l01Text gas)
theorem ok_spec_l01Text:Tells ctx PP 51 cv5 cv7 (fun a=>spec_l01Text a.1 a.2):=
 have b:∀ z0,CutIs ctx PP 51 Try.f51 [0] [(56,H_spec_l01Byte z0)] cv7 at_spec_l01Text (B_spec_l01Text z0):=fun z0 _ s=>by cases s <;> kernel_rfl
 have e:∀ z0,EntryIs ctx PP 51 [0] [(56,H_spec_l01Byte z0)] cv5 cv7 at_spec_l01Text (fun k a=>E_spec_l01Text z0 k a.1 a.2):=fun z0 _ a=>by kernel_rfl
 fn_ok (hc ok_spec_l01Byte hl_nil) Try.func51 (fun s s' h=>by cases s;cases s';cases h;rfl) (fun _=>rfl) (fun _ _=>rfl) (b spec_l01Byte) (e spec_l01Byte) gas
noncomputable def H_spec_l01Text {γ:Type} (F:T_spec_l01Text):Hd ctx γ:=hdl cv5.dec (fun a=>F a.1 a.2) cv7.enc
abbrev T_spec_l19Thing:=SL01Cur→Option (SThing×SL01Cur)
noncomputable def E_spec_l19Thing (z0:T_spec_l01Below) (z1:T_spec_l01Once) (z2:T_spec_l01Text) (z3:T_spec_l01Pick) (z4:T_spec_DigestOf) (c_0:SL01Cur):Option (SThing×SL01Cur):=
 (z0 ⟨(),c_0.fI,c_0.fH⟩ 6).bind fun r0=>
 (z0 ⟨(),r0.2.fI,r0.2.fH⟩ 3).bind fun r1=>
 (z1 ⟨(),r1.2.fI,r1.2.fH⟩ 2).bind fun r2=>
 (z1 ⟨(),r2.2.fI,r2.2.fH⟩ 2).bind fun r3=>
 bif ((w64 (1+r1.1)) == 3) then
 (z0 ⟨(),r3.2.fI,r3.2.fH⟩ 9).bind fun r4=>
 (z2 ⟨(),r4.2.fI,r4.2.fH⟩ r4.1).bind fun r5=>
 some (⟨(w64 (1+r0.1)),(w64 (1+r1.1)),r2.1,r3.1,false,false,r5.1,0⟩,⟨(),r5.2.fI,r5.2.fH⟩)
 else
 bif ((w64 (1+r1.1)) == 2) then
  (z0 ⟨(),r3.2.fI,r3.2.fH⟩ 17).bind fun r6=>
  (z1 ⟨(),r6.2.fI,r6.2.fH⟩ 4).bind fun r7=>
  (z3 ⟨(),r7.2.fI,r7.2.fH⟩ [⟨#[97]⟩,⟨#[98]⟩,⟨#[99]⟩]).bind fun r8=>
  (z4 r8.1).bind fun r9=>
  some (⟨(w64 (1+r0.1)),(w64 (1+r1.1)),r2.1,r3.1,(!r7.1),false,r9,r6.1⟩,⟨(),r8.2.fI,r8.2.fH⟩)
 else
  (z1 ⟨(),r3.2.fI,r3.2.fH⟩ 4).bind fun r10=>
  (z3 ⟨(),r10.2.fI,r10.2.fH⟩ [⟨#[97]⟩,⟨#[98]⟩,⟨#[99]⟩]).bind fun r11=>
  (z4 r11.1).bind fun r12=>
  some (⟨(w64 (1+r0.1)),(w64 (1+r1.1)),r2.1,r3.1,false,(!r10.1),r12,0⟩,⟨(),r11.2.fI,r11.2.fH⟩)
noncomputable def spec_l19Thing:T_spec_l19Thing:=E_spec_l19Thing spec_l01Below spec_l01Once spec_l01Text spec_l01Pick spec_DigestOf
theorem ok_spec_l19Thing:Tells ctx PP 37 cv3 cv21 (fun a=>spec_l19Thing a):=fn_ok0 (hc ok_spec_l01Below (hc ok_spec_l01Once (hc ok_spec_l01Text (hc ok_spec_l01Pick (hc ok_spec_DigestOf hl_nil))))) Try.func37 ((fun z0 z1 z2 z3 z4 a=>by kernel_rfl:∀ z0 z1 z2 z3 z4,EntryIs0 ctx PP 37 [0] [(38,H_spec_l01Below z0),(20,H_spec_l01Once z1),(51,H_spec_l01Text z2),(55,H_spec_l01Pick z3),(54,H_spec_DigestOf z4)] cv3 cv21 fun a=>E_spec_l19Thing z0 z1 z2 z3 z4 a) spec_l01Below spec_l01Once spec_l01Text spec_l01Pick spec_DigestOf)
noncomputable def H_spec_l19Thing {γ:Type} (F:T_spec_l19Thing):Hd ctx γ:=hdl cv3.dec (fun a=>F a) cv21.enc
abbrev Lc:=SL01Cur→SBook→Option (SRec×SL01Cur)
noncomputable def Rh (z0:T_spec_l01PickInt) (z1:T_spec_l01Pick) (z2:T_spec_DigestOf) (z3:T_spec_l01Below) (z4:T_spec_l19Thing) (z5:T_spec_l01Once) (c_0:SL01Cur) (b_1:SBook):Option (SRec×SL01Cur):=
 (z0 ⟨(),c_0.fI,c_0.fH⟩ [1,2,3,3,3,3,4]).bind fun r0=>
 bif (r0.1 == 1) then
 (z1 ⟨(),r0.2.fI,r0.2.fH⟩ [⟨#[]⟩,⟨#[119]⟩,⟨#[112,105,110]⟩]).bind fun r1=>
 (z2 r1.1).bind fun r2=>
 some (⟨r0.1,r2,0,⟨0,0,false,false,false,false,⟨#[]⟩,0⟩⟩,⟨(),r1.2.fI,r1.2.fH⟩)
 else
 bif (r0.1 == 2) then
  (z3 ⟨(),r0.2.fI,r0.2.fH⟩ 4).bind fun r3=>
  some (⟨r0.1,⟨#[]⟩,r3.1,⟨0,0,false,false,false,false,⟨#[]⟩,0⟩⟩,⟨(),r3.2.fI,r3.2.fH⟩)
 else
  bif (r0.1 == 3) then
  (z4 ⟨(),r0.2.fI,r0.2.fH⟩).bind fun r4=>
  bif (decide ((b_1.fThings.length:Int) > 0)) then
   (z5 ⟨(),r4.2.fI,r4.2.fH⟩ 2).bind fun r5=>
   bif r5.1 then
   (z3 ⟨(),r5.2.fI,r5.2.fH⟩ (b_1.fThings.length:Int)).bind fun r6=>
   bif ((decide (0≤r6.1)) && (decide (r6.1<(b_1.fThings.length:Int)))) then
   bif (b_1.fThings.getD r6.1.toNat (⟨0,0,false,false,false,false,⟨#[]⟩,0⟩:SThing)).fHidden then
    bif (b_1.fThings.getD r6.1.toNat (⟨0,0,false,false,false,false,⟨#[]⟩,0⟩:SThing)).fFixed then
    bif ((b_1.fThings.getD r6.1.toNat (⟨0,0,false,false,false,false,⟨#[]⟩,0⟩:SThing)).fKind == 2) then
     bif (decide ((b_1.fThings.getD r6.1.toNat (⟨0,0,false,false,false,false,⟨#[]⟩,0⟩:SThing)).fNext<16)) then
     (z3 ⟨(),r6.2.fI,r6.2.fH⟩ 2).bind fun r7=>
     some (⟨r0.1,⟨#[]⟩,0,⟨(b_1.fThings.getD r6.1.toNat (⟨0,0,false,false,false,false,⟨#[]⟩,0⟩:SThing)).fId,(b_1.fThings.getD r6.1.toNat (⟨0,0,false,false,false,false,⟨#[]⟩,0⟩:SThing)).fKind,true,true,(b_1.fThings.getD r6.1.toNat (⟨0,0,false,false,false,false,⟨#[]⟩,0⟩:SThing)).fSigns,(b_1.fThings.getD r6.1.toNat (⟨0,0,false,false,false,false,⟨#[]⟩,0⟩:SThing)).fWraps,(b_1.fThings.getD r6.1.toNat (⟨0,0,false,false,false,false,⟨#[]⟩,0⟩:SThing)).fValue,(w64 ((b_1.fThings.getD r6.1.toNat (⟨0,0,false,false,false,false,⟨#[]⟩,0⟩:SThing)).fNext+r7.1))⟩⟩,⟨(),r7.2.fI,r7.2.fH⟩)
     else
     some (⟨r0.1,⟨#[]⟩,0,⟨(b_1.fThings.getD r6.1.toNat (⟨0,0,false,false,false,false,⟨#[]⟩,0⟩:SThing)).fId,(b_1.fThings.getD r6.1.toNat (⟨0,0,false,false,false,false,⟨#[]⟩,0⟩:SThing)).fKind,true,true,(b_1.fThings.getD r6.1.toNat (⟨0,0,false,false,false,false,⟨#[]⟩,0⟩:SThing)).fSigns,(b_1.fThings.getD r6.1.toNat (⟨0,0,false,false,false,false,⟨#[]⟩,0⟩:SThing)).fWraps,(b_1.fThings.getD r6.1.toNat (⟨0,0,false,false,false,false,⟨#[]⟩,0⟩:SThing)).fValue,(b_1.fThings.getD r6.1.toNat (⟨0,0,false,false,false,false,⟨#[]⟩,0⟩:SThing)).fNext⟩⟩,⟨(),r6.2.fI,r6.2.fH⟩)
    else
     some (⟨r0.1,⟨#[]⟩,0,⟨(b_1.fThings.getD r6.1.toNat (⟨0,0,false,false,false,false,⟨#[]⟩,0⟩:SThing)).fId,(b_1.fThings.getD r6.1.toNat (⟨0,0,false,false,false,false,⟨#[]⟩,0⟩:SThing)).fKind,true,true,(b_1.fThings.getD r6.1.toNat (⟨0,0,false,false,false,false,⟨#[]⟩,0⟩:SThing)).fSigns,(b_1.fThings.getD r6.1.toNat (⟨0,0,false,false,false,false,⟨#[]⟩,0⟩:SThing)).fWraps,(b_1.fThings.getD r6.1.toNat (⟨0,0,false,false,false,false,⟨#[]⟩,0⟩:SThing)).fValue,(b_1.fThings.getD r6.1.toNat (⟨0,0,false,false,false,false,⟨#[]⟩,0⟩:SThing)).fNext⟩⟩,⟨(),r6.2.fI,r6.2.fH⟩)
    else
    (z5 ⟨(),r6.2.fI,r6.2.fH⟩ 2).bind fun r8=>
    bif ((b_1.fThings.getD r6.1.toNat (⟨0,0,false,false,false,false,⟨#[]⟩,0⟩:SThing)).fKind == 2) then
     bif (decide ((b_1.fThings.getD r6.1.toNat (⟨0,0,false,false,false,false,⟨#[]⟩,0⟩:SThing)).fNext<16)) then
     (z3 ⟨(),r8.2.fI,r8.2.fH⟩ 2).bind fun r9=>
     some (⟨r0.1,⟨#[]⟩,0,⟨(b_1.fThings.getD r6.1.toNat (⟨0,0,false,false,false,false,⟨#[]⟩,0⟩:SThing)).fId,(b_1.fThings.getD r6.1.toNat (⟨0,0,false,false,false,false,⟨#[]⟩,0⟩:SThing)).fKind,true,r8.1,(b_1.fThings.getD r6.1.toNat (⟨0,0,false,false,false,false,⟨#[]⟩,0⟩:SThing)).fSigns,(b_1.fThings.getD r6.1.toNat (⟨0,0,false,false,false,false,⟨#[]⟩,0⟩:SThing)).fWraps,(b_1.fThings.getD r6.1.toNat (⟨0,0,false,false,false,false,⟨#[]⟩,0⟩:SThing)).fValue,(w64 ((b_1.fThings.getD r6.1.toNat (⟨0,0,false,false,false,false,⟨#[]⟩,0⟩:SThing)).fNext+r9.1))⟩⟩,⟨(),r9.2.fI,r9.2.fH⟩)
     else
     some (⟨r0.1,⟨#[]⟩,0,⟨(b_1.fThings.getD r6.1.toNat (⟨0,0,false,false,false,false,⟨#[]⟩,0⟩:SThing)).fId,(b_1.fThings.getD r6.1.toNat (⟨0,0,false,false,false,false,⟨#[]⟩,0⟩:SThing)).fKind,true,r8.1,(b_1.fThings.getD r6.1.toNat (⟨0,0,false,false,false,false,⟨#[]⟩,0⟩:SThing)).fSigns,(b_1.fThings.getD r6.1.toNat (⟨0,0,false,false,false,false,⟨#[]⟩,0⟩:SThing)).fWraps,(b_1.fThings.getD r6.1.toNat (⟨0,0,false,false,false,false,⟨#[]⟩,0⟩:SThing)).fValue,(b_1.fThings.getD r6.1.toNat (⟨0,0,false,false,false,false,⟨#[]⟩,0⟩:SThing)).fNext⟩⟩,⟨(),r8.2.fI,r8.2.fH⟩)
    else
     some (⟨r0.1,⟨#[]⟩,0,⟨(b_1.fThings.getD r6.1.toNat (⟨0,0,false,false,false,false,⟨#[]⟩,0⟩:SThing)).fId,(b_1.fThings.getD r6.1.toNat (⟨0,0,false,false,false,false,⟨#[]⟩,0⟩:SThing)).fKind,true,r8.1,(b_1.fThings.getD r6.1.toNat (⟨0,0,false,false,false,false,⟨#[]⟩,0⟩:SThing)).fSigns,(b_1.fThings.getD r6.1.toNat (⟨0,0,false,false,false,false,⟨#[]⟩,0⟩:SThing)).fWraps,(b_1.fThings.getD r6.1.toNat (⟨0,0,false,false,false,false,⟨#[]⟩,0⟩:SThing)).fValue,(b_1.fThings.getD r6.1.toNat (⟨0,0,false,false,false,false,⟨#[]⟩,0⟩:SThing)).fNext⟩⟩,⟨(),r8.2.fI,r8.2.fH⟩)
   else
    (z5 ⟨(),r6.2.fI,r6.2.fH⟩ 2).bind fun r10=>
    bif (b_1.fThings.getD r6.1.toNat (⟨0,0,false,false,false,false,⟨#[]⟩,0⟩:SThing)).fFixed then
    bif ((b_1.fThings.getD r6.1.toNat (⟨0,0,false,false,false,false,⟨#[]⟩,0⟩:SThing)).fKind == 2) then
     bif (decide ((b_1.fThings.getD r6.1.toNat (⟨0,0,false,false,false,false,⟨#[]⟩,0⟩:SThing)).fNext<16)) then
     (z3 ⟨(),r10.2.fI,r10.2.fH⟩ 2).bind fun r11=>
     some (⟨r0.1,⟨#[]⟩,0,⟨(b_1.fThings.getD r6.1.toNat (⟨0,0,false,false,false,false,⟨#[]⟩,0⟩:SThing)).fId,(b_1.fThings.getD r6.1.toNat (⟨0,0,false,false,false,false,⟨#[]⟩,0⟩:SThing)).fKind,r10.1,true,(b_1.fThings.getD r6.1.toNat (⟨0,0,false,false,false,false,⟨#[]⟩,0⟩:SThing)).fSigns,(b_1.fThings.getD r6.1.toNat (⟨0,0,false,false,false,false,⟨#[]⟩,0⟩:SThing)).fWraps,(b_1.fThings.getD r6.1.toNat (⟨0,0,false,false,false,false,⟨#[]⟩,0⟩:SThing)).fValue,(w64 ((b_1.fThings.getD r6.1.toNat (⟨0,0,false,false,false,false,⟨#[]⟩,0⟩:SThing)).fNext+r11.1))⟩⟩,⟨(),r11.2.fI,r11.2.fH⟩)
     else
     some (⟨r0.1,⟨#[]⟩,0,⟨(b_1.fThings.getD r6.1.toNat (⟨0,0,false,false,false,false,⟨#[]⟩,0⟩:SThing)).fId,(b_1.fThings.getD r6.1.toNat (⟨0,0,false,false,false,false,⟨#[]⟩,0⟩:SThing)).fKind,r10.1,true,(b_1.fThings.getD r6.1.toNat (⟨0,0,false,false,false,false,⟨#[]⟩,0⟩:SThing)).fSigns,(b_1.fThings.getD r6.1.toNat (⟨0,0,false,false,false,false,⟨#[]⟩,0⟩:SThing)).fWraps,(b_1.fThings.getD r6.1.toNat (⟨0,0,false,false,false,false,⟨#[]⟩,0⟩:SThing)).fValue,(b_1.fThings.getD r6.1.toNat (⟨0,0,false,false,false,false,⟨#[]⟩,0⟩:SThing)).fNext⟩⟩,⟨(),r10.2.fI,r10.2.fH⟩)
    else
     some (⟨r0.1,⟨#[]⟩,0,⟨(b_1.fThings.getD r6.1.toNat (⟨0,0,false,false,false,false,⟨#[]⟩,0⟩:SThing)).fId,(b_1.fThings.getD r6.1.toNat (⟨0,0,false,false,false,false,⟨#[]⟩,0⟩:SThing)).fKind,r10.1,true,(b_1.fThings.getD r6.1.toNat (⟨0,0,false,false,false,false,⟨#[]⟩,0⟩:SThing)).fSigns,(b_1.fThings.getD r6.1.toNat (⟨0,0,false,false,false,false,⟨#[]⟩,0⟩:SThing)).fWraps,(b_1.fThings.getD r6.1.toNat (⟨0,0,false,false,false,false,⟨#[]⟩,0⟩:SThing)).fValue,(b_1.fThings.getD r6.1.toNat (⟨0,0,false,false,false,false,⟨#[]⟩,0⟩:SThing)).fNext⟩⟩,⟨(),r10.2.fI,r10.2.fH⟩)
    else
    (z5 ⟨(),r10.2.fI,r10.2.fH⟩ 2).bind fun r12=>
    bif ((b_1.fThings.getD r6.1.toNat (⟨0,0,false,false,false,false,⟨#[]⟩,0⟩:SThing)).fKind == 2) then
     bif (decide ((b_1.fThings.getD r6.1.toNat (⟨0,0,false,false,false,false,⟨#[]⟩,0⟩:SThing)).fNext<16)) then
     (z3 ⟨(),r12.2.fI,r12.2.fH⟩ 2).bind fun r13=>
     some (⟨r0.1,⟨#[]⟩,0,⟨(b_1.fThings.getD r6.1.toNat (⟨0,0,false,false,false,false,⟨#[]⟩,0⟩:SThing)).fId,(b_1.fThings.getD r6.1.toNat (⟨0,0,false,false,false,false,⟨#[]⟩,0⟩:SThing)).fKind,r10.1,r12.1,(b_1.fThings.getD r6.1.toNat (⟨0,0,false,false,false,false,⟨#[]⟩,0⟩:SThing)).fSigns,(b_1.fThings.getD r6.1.toNat (⟨0,0,false,false,false,false,⟨#[]⟩,0⟩:SThing)).fWraps,(b_1.fThings.getD r6.1.toNat (⟨0,0,false,false,false,false,⟨#[]⟩,0⟩:SThing)).fValue,(w64 ((b_1.fThings.getD r6.1.toNat (⟨0,0,false,false,false,false,⟨#[]⟩,0⟩:SThing)).fNext+r13.1))⟩⟩,⟨(),r13.2.fI,r13.2.fH⟩)
     else
     some (⟨r0.1,⟨#[]⟩,0,⟨(b_1.fThings.getD r6.1.toNat (⟨0,0,false,false,false,false,⟨#[]⟩,0⟩:SThing)).fId,(b_1.fThings.getD r6.1.toNat (⟨0,0,false,false,false,false,⟨#[]⟩,0⟩:SThing)).fKind,r10.1,r12.1,(b_1.fThings.getD r6.1.toNat (⟨0,0,false,false,false,false,⟨#[]⟩,0⟩:SThing)).fSigns,(b_1.fThings.getD r6.1.toNat (⟨0,0,false,false,false,false,⟨#[]⟩,0⟩:SThing)).fWraps,(b_1.fThings.getD r6.1.toNat (⟨0,0,false,false,false,false,⟨#[]⟩,0⟩:SThing)).fValue,(b_1.fThings.getD r6.1.toNat (⟨0,0,false,false,false,false,⟨#[]⟩,0⟩:SThing)).fNext⟩⟩,⟨(),r12.2.fI,r12.2.fH⟩)
    else
     some (⟨r0.1,⟨#[]⟩,0,⟨(b_1.fThings.getD r6.1.toNat (⟨0,0,false,false,false,false,⟨#[]⟩,0⟩:SThing)).fId,(b_1.fThings.getD r6.1.toNat (⟨0,0,false,false,false,false,⟨#[]⟩,0⟩:SThing)).fKind,r10.1,r12.1,(b_1.fThings.getD r6.1.toNat (⟨0,0,false,false,false,false,⟨#[]⟩,0⟩:SThing)).fSigns,(b_1.fThings.getD r6.1.toNat (⟨0,0,false,false,false,false,⟨#[]⟩,0⟩:SThing)).fWraps,(b_1.fThings.getD r6.1.toNat (⟨0,0,false,false,false,false,⟨#[]⟩,0⟩:SThing)).fValue,(b_1.fThings.getD r6.1.toNat (⟨0,0,false,false,false,false,⟨#[]⟩,0⟩:SThing)).fNext⟩⟩,⟨(),r12.2.fI,r12.2.fH⟩)
   else none
   else
   some (⟨r0.1,⟨#[]⟩,0,⟨(w64 (b_1.fLast+1)),r4.1.fKind,r4.1.fHidden,r4.1.fFixed,r4.1.fSigns,r4.1.fWraps,r4.1.fValue,r4.1.fNext⟩⟩,⟨(),r5.2.fI,r5.2.fH⟩)
  else
   some (⟨r0.1,⟨#[]⟩,0,⟨(w64 (b_1.fLast+1)),r4.1.fKind,r4.1.fHidden,r4.1.fFixed,r4.1.fSigns,r4.1.fWraps,r4.1.fValue,r4.1.fNext⟩⟩,⟨(),r4.2.fI,r4.2.fH⟩)
  else
  bif (r0.1 == 4) then
   (z3 ⟨(),r0.2.fI,r0.2.fH⟩ 6).bind fun r14=>
   bif (decide ((b_1.fThings.length:Int) > 0)) then
   (z3 ⟨(),r14.2.fI,r14.2.fH⟩ (b_1.fThings.length:Int)).bind fun r15=>
   bif ((decide (0≤r15.1)) && (decide (r15.1<(b_1.fThings.length:Int)))) then
   some (⟨r0.1,⟨#[]⟩,(b_1.fThings.getD r15.1.toNat (⟨0,0,false,false,false,false,⟨#[]⟩,0⟩:SThing)).fId,⟨0,0,false,false,false,false,⟨#[]⟩,0⟩⟩,⟨(),r15.2.fI,r15.2.fH⟩)
   else none
   else
   some (⟨r0.1,⟨#[]⟩,(w64 (1+r14.1)),⟨0,0,false,false,false,false,⟨#[]⟩,0⟩⟩,⟨(),r14.2.fI,r14.2.fH⟩)
  else
   some (⟨r0.1,⟨#[]⟩,0,⟨0,0,false,false,false,false,⟨#[]⟩,0⟩⟩,⟨(),r0.2.fI,r0.2.fH⟩)
noncomputable def EZ:Lc:=Rh spec_l01PickInt spec_l01Pick spec_DigestOf spec_l01Below spec_l19Thing spec_l01Once
theorem Ul:Tells ctx PP 42 cv29 cv30 (fun a=>EZ a.1 a.2):=fn_ok0 (hc ok_spec_l01PickInt (hc ok_spec_l01Pick (hc ok_spec_DigestOf (hc ok_spec_l01Below (hc ok_spec_l19Thing (hc ok_spec_l01Once hl_nil)))))) Try.func42 ((fun z0 z1 z2 z3 z4 z5 a=>by kernel_rfl:∀ z0 z1 z2 z3 z4 z5,EntryIs0 ctx PP 42 [0] [(39,H_spec_l01PickInt z0),(55,H_spec_l01Pick z1),(54,H_spec_DigestOf z2),(38,H_spec_l01Below z3),(37,H_spec_l19Thing z4),(20,H_spec_l01Once z5)] cv29 cv30 fun a=>Rh z0 z1 z2 z3 z4 z5 a.1 a.2) spec_l01PickInt spec_l01Pick spec_DigestOf spec_l01Below spec_l19Thing spec_l01Once)
noncomputable def Uh {γ:Type} (F:Lc):Hd ctx γ:=hdl cv29.dec (fun a=>F a.1 a.2) cv30.enc
abbrev WZ:=Int→Option ByteArray
inductive Mc where
 | c0 (n_0:Int) (out_3:(List Int))
noncomputable def Vl:Mc→LI
 | .c0 n_0 out_3=>(tdo Try.f30 224,[(0,[.one (.int .i64 n_0)]),(3,[.one (.own 240)])],[(240,.sl 5 out_3)])
noncomputable def Wl (k:Mc→Option ByteArray) (n_0:Int):Option ByteArray:=
 k (.c0 n_0 [])
noncomputable def Xe (k:Mc→Option ByteArray):Mc→Option ByteArray
 | .c0 n_0 out_3=>
 bif (decide (n_0 > 127)) then
  bif (decide (((out_3.length+1)*1)≤140737488355328)) then
  k (.c0 (w64 (n_0.tdiv 128)) (out_3++[(w8 (w64 ((n_0.tmod 128)+128)))]))
  else none
 else
  bif (decide (((out_3.length+1)*1)≤140737488355328)) then
  some (ofBytes (out_3++[(w8 n_0)]))
  else none
noncomputable def Nc:Nat→Mc→Option ByteArray
 | 0,_=>none
 | m+1,s=>Xe (Nc m) s
noncomputable def RY:WZ:=Wl (Nc gas)
theorem Ye:Tells ctx PP 30 cv31 cv12 (fun a=>RY a):=
 have b:CutIs ctx PP 30 Try.f30 [] [] cv12 Vl (Xe):=fun _ s=>by cases s <;> kernel_rfl
 have e:EntryIs ctx PP 30 [] [] cv31 cv12 Vl (fun k a=>Wl k a):=fun _ a=>by kernel_rfl
 fn_ok hl_nil Try.func30 (fun s s' h=>by cases s;cases s';cases h;rfl) (fun _=>rfl) (fun _ _=>rfl) b e gas
noncomputable def Oc {γ:Type} (F:WZ):Hd ctx γ:=hdl cv31.dec (fun a=>F a) cv12.enc
abbrev T_spec_ThingOk:=SThing→Option Bool
noncomputable def E_spec_ThingOk (z0:T_spec_l01In) (x_0:SThing):Option Bool:=
 (z0 x_0.fId 1 1000).bind fun r0=>
 bif (!r0) then
 some false
 else
 (z0 x_0.fKind 1 3).bind fun r1=>
 bif (!r1) then
  some false
 else
  (z0 x_0.fNext 0 16).bind fun r2=>
  bif (!r2) then
  some false
  else
  bif (x_0.fKind != 2) then
   bif (x_0.fNext != 0) then
   some false
   else
   bif x_0.fSigns then
    some false
   else
    bif (x_0.fKind != 1) then
    bif x_0.fWraps then
     some false
    else
     bif (x_0.fKind == 3) then
     some (decide ((x_0.fValue.size:Int)≤100))
     else
     some ((x_0.fValue.size:Int) == 32)
    else
    bif (x_0.fKind == 3) then
     some (decide ((x_0.fValue.size:Int)≤100))
    else
     some ((x_0.fValue.size:Int) == 32)
  else
   bif (x_0.fKind != 1) then
   bif x_0.fWraps then
    some false
   else
    bif (x_0.fKind == 3) then
    some (decide ((x_0.fValue.size:Int)≤100))
    else
    some ((x_0.fValue.size:Int) == 32)
   else
   bif (x_0.fKind == 3) then
    some (decide ((x_0.fValue.size:Int)≤100))
   else
    some ((x_0.fValue.size:Int) == 32)
noncomputable def spec_ThingOk:T_spec_ThingOk:=E_spec_ThingOk spec_l01In
theorem ok_spec_ThingOk:Tells ctx PP 8 cv25 cv1 (fun a=>spec_ThingOk a):=fn_ok0 (hc ok_spec_l01In hl_nil) Try.func8 ((fun z0 a=>by kernel_rfl:∀ z0,EntryIs0 ctx PP 8 [] [(21,H_spec_l01In z0)] cv25 cv1 fun a=>E_spec_ThingOk z0 a) spec_l01In)
noncomputable def H_spec_ThingOk {γ:Type} (F:T_spec_ThingOk):Hd ctx γ:=hdl cv25.dec (fun a=>F a) cv1.enc
abbrev Vh:=Bool→Int→Option Int
noncomputable def Xl (x_0:Bool) (n_1:Int):Option Int:=
 bif x_0 then
 some n_1
 else
 some 0
noncomputable def Ze:Vh:=Xl
theorem Bq:Tells ctx PP 48 cv32 cv31 (fun a=>Ze a.1 a.2):=fn_ok0 hl_nil Try.func48 (fun a=>by kernel_rfl:EntryIs0 ctx PP 48 [] [] cv32 cv31 fun a=>Xl a.1 a.2)
noncomputable def Dq {γ:Type} (F:Vh):Hd ctx γ:=hdl cv32.dec (fun a=>F a.1 a.2) cv31.enc
abbrev Wh:=Int→Option ByteArray
noncomputable def Xh (n_0:Int):Option ByteArray:=
 bif (decide ((n_0.tmod 256)<0)) then
 some (ofBytes [(w8 (w64 ((n_0.tmod 256)+256)))])
 else
 some (ofBytes [(w8 (n_0.tmod 256))])
noncomputable def Qc:Wh:=Xh
theorem Fq:Tells ctx PP 49 cv31 cv12 (fun a=>Qc a):=fn_ok0 hl_nil Try.func49 (fun a=>by kernel_rfl:EntryIs0 ctx PP 49 [] [] cv31 cv12 fun a=>Xh a)
noncomputable def Gq {γ:Type} (F:Wh):Hd ctx γ:=hdl cv31.dec (fun a=>F a) cv12.enc
abbrev Yh:=ByteArray→Option ByteArray
noncomputable def Zh (z0:WZ) (s_0:ByteArray):Option ByteArray:=
 (z0 (s_0.size:Int)).bind fun r0=>
 bif (decide ((r0.size+s_0.size)≤9223372036854775807)) then
 some (r0++s_0)
 else none
noncomputable def Tc:Yh:=Zh RY
theorem Hq:Tells ctx PP 50 cv12 cv12 (fun a=>Tc a):=fn_ok0 (hc Ye hl_nil) Try.func50 ((fun z0 a=>by kernel_rfl:∀ z0,EntryIs0 ctx PP 50 [] [(30,Oc z0)] cv12 cv12 fun a=>Zh z0 a) RY)
noncomputable def Iq {γ:Type} (F:Yh):Hd ctx γ:=hdl cv12.dec (fun a=>F a) cv12.enc
abbrev Af:=SThing→Option (ByteArray×Bool)
noncomputable def Ai (z0:T_spec_ThingOk) (z1:Vh) (z2:WZ) (z3:Wh) (z4:Yh) (x_0:SThing):Option (ByteArray×Bool):=
 (z0 x_0).bind fun r0=>
 bif (!r0) then
 some (⟨#[]⟩,false)
 else
 (z1 x_0.fHidden 1).bind fun r1=>
 (z1 x_0.fFixed 2).bind fun r2=>
 (z1 x_0.fSigns 4).bind fun r3=>
 (z1 x_0.fWraps 8).bind fun r4=>
 (z2 x_0.fId).bind fun r5=>
 (z3 x_0.fKind).bind fun r6=>
 bif (decide ((r5.size+r6.size)≤9223372036854775807)) then
 (z3 (w64 ((w64 ((w64 (r1+r2))+r3))+r4))).bind fun r7=>
 bif (decide (((r5++r6).size+r7.size)≤9223372036854775807)) then
 (z4 x_0.fValue).bind fun r8=>
 bif (decide ((((r5++r6)++r7).size+r8.size)≤9223372036854775807)) then
 (z2 x_0.fNext).bind fun r9=>
 bif (decide (((((r5++r6)++r7)++r8).size+r9.size)≤9223372036854775807)) then
 some (((((r5++r6)++r7)++r8)++r9),true)
 else none
 else none
 else none
 else none
noncomputable def XZ:Af:=Ai spec_ThingOk Ze RY Qc Tc
theorem Yl:Tells ctx PP 31 cv25 cv33 (fun a=>XZ a):=fn_ok0 (hc ok_spec_ThingOk (hc Bq (hc Ye (hc Fq (hc Hq hl_nil))))) Try.func31 ((fun z0 z1 z2 z3 z4 a=>by kernel_rfl:∀ z0 z1 z2 z3 z4,EntryIs0 ctx PP 31 [] [(8,H_spec_ThingOk z0),(48,Dq z1),(30,Oc z2),(49,Gq z3),(50,Iq z4)] cv25 cv33 fun a=>Ai z0 z1 z2 z3 z4 a) spec_ThingOk Ze RY Qc Tc)
noncomputable def Zl {γ:Type} (F:Af):Hd ctx γ:=hdl cv25.dec (fun a=>F a) cv33.enc
abbrev YZ:=SRec→Option (ByteArray×Bool)
noncomputable def Ci (z0:T_spec_l01In) (z1:WZ) (z2:Af) (r_0:SRec):Option (ByteArray×Bool):=
 bif (r_0.fKind == 1) then
 bif ((r_0.fText.size:Int) == 32) then
  bif (r_0.fNum == 0) then
  bif ((r_0.fThing.fId == 0) && ((r_0.fThing.fKind == 0) && ((r_0.fThing.fHidden == false) && ((r_0.fThing.fFixed == false) && ((r_0.fThing.fSigns == false) && ((r_0.fThing.fWraps == false) && (((ByteArray.toList r_0.fThing.fValue) == (ByteArray.toList ⟨#[]⟩)) && ((r_0.fThing.fNext == 0) && true)))))))) then
   bif (decide (((⟨#[1]⟩:ByteArray).size+r_0.fText.size)≤9223372036854775807)) then
   some (((⟨#[1]⟩:ByteArray)++r_0.fText),true)
   else none
  else
   some (⟨#[]⟩,false)
  else
  some (⟨#[]⟩,false)
 else
  some (⟨#[]⟩,false)
 else
 bif (r_0.fKind == 2) then
  bif ((ByteArray.toList r_0.fText) == (ByteArray.toList ⟨#[]⟩)) then
  bif ((r_0.fThing.fId == 0) && ((r_0.fThing.fKind == 0) && ((r_0.fThing.fHidden == false) && ((r_0.fThing.fFixed == false) && ((r_0.fThing.fSigns == false) && ((r_0.fThing.fWraps == false) && (((ByteArray.toList r_0.fThing.fValue) == (ByteArray.toList ⟨#[]⟩)) && ((r_0.fThing.fNext == 0) && true)))))))) then
   (z0 r_0.fNum 0 3).bind fun r0=>
   bif r0 then
   (z1 r_0.fNum).bind fun r1=>
   bif (decide (((⟨#[2]⟩:ByteArray).size+r1.size)≤9223372036854775807)) then
   some (((⟨#[2]⟩:ByteArray)++r1),true)
   else none
   else
   some (⟨#[]⟩,false)
  else
   some (⟨#[]⟩,false)
  else
  some (⟨#[]⟩,false)
 else
  bif (r_0.fKind == 3) then
  (z2 r_0.fThing).bind fun r2=>
  bif r2.2 then
   bif ((ByteArray.toList r_0.fText) == (ByteArray.toList ⟨#[]⟩)) then
   bif (r_0.fNum == 0) then
    bif (decide (((⟨#[3]⟩:ByteArray).size+r2.1.size)≤9223372036854775807)) then
    some (((⟨#[3]⟩:ByteArray)++r2.1),true)
    else none
   else
    some (⟨#[]⟩,false)
   else
   some (⟨#[]⟩,false)
  else
   some (⟨#[]⟩,false)
  else
  bif (r_0.fKind == 4) then
   bif ((ByteArray.toList r_0.fText) == (ByteArray.toList ⟨#[]⟩)) then
   bif ((r_0.fThing.fId == 0) && ((r_0.fThing.fKind == 0) && ((r_0.fThing.fHidden == false) && ((r_0.fThing.fFixed == false) && ((r_0.fThing.fSigns == false) && ((r_0.fThing.fWraps == false) && (((ByteArray.toList r_0.fThing.fValue) == (ByteArray.toList ⟨#[]⟩)) && ((r_0.fThing.fNext == 0) && true)))))))) then
    (z0 r_0.fNum 1 1000).bind fun r3=>
    bif r3 then
    (z1 r_0.fNum).bind fun r4=>
    bif (decide (((⟨#[4]⟩:ByteArray).size+r4.size)≤9223372036854775807)) then
    some (((⟨#[4]⟩:ByteArray)++r4),true)
    else none
    else
    some (⟨#[]⟩,false)
   else
    some (⟨#[]⟩,false)
   else
   some (⟨#[]⟩,false)
  else
   some (⟨#[]⟩,false)
noncomputable def OY:YZ:=Ci spec_l01In RY XZ
theorem Bf:Tells ctx PP 15 cv34 cv33 (fun a=>OY a):=fn_ok0 (hc ok_spec_l01In (hc Ye (hc Yl hl_nil))) Try.func15 ((fun z0 z1 z2 a=>by kernel_rfl:∀ z0 z1 z2,EntryIs0 ctx PP 15 [] [(21,H_spec_l01In z0),(30,Oc z1),(31,Zl z2)] cv34 cv33 fun a=>Ci z0 z1 z2 a) spec_l01In RY XZ)
noncomputable def Uc {γ:Type} (F:YZ):Hd ctx γ:=hdl cv34.dec (fun a=>F a) cv33.enc
abbrev Df:=SBook→Option Bool
inductive Xc where
 | c0 (i_3:Int) (b_1:SBook)
noncomputable def Am:Xc→LI
 | .c0 i_3 b_1=>(tdo Try.f57 464,[(1,[.one (.ptr 64 0)]),(3,[.one (.int .i64 i_3)])],[(64,.var [.str b_1.fWord,.int .i64 b_1.fTries,.rsl 25 b_1.fThings,.int .i64 b_1.fLast,.str b_1.fChain,.int .i64 b_1.fCount])])
noncomputable def Di (z0:T_spec_l01In) (z1:T_spec_ThingOk) (k:Xc→Option Bool) (b_0:SBook):Option Bool:=
 bif ((b_0.fWord.size:Int) != 32) then
 some false
 else
 bif ((b_0.fChain.size:Int) != 32) then
  some false
 else
  (z0 b_0.fTries 0 3).bind fun r0=>
  bif (!r0) then
  some false
  else
  bif (decide ((b_0.fThings.length:Int) > 8)) then
   some false
  else
   (z0 b_0.fLast 0 1000).bind fun r1=>
   bif (!r1) then
   some false
   else
   (z0 b_0.fCount 0 10000).bind fun r2=>
   bif (!r2) then
    some false
   else
    k (.c0 0 b_0)
noncomputable def Ef (z0:T_spec_l01In) (z1:T_spec_ThingOk) (k:Xc→Option Bool):Xc→Option Bool
 | .c0 i_3 b_1=>
 bif (decide (i_3<(b_1.fThings.length:Int))) then
  bif ((decide (0≤i_3)) && (decide (i_3<(b_1.fThings.length:Int)))) then
  (z1 (b_1.fThings.getD i_3.toNat (⟨0,0,false,false,false,false,⟨#[]⟩,0⟩:SThing))).bind fun r0=>
  bif (!r0) then
  some false
  else
  bif ((decide (0≤i_3)) && (decide (i_3<(b_1.fThings.length:Int)))) then
  bif (decide ((b_1.fThings.getD i_3.toNat (⟨0,0,false,false,false,false,⟨#[]⟩,0⟩:SThing)).fId > b_1.fLast)) then
   some false
  else
   bif (decide (i_3 > 0)) then
   bif ((decide (0≤(w64 (i_3 - 1)))) && (decide ((w64 (i_3 - 1))<(b_1.fThings.length:Int)))) then
   bif ((decide (0≤i_3)) && (decide (i_3<(b_1.fThings.length:Int)))) then
   bif (decide ((b_1.fThings.getD (w64 (i_3 - 1)).toNat (⟨0,0,false,false,false,false,⟨#[]⟩,0⟩:SThing)).fId≥(b_1.fThings.getD i_3.toNat (⟨0,0,false,false,false,false,⟨#[]⟩,0⟩:SThing)).fId)) then
    some false
   else
    k (.c0 (w64 (i_3+1)) b_1)
   else none
   else none
   else
   k (.c0 (w64 (i_3+1)) b_1)
  else none
  else none
 else
  some true
noncomputable def Aa:Nat→Xc→Option Bool
 | 0,_=>none
 | m+1,s=>Ef spec_l01In spec_ThingOk (Aa m) s
noncomputable def Ba:Df:=Di spec_l01In spec_ThingOk (Aa gas)
theorem Jq:Tells ctx PP 57 cv35 cv1 (fun a=>Ba a):=
 have b:∀ z0 z1,CutIs ctx PP 57 Try.f57 [] [(21,H_spec_l01In z0),(8,H_spec_ThingOk z1)] cv1 Am (Ef z0 z1):=fun z0 z1 _ s=>by cases s <;> kernel_rfl
 have e:∀ z0 z1,EntryIs ctx PP 57 [] [(21,H_spec_l01In z0),(8,H_spec_ThingOk z1)] cv35 cv1 Am (fun k a=>Di z0 z1 k a):=fun z0 z1 _ a=>by kernel_rfl
 fn_ok (hc ok_spec_l01In (hc ok_spec_ThingOk hl_nil)) Try.func57 (fun s s' h=>by cases s;cases s';(repeat cases ‹SBook›);cases h;rfl) (fun _=>rfl) (fun _ _=>rfl) (b spec_l01In spec_ThingOk) (e spec_l01In spec_ThingOk) gas
noncomputable def Cm {γ:Type} (F:Df):Hd ctx γ:=hdl cv35.dec (fun a=>F a) cv1.enc
abbrev Gf:=SBook→Option SBook
noncomputable def Ei (b_0:SBook):Option SBook:=
 bif (decide (((0+b_0.fThings.length)*48)≤140737488355328)) then
 some ⟨b_0.fWord,b_0.fTries,([]++b_0.fThings),b_0.fLast,b_0.fChain,b_0.fCount⟩
 else none
noncomputable def Ea:Gf:=Ei
theorem Kq:Tells ctx PP 58 cv35 cv28 (fun a=>Ea a):=fn_ok0 hl_nil Try.func58 (fun a=>by kernel_rfl:EntryIs0 ctx PP 58 [] [] cv35 cv28 fun a=>Ei a)
noncomputable def Em {γ:Type} (F:Gf):Hd ctx γ:=hdl cv35.dec (fun a=>F a) cv28.enc
abbrev Hf:=SBook→Int→Option (SThing×Bool)
inductive Yc where
 | c0 (id_1:Int) (i_6:Int) (b_2:SBook) (v_4:SThing)
noncomputable def Gm:Yc→LI
 | .c0 id_1 i_6 b_2 v_4=>(tdo Try.f59 208,[(1,[.one (.int .i64 id_1)]),(2,[.one (.ptr 128 0)]),(4,[.one (.ptr 256 0)]),(6,[.one (.int .i64 i_6)])],[(128,.var [.str b_2.fWord,.int .i64 b_2.fTries,.rsl 25 b_2.fThings,.int .i64 b_2.fLast,.str b_2.fChain,.int .i64 b_2.fCount]),(256,.var [.int .i64 v_4.fId,.int .i64 v_4.fKind,.bool v_4.fHidden,.bool v_4.fFixed,.bool v_4.fSigns,.bool v_4.fWraps,.str v_4.fValue,.int .i64 v_4.fNext])])
noncomputable def Jm (k:Yc→Option (SThing×Bool)) (b_0:SBook) (id_1:Int):Option (SThing×Bool):=
 k (.c0 id_1 0 b_0 ⟨0,0,false,false,false,false,⟨#[]⟩,0⟩)
noncomputable def Jf (k:Yc→Option (SThing×Bool)):Yc→Option (SThing×Bool)
 | .c0 id_1 i_6 b_2 v_4=>
 bif (decide (i_6<(b_2.fThings.length:Int))) then
  bif ((decide (0≤i_6)) && (decide (i_6<(b_2.fThings.length:Int)))) then
  bif ((b_2.fThings.getD i_6.toNat (⟨0,0,false,false,false,false,⟨#[]⟩,0⟩:SThing)).fId == id_1) then
  bif ((decide (0≤i_6)) && (decide (i_6<(b_2.fThings.length:Int)))) then
  some ((b_2.fThings.getD i_6.toNat (⟨0,0,false,false,false,false,⟨#[]⟩,0⟩:SThing)),true)
  else none
  else
  k (.c0 id_1 (w64 (i_6+1)) b_2 v_4)
  else none
 else
  some (⟨0,0,false,false,false,false,⟨#[]⟩,0⟩,false)
noncomputable def Ob:Nat→Yc→Option (SThing×Bool)
 | 0,_=>none
 | m+1,s=>Jf (Ob m) s
noncomputable def Qb:Hf:=Jm (Ob gas)
theorem Nq:Tells ctx PP 59 cv36 cv26 (fun a=>Qb a.1 a.2):=
 have b:CutIs ctx PP 59 Try.f59 [] [] cv26 Gm (Jf):=fun _ s=>by cases s <;> kernel_rfl
 have e:EntryIs ctx PP 59 [] [] cv36 cv26 Gm (fun k a=>Jm k a.1 a.2):=fun _ a=>by kernel_rfl
 fn_ok hl_nil Try.func59 (fun s s' h=>by cases s;cases s';(repeat cases ‹SBook›);(repeat cases ‹SThing›);cases h;rfl) (fun _=>rfl) (fun _ _=>rfl) b e gas
noncomputable def Lm {γ:Type} (F:Hf):Hd ctx γ:=hdl cv36.dec (fun a=>F a.1 a.2) cv26.enc
abbrev Rf:=SThing→SThing→Option Bool
noncomputable def Gi (a_0:SThing) (b_1:SThing):Option Bool:=
 bif (a_0.fKind == b_1.fKind) then
 bif ((ByteArray.toList a_0.fValue) == (ByteArray.toList b_1.fValue)) then
  bif (a_0.fSigns == b_1.fSigns) then
  bif (a_0.fWraps == b_1.fWraps) then
   bif (decide (a_0.fNext≤b_1.fNext)) then
   bif b_1.fHidden then
    bif b_1.fFixed then
    some true
    else
    some (!a_0.fFixed)
   else
    bif (!a_0.fHidden) then
    bif b_1.fFixed then
     some true
    else
     some (!a_0.fFixed)
    else
    some false
   else
   some false
  else
   some false
  else
  some false
 else
  some false
 else
 some false
noncomputable def Fa:Rf:=Gi
theorem Oq:Tells ctx PP 60 cv37 cv1 (fun a=>Fa a.1 a.2):=fn_ok0 hl_nil Try.func60 (fun a=>by kernel_rfl:EntryIs0 ctx PP 60 [] [] cv37 cv1 fun a=>Gi a.1 a.2)
noncomputable def Om {γ:Type} (F:Rf):Hd ctx γ:=hdl cv37.dec (fun a=>F a.1 a.2) cv1.enc
abbrev Tf:=(List SThing)→SThing→Option (List SThing)
inductive Ad where
 | c0 (list_0:(List SThing)) (i_6:Int) (x_3:SThing) (out_5:(List SThing))
 | c1 (list_0:(List SThing)) (i_7:Int) (x_3:SThing) (out_5:(List SThing))
noncomputable def Pm:Ad→LI
 | .c0 list_0 i_6 x_3 out_5=>(tdo Try.f61 464,[(0,[.one (.rsl 25 list_0)]),(3,[.one (.ptr 192 0)]),(5,[.one (.own 368)]),(6,[.one (.int .i64 i_6)])],[(192,.var [.int .i64 x_3.fId,.int .i64 x_3.fKind,.bool x_3.fHidden,.bool x_3.fFixed,.bool x_3.fSigns,.bool x_3.fWraps,.str x_3.fValue,.int .i64 x_3.fNext]),(368,.sl 25 out_5)])
 | .c1 list_0 i_7 x_3 out_5=>(tdo Try.f61 2000,[(0,[.one (.rsl 25 list_0)]),(3,[.one (.ptr 192 0)]),(5,[.one (.own 368)]),(7,[.one (.int .i64 i_7)])],[(192,.var [.int .i64 x_3.fId,.int .i64 x_3.fKind,.bool x_3.fHidden,.bool x_3.fFixed,.bool x_3.fSigns,.bool x_3.fWraps,.str x_3.fValue,.int .i64 x_3.fNext]),(368,.sl 25 out_5)])
noncomputable def Ii (k:Ad→Option (List SThing)) (list_0:(List SThing)) (x_1:SThing):Option (List SThing):=
 k (.c0 list_0 0 x_1 [])
noncomputable def Ub (k:Ad→Option (List SThing)):Ad→Option (List SThing)
 | .c0 list_0 i_6 x_3 out_5=>
 bif (decide (i_6<(list_0.length:Int))) then
  bif ((decide (0≤i_6)) && (decide (i_6<(list_0.length:Int)))) then
  bif (decide ((list_0.getD i_6.toNat (⟨0,0,false,false,false,false,⟨#[]⟩,0⟩:SThing)).fId<x_3.fId)) then
  bif ((decide (0≤i_6)) && (decide (i_6<(list_0.length:Int)))) then
  bif (decide (((out_5.length+1)*48)≤140737488355328)) then
  k (.c0 list_0 (w64 (i_6+1)) x_3 (out_5++[(list_0.getD i_6.toNat (⟨0,0,false,false,false,false,⟨#[]⟩,0⟩:SThing))]))
  else none
  else none
  else
  k (.c0 list_0 (w64 (i_6+1)) x_3 out_5)
  else none
 else
  bif (decide (((out_5.length+1)*48)≤140737488355328)) then
  k (.c1 list_0 0 x_3 (out_5++[x_3]))
  else none
 | .c1 list_0 i_7 x_3 out_5=>
 bif (decide (i_7<(list_0.length:Int))) then
  bif ((decide (0≤i_7)) && (decide (i_7<(list_0.length:Int)))) then
  bif (decide ((list_0.getD i_7.toNat (⟨0,0,false,false,false,false,⟨#[]⟩,0⟩:SThing)).fId > x_3.fId)) then
  bif ((decide (0≤i_7)) && (decide (i_7<(list_0.length:Int)))) then
  bif (decide (((out_5.length+1)*48)≤140737488355328)) then
  k (.c1 list_0 (w64 (i_7+1)) x_3 (out_5++[(list_0.getD i_7.toNat (⟨0,0,false,false,false,false,⟨#[]⟩,0⟩:SThing))]))
  else none
  else none
  else
  k (.c1 list_0 (w64 (i_7+1)) x_3 out_5)
  else none
 else
  some out_5
noncomputable def FZ:Nat→Ad→Option (List SThing)
 | 0,_=>none
 | m+1,s=>Ub (FZ m) s
noncomputable def Ia:Tf:=Ii (FZ gas)
theorem Pq:Tells ctx PP 61 cv38 cv39 (fun a=>Ia a.1 a.2):=
 have b:CutIs ctx PP 61 Try.f61 [] [] cv39 Pm (Ub):=fun _ s=>by cases s <;> kernel_rfl
 have e:EntryIs ctx PP 61 [] [] cv38 cv39 Pm (fun k a=>Ii k a.1 a.2):=fun _ a=>by kernel_rfl
 fn_ok hl_nil Try.func61 (fun s s' h=>by cases s <;> cases s' <;> first | ((repeat cases ‹SThing›);cases h;done) | ((repeat cases ‹SThing›);cases h;rfl) | exact (rg_ne h (by kernel_rfl)).elim) (fun _=>rfl) (fun _ _=>rfl) b e gas
noncomputable def Qm {γ:Type} (F:Tf):Hd ctx γ:=hdl cv38.dec (fun a=>F a.1 a.2) cv39.enc
abbrev Uf:=SBook→SRec→Option (SBook×Bool)
inductive Bd where
 | c0 (y_6:ByteArray) (v_14:Int) (A_2:SBook) (r_3:SRec) (r_4c0:ByteArray) (r_4c1:Int) (r_4c3:Int) (r_4c4:ByteArray) (r_4c5:Int) (v_8c0:ByteArray) (v_8c1:Int) (v_8c3:Int) (v_8c4:ByteArray) (v_8c5:Int) (v_13:(List SThing)) (r_4r2:(List SThing)) (v_8r2:(List SThing))
noncomputable def Sm:Bd→LI
 | .c0 y_6 v_14 A_2 r_3 r_4c0 r_4c1 r_4c3 r_4c4 r_4c5 v_8c0 v_8c1 v_8c3 v_8c4 v_8c5 v_13 r_4r2 v_8r2=>(tdo Try.f43 32898512,[(2,[.one (.ptr 128 0)]),(3,[.one (.ptr 192 0)]),(4,[.one (.ptr 256 0)]),(6,[.one (.str y_6)]),(8,[.one (.ptr 512 0)]),(13,[.one (.own 880)]),(14,[.one (.int .i64 v_14)])],[(128,.var [.str A_2.fWord,.int .i64 A_2.fTries,.rsl 25 A_2.fThings,.int .i64 A_2.fLast,.str A_2.fChain,.int .i64 A_2.fCount]),(192,.var [.int .i64 r_3.fKind,.str r_3.fText,.int .i64 r_3.fNum,.int .i64 r_3.fThing.fId,.int .i64 r_3.fThing.fKind,.bool r_3.fThing.fHidden,.bool r_3.fThing.fFixed,.bool r_3.fThing.fSigns,.bool r_3.fThing.fWraps,.str r_3.fThing.fValue,.int .i64 r_3.fThing.fNext]),(256,.var [.str r_4c0,.int .i64 r_4c1,.own 1016386,.int .i64 r_4c3,.str r_4c4,.int .i64 r_4c5]),(512,.var [.str v_8c0,.int .i64 v_8c1,.own 1032770,.int .i64 v_8c3,.str v_8c4,.int .i64 v_8c5]),(880,.sl 25 v_13),(1016386,.sl 25 r_4r2),(1032770,.sl 25 v_8r2)])
noncomputable def Ji (z0:YZ) (z1:Df) (z2:Gf) (z3:Hf) (z4:Rf) (z5:Tf) (z6:T_spec_DigestOf) (k:Bd→Option (SBook×Bool)) (t_0:SBook) (o_1:SRec):Option (SBook×Bool):=
 (z0 o_1).bind fun r0=>
 (z1 t_0).bind fun r1=>
 bif (!r1) then
 some (⟨⟨#[]⟩,0,[],0,⟨#[]⟩,0⟩,false)
 else
 bif (!r0.2) then
  some (⟨⟨#[]⟩,0,[],0,⟨#[]⟩,0⟩,false)
 else
  bif (t_0.fCount == 10000) then
  some (⟨⟨#[]⟩,0,[],0,⟨#[]⟩,0⟩,false)
  else
  (z2 t_0).bind fun r2=>
  bif (o_1.fKind == 1) then
   bif (decide ((t_0.fChain.size+r0.1.size)≤9223372036854775807)) then
   (z6 (t_0.fChain++r0.1)).bind fun r3=>
   (z1 ⟨o_1.fText,0,r2.fThings,r2.fLast,r3,(w64 (t_0.fCount+1))⟩).bind fun r4=>
   bif (!r4) then
   some (⟨⟨#[]⟩,0,[],0,⟨#[]⟩,0⟩,false)
   else
   some (⟨o_1.fText,0,r2.fThings,r2.fLast,r3,(w64 (t_0.fCount+1))⟩,true)
   else none
  else
   bif (o_1.fKind == 2) then
   bif (decide ((t_0.fChain.size+r0.1.size)≤9223372036854775807)) then
   (z6 (t_0.fChain++r0.1)).bind fun r5=>
   (z1 ⟨r2.fWord,o_1.fNum,r2.fThings,r2.fLast,r5,(w64 (t_0.fCount+1))⟩).bind fun r6=>
   bif (!r6) then
    some (⟨⟨#[]⟩,0,[],0,⟨#[]⟩,0⟩,false)
   else
    some (⟨r2.fWord,o_1.fNum,r2.fThings,r2.fLast,r5,(w64 (t_0.fCount+1))⟩,true)
   else none
   else
   bif (o_1.fKind == 3) then
    (z3 t_0 o_1.fThing.fId).bind fun r7=>
    bif r7.2 then
    (z4 r7.1 o_1.fThing).bind fun r8=>
    bif (!r8) then
     some (⟨⟨#[]⟩,0,[],0,⟨#[]⟩,0⟩,false)
    else
     bif (!r7.2) then
     bif (o_1.fThing.fId != (w64 (t_0.fLast+1))) then
      some (⟨⟨#[]⟩,0,[],0,⟨#[]⟩,0⟩,false)
     else
      bif ((t_0.fThings.length:Int) == 8) then
      some (⟨⟨#[]⟩,0,[],0,⟨#[]⟩,0⟩,false)
      else
      bif (!r7.2) then
       (z5 t_0.fThings o_1.fThing).bind fun r9=>
       bif (decide ((t_0.fChain.size+r0.1.size)≤9223372036854775807)) then
       (z6 (t_0.fChain++r0.1)).bind fun r10=>
       (z1 ⟨r2.fWord,r2.fTries,r9,o_1.fThing.fId,r10,(w64 (t_0.fCount+1))⟩).bind fun r11=>
       bif (!r11) then
       some (⟨⟨#[]⟩,0,[],0,⟨#[]⟩,0⟩,false)
       else
       some (⟨r2.fWord,r2.fTries,r9,o_1.fThing.fId,r10,(w64 (t_0.fCount+1))⟩,true)
       else none
      else
       (z5 t_0.fThings o_1.fThing).bind fun r12=>
       bif (decide ((t_0.fChain.size+r0.1.size)≤9223372036854775807)) then
       (z6 (t_0.fChain++r0.1)).bind fun r13=>
       (z1 ⟨r2.fWord,r2.fTries,r12,r2.fLast,r13,(w64 (t_0.fCount+1))⟩).bind fun r14=>
       bif (!r14) then
       some (⟨⟨#[]⟩,0,[],0,⟨#[]⟩,0⟩,false)
       else
       some (⟨r2.fWord,r2.fTries,r12,r2.fLast,r13,(w64 (t_0.fCount+1))⟩,true)
       else none
     else
     bif (!r7.2) then
      (z5 t_0.fThings o_1.fThing).bind fun r15=>
      bif (decide ((t_0.fChain.size+r0.1.size)≤9223372036854775807)) then
      (z6 (t_0.fChain++r0.1)).bind fun r16=>
      (z1 ⟨r2.fWord,r2.fTries,r15,o_1.fThing.fId,r16,(w64 (t_0.fCount+1))⟩).bind fun r17=>
      bif (!r17) then
      some (⟨⟨#[]⟩,0,[],0,⟨#[]⟩,0⟩,false)
      else
      some (⟨r2.fWord,r2.fTries,r15,o_1.fThing.fId,r16,(w64 (t_0.fCount+1))⟩,true)
      else none
     else
      (z5 t_0.fThings o_1.fThing).bind fun r18=>
      bif (decide ((t_0.fChain.size+r0.1.size)≤9223372036854775807)) then
      (z6 (t_0.fChain++r0.1)).bind fun r19=>
      (z1 ⟨r2.fWord,r2.fTries,r18,r2.fLast,r19,(w64 (t_0.fCount+1))⟩).bind fun r20=>
      bif (!r20) then
      some (⟨⟨#[]⟩,0,[],0,⟨#[]⟩,0⟩,false)
      else
      some (⟨r2.fWord,r2.fTries,r18,r2.fLast,r19,(w64 (t_0.fCount+1))⟩,true)
      else none
    else
    bif (!r7.2) then
     bif (o_1.fThing.fId != (w64 (t_0.fLast+1))) then
     some (⟨⟨#[]⟩,0,[],0,⟨#[]⟩,0⟩,false)
     else
     bif ((t_0.fThings.length:Int) == 8) then
      some (⟨⟨#[]⟩,0,[],0,⟨#[]⟩,0⟩,false)
     else
      bif (!r7.2) then
      (z5 t_0.fThings o_1.fThing).bind fun r21=>
      bif (decide ((t_0.fChain.size+r0.1.size)≤9223372036854775807)) then
      (z6 (t_0.fChain++r0.1)).bind fun r22=>
      (z1 ⟨r2.fWord,r2.fTries,r21,o_1.fThing.fId,r22,(w64 (t_0.fCount+1))⟩).bind fun r23=>
      bif (!r23) then
       some (⟨⟨#[]⟩,0,[],0,⟨#[]⟩,0⟩,false)
      else
       some (⟨r2.fWord,r2.fTries,r21,o_1.fThing.fId,r22,(w64 (t_0.fCount+1))⟩,true)
      else none
      else
      (z5 t_0.fThings o_1.fThing).bind fun r24=>
      bif (decide ((t_0.fChain.size+r0.1.size)≤9223372036854775807)) then
      (z6 (t_0.fChain++r0.1)).bind fun r25=>
      (z1 ⟨r2.fWord,r2.fTries,r24,r2.fLast,r25,(w64 (t_0.fCount+1))⟩).bind fun r26=>
      bif (!r26) then
       some (⟨⟨#[]⟩,0,[],0,⟨#[]⟩,0⟩,false)
      else
       some (⟨r2.fWord,r2.fTries,r24,r2.fLast,r25,(w64 (t_0.fCount+1))⟩,true)
      else none
    else
     bif (!r7.2) then
     (z5 t_0.fThings o_1.fThing).bind fun r27=>
     bif (decide ((t_0.fChain.size+r0.1.size)≤9223372036854775807)) then
     (z6 (t_0.fChain++r0.1)).bind fun r28=>
     (z1 ⟨r2.fWord,r2.fTries,r27,o_1.fThing.fId,r28,(w64 (t_0.fCount+1))⟩).bind fun r29=>
     bif (!r29) then
      some (⟨⟨#[]⟩,0,[],0,⟨#[]⟩,0⟩,false)
     else
      some (⟨r2.fWord,r2.fTries,r27,o_1.fThing.fId,r28,(w64 (t_0.fCount+1))⟩,true)
     else none
     else
     (z5 t_0.fThings o_1.fThing).bind fun r30=>
     bif (decide ((t_0.fChain.size+r0.1.size)≤9223372036854775807)) then
     (z6 (t_0.fChain++r0.1)).bind fun r31=>
     (z1 ⟨r2.fWord,r2.fTries,r30,r2.fLast,r31,(w64 (t_0.fCount+1))⟩).bind fun r32=>
     bif (!r32) then
      some (⟨⟨#[]⟩,0,[],0,⟨#[]⟩,0⟩,false)
     else
      some (⟨r2.fWord,r2.fTries,r30,r2.fLast,r31,(w64 (t_0.fCount+1))⟩,true)
     else none
   else
    bif (o_1.fKind == 4) then
    (z3 t_0 o_1.fNum).bind fun r33=>
    bif (!r33.2) then
     some (⟨⟨#[]⟩,0,[],0,⟨#[]⟩,0⟩,false)
    else
     k (.c0 r0.1 0 t_0 o_1 ⟨#[]⟩ 0 0 ⟨#[]⟩ 0 r2.fWord r2.fTries r2.fLast r2.fChain r2.fCount [] [] r2.fThings)
    else
    bif (decide ((t_0.fChain.size+r0.1.size)≤9223372036854775807)) then
    (z6 (t_0.fChain++r0.1)).bind fun r34=>
    (z1 ⟨r2.fWord,r2.fTries,r2.fThings,r2.fLast,r34,(w64 (t_0.fCount+1))⟩).bind fun r35=>
    bif (!r35) then
     some (⟨⟨#[]⟩,0,[],0,⟨#[]⟩,0⟩,false)
    else
     some (⟨r2.fWord,r2.fTries,r2.fThings,r2.fLast,r34,(w64 (t_0.fCount+1))⟩,true)
    else none
noncomputable def Vf (z0:YZ) (z1:Df) (z2:Gf) (z3:Hf) (z4:Rf) (z5:Tf) (z6:T_spec_DigestOf) (k:Bd→Option (SBook×Bool)):Bd→Option (SBook×Bool)
 | .c0 y_6 v_14 A_2 r_3 r_4c0 r_4c1 r_4c3 r_4c4 r_4c5 v_8c0 v_8c1 v_8c3 v_8c4 v_8c5 v_13 r_4r2 v_8r2=>
 bif (decide (v_14<(A_2.fThings.length:Int))) then
  bif ((decide (0≤v_14)) && (decide (v_14<(A_2.fThings.length:Int)))) then
  bif ((A_2.fThings.getD v_14.toNat (⟨0,0,false,false,false,false,⟨#[]⟩,0⟩:SThing)).fId != r_3.fNum) then
  bif ((decide (0≤v_14)) && (decide (v_14<(A_2.fThings.length:Int)))) then
  bif (decide (((v_13.length+1)*48)≤140737488355328)) then
  k (.c0 y_6 (w64 (v_14+1)) A_2 r_3 r_4c0 r_4c1 r_4c3 r_4c4 r_4c5 v_8c0 v_8c1 v_8c3 v_8c4 v_8c5 (v_13++[(A_2.fThings.getD v_14.toNat (⟨0,0,false,false,false,false,⟨#[]⟩,0⟩:SThing))]) r_4r2 v_8r2)
  else none
  else none
  else
  k (.c0 y_6 (w64 (v_14+1)) A_2 r_3 r_4c0 r_4c1 r_4c3 r_4c4 r_4c5 v_8c0 v_8c1 v_8c3 v_8c4 v_8c5 v_13 r_4r2 v_8r2)
  else none
 else
  bif (decide ((A_2.fChain.size+y_6.size)≤9223372036854775807)) then
  (z6 (A_2.fChain++y_6)).bind fun r0=>
  (z1 ⟨v_8c0,v_8c1,v_13,v_8c3,r0,(w64 (A_2.fCount+1))⟩).bind fun r1=>
  bif (!r1) then
  some (⟨⟨#[]⟩,0,[],0,⟨#[]⟩,0⟩,false)
  else
  some (⟨v_8c0,v_8c1,v_13,v_8c3,r0,(w64 (A_2.fCount+1))⟩,true)
  else none
noncomputable def Ed:Nat→Bd→Option (SBook×Bool)
 | 0,_=>none
 | m+1,s=>Vf OY Ba Ea Qb Fa Ia spec_DigestOf (Ed m) s
noncomputable def Ja:Uf:=Ji OY Ba Ea Qb Fa Ia spec_DigestOf (Ed gas)
theorem Qq:Tells ctx PP 43 cv40 cv41 (fun a=>Ja a.1 a.2):=
 have b:∀ z0 z1 z2 z3 z4 z5 z6,CutIs ctx PP 43 Try.f43 [] [(15,Uc z0),(57,Cm z1),(58,Em z2),(59,Lm z3),(60,Om z4),(61,Qm z5),(54,H_spec_DigestOf z6)] cv41 Sm (Vf z0 z1 z2 z3 z4 z5 z6):=fun z0 z1 z2 z3 z4 z5 z6 _ s=>by cases s <;> kernel_rfl
 have e:∀ z0 z1 z2 z3 z4 z5 z6,EntryIs ctx PP 43 [] [(15,Uc z0),(57,Cm z1),(58,Em z2),(59,Lm z3),(60,Om z4),(61,Qm z5),(54,H_spec_DigestOf z6)] cv40 cv41 Sm (fun k a=>Ji z0 z1 z2 z3 z4 z5 z6 k a.1 a.2):=fun z0 z1 z2 z3 z4 z5 z6 _ a=>by kernel_rfl
 fn_ok (hc Bf (hc Jq (hc Kq (hc Nq (hc Oq (hc Pq (hc ok_spec_DigestOf hl_nil))))))) Try.func43 (fun s s' h=>by cases s;cases s';(repeat cases ‹SBook›);(repeat cases ‹SRec›);(repeat cases ‹SThing›);cases h;rfl) (fun _=>rfl) (fun _ _=>rfl) (b OY Ba Ea Qb Fa Ia spec_DigestOf) (e OY Ba Ea Qb Fa Ia spec_DigestOf) gas
noncomputable def Um {γ:Type} (F:Uf):Hd ctx γ:=hdl cv40.dec (fun a=>F a.1 a.2) cv41.enc
abbrev Xf:=SL01Cur→Option ((List SRec)×SBook×SL01Cur)
inductive Jd where
 | c0 (i_6:Int) (c_0c1:Int) (c_0c2:Int) (v_3c0:ByteArray) (v_3c1:Int) (v_3c3:Int) (v_3c4:ByteArray) (v_3c5:Int) (b_4c0:ByteArray) (b_4c1:Int) (b_4c3:Int) (b_4c4:ByteArray) (b_4c5:Int) (list_5:(List SRec)) (v_3r2:(List SThing)) (b_4r2:(List SThing))
noncomputable def Vm:Jd→LI
 | .c0 i_6 c_0c1 c_0c2 v_3c0 v_3c1 v_3c3 v_3c4 v_3c5 b_4c0 b_4c1 b_4c3 b_4c4 b_4c5 list_5 v_3r2 b_4r2=>(tdo Try.f23 976,[(0,[.one (.ptr 0 0)]),(3,[.one (.ptr 192 0)]),(4,[.one (.ptr 256 0)]),(5,[.one (.own 368)]),(6,[.one (.int .i64 i_6)])],[(0,.var [.csl,.int .i64 c_0c1,.int .i64 c_0c2]),(192,.var [.str v_3c0,.int .i64 v_3c1,.own 1012290,.int .i64 v_3c3,.str v_3c4,.int .i64 v_3c5]),(256,.var [.str b_4c0,.int .i64 b_4c1,.own 1016386,.int .i64 b_4c3,.str b_4c4,.int .i64 b_4c5]),(368,.sl 33 list_5),(1012290,.sl 25 v_3r2),(1016386,.sl 25 b_4r2)])
noncomputable def Oi (z0:Ve) (z1:T_spec_l01Below) (z2:Lc) (z3:Uf) (k:Jd→Option ((List SRec)×SBook×SL01Cur)) (c_0:SL01Cur):Option ((List SRec)×SBook×SL01Cur):=
 z0.bind fun r0=>
 k (.c0 0 c_0.fI c_0.fH ⟨#[]⟩ 0 0 ⟨#[]⟩ 0 r0.fWord r0.fTries r0.fLast r0.fChain r0.fCount [] [] r0.fThings)
noncomputable def Yf (z0:Ve) (z1:T_spec_l01Below) (z2:Lc) (z3:Uf) (k:Jd→Option ((List SRec)×SBook×SL01Cur)):Jd→Option ((List SRec)×SBook×SL01Cur)
 | .c0 i_6 c_0c1 c_0c2 v_3c0 v_3c1 v_3c3 v_3c4 v_3c5 b_4c0 b_4c1 b_4c3 b_4c4 b_4c5 list_5 v_3r2 b_4r2=>
 (z1 ⟨(),c_0c1,c_0c2⟩ 12).bind fun r0=>
 bif (decide (i_6<r0.1)) then
  (z2 ⟨(),r0.2.fI,r0.2.fH⟩ ⟨b_4c0,b_4c1,b_4r2,b_4c3,b_4c4,b_4c5⟩).bind fun r1=>
  (z3 ⟨b_4c0,b_4c1,b_4r2,b_4c3,b_4c4,b_4c5⟩ r1.1).bind fun r2=>
  bif r2.2 then
  bif (decide (((list_5.length+1)*80)≤140737488355328)) then
  k (.c0 (w64 (i_6+1)) r1.2.fI r1.2.fH v_3c0 v_3c1 v_3c3 v_3c4 v_3c5 r2.1.fWord r2.1.fTries r2.1.fLast r2.1.fChain r2.1.fCount (list_5++[r1.1]) v_3r2 r2.1.fThings)
  else none
  else
  k (.c0 (w64 (i_6+1)) r1.2.fI r1.2.fH v_3c0 v_3c1 v_3c3 v_3c4 v_3c5 b_4c0 b_4c1 b_4c3 b_4c4 b_4c5 list_5 v_3r2 b_4r2)
 else
  some (list_5,(⟨b_4c0,b_4c1,b_4r2,b_4c3,b_4c4,b_4c5⟩,⟨(),r0.2.fI,r0.2.fH⟩))
noncomputable def Ld:Nat→Jd→Option ((List SRec)×SBook×SL01Cur)
 | 0,_=>none
 | m+1,s=>Yf VZ spec_l01Below EZ Ja (Ld m) s
noncomputable def La:Xf:=Oi VZ spec_l01Below EZ Ja (Ld gas)
theorem Xm:Tells ctx PP 23 cv3 cv42 (fun a=>La a):=
 have b:∀ z0 z1 z2 z3,CutIs ctx PP 23 Try.f23 [0] [(41,Sl z0),(38,H_spec_l01Below z1),(42,Uh z2),(43,Um z3)] cv42 Vm (Yf z0 z1 z2 z3):=fun z0 z1 z2 z3 _ s=>by cases s <;> kernel_rfl
 have e:∀ z0 z1 z2 z3,EntryIs ctx PP 23 [0] [(41,Sl z0),(38,H_spec_l01Below z1),(42,Uh z2),(43,Um z3)] cv3 cv42 Vm (fun k a=>Oi z0 z1 z2 z3 k a):=fun z0 z1 z2 z3 _ a=>by kernel_rfl
 fn_ok (hc Aq (hc ok_spec_l01Below (hc Ul (hc Qq hl_nil)))) Try.func23 (fun s s' h=>by cases s;cases s';cases h;rfl) (fun _=>rfl) (fun _ _=>rfl) (b VZ spec_l01Below EZ Ja) (e VZ spec_l01Below EZ Ja) gas
noncomputable def Ym {γ:Type} (F:Xf):Hd ctx γ:=hdl cv3.dec (fun a=>F a) cv42.enc
abbrev T_spec_l19Any:=SL01Cur→Option (SThing×SL01Cur)
noncomputable def E_spec_l19Any (z0:T_spec_l19Thing) (z1:T_spec_l01Below) (z2:T_spec_l01PickInt) (z3:T_spec_l01Long) (c_0:SL01Cur):Option (SThing×SL01Cur):=
 (z0 ⟨(),c_0.fI,c_0.fH⟩).bind fun r0=>
 (z1 ⟨(),r0.2.fI,r0.2.fH⟩ 20).bind fun r1=>
 bif (r1.1 == 0) then
 (z2 ⟨(),r1.2.fI,r1.2.fH⟩ [0,(-(1:Int)),1000,1001]).bind fun r2=>
 some (⟨r2.1,r0.1.fKind,r0.1.fHidden,r0.1.fFixed,r0.1.fSigns,r0.1.fWraps,r0.1.fValue,r0.1.fNext⟩,⟨(),r2.2.fI,r2.2.fH⟩)
 else
 bif (r1.1 == 1) then
  (z1 ⟨(),r1.2.fI,r1.2.fH⟩ 5).bind fun r3=>
  some (⟨r0.1.fId,r3.1,r0.1.fHidden,r0.1.fFixed,r0.1.fSigns,r0.1.fWraps,r0.1.fValue,r0.1.fNext⟩,⟨(),r3.2.fI,r3.2.fH⟩)
 else
  bif (r1.1 == 2) then
  some (⟨r0.1.fId,r0.1.fKind,r0.1.fHidden,r0.1.fFixed,(!r0.1.fSigns),r0.1.fWraps,r0.1.fValue,r0.1.fNext⟩,⟨(),r1.2.fI,r1.2.fH⟩)
  else
  bif (r1.1 == 3) then
   some (⟨r0.1.fId,r0.1.fKind,r0.1.fHidden,r0.1.fFixed,r0.1.fSigns,(!r0.1.fWraps),r0.1.fValue,r0.1.fNext⟩,⟨(),r1.2.fI,r1.2.fH⟩)
  else
   bif (r1.1 == 4) then
   (z2 ⟨(),r1.2.fI,r1.2.fH⟩ [(-(1:Int)),0,16,17]).bind fun r4=>
   some (⟨r0.1.fId,r0.1.fKind,r0.1.fHidden,r0.1.fFixed,r0.1.fSigns,r0.1.fWraps,r0.1.fValue,r4.1⟩,⟨(),r4.2.fI,r4.2.fH⟩)
   else
   bif (r1.1 == 5) then
    (z2 ⟨(),r1.2.fI,r1.2.fH⟩ [31,32,33,100,101]).bind fun r5=>
    (z3 r5.1 70).bind fun r6=>
    some (⟨r0.1.fId,r0.1.fKind,r0.1.fHidden,r0.1.fFixed,r0.1.fSigns,r0.1.fWraps,r6,r0.1.fNext⟩,⟨(),r5.2.fI,r5.2.fH⟩)
   else
    some (r0.1,⟨(),r1.2.fI,r1.2.fH⟩)
noncomputable def spec_l19Any:T_spec_l19Any:=E_spec_l19Any spec_l19Thing spec_l01Below spec_l01PickInt spec_l01Long
theorem ok_spec_l19Any:Tells ctx PP 19 cv3 cv21 (fun a=>spec_l19Any a):=fn_ok0 (hc ok_spec_l19Thing (hc ok_spec_l01Below (hc ok_spec_l01PickInt (hc ok_spec_l01Long hl_nil)))) Try.func19 ((fun z0 z1 z2 z3 a=>by kernel_rfl:∀ z0 z1 z2 z3,EntryIs0 ctx PP 19 [0] [(37,H_spec_l19Thing z0),(38,H_spec_l01Below z1),(39,H_spec_l01PickInt z2),(40,H_spec_l01Long z3)] cv3 cv21 fun a=>E_spec_l19Any z0 z1 z2 z3 a) spec_l19Thing spec_l01Below spec_l01PickInt spec_l01Long)
noncomputable def H_spec_l19Any {γ:Type} (F:T_spec_l19Any):Hd ctx γ:=hdl cv3.dec (fun a=>F a) cv21.enc
abbrev Zf:=SL01Cur→SBook→Option (SRec×SL01Cur)
noncomputable def Qi (z0:Lc) (z1:T_spec_l01Below) (z2:T_spec_l01PickInt) (z3:T_spec_l19Any) (c_0:SL01Cur) (b_1:SBook):Option (SRec×SL01Cur):=
 (z0 ⟨(),c_0.fI,c_0.fH⟩ b_1).bind fun r0=>
 (z1 ⟨(),r0.2.fI,r0.2.fH⟩ 16).bind fun r1=>
 bif (r1.1 == 0) then
 (z1 ⟨(),r1.2.fI,r1.2.fH⟩ 6).bind fun r2=>
 some (⟨r2.1,r0.1.fText,r0.1.fNum,r0.1.fThing⟩,⟨(),r2.2.fI,r2.2.fH⟩)
 else
 bif (r1.1 == 1) then
  (z2 ⟨(),r1.2.fI,r1.2.fH⟩ [(-(1:Int)),0,4,1000,1001]).bind fun r3=>
  some (⟨r0.1.fKind,r0.1.fText,r3.1,r0.1.fThing⟩,⟨(),r3.2.fI,r3.2.fH⟩)
 else
  bif (r1.1 == 2) then
  some (⟨r0.1.fKind,⟨#[120]⟩,r0.1.fNum,r0.1.fThing⟩,⟨(),r1.2.fI,r1.2.fH⟩)
  else
  bif (r1.1 == 3) then
   (z3 ⟨(),r1.2.fI,r1.2.fH⟩).bind fun r4=>
   some (⟨r0.1.fKind,r0.1.fText,r0.1.fNum,r4.1⟩,⟨(),r4.2.fI,r4.2.fH⟩)
  else
   some (r0.1,⟨(),r1.2.fI,r1.2.fH⟩)
noncomputable def Na:Zf:=Qi EZ spec_l01Below spec_l01PickInt spec_l19Any
theorem Zm:Tells ctx PP 24 cv29 cv30 (fun a=>Na a.1 a.2):=fn_ok0 (hc Ul (hc ok_spec_l01Below (hc ok_spec_l01PickInt (hc ok_spec_l19Any hl_nil)))) Try.func24 ((fun z0 z1 z2 z3 a=>by kernel_rfl:∀ z0 z1 z2 z3,EntryIs0 ctx PP 24 [0] [(42,Uh z0),(38,H_spec_l01Below z1),(39,H_spec_l01PickInt z2),(19,H_spec_l19Any z3)] cv29 cv30 fun a=>Qi z0 z1 z2 z3 a.1 a.2) EZ spec_l01Below spec_l01PickInt spec_l19Any)
noncomputable def Dn {γ:Type} (F:Zf):Hd ctx γ:=hdl cv29.dec (fun a=>F a.1 a.2) cv30.enc
abbrev Ri:=Unit→Option SRec
noncomputable def Si (z0:T_spec_l01New) (z1:Xf) (z2:Zf) (code_0:Unit):Option SRec:=
 (z0 ()).bind fun r0=>
 (z1 ⟨(),r0.fI,r0.fH⟩).bind fun r1=>
 (z2 ⟨(),r1.2.2.fI,r1.2.2.fH⟩ r1.2.1).bind fun r2=>
 some r2.1
noncomputable def Md:Ri:=Si spec_l01New La Na
theorem Rq:Tells ctx PP 12 cv0 cv34 (fun a=>Md a):=fn_ok0 (hc ok_spec_l01New (hc Xm (hc Zm hl_nil))) Try.func12 ((fun z0 z1 z2 a=>by kernel_rfl:∀ z0 z1 z2,EntryIs0 ctx PP 12 [] [(18,H_spec_l01New z0),(23,Ym z1),(24,Dn z2)] cv0 cv34 fun a=>Si z0 z1 z2 a) spec_l01New La Na)
noncomputable def Tq {γ:Type} (F:Ri):Hd ctx γ:=hdl cv0.dec (fun a=>F a) cv34.enc
abbrev Qd:=Int→Option ByteArray
inductive Td where
 | c0 (n_0:Int) (out_3:(List Int))
noncomputable def En:Td→LI
 | .c0 n_0 out_3=>(tdo Try.f25 224,[(0,[.one (.int .i64 n_0)]),(3,[.one (.own 240)])],[(240,.sl 5 out_3)])
noncomputable def Gn (k:Td→Option ByteArray) (n_0:Int):Option ByteArray:=
 k (.c0 n_0 [])
noncomputable def Ag (k:Td→Option ByteArray):Td→Option ByteArray
 | .c0 n_0 out_3=>
 bif (decide (n_0 > 127)) then
  bif (decide (((out_3.length+1)*1)≤140737488355328)) then
  k (.c0 (w64 (n_0.tdiv 128)) (out_3++[(w8 (w64 (128+(n_0.tmod 128))))]))
  else none
 else
  bif (decide (((out_3.length+1)*1)≤140737488355328)) then
  some (ofBytes (out_3++[(w8 n_0)]))
  else none
noncomputable def Ud:Nat→Td→Option ByteArray
 | 0,_=>none
 | m+1,s=>Ag (Ud m) s
noncomputable def LZ:Qd:=Gn (Ud gas)
theorem Ti:Tells ctx PP 25 cv31 cv12 (fun a=>LZ a):=
 have b:CutIs ctx PP 25 Try.f25 [] [] cv12 En (Ag):=fun _ s=>by cases s <;> kernel_rfl
 have e:EntryIs ctx PP 25 [] [] cv31 cv12 En (fun k a=>Gn k a):=fun _ a=>by kernel_rfl
 fn_ok hl_nil Try.func25 (fun s s' h=>by cases s;cases s';cases h;rfl) (fun _=>rfl) (fun _ _=>rfl) b e gas
noncomputable def Ui {γ:Type} (F:Qd):Hd ctx γ:=hdl cv31.dec (fun a=>F a) cv12.enc
abbrev T_impl_in:=Int→Int→Int→Option Bool
noncomputable def E_impl_in (n_0:Int) (low_1:Int) (high_2:Int):Option Bool:=
 bif (decide (n_0≥low_1)) then
 some (decide (n_0≤high_2))
 else
 some false
noncomputable def impl_in:T_impl_in:=E_impl_in
theorem ok_impl_in:Tells ctx PP 22 cv14 cv1 (fun a=>impl_in a.1 a.2.1 a.2.2):=fn_ok0 hl_nil Try.func22 (fun a=>by kernel_rfl:EntryIs0 ctx PP 22 [] [] cv14 cv1 fun a=>E_impl_in a.1 a.2.1 a.2.2)
noncomputable def H_impl_in {γ:Type} (F:T_impl_in):Hd ctx γ:=hdl cv14.dec (fun a=>F a.1 a.2.1 a.2.2) cv1.enc
abbrev T_impl_ThingOk:=SThing→Option Bool
noncomputable def E_impl_ThingOk (z0:T_impl_in) (x_0:SThing):Option Bool:=
 (z0 x_0.fId 1 1000).bind fun r0=>
 bif (!r0) then
 some false
 else
 (z0 x_0.fNext 0 16).bind fun r1=>
 bif (!r1) then
  some false
 else
  bif (x_0.fKind != 2) then
  bif (x_0.fNext != 0) then
   some false
  else
   bif x_0.fSigns then
   some false
   else
   bif (x_0.fKind != 1) then
    bif x_0.fWraps then
    some false
    else
    bif (x_0.fKind == 1) then
     bif (x_0.fKind == 1) then
     some ((x_0.fValue.size:Int) == 32)
     else
     bif (x_0.fKind == 3) then
      some (decide ((x_0.fValue.size:Int)≤100))
     else
      some false
    else
     bif (x_0.fKind == 2) then
     some ((x_0.fValue.size:Int) == 32)
     else
     bif (x_0.fKind == 3) then
      some (decide ((x_0.fValue.size:Int)≤100))
     else
      some false
   else
    bif (x_0.fKind == 1) then
    bif (x_0.fKind == 1) then
     some ((x_0.fValue.size:Int) == 32)
    else
     bif (x_0.fKind == 3) then
     some (decide ((x_0.fValue.size:Int)≤100))
     else
     some false
    else
    bif (x_0.fKind == 2) then
     some ((x_0.fValue.size:Int) == 32)
    else
     bif (x_0.fKind == 3) then
     some (decide ((x_0.fValue.size:Int)≤100))
     else
     some false
  else
  bif (x_0.fKind != 1) then
   bif x_0.fWraps then
   some false
   else
   bif (x_0.fKind == 1) then
    bif (x_0.fKind == 1) then
    some ((x_0.fValue.size:Int) == 32)
    else
    bif (x_0.fKind == 3) then
     some (decide ((x_0.fValue.size:Int)≤100))
    else
     some false
   else
    bif (x_0.fKind == 2) then
    some ((x_0.fValue.size:Int) == 32)
    else
    bif (x_0.fKind == 3) then
     some (decide ((x_0.fValue.size:Int)≤100))
    else
     some false
  else
   bif (x_0.fKind == 1) then
   bif (x_0.fKind == 1) then
    some ((x_0.fValue.size:Int) == 32)
   else
    bif (x_0.fKind == 3) then
    some (decide ((x_0.fValue.size:Int)≤100))
    else
    some false
   else
   bif (x_0.fKind == 2) then
    some ((x_0.fValue.size:Int) == 32)
   else
    bif (x_0.fKind == 3) then
    some (decide ((x_0.fValue.size:Int)≤100))
    else
    some false
noncomputable def impl_ThingOk:T_impl_ThingOk:=E_impl_ThingOk impl_in
theorem ok_impl_ThingOk:Tells ctx PP 11 cv25 cv1 (fun a=>impl_ThingOk a):=fn_ok0 (hc ok_impl_in hl_nil) Try.func11 ((fun z0 a=>by kernel_rfl:∀ z0,EntryIs0 ctx PP 11 [] [(22,H_impl_in z0)] cv25 cv1 fun a=>E_impl_ThingOk z0 a) impl_in)
noncomputable def H_impl_ThingOk {γ:Type} (F:T_impl_ThingOk):Hd ctx γ:=hdl cv25.dec (fun a=>F a) cv1.enc
abbrev Bg:=Int→Option ByteArray
noncomputable def Wi (n_0:Int):Option ByteArray:=
 some (ofBytes [(w8 n_0)])
noncomputable def Oa:Bg:=Wi
theorem Pn:Tells ctx PP 27 cv31 cv12 (fun a=>Oa a):=fn_ok0 hl_nil Try.func27 (fun a=>by kernel_rfl:EntryIs0 ctx PP 27 [] [] cv31 cv12 fun a=>Wi a)
noncomputable def Qn {γ:Type} (F:Bg):Hd ctx γ:=hdl cv31.dec (fun a=>F a) cv12.enc
abbrev Xi:=SThing→Option Int
inductive Vd where
 | c0 (n_3:Int) (v_15:Int) (v_16:Int) (v_14:(List Bool))
noncomputable def Rn:Vd→LI
 | .c0 n_3 v_15 v_16 v_14=>(tdo Try.f44 232,[(3,[.one (.int .i64 n_3)]),(14,[.one (.own 944)]),(15,[.one (.int .i64 v_15)]),(16,[.one (.int .i64 v_16)])],[(944,.sl 4 v_14)])
noncomputable def Yi (k:Vd→Option Int) (x_0:SThing):Option Int:=
 k (.c0 0 ((4:Nat):Int) 0 [x_0.fHidden,x_0.fFixed,x_0.fSigns,x_0.fWraps])
noncomputable def Tn (k:Vd→Option Int):Vd→Option Int
 | .c0 n_3 v_15 v_16 v_14=>
 bif (decide (v_16<v_15)) then
  bif ((decide (0≤v_16)) && (decide (v_16<(v_14.length:Int)))) then
  bif (v_14.getD v_16.toNat false) then
  bif (decide (0≤v_16)) then
  k (.c0 (w64 (((BitVec.toNat ((BitVec.ofInt (IntKind.bits IntKind.i64) n_3) ||| (BitVec.ofInt (IntKind.bits IntKind.i64) (w64 (1*(2 ^ (Min.min v_16.toNat (IntKind.bits IntKind.i64)))))))):Nat):Int)) v_15 (w64 (v_16+1)) v_14)
  else none
  else
  k (.c0 n_3 v_15 (w64 (v_16+1)) v_14)
  else none
 else
  some n_3
noncomputable def Zi:Nat→Vd→Option Int
 | 0,_=>none
 | m+1,s=>Tn (Zi m) s
noncomputable def Xd:Xi:=Yi (Zi gas)
theorem Vq:Tells ctx PP 44 cv25 cv31 (fun a=>Xd a):=
 have b:CutIs ctx PP 44 Try.f44 [] [] cv31 Rn (Tn):=fun _ s=>by cases s <;> kernel_rfl
 have e:EntryIs ctx PP 44 [] [] cv25 cv31 Rn (fun k a=>Yi k a):=fun _ a=>by kernel_rfl
 fn_ok hl_nil Try.func44 (fun s s' h=>by cases s;cases s';cases h;rfl) (fun _=>rfl) (fun _ _=>rfl) b e gas
noncomputable def Wq {γ:Type} (F:Xi):Hd ctx γ:=hdl cv25.dec (fun a=>F a) cv31.enc
abbrev Aj:=ByteArray→Option ByteArray
noncomputable def Bj (z0:Qd) (s_0:ByteArray):Option ByteArray:=
 (z0 (s_0.size:Int)).bind fun r0=>
 bif (decide ((r0.size+s_0.size)≤9223372036854775807)) then
 some (r0++s_0)
 else none
noncomputable def Yd:Aj:=Bj LZ
theorem Xq:Tells ctx PP 45 cv12 cv12 (fun a=>Yd a):=fn_ok0 (hc Ti hl_nil) Try.func45 ((fun z0 a=>by kernel_rfl:∀ z0,EntryIs0 ctx PP 45 [] [(25,Ui z0)] cv12 cv12 fun a=>Bj z0 a) LZ)
noncomputable def Yq {γ:Type} (F:Aj):Hd ctx γ:=hdl cv12.dec (fun a=>F a) cv12.enc
abbrev Fg:=SThing→Option (ByteArray×Bool)
noncomputable def Cj (z0:T_impl_ThingOk) (z1:Qd) (z2:Bg) (z3:Xi) (z4:Aj) (x_0:SThing):Option (ByteArray×Bool):=
 (z0 x_0).bind fun r0=>
 bif (!r0) then
 some (⟨#[]⟩,false)
 else
 (z1 x_0.fId).bind fun r1=>
 (z2 x_0.fKind).bind fun r2=>
 bif (decide ((r1.size+r2.size)≤9223372036854775807)) then
 (z3 x_0).bind fun r3=>
 (z2 r3).bind fun r4=>
 bif (decide (((r1++r2).size+r4.size)≤9223372036854775807)) then
 (z4 x_0.fValue).bind fun r5=>
 bif (decide ((((r1++r2)++r4).size+r5.size)≤9223372036854775807)) then
 (z1 x_0.fNext).bind fun r6=>
 bif (decide (((((r1++r2)++r4)++r5).size+r6.size)≤9223372036854775807)) then
 some (((((r1++r2)++r4)++r5)++r6),true)
 else none
 else none
 else none
 else none
noncomputable def Qa:Fg:=Cj impl_ThingOk LZ Oa Xd Yd
theorem Un:Tells ctx PP 26 cv25 cv33 (fun a=>Qa a):=fn_ok0 (hc ok_impl_ThingOk (hc Ti (hc Pn (hc Vq (hc Xq hl_nil))))) Try.func26 ((fun z0 z1 z2 z3 z4 a=>by kernel_rfl:∀ z0 z1 z2 z3 z4,EntryIs0 ctx PP 26 [] [(11,H_impl_ThingOk z0),(25,Ui z1),(27,Qn z2),(44,Wq z3),(45,Yq z4)] cv25 cv33 fun a=>Cj z0 z1 z2 z3 z4 a) impl_ThingOk LZ Oa Xd Yd)
noncomputable def Wn {γ:Type} (F:Fg):Hd ctx γ:=hdl cv25.dec (fun a=>F a) cv33.enc
abbrev Gg:=SRec→Option (ByteArray×Bool)
noncomputable def Ej (z0:Qd) (z1:T_impl_in) (z2:Fg) (z3:Bg) (r_0:SRec):Option (ByteArray×Bool):=
 bif (r_0.fKind == 1) then
 bif (!((r_0.fText.size:Int) == 32)) then
  some (⟨#[]⟩,false)
 else
  bif (!((r_0.fKind == r_0.fKind) && (((ByteArray.toList r_0.fText) == (ByteArray.toList r_0.fText)) && ((r_0.fNum == 0) && (((r_0.fThing.fId == 0) && ((r_0.fThing.fKind == 0) && ((r_0.fThing.fHidden == false) && ((r_0.fThing.fFixed == false) && ((r_0.fThing.fSigns == false) && ((r_0.fThing.fWraps == false) && (((ByteArray.toList r_0.fThing.fValue) == (ByteArray.toList ⟨#[]⟩)) && ((r_0.fThing.fNext == 0) && true)))))))) && true))))) then
  some (⟨#[]⟩,false)
  else
  (z3 r_0.fKind).bind fun r0=>
  bif (decide ((r0.size+r_0.fText.size)≤9223372036854775807)) then
  some ((r0++r_0.fText),true)
  else none
 else
 bif (r_0.fKind == 2) then
  (z0 r_0.fNum).bind fun r1=>
  (z1 r_0.fNum 0 3).bind fun r2=>
  bif (!r2) then
  some (⟨#[]⟩,false)
  else
  bif (!((r_0.fKind == r_0.fKind) && (((ByteArray.toList r_0.fText) == (ByteArray.toList ⟨#[]⟩)) && ((r_0.fNum == r_0.fNum) && (((r_0.fThing.fId == 0) && ((r_0.fThing.fKind == 0) && ((r_0.fThing.fHidden == false) && ((r_0.fThing.fFixed == false) && ((r_0.fThing.fSigns == false) && ((r_0.fThing.fWraps == false) && (((ByteArray.toList r_0.fThing.fValue) == (ByteArray.toList ⟨#[]⟩)) && ((r_0.fThing.fNext == 0) && true)))))))) && true))))) then
   some (⟨#[]⟩,false)
  else
   (z3 r_0.fKind).bind fun r3=>
   bif (decide ((r3.size+r1.size)≤9223372036854775807)) then
   some ((r3++r1),true)
   else none
 else
  bif (r_0.fKind == 3) then
  (z2 r_0.fThing).bind fun r4=>
  bif (!r4.2) then
   some (⟨#[]⟩,false)
  else
   bif (!((r_0.fKind == r_0.fKind) && (((ByteArray.toList r_0.fText) == (ByteArray.toList ⟨#[]⟩)) && ((r_0.fNum == 0) && (((r_0.fThing.fId == r_0.fThing.fId) && ((r_0.fThing.fKind == r_0.fThing.fKind) && ((r_0.fThing.fHidden == r_0.fThing.fHidden) && ((r_0.fThing.fFixed == r_0.fThing.fFixed) && ((r_0.fThing.fSigns == r_0.fThing.fSigns) && ((r_0.fThing.fWraps == r_0.fThing.fWraps) && (((ByteArray.toList r_0.fThing.fValue) == (ByteArray.toList r_0.fThing.fValue)) && ((r_0.fThing.fNext == r_0.fThing.fNext) && true)))))))) && true))))) then
   some (⟨#[]⟩,false)
   else
   (z3 r_0.fKind).bind fun r5=>
   bif (decide ((r5.size+r4.1.size)≤9223372036854775807)) then
   some ((r5++r4.1),true)
   else none
  else
  bif (r_0.fKind == 4) then
   (z0 r_0.fNum).bind fun r6=>
   (z1 r_0.fNum 1 1000).bind fun r7=>
   bif (!r7) then
   some (⟨#[]⟩,false)
   else
   bif (!((r_0.fKind == r_0.fKind) && (((ByteArray.toList r_0.fText) == (ByteArray.toList ⟨#[]⟩)) && ((r_0.fNum == r_0.fNum) && (((r_0.fThing.fId == 0) && ((r_0.fThing.fKind == 0) && ((r_0.fThing.fHidden == false) && ((r_0.fThing.fFixed == false) && ((r_0.fThing.fSigns == false) && ((r_0.fThing.fWraps == false) && (((ByteArray.toList r_0.fThing.fValue) == (ByteArray.toList ⟨#[]⟩)) && ((r_0.fThing.fNext == 0) && true)))))))) && true))))) then
    some (⟨#[]⟩,false)
   else
    (z3 r_0.fKind).bind fun r8=>
    bif (decide ((r8.size+r6.size)≤9223372036854775807)) then
    some ((r8++r6),true)
    else none
  else
   some (⟨#[]⟩,false)
noncomputable def Ua:Gg:=Ej LZ impl_in Qa Oa
theorem Xn:Tells ctx PP 13 cv34 cv33 (fun a=>Ua a):=fn_ok0 (hc Ti (hc ok_impl_in (hc Un (hc Pn hl_nil)))) Try.func13 ((fun z0 z1 z2 z3 a=>by kernel_rfl:∀ z0 z1 z2 z3,EntryIs0 ctx PP 13 [] [(25,Ui z0),(22,H_impl_in z1),(26,Wn z2),(27,Qn z3)] cv34 cv33 fun a=>Ej z0 z1 z2 z3 a) LZ impl_in Qa Oa)
noncomputable def Yn {γ:Type} (F:Gg):Hd ctx γ:=hdl cv34.dec (fun a=>F a) cv33.enc
abbrev Zd:=ByteArray→Int→Option (Int×Int×Bool)
inductive Ae where
 | c0 (text_0:ByteArray) (at_1:Int) (n_7:Int) (k_8:Int)
noncomputable def Zn:Ae→LI
 | .c0 text_0 at_1 n_7 k_8=>(tdo Try.f29 976,[(0,[.one (.str text_0)]),(1,[.one (.int .i64 at_1)]),(7,[.one (.int .i64 n_7)]),(8,[.one (.int .i64 k_8)])],[])
noncomputable def Hg (z0:T_impl_in) (k:Ae→Option (Int×Int×Bool)) (text_0:ByteArray) (at_1:Int):Option (Int×Int×Bool):=
 (z0 at_1 0 (text_0.size:Int)).bind fun r0=>
 bif (!r0) then
 some (0,(0,false))
 else
 k (.c0 text_0 at_1 0 0)
noncomputable def Ig (z0:T_impl_in) (k:Ae→Option (Int×Int×Bool)):Ae→Option (Int×Int×Bool)
 | .c0 text_0 at_1 n_7 k_8=>
 bif (decide (k_8<5)) then
  bif (decide ((w64 (at_1+k_8))<(text_0.size:Int))) then
  bif ((decide (0≤(w64 (at_1+k_8)))) && (decide ((w64 (at_1+k_8))<(text_0.size:Int)))) then
  bif (decide (0≤(w64 (7*k_8)))) then
  bif (decide ((w64 (bt text_0 (w64 (at_1+k_8))))<128)) then
   bif ((w64 (bt text_0 (w64 (at_1+k_8)))) == 0) then
   bif (decide (k_8 > 0)) then
    some (0,(0,false))
   else
    bif (decide ((w64 (n_7+(w64 (((w64 (bt text_0 (w64 (at_1+k_8)))).tmod 128)*(2 ^ (Min.min (w64 (7*k_8)).toNat (IntKind.bits IntKind.i64))))))) > 1000000000)) then
    some (0,(0,false))
    else
    some ((w64 (n_7+(w64 (((w64 (bt text_0 (w64 (at_1+k_8)))).tmod 128)*(2 ^ (Min.min (w64 (7*k_8)).toNat (IntKind.bits IntKind.i64))))))),((w64 ((w64 (at_1+k_8))+1)),true))
   else
   bif (decide ((w64 (n_7+(w64 (((w64 (bt text_0 (w64 (at_1+k_8)))).tmod 128)*(2 ^ (Min.min (w64 (7*k_8)).toNat (IntKind.bits IntKind.i64))))))) > 1000000000)) then
    some (0,(0,false))
   else
    some ((w64 (n_7+(w64 (((w64 (bt text_0 (w64 (at_1+k_8)))).tmod 128)*(2 ^ (Min.min (w64 (7*k_8)).toNat (IntKind.bits IntKind.i64))))))),((w64 ((w64 (at_1+k_8))+1)),true))
  else
   k (.c0 text_0 at_1 (w64 (n_7+(w64 (((w64 (bt text_0 (w64 (at_1+k_8)))).tmod 128)*(2 ^ (Min.min (w64 (7*k_8)).toNat (IntKind.bits IntKind.i64))))))) (w64 (k_8+1)))
  else none
  else none
  else
  some (0,(0,false))
 else
  some (0,(0,false))
noncomputable def GZ:Nat→Ae→Option (Int×Int×Bool)
 | 0,_=>none
 | m+1,s=>Ig impl_in (GZ m) s
noncomputable def LY:Zd:=Hg impl_in (GZ gas)
theorem Fj:Tells ctx PP 29 cv15 cv43 (fun a=>LY a.1 a.2):=
 have b:∀ z0,CutIs ctx PP 29 Try.f29 [] [(22,H_impl_in z0)] cv43 Zn (Ig z0):=fun z0 _ s=>by cases s <;> kernel_rfl
 have e:∀ z0,EntryIs ctx PP 29 [] [(22,H_impl_in z0)] cv15 cv43 Zn (fun k a=>Hg z0 k a.1 a.2):=fun z0 _ a=>by kernel_rfl
 fn_ok (hc ok_impl_in hl_nil) Try.func29 (fun s s' h=>by cases s;cases s';cases h;rfl) (fun _=>rfl) (fun _ _=>rfl) (b impl_in) (e impl_in) gas
noncomputable def Gj {γ:Type} (F:Zd):Hd ctx γ:=hdl cv15.dec (fun a=>F a.1 a.2) cv43.enc
abbrev Ij:=SFields→Option (Int×SFields)
noncomputable def Jg (z0:Zd) (f_0:SFields):Option (Int×SFields):=
 (z0 f_0.fText f_0.fAt).bind fun r0=>
 bif (!r0.2.2) then
 some (0,⟨f_0.fText,f_0.fAt,true⟩)
 else
 some (r0.1,⟨f_0.fText,r0.2.1,f_0.fBad⟩)
noncomputable def MZ:Ij:=Jg LY
theorem Zq:Tells ctx PP 46 cv44 cv45 (fun a=>MZ a):=fn_ok0 (hc Fj hl_nil) Try.func46 ((fun z0 a=>by kernel_rfl:∀ z0,EntryIs0 ctx PP 46 [0] [(29,Gj z0)] cv44 cv45 fun a=>Jg z0 a) LY)
noncomputable def Ar {γ:Type} (F:Ij):Hd ctx γ:=hdl cv44.dec (fun a=>F a) cv45.enc
abbrev Jj:=ByteArray→Int→Option (ByteArray×Int×Bool)
noncomputable def Og (z0:Zd) (text_0:ByteArray) (at_1:Int):Option (ByteArray×Int×Bool):=
 (z0 text_0 at_1).bind fun r0=>
 bif (!r0.2.2) then
 some (⟨#[]⟩,(0,false))
 else
 bif (decide (r0.1 > 20000)) then
  some (⟨#[]⟩,(0,false))
 else
  bif (decide (r0.1 > (w64 ((text_0.size:Int) - r0.2.1)))) then
  some (⟨#[]⟩,(0,false))
  else
  bif (((decide (0≤r0.2.1)) && (decide (r0.2.1≤(w64 (r0.2.1+r0.1))))) && (decide ((w64 (r0.2.1+r0.1))≤(text_0.size:Int)))) then
  some ((text_0.extract r0.2.1.toNat (w64 (r0.2.1+r0.1)).toNat),((w64 (r0.2.1+r0.1)),true))
  else none
noncomputable def Va:Jj:=Og LY
theorem Hr:Tells ctx PP 62 cv15 cv46 (fun a=>Va a.1 a.2):=fn_ok0 (hc Fj hl_nil) Try.func62 ((fun z0 a=>by kernel_rfl:∀ z0,EntryIs0 ctx PP 62 [] [(29,Gj z0)] cv15 cv46 fun a=>Og z0 a.1 a.2) LY)
noncomputable def Ir {γ:Type} (F:Jj):Hd ctx γ:=hdl cv15.dec (fun a=>F a.1 a.2) cv46.enc
abbrev Lj:=SFields→Option (ByteArray×SFields)
noncomputable def Pg (z0:Jj) (f_0:SFields):Option (ByteArray×SFields):=
 (z0 f_0.fText f_0.fAt).bind fun r0=>
 bif (!r0.2.2) then
 some (⟨#[]⟩,⟨f_0.fText,f_0.fAt,true⟩)
 else
 some (r0.1,⟨f_0.fText,r0.2.1,f_0.fBad⟩)
noncomputable def Xa:Lj:=Pg Va
theorem Jr:Tells ctx PP 47 cv44 cv47 (fun a=>Xa a):=fn_ok0 (hc Hr hl_nil) Try.func47 ((fun z0 a=>by kernel_rfl:∀ z0,EntryIs0 ctx PP 47 [0] [(62,Ir z0)] cv44 cv47 fun a=>Pg z0 a) Va)
noncomputable def Kr {γ:Type} (F:Lj):Hd ctx γ:=hdl cv44.dec (fun a=>F a) cv47.enc
abbrev Nj:=ByteArray→Option (SThing×Bool)
noncomputable def Qg (z0:Ij) (z1:Lj) (z2:Fg) (text_0:ByteArray):Option (SThing×Bool):=
 (z0 ⟨text_0,0,false⟩).bind fun r0=>
 (z0 r0.2).bind fun r1=>
 (z0 r1.2).bind fun r2=>
 (z1 r2.2).bind fun r3=>
 (z0 r3.2).bind fun r4=>
 (z2 ⟨r0.1,r1.1,((w64 (((BitVec.toNat ((BitVec.ofInt (IntKind.bits IntKind.i64) r2.1) &&& (BitVec.ofInt (IntKind.bits IntKind.i64) 1))):Nat):Int)) != 0),((w64 (((BitVec.toNat ((BitVec.ofInt (IntKind.bits IntKind.i64) r2.1) &&& (BitVec.ofInt (IntKind.bits IntKind.i64) 2))):Nat):Int)) != 0),((w64 (((BitVec.toNat ((BitVec.ofInt (IntKind.bits IntKind.i64) r2.1) &&& (BitVec.ofInt (IntKind.bits IntKind.i64) 4))):Nat):Int)) != 0),((w64 (((BitVec.toNat ((BitVec.ofInt (IntKind.bits IntKind.i64) r2.1) &&& (BitVec.ofInt (IntKind.bits IntKind.i64) 8))):Nat):Int)) != 0),r3.1,r4.1⟩).bind fun r5=>
 bif r4.2.fBad then
 some (⟨0,0,false,false,false,false,⟨#[]⟩,0⟩,false)
 else
 bif (!r5.2) then
  some (⟨0,0,false,false,false,false,⟨#[]⟩,0⟩,false)
 else
  bif (!((ByteArray.toList r5.1) == (ByteArray.toList text_0))) then
  some (⟨0,0,false,false,false,false,⟨#[]⟩,0⟩,false)
  else
  some (⟨r0.1,r1.1,((w64 (((BitVec.toNat ((BitVec.ofInt (IntKind.bits IntKind.i64) r2.1) &&& (BitVec.ofInt (IntKind.bits IntKind.i64) 1))):Nat):Int)) != 0),((w64 (((BitVec.toNat ((BitVec.ofInt (IntKind.bits IntKind.i64) r2.1) &&& (BitVec.ofInt (IntKind.bits IntKind.i64) 2))):Nat):Int)) != 0),((w64 (((BitVec.toNat ((BitVec.ofInt (IntKind.bits IntKind.i64) r2.1) &&& (BitVec.ofInt (IntKind.bits IntKind.i64) 4))):Nat):Int)) != 0),((w64 (((BitVec.toNat ((BitVec.ofInt (IntKind.bits IntKind.i64) r2.1) &&& (BitVec.ofInt (IntKind.bits IntKind.i64) 8))):Nat):Int)) != 0),r3.1,r4.1⟩,true)
noncomputable def NZ:Nj:=Qg MZ Xa Qa
theorem Lr:Tells ctx PP 28 cv12 cv26 (fun a=>NZ a):=fn_ok0 (hc Zq (hc Jr (hc Un hl_nil))) Try.func28 ((fun z0 z1 z2 a=>by kernel_rfl:∀ z0 z1 z2,EntryIs0 ctx PP 28 [] [(46,Ar z0),(47,Kr z1),(26,Wn z2)] cv12 cv26 fun a=>Qg z0 z1 z2 a) MZ Xa Qa)
noncomputable def Nr {γ:Type} (F:Nj):Hd ctx γ:=hdl cv12.dec (fun a=>F a) cv26.enc
abbrev Oj:=ByteArray→Option (SRec×Bool)
noncomputable def Ya (z0:Nj) (z1:Zd) (z2:Gg) (text_0:ByteArray):Option (SRec×Bool):=
 bif ((ByteArray.toList text_0) == (ByteArray.toList ⟨#[]⟩)) then
 some (⟨0,⟨#[]⟩,0,⟨0,0,false,false,false,false,⟨#[]⟩,0⟩⟩,false)
 else
 bif ((decide ((0:Int)≤(0:Int))) && (decide (0<(text_0.size:Int)))) then
 bif ((w64 (bt text_0 0)) == 1) then
  bif ((decide ((0:Int)≤(1:Int))) && (decide (1≤(text_0.size:Int)))) then
  (z2 ⟨(w64 (bt text_0 0)),(text_0.extract (1:Int).toNat text_0.size),0,⟨0,0,false,false,false,false,⟨#[]⟩,0⟩⟩).bind fun r0=>
  bif (!r0.2) then
  some (⟨0,⟨#[]⟩,0,⟨0,0,false,false,false,false,⟨#[]⟩,0⟩⟩,false)
  else
  bif (!((ByteArray.toList r0.1) == (ByteArray.toList text_0))) then
   some (⟨0,⟨#[]⟩,0,⟨0,0,false,false,false,false,⟨#[]⟩,0⟩⟩,false)
  else
   some (⟨(w64 (bt text_0 0)),(text_0.extract (1:Int).toNat text_0.size),0,⟨0,0,false,false,false,false,⟨#[]⟩,0⟩⟩,true)
  else none
 else
  bif ((w64 (bt text_0 0)) == 3) then
  bif ((decide ((0:Int)≤(1:Int))) && (decide (1≤(text_0.size:Int)))) then
  (z0 (text_0.extract (1:Int).toNat text_0.size)).bind fun r1=>
  (z2 ⟨(w64 (bt text_0 0)),⟨#[]⟩,0,r1.1⟩).bind fun r2=>
  bif (!r2.2) then
   some (⟨0,⟨#[]⟩,0,⟨0,0,false,false,false,false,⟨#[]⟩,0⟩⟩,false)
  else
   bif (!((ByteArray.toList r2.1) == (ByteArray.toList text_0))) then
   some (⟨0,⟨#[]⟩,0,⟨0,0,false,false,false,false,⟨#[]⟩,0⟩⟩,false)
   else
   some (⟨(w64 (bt text_0 0)),⟨#[]⟩,0,r1.1⟩,true)
  else none
  else
  (z1 text_0 1).bind fun r3=>
  (z2 ⟨(w64 (bt text_0 0)),⟨#[]⟩,r3.1,⟨0,0,false,false,false,false,⟨#[]⟩,0⟩⟩).bind fun r4=>
  bif (!r4.2) then
   some (⟨0,⟨#[]⟩,0,⟨0,0,false,false,false,false,⟨#[]⟩,0⟩⟩,false)
  else
   bif (!((ByteArray.toList r4.1) == (ByteArray.toList text_0))) then
   some (⟨0,⟨#[]⟩,0,⟨0,0,false,false,false,false,⟨#[]⟩,0⟩⟩,false)
   else
   some (⟨(w64 (bt text_0 0)),⟨#[]⟩,r3.1,⟨0,0,false,false,false,false,⟨#[]⟩,0⟩⟩,true)
 else none
noncomputable def VY:Oj:=Ya NZ LY Ua
theorem Qr:Tells ctx PP 14 cv12 cv48 (fun a=>VY a):=fn_ok0 (hc Lr (hc Fj (hc Xn hl_nil))) Try.func14 ((fun z0 z1 z2 a=>by kernel_rfl:∀ z0 z1 z2,EntryIs0 ctx PP 14 [] [(28,Nr z0),(29,Gj z1),(13,Yn z2)] cv12 cv48 fun a=>Ya z0 z1 z2 a) NZ LY Ua)
noncomputable def Sr {γ:Type} (F:Oj):Hd ctx γ:=hdl cv12.dec (fun a=>F a) cv48.enc
abbrev Pj:=SL01Cur→ByteArray→Option (ByteArray×SL01Cur)
noncomputable def Qj (z0:T_spec_l01Below) (z1:T_spec_l01Text) (c_0:SL01Cur) (s_1:ByteArray):Option (ByteArray×SL01Cur):=
 (z0 ⟨(),c_0.fI,c_0.fH⟩ 12).bind fun r0=>
 bif (r0.1 == 0) then
 (z1 ⟨(),r0.2.fI,r0.2.fH⟩ 1).bind fun r1=>
 bif (decide ((s_1.size+r1.1.size)≤9223372036854775807)) then
 some ((s_1++r1.1),⟨(),r1.2.fI,r1.2.fH⟩)
 else none
 else
 bif (r0.1 == 1) then
  (z0 ⟨(),r0.2.fI,r0.2.fH⟩ (w64 ((s_1.size:Int)+1))).bind fun r2=>
  bif ((decide (0≤r2.1)) && (decide (r2.1≤(s_1.size:Int)))) then
  some ((s_1.extract 0 r2.1.toNat),⟨(),r2.2.fI,r2.2.fH⟩)
  else none
 else
  bif (r0.1 == 2) then
  bif (r0.1 == 2) then
   bif (decide ((s_1.size:Int) > 0)) then
   (z0 ⟨(),r0.2.fI,r0.2.fH⟩ (s_1.size:Int)).bind fun r3=>
   bif ((decide (0≤r3.1)) && (decide (r3.1≤(s_1.size:Int)))) then
   (z1 ⟨(),r3.2.fI,r3.2.fH⟩ 1).bind fun r4=>
   bif (decide (((s_1.extract 0 r3.1.toNat).size+r4.1.size)≤9223372036854775807)) then
   bif ((decide (0≤(w64 (r3.1+1)))) && (decide ((w64 (r3.1+1))≤(s_1.size:Int)))) then
   bif (decide ((((s_1.extract 0 r3.1.toNat)++r4.1).size+(s_1.extract (w64 (r3.1+1)).toNat s_1.size).size)≤9223372036854775807)) then
   some ((((s_1.extract 0 r3.1.toNat)++r4.1)++(s_1.extract (w64 (r3.1+1)).toNat s_1.size)),⟨(),r4.2.fI,r4.2.fH⟩)
   else none
   else none
   else none
   else none
   else
   some (s_1,⟨(),r0.2.fI,r0.2.fH⟩)
  else
   some (s_1,⟨(),r0.2.fI,r0.2.fH⟩)
  else
  bif (r0.1 == 3) then
   bif (decide ((s_1.size:Int) > 0)) then
   (z0 ⟨(),r0.2.fI,r0.2.fH⟩ (s_1.size:Int)).bind fun r5=>
   bif ((decide (0≤r5.1)) && (decide (r5.1≤(s_1.size:Int)))) then
   (z1 ⟨(),r5.2.fI,r5.2.fH⟩ 1).bind fun r6=>
   bif (decide (((s_1.extract 0 r5.1.toNat).size+r6.1.size)≤9223372036854775807)) then
   bif ((decide (0≤(w64 (r5.1+1)))) && (decide ((w64 (r5.1+1))≤(s_1.size:Int)))) then
   bif (decide ((((s_1.extract 0 r5.1.toNat)++r6.1).size+(s_1.extract (w64 (r5.1+1)).toNat s_1.size).size)≤9223372036854775807)) then
   some ((((s_1.extract 0 r5.1.toNat)++r6.1)++(s_1.extract (w64 (r5.1+1)).toNat s_1.size)),⟨(),r6.2.fI,r6.2.fH⟩)
   else none
   else none
   else none
   else none
   else
   some (s_1,⟨(),r0.2.fI,r0.2.fH⟩)
  else
   some (s_1,⟨(),r0.2.fI,r0.2.fH⟩)
noncomputable def Ce:Pj:=Qj spec_l01Below spec_l01Text
theorem Ur:Tells ctx PP 32 cv49 cv7 (fun a=>Ce a.1 a.2):=fn_ok0 (hc ok_spec_l01Below (hc ok_spec_l01Text hl_nil)) Try.func32 ((fun z0 z1 a=>by kernel_rfl:∀ z0 z1,EntryIs0 ctx PP 32 [0] [(38,H_spec_l01Below z0),(51,H_spec_l01Text z1)] cv49 cv7 fun a=>Qj z0 z1 a.1 a.2) spec_l01Below spec_l01Text)
noncomputable def Vr {γ:Type} (F:Pj):Hd ctx γ:=hdl cv49.dec (fun a=>F a.1 a.2) cv7.enc
abbrev Rj:=Unit→Option ByteArray
noncomputable def Sj (z0:T_spec_l01New) (z1:Xf) (z2:Zf) (z3:YZ) (z4:Pj) (code_0:Unit):Option ByteArray:=
 (z0 ()).bind fun r0=>
 (z1 ⟨(),r0.fI,r0.fH⟩).bind fun r1=>
 (z2 ⟨(),r1.2.2.fI,r1.2.2.fH⟩ r1.2.1).bind fun r2=>
 (z3 r2.1).bind fun r3=>
 (z4 ⟨(),r2.2.fI,r2.2.fH⟩ r3.1).bind fun r4=>
 some r4.1
noncomputable def Ee:Rj:=Sj spec_l01New La Na OY Ce
theorem Xr:Tells ctx PP 16 cv0 cv12 (fun a=>Ee a):=fn_ok0 (hc ok_spec_l01New (hc Xm (hc Zm (hc Bf (hc Ur hl_nil))))) Try.func16 ((fun z0 z1 z2 z3 z4 a=>by kernel_rfl:∀ z0 z1 z2 z3 z4,EntryIs0 ctx PP 16 [] [(18,H_spec_l01New z0),(23,Ym z1),(24,Dn z2),(15,Uc z3),(32,Vr z4)] cv0 cv12 fun a=>Sj z0 z1 z2 z3 z4 a) spec_l01New La Na OY Ce)
noncomputable def Yr {γ:Type} (F:Rj):Hd ctx γ:=hdl cv0.dec (fun a=>F a) cv12.enc
abbrev Fe:=SL19Cur→Int→Option (ByteArray×SL19Cur)
noncomputable def Ug (c_0:SL19Cur) (n_1:Int):Option (ByteArray×SL19Cur):=
 bif c_0.fBad then
 some (⟨#[]⟩,⟨c_0.fText,c_0.fAt,true⟩)
 else
 bif (decide (n_1 > (w64 ((c_0.fText.size:Int) - c_0.fAt)))) then
  some (⟨#[]⟩,⟨c_0.fText,c_0.fAt,true⟩)
 else
  bif (((decide (0≤(w64 ((w64 (c_0.fAt+n_1)) - n_1)))) && (decide ((w64 ((w64 (c_0.fAt+n_1)) - n_1))≤(w64 (c_0.fAt+n_1))))) && (decide ((w64 (c_0.fAt+n_1))≤(c_0.fText.size:Int)))) then
  some ((c_0.fText.extract (w64 ((w64 (c_0.fAt+n_1)) - n_1)).toNat (w64 (c_0.fAt+n_1)).toNat),⟨c_0.fText,(w64 (c_0.fAt+n_1)),c_0.fBad⟩)
  else none
noncomputable def PY:Fe:=Ug
theorem Tj:Tells ctx PP 34 cv50 cv51 (fun a=>PY a.1 a.2):=fn_ok0 hl_nil Try.func34 (fun a=>by kernel_rfl:EntryIs0 ctx PP 34 [0] [] cv50 cv51 fun a=>Ug a.1 a.2)
noncomputable def Uj {γ:Type} (F:Fe):Hd ctx γ:=hdl cv50.dec (fun a=>F a.1 a.2) cv51.enc
abbrev Vg:=SL19Cur→Option (Int×SL19Cur)
noncomputable def Xg (z0:Fe) (c_0:SL19Cur):Option (Int×SL19Cur):=
 (z0 c_0 1).bind fun r0=>
 bif r0.2.fBad then
 some (0,r0.2)
 else
 bif ((decide ((0:Int)≤(0:Int))) && (decide (0<(r0.1.size:Int)))) then
 some ((w64 (bt r0.1 0)),r0.2)
 else none
noncomputable def QY:Vg:=Xg PY
theorem Bo:Tells ctx PP 33 cv52 cv53 (fun a=>QY a):=fn_ok0 (hc Tj hl_nil) Try.func33 ((fun z0 a=>by kernel_rfl:∀ z0,EntryIs0 ctx PP 33 [0] [(34,Uj z0)] cv52 cv53 fun a=>Xg z0 a) PY)
noncomputable def Eo {γ:Type} (F:Vg):Hd ctx γ:=hdl cv52.dec (fun a=>F a) cv53.enc
abbrev Vj:=ByteArray→Int→Option (Int×Int×Bool)
inductive He where
 | c0 (text_0:ByteArray) (at_1:Int) (n_7:Int) (scale_8:Int) (i_9:Int)
noncomputable def Ho:He→LI
 | .c0 text_0 at_1 n_7 scale_8 i_9=>(tdo Try.f52 2000,[(0,[.one (.str text_0)]),(1,[.one (.int .i64 at_1)]),(7,[.one (.int .i64 n_7)]),(8,[.one (.int .i64 scale_8)]),(9,[.one (.int .i64 i_9)])],[])
noncomputable def Yg (z0:T_spec_l01In) (z1:WZ) (k:He→Option (Int×Int×Bool)) (text_0:ByteArray) (at_1:Int):Option (Int×Int×Bool):=
 (z0 at_1 0 (text_0.size:Int)).bind fun r0=>
 bif (!r0) then
 some (0,(0,false))
 else
 k (.c0 text_0 at_1 0 1 at_1)
noncomputable def Zg (z0:T_spec_l01In) (z1:WZ) (k:He→Option (Int×Int×Bool)):He→Option (Int×Int×Bool)
 | .c0 text_0 at_1 n_7 scale_8 i_9=>
 bif (decide (i_9<(text_0.size:Int))) then
  bif (decide (i_9<(w64 (at_1+5)))) then
  bif ((decide (0≤i_9)) && (decide (i_9<(text_0.size:Int)))) then
  bif ((decide (0≤i_9)) && (decide (i_9<(text_0.size:Int)))) then
  bif (decide ((bt text_0 i_9)<128)) then
   bif (decide ((w64 (n_7+(w64 (((w64 (bt text_0 i_9)).tmod 128)*scale_8)))) > 1000000000)) then
   some (0,(0,false))
   else
   (z1 (w64 (n_7+(w64 (((w64 (bt text_0 i_9)).tmod 128)*scale_8))))).bind fun r0=>
   bif (((decide (0≤at_1)) && (decide (at_1≤(w64 (i_9+1))))) && (decide ((w64 (i_9+1))≤(text_0.size:Int)))) then
   bif (!((ByteArray.toList r0) == (ByteArray.toList (text_0.extract at_1.toNat (w64 (i_9+1)).toNat)))) then
    some (0,(0,false))
   else
    some ((w64 (n_7+(w64 (((w64 (bt text_0 i_9)).tmod 128)*scale_8)))),((w64 (i_9+1)),true))
   else none
  else
   k (.c0 text_0 at_1 (w64 (n_7+(w64 (((w64 (bt text_0 i_9)).tmod 128)*scale_8)))) (w64 (scale_8*128)) (w64 (i_9+1)))
  else none
  else none
  else
  some (0,(0,false))
 else
  some (0,(0,false))
noncomputable def IZ:Nat→He→Option (Int×Int×Bool)
 | 0,_=>none
 | m+1,s=>Zg spec_l01In RY (IZ m) s
noncomputable def Za:Vj:=Yg spec_l01In RY (IZ gas)
theorem Zr:Tells ctx PP 52 cv15 cv43 (fun a=>Za a.1 a.2):=
 have b:∀ z0 z1,CutIs ctx PP 52 Try.f52 [] [(21,H_spec_l01In z0),(30,Oc z1)] cv43 Ho (Zg z0 z1):=fun z0 z1 _ s=>by cases s <;> kernel_rfl
 have e:∀ z0 z1,EntryIs ctx PP 52 [] [(21,H_spec_l01In z0),(30,Oc z1)] cv15 cv43 Ho (fun k a=>Yg z0 z1 k a.1 a.2):=fun z0 z1 _ a=>by kernel_rfl
 fn_ok (hc ok_spec_l01In (hc Ye hl_nil)) Try.func52 (fun s s' h=>by cases s;cases s';cases h;rfl) (fun _=>rfl) (fun _ _=>rfl) (b spec_l01In RY) (e spec_l01In RY) gas
noncomputable def Es {γ:Type} (F:Vj):Hd ctx γ:=hdl cv15.dec (fun a=>F a.1 a.2) cv43.enc
abbrev Ie:=SL19Cur→Option (Int×SL19Cur)
noncomputable def Ah (z0:Vj) (c_0:SL19Cur):Option (Int×SL19Cur):=
 (z0 c_0.fText c_0.fAt).bind fun r0=>
 bif c_0.fBad then
 some (0,⟨c_0.fText,c_0.fAt,true⟩)
 else
 bif (!r0.2.2) then
  some (0,⟨c_0.fText,c_0.fAt,true⟩)
 else
  some (r0.1,⟨c_0.fText,r0.2.1,c_0.fBad⟩)
noncomputable def WY:Ie:=Ah Za
theorem Wj:Tells ctx PP 35 cv52 cv53 (fun a=>WY a):=fn_ok0 (hc Zr hl_nil) Try.func35 ((fun z0 a=>by kernel_rfl:∀ z0,EntryIs0 ctx PP 35 [0] [(52,Es z0)] cv52 cv53 fun a=>Ah z0 a) Za)
noncomputable def Xj {γ:Type} (F:Ie):Hd ctx γ:=hdl cv52.dec (fun a=>F a) cv53.enc
abbrev Yj:=SL19Cur→Option (ByteArray×SL19Cur)
noncomputable def Bh (z0:Ie) (z1:Fe) (c_0:SL19Cur):Option (ByteArray×SL19Cur):=
 (z0 c_0).bind fun r0=>
 (z1 r0.2 r0.1).bind fun r1=>
 some (r1.1,r1.2)
noncomputable def Cb:Yj:=Bh WY PY
theorem Gs:Tells ctx PP 53 cv52 cv51 (fun a=>Cb a):=fn_ok0 (hc Wj (hc Tj hl_nil)) Try.func53 ((fun z0 z1 a=>by kernel_rfl:∀ z0 z1,EntryIs0 ctx PP 53 [0] [(35,Xj z0),(34,Uj z1)] cv52 cv51 fun a=>Bh z0 z1 a) WY PY)
noncomputable def Js {γ:Type} (F:Yj):Hd ctx γ:=hdl cv52.dec (fun a=>F a) cv51.enc
abbrev Zj:=ByteArray→Option (SThing×Bool)
noncomputable def Dh (z0:Ie) (z1:Vg) (z2:Yj) (z3:Af) (text_0:ByteArray):Option (SThing×Bool):=
 (z0 ⟨text_0,0,false⟩).bind fun r0=>
 (z1 r0.2).bind fun r1=>
 (z1 r1.2).bind fun r2=>
 (z2 r2.2).bind fun r3=>
 (z0 r3.2).bind fun r4=>
 (z3 ⟨r0.1,r1.1,((r2.1.tmod 2) == 1),(((w64 (r2.1.tdiv 2)).tmod 2) == 1),(((w64 (r2.1.tdiv 4)).tmod 2) == 1),(((w64 (r2.1.tdiv 8)).tmod 2) == 1),r3.1,r4.1⟩).bind fun r5=>
 bif r4.2.fBad then
 some (⟨0,0,false,false,false,false,⟨#[]⟩,0⟩,false)
 else
 bif (!r5.2) then
  some (⟨0,0,false,false,false,false,⟨#[]⟩,0⟩,false)
 else
  bif (!((ByteArray.toList r5.1) == (ByteArray.toList text_0))) then
  some (⟨0,0,false,false,false,false,⟨#[]⟩,0⟩,false)
  else
  some (⟨r0.1,r1.1,((r2.1.tmod 2) == 1),(((w64 (r2.1.tdiv 2)).tmod 2) == 1),(((w64 (r2.1.tdiv 4)).tmod 2) == 1),(((w64 (r2.1.tdiv 8)).tmod 2) == 1),r3.1,r4.1⟩,true)
noncomputable def OZ:Zj:=Dh WY QY Cb XZ
theorem Ls:Tells ctx PP 36 cv12 cv26 (fun a=>OZ a):=fn_ok0 (hc Wj (hc Bo (hc Gs (hc Yl hl_nil)))) Try.func36 ((fun z0 z1 z2 z3 a=>by kernel_rfl:∀ z0 z1 z2 z3,EntryIs0 ctx PP 36 [] [(35,Xj z0),(33,Eo z1),(53,Js z2),(31,Zl z3)] cv12 cv26 fun a=>Dh z0 z1 z2 z3 a) WY QY Cb XZ)
noncomputable def Ns {γ:Type} (F:Zj):Hd ctx γ:=hdl cv12.dec (fun a=>F a) cv26.enc
abbrev Ak:=ByteArray→Option (SRec×Bool)
noncomputable def Eb (z0:Vg) (z1:Fe) (z2:Ie) (z3:Zj) (z4:YZ) (text_0:ByteArray):Option (SRec×Bool):=
 (z0 ⟨text_0,0,false⟩).bind fun r0=>
 bif (r0.1 == 1) then
 (z1 r0.2 32).bind fun r1=>
 (z4 ⟨r0.1,r1.1,0,⟨0,0,false,false,false,false,⟨#[]⟩,0⟩⟩).bind fun r2=>
 bif r1.2.fBad then
  some (⟨0,⟨#[]⟩,0,⟨0,0,false,false,false,false,⟨#[]⟩,0⟩⟩,false)
 else
  bif (!r2.2) then
  some (⟨0,⟨#[]⟩,0,⟨0,0,false,false,false,false,⟨#[]⟩,0⟩⟩,false)
  else
  bif (!((ByteArray.toList r2.1) == (ByteArray.toList text_0))) then
   some (⟨0,⟨#[]⟩,0,⟨0,0,false,false,false,false,⟨#[]⟩,0⟩⟩,false)
  else
   some (⟨r0.1,r1.1,0,⟨0,0,false,false,false,false,⟨#[]⟩,0⟩⟩,true)
 else
 bif (r0.1 == 2) then
  bif (r0.1 == 2) then
  (z2 r0.2).bind fun r3=>
  (z4 ⟨r0.1,⟨#[]⟩,r3.1,⟨0,0,false,false,false,false,⟨#[]⟩,0⟩⟩).bind fun r4=>
  bif r3.2.fBad then
   some (⟨0,⟨#[]⟩,0,⟨0,0,false,false,false,false,⟨#[]⟩,0⟩⟩,false)
  else
   bif (!r4.2) then
   some (⟨0,⟨#[]⟩,0,⟨0,0,false,false,false,false,⟨#[]⟩,0⟩⟩,false)
   else
   bif (!((ByteArray.toList r4.1) == (ByteArray.toList text_0))) then
    some (⟨0,⟨#[]⟩,0,⟨0,0,false,false,false,false,⟨#[]⟩,0⟩⟩,false)
   else
    some (⟨r0.1,⟨#[]⟩,r3.1,⟨0,0,false,false,false,false,⟨#[]⟩,0⟩⟩,true)
  else
  bif (r0.1 == 3) then
   bif ((decide ((0:Int)≤(1:Int))) && (decide (1≤(text_0.size:Int)))) then
   (z3 (text_0.extract (1:Int).toNat text_0.size)).bind fun r5=>
   (z4 ⟨r0.1,⟨#[]⟩,0,r5.1⟩).bind fun r6=>
   bif r0.2.fBad then
   some (⟨0,⟨#[]⟩,0,⟨0,0,false,false,false,false,⟨#[]⟩,0⟩⟩,false)
   else
   bif (!r6.2) then
    some (⟨0,⟨#[]⟩,0,⟨0,0,false,false,false,false,⟨#[]⟩,0⟩⟩,false)
   else
    bif (!((ByteArray.toList r6.1) == (ByteArray.toList text_0))) then
    some (⟨0,⟨#[]⟩,0,⟨0,0,false,false,false,false,⟨#[]⟩,0⟩⟩,false)
    else
    some (⟨r0.1,⟨#[]⟩,0,r5.1⟩,true)
   else none
  else
   (z4 ⟨r0.1,⟨#[]⟩,0,⟨0,0,false,false,false,false,⟨#[]⟩,0⟩⟩).bind fun r7=>
   bif r0.2.fBad then
   some (⟨0,⟨#[]⟩,0,⟨0,0,false,false,false,false,⟨#[]⟩,0⟩⟩,false)
   else
   bif (!r7.2) then
    some (⟨0,⟨#[]⟩,0,⟨0,0,false,false,false,false,⟨#[]⟩,0⟩⟩,false)
   else
    bif (!((ByteArray.toList r7.1) == (ByteArray.toList text_0))) then
    some (⟨0,⟨#[]⟩,0,⟨0,0,false,false,false,false,⟨#[]⟩,0⟩⟩,false)
    else
    some (⟨r0.1,⟨#[]⟩,0,⟨0,0,false,false,false,false,⟨#[]⟩,0⟩⟩,true)
 else
  bif (r0.1 == 4) then
  (z2 r0.2).bind fun r8=>
  (z4 ⟨r0.1,⟨#[]⟩,r8.1,⟨0,0,false,false,false,false,⟨#[]⟩,0⟩⟩).bind fun r9=>
  bif r8.2.fBad then
   some (⟨0,⟨#[]⟩,0,⟨0,0,false,false,false,false,⟨#[]⟩,0⟩⟩,false)
  else
   bif (!r9.2) then
   some (⟨0,⟨#[]⟩,0,⟨0,0,false,false,false,false,⟨#[]⟩,0⟩⟩,false)
   else
   bif (!((ByteArray.toList r9.1) == (ByteArray.toList text_0))) then
    some (⟨0,⟨#[]⟩,0,⟨0,0,false,false,false,false,⟨#[]⟩,0⟩⟩,false)
   else
    some (⟨r0.1,⟨#[]⟩,r8.1,⟨0,0,false,false,false,false,⟨#[]⟩,0⟩⟩,true)
  else
  bif (r0.1 == 3) then
   bif ((decide ((0:Int)≤(1:Int))) && (decide (1≤(text_0.size:Int)))) then
   (z3 (text_0.extract (1:Int).toNat text_0.size)).bind fun r10=>
   (z4 ⟨r0.1,⟨#[]⟩,0,r10.1⟩).bind fun r11=>
   bif r0.2.fBad then
   some (⟨0,⟨#[]⟩,0,⟨0,0,false,false,false,false,⟨#[]⟩,0⟩⟩,false)
   else
   bif (!r11.2) then
    some (⟨0,⟨#[]⟩,0,⟨0,0,false,false,false,false,⟨#[]⟩,0⟩⟩,false)
   else
    bif (!((ByteArray.toList r11.1) == (ByteArray.toList text_0))) then
    some (⟨0,⟨#[]⟩,0,⟨0,0,false,false,false,false,⟨#[]⟩,0⟩⟩,false)
    else
    some (⟨r0.1,⟨#[]⟩,0,r10.1⟩,true)
   else none
  else
   (z4 ⟨r0.1,⟨#[]⟩,0,⟨0,0,false,false,false,false,⟨#[]⟩,0⟩⟩).bind fun r12=>
   bif r0.2.fBad then
   some (⟨0,⟨#[]⟩,0,⟨0,0,false,false,false,false,⟨#[]⟩,0⟩⟩,false)
   else
   bif (!r12.2) then
    some (⟨0,⟨#[]⟩,0,⟨0,0,false,false,false,false,⟨#[]⟩,0⟩⟩,false)
   else
    bif (!((ByteArray.toList r12.1) == (ByteArray.toList text_0))) then
    some (⟨0,⟨#[]⟩,0,⟨0,0,false,false,false,false,⟨#[]⟩,0⟩⟩,false)
    else
    some (⟨r0.1,⟨#[]⟩,0,⟨0,0,false,false,false,false,⟨#[]⟩,0⟩⟩,true)
noncomputable def XY:Ak:=Eb QY PY WY OZ OY
theorem Qs:Tells ctx PP 17 cv12 cv48 (fun a=>XY a):=fn_ok0 (hc Bo (hc Tj (hc Wj (hc Ls (hc Bf hl_nil))))) Try.func17 ((fun z0 z1 z2 z3 z4 a=>by kernel_rfl:∀ z0 z1 z2 z3 z4,EntryIs0 ctx PP 17 [] [(33,Eo z0),(34,Uj z1),(35,Xj z2),(36,Ns z3),(15,Uc z4)] cv12 cv48 fun a=>Eb z0 z1 z2 z3 z4 a) QY PY WY OZ OY)
noncomputable def Us {γ:Type} (F:Ak):Hd ctx γ:=hdl cv12.dec (fun a=>F a) cv48.enc
abbrev Io:=Unit→Option Bool
noncomputable def Ik (z0:T_laws_big) (z1:Ri) (z2:Gg) (z3:Oj) (z4:YZ) (z5:Rj) (z6:Ak) (code_0:Unit):Option Bool:=
 (z0 ()).bind fun r0=>
 bif r0 then
 some true
 else
 (z1 ()).bind fun r1=>
 (z2 r1).bind fun r2=>
 (z3 r2.1).bind fun r3=>
 (z4 r1).bind fun r4=>
 bif (!(r2.2 == r4.2)) then
  some false
 else
  bif r2.2 then
  bif (!r3.2) then
   some false
  else
   bif (!((r3.1.fKind == r1.fKind) && (((ByteArray.toList r3.1.fText) == (ByteArray.toList r1.fText)) && ((r3.1.fNum == r1.fNum) && (((r3.1.fThing.fId == r1.fThing.fId) && ((r3.1.fThing.fKind == r1.fThing.fKind) && ((r3.1.fThing.fHidden == r1.fThing.fHidden) && ((r3.1.fThing.fFixed == r1.fThing.fFixed) && ((r3.1.fThing.fSigns == r1.fThing.fSigns) && ((r3.1.fThing.fWraps == r1.fThing.fWraps) && (((ByteArray.toList r3.1.fThing.fValue) == (ByteArray.toList r1.fThing.fValue)) && ((r3.1.fThing.fNext == r1.fThing.fNext) && true)))))))) && true))))) then
   some false
   else
   (z5 ()).bind fun r5=>
   (z3 r5).bind fun r6=>
   (z6 r5).bind fun r7=>
   (z2 r6.1).bind fun r8=>
   bif (r6.2 == r7.2) then
    bif (!r6.2) then
    some true
    else
    some ((ByteArray.toList r8.1) == (ByteArray.toList r5))
   else
    some false
  else
  (z5 ()).bind fun r9=>
  (z3 r9).bind fun r10=>
  (z6 r9).bind fun r11=>
  (z2 r10.1).bind fun r12=>
  bif (r10.2 == r11.2) then
   bif (!r10.2) then
   some true
   else
   some ((ByteArray.toList r12.1) == (ByteArray.toList r9))
  else
   some false
noncomputable def laws_FnRecs:Io:=Ik laws_big Md Ua VY OY Ee XY
theorem ok_laws_FnRecs:Tells ctx PP 4 cv0 cv1 (fun a=>laws_FnRecs a):=fn_ok0 (hc ok_laws_big (hc Rq (hc Xn (hc Qr (hc Bf (hc Xr (hc Qs hl_nil))))))) Try.func4 ((fun z0 z1 z2 z3 z4 z5 z6 a=>by kernel_rfl:∀ z0 z1 z2 z3 z4 z5 z6,EntryIs0 ctx PP 4 [] [(5,H_laws_big z0),(12,Tq z1),(13,Yn z2),(14,Sr z3),(15,Uc z4),(16,Yr z5),(17,Us z6)] cv0 cv1 fun a=>Ik z0 z1 z2 z3 z4 z5 z6 a) laws_big Md Ua VY OY Ee XY)
noncomputable def Wv {γ:Type} (F:Io):Hd ctx γ:=hdl cv0.dec (fun a=>F a) cv1.enc
end Go.Proofs.Ytjfkbidckphneaa.G

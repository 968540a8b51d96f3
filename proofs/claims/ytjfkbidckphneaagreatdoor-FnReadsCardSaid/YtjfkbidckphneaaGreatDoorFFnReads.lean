/- Functions of the program, told by plain functions: part 1 of 1. -/
import Derived.Test.YtjfkbidckphneaaGreatDoorCtx
namespace Go.Proofs.YtjfkbidckphneaaGreatDoor.G
open Go Go.Ev
set_option linter.unusedVariables false
set_option linter.unusedSectionVars false
variable [PC]
abbrev Qc:=Unit→Option Bool
noncomputable def Cj (code_0:Unit):Option Bool:=
 some (decide ((codeL.length:Int) > 1048576))
noncomputable def laws_big:Qc:=Cj
theorem Dq:Tells ctx PP 5 cv0 cv1 (fun a=>laws_big a):=fn_ok0 hl_nil Tryz.func5 (fun a=>by kernel_rfl:EntryIs0 ctx PP 5 [] [] cv0 cv1 fun a=>Cj a)
noncomputable def Ej {γ:Type} (F:Qc):Hd ctx γ:=hdl cv0.dec (fun a=>F a) cv1.enc
abbrev LZ:=Unit→Option SL01Cur
inductive MZ where
 | c0 (h_3:Int) (i_4:Int)
noncomputable def Fj:MZ→LI
 | .c0 h_3 i_4=>(tdo Tryz.f22 464,[(0,[.one (.csl)]),(3,[.one (.int .i64 h_3)]),(4,[.one (.int .i64 i_4)])],[])
noncomputable def E_spec_l01New (k:MZ→Option SL01Cur) (code_0:Unit):Option SL01Cur:=
 k (.c0 (w64 (27401+(codeL.length:Int))) 0)
noncomputable def B_spec_l01New (k:MZ→Option SL01Cur):MZ→Option SL01Cur
 | .c0 h_3 i_4=>
 bif (decide (i_4<(codeL.length:Int))) then
  bif (decide (i_4<4000)) then
  bif ((decide (0≤i_4)) && (decide (i_4<(codeL.length:Int)))) then
  bif (Nat.blt i_4.toNat codeL.length) then
  k (.c0 (w64 (((BitVec.toNat ((BitVec.ofInt (IntKind.bits IntKind.i64) (w64 ((w64 ((w64 (h_3*131))+(w64 (codeL.getD i_4.toNat 0))))+7))) &&& (BitVec.ofInt (IntKind.bits IntKind.i64) 1073741823))):Nat):Int)) (w64 (i_4+1)))
  else none
  else none
  else
  some ⟨(),0,h_3⟩
 else
  some ⟨(),0,h_3⟩
noncomputable def L_spec_l01New:Nat→MZ→Option SL01Cur
 | 0,_=>none
 | m+1,s=>B_spec_l01New (L_spec_l01New m) s
noncomputable def spec_l01New:LZ:=E_spec_l01New (L_spec_l01New gas)
theorem Gj:Tells ctx PP 22 cv0 cv2 (fun a=>spec_l01New a):=
 have b:CutIs ctx PP 22 Tryz.f22 [] [] cv2 Fj (B_spec_l01New):=fun _ s=>by cases s <;> kernel_rfl
 have e:EntryIs ctx PP 22 [] [] cv0 cv2 Fj (fun k a=>E_spec_l01New k a):=fun _ a=>by kernel_rfl
 fn_ok hl_nil Tryz.func22 (fun s s' h=>by cases s;cases s';cases h;rfl) (fun _=>rfl) (fun _ _=>rfl) b e gas
noncomputable def Xf {γ:Type} (F:LZ):Hd ctx γ:=hdl cv0.dec (fun a=>F a) cv2.enc
abbrev Yf:=Option (List Int)
noncomputable def Ij  : Option (List Int):=
 some [1779033703,3144134277,1013904242,2773480762,1359893119,2600822924,528734635,1541459225]
noncomputable def spec_l05First:Yf:=Ij
theorem Fq:Tells ctx PP 118 cv3 cv4 (fun _=>spec_l05First):=fn_ok0 hl_nil Tryz.func118 (fun _=>by kernel_rfl:EntryIs0 ctx PP 118 [] [] cv3 cv4 fun _=>Ij)
noncomputable def Gq {γ:Type} (F:Yf):Hd ctx γ:=hdl cv3.dec (fun _=>F) cv4.enc
abbrev RY:=(List Int)→Option ByteArray
inductive NZ where
 | c0 (words_0:(List Int)) (i_4:Int) (out_3:(List Int))
noncomputable def Jj:NZ→LI
 | .c0 words_0 i_4 out_3=>(tdo Tryz.f117 464,[(0,[.one (.rsl 92 words_0)]),(3,[.one (.own 240)]),(4,[.one (.int .i64 i_4)])],[(240,.sl 5 out_3)])
noncomputable def Lj (k:NZ→Option ByteArray) (words_0:(List Int)):Option ByteArray:=
 k (.c0 words_0 0 [])
noncomputable def B_spec_l05Bytes (k:NZ→Option ByteArray):NZ→Option ByteArray
 | .c0 words_0 i_4 out_3=>
 bif (decide (i_4<(words_0.length:Int))) then
  bif ((decide (0≤i_4)) && (decide (i_4<(words_0.length:Int)))) then
  bif (decide (((out_3.length+4)*1)≤140737488355328)) then
  k (.c0 words_0 (w64 (i_4+1)) (out_3++[(w8 (w32 ((words_0.getD i_4.toNat 0).tdiv 16777216))),(w8 ((w32 ((words_0.getD i_4.toNat 0).tdiv 65536)).tmod 256)),(w8 ((w32 ((words_0.getD i_4.toNat 0).tdiv 256)).tmod 256)),(w8 ((words_0.getD i_4.toNat 0).tmod 256))]))
  else none
  else none
 else
  some (ofBytes out_3)
noncomputable def L_spec_l05Bytes:Nat→NZ→Option ByteArray
 | 0,_=>none
 | m+1,s=>B_spec_l05Bytes (L_spec_l05Bytes m) s
noncomputable def spec_l05Bytes:RY:=Lj (L_spec_l05Bytes gas)
theorem Zf:Tells ctx PP 117 cv5 cv6 (fun a=>spec_l05Bytes a):=
 have b:CutIs ctx PP 117 Tryz.f117 [] [] cv6 Jj (B_spec_l05Bytes):=fun _ s=>by cases s <;> kernel_rfl
 have e:EntryIs ctx PP 117 [] [] cv5 cv6 Jj (fun k a=>Lj k a):=fun _ a=>by kernel_rfl
 fn_ok hl_nil Tryz.func117 (fun s s' h=>by cases s;cases s';cases h;rfl) (fun _=>rfl) (fun _ _=>rfl) b e gas
noncomputable def OZ {γ:Type} (F:RY):Hd ctx γ:=hdl cv5.dec (fun a=>F a) cv6.enc
abbrev Ag:=Option SHasher
noncomputable def E_spec_HasherNew (z0:Yf) (z1:RY)  : Option SHasher:=
 z0.bind fun r0=>
 (z1 r0).bind fun r1=>
 some ⟨r1,⟨#[]⟩,0⟩
noncomputable def spec_HasherNew:Ag:=E_spec_HasherNew spec_l05First spec_l05Bytes
theorem Hq:Tells ctx PP 83 cv3 cv7 (fun _=>spec_HasherNew):=fn_ok0 (hc Fq (hc Zf hl_nil)) Tryz.func83 ((fun z0 z1 _=>by kernel_rfl:∀ z0 z1,EntryIs0 ctx PP 83 [] [(118,Gq z0),(117,OZ z1)] cv3 cv7 fun _=>E_spec_HasherNew z0 z1) spec_l05First spec_l05Bytes)
noncomputable def Iq {γ:Type} (F:Ag):Hd ctx γ:=hdl cv3.dec (fun _=>F) cv7.enc
abbrev TB:=Int→Int→Int→Option Bool
noncomputable def Nj (x_0:Int) (least_1:Int) (most_2:Int):Option Bool:=
 bif (decide (x_0≥least_1)) then
 some (decide (x_0≤most_2))
 else
 some false
noncomputable def spec_l01In:TB:=Nj
theorem LY:Tells ctx PP 24 cv8 cv1 (fun a=>spec_l01In a.1 a.2.1 a.2.2):=fn_ok0 hl_nil Tryz.func24 (fun a=>by kernel_rfl:EntryIs0 ctx PP 24 [] [] cv8 cv1 fun a=>Nj a.1 a.2.1 a.2.2)
noncomputable def NM {γ:Type} (F:TB):Hd ctx γ:=hdl cv8.dec (fun a=>F a.1 a.2.1 a.2.2) cv1.enc
abbrev ZY:=SHasher→Option Bool
noncomputable def E_spec_HasherOk (z0:TB) (h_0:SHasher):Option Bool:=
 bif ((h_0.fState.size:Int) == 32) then
 bif (decide ((h_0.fRest.size:Int)<64)) then
  (z0 h_0.fCount 0 1000000000).bind fun r0=>
  bif r0 then
  some ((h_0.fCount.tmod 64) == (h_0.fRest.size:Int))
  else
  some false
 else
  some false
 else
 some false
noncomputable def spec_HasherOk:ZY:=E_spec_HasherOk spec_l01In
theorem Oj:Tells ctx PP 113 cv7 cv1 (fun a=>spec_HasherOk a):=fn_ok0 (hc LY hl_nil) Tryz.func113 ((fun z0 a=>by kernel_rfl:∀ z0,EntryIs0 ctx PP 113 [] [(24,NM z0)] cv7 cv1 fun a=>E_spec_HasherOk z0 a) spec_l01In)
noncomputable def Tc {γ:Type} (F:ZY):Hd ctx γ:=hdl cv7.dec (fun a=>F a) cv1.enc
abbrev Uc:=ByteArray→Int→Option Int
noncomputable def E_spec_l05Word (s_0:ByteArray) (at_1:Int):Option Int:=
 bif ((decide (0≤at_1)) && (decide (at_1<(s_0.size:Int)))) then
 bif ((decide (0≤(w64 (at_1+1)))) && (decide ((w64 (at_1+1))<(s_0.size:Int)))) then
 bif ((decide (0≤(w64 (at_1+2)))) && (decide ((w64 (at_1+2))<(s_0.size:Int)))) then
 bif ((decide (0≤(w64 (at_1+3)))) && (decide ((w64 (at_1+3))<(s_0.size:Int)))) then
 some (w32 ((w32 ((w32 ((w32 ((w32 (bt s_0 at_1))*16777216))+(w32 ((w32 (bt s_0 (w64 (at_1+1))))*65536))))+(w32 ((w32 (bt s_0 (w64 (at_1+2))))*256))))+(w32 (bt s_0 (w64 (at_1+3))))))
 else none
 else none
 else none
 else none
noncomputable def spec_l05Word:Uc:=E_spec_l05Word
theorem Jq:Tells ctx PP 129 cv9 cv10 (fun a=>spec_l05Word a.1 a.2):=fn_ok0 hl_nil Tryz.func129 (fun a=>by kernel_rfl:EntryIs0 ctx PP 129 [] [] cv9 cv10 fun a=>E_spec_l05Word a.1 a.2)
noncomputable def Pj {γ:Type} (F:Uc):Hd ctx γ:=hdl cv9.dec (fun a=>F a.1 a.2) cv10.enc
abbrev NY:=ByteArray→Option (List Int)
inductive PZ where
 | c0 (s_0:ByteArray) (i_4:Int) (out_3:(List Int))
noncomputable def Qj:PZ→LI
 | .c0 s_0 i_4 out_3=>(tdo Tryz.f114 464,[(0,[.one (.str s_0)]),(3,[.one (.own 240)]),(4,[.one (.int .i64 i_4)])],[(240,.sl 92 out_3)])
noncomputable def Rj (z0:Uc) (k:PZ→Option (List Int)) (s_0:ByteArray):Option (List Int):=
 k (.c0 s_0 0 [])
noncomputable def B_spec_l05Words (z0:Uc) (k:PZ→Option (List Int)):PZ→Option (List Int)
 | .c0 s_0 i_4 out_3=>
 bif (decide ((w64 (i_4+4))≤(s_0.size:Int))) then
  (z0 s_0 i_4).bind fun r0=>
  bif (decide (((out_3.length+1)*4)≤140737488355328)) then
  k (.c0 s_0 (w64 (i_4+4)) (out_3++[r0]))
  else none
 else
  some out_3
noncomputable def L_spec_l05Words:Nat→PZ→Option (List Int)
 | 0,_=>none
 | m+1,s=>B_spec_l05Words spec_l05Word (L_spec_l05Words m) s
noncomputable def spec_l05Words:NY:=Rj spec_l05Word (L_spec_l05Words gas)
theorem Bg:Tells ctx PP 114 cv6 cv4 (fun a=>spec_l05Words a):=
 have b:∀ z0,CutIs ctx PP 114 Tryz.f114 [] [(129,Pj z0)] cv4 Qj (B_spec_l05Words z0):=fun z0 _ s=>by cases s <;> kernel_rfl
 have e:∀ z0,EntryIs ctx PP 114 [] [(129,Pj z0)] cv6 cv4 Qj (fun k a=>Rj z0 k a):=fun z0 _ a=>by kernel_rfl
 fn_ok (hc Jq hl_nil) Tryz.func114 (fun s s' h=>by cases s;cases s';cases h;rfl) (fun _=>rfl) (fun _ _=>rfl) (b spec_l05Word) (e spec_l05Word) gas
noncomputable def AZ {γ:Type} (F:NY):Hd ctx γ:=hdl cv6.dec (fun a=>F a) cv4.enc
abbrev BZ:=Option (List Int)
noncomputable def Sj  : Option (List Int):=
 some [1116352408,1899447441,3049323471,3921009573,961987163,1508970993,2453635748,2870763221,3624381080,310598401,607225278,1426881987,1925078388,2162078206,2614888103,3248222580,3835390401,4022224774,264347078,604807628,770255983,1249150122,1555081692,1996064986,2554220882,2821834349,2952996808,3210313671,3336571891,3584528711,113926993,338241895,666307205,773529912,1294757372,1396182291,1695183700,1986661051,2177026350,2456956037,2730485921,2820302411,3259730800,3345764771,3516065817,3600352804,4094571909,275423344,430227734,506948616,659060556,883997877,958139571,1322822218,1537002063,1747873779,1955562222,2024104815,2227730452,2361852424,2428436474,2756734187,3204031479,3329325298]
noncomputable def spec_l05K:BZ:=Sj
theorem Tj:Tells ctx PP 115 cv3 cv4 (fun _=>spec_l05K):=fn_ok0 hl_nil Tryz.func115 (fun _=>by kernel_rfl:EntryIs0 ctx PP 115 [] [] cv3 cv4 fun _=>Sj)
noncomputable def Xc {γ:Type} (F:BZ):Hd ctx γ:=hdl cv3.dec (fun _=>F) cv4.enc
abbrev Fg:=Int→Int→Int→Option Int
noncomputable def E_spec_l05Right (x_0:Int) (low_1:Int) (high_2:Int):Option Int:=
 bif (!(low_1 == 0)) then
 bif (!(low_1 == 0)) then
 some (w32 ((w32 (x_0.tdiv low_1))+(w32 ((x_0.tmod low_1)*high_2))))
 else none
 else none
noncomputable def spec_l05Right:Fg:=E_spec_l05Right
theorem Kq:Tells ctx PP 133 cv11 cv10 (fun a=>spec_l05Right a.1 a.2.1 a.2.2):=fn_ok0 hl_nil Tryz.func133 (fun a=>by kernel_rfl:EntryIs0 ctx PP 133 [] [] cv11 cv10 fun a=>E_spec_l05Right a.1 a.2.1 a.2.2)
noncomputable def Nq {γ:Type} (F:Fg):Hd ctx γ:=hdl cv11.dec (fun a=>F a.1 a.2.1 a.2.2) cv10.enc
abbrev Yc:=Int→Int→Int→Int→Bool→Option Int
noncomputable def E_spec_l05S (z0:Fg) (x_0:Int) (a_1:Int) (b_2:Int) (c_3:Int) (last_4:Bool):Option Int:=
 bif (!(a_1 == 0)) then
 (z0 x_0 a_1 (w32 ((w32 ((2147483648:Int).tdiv a_1))*2))).bind fun r0=>
 bif (!(b_2 == 0)) then
 (z0 x_0 b_2 (w32 ((w32 ((2147483648:Int).tdiv b_2))*2))).bind fun r1=>
 bif (!(c_3 == 0)) then
 bif (!last_4) then
 bif (!(c_3 == 0)) then
 (z0 x_0 c_3 (w32 ((w32 ((2147483648:Int).tdiv c_3))*2))).bind fun r2=>
 some (w32 (((BitVec.toNat ((BitVec.ofInt (IntKind.bits IntKind.u32) (w32 (((BitVec.toNat ((BitVec.ofInt (IntKind.bits IntKind.u32) r0) ^^^ (BitVec.ofInt (IntKind.bits IntKind.u32) r1))):Nat):Int))) ^^^ (BitVec.ofInt (IntKind.bits IntKind.u32) r2))):Nat):Int))
 else none
 else
 some (w32 (((BitVec.toNat ((BitVec.ofInt (IntKind.bits IntKind.u32) (w32 (((BitVec.toNat ((BitVec.ofInt (IntKind.bits IntKind.u32) r0) ^^^ (BitVec.ofInt (IntKind.bits IntKind.u32) r1))):Nat):Int))) ^^^ (BitVec.ofInt (IntKind.bits IntKind.u32) (w32 (x_0.tdiv c_3))))):Nat):Int))
 else none
 else none
 else none
noncomputable def spec_l05S:Yc:=E_spec_l05S spec_l05Right
theorem Oq:Tells ctx PP 130 cv12 cv10 (fun a=>spec_l05S a.1 a.2.1 a.2.2.1 a.2.2.2.1 a.2.2.2.2):=fn_ok0 (hc Kq hl_nil) Tryz.func130 ((fun z0 a=>by kernel_rfl:∀ z0,EntryIs0 ctx PP 130 [] [(133,Nq z0)] cv12 cv10 fun a=>E_spec_l05S z0 a.1 a.2.1 a.2.2.1 a.2.2.2.1 a.2.2.2.2) spec_l05Right)
noncomputable def Uj {γ:Type} (F:Yc):Hd ctx γ:=hdl cv12.dec (fun a=>F a.1 a.2.1 a.2.2.1 a.2.2.2.1 a.2.2.2.2) cv10.enc
abbrev CZ:=(List Int)→(List Int)→ByteArray→Option (List Int)
inductive QZ where
 | c0 (t_0:(List Int)) (o_1:(List Int)) (v_8:Int) (v_7:(List Int))
 | c1 (t_0:(List Int)) (o_1:(List Int)) (v_10:Int) (v_7:(List Int)) (v_9:(List Int))
 | c2 (t_0:(List Int)) (o_1:(List Int)) (v_10:Int) (v_13:Int) (v_15:Int) (v_16:Int) (v_7:(List Int)) (v_9:(List Int))
 | c3 (t_0:(List Int)) (v_18:Int) (v_9:(List Int)) (v_17:(List Int))
noncomputable def Vj:QZ→LI
 | .c0 t_0 o_1 v_8 v_7=>(tdo Tryz.f116 464,[(0,[.one (.rsl 92 t_0)]),(1,[.one (.rsl 92 o_1)]),(7,[.one (.own 496)]),(8,[.one (.int .i64 v_8)])],[(496,.sl 92 v_7)])
 | .c1 t_0 o_1 v_10 v_7 v_9=>(tdo Tryz.f116 2000,[(0,[.one (.rsl 92 t_0)]),(1,[.one (.rsl 92 o_1)]),(7,[.one (.own 496)]),(9,[.one (.own 624)]),(10,[.one (.int .i64 v_10)])],[(496,.sl 92 v_7),(624,.sl 92 v_9)])
 | .c2 t_0 o_1 v_10 v_13 v_15 v_16 v_7 v_9=>(tdo Tryz.f116 8202192,[(0,[.one (.rsl 92 t_0)]),(1,[.one (.rsl 92 o_1)]),(7,[.one (.own 496)]),(9,[.one (.own 624)]),(10,[.one (.int .i64 v_10)]),(13,[.one (.int .u32 v_13)]),(15,[.one (.int .u32 v_15)]),(16,[.one (.int .i64 v_16)])],[(496,.sl 92 v_7),(624,.sl 92 v_9)])
 | .c3 t_0 v_18 v_9 v_17=>(tdo Tryz.f116 8144,[(0,[.one (.rsl 92 t_0)]),(9,[.one (.own 624)]),(17,[.one (.own 1136)]),(18,[.one (.int .i64 v_18)])],[(624,.sl 92 v_9),(1136,.sl 92 v_17)])
noncomputable def E_spec_l05Round (z0:NY) (z1:Yc) (k:QZ→Option (List Int)) (t_0:(List Int)) (o_1:(List Int)) (A_2:ByteArray):Option (List Int):=
 (z0 A_2).bind fun r0=>
 k (.c0 t_0 o_1 16 r0)
noncomputable def B_spec_l05Round (z0:NY) (z1:Yc) (k:QZ→Option (List Int)):QZ→Option (List Int)
 | .c0 t_0 o_1 v_8 v_7=>
 bif (decide (v_8<64)) then
  bif ((decide (0≤(w64 (v_8 - 2)))) && (decide ((w64 (v_8 - 2))<(v_7.length:Int)))) then
  (z1 (v_7.getD (w64 (v_8 - 2)).toNat 0) 131072 524288 1024 true).bind fun r0=>
  bif ((decide (0≤(w64 (v_8 - 7)))) && (decide ((w64 (v_8 - 7))<(v_7.length:Int)))) then
  bif ((decide (0≤(w64 (v_8 - 15)))) && (decide ((w64 (v_8 - 15))<(v_7.length:Int)))) then
  (z1 (v_7.getD (w64 (v_8 - 15)).toNat 0) 128 262144 8 true).bind fun r1=>
  bif ((decide (0≤(w64 (v_8 - 16)))) && (decide ((w64 (v_8 - 16))<(v_7.length:Int)))) then
  bif (decide (((v_7.length+1)*4)≤140737488355328)) then
  k (.c0 t_0 o_1 (w64 (v_8+1)) (v_7++[(w32 ((w32 ((w32 (r0+(v_7.getD (w64 (v_8 - 7)).toNat 0)))+r1))+(v_7.getD (w64 (v_8 - 16)).toNat 0)))]))
  else none
  else none
  else none
  else none
  else none
 else
  bif (decide (((0+t_0.length)*4)≤140737488355328)) then
  k (.c1 t_0 o_1 0 v_7 ([]++t_0))
  else none
 | .c1 t_0 o_1 v_10 v_7 v_9=>
 bif (decide (v_10<64)) then
  bif ((decide ((0:Int)≤(4:Int))) && (decide (4<(v_9.length:Int)))) then
  bif ((decide ((0:Int)≤(5:Int))) && (decide (5<(v_9.length:Int)))) then
  bif ((decide ((0:Int)≤(6:Int))) && (decide (6<(v_9.length:Int)))) then
  bif ((decide ((0:Int)≤(7:Int))) && (decide (7<(v_9.length:Int)))) then
  (z1 (v_9.getD (4:Int).toNat 0) 64 2048 33554432 false).bind fun r0=>
  bif ((decide (0≤v_10)) && (decide (v_10<(o_1.length:Int)))) then
  bif ((decide (0≤v_10)) && (decide (v_10<(v_7.length:Int)))) then
  bif ((decide ((0:Int)≤(0:Int))) && (decide (0<(v_9.length:Int)))) then
  bif ((decide ((0:Int)≤(1:Int))) && (decide (1<(v_9.length:Int)))) then
  bif ((decide ((0:Int)≤(0:Int))) && (decide (0<(v_9.length:Int)))) then
  bif ((decide ((0:Int)≤(2:Int))) && (decide (2<(v_9.length:Int)))) then
  bif ((decide ((0:Int)≤(1:Int))) && (decide (1<(v_9.length:Int)))) then
  bif ((decide ((0:Int)≤(2:Int))) && (decide (2<(v_9.length:Int)))) then
  bif ((decide ((0:Int)≤(0:Int))) && (decide (0<(v_9.length:Int)))) then
  (z1 (v_9.getD (0:Int).toNat 0) 4 8192 4194304 false).bind fun r1=>
  k (.c2 t_0 o_1 v_10 (w32 ((w32 ((w32 ((w32 ((v_9.getD (7:Int).toNat 0)+r0))+(w32 (((BitVec.toNat ((BitVec.ofInt (IntKind.bits IntKind.u32) (w32 (((BitVec.toNat ((BitVec.ofInt (IntKind.bits IntKind.u32) (v_9.getD (4:Int).toNat 0)) &&& (BitVec.ofInt (IntKind.bits IntKind.u32) (v_9.getD (5:Int).toNat 0)))):Nat):Int))) ^^^ (BitVec.ofInt (IntKind.bits IntKind.u32) (w32 (((BitVec.toNat ((BitVec.ofInt (IntKind.bits IntKind.u32) (w32 (4294967295 - (v_9.getD (4:Int).toNat 0)))) &&& (BitVec.ofInt (IntKind.bits IntKind.u32) (v_9.getD (6:Int).toNat 0)))):Nat):Int))))):Nat):Int))))+(o_1.getD v_10.toNat 0)))+(v_7.getD v_10.toNat 0))) (w32 (r1+(w32 (((BitVec.toNat ((BitVec.ofInt (IntKind.bits IntKind.u32) (w32 (((BitVec.toNat ((BitVec.ofInt (IntKind.bits IntKind.u32) (w32 (((BitVec.toNat ((BitVec.ofInt (IntKind.bits IntKind.u32) (v_9.getD (0:Int).toNat 0)) &&& (BitVec.ofInt (IntKind.bits IntKind.u32) (v_9.getD (1:Int).toNat 0)))):Nat):Int))) ^^^ (BitVec.ofInt (IntKind.bits IntKind.u32) (w32 (((BitVec.toNat ((BitVec.ofInt (IntKind.bits IntKind.u32) (v_9.getD (0:Int).toNat 0)) &&& (BitVec.ofInt (IntKind.bits IntKind.u32) (v_9.getD (2:Int).toNat 0)))):Nat):Int))))):Nat):Int))) ^^^ (BitVec.ofInt (IntKind.bits IntKind.u32) (w32 (((BitVec.toNat ((BitVec.ofInt (IntKind.bits IntKind.u32) (v_9.getD (1:Int).toNat 0)) &&& (BitVec.ofInt (IntKind.bits IntKind.u32) (v_9.getD (2:Int).toNat 0)))):Nat):Int))))):Nat):Int)))) 7 v_7 v_9)
  else none
  else none
  else none
  else none
  else none
  else none
  else none
  else none
  else none
  else none
  else none
  else none
  else none
 else
  k (.c3 t_0 0 v_9 [])
 | .c2 t_0 o_1 v_10 v_13 v_15 v_16 v_7 v_9=>
 bif (decide (v_16 > 0)) then
  bif ((decide (0≤(w64 (v_16 - 1)))) && (decide ((w64 (v_16 - 1))<(v_9.length:Int)))) then
  bif ((decide (0≤v_16)) && (decide (v_16<(v_9.length:Int)))) then
  k (.c2 t_0 o_1 v_10 v_13 v_15 (w64 (v_16 - 1)) v_7 (v_9.set v_16.toNat (v_9.getD (w64 (v_16 - 1)).toNat 0)))
  else none
  else none
 else
  bif ((decide ((0:Int)≤(4:Int))) && (decide (4<(v_9.length:Int)))) then
  bif ((decide ((0:Int)≤(4:Int))) && (decide (4<(v_9.length:Int)))) then
  bif ((decide ((0:Int)≤(0:Int))) && (decide (0<((v_9.set (4:Int).toNat (w32 ((v_9.getD (4:Int).toNat 0)+v_13))).length:Int)))) then
  k (.c1 t_0 o_1 (w64 (v_10+1)) v_7 ((v_9.set (4:Int).toNat (w32 ((v_9.getD (4:Int).toNat 0)+v_13))).set (0:Int).toNat (w32 (v_13+v_15))))
  else none
  else none
  else none
 | .c3 t_0 v_18 v_9 v_17=>
 bif (decide (v_18<8)) then
  bif ((decide (0≤v_18)) && (decide (v_18<(t_0.length:Int)))) then
  bif ((decide (0≤v_18)) && (decide (v_18<(v_9.length:Int)))) then
  bif (decide (((v_17.length+1)*4)≤140737488355328)) then
  k (.c3 t_0 (w64 (v_18+1)) v_9 (v_17++[(w32 ((t_0.getD v_18.toNat 0)+(v_9.getD v_18.toNat 0)))]))
  else none
  else none
  else none
 else
  some v_17
noncomputable def L_spec_l05Round:Nat→QZ→Option (List Int)
 | 0,_=>none
 | m+1,s=>B_spec_l05Round spec_l05Words spec_l05S (L_spec_l05Round m) s
noncomputable def spec_l05Round:CZ:=E_spec_l05Round spec_l05Words spec_l05S (L_spec_l05Round gas)
theorem Wj:Tells ctx PP 116 cv13 cv4 (fun a=>spec_l05Round a.1 a.2.1 a.2.2):=
 have b:∀ z0 z1,CutIs ctx PP 116 Tryz.f116 [] [(114,AZ z0),(130,Uj z1)] cv4 Vj (B_spec_l05Round z0 z1):=fun z0 z1 _ s=>by cases s <;> kernel_rfl
 have e:∀ z0 z1,EntryIs ctx PP 116 [] [(114,AZ z0),(130,Uj z1)] cv13 cv4 Vj (fun k a=>E_spec_l05Round z0 z1 k a.1 a.2.1 a.2.2):=fun z0 z1 _ a=>by kernel_rfl
 fn_ok (hc Bg (hc Oq hl_nil)) Tryz.func116 (fun s s' h=>by cases s <;> cases s' <;> first | (cases h;done) | (cases h;rfl) | exact (rg_ne h (by kernel_rfl)).elim) (fun _=>rfl) (fun _ _=>rfl) (b spec_l05Words spec_l05S) (e spec_l05Words spec_l05S) gas
noncomputable def Ad {γ:Type} (F:CZ):Hd ctx γ:=hdl cv13.dec (fun a=>F a.1 a.2.1 a.2.2) cv4.enc
abbrev Gg:=SHasher→ByteArray→Option SHasher
inductive RZ where
 | c0 (s_1:ByteArray) (buf_7:ByteArray) (at_8:Int) (h_2:SHasher) (v_4:SHasher) (state_5:(List Int)) (k_6:(List Int))
noncomputable def Xj:RZ→LI
 | .c0 s_1 buf_7 at_8 h_2 v_4 state_5 k_6=>(tdo Tryz.f82 4064,[(1,[.one (.str s_1)]),(2,[.one (.ptr 128 0)]),(4,[.one (.ptr 256 0)]),(5,[.one (.own 368)]),(6,[.one (.own 432)]),(7,[.one (.str buf_7)]),(8,[.one (.int .i64 at_8)])],[(128,.var [.str h_2.fState,.str h_2.fRest,.int .i64 h_2.fCount]),(256,.var [.str v_4.fState,.str v_4.fRest,.int .i64 v_4.fCount]),(368,.sl 92 state_5),(432,.sl 92 k_6)])
noncomputable def E_spec_HashMore (z0:ZY) (z1:NY) (z2:BZ) (z3:CZ) (z4:RY) (k:RZ→Option SHasher) (h_0:SHasher) (s_1:ByteArray):Option SHasher:=
 (z0 h_0).bind fun r0=>
 bif (!r0) then
 some h_0
 else
 bif (decide ((w64 (h_0.fCount+(s_1.size:Int))) > 1000000000)) then
  some h_0
 else
  (z1 h_0.fState).bind fun r1=>
  z2.bind fun r2=>
  bif (decide ((h_0.fRest.size+s_1.size)≤9223372036854775807)) then
  k (.c0 s_1 (h_0.fRest++s_1) 0 h_0 ⟨⟨#[]⟩,⟨#[]⟩,0⟩ r1 r2)
  else none
noncomputable def B_spec_HashMore (z0:ZY) (z1:NY) (z2:BZ) (z3:CZ) (z4:RY) (k:RZ→Option SHasher):RZ→Option SHasher
 | .c0 s_1 buf_7 at_8 h_2 v_4 state_5 k_6=>
 bif (decide ((w64 (at_8+64))≤(buf_7.size:Int))) then
  bif (((decide (0≤at_8)) && (decide (at_8≤(w64 (at_8+64))))) && (decide ((w64 (at_8+64))≤(buf_7.size:Int)))) then
  (z3 state_5 k_6 (buf_7.extract at_8.toNat (w64 (at_8+64)).toNat)).bind fun r0=>
  k (.c0 s_1 buf_7 (w64 (at_8+64)) h_2 v_4 r0 k_6)
  else none
 else
  (z4 state_5).bind fun r1=>
  bif ((decide (0≤at_8)) && (decide (at_8≤(buf_7.size:Int)))) then
  some ⟨r1,(buf_7.extract at_8.toNat buf_7.size),(w64 (h_2.fCount+(s_1.size:Int)))⟩
  else none
noncomputable def L_spec_HashMore:Nat→RZ→Option SHasher
 | 0,_=>none
 | m+1,s=>B_spec_HashMore spec_HasherOk spec_l05Words spec_l05K spec_l05Round spec_l05Bytes (L_spec_HashMore m) s
noncomputable def spec_HashMore:Gg:=E_spec_HashMore spec_HasherOk spec_l05Words spec_l05K spec_l05Round spec_l05Bytes (L_spec_HashMore gas)
theorem Pq:Tells ctx PP 82 cv14 cv7 (fun a=>spec_HashMore a.1 a.2):=
 have b:∀ z0 z1 z2 z3 z4,CutIs ctx PP 82 Tryz.f82 [] [(113,Tc z0),(114,AZ z1),(115,Xc z2),(116,Ad z3),(117,OZ z4)] cv7 Xj (B_spec_HashMore z0 z1 z2 z3 z4):=fun z0 z1 z2 z3 z4 _ s=>by cases s <;> kernel_rfl
 have e:∀ z0 z1 z2 z3 z4,EntryIs ctx PP 82 [] [(113,Tc z0),(114,AZ z1),(115,Xc z2),(116,Ad z3),(117,OZ z4)] cv14 cv7 Xj (fun k a=>E_spec_HashMore z0 z1 z2 z3 z4 k a.1 a.2):=fun z0 z1 z2 z3 z4 _ a=>by kernel_rfl
 fn_ok (hc Oj (hc Bg (hc Tj (hc Wj (hc Zf hl_nil))))) Tryz.func82 (fun s s' h=>by cases s;cases s';(repeat cases ‹SHasher›);cases h;rfl) (fun _=>rfl) (fun _ _=>rfl) (b spec_HasherOk spec_l05Words spec_l05K spec_l05Round spec_l05Bytes) (e spec_HasherOk spec_l05Words spec_l05K spec_l05Round spec_l05Bytes) gas
noncomputable def Qq {γ:Type} (F:Gg):Hd ctx γ:=hdl cv14.dec (fun a=>F a.1 a.2) cv7.enc
abbrev Hg:=SHasher→Option ByteArray
inductive UZ where
 | c0 (h_1:SHasher) (tail_3:(List Int))
 | c1 (bits_4:Int) (i_5:Int) (h_1:SHasher) (tail_3:(List Int))
 | c2 (bits_4:Int) (i_5:Int) (x_6:Int) (k_7:Int) (h_1:SHasher) (tail_3:(List Int))
 | c3 (at_10:Int) (tail_3:(List Int)) (state_8:(List Int)) (k_9:(List Int))
noncomputable def Yj:UZ→LI
 | .c0 h_1 tail_3=>(tdo Tryz.f81 992,[(1,[.one (.ptr 64 0)]),(3,[.one (.own 240)])],[(64,.var [.str h_1.fState,.str h_1.fRest,.int .i64 h_1.fCount]),(240,.sl 5 tail_3)])
 | .c1 bits_4 i_5 h_1 tail_3=>(tdo Tryz.f81 8144,[(1,[.one (.ptr 64 0)]),(3,[.one (.own 240)]),(4,[.one (.int .i64 bits_4)]),(5,[.one (.int .i64 i_5)])],[(64,.var [.str h_1.fState,.str h_1.fRest,.int .i64 h_1.fCount]),(240,.sl 5 tail_3)])
 | .c2 bits_4 i_5 x_6 k_7 h_1 tail_3=>(tdo Tryz.f81 2085456,[(1,[.one (.ptr 64 0)]),(3,[.one (.own 240)]),(4,[.one (.int .i64 bits_4)]),(5,[.one (.int .i64 i_5)]),(6,[.one (.int .i64 x_6)]),(7,[.one (.int .i64 k_7)])],[(64,.var [.str h_1.fState,.str h_1.fRest,.int .i64 h_1.fCount]),(240,.sl 5 tail_3)])
 | .c3 at_10 tail_3 state_8 k_9=>(tdo Tryz.f81 65488,[(3,[.one (.own 240)]),(8,[.one (.own 560)]),(9,[.one (.own 624)]),(10,[.one (.int .i64 at_10)])],[(240,.sl 5 tail_3),(560,.sl 92 state_8),(624,.sl 92 k_9)])
noncomputable def E_spec_HashEnd (z0:ZY) (z1:NY) (z2:BZ) (z3:CZ) (z4:RY) (k:UZ→Option ByteArray) (h_0:SHasher):Option ByteArray:=
 (z0 h_0).bind fun r0=>
 bif (!r0) then
 some ⟨#[]⟩
 else
 bif (decide (h_0.fRest.size≤9223372036854775807)) then
 bif (decide ((((bytesOf h_0.fRest).length+1)*1)≤140737488355328)) then
 k (.c0 h_0 ((bytesOf h_0.fRest)++[(128:Int)]))
 else none
 else none
noncomputable def B_spec_HashEnd (z0:ZY) (z1:NY) (z2:BZ) (z3:CZ) (z4:RY) (k:UZ→Option ByteArray):UZ→Option ByteArray
 | .c0 h_1 tail_3=>
 bif (((tail_3.length:Int).tmod 64) != 56) then
  bif (decide (((tail_3.length+1)*1)≤140737488355328)) then
  k (.c0 h_1 (tail_3++[(0:Int)]))
  else none
 else
  k (.c1 (w64 (8*h_1.fCount)) 7 h_1 tail_3)
 | .c1 bits_4 i_5 h_1 tail_3=>
 bif (decide (i_5≥0)) then
  k (.c2 bits_4 i_5 bits_4 0 h_1 tail_3)
 else
  (z1 h_1.fState).bind fun r0=>
  z2.bind fun r1=>
  k (.c3 0 tail_3 r0 r1)
 | .c2 bits_4 i_5 x_6 k_7 h_1 tail_3=>
 bif (decide (k_7<i_5)) then
  k (.c2 bits_4 i_5 (w64 (x_6.tdiv 256)) (w64 (k_7+1)) h_1 tail_3)
 else
  bif (decide (((tail_3.length+1)*1)≤140737488355328)) then
  k (.c1 bits_4 (w64 (i_5 - 1)) h_1 (tail_3++[(w8 (x_6.tmod 256))]))
  else none
 | .c3 at_10 tail_3 state_8 k_9=>
 bif (decide (at_10<(tail_3.length:Int))) then
  bif (((decide (0≤at_10)) && (decide (at_10≤(w64 (at_10+64))))) && (decide ((w64 (at_10+64))≤(tail_3.length:Int)))) then
  (z3 state_8 k_9 (ofBytes ((tail_3.drop at_10.toNat).take ((w64 (at_10+64)).toNat - at_10.toNat)))).bind fun r0=>
  k (.c3 (w64 (at_10+64)) tail_3 r0 k_9)
  else none
 else
  (z4 state_8).bind fun r1=>
  some r1
noncomputable def L_spec_HashEnd:Nat→UZ→Option ByteArray
 | 0,_=>none
 | m+1,s=>B_spec_HashEnd spec_HasherOk spec_l05Words spec_l05K spec_l05Round spec_l05Bytes (L_spec_HashEnd m) s
noncomputable def spec_HashEnd:Hg:=E_spec_HashEnd spec_HasherOk spec_l05Words spec_l05K spec_l05Round spec_l05Bytes (L_spec_HashEnd gas)
theorem Rq:Tells ctx PP 81 cv7 cv6 (fun a=>spec_HashEnd a):=
 have b:∀ z0 z1 z2 z3 z4,CutIs ctx PP 81 Tryz.f81 [] [(113,Tc z0),(114,AZ z1),(115,Xc z2),(116,Ad z3),(117,OZ z4)] cv6 Yj (B_spec_HashEnd z0 z1 z2 z3 z4):=fun z0 z1 z2 z3 z4 _ s=>by cases s <;> kernel_rfl
 have e:∀ z0 z1 z2 z3 z4,EntryIs ctx PP 81 [] [(113,Tc z0),(114,AZ z1),(115,Xc z2),(116,Ad z3),(117,OZ z4)] cv7 cv6 Yj (fun k a=>E_spec_HashEnd z0 z1 z2 z3 z4 k a):=fun z0 z1 z2 z3 z4 _ a=>by kernel_rfl
 fn_ok (hc Oj (hc Bg (hc Tj (hc Wj (hc Zf hl_nil))))) Tryz.func81 (fun s s' h=>by cases s <;> cases s' <;> first | ((repeat cases ‹SHasher›);cases h;done) | ((repeat cases ‹SHasher›);cases h;rfl) | exact (rg_ne h (by kernel_rfl)).elim) (fun _=>rfl) (fun _ _=>rfl) (b spec_HasherOk spec_l05Words spec_l05K spec_l05Round spec_l05Bytes) (e spec_HasherOk spec_l05Words spec_l05K spec_l05Round spec_l05Bytes) gas
noncomputable def Tq {γ:Type} (F:Hg):Hd ctx γ:=hdl cv7.dec (fun a=>F a) cv6.enc
abbrev TT:=ByteArray→Option ByteArray
noncomputable def E_spec_DigestOf (z0:Ag) (z1:Gg) (z2:Hg) (s_0:ByteArray):Option ByteArray:=
 z0.bind fun r0=>
 (z1 r0 s_0).bind fun r1=>
 (z2 r1).bind fun r2=>
 some r2
noncomputable def spec_DigestOf:TT:=E_spec_DigestOf spec_HasherNew spec_HashMore spec_HashEnd
theorem DZ:Tells ctx PP 42 cv6 cv6 (fun a=>spec_DigestOf a):=fn_ok0 (hc Hq (hc Pq (hc Rq hl_nil))) Tryz.func42 ((fun z0 z1 z2 a=>by kernel_rfl:∀ z0 z1 z2,EntryIs0 ctx PP 42 [] [(83,Iq z0),(82,Qq z1),(81,Tq z2)] cv6 cv6 fun a=>E_spec_DigestOf z0 z1 z2 a) spec_HasherNew spec_HashMore spec_HashEnd)
noncomputable def OY {γ:Type} (F:TT):Hd ctx γ:=hdl cv6.dec (fun a=>F a) cv6.enc
abbrev Ig:=Int→Int→Option ByteArray
inductive VZ where
 | c0 (n_0:Int) (x_1:Int) (i_6:Int) (out_5:(List Int))
noncomputable def Zj:VZ→LI
 | .c0 n_0 x_1 i_6 out_5=>(tdo Tryz.f43 464,[(0,[.one (.int .i64 n_0)]),(1,[.one (.int .u8 x_1)]),(5,[.one (.own 368)]),(6,[.one (.int .i64 i_6)])],[(368,.sl 5 out_5)])
noncomputable def E_spec_l01Long (k:VZ→Option ByteArray) (n_0:Int) (x_1:Int):Option ByteArray:=
 bif ((((decide (0≤n_0)) && (decide (n_0≤n_0))) && (decide (n_0≤9223372036854775807))) && (decide ((n_0.toNat*1)≤140737488355328))) then
 k (.c0 n_0 x_1 0 (List.replicate n_0.toNat (0:Int)))
 else none
noncomputable def B_spec_l01Long (k:VZ→Option ByteArray):VZ→Option ByteArray
 | .c0 n_0 x_1 i_6 out_5=>
 bif (decide (i_6<n_0)) then
  bif ((decide (0≤i_6)) && (decide (i_6<(out_5.length:Int)))) then
  k (.c0 n_0 x_1 (w64 (i_6+1)) (out_5.set i_6.toNat x_1))
  else none
 else
  some (ofBytes out_5)
noncomputable def L_spec_l01Long:Nat→VZ→Option ByteArray
 | 0,_=>none
 | m+1,s=>B_spec_l01Long (L_spec_l01Long m) s
noncomputable def spec_l01Long:Ig:=E_spec_l01Long (L_spec_l01Long gas)
theorem Vq:Tells ctx PP 43 cv15 cv6 (fun a=>spec_l01Long a.1 a.2):=
 have b:CutIs ctx PP 43 Tryz.f43 [] [] cv6 Zj (B_spec_l01Long):=fun _ s=>by cases s <;> kernel_rfl
 have e:EntryIs ctx PP 43 [] [] cv15 cv6 Zj (fun k a=>E_spec_l01Long k a.1 a.2):=fun _ a=>by kernel_rfl
 fn_ok hl_nil Tryz.func43 (fun s s' h=>by cases s;cases s';cases h;rfl) (fun _=>rfl) (fun _ _=>rfl) b e gas
noncomputable def Wq {γ:Type} (F:Ig):Hd ctx γ:=hdl cv15.dec (fun a=>F a.1 a.2) cv6.enc
abbrev Bd:=Option SBook
noncomputable def E_spec_BookNew (z0:TT) (z1:Ig)  : Option SBook:=
 (z0 ⟨#[]⟩).bind fun r0=>
 (z1 32 0).bind fun r1=>
 some ⟨r0,0,[],0,r1,0⟩
noncomputable def spec_BookNew:Bd:=E_spec_BookNew spec_DigestOf spec_l01Long
theorem Xq:Tells ctx PP 15 cv3 cv16 (fun _=>spec_BookNew):=fn_ok0 (hc DZ (hc Vq hl_nil)) Tryz.func15 ((fun z0 z1 _=>by kernel_rfl:∀ z0 z1,EntryIs0 ctx PP 15 [] [(42,OY z0),(43,Wq z1)] cv3 cv16 fun _=>E_spec_BookNew z0 z1) spec_DigestOf spec_l01Long)
noncomputable def Ak {γ:Type} (F:Bd):Hd ctx γ:=hdl cv3.dec (fun _=>F) cv16.enc
abbrev SY:=SL01Cur→Option (Int×SL01Cur)
noncomputable def E_spec_l01Byte (c_0:SL01Cur):Option (Int×SL01Cur):=
 bif (decide (c_0.fI<(codeL.length:Int))) then
 bif ((decide (0≤c_0.fI)) && (decide (c_0.fI<(codeL.length:Int)))) then
 bif (Nat.blt c_0.fI.toNat codeL.length) then
 some ((w64 (((BitVec.toNat ((BitVec.ofInt (IntKind.bits IntKind.i64) (w64 ((w64 (((BitVec.toNat ((BitVec.ofInt (IntKind.bits IntKind.i64) (w64 (((BitVec.toNat ((BitVec.ofInt (IntKind.bits IntKind.i64) (Int.fdiv (w64 ((w64 (c_0.fH*6364136223846793005))+1442695040888963407)) (2 ^ (Min.min (33:Int).toNat (IntKind.bits IntKind.i64))))) ^^^ (BitVec.ofInt (IntKind.bits IntKind.i64) (Int.fdiv (w64 ((w64 (c_0.fH*6364136223846793005))+1442695040888963407)) (2 ^ (Min.min (45:Int).toNat (IntKind.bits IntKind.i64))))))):Nat):Int))) &&& (BitVec.ofInt (IntKind.bits IntKind.i64) 255))):Nat):Int))+(w64 (codeL.getD c_0.fI.toNat 0))))) &&& (BitVec.ofInt (IntKind.bits IntKind.i64) 255))):Nat):Int)),⟨(),(w64 (c_0.fI+1)),(w64 ((w64 (c_0.fH*6364136223846793005))+1442695040888963407))⟩)
 else none
 else none
 else
 some ((w64 (((BitVec.toNat ((BitVec.ofInt (IntKind.bits IntKind.i64) (w64 (((BitVec.toNat ((BitVec.ofInt (IntKind.bits IntKind.i64) (Int.fdiv (w64 ((w64 (c_0.fH*6364136223846793005))+1442695040888963407)) (2 ^ (Min.min (33:Int).toNat (IntKind.bits IntKind.i64))))) ^^^ (BitVec.ofInt (IntKind.bits IntKind.i64) (Int.fdiv (w64 ((w64 (c_0.fH*6364136223846793005))+1442695040888963407)) (2 ^ (Min.min (45:Int).toNat (IntKind.bits IntKind.i64))))))):Nat):Int))) &&& (BitVec.ofInt (IntKind.bits IntKind.i64) 255))):Nat):Int)),⟨(),c_0.fI,(w64 ((w64 (c_0.fH*6364136223846793005))+1442695040888963407))⟩)
noncomputable def spec_l01Byte:SY:=E_spec_l01Byte
theorem Jg:Tells ctx PP 31 cv17 cv18 (fun a=>spec_l01Byte a):=fn_ok0 hl_nil Tryz.func31 (fun a=>by kernel_rfl:EntryIs0 ctx PP 31 [0] [] cv17 cv18 fun a=>E_spec_l01Byte a)
noncomputable def WZ {γ:Type} (F:SY):Hd ctx γ:=hdl cv17.dec (fun a=>F a) cv18.enc
abbrev FN:=SL01Cur→Int→Option (Int×SL01Cur)
noncomputable def E_spec_l01Below (z0:SY) (c_0:SL01Cur) (n_1:Int):Option (Int×SL01Cur):=
 bif (decide (n_1≤0)) then
 some (0,⟨(),c_0.fI,c_0.fH⟩)
 else
 bif (decide (n_1≤256)) then
  (z0 ⟨(),c_0.fI,c_0.fH⟩).bind fun r0=>
  bif (!(n_1 == 0)) then
  some ((r0.1.tmod n_1),⟨(),r0.2.fI,r0.2.fH⟩)
  else none
 else
  (z0 ⟨(),c_0.fI,c_0.fH⟩).bind fun r1=>
  (z0 ⟨(),r1.2.fI,r1.2.fH⟩).bind fun r2=>
  (z0 ⟨(),r2.2.fI,r2.2.fH⟩).bind fun r3=>
  (z0 ⟨(),r3.2.fI,r3.2.fH⟩).bind fun r4=>
  bif (!(n_1 == 0)) then
  some (((w64 ((w64 ((w64 ((w64 (r1.1*16777216))+(w64 (r2.1*65536))))+(w64 (r3.1*256))))+r4.1)).tmod n_1),⟨(),r4.2.fI,r4.2.fH⟩)
  else none
noncomputable def spec_l01Below:FN:=E_spec_l01Below spec_l01Byte
theorem TY:Tells ctx PP 32 cv19 cv18 (fun a=>spec_l01Below a.1 a.2):=fn_ok0 (hc Jg hl_nil) Tryz.func32 ((fun z0 a=>by kernel_rfl:∀ z0,EntryIs0 ctx PP 32 [0] [(31,WZ z0)] cv19 cv18 fun a=>E_spec_l01Below z0 a.1 a.2) spec_l01Byte)
noncomputable def JY {γ:Type} (F:FN):Hd ctx γ:=hdl cv19.dec (fun a=>F a.1 a.2) cv18.enc
abbrev Og:=SL01Cur→(List Int)→Option (Int×SL01Cur)
noncomputable def E_spec_l01PickInt (z0:FN) (c_0:SL01Cur) (list_1:(List Int)):Option (Int×SL01Cur):=
 (z0 ⟨(),c_0.fI,c_0.fH⟩ (list_1.length:Int)).bind fun r0=>
 bif ((decide (0≤r0.1)) && (decide (r0.1<(list_1.length:Int)))) then
 some ((list_1.getD r0.1.toNat 0),⟨(),r0.2.fI,r0.2.fH⟩)
 else none
noncomputable def spec_l01PickInt:Og:=E_spec_l01PickInt spec_l01Below
theorem Yq:Tells ctx PP 90 cv20 cv18 (fun a=>spec_l01PickInt a.1 a.2):=fn_ok0 (hc TY hl_nil) Tryz.func90 ((fun z0 a=>by kernel_rfl:∀ z0,EntryIs0 ctx PP 90 [0] [(32,JY z0)] cv20 cv18 fun a=>E_spec_l01PickInt z0 a.1 a.2) spec_l01Below)
noncomputable def Zq {γ:Type} (F:Og):Hd ctx γ:=hdl cv20.dec (fun a=>F a.1 a.2) cv18.enc
abbrev Ed:=SL01Cur→(List ByteArray)→Option (ByteArray×SL01Cur)
noncomputable def E_spec_l01Pick (z0:FN) (c_0:SL01Cur) (list_1:(List ByteArray)):Option (ByteArray×SL01Cur):=
 (z0 ⟨(),c_0.fI,c_0.fH⟩ (list_1.length:Int)).bind fun r0=>
 bif ((decide (0≤r0.1)) && (decide (r0.1<(list_1.length:Int)))) then
 some ((list_1.getD r0.1.toNat (⟨#[]⟩:ByteArray)),⟨(),r0.2.fI,r0.2.fH⟩)
 else none
noncomputable def spec_l01Pick:Ed:=E_spec_l01Pick spec_l01Below
theorem Ik:Tells ctx PP 91 cv21 cv22 (fun a=>spec_l01Pick a.1 a.2):=fn_ok0 (hc TY hl_nil) Tryz.func91 ((fun z0 a=>by kernel_rfl:∀ z0,EntryIs0 ctx PP 91 [0] [(32,JY z0)] cv21 cv22 fun a=>E_spec_l01Pick z0 a.1 a.2) spec_l01Below)
noncomputable def Jk {γ:Type} (F:Ed):Hd ctx γ:=hdl cv21.dec (fun a=>F a.1 a.2) cv22.enc
abbrev Jd:=SL01Cur→Int→Option (Bool×SL01Cur)
noncomputable def E_spec_l01Once (z0:FN) (c_0:SL01Cur) (n_1:Int):Option (Bool×SL01Cur):=
 (z0 ⟨(),c_0.fI,c_0.fH⟩ n_1).bind fun r0=>
 some ((r0.1 == 0),⟨(),r0.2.fI,r0.2.fH⟩)
noncomputable def spec_l01Once:Jd:=E_spec_l01Once spec_l01Below
theorem Nk:Tells ctx PP 93 cv19 cv23 (fun a=>spec_l01Once a.1 a.2):=fn_ok0 (hc TY hl_nil) Tryz.func93 ((fun z0 a=>by kernel_rfl:∀ z0,EntryIs0 ctx PP 93 [0] [(32,JY z0)] cv19 cv23 fun a=>E_spec_l01Once z0 a.1 a.2) spec_l01Below)
noncomputable def Qk {γ:Type} (F:Jd):Hd ctx γ:=hdl cv19.dec (fun a=>F a.1 a.2) cv23.enc
abbrev Pg:=SL01Cur→Int→Option (ByteArray×SL01Cur)
inductive XZ where
 | c0 (n_1:Int) (i_6:Int) (c_0c1:Int) (c_0c2:Int) (out_5:(List Int))
noncomputable def Rk:XZ→LI
 | .c0 n_1 i_6 c_0c1 c_0c2 out_5=>(tdo Tryz.f122 976,[(0,[.one (.ptr 0 0)]),(1,[.one (.int .i64 n_1)]),(5,[.one (.own 368)]),(6,[.one (.int .i64 i_6)])],[(0,.var [.csl,.int .i64 c_0c1,.int .i64 c_0c2]),(368,.sl 5 out_5)])
noncomputable def E_spec_l01Text (z0:SY) (k:XZ→Option (ByteArray×SL01Cur)) (c_0:SL01Cur) (n_1:Int):Option (ByteArray×SL01Cur):=
 bif (decide (n_1 > 5000)) then
 k (.c0 5000 0 c_0.fI c_0.fH [])
 else
 k (.c0 n_1 0 c_0.fI c_0.fH [])
noncomputable def B_spec_l01Text (z0:SY) (k:XZ→Option (ByteArray×SL01Cur)):XZ→Option (ByteArray×SL01Cur)
 | .c0 n_1 i_6 c_0c1 c_0c2 out_5=>
 bif (decide (i_6<n_1)) then
  (z0 ⟨(),c_0c1,c_0c2⟩).bind fun r0=>
  bif (decide (((out_5.length+1)*1)≤140737488355328)) then
  k (.c0 n_1 (w64 (i_6+1)) r0.2.fI r0.2.fH (out_5++[(w8 r0.1)]))
  else none
 else
  some ((ofBytes out_5),⟨(),c_0c1,c_0c2⟩)
noncomputable def L_spec_l01Text:Nat→XZ→Option (ByteArray×SL01Cur)
 | 0,_=>none
 | m+1,s=>B_spec_l01Text spec_l01Byte (L_spec_l01Text m) s
noncomputable def spec_l01Text:Pg:=E_spec_l01Text spec_l01Byte (L_spec_l01Text gas)
theorem Ar:Tells ctx PP 122 cv19 cv22 (fun a=>spec_l01Text a.1 a.2):=
 have b:∀ z0,CutIs ctx PP 122 Tryz.f122 [0] [(31,WZ z0)] cv22 Rk (B_spec_l01Text z0):=fun z0 _ s=>by cases s <;> kernel_rfl
 have e:∀ z0,EntryIs ctx PP 122 [0] [(31,WZ z0)] cv19 cv22 Rk (fun k a=>E_spec_l01Text z0 k a.1 a.2):=fun z0 _ a=>by kernel_rfl
 fn_ok (hc Jg hl_nil) Tryz.func122 (fun s s' h=>by cases s;cases s';cases h;rfl) (fun _=>rfl) (fun _ _=>rfl) (b spec_l01Byte) (e spec_l01Byte) gas
noncomputable def Hr {γ:Type} (F:Pg):Hd ctx γ:=hdl cv19.dec (fun a=>F a.1 a.2) cv22.enc
abbrev Qg:=SL01Cur→Option (SThing×SL01Cur)
noncomputable def E_spec_l19Thing (z0:FN) (z1:Jd) (z2:Pg) (z3:Ed) (z4:TT) (c_0:SL01Cur):Option (SThing×SL01Cur):=
 (z0 ⟨(),c_0.fI,c_0.fH⟩ 6).bind fun r0=>
 (z0 ⟨(),r0.2.fI,r0.2.fH⟩ 3).bind fun r1=>
 (z1 ⟨(),r1.2.fI,r1.2.fH⟩ 2).bind fun r2=>
 (z1 ⟨(),r2.2.fI,r2.2.fH⟩ 2).bind fun r3=>
 bif ((w64 (1+r1.1)) == 3) then
 (z0 ⟨(),r3.2.fI,r3.2.fH⟩ 9).bind fun r4=>
 (z2 ⟨(),r4.2.fI,r4.2.fH⟩ r4.1).bind fun r5=>
 some (⟨(w64 (1+r0.1)),(w64 (1+r1.1)),r2.1,r3.1,false,false,r5.1,0⟩,⟨(),r5.2.fI,r5.2.fH⟩)
 else
 bif ((w64 (1+r1.1)) == 2) then
  (z0 ⟨(),r3.2.fI,r3.2.fH⟩ 17).bind fun r6=>
  (z1 ⟨(),r6.2.fI,r6.2.fH⟩ 4).bind fun r7=>
  (z3 ⟨(),r7.2.fI,r7.2.fH⟩ [⟨#[97]⟩,⟨#[98]⟩,⟨#[99]⟩]).bind fun r8=>
  (z4 r8.1).bind fun r9=>
  some (⟨(w64 (1+r0.1)),(w64 (1+r1.1)),r2.1,r3.1,(!r7.1),false,r9,r6.1⟩,⟨(),r8.2.fI,r8.2.fH⟩)
 else
  (z1 ⟨(),r3.2.fI,r3.2.fH⟩ 4).bind fun r10=>
  (z3 ⟨(),r10.2.fI,r10.2.fH⟩ [⟨#[97]⟩,⟨#[98]⟩,⟨#[99]⟩]).bind fun r11=>
  (z4 r11.1).bind fun r12=>
  some (⟨(w64 (1+r0.1)),(w64 (1+r1.1)),r2.1,r3.1,false,(!r10.1),r12,0⟩,⟨(),r11.2.fI,r11.2.fH⟩)
noncomputable def spec_l19Thing:Qg:=E_spec_l19Thing spec_l01Below spec_l01Once spec_l01Text spec_l01Pick spec_DigestOf
theorem Ir:Tells ctx PP 92 cv17 cv24 (fun a=>spec_l19Thing a):=fn_ok0 (hc TY (hc Nk (hc Ar (hc Ik (hc DZ hl_nil))))) Tryz.func92 ((fun z0 z1 z2 z3 z4 a=>by kernel_rfl:∀ z0 z1 z2 z3 z4,EntryIs0 ctx PP 92 [0] [(32,JY z0),(93,Qk z1),(122,Hr z2),(91,Jk z3),(42,OY z4)] cv17 cv24 fun a=>E_spec_l19Thing z0 z1 z2 z3 z4 a) spec_l01Below spec_l01Once spec_l01Text spec_l01Pick spec_DigestOf)
noncomputable def Jr {γ:Type} (F:Qg):Hd ctx γ:=hdl cv17.dec (fun a=>F a) cv24.enc
abbrev Ld:=SL01Cur→SBook→Option (SRec×SL01Cur)
noncomputable def E_spec_l21Rec (z0:Og) (z1:Ed) (z2:TT) (z3:FN) (z4:Qg) (z5:Jd) (c_0:SL01Cur) (b_1:SBook):Option (SRec×SL01Cur):=
 (z0 ⟨(),c_0.fI,c_0.fH⟩ [1,2,3,3,3,3,4]).bind fun r0=>
 bif (r0.1 == 1) then
 (z1 ⟨(),r0.2.fI,r0.2.fH⟩ [⟨#[]⟩,⟨#[119]⟩,⟨#[112,105,110]⟩]).bind fun r1=>
 (z2 r1.1).bind fun r2=>
 some (⟨r0.1,r2,0,⟨0,0,false,false,false,false,⟨#[]⟩,0⟩⟩,⟨(),r1.2.fI,r1.2.fH⟩)
 else
 bif (r0.1 == 2) then
  (z3 ⟨(),r0.2.fI,r0.2.fH⟩ 4).bind fun r3=>
  some (⟨r0.1,⟨#[]⟩,r3.1,⟨0,0,false,false,false,false,⟨#[]⟩,0⟩⟩,⟨(),r3.2.fI,r3.2.fH⟩)
 else
  bif (r0.1 == 3) then
  (z4 ⟨(),r0.2.fI,r0.2.fH⟩).bind fun r4=>
  bif (decide ((b_1.fThings.length:Int) > 0)) then
   (z5 ⟨(),r4.2.fI,r4.2.fH⟩ 2).bind fun r5=>
   bif r5.1 then
   (z3 ⟨(),r5.2.fI,r5.2.fH⟩ (b_1.fThings.length:Int)).bind fun r6=>
   bif ((decide (0≤r6.1)) && (decide (r6.1<(b_1.fThings.length:Int)))) then
   bif (b_1.fThings.getD r6.1.toNat (⟨0,0,false,false,false,false,⟨#[]⟩,0⟩:SThing)).fHidden then
    bif (b_1.fThings.getD r6.1.toNat (⟨0,0,false,false,false,false,⟨#[]⟩,0⟩:SThing)).fFixed then
    bif ((b_1.fThings.getD r6.1.toNat (⟨0,0,false,false,false,false,⟨#[]⟩,0⟩:SThing)).fKind == 2) then
     bif (decide ((b_1.fThings.getD r6.1.toNat (⟨0,0,false,false,false,false,⟨#[]⟩,0⟩:SThing)).fNext<16)) then
     (z3 ⟨(),r6.2.fI,r6.2.fH⟩ 2).bind fun r7=>
     some (⟨r0.1,⟨#[]⟩,0,⟨(b_1.fThings.getD r6.1.toNat (⟨0,0,false,false,false,false,⟨#[]⟩,0⟩:SThing)).fId,(b_1.fThings.getD r6.1.toNat (⟨0,0,false,false,false,false,⟨#[]⟩,0⟩:SThing)).fKind,true,true,(b_1.fThings.getD r6.1.toNat (⟨0,0,false,false,false,false,⟨#[]⟩,0⟩:SThing)).fSigns,(b_1.fThings.getD r6.1.toNat (⟨0,0,false,false,false,false,⟨#[]⟩,0⟩:SThing)).fWraps,(b_1.fThings.getD r6.1.toNat (⟨0,0,false,false,false,false,⟨#[]⟩,0⟩:SThing)).fValue,(w64 ((b_1.fThings.getD r6.1.toNat (⟨0,0,false,false,false,false,⟨#[]⟩,0⟩:SThing)).fNext+r7.1))⟩⟩,⟨(),r7.2.fI,r7.2.fH⟩)
     else
     some (⟨r0.1,⟨#[]⟩,0,⟨(b_1.fThings.getD r6.1.toNat (⟨0,0,false,false,false,false,⟨#[]⟩,0⟩:SThing)).fId,(b_1.fThings.getD r6.1.toNat (⟨0,0,false,false,false,false,⟨#[]⟩,0⟩:SThing)).fKind,true,true,(b_1.fThings.getD r6.1.toNat (⟨0,0,false,false,false,false,⟨#[]⟩,0⟩:SThing)).fSigns,(b_1.fThings.getD r6.1.toNat (⟨0,0,false,false,false,false,⟨#[]⟩,0⟩:SThing)).fWraps,(b_1.fThings.getD r6.1.toNat (⟨0,0,false,false,false,false,⟨#[]⟩,0⟩:SThing)).fValue,(b_1.fThings.getD r6.1.toNat (⟨0,0,false,false,false,false,⟨#[]⟩,0⟩:SThing)).fNext⟩⟩,⟨(),r6.2.fI,r6.2.fH⟩)
    else
     some (⟨r0.1,⟨#[]⟩,0,⟨(b_1.fThings.getD r6.1.toNat (⟨0,0,false,false,false,false,⟨#[]⟩,0⟩:SThing)).fId,(b_1.fThings.getD r6.1.toNat (⟨0,0,false,false,false,false,⟨#[]⟩,0⟩:SThing)).fKind,true,true,(b_1.fThings.getD r6.1.toNat (⟨0,0,false,false,false,false,⟨#[]⟩,0⟩:SThing)).fSigns,(b_1.fThings.getD r6.1.toNat (⟨0,0,false,false,false,false,⟨#[]⟩,0⟩:SThing)).fWraps,(b_1.fThings.getD r6.1.toNat (⟨0,0,false,false,false,false,⟨#[]⟩,0⟩:SThing)).fValue,(b_1.fThings.getD r6.1.toNat (⟨0,0,false,false,false,false,⟨#[]⟩,0⟩:SThing)).fNext⟩⟩,⟨(),r6.2.fI,r6.2.fH⟩)
    else
    (z5 ⟨(),r6.2.fI,r6.2.fH⟩ 2).bind fun r8=>
    bif ((b_1.fThings.getD r6.1.toNat (⟨0,0,false,false,false,false,⟨#[]⟩,0⟩:SThing)).fKind == 2) then
     bif (decide ((b_1.fThings.getD r6.1.toNat (⟨0,0,false,false,false,false,⟨#[]⟩,0⟩:SThing)).fNext<16)) then
     (z3 ⟨(),r8.2.fI,r8.2.fH⟩ 2).bind fun r9=>
     some (⟨r0.1,⟨#[]⟩,0,⟨(b_1.fThings.getD r6.1.toNat (⟨0,0,false,false,false,false,⟨#[]⟩,0⟩:SThing)).fId,(b_1.fThings.getD r6.1.toNat (⟨0,0,false,false,false,false,⟨#[]⟩,0⟩:SThing)).fKind,true,r8.1,(b_1.fThings.getD r6.1.toNat (⟨0,0,false,false,false,false,⟨#[]⟩,0⟩:SThing)).fSigns,(b_1.fThings.getD r6.1.toNat (⟨0,0,false,false,false,false,⟨#[]⟩,0⟩:SThing)).fWraps,(b_1.fThings.getD r6.1.toNat (⟨0,0,false,false,false,false,⟨#[]⟩,0⟩:SThing)).fValue,(w64 ((b_1.fThings.getD r6.1.toNat (⟨0,0,false,false,false,false,⟨#[]⟩,0⟩:SThing)).fNext+r9.1))⟩⟩,⟨(),r9.2.fI,r9.2.fH⟩)
     else
     some (⟨r0.1,⟨#[]⟩,0,⟨(b_1.fThings.getD r6.1.toNat (⟨0,0,false,false,false,false,⟨#[]⟩,0⟩:SThing)).fId,(b_1.fThings.getD r6.1.toNat (⟨0,0,false,false,false,false,⟨#[]⟩,0⟩:SThing)).fKind,true,r8.1,(b_1.fThings.getD r6.1.toNat (⟨0,0,false,false,false,false,⟨#[]⟩,0⟩:SThing)).fSigns,(b_1.fThings.getD r6.1.toNat (⟨0,0,false,false,false,false,⟨#[]⟩,0⟩:SThing)).fWraps,(b_1.fThings.getD r6.1.toNat (⟨0,0,false,false,false,false,⟨#[]⟩,0⟩:SThing)).fValue,(b_1.fThings.getD r6.1.toNat (⟨0,0,false,false,false,false,⟨#[]⟩,0⟩:SThing)).fNext⟩⟩,⟨(),r8.2.fI,r8.2.fH⟩)
    else
     some (⟨r0.1,⟨#[]⟩,0,⟨(b_1.fThings.getD r6.1.toNat (⟨0,0,false,false,false,false,⟨#[]⟩,0⟩:SThing)).fId,(b_1.fThings.getD r6.1.toNat (⟨0,0,false,false,false,false,⟨#[]⟩,0⟩:SThing)).fKind,true,r8.1,(b_1.fThings.getD r6.1.toNat (⟨0,0,false,false,false,false,⟨#[]⟩,0⟩:SThing)).fSigns,(b_1.fThings.getD r6.1.toNat (⟨0,0,false,false,false,false,⟨#[]⟩,0⟩:SThing)).fWraps,(b_1.fThings.getD r6.1.toNat (⟨0,0,false,false,false,false,⟨#[]⟩,0⟩:SThing)).fValue,(b_1.fThings.getD r6.1.toNat (⟨0,0,false,false,false,false,⟨#[]⟩,0⟩:SThing)).fNext⟩⟩,⟨(),r8.2.fI,r8.2.fH⟩)
   else
    (z5 ⟨(),r6.2.fI,r6.2.fH⟩ 2).bind fun r10=>
    bif (b_1.fThings.getD r6.1.toNat (⟨0,0,false,false,false,false,⟨#[]⟩,0⟩:SThing)).fFixed then
    bif ((b_1.fThings.getD r6.1.toNat (⟨0,0,false,false,false,false,⟨#[]⟩,0⟩:SThing)).fKind == 2) then
     bif (decide ((b_1.fThings.getD r6.1.toNat (⟨0,0,false,false,false,false,⟨#[]⟩,0⟩:SThing)).fNext<16)) then
     (z3 ⟨(),r10.2.fI,r10.2.fH⟩ 2).bind fun r11=>
     some (⟨r0.1,⟨#[]⟩,0,⟨(b_1.fThings.getD r6.1.toNat (⟨0,0,false,false,false,false,⟨#[]⟩,0⟩:SThing)).fId,(b_1.fThings.getD r6.1.toNat (⟨0,0,false,false,false,false,⟨#[]⟩,0⟩:SThing)).fKind,r10.1,true,(b_1.fThings.getD r6.1.toNat (⟨0,0,false,false,false,false,⟨#[]⟩,0⟩:SThing)).fSigns,(b_1.fThings.getD r6.1.toNat (⟨0,0,false,false,false,false,⟨#[]⟩,0⟩:SThing)).fWraps,(b_1.fThings.getD r6.1.toNat (⟨0,0,false,false,false,false,⟨#[]⟩,0⟩:SThing)).fValue,(w64 ((b_1.fThings.getD r6.1.toNat (⟨0,0,false,false,false,false,⟨#[]⟩,0⟩:SThing)).fNext+r11.1))⟩⟩,⟨(),r11.2.fI,r11.2.fH⟩)
     else
     some (⟨r0.1,⟨#[]⟩,0,⟨(b_1.fThings.getD r6.1.toNat (⟨0,0,false,false,false,false,⟨#[]⟩,0⟩:SThing)).fId,(b_1.fThings.getD r6.1.toNat (⟨0,0,false,false,false,false,⟨#[]⟩,0⟩:SThing)).fKind,r10.1,true,(b_1.fThings.getD r6.1.toNat (⟨0,0,false,false,false,false,⟨#[]⟩,0⟩:SThing)).fSigns,(b_1.fThings.getD r6.1.toNat (⟨0,0,false,false,false,false,⟨#[]⟩,0⟩:SThing)).fWraps,(b_1.fThings.getD r6.1.toNat (⟨0,0,false,false,false,false,⟨#[]⟩,0⟩:SThing)).fValue,(b_1.fThings.getD r6.1.toNat (⟨0,0,false,false,false,false,⟨#[]⟩,0⟩:SThing)).fNext⟩⟩,⟨(),r10.2.fI,r10.2.fH⟩)
    else
     some (⟨r0.1,⟨#[]⟩,0,⟨(b_1.fThings.getD r6.1.toNat (⟨0,0,false,false,false,false,⟨#[]⟩,0⟩:SThing)).fId,(b_1.fThings.getD r6.1.toNat (⟨0,0,false,false,false,false,⟨#[]⟩,0⟩:SThing)).fKind,r10.1,true,(b_1.fThings.getD r6.1.toNat (⟨0,0,false,false,false,false,⟨#[]⟩,0⟩:SThing)).fSigns,(b_1.fThings.getD r6.1.toNat (⟨0,0,false,false,false,false,⟨#[]⟩,0⟩:SThing)).fWraps,(b_1.fThings.getD r6.1.toNat (⟨0,0,false,false,false,false,⟨#[]⟩,0⟩:SThing)).fValue,(b_1.fThings.getD r6.1.toNat (⟨0,0,false,false,false,false,⟨#[]⟩,0⟩:SThing)).fNext⟩⟩,⟨(),r10.2.fI,r10.2.fH⟩)
    else
    (z5 ⟨(),r10.2.fI,r10.2.fH⟩ 2).bind fun r12=>
    bif ((b_1.fThings.getD r6.1.toNat (⟨0,0,false,false,false,false,⟨#[]⟩,0⟩:SThing)).fKind == 2) then
     bif (decide ((b_1.fThings.getD r6.1.toNat (⟨0,0,false,false,false,false,⟨#[]⟩,0⟩:SThing)).fNext<16)) then
     (z3 ⟨(),r12.2.fI,r12.2.fH⟩ 2).bind fun r13=>
     some (⟨r0.1,⟨#[]⟩,0,⟨(b_1.fThings.getD r6.1.toNat (⟨0,0,false,false,false,false,⟨#[]⟩,0⟩:SThing)).fId,(b_1.fThings.getD r6.1.toNat (⟨0,0,false,false,false,false,⟨#[]⟩,0⟩:SThing)).fKind,r10.1,r12.1,(b_1.fThings.getD r6.1.toNat (⟨0,0,false,false,false,false,⟨#[]⟩,0⟩:SThing)).fSigns,(b_1.fThings.getD r6.1.toNat (⟨0,0,false,false,false,false,⟨#[]⟩,0⟩:SThing)).fWraps,(b_1.fThings.getD r6.1.toNat (⟨0,0,false,false,false,false,⟨#[]⟩,0⟩:SThing)).fValue,(w64 ((b_1.fThings.getD r6.1.toNat (⟨0,0,false,false,false,false,⟨#[]⟩,0⟩:SThing)).fNext+r13.1))⟩⟩,⟨(),r13.2.fI,r13.2.fH⟩)
     else
     some (⟨r0.1,⟨#[]⟩,0,⟨(b_1.fThings.getD r6.1.toNat (⟨0,0,false,false,false,false,⟨#[]⟩,0⟩:SThing)).fId,(b_1.fThings.getD r6.1.toNat (⟨0,0,false,false,false,false,⟨#[]⟩,0⟩:SThing)).fKind,r10.1,r12.1,(b_1.fThings.getD r6.1.toNat (⟨0,0,false,false,false,false,⟨#[]⟩,0⟩:SThing)).fSigns,(b_1.fThings.getD r6.1.toNat (⟨0,0,false,false,false,false,⟨#[]⟩,0⟩:SThing)).fWraps,(b_1.fThings.getD r6.1.toNat (⟨0,0,false,false,false,false,⟨#[]⟩,0⟩:SThing)).fValue,(b_1.fThings.getD r6.1.toNat (⟨0,0,false,false,false,false,⟨#[]⟩,0⟩:SThing)).fNext⟩⟩,⟨(),r12.2.fI,r12.2.fH⟩)
    else
     some (⟨r0.1,⟨#[]⟩,0,⟨(b_1.fThings.getD r6.1.toNat (⟨0,0,false,false,false,false,⟨#[]⟩,0⟩:SThing)).fId,(b_1.fThings.getD r6.1.toNat (⟨0,0,false,false,false,false,⟨#[]⟩,0⟩:SThing)).fKind,r10.1,r12.1,(b_1.fThings.getD r6.1.toNat (⟨0,0,false,false,false,false,⟨#[]⟩,0⟩:SThing)).fSigns,(b_1.fThings.getD r6.1.toNat (⟨0,0,false,false,false,false,⟨#[]⟩,0⟩:SThing)).fWraps,(b_1.fThings.getD r6.1.toNat (⟨0,0,false,false,false,false,⟨#[]⟩,0⟩:SThing)).fValue,(b_1.fThings.getD r6.1.toNat (⟨0,0,false,false,false,false,⟨#[]⟩,0⟩:SThing)).fNext⟩⟩,⟨(),r12.2.fI,r12.2.fH⟩)
   else none
   else
   some (⟨r0.1,⟨#[]⟩,0,⟨(w64 (b_1.fLast+1)),r4.1.fKind,r4.1.fHidden,r4.1.fFixed,r4.1.fSigns,r4.1.fWraps,r4.1.fValue,r4.1.fNext⟩⟩,⟨(),r5.2.fI,r5.2.fH⟩)
  else
   some (⟨r0.1,⟨#[]⟩,0,⟨(w64 (b_1.fLast+1)),r4.1.fKind,r4.1.fHidden,r4.1.fFixed,r4.1.fSigns,r4.1.fWraps,r4.1.fValue,r4.1.fNext⟩⟩,⟨(),r4.2.fI,r4.2.fH⟩)
  else
  bif (r0.1 == 4) then
   (z3 ⟨(),r0.2.fI,r0.2.fH⟩ 6).bind fun r14=>
   bif (decide ((b_1.fThings.length:Int) > 0)) then
   (z3 ⟨(),r14.2.fI,r14.2.fH⟩ (b_1.fThings.length:Int)).bind fun r15=>
   bif ((decide (0≤r15.1)) && (decide (r15.1<(b_1.fThings.length:Int)))) then
   some (⟨r0.1,⟨#[]⟩,(b_1.fThings.getD r15.1.toNat (⟨0,0,false,false,false,false,⟨#[]⟩,0⟩:SThing)).fId,⟨0,0,false,false,false,false,⟨#[]⟩,0⟩⟩,⟨(),r15.2.fI,r15.2.fH⟩)
   else none
   else
   some (⟨r0.1,⟨#[]⟩,(w64 (1+r14.1)),⟨0,0,false,false,false,false,⟨#[]⟩,0⟩⟩,⟨(),r14.2.fI,r14.2.fH⟩)
  else
   some (⟨r0.1,⟨#[]⟩,0,⟨0,0,false,false,false,false,⟨#[]⟩,0⟩⟩,⟨(),r0.2.fI,r0.2.fH⟩)
noncomputable def spec_l21Rec:Ld:=E_spec_l21Rec spec_l01PickInt spec_l01Pick spec_DigestOf spec_l01Below spec_l19Thing spec_l01Once
theorem Kr:Tells ctx PP 52 cv25 cv26 (fun a=>spec_l21Rec a.1 a.2):=fn_ok0 (hc Yq (hc Ik (hc DZ (hc TY (hc Ir (hc Nk hl_nil)))))) Tryz.func52 ((fun z0 z1 z2 z3 z4 z5 a=>by kernel_rfl:∀ z0 z1 z2 z3 z4 z5,EntryIs0 ctx PP 52 [0] [(90,Zq z0),(91,Jk z1),(42,OY z2),(32,JY z3),(92,Jr z4),(93,Qk z5)] cv25 cv26 fun a=>E_spec_l21Rec z0 z1 z2 z3 z4 z5 a.1 a.2) spec_l01PickInt spec_l01Pick spec_DigestOf spec_l01Below spec_l19Thing spec_l01Once)
noncomputable def Uk {γ:Type} (F:Ld):Hd ctx γ:=hdl cv25.dec (fun a=>F a.1 a.2) cv26.enc
abbrev SN:=Int→Option ByteArray
inductive YZ where
 | c0 (n_0:Int) (out_3:(List Int))
noncomputable def Vk:YZ→LI
 | .c0 n_0 out_3=>(tdo Tryz.f53 224,[(0,[.one (.int .i64 n_0)]),(3,[.one (.own 240)])],[(240,.sl 5 out_3)])
noncomputable def Xk (k:YZ→Option ByteArray) (n_0:Int):Option ByteArray:=
 k (.c0 n_0 [])
noncomputable def B_spec_l01Var (k:YZ→Option ByteArray):YZ→Option ByteArray
 | .c0 n_0 out_3=>
 bif (decide (n_0 > 127)) then
  bif (decide (((out_3.length+1)*1)≤140737488355328)) then
  k (.c0 (w64 (n_0.tdiv 128)) (out_3++[(w8 (w64 ((n_0.tmod 128)+128)))]))
  else none
 else
  bif (decide (((out_3.length+1)*1)≤140737488355328)) then
  some (ofBytes (out_3++[(w8 n_0)]))
  else none
noncomputable def L_spec_l01Var:Nat→YZ→Option ByteArray
 | 0,_=>none
 | m+1,s=>B_spec_l01Var (L_spec_l01Var m) s
noncomputable def spec_l01Var:SN:=Xk (L_spec_l01Var gas)
theorem UY:Tells ctx PP 53 cv27 cv6 (fun a=>spec_l01Var a):=
 have b:CutIs ctx PP 53 Tryz.f53 [] [] cv6 Vk (B_spec_l01Var):=fun _ s=>by cases s <;> kernel_rfl
 have e:EntryIs ctx PP 53 [] [] cv27 cv6 Vk (fun k a=>Xk k a):=fun _ a=>by kernel_rfl
 fn_ok hl_nil Tryz.func53 (fun s s' h=>by cases s;cases s';cases h;rfl) (fun _=>rfl) (fun _ _=>rfl) b e gas
noncomputable def KY {γ:Type} (F:SN):Hd ctx γ:=hdl cv27.dec (fun a=>F a) cv6.enc
abbrev Aa:=SThing→Option Bool
noncomputable def E_spec_ThingOk (z0:TB) (x_0:SThing):Option Bool:=
 (z0 x_0.fId 1 1000).bind fun r0=>
 bif (!r0) then
 some false
 else
 (z0 x_0.fKind 1 3).bind fun r1=>
 bif (!r1) then
  some false
 else
  (z0 x_0.fNext 0 16).bind fun r2=>
  bif (!r2) then
  some false
  else
  bif (x_0.fKind != 2) then
   bif (x_0.fNext != 0) then
   some false
   else
   bif x_0.fSigns then
    some false
   else
    bif (x_0.fKind != 1) then
    bif x_0.fWraps then
     some false
    else
     bif (x_0.fKind == 3) then
     some (decide ((x_0.fValue.size:Int)≤100))
     else
     some ((x_0.fValue.size:Int) == 32)
    else
    bif (x_0.fKind == 3) then
     some (decide ((x_0.fValue.size:Int)≤100))
    else
     some ((x_0.fValue.size:Int) == 32)
  else
   bif (x_0.fKind != 1) then
   bif x_0.fWraps then
    some false
   else
    bif (x_0.fKind == 3) then
    some (decide ((x_0.fValue.size:Int)≤100))
    else
    some ((x_0.fValue.size:Int) == 32)
   else
   bif (x_0.fKind == 3) then
    some (decide ((x_0.fValue.size:Int)≤100))
   else
    some ((x_0.fValue.size:Int) == 32)
noncomputable def spec_ThingOk:Aa:=E_spec_ThingOk spec_l01In
theorem Yk:Tells ctx PP 94 cv28 cv1 (fun a=>spec_ThingOk a):=fn_ok0 (hc LY hl_nil) Tryz.func94 ((fun z0 a=>by kernel_rfl:∀ z0,EntryIs0 ctx PP 94 [] [(24,NM z0)] cv28 cv1 fun a=>E_spec_ThingOk z0 a) spec_l01In)
noncomputable def Ug {γ:Type} (F:Aa):Hd ctx γ:=hdl cv28.dec (fun a=>F a) cv1.enc
abbrev Vg:=Bool→Int→Option Int
noncomputable def Zk (x_0:Bool) (n_1:Int):Option Int:=
 bif x_0 then
 some n_1
 else
 some 0
noncomputable def spec_l19Flag:Vg:=Zk
theorem Lr:Tells ctx PP 95 cv29 cv27 (fun a=>spec_l19Flag a.1 a.2):=fn_ok0 hl_nil Tryz.func95 (fun a=>by kernel_rfl:EntryIs0 ctx PP 95 [] [] cv29 cv27 fun a=>Zk a.1 a.2)
noncomputable def Nr {γ:Type} (F:Vg):Hd ctx γ:=hdl cv29.dec (fun a=>F a.1 a.2) cv27.enc
abbrev Ba:=Int→Option ByteArray
noncomputable def E_spec_l06Byte (n_0:Int):Option ByteArray:=
 bif (decide ((n_0.tmod 256)<0)) then
 some (ofBytes [(w8 (w64 ((n_0.tmod 256)+256)))])
 else
 some (ofBytes [(w8 (n_0.tmod 256))])
noncomputable def spec_l06Byte:Ba:=E_spec_l06Byte
theorem Bl:Tells ctx PP 96 cv27 cv6 (fun a=>spec_l06Byte a):=fn_ok0 hl_nil Tryz.func96 (fun a=>by kernel_rfl:EntryIs0 ctx PP 96 [] [] cv27 cv6 fun a=>E_spec_l06Byte a)
noncomputable def Xg {γ:Type} (F:Ba):Hd ctx γ:=hdl cv27.dec (fun a=>F a) cv6.enc
abbrev Yg:=ByteArray→Option ByteArray
noncomputable def E_spec_l19Short (z0:SN) (s_0:ByteArray):Option ByteArray:=
 (z0 (s_0.size:Int)).bind fun r0=>
 bif (decide ((r0.size+s_0.size)≤9223372036854775807)) then
 some (r0++s_0)
 else none
noncomputable def spec_l19Short:Yg:=E_spec_l19Short spec_l01Var
theorem Qr:Tells ctx PP 97 cv6 cv6 (fun a=>spec_l19Short a):=fn_ok0 (hc UY hl_nil) Tryz.func97 ((fun z0 a=>by kernel_rfl:∀ z0,EntryIs0 ctx PP 97 [] [(53,KY z0)] cv6 cv6 fun a=>E_spec_l19Short z0 a) spec_l01Var)
noncomputable def Sr {γ:Type} (F:Yg):Hd ctx γ:=hdl cv6.dec (fun a=>F a) cv6.enc
abbrev Md:=SThing→Option (ByteArray×Bool)
noncomputable def E_spec_ThingText (z0:Aa) (z1:Vg) (z2:SN) (z3:Ba) (z4:Yg) (x_0:SThing):Option (ByteArray×Bool):=
 (z0 x_0).bind fun r0=>
 bif (!r0) then
 some (⟨#[]⟩,false)
 else
 (z1 x_0.fHidden 1).bind fun r1=>
 (z1 x_0.fFixed 2).bind fun r2=>
 (z1 x_0.fSigns 4).bind fun r3=>
 (z1 x_0.fWraps 8).bind fun r4=>
 (z2 x_0.fId).bind fun r5=>
 (z3 x_0.fKind).bind fun r6=>
 bif (decide ((r5.size+r6.size)≤9223372036854775807)) then
 (z3 (w64 ((w64 ((w64 (r1+r2))+r3))+r4))).bind fun r7=>
 bif (decide (((r5++r6).size+r7.size)≤9223372036854775807)) then
 (z4 x_0.fValue).bind fun r8=>
 bif (decide ((((r5++r6)++r7).size+r8.size)≤9223372036854775807)) then
 (z2 x_0.fNext).bind fun r9=>
 bif (decide (((((r5++r6)++r7)++r8).size+r9.size)≤9223372036854775807)) then
 some (((((r5++r6)++r7)++r8)++r9),true)
 else none
 else none
 else none
 else none
noncomputable def spec_ThingText:Md:=E_spec_ThingText spec_ThingOk spec_l19Flag spec_l01Var spec_l06Byte spec_l19Short
theorem Dl:Tells ctx PP 54 cv28 cv30 (fun a=>spec_ThingText a):=fn_ok0 (hc Yk (hc Lr (hc UY (hc Bl (hc Qr hl_nil))))) Tryz.func54 ((fun z0 z1 z2 z3 z4 a=>by kernel_rfl:∀ z0 z1 z2 z3 z4,EntryIs0 ctx PP 54 [] [(94,Ug z0),(95,Nr z1),(53,KY z2),(96,Xg z3),(97,Sr z4)] cv28 cv30 fun a=>E_spec_ThingText z0 z1 z2 z3 z4 a) spec_ThingOk spec_l19Flag spec_l01Var spec_l06Byte spec_l19Short)
noncomputable def Gl {γ:Type} (F:Md):Hd ctx γ:=hdl cv28.dec (fun a=>F a) cv30.enc
abbrev EZ:=SRec→Option (ByteArray×Bool)
noncomputable def E_spec_RecText (z0:TB) (z1:SN) (z2:Md) (r_0:SRec):Option (ByteArray×Bool):=
 bif (r_0.fKind == 1) then
 bif ((r_0.fText.size:Int) == 32) then
  bif (r_0.fNum == 0) then
  bif ((r_0.fThing.fId == 0) && ((r_0.fThing.fKind == 0) && ((r_0.fThing.fHidden == false) && ((r_0.fThing.fFixed == false) && ((r_0.fThing.fSigns == false) && ((r_0.fThing.fWraps == false) && (((ByteArray.toList r_0.fThing.fValue) == (ByteArray.toList ⟨#[]⟩)) && ((r_0.fThing.fNext == 0) && true)))))))) then
   bif (decide (((⟨#[1]⟩:ByteArray).size+r_0.fText.size)≤9223372036854775807)) then
   some (((⟨#[1]⟩:ByteArray)++r_0.fText),true)
   else none
  else
   some (⟨#[]⟩,false)
  else
  some (⟨#[]⟩,false)
 else
  some (⟨#[]⟩,false)
 else
 bif (r_0.fKind == 2) then
  bif ((ByteArray.toList r_0.fText) == (ByteArray.toList ⟨#[]⟩)) then
  bif ((r_0.fThing.fId == 0) && ((r_0.fThing.fKind == 0) && ((r_0.fThing.fHidden == false) && ((r_0.fThing.fFixed == false) && ((r_0.fThing.fSigns == false) && ((r_0.fThing.fWraps == false) && (((ByteArray.toList r_0.fThing.fValue) == (ByteArray.toList ⟨#[]⟩)) && ((r_0.fThing.fNext == 0) && true)))))))) then
   (z0 r_0.fNum 0 3).bind fun r0=>
   bif r0 then
   (z1 r_0.fNum).bind fun r1=>
   bif (decide (((⟨#[2]⟩:ByteArray).size+r1.size)≤9223372036854775807)) then
   some (((⟨#[2]⟩:ByteArray)++r1),true)
   else none
   else
   some (⟨#[]⟩,false)
  else
   some (⟨#[]⟩,false)
  else
  some (⟨#[]⟩,false)
 else
  bif (r_0.fKind == 3) then
  (z2 r_0.fThing).bind fun r2=>
  bif r2.2 then
   bif ((ByteArray.toList r_0.fText) == (ByteArray.toList ⟨#[]⟩)) then
   bif (r_0.fNum == 0) then
    bif (decide (((⟨#[3]⟩:ByteArray).size+r2.1.size)≤9223372036854775807)) then
    some (((⟨#[3]⟩:ByteArray)++r2.1),true)
    else none
   else
    some (⟨#[]⟩,false)
   else
   some (⟨#[]⟩,false)
  else
   some (⟨#[]⟩,false)
  else
  bif (r_0.fKind == 4) then
   bif ((ByteArray.toList r_0.fText) == (ByteArray.toList ⟨#[]⟩)) then
   bif ((r_0.fThing.fId == 0) && ((r_0.fThing.fKind == 0) && ((r_0.fThing.fHidden == false) && ((r_0.fThing.fFixed == false) && ((r_0.fThing.fSigns == false) && ((r_0.fThing.fWraps == false) && (((ByteArray.toList r_0.fThing.fValue) == (ByteArray.toList ⟨#[]⟩)) && ((r_0.fThing.fNext == 0) && true)))))))) then
    (z0 r_0.fNum 1 1000).bind fun r3=>
    bif r3 then
    (z1 r_0.fNum).bind fun r4=>
    bif (decide (((⟨#[4]⟩:ByteArray).size+r4.size)≤9223372036854775807)) then
    some (((⟨#[4]⟩:ByteArray)++r4),true)
    else none
    else
    some (⟨#[]⟩,false)
   else
    some (⟨#[]⟩,false)
   else
   some (⟨#[]⟩,false)
  else
   some (⟨#[]⟩,false)
noncomputable def spec_RecText:EZ:=E_spec_RecText spec_l01In spec_l01Var spec_ThingText
theorem Zg:Tells ctx PP 23 cv31 cv30 (fun a=>spec_RecText a):=fn_ok0 (hc LY (hc UY (hc Dl hl_nil))) Tryz.func23 ((fun z0 z1 z2 a=>by kernel_rfl:∀ z0 z1 z2,EntryIs0 ctx PP 23 [] [(24,NM z0),(53,KY z1),(54,Gl z2)] cv31 cv30 fun a=>E_spec_RecText z0 z1 z2 a) spec_l01In spec_l01Var spec_ThingText)
noncomputable def Qd {γ:Type} (F:EZ):Hd ctx γ:=hdl cv31.dec (fun a=>F a) cv30.enc
abbrev Td:=SBook→Option Bool
inductive Ea where
 | c0 (i_3:Int) (b_1:SBook)
noncomputable def Hl:Ea→LI
 | .c0 i_3 b_1=>(tdo Tryz.f86 464,[(1,[.one (.ptr 64 0)]),(3,[.one (.int .i64 i_3)])],[(64,.var [.str b_1.fWord,.int .i64 b_1.fTries,.rsl 30 b_1.fThings,.int .i64 b_1.fLast,.str b_1.fChain,.int .i64 b_1.fCount])])
noncomputable def E_spec_BookOk (z0:TB) (z1:Aa) (k:Ea→Option Bool) (b_0:SBook):Option Bool:=
 bif ((b_0.fWord.size:Int) != 32) then
 some false
 else
 bif ((b_0.fChain.size:Int) != 32) then
  some false
 else
  (z0 b_0.fTries 0 3).bind fun r0=>
  bif (!r0) then
  some false
  else
  bif (decide ((b_0.fThings.length:Int) > 8)) then
   some false
  else
   (z0 b_0.fLast 0 1000).bind fun r1=>
   bif (!r1) then
   some false
   else
   (z0 b_0.fCount 0 10000).bind fun r2=>
   bif (!r2) then
    some false
   else
    k (.c0 0 b_0)
noncomputable def B_spec_BookOk (z0:TB) (z1:Aa) (k:Ea→Option Bool):Ea→Option Bool
 | .c0 i_3 b_1=>
 bif (decide (i_3<(b_1.fThings.length:Int))) then
  bif ((decide (0≤i_3)) && (decide (i_3<(b_1.fThings.length:Int)))) then
  (z1 (b_1.fThings.getD i_3.toNat (⟨0,0,false,false,false,false,⟨#[]⟩,0⟩:SThing))).bind fun r0=>
  bif (!r0) then
  some false
  else
  bif ((decide (0≤i_3)) && (decide (i_3<(b_1.fThings.length:Int)))) then
  bif (decide ((b_1.fThings.getD i_3.toNat (⟨0,0,false,false,false,false,⟨#[]⟩,0⟩:SThing)).fId > b_1.fLast)) then
   some false
  else
   bif (decide (i_3 > 0)) then
   bif ((decide (0≤(w64 (i_3 - 1)))) && (decide ((w64 (i_3 - 1))<(b_1.fThings.length:Int)))) then
   bif ((decide (0≤i_3)) && (decide (i_3<(b_1.fThings.length:Int)))) then
   bif (decide ((b_1.fThings.getD (w64 (i_3 - 1)).toNat (⟨0,0,false,false,false,false,⟨#[]⟩,0⟩:SThing)).fId≥(b_1.fThings.getD i_3.toNat (⟨0,0,false,false,false,false,⟨#[]⟩,0⟩:SThing)).fId)) then
    some false
   else
    k (.c0 (w64 (i_3+1)) b_1)
   else none
   else none
   else
   k (.c0 (w64 (i_3+1)) b_1)
  else none
  else none
 else
  some true
noncomputable def L_spec_BookOk:Nat→Ea→Option Bool
 | 0,_=>none
 | m+1,s=>B_spec_BookOk spec_l01In spec_ThingOk (L_spec_BookOk m) s
noncomputable def spec_BookOk:Td:=E_spec_BookOk spec_l01In spec_ThingOk (L_spec_BookOk gas)
theorem Ur:Tells ctx PP 86 cv32 cv1 (fun a=>spec_BookOk a):=
 have b:∀ z0 z1,CutIs ctx PP 86 Tryz.f86 [] [(24,NM z0),(94,Ug z1)] cv1 Hl (B_spec_BookOk z0 z1):=fun z0 z1 _ s=>by cases s <;> kernel_rfl
 have e:∀ z0 z1,EntryIs ctx PP 86 [] [(24,NM z0),(94,Ug z1)] cv32 cv1 Hl (fun k a=>E_spec_BookOk z0 z1 k a):=fun z0 z1 _ a=>by kernel_rfl
 fn_ok (hc LY (hc Yk hl_nil)) Tryz.func86 (fun s s' h=>by cases s;cases s';(repeat cases ‹SBook›);cases h;rfl) (fun _=>rfl) (fun _ _=>rfl) (b spec_l01In spec_ThingOk) (e spec_l01In spec_ThingOk) gas
noncomputable def Il {γ:Type} (F:Td):Hd ctx γ:=hdl cv32.dec (fun a=>F a) cv1.enc
abbrev Ud:=SBook→Option SBook
noncomputable def E_spec_l21Copy (b_0:SBook):Option SBook:=
 bif (decide (((0+b_0.fThings.length)*48)≤140737488355328)) then
 some ⟨b_0.fWord,b_0.fTries,([]++b_0.fThings),b_0.fLast,b_0.fChain,b_0.fCount⟩
 else none
noncomputable def spec_l21Copy:Ud:=E_spec_l21Copy
theorem Vr:Tells ctx PP 47 cv32 cv16 (fun a=>spec_l21Copy a):=fn_ok0 hl_nil Tryz.func47 (fun a=>by kernel_rfl:EntryIs0 ctx PP 47 [] [] cv32 cv16 fun a=>E_spec_l21Copy a)
noncomputable def Jl {γ:Type} (F:Ud):Hd ctx γ:=hdl cv32.dec (fun a=>F a) cv16.enc
abbrev Vd:=SBook→Int→Option (SThing×Bool)
inductive Fa where
 | c0 (id_1:Int) (i_6:Int) (b_2:SBook) (v_4:SThing)
noncomputable def Ll:Fa→LI
 | .c0 id_1 i_6 b_2 v_4=>(tdo Tryz.f87 208,[(1,[.one (.int .i64 id_1)]),(2,[.one (.ptr 128 0)]),(4,[.one (.ptr 256 0)]),(6,[.one (.int .i64 i_6)])],[(128,.var [.str b_2.fWord,.int .i64 b_2.fTries,.rsl 30 b_2.fThings,.int .i64 b_2.fLast,.str b_2.fChain,.int .i64 b_2.fCount]),(256,.var [.int .i64 v_4.fId,.int .i64 v_4.fKind,.bool v_4.fHidden,.bool v_4.fFixed,.bool v_4.fSigns,.bool v_4.fWraps,.str v_4.fValue,.int .i64 v_4.fNext])])
noncomputable def Nl (k:Fa→Option (SThing×Bool)) (b_0:SBook) (id_1:Int):Option (SThing×Bool):=
 k (.c0 id_1 0 b_0 ⟨0,0,false,false,false,false,⟨#[]⟩,0⟩)
noncomputable def B_spec_ThingOf (k:Fa→Option (SThing×Bool)):Fa→Option (SThing×Bool)
 | .c0 id_1 i_6 b_2 v_4=>
 bif (decide (i_6<(b_2.fThings.length:Int))) then
  bif ((decide (0≤i_6)) && (decide (i_6<(b_2.fThings.length:Int)))) then
  bif ((b_2.fThings.getD i_6.toNat (⟨0,0,false,false,false,false,⟨#[]⟩,0⟩:SThing)).fId == id_1) then
  bif ((decide (0≤i_6)) && (decide (i_6<(b_2.fThings.length:Int)))) then
  some ((b_2.fThings.getD i_6.toNat (⟨0,0,false,false,false,false,⟨#[]⟩,0⟩:SThing)),true)
  else none
  else
  k (.c0 id_1 (w64 (i_6+1)) b_2 v_4)
  else none
 else
  some (⟨0,0,false,false,false,false,⟨#[]⟩,0⟩,false)
noncomputable def L_spec_ThingOf:Nat→Fa→Option (SThing×Bool)
 | 0,_=>none
 | m+1,s=>B_spec_ThingOf (L_spec_ThingOf m) s
noncomputable def spec_ThingOf:Vd:=Nl (L_spec_ThingOf gas)
theorem Xr:Tells ctx PP 87 cv33 cv34 (fun a=>spec_ThingOf a.1 a.2):=
 have b:CutIs ctx PP 87 Tryz.f87 [] [] cv34 Ll (B_spec_ThingOf):=fun _ s=>by cases s <;> kernel_rfl
 have e:EntryIs ctx PP 87 [] [] cv33 cv34 Ll (fun k a=>Nl k a.1 a.2):=fun _ a=>by kernel_rfl
 fn_ok hl_nil Tryz.func87 (fun s s' h=>by cases s;cases s';(repeat cases ‹SBook›);(repeat cases ‹SThing›);cases h;rfl) (fun _=>rfl) (fun _ _=>rfl) b e gas
noncomputable def Ol {γ:Type} (F:Vd):Hd ctx γ:=hdl cv33.dec (fun a=>F a.1 a.2) cv34.enc
abbrev Xd:=SThing→SThing→Option Bool
noncomputable def E_spec_l21Grown (a_0:SThing) (b_1:SThing):Option Bool:=
 bif (a_0.fKind == b_1.fKind) then
 bif ((ByteArray.toList a_0.fValue) == (ByteArray.toList b_1.fValue)) then
  bif (a_0.fSigns == b_1.fSigns) then
  bif (a_0.fWraps == b_1.fWraps) then
   bif (decide (a_0.fNext≤b_1.fNext)) then
   bif b_1.fHidden then
    bif b_1.fFixed then
    some true
    else
    some (!a_0.fFixed)
   else
    bif (!a_0.fHidden) then
    bif b_1.fFixed then
     some true
    else
     some (!a_0.fFixed)
    else
    some false
   else
   some false
  else
   some false
  else
  some false
 else
  some false
 else
 some false
noncomputable def spec_l21Grown:Xd:=E_spec_l21Grown
theorem Yr:Tells ctx PP 88 cv35 cv1 (fun a=>spec_l21Grown a.1 a.2):=fn_ok0 hl_nil Tryz.func88 (fun a=>by kernel_rfl:EntryIs0 ctx PP 88 [] [] cv35 cv1 fun a=>E_spec_l21Grown a.1 a.2)
noncomputable def Ql {γ:Type} (F:Xd):Hd ctx γ:=hdl cv35.dec (fun a=>F a.1 a.2) cv1.enc
abbrev Yd:=(List SThing)→SThing→Option (List SThing)
inductive Ia where
 | c0 (list_0:(List SThing)) (i_6:Int) (x_3:SThing) (out_5:(List SThing))
 | c1 (list_0:(List SThing)) (i_7:Int) (x_3:SThing) (out_5:(List SThing))
noncomputable def Rl:Ia→LI
 | .c0 list_0 i_6 x_3 out_5=>(tdo Tryz.f89 464,[(0,[.one (.rsl 30 list_0)]),(3,[.one (.ptr 192 0)]),(5,[.one (.own 368)]),(6,[.one (.int .i64 i_6)])],[(192,.var [.int .i64 x_3.fId,.int .i64 x_3.fKind,.bool x_3.fHidden,.bool x_3.fFixed,.bool x_3.fSigns,.bool x_3.fWraps,.str x_3.fValue,.int .i64 x_3.fNext]),(368,.sl 30 out_5)])
 | .c1 list_0 i_7 x_3 out_5=>(tdo Tryz.f89 2000,[(0,[.one (.rsl 30 list_0)]),(3,[.one (.ptr 192 0)]),(5,[.one (.own 368)]),(7,[.one (.int .i64 i_7)])],[(192,.var [.int .i64 x_3.fId,.int .i64 x_3.fKind,.bool x_3.fHidden,.bool x_3.fFixed,.bool x_3.fSigns,.bool x_3.fWraps,.str x_3.fValue,.int .i64 x_3.fNext]),(368,.sl 30 out_5)])
noncomputable def E_spec_l21Put (k:Ia→Option (List SThing)) (list_0:(List SThing)) (x_1:SThing):Option (List SThing):=
 k (.c0 list_0 0 x_1 [])
noncomputable def B_spec_l21Put (k:Ia→Option (List SThing)):Ia→Option (List SThing)
 | .c0 list_0 i_6 x_3 out_5=>
 bif (decide (i_6<(list_0.length:Int))) then
  bif ((decide (0≤i_6)) && (decide (i_6<(list_0.length:Int)))) then
  bif (decide ((list_0.getD i_6.toNat (⟨0,0,false,false,false,false,⟨#[]⟩,0⟩:SThing)).fId<x_3.fId)) then
  bif ((decide (0≤i_6)) && (decide (i_6<(list_0.length:Int)))) then
  bif (decide (((out_5.length+1)*48)≤140737488355328)) then
  k (.c0 list_0 (w64 (i_6+1)) x_3 (out_5++[(list_0.getD i_6.toNat (⟨0,0,false,false,false,false,⟨#[]⟩,0⟩:SThing))]))
  else none
  else none
  else
  k (.c0 list_0 (w64 (i_6+1)) x_3 out_5)
  else none
 else
  bif (decide (((out_5.length+1)*48)≤140737488355328)) then
  k (.c1 list_0 0 x_3 (out_5++[x_3]))
  else none
 | .c1 list_0 i_7 x_3 out_5=>
 bif (decide (i_7<(list_0.length:Int))) then
  bif ((decide (0≤i_7)) && (decide (i_7<(list_0.length:Int)))) then
  bif (decide ((list_0.getD i_7.toNat (⟨0,0,false,false,false,false,⟨#[]⟩,0⟩:SThing)).fId > x_3.fId)) then
  bif ((decide (0≤i_7)) && (decide (i_7<(list_0.length:Int)))) then
  bif (decide (((out_5.length+1)*48)≤140737488355328)) then
  k (.c1 list_0 (w64 (i_7+1)) x_3 (out_5++[(list_0.getD i_7.toNat (⟨0,0,false,false,false,false,⟨#[]⟩,0⟩:SThing))]))
  else none
  else none
  else
  k (.c1 list_0 (w64 (i_7+1)) x_3 out_5)
  else none
 else
  some out_5
noncomputable def L_spec_l21Put:Nat→Ia→Option (List SThing)
 | 0,_=>none
 | m+1,s=>B_spec_l21Put (L_spec_l21Put m) s
noncomputable def spec_l21Put:Yd:=E_spec_l21Put (L_spec_l21Put gas)
theorem Zr:Tells ctx PP 89 cv36 cv37 (fun a=>spec_l21Put a.1 a.2):=
 have b:CutIs ctx PP 89 Tryz.f89 [] [] cv37 Rl (B_spec_l21Put):=fun _ s=>by cases s <;> kernel_rfl
 have e:EntryIs ctx PP 89 [] [] cv36 cv37 Rl (fun k a=>E_spec_l21Put k a.1 a.2):=fun _ a=>by kernel_rfl
 fn_ok hl_nil Tryz.func89 (fun s s' h=>by cases s <;> cases s' <;> first | ((repeat cases ‹SThing›);cases h;done) | ((repeat cases ‹SThing›);cases h;rfl) | exact (rg_ne h (by kernel_rfl)).elim) (fun _=>rfl) (fun _ _=>rfl) b e gas
noncomputable def Sl {γ:Type} (F:Yd):Hd ctx γ:=hdl cv36.dec (fun a=>F a.1 a.2) cv37.enc
abbrev Zd:=SBook→SRec→Option (SBook×Bool)
inductive Ja where
 | c0 (y_6:ByteArray) (v_14:Int) (A_2:SBook) (r_3:SRec) (r_4c0:ByteArray) (r_4c1:Int) (r_4c3:Int) (r_4c4:ByteArray) (r_4c5:Int) (v_8c0:ByteArray) (v_8c1:Int) (v_8c3:Int) (v_8c4:ByteArray) (v_8c5:Int) (v_13:(List SThing)) (r_4r2:(List SThing)) (v_8r2:(List SThing))
noncomputable def Ul:Ja→LI
 | .c0 y_6 v_14 A_2 r_3 r_4c0 r_4c1 r_4c3 r_4c4 r_4c5 v_8c0 v_8c1 v_8c3 v_8c4 v_8c5 v_13 r_4r2 v_8r2=>(tdo Tryz.f48 32898512,[(2,[.one (.ptr 128 0)]),(3,[.one (.ptr 192 0)]),(4,[.one (.ptr 256 0)]),(6,[.one (.str y_6)]),(8,[.one (.ptr 512 0)]),(13,[.one (.own 880)]),(14,[.one (.int .i64 v_14)])],[(128,.var [.str A_2.fWord,.int .i64 A_2.fTries,.rsl 30 A_2.fThings,.int .i64 A_2.fLast,.str A_2.fChain,.int .i64 A_2.fCount]),(192,.var [.int .i64 r_3.fKind,.str r_3.fText,.int .i64 r_3.fNum,.int .i64 r_3.fThing.fId,.int .i64 r_3.fThing.fKind,.bool r_3.fThing.fHidden,.bool r_3.fThing.fFixed,.bool r_3.fThing.fSigns,.bool r_3.fThing.fWraps,.str r_3.fThing.fValue,.int .i64 r_3.fThing.fNext]),(256,.var [.str r_4c0,.int .i64 r_4c1,.own 1016386,.int .i64 r_4c3,.str r_4c4,.int .i64 r_4c5]),(512,.var [.str v_8c0,.int .i64 v_8c1,.own 1032770,.int .i64 v_8c3,.str v_8c4,.int .i64 v_8c5]),(880,.sl 30 v_13),(1016386,.sl 30 r_4r2),(1032770,.sl 30 v_8r2)])
noncomputable def E_spec_Enter (z0:EZ) (z1:Td) (z2:Ud) (z3:Vd) (z4:Xd) (z5:Yd) (z6:TT) (k:Ja→Option (SBook×Bool)) (t_0:SBook) (o_1:SRec):Option (SBook×Bool):=
 (z0 o_1).bind fun r0=>
 (z1 t_0).bind fun r1=>
 bif (!r1) then
 some (⟨⟨#[]⟩,0,[],0,⟨#[]⟩,0⟩,false)
 else
 bif (!r0.2) then
  some (⟨⟨#[]⟩,0,[],0,⟨#[]⟩,0⟩,false)
 else
  bif (t_0.fCount == 10000) then
  some (⟨⟨#[]⟩,0,[],0,⟨#[]⟩,0⟩,false)
  else
  (z2 t_0).bind fun r2=>
  bif (o_1.fKind == 1) then
   bif (decide ((t_0.fChain.size+r0.1.size)≤9223372036854775807)) then
   (z6 (t_0.fChain++r0.1)).bind fun r3=>
   (z1 ⟨o_1.fText,0,r2.fThings,r2.fLast,r3,(w64 (t_0.fCount+1))⟩).bind fun r4=>
   bif (!r4) then
   some (⟨⟨#[]⟩,0,[],0,⟨#[]⟩,0⟩,false)
   else
   some (⟨o_1.fText,0,r2.fThings,r2.fLast,r3,(w64 (t_0.fCount+1))⟩,true)
   else none
  else
   bif (o_1.fKind == 2) then
   bif (decide ((t_0.fChain.size+r0.1.size)≤9223372036854775807)) then
   (z6 (t_0.fChain++r0.1)).bind fun r5=>
   (z1 ⟨r2.fWord,o_1.fNum,r2.fThings,r2.fLast,r5,(w64 (t_0.fCount+1))⟩).bind fun r6=>
   bif (!r6) then
    some (⟨⟨#[]⟩,0,[],0,⟨#[]⟩,0⟩,false)
   else
    some (⟨r2.fWord,o_1.fNum,r2.fThings,r2.fLast,r5,(w64 (t_0.fCount+1))⟩,true)
   else none
   else
   bif (o_1.fKind == 3) then
    (z3 t_0 o_1.fThing.fId).bind fun r7=>
    bif r7.2 then
    (z4 r7.1 o_1.fThing).bind fun r8=>
    bif (!r8) then
     some (⟨⟨#[]⟩,0,[],0,⟨#[]⟩,0⟩,false)
    else
     bif (!r7.2) then
     bif (o_1.fThing.fId != (w64 (t_0.fLast+1))) then
      some (⟨⟨#[]⟩,0,[],0,⟨#[]⟩,0⟩,false)
     else
      bif ((t_0.fThings.length:Int) == 8) then
      some (⟨⟨#[]⟩,0,[],0,⟨#[]⟩,0⟩,false)
      else
      bif (!r7.2) then
       (z5 t_0.fThings o_1.fThing).bind fun r9=>
       bif (decide ((t_0.fChain.size+r0.1.size)≤9223372036854775807)) then
       (z6 (t_0.fChain++r0.1)).bind fun r10=>
       (z1 ⟨r2.fWord,r2.fTries,r9,o_1.fThing.fId,r10,(w64 (t_0.fCount+1))⟩).bind fun r11=>
       bif (!r11) then
       some (⟨⟨#[]⟩,0,[],0,⟨#[]⟩,0⟩,false)
       else
       some (⟨r2.fWord,r2.fTries,r9,o_1.fThing.fId,r10,(w64 (t_0.fCount+1))⟩,true)
       else none
      else
       (z5 t_0.fThings o_1.fThing).bind fun r12=>
       bif (decide ((t_0.fChain.size+r0.1.size)≤9223372036854775807)) then
       (z6 (t_0.fChain++r0.1)).bind fun r13=>
       (z1 ⟨r2.fWord,r2.fTries,r12,r2.fLast,r13,(w64 (t_0.fCount+1))⟩).bind fun r14=>
       bif (!r14) then
       some (⟨⟨#[]⟩,0,[],0,⟨#[]⟩,0⟩,false)
       else
       some (⟨r2.fWord,r2.fTries,r12,r2.fLast,r13,(w64 (t_0.fCount+1))⟩,true)
       else none
     else
     bif (!r7.2) then
      (z5 t_0.fThings o_1.fThing).bind fun r15=>
      bif (decide ((t_0.fChain.size+r0.1.size)≤9223372036854775807)) then
      (z6 (t_0.fChain++r0.1)).bind fun r16=>
      (z1 ⟨r2.fWord,r2.fTries,r15,o_1.fThing.fId,r16,(w64 (t_0.fCount+1))⟩).bind fun r17=>
      bif (!r17) then
      some (⟨⟨#[]⟩,0,[],0,⟨#[]⟩,0⟩,false)
      else
      some (⟨r2.fWord,r2.fTries,r15,o_1.fThing.fId,r16,(w64 (t_0.fCount+1))⟩,true)
      else none
     else
      (z5 t_0.fThings o_1.fThing).bind fun r18=>
      bif (decide ((t_0.fChain.size+r0.1.size)≤9223372036854775807)) then
      (z6 (t_0.fChain++r0.1)).bind fun r19=>
      (z1 ⟨r2.fWord,r2.fTries,r18,r2.fLast,r19,(w64 (t_0.fCount+1))⟩).bind fun r20=>
      bif (!r20) then
      some (⟨⟨#[]⟩,0,[],0,⟨#[]⟩,0⟩,false)
      else
      some (⟨r2.fWord,r2.fTries,r18,r2.fLast,r19,(w64 (t_0.fCount+1))⟩,true)
      else none
    else
    bif (!r7.2) then
     bif (o_1.fThing.fId != (w64 (t_0.fLast+1))) then
     some (⟨⟨#[]⟩,0,[],0,⟨#[]⟩,0⟩,false)
     else
     bif ((t_0.fThings.length:Int) == 8) then
      some (⟨⟨#[]⟩,0,[],0,⟨#[]⟩,0⟩,false)
     else
      bif (!r7.2) then
      (z5 t_0.fThings o_1.fThing).bind fun r21=>
      bif (decide ((t_0.fChain.size+r0.1.size)≤9223372036854775807)) then
      (z6 (t_0.fChain++r0.1)).bind fun r22=>
      (z1 ⟨r2.fWord,r2.fTries,r21,o_1.fThing.fId,r22,(w64 (t_0.fCount+1))⟩).bind fun r23=>
      bif (!r23) then
       some (⟨⟨#[]⟩,0,[],0,⟨#[]⟩,0⟩,false)
      else
       some (⟨r2.fWord,r2.fTries,r21,o_1.fThing.fId,r22,(w64 (t_0.fCount+1))⟩,true)
      else none
      else
      (z5 t_0.fThings o_1.fThing).bind fun r24=>
      bif (decide ((t_0.fChain.size+r0.1.size)≤9223372036854775807)) then
      (z6 (t_0.fChain++r0.1)).bind fun r25=>
      (z1 ⟨r2.fWord,r2.fTries,r24,r2.fLast,r25,(w64 (t_0.fCount+1))⟩).bind fun r26=>
      bif (!r26) then
       some (⟨⟨#[]⟩,0,[],0,⟨#[]⟩,0⟩,false)
      else
       some (⟨r2.fWord,r2.fTries,r24,r2.fLast,r25,(w64 (t_0.fCount+1))⟩,true)
      else none
    else
     bif (!r7.2) then
     (z5 t_0.fThings o_1.fThing).bind fun r27=>
     bif (decide ((t_0.fChain.size+r0.1.size)≤9223372036854775807)) then
     (z6 (t_0.fChain++r0.1)).bind fun r28=>
     (z1 ⟨r2.fWord,r2.fTries,r27,o_1.fThing.fId,r28,(w64 (t_0.fCount+1))⟩).bind fun r29=>
     bif (!r29) then
      some (⟨⟨#[]⟩,0,[],0,⟨#[]⟩,0⟩,false)
     else
      some (⟨r2.fWord,r2.fTries,r27,o_1.fThing.fId,r28,(w64 (t_0.fCount+1))⟩,true)
     else none
     else
     (z5 t_0.fThings o_1.fThing).bind fun r30=>
     bif (decide ((t_0.fChain.size+r0.1.size)≤9223372036854775807)) then
     (z6 (t_0.fChain++r0.1)).bind fun r31=>
     (z1 ⟨r2.fWord,r2.fTries,r30,r2.fLast,r31,(w64 (t_0.fCount+1))⟩).bind fun r32=>
     bif (!r32) then
      some (⟨⟨#[]⟩,0,[],0,⟨#[]⟩,0⟩,false)
     else
      some (⟨r2.fWord,r2.fTries,r30,r2.fLast,r31,(w64 (t_0.fCount+1))⟩,true)
     else none
   else
    bif (o_1.fKind == 4) then
    (z3 t_0 o_1.fNum).bind fun r33=>
    bif (!r33.2) then
     some (⟨⟨#[]⟩,0,[],0,⟨#[]⟩,0⟩,false)
    else
     k (.c0 r0.1 0 t_0 o_1 ⟨#[]⟩ 0 0 ⟨#[]⟩ 0 r2.fWord r2.fTries r2.fLast r2.fChain r2.fCount [] [] r2.fThings)
    else
    bif (decide ((t_0.fChain.size+r0.1.size)≤9223372036854775807)) then
    (z6 (t_0.fChain++r0.1)).bind fun r34=>
    (z1 ⟨r2.fWord,r2.fTries,r2.fThings,r2.fLast,r34,(w64 (t_0.fCount+1))⟩).bind fun r35=>
    bif (!r35) then
     some (⟨⟨#[]⟩,0,[],0,⟨#[]⟩,0⟩,false)
    else
     some (⟨r2.fWord,r2.fTries,r2.fThings,r2.fLast,r34,(w64 (t_0.fCount+1))⟩,true)
    else none
noncomputable def B_spec_Enter (z0:EZ) (z1:Td) (z2:Ud) (z3:Vd) (z4:Xd) (z5:Yd) (z6:TT) (k:Ja→Option (SBook×Bool)):Ja→Option (SBook×Bool)
 | .c0 y_6 v_14 A_2 r_3 r_4c0 r_4c1 r_4c3 r_4c4 r_4c5 v_8c0 v_8c1 v_8c3 v_8c4 v_8c5 v_13 r_4r2 v_8r2=>
 bif (decide (v_14<(A_2.fThings.length:Int))) then
  bif ((decide (0≤v_14)) && (decide (v_14<(A_2.fThings.length:Int)))) then
  bif ((A_2.fThings.getD v_14.toNat (⟨0,0,false,false,false,false,⟨#[]⟩,0⟩:SThing)).fId != r_3.fNum) then
  bif ((decide (0≤v_14)) && (decide (v_14<(A_2.fThings.length:Int)))) then
  bif (decide (((v_13.length+1)*48)≤140737488355328)) then
  k (.c0 y_6 (w64 (v_14+1)) A_2 r_3 r_4c0 r_4c1 r_4c3 r_4c4 r_4c5 v_8c0 v_8c1 v_8c3 v_8c4 v_8c5 (v_13++[(A_2.fThings.getD v_14.toNat (⟨0,0,false,false,false,false,⟨#[]⟩,0⟩:SThing))]) r_4r2 v_8r2)
  else none
  else none
  else
  k (.c0 y_6 (w64 (v_14+1)) A_2 r_3 r_4c0 r_4c1 r_4c3 r_4c4 r_4c5 v_8c0 v_8c1 v_8c3 v_8c4 v_8c5 v_13 r_4r2 v_8r2)
  else none
 else
  bif (decide ((A_2.fChain.size+y_6.size)≤9223372036854775807)) then
  (z6 (A_2.fChain++y_6)).bind fun r0=>
  (z1 ⟨v_8c0,v_8c1,v_13,v_8c3,r0,(w64 (A_2.fCount+1))⟩).bind fun r1=>
  bif (!r1) then
  some (⟨⟨#[]⟩,0,[],0,⟨#[]⟩,0⟩,false)
  else
  some (⟨v_8c0,v_8c1,v_13,v_8c3,r0,(w64 (A_2.fCount+1))⟩,true)
  else none
noncomputable def L_spec_Enter:Nat→Ja→Option (SBook×Bool)
 | 0,_=>none
 | m+1,s=>B_spec_Enter spec_RecText spec_BookOk spec_l21Copy spec_ThingOf spec_l21Grown spec_l21Put spec_DigestOf (L_spec_Enter m) s
noncomputable def spec_Enter:Zd:=E_spec_Enter spec_RecText spec_BookOk spec_l21Copy spec_ThingOf spec_l21Grown spec_l21Put spec_DigestOf (L_spec_Enter gas)
theorem Es:Tells ctx PP 48 cv38 cv39 (fun a=>spec_Enter a.1 a.2):=
 have b:∀ z0 z1 z2 z3 z4 z5 z6,CutIs ctx PP 48 Tryz.f48 [] [(23,Qd z0),(86,Il z1),(47,Jl z2),(87,Ol z3),(88,Ql z4),(89,Sl z5),(42,OY z6)] cv39 Ul (B_spec_Enter z0 z1 z2 z3 z4 z5 z6):=fun z0 z1 z2 z3 z4 z5 z6 _ s=>by cases s <;> kernel_rfl
 have e:∀ z0 z1 z2 z3 z4 z5 z6,EntryIs ctx PP 48 [] [(23,Qd z0),(86,Il z1),(47,Jl z2),(87,Ol z3),(88,Ql z4),(89,Sl z5),(42,OY z6)] cv38 cv39 Ul (fun k a=>E_spec_Enter z0 z1 z2 z3 z4 z5 z6 k a.1 a.2):=fun z0 z1 z2 z3 z4 z5 z6 _ a=>by kernel_rfl
 fn_ok (hc Zg (hc Ur (hc Vr (hc Xr (hc Yr (hc Zr (hc DZ hl_nil))))))) Tryz.func48 (fun s s' h=>by cases s;cases s';(repeat cases ‹SBook›);(repeat cases ‹SRec›);(repeat cases ‹SThing›);cases h;rfl) (fun _=>rfl) (fun _ _=>rfl) (b spec_RecText spec_BookOk spec_l21Copy spec_ThingOf spec_l21Grown spec_l21Put spec_DigestOf) (e spec_RecText spec_BookOk spec_l21Copy spec_ThingOf spec_l21Grown spec_l21Put spec_DigestOf) gas
noncomputable def Vl {γ:Type} (F:Zd):Hd ctx γ:=hdl cv38.dec (fun a=>F a.1 a.2) cv39.enc
abbrev Ah:=SL01Cur→Option ((List SRec)×SBook×SL01Cur)
inductive La where
 | c0 (i_6:Int) (c_0c1:Int) (c_0c2:Int) (v_3c0:ByteArray) (v_3c1:Int) (v_3c3:Int) (v_3c4:ByteArray) (v_3c5:Int) (b_4c0:ByteArray) (b_4c1:Int) (b_4c3:Int) (b_4c4:ByteArray) (b_4c5:Int) (list_5:(List SRec)) (v_3r2:(List SThing)) (b_4r2:(List SThing))
noncomputable def Wl:La→LI
 | .c0 i_6 c_0c1 c_0c2 v_3c0 v_3c1 v_3c3 v_3c4 v_3c5 b_4c0 b_4c1 b_4c3 b_4c4 b_4c5 list_5 v_3r2 b_4r2=>(tdo Tryz.f21 976,[(0,[.one (.ptr 0 0)]),(3,[.one (.ptr 192 0)]),(4,[.one (.ptr 256 0)]),(5,[.one (.own 368)]),(6,[.one (.int .i64 i_6)])],[(0,.var [.csl,.int .i64 c_0c1,.int .i64 c_0c2]),(192,.var [.str v_3c0,.int .i64 v_3c1,.own 1012290,.int .i64 v_3c3,.str v_3c4,.int .i64 v_3c5]),(256,.var [.str b_4c0,.int .i64 b_4c1,.own 1016386,.int .i64 b_4c3,.str b_4c4,.int .i64 b_4c5]),(368,.sl 32 list_5),(1012290,.sl 30 v_3r2),(1016386,.sl 30 b_4r2)])
noncomputable def E_spec_l21Recs (z0:Bd) (z1:FN) (z2:Ld) (z3:Zd) (k:La→Option ((List SRec)×SBook×SL01Cur)) (c_0:SL01Cur):Option ((List SRec)×SBook×SL01Cur):=
 z0.bind fun r0=>
 k (.c0 0 c_0.fI c_0.fH ⟨#[]⟩ 0 0 ⟨#[]⟩ 0 r0.fWord r0.fTries r0.fLast r0.fChain r0.fCount [] [] r0.fThings)
noncomputable def B_spec_l21Recs (z0:Bd) (z1:FN) (z2:Ld) (z3:Zd) (k:La→Option ((List SRec)×SBook×SL01Cur)):La→Option ((List SRec)×SBook×SL01Cur)
 | .c0 i_6 c_0c1 c_0c2 v_3c0 v_3c1 v_3c3 v_3c4 v_3c5 b_4c0 b_4c1 b_4c3 b_4c4 b_4c5 list_5 v_3r2 b_4r2=>
 (z1 ⟨(),c_0c1,c_0c2⟩ 12).bind fun r0=>
 bif (decide (i_6<r0.1)) then
  (z2 ⟨(),r0.2.fI,r0.2.fH⟩ ⟨b_4c0,b_4c1,b_4r2,b_4c3,b_4c4,b_4c5⟩).bind fun r1=>
  (z3 ⟨b_4c0,b_4c1,b_4r2,b_4c3,b_4c4,b_4c5⟩ r1.1).bind fun r2=>
  bif r2.2 then
  bif (decide (((list_5.length+1)*80)≤140737488355328)) then
  k (.c0 (w64 (i_6+1)) r1.2.fI r1.2.fH v_3c0 v_3c1 v_3c3 v_3c4 v_3c5 r2.1.fWord r2.1.fTries r2.1.fLast r2.1.fChain r2.1.fCount (list_5++[r1.1]) v_3r2 r2.1.fThings)
  else none
  else
  k (.c0 (w64 (i_6+1)) r1.2.fI r1.2.fH v_3c0 v_3c1 v_3c3 v_3c4 v_3c5 b_4c0 b_4c1 b_4c3 b_4c4 b_4c5 list_5 v_3r2 b_4r2)
 else
  some (list_5,(⟨b_4c0,b_4c1,b_4r2,b_4c3,b_4c4,b_4c5⟩,⟨(),r0.2.fI,r0.2.fH⟩))
noncomputable def L_spec_l21Recs:Nat→La→Option ((List SRec)×SBook×SL01Cur)
 | 0,_=>none
 | m+1,s=>B_spec_l21Recs spec_BookNew spec_l01Below spec_l21Rec spec_Enter (L_spec_l21Recs m) s
noncomputable def spec_l21Recs:Ah:=E_spec_l21Recs spec_BookNew spec_l01Below spec_l21Rec spec_Enter (L_spec_l21Recs gas)
theorem Gs:Tells ctx PP 21 cv17 cv40 (fun a=>spec_l21Recs a):=
 have b:∀ z0 z1 z2 z3,CutIs ctx PP 21 Tryz.f21 [0] [(15,Ak z0),(32,JY z1),(52,Uk z2),(48,Vl z3)] cv40 Wl (B_spec_l21Recs z0 z1 z2 z3):=fun z0 z1 z2 z3 _ s=>by cases s <;> kernel_rfl
 have e:∀ z0 z1 z2 z3,EntryIs ctx PP 21 [0] [(15,Ak z0),(32,JY z1),(52,Uk z2),(48,Vl z3)] cv17 cv40 Wl (fun k a=>E_spec_l21Recs z0 z1 z2 z3 k a):=fun z0 z1 z2 z3 _ a=>by kernel_rfl
 fn_ok (hc Xq (hc TY (hc Kr (hc Es hl_nil)))) Tryz.func21 (fun s s' h=>by cases s;cases s';cases h;rfl) (fun _=>rfl) (fun _ _=>rfl) (b spec_BookNew spec_l01Below spec_l21Rec spec_Enter) (e spec_BookNew spec_l01Below spec_l21Rec spec_Enter) gas
noncomputable def Js {γ:Type} (F:Ah):Hd ctx γ:=hdl cv17.dec (fun a=>F a) cv40.enc
abbrev Ae:=Unit→Option (List SRec)
noncomputable def E_spec_DrawRecords (z0:LZ) (z1:Ah) (code_0:Unit):Option (List SRec):=
 (z0 ()).bind fun r0=>
 (z1 ⟨(),r0.fI,r0.fH⟩).bind fun r1=>
 some r1.1
noncomputable def spec_DrawRecords:Ae:=E_spec_DrawRecords spec_l01New spec_l21Recs
theorem Ls:Tells ctx PP 6 cv0 cv41 (fun a=>spec_DrawRecords a):=fn_ok0 (hc Gj (hc Gs hl_nil)) Tryz.func6 ((fun z0 z1 a=>by kernel_rfl:∀ z0 z1,EntryIs0 ctx PP 6 [] [(22,Xf z0),(21,Js z1)] cv0 cv41 fun a=>E_spec_DrawRecords z0 z1 a) spec_l01New spec_l21Recs)
noncomputable def Xl {γ:Type} (F:Ae):Hd ctx γ:=hdl cv0.dec (fun a=>F a) cv41.enc
abbrev Bh:=ByteArray→Int→Option ByteArray
inductive Na where
 | c0 (key_0:ByteArray) (x_1:Int) (i_6:Int) (out_5:(List Int))
noncomputable def Yl:Na→LI
 | .c0 key_0 x_1 i_6 out_5=>(tdo Tryz.f123 976,[(0,[.one (.str key_0)]),(1,[.one (.int .u8 x_1)]),(5,[.one (.own 368)]),(6,[.one (.int .i64 i_6)])],[(368,.sl 5 out_5)])
noncomputable def E_spec_l06Mask (z0:TT) (k:Na→Option ByteArray) (key_0:ByteArray) (x_1:Int):Option ByteArray:=
 bif (decide ((key_0.size:Int) > 64)) then
 (z0 key_0).bind fun r0=>
 k (.c0 r0 x_1 0 (List.replicate (64:Int).toNat (0:Int)))
 else
 k (.c0 key_0 x_1 0 (List.replicate (64:Int).toNat (0:Int)))
noncomputable def B_spec_l06Mask (z0:TT) (k:Na→Option ByteArray):Na→Option ByteArray
 | .c0 key_0 x_1 i_6 out_5=>
 bif (decide (i_6<64)) then
  bif (decide (i_6<(key_0.size:Int))) then
  bif ((decide (0≤i_6)) && (decide (i_6<(key_0.size:Int)))) then
  bif ((decide (0≤i_6)) && (decide (i_6<(out_5.length:Int)))) then
  bif ((decide (0≤i_6)) && (decide (i_6<((out_5.set i_6.toNat (bt key_0 i_6)).length:Int)))) then
  bif ((decide (0≤i_6)) && (decide (i_6<((out_5.set i_6.toNat (bt key_0 i_6)).length:Int)))) then
  k (.c0 key_0 x_1 (w64 (i_6+1)) ((out_5.set i_6.toNat (bt key_0 i_6)).set i_6.toNat (w8 (((BitVec.toNat ((BitVec.ofInt (IntKind.bits IntKind.u8) ((out_5.set i_6.toNat (bt key_0 i_6)).getD i_6.toNat 0)) ^^^ (BitVec.ofInt (IntKind.bits IntKind.u8) x_1))):Nat):Int))))
  else none
  else none
  else none
  else none
  else
  bif ((decide (0≤i_6)) && (decide (i_6<(out_5.length:Int)))) then
  bif ((decide (0≤i_6)) && (decide (i_6<(out_5.length:Int)))) then
  k (.c0 key_0 x_1 (w64 (i_6+1)) (out_5.set i_6.toNat (w8 (((BitVec.toNat ((BitVec.ofInt (IntKind.bits IntKind.u8) (out_5.getD i_6.toNat 0)) ^^^ (BitVec.ofInt (IntKind.bits IntKind.u8) x_1))):Nat):Int))))
  else none
  else none
 else
  some (ofBytes out_5)
noncomputable def L_spec_l06Mask:Nat→Na→Option ByteArray
 | 0,_=>none
 | m+1,s=>B_spec_l06Mask spec_DigestOf (L_spec_l06Mask m) s
noncomputable def spec_l06Mask:Bh:=E_spec_l06Mask spec_DigestOf (L_spec_l06Mask gas)
theorem Ns:Tells ctx PP 123 cv42 cv6 (fun a=>spec_l06Mask a.1 a.2):=
 have b:∀ z0,CutIs ctx PP 123 Tryz.f123 [] [(42,OY z0)] cv6 Yl (B_spec_l06Mask z0):=fun z0 _ s=>by cases s <;> kernel_rfl
 have e:∀ z0,EntryIs ctx PP 123 [] [(42,OY z0)] cv42 cv6 Yl (fun k a=>E_spec_l06Mask z0 k a.1 a.2):=fun z0 _ a=>by kernel_rfl
 fn_ok (hc DZ hl_nil) Tryz.func123 (fun s s' h=>by cases s;cases s';cases h;rfl) (fun _=>rfl) (fun _ _=>rfl) (b spec_DigestOf) (e spec_DigestOf) gas
noncomputable def Qs {γ:Type} (F:Bh):Hd ctx γ:=hdl cv42.dec (fun a=>F a.1 a.2) cv6.enc
abbrev Oa:=ByteArray→ByteArray→Option ByteArray
noncomputable def E_spec_MacOf (z0:Bh) (z1:TT) (key_0:ByteArray) (s_1:ByteArray):Option ByteArray:=
 (z0 key_0 92).bind fun r0=>
 (z0 key_0 54).bind fun r1=>
 bif (decide ((r1.size+s_1.size)≤9223372036854775807)) then
 (z1 (r1++s_1)).bind fun r2=>
 bif (decide ((r0.size+r2.size)≤9223372036854775807)) then
 (z1 (r0++r2)).bind fun r3=>
 some r3
 else none
 else none
noncomputable def spec_MacOf:Oa:=E_spec_MacOf spec_l06Mask spec_DigestOf
theorem Zl:Tells ctx PP 98 cv43 cv6 (fun a=>spec_MacOf a.1 a.2):=fn_ok0 (hc Ns (hc DZ hl_nil)) Tryz.func98 ((fun z0 z1 a=>by kernel_rfl:∀ z0 z1,EntryIs0 ctx PP 98 [] [(123,Qs z0),(42,OY z1)] cv43 cv6 fun a=>E_spec_MacOf z0 z1 a.1 a.2) spec_l06Mask spec_DigestOf)
noncomputable def Dh {γ:Type} (F:Oa):Hd ctx γ:=hdl cv43.dec (fun a=>F a.1 a.2) cv6.enc
abbrev Ce:=ByteArray→Int→Int→Option (ByteArray×Bool)
inductive Qa where
 | c0 (key_0:ByteArray) (num_1:Int) (n_2:Int) (i_9:Int) (out_8:(List Int))
noncomputable def Am:Qa→LI
 | .c0 key_0 num_1 n_2 i_9 out_8=>(tdo Tryz.f55 976,[(0,[.one (.str key_0)]),(1,[.one (.int .i64 num_1)]),(2,[.one (.int .i64 n_2)]),(8,[.one (.own 560)]),(9,[.one (.int .i64 i_9)])],[(560,.sl 5 out_8)])
noncomputable def E_spec_Mask (z0:TB) (z1:SN) (z2:Ba) (z3:Oa) (k:Qa→Option (ByteArray×Bool)) (key_0:ByteArray) (num_1:Int) (n_2:Int):Option (ByteArray×Bool):=
 (z0 num_1 0 1000000000).bind fun r0=>
 bif (!r0) then
 some (⟨#[]⟩,false)
 else
 (z0 n_2 0 8000).bind fun r1=>
 bif (!r1) then
  some (⟨#[]⟩,false)
 else
  k (.c0 key_0 num_1 n_2 0 [])
noncomputable def B_spec_Mask (z0:TB) (z1:SN) (z2:Ba) (z3:Oa) (k:Qa→Option (ByteArray×Bool)):Qa→Option (ByteArray×Bool)
 | .c0 key_0 num_1 n_2 i_9 out_8=>
 bif (decide ((out_8.length:Int)<n_2)) then
  (z1 num_1).bind fun r0=>
  bif (decide (((⟨#[109]⟩:ByteArray).size+r0.size)≤9223372036854775807)) then
  (z2 i_9).bind fun r1=>
  bif (decide ((((⟨#[109]⟩:ByteArray)++r0).size+r1.size)≤9223372036854775807)) then
  (z3 key_0 (((⟨#[109]⟩:ByteArray)++r0)++r1)).bind fun r2=>
  bif (decide (r2.size≤9223372036854775807)) then
  bif (decide (((out_8.length+(bytesOf r2).length)*1)≤140737488355328)) then
  k (.c0 key_0 num_1 n_2 (w64 (i_9+1)) (out_8++(bytesOf r2)))
  else none
  else none
  else none
  else none
 else
  bif ((decide (0≤n_2)) && (decide (n_2≤(out_8.length:Int)))) then
  some ((ofBytes ((out_8.drop 0).take (n_2.toNat - 0))),true)
  else none
noncomputable def L_spec_Mask:Nat→Qa→Option (ByteArray×Bool)
 | 0,_=>none
 | m+1,s=>B_spec_Mask spec_l01In spec_l01Var spec_l06Byte spec_MacOf (L_spec_Mask m) s
noncomputable def spec_Mask:Ce:=E_spec_Mask spec_l01In spec_l01Var spec_l06Byte spec_MacOf (L_spec_Mask gas)
theorem Cm:Tells ctx PP 55 cv44 cv30 (fun a=>spec_Mask a.1 a.2.1 a.2.2):=
 have b:∀ z0 z1 z2 z3,CutIs ctx PP 55 Tryz.f55 [] [(24,NM z0),(53,KY z1),(96,Xg z2),(98,Dh z3)] cv30 Am (B_spec_Mask z0 z1 z2 z3):=fun z0 z1 z2 z3 _ s=>by cases s <;> kernel_rfl
 have e:∀ z0 z1 z2 z3,EntryIs ctx PP 55 [] [(24,NM z0),(53,KY z1),(96,Xg z2),(98,Dh z3)] cv44 cv30 Am (fun k a=>E_spec_Mask z0 z1 z2 z3 k a.1 a.2.1 a.2.2):=fun z0 z1 z2 z3 _ a=>by kernel_rfl
 fn_ok (hc LY (hc UY (hc Bl (hc Zl hl_nil)))) Tryz.func55 (fun s s' h=>by cases s;cases s';cases h;rfl) (fun _=>rfl) (fun _ _=>rfl) (b spec_l01In spec_l01Var spec_l06Byte spec_MacOf) (e spec_l01In spec_l01Var spec_l06Byte spec_MacOf) gas
noncomputable def Em {γ:Type} (F:Ce):Hd ctx γ:=hdl cv44.dec (fun a=>F a.1 a.2.1 a.2.2) cv30.enc
abbrev Ee:=ByteArray→ByteArray→Option ByteArray
inductive Ua where
 | c0 (b_1:ByteArray) (i_6:Int) (out_5:(List Int))
noncomputable def Gm:Ua→LI
 | .c0 b_1 i_6 out_5=>(tdo Tryz.f56 464,[(1,[.one (.str b_1)]),(5,[.one (.own 368)]),(6,[.one (.int .i64 i_6)])],[(368,.sl 5 out_5)])
noncomputable def E_spec_l18Xor (k:Ua→Option ByteArray) (a_0:ByteArray) (b_1:ByteArray):Option ByteArray:=
 bif (decide (a_0.size≤9223372036854775807)) then
 k (.c0 b_1 0 (bytesOf a_0))
 else none
noncomputable def B_spec_l18Xor (k:Ua→Option ByteArray):Ua→Option ByteArray
 | .c0 b_1 i_6 out_5=>
 bif (decide (i_6<(out_5.length:Int))) then
  bif ((decide (0≤i_6)) && (decide (i_6<(out_5.length:Int)))) then
  bif ((decide (0≤i_6)) && (decide (i_6<(b_1.size:Int)))) then
  bif ((decide (0≤i_6)) && (decide (i_6<(out_5.length:Int)))) then
  k (.c0 b_1 (w64 (i_6+1)) (out_5.set i_6.toNat (w8 (((BitVec.toNat ((BitVec.ofInt (IntKind.bits IntKind.u8) (out_5.getD i_6.toNat 0)) ^^^ (BitVec.ofInt (IntKind.bits IntKind.u8) (bt b_1 i_6)))):Nat):Int))))
  else none
  else none
  else none
 else
  some (ofBytes out_5)
noncomputable def L_spec_l18Xor:Nat→Ua→Option ByteArray
 | 0,_=>none
 | m+1,s=>B_spec_l18Xor (L_spec_l18Xor m) s
noncomputable def spec_l18Xor:Ee:=E_spec_l18Xor (L_spec_l18Xor gas)
theorem Jm:Tells ctx PP 56 cv43 cv6 (fun a=>spec_l18Xor a.1 a.2):=
 have b:CutIs ctx PP 56 Tryz.f56 [] [] cv6 Gm (B_spec_l18Xor):=fun _ s=>by cases s <;> kernel_rfl
 have e:EntryIs ctx PP 56 [] [] cv43 cv6 Gm (fun k a=>E_spec_l18Xor k a.1 a.2):=fun _ a=>by kernel_rfl
 fn_ok hl_nil Tryz.func56 (fun s s' h=>by cases s;cases s';cases h;rfl) (fun _=>rfl) (fun _ _=>rfl) b e gas
noncomputable def Lm {γ:Type} (F:Ee):Hd ctx γ:=hdl cv43.dec (fun a=>F a.1 a.2) cv6.enc
abbrev Fe:=ByteArray→Int→ByteArray→Option ByteArray
noncomputable def E_spec_l18Tag (z0:SN) (z1:Oa) (key_0:ByteArray) (num_1:Int) (s_2:ByteArray):Option ByteArray:=
 (z0 num_1).bind fun r0=>
 bif (decide (((⟨#[116]⟩:ByteArray).size+r0.size)≤9223372036854775807)) then
 bif (decide ((((⟨#[116]⟩:ByteArray)++r0).size+s_2.size)≤9223372036854775807)) then
 (z1 key_0 (((⟨#[116]⟩:ByteArray)++r0)++s_2)).bind fun r1=>
 bif ((decide ((0:Int)≤(16:Int))) && (decide (16≤(r1.size:Int)))) then
 some (r1.extract 0 (16:Int).toNat)
 else none
 else none
 else none
noncomputable def spec_l18Tag:Fe:=E_spec_l18Tag spec_l01Var spec_MacOf
theorem Om:Tells ctx PP 57 cv45 cv6 (fun a=>spec_l18Tag a.1 a.2.1 a.2.2):=fn_ok0 (hc UY (hc Zl hl_nil)) Tryz.func57 ((fun z0 z1 a=>by kernel_rfl:∀ z0 z1,EntryIs0 ctx PP 57 [] [(53,KY z0),(98,Dh z1)] cv45 cv6 fun a=>E_spec_l18Tag z0 z1 a.1 a.2.1 a.2.2) spec_l01Var spec_MacOf)
noncomputable def Pm {γ:Type} (F:Fe):Hd ctx γ:=hdl cv45.dec (fun a=>F a.1 a.2.1 a.2.2) cv6.enc
abbrev Eh:=ByteArray→Int→ByteArray→Option (ByteArray×Bool)
noncomputable def E_spec_LockText (z0:Ce) (z1:Ee) (z2:Fe) (key_0:ByteArray) (num_1:Int) (s_2:ByteArray):Option (ByteArray×Bool):=
 (z0 key_0 num_1 (s_2.size:Int)).bind fun r0=>
 bif (!r0.2) then
 some (⟨#[]⟩,false)
 else
 (z1 s_2 r0.1).bind fun r1=>
 (z2 key_0 num_1 r1).bind fun r2=>
 bif (decide ((r1.size+r2.size)≤9223372036854775807)) then
 some ((r1++r2),true)
 else none
noncomputable def spec_LockText:Eh:=E_spec_LockText spec_Mask spec_l18Xor spec_l18Tag
theorem Us:Tells ctx PP 25 cv45 cv30 (fun a=>spec_LockText a.1 a.2.1 a.2.2):=fn_ok0 (hc Cm (hc Jm (hc Om hl_nil))) Tryz.func25 ((fun z0 z1 z2 a=>by kernel_rfl:∀ z0 z1 z2,EntryIs0 ctx PP 25 [] [(55,Em z0),(56,Lm z1),(57,Pm z2)] cv45 cv30 fun a=>E_spec_LockText z0 z1 z2 a.1 a.2.1 a.2.2) spec_Mask spec_l18Xor spec_l18Tag)
noncomputable def Vs {γ:Type} (F:Eh):Hd ctx γ:=hdl cv45.dec (fun a=>F a.1 a.2.1 a.2.2) cv30.enc
abbrev Fh:=Int→ByteArray→Option Int
inductive Va where
 | c0 (sum_0:Int) (text_1:ByteArray) (i_5:Int)
 | c1 (sum_0:Int) (text_1:ByteArray) (i_5:Int) (k_6:Int)
noncomputable def Qm:Va→LI
 | .c0 sum_0 text_1 i_5=>(tdo Tryz.f99 208,[(0,[.one (.int .u32 sum_0)]),(1,[.one (.str text_1)]),(5,[.one (.int .i64 i_5)])],[])
 | .c1 sum_0 text_1 i_5 k_6=>(tdo Tryz.f99 26928,[(0,[.one (.int .u32 sum_0)]),(1,[.one (.str text_1)]),(5,[.one (.int .i64 i_5)]),(6,[.one (.int .i64 k_6)])],[])
noncomputable def E_spec_SumMore (k:Va→Option Int) (sum_0:Int) (text_1:ByteArray):Option Int:=
 k (.c0 sum_0 text_1 0)
noncomputable def B_spec_SumMore (k:Va→Option Int):Va→Option Int
 | .c0 sum_0 text_1 i_5=>
 bif (decide (i_5<(text_1.size:Int))) then
  bif ((decide (0≤i_5)) && (decide (i_5<(text_1.size:Int)))) then
  k (.c1 (w32 (((BitVec.toNat ((BitVec.ofInt (IntKind.bits IntKind.u32) sum_0) ^^^ (BitVec.ofInt (IntKind.bits IntKind.u32) (w32 (bt text_1 i_5))))):Nat):Int)) text_1 i_5 0)
  else none
 else
  some sum_0
 | .c1 sum_0 text_1 i_5 k_6=>
 bif (decide (k_6<8)) then
  bif ((sum_0.tmod 2) == 1) then
  k (.c1 (w32 (((BitVec.toNat ((BitVec.ofInt (IntKind.bits IntKind.u32) (w32 (sum_0.tdiv 2))) ^^^ (BitVec.ofInt (IntKind.bits IntKind.u32) 3558460437))):Nat):Int)) text_1 i_5 (w64 (k_6+1)))
  else
  k (.c1 (w32 (sum_0.tdiv 2)) text_1 i_5 (w64 (k_6+1)))
 else
  k (.c0 sum_0 text_1 (w64 (i_5+1)))
noncomputable def L_spec_SumMore:Nat→Va→Option Int
 | 0,_=>none
 | m+1,s=>B_spec_SumMore (L_spec_SumMore m) s
noncomputable def spec_SumMore:Fh:=E_spec_SumMore (L_spec_SumMore gas)
theorem Ws:Tells ctx PP 99 cv46 cv10 (fun a=>spec_SumMore a.1 a.2):=
 have b:CutIs ctx PP 99 Tryz.f99 [] [] cv10 Qm (B_spec_SumMore):=fun _ s=>by cases s <;> kernel_rfl
 have e:EntryIs ctx PP 99 [] [] cv46 cv10 Qm (fun k a=>E_spec_SumMore k a.1 a.2):=fun _ a=>by kernel_rfl
 fn_ok hl_nil Tryz.func99 (fun s s' h=>by cases s <;> cases s' <;> first | (cases h;done) | (cases h;rfl) | exact (rg_ne h (by kernel_rfl)).elim) (fun _=>rfl) (fun _ _=>rfl) b e gas
noncomputable def Dt {γ:Type} (F:Fh):Hd ctx γ:=hdl cv46.dec (fun a=>F a.1 a.2) cv10.enc
abbrev Gh:=ByteArray→Option Int
noncomputable def E_spec_SumOf (z0:Fh) (text_0:ByteArray):Option Int:=
 (z0 4294967295 text_0).bind fun r0=>
 some r0
noncomputable def spec_SumOf:Gh:=E_spec_SumOf spec_SumMore
theorem Et:Tells ctx PP 59 cv6 cv10 (fun a=>spec_SumOf a):=fn_ok0 (hc Ws hl_nil) Tryz.func59 ((fun z0 a=>by kernel_rfl:∀ z0,EntryIs0 ctx PP 59 [] [(99,Dt z0)] cv6 cv10 fun a=>E_spec_SumOf z0 a) spec_SumMore)
noncomputable def Gt {γ:Type} (F:Gh):Hd ctx γ:=hdl cv6.dec (fun a=>F a) cv10.enc
abbrev Ih:=Int→Option ByteArray
noncomputable def E_spec_l02Four (x_0:Int):Option ByteArray:=
 some (ofBytes [(w8 (Int.fdiv x_0 (2 ^ (Min.min (24:Int).toNat (IntKind.bits IntKind.u32))))),(w8 (Int.fdiv x_0 (2 ^ (Min.min (16:Int).toNat (IntKind.bits IntKind.u32))))),(w8 (Int.fdiv x_0 (2 ^ (Min.min (8:Int).toNat (IntKind.bits IntKind.u32))))),(w8 x_0)])
noncomputable def spec_l02Four:Ih:=E_spec_l02Four
theorem Ht:Tells ctx PP 58 cv10 cv6 (fun a=>spec_l02Four a):=fn_ok0 hl_nil Tryz.func58 (fun a=>by kernel_rfl:EntryIs0 ctx PP 58 [] [] cv10 cv6 fun a=>E_spec_l02Four a)
noncomputable def Jt {γ:Type} (F:Ih):Hd ctx γ:=hdl cv10.dec (fun a=>F a) cv6.enc
abbrev VY:=ByteArray→Option (ByteArray×Bool)
noncomputable def E_spec_Frame (z0:TB) (z1:SN) (z2:Gh) (z3:Ih) (text_0:ByteArray):Option (ByteArray×Bool):=
 (z0 (text_0.size:Int) 1 9000).bind fun r0=>
 bif (!r0) then
 some (⟨#[]⟩,false)
 else
 (z1 (text_0.size:Int)).bind fun r1=>
 (z2 text_0).bind fun r2=>
 (z3 r2).bind fun r3=>
 bif (decide ((r1.size+r3.size)≤9223372036854775807)) then
 bif (decide (((r1++r3).size+text_0.size)≤9223372036854775807)) then
 some (((r1++r3)++text_0),true)
 else none
 else none
noncomputable def spec_Frame:VY:=E_spec_Frame spec_l01In spec_l01Var spec_SumOf spec_l02Four
theorem Jh:Tells ctx PP 26 cv6 cv30 (fun a=>spec_Frame a):=fn_ok0 (hc LY (hc UY (hc Et (hc Ht hl_nil)))) Tryz.func26 ((fun z0 z1 z2 z3 a=>by kernel_rfl:∀ z0 z1 z2 z3,EntryIs0 ctx PP 26 [] [(24,NM z0),(53,KY z1),(59,Gt z2),(58,Jt z3)] cv6 cv30 fun a=>E_spec_Frame z0 z1 z2 z3 a) spec_l01In spec_l01Var spec_SumOf spec_l02Four)
noncomputable def Xa {γ:Type} (F:VY):Hd ctx γ:=hdl cv6.dec (fun a=>F a) cv30.enc
abbrev He:=ByteArray→Int→SRec→Option ((List SAct)×Bool)
noncomputable def E_spec_BookActs (z0:EZ) (z1:TB) (z2:Eh) (z3:VY) (key_0:ByteArray) (count_1:Int) (r_2:SRec):Option ((List SAct)×Bool):=
 (z0 r_2).bind fun r0=>
 bif (!r0.2) then
 some ([],false)
 else
 (z1 count_1 0 10000).bind fun r1=>
 bif (!r1) then
  some ([],false)
 else
  (z2 key_0 (w64 (count_1+1)) r0.1).bind fun r2=>
  (z3 r2.1).bind fun r3=>
  some ([⟨1,⟨#[98,111,111,107]⟩,r3.1,⟨#[]⟩⟩,⟨2,⟨#[98,111,111,107]⟩,⟨#[]⟩,⟨#[]⟩⟩],true)
noncomputable def spec_BookActs:He:=E_spec_BookActs spec_RecText spec_l01In spec_LockText spec_Frame
theorem Kt:Tells ctx PP 7 cv47 cv48 (fun a=>spec_BookActs a.1 a.2.1 a.2.2):=fn_ok0 (hc Zg (hc LY (hc Us (hc Jh hl_nil)))) Tryz.func7 ((fun z0 z1 z2 z3 a=>by kernel_rfl:∀ z0 z1 z2 z3,EntryIs0 ctx PP 7 [] [(23,Qd z0),(24,NM z1),(25,Vs z2),(26,Xa z3)] cv47 cv48 fun a=>E_spec_BookActs z0 z1 z2 z3 a.1 a.2.1 a.2.2) spec_RecText spec_l01In spec_LockText spec_Frame)
noncomputable def Sm {γ:Type} (F:He):Hd ctx γ:=hdl cv47.dec (fun a=>F a.1 a.2.1 a.2.2) cv48.enc
abbrev IK:=Int→Int→Int→Option Bool
noncomputable def Um (n_0:Int) (low_1:Int) (high_2:Int):Option Bool:=
 bif (decide (n_0≥low_1)) then
 some (decide (n_0≤high_2))
 else
 some false
noncomputable def impl_in:IK:=Um
theorem WY:Tells ctx PP 45 cv8 cv1 (fun a=>impl_in a.1 a.2.1 a.2.2):=fn_ok0 hl_nil Tryz.func45 (fun a=>by kernel_rfl:EntryIs0 ctx PP 45 [] [] cv8 cv1 fun a=>Um a.1 a.2.1 a.2.2)
noncomputable def CV {γ:Type} (F:IK):Hd ctx γ:=hdl cv8.dec (fun a=>F a.1 a.2.1 a.2.2) cv1.enc
abbrev XY:=ByteArray→Int→Option (Int×Int×Bool)
inductive Ya where
 | c0 (text_0:ByteArray) (at_1:Int) (n_7:Int) (k_8:Int)
noncomputable def Vm:Ya→LI
 | .c0 text_0 at_1 n_7 k_8=>(tdo Tryz.f60 976,[(0,[.one (.str text_0)]),(1,[.one (.int .i64 at_1)]),(7,[.one (.int .i64 n_7)]),(8,[.one (.int .i64 k_8)])],[])
noncomputable def E_impl_ReadVar (z0:IK) (k:Ya→Option (Int×Int×Bool)) (text_0:ByteArray) (at_1:Int):Option (Int×Int×Bool):=
 (z0 at_1 0 (text_0.size:Int)).bind fun r0=>
 bif (!r0) then
 some (0,(0,false))
 else
 k (.c0 text_0 at_1 0 0)
noncomputable def B_impl_ReadVar (z0:IK) (k:Ya→Option (Int×Int×Bool)):Ya→Option (Int×Int×Bool)
 | .c0 text_0 at_1 n_7 k_8=>
 bif (decide (k_8<5)) then
  bif (decide ((w64 (at_1+k_8))<(text_0.size:Int))) then
  bif ((decide (0≤(w64 (at_1+k_8)))) && (decide ((w64 (at_1+k_8))<(text_0.size:Int)))) then
  bif (decide (0≤(w64 (7*k_8)))) then
  bif (decide ((w64 (bt text_0 (w64 (at_1+k_8))))<128)) then
   bif ((w64 (bt text_0 (w64 (at_1+k_8)))) == 0) then
   bif (decide (k_8 > 0)) then
    some (0,(0,false))
   else
    bif (decide ((w64 (n_7+(w64 (((w64 (bt text_0 (w64 (at_1+k_8)))).tmod 128)*(2 ^ (Min.min (w64 (7*k_8)).toNat (IntKind.bits IntKind.i64))))))) > 1000000000)) then
    some (0,(0,false))
    else
    some ((w64 (n_7+(w64 (((w64 (bt text_0 (w64 (at_1+k_8)))).tmod 128)*(2 ^ (Min.min (w64 (7*k_8)).toNat (IntKind.bits IntKind.i64))))))),((w64 ((w64 (at_1+k_8))+1)),true))
   else
   bif (decide ((w64 (n_7+(w64 (((w64 (bt text_0 (w64 (at_1+k_8)))).tmod 128)*(2 ^ (Min.min (w64 (7*k_8)).toNat (IntKind.bits IntKind.i64))))))) > 1000000000)) then
    some (0,(0,false))
   else
    some ((w64 (n_7+(w64 (((w64 (bt text_0 (w64 (at_1+k_8)))).tmod 128)*(2 ^ (Min.min (w64 (7*k_8)).toNat (IntKind.bits IntKind.i64))))))),((w64 ((w64 (at_1+k_8))+1)),true))
  else
   k (.c0 text_0 at_1 (w64 (n_7+(w64 (((w64 (bt text_0 (w64 (at_1+k_8)))).tmod 128)*(2 ^ (Min.min (w64 (7*k_8)).toNat (IntKind.bits IntKind.i64))))))) (w64 (k_8+1)))
  else none
  else none
  else
  some (0,(0,false))
 else
  some (0,(0,false))
noncomputable def L_impl_ReadVar:Nat→Ya→Option (Int×Int×Bool)
 | 0,_=>none
 | m+1,s=>B_impl_ReadVar impl_in (L_impl_ReadVar m) s
noncomputable def impl_ReadVar:XY:=E_impl_ReadVar impl_in (L_impl_ReadVar gas)
theorem Ie:Tells ctx PP 60 cv9 cv49 (fun a=>impl_ReadVar a.1 a.2):=
 have b:∀ z0,CutIs ctx PP 60 Tryz.f60 [] [(45,CV z0)] cv49 Vm (B_impl_ReadVar z0):=fun z0 _ s=>by cases s <;> kernel_rfl
 have e:∀ z0,EntryIs ctx PP 60 [] [(45,CV z0)] cv9 cv49 Vm (fun k a=>E_impl_ReadVar z0 k a.1 a.2):=fun z0 _ a=>by kernel_rfl
 fn_ok (hc WY hl_nil) Tryz.func60 (fun s s' h=>by cases s;cases s';cases h;rfl) (fun _=>rfl) (fun _ _=>rfl) (b impl_in) (e impl_in) gas
noncomputable def Za {γ:Type} (F:XY):Hd ctx γ:=hdl cv9.dec (fun a=>F a.1 a.2) cv49.enc
abbrev Lh:=Int→ByteArray→Option Int
inductive Cb where
 | c0 (sum_0:Int) (text_1:ByteArray) (i_5:Int)
 | c1 (sum_0:Int) (text_1:ByteArray) (i_5:Int) (v_19:Int)
noncomputable def Xm:Cb→LI
 | .c0 sum_0 text_1 i_5=>(tdo Tryz.f100 208,[(0,[.one (.int .u32 sum_0)]),(1,[.one (.str text_1)]),(5,[.one (.int .i64 i_5)])],[])
 | .c1 sum_0 text_1 i_5 v_19=>(tdo Tryz.f100 13464,[(0,[.one (.int .u32 sum_0)]),(1,[.one (.str text_1)]),(5,[.one (.int .i64 i_5)]),(19,[.one (.int .i64 v_19)])],[])
noncomputable def E_impl_SumMore (k:Cb→Option Int) (sum_0:Int) (text_1:ByteArray):Option Int:=
 k (.c0 sum_0 text_1 0)
noncomputable def B_impl_SumMore (k:Cb→Option Int):Cb→Option Int
 | .c0 sum_0 text_1 i_5=>
 bif (decide (i_5<(text_1.size:Int))) then
  bif ((decide (0≤i_5)) && (decide (i_5<(text_1.size:Int)))) then
  k (.c1 (w32 (((BitVec.toNat ((BitVec.ofInt (IntKind.bits IntKind.u32) sum_0) ^^^ (BitVec.ofInt (IntKind.bits IntKind.u32) (w32 (bt text_1 i_5))))):Nat):Int)) text_1 i_5 0)
  else none
 else
  some sum_0
 | .c1 sum_0 text_1 i_5 v_19=>
 bif (decide (v_19<8)) then
  bif ((w32 (((BitVec.toNat ((BitVec.ofInt (IntKind.bits IntKind.u32) sum_0) &&& (BitVec.ofInt (IntKind.bits IntKind.u32) 1))):Nat):Int)) == 1) then
  k (.c1 (w32 (((BitVec.toNat ((BitVec.ofInt (IntKind.bits IntKind.u32) (Int.fdiv sum_0 (2 ^ (Min.min (1:Int).toNat (IntKind.bits IntKind.u32))))) ^^^ (BitVec.ofInt (IntKind.bits IntKind.u32) 3558460437))):Nat):Int)) text_1 i_5 (w64 (v_19+1)))
  else
  k (.c1 (Int.fdiv sum_0 (2 ^ (Min.min (1:Int).toNat (IntKind.bits IntKind.u32)))) text_1 i_5 (w64 (v_19+1)))
 else
  k (.c0 sum_0 text_1 (w64 (i_5+1)))
noncomputable def L_impl_SumMore:Nat→Cb→Option Int
 | 0,_=>none
 | m+1,s=>B_impl_SumMore (L_impl_SumMore m) s
noncomputable def impl_SumMore:Lh:=E_impl_SumMore (L_impl_SumMore gas)
theorem Ot:Tells ctx PP 100 cv46 cv10 (fun a=>impl_SumMore a.1 a.2):=
 have b:CutIs ctx PP 100 Tryz.f100 [] [] cv10 Xm (B_impl_SumMore):=fun _ s=>by cases s <;> kernel_rfl
 have e:EntryIs ctx PP 100 [] [] cv46 cv10 Xm (fun k a=>E_impl_SumMore k a.1 a.2):=fun _ a=>by kernel_rfl
 fn_ok hl_nil Tryz.func100 (fun s s' h=>by cases s <;> cases s' <;> first | (cases h;done) | (cases h;rfl) | exact (rg_ne h (by kernel_rfl)).elim) (fun _=>rfl) (fun _ _=>rfl) b e gas
noncomputable def Rt {γ:Type} (F:Lh):Hd ctx γ:=hdl cv46.dec (fun a=>F a.1 a.2) cv10.enc
abbrev Eb:=ByteArray→Option Int
noncomputable def E_impl_SumOf (z0:Lh) (text_0:ByteArray):Option Int:=
 (z0 4294967295 text_0).bind fun r0=>
 some r0
noncomputable def impl_SumOf:Eb:=E_impl_SumOf impl_SumMore
theorem Ym:Tells ctx PP 62 cv6 cv10 (fun a=>impl_SumOf a):=fn_ok0 (hc Ot hl_nil) Tryz.func62 ((fun z0 a=>by kernel_rfl:∀ z0,EntryIs0 ctx PP 62 [] [(100,Rt z0)] cv6 cv10 fun a=>E_impl_SumOf z0 a) impl_SumMore)
noncomputable def Nh {γ:Type} (F:Eb):Hd ctx γ:=hdl cv6.dec (fun a=>F a) cv10.enc
abbrev PY:=Int→Option ByteArray
noncomputable def E_impl_fourBytes (n_0:Int):Option ByteArray:=
 some (ofBytes [(w8 (Int.fdiv n_0 (2 ^ (Min.min (24:Int).toNat (IntKind.bits IntKind.u32))))),(w8 (Int.fdiv n_0 (2 ^ (Min.min (16:Int).toNat (IntKind.bits IntKind.u32))))),(w8 (Int.fdiv n_0 (2 ^ (Min.min (8:Int).toNat (IntKind.bits IntKind.u32))))),(w8 n_0)])
noncomputable def impl_fourBytes:PY:=E_impl_fourBytes
theorem Je:Tells ctx PP 61 cv10 cv6 (fun a=>impl_fourBytes a):=fn_ok0 hl_nil Tryz.func61 (fun a=>by kernel_rfl:EntryIs0 ctx PP 61 [] [] cv10 cv6 fun a=>E_impl_fourBytes a)
noncomputable def FZ {γ:Type} (F:PY):Hd ctx γ:=hdl cv10.dec (fun a=>F a) cv6.enc
abbrev Me:=ByteArray→Option ((List ByteArray)×Int)
inductive Fb where
 | c0 (file_0:ByteArray) (at_5:Int) (out_4:(List ByteArray))
noncomputable def Zm:Fb→LI
 | .c0 file_0 at_5 out_4=>(tdo Tryz.f27 496,[(0,[.one (.str file_0)]),(4,[.one (.own 304)]),(5,[.one (.int .i64 at_5)])],[(304,.sl 9 out_4)])
noncomputable def E_impl_Unframe (z0:XY) (z1:IK) (z2:Eb) (z3:PY) (k:Fb→Option ((List ByteArray)×Int)) (file_0:ByteArray):Option ((List ByteArray)×Int):=
 bif (decide ((file_0.size:Int) > 20000)) then
 some ([],0)
 else
 k (.c0 file_0 0 [])
noncomputable def B_impl_Unframe (z0:XY) (z1:IK) (z2:Eb) (z3:PY) (k:Fb→Option ((List ByteArray)×Int)):Fb→Option ((List ByteArray)×Int)
 | .c0 file_0 at_5 out_4=>
 (z0 file_0 at_5).bind fun r0=>
 bif (!r0.2.2) then
  some (out_4,at_5)
 else
  (z1 r0.1 1 9000).bind fun r1=>
  bif (!r1) then
  some (out_4,at_5)
  else
  bif (decide (r0.1 > (w64 ((w64 ((file_0.size:Int) - r0.2.1)) - 4)))) then
   some (out_4,at_5)
  else
   bif (((decide (0≤(w64 (r0.2.1+4)))) && (decide ((w64 (r0.2.1+4))≤(w64 ((w64 (r0.2.1+4))+r0.1))))) && (decide ((w64 ((w64 (r0.2.1+4))+r0.1))≤(file_0.size:Int)))) then
   bif (((decide (0≤r0.2.1)) && (decide (r0.2.1≤(w64 (r0.2.1+4))))) && (decide ((w64 (r0.2.1+4))≤(file_0.size:Int)))) then
   (z2 (file_0.extract (w64 (r0.2.1+4)).toNat (w64 ((w64 (r0.2.1+4))+r0.1)).toNat)).bind fun r2=>
   (z3 r2).bind fun r3=>
   bif (!((ByteArray.toList (file_0.extract r0.2.1.toNat (w64 (r0.2.1+4)).toNat)) == (ByteArray.toList r3))) then
   some (out_4,at_5)
   else
   bif (decide (((out_4.length+1)*16)≤140737488355328)) then
   k (.c0 file_0 (w64 ((w64 (r0.2.1+4))+r0.1)) (out_4++[(file_0.extract (w64 (r0.2.1+4)).toNat (w64 ((w64 (r0.2.1+4))+r0.1)).toNat)]))
   else none
   else none
   else none
noncomputable def L_impl_Unframe:Nat→Fb→Option ((List ByteArray)×Int)
 | 0,_=>none
 | m+1,s=>B_impl_Unframe impl_ReadVar impl_in impl_SumOf impl_fourBytes (L_impl_Unframe m) s
noncomputable def impl_Unframe:Me:=E_impl_Unframe impl_ReadVar impl_in impl_SumOf impl_fourBytes (L_impl_Unframe gas)
theorem Tt:Tells ctx PP 27 cv6 cv50 (fun a=>impl_Unframe a):=
 have b:∀ z0 z1 z2 z3,CutIs ctx PP 27 Tryz.f27 [] [(60,Za z0),(45,CV z1),(62,Nh z2),(61,FZ z3)] cv50 Zm (B_impl_Unframe z0 z1 z2 z3):=fun z0 z1 z2 z3 _ s=>by cases s <;> kernel_rfl
 have e:∀ z0 z1 z2 z3,EntryIs ctx PP 27 [] [(60,Za z0),(45,CV z1),(62,Nh z2),(61,FZ z3)] cv6 cv50 Zm (fun k a=>E_impl_Unframe z0 z1 z2 z3 k a):=fun z0 z1 z2 z3 _ a=>by kernel_rfl
 fn_ok (hc Ie (hc WY (hc Ym (hc Je hl_nil)))) Tryz.func27 (fun s s' h=>by cases s;cases s';cases h;rfl) (fun _=>rfl) (fun _ _=>rfl) (b impl_ReadVar impl_in impl_SumOf impl_fourBytes) (e impl_ReadVar impl_in impl_SumOf impl_fourBytes) gas
noncomputable def Dn {γ:Type} (F:Me):Hd ctx γ:=hdl cv6.dec (fun a=>F a) cv50.enc
abbrev QY:=Int→Option ByteArray
inductive Ib where
 | c0 (n_0:Int) (out_3:(List Int))
noncomputable def En:Ib→LI
 | .c0 n_0 out_3=>(tdo Tryz.f67 224,[(0,[.one (.int .i64 n_0)]),(3,[.one (.own 240)])],[(240,.sl 5 out_3)])
noncomputable def Gn (k:Ib→Option ByteArray) (n_0:Int):Option ByteArray:=
 k (.c0 n_0 [])
noncomputable def B_impl_varText (k:Ib→Option ByteArray):Ib→Option ByteArray
 | .c0 n_0 out_3=>
 bif (decide (n_0 > 127)) then
  bif (decide (((out_3.length+1)*1)≤140737488355328)) then
  k (.c0 (w64 (n_0.tdiv 128)) (out_3++[(w8 (w64 (128+(n_0.tmod 128))))]))
  else none
 else
  bif (decide (((out_3.length+1)*1)≤140737488355328)) then
  some (ofBytes (out_3++[(w8 n_0)]))
  else none
noncomputable def L_impl_varText:Nat→Ib→Option ByteArray
 | 0,_=>none
 | m+1,s=>B_impl_varText (L_impl_varText m) s
noncomputable def impl_varText:QY:=Gn (L_impl_varText gas)
theorem GZ:Tells ctx PP 67 cv27 cv6 (fun a=>impl_varText a):=
 have b:CutIs ctx PP 67 Tryz.f67 [] [] cv6 En (B_impl_varText):=fun _ s=>by cases s <;> kernel_rfl
 have e:EntryIs ctx PP 67 [] [] cv27 cv6 En (fun k a=>Gn k a):=fun _ a=>by kernel_rfl
 fn_ok hl_nil Tryz.func67 (fun s s' h=>by cases s;cases s';cases h;rfl) (fun _=>rfl) (fun _ _=>rfl) b e gas
noncomputable def IZ {γ:Type} (F:QY):Hd ctx γ:=hdl cv27.dec (fun a=>F a) cv6.enc
abbrev Oe:=Int→Option (ByteArray×Bool)
noncomputable def E_impl_VarText (z0:IK) (z1:QY) (n_0:Int):Option (ByteArray×Bool):=
 (z0 n_0 0 1000000000).bind fun r0=>
 bif (!r0) then
 some (⟨#[]⟩,false)
 else
 (z1 n_0).bind fun r1=>
 some (r1,true)
noncomputable def impl_VarText:Oe:=E_impl_VarText impl_in impl_varText
theorem Ut:Tells ctx PP 101 cv27 cv30 (fun a=>impl_VarText a):=fn_ok0 (hc WY (hc GZ hl_nil)) Tryz.func101 ((fun z0 z1 a=>by kernel_rfl:∀ z0 z1,EntryIs0 ctx PP 101 [] [(45,CV z0),(67,IZ z1)] cv27 cv30 fun a=>E_impl_VarText z0 z1 a) impl_in impl_varText)
noncomputable def Pn {γ:Type} (F:Oe):Hd ctx γ:=hdl cv27.dec (fun a=>F a) cv30.enc
abbrev JZ:=Int→Option ByteArray
noncomputable def E_impl_oneByte (n_0:Int):Option ByteArray:=
 some (ofBytes [(w8 n_0)])
noncomputable def impl_oneByte:JZ:=E_impl_oneByte
theorem Oh:Tells ctx PP 85 cv27 cv6 (fun a=>impl_oneByte a):=fn_ok0 hl_nil Tryz.func85 (fun a=>by kernel_rfl:EntryIs0 ctx PP 85 [] [] cv27 cv6 fun a=>E_impl_oneByte a)
noncomputable def Qe {γ:Type} (F:JZ):Hd ctx γ:=hdl cv27.dec (fun a=>F a) cv6.enc
abbrev Ph:=Option (List Int)
noncomputable def Qn  : Option (List Int):=
 some [1779033703,3144134277,1013904242,2773480762,1359893119,2600822924,528734635,1541459225]
noncomputable def impl_firstState:Ph:=Qn
theorem Vt:Tells ctx PP 110 cv3 cv51 (fun _=>impl_firstState):=fn_ok0 hl_nil Tryz.func110 (fun _=>by kernel_rfl:EntryIs0 ctx PP 110 [] [] cv3 cv51 fun _=>Qn)
noncomputable def Xt {γ:Type} (F:Ph):Hd ctx γ:=hdl cv3.dec (fun _=>F) cv51.enc
abbrev Ue:=Int→Option ByteArray
noncomputable def E_impl_zeros (n_0:Int):Option ByteArray:=
 bif ((((decide (0≤n_0)) && (decide (n_0≤n_0))) && (decide (n_0≤9223372036854775807))) && (decide ((n_0.toNat*1)≤140737488355328))) then
 some (ofBytes (List.replicate n_0.toNat (0:Int)))
 else none
noncomputable def impl_zeros:Ue:=E_impl_zeros
theorem Rn:Tells ctx PP 80 cv27 cv6 (fun a=>impl_zeros a):=fn_ok0 hl_nil Tryz.func80 (fun a=>by kernel_rfl:EntryIs0 ctx PP 80 [] [] cv27 cv6 fun a=>E_impl_zeros a)
noncomputable def Tn {γ:Type} (F:Ue):Hd ctx γ:=hdl cv27.dec (fun a=>F a) cv6.enc
abbrev Qh:=Int→Option ByteArray
noncomputable def E_impl_eightBytes (z0:PY) (n_0:Int):Option ByteArray:=
 (z0 (w32 (Int.fdiv n_0 (2 ^ (Min.min (32:Int).toNat (IntKind.bits IntKind.i64)))))).bind fun r0=>
 (z0 (w32 n_0)).bind fun r1=>
 bif (decide ((r0.size+r1.size)≤9223372036854775807)) then
 some (r0++r1)
 else none
noncomputable def impl_eightBytes:Qh:=E_impl_eightBytes impl_fourBytes
theorem Yt:Tells ctx PP 128 cv27 cv6 (fun a=>impl_eightBytes a):=fn_ok0 (hc Je hl_nil) Tryz.func128 ((fun z0 a=>by kernel_rfl:∀ z0,EntryIs0 ctx PP 128 [] [(61,FZ z0)] cv27 cv6 fun a=>E_impl_eightBytes z0 a) impl_fourBytes)
noncomputable def Zt {γ:Type} (F:Qh):Hd ctx γ:=hdl cv27.dec (fun a=>F a) cv6.enc
abbrev Rh:=Int→Option ByteArray
noncomputable def E_impl_ending (z0:Ue) (z1:Qh) (count_0:Int):Option ByteArray:=
 (z0 ((w64 (119 - (count_0.tmod 64))).tmod 64)).bind fun r0=>
 bif (decide (((⟨#[128]⟩:ByteArray).size+r0.size)≤9223372036854775807)) then
 (z1 (w64 (8*count_0))).bind fun r1=>
 bif (decide ((((⟨#[128]⟩:ByteArray)++r0).size+r1.size)≤9223372036854775807)) then
 some (((⟨#[128]⟩:ByteArray)++r0)++r1)
 else none
 else none
noncomputable def impl_ending:Rh:=E_impl_ending impl_zeros impl_eightBytes
theorem Au:Tells ctx PP 111 cv27 cv6 (fun a=>impl_ending a):=fn_ok0 (hc Rn (hc Yt hl_nil)) Tryz.func111 ((fun z0 z1 a=>by kernel_rfl:∀ z0 z1,EntryIs0 ctx PP 111 [] [(80,Tn z0),(128,Zt z1)] cv27 cv6 fun a=>E_impl_ending z0 z1 a) impl_zeros impl_eightBytes)
noncomputable def Du {γ:Type} (F:Rh):Hd ctx γ:=hdl cv27.dec (fun a=>F a) cv6.enc
abbrev Uh:=Int→Int→Option Int
noncomputable def E_math_bits_RotateLeft32 (x_0:Int) (k_1:Int):Option Int:=
 bif (decide (0≤(wu64 (32 - (wu64 (((BitVec.toNat ((BitVec.ofInt (IntKind.bits IntKind.u64) (wu64 k_1)) &&& (BitVec.ofInt (IntKind.bits IntKind.u64) 31))):Nat):Int)))))) then
 some (w32 (((BitVec.toNat ((BitVec.ofInt (IntKind.bits IntKind.u32) (w32 (x_0*(2 ^ (Min.min (wu64 (((BitVec.toNat ((BitVec.ofInt (IntKind.bits IntKind.u64) (wu64 k_1)) &&& (BitVec.ofInt (IntKind.bits IntKind.u64) 31))):Nat):Int)).toNat (IntKind.bits IntKind.u32)))))) ||| (BitVec.ofInt (IntKind.bits IntKind.u32) (Int.fdiv x_0 (2 ^ (Min.min (wu64 (32 - (wu64 (((BitVec.toNat ((BitVec.ofInt (IntKind.bits IntKind.u64) (wu64 k_1)) &&& (BitVec.ofInt (IntKind.bits IntKind.u64) 31))):Nat):Int)))).toNat (IntKind.bits IntKind.u32))))))):Nat):Int))
 else none
noncomputable def math_bits_RotateLeft32:Uh:=E_math_bits_RotateLeft32
theorem Eu:Tells ctx PP 134 cv52 cv10 (fun a=>math_bits_RotateLeft32 a.1 a.2):=fn_ok0 hl_nil Tryz.func134 (fun a=>by kernel_rfl:EntryIs0 ctx PP 134 [] [] cv52 cv10 fun a=>E_math_bits_RotateLeft32 a.1 a.2)
noncomputable def Gu {γ:Type} (F:Uh):Hd ctx γ:=hdl cv52.dec (fun a=>F a.1 a.2) cv10.enc
abbrev KZ:=Int→Int→Option Int
noncomputable def E_impl_right (z0:Uh) (x_0:Int) (n_1:Int):Option Int:=
 (z0 x_0 (w64 (0 - n_1))).bind fun r0=>
 some r0
noncomputable def impl_right:KZ:=E_impl_right math_bits_RotateLeft32
theorem Un:Tells ctx PP 132 cv52 cv10 (fun a=>impl_right a.1 a.2):=fn_ok0 (hc Eu hl_nil) Tryz.func132 ((fun z0 a=>by kernel_rfl:∀ z0,EntryIs0 ctx PP 132 [] [(134,Gu z0)] cv52 cv10 fun a=>E_impl_right z0 a.1 a.2) math_bits_RotateLeft32)
noncomputable def Ve {γ:Type} (F:KZ):Hd ctx γ:=hdl cv52.dec (fun a=>F a.1 a.2) cv10.enc
abbrev Xe:=ByteArray→Option (List Int)
inductive Jb where
 | c0 (block_0:ByteArray) (v_11:Int) (v_2r0:(List Int)) (w_3r0:(List Int))
 | c1 (block_0:ByteArray) (i_4:Int) (v_11:Int) (v_14:Int) (v_2r0:(List Int)) (w_3r0:(List Int))
 | c2 (t_6:Int) (v_2r0:(List Int)) (w_3r0:(List Int))
noncomputable def Wn:Jb→LI
 | .c0 block_0 v_11 v_2r0 w_3r0=>(tdo Tryz.f131 232,[(0,[.one (.str block_0)]),(2,[.one (.ptr 128 0)]),(3,[.one (.ptr 192 0)]),(11,[.one (.int .i64 v_11)])],[(128,.ar 92 v_2r0),(192,.ar 92 w_3r0)])
 | .c1 block_0 i_4 v_11 v_14 v_2r0 w_3r0=>(tdo Tryz.f131 59800,[(0,[.one (.str block_0)]),(2,[.one (.ptr 128 0)]),(3,[.one (.ptr 192 0)]),(4,[.one (.int .i64 i_4)]),(11,[.one (.int .i64 v_11)]),(14,[.one (.int .i64 v_14)])],[(128,.ar 92 v_2r0),(192,.ar 92 w_3r0)])
 | .c2 t_6 v_2r0 w_3r0=>(tdo Tryz.f131 976,[(2,[.one (.ptr 128 0)]),(3,[.one (.ptr 192 0)]),(6,[.one (.int .i64 t_6)])],[(128,.ar 92 v_2r0),(192,.ar 92 w_3r0)])
noncomputable def E_impl_wordsOf (z0:KZ) (k:Jb→Option (List Int)) (block_0:ByteArray):Option (List Int):=
 k (.c0 block_0 0 (List.replicate 64 (0:Int)) (List.replicate 64 (0:Int)))
noncomputable def B_impl_wordsOf (z0:KZ) (k:Jb→Option (List Int)):Jb→Option (List Int)
 | .c0 block_0 v_11 v_2r0 w_3r0=>
 bif (decide (v_11<16)) then
  k (.c1 block_0 v_11 v_11 0 v_2r0 w_3r0)
 else
  k (.c2 16 v_2r0 w_3r0)
 | .c1 block_0 i_4 v_11 v_14 v_2r0 w_3r0=>
 bif (decide (v_14<4)) then
  bif (Nat.beq 64 w_3r0.length) then
  bif ((decide (0≤i_4)) && (decide (i_4<(w_3r0.length:Int)))) then
  bif ((decide (0≤(w64 ((w64 (4*i_4))+v_14)))) && (decide ((w64 ((w64 (4*i_4))+v_14))<(block_0.size:Int)))) then
  bif (Nat.beq 64 w_3r0.length) then
  bif ((decide (0≤i_4)) && (decide (i_4<(w_3r0.length:Int)))) then
  k (.c1 block_0 i_4 v_11 (w64 (v_14+1)) v_2r0 (w_3r0.set i_4.toNat (w32 (((BitVec.toNat ((BitVec.ofInt (IntKind.bits IntKind.u32) (w32 ((w_3r0.getD i_4.toNat 0)*(2 ^ (Min.min (8:Int).toNat (IntKind.bits IntKind.u32)))))) ||| (BitVec.ofInt (IntKind.bits IntKind.u32) (w32 (bt block_0 (w64 ((w64 (4*i_4))+v_14))))))):Nat):Int))))
  else none
  else none
  else none
  else none
  else none
 else
  k (.c0 block_0 (w64 (v_11+1)) v_2r0 w_3r0)
 | .c2 t_6 v_2r0 w_3r0=>
 bif (decide (t_6<64)) then
  bif (Nat.beq 64 w_3r0.length) then
  bif ((decide (0≤(w64 (t_6 - 15)))) && (decide ((w64 (t_6 - 15))<(w_3r0.length:Int)))) then
  bif (Nat.beq 64 w_3r0.length) then
  bif ((decide (0≤(w64 (t_6 - 2)))) && (decide ((w64 (t_6 - 2))<(w_3r0.length:Int)))) then
  (z0 (w_3r0.getD (w64 (t_6 - 15)).toNat 0) 7).bind fun r0=>
  (z0 (w_3r0.getD (w64 (t_6 - 15)).toNat 0) 18).bind fun r1=>
  (z0 (w_3r0.getD (w64 (t_6 - 2)).toNat 0) 17).bind fun r2=>
  (z0 (w_3r0.getD (w64 (t_6 - 2)).toNat 0) 19).bind fun r3=>
  bif (Nat.beq 64 w_3r0.length) then
  bif ((decide (0≤(w64 (t_6 - 7)))) && (decide ((w64 (t_6 - 7))<(w_3r0.length:Int)))) then
  bif (Nat.beq 64 w_3r0.length) then
  bif ((decide (0≤(w64 (t_6 - 16)))) && (decide ((w64 (t_6 - 16))<(w_3r0.length:Int)))) then
  bif (Nat.beq 64 w_3r0.length) then
  bif ((decide (0≤t_6)) && (decide (t_6<(w_3r0.length:Int)))) then
  k (.c2 (w64 (t_6+1)) v_2r0 (w_3r0.set t_6.toNat (w32 ((w32 ((w32 ((w32 (((BitVec.toNat ((BitVec.ofInt (IntKind.bits IntKind.u32) (w32 (((BitVec.toNat ((BitVec.ofInt (IntKind.bits IntKind.u32) r2) ^^^ (BitVec.ofInt (IntKind.bits IntKind.u32) r3))):Nat):Int))) ^^^ (BitVec.ofInt (IntKind.bits IntKind.u32) (Int.fdiv (w_3r0.getD (w64 (t_6 - 2)).toNat 0) (2 ^ (Min.min (10:Int).toNat (IntKind.bits IntKind.u32))))))):Nat):Int))+(w_3r0.getD (w64 (t_6 - 7)).toNat 0)))+(w32 (((BitVec.toNat ((BitVec.ofInt (IntKind.bits IntKind.u32) (w32 (((BitVec.toNat ((BitVec.ofInt (IntKind.bits IntKind.u32) r0) ^^^ (BitVec.ofInt (IntKind.bits IntKind.u32) r1))):Nat):Int))) ^^^ (BitVec.ofInt (IntKind.bits IntKind.u32) (Int.fdiv (w_3r0.getD (w64 (t_6 - 15)).toNat 0) (2 ^ (Min.min (3:Int).toNat (IntKind.bits IntKind.u32))))))):Nat):Int))))+(w_3r0.getD (w64 (t_6 - 16)).toNat 0)))))
  else none
  else none
  else none
  else none
  else none
  else none
  else none
  else none
  else none
  else none
 else
  bif (Nat.beq 64 w_3r0.length) then
  bif ((Nat.beq w_3r0.length v_2r0.length) && (Nat.beq 64 w_3r0.length)) then
  bif ((Nat.beq 64 w_3r0.length) && true) then
  some w_3r0
  else none
  else none
  else none
noncomputable def L_impl_wordsOf:Nat→Jb→Option (List Int)
 | 0,_=>none
 | m+1,s=>B_impl_wordsOf impl_right (L_impl_wordsOf m) s
noncomputable def impl_wordsOf:Xe:=E_impl_wordsOf impl_right (L_impl_wordsOf gas)
theorem Hu:Tells ctx PP 131 cv6 cv51 (fun a=>impl_wordsOf a):=
 have b:∀ z0,CutIs ctx PP 131 Tryz.f131 [] [(132,Ve z0)] cv51 Wn (B_impl_wordsOf z0):=fun z0 _ s=>by cases s <;> kernel_rfl
 have e:∀ z0,EntryIs ctx PP 131 [] [(132,Ve z0)] cv6 cv51 Wn (fun k a=>E_impl_wordsOf z0 k a):=fun z0 _ a=>by kernel_rfl
 fn_ok (hc Un hl_nil) Tryz.func131 (fun s s' h=>by cases s <;> cases s' <;> first | (cases h;done) | (cases h;rfl) | exact (rg_ne h (by kernel_rfl)).elim) (fun _=>rfl) (fun _ _=>rfl) (b impl_right) (e impl_right) gas
noncomputable def Xn {γ:Type} (F:Xe):Hd ctx γ:=hdl cv6.dec (fun a=>F a) cv51.enc
abbrev Ye:=(List Int)→ByteArray→Option (List Int)
inductive Nb where
 | c0 (a_6:Int) (b_7:Int) (c_8:Int) (d_9:Int) (e_10:Int) (f_11:Int) (g_12:Int) (h_13:Int) (v_37:Int) (state_2r0:(List Int)) (v_4r0:(List Int)) (w_5r0:(List Int))
 | c1 (v_109:Int) (state_2r0:(List Int)) (v_4r0:(List Int)) (out_17r0:(List Int))
noncomputable def Yn:Nb→LI
 | .c0 a_6 b_7 c_8 d_9 e_10 f_11 g_12 h_13 v_37 state_2r0 v_4r0 w_5r0=>(tdo Tryz.f127 488,[(2,[.one (.ptr 128 0)]),(4,[.one (.ptr 256 0)]),(5,[.one (.ptr 320 0)]),(6,[.one (.int .u32 a_6)]),(7,[.one (.int .u32 b_7)]),(8,[.one (.int .u32 c_8)]),(9,[.one (.int .u32 d_9)]),(10,[.one (.int .u32 e_10)]),(11,[.one (.int .u32 f_11)]),(12,[.one (.int .u32 g_12)]),(13,[.one (.int .u32 h_13)]),(37,[.one (.int .i64 v_37)])],[(128,.ar 92 state_2r0),(256,.ar 92 v_4r0),(320,.ar 92 w_5r0)])
 | .c1 v_109 state_2r0 v_4r0 out_17r0=>(tdo Tryz.f127 2024,[(2,[.one (.ptr 128 0)]),(4,[.one (.ptr 256 0)]),(17,[.one (.ptr 1088 0)]),(109,[.one (.int .i64 v_109)])],[(128,.ar 92 state_2r0),(256,.ar 92 v_4r0),(1088,.ar 92 out_17r0)])
noncomputable def E_impl_oneBlock (z0:Xe) (z1:KZ) (k:Nb→Option (List Int)) (state_0:(List Int)) (block_1:ByteArray):Option (List Int):=
 (z0 block_1).bind fun r0=>
 bif ((Nat.beq r0.length (List.replicate 64 (0:Int)).length) && (Nat.beq 64 r0.length)) then
 bif (Nat.beq 8 state_0.length) then
 bif ((decide ((0:Int)≤(0:Int))) && (decide (0<(state_0.length:Int)))) then
 bif (Nat.beq 8 state_0.length) then
 bif ((decide ((0:Int)≤(1:Int))) && (decide (1<(state_0.length:Int)))) then
 bif (Nat.beq 8 state_0.length) then
 bif ((decide ((0:Int)≤(2:Int))) && (decide (2<(state_0.length:Int)))) then
 bif (Nat.beq 8 state_0.length) then
 bif ((decide ((0:Int)≤(3:Int))) && (decide (3<(state_0.length:Int)))) then
 bif (Nat.beq 8 state_0.length) then
 bif ((decide ((0:Int)≤(4:Int))) && (decide (4<(state_0.length:Int)))) then
 bif (Nat.beq 8 state_0.length) then
 bif ((decide ((0:Int)≤(5:Int))) && (decide (5<(state_0.length:Int)))) then
 bif (Nat.beq 8 state_0.length) then
 bif ((decide ((0:Int)≤(6:Int))) && (decide (6<(state_0.length:Int)))) then
 bif (Nat.beq 8 state_0.length) then
 bif ((decide ((0:Int)≤(7:Int))) && (decide (7<(state_0.length:Int)))) then
 k (.c0 (state_0.getD (0:Int).toNat 0) (state_0.getD (1:Int).toNat 0) (state_0.getD (2:Int).toNat 0) (state_0.getD (3:Int).toNat 0) (state_0.getD (4:Int).toNat 0) (state_0.getD (5:Int).toNat 0) (state_0.getD (6:Int).toNat 0) (state_0.getD (7:Int).toNat 0) 0 state_0 [0,0,0,0,0,0,0,0] r0)
 else none
 else none
 else none
 else none
 else none
 else none
 else none
 else none
 else none
 else none
 else none
 else none
 else none
 else none
 else none
 else none
 else none
noncomputable def B_impl_oneBlock (z0:Xe) (z1:KZ) (k:Nb→Option (List Int)):Nb→Option (List Int)
 | .c0 a_6 b_7 c_8 d_9 e_10 f_11 g_12 h_13 v_37 state_2r0 v_4r0 w_5r0=>
 bif (decide (v_37<64)) then
  (z1 e_10 6).bind fun r0=>
  (z1 e_10 11).bind fun r1=>
  (z1 e_10 25).bind fun r2=>
  bif ((decide (0≤v_37)) && (decide (v_37<((64:Nat):Int)))) then
  bif (Nat.blt v_37.toNat 64) then
  bif (Nat.beq 64 w_5r0.length) then
  bif ((decide (0≤v_37)) && (decide (v_37<(w_5r0.length:Int)))) then
  (z1 a_6 2).bind fun r3=>
  (z1 a_6 13).bind fun r4=>
  (z1 a_6 22).bind fun r5=>
  k (.c0 (w32 ((w32 ((w32 ((w32 ((w32 (h_13+(w32 (((BitVec.toNat ((BitVec.ofInt (IntKind.bits IntKind.u32) (w32 (((BitVec.toNat ((BitVec.ofInt (IntKind.bits IntKind.u32) r0) ^^^ (BitVec.ofInt (IntKind.bits IntKind.u32) r1))):Nat):Int))) ^^^ (BitVec.ofInt (IntKind.bits IntKind.u32) r2))):Nat):Int))))+(w32 (((BitVec.toNat ((BitVec.ofInt (IntKind.bits IntKind.u32) (w32 (((BitVec.toNat ((BitVec.ofInt (IntKind.bits IntKind.u32) e_10) &&& (BitVec.ofInt (IntKind.bits IntKind.u32) f_11))):Nat):Int))) ^^^ (BitVec.ofInt (IntKind.bits IntKind.u32) (w32 (((BitVec.toNat ((BitVec.ofInt (IntKind.bits IntKind.u32) (w32 (((BitVec.toNat ((BitVec.ofInt (IntKind.bits IntKind.u32) (ite ((IntKind.signed IntKind.u32)=true) (-(1:Int)) (IntKind.max IntKind.u32))) ^^^ (BitVec.ofInt (IntKind.bits IntKind.u32) e_10))):Nat):Int))) &&& (BitVec.ofInt (IntKind.bits IntKind.u32) g_12))):Nat):Int))))):Nat):Int))))+([(1116352408:Int),(1899447441:Int),(3049323471:Int),(3921009573:Int),(961987163:Int),(1508970993:Int),(2453635748:Int),(2870763221:Int),(3624381080:Int),(310598401:Int),(607225278:Int),(1426881987:Int),(1925078388:Int),(2162078206:Int),(2614888103:Int),(3248222580:Int),(3835390401:Int),(4022224774:Int),(264347078:Int),(604807628:Int),(770255983:Int),(1249150122:Int),(1555081692:Int),(1996064986:Int),(2554220882:Int),(2821834349:Int),(2952996808:Int),(3210313671:Int),(3336571891:Int),(3584528711:Int),(113926993:Int),(338241895:Int),(666307205:Int),(773529912:Int),(1294757372:Int),(1396182291:Int),(1695183700:Int),(1986661051:Int),(2177026350:Int),(2456956037:Int),(2730485921:Int),(2820302411:Int),(3259730800:Int),(3345764771:Int),(3516065817:Int),(3600352804:Int),(4094571909:Int),(275423344:Int),(430227734:Int),(506948616:Int),(659060556:Int),(883997877:Int),(958139571:Int),(1322822218:Int),(1537002063:Int),(1747873779:Int),(1955562222:Int),(2024104815:Int),(2227730452:Int),(2361852424:Int),(2428436474:Int),(2756734187:Int),(3204031479:Int),(3329325298:Int)].getD v_37.toNat 0)))+(w_5r0.getD v_37.toNat 0)))+(w32 ((w32 (((BitVec.toNat ((BitVec.ofInt (IntKind.bits IntKind.u32) (w32 (((BitVec.toNat ((BitVec.ofInt (IntKind.bits IntKind.u32) r3) ^^^ (BitVec.ofInt (IntKind.bits IntKind.u32) r4))):Nat):Int))) ^^^ (BitVec.ofInt (IntKind.bits IntKind.u32) r5))):Nat):Int))+(w32 (((BitVec.toNat ((BitVec.ofInt (IntKind.bits IntKind.u32) (w32 (((BitVec.toNat ((BitVec.ofInt (IntKind.bits IntKind.u32) (w32 (((BitVec.toNat ((BitVec.ofInt (IntKind.bits IntKind.u32) a_6) &&& (BitVec.ofInt (IntKind.bits IntKind.u32) b_7))):Nat):Int))) ^^^ (BitVec.ofInt (IntKind.bits IntKind.u32) (w32 (((BitVec.toNat ((BitVec.ofInt (IntKind.bits IntKind.u32) a_6) &&& (BitVec.ofInt (IntKind.bits IntKind.u32) c_8))):Nat):Int))))):Nat):Int))) ^^^ (BitVec.ofInt (IntKind.bits IntKind.u32) (w32 (((BitVec.toNat ((BitVec.ofInt (IntKind.bits IntKind.u32) b_7) &&& (BitVec.ofInt (IntKind.bits IntKind.u32) c_8))):Nat):Int))))):Nat):Int)))))) a_6 b_7 c_8 (w32 (d_9+(w32 ((w32 ((w32 ((w32 (h_13+(w32 (((BitVec.toNat ((BitVec.ofInt (IntKind.bits IntKind.u32) (w32 (((BitVec.toNat ((BitVec.ofInt (IntKind.bits IntKind.u32) r0) ^^^ (BitVec.ofInt (IntKind.bits IntKind.u32) r1))):Nat):Int))) ^^^ (BitVec.ofInt (IntKind.bits IntKind.u32) r2))):Nat):Int))))+(w32 (((BitVec.toNat ((BitVec.ofInt (IntKind.bits IntKind.u32) (w32 (((BitVec.toNat ((BitVec.ofInt (IntKind.bits IntKind.u32) e_10) &&& (BitVec.ofInt (IntKind.bits IntKind.u32) f_11))):Nat):Int))) ^^^ (BitVec.ofInt (IntKind.bits IntKind.u32) (w32 (((BitVec.toNat ((BitVec.ofInt (IntKind.bits IntKind.u32) (w32 (((BitVec.toNat ((BitVec.ofInt (IntKind.bits IntKind.u32) (ite ((IntKind.signed IntKind.u32)=true) (-(1:Int)) (IntKind.max IntKind.u32))) ^^^ (BitVec.ofInt (IntKind.bits IntKind.u32) e_10))):Nat):Int))) &&& (BitVec.ofInt (IntKind.bits IntKind.u32) g_12))):Nat):Int))))):Nat):Int))))+([(1116352408:Int),(1899447441:Int),(3049323471:Int),(3921009573:Int),(961987163:Int),(1508970993:Int),(2453635748:Int),(2870763221:Int),(3624381080:Int),(310598401:Int),(607225278:Int),(1426881987:Int),(1925078388:Int),(2162078206:Int),(2614888103:Int),(3248222580:Int),(3835390401:Int),(4022224774:Int),(264347078:Int),(604807628:Int),(770255983:Int),(1249150122:Int),(1555081692:Int),(1996064986:Int),(2554220882:Int),(2821834349:Int),(2952996808:Int),(3210313671:Int),(3336571891:Int),(3584528711:Int),(113926993:Int),(338241895:Int),(666307205:Int),(773529912:Int),(1294757372:Int),(1396182291:Int),(1695183700:Int),(1986661051:Int),(2177026350:Int),(2456956037:Int),(2730485921:Int),(2820302411:Int),(3259730800:Int),(3345764771:Int),(3516065817:Int),(3600352804:Int),(4094571909:Int),(275423344:Int),(430227734:Int),(506948616:Int),(659060556:Int),(883997877:Int),(958139571:Int),(1322822218:Int),(1537002063:Int),(1747873779:Int),(1955562222:Int),(2024104815:Int),(2227730452:Int),(2361852424:Int),(2428436474:Int),(2756734187:Int),(3204031479:Int),(3329325298:Int)].getD v_37.toNat 0)))+(w_5r0.getD v_37.toNat 0))))) e_10 f_11 g_12 (w64 (v_37+1)) state_2r0 v_4r0 w_5r0)
  else none
  else none
  else none
  else none
 else
  k (.c1 0 state_2r0 v_4r0 [a_6,b_7,c_8,d_9,e_10,f_11,g_12,h_13])
 | .c1 v_109 state_2r0 v_4r0 out_17r0=>
 bif (decide (v_109<8)) then
  bif (Nat.beq 8 out_17r0.length) then
  bif ((decide (0≤v_109)) && (decide (v_109<(out_17r0.length:Int)))) then
  bif (Nat.beq 8 state_2r0.length) then
  bif ((decide (0≤v_109)) && (decide (v_109<(state_2r0.length:Int)))) then
  bif (Nat.beq 8 out_17r0.length) then
  bif ((decide (0≤v_109)) && (decide (v_109<(out_17r0.length:Int)))) then
  k (.c1 (w64 (v_109+1)) state_2r0 v_4r0 (out_17r0.set v_109.toNat (w32 ((out_17r0.getD v_109.toNat 0)+(state_2r0.getD v_109.toNat 0)))))
  else none
  else none
  else none
  else none
  else none
  else none
 else
  bif (Nat.beq 8 out_17r0.length) then
  bif ((Nat.beq out_17r0.length v_4r0.length) && (Nat.beq 8 out_17r0.length)) then
  bif ((Nat.beq 8 out_17r0.length) && true) then
  some out_17r0
  else none
  else none
  else none
noncomputable def L_impl_oneBlock:Nat→Nb→Option (List Int)
 | 0,_=>none
 | m+1,s=>B_impl_oneBlock impl_wordsOf impl_right (L_impl_oneBlock m) s
noncomputable def impl_oneBlock:Ye:=E_impl_oneBlock impl_wordsOf impl_right (L_impl_oneBlock gas)
theorem Iu:Tells ctx PP 127 cv53 cv51 (fun a=>impl_oneBlock a.1 a.2):=
 have b:∀ z0 z1,CutIs ctx PP 127 Tryz.f127 [] [(131,Xn z0),(132,Ve z1)] cv51 Yn (B_impl_oneBlock z0 z1):=fun z0 z1 _ s=>by cases s <;> kernel_rfl
 have e:∀ z0 z1,EntryIs ctx PP 127 [] [(131,Xn z0),(132,Ve z1)] cv53 cv51 Yn (fun k a=>E_impl_oneBlock z0 z1 k a.1 a.2):=fun z0 z1 _ a=>by kernel_rfl
 fn_ok (hc Hu (hc Un hl_nil)) Tryz.func127 (fun s s' h=>by cases s <;> cases s' <;> first | (cases h;done) | (cases h;rfl) | exact (rg_ne h (by kernel_rfl)).elim) (fun _=>rfl) (fun _ _=>rfl) (b impl_wordsOf impl_right) (e impl_wordsOf impl_right) gas
noncomputable def Zn {γ:Type} (F:Ye):Hd ctx γ:=hdl cv53.dec (fun a=>F a.1 a.2) cv51.enc
abbrev Vh:=(List Int)→ByteArray→Option ((List Int)×ByteArray)
inductive Ob where
 | c0 (s_1:ByteArray) (state_2r0:(List Int)) (v_4r0:(List Int))
noncomputable def Bo:Ob→LI
 | .c0 s_1 state_2r0 v_4r0=>(tdo Tryz.f109 96,[(1,[.one (.str s_1)]),(2,[.one (.ptr 128 0)]),(4,[.one (.ptr 256 0)])],[(128,.ar 92 state_2r0),(256,.ar 92 v_4r0)])
noncomputable def E_impl_blocks (z0:Ye) (k:Ob→Option ((List Int)×ByteArray)) (state_0:(List Int)) (s_1:ByteArray):Option ((List Int)×ByteArray):=
 k (.c0 s_1 state_0 [0,0,0,0,0,0,0,0])
noncomputable def B_impl_blocks (z0:Ye) (k:Ob→Option ((List Int)×ByteArray)):Ob→Option ((List Int)×ByteArray)
 | .c0 s_1 state_2r0 v_4r0=>
 bif (decide ((s_1.size:Int)≥64)) then
  bif (Nat.beq 8 state_2r0.length) then
  bif ((decide ((0:Int)≤(64:Int))) && (decide (64≤(s_1.size:Int)))) then
  (z0 state_2r0 (s_1.extract 0 (64:Int).toNat)).bind fun r0=>
  bif ((Nat.beq r0.length state_2r0.length) && (Nat.beq 8 r0.length)) then
  bif ((decide ((0:Int)≤(64:Int))) && (decide (64≤(s_1.size:Int)))) then
  k (.c0 (s_1.extract (64:Int).toNat s_1.size) r0 v_4r0)
  else none
  else none
  else none
  else none
 else
  bif (Nat.beq 8 state_2r0.length) then
  bif ((Nat.beq state_2r0.length v_4r0.length) && (Nat.beq 8 state_2r0.length)) then
  bif ((Nat.beq 8 state_2r0.length) && true) then
  some (state_2r0,s_1)
  else none
  else none
  else none
noncomputable def L_impl_blocks:Nat→Ob→Option ((List Int)×ByteArray)
 | 0,_=>none
 | m+1,s=>B_impl_blocks impl_oneBlock (L_impl_blocks m) s
noncomputable def impl_blocks:Vh:=E_impl_blocks impl_oneBlock (L_impl_blocks gas)
theorem Ju:Tells ctx PP 109 cv53 cv53 (fun a=>impl_blocks a.1 a.2):=
 have b:∀ z0,CutIs ctx PP 109 Tryz.f109 [] [(127,Zn z0)] cv53 Bo (B_impl_blocks z0):=fun z0 _ s=>by cases s <;> kernel_rfl
 have e:∀ z0,EntryIs ctx PP 109 [] [(127,Zn z0)] cv53 cv53 Bo (fun k a=>E_impl_blocks z0 k a.1 a.2):=fun z0 _ a=>by kernel_rfl
 fn_ok (hc Iu hl_nil) Tryz.func109 (fun s s' h=>by cases s;cases s';cases h;rfl) (fun _=>rfl) (fun _ _=>rfl) (b impl_oneBlock) (e impl_oneBlock) gas
noncomputable def Ku {γ:Type} (F:Vh):Hd ctx γ:=hdl cv53.dec (fun a=>F a.1 a.2) cv53.enc
abbrev Wh:=(List Int)→Option ByteArray
inductive Qb where
 | c0 (out_3:ByteArray) (v_6:(List Int)) (v_7:Int)
noncomputable def Eo:Qb→LI
 | .c0 out_3 v_6 v_7=>(tdo Tryz.f112 232,[(3,[.one (.str out_3)]),(6,[.arr 92 v_6]),(7,[.one (.int .i64 v_7)])],[])
noncomputable def E_impl_stateText (z0:PY) (k:Qb→Option ByteArray) (state_0:(List Int)):Option ByteArray:=
 bif (Nat.beq 8 state_0.length) then
 k (.c0 ⟨#[]⟩ state_0 0)
 else none
noncomputable def B_impl_stateText (z0:PY) (k:Qb→Option ByteArray):Qb→Option ByteArray
 | .c0 out_3 v_6 v_7=>
 bif (decide (v_7<8)) then
  bif (Nat.beq 8 v_6.length) then
  bif ((decide (0≤v_7)) && (decide (v_7<(v_6.length:Int)))) then
  (z0 (v_6.getD v_7.toNat 0)).bind fun r0=>
  bif (decide ((out_3.size+r0.size)≤9223372036854775807)) then
  k (.c0 (out_3++r0) v_6 (w64 (v_7+1)))
  else none
  else none
  else none
 else
  some out_3
noncomputable def L_impl_stateText:Nat→Qb→Option ByteArray
 | 0,_=>none
 | m+1,s=>B_impl_stateText impl_fourBytes (L_impl_stateText m) s
noncomputable def impl_stateText:Wh:=E_impl_stateText impl_fourBytes (L_impl_stateText gas)
theorem Lu:Tells ctx PP 112 cv51 cv6 (fun a=>impl_stateText a):=
 have b:∀ z0,CutIs ctx PP 112 Tryz.f112 [] [(61,FZ z0)] cv6 Eo (B_impl_stateText z0):=fun z0 _ s=>by cases s <;> kernel_rfl
 have e:∀ z0,EntryIs ctx PP 112 [] [(61,FZ z0)] cv51 cv6 Eo (fun k a=>E_impl_stateText z0 k a):=fun z0 _ a=>by kernel_rfl
 fn_ok (hc Je hl_nil) Tryz.func112 (fun s s' h=>by cases s;cases s';cases h;rfl) (fun _=>rfl) (fun _ _=>rfl) (b impl_fourBytes) (e impl_fourBytes) gas
noncomputable def Nu {γ:Type} (F:Wh):Hd ctx γ:=hdl cv51.dec (fun a=>F a) cv6.enc
abbrev Xh:=ByteArray→Option ByteArray
noncomputable def E_impl_DigestOf (z0:Ph) (z1:Rh) (z2:Vh) (z3:Wh) (s_0:ByteArray):Option ByteArray:=
 z0.bind fun r0=>
 (z1 (s_0.size:Int)).bind fun r1=>
 bif (decide ((s_0.size+r1.size)≤9223372036854775807)) then
 (z2 r0 (s_0++r1)).bind fun r2=>
 bif ((Nat.beq r2.1.length 8) && (Nat.beq 8 r2.1.length)) then
 bif (Nat.beq 8 r2.1.length) then
 (z3 r2.1).bind fun r3=>
 some r3
 else none
 else none
 else none
noncomputable def impl_DigestOf:Xh:=E_impl_DigestOf impl_firstState impl_ending impl_blocks impl_stateText
theorem Ou:Tells ctx PP 79 cv6 cv6 (fun a=>impl_DigestOf a):=fn_ok0 (hc Vt (hc Au (hc Ju (hc Lu hl_nil)))) Tryz.func79 ((fun z0 z1 z2 z3 a=>by kernel_rfl:∀ z0 z1 z2 z3,EntryIs0 ctx PP 79 [] [(110,Xt z0),(111,Du z1),(109,Ku z2),(112,Nu z3)] cv6 cv6 fun a=>E_impl_DigestOf z0 z1 z2 z3 a) impl_firstState impl_ending impl_blocks impl_stateText)
noncomputable def Qu {γ:Type} (F:Xh):Hd ctx γ:=hdl cv6.dec (fun a=>F a) cv6.enc
abbrev Yh:=ByteArray→Int→Option ByteArray
inductive Ub where
 | c0 (x_1:Int) (v_10:Int) (v_11:Int) (out_5:(List Int))
noncomputable def Ho:Ub→LI
 | .c0 x_1 v_10 v_11 out_5=>(tdo Tryz.f124 232,[(1,[.one (.int .u8 x_1)]),(5,[.one (.own 368)]),(10,[.one (.int .i64 v_10)]),(11,[.one (.int .i64 v_11)])],[(368,.sl 5 out_5)])
noncomputable def E_impl_xored (k:Ub→Option ByteArray) (s_0:ByteArray) (x_1:Int):Option ByteArray:=
 bif (decide (s_0.size≤9223372036854775807)) then
 k (.c0 x_1 ((bytesOf s_0).length:Int) 0 (bytesOf s_0))
 else none
noncomputable def B_impl_xored (k:Ub→Option ByteArray):Ub→Option ByteArray
 | .c0 x_1 v_10 v_11 out_5=>
 bif (decide (v_11<v_10)) then
  bif ((decide (0≤v_11)) && (decide (v_11<(out_5.length:Int)))) then
  bif ((decide (0≤v_11)) && (decide (v_11<(out_5.length:Int)))) then
  k (.c0 x_1 v_10 (w64 (v_11+1)) (out_5.set v_11.toNat (w8 (((BitVec.toNat ((BitVec.ofInt (IntKind.bits IntKind.u8) (out_5.getD v_11.toNat 0)) ^^^ (BitVec.ofInt (IntKind.bits IntKind.u8) x_1))):Nat):Int))))
  else none
  else none
 else
  some (ofBytes out_5)
noncomputable def L_impl_xored:Nat→Ub→Option ByteArray
 | 0,_=>none
 | m+1,s=>B_impl_xored (L_impl_xored m) s
noncomputable def impl_xored:Yh:=E_impl_xored (L_impl_xored gas)
theorem Ru:Tells ctx PP 124 cv42 cv6 (fun a=>impl_xored a.1 a.2):=
 have b:CutIs ctx PP 124 Tryz.f124 [] [] cv6 Ho (B_impl_xored):=fun _ s=>by cases s <;> kernel_rfl
 have e:EntryIs ctx PP 124 [] [] cv42 cv6 Ho (fun k a=>E_impl_xored k a.1 a.2):=fun _ a=>by kernel_rfl
 fn_ok hl_nil Tryz.func124 (fun s s' h=>by cases s;cases s';cases h;rfl) (fun _=>rfl) (fun _ _=>rfl) b e gas
noncomputable def Uu {γ:Type} (F:Yh):Hd ctx γ:=hdl cv42.dec (fun a=>F a.1 a.2) cv6.enc
abbrev Vb:=ByteArray→ByteArray→Option ByteArray
noncomputable def E_impl_MacOf (z0:Xh) (z1:Ue) (z2:Yh) (key_0:ByteArray) (s_1:ByteArray):Option ByteArray:=
 bif (decide ((key_0.size:Int) > 64)) then
 (z0 key_0).bind fun r0=>
 (z1 (w64 (64 - (r0.size:Int)))).bind fun r1=>
 bif (decide ((r0.size+r1.size)≤9223372036854775807)) then
 (z2 (r0++r1) 92).bind fun r2=>
 (z2 (r0++r1) 54).bind fun r3=>
 bif (decide ((r3.size+s_1.size)≤9223372036854775807)) then
 (z0 (r3++s_1)).bind fun r4=>
 bif (decide ((r2.size+r4.size)≤9223372036854775807)) then
 (z0 (r2++r4)).bind fun r5=>
 some r5
 else none
 else none
 else none
 else
 (z1 (w64 (64 - (key_0.size:Int)))).bind fun r6=>
 bif (decide ((key_0.size+r6.size)≤9223372036854775807)) then
 (z2 (key_0++r6) 92).bind fun r7=>
 (z2 (key_0++r6) 54).bind fun r8=>
 bif (decide ((r8.size+s_1.size)≤9223372036854775807)) then
 (z0 (r8++s_1)).bind fun r9=>
 bif (decide ((r7.size+r9.size)≤9223372036854775807)) then
 (z0 (r7++r9)).bind fun r10=>
 some r10
 else none
 else none
 else none
noncomputable def impl_MacOf:Vb:=E_impl_MacOf impl_DigestOf impl_zeros impl_xored
theorem Io:Tells ctx PP 102 cv43 cv6 (fun a=>impl_MacOf a.1 a.2):=fn_ok0 (hc Ou (hc Rn (hc Ru hl_nil))) Tryz.func102 ((fun z0 z1 z2 a=>by kernel_rfl:∀ z0 z1 z2,EntryIs0 ctx PP 102 [] [(79,Qu z0),(80,Tn z1),(124,Uu z2)] cv43 cv6 fun a=>E_impl_MacOf z0 z1 z2 a.1 a.2) impl_DigestOf impl_zeros impl_xored)
noncomputable def Zh {γ:Type} (F:Vb):Hd ctx γ:=hdl cv43.dec (fun a=>F a.1 a.2) cv6.enc
abbrev Ai:=ByteArray→Int→Int→Option (ByteArray×Bool)
inductive Xb where
 | c0 (key_0:ByteArray) (n_2:Int) (v_8:ByteArray) (out_10:ByteArray) (i_11:Int)
noncomputable def Jo:Xb→LI
 | .c0 key_0 n_2 v_8 out_10 i_11=>(tdo Tryz.f63 2000,[(0,[.one (.str key_0)]),(2,[.one (.int .i64 n_2)]),(8,[.one (.str v_8)]),(10,[.one (.str out_10)]),(11,[.one (.int .i64 i_11)])],[])
noncomputable def E_impl_Mask (z0:Oe) (z1:IK) (z2:JZ) (z3:Vb) (k:Xb→Option (ByteArray×Bool)) (key_0:ByteArray) (num_1:Int) (n_2:Int):Option (ByteArray×Bool):=
 (z0 num_1).bind fun r0=>
 bif (!r0.2) then
 some (⟨#[]⟩,false)
 else
 (z1 n_2 0 8000).bind fun r1=>
 bif (!r1) then
  some (⟨#[]⟩,false)
 else
  k (.c0 key_0 n_2 r0.1 ⟨#[]⟩ 0)
noncomputable def B_impl_Mask (z0:Oe) (z1:IK) (z2:JZ) (z3:Vb) (k:Xb→Option (ByteArray×Bool)):Xb→Option (ByteArray×Bool)
 | .c0 key_0 n_2 v_8 out_10 i_11=>
 bif (decide ((out_10.size:Int)<n_2)) then
  bif (decide (((⟨#[109]⟩:ByteArray).size+v_8.size)≤9223372036854775807)) then
  (z2 i_11).bind fun r0=>
  bif (decide ((((⟨#[109]⟩:ByteArray)++v_8).size+r0.size)≤9223372036854775807)) then
  (z3 key_0 (((⟨#[109]⟩:ByteArray)++v_8)++r0)).bind fun r1=>
  bif (decide ((out_10.size+r1.size)≤9223372036854775807)) then
  k (.c0 key_0 n_2 v_8 (out_10++r1) (w64 (i_11+1)))
  else none
  else none
  else none
 else
  bif ((decide (0≤n_2)) && (decide (n_2≤(out_10.size:Int)))) then
  some ((out_10.extract 0 n_2.toNat),true)
  else none
noncomputable def L_impl_Mask:Nat→Xb→Option (ByteArray×Bool)
 | 0,_=>none
 | m+1,s=>B_impl_Mask impl_VarText impl_in impl_oneByte impl_MacOf (L_impl_Mask m) s
noncomputable def impl_Mask:Ai:=E_impl_Mask impl_VarText impl_in impl_oneByte impl_MacOf (L_impl_Mask gas)
theorem Vu:Tells ctx PP 63 cv44 cv30 (fun a=>impl_Mask a.1 a.2.1 a.2.2):=
 have b:∀ z0 z1 z2 z3,CutIs ctx PP 63 Tryz.f63 [] [(101,Pn z0),(45,CV z1),(85,Qe z2),(102,Zh z3)] cv30 Jo (B_impl_Mask z0 z1 z2 z3):=fun z0 z1 z2 z3 _ s=>by cases s <;> kernel_rfl
 have e:∀ z0 z1 z2 z3,EntryIs ctx PP 63 [] [(101,Pn z0),(45,CV z1),(85,Qe z2),(102,Zh z3)] cv44 cv30 Jo (fun k a=>E_impl_Mask z0 z1 z2 z3 k a.1 a.2.1 a.2.2):=fun z0 z1 z2 z3 _ a=>by kernel_rfl
 fn_ok (hc Ut (hc WY (hc Oh (hc Io hl_nil)))) Tryz.func63 (fun s s' h=>by cases s;cases s';cases h;rfl) (fun _=>rfl) (fun _ _=>rfl) (b impl_VarText impl_in impl_oneByte impl_MacOf) (e impl_VarText impl_in impl_oneByte impl_MacOf) gas
noncomputable def Wu {γ:Type} (F:Ai):Hd ctx γ:=hdl cv44.dec (fun a=>F a.1 a.2.1 a.2.2) cv30.enc
abbrev Ci:=ByteArray→Int→ByteArray→Option ByteArray
noncomputable def E_impl_tag (z0:QY) (z1:Vb) (key_0:ByteArray) (num_1:Int) (s_2:ByteArray):Option ByteArray:=
 (z0 num_1).bind fun r0=>
 bif (decide (((⟨#[116]⟩:ByteArray).size+r0.size)≤9223372036854775807)) then
 bif (decide ((((⟨#[116]⟩:ByteArray)++r0).size+s_2.size)≤9223372036854775807)) then
 (z1 key_0 (((⟨#[116]⟩:ByteArray)++r0)++s_2)).bind fun r1=>
 bif ((decide ((0:Int)≤(16:Int))) && (decide (16≤(r1.size:Int)))) then
 some (r1.extract 0 (16:Int).toNat)
 else none
 else none
 else none
noncomputable def impl_tag:Ci:=E_impl_tag impl_varText impl_MacOf
theorem Xu:Tells ctx PP 64 cv45 cv6 (fun a=>impl_tag a.1 a.2.1 a.2.2):=fn_ok0 (hc GZ (hc Io hl_nil)) Tryz.func64 ((fun z0 z1 a=>by kernel_rfl:∀ z0 z1,EntryIs0 ctx PP 64 [] [(67,IZ z0),(102,Zh z1)] cv45 cv6 fun a=>E_impl_tag z0 z1 a.1 a.2.1 a.2.2) impl_varText impl_MacOf)
noncomputable def Yu {γ:Type} (F:Ci):Hd ctx γ:=hdl cv45.dec (fun a=>F a.1 a.2.1 a.2.2) cv6.enc
abbrev Di:=ByteArray→ByteArray→Option ByteArray
inductive Yb where
 | c0 (b_1:ByteArray) (v_10:Int) (v_11:Int) (out_5:(List Int))
noncomputable def Ko:Yb→LI
 | .c0 b_1 v_10 v_11 out_5=>(tdo Tryz.f65 232,[(1,[.one (.str b_1)]),(5,[.one (.own 368)]),(10,[.one (.int .i64 v_10)]),(11,[.one (.int .i64 v_11)])],[(368,.sl 5 out_5)])
noncomputable def E_impl_both (k:Yb→Option ByteArray) (a_0:ByteArray) (b_1:ByteArray):Option ByteArray:=
 bif (decide (a_0.size≤9223372036854775807)) then
 k (.c0 b_1 ((bytesOf a_0).length:Int) 0 (bytesOf a_0))
 else none
noncomputable def B_impl_both (k:Yb→Option ByteArray):Yb→Option ByteArray
 | .c0 b_1 v_10 v_11 out_5=>
 bif (decide (v_11<v_10)) then
  bif ((decide (0≤v_11)) && (decide (v_11<(out_5.length:Int)))) then
  bif ((decide (0≤v_11)) && (decide (v_11<(b_1.size:Int)))) then
  bif ((decide (0≤v_11)) && (decide (v_11<(out_5.length:Int)))) then
  k (.c0 b_1 v_10 (w64 (v_11+1)) (out_5.set v_11.toNat (w8 (((BitVec.toNat ((BitVec.ofInt (IntKind.bits IntKind.u8) (out_5.getD v_11.toNat 0)) ^^^ (BitVec.ofInt (IntKind.bits IntKind.u8) (bt b_1 v_11)))):Nat):Int))))
  else none
  else none
  else none
 else
  some (ofBytes out_5)
noncomputable def L_impl_both:Nat→Yb→Option ByteArray
 | 0,_=>none
 | m+1,s=>B_impl_both (L_impl_both m) s
noncomputable def impl_both:Di:=E_impl_both (L_impl_both gas)
theorem Zu:Tells ctx PP 65 cv43 cv6 (fun a=>impl_both a.1 a.2):=
 have b:CutIs ctx PP 65 Tryz.f65 [] [] cv6 Ko (B_impl_both):=fun _ s=>by cases s <;> kernel_rfl
 have e:EntryIs ctx PP 65 [] [] cv43 cv6 Ko (fun k a=>E_impl_both k a.1 a.2):=fun _ a=>by kernel_rfl
 fn_ok hl_nil Tryz.func65 (fun s s' h=>by cases s;cases s';cases h;rfl) (fun _=>rfl) (fun _ _=>rfl) b e gas
noncomputable def Bv {γ:Type} (F:Di):Hd ctx γ:=hdl cv43.dec (fun a=>F a.1 a.2) cv6.enc
abbrev Ze:=ByteArray→Int→ByteArray→Option (ByteArray×Bool)
noncomputable def E_impl_OpenText (z0:Ai) (z1:Ci) (z2:Di) (key_0:ByteArray) (num_1:Int) (text_2:ByteArray):Option (ByteArray×Bool):=
 bif (decide ((w64 ((text_2.size:Int) - 16))<0)) then
 some (⟨#[]⟩,false)
 else
 (z0 key_0 num_1 (w64 ((text_2.size:Int) - 16))).bind fun r0=>
 bif (!r0.2) then
  some (⟨#[]⟩,false)
 else
  bif ((decide (0≤(w64 ((text_2.size:Int) - 16)))) && (decide ((w64 ((text_2.size:Int) - 16))≤(text_2.size:Int)))) then
  (z1 key_0 num_1 (text_2.extract 0 (w64 ((text_2.size:Int) - 16)).toNat)).bind fun r1=>
  bif ((decide (0≤(w64 ((text_2.size:Int) - 16)))) && (decide ((w64 ((text_2.size:Int) - 16))≤(text_2.size:Int)))) then
  bif (!((ByteArray.toList r1) == (ByteArray.toList (text_2.extract (w64 ((text_2.size:Int) - 16)).toNat text_2.size)))) then
  some (⟨#[]⟩,false)
  else
  bif ((decide (0≤(w64 ((text_2.size:Int) - 16)))) && (decide ((w64 ((text_2.size:Int) - 16))≤(text_2.size:Int)))) then
  (z2 (text_2.extract 0 (w64 ((text_2.size:Int) - 16)).toNat) r0.1).bind fun r2=>
  some (r2,true)
  else none
  else none
  else none
noncomputable def impl_OpenText:Ze:=E_impl_OpenText impl_Mask impl_tag impl_both
theorem Dv:Tells ctx PP 28 cv45 cv30 (fun a=>impl_OpenText a.1 a.2.1 a.2.2):=fn_ok0 (hc Vu (hc Xu (hc Zu hl_nil))) Tryz.func28 ((fun z0 z1 z2 a=>by kernel_rfl:∀ z0 z1 z2,EntryIs0 ctx PP 28 [] [(63,Wu z0),(64,Yu z1),(65,Bv z2)] cv45 cv30 fun a=>E_impl_OpenText z0 z1 z2 a.1 a.2.1 a.2.2) impl_Mask impl_tag impl_both)
noncomputable def Oo {γ:Type} (F:Ze):Hd ctx γ:=hdl cv45.dec (fun a=>F a.1 a.2.1 a.2.2) cv30.enc
abbrev Ei:=SFields→Option (Int×SFields)
noncomputable def E_impl_fields_num (z0:XY) (f_0:SFields):Option (Int×SFields):=
 (z0 f_0.fText f_0.fAt).bind fun r0=>
 bif (!r0.2.2) then
 some (0,⟨f_0.fText,f_0.fAt,true⟩)
 else
 some (r0.1,⟨f_0.fText,r0.2.1,f_0.fBad⟩)
noncomputable def impl_fields_num:Ei:=E_impl_fields_num impl_ReadVar
theorem Fv:Tells ctx PP 103 cv54 cv55 (fun a=>impl_fields_num a):=fn_ok0 (hc Ie hl_nil) Tryz.func103 ((fun z0 a=>by kernel_rfl:∀ z0,EntryIs0 ctx PP 103 [0] [(60,Za z0)] cv54 cv55 fun a=>E_impl_fields_num z0 a) impl_ReadVar)
noncomputable def Gv {γ:Type} (F:Ei):Hd ctx γ:=hdl cv54.dec (fun a=>F a) cv55.enc
abbrev Gi:=ByteArray→Int→Option (ByteArray×Int×Bool)
noncomputable def E_impl_ReadShort (z0:XY) (text_0:ByteArray) (at_1:Int):Option (ByteArray×Int×Bool):=
 (z0 text_0 at_1).bind fun r0=>
 bif (!r0.2.2) then
 some (⟨#[]⟩,(0,false))
 else
 bif (decide (r0.1 > 20000)) then
  some (⟨#[]⟩,(0,false))
 else
  bif (decide (r0.1 > (w64 ((text_0.size:Int) - r0.2.1)))) then
  some (⟨#[]⟩,(0,false))
  else
  bif (((decide (0≤r0.2.1)) && (decide (r0.2.1≤(w64 (r0.2.1+r0.1))))) && (decide ((w64 (r0.2.1+r0.1))≤(text_0.size:Int)))) then
  some ((text_0.extract r0.2.1.toNat (w64 (r0.2.1+r0.1)).toNat),((w64 (r0.2.1+r0.1)),true))
  else none
noncomputable def impl_ReadShort:Gi:=E_impl_ReadShort impl_ReadVar
theorem Jv:Tells ctx PP 125 cv9 cv56 (fun a=>impl_ReadShort a.1 a.2):=fn_ok0 (hc Ie hl_nil) Tryz.func125 ((fun z0 a=>by kernel_rfl:∀ z0,EntryIs0 ctx PP 125 [] [(60,Za z0)] cv9 cv56 fun a=>E_impl_ReadShort z0 a.1 a.2) impl_ReadVar)
noncomputable def Kv {γ:Type} (F:Gi):Hd ctx γ:=hdl cv9.dec (fun a=>F a.1 a.2) cv56.enc
abbrev Ii:=SFields→Option (ByteArray×SFields)
noncomputable def E_impl_fields_short (z0:Gi) (f_0:SFields):Option (ByteArray×SFields):=
 (z0 f_0.fText f_0.fAt).bind fun r0=>
 bif (!r0.2.2) then
 some (⟨#[]⟩,⟨f_0.fText,f_0.fAt,true⟩)
 else
 some (r0.1,⟨f_0.fText,r0.2.1,f_0.fBad⟩)
noncomputable def impl_fields_short:Ii:=E_impl_fields_short impl_ReadShort
theorem Nv:Tells ctx PP 104 cv54 cv57 (fun a=>impl_fields_short a):=fn_ok0 (hc Jv hl_nil) Tryz.func104 ((fun z0 a=>by kernel_rfl:∀ z0,EntryIs0 ctx PP 104 [0] [(125,Kv z0)] cv54 cv57 fun a=>E_impl_fields_short z0 a) impl_ReadShort)
noncomputable def Ov {γ:Type} (F:Ii):Hd ctx γ:=hdl cv54.dec (fun a=>F a) cv57.enc
abbrev Ji:=SThing→Option Bool
noncomputable def E_impl_ThingOk (z0:IK) (x_0:SThing):Option Bool:=
 (z0 x_0.fId 1 1000).bind fun r0=>
 bif (!r0) then
 some false
 else
 (z0 x_0.fNext 0 16).bind fun r1=>
 bif (!r1) then
  some false
 else
  bif (x_0.fKind != 2) then
  bif (x_0.fNext != 0) then
   some false
  else
   bif x_0.fSigns then
   some false
   else
   bif (x_0.fKind != 1) then
    bif x_0.fWraps then
    some false
    else
    bif (x_0.fKind == 1) then
     bif (x_0.fKind == 1) then
     some ((x_0.fValue.size:Int) == 32)
     else
     bif (x_0.fKind == 3) then
      some (decide ((x_0.fValue.size:Int)≤100))
     else
      some false
    else
     bif (x_0.fKind == 2) then
     some ((x_0.fValue.size:Int) == 32)
     else
     bif (x_0.fKind == 3) then
      some (decide ((x_0.fValue.size:Int)≤100))
     else
      some false
   else
    bif (x_0.fKind == 1) then
    bif (x_0.fKind == 1) then
     some ((x_0.fValue.size:Int) == 32)
    else
     bif (x_0.fKind == 3) then
     some (decide ((x_0.fValue.size:Int)≤100))
     else
     some false
    else
    bif (x_0.fKind == 2) then
     some ((x_0.fValue.size:Int) == 32)
    else
     bif (x_0.fKind == 3) then
     some (decide ((x_0.fValue.size:Int)≤100))
     else
     some false
  else
  bif (x_0.fKind != 1) then
   bif x_0.fWraps then
   some false
   else
   bif (x_0.fKind == 1) then
    bif (x_0.fKind == 1) then
    some ((x_0.fValue.size:Int) == 32)
    else
    bif (x_0.fKind == 3) then
     some (decide ((x_0.fValue.size:Int)≤100))
    else
     some false
   else
    bif (x_0.fKind == 2) then
    some ((x_0.fValue.size:Int) == 32)
    else
    bif (x_0.fKind == 3) then
     some (decide ((x_0.fValue.size:Int)≤100))
    else
     some false
  else
   bif (x_0.fKind == 1) then
   bif (x_0.fKind == 1) then
    some ((x_0.fValue.size:Int) == 32)
   else
    bif (x_0.fKind == 3) then
    some (decide ((x_0.fValue.size:Int)≤100))
    else
    some false
   else
   bif (x_0.fKind == 2) then
    some ((x_0.fValue.size:Int) == 32)
   else
    bif (x_0.fKind == 3) then
    some (decide ((x_0.fValue.size:Int)≤100))
    else
    some false
noncomputable def impl_ThingOk:Ji:=E_impl_ThingOk impl_in
theorem Pv:Tells ctx PP 119 cv28 cv1 (fun a=>impl_ThingOk a):=fn_ok0 (hc WY hl_nil) Tryz.func119 ((fun z0 a=>by kernel_rfl:∀ z0,EntryIs0 ctx PP 119 [] [(45,CV z0)] cv28 cv1 fun a=>E_impl_ThingOk z0 a) impl_in)
noncomputable def Qv {γ:Type} (F:Ji):Hd ctx γ:=hdl cv28.dec (fun a=>F a) cv1.enc
abbrev Oi:=SThing→Option Int
inductive Zb where
 | c0 (n_3:Int) (v_15:Int) (v_16:Int) (v_14:(List Bool))
noncomputable def Po:Zb→LI
 | .c0 n_3 v_15 v_16 v_14=>(tdo Tryz.f120 232,[(3,[.one (.int .i64 n_3)]),(14,[.one (.own 944)]),(15,[.one (.int .i64 v_15)]),(16,[.one (.int .i64 v_16)])],[(944,.sl 4 v_14)])
noncomputable def E_impl_flags (k:Zb→Option Int) (x_0:SThing):Option Int:=
 k (.c0 0 ((4:Nat):Int) 0 [x_0.fHidden,x_0.fFixed,x_0.fSigns,x_0.fWraps])
noncomputable def Qo (k:Zb→Option Int):Zb→Option Int
 | .c0 n_3 v_15 v_16 v_14=>
 bif (decide (v_16<v_15)) then
  bif ((decide (0≤v_16)) && (decide (v_16<(v_14.length:Int)))) then
  bif (v_14.getD v_16.toNat false) then
  bif (decide (0≤v_16)) then
  k (.c0 (w64 (((BitVec.toNat ((BitVec.ofInt (IntKind.bits IntKind.i64) n_3) ||| (BitVec.ofInt (IntKind.bits IntKind.i64) (w64 (1*(2 ^ (Min.min v_16.toNat (IntKind.bits IntKind.i64)))))))):Nat):Int)) v_15 (w64 (v_16+1)) v_14)
  else none
  else
  k (.c0 n_3 v_15 (w64 (v_16+1)) v_14)
  else none
 else
  some n_3
noncomputable def L_impl_flags:Nat→Zb→Option Int
 | 0,_=>none
 | m+1,s=>Qo (L_impl_flags m) s
noncomputable def impl_flags:Oi:=E_impl_flags (L_impl_flags gas)
theorem Sv:Tells ctx PP 120 cv28 cv27 (fun a=>impl_flags a):=
 have b:CutIs ctx PP 120 Tryz.f120 [] [] cv27 Po (Qo):=fun _ s=>by cases s <;> kernel_rfl
 have e:EntryIs ctx PP 120 [] [] cv28 cv27 Po (fun k a=>E_impl_flags k a):=fun _ a=>by kernel_rfl
 fn_ok hl_nil Tryz.func120 (fun s s' h=>by cases s;cases s';cases h;rfl) (fun _=>rfl) (fun _ _=>rfl) b e gas
noncomputable def Tv {γ:Type} (F:Oi):Hd ctx γ:=hdl cv28.dec (fun a=>F a) cv27.enc
abbrev Qi:=ByteArray→Option ByteArray
noncomputable def E_impl_shortText (z0:QY) (s_0:ByteArray):Option ByteArray:=
 (z0 (s_0.size:Int)).bind fun r0=>
 bif (decide ((r0.size+s_0.size)≤9223372036854775807)) then
 some (r0++s_0)
 else none
noncomputable def impl_shortText:Qi:=E_impl_shortText impl_varText
theorem Wv:Tells ctx PP 121 cv6 cv6 (fun a=>impl_shortText a):=fn_ok0 (hc GZ hl_nil) Tryz.func121 ((fun z0 a=>by kernel_rfl:∀ z0,EntryIs0 ctx PP 121 [] [(67,IZ z0)] cv6 cv6 fun a=>E_impl_shortText z0 a) impl_varText)
noncomputable def Xv {γ:Type} (F:Qi):Hd ctx γ:=hdl cv6.dec (fun a=>F a) cv6.enc
abbrev Af:=SThing→Option (ByteArray×Bool)
noncomputable def E_impl_ThingText (z0:Ji) (z1:QY) (z2:JZ) (z3:Oi) (z4:Qi) (x_0:SThing):Option (ByteArray×Bool):=
 (z0 x_0).bind fun r0=>
 bif (!r0) then
 some (⟨#[]⟩,false)
 else
 (z1 x_0.fId).bind fun r1=>
 (z2 x_0.fKind).bind fun r2=>
 bif (decide ((r1.size+r2.size)≤9223372036854775807)) then
 (z3 x_0).bind fun r3=>
 (z2 r3).bind fun r4=>
 bif (decide (((r1++r2).size+r4.size)≤9223372036854775807)) then
 (z4 x_0.fValue).bind fun r5=>
 bif (decide ((((r1++r2)++r4).size+r5.size)≤9223372036854775807)) then
 (z1 x_0.fNext).bind fun r6=>
 bif (decide (((((r1++r2)++r4)++r5).size+r6.size)≤9223372036854775807)) then
 some (((((r1++r2)++r4)++r5)++r6),true)
 else none
 else none
 else none
 else none
noncomputable def impl_ThingText:Af:=E_impl_ThingText impl_ThingOk impl_varText impl_oneByte impl_flags impl_shortText
theorem Ro:Tells ctx PP 84 cv28 cv30 (fun a=>impl_ThingText a):=fn_ok0 (hc Pv (hc GZ (hc Oh (hc Sv (hc Wv hl_nil))))) Tryz.func84 ((fun z0 z1 z2 z3 z4 a=>by kernel_rfl:∀ z0 z1 z2 z3 z4,EntryIs0 ctx PP 84 [] [(119,Qv z0),(67,IZ z1),(85,Qe z2),(120,Tv z3),(121,Xv z4)] cv28 cv30 fun a=>E_impl_ThingText z0 z1 z2 z3 z4 a) impl_ThingOk impl_varText impl_oneByte impl_flags impl_shortText)
noncomputable def Uo {γ:Type} (F:Af):Hd ctx γ:=hdl cv28.dec (fun a=>F a) cv30.enc
abbrev Ri:=ByteArray→Option (SThing×Bool)
noncomputable def E_impl_ReadThing (z0:Ei) (z1:Ii) (z2:Af) (text_0:ByteArray):Option (SThing×Bool):=
 (z0 ⟨text_0,0,false⟩).bind fun r0=>
 (z0 r0.2).bind fun r1=>
 (z0 r1.2).bind fun r2=>
 (z1 r2.2).bind fun r3=>
 (z0 r3.2).bind fun r4=>
 (z2 ⟨r0.1,r1.1,((w64 (((BitVec.toNat ((BitVec.ofInt (IntKind.bits IntKind.i64) r2.1) &&& (BitVec.ofInt (IntKind.bits IntKind.i64) 1))):Nat):Int)) != 0),((w64 (((BitVec.toNat ((BitVec.ofInt (IntKind.bits IntKind.i64) r2.1) &&& (BitVec.ofInt (IntKind.bits IntKind.i64) 2))):Nat):Int)) != 0),((w64 (((BitVec.toNat ((BitVec.ofInt (IntKind.bits IntKind.i64) r2.1) &&& (BitVec.ofInt (IntKind.bits IntKind.i64) 4))):Nat):Int)) != 0),((w64 (((BitVec.toNat ((BitVec.ofInt (IntKind.bits IntKind.i64) r2.1) &&& (BitVec.ofInt (IntKind.bits IntKind.i64) 8))):Nat):Int)) != 0),r3.1,r4.1⟩).bind fun r5=>
 bif r4.2.fBad then
 some (⟨0,0,false,false,false,false,⟨#[]⟩,0⟩,false)
 else
 bif (!r5.2) then
  some (⟨0,0,false,false,false,false,⟨#[]⟩,0⟩,false)
 else
  bif (!((ByteArray.toList r5.1) == (ByteArray.toList text_0))) then
  some (⟨0,0,false,false,false,false,⟨#[]⟩,0⟩,false)
  else
  some (⟨r0.1,r1.1,((w64 (((BitVec.toNat ((BitVec.ofInt (IntKind.bits IntKind.i64) r2.1) &&& (BitVec.ofInt (IntKind.bits IntKind.i64) 1))):Nat):Int)) != 0),((w64 (((BitVec.toNat ((BitVec.ofInt (IntKind.bits IntKind.i64) r2.1) &&& (BitVec.ofInt (IntKind.bits IntKind.i64) 2))):Nat):Int)) != 0),((w64 (((BitVec.toNat ((BitVec.ofInt (IntKind.bits IntKind.i64) r2.1) &&& (BitVec.ofInt (IntKind.bits IntKind.i64) 4))):Nat):Int)) != 0),((w64 (((BitVec.toNat ((BitVec.ofInt (IntKind.bits IntKind.i64) r2.1) &&& (BitVec.ofInt (IntKind.bits IntKind.i64) 8))):Nat):Int)) != 0),r3.1,r4.1⟩,true)
noncomputable def impl_ReadThing:Ri:=E_impl_ReadThing impl_fields_num impl_fields_short impl_ThingText
theorem Yv:Tells ctx PP 66 cv6 cv34 (fun a=>impl_ReadThing a):=fn_ok0 (hc Fv (hc Nv (hc Ro hl_nil))) Tryz.func66 ((fun z0 z1 z2 a=>by kernel_rfl:∀ z0 z1 z2,EntryIs0 ctx PP 66 [] [(103,Gv z0),(104,Ov z1),(84,Uo z2)] cv6 cv34 fun a=>E_impl_ReadThing z0 z1 z2 a) impl_fields_num impl_fields_short impl_ThingText)
noncomputable def Zv {γ:Type} (F:Ri):Hd ctx γ:=hdl cv6.dec (fun a=>F a) cv34.enc
abbrev Si:=SRec→Option (ByteArray×Bool)
noncomputable def E_impl_RecText (z0:QY) (z1:IK) (z2:Af) (z3:JZ) (r_0:SRec):Option (ByteArray×Bool):=
 bif (r_0.fKind == 1) then
 bif (!((r_0.fText.size:Int) == 32)) then
  some (⟨#[]⟩,false)
 else
  bif (!((r_0.fKind == r_0.fKind) && (((ByteArray.toList r_0.fText) == (ByteArray.toList r_0.fText)) && ((r_0.fNum == 0) && (((r_0.fThing.fId == 0) && ((r_0.fThing.fKind == 0) && ((r_0.fThing.fHidden == false) && ((r_0.fThing.fFixed == false) && ((r_0.fThing.fSigns == false) && ((r_0.fThing.fWraps == false) && (((ByteArray.toList r_0.fThing.fValue) == (ByteArray.toList ⟨#[]⟩)) && ((r_0.fThing.fNext == 0) && true)))))))) && true))))) then
  some (⟨#[]⟩,false)
  else
  (z3 r_0.fKind).bind fun r0=>
  bif (decide ((r0.size+r_0.fText.size)≤9223372036854775807)) then
  some ((r0++r_0.fText),true)
  else none
 else
 bif (r_0.fKind == 2) then
  (z0 r_0.fNum).bind fun r1=>
  (z1 r_0.fNum 0 3).bind fun r2=>
  bif (!r2) then
  some (⟨#[]⟩,false)
  else
  bif (!((r_0.fKind == r_0.fKind) && (((ByteArray.toList r_0.fText) == (ByteArray.toList ⟨#[]⟩)) && ((r_0.fNum == r_0.fNum) && (((r_0.fThing.fId == 0) && ((r_0.fThing.fKind == 0) && ((r_0.fThing.fHidden == false) && ((r_0.fThing.fFixed == false) && ((r_0.fThing.fSigns == false) && ((r_0.fThing.fWraps == false) && (((ByteArray.toList r_0.fThing.fValue) == (ByteArray.toList ⟨#[]⟩)) && ((r_0.fThing.fNext == 0) && true)))))))) && true))))) then
   some (⟨#[]⟩,false)
  else
   (z3 r_0.fKind).bind fun r3=>
   bif (decide ((r3.size+r1.size)≤9223372036854775807)) then
   some ((r3++r1),true)
   else none
 else
  bif (r_0.fKind == 3) then
  (z2 r_0.fThing).bind fun r4=>
  bif (!r4.2) then
   some (⟨#[]⟩,false)
  else
   bif (!((r_0.fKind == r_0.fKind) && (((ByteArray.toList r_0.fText) == (ByteArray.toList ⟨#[]⟩)) && ((r_0.fNum == 0) && (((r_0.fThing.fId == r_0.fThing.fId) && ((r_0.fThing.fKind == r_0.fThing.fKind) && ((r_0.fThing.fHidden == r_0.fThing.fHidden) && ((r_0.fThing.fFixed == r_0.fThing.fFixed) && ((r_0.fThing.fSigns == r_0.fThing.fSigns) && ((r_0.fThing.fWraps == r_0.fThing.fWraps) && (((ByteArray.toList r_0.fThing.fValue) == (ByteArray.toList r_0.fThing.fValue)) && ((r_0.fThing.fNext == r_0.fThing.fNext) && true)))))))) && true))))) then
   some (⟨#[]⟩,false)
   else
   (z3 r_0.fKind).bind fun r5=>
   bif (decide ((r5.size+r4.1.size)≤9223372036854775807)) then
   some ((r5++r4.1),true)
   else none
  else
  bif (r_0.fKind == 4) then
   (z0 r_0.fNum).bind fun r6=>
   (z1 r_0.fNum 1 1000).bind fun r7=>
   bif (!r7) then
   some (⟨#[]⟩,false)
   else
   bif (!((r_0.fKind == r_0.fKind) && (((ByteArray.toList r_0.fText) == (ByteArray.toList ⟨#[]⟩)) && ((r_0.fNum == r_0.fNum) && (((r_0.fThing.fId == 0) && ((r_0.fThing.fKind == 0) && ((r_0.fThing.fHidden == false) && ((r_0.fThing.fFixed == false) && ((r_0.fThing.fSigns == false) && ((r_0.fThing.fWraps == false) && (((ByteArray.toList r_0.fThing.fValue) == (ByteArray.toList ⟨#[]⟩)) && ((r_0.fThing.fNext == 0) && true)))))))) && true))))) then
    some (⟨#[]⟩,false)
   else
    (z3 r_0.fKind).bind fun r8=>
    bif (decide ((r8.size+r6.size)≤9223372036854775807)) then
    some ((r8++r6),true)
    else none
  else
   some (⟨#[]⟩,false)
noncomputable def impl_RecText:Si:=E_impl_RecText impl_varText impl_in impl_ThingText impl_oneByte
theorem Aw:Tells ctx PP 44 cv31 cv30 (fun a=>impl_RecText a):=fn_ok0 (hc GZ (hc WY (hc Ro (hc Oh hl_nil)))) Tryz.func44 ((fun z0 z1 z2 z3 a=>by kernel_rfl:∀ z0 z1 z2 z3,EntryIs0 ctx PP 44 [] [(67,IZ z0),(45,CV z1),(84,Uo z2),(85,Qe z3)] cv31 cv30 fun a=>E_impl_RecText z0 z1 z2 z3 a) impl_varText impl_in impl_ThingText impl_oneByte)
noncomputable def Dw {γ:Type} (F:Si):Hd ctx γ:=hdl cv31.dec (fun a=>F a) cv30.enc
abbrev Bf:=ByteArray→Option (SRec×Bool)
noncomputable def E_impl_ReadRec (z0:Ri) (z1:XY) (z2:Si) (text_0:ByteArray):Option (SRec×Bool):=
 bif ((ByteArray.toList text_0) == (ByteArray.toList ⟨#[]⟩)) then
 some (⟨0,⟨#[]⟩,0,⟨0,0,false,false,false,false,⟨#[]⟩,0⟩⟩,false)
 else
 bif ((decide ((0:Int)≤(0:Int))) && (decide (0<(text_0.size:Int)))) then
 bif ((w64 (bt text_0 0)) == 1) then
  bif ((decide ((0:Int)≤(1:Int))) && (decide (1≤(text_0.size:Int)))) then
  (z2 ⟨(w64 (bt text_0 0)),(text_0.extract (1:Int).toNat text_0.size),0,⟨0,0,false,false,false,false,⟨#[]⟩,0⟩⟩).bind fun r0=>
  bif (!r0.2) then
  some (⟨0,⟨#[]⟩,0,⟨0,0,false,false,false,false,⟨#[]⟩,0⟩⟩,false)
  else
  bif (!((ByteArray.toList r0.1) == (ByteArray.toList text_0))) then
   some (⟨0,⟨#[]⟩,0,⟨0,0,false,false,false,false,⟨#[]⟩,0⟩⟩,false)
  else
   some (⟨(w64 (bt text_0 0)),(text_0.extract (1:Int).toNat text_0.size),0,⟨0,0,false,false,false,false,⟨#[]⟩,0⟩⟩,true)
  else none
 else
  bif ((w64 (bt text_0 0)) == 3) then
  bif ((decide ((0:Int)≤(1:Int))) && (decide (1≤(text_0.size:Int)))) then
  (z0 (text_0.extract (1:Int).toNat text_0.size)).bind fun r1=>
  (z2 ⟨(w64 (bt text_0 0)),⟨#[]⟩,0,r1.1⟩).bind fun r2=>
  bif (!r2.2) then
   some (⟨0,⟨#[]⟩,0,⟨0,0,false,false,false,false,⟨#[]⟩,0⟩⟩,false)
  else
   bif (!((ByteArray.toList r2.1) == (ByteArray.toList text_0))) then
   some (⟨0,⟨#[]⟩,0,⟨0,0,false,false,false,false,⟨#[]⟩,0⟩⟩,false)
   else
   some (⟨(w64 (bt text_0 0)),⟨#[]⟩,0,r1.1⟩,true)
  else none
  else
  (z1 text_0 1).bind fun r3=>
  (z2 ⟨(w64 (bt text_0 0)),⟨#[]⟩,r3.1,⟨0,0,false,false,false,false,⟨#[]⟩,0⟩⟩).bind fun r4=>
  bif (!r4.2) then
   some (⟨0,⟨#[]⟩,0,⟨0,0,false,false,false,false,⟨#[]⟩,0⟩⟩,false)
  else
   bif (!((ByteArray.toList r4.1) == (ByteArray.toList text_0))) then
   some (⟨0,⟨#[]⟩,0,⟨0,0,false,false,false,false,⟨#[]⟩,0⟩⟩,false)
   else
   some (⟨(w64 (bt text_0 0)),⟨#[]⟩,r3.1,⟨0,0,false,false,false,false,⟨#[]⟩,0⟩⟩,true)
 else none
noncomputable def impl_ReadRec:Bf:=E_impl_ReadRec impl_ReadThing impl_ReadVar impl_RecText
theorem Ew:Tells ctx PP 29 cv6 cv58 (fun a=>impl_ReadRec a):=fn_ok0 (hc Yv (hc Ie (hc Aw hl_nil))) Tryz.func29 ((fun z0 z1 z2 a=>by kernel_rfl:∀ z0 z1 z2,EntryIs0 ctx PP 29 [] [(66,Zv z0),(60,Za z1),(44,Dw z2)] cv6 cv58 fun a=>E_impl_ReadRec z0 z1 z2 a) impl_ReadThing impl_ReadVar impl_RecText)
noncomputable def Vo {γ:Type} (F:Bf):Hd ctx γ:=hdl cv6.dec (fun a=>F a) cv58.enc
abbrev Df:=ByteArray→Option (ByteArray×Bool)
noncomputable def E_impl_Frame (z0:IK) (z1:QY) (z2:Eb) (z3:PY) (text_0:ByteArray):Option (ByteArray×Bool):=
 (z0 (text_0.size:Int) 1 9000).bind fun r0=>
 bif (!r0) then
 some (⟨#[]⟩,false)
 else
 (z1 (text_0.size:Int)).bind fun r1=>
 (z2 text_0).bind fun r2=>
 (z3 r2).bind fun r3=>
 bif (decide ((r1.size+r3.size)≤9223372036854775807)) then
 bif (decide (((r1++r3).size+text_0.size)≤9223372036854775807)) then
 some (((r1++r3)++text_0),true)
 else none
 else none
noncomputable def impl_Frame:Df:=E_impl_Frame impl_in impl_varText impl_SumOf impl_fourBytes
theorem Gw:Tells ctx PP 30 cv6 cv30 (fun a=>impl_Frame a):=fn_ok0 (hc WY (hc GZ (hc Ym (hc Je hl_nil)))) Tryz.func30 ((fun z0 z1 z2 z3 a=>by kernel_rfl:∀ z0 z1 z2 z3,EntryIs0 ctx PP 30 [] [(45,CV z0),(67,IZ z1),(62,Nh z2),(61,FZ z3)] cv6 cv30 fun a=>E_impl_Frame z0 z1 z2 z3 a) impl_in impl_varText impl_SumOf impl_fourBytes)
noncomputable def Xo {γ:Type} (F:Df):Hd ctx γ:=hdl cv6.dec (fun a=>F a) cv30.enc
abbrev Ef:=ByteArray→ByteArray→Option ((List SRec)×Int)
inductive Ac where
 | c0 (key_0:ByteArray) (at_9:Int) (v_24:Int) (v_25:Int) (out_8:(List SRec)) (v_23:(List ByteArray))
noncomputable def Yo:Ac→LI
 | .c0 key_0 at_9 v_24 v_25 out_8 v_23=>(tdo Tryz.f8 1000,[(0,[.one (.str key_0)]),(8,[.one (.own 560)]),(9,[.one (.int .i64 at_9)]),(23,[.one (.own 1520)]),(24,[.one (.int .i64 v_24)]),(25,[.one (.int .i64 v_25)])],[(560,.sl 32 out_8),(1520,.sl 9 v_23)])
noncomputable def E_impl_ReadBook (z0:Me) (z1:Ze) (z2:Bf) (z3:Df) (k:Ac→Option ((List SRec)×Int)) (key_0:ByteArray) (file_1:ByteArray):Option ((List SRec)×Int):=
 (z0 file_1).bind fun r0=>
 k (.c0 key_0 0 (r0.1.length:Int) 0 [] r0.1)
noncomputable def B_impl_ReadBook (z0:Me) (z1:Ze) (z2:Bf) (z3:Df) (k:Ac→Option ((List SRec)×Int)):Ac→Option ((List SRec)×Int)
 | .c0 key_0 at_9 v_24 v_25 out_8 v_23=>
 bif (decide (v_25<v_24)) then
  bif ((decide (0≤v_25)) && (decide (v_25<(v_23.length:Int)))) then
  (z1 key_0 (w64 (v_25+1)) (v_23.getD v_25.toNat (⟨#[]⟩:ByteArray))).bind fun r0=>
  (z2 r0.1).bind fun r1=>
  bif (!r0.2) then
  some (out_8,at_9)
  else
  bif (!r1.2) then
   some (out_8,at_9)
  else
   bif (decide (((out_8.length+1)*80)≤140737488355328)) then
   (z3 (v_23.getD v_25.toNat (⟨#[]⟩:ByteArray))).bind fun r2=>
   k (.c0 key_0 (w64 (at_9+(r2.1.size:Int))) v_24 (w64 (v_25+1)) (out_8++[r1.1]) v_23)
   else none
  else none
 else
  some (out_8,at_9)
noncomputable def L_impl_ReadBook:Nat→Ac→Option ((List SRec)×Int)
 | 0,_=>none
 | m+1,s=>B_impl_ReadBook impl_Unframe impl_OpenText impl_ReadRec impl_Frame (L_impl_ReadBook m) s
noncomputable def impl_ReadBook:Ef:=E_impl_ReadBook impl_Unframe impl_OpenText impl_ReadRec impl_Frame (L_impl_ReadBook gas)
theorem Hw:Tells ctx PP 8 cv43 cv59 (fun a=>impl_ReadBook a.1 a.2):=
 have b:∀ z0 z1 z2 z3,CutIs ctx PP 8 Tryz.f8 [] [(27,Dn z0),(28,Oo z1),(29,Vo z2),(30,Xo z3)] cv59 Yo (B_impl_ReadBook z0 z1 z2 z3):=fun z0 z1 z2 z3 _ s=>by cases s <;> kernel_rfl
 have e:∀ z0 z1 z2 z3,EntryIs ctx PP 8 [] [(27,Dn z0),(28,Oo z1),(29,Vo z2),(30,Xo z3)] cv43 cv59 Yo (fun k a=>E_impl_ReadBook z0 z1 z2 z3 k a.1 a.2):=fun z0 z1 z2 z3 _ a=>by kernel_rfl
 fn_ok (hc Tt (hc Dv (hc Ew (hc Gw hl_nil)))) Tryz.func8 (fun s s' h=>by cases s;cases s';cases h;rfl) (fun _=>rfl) (fun _ _=>rfl) (b impl_Unframe impl_OpenText impl_ReadRec impl_Frame) (e impl_Unframe impl_OpenText impl_ReadRec impl_Frame) gas
noncomputable def Zo {γ:Type} (F:Ef):Hd ctx γ:=hdl cv43.dec (fun a=>F a.1 a.2) cv59.enc
abbrev Gf:=Unit→Option (List Int)
inductive Bc where
 | c0 (i_5:Int) (v_7c1:Int) (v_7c2:Int) (out_4:(List Int))
noncomputable def Ap:Bc→LI
 | .c0 i_5 v_7c1 v_7c2 out_4=>(tdo Tryz.f9 2000,[(3,[.one (.ptr 448 0)]),(4,[.one (.own 304)]),(5,[.one (.int .i64 i_5)])],[(448,.var [.csl,.int .i64 v_7c1,.int .i64 v_7c2]),(304,.sl 3 out_4)])
noncomputable def E_spec_DrawPlaces (z0:LZ) (z1:SY) (z2:FN) (k:Bc→Option (List Int)) (code_0:Unit):Option (List Int):=
 (z0 ()).bind fun r0=>
 (z1 ⟨(),r0.fI,r0.fH⟩).bind fun r1=>
 k (.c0 0 r1.2.fI r1.2.fH [])
noncomputable def B_spec_DrawPlaces (z0:LZ) (z1:SY) (z2:FN) (k:Bc→Option (List Int)):Bc→Option (List Int)
 | .c0 i_5 v_7c1 v_7c2 out_4=>
 bif (decide (i_5<12)) then
  (z2 ⟨(),v_7c1,v_7c2⟩ 10000).bind fun r0=>
  bif (decide (((out_4.length+1)*8)≤140737488355328)) then
  k (.c0 (w64 (i_5+1)) r0.2.fI r0.2.fH (out_4++[r0.1]))
  else none
 else
  some out_4
noncomputable def L_spec_DrawPlaces:Nat→Bc→Option (List Int)
 | 0,_=>none
 | m+1,s=>B_spec_DrawPlaces spec_l01New spec_l01Byte spec_l01Below (L_spec_DrawPlaces m) s
noncomputable def spec_DrawPlaces:Gf:=E_spec_DrawPlaces spec_l01New spec_l01Byte spec_l01Below (L_spec_DrawPlaces gas)
theorem Iw:Tells ctx PP 9 cv0 cv60 (fun a=>spec_DrawPlaces a):=
 have b:∀ z0 z1 z2,CutIs ctx PP 9 Tryz.f9 [] [(22,Xf z0),(31,WZ z1),(32,JY z2)] cv60 Ap (B_spec_DrawPlaces z0 z1 z2):=fun z0 z1 z2 _ s=>by cases s <;> kernel_rfl
 have e:∀ z0 z1 z2,EntryIs ctx PP 9 [] [(22,Xf z0),(31,WZ z1),(32,JY z2)] cv0 cv60 Ap (fun k a=>E_spec_DrawPlaces z0 z1 z2 k a):=fun z0 z1 z2 _ a=>by kernel_rfl
 fn_ok (hc Gj (hc Jg (hc TY hl_nil))) Tryz.func9 (fun s s' h=>by cases s;cases s';cases h;rfl) (fun _=>rfl) (fun _ _=>rfl) (b spec_l01New spec_l01Byte spec_l01Below) (e spec_l01New spec_l01Byte spec_l01Below) gas
noncomputable def Dp {γ:Type} (F:Gf):Hd ctx γ:=hdl cv0.dec (fun a=>F a) cv60.enc
abbrev Cc:=ByteArray→Int→Option (Int×Int×Bool)
inductive Dc where
 | c0 (text_0:ByteArray) (at_1:Int) (n_7:Int) (scale_8:Int) (i_9:Int)
noncomputable def Ep:Dc→LI
 | .c0 text_0 at_1 n_7 scale_8 i_9=>(tdo Tryz.f68 2000,[(0,[.one (.str text_0)]),(1,[.one (.int .i64 at_1)]),(7,[.one (.int .i64 n_7)]),(8,[.one (.int .i64 scale_8)]),(9,[.one (.int .i64 i_9)])],[])
noncomputable def E_spec_ReadVar (z0:TB) (z1:SN) (k:Dc→Option (Int×Int×Bool)) (text_0:ByteArray) (at_1:Int):Option (Int×Int×Bool):=
 (z0 at_1 0 (text_0.size:Int)).bind fun r0=>
 bif (!r0) then
 some (0,(0,false))
 else
 k (.c0 text_0 at_1 0 1 at_1)
noncomputable def B_spec_ReadVar (z0:TB) (z1:SN) (k:Dc→Option (Int×Int×Bool)):Dc→Option (Int×Int×Bool)
 | .c0 text_0 at_1 n_7 scale_8 i_9=>
 bif (decide (i_9<(text_0.size:Int))) then
  bif (decide (i_9<(w64 (at_1+5)))) then
  bif ((decide (0≤i_9)) && (decide (i_9<(text_0.size:Int)))) then
  bif ((decide (0≤i_9)) && (decide (i_9<(text_0.size:Int)))) then
  bif (decide ((bt text_0 i_9)<128)) then
   bif (decide ((w64 (n_7+(w64 (((w64 (bt text_0 i_9)).tmod 128)*scale_8)))) > 1000000000)) then
   some (0,(0,false))
   else
   (z1 (w64 (n_7+(w64 (((w64 (bt text_0 i_9)).tmod 128)*scale_8))))).bind fun r0=>
   bif (((decide (0≤at_1)) && (decide (at_1≤(w64 (i_9+1))))) && (decide ((w64 (i_9+1))≤(text_0.size:Int)))) then
   bif (!((ByteArray.toList r0) == (ByteArray.toList (text_0.extract at_1.toNat (w64 (i_9+1)).toNat)))) then
    some (0,(0,false))
   else
    some ((w64 (n_7+(w64 (((w64 (bt text_0 i_9)).tmod 128)*scale_8)))),((w64 (i_9+1)),true))
   else none
  else
   k (.c0 text_0 at_1 (w64 (n_7+(w64 (((w64 (bt text_0 i_9)).tmod 128)*scale_8)))) (w64 (scale_8*128)) (w64 (i_9+1)))
  else none
  else none
  else
  some (0,(0,false))
 else
  some (0,(0,false))
noncomputable def L_spec_ReadVar:Nat→Dc→Option (Int×Int×Bool)
 | 0,_=>none
 | m+1,s=>B_spec_ReadVar spec_l01In spec_l01Var (L_spec_ReadVar m) s
noncomputable def spec_ReadVar:Cc:=E_spec_ReadVar spec_l01In spec_l01Var (L_spec_ReadVar gas)
theorem Fp:Tells ctx PP 68 cv9 cv49 (fun a=>spec_ReadVar a.1 a.2):=
 have b:∀ z0 z1,CutIs ctx PP 68 Tryz.f68 [] [(24,NM z0),(53,KY z1)] cv49 Ep (B_spec_ReadVar z0 z1):=fun z0 z1 _ s=>by cases s <;> kernel_rfl
 have e:∀ z0 z1,EntryIs ctx PP 68 [] [(24,NM z0),(53,KY z1)] cv9 cv49 Ep (fun k a=>E_spec_ReadVar z0 z1 k a.1 a.2):=fun z0 z1 _ a=>by kernel_rfl
 fn_ok (hc LY (hc UY hl_nil)) Tryz.func68 (fun s s' h=>by cases s;cases s';cases h;rfl) (fun _=>rfl) (fun _ _=>rfl) (b spec_l01In spec_l01Var) (e spec_l01In spec_l01Var) gas
noncomputable def Ti {γ:Type} (F:Cc):Hd ctx γ:=hdl cv9.dec (fun a=>F a.1 a.2) cv49.enc
abbrev Hf:=ByteArray→Option ((List ByteArray)×Int)
inductive Ic where
 | c0 (file_0:ByteArray) (at_5:Int) (out_4:(List ByteArray))
noncomputable def Gp:Ic→LI
 | .c0 file_0 at_5 out_4=>(tdo Tryz.f33 992,[(0,[.one (.str file_0)]),(4,[.one (.own 304)]),(5,[.one (.int .i64 at_5)])],[(304,.sl 9 out_4)])
noncomputable def E_spec_Unframe (z0:Cc) (z1:VY) (k:Ic→Option ((List ByteArray)×Int)) (file_0:ByteArray):Option ((List ByteArray)×Int):=
 bif (decide ((file_0.size:Int) > 20000)) then
 some ([],0)
 else
 k (.c0 file_0 0 [])
noncomputable def B_spec_Unframe (z0:Cc) (z1:VY) (k:Ic→Option ((List ByteArray)×Int)):Ic→Option ((List ByteArray)×Int)
 | .c0 file_0 at_5 out_4=>
 bif (decide (at_5<(file_0.size:Int))) then
  (z0 file_0 at_5).bind fun r0=>
  bif (!r0.2.2) then
  some (out_4,at_5)
  else
  bif (decide (r0.1 > (w64 ((w64 ((file_0.size:Int) - r0.2.1)) - 4)))) then
   some (out_4,at_5)
  else
   bif (((decide (0≤(w64 (r0.2.1+4)))) && (decide ((w64 (r0.2.1+4))≤(w64 ((w64 (r0.2.1+4))+r0.1))))) && (decide ((w64 ((w64 (r0.2.1+4))+r0.1))≤(file_0.size:Int)))) then
   (z1 (file_0.extract (w64 (r0.2.1+4)).toNat (w64 ((w64 (r0.2.1+4))+r0.1)).toNat)).bind fun r1=>
   bif (!r1.2) then
   some (out_4,at_5)
   else
   bif (((decide (0≤at_5)) && (decide (at_5≤(w64 ((w64 (r0.2.1+4))+r0.1))))) && (decide ((w64 ((w64 (r0.2.1+4))+r0.1))≤(file_0.size:Int)))) then
   bif (!((ByteArray.toList r1.1) == (ByteArray.toList (file_0.extract at_5.toNat (w64 ((w64 (r0.2.1+4))+r0.1)).toNat)))) then
    some (out_4,at_5)
   else
    bif (decide (((out_4.length+1)*16)≤140737488355328)) then
    k (.c0 file_0 (w64 ((w64 (r0.2.1+4))+r0.1)) (out_4++[(file_0.extract (w64 (r0.2.1+4)).toNat (w64 ((w64 (r0.2.1+4))+r0.1)).toNat)]))
    else none
   else none
   else none
 else
  some (out_4,at_5)
noncomputable def L_spec_Unframe:Nat→Ic→Option ((List ByteArray)×Int)
 | 0,_=>none
 | m+1,s=>B_spec_Unframe spec_ReadVar spec_Frame (L_spec_Unframe m) s
noncomputable def spec_Unframe:Hf:=E_spec_Unframe spec_ReadVar spec_Frame (L_spec_Unframe gas)
theorem Jw:Tells ctx PP 33 cv6 cv50 (fun a=>spec_Unframe a):=
 have b:∀ z0 z1,CutIs ctx PP 33 Tryz.f33 [] [(68,Ti z0),(26,Xa z1)] cv50 Gp (B_spec_Unframe z0 z1):=fun z0 z1 _ s=>by cases s <;> kernel_rfl
 have e:∀ z0 z1,EntryIs ctx PP 33 [] [(68,Ti z0),(26,Xa z1)] cv6 cv50 Gp (fun k a=>E_spec_Unframe z0 z1 k a):=fun z0 z1 _ a=>by kernel_rfl
 fn_ok (hc Fp (hc Jh hl_nil)) Tryz.func33 (fun s s' h=>by cases s;cases s';cases h;rfl) (fun _=>rfl) (fun _ _=>rfl) (b spec_ReadVar spec_Frame) (e spec_ReadVar spec_Frame) gas
noncomputable def Ip {γ:Type} (F:Hf):Hd ctx γ:=hdl cv6.dec (fun a=>F a) cv50.enc
abbrev Ui:=ByteArray→ByteArray→Option Bool
noncomputable def E_spec_SameMac (a_0:ByteArray) (b_1:ByteArray):Option Bool:=
 some ((ByteArray.toList a_0) == (ByteArray.toList b_1))
noncomputable def spec_SameMac:Ui:=E_spec_SameMac
theorem Kw:Tells ctx PP 69 cv43 cv1 (fun a=>spec_SameMac a.1 a.2):=fn_ok0 hl_nil Tryz.func69 (fun a=>by kernel_rfl:EntryIs0 ctx PP 69 [] [] cv43 cv1 fun a=>E_spec_SameMac a.1 a.2)
noncomputable def Nw {γ:Type} (F:Ui):Hd ctx γ:=hdl cv43.dec (fun a=>F a.1 a.2) cv1.enc
abbrev Jf:=ByteArray→Int→ByteArray→Option (ByteArray×Bool)
noncomputable def E_spec_OpenText (z0:Ce) (z1:Fe) (z2:Ui) (z3:Ee) (key_0:ByteArray) (num_1:Int) (text_2:ByteArray):Option (ByteArray×Bool):=
 bif (decide ((text_2.size:Int)<16)) then
 some (⟨#[]⟩,false)
 else
 bif ((decide (0≤(w64 ((text_2.size:Int) - 16)))) && (decide ((w64 ((text_2.size:Int) - 16))≤(text_2.size:Int)))) then
 (z0 key_0 num_1 ((text_2.extract 0 (w64 ((text_2.size:Int) - 16)).toNat).size:Int)).bind fun r0=>
 bif (!r0.2) then
  some (⟨#[]⟩,false)
 else
  (z1 key_0 num_1 (text_2.extract 0 (w64 ((text_2.size:Int) - 16)).toNat)).bind fun r1=>
  bif ((decide (0≤((text_2.extract 0 (w64 ((text_2.size:Int) - 16)).toNat).size:Int))) && (decide (((text_2.extract 0 (w64 ((text_2.size:Int) - 16)).toNat).size:Int)≤(text_2.size:Int)))) then
  (z2 r1 (text_2.extract ((text_2.extract 0 (w64 ((text_2.size:Int) - 16)).toNat).size:Int).toNat text_2.size)).bind fun r2=>
  bif (!r2) then
  some (⟨#[]⟩,false)
  else
  (z3 (text_2.extract 0 (w64 ((text_2.size:Int) - 16)).toNat) r0.1).bind fun r3=>
  some (r3,true)
  else none
 else none
noncomputable def spec_OpenText:Jf:=E_spec_OpenText spec_Mask spec_l18Tag spec_SameMac spec_l18Xor
theorem Qw:Tells ctx PP 34 cv45 cv30 (fun a=>spec_OpenText a.1 a.2.1 a.2.2):=fn_ok0 (hc Cm (hc Om (hc Kw (hc Jm hl_nil)))) Tryz.func34 ((fun z0 z1 z2 z3 a=>by kernel_rfl:∀ z0 z1 z2 z3,EntryIs0 ctx PP 34 [] [(55,Em z0),(57,Pm z1),(69,Nw z2),(56,Lm z3)] cv45 cv30 fun a=>E_spec_OpenText z0 z1 z2 z3 a.1 a.2.1 a.2.2) spec_Mask spec_l18Tag spec_SameMac spec_l18Xor)
noncomputable def Jp {γ:Type} (F:Jf):Hd ctx γ:=hdl cv45.dec (fun a=>F a.1 a.2.1 a.2.2) cv30.enc
abbrev Jc:=SL19Cur→Int→Option (ByteArray×SL19Cur)
noncomputable def E_spec_l19Take (c_0:SL19Cur) (n_1:Int):Option (ByteArray×SL19Cur):=
 bif c_0.fBad then
 some (⟨#[]⟩,⟨c_0.fText,c_0.fAt,true⟩)
 else
 bif (decide (n_1 > (w64 ((c_0.fText.size:Int) - c_0.fAt)))) then
  some (⟨#[]⟩,⟨c_0.fText,c_0.fAt,true⟩)
 else
  bif (((decide (0≤(w64 ((w64 (c_0.fAt+n_1)) - n_1)))) && (decide ((w64 ((w64 (c_0.fAt+n_1)) - n_1))≤(w64 (c_0.fAt+n_1))))) && (decide ((w64 (c_0.fAt+n_1))≤(c_0.fText.size:Int)))) then
  some ((c_0.fText.extract (w64 ((w64 (c_0.fAt+n_1)) - n_1)).toNat (w64 (c_0.fAt+n_1)).toNat),⟨c_0.fText,(w64 (c_0.fAt+n_1)),c_0.fBad⟩)
  else none
noncomputable def spec_l19Take:Jc:=E_spec_l19Take
theorem Wi:Tells ctx PP 71 cv61 cv62 (fun a=>spec_l19Take a.1 a.2):=fn_ok0 hl_nil Tryz.func71 (fun a=>by kernel_rfl:EntryIs0 ctx PP 71 [0] [] cv61 cv62 fun a=>E_spec_l19Take a.1 a.2)
noncomputable def Xi {γ:Type} (F:Jc):Hd ctx γ:=hdl cv61.dec (fun a=>F a.1 a.2) cv62.enc
abbrev Rf:=SL19Cur→Option (Int×SL19Cur)
noncomputable def E_spec_l19One (z0:Jc) (c_0:SL19Cur):Option (Int×SL19Cur):=
 (z0 c_0 1).bind fun r0=>
 bif r0.2.fBad then
 some (0,r0.2)
 else
 bif ((decide ((0:Int)≤(0:Int))) && (decide (0<(r0.1.size:Int)))) then
 some ((w64 (bt r0.1 0)),r0.2)
 else none
noncomputable def spec_l19One:Rf:=E_spec_l19One spec_l19Take
theorem Np:Tells ctx PP 70 cv63 cv64 (fun a=>spec_l19One a):=fn_ok0 (hc Wi hl_nil) Tryz.func70 ((fun z0 a=>by kernel_rfl:∀ z0,EntryIs0 ctx PP 70 [0] [(71,Xi z0)] cv63 cv64 fun a=>E_spec_l19One z0 a) spec_l19Take)
noncomputable def Qp {γ:Type} (F:Rf):Hd ctx γ:=hdl cv63.dec (fun a=>F a) cv64.enc
abbrev Lc:=SL19Cur→Option (Int×SL19Cur)
noncomputable def E_spec_l19Var (z0:Cc) (c_0:SL19Cur):Option (Int×SL19Cur):=
 (z0 c_0.fText c_0.fAt).bind fun r0=>
 bif c_0.fBad then
 some (0,⟨c_0.fText,c_0.fAt,true⟩)
 else
 bif (!r0.2.2) then
  some (0,⟨c_0.fText,c_0.fAt,true⟩)
 else
  some (r0.1,⟨c_0.fText,r0.2.1,c_0.fBad⟩)
noncomputable def spec_l19Var:Lc:=E_spec_l19Var spec_ReadVar
theorem Yi:Tells ctx PP 72 cv63 cv64 (fun a=>spec_l19Var a):=fn_ok0 (hc Fp hl_nil) Tryz.func72 ((fun z0 a=>by kernel_rfl:∀ z0,EntryIs0 ctx PP 72 [0] [(68,Ti z0)] cv63 cv64 fun a=>E_spec_l19Var z0 a) spec_ReadVar)
noncomputable def Zi {γ:Type} (F:Lc):Hd ctx γ:=hdl cv63.dec (fun a=>F a) cv64.enc
abbrev Aj:=SL19Cur→Option (ByteArray×SL19Cur)
noncomputable def E_spec_l19ReadShort (z0:Lc) (z1:Jc) (c_0:SL19Cur):Option (ByteArray×SL19Cur):=
 (z0 c_0).bind fun r0=>
 (z1 r0.2 r0.1).bind fun r1=>
 some (r1.1,r1.2)
noncomputable def spec_l19ReadShort:Aj:=E_spec_l19ReadShort spec_l19Var spec_l19Take
theorem Rw:Tells ctx PP 105 cv63 cv62 (fun a=>spec_l19ReadShort a):=fn_ok0 (hc Yi (hc Wi hl_nil)) Tryz.func105 ((fun z0 z1 a=>by kernel_rfl:∀ z0 z1,EntryIs0 ctx PP 105 [0] [(72,Zi z0),(71,Xi z1)] cv63 cv62 fun a=>E_spec_l19ReadShort z0 z1 a) spec_l19Var spec_l19Take)
noncomputable def Uw {γ:Type} (F:Aj):Hd ctx γ:=hdl cv63.dec (fun a=>F a) cv62.enc
abbrev Bj:=ByteArray→Option (SThing×Bool)
noncomputable def E_spec_ReadThing (z0:Lc) (z1:Rf) (z2:Aj) (z3:Md) (text_0:ByteArray):Option (SThing×Bool):=
 (z0 ⟨text_0,0,false⟩).bind fun r0=>
 (z1 r0.2).bind fun r1=>
 (z1 r1.2).bind fun r2=>
 (z2 r2.2).bind fun r3=>
 (z0 r3.2).bind fun r4=>
 (z3 ⟨r0.1,r1.1,((r2.1.tmod 2) == 1),(((w64 (r2.1.tdiv 2)).tmod 2) == 1),(((w64 (r2.1.tdiv 4)).tmod 2) == 1),(((w64 (r2.1.tdiv 8)).tmod 2) == 1),r3.1,r4.1⟩).bind fun r5=>
 bif r4.2.fBad then
 some (⟨0,0,false,false,false,false,⟨#[]⟩,0⟩,false)
 else
 bif (!r5.2) then
  some (⟨0,0,false,false,false,false,⟨#[]⟩,0⟩,false)
 else
  bif (!((ByteArray.toList r5.1) == (ByteArray.toList text_0))) then
  some (⟨0,0,false,false,false,false,⟨#[]⟩,0⟩,false)
  else
  some (⟨r0.1,r1.1,((r2.1.tmod 2) == 1),(((w64 (r2.1.tdiv 2)).tmod 2) == 1),(((w64 (r2.1.tdiv 4)).tmod 2) == 1),(((w64 (r2.1.tdiv 8)).tmod 2) == 1),r3.1,r4.1⟩,true)
noncomputable def spec_ReadThing:Bj:=E_spec_ReadThing spec_l19Var spec_l19One spec_l19ReadShort spec_ThingText
theorem Vw:Tells ctx PP 73 cv6 cv34 (fun a=>spec_ReadThing a):=fn_ok0 (hc Yi (hc Np (hc Rw (hc Dl hl_nil)))) Tryz.func73 ((fun z0 z1 z2 z3 a=>by kernel_rfl:∀ z0 z1 z2 z3,EntryIs0 ctx PP 73 [] [(72,Zi z0),(70,Qp z1),(105,Uw z2),(54,Gl z3)] cv6 cv34 fun a=>E_spec_ReadThing z0 z1 z2 z3 a) spec_l19Var spec_l19One spec_l19ReadShort spec_ThingText)
noncomputable def Xw {γ:Type} (F:Bj):Hd ctx γ:=hdl cv6.dec (fun a=>F a) cv34.enc
abbrev Tf:=ByteArray→Option (SRec×Bool)
noncomputable def E_spec_ReadRec (z0:Rf) (z1:Jc) (z2:Lc) (z3:Bj) (z4:EZ) (text_0:ByteArray):Option (SRec×Bool):=
 (z0 ⟨text_0,0,false⟩).bind fun r0=>
 bif (r0.1 == 1) then
 (z1 r0.2 32).bind fun r1=>
 (z4 ⟨r0.1,r1.1,0,⟨0,0,false,false,false,false,⟨#[]⟩,0⟩⟩).bind fun r2=>
 bif r1.2.fBad then
  some (⟨0,⟨#[]⟩,0,⟨0,0,false,false,false,false,⟨#[]⟩,0⟩⟩,false)
 else
  bif (!r2.2) then
  some (⟨0,⟨#[]⟩,0,⟨0,0,false,false,false,false,⟨#[]⟩,0⟩⟩,false)
  else
  bif (!((ByteArray.toList r2.1) == (ByteArray.toList text_0))) then
   some (⟨0,⟨#[]⟩,0,⟨0,0,false,false,false,false,⟨#[]⟩,0⟩⟩,false)
  else
   some (⟨r0.1,r1.1,0,⟨0,0,false,false,false,false,⟨#[]⟩,0⟩⟩,true)
 else
 bif (r0.1 == 2) then
  bif (r0.1 == 2) then
  (z2 r0.2).bind fun r3=>
  (z4 ⟨r0.1,⟨#[]⟩,r3.1,⟨0,0,false,false,false,false,⟨#[]⟩,0⟩⟩).bind fun r4=>
  bif r3.2.fBad then
   some (⟨0,⟨#[]⟩,0,⟨0,0,false,false,false,false,⟨#[]⟩,0⟩⟩,false)
  else
   bif (!r4.2) then
   some (⟨0,⟨#[]⟩,0,⟨0,0,false,false,false,false,⟨#[]⟩,0⟩⟩,false)
   else
   bif (!((ByteArray.toList r4.1) == (ByteArray.toList text_0))) then
    some (⟨0,⟨#[]⟩,0,⟨0,0,false,false,false,false,⟨#[]⟩,0⟩⟩,false)
   else
    some (⟨r0.1,⟨#[]⟩,r3.1,⟨0,0,false,false,false,false,⟨#[]⟩,0⟩⟩,true)
  else
  bif (r0.1 == 3) then
   bif ((decide ((0:Int)≤(1:Int))) && (decide (1≤(text_0.size:Int)))) then
   (z3 (text_0.extract (1:Int).toNat text_0.size)).bind fun r5=>
   (z4 ⟨r0.1,⟨#[]⟩,0,r5.1⟩).bind fun r6=>
   bif r0.2.fBad then
   some (⟨0,⟨#[]⟩,0,⟨0,0,false,false,false,false,⟨#[]⟩,0⟩⟩,false)
   else
   bif (!r6.2) then
    some (⟨0,⟨#[]⟩,0,⟨0,0,false,false,false,false,⟨#[]⟩,0⟩⟩,false)
   else
    bif (!((ByteArray.toList r6.1) == (ByteArray.toList text_0))) then
    some (⟨0,⟨#[]⟩,0,⟨0,0,false,false,false,false,⟨#[]⟩,0⟩⟩,false)
    else
    some (⟨r0.1,⟨#[]⟩,0,r5.1⟩,true)
   else none
  else
   (z4 ⟨r0.1,⟨#[]⟩,0,⟨0,0,false,false,false,false,⟨#[]⟩,0⟩⟩).bind fun r7=>
   bif r0.2.fBad then
   some (⟨0,⟨#[]⟩,0,⟨0,0,false,false,false,false,⟨#[]⟩,0⟩⟩,false)
   else
   bif (!r7.2) then
    some (⟨0,⟨#[]⟩,0,⟨0,0,false,false,false,false,⟨#[]⟩,0⟩⟩,false)
   else
    bif (!((ByteArray.toList r7.1) == (ByteArray.toList text_0))) then
    some (⟨0,⟨#[]⟩,0,⟨0,0,false,false,false,false,⟨#[]⟩,0⟩⟩,false)
    else
    some (⟨r0.1,⟨#[]⟩,0,⟨0,0,false,false,false,false,⟨#[]⟩,0⟩⟩,true)
 else
  bif (r0.1 == 4) then
  (z2 r0.2).bind fun r8=>
  (z4 ⟨r0.1,⟨#[]⟩,r8.1,⟨0,0,false,false,false,false,⟨#[]⟩,0⟩⟩).bind fun r9=>
  bif r8.2.fBad then
   some (⟨0,⟨#[]⟩,0,⟨0,0,false,false,false,false,⟨#[]⟩,0⟩⟩,false)
  else
   bif (!r9.2) then
   some (⟨0,⟨#[]⟩,0,⟨0,0,false,false,false,false,⟨#[]⟩,0⟩⟩,false)
   else
   bif (!((ByteArray.toList r9.1) == (ByteArray.toList text_0))) then
    some (⟨0,⟨#[]⟩,0,⟨0,0,false,false,false,false,⟨#[]⟩,0⟩⟩,false)
   else
    some (⟨r0.1,⟨#[]⟩,r8.1,⟨0,0,false,false,false,false,⟨#[]⟩,0⟩⟩,true)
  else
  bif (r0.1 == 3) then
   bif ((decide ((0:Int)≤(1:Int))) && (decide (1≤(text_0.size:Int)))) then
   (z3 (text_0.extract (1:Int).toNat text_0.size)).bind fun r10=>
   (z4 ⟨r0.1,⟨#[]⟩,0,r10.1⟩).bind fun r11=>
   bif r0.2.fBad then
   some (⟨0,⟨#[]⟩,0,⟨0,0,false,false,false,false,⟨#[]⟩,0⟩⟩,false)
   else
   bif (!r11.2) then
    some (⟨0,⟨#[]⟩,0,⟨0,0,false,false,false,false,⟨#[]⟩,0⟩⟩,false)
   else
    bif (!((ByteArray.toList r11.1) == (ByteArray.toList text_0))) then
    some (⟨0,⟨#[]⟩,0,⟨0,0,false,false,false,false,⟨#[]⟩,0⟩⟩,false)
    else
    some (⟨r0.1,⟨#[]⟩,0,r10.1⟩,true)
   else none
  else
   (z4 ⟨r0.1,⟨#[]⟩,0,⟨0,0,false,false,false,false,⟨#[]⟩,0⟩⟩).bind fun r12=>
   bif r0.2.fBad then
   some (⟨0,⟨#[]⟩,0,⟨0,0,false,false,false,false,⟨#[]⟩,0⟩⟩,false)
   else
   bif (!r12.2) then
    some (⟨0,⟨#[]⟩,0,⟨0,0,false,false,false,false,⟨#[]⟩,0⟩⟩,false)
   else
    bif (!((ByteArray.toList r12.1) == (ByteArray.toList text_0))) then
    some (⟨0,⟨#[]⟩,0,⟨0,0,false,false,false,false,⟨#[]⟩,0⟩⟩,false)
    else
    some (⟨r0.1,⟨#[]⟩,0,⟨0,0,false,false,false,false,⟨#[]⟩,0⟩⟩,true)
noncomputable def spec_ReadRec:Tf:=E_spec_ReadRec spec_l19One spec_l19Take spec_l19Var spec_ReadThing spec_RecText
theorem Yw:Tells ctx PP 35 cv6 cv58 (fun a=>spec_ReadRec a):=fn_ok0 (hc Np (hc Wi (hc Yi (hc Vw (hc Zg hl_nil))))) Tryz.func35 ((fun z0 z1 z2 z3 z4 a=>by kernel_rfl:∀ z0 z1 z2 z3 z4,EntryIs0 ctx PP 35 [] [(70,Qp z0),(71,Xi z1),(72,Zi z2),(73,Xw z3),(23,Qd z4)] cv6 cv58 fun a=>E_spec_ReadRec z0 z1 z2 z3 z4 a) spec_l19One spec_l19Take spec_l19Var spec_ReadThing spec_RecText)
noncomputable def Vp {γ:Type} (F:Tf):Hd ctx γ:=hdl cv6.dec (fun a=>F a) cv58.enc
abbrev Uf:=ByteArray→ByteArray→Option ((List SRec)×Int)
inductive Mc where
 | c0 (key_0:ByteArray) (end_9:Int) (i_10:Int) (out_6:(List SRec)) (list_7:(List ByteArray))
noncomputable def Wp:Mc→LI
 | .c0 key_0 end_9 i_10 out_6 list_7=>(tdo Tryz.f10 2000,[(0,[.one (.str key_0)]),(6,[.one (.own 432)]),(7,[.one (.own 496)]),(9,[.one (.int .i64 end_9)]),(10,[.one (.int .i64 i_10)])],[(432,.sl 32 out_6),(496,.sl 9 list_7)])
noncomputable def E_spec_ReadBook (z0:Hf) (z1:Jf) (z2:Tf) (z3:VY) (k:Mc→Option ((List SRec)×Int)) (key_0:ByteArray) (file_1:ByteArray):Option ((List SRec)×Int):=
 (z0 file_1).bind fun r0=>
 k (.c0 key_0 0 0 [] r0.1)
noncomputable def B_spec_ReadBook (z0:Hf) (z1:Jf) (z2:Tf) (z3:VY) (k:Mc→Option ((List SRec)×Int)):Mc→Option ((List SRec)×Int)
 | .c0 key_0 end_9 i_10 out_6 list_7=>
 bif (decide (i_10<(list_7.length:Int))) then
  bif ((decide (0≤i_10)) && (decide (i_10<(list_7.length:Int)))) then
  (z1 key_0 (w64 (i_10+1)) (list_7.getD i_10.toNat (⟨#[]⟩:ByteArray))).bind fun r0=>
  (z2 r0.1).bind fun r1=>
  bif (!r0.2) then
  some (out_6,end_9)
  else
  bif (!r1.2) then
   some (out_6,end_9)
  else
   bif (decide (((out_6.length+1)*80)≤140737488355328)) then
   bif ((decide (0≤i_10)) && (decide (i_10<(list_7.length:Int)))) then
   (z3 (list_7.getD i_10.toNat (⟨#[]⟩:ByteArray))).bind fun r2=>
   k (.c0 key_0 (w64 (end_9+(r2.1.size:Int))) (w64 (i_10+1)) (out_6++[r1.1]) list_7)
   else none
   else none
  else none
 else
  some (out_6,end_9)
noncomputable def L_spec_ReadBook:Nat→Mc→Option ((List SRec)×Int)
 | 0,_=>none
 | m+1,s=>B_spec_ReadBook spec_Unframe spec_OpenText spec_ReadRec spec_Frame (L_spec_ReadBook m) s
noncomputable def spec_ReadBook:Uf:=E_spec_ReadBook spec_Unframe spec_OpenText spec_ReadRec spec_Frame (L_spec_ReadBook gas)
theorem Zw:Tells ctx PP 10 cv43 cv59 (fun a=>spec_ReadBook a.1 a.2):=
 have b:∀ z0 z1 z2 z3,CutIs ctx PP 10 Tryz.f10 [] [(33,Ip z0),(34,Jp z1),(35,Vp z2),(26,Xa z3)] cv59 Wp (B_spec_ReadBook z0 z1 z2 z3):=fun z0 z1 z2 z3 _ s=>by cases s <;> kernel_rfl
 have e:∀ z0 z1 z2 z3,EntryIs ctx PP 10 [] [(33,Ip z0),(34,Jp z1),(35,Vp z2),(26,Xa z3)] cv43 cv59 Wp (fun k a=>E_spec_ReadBook z0 z1 z2 z3 k a.1 a.2):=fun z0 z1 z2 z3 _ a=>by kernel_rfl
 fn_ok (hc Jw (hc Qw (hc Yw (hc Jh hl_nil)))) Tryz.func10 (fun s s' h=>by cases s;cases s';cases h;rfl) (fun _=>rfl) (fun _ _=>rfl) (b spec_Unframe spec_OpenText spec_ReadRec spec_Frame) (e spec_Unframe spec_OpenText spec_ReadRec spec_Frame) gas
noncomputable def Xp {γ:Type} (F:Uf):Hd ctx γ:=hdl cv43.dec (fun a=>F a.1 a.2) cv59.enc
abbrev Vf:=(List SRec)→(List SRec)→Option Bool
inductive Nc where
 | c0 (a_0:(List SRec)) (b_1:(List SRec)) (i_5:Int)
noncomputable def Yp:Nc→LI
 | .c0 a_0 b_1 i_5=>(tdo Tryz.f11 464,[(0,[.one (.rsl 32 a_0)]),(1,[.one (.rsl 32 b_1)]),(5,[.one (.int .i64 i_5)])],[])
noncomputable def E_laws_sameRecs (k:Nc→Option Bool) (a_0:(List SRec)) (b_1:(List SRec)):Option Bool:=
 bif ((a_0.length:Int) != (b_1.length:Int)) then
 some false
 else
 k (.c0 a_0 b_1 0)
noncomputable def B_laws_sameRecs (k:Nc→Option Bool):Nc→Option Bool
 | .c0 a_0 b_1 i_5=>
 bif (decide (i_5<(a_0.length:Int))) then
  bif ((decide (0≤i_5)) && (decide (i_5<(a_0.length:Int)))) then
  bif ((decide (0≤i_5)) && (decide (i_5<(b_1.length:Int)))) then
  bif (!(((a_0.getD i_5.toNat (⟨0,⟨#[]⟩,0,⟨0,0,false,false,false,false,⟨#[]⟩,0⟩⟩:SRec)).fKind == (b_1.getD i_5.toNat (⟨0,⟨#[]⟩,0,⟨0,0,false,false,false,false,⟨#[]⟩,0⟩⟩:SRec)).fKind) && (((ByteArray.toList (a_0.getD i_5.toNat (⟨0,⟨#[]⟩,0,⟨0,0,false,false,false,false,⟨#[]⟩,0⟩⟩:SRec)).fText) == (ByteArray.toList (b_1.getD i_5.toNat (⟨0,⟨#[]⟩,0,⟨0,0,false,false,false,false,⟨#[]⟩,0⟩⟩:SRec)).fText)) && (((a_0.getD i_5.toNat (⟨0,⟨#[]⟩,0,⟨0,0,false,false,false,false,⟨#[]⟩,0⟩⟩:SRec)).fNum == (b_1.getD i_5.toNat (⟨0,⟨#[]⟩,0,⟨0,0,false,false,false,false,⟨#[]⟩,0⟩⟩:SRec)).fNum) && ((((a_0.getD i_5.toNat (⟨0,⟨#[]⟩,0,⟨0,0,false,false,false,false,⟨#[]⟩,0⟩⟩:SRec)).fThing.fId == (b_1.getD i_5.toNat (⟨0,⟨#[]⟩,0,⟨0,0,false,false,false,false,⟨#[]⟩,0⟩⟩:SRec)).fThing.fId) && (((a_0.getD i_5.toNat (⟨0,⟨#[]⟩,0,⟨0,0,false,false,false,false,⟨#[]⟩,0⟩⟩:SRec)).fThing.fKind == (b_1.getD i_5.toNat (⟨0,⟨#[]⟩,0,⟨0,0,false,false,false,false,⟨#[]⟩,0⟩⟩:SRec)).fThing.fKind) && (((a_0.getD i_5.toNat (⟨0,⟨#[]⟩,0,⟨0,0,false,false,false,false,⟨#[]⟩,0⟩⟩:SRec)).fThing.fHidden == (b_1.getD i_5.toNat (⟨0,⟨#[]⟩,0,⟨0,0,false,false,false,false,⟨#[]⟩,0⟩⟩:SRec)).fThing.fHidden) && (((a_0.getD i_5.toNat (⟨0,⟨#[]⟩,0,⟨0,0,false,false,false,false,⟨#[]⟩,0⟩⟩:SRec)).fThing.fFixed == (b_1.getD i_5.toNat (⟨0,⟨#[]⟩,0,⟨0,0,false,false,false,false,⟨#[]⟩,0⟩⟩:SRec)).fThing.fFixed) && (((a_0.getD i_5.toNat (⟨0,⟨#[]⟩,0,⟨0,0,false,false,false,false,⟨#[]⟩,0⟩⟩:SRec)).fThing.fSigns == (b_1.getD i_5.toNat (⟨0,⟨#[]⟩,0,⟨0,0,false,false,false,false,⟨#[]⟩,0⟩⟩:SRec)).fThing.fSigns) && (((a_0.getD i_5.toNat (⟨0,⟨#[]⟩,0,⟨0,0,false,false,false,false,⟨#[]⟩,0⟩⟩:SRec)).fThing.fWraps == (b_1.getD i_5.toNat (⟨0,⟨#[]⟩,0,⟨0,0,false,false,false,false,⟨#[]⟩,0⟩⟩:SRec)).fThing.fWraps) && (((ByteArray.toList (a_0.getD i_5.toNat (⟨0,⟨#[]⟩,0,⟨0,0,false,false,false,false,⟨#[]⟩,0⟩⟩:SRec)).fThing.fValue) == (ByteArray.toList (b_1.getD i_5.toNat (⟨0,⟨#[]⟩,0,⟨0,0,false,false,false,false,⟨#[]⟩,0⟩⟩:SRec)).fThing.fValue)) && (((a_0.getD i_5.toNat (⟨0,⟨#[]⟩,0,⟨0,0,false,false,false,false,⟨#[]⟩,0⟩⟩:SRec)).fThing.fNext == (b_1.getD i_5.toNat (⟨0,⟨#[]⟩,0,⟨0,0,false,false,false,false,⟨#[]⟩,0⟩⟩:SRec)).fThing.fNext) && true)))))))) && true))))) then
  some false
  else
  k (.c0 a_0 b_1 (w64 (i_5+1)))
  else none
  else none
 else
  some true
noncomputable def L_laws_sameRecs:Nat→Nc→Option Bool
 | 0,_=>none
 | m+1,s=>B_laws_sameRecs (L_laws_sameRecs m) s
noncomputable def laws_sameRecs:Vf:=E_laws_sameRecs (L_laws_sameRecs gas)
theorem Dx:Tells ctx PP 11 cv65 cv1 (fun a=>laws_sameRecs a.1 a.2):=
 have b:CutIs ctx PP 11 Tryz.f11 [] [] cv1 Yp (B_laws_sameRecs):=fun _ s=>by cases s <;> kernel_rfl
 have e:EntryIs ctx PP 11 [] [] cv65 cv1 Yp (fun k a=>E_laws_sameRecs k a.1 a.2):=fun _ a=>by kernel_rfl
 fn_ok hl_nil Tryz.func11 (fun s s' h=>by cases s;cases s';cases h;rfl) (fun _=>rfl) (fun _ _=>rfl) b e gas
noncomputable def Zp {γ:Type} (F:Vf):Hd ctx γ:=hdl cv65.dec (fun a=>F a.1 a.2) cv1.enc
abbrev Aq:=Unit→Option Bool
inductive Oc where
 | c0 (file_4:ByteArray) (i_5:Int) (list_3:(List SRec))
noncomputable def Bq:Oc→LI
 | .c0 file_4 i_5 list_3=>(tdo Tryz.f3 2000,[(0,[.one (.csl)]),(3,[.one (.own 240)]),(4,[.one (.str file_4)]),(5,[.one (.int .i64 i_5)])],[(240,.sl 32 list_3)])
noncomputable def E_laws_FnReads (z0:Qc) (z1:Ae) (z2:He) (z3:Ef) (z4:Gf) (z5:Uf) (z6:Vf) (k:Oc→Option Bool) (code_0:Unit):Option Bool:=
 (z0 ()).bind fun r0=>
 bif r0 then
 some true
 else
 (z1 ()).bind fun r1=>
 k (.c0 ⟨#[]⟩ 0 r1)
noncomputable def B_laws_FnReads (z0:Qc) (z1:Ae) (z2:He) (z3:Ef) (z4:Gf) (z5:Uf) (z6:Vf) (k:Oc→Option Bool):Oc→Option Bool
 | .c0 file_4 i_5 list_3=>
 bif (decide (i_5<(list_3.length:Int))) then
  bif ((decide (0≤i_5)) && (decide (i_5<(list_3.length:Int)))) then
  (z2 ⟨#[107,101,121]⟩ i_5 (list_3.getD i_5.toNat (⟨0,⟨#[]⟩,0,⟨0,0,false,false,false,false,⟨#[]⟩,0⟩⟩:SRec))).bind fun r0=>
  bif ((decide ((0:Int)≤(0:Int))) && (decide (0<(r0.1.length:Int)))) then
  bif (decide ((file_4.size+(r0.1.getD (0:Int).toNat (⟨0,⟨#[]⟩,⟨#[]⟩,⟨#[]⟩⟩:SAct)).fText.size)≤9223372036854775807)) then
  k (.c0 (file_4++(r0.1.getD (0:Int).toNat (⟨0,⟨#[]⟩,⟨#[]⟩,⟨#[]⟩⟩:SAct)).fText) (w64 (i_5+1)) list_3)
  else none
  else none
  else none
 else
  (z3 ⟨#[107,101,121]⟩ file_4).bind fun r1=>
  (z4 ()).bind fun r2=>
  bif ((decide ((0:Int)≤(0:Int))) && (decide (0<(r2.length:Int)))) then
  bif (!((w64 ((file_4.size:Int)+1)) == 0)) then
  bif ((decide (0≤((r2.getD (0:Int).toNat 0).tmod (w64 ((file_4.size:Int)+1))))) && (decide (((r2.getD (0:Int).toNat 0).tmod (w64 ((file_4.size:Int)+1)))≤(file_4.size:Int)))) then
  (z3 ⟨#[107,101,121]⟩ (file_4.extract 0 ((r2.getD (0:Int).toNat 0).tmod (w64 ((file_4.size:Int)+1))).toNat)).bind fun r3=>
  bif ((decide (0≤((r2.getD (0:Int).toNat 0).tmod (w64 ((file_4.size:Int)+1))))) && (decide (((r2.getD (0:Int).toNat 0).tmod (w64 ((file_4.size:Int)+1)))≤(file_4.size:Int)))) then
  (z5 ⟨#[107,101,121]⟩ (file_4.extract 0 ((r2.getD (0:Int).toNat 0).tmod (w64 ((file_4.size:Int)+1))).toNat)).bind fun r4=>
  (z6 r1.1 list_3).bind fun r5=>
  bif r5 then
  bif (r1.2 == (file_4.size:Int)) then
   (z6 r3.1 r4.1).bind fun r6=>
   bif r6 then
   bif (r3.2 == r4.2) then
    bif (decide (r3.2≤((r2.getD (0:Int).toNat 0).tmod (w64 ((file_4.size:Int)+1))))) then
    bif (decide ((r3.1.length:Int)≤(list_3.length:Int))) then
     bif ((decide (0≤(r3.1.length:Int))) && (decide ((r3.1.length:Int)≤(list_3.length:Int)))) then
     (z6 r3.1 ((list_3.drop 0).take ((r3.1.length:Int).toNat - 0))).bind fun r7=>
     some r7
     else none
    else
     some false
    else
    some false
   else
    some false
   else
   some false
  else
   some false
  else
  some false
  else none
  else none
  else none
  else none
noncomputable def L_laws_FnReads:Nat→Oc→Option Bool
 | 0,_=>none
 | m+1,s=>B_laws_FnReads laws_big spec_DrawRecords spec_BookActs impl_ReadBook spec_DrawPlaces spec_ReadBook laws_sameRecs (L_laws_FnReads m) s
noncomputable def laws_FnReads:Aq:=E_laws_FnReads laws_big spec_DrawRecords spec_BookActs impl_ReadBook spec_DrawPlaces spec_ReadBook laws_sameRecs (L_laws_FnReads gas)
theorem ok_laws_FnReads:Tells ctx PP 3 cv0 cv1 (fun a=>laws_FnReads a):=
 have b:∀ z0 z1 z2 z3 z4 z5 z6,CutIs ctx PP 3 Tryz.f3 [] [(5,Ej z0),(6,Xl z1),(7,Sm z2),(8,Zo z3),(9,Dp z4),(10,Xp z5),(11,Zp z6)] cv1 Bq (B_laws_FnReads z0 z1 z2 z3 z4 z5 z6):=fun z0 z1 z2 z3 z4 z5 z6 _ s=>by cases s <;> kernel_rfl
 have e:∀ z0 z1 z2 z3 z4 z5 z6,EntryIs ctx PP 3 [] [(5,Ej z0),(6,Xl z1),(7,Sm z2),(8,Zo z3),(9,Dp z4),(10,Xp z5),(11,Zp z6)] cv0 cv1 Bq (fun k a=>E_laws_FnReads z0 z1 z2 z3 z4 z5 z6 k a):=fun z0 z1 z2 z3 z4 z5 z6 _ a=>by kernel_rfl
 fn_ok (hc Dq (hc Ls (hc Kt (hc Hw (hc Iw (hc Zw (hc Dx hl_nil))))))) Tryz.func3 (fun s s' h=>by cases s;cases s';cases h;rfl) (fun _=>rfl) (fun _ _=>rfl) (b laws_big spec_DrawRecords spec_BookActs impl_ReadBook spec_DrawPlaces spec_ReadBook laws_sameRecs) (e laws_big spec_DrawRecords spec_BookActs impl_ReadBook spec_DrawPlaces spec_ReadBook laws_sameRecs) gas
noncomputable def Gx {γ:Type} (F:Aq):Hd ctx γ:=hdl cv0.dec (fun a=>F a) cv1.enc
end Go.Proofs.YtjfkbidckphneaaGreatDoor.G

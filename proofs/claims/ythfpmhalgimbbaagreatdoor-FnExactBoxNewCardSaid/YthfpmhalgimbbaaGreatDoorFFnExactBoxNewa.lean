/- Functions of the program, told by plain functions: part 1 of 2. -/
import Derived.Test.YthfpmhalgimbbaaGreatDoorCtx
namespace Go.Proofs.YthfpmhalgimbbaaGreatDoor.G
open Go Go.Ev
set_option linter.unusedVariables false
abbrev Y5:=Option (List Int)
noncomputable def NAG  : Option (List Int):=
 some [1779033703,3144134277,1013904242,2773480762,1359893119,2600822924,528734635,1541459225]
noncomputable def Iw:Y5:=NAG
theorem QAN:Tells ctx PP 146 cv0 cv1 (fun _=>Iw):=fn_ok0 hl_nil Tryz.func146 (fun _=>by kernel_rfl:EntryIs0 ctx PP 146 [] [] cv0 cv1 fun _=>NAG)
noncomputable def SAN {γ:Type} (F:Y5):Hd ctx γ:=hdl cv0.dec (fun _=>F) cv1.enc
abbrev Bg:=(List Int)→Option ByteArray
inductive Vl where
 | c0 (words_0:(List Int)) (i_4:Int) (out_3:(List Int))
noncomputable def OAG:Vl→LI
 | .c0 words_0 i_4 out_3=>(tdo Tryz.f145 464,[(0,[.one (.rsl 138 words_0)]),(3,[.one (.own 240)]),(4,[.one (.int .i64 i_4)])],[(240,.sl 5 out_3)])
noncomputable def PAG (k:Vl→Option ByteArray) (words_0:(List Int)):Option ByteArray:=
 k (.c0 words_0 0 [])
noncomputable def Jw (k:Vl→Option ByteArray):Vl→Option ByteArray
 | .c0 words_0 i_4 out_3=>
 bif (decide (i_4<(words_0.length:Int))) then
  bif ((decide (0≤i_4)) && (decide (i_4<(words_0.length:Int)))) then
  bif (decide (((out_3.length+4)*1)≤140737488355328)) then
  k (.c0 words_0 (w64 (i_4+1)) (out_3++[(w8 (w32 ((words_0.getD i_4.toNat 0).tdiv 16777216))),(w8 ((w32 ((words_0.getD i_4.toNat 0).tdiv 65536)).tmod 256)),(w8 ((w32 ((words_0.getD i_4.toNat 0).tdiv 256)).tmod 256)),(w8 ((words_0.getD i_4.toNat 0).tmod 256))]))
  else none
  else none
 else
  some (ofBytes out_3)
noncomputable def Wl:Nat→Vl→Option ByteArray
 | 0,_=>none
 | m+1,s=>Jw (Wl m) s
noncomputable def Za:Bg:=PAG (Wl gas)
theorem Z5:Tells ctx PP 145 cv2 cv3 (fun a=>Za a):=
 have b:CutIs ctx PP 145 Tryz.f145 [] [] cv3 OAG (Jw):=fun _ s=>by cases s <;> kernel_rfl
 have e:EntryIs ctx PP 145 [] [] cv2 cv3 OAG (fun k a=>PAG k a):=fun _ a=>by kernel_rfl
 fn_ok hl_nil Tryz.func145 (fun s s' h=>by cases s;cases s';cases h;rfl) (fun _=>rfl) (fun _ _=>rfl) b e gas
noncomputable def Xl {γ:Type} (F:Bg):Hd ctx γ:=hdl cv2.dec (fun a=>F a) cv3.enc
abbrev D6:=Option SHasher
noncomputable def F6 (z0:Y5) (z1:Bg)  : Option SHasher:=
 z0.bind fun r0=>
 (z1 r0).bind fun r1=>
 some ⟨r1,⟨#[]⟩,0⟩
noncomputable def Yl:D6:=F6 Iw Za
theorem TAN:Tells ctx PP 91 cv0 cv4 (fun _=>Yl):=fn_ok0 (hc QAN (hc Z5 hl_nil)) Tryz.func91 ((fun z0 z1 _=>by kernel_rfl:∀ z0 z1,EntryIs0 ctx PP 91 [] [(146,SAN z0),(145,Xl z1)] cv0 cv4 fun _=>F6 z0 z1) Iw Za)
noncomputable def UAN {γ:Type} (F:D6):Hd ctx γ:=hdl cv0.dec (fun _=>F) cv4.enc
abbrev VZ:=Int→Int→Int→Option Bool
noncomputable def QAG (x_0:Int) (least_1:Int) (most_2:Int):Option Bool:=
 bif (decide (x_0≥least_1)) then
 some (decide (x_0≤most_2))
 else
 some false
noncomputable def CY:VZ:=QAG
theorem Vd:Tells ctx PP 50 cv5 cv6 (fun a=>CY a.1 a.2.1 a.2.2):=fn_ok0 hl_nil Tryz.func50 (fun a=>by kernel_rfl:EntryIs0 ctx PP 50 [] [] cv5 cv6 fun a=>QAG a.1 a.2.1 a.2.2)
noncomputable def Cb {γ:Type} (F:VZ):Hd ctx γ:=hdl cv5.dec (fun a=>F a.1 a.2.1 a.2.2) cv6.enc
abbrev Qi:=SHasher→Option Bool
noncomputable def G6 (z0:VZ) (h_0:SHasher):Option Bool:=
 bif ((h_0.fState.size:Int) == 32) then
 bif (decide ((h_0.fRest.size:Int)<64)) then
  (z0 h_0.fCount 0 1000000000).bind fun r0=>
  bif r0 then
  some ((h_0.fCount.tmod 64) == (h_0.fRest.size:Int))
  else
  some false
 else
  some false
 else
 some false
noncomputable def La:Qi:=G6 CY
theorem RAG:Tells ctx PP 141 cv4 cv6 (fun a=>La a):=fn_ok0 (hc Vd hl_nil) Tryz.func141 ((fun z0 a=>by kernel_rfl:∀ z0,EntryIs0 ctx PP 141 [] [(50,Cb z0)] cv4 cv6 fun a=>G6 z0 a) CY)
noncomputable def Kw {γ:Type} (F:Qi):Hd ctx γ:=hdl cv4.dec (fun a=>F a) cv6.enc
abbrev Nw:=ByteArray→Int→Option Int
noncomputable def H6 (s_0:ByteArray) (at_1:Int):Option Int:=
 bif ((decide (0≤at_1)) && (decide (at_1<(s_0.size:Int)))) then
 bif ((decide (0≤(w64 (at_1+1)))) && (decide ((w64 (at_1+1))<(s_0.size:Int)))) then
 bif ((decide (0≤(w64 (at_1+2)))) && (decide ((w64 (at_1+2))<(s_0.size:Int)))) then
 bif ((decide (0≤(w64 (at_1+3)))) && (decide ((w64 (at_1+3))<(s_0.size:Int)))) then
 some (w32 ((w32 ((w32 ((w32 ((w32 (bt s_0 at_1))*16777216))+(w32 ((w32 (bt s_0 (w64 (at_1+1))))*65536))))+(w32 ((w32 (bt s_0 (w64 (at_1+2))))*256))))+(w32 (bt s_0 (w64 (at_1+3))))))
 else none
 else none
 else none
 else none
noncomputable def Fg:Nw:=H6
theorem VAN:Tells ctx PP 176 cv7 cv8 (fun a=>Fg a.1 a.2):=fn_ok0 hl_nil Tryz.func176 (fun a=>by kernel_rfl:EntryIs0 ctx PP 176 [] [] cv7 cv8 fun a=>H6 a.1 a.2)
noncomputable def SAG {γ:Type} (F:Nw):Hd ctx γ:=hdl cv7.dec (fun a=>F a.1 a.2) cv8.enc
abbrev Gf:=ByteArray→Option (List Int)
inductive Zl where
 | c0 (s_0:ByteArray) (i_4:Int) (out_3:(List Int))
noncomputable def UAG:Zl→LI
 | .c0 s_0 i_4 out_3=>(tdo Tryz.f142 464,[(0,[.one (.str s_0)]),(3,[.one (.own 240)]),(4,[.one (.int .i64 i_4)])],[(240,.sl 138 out_3)])
noncomputable def VAG (z0:Nw) (k:Zl→Option (List Int)) (s_0:ByteArray):Option (List Int):=
 k (.c0 s_0 0 [])
noncomputable def Qw (z0:Nw) (k:Zl→Option (List Int)):Zl→Option (List Int)
 | .c0 s_0 i_4 out_3=>
 bif (decide ((w64 (i_4+4))≤(s_0.size:Int))) then
  (z0 s_0 i_4).bind fun r0=>
  bif (decide (((out_3.length+1)*4)≤140737488355328)) then
  k (.c0 s_0 (w64 (i_4+4)) (out_3++[r0]))
  else none
 else
  some out_3
noncomputable def Am:Nat→Zl→Option (List Int)
 | 0,_=>none
 | m+1,s=>Qw Fg (Am m) s
noncomputable def NZ:Gf:=VAG Fg (Am gas)
theorem J6:Tells ctx PP 142 cv3 cv1 (fun a=>NZ a):=
 have b:∀ z0,CutIs ctx PP 142 Tryz.f142 [] [(176,SAG z0)] cv1 UAG (Qw z0):=fun z0 _ s=>by cases s <;> kernel_rfl
 have e:∀ z0,EntryIs ctx PP 142 [] [(176,SAG z0)] cv3 cv1 UAG (fun k a=>VAG z0 k a):=fun z0 _ a=>by kernel_rfl
 fn_ok (hc VAN hl_nil) Tryz.func142 (fun s s' h=>by cases s;cases s';cases h;rfl) (fun _=>rfl) (fun _ _=>rfl) (b Fg) (e Fg) gas
noncomputable def Ri {γ:Type} (F:Gf):Hd ctx γ:=hdl cv3.dec (fun a=>F a) cv1.enc
abbrev Si:=Option (List Int)
noncomputable def WAG  : Option (List Int):=
 some [1116352408,1899447441,3049323471,3921009573,961987163,1508970993,2453635748,2870763221,3624381080,310598401,607225278,1426881987,1925078388,2162078206,2614888103,3248222580,3835390401,4022224774,264347078,604807628,770255983,1249150122,1555081692,1996064986,2554220882,2821834349,2952996808,3210313671,3336571891,3584528711,113926993,338241895,666307205,773529912,1294757372,1396182291,1695183700,1986661051,2177026350,2456956037,2730485921,2820302411,3259730800,3345764771,3516065817,3600352804,4094571909,275423344,430227734,506948616,659060556,883997877,958139571,1322822218,1537002063,1747873779,1955562222,2024104815,2227730452,2361852424,2428436474,2756734187,3204031479,3329325298]
noncomputable def Mc:Si:=WAG
theorem XAG:Tells ctx PP 143 cv0 cv1 (fun _=>Mc):=fn_ok0 hl_nil Tryz.func143 (fun _=>by kernel_rfl:EntryIs0 ctx PP 143 [] [] cv0 cv1 fun _=>WAG)
noncomputable def Rw {γ:Type} (F:Si):Hd ctx γ:=hdl cv0.dec (fun _=>F) cv1.enc
abbrev L6:=Int→Int→Int→Option Int
noncomputable def O6 (x_0:Int) (low_1:Int) (high_2:Int):Option Int:=
 bif (!(low_1 == 0)) then
 bif (!(low_1 == 0)) then
 some (w32 ((w32 (x_0.tdiv low_1))+(w32 ((x_0.tmod low_1)*high_2))))
 else none
 else none
noncomputable def Cm:L6:=O6
theorem WAN:Tells ctx PP 204 cv9 cv8 (fun a=>Cm a.1 a.2.1 a.2.2):=fn_ok0 hl_nil Tryz.func204 (fun a=>by kernel_rfl:EntryIs0 ctx PP 204 [] [] cv9 cv8 fun a=>O6 a.1 a.2.1 a.2.2)
noncomputable def XAN {γ:Type} (F:L6):Hd ctx γ:=hdl cv9.dec (fun a=>F a.1 a.2.1 a.2.2) cv8.enc
abbrev Uw:=Int→Int→Int→Int→Bool→Option Int
noncomputable def Ti (z0:L6) (x_0:Int) (a_1:Int) (b_2:Int) (c_3:Int) (last_4:Bool):Option Int:=
 bif (!(a_1 == 0)) then
 (z0 x_0 a_1 (w32 ((w32 ((2147483648:Int).tdiv a_1))*2))).bind fun r0=>
 bif (!(b_2 == 0)) then
 (z0 x_0 b_2 (w32 ((w32 ((2147483648:Int).tdiv b_2))*2))).bind fun r1=>
 bif (!(c_3 == 0)) then
 bif (!last_4) then
 bif (!(c_3 == 0)) then
 (z0 x_0 c_3 (w32 ((w32 ((2147483648:Int).tdiv c_3))*2))).bind fun r2=>
 some (w32 (((BitVec.toNat ((BitVec.ofInt (IntKind.bits IntKind.u32) (w32 (((BitVec.toNat ((BitVec.ofInt (IntKind.bits IntKind.u32) r0) ^^^ (BitVec.ofInt (IntKind.bits IntKind.u32) r1))):Nat):Int))) ^^^ (BitVec.ofInt (IntKind.bits IntKind.u32) r2))):Nat):Int))
 else none
 else
 some (w32 (((BitVec.toNat ((BitVec.ofInt (IntKind.bits IntKind.u32) (w32 (((BitVec.toNat ((BitVec.ofInt (IntKind.bits IntKind.u32) r0) ^^^ (BitVec.ofInt (IntKind.bits IntKind.u32) r1))):Nat):Int))) ^^^ (BitVec.ofInt (IntKind.bits IntKind.u32) (w32 (x_0.tdiv c_3))))):Nat):Int))
 else none
 else none
 else none
noncomputable def Na:Uw:=Ti Cm
theorem YAN:Tells ctx PP 177 cv10 cv8 (fun a=>Na a.1 a.2.1 a.2.2.1 a.2.2.2.1 a.2.2.2.2):=fn_ok0 (hc WAN hl_nil) Tryz.func177 ((fun z0 a=>by kernel_rfl:∀ z0,EntryIs0 ctx PP 177 [] [(204,XAN z0)] cv10 cv8 fun a=>Ti z0 a.1 a.2.1 a.2.2.1 a.2.2.2.1 a.2.2.2.2) Cm)
noncomputable def YAG {γ:Type} (F:Uw):Hd ctx γ:=hdl cv10.dec (fun a=>F a.1 a.2.1 a.2.2.1 a.2.2.2.1 a.2.2.2.2) cv8.enc
abbrev Ui:=(List Int)→(List Int)→ByteArray→Option (List Int)
inductive Em where
 | c0 (t_0:(List Int)) (o_1:(List Int)) (v_8:Int) (v_7:(List Int))
 | c1 (t_0:(List Int)) (o_1:(List Int)) (v_10:Int) (v_7:(List Int)) (v_9:(List Int))
 | c2 (t_0:(List Int)) (o_1:(List Int)) (v_10:Int) (v_13:Int) (v_15:Int) (v_16:Int) (v_7:(List Int)) (v_9:(List Int))
 | c3 (t_0:(List Int)) (v_18:Int) (v_9:(List Int)) (v_17:(List Int))
noncomputable def AAH:Em→LI
 | .c0 t_0 o_1 v_8 v_7=>(tdo Tryz.f144 464,[(0,[.one (.rsl 138 t_0)]),(1,[.one (.rsl 138 o_1)]),(7,[.one (.own 496)]),(8,[.one (.int .i64 v_8)])],[(496,.sl 138 v_7)])
 | .c1 t_0 o_1 v_10 v_7 v_9=>(tdo Tryz.f144 2000,[(0,[.one (.rsl 138 t_0)]),(1,[.one (.rsl 138 o_1)]),(7,[.one (.own 496)]),(9,[.one (.own 624)]),(10,[.one (.int .i64 v_10)])],[(496,.sl 138 v_7),(624,.sl 138 v_9)])
 | .c2 t_0 o_1 v_10 v_13 v_15 v_16 v_7 v_9=>(tdo Tryz.f144 8202192,[(0,[.one (.rsl 138 t_0)]),(1,[.one (.rsl 138 o_1)]),(7,[.one (.own 496)]),(9,[.one (.own 624)]),(10,[.one (.int .i64 v_10)]),(13,[.one (.int .u32 v_13)]),(15,[.one (.int .u32 v_15)]),(16,[.one (.int .i64 v_16)])],[(496,.sl 138 v_7),(624,.sl 138 v_9)])
 | .c3 t_0 v_18 v_9 v_17=>(tdo Tryz.f144 8144,[(0,[.one (.rsl 138 t_0)]),(9,[.one (.own 624)]),(17,[.one (.own 1136)]),(18,[.one (.int .i64 v_18)])],[(624,.sl 138 v_9),(1136,.sl 138 v_17)])
noncomputable def P6 (z0:Gf) (z1:Uw) (k:Em→Option (List Int)) (t_0:(List Int)) (o_1:(List Int)) (A_2:ByteArray):Option (List Int):=
 (z0 A_2).bind fun r0=>
 k (.c0 t_0 o_1 16 r0)
noncomputable def Nc (z0:Gf) (z1:Uw) (k:Em→Option (List Int)):Em→Option (List Int)
 | .c0 t_0 o_1 v_8 v_7=>
 bif (decide (v_8<64)) then
  bif ((decide (0≤(w64 (v_8 - 2)))) && (decide ((w64 (v_8 - 2))<(v_7.length:Int)))) then
  (z1 (v_7.getD (w64 (v_8 - 2)).toNat 0) 131072 524288 1024 true).bind fun r0=>
  bif ((decide (0≤(w64 (v_8 - 7)))) && (decide ((w64 (v_8 - 7))<(v_7.length:Int)))) then
  bif ((decide (0≤(w64 (v_8 - 15)))) && (decide ((w64 (v_8 - 15))<(v_7.length:Int)))) then
  (z1 (v_7.getD (w64 (v_8 - 15)).toNat 0) 128 262144 8 true).bind fun r1=>
  bif ((decide (0≤(w64 (v_8 - 16)))) && (decide ((w64 (v_8 - 16))<(v_7.length:Int)))) then
  bif (decide (((v_7.length+1)*4)≤140737488355328)) then
  k (.c0 t_0 o_1 (w64 (v_8+1)) (v_7++[(w32 ((w32 ((w32 (r0+(v_7.getD (w64 (v_8 - 7)).toNat 0)))+r1))+(v_7.getD (w64 (v_8 - 16)).toNat 0)))]))
  else none
  else none
  else none
  else none
  else none
 else
  bif (decide (((0+t_0.length)*4)≤140737488355328)) then
  k (.c1 t_0 o_1 0 v_7 ([]++t_0))
  else none
 | .c1 t_0 o_1 v_10 v_7 v_9=>
 bif (decide (v_10<64)) then
  bif ((decide ((0:Int)≤(4:Int))) && (decide (4<(v_9.length:Int)))) then
  bif ((decide ((0:Int)≤(5:Int))) && (decide (5<(v_9.length:Int)))) then
  bif ((decide ((0:Int)≤(6:Int))) && (decide (6<(v_9.length:Int)))) then
  bif ((decide ((0:Int)≤(7:Int))) && (decide (7<(v_9.length:Int)))) then
  (z1 (v_9.getD (4:Int).toNat 0) 64 2048 33554432 false).bind fun r0=>
  bif ((decide (0≤v_10)) && (decide (v_10<(o_1.length:Int)))) then
  bif ((decide (0≤v_10)) && (decide (v_10<(v_7.length:Int)))) then
  bif ((decide ((0:Int)≤(0:Int))) && (decide (0<(v_9.length:Int)))) then
  bif ((decide ((0:Int)≤(1:Int))) && (decide (1<(v_9.length:Int)))) then
  bif ((decide ((0:Int)≤(0:Int))) && (decide (0<(v_9.length:Int)))) then
  bif ((decide ((0:Int)≤(2:Int))) && (decide (2<(v_9.length:Int)))) then
  bif ((decide ((0:Int)≤(1:Int))) && (decide (1<(v_9.length:Int)))) then
  bif ((decide ((0:Int)≤(2:Int))) && (decide (2<(v_9.length:Int)))) then
  bif ((decide ((0:Int)≤(0:Int))) && (decide (0<(v_9.length:Int)))) then
  (z1 (v_9.getD (0:Int).toNat 0) 4 8192 4194304 false).bind fun r1=>
  k (.c2 t_0 o_1 v_10 (w32 ((w32 ((w32 ((w32 ((v_9.getD (7:Int).toNat 0)+r0))+(w32 (((BitVec.toNat ((BitVec.ofInt (IntKind.bits IntKind.u32) (w32 (((BitVec.toNat ((BitVec.ofInt (IntKind.bits IntKind.u32) (v_9.getD (4:Int).toNat 0)) &&& (BitVec.ofInt (IntKind.bits IntKind.u32) (v_9.getD (5:Int).toNat 0)))):Nat):Int))) ^^^ (BitVec.ofInt (IntKind.bits IntKind.u32) (w32 (((BitVec.toNat ((BitVec.ofInt (IntKind.bits IntKind.u32) (w32 (4294967295 - (v_9.getD (4:Int).toNat 0)))) &&& (BitVec.ofInt (IntKind.bits IntKind.u32) (v_9.getD (6:Int).toNat 0)))):Nat):Int))))):Nat):Int))))+(o_1.getD v_10.toNat 0)))+(v_7.getD v_10.toNat 0))) (w32 (r1+(w32 (((BitVec.toNat ((BitVec.ofInt (IntKind.bits IntKind.u32) (w32 (((BitVec.toNat ((BitVec.ofInt (IntKind.bits IntKind.u32) (w32 (((BitVec.toNat ((BitVec.ofInt (IntKind.bits IntKind.u32) (v_9.getD (0:Int).toNat 0)) &&& (BitVec.ofInt (IntKind.bits IntKind.u32) (v_9.getD (1:Int).toNat 0)))):Nat):Int))) ^^^ (BitVec.ofInt (IntKind.bits IntKind.u32) (w32 (((BitVec.toNat ((BitVec.ofInt (IntKind.bits IntKind.u32) (v_9.getD (0:Int).toNat 0)) &&& (BitVec.ofInt (IntKind.bits IntKind.u32) (v_9.getD (2:Int).toNat 0)))):Nat):Int))))):Nat):Int))) ^^^ (BitVec.ofInt (IntKind.bits IntKind.u32) (w32 (((BitVec.toNat ((BitVec.ofInt (IntKind.bits IntKind.u32) (v_9.getD (1:Int).toNat 0)) &&& (BitVec.ofInt (IntKind.bits IntKind.u32) (v_9.getD (2:Int).toNat 0)))):Nat):Int))))):Nat):Int)))) 7 v_7 v_9)
  else none
  else none
  else none
  else none
  else none
  else none
  else none
  else none
  else none
  else none
  else none
  else none
  else none
 else
  k (.c3 t_0 0 v_9 [])
 | .c2 t_0 o_1 v_10 v_13 v_15 v_16 v_7 v_9=>
 bif (decide (v_16 > 0)) then
  bif ((decide (0≤(w64 (v_16 - 1)))) && (decide ((w64 (v_16 - 1))<(v_9.length:Int)))) then
  bif ((decide (0≤v_16)) && (decide (v_16<(v_9.length:Int)))) then
  k (.c2 t_0 o_1 v_10 v_13 v_15 (w64 (v_16 - 1)) v_7 (v_9.set v_16.toNat (v_9.getD (w64 (v_16 - 1)).toNat 0)))
  else none
  else none
 else
  bif ((decide ((0:Int)≤(4:Int))) && (decide (4<(v_9.length:Int)))) then
  bif ((decide ((0:Int)≤(4:Int))) && (decide (4<(v_9.length:Int)))) then
  bif ((decide ((0:Int)≤(0:Int))) && (decide (0<((v_9.set (4:Int).toNat (w32 ((v_9.getD (4:Int).toNat 0)+v_13))).length:Int)))) then
  k (.c1 t_0 o_1 (w64 (v_10+1)) v_7 ((v_9.set (4:Int).toNat (w32 ((v_9.getD (4:Int).toNat 0)+v_13))).set (0:Int).toNat (w32 (v_13+v_15))))
  else none
  else none
  else none
 | .c3 t_0 v_18 v_9 v_17=>
 bif (decide (v_18<8)) then
  bif ((decide (0≤v_18)) && (decide (v_18<(t_0.length:Int)))) then
  bif ((decide (0≤v_18)) && (decide (v_18<(v_9.length:Int)))) then
  bif (decide (((v_17.length+1)*4)≤140737488355328)) then
  k (.c3 t_0 (w64 (v_18+1)) v_9 (v_17++[(w32 ((t_0.getD v_18.toNat 0)+(v_9.getD v_18.toNat 0)))]))
  else none
  else none
  else none
 else
  some v_17
noncomputable def ZY:Nat→Em→Option (List Int)
 | 0,_=>none
 | m+1,s=>Nc NZ Na (ZY m) s
noncomputable def Jb:Ui:=P6 NZ Na (ZY gas)
theorem BAH:Tells ctx PP 144 cv11 cv1 (fun a=>Jb a.1 a.2.1 a.2.2):=
 have b:∀ z0 z1,CutIs ctx PP 144 Tryz.f144 [] [(142,Ri z0),(177,YAG z1)] cv1 AAH (Nc z0 z1):=fun z0 z1 _ s=>by cases s <;> kernel_rfl
 have e:∀ z0 z1,EntryIs ctx PP 144 [] [(142,Ri z0),(177,YAG z1)] cv11 cv1 AAH (fun k a=>P6 z0 z1 k a.1 a.2.1 a.2.2):=fun z0 z1 _ a=>by kernel_rfl
 fn_ok (hc J6 (hc YAN hl_nil)) Tryz.func144 (fun s s' h=>by cases s <;> cases s' <;> first | (cases h;done) | (cases h;rfl) | exact (rg_ne h (by kernel_rfl)).elim) (fun _=>rfl) (fun _ _=>rfl) (b NZ Na) (e NZ Na) gas
noncomputable def Vw {γ:Type} (F:Ui):Hd ctx γ:=hdl cv11.dec (fun a=>F a.1 a.2.1 a.2.2) cv1.enc
abbrev U6:=SHasher→ByteArray→Option SHasher
inductive Gm where
 | c0 (s_1:ByteArray) (buf_7:ByteArray) (at_8:Int) (h_2:SHasher) (v_4:SHasher) (state_5:(List Int)) (k_6:(List Int))
noncomputable def CAH:Gm→LI
 | .c0 s_1 buf_7 at_8 h_2 v_4 state_5 k_6=>(tdo Tryz.f90 4064,[(1,[.one (.str s_1)]),(2,[.one (.ptr 128 0)]),(4,[.one (.ptr 256 0)]),(5,[.one (.own 368)]),(6,[.one (.own 432)]),(7,[.one (.str buf_7)]),(8,[.one (.int .i64 at_8)])],[(128,.var [.str h_2.fState,.str h_2.fRest,.int .i64 h_2.fCount]),(256,.var [.str v_4.fState,.str v_4.fRest,.int .i64 v_4.fCount]),(368,.sl 138 state_5),(432,.sl 138 k_6)])
noncomputable def V6 (z0:Qi) (z1:Gf) (z2:Si) (z3:Ui) (z4:Bg) (k:Gm→Option SHasher) (h_0:SHasher) (s_1:ByteArray):Option SHasher:=
 (z0 h_0).bind fun r0=>
 bif (!r0) then
 some h_0
 else
 bif (decide ((w64 (h_0.fCount+(s_1.size:Int))) > 1000000000)) then
  some h_0
 else
  (z1 h_0.fState).bind fun r1=>
  z2.bind fun r2=>
  bif (decide ((h_0.fRest.size+s_1.size)≤9223372036854775807)) then
  k (.c0 s_1 (h_0.fRest++s_1) 0 h_0 ⟨⟨#[]⟩,⟨#[]⟩,0⟩ r1 r2)
  else none
noncomputable def Xw (z0:Qi) (z1:Gf) (z2:Si) (z3:Ui) (z4:Bg) (k:Gm→Option SHasher):Gm→Option SHasher
 | .c0 s_1 buf_7 at_8 h_2 v_4 state_5 k_6=>
 bif (decide ((w64 (at_8+64))≤(buf_7.size:Int))) then
  bif (((decide (0≤at_8)) && (decide (at_8≤(w64 (at_8+64))))) && (decide ((w64 (at_8+64))≤(buf_7.size:Int)))) then
  (z3 state_5 k_6 (buf_7.extract at_8.toNat (w64 (at_8+64)).toNat)).bind fun r0=>
  k (.c0 s_1 buf_7 (w64 (at_8+64)) h_2 v_4 r0 k_6)
  else none
 else
  (z4 state_5).bind fun r1=>
  bif ((decide (0≤at_8)) && (decide (at_8≤(buf_7.size:Int)))) then
  some ⟨r1,(buf_7.extract at_8.toNat buf_7.size),(w64 (h_2.fCount+(s_1.size:Int)))⟩
  else none
noncomputable def Jm:Nat→Gm→Option SHasher
 | 0,_=>none
 | m+1,s=>Xw La NZ Mc Jb Za (Jm m) s
noncomputable def Lm:U6:=V6 La NZ Mc Jb Za (Jm gas)
theorem ZAN:Tells ctx PP 90 cv12 cv4 (fun a=>Lm a.1 a.2):=
 have b:∀ z0 z1 z2 z3 z4,CutIs ctx PP 90 Tryz.f90 [] [(141,Kw z0),(142,Ri z1),(143,Rw z2),(144,Vw z3),(145,Xl z4)] cv4 CAH (Xw z0 z1 z2 z3 z4):=fun z0 z1 z2 z3 z4 _ s=>by cases s <;> kernel_rfl
 have e:∀ z0 z1 z2 z3 z4,EntryIs ctx PP 90 [] [(141,Kw z0),(142,Ri z1),(143,Rw z2),(144,Vw z3),(145,Xl z4)] cv12 cv4 CAH (fun k a=>V6 z0 z1 z2 z3 z4 k a.1 a.2):=fun z0 z1 z2 z3 z4 _ a=>by kernel_rfl
 fn_ok (hc RAG (hc J6 (hc XAG (hc BAH (hc Z5 hl_nil))))) Tryz.func90 (fun s s' h=>by cases s;cases s';(repeat cases ‹SHasher›);cases h;rfl) (fun _=>rfl) (fun _ _=>rfl) (b La NZ Mc Jb Za) (e La NZ Mc Jb Za) gas
noncomputable def AAO {γ:Type} (F:U6):Hd ctx γ:=hdl cv12.dec (fun a=>F a.1 a.2) cv4.enc
abbrev X6:=SHasher→Option ByteArray
inductive Om where
 | c0 (h_1:SHasher) (tail_3:(List Int))
 | c1 (bits_4:Int) (i_5:Int) (h_1:SHasher) (tail_3:(List Int))
 | c2 (bits_4:Int) (i_5:Int) (x_6:Int) (k_7:Int) (h_1:SHasher) (tail_3:(List Int))
 | c3 (at_10:Int) (tail_3:(List Int)) (state_8:(List Int)) (k_9:(List Int))
noncomputable def DAH:Om→LI
 | .c0 h_1 tail_3=>(tdo Tryz.f89 992,[(1,[.one (.ptr 64 0)]),(3,[.one (.own 240)])],[(64,.var [.str h_1.fState,.str h_1.fRest,.int .i64 h_1.fCount]),(240,.sl 5 tail_3)])
 | .c1 bits_4 i_5 h_1 tail_3=>(tdo Tryz.f89 8144,[(1,[.one (.ptr 64 0)]),(3,[.one (.own 240)]),(4,[.one (.int .i64 bits_4)]),(5,[.one (.int .i64 i_5)])],[(64,.var [.str h_1.fState,.str h_1.fRest,.int .i64 h_1.fCount]),(240,.sl 5 tail_3)])
 | .c2 bits_4 i_5 x_6 k_7 h_1 tail_3=>(tdo Tryz.f89 2085456,[(1,[.one (.ptr 64 0)]),(3,[.one (.own 240)]),(4,[.one (.int .i64 bits_4)]),(5,[.one (.int .i64 i_5)]),(6,[.one (.int .i64 x_6)]),(7,[.one (.int .i64 k_7)])],[(64,.var [.str h_1.fState,.str h_1.fRest,.int .i64 h_1.fCount]),(240,.sl 5 tail_3)])
 | .c3 at_10 tail_3 state_8 k_9=>(tdo Tryz.f89 65488,[(3,[.one (.own 240)]),(8,[.one (.own 560)]),(9,[.one (.own 624)]),(10,[.one (.int .i64 at_10)])],[(240,.sl 5 tail_3),(560,.sl 138 state_8),(624,.sl 138 k_9)])
noncomputable def Y6 (z0:Qi) (z1:Gf) (z2:Si) (z3:Ui) (z4:Bg) (k:Om→Option ByteArray) (h_0:SHasher):Option ByteArray:=
 (z0 h_0).bind fun r0=>
 bif (!r0) then
 some ⟨#[]⟩
 else
 bif (decide (h_0.fRest.size≤9223372036854775807)) then
 bif (decide ((((bytesOf h_0.fRest).length+1)*1)≤140737488355328)) then
 k (.c0 h_0 ((bytesOf h_0.fRest)++[(128:Int)]))
 else none
 else none
noncomputable def Oc (z0:Qi) (z1:Gf) (z2:Si) (z3:Ui) (z4:Bg) (k:Om→Option ByteArray):Om→Option ByteArray
 | .c0 h_1 tail_3=>
 bif (((tail_3.length:Int).tmod 64) != 56) then
  bif (decide (((tail_3.length+1)*1)≤140737488355328)) then
  k (.c0 h_1 (tail_3++[(0:Int)]))
  else none
 else
  k (.c1 (w64 (8*h_1.fCount)) 7 h_1 tail_3)
 | .c1 bits_4 i_5 h_1 tail_3=>
 bif (decide (i_5≥0)) then
  k (.c2 bits_4 i_5 bits_4 0 h_1 tail_3)
 else
  (z1 h_1.fState).bind fun r0=>
  z2.bind fun r1=>
  k (.c3 0 tail_3 r0 r1)
 | .c2 bits_4 i_5 x_6 k_7 h_1 tail_3=>
 bif (decide (k_7<i_5)) then
  k (.c2 bits_4 i_5 (w64 (x_6.tdiv 256)) (w64 (k_7+1)) h_1 tail_3)
 else
  bif (decide (((tail_3.length+1)*1)≤140737488355328)) then
  k (.c1 bits_4 (w64 (i_5 - 1)) h_1 (tail_3++[(w8 (x_6.tmod 256))]))
  else none
 | .c3 at_10 tail_3 state_8 k_9=>
 bif (decide (at_10<(tail_3.length:Int))) then
  bif (((decide (0≤at_10)) && (decide (at_10≤(w64 (at_10+64))))) && (decide ((w64 (at_10+64))≤(tail_3.length:Int)))) then
  (z3 state_8 k_9 (ofBytes ((tail_3.drop at_10.toNat).take ((w64 (at_10+64)).toNat - at_10.toNat)))).bind fun r0=>
  k (.c3 (w64 (at_10+64)) tail_3 r0 k_9)
  else none
 else
  (z4 state_8).bind fun r1=>
  some r1
noncomputable def AZ:Nat→Om→Option ByteArray
 | 0,_=>none
 | m+1,s=>Oc La NZ Mc Jb Za (AZ m) s
noncomputable def Pm:X6:=Y6 La NZ Mc Jb Za (AZ gas)
theorem BAO:Tells ctx PP 89 cv4 cv3 (fun a=>Pm a):=
 have b:∀ z0 z1 z2 z3 z4,CutIs ctx PP 89 Tryz.f89 [] [(141,Kw z0),(142,Ri z1),(143,Rw z2),(144,Vw z3),(145,Xl z4)] cv3 DAH (Oc z0 z1 z2 z3 z4):=fun z0 z1 z2 z3 z4 _ s=>by cases s <;> kernel_rfl
 have e:∀ z0 z1 z2 z3 z4,EntryIs ctx PP 89 [] [(141,Kw z0),(142,Ri z1),(143,Rw z2),(144,Vw z3),(145,Xl z4)] cv4 cv3 DAH (fun k a=>Y6 z0 z1 z2 z3 z4 k a):=fun z0 z1 z2 z3 z4 _ a=>by kernel_rfl
 fn_ok (hc RAG (hc J6 (hc XAG (hc BAH (hc Z5 hl_nil))))) Tryz.func89 (fun s s' h=>by cases s <;> cases s' <;> first | ((repeat cases ‹SHasher›);cases h;done) | ((repeat cases ‹SHasher›);cases h;rfl) | exact (rg_ne h (by kernel_rfl)).elim) (fun _=>rfl) (fun _ _=>rfl) (b La NZ Mc Jb Za) (e La NZ Mc Jb Za) gas
noncomputable def CAO {γ:Type} (F:X6):Hd ctx γ:=hdl cv4.dec (fun a=>F a) cv3.enc
abbrev Xd:=ByteArray→Option ByteArray
noncomputable def D7 (z0:D6) (z1:U6) (z2:X6) (s_0:ByteArray):Option ByteArray:=
 z0.bind fun r0=>
 (z1 r0 s_0).bind fun r1=>
 (z2 r1).bind fun r2=>
 some r2
noncomputable def BZ:Xd:=D7 Yl Lm Pm
theorem Qm:Tells ctx PP 26 cv3 cv3 (fun a=>BZ a):=fn_ok0 (hc TAN (hc ZAN (hc BAO hl_nil))) Tryz.func26 ((fun z0 z1 z2 a=>by kernel_rfl:∀ z0 z1 z2,EntryIs0 ctx PP 26 [] [(91,UAN z0),(90,AAO z1),(89,CAO z2)] cv3 cv3 fun a=>D7 z0 z1 z2 a) Yl Lm Pm)
noncomputable def Gg {γ:Type} (F:Xd):Hd ctx γ:=hdl cv3.dec (fun a=>F a) cv3.enc
abbrev F7:=Int→Int→Option ByteArray
inductive Sm where
 | c0 (n_0:Int) (x_1:Int) (i_6:Int) (out_5:(List Int))
noncomputable def EAH:Sm→LI
 | .c0 n_0 x_1 i_6 out_5=>(tdo Tryz.f97 464,[(0,[.one (.int .i64 n_0)]),(1,[.one (.int .u8 x_1)]),(5,[.one (.own 368)]),(6,[.one (.int .i64 i_6)])],[(368,.sl 5 out_5)])
noncomputable def G7 (k:Sm→Option ByteArray) (n_0:Int) (x_1:Int):Option ByteArray:=
 bif ((((decide (0≤n_0)) && (decide (n_0≤n_0))) && (decide (n_0≤9223372036854775807))) && (decide ((n_0.toNat*1)≤140737488355328))) then
 k (.c0 n_0 x_1 0 (List.replicate n_0.toNat (0:Int)))
 else none
noncomputable def Yw (k:Sm→Option ByteArray):Sm→Option ByteArray
 | .c0 n_0 x_1 i_6 out_5=>
 bif (decide (i_6<n_0)) then
  bif ((decide (0≤i_6)) && (decide (i_6<(out_5.length:Int)))) then
  k (.c0 n_0 x_1 (w64 (i_6+1)) (out_5.set i_6.toNat x_1))
  else none
 else
  some (ofBytes out_5)
noncomputable def Um:Nat→Sm→Option ByteArray
 | 0,_=>none
 | m+1,s=>Yw (Um m) s
noncomputable def Vm:F7:=G7 (Um gas)
theorem DAO:Tells ctx PP 97 cv13 cv3 (fun a=>Vm a.1 a.2):=
 have b:CutIs ctx PP 97 Tryz.f97 [] [] cv3 EAH (Yw):=fun _ s=>by cases s <;> kernel_rfl
 have e:EntryIs ctx PP 97 [] [] cv13 cv3 EAH (fun k a=>G7 k a.1 a.2):=fun _ a=>by kernel_rfl
 fn_ok hl_nil Tryz.func97 (fun s s' h=>by cases s;cases s';cases h;rfl) (fun _=>rfl) (fun _ _=>rfl) b e gas
noncomputable def EAO {γ:Type} (F:F7):Hd ctx γ:=hdl cv13.dec (fun a=>F a.1 a.2) cv3.enc
abbrev H7:=Option SBook
noncomputable def I7 (z0:Xd) (z1:F7)  : Option SBook:=
 (z0 ⟨#[]⟩).bind fun r0=>
 (z1 32 0).bind fun r1=>
 some ⟨r0,0,[],0,r1,0⟩
noncomputable def Xm:H7:=I7 BZ Vm
theorem FAO:Tells ctx PP 28 cv0 cv14 (fun _=>Xm):=fn_ok0 (hc Qm (hc DAO hl_nil)) Tryz.func28 ((fun z0 z1 _=>by kernel_rfl:∀ z0 z1,EntryIs0 ctx PP 28 [] [(26,Gg z0),(97,EAO z1)] cv0 cv14 fun _=>I7 z0 z1) BZ Vm)
noncomputable def GAO {γ:Type} (F:H7):Hd ctx γ:=hdl cv0.dec (fun _=>F) cv14.enc
abbrev Yd:=Int→Option ByteArray
inductive Ym where
 | c0 (n_0:Int) (out_3:(List Int))
noncomputable def FAH:Ym→LI
 | .c0 n_0 out_3=>(tdo Tryz.f147 224,[(0,[.one (.int .i64 n_0)]),(3,[.one (.own 240)])],[(240,.sl 5 out_3)])
noncomputable def GAH (k:Ym→Option ByteArray) (n_0:Int):Option ByteArray:=
 k (.c0 n_0 [])
noncomputable def Zw (k:Ym→Option ByteArray):Ym→Option ByteArray
 | .c0 n_0 out_3=>
 bif (decide (n_0 > 127)) then
  bif (decide (((out_3.length+1)*1)≤140737488355328)) then
  k (.c0 (w64 (n_0.tdiv 128)) (out_3++[(w8 (w64 ((n_0.tmod 128)+128)))]))
  else none
 else
  bif (decide (((out_3.length+1)*1)≤140737488355328)) then
  some (ofBytes (out_3++[(w8 n_0)]))
  else none
noncomputable def Zm:Nat→Ym→Option ByteArray
 | 0,_=>none
 | m+1,s=>Zw (Zm m) s
noncomputable def LZ:Yd:=GAH (Zm gas)
theorem Wi:Tells ctx PP 147 cv15 cv3 (fun a=>LZ a):=
 have b:CutIs ctx PP 147 Tryz.f147 [] [] cv3 FAH (Zw):=fun _ s=>by cases s <;> kernel_rfl
 have e:EntryIs ctx PP 147 [] [] cv15 cv3 FAH (fun k a=>GAH k a):=fun _ a=>by kernel_rfl
 fn_ok hl_nil Tryz.func147 (fun s s' h=>by cases s;cases s';cases h;rfl) (fun _=>rfl) (fun _ _=>rfl) b e gas
noncomputable def Hg {γ:Type} (F:Yd):Hd ctx γ:=hdl cv15.dec (fun a=>F a) cv3.enc
abbrev Dn:=SThing→Option Bool
noncomputable def J7 (z0:VZ) (x_0:SThing):Option Bool:=
 (z0 x_0.fId 1 1000).bind fun r0=>
 bif (!r0) then
 some false
 else
 (z0 x_0.fKind 1 3).bind fun r1=>
 bif (!r1) then
  some false
 else
  (z0 x_0.fNext 0 16).bind fun r2=>
  bif (!r2) then
  some false
  else
  bif (x_0.fKind != 2) then
   bif (x_0.fNext != 0) then
   some false
   else
   bif x_0.fSigns then
    some false
   else
    bif (x_0.fKind != 1) then
    bif x_0.fWraps then
     some false
    else
     bif (x_0.fKind == 3) then
     some (decide ((x_0.fValue.size:Int)≤100))
     else
     some ((x_0.fValue.size:Int) == 32)
    else
    bif (x_0.fKind == 3) then
     some (decide ((x_0.fValue.size:Int)≤100))
    else
     some ((x_0.fValue.size:Int) == 32)
  else
   bif (x_0.fKind != 1) then
   bif x_0.fWraps then
    some false
   else
    bif (x_0.fKind == 3) then
    some (decide ((x_0.fValue.size:Int)≤100))
    else
    some ((x_0.fValue.size:Int) == 32)
   else
   bif (x_0.fKind == 3) then
    some (decide ((x_0.fValue.size:Int)≤100))
   else
    some ((x_0.fValue.size:Int) == 32)
noncomputable def Zd:Dn:=J7 CY
theorem HAH:Tells ctx PP 120 cv16 cv6 (fun a=>Zd a):=fn_ok0 (hc Vd hl_nil) Tryz.func120 ((fun z0 a=>by kernel_rfl:∀ z0,EntryIs0 ctx PP 120 [] [(50,Cb z0)] cv16 cv6 fun a=>J7 z0 a) CY)
noncomputable def N7 {γ:Type} (F:Dn):Hd ctx γ:=hdl cv16.dec (fun a=>F a) cv6.enc
abbrev O7:=Bool→Int→Option Int
noncomputable def IAH (x_0:Bool) (n_1:Int):Option Int:=
 bif x_0 then
 some n_1
 else
 some 0
noncomputable def Dx:O7:=IAH
theorem HAO:Tells ctx PP 178 cv17 cv15 (fun a=>Dx a.1 a.2):=fn_ok0 hl_nil Tryz.func178 (fun a=>by kernel_rfl:EntryIs0 ctx PP 178 [] [] cv17 cv15 fun a=>IAH a.1 a.2)
noncomputable def IAO {γ:Type} (F:O7):Hd ctx γ:=hdl cv17.dec (fun a=>F a.1 a.2) cv15.enc
abbrev En:=Int→Option ByteArray
noncomputable def P7 (n_0:Int):Option ByteArray:=
 bif (decide ((n_0.tmod 256)<0)) then
 some (ofBytes [(w8 (w64 ((n_0.tmod 256)+256)))])
 else
 some (ofBytes [(w8 (n_0.tmod 256))])
noncomputable def Ae:En:=P7
theorem JAH:Tells ctx PP 179 cv15 cv3 (fun a=>Ae a):=fn_ok0 hl_nil Tryz.func179 (fun a=>by kernel_rfl:EntryIs0 ctx PP 179 [] [] cv15 cv3 fun a=>P7 a)
noncomputable def Q7 {γ:Type} (F:En):Hd ctx γ:=hdl cv15.dec (fun a=>F a) cv3.enc
abbrev U7:=ByteArray→Option ByteArray
noncomputable def V7 (z0:Yd) (s_0:ByteArray):Option ByteArray:=
 (z0 (s_0.size:Int)).bind fun r0=>
 bif (decide ((r0.size+s_0.size)≤9223372036854775807)) then
 some (r0++s_0)
 else none
noncomputable def Gn:U7:=V7 LZ
theorem JAO:Tells ctx PP 180 cv3 cv3 (fun a=>Gn a):=fn_ok0 (hc Wi hl_nil) Tryz.func180 ((fun z0 a=>by kernel_rfl:∀ z0,EntryIs0 ctx PP 180 [] [(147,Hg z0)] cv3 cv3 fun a=>V7 z0 a) LZ)
noncomputable def KAO {γ:Type} (F:U7):Hd ctx γ:=hdl cv3.dec (fun a=>F a) cv3.enc
abbrev X7:=SThing→Option (ByteArray×Bool)
noncomputable def Y7 (z0:Dn) (z1:O7) (z2:Yd) (z3:En) (z4:U7) (x_0:SThing):Option (ByteArray×Bool):=
 (z0 x_0).bind fun r0=>
 bif (!r0) then
 some (⟨#[]⟩,false)
 else
 (z1 x_0.fHidden 1).bind fun r1=>
 (z1 x_0.fFixed 2).bind fun r2=>
 (z1 x_0.fSigns 4).bind fun r3=>
 (z1 x_0.fWraps 8).bind fun r4=>
 (z2 x_0.fId).bind fun r5=>
 (z3 x_0.fKind).bind fun r6=>
 bif (decide ((r5.size+r6.size)≤9223372036854775807)) then
 (z3 (w64 ((w64 ((w64 (r1+r2))+r3))+r4))).bind fun r7=>
 bif (decide (((r5++r6).size+r7.size)≤9223372036854775807)) then
 (z4 x_0.fValue).bind fun r8=>
 bif (decide ((((r5++r6)++r7).size+r8.size)≤9223372036854775807)) then
 (z2 x_0.fNext).bind fun r9=>
 bif (decide (((((r5++r6)++r7)++r8).size+r9.size)≤9223372036854775807)) then
 some (((((r5++r6)++r7)++r8)++r9),true)
 else none
 else none
 else none
 else none
noncomputable def Pn:X7:=Y7 Zd Dx LZ Ae Gn
theorem LAO:Tells ctx PP 148 cv16 cv18 (fun a=>Pn a):=fn_ok0 (hc HAH (hc HAO (hc Wi (hc JAH (hc JAO hl_nil))))) Tryz.func148 ((fun z0 z1 z2 z3 z4 a=>by kernel_rfl:∀ z0 z1 z2 z3 z4,EntryIs0 ctx PP 148 [] [(120,N7 z0),(178,IAO z1),(147,Hg z2),(179,Q7 z3),(180,KAO z4)] cv16 cv18 fun a=>Y7 z0 z1 z2 z3 z4 a) Zd Dx LZ Ae Gn)
noncomputable def MAO {γ:Type} (F:X7):Hd ctx γ:=hdl cv16.dec (fun a=>F a) cv18.enc
abbrev Qn:=SRec→Option (ByteArray×Bool)
noncomputable def Z7 (z0:VZ) (z1:Yd) (z2:X7) (r_0:SRec):Option (ByteArray×Bool):=
 bif (r_0.fKind == 1) then
 bif ((r_0.fText.size:Int) == 32) then
  bif (r_0.fNum == 0) then
  bif ((r_0.fThing.fId == 0) && ((r_0.fThing.fKind == 0) && ((r_0.fThing.fHidden == false) && ((r_0.fThing.fFixed == false) && ((r_0.fThing.fSigns == false) && ((r_0.fThing.fWraps == false) && (((ByteArray.toList r_0.fThing.fValue) == (ByteArray.toList ⟨#[]⟩)) && ((r_0.fThing.fNext == 0) && true)))))))) then
   bif (decide (((⟨#[1]⟩:ByteArray).size+r_0.fText.size)≤9223372036854775807)) then
   some (((⟨#[1]⟩:ByteArray)++r_0.fText),true)
   else none
  else
   some (⟨#[]⟩,false)
  else
  some (⟨#[]⟩,false)
 else
  some (⟨#[]⟩,false)
 else
 bif (r_0.fKind == 2) then
  bif ((ByteArray.toList r_0.fText) == (ByteArray.toList ⟨#[]⟩)) then
  bif ((r_0.fThing.fId == 0) && ((r_0.fThing.fKind == 0) && ((r_0.fThing.fHidden == false) && ((r_0.fThing.fFixed == false) && ((r_0.fThing.fSigns == false) && ((r_0.fThing.fWraps == false) && (((ByteArray.toList r_0.fThing.fValue) == (ByteArray.toList ⟨#[]⟩)) && ((r_0.fThing.fNext == 0) && true)))))))) then
   (z0 r_0.fNum 0 3).bind fun r0=>
   bif r0 then
   (z1 r_0.fNum).bind fun r1=>
   bif (decide (((⟨#[2]⟩:ByteArray).size+r1.size)≤9223372036854775807)) then
   some (((⟨#[2]⟩:ByteArray)++r1),true)
   else none
   else
   some (⟨#[]⟩,false)
  else
   some (⟨#[]⟩,false)
  else
  some (⟨#[]⟩,false)
 else
  bif (r_0.fKind == 3) then
  (z2 r_0.fThing).bind fun r2=>
  bif r2.2 then
   bif ((ByteArray.toList r_0.fText) == (ByteArray.toList ⟨#[]⟩)) then
   bif (r_0.fNum == 0) then
    bif (decide (((⟨#[3]⟩:ByteArray).size+r2.1.size)≤9223372036854775807)) then
    some (((⟨#[3]⟩:ByteArray)++r2.1),true)
    else none
   else
    some (⟨#[]⟩,false)
   else
   some (⟨#[]⟩,false)
  else
   some (⟨#[]⟩,false)
  else
  bif (r_0.fKind == 4) then
   bif ((ByteArray.toList r_0.fText) == (ByteArray.toList ⟨#[]⟩)) then
   bif ((r_0.fThing.fId == 0) && ((r_0.fThing.fKind == 0) && ((r_0.fThing.fHidden == false) && ((r_0.fThing.fFixed == false) && ((r_0.fThing.fSigns == false) && ((r_0.fThing.fWraps == false) && (((ByteArray.toList r_0.fThing.fValue) == (ByteArray.toList ⟨#[]⟩)) && ((r_0.fThing.fNext == 0) && true)))))))) then
    (z0 r_0.fNum 1 1000).bind fun r3=>
    bif r3 then
    (z1 r_0.fNum).bind fun r4=>
    bif (decide (((⟨#[4]⟩:ByteArray).size+r4.size)≤9223372036854775807)) then
    some (((⟨#[4]⟩:ByteArray)++r4),true)
    else none
    else
    some (⟨#[]⟩,false)
   else
    some (⟨#[]⟩,false)
   else
   some (⟨#[]⟩,false)
  else
   some (⟨#[]⟩,false)
noncomputable def Ce:Qn:=Z7 CY LZ Pn
theorem KAH:Tells ctx PP 92 cv19 cv18 (fun a=>Ce a):=fn_ok0 (hc Vd (hc Wi (hc LAO hl_nil))) Tryz.func92 ((fun z0 z1 z2 a=>by kernel_rfl:∀ z0 z1 z2,EntryIs0 ctx PP 92 [] [(50,Cb z0),(147,Hg z1),(148,MAO z2)] cv19 cv18 fun a=>Z7 z0 z1 z2 a) CY LZ Pn)
noncomputable def A8 {γ:Type} (F:Qn):Hd ctx γ:=hdl cv19.dec (fun a=>F a) cv18.enc
abbrev Gx:=SBook→Option Bool
inductive Rn where
 | c0 (i_3:Int) (b_1:SBook)
noncomputable def LAH:Rn→LI
 | .c0 i_3 b_1=>(tdo Tryz.f53 464,[(1,[.one (.ptr 64 0)]),(3,[.one (.int .i64 i_3)])],[(64,.var [.str b_1.fWord,.int .i64 b_1.fTries,.rsl 69 b_1.fThings,.int .i64 b_1.fLast,.str b_1.fChain,.int .i64 b_1.fCount])])
noncomputable def D8 (z0:VZ) (z1:Dn) (k:Rn→Option Bool) (b_0:SBook):Option Bool:=
 bif ((b_0.fWord.size:Int) != 32) then
 some false
 else
 bif ((b_0.fChain.size:Int) != 32) then
  some false
 else
  (z0 b_0.fTries 0 3).bind fun r0=>
  bif (!r0) then
  some false
  else
  bif (decide ((b_0.fThings.length:Int) > 8)) then
   some false
  else
   (z0 b_0.fLast 0 1000).bind fun r1=>
   bif (!r1) then
   some false
   else
   (z0 b_0.fCount 0 10000).bind fun r2=>
   bif (!r2) then
    some false
   else
    k (.c0 0 b_0)
noncomputable def Ox (z0:VZ) (z1:Dn) (k:Rn→Option Bool):Rn→Option Bool
 | .c0 i_3 b_1=>
 bif (decide (i_3<(b_1.fThings.length:Int))) then
  bif ((decide (0≤i_3)) && (decide (i_3<(b_1.fThings.length:Int)))) then
  (z1 (b_1.fThings.getD i_3.toNat (⟨0,0,false,false,false,false,⟨#[]⟩,0⟩:SThing))).bind fun r0=>
  bif (!r0) then
  some false
  else
  bif ((decide (0≤i_3)) && (decide (i_3<(b_1.fThings.length:Int)))) then
  bif (decide ((b_1.fThings.getD i_3.toNat (⟨0,0,false,false,false,false,⟨#[]⟩,0⟩:SThing)).fId > b_1.fLast)) then
   some false
  else
   bif (decide (i_3 > 0)) then
   bif ((decide (0≤(w64 (i_3 - 1)))) && (decide ((w64 (i_3 - 1))<(b_1.fThings.length:Int)))) then
   bif ((decide (0≤i_3)) && (decide (i_3<(b_1.fThings.length:Int)))) then
   bif (decide ((b_1.fThings.getD (w64 (i_3 - 1)).toNat (⟨0,0,false,false,false,false,⟨#[]⟩,0⟩:SThing)).fId≥(b_1.fThings.getD i_3.toNat (⟨0,0,false,false,false,false,⟨#[]⟩,0⟩:SThing)).fId)) then
    some false
   else
    k (.c0 (w64 (i_3+1)) b_1)
   else none
   else none
   else
   k (.c0 (w64 (i_3+1)) b_1)
  else none
  else none
 else
  some true
noncomputable def Ig:Nat→Rn→Option Bool
 | 0,_=>none
 | m+1,s=>Ox CY Zd (Ig m) s
noncomputable def Jg:Gx:=D8 CY Zd (Ig gas)
theorem NAO:Tells ctx PP 53 cv20 cv6 (fun a=>Jg a):=
 have b:∀ z0 z1,CutIs ctx PP 53 Tryz.f53 [] [(50,Cb z0),(120,N7 z1)] cv6 LAH (Ox z0 z1):=fun z0 z1 _ s=>by cases s <;> kernel_rfl
 have e:∀ z0 z1,EntryIs ctx PP 53 [] [(50,Cb z0),(120,N7 z1)] cv20 cv6 LAH (fun k a=>D8 z0 z1 k a):=fun z0 z1 _ a=>by kernel_rfl
 fn_ok (hc Vd (hc HAH hl_nil)) Tryz.func53 (fun s s' h=>by cases s;cases s';(repeat cases ‹SBook›);cases h;rfl) (fun _=>rfl) (fun _ _=>rfl) (b CY Zd) (e CY Zd) gas
noncomputable def MAH {γ:Type} (F:Gx):Hd ctx γ:=hdl cv20.dec (fun a=>F a) cv6.enc
abbrev Px:=SBook→Option SBook
noncomputable def E8 (b_0:SBook):Option SBook:=
 bif (decide (((0+b_0.fThings.length)*48)≤140737488355328)) then
 some ⟨b_0.fWord,b_0.fTries,([]++b_0.fThings),b_0.fLast,b_0.fChain,b_0.fCount⟩
 else none
noncomputable def Og:Px:=E8
theorem OAO:Tells ctx PP 93 cv20 cv14 (fun a=>Og a):=fn_ok0 hl_nil Tryz.func93 (fun a=>by kernel_rfl:EntryIs0 ctx PP 93 [] [] cv20 cv14 fun a=>E8 a)
noncomputable def NAH {γ:Type} (F:Px):Hd ctx γ:=hdl cv20.dec (fun a=>F a) cv14.enc
abbrev Qx:=SBook→Int→Option (SThing×Bool)
inductive Tn where
 | c0 (id_1:Int) (i_6:Int) (b_2:SBook) (v_4:SThing)
noncomputable def OAH:Tn→LI
 | .c0 id_1 i_6 b_2 v_4=>(tdo Tryz.f94 208,[(1,[.one (.int .i64 id_1)]),(2,[.one (.ptr 128 0)]),(4,[.one (.ptr 256 0)]),(6,[.one (.int .i64 i_6)])],[(128,.var [.str b_2.fWord,.int .i64 b_2.fTries,.rsl 69 b_2.fThings,.int .i64 b_2.fLast,.str b_2.fChain,.int .i64 b_2.fCount]),(256,.var [.int .i64 v_4.fId,.int .i64 v_4.fKind,.bool v_4.fHidden,.bool v_4.fFixed,.bool v_4.fSigns,.bool v_4.fWraps,.str v_4.fValue,.int .i64 v_4.fNext])])
noncomputable def PAH (k:Tn→Option (SThing×Bool)) (b_0:SBook) (id_1:Int):Option (SThing×Bool):=
 k (.c0 id_1 0 b_0 ⟨0,0,false,false,false,false,⟨#[]⟩,0⟩)
noncomputable def Rx (k:Tn→Option (SThing×Bool)):Tn→Option (SThing×Bool)
 | .c0 id_1 i_6 b_2 v_4=>
 bif (decide (i_6<(b_2.fThings.length:Int))) then
  bif ((decide (0≤i_6)) && (decide (i_6<(b_2.fThings.length:Int)))) then
  bif ((b_2.fThings.getD i_6.toNat (⟨0,0,false,false,false,false,⟨#[]⟩,0⟩:SThing)).fId == id_1) then
  bif ((decide (0≤i_6)) && (decide (i_6<(b_2.fThings.length:Int)))) then
  some ((b_2.fThings.getD i_6.toNat (⟨0,0,false,false,false,false,⟨#[]⟩,0⟩:SThing)),true)
  else none
  else
  k (.c0 id_1 (w64 (i_6+1)) b_2 v_4)
  else none
 else
  some (⟨0,0,false,false,false,false,⟨#[]⟩,0⟩,false)
noncomputable def Xi:Nat→Tn→Option (SThing×Bool)
 | 0,_=>none
 | m+1,s=>Rx (Xi m) s
noncomputable def Yi:Qx:=PAH (Xi gas)
theorem PAO:Tells ctx PP 94 cv21 cv22 (fun a=>Yi a.1 a.2):=
 have b:CutIs ctx PP 94 Tryz.f94 [] [] cv22 OAH (Rx):=fun _ s=>by cases s <;> kernel_rfl
 have e:EntryIs ctx PP 94 [] [] cv21 cv22 OAH (fun k a=>PAH k a.1 a.2):=fun _ a=>by kernel_rfl
 fn_ok hl_nil Tryz.func94 (fun s s' h=>by cases s;cases s';(repeat cases ‹SBook›);(repeat cases ‹SThing›);cases h;rfl) (fun _=>rfl) (fun _ _=>rfl) b e gas
noncomputable def QAH {γ:Type} (F:Qx):Hd ctx γ:=hdl cv21.dec (fun a=>F a.1 a.2) cv22.enc
abbrev Ux:=SThing→SThing→Option Bool
noncomputable def F8 (a_0:SThing) (b_1:SThing):Option Bool:=
 bif (a_0.fKind == b_1.fKind) then
 bif ((ByteArray.toList a_0.fValue) == (ByteArray.toList b_1.fValue)) then
  bif (a_0.fSigns == b_1.fSigns) then
  bif (a_0.fWraps == b_1.fWraps) then
   bif (decide (a_0.fNext≤b_1.fNext)) then
   bif b_1.fHidden then
    bif b_1.fFixed then
    some true
    else
    some (!a_0.fFixed)
   else
    bif (!a_0.fHidden) then
    bif b_1.fFixed then
     some true
    else
     some (!a_0.fFixed)
    else
    some false
   else
   some false
  else
   some false
  else
  some false
 else
  some false
 else
 some false
noncomputable def Pg:Ux:=F8
theorem QAO:Tells ctx PP 95 cv23 cv6 (fun a=>Pg a.1 a.2):=fn_ok0 hl_nil Tryz.func95 (fun a=>by kernel_rfl:EntryIs0 ctx PP 95 [] [] cv23 cv6 fun a=>F8 a.1 a.2)
noncomputable def RAH {γ:Type} (F:Ux):Hd ctx γ:=hdl cv23.dec (fun a=>F a.1 a.2) cv6.enc
abbrev Vx:=(List SThing)→SThing→Option (List SThing)
inductive Un where
 | c0 (list_0:(List SThing)) (i_6:Int) (x_3:SThing) (out_5:(List SThing))
 | c1 (list_0:(List SThing)) (i_7:Int) (x_3:SThing) (out_5:(List SThing))
noncomputable def SAH:Un→LI
 | .c0 list_0 i_6 x_3 out_5=>(tdo Tryz.f96 464,[(0,[.one (.rsl 69 list_0)]),(3,[.one (.ptr 192 0)]),(5,[.one (.own 368)]),(6,[.one (.int .i64 i_6)])],[(192,.var [.int .i64 x_3.fId,.int .i64 x_3.fKind,.bool x_3.fHidden,.bool x_3.fFixed,.bool x_3.fSigns,.bool x_3.fWraps,.str x_3.fValue,.int .i64 x_3.fNext]),(368,.sl 69 out_5)])
 | .c1 list_0 i_7 x_3 out_5=>(tdo Tryz.f96 2000,[(0,[.one (.rsl 69 list_0)]),(3,[.one (.ptr 192 0)]),(5,[.one (.own 368)]),(7,[.one (.int .i64 i_7)])],[(192,.var [.int .i64 x_3.fId,.int .i64 x_3.fKind,.bool x_3.fHidden,.bool x_3.fFixed,.bool x_3.fSigns,.bool x_3.fWraps,.str x_3.fValue,.int .i64 x_3.fNext]),(368,.sl 69 out_5)])
noncomputable def G8 (k:Un→Option (List SThing)) (list_0:(List SThing)) (x_1:SThing):Option (List SThing):=
 k (.c0 list_0 0 x_1 [])
noncomputable def Zi (k:Un→Option (List SThing)):Un→Option (List SThing)
 | .c0 list_0 i_6 x_3 out_5=>
 bif (decide (i_6<(list_0.length:Int))) then
  bif ((decide (0≤i_6)) && (decide (i_6<(list_0.length:Int)))) then
  bif (decide ((list_0.getD i_6.toNat (⟨0,0,false,false,false,false,⟨#[]⟩,0⟩:SThing)).fId<x_3.fId)) then
  bif ((decide (0≤i_6)) && (decide (i_6<(list_0.length:Int)))) then
  bif (decide (((out_5.length+1)*48)≤140737488355328)) then
  k (.c0 list_0 (w64 (i_6+1)) x_3 (out_5++[(list_0.getD i_6.toNat (⟨0,0,false,false,false,false,⟨#[]⟩,0⟩:SThing))]))
  else none
  else none
  else
  k (.c0 list_0 (w64 (i_6+1)) x_3 out_5)
  else none
 else
  bif (decide (((out_5.length+1)*48)≤140737488355328)) then
  k (.c1 list_0 0 x_3 (out_5++[x_3]))
  else none
 | .c1 list_0 i_7 x_3 out_5=>
 bif (decide (i_7<(list_0.length:Int))) then
  bif ((decide (0≤i_7)) && (decide (i_7<(list_0.length:Int)))) then
  bif (decide ((list_0.getD i_7.toNat (⟨0,0,false,false,false,false,⟨#[]⟩,0⟩:SThing)).fId > x_3.fId)) then
  bif ((decide (0≤i_7)) && (decide (i_7<(list_0.length:Int)))) then
  bif (decide (((out_5.length+1)*48)≤140737488355328)) then
  k (.c1 list_0 (w64 (i_7+1)) x_3 (out_5++[(list_0.getD i_7.toNat (⟨0,0,false,false,false,false,⟨#[]⟩,0⟩:SThing))]))
  else none
  else none
  else
  k (.c1 list_0 (w64 (i_7+1)) x_3 out_5)
  else none
 else
  some out_5
noncomputable def Ee:Nat→Un→Option (List SThing)
 | 0,_=>none
 | m+1,s=>Zi (Ee m) s
noncomputable def Qg:Vx:=G8 (Ee gas)
theorem RAO:Tells ctx PP 96 cv24 cv25 (fun a=>Qg a.1 a.2):=
 have b:CutIs ctx PP 96 Tryz.f96 [] [] cv25 SAH (Zi):=fun _ s=>by cases s <;> kernel_rfl
 have e:EntryIs ctx PP 96 [] [] cv24 cv25 SAH (fun k a=>G8 k a.1 a.2):=fun _ a=>by kernel_rfl
 fn_ok hl_nil Tryz.func96 (fun s s' h=>by cases s <;> cases s' <;> first | ((repeat cases ‹SThing›);cases h;done) | ((repeat cases ‹SThing›);cases h;rfl) | exact (rg_ne h (by kernel_rfl)).elim) (fun _=>rfl) (fun _ _=>rfl) b e gas
noncomputable def TAH {γ:Type} (F:Vx):Hd ctx γ:=hdl cv24.dec (fun a=>F a.1 a.2) cv25.enc
abbrev H8:=SBook→SRec→Option (SBook×Bool)
inductive Wn where
 | c0 (y_6:ByteArray) (v_14:Int) (A_2:SBook) (r_3:SRec) (r_4c0:ByteArray) (r_4c1:Int) (r_4c3:Int) (r_4c4:ByteArray) (r_4c5:Int) (v_8c0:ByteArray) (v_8c1:Int) (v_8c3:Int) (v_8c4:ByteArray) (v_8c5:Int) (v_13:(List SThing)) (r_4r2:(List SThing)) (v_8r2:(List SThing))
noncomputable def UAH:Wn→LI
 | .c0 y_6 v_14 A_2 r_3 r_4c0 r_4c1 r_4c3 r_4c4 r_4c5 v_8c0 v_8c1 v_8c3 v_8c4 v_8c5 v_13 r_4r2 v_8r2=>(tdo Tryz.f27 32898512,[(2,[.one (.ptr 128 0)]),(3,[.one (.ptr 192 0)]),(4,[.one (.ptr 256 0)]),(6,[.one (.str y_6)]),(8,[.one (.ptr 512 0)]),(13,[.one (.own 880)]),(14,[.one (.int .i64 v_14)])],[(128,.var [.str A_2.fWord,.int .i64 A_2.fTries,.rsl 69 A_2.fThings,.int .i64 A_2.fLast,.str A_2.fChain,.int .i64 A_2.fCount]),(192,.var [.int .i64 r_3.fKind,.str r_3.fText,.int .i64 r_3.fNum,.int .i64 r_3.fThing.fId,.int .i64 r_3.fThing.fKind,.bool r_3.fThing.fHidden,.bool r_3.fThing.fFixed,.bool r_3.fThing.fSigns,.bool r_3.fThing.fWraps,.str r_3.fThing.fValue,.int .i64 r_3.fThing.fNext]),(256,.var [.str r_4c0,.int .i64 r_4c1,.own 1016386,.int .i64 r_4c3,.str r_4c4,.int .i64 r_4c5]),(512,.var [.str v_8c0,.int .i64 v_8c1,.own 1032770,.int .i64 v_8c3,.str v_8c4,.int .i64 v_8c5]),(880,.sl 69 v_13),(1016386,.sl 69 r_4r2),(1032770,.sl 69 v_8r2)])
noncomputable def I8 (z0:Qn) (z1:Gx) (z2:Px) (z3:Qx) (z4:Ux) (z5:Vx) (z6:Xd) (k:Wn→Option (SBook×Bool)) (t_0:SBook) (o_1:SRec):Option (SBook×Bool):=
 (z0 o_1).bind fun r0=>
 (z1 t_0).bind fun r1=>
 bif (!r1) then
 some (⟨⟨#[]⟩,0,[],0,⟨#[]⟩,0⟩,false)
 else
 bif (!r0.2) then
  some (⟨⟨#[]⟩,0,[],0,⟨#[]⟩,0⟩,false)
 else
  bif (t_0.fCount == 10000) then
  some (⟨⟨#[]⟩,0,[],0,⟨#[]⟩,0⟩,false)
  else
  (z2 t_0).bind fun r2=>
  bif (o_1.fKind == 1) then
   bif (decide ((t_0.fChain.size+r0.1.size)≤9223372036854775807)) then
   (z6 (t_0.fChain++r0.1)).bind fun r3=>
   (z1 ⟨o_1.fText,0,r2.fThings,r2.fLast,r3,(w64 (t_0.fCount+1))⟩).bind fun r4=>
   bif (!r4) then
   some (⟨⟨#[]⟩,0,[],0,⟨#[]⟩,0⟩,false)
   else
   some (⟨o_1.fText,0,r2.fThings,r2.fLast,r3,(w64 (t_0.fCount+1))⟩,true)
   else none
  else
   bif (o_1.fKind == 2) then
   bif (decide ((t_0.fChain.size+r0.1.size)≤9223372036854775807)) then
   (z6 (t_0.fChain++r0.1)).bind fun r5=>
   (z1 ⟨r2.fWord,o_1.fNum,r2.fThings,r2.fLast,r5,(w64 (t_0.fCount+1))⟩).bind fun r6=>
   bif (!r6) then
    some (⟨⟨#[]⟩,0,[],0,⟨#[]⟩,0⟩,false)
   else
    some (⟨r2.fWord,o_1.fNum,r2.fThings,r2.fLast,r5,(w64 (t_0.fCount+1))⟩,true)
   else none
   else
   bif (o_1.fKind == 3) then
    (z3 t_0 o_1.fThing.fId).bind fun r7=>
    bif r7.2 then
    (z4 r7.1 o_1.fThing).bind fun r8=>
    bif (!r8) then
     some (⟨⟨#[]⟩,0,[],0,⟨#[]⟩,0⟩,false)
    else
     bif (!r7.2) then
     bif (o_1.fThing.fId != (w64 (t_0.fLast+1))) then
      some (⟨⟨#[]⟩,0,[],0,⟨#[]⟩,0⟩,false)
     else
      bif ((t_0.fThings.length:Int) == 8) then
      some (⟨⟨#[]⟩,0,[],0,⟨#[]⟩,0⟩,false)
      else
      bif (!r7.2) then
       (z5 t_0.fThings o_1.fThing).bind fun r9=>
       bif (decide ((t_0.fChain.size+r0.1.size)≤9223372036854775807)) then
       (z6 (t_0.fChain++r0.1)).bind fun r10=>
       (z1 ⟨r2.fWord,r2.fTries,r9,o_1.fThing.fId,r10,(w64 (t_0.fCount+1))⟩).bind fun r11=>
       bif (!r11) then
       some (⟨⟨#[]⟩,0,[],0,⟨#[]⟩,0⟩,false)
       else
       some (⟨r2.fWord,r2.fTries,r9,o_1.fThing.fId,r10,(w64 (t_0.fCount+1))⟩,true)
       else none
      else
       (z5 t_0.fThings o_1.fThing).bind fun r12=>
       bif (decide ((t_0.fChain.size+r0.1.size)≤9223372036854775807)) then
       (z6 (t_0.fChain++r0.1)).bind fun r13=>
       (z1 ⟨r2.fWord,r2.fTries,r12,r2.fLast,r13,(w64 (t_0.fCount+1))⟩).bind fun r14=>
       bif (!r14) then
       some (⟨⟨#[]⟩,0,[],0,⟨#[]⟩,0⟩,false)
       else
       some (⟨r2.fWord,r2.fTries,r12,r2.fLast,r13,(w64 (t_0.fCount+1))⟩,true)
       else none
     else
     bif (!r7.2) then
      (z5 t_0.fThings o_1.fThing).bind fun r15=>
      bif (decide ((t_0.fChain.size+r0.1.size)≤9223372036854775807)) then
      (z6 (t_0.fChain++r0.1)).bind fun r16=>
      (z1 ⟨r2.fWord,r2.fTries,r15,o_1.fThing.fId,r16,(w64 (t_0.fCount+1))⟩).bind fun r17=>
      bif (!r17) then
      some (⟨⟨#[]⟩,0,[],0,⟨#[]⟩,0⟩,false)
      else
      some (⟨r2.fWord,r2.fTries,r15,o_1.fThing.fId,r16,(w64 (t_0.fCount+1))⟩,true)
      else none
     else
      (z5 t_0.fThings o_1.fThing).bind fun r18=>
      bif (decide ((t_0.fChain.size+r0.1.size)≤9223372036854775807)) then
      (z6 (t_0.fChain++r0.1)).bind fun r19=>
      (z1 ⟨r2.fWord,r2.fTries,r18,r2.fLast,r19,(w64 (t_0.fCount+1))⟩).bind fun r20=>
      bif (!r20) then
      some (⟨⟨#[]⟩,0,[],0,⟨#[]⟩,0⟩,false)
      else
      some (⟨r2.fWord,r2.fTries,r18,r2.fLast,r19,(w64 (t_0.fCount+1))⟩,true)
      else none
    else
    bif (!r7.2) then
     bif (o_1.fThing.fId != (w64 (t_0.fLast+1))) then
     some (⟨⟨#[]⟩,0,[],0,⟨#[]⟩,0⟩,false)
     else
     bif ((t_0.fThings.length:Int) == 8) then
      some (⟨⟨#[]⟩,0,[],0,⟨#[]⟩,0⟩,false)
     else
      bif (!r7.2) then
      (z5 t_0.fThings o_1.fThing).bind fun r21=>
      bif (decide ((t_0.fChain.size+r0.1.size)≤9223372036854775807)) then
      (z6 (t_0.fChain++r0.1)).bind fun r22=>
      (z1 ⟨r2.fWord,r2.fTries,r21,o_1.fThing.fId,r22,(w64 (t_0.fCount+1))⟩).bind fun r23=>
      bif (!r23) then
       some (⟨⟨#[]⟩,0,[],0,⟨#[]⟩,0⟩,false)
      else
       some (⟨r2.fWord,r2.fTries,r21,o_1.fThing.fId,r22,(w64 (t_0.fCount+1))⟩,true)
      else none
      else
      (z5 t_0.fThings o_1.fThing).bind fun r24=>
      bif (decide ((t_0.fChain.size+r0.1.size)≤9223372036854775807)) then
      (z6 (t_0.fChain++r0.1)).bind fun r25=>
      (z1 ⟨r2.fWord,r2.fTries,r24,r2.fLast,r25,(w64 (t_0.fCount+1))⟩).bind fun r26=>
      bif (!r26) then
       some (⟨⟨#[]⟩,0,[],0,⟨#[]⟩,0⟩,false)
      else
       some (⟨r2.fWord,r2.fTries,r24,r2.fLast,r25,(w64 (t_0.fCount+1))⟩,true)
      else none
    else
     bif (!r7.2) then
     (z5 t_0.fThings o_1.fThing).bind fun r27=>
     bif (decide ((t_0.fChain.size+r0.1.size)≤9223372036854775807)) then
     (z6 (t_0.fChain++r0.1)).bind fun r28=>
     (z1 ⟨r2.fWord,r2.fTries,r27,o_1.fThing.fId,r28,(w64 (t_0.fCount+1))⟩).bind fun r29=>
     bif (!r29) then
      some (⟨⟨#[]⟩,0,[],0,⟨#[]⟩,0⟩,false)
     else
      some (⟨r2.fWord,r2.fTries,r27,o_1.fThing.fId,r28,(w64 (t_0.fCount+1))⟩,true)
     else none
     else
     (z5 t_0.fThings o_1.fThing).bind fun r30=>
     bif (decide ((t_0.fChain.size+r0.1.size)≤9223372036854775807)) then
     (z6 (t_0.fChain++r0.1)).bind fun r31=>
     (z1 ⟨r2.fWord,r2.fTries,r30,r2.fLast,r31,(w64 (t_0.fCount+1))⟩).bind fun r32=>
     bif (!r32) then
      some (⟨⟨#[]⟩,0,[],0,⟨#[]⟩,0⟩,false)
     else
      some (⟨r2.fWord,r2.fTries,r30,r2.fLast,r31,(w64 (t_0.fCount+1))⟩,true)
     else none
   else
    bif (o_1.fKind == 4) then
    (z3 t_0 o_1.fNum).bind fun r33=>
    bif (!r33.2) then
     some (⟨⟨#[]⟩,0,[],0,⟨#[]⟩,0⟩,false)
    else
     k (.c0 r0.1 0 t_0 o_1 ⟨#[]⟩ 0 0 ⟨#[]⟩ 0 r2.fWord r2.fTries r2.fLast r2.fChain r2.fCount [] [] r2.fThings)
    else
    bif (decide ((t_0.fChain.size+r0.1.size)≤9223372036854775807)) then
    (z6 (t_0.fChain++r0.1)).bind fun r34=>
    (z1 ⟨r2.fWord,r2.fTries,r2.fThings,r2.fLast,r34,(w64 (t_0.fCount+1))⟩).bind fun r35=>
    bif (!r35) then
     some (⟨⟨#[]⟩,0,[],0,⟨#[]⟩,0⟩,false)
    else
     some (⟨r2.fWord,r2.fTries,r2.fThings,r2.fLast,r34,(w64 (t_0.fCount+1))⟩,true)
    else none
noncomputable def Wx (z0:Qn) (z1:Gx) (z2:Px) (z3:Qx) (z4:Ux) (z5:Vx) (z6:Xd) (k:Wn→Option (SBook×Bool)):Wn→Option (SBook×Bool)
 | .c0 y_6 v_14 A_2 r_3 r_4c0 r_4c1 r_4c3 r_4c4 r_4c5 v_8c0 v_8c1 v_8c3 v_8c4 v_8c5 v_13 r_4r2 v_8r2=>
 bif (decide (v_14<(A_2.fThings.length:Int))) then
  bif ((decide (0≤v_14)) && (decide (v_14<(A_2.fThings.length:Int)))) then
  bif ((A_2.fThings.getD v_14.toNat (⟨0,0,false,false,false,false,⟨#[]⟩,0⟩:SThing)).fId != r_3.fNum) then
  bif ((decide (0≤v_14)) && (decide (v_14<(A_2.fThings.length:Int)))) then
  bif (decide (((v_13.length+1)*48)≤140737488355328)) then
  k (.c0 y_6 (w64 (v_14+1)) A_2 r_3 r_4c0 r_4c1 r_4c3 r_4c4 r_4c5 v_8c0 v_8c1 v_8c3 v_8c4 v_8c5 (v_13++[(A_2.fThings.getD v_14.toNat (⟨0,0,false,false,false,false,⟨#[]⟩,0⟩:SThing))]) r_4r2 v_8r2)
  else none
  else none
  else
  k (.c0 y_6 (w64 (v_14+1)) A_2 r_3 r_4c0 r_4c1 r_4c3 r_4c4 r_4c5 v_8c0 v_8c1 v_8c3 v_8c4 v_8c5 v_13 r_4r2 v_8r2)
  else none
 else
  bif (decide ((A_2.fChain.size+y_6.size)≤9223372036854775807)) then
  (z6 (A_2.fChain++y_6)).bind fun r0=>
  (z1 ⟨v_8c0,v_8c1,v_13,v_8c3,r0,(w64 (A_2.fCount+1))⟩).bind fun r1=>
  bif (!r1) then
  some (⟨⟨#[]⟩,0,[],0,⟨#[]⟩,0⟩,false)
  else
  some (⟨v_8c0,v_8c1,v_13,v_8c3,r0,(w64 (A_2.fCount+1))⟩,true)
  else none
noncomputable def Xn:Nat→Wn→Option (SBook×Bool)
 | 0,_=>none
 | m+1,s=>Wx Ce Jg Og Yi Pg Qg BZ (Xn m) s
noncomputable def Yn:H8:=I8 Ce Jg Og Yi Pg Qg BZ (Xn gas)
theorem SAO:Tells ctx PP 27 cv26 cv27 (fun a=>Yn a.1 a.2):=
 have b:∀ z0 z1 z2 z3 z4 z5 z6,CutIs ctx PP 27 Tryz.f27 [] [(92,A8 z0),(53,MAH z1),(93,NAH z2),(94,QAH z3),(95,RAH z4),(96,TAH z5),(26,Gg z6)] cv27 UAH (Wx z0 z1 z2 z3 z4 z5 z6):=fun z0 z1 z2 z3 z4 z5 z6 _ s=>by cases s <;> kernel_rfl
 have e:∀ z0 z1 z2 z3 z4 z5 z6,EntryIs ctx PP 27 [] [(92,A8 z0),(53,MAH z1),(93,NAH z2),(94,QAH z3),(95,RAH z4),(96,TAH z5),(26,Gg z6)] cv26 cv27 UAH (fun k a=>I8 z0 z1 z2 z3 z4 z5 z6 k a.1 a.2):=fun z0 z1 z2 z3 z4 z5 z6 _ a=>by kernel_rfl
 fn_ok (hc KAH (hc NAO (hc OAO (hc PAO (hc QAO (hc RAO (hc Qm hl_nil))))))) Tryz.func27 (fun s s' h=>by cases s;cases s';(repeat cases ‹SBook›);(repeat cases ‹SRec›);(repeat cases ‹SThing›);cases h;rfl) (fun _=>rfl) (fun _ _=>rfl) (b Ce Jg Og Yi Pg Qg BZ) (e Ce Jg Og Yi Pg Qg BZ) gas
noncomputable def TAO {γ:Type} (F:H8):Hd ctx γ:=hdl cv26.dec (fun a=>F a.1 a.2) cv27.enc
abbrev J8:=ByteArray→Int→Option ByteArray
inductive Zn where
 | c0 (key_0:ByteArray) (x_1:Int) (i_6:Int) (out_5:(List Int))
noncomputable def VAH:Zn→LI
 | .c0 key_0 x_1 i_6 out_5=>(tdo Tryz.f216 976,[(0,[.one (.str key_0)]),(1,[.one (.int .u8 x_1)]),(5,[.one (.own 368)]),(6,[.one (.int .i64 i_6)])],[(368,.sl 5 out_5)])
noncomputable def L8 (z0:Xd) (k:Zn→Option ByteArray) (key_0:ByteArray) (x_1:Int):Option ByteArray:=
 bif (decide ((key_0.size:Int) > 64)) then
 (z0 key_0).bind fun r0=>
 k (.c0 r0 x_1 0 (List.replicate (64:Int).toNat (0:Int)))
 else
 k (.c0 key_0 x_1 0 (List.replicate (64:Int).toNat (0:Int)))
noncomputable def Xx (z0:Xd) (k:Zn→Option ByteArray):Zn→Option ByteArray
 | .c0 key_0 x_1 i_6 out_5=>
 bif (decide (i_6<64)) then
  bif (decide (i_6<(key_0.size:Int))) then
  bif ((decide (0≤i_6)) && (decide (i_6<(key_0.size:Int)))) then
  bif ((decide (0≤i_6)) && (decide (i_6<(out_5.length:Int)))) then
  bif ((decide (0≤i_6)) && (decide (i_6<((out_5.set i_6.toNat (bt key_0 i_6)).length:Int)))) then
  bif ((decide (0≤i_6)) && (decide (i_6<((out_5.set i_6.toNat (bt key_0 i_6)).length:Int)))) then
  k (.c0 key_0 x_1 (w64 (i_6+1)) ((out_5.set i_6.toNat (bt key_0 i_6)).set i_6.toNat (w8 (((BitVec.toNat ((BitVec.ofInt (IntKind.bits IntKind.u8) ((out_5.set i_6.toNat (bt key_0 i_6)).getD i_6.toNat 0)) ^^^ (BitVec.ofInt (IntKind.bits IntKind.u8) x_1))):Nat):Int))))
  else none
  else none
  else none
  else none
  else
  bif ((decide (0≤i_6)) && (decide (i_6<(out_5.length:Int)))) then
  bif ((decide (0≤i_6)) && (decide (i_6<(out_5.length:Int)))) then
  k (.c0 key_0 x_1 (w64 (i_6+1)) (out_5.set i_6.toNat (w8 (((BitVec.toNat ((BitVec.ofInt (IntKind.bits IntKind.u8) (out_5.getD i_6.toNat 0)) ^^^ (BitVec.ofInt (IntKind.bits IntKind.u8) x_1))):Nat):Int))))
  else none
  else none
 else
  some (ofBytes out_5)
noncomputable def Aj:Nat→Zn→Option ByteArray
 | 0,_=>none
 | m+1,s=>Xx BZ (Aj m) s
noncomputable def Bo:J8:=L8 BZ (Aj gas)
theorem UAO:Tells ctx PP 216 cv28 cv3 (fun a=>Bo a.1 a.2):=
 have b:∀ z0,CutIs ctx PP 216 Tryz.f216 [] [(26,Gg z0)] cv3 VAH (Xx z0):=fun z0 _ s=>by cases s <;> kernel_rfl
 have e:∀ z0,EntryIs ctx PP 216 [] [(26,Gg z0)] cv28 cv3 VAH (fun k a=>L8 z0 k a.1 a.2):=fun z0 _ a=>by kernel_rfl
 fn_ok (hc Qm hl_nil) Tryz.func216 (fun s s' h=>by cases s;cases s';cases h;rfl) (fun _=>rfl) (fun _ _=>rfl) (b BZ) (e BZ) gas
noncomputable def VAO {γ:Type} (F:J8):Hd ctx γ:=hdl cv28.dec (fun a=>F a.1 a.2) cv3.enc
abbrev Eo:=ByteArray→ByteArray→Option ByteArray
noncomputable def N8 (z0:J8) (z1:Xd) (key_0:ByteArray) (s_1:ByteArray):Option ByteArray:=
 (z0 key_0 92).bind fun r0=>
 (z0 key_0 54).bind fun r1=>
 bif (decide ((r1.size+s_1.size)≤9223372036854775807)) then
 (z1 (r1++s_1)).bind fun r2=>
 bif (decide ((r0.size+r2.size)≤9223372036854775807)) then
 (z1 (r0++r2)).bind fun r3=>
 some r3
 else none
 else none
noncomputable def Fe:Eo:=N8 Bo BZ
theorem WAH:Tells ctx PP 205 cv29 cv3 (fun a=>Fe a.1 a.2):=fn_ok0 (hc UAO (hc Qm hl_nil)) Tryz.func205 ((fun z0 z1 a=>by kernel_rfl:∀ z0 z1,EntryIs0 ctx PP 205 [] [(216,VAO z0),(26,Gg z1)] cv29 cv3 fun a=>N8 z0 z1 a.1 a.2) Bo BZ)
noncomputable def O8 {γ:Type} (F:Eo):Hd ctx γ:=hdl cv29.dec (fun a=>F a.1 a.2) cv3.enc
abbrev P8:=ByteArray→Int→Int→Option (ByteArray×Bool)
inductive Ho where
 | c0 (key_0:ByteArray) (num_1:Int) (n_2:Int) (i_9:Int) (out_8:(List Int))
noncomputable def XAH:Ho→LI
 | .c0 key_0 num_1 n_2 i_9 out_8=>(tdo Tryz.f181 976,[(0,[.one (.str key_0)]),(1,[.one (.int .i64 num_1)]),(2,[.one (.int .i64 n_2)]),(8,[.one (.own 560)]),(9,[.one (.int .i64 i_9)])],[(560,.sl 5 out_8)])
noncomputable def Q8 (z0:VZ) (z1:Yd) (z2:En) (z3:Eo) (k:Ho→Option (ByteArray×Bool)) (key_0:ByteArray) (num_1:Int) (n_2:Int):Option (ByteArray×Bool):=
 (z0 num_1 0 1000000000).bind fun r0=>
 bif (!r0) then
 some (⟨#[]⟩,false)
 else
 (z0 n_2 0 8000).bind fun r1=>
 bif (!r1) then
  some (⟨#[]⟩,false)
 else
  k (.c0 key_0 num_1 n_2 0 [])
noncomputable def Yx (z0:VZ) (z1:Yd) (z2:En) (z3:Eo) (k:Ho→Option (ByteArray×Bool)):Ho→Option (ByteArray×Bool)
 | .c0 key_0 num_1 n_2 i_9 out_8=>
 bif (decide ((out_8.length:Int)<n_2)) then
  (z1 num_1).bind fun r0=>
  bif (decide (((⟨#[109]⟩:ByteArray).size+r0.size)≤9223372036854775807)) then
  (z2 i_9).bind fun r1=>
  bif (decide ((((⟨#[109]⟩:ByteArray)++r0).size+r1.size)≤9223372036854775807)) then
  (z3 key_0 (((⟨#[109]⟩:ByteArray)++r0)++r1)).bind fun r2=>
  bif (decide (r2.size≤9223372036854775807)) then
  bif (decide (((out_8.length+(bytesOf r2).length)*1)≤140737488355328)) then
  k (.c0 key_0 num_1 n_2 (w64 (i_9+1)) (out_8++(bytesOf r2)))
  else none
  else none
  else none
  else none
 else
  bif ((decide (0≤n_2)) && (decide (n_2≤(out_8.length:Int)))) then
  some ((ofBytes ((out_8.drop 0).take (n_2.toNat - 0))),true)
  else none
noncomputable def Io:Nat→Ho→Option (ByteArray×Bool)
 | 0,_=>none
 | m+1,s=>Yx CY LZ Ae Fe (Io m) s
noncomputable def Jo:P8:=Q8 CY LZ Ae Fe (Io gas)
theorem WAO:Tells ctx PP 181 cv30 cv18 (fun a=>Jo a.1 a.2.1 a.2.2):=
 have b:∀ z0 z1 z2 z3,CutIs ctx PP 181 Tryz.f181 [] [(50,Cb z0),(147,Hg z1),(179,Q7 z2),(205,O8 z3)] cv18 XAH (Yx z0 z1 z2 z3):=fun z0 z1 z2 z3 _ s=>by cases s <;> kernel_rfl
 have e:∀ z0 z1 z2 z3,EntryIs ctx PP 181 [] [(50,Cb z0),(147,Hg z1),(179,Q7 z2),(205,O8 z3)] cv30 cv18 XAH (fun k a=>Q8 z0 z1 z2 z3 k a.1 a.2.1 a.2.2):=fun z0 z1 z2 z3 _ a=>by kernel_rfl
 fn_ok (hc Vd (hc Wi (hc JAH (hc WAH hl_nil)))) Tryz.func181 (fun s s' h=>by cases s;cases s';cases h;rfl) (fun _=>rfl) (fun _ _=>rfl) (b CY LZ Ae Fe) (e CY LZ Ae Fe) gas
noncomputable def XAO {γ:Type} (F:P8):Hd ctx γ:=hdl cv30.dec (fun a=>F a.1 a.2.1 a.2.2) cv18.enc
abbrev U8:=ByteArray→ByteArray→Option ByteArray
inductive Ko where
 | c0 (b_1:ByteArray) (i_6:Int) (out_5:(List Int))
noncomputable def YAH:Ko→LI
 | .c0 b_1 i_6 out_5=>(tdo Tryz.f182 464,[(1,[.one (.str b_1)]),(5,[.one (.own 368)]),(6,[.one (.int .i64 i_6)])],[(368,.sl 5 out_5)])
noncomputable def V8 (k:Ko→Option ByteArray) (a_0:ByteArray) (b_1:ByteArray):Option ByteArray:=
 bif (decide (a_0.size≤9223372036854775807)) then
 k (.c0 b_1 0 (bytesOf a_0))
 else none
noncomputable def Zx (k:Ko→Option ByteArray):Ko→Option ByteArray
 | .c0 b_1 i_6 out_5=>
 bif (decide (i_6<(out_5.length:Int))) then
  bif ((decide (0≤i_6)) && (decide (i_6<(out_5.length:Int)))) then
  bif ((decide (0≤i_6)) && (decide (i_6<(b_1.size:Int)))) then
  bif ((decide (0≤i_6)) && (decide (i_6<(out_5.length:Int)))) then
  k (.c0 b_1 (w64 (i_6+1)) (out_5.set i_6.toNat (w8 (((BitVec.toNat ((BitVec.ofInt (IntKind.bits IntKind.u8) (out_5.getD i_6.toNat 0)) ^^^ (BitVec.ofInt (IntKind.bits IntKind.u8) (bt b_1 i_6)))):Nat):Int))))
  else none
  else none
  else none
 else
  some (ofBytes out_5)
noncomputable def Oo:Nat→Ko→Option ByteArray
 | 0,_=>none
 | m+1,s=>Zx (Oo m) s
noncomputable def Po:U8:=V8 (Oo gas)
theorem YAO:Tells ctx PP 182 cv29 cv3 (fun a=>Po a.1 a.2):=
 have b:CutIs ctx PP 182 Tryz.f182 [] [] cv3 YAH (Zx):=fun _ s=>by cases s <;> kernel_rfl
 have e:EntryIs ctx PP 182 [] [] cv29 cv3 YAH (fun k a=>V8 k a.1 a.2):=fun _ a=>by kernel_rfl
 fn_ok hl_nil Tryz.func182 (fun s s' h=>by cases s;cases s';cases h;rfl) (fun _=>rfl) (fun _ _=>rfl) b e gas
noncomputable def ZAO {γ:Type} (F:U8):Hd ctx γ:=hdl cv29.dec (fun a=>F a.1 a.2) cv3.enc
abbrev X8:=ByteArray→Int→ByteArray→Option ByteArray
noncomputable def Y8 (z0:Yd) (z1:Eo) (key_0:ByteArray) (num_1:Int) (s_2:ByteArray):Option ByteArray:=
 (z0 num_1).bind fun r0=>
 bif (decide (((⟨#[116]⟩:ByteArray).size+r0.size)≤9223372036854775807)) then
 bif (decide ((((⟨#[116]⟩:ByteArray)++r0).size+s_2.size)≤9223372036854775807)) then
 (z1 key_0 (((⟨#[116]⟩:ByteArray)++r0)++s_2)).bind fun r1=>
 bif ((decide ((0:Int)≤(16:Int))) && (decide (16≤(r1.size:Int)))) then
 some (r1.extract 0 (16:Int).toNat)
 else none
 else none
 else none
noncomputable def Qo:X8:=Y8 LZ Fe
theorem AAP:Tells ctx PP 183 cv31 cv3 (fun a=>Qo a.1 a.2.1 a.2.2):=fn_ok0 (hc Wi (hc WAH hl_nil)) Tryz.func183 ((fun z0 z1 a=>by kernel_rfl:∀ z0 z1,EntryIs0 ctx PP 183 [] [(147,Hg z0),(205,O8 z1)] cv31 cv3 fun a=>Y8 z0 z1 a.1 a.2.1 a.2.2) LZ Fe)
noncomputable def BAP {γ:Type} (F:X8):Hd ctx γ:=hdl cv31.dec (fun a=>F a.1 a.2.1 a.2.2) cv3.enc
abbrev Z8:=ByteArray→Int→ByteArray→Option (ByteArray×Bool)
noncomputable def C9 (z0:P8) (z1:U8) (z2:X8) (key_0:ByteArray) (num_1:Int) (s_2:ByteArray):Option (ByteArray×Bool):=
 (z0 key_0 num_1 (s_2.size:Int)).bind fun r0=>
 bif (!r0.2) then
 some (⟨#[]⟩,false)
 else
 (z1 s_2 r0.1).bind fun r1=>
 (z2 key_0 num_1 r1).bind fun r2=>
 bif (decide ((r1.size+r2.size)≤9223372036854775807)) then
 some ((r1++r2),true)
 else none
noncomputable def Ro:Z8:=C9 Jo Po Qo
theorem CAP:Tells ctx PP 149 cv31 cv18 (fun a=>Ro a.1 a.2.1 a.2.2):=fn_ok0 (hc WAO (hc YAO (hc AAP hl_nil))) Tryz.func149 ((fun z0 z1 z2 a=>by kernel_rfl:∀ z0 z1 z2,EntryIs0 ctx PP 149 [] [(181,XAO z0),(182,ZAO z1),(183,BAP z2)] cv31 cv18 fun a=>C9 z0 z1 z2 a.1 a.2.1 a.2.2) Jo Po Qo)
noncomputable def DAP {γ:Type} (F:Z8):Hd ctx γ:=hdl cv31.dec (fun a=>F a.1 a.2.1 a.2.2) cv18.enc
abbrev D9:=Int→ByteArray→Option Int
inductive Uo where
 | c0 (sum_0:Int) (text_1:ByteArray) (i_5:Int)
 | c1 (sum_0:Int) (text_1:ByteArray) (i_5:Int) (k_6:Int)
noncomputable def ZAH:Uo→LI
 | .c0 sum_0 text_1 i_5=>(tdo Tryz.f206 208,[(0,[.one (.int .u32 sum_0)]),(1,[.one (.str text_1)]),(5,[.one (.int .i64 i_5)])],[])
 | .c1 sum_0 text_1 i_5 k_6=>(tdo Tryz.f206 26928,[(0,[.one (.int .u32 sum_0)]),(1,[.one (.str text_1)]),(5,[.one (.int .i64 i_5)]),(6,[.one (.int .i64 k_6)])],[])
noncomputable def F9 (k:Uo→Option Int) (sum_0:Int) (text_1:ByteArray):Option Int:=
 k (.c0 sum_0 text_1 0)
noncomputable def Bj (k:Uo→Option Int):Uo→Option Int
 | .c0 sum_0 text_1 i_5=>
 bif (decide (i_5<(text_1.size:Int))) then
  bif ((decide (0≤i_5)) && (decide (i_5<(text_1.size:Int)))) then
  k (.c1 (w32 (((BitVec.toNat ((BitVec.ofInt (IntKind.bits IntKind.u32) sum_0) ^^^ (BitVec.ofInt (IntKind.bits IntKind.u32) (w32 (bt text_1 i_5))))):Nat):Int)) text_1 i_5 0)
  else none
 else
  some sum_0
 | .c1 sum_0 text_1 i_5 k_6=>
 bif (decide (k_6<8)) then
  bif ((sum_0.tmod 2) == 1) then
  k (.c1 (w32 (((BitVec.toNat ((BitVec.ofInt (IntKind.bits IntKind.u32) (w32 (sum_0.tdiv 2))) ^^^ (BitVec.ofInt (IntKind.bits IntKind.u32) 3558460437))):Nat):Int)) text_1 i_5 (w64 (k_6+1)))
  else
  k (.c1 (w32 (sum_0.tdiv 2)) text_1 i_5 (w64 (k_6+1)))
 else
  k (.c0 sum_0 text_1 (w64 (i_5+1)))
noncomputable def He:Nat→Uo→Option Int
 | 0,_=>none
 | m+1,s=>Bj (He m) s
noncomputable def Vo:D9:=F9 (He gas)
theorem EAP:Tells ctx PP 206 cv32 cv8 (fun a=>Vo a.1 a.2):=
 have b:CutIs ctx PP 206 Tryz.f206 [] [] cv8 ZAH (Bj):=fun _ s=>by cases s <;> kernel_rfl
 have e:EntryIs ctx PP 206 [] [] cv32 cv8 ZAH (fun k a=>F9 k a.1 a.2):=fun _ a=>by kernel_rfl
 fn_ok hl_nil Tryz.func206 (fun s s' h=>by cases s <;> cases s' <;> first | (cases h;done) | (cases h;rfl) | exact (rg_ne h (by kernel_rfl)).elim) (fun _=>rfl) (fun _ _=>rfl) b e gas
noncomputable def FAP {γ:Type} (F:D9):Hd ctx γ:=hdl cv32.dec (fun a=>F a.1 a.2) cv8.enc
abbrev G9:=ByteArray→Option Int
noncomputable def H9 (z0:D9) (text_0:ByteArray):Option Int:=
 (z0 4294967295 text_0).bind fun r0=>
 some r0
noncomputable def Xo:G9:=H9 Vo
theorem HAP:Tells ctx PP 185 cv3 cv8 (fun a=>Xo a):=fn_ok0 (hc EAP hl_nil) Tryz.func185 ((fun z0 a=>by kernel_rfl:∀ z0,EntryIs0 ctx PP 185 [] [(206,FAP z0)] cv3 cv8 fun a=>H9 z0 a) Vo)
noncomputable def IAP {γ:Type} (F:G9):Hd ctx γ:=hdl cv3.dec (fun a=>F a) cv8.enc
abbrev I9:=Int→Option ByteArray
noncomputable def J9 (x_0:Int):Option ByteArray:=
 some (ofBytes [(w8 (Int.fdiv x_0 (2 ^ (Min.min (24:Int).toNat (IntKind.bits IntKind.u32))))),(w8 (Int.fdiv x_0 (2 ^ (Min.min (16:Int).toNat (IntKind.bits IntKind.u32))))),(w8 (Int.fdiv x_0 (2 ^ (Min.min (8:Int).toNat (IntKind.bits IntKind.u32))))),(w8 x_0)])
noncomputable def Yo:I9:=J9
theorem JAP:Tells ctx PP 184 cv8 cv3 (fun a=>Yo a):=fn_ok0 hl_nil Tryz.func184 (fun a=>by kernel_rfl:EntryIs0 ctx PP 184 [] [] cv8 cv3 fun a=>J9 a)
noncomputable def KAP {γ:Type} (F:I9):Hd ctx γ:=hdl cv8.dec (fun a=>F a) cv3.enc
abbrev L9:=ByteArray→Option (ByteArray×Bool)
noncomputable def N9 (z0:VZ) (z1:Yd) (z2:G9) (z3:I9) (text_0:ByteArray):Option (ByteArray×Bool):=
 (z0 (text_0.size:Int) 1 9000).bind fun r0=>
 bif (!r0) then
 some (⟨#[]⟩,false)
 else
 (z1 (text_0.size:Int)).bind fun r1=>
 (z2 text_0).bind fun r2=>
 (z3 r2).bind fun r3=>
 bif (decide ((r1.size+r3.size)≤9223372036854775807)) then
 bif (decide (((r1++r3).size+text_0.size)≤9223372036854775807)) then
 some (((r1++r3)++text_0),true)
 else none
 else none
noncomputable def Zo:L9:=N9 CY LZ Xo Yo
theorem LAP:Tells ctx PP 150 cv3 cv18 (fun a=>Zo a):=fn_ok0 (hc Vd (hc Wi (hc HAP (hc JAP hl_nil)))) Tryz.func150 ((fun z0 z1 z2 z3 a=>by kernel_rfl:∀ z0 z1 z2 z3,EntryIs0 ctx PP 150 [] [(50,Cb z0),(147,Hg z1),(185,IAP z2),(184,KAP z3)] cv3 cv18 fun a=>N9 z0 z1 z2 z3 a) CY LZ Xo Yo)
noncomputable def NAP {γ:Type} (F:L9):Hd ctx γ:=hdl cv3.dec (fun a=>F a) cv18.enc
abbrev O9:=ByteArray→Int→SRec→Option ((List SAct)×Bool)
noncomputable def P9 (z0:Qn) (z1:VZ) (z2:Z8) (z3:L9) (key_0:ByteArray) (count_1:Int) (r_2:SRec):Option ((List SAct)×Bool):=
 (z0 r_2).bind fun r0=>
 bif (!r0.2) then
 some ([],false)
 else
 (z1 count_1 0 10000).bind fun r1=>
 bif (!r1) then
  some ([],false)
 else
  (z2 key_0 (w64 (count_1+1)) r0.1).bind fun r2=>
  (z3 r2.1).bind fun r3=>
  some ([⟨1,⟨#[98,111,111,107]⟩,r3.1,⟨#[]⟩⟩,⟨2,⟨#[98,111,111,107]⟩,⟨#[]⟩,⟨#[]⟩⟩],true)
noncomputable def Ap:O9:=P9 Ce CY Ro Zo
theorem OAP:Tells ctx PP 98 cv33 cv34 (fun a=>Ap a.1 a.2.1 a.2.2):=fn_ok0 (hc KAH (hc Vd (hc CAP (hc LAP hl_nil)))) Tryz.func98 ((fun z0 z1 z2 z3 a=>by kernel_rfl:∀ z0 z1 z2 z3,EntryIs0 ctx PP 98 [] [(92,A8 z0),(50,Cb z1),(149,DAP z2),(150,NAP z3)] cv33 cv34 fun a=>P9 z0 z1 z2 z3 a.1 a.2.1 a.2.2) Ce CY Ro Zo)
noncomputable def PAP {γ:Type} (F:O9):Hd ctx γ:=hdl cv33.dec (fun a=>F a.1 a.2.1 a.2.2) cv34.enc
abbrev Dp:=ByteArray→Option Bool
noncomputable def Q9 (z0:VZ) (s_0:ByteArray):Option Bool:=
 (z0 (s_0.size:Int) 1 8).bind fun r0=>
 some r0
noncomputable def Ie:Dp:=Q9 CY
theorem AAI:Tells ctx PP 116 cv3 cv6 (fun a=>Ie a):=fn_ok0 (hc Vd hl_nil) Tryz.func116 ((fun z0 a=>by kernel_rfl:∀ z0,EntryIs0 ctx PP 116 [] [(50,Cb z0)] cv3 cv6 fun a=>Q9 z0 a) CY)
noncomputable def S9 {γ:Type} (F:Dp):Hd ctx γ:=hdl cv3.dec (fun a=>F a) cv6.enc
abbrev U9:=SDisk→Option Bool
inductive Ep where
 | c0 (i_3:Int) (d_1:SDisk)
noncomputable def BAI:Ep→LI
 | .c0 i_3 d_1=>(tdo Tryz.f49 464,[(1,[.one (.ptr 64 0)]),(3,[.one (.int .i64 i_3)])],[(64,.var [.rsl 155 d_1.fFiles])])
noncomputable def V9 (z0:Dp) (z1:VZ) (k:Ep→Option Bool) (d_0:SDisk):Option Bool:=
 bif (decide ((d_0.fFiles.length:Int) > 30)) then
 some false
 else
 k (.c0 0 d_0)
noncomputable def Dy (z0:Dp) (z1:VZ) (k:Ep→Option Bool):Ep→Option Bool
 | .c0 i_3 d_1=>
 bif (decide (i_3<(d_1.fFiles.length:Int))) then
  bif ((decide (0≤i_3)) && (decide (i_3<(d_1.fFiles.length:Int)))) then
  (z0 (d_1.fFiles.getD i_3.toNat (⟨⟨#[]⟩,⟨#[]⟩,0⟩:SFile)).fName).bind fun r0=>
  bif (!r0) then
  some false
  else
  bif (decide (((d_1.fFiles.getD i_3.toNat (⟨⟨#[]⟩,⟨#[]⟩,0⟩:SFile)).fText.size:Int) > 20000)) then
   some false
  else
   (z1 (d_1.fFiles.getD i_3.toNat (⟨⟨#[]⟩,⟨#[]⟩,0⟩:SFile)).fKept 0 ((d_1.fFiles.getD i_3.toNat (⟨⟨#[]⟩,⟨#[]⟩,0⟩:SFile)).fText.size:Int)).bind fun r1=>
   bif (!r1) then
   some false
   else
   bif (decide (i_3 > 0)) then
    bif ((decide (0≤(w64 (i_3 - 1)))) && (decide ((w64 (i_3 - 1))<(d_1.fFiles.length:Int)))) then
    bif (!(Op.bytesLess (ByteArray.toList (d_1.fFiles.getD (w64 (i_3 - 1)).toNat (⟨⟨#[]⟩,⟨#[]⟩,0⟩:SFile)).fName) (ByteArray.toList (d_1.fFiles.getD i_3.toNat (⟨⟨#[]⟩,⟨#[]⟩,0⟩:SFile)).fName))) then
    some false
    else
    k (.c0 (w64 (i_3+1)) d_1)
    else none
   else
    k (.c0 (w64 (i_3+1)) d_1)
  else none
 else
  some true
noncomputable def Fp:Nat→Ep→Option Bool
 | 0,_=>none
 | m+1,s=>Dy Ie CY (Fp m) s
noncomputable def Gp:U9:=V9 Ie CY (Fp gas)
theorem QAP:Tells ctx PP 49 cv35 cv6 (fun a=>Gp a):=
 have b:∀ z0 z1,CutIs ctx PP 49 Tryz.f49 [] [(116,S9 z0),(50,Cb z1)] cv6 BAI (Dy z0 z1):=fun z0 z1 _ s=>by cases s <;> kernel_rfl
 have e:∀ z0 z1,EntryIs ctx PP 49 [] [(116,S9 z0),(50,Cb z1)] cv35 cv6 BAI (fun k a=>V9 z0 z1 k a):=fun z0 z1 _ a=>by kernel_rfl
 fn_ok (hc AAI (hc Vd hl_nil)) Tryz.func49 (fun s s' h=>by cases s;cases s';(repeat cases ‹SDisk›);cases h;rfl) (fun _=>rfl) (fun _ _=>rfl) (b Ie CY) (e Ie CY) gas
noncomputable def RAP {γ:Type} (F:U9):Hd ctx γ:=hdl cv35.dec (fun a=>F a) cv6.enc
abbrev W9:=SDisk→ByteArray→Option Int
inductive Ip where
 | c0 (name_1:ByteArray) (i_5:Int) (d_2:SDisk)
noncomputable def CAI:Ip→LI
 | .c0 name_1 i_5 d_2=>(tdo Tryz.f119 208,[(1,[.one (.str name_1)]),(2,[.one (.ptr 128 0)]),(5,[.one (.int .i64 i_5)])],[(128,.var [.rsl 155 d_2.fFiles])])
noncomputable def X9 (k:Ip→Option Int) (d_0:SDisk) (name_1:ByteArray):Option Int:=
 k (.c0 name_1 0 d_0)
noncomputable def Ey (k:Ip→Option Int):Ip→Option Int
 | .c0 name_1 i_5 d_2=>
 bif (decide (i_5<(d_2.fFiles.length:Int))) then
  bif ((decide (0≤i_5)) && (decide (i_5<(d_2.fFiles.length:Int)))) then
  bif ((ByteArray.toList (d_2.fFiles.getD i_5.toNat (⟨⟨#[]⟩,⟨#[]⟩,0⟩:SFile)).fName) == (ByteArray.toList name_1)) then
  some i_5
  else
  k (.c0 name_1 (w64 (i_5+1)) d_2)
  else none
 else
  some (-(1:Int))
noncomputable def Jp:Nat→Ip→Option Int
 | 0,_=>none
 | m+1,s=>Ey (Jp m) s
noncomputable def Np:W9:=X9 (Jp gas)
theorem SAP:Tells ctx PP 119 cv36 cv15 (fun a=>Np a.1 a.2):=
 have b:CutIs ctx PP 119 Tryz.f119 [] [] cv15 CAI (Ey):=fun _ s=>by cases s <;> kernel_rfl
 have e:EntryIs ctx PP 119 [] [] cv36 cv15 CAI (fun k a=>X9 k a.1 a.2):=fun _ a=>by kernel_rfl
 fn_ok hl_nil Tryz.func119 (fun s s' h=>by cases s;cases s';(repeat cases ‹SDisk›);cases h;rfl) (fun _=>rfl) (fun _ _=>rfl) b e gas
noncomputable def TAP {γ:Type} (F:W9):Hd ctx γ:=hdl cv36.dec (fun a=>F a.1 a.2) cv15.enc
abbrev Y9:=SDisk→SFile→Option SDisk
inductive Qp where
 | c0 (i_6:Int) (d_2:SDisk) (f_3:SFile) (v_4r0:(List SFile)) (out_5r0:(List SFile))
 | c1 (i_7:Int) (d_2:SDisk) (f_3:SFile) (v_4r0:(List SFile)) (out_5r0:(List SFile))
noncomputable def DAI:Qp→LI
 | .c0 i_6 d_2 f_3 v_4r0 out_5r0=>(tdo Tryz.f172 464,[(2,[.one (.ptr 128 0)]),(3,[.one (.ptr 192 0)]),(4,[.one (.ptr 256 0)]),(5,[.one (.ptr 320 0)]),(6,[.one (.int .i64 i_6)])],[(128,.var [.rsl 155 d_2.fFiles]),(192,.var [.str f_3.fName,.str f_3.fText,.int .i64 f_3.fKept]),(256,.var [.own 1016384]),(320,.var [.own 1020480]),(1016384,.sl 155 v_4r0),(1020480,.sl 155 out_5r0)])
 | .c1 i_7 d_2 f_3 v_4r0 out_5r0=>(tdo Tryz.f172 2000,[(2,[.one (.ptr 128 0)]),(3,[.one (.ptr 192 0)]),(4,[.one (.ptr 256 0)]),(5,[.one (.ptr 320 0)]),(7,[.one (.int .i64 i_7)])],[(128,.var [.rsl 155 d_2.fFiles]),(192,.var [.str f_3.fName,.str f_3.fText,.int .i64 f_3.fKept]),(256,.var [.own 1016384]),(320,.var [.own 1020480]),(1016384,.sl 155 v_4r0),(1020480,.sl 155 out_5r0)])
noncomputable def Z9 (k:Qp→Option SDisk) (d_0:SDisk) (f_1:SFile):Option SDisk:=
 k (.c0 0 d_0 f_1 [] [])
noncomputable def Cj (k:Qp→Option SDisk):Qp→Option SDisk
 | .c0 i_6 d_2 f_3 v_4r0 out_5r0=>
 bif (decide (i_6<(d_2.fFiles.length:Int))) then
  bif ((decide (0≤i_6)) && (decide (i_6<(d_2.fFiles.length:Int)))) then
  bif (Op.bytesLess (ByteArray.toList (d_2.fFiles.getD i_6.toNat (⟨⟨#[]⟩,⟨#[]⟩,0⟩:SFile)).fName) (ByteArray.toList f_3.fName)) then
  bif ((decide (0≤i_6)) && (decide (i_6<(d_2.fFiles.length:Int)))) then
  bif (decide (((out_5r0.length+1)*40)≤140737488355328)) then
  k (.c0 (w64 (i_6+1)) d_2 f_3 v_4r0 (out_5r0++[(d_2.fFiles.getD i_6.toNat (⟨⟨#[]⟩,⟨#[]⟩,0⟩:SFile))]))
  else none
  else none
  else
  k (.c0 (w64 (i_6+1)) d_2 f_3 v_4r0 out_5r0)
  else none
 else
  bif (decide (((out_5r0.length+1)*40)≤140737488355328)) then
  k (.c1 0 d_2 f_3 v_4r0 (out_5r0++[f_3]))
  else none
 | .c1 i_7 d_2 f_3 v_4r0 out_5r0=>
 bif (decide (i_7<(d_2.fFiles.length:Int))) then
  bif ((decide (0≤i_7)) && (decide (i_7<(d_2.fFiles.length:Int)))) then
  bif (!((Op.bytesLess (ByteArray.toList (d_2.fFiles.getD i_7.toNat (⟨⟨#[]⟩,⟨#[]⟩,0⟩:SFile)).fName) (ByteArray.toList f_3.fName)) || ((ByteArray.toList (d_2.fFiles.getD i_7.toNat (⟨⟨#[]⟩,⟨#[]⟩,0⟩:SFile)).fName) == (ByteArray.toList f_3.fName)))) then
  bif ((decide (0≤i_7)) && (decide (i_7<(d_2.fFiles.length:Int)))) then
  bif (decide (((out_5r0.length+1)*40)≤140737488355328)) then
  k (.c1 (w64 (i_7+1)) d_2 f_3 v_4r0 (out_5r0++[(d_2.fFiles.getD i_7.toNat (⟨⟨#[]⟩,⟨#[]⟩,0⟩:SFile))]))
  else none
  else none
  else
  k (.c1 (w64 (i_7+1)) d_2 f_3 v_4r0 out_5r0)
  else none
 else
  some ⟨out_5r0⟩
noncomputable def Je:Nat→Qp→Option SDisk
 | 0,_=>none
 | m+1,s=>Cj (Je m) s
noncomputable def Vp:Y9:=Z9 (Je gas)
theorem UAP:Tells ctx PP 172 cv37 cv38 (fun a=>Vp a.1 a.2):=
 have b:CutIs ctx PP 172 Tryz.f172 [] [] cv38 DAI (Cj):=fun _ s=>by cases s <;> kernel_rfl
 have e:EntryIs ctx PP 172 [] [] cv37 cv38 DAI (fun k a=>Z9 k a.1 a.2):=fun _ a=>by kernel_rfl
 fn_ok hl_nil Tryz.func172 (fun s s' h=>by cases s <;> cases s' <;> first | ((repeat cases ‹SDisk›);(repeat cases ‹SFile›);cases h;done) | ((repeat cases ‹SDisk›);(repeat cases ‹SFile›);cases h;rfl) | exact (rg_ne h (by kernel_rfl)).elim) (fun _=>rfl) (fun _ _=>rfl) b e gas
noncomputable def VAP {γ:Type} (F:Y9):Hd ctx γ:=hdl cv37.dec (fun a=>F a.1 a.2) cv38.enc
abbrev AAA:=SDisk→ByteArray→Option SDisk
inductive Wp where
 | c0 (name_1:ByteArray) (i_6:Int) (d_2:SDisk) (v_4r0:(List SFile)) (out_5r0:(List SFile))
noncomputable def EAI:Wp→LI
 | .c0 name_1 i_6 d_2 v_4r0 out_5r0=>(tdo Tryz.f173 464,[(1,[.one (.str name_1)]),(2,[.one (.ptr 128 0)]),(4,[.one (.ptr 256 0)]),(5,[.one (.ptr 320 0)]),(6,[.one (.int .i64 i_6)])],[(128,.var [.rsl 155 d_2.fFiles]),(256,.var [.own 1016384]),(320,.var [.own 1020480]),(1016384,.sl 155 v_4r0),(1020480,.sl 155 out_5r0)])
noncomputable def BAA (k:Wp→Option SDisk) (d_0:SDisk) (name_1:ByteArray):Option SDisk:=
 k (.c0 name_1 0 d_0 [] [])
noncomputable def Gy (k:Wp→Option SDisk):Wp→Option SDisk
 | .c0 name_1 i_6 d_2 v_4r0 out_5r0=>
 bif (decide (i_6<(d_2.fFiles.length:Int))) then
  bif ((decide (0≤i_6)) && (decide (i_6<(d_2.fFiles.length:Int)))) then
  bif (!((ByteArray.toList (d_2.fFiles.getD i_6.toNat (⟨⟨#[]⟩,⟨#[]⟩,0⟩:SFile)).fName) == (ByteArray.toList name_1))) then
  bif ((decide (0≤i_6)) && (decide (i_6<(d_2.fFiles.length:Int)))) then
  bif (decide (((out_5r0.length+1)*40)≤140737488355328)) then
  k (.c0 name_1 (w64 (i_6+1)) d_2 v_4r0 (out_5r0++[(d_2.fFiles.getD i_6.toNat (⟨⟨#[]⟩,⟨#[]⟩,0⟩:SFile))]))
  else none
  else none
  else
  k (.c0 name_1 (w64 (i_6+1)) d_2 v_4r0 out_5r0)
  else none
 else
  some ⟨out_5r0⟩
noncomputable def Xp:Nat→Wp→Option SDisk
 | 0,_=>none
 | m+1,s=>Gy (Xp m) s
noncomputable def Yp:AAA:=BAA (Xp gas)
theorem WAP:Tells ctx PP 173 cv36 cv38 (fun a=>Yp a.1 a.2):=
 have b:CutIs ctx PP 173 Tryz.f173 [] [] cv38 EAI (Gy):=fun _ s=>by cases s <;> kernel_rfl
 have e:EntryIs ctx PP 173 [] [] cv36 cv38 EAI (fun k a=>BAA k a.1 a.2):=fun _ a=>by kernel_rfl
 fn_ok hl_nil Tryz.func173 (fun s s' h=>by cases s;cases s';(repeat cases ‹SDisk›);cases h;rfl) (fun _=>rfl) (fun _ _=>rfl) b e gas
noncomputable def XAP {γ:Type} (F:AAA):Hd ctx γ:=hdl cv36.dec (fun a=>F a.1 a.2) cv38.enc
abbrev Hy:=SDisk→SAct→Option (SDisk×Bool)
noncomputable def CAA (z0:U9) (z1:Dp) (z2:W9) (z3:Y9) (z4:AAA) (d_0:SDisk) (a_1:SAct):Option (SDisk×Bool):=
 (z0 d_0).bind fun r0=>
 bif (!r0) then
 some (⟨[]⟩,false)
 else
 (z1 a_1.fName).bind fun r1=>
 bif (!r1) then
  some (⟨[]⟩,false)
 else
  bif (a_1.fKind != 3) then
  bif (!((ByteArray.toList a_1.fTo) == (ByteArray.toList ⟨#[]⟩))) then
   some (⟨[]⟩,false)
  else
   bif (a_1.fKind != 1) then
   bif (!((ByteArray.toList a_1.fText) == (ByteArray.toList ⟨#[]⟩))) then
    some (⟨[]⟩,false)
   else
    (z2 d_0 a_1.fName).bind fun r2=>
    bif (decide (r2≥0)) then
    bif ((decide (0≤r2)) && (decide (r2<(d_0.fFiles.length:Int)))) then
    bif (a_1.fKind == 1) then
     bif (decide (((d_0.fFiles.getD r2.toNat (⟨⟨#[]⟩,⟨#[]⟩,0⟩:SFile)).fText.size+a_1.fText.size)≤9223372036854775807)) then
     (z3 d_0 ⟨(d_0.fFiles.getD r2.toNat (⟨⟨#[]⟩,⟨#[]⟩,0⟩:SFile)).fName,((d_0.fFiles.getD r2.toNat (⟨⟨#[]⟩,⟨#[]⟩,0⟩:SFile)).fText++a_1.fText),(d_0.fFiles.getD r2.toNat (⟨⟨#[]⟩,⟨#[]⟩,0⟩:SFile)).fKept⟩).bind fun r3=>
     (z0 r3).bind fun r4=>
     bif (!r4) then
     some (⟨[]⟩,false)
     else
     some (r3,true)
     else none
    else
     bif (decide (r2<0)) then
     some (⟨[]⟩,false)
     else
     bif (a_1.fKind == 2) then
      (z3 d_0 ⟨(d_0.fFiles.getD r2.toNat (⟨⟨#[]⟩,⟨#[]⟩,0⟩:SFile)).fName,(d_0.fFiles.getD r2.toNat (⟨⟨#[]⟩,⟨#[]⟩,0⟩:SFile)).fText,((d_0.fFiles.getD r2.toNat (⟨⟨#[]⟩,⟨#[]⟩,0⟩:SFile)).fText.size:Int)⟩).bind fun r5=>
      (z0 r5).bind fun r6=>
      bif (!r6) then
      some (⟨[]⟩,false)
      else
      some (r5,true)
     else
      bif (a_1.fKind == 3) then
      bif (decide ((d_0.fFiles.getD r2.toNat (⟨⟨#[]⟩,⟨#[]⟩,0⟩:SFile)).fKept<((d_0.fFiles.getD r2.toNat (⟨⟨#[]⟩,⟨#[]⟩,0⟩:SFile)).fText.size:Int))) then
       some (⟨[]⟩,false)
      else
       bif ((ByteArray.toList a_1.fTo) == (ByteArray.toList a_1.fName)) then
       some (⟨[]⟩,false)
       else
       (z1 a_1.fTo).bind fun r7=>
       bif (!r7) then
        some (⟨[]⟩,false)
       else
        (z4 d_0 a_1.fName).bind fun r8=>
        (z3 r8 ⟨a_1.fTo,(d_0.fFiles.getD r2.toNat (⟨⟨#[]⟩,⟨#[]⟩,0⟩:SFile)).fText,(d_0.fFiles.getD r2.toNat (⟨⟨#[]⟩,⟨#[]⟩,0⟩:SFile)).fKept⟩).bind fun r9=>
        (z0 r9).bind fun r10=>
        bif (!r10) then
        some (⟨[]⟩,false)
        else
        some (r9,true)
      else
      bif (a_1.fKind == 4) then
       (z4 d_0 a_1.fName).bind fun r11=>
       (z0 r11).bind fun r12=>
       bif (!r12) then
       some (⟨[]⟩,false)
       else
       some (r11,true)
      else
       some (⟨[]⟩,false)
    else none
    else
    bif (a_1.fKind == 1) then
     bif (decide (((⟨#[]⟩:ByteArray).size+a_1.fText.size)≤9223372036854775807)) then
     (z3 d_0 ⟨a_1.fName,((⟨#[]⟩:ByteArray)++a_1.fText),0⟩).bind fun r13=>
     (z0 r13).bind fun r14=>
     bif (!r14) then
     some (⟨[]⟩,false)
     else
     some (r13,true)
     else none
    else
     bif (decide (r2<0)) then
     some (⟨[]⟩,false)
     else
     bif (a_1.fKind == 2) then
      (z3 d_0 ⟨a_1.fName,⟨#[]⟩,((⟨#[]⟩:ByteArray).size:Int)⟩).bind fun r15=>
      (z0 r15).bind fun r16=>
      bif (!r16) then
      some (⟨[]⟩,false)
      else
      some (r15,true)
     else
      bif (a_1.fKind == 3) then
      bif ((ByteArray.toList a_1.fTo) == (ByteArray.toList a_1.fName)) then
       some (⟨[]⟩,false)
      else
       (z1 a_1.fTo).bind fun r17=>
       bif (!r17) then
       some (⟨[]⟩,false)
       else
       (z4 d_0 a_1.fName).bind fun r18=>
       (z3 r18 ⟨a_1.fTo,⟨#[]⟩,0⟩).bind fun r19=>
       (z0 r19).bind fun r20=>
       bif (!r20) then
        some (⟨[]⟩,false)
       else
        some (r19,true)
      else
      bif (a_1.fKind == 4) then
       (z4 d_0 a_1.fName).bind fun r21=>
       (z0 r21).bind fun r22=>
       bif (!r22) then
       some (⟨[]⟩,false)
       else
       some (r21,true)
      else
       some (⟨[]⟩,false)
   else
   (z2 d_0 a_1.fName).bind fun r23=>
   bif (decide (r23≥0)) then
    bif ((decide (0≤r23)) && (decide (r23<(d_0.fFiles.length:Int)))) then
    bif (a_1.fKind == 1) then
    bif (decide (((d_0.fFiles.getD r23.toNat (⟨⟨#[]⟩,⟨#[]⟩,0⟩:SFile)).fText.size+a_1.fText.size)≤9223372036854775807)) then
    (z3 d_0 ⟨(d_0.fFiles.getD r23.toNat (⟨⟨#[]⟩,⟨#[]⟩,0⟩:SFile)).fName,((d_0.fFiles.getD r23.toNat (⟨⟨#[]⟩,⟨#[]⟩,0⟩:SFile)).fText++a_1.fText),(d_0.fFiles.getD r23.toNat (⟨⟨#[]⟩,⟨#[]⟩,0⟩:SFile)).fKept⟩).bind fun r24=>
    (z0 r24).bind fun r25=>
    bif (!r25) then
     some (⟨[]⟩,false)
    else
     some (r24,true)
    else none
    else
    bif (decide (r23<0)) then
     some (⟨[]⟩,false)
    else
     bif (a_1.fKind == 2) then
     (z3 d_0 ⟨(d_0.fFiles.getD r23.toNat (⟨⟨#[]⟩,⟨#[]⟩,0⟩:SFile)).fName,(d_0.fFiles.getD r23.toNat (⟨⟨#[]⟩,⟨#[]⟩,0⟩:SFile)).fText,((d_0.fFiles.getD r23.toNat (⟨⟨#[]⟩,⟨#[]⟩,0⟩:SFile)).fText.size:Int)⟩).bind fun r26=>
     (z0 r26).bind fun r27=>
     bif (!r27) then
      some (⟨[]⟩,false)
     else
      some (r26,true)
     else
     bif (a_1.fKind == 3) then
      bif (decide ((d_0.fFiles.getD r23.toNat (⟨⟨#[]⟩,⟨#[]⟩,0⟩:SFile)).fKept<((d_0.fFiles.getD r23.toNat (⟨⟨#[]⟩,⟨#[]⟩,0⟩:SFile)).fText.size:Int))) then
      some (⟨[]⟩,false)
      else
      bif ((ByteArray.toList a_1.fTo) == (ByteArray.toList a_1.fName)) then
       some (⟨[]⟩,false)
      else
       (z1 a_1.fTo).bind fun r28=>
       bif (!r28) then
       some (⟨[]⟩,false)
       else
       (z4 d_0 a_1.fName).bind fun r29=>
       (z3 r29 ⟨a_1.fTo,(d_0.fFiles.getD r23.toNat (⟨⟨#[]⟩,⟨#[]⟩,0⟩:SFile)).fText,(d_0.fFiles.getD r23.toNat (⟨⟨#[]⟩,⟨#[]⟩,0⟩:SFile)).fKept⟩).bind fun r30=>
       (z0 r30).bind fun r31=>
       bif (!r31) then
        some (⟨[]⟩,false)
       else
        some (r30,true)
     else
      bif (a_1.fKind == 4) then
      (z4 d_0 a_1.fName).bind fun r32=>
      (z0 r32).bind fun r33=>
      bif (!r33) then
       some (⟨[]⟩,false)
      else
       some (r32,true)
      else
      some (⟨[]⟩,false)
    else none
   else
    bif (a_1.fKind == 1) then
    bif (decide (((⟨#[]⟩:ByteArray).size+a_1.fText.size)≤9223372036854775807)) then
    (z3 d_0 ⟨a_1.fName,((⟨#[]⟩:ByteArray)++a_1.fText),0⟩).bind fun r34=>
    (z0 r34).bind fun r35=>
    bif (!r35) then
     some (⟨[]⟩,false)
    else
     some (r34,true)
    else none
    else
    bif (decide (r23<0)) then
     some (⟨[]⟩,false)
    else
     bif (a_1.fKind == 2) then
     (z3 d_0 ⟨a_1.fName,⟨#[]⟩,((⟨#[]⟩:ByteArray).size:Int)⟩).bind fun r36=>
     (z0 r36).bind fun r37=>
     bif (!r37) then
      some (⟨[]⟩,false)
     else
      some (r36,true)
     else
     bif (a_1.fKind == 3) then
      bif ((ByteArray.toList a_1.fTo) == (ByteArray.toList a_1.fName)) then
      some (⟨[]⟩,false)
      else
      (z1 a_1.fTo).bind fun r38=>
      bif (!r38) then
       some (⟨[]⟩,false)
      else
       (z4 d_0 a_1.fName).bind fun r39=>
       (z3 r39 ⟨a_1.fTo,⟨#[]⟩,0⟩).bind fun r40=>
       (z0 r40).bind fun r41=>
       bif (!r41) then
       some (⟨[]⟩,false)
       else
       some (r40,true)
     else
      bif (a_1.fKind == 4) then
      (z4 d_0 a_1.fName).bind fun r42=>
      (z0 r42).bind fun r43=>
      bif (!r43) then
       some (⟨[]⟩,false)
      else
       some (r42,true)
      else
      some (⟨[]⟩,false)
  else
  bif (a_1.fKind != 1) then
   bif (!((ByteArray.toList a_1.fText) == (ByteArray.toList ⟨#[]⟩))) then
   some (⟨[]⟩,false)
   else
   (z2 d_0 a_1.fName).bind fun r44=>
   bif (decide (r44≥0)) then
    bif ((decide (0≤r44)) && (decide (r44<(d_0.fFiles.length:Int)))) then
    bif (a_1.fKind == 1) then
    bif (decide (((d_0.fFiles.getD r44.toNat (⟨⟨#[]⟩,⟨#[]⟩,0⟩:SFile)).fText.size+a_1.fText.size)≤9223372036854775807)) then
    (z3 d_0 ⟨(d_0.fFiles.getD r44.toNat (⟨⟨#[]⟩,⟨#[]⟩,0⟩:SFile)).fName,((d_0.fFiles.getD r44.toNat (⟨⟨#[]⟩,⟨#[]⟩,0⟩:SFile)).fText++a_1.fText),(d_0.fFiles.getD r44.toNat (⟨⟨#[]⟩,⟨#[]⟩,0⟩:SFile)).fKept⟩).bind fun r45=>
    (z0 r45).bind fun r46=>
    bif (!r46) then
     some (⟨[]⟩,false)
    else
     some (r45,true)
    else none
    else
    bif (decide (r44<0)) then
     some (⟨[]⟩,false)
    else
     bif (a_1.fKind == 2) then
     (z3 d_0 ⟨(d_0.fFiles.getD r44.toNat (⟨⟨#[]⟩,⟨#[]⟩,0⟩:SFile)).fName,(d_0.fFiles.getD r44.toNat (⟨⟨#[]⟩,⟨#[]⟩,0⟩:SFile)).fText,((d_0.fFiles.getD r44.toNat (⟨⟨#[]⟩,⟨#[]⟩,0⟩:SFile)).fText.size:Int)⟩).bind fun r47=>
     (z0 r47).bind fun r48=>
     bif (!r48) then
      some (⟨[]⟩,false)
     else
      some (r47,true)
     else
     bif (a_1.fKind == 3) then
      bif (decide ((d_0.fFiles.getD r44.toNat (⟨⟨#[]⟩,⟨#[]⟩,0⟩:SFile)).fKept<((d_0.fFiles.getD r44.toNat (⟨⟨#[]⟩,⟨#[]⟩,0⟩:SFile)).fText.size:Int))) then
      some (⟨[]⟩,false)
      else
      bif ((ByteArray.toList a_1.fTo) == (ByteArray.toList a_1.fName)) then
       some (⟨[]⟩,false)
      else
       (z1 a_1.fTo).bind fun r49=>
       bif (!r49) then
       some (⟨[]⟩,false)
       else
       (z4 d_0 a_1.fName).bind fun r50=>
       (z3 r50 ⟨a_1.fTo,(d_0.fFiles.getD r44.toNat (⟨⟨#[]⟩,⟨#[]⟩,0⟩:SFile)).fText,(d_0.fFiles.getD r44.toNat (⟨⟨#[]⟩,⟨#[]⟩,0⟩:SFile)).fKept⟩).bind fun r51=>
       (z0 r51).bind fun r52=>
       bif (!r52) then
        some (⟨[]⟩,false)
       else
        some (r51,true)
     else
      bif (a_1.fKind == 4) then
      (z4 d_0 a_1.fName).bind fun r53=>
      (z0 r53).bind fun r54=>
      bif (!r54) then
       some (⟨[]⟩,false)
      else
       some (r53,true)
      else
      some (⟨[]⟩,false)
    else none
   else
    bif (a_1.fKind == 1) then
    bif (decide (((⟨#[]⟩:ByteArray).size+a_1.fText.size)≤9223372036854775807)) then
    (z3 d_0 ⟨a_1.fName,((⟨#[]⟩:ByteArray)++a_1.fText),0⟩).bind fun r55=>
    (z0 r55).bind fun r56=>
    bif (!r56) then
     some (⟨[]⟩,false)
    else
     some (r55,true)
    else none
    else
    bif (decide (r44<0)) then
     some (⟨[]⟩,false)
    else
     bif (a_1.fKind == 2) then
     (z3 d_0 ⟨a_1.fName,⟨#[]⟩,((⟨#[]⟩:ByteArray).size:Int)⟩).bind fun r57=>
     (z0 r57).bind fun r58=>
     bif (!r58) then
      some (⟨[]⟩,false)
     else
      some (r57,true)
     else
     bif (a_1.fKind == 3) then
      bif ((ByteArray.toList a_1.fTo) == (ByteArray.toList a_1.fName)) then
      some (⟨[]⟩,false)
      else
      (z1 a_1.fTo).bind fun r59=>
      bif (!r59) then
       some (⟨[]⟩,false)
      else
       (z4 d_0 a_1.fName).bind fun r60=>
       (z3 r60 ⟨a_1.fTo,⟨#[]⟩,0⟩).bind fun r61=>
       (z0 r61).bind fun r62=>
       bif (!r62) then
       some (⟨[]⟩,false)
       else
       some (r61,true)
     else
      bif (a_1.fKind == 4) then
      (z4 d_0 a_1.fName).bind fun r63=>
      (z0 r63).bind fun r64=>
      bif (!r64) then
       some (⟨[]⟩,false)
      else
       some (r63,true)
      else
      some (⟨[]⟩,false)
  else
   (z2 d_0 a_1.fName).bind fun r65=>
   bif (decide (r65≥0)) then
   bif ((decide (0≤r65)) && (decide (r65<(d_0.fFiles.length:Int)))) then
   bif (a_1.fKind == 1) then
    bif (decide (((d_0.fFiles.getD r65.toNat (⟨⟨#[]⟩,⟨#[]⟩,0⟩:SFile)).fText.size+a_1.fText.size)≤9223372036854775807)) then
    (z3 d_0 ⟨(d_0.fFiles.getD r65.toNat (⟨⟨#[]⟩,⟨#[]⟩,0⟩:SFile)).fName,((d_0.fFiles.getD r65.toNat (⟨⟨#[]⟩,⟨#[]⟩,0⟩:SFile)).fText++a_1.fText),(d_0.fFiles.getD r65.toNat (⟨⟨#[]⟩,⟨#[]⟩,0⟩:SFile)).fKept⟩).bind fun r66=>
    (z0 r66).bind fun r67=>
    bif (!r67) then
    some (⟨[]⟩,false)
    else
    some (r66,true)
    else none
   else
    bif (decide (r65<0)) then
    some (⟨[]⟩,false)
    else
    bif (a_1.fKind == 2) then
     (z3 d_0 ⟨(d_0.fFiles.getD r65.toNat (⟨⟨#[]⟩,⟨#[]⟩,0⟩:SFile)).fName,(d_0.fFiles.getD r65.toNat (⟨⟨#[]⟩,⟨#[]⟩,0⟩:SFile)).fText,((d_0.fFiles.getD r65.toNat (⟨⟨#[]⟩,⟨#[]⟩,0⟩:SFile)).fText.size:Int)⟩).bind fun r68=>
     (z0 r68).bind fun r69=>
     bif (!r69) then
     some (⟨[]⟩,false)
     else
     some (r68,true)
    else
     bif (a_1.fKind == 3) then
     bif (decide ((d_0.fFiles.getD r65.toNat (⟨⟨#[]⟩,⟨#[]⟩,0⟩:SFile)).fKept<((d_0.fFiles.getD r65.toNat (⟨⟨#[]⟩,⟨#[]⟩,0⟩:SFile)).fText.size:Int))) then
      some (⟨[]⟩,false)
     else
      bif ((ByteArray.toList a_1.fTo) == (ByteArray.toList a_1.fName)) then
      some (⟨[]⟩,false)
      else
      (z1 a_1.fTo).bind fun r70=>
      bif (!r70) then
       some (⟨[]⟩,false)
      else
       (z4 d_0 a_1.fName).bind fun r71=>
       (z3 r71 ⟨a_1.fTo,(d_0.fFiles.getD r65.toNat (⟨⟨#[]⟩,⟨#[]⟩,0⟩:SFile)).fText,(d_0.fFiles.getD r65.toNat (⟨⟨#[]⟩,⟨#[]⟩,0⟩:SFile)).fKept⟩).bind fun r72=>
       (z0 r72).bind fun r73=>
       bif (!r73) then
       some (⟨[]⟩,false)
       else
       some (r72,true)
     else
     bif (a_1.fKind == 4) then
      (z4 d_0 a_1.fName).bind fun r74=>
      (z0 r74).bind fun r75=>
      bif (!r75) then
      some (⟨[]⟩,false)
      else
      some (r74,true)
     else
      some (⟨[]⟩,false)
   else none
   else
   bif (a_1.fKind == 1) then
    bif (decide (((⟨#[]⟩:ByteArray).size+a_1.fText.size)≤9223372036854775807)) then
    (z3 d_0 ⟨a_1.fName,((⟨#[]⟩:ByteArray)++a_1.fText),0⟩).bind fun r76=>
    (z0 r76).bind fun r77=>
    bif (!r77) then
    some (⟨[]⟩,false)
    else
    some (r76,true)
    else none
   else
    bif (decide (r65<0)) then
    some (⟨[]⟩,false)
    else
    bif (a_1.fKind == 2) then
     (z3 d_0 ⟨a_1.fName,⟨#[]⟩,((⟨#[]⟩:ByteArray).size:Int)⟩).bind fun r78=>
     (z0 r78).bind fun r79=>
     bif (!r79) then
     some (⟨[]⟩,false)
     else
     some (r78,true)
    else
     bif (a_1.fKind == 3) then
     bif ((ByteArray.toList a_1.fTo) == (ByteArray.toList a_1.fName)) then
      some (⟨[]⟩,false)
     else
      (z1 a_1.fTo).bind fun r80=>
      bif (!r80) then
      some (⟨[]⟩,false)
      else
      (z4 d_0 a_1.fName).bind fun r81=>
      (z3 r81 ⟨a_1.fTo,⟨#[]⟩,0⟩).bind fun r82=>
      (z0 r82).bind fun r83=>
      bif (!r83) then
       some (⟨[]⟩,false)
      else
       some (r82,true)
     else
     bif (a_1.fKind == 4) then
      (z4 d_0 a_1.fName).bind fun r84=>
      (z0 r84).bind fun r85=>
      bif (!r85) then
      some (⟨[]⟩,false)
      else
      some (r84,true)
     else
      some (⟨[]⟩,false)
noncomputable def Ug:Hy:=CAA Gp Ie Np Vp Yp
theorem YAP:Tells ctx PP 137 cv39 cv40 (fun a=>Ug a.1 a.2):=fn_ok0 (hc QAP (hc AAI (hc SAP (hc UAP (hc WAP hl_nil))))) Tryz.func137 ((fun z0 z1 z2 z3 z4 a=>by kernel_rfl:∀ z0 z1 z2 z3 z4,EntryIs0 ctx PP 137 [] [(49,RAP z0),(116,S9 z1),(119,TAP z2),(172,VAP z3),(173,XAP z4)] cv39 cv40 fun a=>CAA z0 z1 z2 z3 z4 a.1 a.2) Gp Ie Np Vp Yp)
noncomputable def FAI {γ:Type} (F:Hy):Hd ctx γ:=hdl cv39.dec (fun a=>F a.1 a.2) cv40.enc
abbrev DAA:=SDisk→(List SAct)→Option (SDisk×Int)
inductive Zp where
 | c0 (list_1:(List SAct)) (i_7:Int) (v_4r0:(List SFile)) (out_6r0:(List SFile))
noncomputable def GAI:Zp→LI
 | .c0 list_1 i_7 v_4r0 out_6r0=>(tdo Tryz.f79 464,[(1,[.one (.rsl 162 list_1)]),(4,[.one (.ptr 256 0)]),(6,[.one (.ptr 384 0)]),(7,[.one (.int .i64 i_7)])],[(256,.var [.own 1016384]),(384,.var [.own 1024576]),(1016384,.sl 155 v_4r0),(1024576,.sl 155 out_6r0)])
noncomputable def EAA (z0:Hy) (k:Zp→Option (SDisk×Int)) (d_0:SDisk) (list_1:(List SAct)):Option (SDisk×Int):=
 bif (decide (((0+d_0.fFiles.length)*40)≤140737488355328)) then
 k (.c0 list_1 0 [] ([]++d_0.fFiles))
 else none
noncomputable def Iy (z0:Hy) (k:Zp→Option (SDisk×Int)):Zp→Option (SDisk×Int)
 | .c0 list_1 i_7 v_4r0 out_6r0=>
 bif (decide (i_7<(list_1.length:Int))) then
  bif ((decide (0≤i_7)) && (decide (i_7<(list_1.length:Int)))) then
  (z0 ⟨out_6r0⟩ (list_1.getD i_7.toNat (⟨0,⟨#[]⟩,⟨#[]⟩,⟨#[]⟩⟩:SAct))).bind fun r0=>
  bif (!r0.2) then
  some (⟨out_6r0⟩,i_7)
  else
  k (.c0 list_1 (w64 (i_7+1)) v_4r0 r0.1.fFiles)
  else none
 else
  some (⟨out_6r0⟩,(list_1.length:Int))
noncomputable def Aq:Nat→Zp→Option (SDisk×Int)
 | 0,_=>none
 | m+1,s=>Iy Ug (Aq m) s
noncomputable def Bq:DAA:=EAA Ug (Aq gas)
theorem ZAP:Tells ctx PP 79 cv41 cv42 (fun a=>Bq a.1 a.2):=
 have b:∀ z0,CutIs ctx PP 79 Tryz.f79 [] [(137,FAI z0)] cv42 GAI (Iy z0):=fun z0 _ s=>by cases s <;> kernel_rfl
 have e:∀ z0,EntryIs ctx PP 79 [] [(137,FAI z0)] cv41 cv42 GAI (fun k a=>EAA z0 k a.1 a.2):=fun z0 _ a=>by kernel_rfl
 fn_ok (hc YAP hl_nil) Tryz.func79 (fun s s' h=>by cases s;cases s';cases h;rfl) (fun _=>rfl) (fun _ _=>rfl) (b Ug) (e Ug) gas
noncomputable def AAQ {γ:Type} (F:DAA):Hd ctx γ:=hdl cv41.dec (fun a=>F a.1 a.2) cv42.enc
abbrev FAA:=ByteArray→SDisk→Int→SRec→Option SDisk
noncomputable def GAA (z0:O9) (z1:DAA) (key_0:ByteArray) (d_1:SDisk) (count_2:Int) (r_3:SRec):Option SDisk:=
 (z0 key_0 count_2 r_3).bind fun r0=>
 (z1 d_1 r0.1).bind fun r1=>
 some r1.1
noncomputable def Dq:FAA:=GAA Ap Bq
theorem BAQ:Tells ctx PP 29 cv43 cv38 (fun a=>Dq a.1 a.2.1 a.2.2.1 a.2.2.2):=fn_ok0 (hc OAP (hc ZAP hl_nil)) Tryz.func29 ((fun z0 z1 a=>by kernel_rfl:∀ z0 z1,EntryIs0 ctx PP 29 [] [(98,PAP z0),(79,AAQ z1)] cv43 cv38 fun a=>GAA z0 z1 a.1 a.2.1 a.2.2.1 a.2.2.2) Ap Bq)
noncomputable def CAQ {γ:Type} (F:FAA):Hd ctx γ:=hdl cv43.dec (fun a=>F a.1 a.2.1 a.2.2.1 a.2.2.2) cv38.enc
abbrev Q5:=ByteArray→ByteArray→Option (SBox×Bool)
noncomputable def HAA (z0:Xd) (z1:H7) (z2:H8) (z3:FAA) (key_0:ByteArray) (word_1:ByteArray):Option (SBox×Bool):=
 bif ((key_0.size:Int) != 32) then
 some (⟨⟨#[]⟩,false,⟨[]⟩,⟨⟨#[]⟩,0,[],0,⟨#[]⟩,0⟩,[],[],0⟩,false)
 else
 bif (decide ((word_1.size:Int) > 20)) then
  some (⟨⟨#[]⟩,false,⟨[]⟩,⟨⟨#[]⟩,0,[],0,⟨#[]⟩,0⟩,[],[],0⟩,false)
 else
  (z0 word_1).bind fun r0=>
  z1.bind fun r1=>
  (z2 r1 ⟨1,r0,0,⟨0,0,false,false,false,false,⟨#[]⟩,0⟩⟩).bind fun r2=>
  (z3 key_0 ⟨[]⟩ 0 ⟨1,r0,0,⟨0,0,false,false,false,false,⟨#[]⟩,0⟩⟩).bind fun r3=>
  some (⟨key_0,true,r3,r2.1,[],[],0⟩,true)
noncomputable def Ql:Q5:=HAA BZ Xm Yn Dq
theorem IAN:Tells ctx PP 8 cv29 cv44 (fun a=>Ql a.1 a.2):=fn_ok0 (hc Qm (hc FAO (hc SAO (hc BAQ hl_nil)))) Tryz.func8 ((fun z0 z1 z2 z3 a=>by kernel_rfl:∀ z0 z1 z2 z3,EntryIs0 ctx PP 8 [] [(26,Gg z0),(28,GAO z1),(27,TAO z2),(29,CAQ z3)] cv29 cv44 fun a=>HAA z0 z1 z2 z3 a.1 a.2) BZ Xm Yn Dq)
noncomputable def MAN {γ:Type} (F:Q5):Hd ctx γ:=hdl cv29.dec (fun a=>F a.1 a.2) cv44.enc
abbrev IAA:=Option (List Int)
noncomputable def HAI  : Option (List Int):=
 some [1779033703,3144134277,1013904242,2773480762,1359893119,2600822924,528734635,1541459225]
noncomputable def Jy:IAA:=HAI
theorem DAQ:Tells ctx PP 103 cv0 cv45 (fun _=>Jy):=fn_ok0 hl_nil Tryz.func103 (fun _=>by kernel_rfl:EntryIs0 ctx PP 103 [] [] cv0 cv45 fun _=>HAI)
noncomputable def EAQ {γ:Type} (F:IAA):Hd ctx γ:=hdl cv0.dec (fun _=>F) cv45.enc
abbrev Fq:=Int→Option ByteArray
noncomputable def JAA (n_0:Int):Option ByteArray:=
 bif ((((decide (0≤n_0)) && (decide (n_0≤n_0))) && (decide (n_0≤9223372036854775807))) && (decide ((n_0.toNat*1)≤140737488355328))) then
 some (ofBytes (List.replicate n_0.toNat (0:Int)))
 else none
noncomputable def Qc:Fq:=JAA
theorem KAA:Tells ctx PP 99 cv15 cv3 (fun a=>Qc a):=fn_ok0 hl_nil Tryz.func99 (fun a=>by kernel_rfl:EntryIs0 ctx PP 99 [] [] cv15 cv3 fun a=>JAA a)
noncomputable def LAA {γ:Type} (F:Fq):Hd ctx γ:=hdl cv15.dec (fun a=>F a) cv3.enc
abbrev Ej:=Int→Option ByteArray
noncomputable def MAA (n_0:Int):Option ByteArray:=
 some (ofBytes [(w8 (Int.fdiv n_0 (2 ^ (Min.min (24:Int).toNat (IntKind.bits IntKind.u32))))),(w8 (Int.fdiv n_0 (2 ^ (Min.min (16:Int).toNat (IntKind.bits IntKind.u32))))),(w8 (Int.fdiv n_0 (2 ^ (Min.min (8:Int).toNat (IntKind.bits IntKind.u32))))),(w8 n_0)])
noncomputable def Nb:Ej:=MAA
theorem NAA:Tells ctx PP 158 cv8 cv3 (fun a=>Nb a):=fn_ok0 hl_nil Tryz.func158 (fun a=>by kernel_rfl:EntryIs0 ctx PP 158 [] [] cv8 cv3 fun a=>MAA a)
noncomputable def Ky {γ:Type} (F:Ej):Hd ctx γ:=hdl cv8.dec (fun a=>F a) cv3.enc
abbrev OAA:=Int→Option ByteArray
noncomputable def PAA (z0:Ej) (n_0:Int):Option ByteArray:=
 (z0 (w32 (Int.fdiv n_0 (2 ^ (Min.min (32:Int).toNat (IntKind.bits IntKind.i64)))))).bind fun r0=>
 (z0 (w32 n_0)).bind fun r1=>
 bif (decide ((r0.size+r1.size)≤9223372036854775807)) then
 some (r0++r1)
 else none
noncomputable def Gq:OAA:=PAA Nb
theorem FAQ:Tells ctx PP 157 cv15 cv3 (fun a=>Gq a):=fn_ok0 (hc NAA hl_nil) Tryz.func157 ((fun z0 a=>by kernel_rfl:∀ z0,EntryIs0 ctx PP 157 [] [(158,Ky z0)] cv15 cv3 fun a=>PAA z0 a) Nb)
noncomputable def GAQ {γ:Type} (F:OAA):Hd ctx γ:=hdl cv15.dec (fun a=>F a) cv3.enc
abbrev QAA:=Int→Option ByteArray
noncomputable def RAA (z0:Fq) (z1:OAA) (count_0:Int):Option ByteArray:=
 (z0 ((w64 (119 - (count_0.tmod 64))).tmod 64)).bind fun r0=>
 bif (decide (((⟨#[128]⟩:ByteArray).size+r0.size)≤9223372036854775807)) then
 (z1 (w64 (8*count_0))).bind fun r1=>
 bif (decide ((((⟨#[128]⟩:ByteArray)++r0).size+r1.size)≤9223372036854775807)) then
 some (((⟨#[128]⟩:ByteArray)++r0)++r1)
 else none
 else none
noncomputable def Hq:QAA:=RAA Qc Gq
theorem HAQ:Tells ctx PP 104 cv15 cv3 (fun a=>Hq a):=fn_ok0 (hc KAA (hc FAQ hl_nil)) Tryz.func104 ((fun z0 z1 a=>by kernel_rfl:∀ z0 z1,EntryIs0 ctx PP 104 [] [(99,LAA z0),(157,GAQ z1)] cv15 cv3 fun a=>RAA z0 z1 a) Qc Gq)
noncomputable def IAQ {γ:Type} (F:QAA):Hd ctx γ:=hdl cv15.dec (fun a=>F a) cv3.enc
abbrev SAA:=Int→Int→Option Int
noncomputable def TAA (x_0:Int) (k_1:Int):Option Int:=
 bif (decide (0≤(wu64 (32 - (wu64 (((BitVec.toNat ((BitVec.ofInt (IntKind.bits IntKind.u64) (wu64 k_1)) &&& (BitVec.ofInt (IntKind.bits IntKind.u64) 31))):Nat):Int)))))) then
 some (w32 (((BitVec.toNat ((BitVec.ofInt (IntKind.bits IntKind.u32) (w32 (x_0*(2 ^ (Min.min (wu64 (((BitVec.toNat ((BitVec.ofInt (IntKind.bits IntKind.u64) (wu64 k_1)) &&& (BitVec.ofInt (IntKind.bits IntKind.u64) 31))):Nat):Int)).toNat (IntKind.bits IntKind.u32)))))) ||| (BitVec.ofInt (IntKind.bits IntKind.u32) (Int.fdiv x_0 (2 ^ (Min.min (wu64 (32 - (wu64 (((BitVec.toNat ((BitVec.ofInt (IntKind.bits IntKind.u64) (wu64 k_1)) &&& (BitVec.ofInt (IntKind.bits IntKind.u64) 31))):Nat):Int)))).toNat (IntKind.bits IntKind.u32))))))):Nat):Int))
 else none
noncomputable def Iq:SAA:=TAA
theorem JAQ:Tells ctx PP 212 cv46 cv8 (fun a=>Iq a.1 a.2):=fn_ok0 hl_nil Tryz.func212 (fun a=>by kernel_rfl:EntryIs0 ctx PP 212 [] [] cv46 cv8 fun a=>TAA a.1 a.2)
noncomputable def KAQ {γ:Type} (F:SAA):Hd ctx γ:=hdl cv46.dec (fun a=>F a.1 a.2) cv8.enc
abbrev Fj:=Int→Int→Option Int
noncomputable def UAA (z0:SAA) (x_0:Int) (n_1:Int):Option Int:=
 (z0 x_0 (w64 (0 - n_1))).bind fun r0=>
 some r0
noncomputable def OY:Fj:=UAA Iq
theorem IAI:Tells ctx PP 195 cv46 cv8 (fun a=>OY a.1 a.2):=fn_ok0 (hc JAQ hl_nil) Tryz.func195 ((fun z0 a=>by kernel_rfl:∀ z0,EntryIs0 ctx PP 195 [] [(212,KAQ z0)] cv46 cv8 fun a=>UAA z0 a.1 a.2) Iq)
noncomputable def Ny {γ:Type} (F:Fj):Hd ctx γ:=hdl cv46.dec (fun a=>F a.1 a.2) cv8.enc
abbrev Oy:=ByteArray→Option (List Int)
inductive Jq where
 | c0 (block_0:ByteArray) (v_11:Int) (v_2r0:(List Int)) (w_3r0:(List Int))
 | c1 (block_0:ByteArray) (i_4:Int) (v_11:Int) (v_14:Int) (v_2r0:(List Int)) (w_3r0:(List Int))
 | c2 (t_6:Int) (v_2r0:(List Int)) (w_3r0:(List Int))
noncomputable def JAI:Jq→LI
 | .c0 block_0 v_11 v_2r0 w_3r0=>(tdo Tryz.f194 232,[(0,[.one (.str block_0)]),(2,[.one (.ptr 128 0)]),(3,[.one (.ptr 192 0)]),(11,[.one (.int .i64 v_11)])],[(128,.ar 138 v_2r0),(192,.ar 138 w_3r0)])
 | .c1 block_0 i_4 v_11 v_14 v_2r0 w_3r0=>(tdo Tryz.f194 59800,[(0,[.one (.str block_0)]),(2,[.one (.ptr 128 0)]),(3,[.one (.ptr 192 0)]),(4,[.one (.int .i64 i_4)]),(11,[.one (.int .i64 v_11)]),(14,[.one (.int .i64 v_14)])],[(128,.ar 138 v_2r0),(192,.ar 138 w_3r0)])
 | .c2 t_6 v_2r0 w_3r0=>(tdo Tryz.f194 976,[(2,[.one (.ptr 128 0)]),(3,[.one (.ptr 192 0)]),(6,[.one (.int .i64 t_6)])],[(128,.ar 138 v_2r0),(192,.ar 138 w_3r0)])
noncomputable def VAA (z0:Fj) (k:Jq→Option (List Int)) (block_0:ByteArray):Option (List Int):=
 k (.c0 block_0 0 (List.replicate 64 (0:Int)) (List.replicate 64 (0:Int)))
noncomputable def Hf (z0:Fj) (k:Jq→Option (List Int)):Jq→Option (List Int)
 | .c0 block_0 v_11 v_2r0 w_3r0=>
 bif (decide (v_11<16)) then
  k (.c1 block_0 v_11 v_11 0 v_2r0 w_3r0)
 else
  k (.c2 16 v_2r0 w_3r0)
 | .c1 block_0 i_4 v_11 v_14 v_2r0 w_3r0=>
 bif (decide (v_14<4)) then
  bif (Nat.beq 64 w_3r0.length) then
  bif ((decide (0≤i_4)) && (decide (i_4<(w_3r0.length:Int)))) then
  bif ((decide (0≤(w64 ((w64 (4*i_4))+v_14)))) && (decide ((w64 ((w64 (4*i_4))+v_14))<(block_0.size:Int)))) then
  bif (Nat.beq 64 w_3r0.length) then
  bif ((decide (0≤i_4)) && (decide (i_4<(w_3r0.length:Int)))) then
  k (.c1 block_0 i_4 v_11 (w64 (v_14+1)) v_2r0 (w_3r0.set i_4.toNat (w32 (((BitVec.toNat ((BitVec.ofInt (IntKind.bits IntKind.u32) (w32 ((w_3r0.getD i_4.toNat 0)*(2 ^ (Min.min (8:Int).toNat (IntKind.bits IntKind.u32)))))) ||| (BitVec.ofInt (IntKind.bits IntKind.u32) (w32 (bt block_0 (w64 ((w64 (4*i_4))+v_14))))))):Nat):Int))))
  else none
  else none
  else none
  else none
  else none
 else
  k (.c0 block_0 (w64 (v_11+1)) v_2r0 w_3r0)
 | .c2 t_6 v_2r0 w_3r0=>
 bif (decide (t_6<64)) then
  bif (Nat.beq 64 w_3r0.length) then
  bif ((decide (0≤(w64 (t_6 - 15)))) && (decide ((w64 (t_6 - 15))<(w_3r0.length:Int)))) then
  bif (Nat.beq 64 w_3r0.length) then
  bif ((decide (0≤(w64 (t_6 - 2)))) && (decide ((w64 (t_6 - 2))<(w_3r0.length:Int)))) then
  (z0 (w_3r0.getD (w64 (t_6 - 15)).toNat 0) 7).bind fun r0=>
  (z0 (w_3r0.getD (w64 (t_6 - 15)).toNat 0) 18).bind fun r1=>
  (z0 (w_3r0.getD (w64 (t_6 - 2)).toNat 0) 17).bind fun r2=>
  (z0 (w_3r0.getD (w64 (t_6 - 2)).toNat 0) 19).bind fun r3=>
  bif (Nat.beq 64 w_3r0.length) then
  bif ((decide (0≤(w64 (t_6 - 7)))) && (decide ((w64 (t_6 - 7))<(w_3r0.length:Int)))) then
  bif (Nat.beq 64 w_3r0.length) then
  bif ((decide (0≤(w64 (t_6 - 16)))) && (decide ((w64 (t_6 - 16))<(w_3r0.length:Int)))) then
  bif (Nat.beq 64 w_3r0.length) then
  bif ((decide (0≤t_6)) && (decide (t_6<(w_3r0.length:Int)))) then
  k (.c2 (w64 (t_6+1)) v_2r0 (w_3r0.set t_6.toNat (w32 ((w32 ((w32 ((w32 (((BitVec.toNat ((BitVec.ofInt (IntKind.bits IntKind.u32) (w32 (((BitVec.toNat ((BitVec.ofInt (IntKind.bits IntKind.u32) r2) ^^^ (BitVec.ofInt (IntKind.bits IntKind.u32) r3))):Nat):Int))) ^^^ (BitVec.ofInt (IntKind.bits IntKind.u32) (Int.fdiv (w_3r0.getD (w64 (t_6 - 2)).toNat 0) (2 ^ (Min.min (10:Int).toNat (IntKind.bits IntKind.u32))))))):Nat):Int))+(w_3r0.getD (w64 (t_6 - 7)).toNat 0)))+(w32 (((BitVec.toNat ((BitVec.ofInt (IntKind.bits IntKind.u32) (w32 (((BitVec.toNat ((BitVec.ofInt (IntKind.bits IntKind.u32) r0) ^^^ (BitVec.ofInt (IntKind.bits IntKind.u32) r1))):Nat):Int))) ^^^ (BitVec.ofInt (IntKind.bits IntKind.u32) (Int.fdiv (w_3r0.getD (w64 (t_6 - 15)).toNat 0) (2 ^ (Min.min (3:Int).toNat (IntKind.bits IntKind.u32))))))):Nat):Int))))+(w_3r0.getD (w64 (t_6 - 16)).toNat 0)))))
  else none
  else none
  else none
  else none
  else none
  else none
  else none
  else none
  else none
  else none
 else
  bif (Nat.beq 64 w_3r0.length) then
  bif ((Nat.beq w_3r0.length v_2r0.length) && (Nat.beq 64 w_3r0.length)) then
  bif ((Nat.beq 64 w_3r0.length) && true) then
  some w_3r0
  else none
  else none
  else none
noncomputable def Oa:Nat→Jq→Option (List Int)
 | 0,_=>none
 | m+1,s=>Hf OY (Oa m) s
noncomputable def Vg:Oy:=VAA OY (Oa gas)
theorem LAQ:Tells ctx PP 194 cv3 cv45 (fun a=>Vg a):=
 have b:∀ z0,CutIs ctx PP 194 Tryz.f194 [] [(195,Ny z0)] cv45 JAI (Hf z0):=fun z0 _ s=>by cases s <;> kernel_rfl
 have e:∀ z0,EntryIs ctx PP 194 [] [(195,Ny z0)] cv3 cv45 JAI (fun k a=>VAA z0 k a):=fun z0 _ a=>by kernel_rfl
 fn_ok (hc IAI hl_nil) Tryz.func194 (fun s s' h=>by cases s <;> cases s' <;> first | (cases h;done) | (cases h;rfl) | exact (rg_ne h (by kernel_rfl)).elim) (fun _=>rfl) (fun _ _=>rfl) (b OY) (e OY) gas
noncomputable def KAI {γ:Type} (F:Oy):Hd ctx γ:=hdl cv3.dec (fun a=>F a) cv45.enc
abbrev Py:=(List Int)→ByteArray→Option (List Int)
inductive Kq where
 | c0 (a_6:Int) (b_7:Int) (c_8:Int) (d_9:Int) (e_10:Int) (f_11:Int) (g_12:Int) (h_13:Int) (v_37:Int) (state_2r0:(List Int)) (v_4r0:(List Int)) (w_5r0:(List Int))
 | c1 (v_109:Int) (state_2r0:(List Int)) (v_4r0:(List Int)) (out_17r0:(List Int))
noncomputable def LAI:Kq→LI
 | .c0 a_6 b_7 c_8 d_9 e_10 f_11 g_12 h_13 v_37 state_2r0 v_4r0 w_5r0=>(tdo Tryz.f156 488,[(2,[.one (.ptr 128 0)]),(4,[.one (.ptr 256 0)]),(5,[.one (.ptr 320 0)]),(6,[.one (.int .u32 a_6)]),(7,[.one (.int .u32 b_7)]),(8,[.one (.int .u32 c_8)]),(9,[.one (.int .u32 d_9)]),(10,[.one (.int .u32 e_10)]),(11,[.one (.int .u32 f_11)]),(12,[.one (.int .u32 g_12)]),(13,[.one (.int .u32 h_13)]),(37,[.one (.int .i64 v_37)])],[(128,.ar 138 state_2r0),(256,.ar 138 v_4r0),(320,.ar 138 w_5r0)])
 | .c1 v_109 state_2r0 v_4r0 out_17r0=>(tdo Tryz.f156 2024,[(2,[.one (.ptr 128 0)]),(4,[.one (.ptr 256 0)]),(17,[.one (.ptr 1088 0)]),(109,[.one (.int .i64 v_109)])],[(128,.ar 138 state_2r0),(256,.ar 138 v_4r0),(1088,.ar 138 out_17r0)])
noncomputable def WAA (z0:Oy) (z1:Fj) (k:Kq→Option (List Int)) (state_0:(List Int)) (block_1:ByteArray):Option (List Int):=
 (z0 block_1).bind fun r0=>
 bif ((Nat.beq r0.length (List.replicate 64 (0:Int)).length) && (Nat.beq 64 r0.length)) then
 bif (Nat.beq 8 state_0.length) then
 bif ((decide ((0:Int)≤(0:Int))) && (decide (0<(state_0.length:Int)))) then
 bif (Nat.beq 8 state_0.length) then
 bif ((decide ((0:Int)≤(1:Int))) && (decide (1<(state_0.length:Int)))) then
 bif (Nat.beq 8 state_0.length) then
 bif ((decide ((0:Int)≤(2:Int))) && (decide (2<(state_0.length:Int)))) then
 bif (Nat.beq 8 state_0.length) then
 bif ((decide ((0:Int)≤(3:Int))) && (decide (3<(state_0.length:Int)))) then
 bif (Nat.beq 8 state_0.length) then
 bif ((decide ((0:Int)≤(4:Int))) && (decide (4<(state_0.length:Int)))) then
 bif (Nat.beq 8 state_0.length) then
 bif ((decide ((0:Int)≤(5:Int))) && (decide (5<(state_0.length:Int)))) then
 bif (Nat.beq 8 state_0.length) then
 bif ((decide ((0:Int)≤(6:Int))) && (decide (6<(state_0.length:Int)))) then
 bif (Nat.beq 8 state_0.length) then
 bif ((decide ((0:Int)≤(7:Int))) && (decide (7<(state_0.length:Int)))) then
 k (.c0 (state_0.getD (0:Int).toNat 0) (state_0.getD (1:Int).toNat 0) (state_0.getD (2:Int).toNat 0) (state_0.getD (3:Int).toNat 0) (state_0.getD (4:Int).toNat 0) (state_0.getD (5:Int).toNat 0) (state_0.getD (6:Int).toNat 0) (state_0.getD (7:Int).toNat 0) 0 state_0 [0,0,0,0,0,0,0,0] r0)
 else none
 else none
 else none
 else none
 else none
 else none
 else none
 else none
 else none
 else none
 else none
 else none
 else none
 else none
 else none
 else none
 else none
noncomputable def Gj (z0:Oy) (z1:Fj) (k:Kq→Option (List Int)):Kq→Option (List Int)
 | .c0 a_6 b_7 c_8 d_9 e_10 f_11 g_12 h_13 v_37 state_2r0 v_4r0 w_5r0=>
 bif (decide (v_37<64)) then
  (z1 e_10 6).bind fun r0=>
  (z1 e_10 11).bind fun r1=>
  (z1 e_10 25).bind fun r2=>
  bif ((decide (0≤v_37)) && (decide (v_37<((64:Nat):Int)))) then
  bif (Nat.blt v_37.toNat 64) then
  bif (Nat.beq 64 w_5r0.length) then
  bif ((decide (0≤v_37)) && (decide (v_37<(w_5r0.length:Int)))) then
  (z1 a_6 2).bind fun r3=>
  (z1 a_6 13).bind fun r4=>
  (z1 a_6 22).bind fun r5=>
  k (.c0 (w32 ((w32 ((w32 ((w32 ((w32 (h_13+(w32 (((BitVec.toNat ((BitVec.ofInt (IntKind.bits IntKind.u32) (w32 (((BitVec.toNat ((BitVec.ofInt (IntKind.bits IntKind.u32) r0) ^^^ (BitVec.ofInt (IntKind.bits IntKind.u32) r1))):Nat):Int))) ^^^ (BitVec.ofInt (IntKind.bits IntKind.u32) r2))):Nat):Int))))+(w32 (((BitVec.toNat ((BitVec.ofInt (IntKind.bits IntKind.u32) (w32 (((BitVec.toNat ((BitVec.ofInt (IntKind.bits IntKind.u32) e_10) &&& (BitVec.ofInt (IntKind.bits IntKind.u32) f_11))):Nat):Int))) ^^^ (BitVec.ofInt (IntKind.bits IntKind.u32) (w32 (((BitVec.toNat ((BitVec.ofInt (IntKind.bits IntKind.u32) (w32 (((BitVec.toNat ((BitVec.ofInt (IntKind.bits IntKind.u32) (ite ((IntKind.signed IntKind.u32)=true) (-(1:Int)) (IntKind.max IntKind.u32))) ^^^ (BitVec.ofInt (IntKind.bits IntKind.u32) e_10))):Nat):Int))) &&& (BitVec.ofInt (IntKind.bits IntKind.u32) g_12))):Nat):Int))))):Nat):Int))))+([(1116352408:Int),(1899447441:Int),(3049323471:Int),(3921009573:Int),(961987163:Int),(1508970993:Int),(2453635748:Int),(2870763221:Int),(3624381080:Int),(310598401:Int),(607225278:Int),(1426881987:Int),(1925078388:Int),(2162078206:Int),(2614888103:Int),(3248222580:Int),(3835390401:Int),(4022224774:Int),(264347078:Int),(604807628:Int),(770255983:Int),(1249150122:Int),(1555081692:Int),(1996064986:Int),(2554220882:Int),(2821834349:Int),(2952996808:Int),(3210313671:Int),(3336571891:Int),(3584528711:Int),(113926993:Int),(338241895:Int),(666307205:Int),(773529912:Int),(1294757372:Int),(1396182291:Int),(1695183700:Int),(1986661051:Int),(2177026350:Int),(2456956037:Int),(2730485921:Int),(2820302411:Int),(3259730800:Int),(3345764771:Int),(3516065817:Int),(3600352804:Int),(4094571909:Int),(275423344:Int),(430227734:Int),(506948616:Int),(659060556:Int),(883997877:Int),(958139571:Int),(1322822218:Int),(1537002063:Int),(1747873779:Int),(1955562222:Int),(2024104815:Int),(2227730452:Int),(2361852424:Int),(2428436474:Int),(2756734187:Int),(3204031479:Int),(3329325298:Int)].getD v_37.toNat 0)))+(w_5r0.getD v_37.toNat 0)))+(w32 ((w32 (((BitVec.toNat ((BitVec.ofInt (IntKind.bits IntKind.u32) (w32 (((BitVec.toNat ((BitVec.ofInt (IntKind.bits IntKind.u32) r3) ^^^ (BitVec.ofInt (IntKind.bits IntKind.u32) r4))):Nat):Int))) ^^^ (BitVec.ofInt (IntKind.bits IntKind.u32) r5))):Nat):Int))+(w32 (((BitVec.toNat ((BitVec.ofInt (IntKind.bits IntKind.u32) (w32 (((BitVec.toNat ((BitVec.ofInt (IntKind.bits IntKind.u32) (w32 (((BitVec.toNat ((BitVec.ofInt (IntKind.bits IntKind.u32) a_6) &&& (BitVec.ofInt (IntKind.bits IntKind.u32) b_7))):Nat):Int))) ^^^ (BitVec.ofInt (IntKind.bits IntKind.u32) (w32 (((BitVec.toNat ((BitVec.ofInt (IntKind.bits IntKind.u32) a_6) &&& (BitVec.ofInt (IntKind.bits IntKind.u32) c_8))):Nat):Int))))):Nat):Int))) ^^^ (BitVec.ofInt (IntKind.bits IntKind.u32) (w32 (((BitVec.toNat ((BitVec.ofInt (IntKind.bits IntKind.u32) b_7) &&& (BitVec.ofInt (IntKind.bits IntKind.u32) c_8))):Nat):Int))))):Nat):Int)))))) a_6 b_7 c_8 (w32 (d_9+(w32 ((w32 ((w32 ((w32 (h_13+(w32 (((BitVec.toNat ((BitVec.ofInt (IntKind.bits IntKind.u32) (w32 (((BitVec.toNat ((BitVec.ofInt (IntKind.bits IntKind.u32) r0) ^^^ (BitVec.ofInt (IntKind.bits IntKind.u32) r1))):Nat):Int))) ^^^ (BitVec.ofInt (IntKind.bits IntKind.u32) r2))):Nat):Int))))+(w32 (((BitVec.toNat ((BitVec.ofInt (IntKind.bits IntKind.u32) (w32 (((BitVec.toNat ((BitVec.ofInt (IntKind.bits IntKind.u32) e_10) &&& (BitVec.ofInt (IntKind.bits IntKind.u32) f_11))):Nat):Int))) ^^^ (BitVec.ofInt (IntKind.bits IntKind.u32) (w32 (((BitVec.toNat ((BitVec.ofInt (IntKind.bits IntKind.u32) (w32 (((BitVec.toNat ((BitVec.ofInt (IntKind.bits IntKind.u32) (ite ((IntKind.signed IntKind.u32)=true) (-(1:Int)) (IntKind.max IntKind.u32))) ^^^ (BitVec.ofInt (IntKind.bits IntKind.u32) e_10))):Nat):Int))) &&& (BitVec.ofInt (IntKind.bits IntKind.u32) g_12))):Nat):Int))))):Nat):Int))))+([(1116352408:Int),(1899447441:Int),(3049323471:Int),(3921009573:Int),(961987163:Int),(1508970993:Int),(2453635748:Int),(2870763221:Int),(3624381080:Int),(310598401:Int),(607225278:Int),(1426881987:Int),(1925078388:Int),(2162078206:Int),(2614888103:Int),(3248222580:Int),(3835390401:Int),(4022224774:Int),(264347078:Int),(604807628:Int),(770255983:Int),(1249150122:Int),(1555081692:Int),(1996064986:Int),(2554220882:Int),(2821834349:Int),(2952996808:Int),(3210313671:Int),(3336571891:Int),(3584528711:Int),(113926993:Int),(338241895:Int),(666307205:Int),(773529912:Int),(1294757372:Int),(1396182291:Int),(1695183700:Int),(1986661051:Int),(2177026350:Int),(2456956037:Int),(2730485921:Int),(2820302411:Int),(3259730800:Int),(3345764771:Int),(3516065817:Int),(3600352804:Int),(4094571909:Int),(275423344:Int),(430227734:Int),(506948616:Int),(659060556:Int),(883997877:Int),(958139571:Int),(1322822218:Int),(1537002063:Int),(1747873779:Int),(1955562222:Int),(2024104815:Int),(2227730452:Int),(2361852424:Int),(2428436474:Int),(2756734187:Int),(3204031479:Int),(3329325298:Int)].getD v_37.toNat 0)))+(w_5r0.getD v_37.toNat 0))))) e_10 f_11 g_12 (w64 (v_37+1)) state_2r0 v_4r0 w_5r0)
  else none
  else none
  else none
  else none
 else
  k (.c1 0 state_2r0 v_4r0 [a_6,b_7,c_8,d_9,e_10,f_11,g_12,h_13])
 | .c1 v_109 state_2r0 v_4r0 out_17r0=>
 bif (decide (v_109<8)) then
  bif (Nat.beq 8 out_17r0.length) then
  bif ((decide (0≤v_109)) && (decide (v_109<(out_17r0.length:Int)))) then
  bif (Nat.beq 8 state_2r0.length) then
  bif ((decide (0≤v_109)) && (decide (v_109<(state_2r0.length:Int)))) then
  bif (Nat.beq 8 out_17r0.length) then
  bif ((decide (0≤v_109)) && (decide (v_109<(out_17r0.length:Int)))) then
  k (.c1 (w64 (v_109+1)) state_2r0 v_4r0 (out_17r0.set v_109.toNat (w32 ((out_17r0.getD v_109.toNat 0)+(state_2r0.getD v_109.toNat 0)))))
  else none
  else none
  else none
  else none
  else none
  else none
 else
  bif (Nat.beq 8 out_17r0.length) then
  bif ((Nat.beq out_17r0.length v_4r0.length) && (Nat.beq 8 out_17r0.length)) then
  bif ((Nat.beq 8 out_17r0.length) && true) then
  some out_17r0
  else none
  else none
  else none
noncomputable def Ob:Nat→Kq→Option (List Int)
 | 0,_=>none
 | m+1,s=>Gj Vg OY (Ob m) s
noncomputable def Xg:Py:=WAA Vg OY (Ob gas)
theorem MAQ:Tells ctx PP 156 cv47 cv45 (fun a=>Xg a.1 a.2):=
 have b:∀ z0 z1,CutIs ctx PP 156 Tryz.f156 [] [(194,KAI z0),(195,Ny z1)] cv45 LAI (Gj z0 z1):=fun z0 z1 _ s=>by cases s <;> kernel_rfl
 have e:∀ z0 z1,EntryIs ctx PP 156 [] [(194,KAI z0),(195,Ny z1)] cv47 cv45 LAI (fun k a=>WAA z0 z1 k a.1 a.2):=fun z0 z1 _ a=>by kernel_rfl
 fn_ok (hc LAQ (hc IAI hl_nil)) Tryz.func156 (fun s s' h=>by cases s <;> cases s' <;> first | (cases h;done) | (cases h;rfl) | exact (rg_ne h (by kernel_rfl)).elim) (fun _=>rfl) (fun _ _=>rfl) (b Vg OY) (e Vg OY) gas
noncomputable def MAI {γ:Type} (F:Py):Hd ctx γ:=hdl cv47.dec (fun a=>F a.1 a.2) cv45.enc
abbrev XAA:=(List Int)→ByteArray→Option ((List Int)×ByteArray)
inductive Nq where
 | c0 (s_1:ByteArray) (state_2r0:(List Int)) (v_4r0:(List Int))
noncomputable def NAI:Nq→LI
 | .c0 s_1 state_2r0 v_4r0=>(tdo Tryz.f102 96,[(1,[.one (.str s_1)]),(2,[.one (.ptr 128 0)]),(4,[.one (.ptr 256 0)])],[(128,.ar 138 state_2r0),(256,.ar 138 v_4r0)])
noncomputable def YAA (z0:Py) (k:Nq→Option ((List Int)×ByteArray)) (state_0:(List Int)) (s_1:ByteArray):Option ((List Int)×ByteArray):=
 k (.c0 s_1 state_0 [0,0,0,0,0,0,0,0])
noncomputable def Qy (z0:Py) (k:Nq→Option ((List Int)×ByteArray)):Nq→Option ((List Int)×ByteArray)
 | .c0 s_1 state_2r0 v_4r0=>
 bif (decide ((s_1.size:Int)≥64)) then
  bif (Nat.beq 8 state_2r0.length) then
  bif ((decide ((0:Int)≤(64:Int))) && (decide (64≤(s_1.size:Int)))) then
  (z0 state_2r0 (s_1.extract 0 (64:Int).toNat)).bind fun r0=>
  bif ((Nat.beq r0.length state_2r0.length) && (Nat.beq 8 r0.length)) then
  bif ((decide ((0:Int)≤(64:Int))) && (decide (64≤(s_1.size:Int)))) then
  k (.c0 (s_1.extract (64:Int).toNat s_1.size) r0 v_4r0)
  else none
  else none
  else none
  else none
 else
  bif (Nat.beq 8 state_2r0.length) then
  bif ((Nat.beq state_2r0.length v_4r0.length) && (Nat.beq 8 state_2r0.length)) then
  bif ((Nat.beq 8 state_2r0.length) && true) then
  some (state_2r0,s_1)
  else none
  else none
  else none
noncomputable def Oq:Nat→Nq→Option ((List Int)×ByteArray)
 | 0,_=>none
 | m+1,s=>Qy Xg (Oq m) s
noncomputable def Pq:XAA:=YAA Xg (Oq gas)
theorem NAQ:Tells ctx PP 102 cv47 cv47 (fun a=>Pq a.1 a.2):=
 have b:∀ z0,CutIs ctx PP 102 Tryz.f102 [] [(156,MAI z0)] cv47 NAI (Qy z0):=fun z0 _ s=>by cases s <;> kernel_rfl
 have e:∀ z0,EntryIs ctx PP 102 [] [(156,MAI z0)] cv47 cv47 NAI (fun k a=>YAA z0 k a.1 a.2):=fun z0 _ a=>by kernel_rfl
 fn_ok (hc MAQ hl_nil) Tryz.func102 (fun s s' h=>by cases s;cases s';cases h;rfl) (fun _=>rfl) (fun _ _=>rfl) (b Xg) (e Xg) gas
noncomputable def OAQ {γ:Type} (F:XAA):Hd ctx γ:=hdl cv47.dec (fun a=>F a.1 a.2) cv47.enc
abbrev ZAA:=(List Int)→Option ByteArray
inductive Qq where
 | c0 (out_3:ByteArray) (v_6:(List Int)) (v_7:Int)
noncomputable def OAI:Qq→LI
 | .c0 out_3 v_6 v_7=>(tdo Tryz.f105 232,[(3,[.one (.str out_3)]),(6,[.arr 138 v_6]),(7,[.one (.int .i64 v_7)])],[])
noncomputable def AAB (z0:Ej) (k:Qq→Option ByteArray) (state_0:(List Int)):Option ByteArray:=
 bif (Nat.beq 8 state_0.length) then
 k (.c0 ⟨#[]⟩ state_0 0)
 else none
noncomputable def Ry (z0:Ej) (k:Qq→Option ByteArray):Qq→Option ByteArray
 | .c0 out_3 v_6 v_7=>
 bif (decide (v_7<8)) then
  bif (Nat.beq 8 v_6.length) then
  bif ((decide (0≤v_7)) && (decide (v_7<(v_6.length:Int)))) then
  (z0 (v_6.getD v_7.toNat 0)).bind fun r0=>
  bif (decide ((out_3.size+r0.size)≤9223372036854775807)) then
  k (.c0 (out_3++r0) v_6 (w64 (v_7+1)))
  else none
  else none
  else none
 else
  some out_3
noncomputable def Rq:Nat→Qq→Option ByteArray
 | 0,_=>none
 | m+1,s=>Ry Nb (Rq m) s
noncomputable def Tq:ZAA:=AAB Nb (Rq gas)
theorem PAQ:Tells ctx PP 105 cv45 cv3 (fun a=>Tq a):=
 have b:∀ z0,CutIs ctx PP 105 Tryz.f105 [] [(158,Ky z0)] cv3 OAI (Ry z0):=fun z0 _ s=>by cases s <;> kernel_rfl
 have e:∀ z0,EntryIs ctx PP 105 [] [(158,Ky z0)] cv45 cv3 OAI (fun k a=>AAB z0 k a):=fun z0 _ a=>by kernel_rfl
 fn_ok (hc NAA hl_nil) Tryz.func105 (fun s s' h=>by cases s;cases s';cases h;rfl) (fun _=>rfl) (fun _ _=>rfl) (b Nb) (e Nb) gas
noncomputable def QAQ {γ:Type} (F:ZAA):Hd ctx γ:=hdl cv45.dec (fun a=>F a) cv3.enc
abbrev Ij:=ByteArray→Option ByteArray
noncomputable def BAB (z0:IAA) (z1:QAA) (z2:XAA) (z3:ZAA) (s_0:ByteArray):Option ByteArray:=
 z0.bind fun r0=>
 (z1 (s_0.size:Int)).bind fun r1=>
 bif (decide ((s_0.size+r1.size)≤9223372036854775807)) then
 (z2 r0 (s_0++r1)).bind fun r2=>
 bif ((Nat.beq r2.1.length 8) && (Nat.beq 8 r2.1.length)) then
 bif (Nat.beq 8 r2.1.length) then
 (z3 r2.1).bind fun r3=>
 some r3
 else none
 else none
 else none
noncomputable def Qa:Ij:=BAB Jy Hq Pq Tq
theorem Uy:Tells ctx PP 32 cv3 cv3 (fun a=>Qa a):=fn_ok0 (hc DAQ (hc HAQ (hc NAQ (hc PAQ hl_nil)))) Tryz.func32 ((fun z0 z1 z2 z3 a=>by kernel_rfl:∀ z0 z1 z2 z3,EntryIs0 ctx PP 32 [] [(103,EAQ z0),(104,IAQ z1),(102,OAQ z2),(105,QAQ z3)] cv3 cv3 fun a=>BAB z0 z1 z2 z3 a) Jy Hq Pq Tq)
noncomputable def Vy {γ:Type} (F:Ij):Hd ctx γ:=hdl cv3.dec (fun a=>F a) cv3.enc
abbrev CAB:=Option SBook
noncomputable def DAB (z0:Ij) (z1:Fq)  : Option SBook:=
 (z0 ⟨#[]⟩).bind fun r0=>
 (z1 32).bind fun r1=>
 some ⟨r0,0,[],0,r1,0⟩
noncomputable def Vq:CAB:=DAB Qa Qc
theorem RAQ:Tells ctx PP 30 cv0 cv14 (fun _=>Vq):=fn_ok0 (hc Uy (hc KAA hl_nil)) Tryz.func30 ((fun z0 z1 _=>by kernel_rfl:∀ z0 z1,EntryIs0 ctx PP 30 [] [(32,Vy z0),(99,LAA z1)] cv0 cv14 fun _=>DAB z0 z1) Qa Qc)
noncomputable def SAQ {γ:Type} (F:CAB):Hd ctx γ:=hdl cv0.dec (fun _=>F) cv14.enc
abbrev Jf:=Int→Option ByteArray
inductive Wq where
 | c0 (n_0:Int) (out_3:(List Int))
noncomputable def PAI:Wq→LI
 | .c0 n_0 out_3=>(tdo Tryz.f186 224,[(0,[.one (.int .i64 n_0)]),(3,[.one (.own 240)])],[(240,.sl 5 out_3)])
noncomputable def QAI (k:Wq→Option ByteArray) (n_0:Int):Option ByteArray:=
 k (.c0 n_0 [])
noncomputable def Wy (k:Wq→Option ByteArray):Wq→Option ByteArray
 | .c0 n_0 out_3=>
 bif (decide (n_0 > 127)) then
  bif (decide (((out_3.length+1)*1)≤140737488355328)) then
  k (.c0 (w64 (n_0.tdiv 128)) (out_3++[(w8 (w64 (128+(n_0.tmod 128))))]))
  else none
 else
  bif (decide (((out_3.length+1)*1)≤140737488355328)) then
  some (ofBytes (out_3++[(w8 n_0)]))
  else none
noncomputable def Xq:Nat→Wq→Option ByteArray
 | 0,_=>none
 | m+1,s=>Wy (Xq m) s
noncomputable def WZ:Jf:=QAI (Xq gas)
theorem Jj:Tells ctx PP 186 cv15 cv3 (fun a=>WZ a):=
 have b:CutIs ctx PP 186 Tryz.f186 [] [] cv3 PAI (Wy):=fun _ s=>by cases s <;> kernel_rfl
 have e:EntryIs ctx PP 186 [] [] cv15 cv3 PAI (fun k a=>QAI k a):=fun _ a=>by kernel_rfl
 fn_ok hl_nil Tryz.func186 (fun s s' h=>by cases s;cases s';cases h;rfl) (fun _=>rfl) (fun _ _=>rfl) b e gas
noncomputable def Lj {γ:Type} (F:Jf):Hd ctx γ:=hdl cv15.dec (fun a=>F a) cv3.enc
abbrev Ua:=Int→Int→Int→Option Bool
noncomputable def RAI (n_0:Int) (low_1:Int) (high_2:Int):Option Bool:=
 bif (decide (n_0≥low_1)) then
 some (decide (n_0≤high_2))
 else
 some false
noncomputable def HY:Ua:=RAI
theorem Rf:Tells ctx PP 60 cv5 cv6 (fun a=>HY a.1 a.2.1 a.2.2):=fn_ok0 hl_nil Tryz.func60 (fun a=>by kernel_rfl:EntryIs0 ctx PP 60 [] [] cv5 cv6 fun a=>RAI a.1 a.2.1 a.2.2)
noncomputable def Qb {γ:Type} (F:Ua):Hd ctx γ:=hdl cv5.dec (fun a=>F a.1 a.2.1 a.2.2) cv6.enc
abbrev Yq:=SThing→Option Bool
noncomputable def EAB (z0:Ua) (x_0:SThing):Option Bool:=
 (z0 x_0.fId 1 1000).bind fun r0=>
 bif (!r0) then
 some false
 else
 (z0 x_0.fNext 0 16).bind fun r1=>
 bif (!r1) then
  some false
 else
  bif (x_0.fKind != 2) then
  bif (x_0.fNext != 0) then
   some false
  else
   bif x_0.fSigns then
   some false
   else
   bif (x_0.fKind != 1) then
    bif x_0.fWraps then
    some false
    else
    bif (x_0.fKind == 1) then
     bif (x_0.fKind == 1) then
     some ((x_0.fValue.size:Int) == 32)
     else
     bif (x_0.fKind == 3) then
      some (decide ((x_0.fValue.size:Int)≤100))
     else
      some false
    else
     bif (x_0.fKind == 2) then
     some ((x_0.fValue.size:Int) == 32)
     else
     bif (x_0.fKind == 3) then
      some (decide ((x_0.fValue.size:Int)≤100))
     else
      some false
   else
    bif (x_0.fKind == 1) then
    bif (x_0.fKind == 1) then
     some ((x_0.fValue.size:Int) == 32)
    else
     bif (x_0.fKind == 3) then
     some (decide ((x_0.fValue.size:Int)≤100))
     else
     some false
    else
    bif (x_0.fKind == 2) then
     some ((x_0.fValue.size:Int) == 32)
    else
     bif (x_0.fKind == 3) then
     some (decide ((x_0.fValue.size:Int)≤100))
     else
     some false
  else
  bif (x_0.fKind != 1) then
   bif x_0.fWraps then
   some false
   else
   bif (x_0.fKind == 1) then
    bif (x_0.fKind == 1) then
    some ((x_0.fValue.size:Int) == 32)
    else
    bif (x_0.fKind == 3) then
     some (decide ((x_0.fValue.size:Int)≤100))
    else
     some false
   else
    bif (x_0.fKind == 2) then
    some ((x_0.fValue.size:Int) == 32)
    else
    bif (x_0.fKind == 3) then
     some (decide ((x_0.fValue.size:Int)≤100))
    else
     some false
  else
   bif (x_0.fKind == 1) then
   bif (x_0.fKind == 1) then
    some ((x_0.fValue.size:Int) == 32)
   else
    bif (x_0.fKind == 3) then
    some (decide ((x_0.fValue.size:Int)≤100))
    else
    some false
   else
   bif (x_0.fKind == 2) then
    some ((x_0.fValue.size:Int) == 32)
   else
    bif (x_0.fKind == 3) then
    some (decide ((x_0.fValue.size:Int)≤100))
    else
    some false
noncomputable def Me:Yq:=EAB HY
theorem SAI:Tells ctx PP 129 cv16 cv6 (fun a=>Me a):=fn_ok0 (hc Rf hl_nil) Tryz.func129 ((fun z0 a=>by kernel_rfl:∀ z0,EntryIs0 ctx PP 129 [] [(60,Qb z0)] cv16 cv6 fun a=>EAB z0 a) HY)
noncomputable def FAB {γ:Type} (F:Yq):Hd ctx γ:=hdl cv16.dec (fun a=>F a) cv6.enc
abbrev Nj:=Int→Option ByteArray
noncomputable def GAB (n_0:Int):Option ByteArray:=
 some (ofBytes [(w8 n_0)])
noncomputable def Ub:Nj:=GAB
theorem IAB:Tells ctx PP 188 cv15 cv3 (fun a=>Ub a):=fn_ok0 hl_nil Tryz.func188 (fun a=>by kernel_rfl:EntryIs0 ctx PP 188 [] [] cv15 cv3 fun a=>GAB a)
noncomputable def Xy {γ:Type} (F:Nj):Hd ctx γ:=hdl cv15.dec (fun a=>F a) cv3.enc
abbrev JAB:=SThing→Option Int
inductive Zq where
 | c0 (n_3:Int) (v_15:Int) (v_16:Int) (v_14:(List Bool))
noncomputable def TAI:Zq→LI
 | .c0 n_3 v_15 v_16 v_14=>(tdo Tryz.f207 232,[(3,[.one (.int .i64 n_3)]),(14,[.one (.own 944)]),(15,[.one (.int .i64 v_15)]),(16,[.one (.int .i64 v_16)])],[(944,.sl 4 v_14)])
noncomputable def KAB (k:Zq→Option Int) (x_0:SThing):Option Int:=
 k (.c0 0 ((4:Nat):Int) 0 [x_0.fHidden,x_0.fFixed,x_0.fSigns,x_0.fWraps])
noncomputable def UAI (k:Zq→Option Int):Zq→Option Int
 | .c0 n_3 v_15 v_16 v_14=>
 bif (decide (v_16<v_15)) then
  bif ((decide (0≤v_16)) && (decide (v_16<(v_14.length:Int)))) then
  bif (v_14.getD v_16.toNat false) then
  bif (decide (0≤v_16)) then
  k (.c0 (w64 (((BitVec.toNat ((BitVec.ofInt (IntKind.bits IntKind.i64) n_3) ||| (BitVec.ofInt (IntKind.bits IntKind.i64) (w64 (1*(2 ^ (Min.min v_16.toNat (IntKind.bits IntKind.i64)))))))):Nat):Int)) v_15 (w64 (v_16+1)) v_14)
  else none
  else
  k (.c0 n_3 v_15 (w64 (v_16+1)) v_14)
  else none
 else
  some n_3
noncomputable def LAB:Nat→Zq→Option Int
 | 0,_=>none
 | m+1,s=>UAI (LAB m) s
noncomputable def Ar:JAB:=KAB (LAB gas)
theorem TAQ:Tells ctx PP 207 cv16 cv15 (fun a=>Ar a):=
 have b:CutIs ctx PP 207 Tryz.f207 [] [] cv15 TAI (UAI):=fun _ s=>by cases s <;> kernel_rfl
 have e:EntryIs ctx PP 207 [] [] cv16 cv15 TAI (fun k a=>KAB k a):=fun _ a=>by kernel_rfl
 fn_ok hl_nil Tryz.func207 (fun s s' h=>by cases s;cases s';cases h;rfl) (fun _=>rfl) (fun _ _=>rfl) b e gas
noncomputable def UAQ {γ:Type} (F:JAB):Hd ctx γ:=hdl cv16.dec (fun a=>F a) cv15.enc
abbrev MAB:=ByteArray→Option ByteArray
noncomputable def NAB (z0:Jf) (s_0:ByteArray):Option ByteArray:=
 (z0 (s_0.size:Int)).bind fun r0=>
 bif (decide ((r0.size+s_0.size)≤9223372036854775807)) then
 some (r0++s_0)
 else none
noncomputable def Hr:MAB:=NAB WZ
theorem VAQ:Tells ctx PP 208 cv3 cv3 (fun a=>Hr a):=fn_ok0 (hc Jj hl_nil) Tryz.func208 ((fun z0 a=>by kernel_rfl:∀ z0,EntryIs0 ctx PP 208 [] [(186,Lj z0)] cv3 cv3 fun a=>NAB z0 a) WZ)
noncomputable def WAQ {γ:Type} (F:MAB):Hd ctx γ:=hdl cv3.dec (fun a=>F a) cv3.enc
abbrev OAB:=SThing→Option (ByteArray×Bool)
noncomputable def PAB (z0:Yq) (z1:Jf) (z2:Nj) (z3:JAB) (z4:MAB) (x_0:SThing):Option (ByteArray×Bool):=
 (z0 x_0).bind fun r0=>
 bif (!r0) then
 some (⟨#[]⟩,false)
 else
 (z1 x_0.fId).bind fun r1=>
 (z2 x_0.fKind).bind fun r2=>
 bif (decide ((r1.size+r2.size)≤9223372036854775807)) then
 (z3 x_0).bind fun r3=>
 (z2 r3).bind fun r4=>
 bif (decide (((r1++r2).size+r4.size)≤9223372036854775807)) then
 (z4 x_0.fValue).bind fun r5=>
 bif (decide ((((r1++r2)++r4).size+r5.size)≤9223372036854775807)) then
 (z1 x_0.fNext).bind fun r6=>
 bif (decide (((((r1++r2)++r4)++r5).size+r6.size)≤9223372036854775807)) then
 some (((((r1++r2)++r4)++r5)++r6),true)
 else none
 else none
 else none
 else none
noncomputable def Ir:OAB:=PAB Me WZ Ub Ar Hr
theorem XAQ:Tells ctx PP 187 cv16 cv18 (fun a=>Ir a):=fn_ok0 (hc SAI (hc Jj (hc IAB (hc TAQ (hc VAQ hl_nil))))) Tryz.func187 ((fun z0 z1 z2 z3 z4 a=>by kernel_rfl:∀ z0 z1 z2 z3 z4,EntryIs0 ctx PP 187 [] [(129,FAB z0),(186,Lj z1),(188,Xy z2),(207,UAQ z3),(208,WAQ z4)] cv16 cv18 fun a=>PAB z0 z1 z2 z3 z4 a) Me WZ Ub Ar Hr)
noncomputable def YAQ {γ:Type} (F:OAB):Hd ctx γ:=hdl cv16.dec (fun a=>F a) cv18.enc
abbrev Yy:=SRec→Option (ByteArray×Bool)
noncomputable def QAB (z0:Jf) (z1:Ua) (z2:OAB) (z3:Nj) (r_0:SRec):Option (ByteArray×Bool):=
 bif (r_0.fKind == 1) then
 bif (!((r_0.fText.size:Int) == 32)) then
  some (⟨#[]⟩,false)
 else
  bif (!((r_0.fKind == r_0.fKind) && (((ByteArray.toList r_0.fText) == (ByteArray.toList r_0.fText)) && ((r_0.fNum == 0) && (((r_0.fThing.fId == 0) && ((r_0.fThing.fKind == 0) && ((r_0.fThing.fHidden == false) && ((r_0.fThing.fFixed == false) && ((r_0.fThing.fSigns == false) && ((r_0.fThing.fWraps == false) && (((ByteArray.toList r_0.fThing.fValue) == (ByteArray.toList ⟨#[]⟩)) && ((r_0.fThing.fNext == 0) && true)))))))) && true))))) then
  some (⟨#[]⟩,false)
  else
  (z3 r_0.fKind).bind fun r0=>
  bif (decide ((r0.size+r_0.fText.size)≤9223372036854775807)) then
  some ((r0++r_0.fText),true)
  else none
 else
 bif (r_0.fKind == 2) then
  (z0 r_0.fNum).bind fun r1=>
  (z1 r_0.fNum 0 3).bind fun r2=>
  bif (!r2) then
  some (⟨#[]⟩,false)
  else
  bif (!((r_0.fKind == r_0.fKind) && (((ByteArray.toList r_0.fText) == (ByteArray.toList ⟨#[]⟩)) && ((r_0.fNum == r_0.fNum) && (((r_0.fThing.fId == 0) && ((r_0.fThing.fKind == 0) && ((r_0.fThing.fHidden == false) && ((r_0.fThing.fFixed == false) && ((r_0.fThing.fSigns == false) && ((r_0.fThing.fWraps == false) && (((ByteArray.toList r_0.fThing.fValue) == (ByteArray.toList ⟨#[]⟩)) && ((r_0.fThing.fNext == 0) && true)))))))) && true))))) then
   some (⟨#[]⟩,false)
  else
   (z3 r_0.fKind).bind fun r3=>
   bif (decide ((r3.size+r1.size)≤9223372036854775807)) then
   some ((r3++r1),true)
   else none
 else
  bif (r_0.fKind == 3) then
  (z2 r_0.fThing).bind fun r4=>
  bif (!r4.2) then
   some (⟨#[]⟩,false)
  else
   bif (!((r_0.fKind == r_0.fKind) && (((ByteArray.toList r_0.fText) == (ByteArray.toList ⟨#[]⟩)) && ((r_0.fNum == 0) && (((r_0.fThing.fId == r_0.fThing.fId) && ((r_0.fThing.fKind == r_0.fThing.fKind) && ((r_0.fThing.fHidden == r_0.fThing.fHidden) && ((r_0.fThing.fFixed == r_0.fThing.fFixed) && ((r_0.fThing.fSigns == r_0.fThing.fSigns) && ((r_0.fThing.fWraps == r_0.fThing.fWraps) && (((ByteArray.toList r_0.fThing.fValue) == (ByteArray.toList r_0.fThing.fValue)) && ((r_0.fThing.fNext == r_0.fThing.fNext) && true)))))))) && true))))) then
   some (⟨#[]⟩,false)
   else
   (z3 r_0.fKind).bind fun r5=>
   bif (decide ((r5.size+r4.1.size)≤9223372036854775807)) then
   some ((r5++r4.1),true)
   else none
  else
  bif (r_0.fKind == 4) then
   (z0 r_0.fNum).bind fun r6=>
   (z1 r_0.fNum 1 1000).bind fun r7=>
   bif (!r7) then
   some (⟨#[]⟩,false)
   else
   bif (!((r_0.fKind == r_0.fKind) && (((ByteArray.toList r_0.fText) == (ByteArray.toList ⟨#[]⟩)) && ((r_0.fNum == r_0.fNum) && (((r_0.fThing.fId == 0) && ((r_0.fThing.fKind == 0) && ((r_0.fThing.fHidden == false) && ((r_0.fThing.fFixed == false) && ((r_0.fThing.fSigns == false) && ((r_0.fThing.fWraps == false) && (((ByteArray.toList r_0.fThing.fValue) == (ByteArray.toList ⟨#[]⟩)) && ((r_0.fThing.fNext == 0) && true)))))))) && true))))) then
    some (⟨#[]⟩,false)
   else
    (z3 r_0.fKind).bind fun r8=>
    bif (decide ((r8.size+r6.size)≤9223372036854775807)) then
    some ((r8++r6),true)
    else none
  else
   some (⟨#[]⟩,false)
noncomputable def Yg:Yy:=QAB WZ HY Ir Ub
theorem VAI:Tells ctx PP 151 cv19 cv18 (fun a=>Yg a):=fn_ok0 (hc Jj (hc Rf (hc XAQ (hc IAB hl_nil)))) Tryz.func151 ((fun z0 z1 z2 z3 a=>by kernel_rfl:∀ z0 z1 z2 z3,EntryIs0 ctx PP 151 [] [(186,Lj z0),(60,Qb z1),(187,YAQ z2),(188,Xy z3)] cv19 cv18 fun a=>QAB z0 z1 z2 z3 a) WZ HY Ir Ub)
noncomputable def WAI {γ:Type} (F:Yy):Hd ctx γ:=hdl cv19.dec (fun a=>F a) cv18.enc
abbrev Zy:=Int→Option (ByteArray×Bool)
noncomputable def RAB (z0:Ua) (z1:Jf) (n_0:Int):Option (ByteArray×Bool):=
 (z0 n_0 0 1000000000).bind fun r0=>
 bif (!r0) then
 some (⟨#[]⟩,false)
 else
 (z1 n_0).bind fun r1=>
 some (r1,true)
noncomputable def Zg:Zy:=RAB HY WZ
theorem ZAQ:Tells ctx PP 209 cv15 cv18 (fun a=>Zg a):=fn_ok0 (hc Rf (hc Jj hl_nil)) Tryz.func209 ((fun z0 z1 a=>by kernel_rfl:∀ z0 z1,EntryIs0 ctx PP 209 [] [(60,Qb z0),(186,Lj z1)] cv15 cv18 fun a=>RAB z0 z1 a) HY WZ)
noncomputable def XAI {γ:Type} (F:Zy):Hd ctx γ:=hdl cv15.dec (fun a=>F a) cv18.enc
abbrev SAB:=ByteArray→Int→Option ByteArray
inductive Jr where
 | c0 (x_1:Int) (v_10:Int) (v_11:Int) (out_5:(List Int))
noncomputable def YAI:Jr→LI
 | .c0 x_1 v_10 v_11 out_5=>(tdo Tryz.f217 232,[(1,[.one (.int .u8 x_1)]),(5,[.one (.own 368)]),(10,[.one (.int .i64 v_10)]),(11,[.one (.int .i64 v_11)])],[(368,.sl 5 out_5)])
noncomputable def TAB (k:Jr→Option ByteArray) (s_0:ByteArray) (x_1:Int):Option ByteArray:=
 bif (decide (s_0.size≤9223372036854775807)) then
 k (.c0 x_1 ((bytesOf s_0).length:Int) 0 (bytesOf s_0))
 else none
noncomputable def Az (k:Jr→Option ByteArray):Jr→Option ByteArray
 | .c0 x_1 v_10 v_11 out_5=>
 bif (decide (v_11<v_10)) then
  bif ((decide (0≤v_11)) && (decide (v_11<(out_5.length:Int)))) then
  bif ((decide (0≤v_11)) && (decide (v_11<(out_5.length:Int)))) then
  k (.c0 x_1 v_10 (w64 (v_11+1)) (out_5.set v_11.toNat (w8 (((BitVec.toNat ((BitVec.ofInt (IntKind.bits IntKind.u8) (out_5.getD v_11.toNat 0)) ^^^ (BitVec.ofInt (IntKind.bits IntKind.u8) x_1))):Nat):Int))))
  else none
  else none
 else
  some (ofBytes out_5)
noncomputable def Kr:Nat→Jr→Option ByteArray
 | 0,_=>none
 | m+1,s=>Az (Kr m) s
noncomputable def Ah:SAB:=TAB (Kr gas)
theorem AAR:Tells ctx PP 217 cv28 cv3 (fun a=>Ah a.1 a.2):=
 have b:CutIs ctx PP 217 Tryz.f217 [] [] cv3 YAI (Az):=fun _ s=>by cases s <;> kernel_rfl
 have e:EntryIs ctx PP 217 [] [] cv28 cv3 YAI (fun k a=>TAB k a.1 a.2):=fun _ a=>by kernel_rfl
 fn_ok hl_nil Tryz.func217 (fun s s' h=>by cases s;cases s';cases h;rfl) (fun _=>rfl) (fun _ _=>rfl) b e gas
noncomputable def CAR {γ:Type} (F:SAB):Hd ctx γ:=hdl cv28.dec (fun a=>F a.1 a.2) cv3.enc
abbrev Lr:=ByteArray→ByteArray→Option ByteArray
noncomputable def UAB (z0:Ij) (z1:Fq) (z2:SAB) (key_0:ByteArray) (s_1:ByteArray):Option ByteArray:=
 bif (decide ((key_0.size:Int) > 64)) then
 (z0 key_0).bind fun r0=>
 (z1 (w64 (64 - (r0.size:Int)))).bind fun r1=>
 bif (decide ((r0.size+r1.size)≤9223372036854775807)) then
 (z2 (r0++r1) 92).bind fun r2=>
 (z2 (r0++r1) 54).bind fun r3=>
 bif (decide ((r3.size+s_1.size)≤9223372036854775807)) then
 (z0 (r3++s_1)).bind fun r4=>
 bif (decide ((r2.size+r4.size)≤9223372036854775807)) then
 (z0 (r2++r4)).bind fun r5=>
 some r5
 else none
 else none
 else none
 else
 (z1 (w64 (64 - (key_0.size:Int)))).bind fun r6=>
 bif (decide ((key_0.size+r6.size)≤9223372036854775807)) then
 (z2 (key_0++r6) 92).bind fun r7=>
 (z2 (key_0++r6) 54).bind fun r8=>
 bif (decide ((r8.size+s_1.size)≤9223372036854775807)) then
 (z0 (r8++s_1)).bind fun r9=>
 bif (decide ((r7.size+r9.size)≤9223372036854775807)) then
 (z0 (r7++r9)).bind fun r10=>
 some r10
 else none
 else none
 else none
noncomputable def Oe:Lr:=UAB Qa Qc Ah
theorem ZAI:Tells ctx PP 210 cv29 cv3 (fun a=>Oe a.1 a.2):=fn_ok0 (hc Uy (hc KAA (hc AAR hl_nil))) Tryz.func210 ((fun z0 z1 z2 a=>by kernel_rfl:∀ z0 z1 z2,EntryIs0 ctx PP 210 [] [(32,Vy z0),(99,LAA z1),(217,CAR z2)] cv29 cv3 fun a=>UAB z0 z1 z2 a.1 a.2) Qa Qc Ah)
noncomputable def VAB {γ:Type} (F:Lr):Hd ctx γ:=hdl cv29.dec (fun a=>F a.1 a.2) cv3.enc
abbrev WAB:=ByteArray→Int→Int→Option (ByteArray×Bool)
inductive Nr where
 | c0 (key_0:ByteArray) (n_2:Int) (v_8:ByteArray) (out_10:ByteArray) (i_11:Int)
noncomputable def AAJ:Nr→LI
 | .c0 key_0 n_2 v_8 out_10 i_11=>(tdo Tryz.f189 2000,[(0,[.one (.str key_0)]),(2,[.one (.int .i64 n_2)]),(8,[.one (.str v_8)]),(10,[.one (.str out_10)]),(11,[.one (.int .i64 i_11)])],[])
noncomputable def XAB (z0:Zy) (z1:Ua) (z2:Nj) (z3:Lr) (k:Nr→Option (ByteArray×Bool)) (key_0:ByteArray) (num_1:Int) (n_2:Int):Option (ByteArray×Bool):=
 (z0 num_1).bind fun r0=>
 bif (!r0.2) then
 some (⟨#[]⟩,false)
 else
 (z1 n_2 0 8000).bind fun r1=>
 bif (!r1) then
  some (⟨#[]⟩,false)
 else
  k (.c0 key_0 n_2 r0.1 ⟨#[]⟩ 0)
noncomputable def Bz (z0:Zy) (z1:Ua) (z2:Nj) (z3:Lr) (k:Nr→Option (ByteArray×Bool)):Nr→Option (ByteArray×Bool)
 | .c0 key_0 n_2 v_8 out_10 i_11=>
 bif (decide ((out_10.size:Int)<n_2)) then
  bif (decide (((⟨#[109]⟩:ByteArray).size+v_8.size)≤9223372036854775807)) then
  (z2 i_11).bind fun r0=>
  bif (decide ((((⟨#[109]⟩:ByteArray)++v_8).size+r0.size)≤9223372036854775807)) then
  (z3 key_0 (((⟨#[109]⟩:ByteArray)++v_8)++r0)).bind fun r1=>
  bif (decide ((out_10.size+r1.size)≤9223372036854775807)) then
  k (.c0 key_0 n_2 v_8 (out_10++r1) (w64 (i_11+1)))
  else none
  else none
  else none
 else
  bif ((decide (0≤n_2)) && (decide (n_2≤(out_10.size:Int)))) then
  some ((out_10.extract 0 n_2.toNat),true)
  else none
noncomputable def Qr:Nat→Nr→Option (ByteArray×Bool)
 | 0,_=>none
 | m+1,s=>Bz Zg HY Ub Oe (Qr m) s
noncomputable def Sr:WAB:=XAB Zg HY Ub Oe (Qr gas)
theorem DAR:Tells ctx PP 189 cv30 cv18 (fun a=>Sr a.1 a.2.1 a.2.2):=
 have b:∀ z0 z1 z2 z3,CutIs ctx PP 189 Tryz.f189 [] [(209,XAI z0),(60,Qb z1),(188,Xy z2),(210,VAB z3)] cv18 AAJ (Bz z0 z1 z2 z3):=fun z0 z1 z2 z3 _ s=>by cases s <;> kernel_rfl
 have e:∀ z0 z1 z2 z3,EntryIs ctx PP 189 [] [(209,XAI z0),(60,Qb z1),(188,Xy z2),(210,VAB z3)] cv30 cv18 AAJ (fun k a=>XAB z0 z1 z2 z3 k a.1 a.2.1 a.2.2):=fun z0 z1 z2 z3 _ a=>by kernel_rfl
 fn_ok (hc ZAQ (hc Rf (hc IAB (hc ZAI hl_nil)))) Tryz.func189 (fun s s' h=>by cases s;cases s';cases h;rfl) (fun _=>rfl) (fun _ _=>rfl) (b Zg HY Ub Oe) (e Zg HY Ub Oe) gas
noncomputable def EAR {γ:Type} (F:WAB):Hd ctx γ:=hdl cv30.dec (fun a=>F a.1 a.2.1 a.2.2) cv18.enc
abbrev YAB:=ByteArray→ByteArray→Option ByteArray
inductive Ur where
 | c0 (b_1:ByteArray) (v_10:Int) (v_11:Int) (out_5:(List Int))
noncomputable def BAJ:Ur→LI
 | .c0 b_1 v_10 v_11 out_5=>(tdo Tryz.f190 232,[(1,[.one (.str b_1)]),(5,[.one (.own 368)]),(10,[.one (.int .i64 v_10)]),(11,[.one (.int .i64 v_11)])],[(368,.sl 5 out_5)])
noncomputable def ZAB (k:Ur→Option ByteArray) (a_0:ByteArray) (b_1:ByteArray):Option ByteArray:=
 bif (decide (a_0.size≤9223372036854775807)) then
 k (.c0 b_1 ((bytesOf a_0).length:Int) 0 (bytesOf a_0))
 else none
noncomputable def Dz (k:Ur→Option ByteArray):Ur→Option ByteArray
 | .c0 b_1 v_10 v_11 out_5=>
 bif (decide (v_11<v_10)) then
  bif ((decide (0≤v_11)) && (decide (v_11<(out_5.length:Int)))) then
  bif ((decide (0≤v_11)) && (decide (v_11<(b_1.size:Int)))) then
  bif ((decide (0≤v_11)) && (decide (v_11<(out_5.length:Int)))) then
  k (.c0 b_1 v_10 (w64 (v_11+1)) (out_5.set v_11.toNat (w8 (((BitVec.toNat ((BitVec.ofInt (IntKind.bits IntKind.u8) (out_5.getD v_11.toNat 0)) ^^^ (BitVec.ofInt (IntKind.bits IntKind.u8) (bt b_1 v_11)))):Nat):Int))))
  else none
  else none
  else none
 else
  some (ofBytes out_5)
noncomputable def Vr:Nat→Ur→Option ByteArray
 | 0,_=>none
 | m+1,s=>Dz (Vr m) s
noncomputable def Xr:YAB:=ZAB (Vr gas)
theorem GAR:Tells ctx PP 190 cv29 cv3 (fun a=>Xr a.1 a.2):=
 have b:CutIs ctx PP 190 Tryz.f190 [] [] cv3 BAJ (Dz):=fun _ s=>by cases s <;> kernel_rfl
 have e:EntryIs ctx PP 190 [] [] cv29 cv3 BAJ (fun k a=>ZAB k a.1 a.2):=fun _ a=>by kernel_rfl
 fn_ok hl_nil Tryz.func190 (fun s s' h=>by cases s;cases s';cases h;rfl) (fun _=>rfl) (fun _ _=>rfl) b e gas
noncomputable def HAR {γ:Type} (F:YAB):Hd ctx γ:=hdl cv29.dec (fun a=>F a.1 a.2) cv3.enc
abbrev AAC:=ByteArray→Int→ByteArray→Option ByteArray
noncomputable def BAC (z0:Jf) (z1:Lr) (key_0:ByteArray) (num_1:Int) (s_2:ByteArray):Option ByteArray:=
 (z0 num_1).bind fun r0=>
 bif (decide (((⟨#[116]⟩:ByteArray).size+r0.size)≤9223372036854775807)) then
 bif (decide ((((⟨#[116]⟩:ByteArray)++r0).size+s_2.size)≤9223372036854775807)) then
 (z1 key_0 (((⟨#[116]⟩:ByteArray)++r0)++s_2)).bind fun r1=>
 bif ((decide ((0:Int)≤(16:Int))) && (decide (16≤(r1.size:Int)))) then
 some (r1.extract 0 (16:Int).toNat)
 else none
 else none
 else none
noncomputable def Yr:AAC:=BAC WZ Oe
theorem IAR:Tells ctx PP 191 cv31 cv3 (fun a=>Yr a.1 a.2.1 a.2.2):=fn_ok0 (hc Jj (hc ZAI hl_nil)) Tryz.func191 ((fun z0 z1 a=>by kernel_rfl:∀ z0 z1,EntryIs0 ctx PP 191 [] [(186,Lj z0),(210,VAB z1)] cv31 cv3 fun a=>BAC z0 z1 a.1 a.2.1 a.2.2) WZ Oe)
noncomputable def JAR {γ:Type} (F:AAC):Hd ctx γ:=hdl cv31.dec (fun a=>F a.1 a.2.1 a.2.2) cv3.enc
abbrev CAC:=ByteArray→Int→ByteArray→Option (ByteArray×Bool)
noncomputable def DAC (z0:WAB) (z1:YAB) (z2:AAC) (key_0:ByteArray) (num_1:Int) (s_2:ByteArray):Option (ByteArray×Bool):=
 (z0 key_0 num_1 (s_2.size:Int)).bind fun r0=>
 bif (!r0.2) then
 some (⟨#[]⟩,false)
 else
 (z1 s_2 r0.1).bind fun r1=>
 (z2 key_0 num_1 r1).bind fun r2=>
 bif (decide ((r1.size+r2.size)≤9223372036854775807)) then
 some ((r1++r2),true)
 else none
noncomputable def Zr:CAC:=DAC Sr Xr Yr
theorem KAR:Tells ctx PP 152 cv31 cv18 (fun a=>Zr a.1 a.2.1 a.2.2):=fn_ok0 (hc DAR (hc GAR (hc IAR hl_nil))) Tryz.func152 ((fun z0 z1 z2 a=>by kernel_rfl:∀ z0 z1 z2,EntryIs0 ctx PP 152 [] [(189,EAR z0),(190,HAR z1),(191,JAR z2)] cv31 cv18 fun a=>DAC z0 z1 z2 a.1 a.2.1 a.2.2) Sr Xr Yr)
noncomputable def LAR {γ:Type} (F:CAC):Hd ctx γ:=hdl cv31.dec (fun a=>F a.1 a.2.1 a.2.2) cv18.enc
abbrev EAC:=Int→ByteArray→Option Int
inductive Es where
 | c0 (sum_0:Int) (text_1:ByteArray) (i_5:Int)
 | c1 (sum_0:Int) (text_1:ByteArray) (i_5:Int) (v_19:Int)
noncomputable def CAJ:Es→LI
 | .c0 sum_0 text_1 i_5=>(tdo Tryz.f211 208,[(0,[.one (.int .u32 sum_0)]),(1,[.one (.str text_1)]),(5,[.one (.int .i64 i_5)])],[])
 | .c1 sum_0 text_1 i_5 v_19=>(tdo Tryz.f211 13464,[(0,[.one (.int .u32 sum_0)]),(1,[.one (.str text_1)]),(5,[.one (.int .i64 i_5)]),(19,[.one (.int .i64 v_19)])],[])
noncomputable def FAC (k:Es→Option Int) (sum_0:Int) (text_1:ByteArray):Option Int:=
 k (.c0 sum_0 text_1 0)
noncomputable def Oj (k:Es→Option Int):Es→Option Int
 | .c0 sum_0 text_1 i_5=>
 bif (decide (i_5<(text_1.size:Int))) then
  bif ((decide (0≤i_5)) && (decide (i_5<(text_1.size:Int)))) then
  k (.c1 (w32 (((BitVec.toNat ((BitVec.ofInt (IntKind.bits IntKind.u32) sum_0) ^^^ (BitVec.ofInt (IntKind.bits IntKind.u32) (w32 (bt text_1 i_5))))):Nat):Int)) text_1 i_5 0)
  else none
 else
  some sum_0
 | .c1 sum_0 text_1 i_5 v_19=>
 bif (decide (v_19<8)) then
  bif ((w32 (((BitVec.toNat ((BitVec.ofInt (IntKind.bits IntKind.u32) sum_0) &&& (BitVec.ofInt (IntKind.bits IntKind.u32) 1))):Nat):Int)) == 1) then
  k (.c1 (w32 (((BitVec.toNat ((BitVec.ofInt (IntKind.bits IntKind.u32) (Int.fdiv sum_0 (2 ^ (Min.min (1:Int).toNat (IntKind.bits IntKind.u32))))) ^^^ (BitVec.ofInt (IntKind.bits IntKind.u32) 3558460437))):Nat):Int)) text_1 i_5 (w64 (v_19+1)))
  else
  k (.c1 (Int.fdiv sum_0 (2 ^ (Min.min (1:Int).toNat (IntKind.bits IntKind.u32)))) text_1 i_5 (w64 (v_19+1)))
 else
  k (.c0 sum_0 text_1 (w64 (i_5+1)))
noncomputable def Qe:Nat→Es→Option Int
 | 0,_=>none
 | m+1,s=>Oj (Qe m) s
noncomputable def Gs:EAC:=FAC (Qe gas)
theorem MAR:Tells ctx PP 211 cv32 cv8 (fun a=>Gs a.1 a.2):=
 have b:CutIs ctx PP 211 Tryz.f211 [] [] cv8 CAJ (Oj):=fun _ s=>by cases s <;> kernel_rfl
 have e:EntryIs ctx PP 211 [] [] cv32 cv8 CAJ (fun k a=>FAC k a.1 a.2):=fun _ a=>by kernel_rfl
 fn_ok hl_nil Tryz.func211 (fun s s' h=>by cases s <;> cases s' <;> first | (cases h;done) | (cases h;rfl) | exact (rg_ne h (by kernel_rfl)).elim) (fun _=>rfl) (fun _ _=>rfl) b e gas
noncomputable def NAR {γ:Type} (F:EAC):Hd ctx γ:=hdl cv32.dec (fun a=>F a.1 a.2) cv8.enc
abbrev GAC:=ByteArray→Option Int
noncomputable def HAC (z0:EAC) (text_0:ByteArray):Option Int:=
 (z0 4294967295 text_0).bind fun r0=>
 some r0
noncomputable def Js:GAC:=HAC Gs
theorem OAR:Tells ctx PP 192 cv3 cv8 (fun a=>Js a):=fn_ok0 (hc MAR hl_nil) Tryz.func192 ((fun z0 a=>by kernel_rfl:∀ z0,EntryIs0 ctx PP 192 [] [(211,NAR z0)] cv3 cv8 fun a=>HAC z0 a) Gs)
noncomputable def PAR {γ:Type} (F:GAC):Hd ctx γ:=hdl cv3.dec (fun a=>F a) cv8.enc
abbrev IAC:=ByteArray→Option (ByteArray×Bool)
noncomputable def JAC (z0:Ua) (z1:Jf) (z2:GAC) (z3:Ej) (text_0:ByteArray):Option (ByteArray×Bool):=
 (z0 (text_0.size:Int) 1 9000).bind fun r0=>
 bif (!r0) then
 some (⟨#[]⟩,false)
 else
 (z1 (text_0.size:Int)).bind fun r1=>
 (z2 text_0).bind fun r2=>
 (z3 r2).bind fun r3=>
 bif (decide ((r1.size+r3.size)≤9223372036854775807)) then
 bif (decide (((r1++r3).size+text_0.size)≤9223372036854775807)) then
 some (((r1++r3)++text_0),true)
 else none
 else none
noncomputable def Ls:IAC:=JAC HY WZ Js Nb
theorem QAR:Tells ctx PP 153 cv3 cv18 (fun a=>Ls a):=fn_ok0 (hc Rf (hc Jj (hc OAR (hc NAA hl_nil)))) Tryz.func153 ((fun z0 z1 z2 z3 a=>by kernel_rfl:∀ z0 z1 z2 z3,EntryIs0 ctx PP 153 [] [(60,Qb z0),(186,Lj z1),(192,PAR z2),(158,Ky z3)] cv3 cv18 fun a=>JAC z0 z1 z2 z3 a) HY WZ Js Nb)
noncomputable def RAR {γ:Type} (F:IAC):Hd ctx γ:=hdl cv3.dec (fun a=>F a) cv18.enc
abbrev KAC:=ByteArray→Int→SRec→Option ((List SAct)×Bool)
noncomputable def LAC (z0:Yy) (z1:Ua) (z2:CAC) (z3:IAC) (key_0:ByteArray) (count_1:Int) (r_2:SRec):Option ((List SAct)×Bool):=
 (z0 r_2).bind fun r0=>
 bif (!r0.2) then
 some ([],false)
 else
 (z1 count_1 0 10000).bind fun r1=>
 bif (!r1) then
  some ([],false)
 else
  (z2 key_0 (w64 (count_1+1)) r0.1).bind fun r2=>
  (z3 r2.1).bind fun r3=>
  bif (!r2.2) then
  some ([],false)
  else
  bif (!r3.2) then
   some ([],false)
  else
   some ([⟨1,⟨#[98,111,111,107]⟩,r3.1,⟨#[]⟩⟩,⟨2,⟨#[98,111,111,107]⟩,⟨#[]⟩,⟨#[]⟩⟩],true)
noncomputable def Ns:KAC:=LAC Yg HY Zr Ls
theorem SAR:Tells ctx PP 100 cv33 cv34 (fun a=>Ns a.1 a.2.1 a.2.2):=fn_ok0 (hc VAI (hc Rf (hc KAR (hc QAR hl_nil)))) Tryz.func100 ((fun z0 z1 z2 z3 a=>by kernel_rfl:∀ z0 z1 z2 z3,EntryIs0 ctx PP 100 [] [(151,WAI z0),(60,Qb z1),(152,LAR z2),(153,RAR z3)] cv33 cv34 fun a=>LAC z0 z1 z2 z3 a.1 a.2.1 a.2.2) Yg HY Zr Ls)
noncomputable def TAR {γ:Type} (F:KAC):Hd ctx γ:=hdl cv33.dec (fun a=>F a.1 a.2.1 a.2.2) cv34.enc
abbrev Qs:=SDisk→Option SDisk
noncomputable def NAC (d_0:SDisk):Option SDisk:=
 bif (decide ((d_0.fFiles.length*40)≤140737488355328)) then
 some d_0
 else none
noncomputable def Ue:Qs:=NAC
theorem DAJ:Tells ctx PP 138 cv35 cv38 (fun a=>Ue a):=fn_ok0 hl_nil Tryz.func138 (fun a=>by kernel_rfl:EntryIs0 ctx PP 138 [] [] cv35 cv38 fun a=>NAC a)
noncomputable def OAC {γ:Type} (F:Qs):Hd ctx γ:=hdl cv35.dec (fun a=>F a) cv38.enc
abbrev Ez:=SDisk→ByteArray→Option Int
inductive Us where
 | c0 (name_1:ByteArray) (v_8:(List SFile)) (v_9:Int) (v_10:Int)
noncomputable def EAJ:Us→LI
 | .c0 name_1 v_8 v_9 v_10=>(tdo Tryz.f128 104,[(1,[.one (.str name_1)]),(8,[.one (.rsl 155 v_8)]),(9,[.one (.int .i64 v_9)]),(10,[.one (.int .i64 v_10)])],[])
noncomputable def PAC (k:Us→Option Int) (d_0:SDisk) (name_1:ByteArray):Option Int:=
 k (.c0 name_1 d_0.fFiles (d_0.fFiles.length:Int) 0)
noncomputable def Fz (k:Us→Option Int):Us→Option Int
 | .c0 name_1 v_8 v_9 v_10=>
 bif (decide (v_10<v_9)) then
  bif ((decide (0≤v_10)) && (decide (v_10<(v_8.length:Int)))) then
  bif ((ByteArray.toList (v_8.getD v_10.toNat (⟨⟨#[]⟩,⟨#[]⟩,0⟩:SFile)).fName) == (ByteArray.toList name_1)) then
  some v_10
  else
  k (.c0 name_1 v_8 v_9 (w64 (v_10+1)))
  else none
 else
  some (-(1:Int))
noncomputable def Vs:Nat→Us→Option Int
 | 0,_=>none
 | m+1,s=>Fz (Vs m) s
noncomputable def Bh:Ez:=PAC (Vs gas)
theorem FAJ:Tells ctx PP 128 cv36 cv15 (fun a=>Bh a.1 a.2):=
 have b:CutIs ctx PP 128 Tryz.f128 [] [] cv15 EAJ (Fz):=fun _ s=>by cases s <;> kernel_rfl
 have e:EntryIs ctx PP 128 [] [] cv36 cv15 EAJ (fun k a=>PAC k a.1 a.2):=fun _ a=>by kernel_rfl
 fn_ok hl_nil Tryz.func128 (fun s s' h=>by cases s;cases s';cases h;rfl) (fun _=>rfl) (fun _ _=>rfl) b e gas
noncomputable def GAJ {γ:Type} (F:Ez):Hd ctx γ:=hdl cv36.dec (fun a=>F a.1 a.2) cv15.enc
abbrev QAC:=SDisk→Option Bool
inductive Ws where
 | c0 (v_6:(List SFile)) (v_7:Int) (v_8:Int) (d_1:SDisk)
noncomputable def HAJ:Ws→LI
 | .c0 v_6 v_7 v_8 d_1=>(tdo Tryz.f59 104,[(1,[.one (.ptr 64 0)]),(6,[.one (.rsl 155 v_6)]),(7,[.one (.int .i64 v_7)]),(8,[.one (.int .i64 v_8)])],[(64,.var [.rsl 155 d_1.fFiles])])
noncomputable def RAC (z0:Ua) (k:Ws→Option Bool) (d_0:SDisk):Option Bool:=
 k (.c0 d_0.fFiles (d_0.fFiles.length:Int) 0 d_0)
noncomputable def Gz (z0:Ua) (k:Ws→Option Bool):Ws→Option Bool
 | .c0 v_6 v_7 v_8 d_1=>
 bif (decide (v_8<v_7)) then
  bif ((decide (0≤v_8)) && (decide (v_8<(v_6.length:Int)))) then
  (z0 ((v_6.getD v_8.toNat (⟨⟨#[]⟩,⟨#[]⟩,0⟩:SFile)).fName.size:Int) 1 8).bind fun r0=>
  bif (!r0) then
  some false
  else
  bif (decide (((v_6.getD v_8.toNat (⟨⟨#[]⟩,⟨#[]⟩,0⟩:SFile)).fText.size:Int) > 20000)) then
   some false
  else
   (z0 (v_6.getD v_8.toNat (⟨⟨#[]⟩,⟨#[]⟩,0⟩:SFile)).fKept 0 ((v_6.getD v_8.toNat (⟨⟨#[]⟩,⟨#[]⟩,0⟩:SFile)).fText.size:Int)).bind fun r1=>
   bif (!r1) then
   some false
   else
   bif (decide (v_8 > 0)) then
    bif ((decide (0≤(w64 (v_8 - 1)))) && (decide ((w64 (v_8 - 1))<(d_1.fFiles.length:Int)))) then
    bif (!(Op.bytesLess (ByteArray.toList (d_1.fFiles.getD (w64 (v_8 - 1)).toNat (⟨⟨#[]⟩,⟨#[]⟩,0⟩:SFile)).fName) (ByteArray.toList (v_6.getD v_8.toNat (⟨⟨#[]⟩,⟨#[]⟩,0⟩:SFile)).fName))) then
    some false
    else
    k (.c0 v_6 v_7 (w64 (v_8+1)) d_1)
    else none
   else
    k (.c0 v_6 v_7 (w64 (v_8+1)) d_1)
  else none
 else
  some (decide ((d_1.fFiles.length:Int)≤30))
noncomputable def Dt:Nat→Ws→Option Bool
 | 0,_=>none
 | m+1,s=>Gz HY (Dt m) s
noncomputable def Et:QAC:=RAC HY (Dt gas)
theorem UAR:Tells ctx PP 59 cv35 cv6 (fun a=>Et a):=
 have b:∀ z0,CutIs ctx PP 59 Tryz.f59 [] [(60,Qb z0)] cv6 HAJ (Gz z0):=fun z0 _ s=>by cases s <;> kernel_rfl
 have e:∀ z0,EntryIs ctx PP 59 [] [(60,Qb z0)] cv35 cv6 HAJ (fun k a=>RAC z0 k a):=fun z0 _ a=>by kernel_rfl
 fn_ok (hc Rf hl_nil) Tryz.func59 (fun s s' h=>by cases s;cases s';(repeat cases ‹SDisk›);cases h;rfl) (fun _=>rfl) (fun _ _=>rfl) (b HY) (e HY) gas
noncomputable def WAR {γ:Type} (F:QAC):Hd ctx γ:=hdl cv35.dec (fun a=>F a) cv6.enc
abbrev Gt:=SDisk→ByteArray→Option SDisk
noncomputable def SAC (z0:Ez) (d_0:SDisk) (name_1:ByteArray):Option SDisk:=
 (z0 d_0 name_1).bind fun r0=>
 bif (decide (r0≥0)) then
 bif ((decide (0≤r0)) && (decide (r0≤(d_0.fFiles.length:Int)))) then
 bif (decide ((((d_0.fFiles.drop 0).take (r0.toNat - 0)).length*40)≤140737488355328)) then
 bif ((decide (0≤(w64 (r0+1)))) && (decide ((w64 (r0+1))≤(d_0.fFiles.length:Int)))) then
 bif (decide (((((d_0.fFiles.drop 0).take (r0.toNat - 0)).length+((d_0.fFiles.drop (w64 (r0+1)).toNat).take (d_0.fFiles.length - (w64 (r0+1)).toNat)).length)*40)≤140737488355328)) then
 some ⟨(((d_0.fFiles.drop 0).take (r0.toNat - 0))++((d_0.fFiles.drop (w64 (r0+1)).toNat).take (d_0.fFiles.length - (w64 (r0+1)).toNat)))⟩
 else none
 else none
 else none
 else none
 else
 some d_0
noncomputable def Ve:Gt:=SAC Bh
theorem IAJ:Tells ctx PP 175 cv48 cv38 (fun a=>Ve a.1 a.2):=fn_ok0 (hc FAJ hl_nil) Tryz.func175 ((fun z0 a=>by kernel_rfl:∀ z0,EntryIs0 ctx PP 175 [0] [(128,GAJ z0)] cv48 cv38 fun a=>SAC z0 a.1 a.2) Bh)
noncomputable def UAC {γ:Type} (F:Gt):Hd ctx γ:=hdl cv48.dec (fun a=>F a.1 a.2) cv38.enc
abbrev VAC:=SDisk→SFile→Option SDisk
inductive Ht where
 | c0 (k_4:Int) (f_3:SFile) (d_0r0:(List SFile))
noncomputable def JAJ:Ht→LI
 | .c0 k_4 f_3 d_0r0=>(tdo Tryz.f174 480,[(0,[.one (.ptr 0 0)]),(3,[.one (.ptr 192 0)]),(4,[.one (.int .i64 k_4)])],[(0,.var [.own 1000000]),(192,.var [.str f_3.fName,.str f_3.fText,.int .i64 f_3.fKept]),(1000000,.sl 155 d_0r0)])
noncomputable def WAC (z0:Gt) (k:Ht→Option SDisk) (d_0:SDisk) (f_1:SFile):Option SDisk:=
 (z0 d_0 f_1.fName).bind fun r0=>
 k (.c0 0 f_1 r0.fFiles)
noncomputable def Hz (z0:Gt) (k:Ht→Option SDisk):Ht→Option SDisk
 | .c0 k_4 f_3 d_0r0=>
 bif (decide (k_4<(d_0r0.length:Int))) then
  bif ((decide (0≤k_4)) && (decide (k_4<(d_0r0.length:Int)))) then
  bif (Op.bytesLess (ByteArray.toList (d_0r0.getD k_4.toNat (⟨⟨#[]⟩,⟨#[]⟩,0⟩:SFile)).fName) (ByteArray.toList f_3.fName)) then
  k (.c0 (w64 (k_4+1)) f_3 d_0r0)
  else
  bif ((decide (0≤k_4)) && (decide (k_4≤(d_0r0.length:Int)))) then
  bif (decide ((((d_0r0.drop 0).take (k_4.toNat - 0)).length*40)≤140737488355328)) then
  bif (decide (((((d_0r0.drop 0).take (k_4.toNat - 0)).length+1)*40)≤140737488355328)) then
  bif ((decide (0≤k_4)) && (decide (k_4≤(d_0r0.length:Int)))) then
  bif (decide ((((((d_0r0.drop 0).take (k_4.toNat - 0))++[f_3]).length+((d_0r0.drop k_4.toNat).take (d_0r0.length - k_4.toNat)).length)*40)≤140737488355328)) then
  some ⟨((((d_0r0.drop 0).take (k_4.toNat - 0))++[f_3])++((d_0r0.drop k_4.toNat).take (d_0r0.length - k_4.toNat)))⟩
  else none
  else none
  else none
  else none
  else none
  else none
 else
  bif ((decide (0≤k_4)) && (decide (k_4≤(d_0r0.length:Int)))) then
  bif (decide ((((d_0r0.drop 0).take (k_4.toNat - 0)).length*40)≤140737488355328)) then
  bif (decide (((((d_0r0.drop 0).take (k_4.toNat - 0)).length+1)*40)≤140737488355328)) then
  bif ((decide (0≤k_4)) && (decide (k_4≤(d_0r0.length:Int)))) then
  bif (decide ((((((d_0r0.drop 0).take (k_4.toNat - 0))++[f_3]).length+((d_0r0.drop k_4.toNat).take (d_0r0.length - k_4.toNat)).length)*40)≤140737488355328)) then
  some ⟨((((d_0r0.drop 0).take (k_4.toNat - 0))++[f_3])++((d_0r0.drop k_4.toNat).take (d_0r0.length - k_4.toNat)))⟩
  else none
  else none
  else none
  else none
  else none
noncomputable def Jt:Nat→Ht→Option SDisk
 | 0,_=>none
 | m+1,s=>Hz Ve (Jt m) s
noncomputable def Kt:VAC:=WAC Ve (Jt gas)
theorem XAR:Tells ctx PP 174 cv49 cv38 (fun a=>Kt a.1 a.2):=
 have b:∀ z0,CutIs ctx PP 174 Tryz.f174 [0] [(175,UAC z0)] cv38 JAJ (Hz z0):=fun z0 _ s=>by cases s <;> kernel_rfl
 have e:∀ z0,EntryIs ctx PP 174 [0] [(175,UAC z0)] cv49 cv38 JAJ (fun k a=>WAC z0 k a.1 a.2):=fun z0 _ a=>by kernel_rfl
 fn_ok (hc IAJ hl_nil) Tryz.func174 (fun s s' h=>by cases s;cases s';(repeat cases ‹SFile›);cases h;rfl) (fun _=>rfl) (fun _ _=>rfl) (b Ve) (e Ve) gas
noncomputable def YAR {γ:Type} (F:VAC):Hd ctx γ:=hdl cv49.dec (fun a=>F a.1 a.2) cv38.enc
abbrev Iz:=SDisk→SAct→Option (SDisk×Bool)
noncomputable def XAC (z0:Ez) (z1:QAC) (z2:Qs) (z3:VAC) (z4:Gt) (d_0:SDisk) (a_1:SAct):Option (SDisk×Bool):=
 (z0 d_0 a_1.fName).bind fun r0=>
 (z1 d_0).bind fun r1=>
 bif (!r1) then
 some (⟨[]⟩,false)
 else
 bif (a_1.fKind != 1) then
  bif (decide (r0<0)) then
  some (⟨[]⟩,false)
  else
  bif (!((ByteArray.toList a_1.fText) == (ByteArray.toList ⟨#[]⟩))) then
   some (⟨[]⟩,false)
  else
   bif (a_1.fKind != 3) then
   bif (!((ByteArray.toList a_1.fTo) == (ByteArray.toList ⟨#[]⟩))) then
    some (⟨[]⟩,false)
   else
    (z2 d_0).bind fun r2=>
    bif (decide (r0≥0)) then
    bif ((decide (0≤r0)) && (decide (r0<(d_0.fFiles.length:Int)))) then
    bif (a_1.fKind == 1) then
     bif (decide (((d_0.fFiles.getD r0.toNat (⟨⟨#[]⟩,⟨#[]⟩,0⟩:SFile)).fText.size+a_1.fText.size)≤9223372036854775807)) then
     (z3 r2 ⟨(d_0.fFiles.getD r0.toNat (⟨⟨#[]⟩,⟨#[]⟩,0⟩:SFile)).fName,((d_0.fFiles.getD r0.toNat (⟨⟨#[]⟩,⟨#[]⟩,0⟩:SFile)).fText++a_1.fText),(d_0.fFiles.getD r0.toNat (⟨⟨#[]⟩,⟨#[]⟩,0⟩:SFile)).fKept⟩).bind fun r3=>
     (z1 r3).bind fun r4=>
     bif (!r4) then
     some (⟨[]⟩,false)
     else
     some (r3,true)
     else none
    else
     bif (a_1.fKind == 2) then
     (z3 r2 ⟨(d_0.fFiles.getD r0.toNat (⟨⟨#[]⟩,⟨#[]⟩,0⟩:SFile)).fName,(d_0.fFiles.getD r0.toNat (⟨⟨#[]⟩,⟨#[]⟩,0⟩:SFile)).fText,((d_0.fFiles.getD r0.toNat (⟨⟨#[]⟩,⟨#[]⟩,0⟩:SFile)).fText.size:Int)⟩).bind fun r5=>
     (z1 r5).bind fun r6=>
     bif (!r6) then
      some (⟨[]⟩,false)
     else
      some (r5,true)
     else
     bif (a_1.fKind == 3) then
      bif ((d_0.fFiles.getD r0.toNat (⟨⟨#[]⟩,⟨#[]⟩,0⟩:SFile)).fKept != ((d_0.fFiles.getD r0.toNat (⟨⟨#[]⟩,⟨#[]⟩,0⟩:SFile)).fText.size:Int)) then
      some (⟨[]⟩,false)
      else
      bif ((ByteArray.toList a_1.fTo) == (ByteArray.toList a_1.fName)) then
       some (⟨[]⟩,false)
      else
       (z4 r2 a_1.fName).bind fun r7=>
       (z3 r7 ⟨a_1.fTo,(d_0.fFiles.getD r0.toNat (⟨⟨#[]⟩,⟨#[]⟩,0⟩:SFile)).fText,(d_0.fFiles.getD r0.toNat (⟨⟨#[]⟩,⟨#[]⟩,0⟩:SFile)).fKept⟩).bind fun r8=>
       (z1 r8).bind fun r9=>
       bif (!r9) then
       some (⟨[]⟩,false)
       else
       some (r8,true)
     else
      bif (a_1.fKind == 4) then
      (z4 r2 a_1.fName).bind fun r10=>
      (z1 r10).bind fun r11=>
      bif (!r11) then
       some (⟨[]⟩,false)
      else
       some (r10,true)
      else
      some (⟨[]⟩,false)
    else none
    else
    bif (a_1.fKind == 1) then
     bif (decide (((⟨#[]⟩:ByteArray).size+a_1.fText.size)≤9223372036854775807)) then
     (z3 r2 ⟨a_1.fName,((⟨#[]⟩:ByteArray)++a_1.fText),0⟩).bind fun r12=>
     (z1 r12).bind fun r13=>
     bif (!r13) then
     some (⟨[]⟩,false)
     else
     some (r12,true)
     else none
    else
     bif (a_1.fKind == 2) then
     (z3 r2 ⟨a_1.fName,⟨#[]⟩,((⟨#[]⟩:ByteArray).size:Int)⟩).bind fun r14=>
     (z1 r14).bind fun r15=>
     bif (!r15) then
      some (⟨[]⟩,false)
     else
      some (r14,true)
     else
     bif (a_1.fKind == 3) then
      bif ((ByteArray.toList a_1.fTo) == (ByteArray.toList a_1.fName)) then
      some (⟨[]⟩,false)
      else
      (z4 r2 a_1.fName).bind fun r16=>
      (z3 r16 ⟨a_1.fTo,⟨#[]⟩,0⟩).bind fun r17=>
      (z1 r17).bind fun r18=>
      bif (!r18) then
       some (⟨[]⟩,false)
      else
       some (r17,true)
     else
      bif (a_1.fKind == 4) then
      (z4 r2 a_1.fName).bind fun r19=>
      (z1 r19).bind fun r20=>
      bif (!r20) then
       some (⟨[]⟩,false)
      else
       some (r19,true)
      else
      some (⟨[]⟩,false)
   else
   (z2 d_0).bind fun r21=>
   bif (decide (r0≥0)) then
    bif ((decide (0≤r0)) && (decide (r0<(d_0.fFiles.length:Int)))) then
    bif (a_1.fKind == 1) then
    bif (decide (((d_0.fFiles.getD r0.toNat (⟨⟨#[]⟩,⟨#[]⟩,0⟩:SFile)).fText.size+a_1.fText.size)≤9223372036854775807)) then
    (z3 r21 ⟨(d_0.fFiles.getD r0.toNat (⟨⟨#[]⟩,⟨#[]⟩,0⟩:SFile)).fName,((d_0.fFiles.getD r0.toNat (⟨⟨#[]⟩,⟨#[]⟩,0⟩:SFile)).fText++a_1.fText),(d_0.fFiles.getD r0.toNat (⟨⟨#[]⟩,⟨#[]⟩,0⟩:SFile)).fKept⟩).bind fun r22=>
    (z1 r22).bind fun r23=>
    bif (!r23) then
     some (⟨[]⟩,false)
    else
     some (r22,true)
    else none
    else
    bif (a_1.fKind == 2) then
     (z3 r21 ⟨(d_0.fFiles.getD r0.toNat (⟨⟨#[]⟩,⟨#[]⟩,0⟩:SFile)).fName,(d_0.fFiles.getD r0.toNat (⟨⟨#[]⟩,⟨#[]⟩,0⟩:SFile)).fText,((d_0.fFiles.getD r0.toNat (⟨⟨#[]⟩,⟨#[]⟩,0⟩:SFile)).fText.size:Int)⟩).bind fun r24=>
     (z1 r24).bind fun r25=>
     bif (!r25) then
     some (⟨[]⟩,false)
     else
     some (r24,true)
    else
     bif (a_1.fKind == 3) then
     bif ((d_0.fFiles.getD r0.toNat (⟨⟨#[]⟩,⟨#[]⟩,0⟩:SFile)).fKept != ((d_0.fFiles.getD r0.toNat (⟨⟨#[]⟩,⟨#[]⟩,0⟩:SFile)).fText.size:Int)) then
      some (⟨[]⟩,false)
     else
      bif ((ByteArray.toList a_1.fTo) == (ByteArray.toList a_1.fName)) then
      some (⟨[]⟩,false)
      else
      (z4 r21 a_1.fName).bind fun r26=>
      (z3 r26 ⟨a_1.fTo,(d_0.fFiles.getD r0.toNat (⟨⟨#[]⟩,⟨#[]⟩,0⟩:SFile)).fText,(d_0.fFiles.getD r0.toNat (⟨⟨#[]⟩,⟨#[]⟩,0⟩:SFile)).fKept⟩).bind fun r27=>
      (z1 r27).bind fun r28=>
      bif (!r28) then
       some (⟨[]⟩,false)
      else
       some (r27,true)
     else
     bif (a_1.fKind == 4) then
      (z4 r21 a_1.fName).bind fun r29=>
      (z1 r29).bind fun r30=>
      bif (!r30) then
      some (⟨[]⟩,false)
      else
      some (r29,true)
     else
      some (⟨[]⟩,false)
    else none
   else
    bif (a_1.fKind == 1) then
    bif (decide (((⟨#[]⟩:ByteArray).size+a_1.fText.size)≤9223372036854775807)) then
    (z3 r21 ⟨a_1.fName,((⟨#[]⟩:ByteArray)++a_1.fText),0⟩).bind fun r31=>
    (z1 r31).bind fun r32=>
    bif (!r32) then
     some (⟨[]⟩,false)
    else
     some (r31,true)
    else none
    else
    bif (a_1.fKind == 2) then
     (z3 r21 ⟨a_1.fName,⟨#[]⟩,((⟨#[]⟩:ByteArray).size:Int)⟩).bind fun r33=>
     (z1 r33).bind fun r34=>
     bif (!r34) then
     some (⟨[]⟩,false)
     else
     some (r33,true)
    else
     bif (a_1.fKind == 3) then
     bif ((ByteArray.toList a_1.fTo) == (ByteArray.toList a_1.fName)) then
      some (⟨[]⟩,false)
     else
      (z4 r21 a_1.fName).bind fun r35=>
      (z3 r35 ⟨a_1.fTo,⟨#[]⟩,0⟩).bind fun r36=>
      (z1 r36).bind fun r37=>
      bif (!r37) then
      some (⟨[]⟩,false)
      else
      some (r36,true)
     else
     bif (a_1.fKind == 4) then
      (z4 r21 a_1.fName).bind fun r38=>
      (z1 r38).bind fun r39=>
      bif (!r39) then
      some (⟨[]⟩,false)
      else
      some (r38,true)
     else
      some (⟨[]⟩,false)
 else
  bif (a_1.fKind != 3) then
  bif (!((ByteArray.toList a_1.fTo) == (ByteArray.toList ⟨#[]⟩))) then
   some (⟨[]⟩,false)
  else
   (z2 d_0).bind fun r40=>
   bif (decide (r0≥0)) then
   bif ((decide (0≤r0)) && (decide (r0<(d_0.fFiles.length:Int)))) then
   bif (a_1.fKind == 1) then
    bif (decide (((d_0.fFiles.getD r0.toNat (⟨⟨#[]⟩,⟨#[]⟩,0⟩:SFile)).fText.size+a_1.fText.size)≤9223372036854775807)) then
    (z3 r40 ⟨(d_0.fFiles.getD r0.toNat (⟨⟨#[]⟩,⟨#[]⟩,0⟩:SFile)).fName,((d_0.fFiles.getD r0.toNat (⟨⟨#[]⟩,⟨#[]⟩,0⟩:SFile)).fText++a_1.fText),(d_0.fFiles.getD r0.toNat (⟨⟨#[]⟩,⟨#[]⟩,0⟩:SFile)).fKept⟩).bind fun r41=>
    (z1 r41).bind fun r42=>
    bif (!r42) then
    some (⟨[]⟩,false)
    else
    some (r41,true)
    else none
   else
    bif (a_1.fKind == 2) then
    (z3 r40 ⟨(d_0.fFiles.getD r0.toNat (⟨⟨#[]⟩,⟨#[]⟩,0⟩:SFile)).fName,(d_0.fFiles.getD r0.toNat (⟨⟨#[]⟩,⟨#[]⟩,0⟩:SFile)).fText,((d_0.fFiles.getD r0.toNat (⟨⟨#[]⟩,⟨#[]⟩,0⟩:SFile)).fText.size:Int)⟩).bind fun r43=>
    (z1 r43).bind fun r44=>
    bif (!r44) then
     some (⟨[]⟩,false)
    else
     some (r43,true)
    else
    bif (a_1.fKind == 3) then
     bif ((d_0.fFiles.getD r0.toNat (⟨⟨#[]⟩,⟨#[]⟩,0⟩:SFile)).fKept != ((d_0.fFiles.getD r0.toNat (⟨⟨#[]⟩,⟨#[]⟩,0⟩:SFile)).fText.size:Int)) then
     some (⟨[]⟩,false)
     else
     bif ((ByteArray.toList a_1.fTo) == (ByteArray.toList a_1.fName)) then
      some (⟨[]⟩,false)
     else
      (z4 r40 a_1.fName).bind fun r45=>
      (z3 r45 ⟨a_1.fTo,(d_0.fFiles.getD r0.toNat (⟨⟨#[]⟩,⟨#[]⟩,0⟩:SFile)).fText,(d_0.fFiles.getD r0.toNat (⟨⟨#[]⟩,⟨#[]⟩,0⟩:SFile)).fKept⟩).bind fun r46=>
      (z1 r46).bind fun r47=>
      bif (!r47) then
      some (⟨[]⟩,false)
      else
      some (r46,true)
    else
     bif (a_1.fKind == 4) then
     (z4 r40 a_1.fName).bind fun r48=>
     (z1 r48).bind fun r49=>
     bif (!r49) then
      some (⟨[]⟩,false)
     else
      some (r48,true)
     else
     some (⟨[]⟩,false)
   else none
   else
   bif (a_1.fKind == 1) then
    bif (decide (((⟨#[]⟩:ByteArray).size+a_1.fText.size)≤9223372036854775807)) then
    (z3 r40 ⟨a_1.fName,((⟨#[]⟩:ByteArray)++a_1.fText),0⟩).bind fun r50=>
    (z1 r50).bind fun r51=>
    bif (!r51) then
    some (⟨[]⟩,false)
    else
    some (r50,true)
    else none
   else
    bif (a_1.fKind == 2) then
    (z3 r40 ⟨a_1.fName,⟨#[]⟩,((⟨#[]⟩:ByteArray).size:Int)⟩).bind fun r52=>
    (z1 r52).bind fun r53=>
    bif (!r53) then
     some (⟨[]⟩,false)
    else
     some (r52,true)
    else
    bif (a_1.fKind == 3) then
     bif ((ByteArray.toList a_1.fTo) == (ByteArray.toList a_1.fName)) then
     some (⟨[]⟩,false)
     else
     (z4 r40 a_1.fName).bind fun r54=>
     (z3 r54 ⟨a_1.fTo,⟨#[]⟩,0⟩).bind fun r55=>
     (z1 r55).bind fun r56=>
     bif (!r56) then
      some (⟨[]⟩,false)
     else
      some (r55,true)
    else
     bif (a_1.fKind == 4) then
     (z4 r40 a_1.fName).bind fun r57=>
     (z1 r57).bind fun r58=>
     bif (!r58) then
      some (⟨[]⟩,false)
     else
      some (r57,true)
     else
     some (⟨[]⟩,false)
  else
  (z2 d_0).bind fun r59=>
  bif (decide (r0≥0)) then
   bif ((decide (0≤r0)) && (decide (r0<(d_0.fFiles.length:Int)))) then
   bif (a_1.fKind == 1) then
   bif (decide (((d_0.fFiles.getD r0.toNat (⟨⟨#[]⟩,⟨#[]⟩,0⟩:SFile)).fText.size+a_1.fText.size)≤9223372036854775807)) then
   (z3 r59 ⟨(d_0.fFiles.getD r0.toNat (⟨⟨#[]⟩,⟨#[]⟩,0⟩:SFile)).fName,((d_0.fFiles.getD r0.toNat (⟨⟨#[]⟩,⟨#[]⟩,0⟩:SFile)).fText++a_1.fText),(d_0.fFiles.getD r0.toNat (⟨⟨#[]⟩,⟨#[]⟩,0⟩:SFile)).fKept⟩).bind fun r60=>
   (z1 r60).bind fun r61=>
   bif (!r61) then
    some (⟨[]⟩,false)
   else
    some (r60,true)
   else none
   else
   bif (a_1.fKind == 2) then
    (z3 r59 ⟨(d_0.fFiles.getD r0.toNat (⟨⟨#[]⟩,⟨#[]⟩,0⟩:SFile)).fName,(d_0.fFiles.getD r0.toNat (⟨⟨#[]⟩,⟨#[]⟩,0⟩:SFile)).fText,((d_0.fFiles.getD r0.toNat (⟨⟨#[]⟩,⟨#[]⟩,0⟩:SFile)).fText.size:Int)⟩).bind fun r62=>
    (z1 r62).bind fun r63=>
    bif (!r63) then
    some (⟨[]⟩,false)
    else
    some (r62,true)
   else
    bif (a_1.fKind == 3) then
    bif ((d_0.fFiles.getD r0.toNat (⟨⟨#[]⟩,⟨#[]⟩,0⟩:SFile)).fKept != ((d_0.fFiles.getD r0.toNat (⟨⟨#[]⟩,⟨#[]⟩,0⟩:SFile)).fText.size:Int)) then
     some (⟨[]⟩,false)
    else
     bif ((ByteArray.toList a_1.fTo) == (ByteArray.toList a_1.fName)) then
     some (⟨[]⟩,false)
     else
     (z4 r59 a_1.fName).bind fun r64=>
     (z3 r64 ⟨a_1.fTo,(d_0.fFiles.getD r0.toNat (⟨⟨#[]⟩,⟨#[]⟩,0⟩:SFile)).fText,(d_0.fFiles.getD r0.toNat (⟨⟨#[]⟩,⟨#[]⟩,0⟩:SFile)).fKept⟩).bind fun r65=>
     (z1 r65).bind fun r66=>
     bif (!r66) then
      some (⟨[]⟩,false)
     else
      some (r65,true)
    else
    bif (a_1.fKind == 4) then
     (z4 r59 a_1.fName).bind fun r67=>
     (z1 r67).bind fun r68=>
     bif (!r68) then
     some (⟨[]⟩,false)
     else
     some (r67,true)
    else
     some (⟨[]⟩,false)
   else none
  else
   bif (a_1.fKind == 1) then
   bif (decide (((⟨#[]⟩:ByteArray).size+a_1.fText.size)≤9223372036854775807)) then
   (z3 r59 ⟨a_1.fName,((⟨#[]⟩:ByteArray)++a_1.fText),0⟩).bind fun r69=>
   (z1 r69).bind fun r70=>
   bif (!r70) then
    some (⟨[]⟩,false)
   else
    some (r69,true)
   else none
   else
   bif (a_1.fKind == 2) then
    (z3 r59 ⟨a_1.fName,⟨#[]⟩,((⟨#[]⟩:ByteArray).size:Int)⟩).bind fun r71=>
    (z1 r71).bind fun r72=>
    bif (!r72) then
    some (⟨[]⟩,false)
    else
    some (r71,true)
   else
    bif (a_1.fKind == 3) then
    bif ((ByteArray.toList a_1.fTo) == (ByteArray.toList a_1.fName)) then
     some (⟨[]⟩,false)
    else
     (z4 r59 a_1.fName).bind fun r73=>
     (z3 r73 ⟨a_1.fTo,⟨#[]⟩,0⟩).bind fun r74=>
     (z1 r74).bind fun r75=>
     bif (!r75) then
     some (⟨[]⟩,false)
     else
     some (r74,true)
    else
    bif (a_1.fKind == 4) then
     (z4 r59 a_1.fName).bind fun r76=>
     (z1 r76).bind fun r77=>
     bif (!r77) then
     some (⟨[]⟩,false)
     else
     some (r76,true)
    else
     some (⟨[]⟩,false)
noncomputable def Dh:Iz:=XAC Bh Et Ue Kt Ve
theorem ZAR:Tells ctx PP 139 cv39 cv40 (fun a=>Dh a.1 a.2):=fn_ok0 (hc FAJ (hc UAR (hc DAJ (hc XAR (hc IAJ hl_nil))))) Tryz.func139 ((fun z0 z1 z2 z3 z4 a=>by kernel_rfl:∀ z0 z1 z2 z3 z4,EntryIs0 ctx PP 139 [] [(128,GAJ z0),(59,WAR z1),(138,OAC z2),(174,YAR z3),(175,UAC z4)] cv39 cv40 fun a=>XAC z0 z1 z2 z3 z4 a.1 a.2) Bh Et Ue Kt Ve)
noncomputable def KAJ {γ:Type} (F:Iz):Hd ctx γ:=hdl cv39.dec (fun a=>F a.1 a.2) cv40.enc
abbrev YAC:=SDisk→(List SAct)→Option (SDisk×Int)
inductive Ot where
 | c0 (list_1:(List SAct)) (v_13:(List SAct)) (v_14:Int) (v_15:Int) (v_4r0:(List SFile)) (out_6r0:(List SFile))
noncomputable def LAJ:Ot→LI
 | .c0 list_1 v_13 v_14 v_15 v_4r0 out_6r0=>(tdo Tryz.f80 232,[(1,[.one (.rsl 162 list_1)]),(4,[.one (.ptr 256 0)]),(6,[.one (.ptr 384 0)]),(13,[.one (.rsl 162 v_13)]),(14,[.one (.int .i64 v_14)]),(15,[.one (.int .i64 v_15)])],[(256,.var [.own 1016384]),(384,.var [.own 1024576]),(1016384,.sl 155 v_4r0),(1024576,.sl 155 out_6r0)])
noncomputable def ZAC (z0:Qs) (z1:Iz) (k:Ot→Option (SDisk×Int)) (d_0:SDisk) (list_1:(List SAct)):Option (SDisk×Int):=
 (z0 d_0).bind fun r0=>
 k (.c0 list_1 list_1 (list_1.length:Int) 0 [] r0.fFiles)
noncomputable def Jz (z0:Qs) (z1:Iz) (k:Ot→Option (SDisk×Int)):Ot→Option (SDisk×Int)
 | .c0 list_1 v_13 v_14 v_15 v_4r0 out_6r0=>
 bif (decide (v_15<v_14)) then
  bif ((decide (0≤v_15)) && (decide (v_15<(v_13.length:Int)))) then
  (z1 ⟨out_6r0⟩ (v_13.getD v_15.toNat (⟨0,⟨#[]⟩,⟨#[]⟩,⟨#[]⟩⟩:SAct))).bind fun r0=>
  bif (!r0.2) then
  some (⟨out_6r0⟩,v_15)
  else
  k (.c0 list_1 v_13 v_14 (w64 (v_15+1)) v_4r0 r0.1.fFiles)
  else none
 else
  some (⟨out_6r0⟩,(list_1.length:Int))
noncomputable def Rt:Nat→Ot→Option (SDisk×Int)
 | 0,_=>none
 | m+1,s=>Jz Ue Dh (Rt m) s
noncomputable def Tt:YAC:=ZAC Ue Dh (Rt gas)
theorem AAS:Tells ctx PP 80 cv41 cv42 (fun a=>Tt a.1 a.2):=
 have b:∀ z0 z1,CutIs ctx PP 80 Tryz.f80 [] [(138,OAC z0),(139,KAJ z1)] cv42 LAJ (Jz z0 z1):=fun z0 z1 _ s=>by cases s <;> kernel_rfl
 have e:∀ z0 z1,EntryIs ctx PP 80 [] [(138,OAC z0),(139,KAJ z1)] cv41 cv42 LAJ (fun k a=>ZAC z0 z1 k a.1 a.2):=fun z0 z1 _ a=>by kernel_rfl
 fn_ok (hc DAJ (hc ZAR hl_nil)) Tryz.func80 (fun s s' h=>by cases s;cases s';cases h;rfl) (fun _=>rfl) (fun _ _=>rfl) (b Ue Dh) (e Ue Dh) gas
noncomputable def BAS {γ:Type} (F:YAC):Hd ctx γ:=hdl cv41.dec (fun a=>F a.1 a.2) cv42.enc
abbrev AAD:=SBook→Option Bool
inductive Ut where
 | c0 (v_6:(List SThing)) (v_7:Int) (v_8:Int) (b_1:SBook)
noncomputable def MAJ:Ut→LI
 | .c0 v_6 v_7 v_8 b_1=>(tdo Tryz.f63 104,[(1,[.one (.ptr 64 0)]),(6,[.one (.rsl 69 v_6)]),(7,[.one (.int .i64 v_7)]),(8,[.one (.int .i64 v_8)])],[(64,.var [.str b_1.fWord,.int .i64 b_1.fTries,.rsl 69 b_1.fThings,.int .i64 b_1.fLast,.str b_1.fChain,.int .i64 b_1.fCount])])
noncomputable def CAD (z0:Yq) (z1:Ua) (k:Ut→Option Bool) (b_0:SBook):Option Bool:=
 k (.c0 b_0.fThings (b_0.fThings.length:Int) 0 b_0)
noncomputable def Kz (z0:Yq) (z1:Ua) (k:Ut→Option Bool):Ut→Option Bool
 | .c0 v_6 v_7 v_8 b_1=>
 bif (decide (v_8<v_7)) then
  bif ((decide (0≤v_8)) && (decide (v_8<(v_6.length:Int)))) then
  (z0 (v_6.getD v_8.toNat (⟨0,0,false,false,false,false,⟨#[]⟩,0⟩:SThing))).bind fun r0=>
  bif (!r0) then
  some false
  else
  bif (decide ((v_6.getD v_8.toNat (⟨0,0,false,false,false,false,⟨#[]⟩,0⟩:SThing)).fId > b_1.fLast)) then
   some false
  else
   bif (decide (v_8 > 0)) then
   bif ((decide (0≤(w64 (v_8 - 1)))) && (decide ((w64 (v_8 - 1))<(b_1.fThings.length:Int)))) then
   bif (decide ((b_1.fThings.getD (w64 (v_8 - 1)).toNat (⟨0,0,false,false,false,false,⟨#[]⟩,0⟩:SThing)).fId≥(v_6.getD v_8.toNat (⟨0,0,false,false,false,false,⟨#[]⟩,0⟩:SThing)).fId)) then
    some false
   else
    k (.c0 v_6 v_7 (w64 (v_8+1)) b_1)
   else none
   else
   k (.c0 v_6 v_7 (w64 (v_8+1)) b_1)
  else none
 else
  bif ((b_1.fWord.size:Int) == 32) then
  bif ((b_1.fChain.size:Int) == 32) then
   (z1 b_1.fTries 0 3).bind fun r1=>
   bif r1 then
   bif (decide ((b_1.fThings.length:Int)≤8)) then
    (z1 b_1.fLast 0 1000).bind fun r2=>
    bif r2 then
    (z1 b_1.fCount 0 10000).bind fun r3=>
    some r3
    else
    some false
   else
    some false
   else
   some false
  else
   some false
  else
  some false
noncomputable def Pj:Nat→Ut→Option Bool
 | 0,_=>none
 | m+1,s=>Kz Me HY (Pj m) s
noncomputable def Vt:AAD:=CAD Me HY (Pj gas)
theorem CAS:Tells ctx PP 63 cv20 cv6 (fun a=>Vt a):=
 have b:∀ z0 z1,CutIs ctx PP 63 Tryz.f63 [] [(129,FAB z0),(60,Qb z1)] cv6 MAJ (Kz z0 z1):=fun z0 z1 _ s=>by cases s <;> kernel_rfl
 have e:∀ z0 z1,EntryIs ctx PP 63 [] [(129,FAB z0),(60,Qb z1)] cv20 cv6 MAJ (fun k a=>CAD z0 z1 k a):=fun z0 z1 _ a=>by kernel_rfl
 fn_ok (hc SAI (hc Rf hl_nil)) Tryz.func63 (fun s s' h=>by cases s;cases s';(repeat cases ‹SBook›);cases h;rfl) (fun _=>rfl) (fun _ _=>rfl) (b Me HY) (e Me HY) gas
noncomputable def DAS {γ:Type} (F:AAD):Hd ctx γ:=hdl cv20.dec (fun a=>F a) cv6.enc
abbrev DAD:=SBook→Option SBook
noncomputable def EAD (b_0:SBook):Option SBook:=
 bif (decide ((b_0.fThings.length*48)≤140737488355328)) then
 some b_0
 else none
noncomputable def Xt:DAD:=EAD
theorem EAS:Tells ctx PP 134 cv20 cv14 (fun a=>Xt a):=fn_ok0 hl_nil Tryz.func134 (fun a=>by kernel_rfl:EntryIs0 ctx PP 134 [] [] cv20 cv14 fun a=>EAD a)
noncomputable def FAS {γ:Type} (F:DAD):Hd ctx γ:=hdl cv20.dec (fun a=>F a) cv14.enc
abbrev Nz:=SBook→Int→Option Int
inductive Yt where
 | c0 (id_1:Int) (v_8:(List SThing)) (v_9:Int) (v_10:Int)
noncomputable def NAJ:Yt→LI
 | .c0 id_1 v_8 v_9 v_10=>(tdo Tryz.f155 104,[(1,[.one (.int .i64 id_1)]),(8,[.one (.rsl 69 v_8)]),(9,[.one (.int .i64 v_9)]),(10,[.one (.int .i64 v_10)])],[])
noncomputable def OAJ (k:Yt→Option Int) (b_0:SBook) (id_1:Int):Option Int:=
 k (.c0 id_1 b_0.fThings (b_0.fThings.length:Int) 0)
noncomputable def Oz (k:Yt→Option Int):Yt→Option Int
 | .c0 id_1 v_8 v_9 v_10=>
 bif (decide (v_10<v_9)) then
  bif ((decide (0≤v_10)) && (decide (v_10<(v_8.length:Int)))) then
  bif ((v_8.getD v_10.toNat (⟨0,0,false,false,false,false,⟨#[]⟩,0⟩:SThing)).fId == id_1) then
  some v_10
  else
  k (.c0 id_1 v_8 v_9 (w64 (v_10+1)))
  else none
 else
  some (-(1:Int))
noncomputable def Qj:Nat→Yt→Option Int
 | 0,_=>none
 | m+1,s=>Oz (Qj m) s
noncomputable def Rj:Nz:=OAJ (Qj gas)
theorem PAJ:Tells ctx PP 155 cv21 cv15 (fun a=>Rj a.1 a.2):=
 have b:CutIs ctx PP 155 Tryz.f155 [] [] cv15 NAJ (Oz):=fun _ s=>by cases s <;> kernel_rfl
 have e:EntryIs ctx PP 155 [] [] cv21 cv15 NAJ (fun k a=>OAJ k a.1 a.2):=fun _ a=>by kernel_rfl
 fn_ok hl_nil Tryz.func155 (fun s s' h=>by cases s;cases s';cases h;rfl) (fun _=>rfl) (fun _ _=>rfl) b e gas
noncomputable def QAJ {γ:Type} (F:Nz):Hd ctx γ:=hdl cv21.dec (fun a=>F a.1 a.2) cv15.enc
abbrev FAD:=SThing→SThing→Option Bool
noncomputable def GAD (x_0:SThing) (y_1:SThing):Option Bool:=
 bif (y_1.fKind == x_0.fKind) then
 bif ((ByteArray.toList y_1.fValue) == (ByteArray.toList x_0.fValue)) then
  bif (y_1.fSigns == x_0.fSigns) then
  bif (y_1.fWraps == x_0.fWraps) then
   bif (decide (y_1.fNext≥x_0.fNext)) then
   bif y_1.fHidden then
    bif y_1.fFixed then
    some true
    else
    some (!x_0.fFixed)
   else
    bif (!x_0.fHidden) then
    bif y_1.fFixed then
     some true
    else
     some (!x_0.fFixed)
    else
    some false
   else
   some false
  else
   some false
  else
  some false
 else
  some false
 else
 some false
noncomputable def Zt:FAD:=GAD
theorem GAS:Tells ctx PP 193 cv23 cv6 (fun a=>Zt a.1 a.2):=fn_ok0 hl_nil Tryz.func193 (fun a=>by kernel_rfl:EntryIs0 ctx PP 193 [] [] cv23 cv6 fun a=>GAD a.1 a.2)
noncomputable def IAS {γ:Type} (F:FAD):Hd ctx γ:=hdl cv23.dec (fun a=>F a.1 a.2) cv6.enc
abbrev IAD:=SBook→SThing→Option (Bool×SBook)
noncomputable def JAD (z0:Nz) (z1:FAD) (b_0:SBook) (x_1:SThing):Option (Bool×SBook):=
 (z0 b_0 x_1.fId).bind fun r0=>
 bif (decide (r0≥0)) then
 bif ((decide (0≤r0)) && (decide (r0<(b_0.fThings.length:Int)))) then
 (z1 (b_0.fThings.getD r0.toNat (⟨0,0,false,false,false,false,⟨#[]⟩,0⟩:SThing)) x_1).bind fun r1=>
 bif (!r1) then
  some (false,b_0)
 else
  bif ((decide (0≤r0)) && (decide (r0<(b_0.fThings.length:Int)))) then
  some (true,⟨b_0.fWord,b_0.fTries,(b_0.fThings.set r0.toNat x_1),b_0.fLast,b_0.fChain,b_0.fCount⟩)
  else none
 else none
 else
 bif (x_1.fId != (w64 (b_0.fLast+1))) then
  some (false,b_0)
 else
  bif (decide ((b_0.fThings.length:Int)≥8)) then
  some (false,b_0)
  else
  bif (decide (((b_0.fThings.length+1)*48)≤140737488355328)) then
  some (true,⟨b_0.fWord,b_0.fTries,(b_0.fThings++[x_1]),x_1.fId,b_0.fChain,b_0.fCount⟩)
  else none
noncomputable def Au:IAD:=JAD Rj Zt
theorem JAS:Tells ctx PP 154 cv50 cv51 (fun a=>Au a.1 a.2):=fn_ok0 (hc PAJ (hc GAS hl_nil)) Tryz.func154 ((fun z0 z1 a=>by kernel_rfl:∀ z0 z1,EntryIs0 ctx PP 154 [0] [(155,QAJ z0),(193,IAS z1)] cv50 cv51 fun a=>JAD z0 z1 a.1 a.2) Rj Zt)
noncomputable def KAS {γ:Type} (F:IAD):Hd ctx γ:=hdl cv50.dec (fun a=>F a.1 a.2) cv51.enc
abbrev KAD:=SBook→SRec→Option (SBook×Bool)
noncomputable def LAD (z0:Yy) (z1:AAD) (z2:DAD) (z3:IAD) (z4:Nz) (z5:Ij) (b_0:SBook) (r_1:SRec):Option (SBook×Bool):=
 (z0 r_1).bind fun r0=>
 (z1 b_0).bind fun r1=>
 bif (!r1) then
 some (⟨⟨#[]⟩,0,[],0,⟨#[]⟩,0⟩,false)
 else
 bif (!r0.2) then
  some (⟨⟨#[]⟩,0,[],0,⟨#[]⟩,0⟩,false)
 else
  bif (decide (b_0.fCount≥10000)) then
  some (⟨⟨#[]⟩,0,[],0,⟨#[]⟩,0⟩,false)
  else
  (z2 b_0).bind fun r2=>
  bif (r_1.fKind == 1) then
   bif (decide ((b_0.fChain.size+r0.1.size)≤9223372036854775807)) then
   (z5 (b_0.fChain++r0.1)).bind fun r3=>
   some (⟨r_1.fText,0,r2.fThings,r2.fLast,r3,(w64 (r2.fCount+1))⟩,true)
   else none
  else
   bif (r_1.fKind == 2) then
   bif (decide ((b_0.fChain.size+r0.1.size)≤9223372036854775807)) then
   (z5 (b_0.fChain++r0.1)).bind fun r4=>
   some (⟨r2.fWord,r_1.fNum,r2.fThings,r2.fLast,r4,(w64 (r2.fCount+1))⟩,true)
   else none
   else
   bif (r_1.fKind == 3) then
    (z3 r2 r_1.fThing).bind fun r5=>
    bif (!r5.1) then
    some (⟨⟨#[]⟩,0,[],0,⟨#[]⟩,0⟩,false)
    else
    bif (decide ((b_0.fChain.size+r0.1.size)≤9223372036854775807)) then
    (z5 (b_0.fChain++r0.1)).bind fun r6=>
    some (⟨r5.2.fWord,r5.2.fTries,r5.2.fThings,r5.2.fLast,r6,(w64 (r5.2.fCount+1))⟩,true)
    else none
   else
    bif (r_1.fKind == 4) then
    (z4 b_0 r_1.fNum).bind fun r7=>
    bif (decide (r7<0)) then
     some (⟨⟨#[]⟩,0,[],0,⟨#[]⟩,0⟩,false)
    else
     bif ((decide (0≤r7)) && (decide (r7≤(b_0.fThings.length:Int)))) then
     bif (decide ((((b_0.fThings.take r7.toNat).drop 0).length*48)≤140737488355328)) then
     bif ((decide (0≤(w64 (r7+1)))) && (decide ((w64 (r7+1))≤(b_0.fThings.length:Int)))) then
     bif (decide (((((b_0.fThings.take r7.toNat).drop 0).length+((b_0.fThings.take b_0.fThings.length).drop (w64 (r7+1)).toNat).length)*48)≤140737488355328)) then
     bif (decide ((b_0.fChain.size+r0.1.size)≤9223372036854775807)) then
     (z5 (b_0.fChain++r0.1)).bind fun r8=>
     some (⟨r2.fWord,r2.fTries,(((b_0.fThings.take r7.toNat).drop 0)++((b_0.fThings.take b_0.fThings.length).drop (w64 (r7+1)).toNat)),r2.fLast,r8,(w64 (r2.fCount+1))⟩,true)
     else none
     else none
     else none
     else none
     else none
    else
    bif (decide ((b_0.fChain.size+r0.1.size)≤9223372036854775807)) then
    (z5 (b_0.fChain++r0.1)).bind fun r9=>
    some (⟨r2.fWord,r2.fTries,r2.fThings,r2.fLast,r9,(w64 (r2.fCount+1))⟩,true)
    else none
noncomputable def Du:KAD:=LAD Yg Vt Xt Au Rj Qa
theorem LAS:Tells ctx PP 101 cv26 cv27 (fun a=>Du a.1 a.2):=fn_ok0 (hc VAI (hc CAS (hc EAS (hc JAS (hc PAJ (hc Uy hl_nil)))))) Tryz.func101 ((fun z0 z1 z2 z3 z4 z5 a=>by kernel_rfl:∀ z0 z1 z2 z3 z4 z5,EntryIs0 ctx PP 101 [] [(151,WAI z0),(63,DAS z1),(134,FAS z2),(154,KAS z3),(155,QAJ z4),(32,Vy z5)] cv26 cv27 fun a=>LAD z0 z1 z2 z3 z4 z5 a.1 a.2) Yg Vt Xt Au Rj Qa)
noncomputable def MAS {γ:Type} (F:KAD):Hd ctx γ:=hdl cv26.dec (fun a=>F a.1 a.2) cv27.enc
abbrev MAD:=SBox→SRec→Option (Bool×SBox)
noncomputable def NAD (z0:KAC) (z1:YAC) (z2:KAD) (b_0:SBox) (r_1:SRec):Option (Bool×SBox):=
 (z0 b_0.fKey b_0.fBook.fCount r_1).bind fun r0=>
 (z1 b_0.fDisk r0.1).bind fun r1=>
 (z2 b_0.fBook r_1).bind fun r2=>
 bif (!r0.2) then
 some (false,b_0)
 else
 bif (!r2.2) then
  some (false,b_0)
 else
  bif (decide (r1.2<(r0.1.length:Int))) then
  some (false,b_0)
  else
  some (true,⟨b_0.fKey,b_0.fUp,r1.1,r2.1,b_0.fSessions,b_0.fLives,b_0.fOpened⟩)
noncomputable def Eu:MAD:=NAD Ns Tt Du
theorem NAS:Tells ctx PP 31 cv52 cv53 (fun a=>Eu a.1 a.2):=fn_ok0 (hc SAR (hc AAS (hc LAS hl_nil))) Tryz.func31 ((fun z0 z1 z2 a=>by kernel_rfl:∀ z0 z1 z2,EntryIs0 ctx PP 31 [0] [(100,TAR z0),(80,BAS z1),(101,MAS z2)] cv52 cv53 fun a=>NAD z0 z1 z2 a.1 a.2) Ns Tt Du)
noncomputable def OAS {γ:Type} (F:MAD):Hd ctx γ:=hdl cv52.dec (fun a=>F a.1 a.2) cv53.enc
abbrev U5:=ByteArray→ByteArray→Option (SBox×Bool)
noncomputable def OAD (z0:CAB) (z1:Ij) (z2:MAD) (key_0:ByteArray) (word_1:ByteArray):Option (SBox×Bool):=
 bif ((key_0.size:Int) != 32) then
 some (⟨⟨#[]⟩,false,⟨[]⟩,⟨⟨#[]⟩,0,[],0,⟨#[]⟩,0⟩,[],[],0⟩,false)
 else
 bif (decide ((word_1.size:Int) > 20)) then
  some (⟨⟨#[]⟩,false,⟨[]⟩,⟨⟨#[]⟩,0,[],0,⟨#[]⟩,0⟩,[],[],0⟩,false)
 else
  z0.bind fun r0=>
  (z1 word_1).bind fun r1=>
  (z2 ⟨key_0,true,⟨[]⟩,r0,[],[],0⟩ ⟨1,r1,0,⟨0,0,false,false,false,false,⟨#[]⟩,0⟩⟩).bind fun r2=>
  some (r2.2,true)
noncomputable def Rl:U5:=OAD Vq Qa Eu
theorem JAN:Tells ctx PP 9 cv29 cv44 (fun a=>Rl a.1 a.2):=fn_ok0 (hc RAQ (hc Uy (hc NAS hl_nil))) Tryz.func9 ((fun z0 z1 z2 a=>by kernel_rfl:∀ z0 z1 z2,EntryIs0 ctx PP 9 [] [(30,SAQ z0),(32,Vy z1),(31,OAS z2)] cv29 cv44 fun a=>OAD z0 z1 z2 a.1 a.2) Vq Qa Eu)
noncomputable def NAN {γ:Type} (F:U5):Hd ctx γ:=hdl cv29.dec (fun a=>F a.1 a.2) cv44.enc
abbrev Pz:=SFile→SFile→Option Bool
noncomputable def PAD (a_0:SFile) (b_1:SFile):Option Bool:=
 bif (!((ByteArray.toList a_0.fName) == (ByteArray.toList b_1.fName))) then
 some false
 else
 bif (!((ByteArray.toList a_0.fText) == (ByteArray.toList b_1.fText))) then
  some false
 else
  bif (a_0.fKept != b_1.fKept) then
  some false
  else
  some true
noncomputable def Eh:Pz:=PAD
theorem PAS:Tells ctx PP 159 cv54 cv6 (fun a=>Eh a.1 a.2):=fn_ok0 hl_nil Tryz.func159 (fun a=>by kernel_rfl:EntryIs0 ctx PP 159 [] [] cv54 cv6 fun a=>PAD a.1 a.2)
noncomputable def RAJ {γ:Type} (F:Pz):Hd ctx γ:=hdl cv54.dec (fun a=>F a.1 a.2) cv6.enc
abbrev QAD:=(List SFile)→(List SFile)→Option Bool
inductive Gu where
 | c0 (a_0:(List SFile)) (b_1:(List SFile)) (i_5:Int)
noncomputable def SAJ:Gu→LI
 | .c0 a_0 b_1 i_5=>(tdo Tryz.f106 464,[(0,[.one (.rsl 155 a_0)]),(1,[.one (.rsl 155 b_1)]),(5,[.one (.int .i64 i_5)])],[])
noncomputable def RAD (z0:Pz) (k:Gu→Option Bool) (a_0:(List SFile)) (b_1:(List SFile)):Option Bool:=
 bif ((a_0.length:Int) != (b_1.length:Int)) then
 some false
 else
 k (.c0 a_0 b_1 0)
noncomputable def Qz (z0:Pz) (k:Gu→Option Bool):Gu→Option Bool
 | .c0 a_0 b_1 i_5=>
 bif (decide (i_5<(a_0.length:Int))) then
  bif ((decide (0≤i_5)) && (decide (i_5<(a_0.length:Int)))) then
  bif ((decide (0≤i_5)) && (decide (i_5<(b_1.length:Int)))) then
  (z0 (a_0.getD i_5.toNat (⟨⟨#[]⟩,⟨#[]⟩,0⟩:SFile)) (b_1.getD i_5.toNat (⟨⟨#[]⟩,⟨#[]⟩,0⟩:SFile))).bind fun r0=>
  bif (!r0) then
  some false
  else
  k (.c0 a_0 b_1 (w64 (i_5+1)))
  else none
  else none
 else
  some true
noncomputable def Sj:Nat→Gu→Option Bool
 | 0,_=>none
 | m+1,s=>Qz Eh (Sj m) s
noncomputable def Hu:QAD:=RAD Eh (Sj gas)
theorem QAS:Tells ctx PP 106 cv55 cv6 (fun a=>Hu a.1 a.2):=
 have b:∀ z0,CutIs ctx PP 106 Tryz.f106 [] [(159,RAJ z0)] cv6 SAJ (Qz z0):=fun z0 _ s=>by cases s <;> kernel_rfl
 have e:∀ z0,EntryIs ctx PP 106 [] [(159,RAJ z0)] cv55 cv6 SAJ (fun k a=>RAD z0 k a.1 a.2):=fun z0 _ a=>by kernel_rfl
 fn_ok (hc PAS hl_nil) Tryz.func106 (fun s s' h=>by cases s;cases s';cases h;rfl) (fun _=>rfl) (fun _ _=>rfl) (b Eh) (e Eh) gas
noncomputable def RAS {γ:Type} (F:QAD):Hd ctx γ:=hdl cv55.dec (fun a=>F a.1 a.2) cv6.enc
abbrev SAD:=SDisk→SDisk→Option Bool
noncomputable def TAD (z0:QAD) (a_0:SDisk) (b_1:SDisk):Option Bool:=
 (z0 a_0.fFiles b_1.fFiles).bind fun r0=>
 bif (!r0) then
 some false
 else
 some true
noncomputable def Iu:SAD:=TAD Hu
theorem SAS:Tells ctx PP 33 cv56 cv6 (fun a=>Iu a.1 a.2):=fn_ok0 (hc QAS hl_nil) Tryz.func33 ((fun z0 a=>by kernel_rfl:∀ z0,EntryIs0 ctx PP 33 [] [(106,RAS z0)] cv56 cv6 fun a=>TAD z0 a.1 a.2) Hu)
noncomputable def TAS {γ:Type} (F:SAD):Hd ctx γ:=hdl cv56.dec (fun a=>F a.1 a.2) cv6.enc
abbrev Rz:=SThing→SThing→Option Bool
noncomputable def UAD (a_0:SThing) (b_1:SThing):Option Bool:=
 bif (a_0.fId != b_1.fId) then
 some false
 else
 bif (a_0.fKind != b_1.fKind) then
  some false
 else
  bif (!(a_0.fHidden == b_1.fHidden)) then
  some false
  else
  bif (!(a_0.fFixed == b_1.fFixed)) then
   some false
  else
   bif (!(a_0.fSigns == b_1.fSigns)) then
   some false
   else
   bif (!(a_0.fWraps == b_1.fWraps)) then
    some false
   else
    bif (!((ByteArray.toList a_0.fValue) == (ByteArray.toList b_1.fValue))) then
    some false
    else
    bif (a_0.fNext != b_1.fNext) then
     some false
    else
     some true
noncomputable def Fh:Rz:=UAD
theorem UAS:Tells ctx PP 160 cv23 cv6 (fun a=>Fh a.1 a.2):=fn_ok0 hl_nil Tryz.func160 (fun a=>by kernel_rfl:EntryIs0 ctx PP 160 [] [] cv23 cv6 fun a=>UAD a.1 a.2)
noncomputable def TAJ {γ:Type} (F:Rz):Hd ctx γ:=hdl cv23.dec (fun a=>F a.1 a.2) cv6.enc
abbrev VAD:=(List SThing)→(List SThing)→Option Bool
inductive Ju where
 | c0 (a_0:(List SThing)) (b_1:(List SThing)) (i_5:Int)
noncomputable def UAJ:Ju→LI
 | .c0 a_0 b_1 i_5=>(tdo Tryz.f107 464,[(0,[.one (.rsl 69 a_0)]),(1,[.one (.rsl 69 b_1)]),(5,[.one (.int .i64 i_5)])],[])
noncomputable def WAD (z0:Rz) (k:Ju→Option Bool) (a_0:(List SThing)) (b_1:(List SThing)):Option Bool:=
 bif ((a_0.length:Int) != (b_1.length:Int)) then
 some false
 else
 k (.c0 a_0 b_1 0)
noncomputable def Sz (z0:Rz) (k:Ju→Option Bool):Ju→Option Bool
 | .c0 a_0 b_1 i_5=>
 bif (decide (i_5<(a_0.length:Int))) then
  bif ((decide (0≤i_5)) && (decide (i_5<(a_0.length:Int)))) then
  bif ((decide (0≤i_5)) && (decide (i_5<(b_1.length:Int)))) then
  (z0 (a_0.getD i_5.toNat (⟨0,0,false,false,false,false,⟨#[]⟩,0⟩:SThing)) (b_1.getD i_5.toNat (⟨0,0,false,false,false,false,⟨#[]⟩,0⟩:SThing))).bind fun r0=>
  bif (!r0) then
  some false
  else
  k (.c0 a_0 b_1 (w64 (i_5+1)))
  else none
  else none
 else
  some true
noncomputable def Tj:Nat→Ju→Option Bool
 | 0,_=>none
 | m+1,s=>Sz Fh (Tj m) s
noncomputable def Ku:VAD:=WAD Fh (Tj gas)
theorem VAS:Tells ctx PP 107 cv57 cv6 (fun a=>Ku a.1 a.2):=
 have b:∀ z0,CutIs ctx PP 107 Tryz.f107 [] [(160,TAJ z0)] cv6 UAJ (Sz z0):=fun z0 _ s=>by cases s <;> kernel_rfl
 have e:∀ z0,EntryIs ctx PP 107 [] [(160,TAJ z0)] cv57 cv6 UAJ (fun k a=>WAD z0 k a.1 a.2):=fun z0 _ a=>by kernel_rfl
 fn_ok (hc UAS hl_nil) Tryz.func107 (fun s s' h=>by cases s;cases s';cases h;rfl) (fun _=>rfl) (fun _ _=>rfl) (b Fh) (e Fh) gas
noncomputable def XAS {γ:Type} (F:VAD):Hd ctx γ:=hdl cv57.dec (fun a=>F a.1 a.2) cv6.enc
abbrev XAD:=SBook→SBook→Option Bool
noncomputable def YAD (z0:VAD) (a_0:SBook) (b_1:SBook):Option Bool:=
 bif (!((ByteArray.toList a_0.fWord) == (ByteArray.toList b_1.fWord))) then
 some false
 else
 bif (a_0.fTries != b_1.fTries) then
  some false
 else
  (z0 a_0.fThings b_1.fThings).bind fun r0=>
  bif (!r0) then
  some false
  else
  bif (a_0.fLast != b_1.fLast) then
   some false
  else
   bif (!((ByteArray.toList a_0.fChain) == (ByteArray.toList b_1.fChain))) then
   some false
   else
   bif (a_0.fCount != b_1.fCount) then
    some false
   else
    some true
noncomputable def Lu:XAD:=YAD Ku
theorem YAS:Tells ctx PP 34 cv58 cv6 (fun a=>Lu a.1 a.2):=fn_ok0 (hc VAS hl_nil) Tryz.func34 ((fun z0 a=>by kernel_rfl:∀ z0,EntryIs0 ctx PP 34 [] [(107,XAS z0)] cv58 cv6 fun a=>YAD z0 a.1 a.2) Ku)
noncomputable def ZAS {γ:Type} (F:XAD):Hd ctx γ:=hdl cv58.dec (fun a=>F a.1 a.2) cv6.enc
abbrev Tz:=SSession→SSession→Option Bool
noncomputable def ZAD (a_0:SSession) (b_1:SSession):Option Bool:=
 bif (a_0.fId != b_1.fId) then
 some false
 else
 bif (!(a_0.fIn == b_1.fIn)) then
  some false
 else
  some true
noncomputable def Gh:Tz:=ZAD
theorem AAT:Tells ctx PP 108 cv59 cv6 (fun a=>Gh a.1 a.2):=fn_ok0 hl_nil Tryz.func108 (fun a=>by kernel_rfl:EntryIs0 ctx PP 108 [] [] cv59 cv6 fun a=>ZAD a.1 a.2)
noncomputable def VAJ {γ:Type} (F:Tz):Hd ctx γ:=hdl cv59.dec (fun a=>F a.1 a.2) cv6.enc
abbrev AAE:=(List SSession)→(List SSession)→Option Bool
inductive Nu where
 | c0 (a_0:(List SSession)) (b_1:(List SSession)) (i_5:Int)
noncomputable def WAJ:Nu→LI
 | .c0 a_0 b_1 i_5=>(tdo Tryz.f35 464,[(0,[.one (.rsl 92 a_0)]),(1,[.one (.rsl 92 b_1)]),(5,[.one (.int .i64 i_5)])],[])
noncomputable def BAE (z0:Tz) (k:Nu→Option Bool) (a_0:(List SSession)) (b_1:(List SSession)):Option Bool:=
 bif ((a_0.length:Int) != (b_1.length:Int)) then
 some false
 else
 k (.c0 a_0 b_1 0)
noncomputable def Uz (z0:Tz) (k:Nu→Option Bool):Nu→Option Bool
 | .c0 a_0 b_1 i_5=>
 bif (decide (i_5<(a_0.length:Int))) then
  bif ((decide (0≤i_5)) && (decide (i_5<(a_0.length:Int)))) then
  bif ((decide (0≤i_5)) && (decide (i_5<(b_1.length:Int)))) then
  (z0 (a_0.getD i_5.toNat (⟨0,false⟩:SSession)) (b_1.getD i_5.toNat (⟨0,false⟩:SSession))).bind fun r0=>
  bif (!r0) then
  some false
  else
  k (.c0 a_0 b_1 (w64 (i_5+1)))
  else none
  else none
 else
  some true
noncomputable def Uj:Nat→Nu→Option Bool
 | 0,_=>none
 | m+1,s=>Uz Gh (Uj m) s
noncomputable def Ou:AAE:=BAE Gh (Uj gas)
theorem BAT:Tells ctx PP 35 cv60 cv6 (fun a=>Ou a.1 a.2):=
 have b:∀ z0,CutIs ctx PP 35 Tryz.f35 [] [(108,VAJ z0)] cv6 WAJ (Uz z0):=fun z0 _ s=>by cases s <;> kernel_rfl
 have e:∀ z0,EntryIs ctx PP 35 [] [(108,VAJ z0)] cv60 cv6 WAJ (fun k a=>BAE z0 k a.1 a.2):=fun z0 _ a=>by kernel_rfl
 fn_ok (hc AAT hl_nil) Tryz.func35 (fun s s' h=>by cases s;cases s';cases h;rfl) (fun _=>rfl) (fun _ _=>rfl) (b Gh) (e Gh) gas
noncomputable def CAT {γ:Type} (F:AAE):Hd ctx γ:=hdl cv60.dec (fun a=>F a.1 a.2) cv6.enc
abbrev Vz:=SLive→SLive→Option Bool
noncomputable def CAE (a_0:SLive) (b_1:SLive):Option Bool:=
 bif (a_0.fId != b_1.fId) then
 some false
 else
 bif (a_0.fNext != b_1.fNext) then
  some false
 else
  some true
noncomputable def Ih:Vz:=CAE
theorem DAT:Tells ctx PP 109 cv61 cv6 (fun a=>Ih a.1 a.2):=fn_ok0 hl_nil Tryz.func109 (fun a=>by kernel_rfl:EntryIs0 ctx PP 109 [] [] cv61 cv6 fun a=>CAE a.1 a.2)
noncomputable def XAJ {γ:Type} (F:Vz):Hd ctx γ:=hdl cv61.dec (fun a=>F a.1 a.2) cv6.enc
abbrev DAE:=(List SLive)→(List SLive)→Option Bool
inductive Qu where
 | c0 (a_0:(List SLive)) (b_1:(List SLive)) (i_5:Int)
noncomputable def YAJ:Qu→LI
 | .c0 a_0 b_1 i_5=>(tdo Tryz.f36 464,[(0,[.one (.rsl 149 a_0)]),(1,[.one (.rsl 149 b_1)]),(5,[.one (.int .i64 i_5)])],[])
noncomputable def EAE (z0:Vz) (k:Qu→Option Bool) (a_0:(List SLive)) (b_1:(List SLive)):Option Bool:=
 bif ((a_0.length:Int) != (b_1.length:Int)) then
 some false
 else
 k (.c0 a_0 b_1 0)
noncomputable def Xz (z0:Vz) (k:Qu→Option Bool):Qu→Option Bool
 | .c0 a_0 b_1 i_5=>
 bif (decide (i_5<(a_0.length:Int))) then
  bif ((decide (0≤i_5)) && (decide (i_5<(a_0.length:Int)))) then
  bif ((decide (0≤i_5)) && (decide (i_5<(b_1.length:Int)))) then
  (z0 (a_0.getD i_5.toNat (⟨0,0⟩:SLive)) (b_1.getD i_5.toNat (⟨0,0⟩:SLive))).bind fun r0=>
  bif (!r0) then
  some false
  else
  k (.c0 a_0 b_1 (w64 (i_5+1)))
  else none
  else none
 else
  some true
noncomputable def Vj:Nat→Qu→Option Bool
 | 0,_=>none
 | m+1,s=>Xz Ih (Vj m) s
noncomputable def Ru:DAE:=EAE Ih (Vj gas)
theorem EAT:Tells ctx PP 36 cv62 cv6 (fun a=>Ru a.1 a.2):=
 have b:∀ z0,CutIs ctx PP 36 Tryz.f36 [] [(109,XAJ z0)] cv6 YAJ (Xz z0):=fun z0 _ s=>by cases s <;> kernel_rfl
 have e:∀ z0,EntryIs ctx PP 36 [] [(109,XAJ z0)] cv62 cv6 YAJ (fun k a=>EAE z0 k a.1 a.2):=fun z0 _ a=>by kernel_rfl
 fn_ok (hc DAT hl_nil) Tryz.func36 (fun s s' h=>by cases s;cases s';cases h;rfl) (fun _=>rfl) (fun _ _=>rfl) (b Ih) (e Ih) gas
noncomputable def FAT {γ:Type} (F:DAE):Hd ctx γ:=hdl cv62.dec (fun a=>F a.1 a.2) cv6.enc
abbrev V5:=SBox→SBox→Option Bool
noncomputable def FAE (z0:SAD) (z1:XAD) (z2:AAE) (z3:DAE) (a_0:SBox) (b_1:SBox):Option Bool:=
 bif (!((ByteArray.toList a_0.fKey) == (ByteArray.toList b_1.fKey))) then
 some false
 else
 bif (!(a_0.fUp == b_1.fUp)) then
  some false
 else
  (z0 a_0.fDisk b_1.fDisk).bind fun r0=>
  bif (!r0) then
  some false
  else
  (z1 a_0.fBook b_1.fBook).bind fun r1=>
  bif (!r1) then
   some false
  else
   (z2 a_0.fSessions b_1.fSessions).bind fun r2=>
   bif (!r2) then
   some false
   else
   (z3 a_0.fLives b_1.fLives).bind fun r3=>
   bif (!r3) then
    some false
   else
    bif (a_0.fOpened != b_1.fOpened) then
    some false
    else
    some true
noncomputable def Sl:V5:=FAE Iu Lu Ou Ru
theorem KAN:Tells ctx PP 10 cv63 cv6 (fun a=>Sl a.1 a.2):=fn_ok0 (hc SAS (hc YAS (hc BAT (hc EAT hl_nil)))) Tryz.func10 ((fun z0 z1 z2 z3 a=>by kernel_rfl:∀ z0 z1 z2 z3,EntryIs0 ctx PP 10 [] [(33,TAS z0),(34,ZAS z1),(35,CAT z2),(36,FAT z3)] cv63 cv6 fun a=>FAE z0 z1 z2 z3 a.1 a.2) Iu Lu Ou Ru)
noncomputable def OAN {γ:Type} (F:V5):Hd ctx γ:=hdl cv63.dec (fun a=>F a.1 a.2) cv6.enc
abbrev Tc:=Int→Option ByteArray
inductive Uu where
 | c0 (k_0:Int) (out_3:ByteArray)
noncomputable def ZAJ:Uu→LI
 | .c0 k_0 out_3=>(tdo Tryz.f161 480,[(0,[.one (.int .i64 k_0)]),(3,[.one (.str out_3)])],[])
noncomputable def GAE (k:Uu→Option ByteArray) (k_0:Int):Option ByteArray:=
 bif (decide (k_0≤0)) then
 some ⟨#[109,48]⟩
 else
 k (.c0 k_0 ⟨#[]⟩)
noncomputable def Yz (k:Uu→Option ByteArray):Uu→Option ByteArray
 | .c0 k_0 out_3=>
 bif (decide (k_0 > 0)) then
  bif (decide (((ofBytes [(w8 (w64 (48+(k_0.tmod 10))))]).size+out_3.size)≤9223372036854775807)) then
  k (.c0 (w64 (k_0.tdiv 10)) ((ofBytes [(w8 (w64 (48+(k_0.tmod 10))))])++out_3))
  else none
 else
  bif (decide (((⟨#[109]⟩:ByteArray).size+out_3.size)≤9223372036854775807)) then
  some ((⟨#[109]⟩:ByteArray)++out_3)
  else none
noncomputable def Vu:Nat→Uu→Option ByteArray
 | 0,_=>none
 | m+1,s=>Yz (Vu m) s
noncomputable def PY:Tc:=GAE (Vu gas)
theorem Zz:Tells ctx PP 161 cv15 cv3 (fun a=>PY a):=
 have b:CutIs ctx PP 161 Tryz.f161 [] [] cv3 ZAJ (Yz):=fun _ s=>by cases s <;> kernel_rfl
 have e:EntryIs ctx PP 161 [] [] cv15 cv3 ZAJ (fun k a=>GAE k a):=fun _ a=>by kernel_rfl
 fn_ok hl_nil Tryz.func161 (fun s s' h=>by cases s;cases s';cases h;rfl) (fun _=>rfl) (fun _ _=>rfl) b e gas
noncomputable def Tf {γ:Type} (F:Tc):Hd ctx γ:=hdl cv15.dec (fun a=>F a) cv3.enc
abbrev HAE:=(List SFile)→Int→Option (Int×(List SFile))
inductive Wu where
 | c0 (k_1:Int) (i_5:Int) (a_0r1:(List SFile))
noncomputable def AAK:Wu→LI
 | .c0 k_1 i_5 a_0r1=>(tdo Tryz.f110 208,[(0,[.one (.own 1)]),(1,[.one (.int .i64 k_1)]),(5,[.one (.int .i64 i_5)])],[(1,.io 155 a_0r1)])
noncomputable def IAE (z0:Tc) (k:Wu→Option (Int×(List SFile))) (a_0:(List SFile)) (k_1:Int):Option (Int×(List SFile)):=
 k (.c0 k_1 0 a_0)
noncomputable def O0 (z0:Tc) (k:Wu→Option (Int×(List SFile))):Wu→Option (Int×(List SFile))
 | .c0 k_1 i_5 a_0r1=>
 bif (decide (i_5<(a_0r1.length:Int))) then
  (z0 k_1).bind fun r0=>
  bif ((decide (0≤i_5)) && (decide (i_5<(a_0r1.length:Int)))) then
  (z0 (w64 (k_1+1))).bind fun r1=>
  bif ((decide (0≤i_5)) && (decide (i_5<((a_0r1.set i_5.toNat (⟨r0,(a_0r1.getD i_5.toNat (⟨⟨#[]⟩,⟨#[]⟩,0⟩:SFile)).fText,(a_0r1.getD i_5.toNat (⟨⟨#[]⟩,⟨#[]⟩,0⟩:SFile)).fKept⟩:SFile)).length:Int)))) then
  bif ((decide (0≤i_5)) && (decide (i_5<(((a_0r1.set i_5.toNat (⟨r0,(a_0r1.getD i_5.toNat (⟨⟨#[]⟩,⟨#[]⟩,0⟩:SFile)).fText,(a_0r1.getD i_5.toNat (⟨⟨#[]⟩,⟨#[]⟩,0⟩:SFile)).fKept⟩:SFile)).set i_5.toNat (⟨((a_0r1.set i_5.toNat (⟨r0,(a_0r1.getD i_5.toNat (⟨⟨#[]⟩,⟨#[]⟩,0⟩:SFile)).fText,(a_0r1.getD i_5.toNat (⟨⟨#[]⟩,⟨#[]⟩,0⟩:SFile)).fKept⟩:SFile)).getD i_5.toNat (⟨⟨#[]⟩,⟨#[]⟩,0⟩:SFile)).fName,r1,((a_0r1.set i_5.toNat (⟨r0,(a_0r1.getD i_5.toNat (⟨⟨#[]⟩,⟨#[]⟩,0⟩:SFile)).fText,(a_0r1.getD i_5.toNat (⟨⟨#[]⟩,⟨#[]⟩,0⟩:SFile)).fKept⟩:SFile)).getD i_5.toNat (⟨⟨#[]⟩,⟨#[]⟩,0⟩:SFile)).fKept⟩:SFile)).length:Int)))) then
  k (.c0 (w64 ((w64 ((w64 (k_1+1))+1))+1)) (w64 (i_5+1)) (((a_0r1.set i_5.toNat (⟨r0,(a_0r1.getD i_5.toNat (⟨⟨#[]⟩,⟨#[]⟩,0⟩:SFile)).fText,(a_0r1.getD i_5.toNat (⟨⟨#[]⟩,⟨#[]⟩,0⟩:SFile)).fKept⟩:SFile)).set i_5.toNat (⟨((a_0r1.set i_5.toNat (⟨r0,(a_0r1.getD i_5.toNat (⟨⟨#[]⟩,⟨#[]⟩,0⟩:SFile)).fText,(a_0r1.getD i_5.toNat (⟨⟨#[]⟩,⟨#[]⟩,0⟩:SFile)).fKept⟩:SFile)).getD i_5.toNat (⟨⟨#[]⟩,⟨#[]⟩,0⟩:SFile)).fName,r1,((a_0r1.set i_5.toNat (⟨r0,(a_0r1.getD i_5.toNat (⟨⟨#[]⟩,⟨#[]⟩,0⟩:SFile)).fText,(a_0r1.getD i_5.toNat (⟨⟨#[]⟩,⟨#[]⟩,0⟩:SFile)).fKept⟩:SFile)).getD i_5.toNat (⟨⟨#[]⟩,⟨#[]⟩,0⟩:SFile)).fKept⟩:SFile)).set i_5.toNat (⟨(((a_0r1.set i_5.toNat (⟨r0,(a_0r1.getD i_5.toNat (⟨⟨#[]⟩,⟨#[]⟩,0⟩:SFile)).fText,(a_0r1.getD i_5.toNat (⟨⟨#[]⟩,⟨#[]⟩,0⟩:SFile)).fKept⟩:SFile)).set i_5.toNat (⟨((a_0r1.set i_5.toNat (⟨r0,(a_0r1.getD i_5.toNat (⟨⟨#[]⟩,⟨#[]⟩,0⟩:SFile)).fText,(a_0r1.getD i_5.toNat (⟨⟨#[]⟩,⟨#[]⟩,0⟩:SFile)).fKept⟩:SFile)).getD i_5.toNat (⟨⟨#[]⟩,⟨#[]⟩,0⟩:SFile)).fName,r1,((a_0r1.set i_5.toNat (⟨r0,(a_0r1.getD i_5.toNat (⟨⟨#[]⟩,⟨#[]⟩,0⟩:SFile)).fText,(a_0r1.getD i_5.toNat (⟨⟨#[]⟩,⟨#[]⟩,0⟩:SFile)).fKept⟩:SFile)).getD i_5.toNat (⟨⟨#[]⟩,⟨#[]⟩,0⟩:SFile)).fKept⟩:SFile)).getD i_5.toNat (⟨⟨#[]⟩,⟨#[]⟩,0⟩:SFile)).fName,(((a_0r1.set i_5.toNat (⟨r0,(a_0r1.getD i_5.toNat (⟨⟨#[]⟩,⟨#[]⟩,0⟩:SFile)).fText,(a_0r1.getD i_5.toNat (⟨⟨#[]⟩,⟨#[]⟩,0⟩:SFile)).fKept⟩:SFile)).set i_5.toNat (⟨((a_0r1.set i_5.toNat (⟨r0,(a_0r1.getD i_5.toNat (⟨⟨#[]⟩,⟨#[]⟩,0⟩:SFile)).fText,(a_0r1.getD i_5.toNat (⟨⟨#[]⟩,⟨#[]⟩,0⟩:SFile)).fKept⟩:SFile)).getD i_5.toNat (⟨⟨#[]⟩,⟨#[]⟩,0⟩:SFile)).fName,r1,((a_0r1.set i_5.toNat (⟨r0,(a_0r1.getD i_5.toNat (⟨⟨#[]⟩,⟨#[]⟩,0⟩:SFile)).fText,(a_0r1.getD i_5.toNat (⟨⟨#[]⟩,⟨#[]⟩,0⟩:SFile)).fKept⟩:SFile)).getD i_5.toNat (⟨⟨#[]⟩,⟨#[]⟩,0⟩:SFile)).fKept⟩:SFile)).getD i_5.toNat (⟨⟨#[]⟩,⟨#[]⟩,0⟩:SFile)).fText,(w64 ((w64 (k_1+1))+1))⟩:SFile)))
  else none
  else none
  else none
 else
  some (k_1,a_0r1)
noncomputable def Jh:Nat→Wu→Option (Int×(List SFile))
 | 0,_=>none
 | m+1,s=>O0 PY (Jh m) s
noncomputable def Xu:HAE:=IAE PY (Jh gas)
theorem GAT:Tells ctx PP 110 cv64 cv65 (fun a=>Xu a.1 a.2):=
 have b:∀ z0,CutIs ctx PP 110 Tryz.f110 [1] [(161,Tf z0)] cv65 AAK (O0 z0):=fun z0 _ s=>by cases s <;> kernel_rfl
 have e:∀ z0,EntryIs ctx PP 110 [1] [(161,Tf z0)] cv64 cv65 AAK (fun k a=>IAE z0 k a.1 a.2):=fun z0 _ a=>by kernel_rfl
 fn_ok (hc Zz hl_nil) Tryz.func110 (fun s s' h=>by cases s;cases s';cases h;rfl) (fun _=>rfl) (fun _ _=>rfl) (b PY) (e PY) gas
noncomputable def IAT {γ:Type} (F:HAE):Hd ctx γ:=hdl cv64.dec (fun a=>F a.1 a.2) cv65.enc
abbrev JAE:=SDisk→Int→Option (Int×(List SFile))
noncomputable def KAE (z0:HAE) (a_0:SDisk) (k_1:Int):Option (Int×(List SFile)):=
 (z0 a_0.fFiles k_1).bind fun r0=>
 some (r0.1,r0.2)
noncomputable def Yu:JAE:=KAE Xu
theorem JAT:Tells ctx PP 37 cv42 cv65 (fun a=>Yu a.1 a.2):=fn_ok0 (hc GAT hl_nil) Tryz.func37 ((fun z0 a=>by kernel_rfl:∀ z0,EntryIs0 ctx PP 37 [1] [(110,IAT z0)] cv42 cv65 fun a=>KAE z0 a.1 a.2) Xu)
noncomputable def KAT {γ:Type} (F:JAE):Hd ctx γ:=hdl cv42.dec (fun a=>F a.1 a.2) cv65.enc
abbrev LAE:=(List SThing)→Int→Option (Int×(List SThing))
inductive Zu where
 | c0 (k_1:Int) (i_5:Int) (a_0r1:(List SThing))
 | c1 (k_1:Int) (i_5:Int) (a_0r1:(List SThing))
 | c2 (k_1:Int) (i_5:Int) (a_0r1:(List SThing))
 | c3 (k_1:Int) (i_5:Int) (a_0r1:(List SThing))
 | c4 (k_1:Int) (i_5:Int) (a_0r1:(List SThing))
 | c5 (k_1:Int) (i_5:Int) (a_0r1:(List SThing))
 | c6 (k_1:Int) (i_5:Int) (a_0r1:(List SThing))
 | c7 (k_1:Int) (i_5:Int) (a_0r1:(List SThing))
noncomputable def BAK:Zu→LI
 | .c0 k_1 i_5 a_0r1=>(tdo Tryz.f111 208,[(0,[.one (.own 1)]),(1,[.one (.int .i64 k_1)]),(5,[.one (.int .i64 i_5)])],[(1,.io 69 a_0r1)])
 | .c1 k_1 i_5 a_0r1=>(tdo Tryz.f111 3366,[(0,[.one (.own 1)]),(1,[.one (.int .i64 k_1)]),(5,[.one (.int .i64 i_5)])],[(1,.io 69 a_0r1)])
 | .c2 k_1 i_5 a_0r1=>(tdo Tryz.f111 13470,[(0,[.one (.own 1)]),(1,[.one (.int .i64 k_1)]),(5,[.one (.int .i64 i_5)])],[(1,.io 69 a_0r1)])
 | .c3 k_1 i_5 a_0r1=>(tdo Tryz.f111 53886,[(0,[.one (.own 1)]),(1,[.one (.int .i64 k_1)]),(5,[.one (.int .i64 i_5)])],[(1,.io 69 a_0r1)])
 | .c4 k_1 i_5 a_0r1=>(tdo Tryz.f111 215550,[(0,[.one (.own 1)]),(1,[.one (.int .i64 k_1)]),(5,[.one (.int .i64 i_5)])],[(1,.io 69 a_0r1)])
 | .c5 k_1 i_5 a_0r1=>(tdo Tryz.f111 862206,[(0,[.one (.own 1)]),(1,[.one (.int .i64 k_1)]),(5,[.one (.int .i64 i_5)])],[(1,.io 69 a_0r1)])
 | .c6 k_1 i_5 a_0r1=>(tdo Tryz.f111 3448830,[(0,[.one (.own 1)]),(1,[.one (.int .i64 k_1)]),(5,[.one (.int .i64 i_5)])],[(1,.io 69 a_0r1)])
 | .c7 k_1 i_5 a_0r1=>(tdo Tryz.f111 13795326,[(0,[.one (.own 1)]),(1,[.one (.int .i64 k_1)]),(5,[.one (.int .i64 i_5)])],[(1,.io 69 a_0r1)])
noncomputable def MAE (z0:Tc) (k:Zu→Option (Int×(List SThing))) (a_0:(List SThing)) (k_1:Int):Option (Int×(List SThing)):=
 k (.c0 k_1 0 a_0)
noncomputable def Vb (z0:Tc) (k:Zu→Option (Int×(List SThing))):Zu→Option (Int×(List SThing))
 | .c0 k_1 i_5 a_0r1=>
 bif (decide (i_5<(a_0r1.length:Int))) then
  bif ((decide (0≤i_5)) && (decide (i_5<(a_0r1.length:Int)))) then
  k (.c1 (w64 (k_1+1)) i_5 (a_0r1.set i_5.toNat (⟨k_1,(a_0r1.getD i_5.toNat (⟨0,0,false,false,false,false,⟨#[]⟩,0⟩:SThing)).fKind,(a_0r1.getD i_5.toNat (⟨0,0,false,false,false,false,⟨#[]⟩,0⟩:SThing)).fHidden,(a_0r1.getD i_5.toNat (⟨0,0,false,false,false,false,⟨#[]⟩,0⟩:SThing)).fFixed,(a_0r1.getD i_5.toNat (⟨0,0,false,false,false,false,⟨#[]⟩,0⟩:SThing)).fSigns,(a_0r1.getD i_5.toNat (⟨0,0,false,false,false,false,⟨#[]⟩,0⟩:SThing)).fWraps,(a_0r1.getD i_5.toNat (⟨0,0,false,false,false,false,⟨#[]⟩,0⟩:SThing)).fValue,(a_0r1.getD i_5.toNat (⟨0,0,false,false,false,false,⟨#[]⟩,0⟩:SThing)).fNext⟩:SThing)))
  else none
 else
  some (k_1,a_0r1)
 | .c1 k_1 i_5 a_0r1=>
 bif ((decide (0≤i_5)) && (decide (i_5<(a_0r1.length:Int)))) then
 k (.c2 (w64 (k_1+1)) i_5 (a_0r1.set i_5.toNat (⟨(a_0r1.getD i_5.toNat (⟨0,0,false,false,false,false,⟨#[]⟩,0⟩:SThing)).fId,k_1,(a_0r1.getD i_5.toNat (⟨0,0,false,false,false,false,⟨#[]⟩,0⟩:SThing)).fHidden,(a_0r1.getD i_5.toNat (⟨0,0,false,false,false,false,⟨#[]⟩,0⟩:SThing)).fFixed,(a_0r1.getD i_5.toNat (⟨0,0,false,false,false,false,⟨#[]⟩,0⟩:SThing)).fSigns,(a_0r1.getD i_5.toNat (⟨0,0,false,false,false,false,⟨#[]⟩,0⟩:SThing)).fWraps,(a_0r1.getD i_5.toNat (⟨0,0,false,false,false,false,⟨#[]⟩,0⟩:SThing)).fValue,(a_0r1.getD i_5.toNat (⟨0,0,false,false,false,false,⟨#[]⟩,0⟩:SThing)).fNext⟩:SThing)))
 else none
 | .c2 k_1 i_5 a_0r1=>
 bif ((decide (0≤i_5)) && (decide (i_5<(a_0r1.length:Int)))) then
 k (.c3 (w64 (k_1+1)) i_5 (a_0r1.set i_5.toNat (⟨(a_0r1.getD i_5.toNat (⟨0,0,false,false,false,false,⟨#[]⟩,0⟩:SThing)).fId,(a_0r1.getD i_5.toNat (⟨0,0,false,false,false,false,⟨#[]⟩,0⟩:SThing)).fKind,((k_1.tmod 3) == 0),(a_0r1.getD i_5.toNat (⟨0,0,false,false,false,false,⟨#[]⟩,0⟩:SThing)).fFixed,(a_0r1.getD i_5.toNat (⟨0,0,false,false,false,false,⟨#[]⟩,0⟩:SThing)).fSigns,(a_0r1.getD i_5.toNat (⟨0,0,false,false,false,false,⟨#[]⟩,0⟩:SThing)).fWraps,(a_0r1.getD i_5.toNat (⟨0,0,false,false,false,false,⟨#[]⟩,0⟩:SThing)).fValue,(a_0r1.getD i_5.toNat (⟨0,0,false,false,false,false,⟨#[]⟩,0⟩:SThing)).fNext⟩:SThing)))
 else none
 | .c3 k_1 i_5 a_0r1=>
 bif ((decide (0≤i_5)) && (decide (i_5<(a_0r1.length:Int)))) then
 k (.c4 (w64 (k_1+1)) i_5 (a_0r1.set i_5.toNat (⟨(a_0r1.getD i_5.toNat (⟨0,0,false,false,false,false,⟨#[]⟩,0⟩:SThing)).fId,(a_0r1.getD i_5.toNat (⟨0,0,false,false,false,false,⟨#[]⟩,0⟩:SThing)).fKind,(a_0r1.getD i_5.toNat (⟨0,0,false,false,false,false,⟨#[]⟩,0⟩:SThing)).fHidden,((k_1.tmod 3) == 0),(a_0r1.getD i_5.toNat (⟨0,0,false,false,false,false,⟨#[]⟩,0⟩:SThing)).fSigns,(a_0r1.getD i_5.toNat (⟨0,0,false,false,false,false,⟨#[]⟩,0⟩:SThing)).fWraps,(a_0r1.getD i_5.toNat (⟨0,0,false,false,false,false,⟨#[]⟩,0⟩:SThing)).fValue,(a_0r1.getD i_5.toNat (⟨0,0,false,false,false,false,⟨#[]⟩,0⟩:SThing)).fNext⟩:SThing)))
 else none
 | .c4 k_1 i_5 a_0r1=>
 bif ((decide (0≤i_5)) && (decide (i_5<(a_0r1.length:Int)))) then
 k (.c5 (w64 (k_1+1)) i_5 (a_0r1.set i_5.toNat (⟨(a_0r1.getD i_5.toNat (⟨0,0,false,false,false,false,⟨#[]⟩,0⟩:SThing)).fId,(a_0r1.getD i_5.toNat (⟨0,0,false,false,false,false,⟨#[]⟩,0⟩:SThing)).fKind,(a_0r1.getD i_5.toNat (⟨0,0,false,false,false,false,⟨#[]⟩,0⟩:SThing)).fHidden,(a_0r1.getD i_5.toNat (⟨0,0,false,false,false,false,⟨#[]⟩,0⟩:SThing)).fFixed,((k_1.tmod 3) == 0),(a_0r1.getD i_5.toNat (⟨0,0,false,false,false,false,⟨#[]⟩,0⟩:SThing)).fWraps,(a_0r1.getD i_5.toNat (⟨0,0,false,false,false,false,⟨#[]⟩,0⟩:SThing)).fValue,(a_0r1.getD i_5.toNat (⟨0,0,false,false,false,false,⟨#[]⟩,0⟩:SThing)).fNext⟩:SThing)))
 else none
 | .c5 k_1 i_5 a_0r1=>
 bif ((decide (0≤i_5)) && (decide (i_5<(a_0r1.length:Int)))) then
 k (.c6 (w64 (k_1+1)) i_5 (a_0r1.set i_5.toNat (⟨(a_0r1.getD i_5.toNat (⟨0,0,false,false,false,false,⟨#[]⟩,0⟩:SThing)).fId,(a_0r1.getD i_5.toNat (⟨0,0,false,false,false,false,⟨#[]⟩,0⟩:SThing)).fKind,(a_0r1.getD i_5.toNat (⟨0,0,false,false,false,false,⟨#[]⟩,0⟩:SThing)).fHidden,(a_0r1.getD i_5.toNat (⟨0,0,false,false,false,false,⟨#[]⟩,0⟩:SThing)).fFixed,(a_0r1.getD i_5.toNat (⟨0,0,false,false,false,false,⟨#[]⟩,0⟩:SThing)).fSigns,((k_1.tmod 3) == 0),(a_0r1.getD i_5.toNat (⟨0,0,false,false,false,false,⟨#[]⟩,0⟩:SThing)).fValue,(a_0r1.getD i_5.toNat (⟨0,0,false,false,false,false,⟨#[]⟩,0⟩:SThing)).fNext⟩:SThing)))
 else none
 | .c6 k_1 i_5 a_0r1=>
 (z0 k_1).bind fun r0=>
 bif ((decide (0≤i_5)) && (decide (i_5<(a_0r1.length:Int)))) then
 k (.c7 (w64 (k_1+1)) i_5 (a_0r1.set i_5.toNat (⟨(a_0r1.getD i_5.toNat (⟨0,0,false,false,false,false,⟨#[]⟩,0⟩:SThing)).fId,(a_0r1.getD i_5.toNat (⟨0,0,false,false,false,false,⟨#[]⟩,0⟩:SThing)).fKind,(a_0r1.getD i_5.toNat (⟨0,0,false,false,false,false,⟨#[]⟩,0⟩:SThing)).fHidden,(a_0r1.getD i_5.toNat (⟨0,0,false,false,false,false,⟨#[]⟩,0⟩:SThing)).fFixed,(a_0r1.getD i_5.toNat (⟨0,0,false,false,false,false,⟨#[]⟩,0⟩:SThing)).fSigns,(a_0r1.getD i_5.toNat (⟨0,0,false,false,false,false,⟨#[]⟩,0⟩:SThing)).fWraps,r0,(a_0r1.getD i_5.toNat (⟨0,0,false,false,false,false,⟨#[]⟩,0⟩:SThing)).fNext⟩:SThing)))
 else none
 | .c7 k_1 i_5 a_0r1=>
 bif ((decide (0≤i_5)) && (decide (i_5<(a_0r1.length:Int)))) then
 k (.c0 (w64 (k_1+1)) (w64 (i_5+1)) (a_0r1.set i_5.toNat (⟨(a_0r1.getD i_5.toNat (⟨0,0,false,false,false,false,⟨#[]⟩,0⟩:SThing)).fId,(a_0r1.getD i_5.toNat (⟨0,0,false,false,false,false,⟨#[]⟩,0⟩:SThing)).fKind,(a_0r1.getD i_5.toNat (⟨0,0,false,false,false,false,⟨#[]⟩,0⟩:SThing)).fHidden,(a_0r1.getD i_5.toNat (⟨0,0,false,false,false,false,⟨#[]⟩,0⟩:SThing)).fFixed,(a_0r1.getD i_5.toNat (⟨0,0,false,false,false,false,⟨#[]⟩,0⟩:SThing)).fSigns,(a_0r1.getD i_5.toNat (⟨0,0,false,false,false,false,⟨#[]⟩,0⟩:SThing)).fWraps,(a_0r1.getD i_5.toNat (⟨0,0,false,false,false,false,⟨#[]⟩,0⟩:SThing)).fValue,k_1⟩:SThing)))
 else none
noncomputable def XZ:Nat→Zu→Option (Int×(List SThing))
 | 0,_=>none
 | m+1,s=>Vb PY (XZ m) s
noncomputable def Bv:LAE:=MAE PY (XZ gas)
theorem LAT:Tells ctx PP 111 cv66 cv67 (fun a=>Bv a.1 a.2):=
 have b:∀ z0,CutIs ctx PP 111 Tryz.f111 [1] [(161,Tf z0)] cv67 BAK (Vb z0):=fun z0 _ s=>by cases s <;> kernel_rfl
 have e:∀ z0,EntryIs ctx PP 111 [1] [(161,Tf z0)] cv66 cv67 BAK (fun k a=>MAE z0 k a.1 a.2):=fun z0 _ a=>by kernel_rfl
 fn_ok (hc Zz hl_nil) Tryz.func111 (fun s s' h=>by cases s <;> cases s' <;> first | (cases h;done) | (cases h;rfl) | exact (rg_ne h (by kernel_rfl)).elim) (fun _=>rfl) (fun _ _=>rfl) (b PY) (e PY) gas
noncomputable def MAT {γ:Type} (F:LAE):Hd ctx γ:=hdl cv66.dec (fun a=>F a.1 a.2) cv67.enc
abbrev NAE:=SBook→Int→Option (Int×(List SThing))
noncomputable def OAE (z0:LAE) (a_0:SBook) (k_1:Int):Option (Int×(List SThing)):=
 (z0 a_0.fThings k_1).bind fun r0=>
 some (r0.1,r0.2)
noncomputable def Dv:NAE:=OAE Bv
theorem NAT:Tells ctx PP 38 cv68 cv69 (fun a=>Dv a.1 a.2):=fn_ok0 (hc LAT hl_nil) Tryz.func38 ((fun z0 a=>by kernel_rfl:∀ z0,EntryIs0 ctx PP 38 [1] [(111,MAT z0)] cv68 cv69 fun a=>OAE z0 a.1 a.2) Bv)
noncomputable def OAT {γ:Type} (F:NAE):Hd ctx γ:=hdl cv68.dec (fun a=>F a.1 a.2) cv69.enc
abbrev PAE:=(List SSession)→Int→Option (Int×(List SSession))
inductive Fv where
 | c0 (k_1:Int) (i_5:Int) (a_0r1:(List SSession))
noncomputable def CAK:Fv→LI
 | .c0 k_1 i_5 a_0r1=>(tdo Tryz.f39 208,[(0,[.one (.own 1)]),(1,[.one (.int .i64 k_1)]),(5,[.one (.int .i64 i_5)])],[(1,.io 92 a_0r1)])
noncomputable def QAE (k:Fv→Option (Int×(List SSession))) (a_0:(List SSession)) (k_1:Int):Option (Int×(List SSession)):=
 k (.c0 k_1 0 a_0)
noncomputable def U0 (k:Fv→Option (Int×(List SSession))):Fv→Option (Int×(List SSession))
 | .c0 k_1 i_5 a_0r1=>
 bif (decide (i_5<(a_0r1.length:Int))) then
  bif ((decide (0≤i_5)) && (decide (i_5<(a_0r1.length:Int)))) then
  bif ((decide (0≤i_5)) && (decide (i_5<((a_0r1.set i_5.toNat (⟨k_1,(a_0r1.getD i_5.toNat (⟨0,false⟩:SSession)).fIn⟩:SSession)).length:Int)))) then
  k (.c0 (w64 ((w64 (k_1+1))+1)) (w64 (i_5+1)) ((a_0r1.set i_5.toNat (⟨k_1,(a_0r1.getD i_5.toNat (⟨0,false⟩:SSession)).fIn⟩:SSession)).set i_5.toNat (⟨((a_0r1.set i_5.toNat (⟨k_1,(a_0r1.getD i_5.toNat (⟨0,false⟩:SSession)).fIn⟩:SSession)).getD i_5.toNat (⟨0,false⟩:SSession)).fId,(((w64 (k_1+1)).tmod 3) == 0)⟩:SSession)))
  else none
  else none
 else
  some (k_1,a_0r1)
noncomputable def Lh:Nat→Fv→Option (Int×(List SSession))
 | 0,_=>none
 | m+1,s=>U0 (Lh m) s
noncomputable def Gv:PAE:=QAE (Lh gas)
theorem QAT:Tells ctx PP 39 cv70 cv71 (fun a=>Gv a.1 a.2):=
 have b:CutIs ctx PP 39 Tryz.f39 [1] [] cv71 CAK (U0):=fun _ s=>by cases s <;> kernel_rfl
 have e:EntryIs ctx PP 39 [1] [] cv70 cv71 CAK (fun k a=>QAE k a.1 a.2):=fun _ a=>by kernel_rfl
 fn_ok hl_nil Tryz.func39 (fun s s' h=>by cases s;cases s';cases h;rfl) (fun _=>rfl) (fun _ _=>rfl) b e gas
noncomputable def TAT {γ:Type} (F:PAE):Hd ctx γ:=hdl cv70.dec (fun a=>F a.1 a.2) cv71.enc
abbrev RAE:=(List SLive)→Int→Option (Int×(List SLive))
inductive Jv where
 | c0 (k_1:Int) (i_5:Int) (a_0r1:(List SLive))
noncomputable def DAK:Jv→LI
 | .c0 k_1 i_5 a_0r1=>(tdo Tryz.f40 208,[(0,[.one (.own 1)]),(1,[.one (.int .i64 k_1)]),(5,[.one (.int .i64 i_5)])],[(1,.io 149 a_0r1)])
noncomputable def SAE (k:Jv→Option (Int×(List SLive))) (a_0:(List SLive)) (k_1:Int):Option (Int×(List SLive)):=
 k (.c0 k_1 0 a_0)
noncomputable def X0 (k:Jv→Option (Int×(List SLive))):Jv→Option (Int×(List SLive))
 | .c0 k_1 i_5 a_0r1=>
 bif (decide (i_5<(a_0r1.length:Int))) then
  bif ((decide (0≤i_5)) && (decide (i_5<(a_0r1.length:Int)))) then
  bif ((decide (0≤i_5)) && (decide (i_5<((a_0r1.set i_5.toNat (⟨k_1,(a_0r1.getD i_5.toNat (⟨0,0⟩:SLive)).fNext⟩:SLive)).length:Int)))) then
  k (.c0 (w64 ((w64 (k_1+1))+1)) (w64 (i_5+1)) ((a_0r1.set i_5.toNat (⟨k_1,(a_0r1.getD i_5.toNat (⟨0,0⟩:SLive)).fNext⟩:SLive)).set i_5.toNat (⟨((a_0r1.set i_5.toNat (⟨k_1,(a_0r1.getD i_5.toNat (⟨0,0⟩:SLive)).fNext⟩:SLive)).getD i_5.toNat (⟨0,0⟩:SLive)).fId,(w64 (k_1+1))⟩:SLive)))
  else none
  else none
 else
  some (k_1,a_0r1)
noncomputable def Nh:Nat→Jv→Option (Int×(List SLive))
 | 0,_=>none
 | m+1,s=>X0 (Nh m) s
noncomputable def Kv:RAE:=SAE (Nh gas)
theorem UAT:Tells ctx PP 40 cv72 cv73 (fun a=>Kv a.1 a.2):=
 have b:CutIs ctx PP 40 Tryz.f40 [1] [] cv73 DAK (X0):=fun _ s=>by cases s <;> kernel_rfl
 have e:EntryIs ctx PP 40 [1] [] cv72 cv73 DAK (fun k a=>SAE k a.1 a.2):=fun _ a=>by kernel_rfl
 fn_ok hl_nil Tryz.func40 (fun s s' h=>by cases s;cases s';cases h;rfl) (fun _=>rfl) (fun _ _=>rfl) b e gas
noncomputable def VAT {γ:Type} (F:RAE):Hd ctx γ:=hdl cv72.dec (fun a=>F a.1 a.2) cv73.enc
abbrev X5:=SBox→Int→Option (Int×((List SFile)×(List SThing)×(List SSession)×(List SLive)))
noncomputable def TAE (z0:JAE) (z1:NAE) (z2:PAE) (z3:RAE) (a_0:SBox) (k_1:Int):Option (Int×((List SFile)×(List SThing)×(List SSession)×(List SLive))):=
 (z0 a_0.fDisk k_1).bind fun r0=>
 (z1 a_0.fBook r0.1).bind fun r1=>
 (z2 a_0.fSessions r1.1).bind fun r2=>
 (z3 a_0.fLives r2.1).bind fun r3=>
 some (r3.1,(r0.2,(r1.2,(r2.2,r3.2))))
noncomputable def Ul:X5:=TAE Yu Dv Gv Kv
theorem LAN:Tells ctx PP 11 cv74 cv75 (fun a=>Ul a.1 a.2):=fn_ok0 (hc JAT (hc NAT (hc QAT (hc UAT hl_nil)))) Tryz.func11 ((fun z0 z1 z2 z3 a=>by kernel_rfl:∀ z0 z1 z2 z3,EntryIs0 ctx PP 11 [1,2,3,4] [(37,KAT z0),(38,OAT z1),(39,TAT z2),(40,VAT z3)] cv74 cv75 fun a=>TAE z0 z1 z2 z3 a.1 a.2) Yu Dv Gv Kv)
noncomputable def PAN {γ:Type} (F:X5):Hd ctx γ:=hdl cv74.dec (fun a=>F a.1 a.2) cv75.enc
abbrev UAE:=(List SFile)→Int→Option Int
inductive Nv where
 | c0 (a_0:(List SFile)) (k_1:Int) (i_5:Int)
noncomputable def EAK:Nv→LI
 | .c0 a_0 k_1 i_5=>(tdo Tryz.f112 208,[(0,[.one (.rsl 155 a_0)]),(1,[.one (.int .i64 k_1)]),(5,[.one (.int .i64 i_5)])],[])
noncomputable def VAE (z0:Tc) (k:Nv→Option Int) (a_0:(List SFile)) (k_1:Int):Option Int:=
 k (.c0 a_0 k_1 0)
noncomputable def Y0 (z0:Tc) (k:Nv→Option Int):Nv→Option Int
 | .c0 a_0 k_1 i_5=>
 bif (decide (i_5<(a_0.length:Int))) then
  bif ((decide (0≤i_5)) && (decide (i_5<(a_0.length:Int)))) then
  (z0 k_1).bind fun r0=>
  bif (!((ByteArray.toList (a_0.getD i_5.toNat (⟨⟨#[]⟩,⟨#[]⟩,0⟩:SFile)).fName) == (ByteArray.toList r0))) then
  some (-(1:Int))
  else
  bif ((decide (0≤i_5)) && (decide (i_5<(a_0.length:Int)))) then
  (z0 (w64 (k_1+1))).bind fun r1=>
  bif (!((ByteArray.toList (a_0.getD i_5.toNat (⟨⟨#[]⟩,⟨#[]⟩,0⟩:SFile)).fText) == (ByteArray.toList r1))) then
   some (-(1:Int))
  else
   bif ((decide (0≤i_5)) && (decide (i_5<(a_0.length:Int)))) then
   bif ((a_0.getD i_5.toNat (⟨⟨#[]⟩,⟨#[]⟩,0⟩:SFile)).fKept != (w64 ((w64 (k_1+1))+1))) then
   some (-(1:Int))
   else
   k (.c0 a_0 (w64 ((w64 ((w64 (k_1+1))+1))+1)) (w64 (i_5+1)))
   else none
  else none
  else none
 else
  some k_1
noncomputable def Oh:Nat→Nv→Option Int
 | 0,_=>none
 | m+1,s=>Y0 PY (Oh m) s
noncomputable def Ov:UAE:=VAE PY (Oh gas)
theorem WAT:Tells ctx PP 112 cv76 cv15 (fun a=>Ov a.1 a.2):=
 have b:∀ z0,CutIs ctx PP 112 Tryz.f112 [] [(161,Tf z0)] cv15 EAK (Y0 z0):=fun z0 _ s=>by cases s <;> kernel_rfl
 have e:∀ z0,EntryIs ctx PP 112 [] [(161,Tf z0)] cv76 cv15 EAK (fun k a=>VAE z0 k a.1 a.2):=fun z0 _ a=>by kernel_rfl
 fn_ok (hc Zz hl_nil) Tryz.func112 (fun s s' h=>by cases s;cases s';cases h;rfl) (fun _=>rfl) (fun _ _=>rfl) (b PY) (e PY) gas
noncomputable def XAT {γ:Type} (F:UAE):Hd ctx γ:=hdl cv76.dec (fun a=>F a.1 a.2) cv15.enc
abbrev I5:=SDisk→Int→Option Int
noncomputable def WAE (z0:UAE) (a_0:SDisk) (k_1:Int):Option Int:=
 (z0 a_0.fFiles k_1).bind fun r0=>
 bif (decide (r0<0)) then
 some (-(1:Int))
 else
 some r0
noncomputable def Ll:I5:=WAE Ov
theorem AAN:Tells ctx PP 41 cv77 cv15 (fun a=>Ll a.1 a.2):=fn_ok0 (hc WAT hl_nil) Tryz.func41 ((fun z0 a=>by kernel_rfl:∀ z0,EntryIs0 ctx PP 41 [] [(112,XAT z0)] cv77 cv15 fun a=>WAE z0 a.1 a.2) Ov)
noncomputable def EAN {γ:Type} (F:I5):Hd ctx γ:=hdl cv77.dec (fun a=>F a.1 a.2) cv15.enc
abbrev XAE:=(List SThing)→Int→Option Int
inductive Pv where
 | c0 (a_0:(List SThing)) (k_1:Int) (i_5:Int)
noncomputable def FAK:Pv→LI
 | .c0 a_0 k_1 i_5=>(tdo Tryz.f113 208,[(0,[.one (.rsl 69 a_0)]),(1,[.one (.int .i64 k_1)]),(5,[.one (.int .i64 i_5)])],[])
noncomputable def YAE (z0:Tc) (k:Pv→Option Int) (a_0:(List SThing)) (k_1:Int):Option Int:=
 k (.c0 a_0 k_1 0)
noncomputable def O1 (z0:Tc) (k:Pv→Option Int):Pv→Option Int
 | .c0 a_0 k_1 i_5=>
 bif (decide (i_5<(a_0.length:Int))) then
  bif ((decide (0≤i_5)) && (decide (i_5<(a_0.length:Int)))) then
  bif ((a_0.getD i_5.toNat (⟨0,0,false,false,false,false,⟨#[]⟩,0⟩:SThing)).fId != k_1) then
  some (-(1:Int))
  else
  bif ((decide (0≤i_5)) && (decide (i_5<(a_0.length:Int)))) then
  bif ((a_0.getD i_5.toNat (⟨0,0,false,false,false,false,⟨#[]⟩,0⟩:SThing)).fKind != (w64 (k_1+1))) then
   some (-(1:Int))
  else
   bif ((decide (0≤i_5)) && (decide (i_5<(a_0.length:Int)))) then
   bif (!((a_0.getD i_5.toNat (⟨0,0,false,false,false,false,⟨#[]⟩,0⟩:SThing)).fHidden == (((w64 ((w64 (k_1+1))+1)).tmod 3) == 0))) then
   some (-(1:Int))
   else
   bif ((decide (0≤i_5)) && (decide (i_5<(a_0.length:Int)))) then
   bif (!((a_0.getD i_5.toNat (⟨0,0,false,false,false,false,⟨#[]⟩,0⟩:SThing)).fFixed == (((w64 ((w64 ((w64 (k_1+1))+1))+1)).tmod 3) == 0))) then
    some (-(1:Int))
   else
    bif ((decide (0≤i_5)) && (decide (i_5<(a_0.length:Int)))) then
    bif (!((a_0.getD i_5.toNat (⟨0,0,false,false,false,false,⟨#[]⟩,0⟩:SThing)).fSigns == (((w64 ((w64 ((w64 ((w64 (k_1+1))+1))+1))+1)).tmod 3) == 0))) then
    some (-(1:Int))
    else
    bif ((decide (0≤i_5)) && (decide (i_5<(a_0.length:Int)))) then
    bif (!((a_0.getD i_5.toNat (⟨0,0,false,false,false,false,⟨#[]⟩,0⟩:SThing)).fWraps == (((w64 ((w64 ((w64 ((w64 ((w64 (k_1+1))+1))+1))+1))+1)).tmod 3) == 0))) then
     some (-(1:Int))
    else
     bif ((decide (0≤i_5)) && (decide (i_5<(a_0.length:Int)))) then
     (z0 (w64 ((w64 ((w64 ((w64 ((w64 ((w64 (k_1+1))+1))+1))+1))+1))+1))).bind fun r0=>
     bif (!((ByteArray.toList (a_0.getD i_5.toNat (⟨0,0,false,false,false,false,⟨#[]⟩,0⟩:SThing)).fValue) == (ByteArray.toList r0))) then
     some (-(1:Int))
     else
     bif ((decide (0≤i_5)) && (decide (i_5<(a_0.length:Int)))) then
     bif ((a_0.getD i_5.toNat (⟨0,0,false,false,false,false,⟨#[]⟩,0⟩:SThing)).fNext != (w64 ((w64 ((w64 ((w64 ((w64 ((w64 ((w64 (k_1+1))+1))+1))+1))+1))+1))+1))) then
      some (-(1:Int))
     else
      k (.c0 a_0 (w64 ((w64 ((w64 ((w64 ((w64 ((w64 ((w64 ((w64 (k_1+1))+1))+1))+1))+1))+1))+1))+1)) (w64 (i_5+1)))
     else none
     else none
    else none
    else none
   else none
   else none
  else none
  else none
 else
  some k_1
noncomputable def Ph:Nat→Pv→Option Int
 | 0,_=>none
 | m+1,s=>O1 PY (Ph m) s
noncomputable def Qv:XAE:=YAE PY (Ph gas)
theorem YAT:Tells ctx PP 113 cv78 cv15 (fun a=>Qv a.1 a.2):=
 have b:∀ z0,CutIs ctx PP 113 Tryz.f113 [] [(161,Tf z0)] cv15 FAK (O1 z0):=fun z0 _ s=>by cases s <;> kernel_rfl
 have e:∀ z0,EntryIs ctx PP 113 [] [(161,Tf z0)] cv78 cv15 FAK (fun k a=>YAE z0 k a.1 a.2):=fun z0 _ a=>by kernel_rfl
 fn_ok (hc Zz hl_nil) Tryz.func113 (fun s s' h=>by cases s;cases s';cases h;rfl) (fun _=>rfl) (fun _ _=>rfl) (b PY) (e PY) gas
noncomputable def ZAT {γ:Type} (F:XAE):Hd ctx γ:=hdl cv78.dec (fun a=>F a.1 a.2) cv15.enc
abbrev J5:=SBook→Int→Option Int
noncomputable def ZAE (z0:XAE) (a_0:SBook) (k_1:Int):Option Int:=
 (z0 a_0.fThings k_1).bind fun r0=>
 bif (decide (r0<0)) then
 some (-(1:Int))
 else
 some r0
noncomputable def Nl:J5:=ZAE Qv
theorem BAN:Tells ctx PP 42 cv21 cv15 (fun a=>Nl a.1 a.2):=fn_ok0 (hc YAT hl_nil) Tryz.func42 ((fun z0 a=>by kernel_rfl:∀ z0,EntryIs0 ctx PP 42 [] [(113,ZAT z0)] cv21 cv15 fun a=>ZAE z0 a.1 a.2) Qv)
noncomputable def FAN {γ:Type} (F:J5):Hd ctx γ:=hdl cv21.dec (fun a=>F a.1 a.2) cv15.enc
abbrev O5:=(List SSession)→Int→Option Int
inductive Sv where
 | c0 (a_0:(List SSession)) (k_1:Int) (i_5:Int)
noncomputable def GAK:Sv→LI
 | .c0 a_0 k_1 i_5=>(tdo Tryz.f43 208,[(0,[.one (.rsl 92 a_0)]),(1,[.one (.int .i64 k_1)]),(5,[.one (.int .i64 i_5)])],[])
noncomputable def AAF (k:Sv→Option Int) (a_0:(List SSession)) (k_1:Int):Option Int:=
 k (.c0 a_0 k_1 0)
noncomputable def U1 (k:Sv→Option Int):Sv→Option Int
 | .c0 a_0 k_1 i_5=>
 bif (decide (i_5<(a_0.length:Int))) then
  bif ((decide (0≤i_5)) && (decide (i_5<(a_0.length:Int)))) then
  bif ((a_0.getD i_5.toNat (⟨0,false⟩:SSession)).fId != k_1) then
  some (-(1:Int))
  else
  bif ((decide (0≤i_5)) && (decide (i_5<(a_0.length:Int)))) then
  bif (!((a_0.getD i_5.toNat (⟨0,false⟩:SSession)).fIn == (((w64 (k_1+1)).tmod 3) == 0))) then
   some (-(1:Int))
  else
   k (.c0 a_0 (w64 ((w64 (k_1+1))+1)) (w64 (i_5+1)))
  else none
  else none
 else
  some k_1
noncomputable def Qh:Nat→Sv→Option Int
 | 0,_=>none
 | m+1,s=>U1 (Qh m) s
noncomputable def Ol:O5:=AAF (Qh gas)
theorem DAN:Tells ctx PP 43 cv79 cv15 (fun a=>Ol a.1 a.2):=
 have b:CutIs ctx PP 43 Tryz.f43 [] [] cv15 GAK (U1):=fun _ s=>by cases s <;> kernel_rfl
 have e:EntryIs ctx PP 43 [] [] cv79 cv15 GAK (fun k a=>AAF k a.1 a.2):=fun _ a=>by kernel_rfl
 fn_ok hl_nil Tryz.func43 (fun s s' h=>by cases s;cases s';cases h;rfl) (fun _=>rfl) (fun _ _=>rfl) b e gas
noncomputable def GAN {γ:Type} (F:O5):Hd ctx γ:=hdl cv79.dec (fun a=>F a.1 a.2) cv15.enc
end Go.Proofs.YthfpmhalgimbbaaGreatDoor.G

/- Functions of the program, told by plain functions: part 1 of 1. -/
import Derived.Test.YtjfkbidckphneaaDoorCtx
namespace Go.Proofs.YtjfkbidckphneaaDoor.G
open Go Go.Ev
set_option linter.unusedVariables false
set_option linter.unusedSectionVars false
variable [PC]
abbrev Xl:=Unit→Option Bool
noncomputable def Py (code_0:Unit):Option Bool:=
 some (decide ((codeL.length:Int) > 1048576))
noncomputable def Gf:Xl:=Py
theorem U9:Tells ctx PP 9 cv0 cv1 (fun a=>Gf a):=fn_ok0 hl_nil Tryd.func9 (fun a=>by kernel_rfl:EntryIs0 ctx PP 9 [] [] cv0 cv1 fun a=>Py a)
noncomputable def Qy {γ:Type} (F:Xl):Hd ctx γ:=hdl cv0.dec (fun a=>F a) cv1.enc
abbrev Jq:=Unit→Option SL01Cur
inductive Dh where
 | c0 (h_3:Int) (i_4:Int)
noncomputable def Ry:Dh→LI
 | .c0 h_3 i_4=>(tdo Tryd.f53 464,[(0,[.one (.csl)]),(3,[.one (.int .i64 h_3)]),(4,[.one (.int .i64 i_4)])],[])
noncomputable def Kq (k:Dh→Option SL01Cur) (code_0:Unit):Option SL01Cur:=
 k (.c0 (w64 (27401+(codeL.length:Int))) 0)
noncomputable def Yl (k:Dh→Option SL01Cur):Dh→Option SL01Cur
 | .c0 h_3 i_4=>
 bif (decide (i_4<(codeL.length:Int))) then
  bif (decide (i_4<4000)) then
  bif ((decide (0≤i_4)) && (decide (i_4<(codeL.length:Int)))) then
  bif (Nat.blt i_4.toNat codeL.length) then
  k (.c0 (w64 (((BitVec.toNat ((BitVec.ofInt (IntKind.bits IntKind.i64) (w64 ((w64 ((w64 (h_3*131))+(w64 (codeL.getD i_4.toNat 0))))+7))) &&& (BitVec.ofInt (IntKind.bits IntKind.i64) 1073741823))):Nat):Int)) (w64 (i_4+1)))
  else none
  else none
  else
  some ⟨(),0,h_3⟩
 else
  some ⟨(),0,h_3⟩
noncomputable def Eh:Nat→Dh→Option SL01Cur
 | 0,_=>none
 | m+1,s=>Yl (Eh m) s
noncomputable def Fh:Jq:=Kq (Eh gas)
theorem V9:Tells ctx PP 53 cv0 cv2 (fun a=>Fh a):=
 have b:CutIs ctx PP 53 Tryd.f53 [] [] cv2 Ry (Yl):=fun _ s=>by cases s <;> kernel_rfl
 have e:EntryIs ctx PP 53 [] [] cv0 cv2 Ry (fun k a=>Kq k a):=fun _ a=>by kernel_rfl
 fn_ok hl_nil Tryd.func53 (fun s s' h=>by cases s;cases s';cases h;rfl) (fun _=>rfl) (fun _ _=>rfl) b e gas
noncomputable def W9 {γ:Type} (F:Jq):Hd ctx γ:=hdl cv0.dec (fun a=>F a) cv2.enc
abbrev Nq:=Option (List Int)
noncomputable def Uy  : Option (List Int):=
 some [1779033703,3144134277,1013904242,2773480762,1359893119,2600822924,528734635,1541459225]
noncomputable def Zl:Nq:=Uy
theorem X9:Tells ctx PP 140 cv12 cv19 (fun _=>Zl):=fn_ok0 hl_nil Tryd.func140 (fun _=>by kernel_rfl:EntryIs0 ctx PP 140 [] [] cv12 cv19 fun _=>Uy)
noncomputable def Y9 {γ:Type} (F:Nq):Hd ctx γ:=hdl cv12.dec (fun _=>F) cv19.enc
abbrev Ad:=(List Int)→Option ByteArray
inductive Gh where
 | c0 (words_0:(List Int)) (i_4:Int) (out_3:(List Int))
noncomputable def Vy:Gh→LI
 | .c0 words_0 i_4 out_3=>(tdo Tryd.f139 464,[(0,[.one (.rsl 114 words_0)]),(3,[.one (.own 240)]),(4,[.one (.int .i64 i_4)])],[(240,.sl 5 out_3)])
noncomputable def Wy (k:Gh→Option ByteArray) (words_0:(List Int)):Option ByteArray:=
 k (.c0 words_0 0 [])
noncomputable def Am (k:Gh→Option ByteArray):Gh→Option ByteArray
 | .c0 words_0 i_4 out_3=>
 bif (decide (i_4<(words_0.length:Int))) then
  bif ((decide (0≤i_4)) && (decide (i_4<(words_0.length:Int)))) then
  bif (decide (((out_3.length+4)*1)≤140737488355328)) then
  k (.c0 words_0 (w64 (i_4+1)) (out_3++[(w8 (w32 ((words_0.getD i_4.toNat 0).tdiv 16777216))),(w8 ((w32 ((words_0.getD i_4.toNat 0).tdiv 65536)).tmod 256)),(w8 ((w32 ((words_0.getD i_4.toNat 0).tdiv 256)).tmod 256)),(w8 ((words_0.getD i_4.toNat 0).tmod 256))]))
  else none
  else none
 else
  some (ofBytes out_3)
noncomputable def Ih:Nat→Gh→Option ByteArray
 | 0,_=>none
 | m+1,s=>Am (Ih m) s
noncomputable def UZ:Ad:=Wy (Ih gas)
theorem Oq:Tells ctx PP 139 cv20 cv9 (fun a=>UZ a):=
 have b:CutIs ctx PP 139 Tryd.f139 [] [] cv9 Vy (Am):=fun _ s=>by cases s <;> kernel_rfl
 have e:EntryIs ctx PP 139 [] [] cv20 cv9 Vy (fun k a=>Wy k a):=fun _ a=>by kernel_rfl
 fn_ok hl_nil Tryd.func139 (fun s s' h=>by cases s;cases s';cases h;rfl) (fun _=>rfl) (fun _ _=>rfl) b e gas
noncomputable def Jh {γ:Type} (F:Ad):Hd ctx γ:=hdl cv20.dec (fun a=>F a) cv9.enc
abbrev Pq:=Option SHasher
noncomputable def Qq (z0:Nq) (z1:Ad)  : Option SHasher:=
 z0.bind fun r0=>
 (z1 r0).bind fun r1=>
 some ⟨r1,⟨#[]⟩,0⟩
noncomputable def Lh:Pq:=Qq Zl UZ
theorem Z9:Tells ctx PP 112 cv12 cv21 (fun _=>Lh):=fn_ok0 (hc X9 (hc Oq hl_nil)) Tryd.func112 ((fun z0 z1 _=>by kernel_rfl:∀ z0 z1,EntryIs0 ctx PP 112 [] [(140,Y9 z0),(139,Jh z1)] cv12 cv21 fun _=>Qq z0 z1) Zl UZ)
noncomputable def AAA {γ:Type} (F:Pq):Hd ctx γ:=hdl cv12.dec (fun _=>F) cv21.enc
abbrev Bd:=Int→Int→Int→Option Bool
noncomputable def Xy (x_0:Int) (least_1:Int) (most_2:Int):Option Bool:=
 bif (decide (x_0≥least_1)) then
 some (decide (x_0≤most_2))
 else
 some false
noncomputable def VZ:Bd:=Xy
theorem Cm:Tells ctx PP 63 cv22 cv1 (fun a=>VZ a.1 a.2.1 a.2.2):=fn_ok0 hl_nil Tryd.func63 (fun a=>by kernel_rfl:EntryIs0 ctx PP 63 [] [] cv22 cv1 fun a=>Xy a.1 a.2.1 a.2.2)
noncomputable def Nh {γ:Type} (F:Bd):Hd ctx γ:=hdl cv22.dec (fun a=>F a.1 a.2.1 a.2.2) cv1.enc
abbrev Hf:=SHasher→Option Bool
noncomputable def Rq (z0:Bd) (h_0:SHasher):Option Bool:=
 bif ((h_0.fState.size:Int) == 32) then
 bif (decide ((h_0.fRest.size:Int)<64)) then
  (z0 h_0.fCount 0 1000000000).bind fun r0=>
  bif r0 then
  some ((h_0.fCount.tmod 64) == (h_0.fRest.size:Int))
  else
  some false
 else
  some false
 else
 some false
noncomputable def KZ:Hf:=Rq VZ
theorem Yy:Tells ctx PP 135 cv21 cv1 (fun a=>KZ a):=fn_ok0 (hc Cm hl_nil) Tryd.func135 ((fun z0 a=>by kernel_rfl:∀ z0,EntryIs0 ctx PP 135 [] [(63,Nh z0)] cv21 cv1 fun a=>Rq z0 a) VZ)
noncomputable def Em {γ:Type} (F:Hf):Hd ctx γ:=hdl cv21.dec (fun a=>F a) cv1.enc
abbrev Gm:=ByteArray→Int→Option Int
noncomputable def Tq (s_0:ByteArray) (at_1:Int):Option Int:=
 bif ((decide (0≤at_1)) && (decide (at_1<(s_0.size:Int)))) then
 bif ((decide (0≤(w64 (at_1+1)))) && (decide ((w64 (at_1+1))<(s_0.size:Int)))) then
 bif ((decide (0≤(w64 (at_1+2)))) && (decide ((w64 (at_1+2))<(s_0.size:Int)))) then
 bif ((decide (0≤(w64 (at_1+3)))) && (decide ((w64 (at_1+3))<(s_0.size:Int)))) then
 some (w32 ((w32 ((w32 ((w32 ((w32 (bt s_0 at_1))*16777216))+(w32 ((w32 (bt s_0 (w64 (at_1+1))))*65536))))+(w32 ((w32 (bt s_0 (w64 (at_1+2))))*256))))+(w32 (bt s_0 (w64 (at_1+3))))))
 else none
 else none
 else none
 else none
noncomputable def Ed:Gm:=Tq
theorem BAA:Tells ctx PP 155 cv23 cv15 (fun a=>Ed a.1 a.2):=fn_ok0 hl_nil Tryd.func155 (fun a=>by kernel_rfl:EntryIs0 ctx PP 155 [] [] cv23 cv15 fun a=>Tq a.1 a.2)
noncomputable def Zy {γ:Type} (F:Gm):Hd ctx γ:=hdl cv23.dec (fun a=>F a.1 a.2) cv15.enc
abbrev Dc:=ByteArray→Option (List Int)
inductive Oh where
 | c0 (s_0:ByteArray) (i_4:Int) (out_3:(List Int))
noncomputable def Az:Oh→LI
 | .c0 s_0 i_4 out_3=>(tdo Tryd.f136 464,[(0,[.one (.str s_0)]),(3,[.one (.own 240)]),(4,[.one (.int .i64 i_4)])],[(240,.sl 114 out_3)])
noncomputable def Bz (z0:Gm) (k:Oh→Option (List Int)) (s_0:ByteArray):Option (List Int):=
 k (.c0 s_0 0 [])
noncomputable def Jm (z0:Gm) (k:Oh→Option (List Int)):Oh→Option (List Int)
 | .c0 s_0 i_4 out_3=>
 bif (decide ((w64 (i_4+4))≤(s_0.size:Int))) then
  (z0 s_0 i_4).bind fun r0=>
  bif (decide (((out_3.length+1)*4)≤140737488355328)) then
  k (.c0 s_0 (w64 (i_4+4)) (out_3++[r0]))
  else none
 else
  some out_3
noncomputable def Ph:Nat→Oh→Option (List Int)
 | 0,_=>none
 | m+1,s=>Jm Ed (Ph m) s
noncomputable def DZ:Dc:=Bz Ed (Ph gas)
theorem Vq:Tells ctx PP 136 cv9 cv19 (fun a=>DZ a):=
 have b:∀ z0,CutIs ctx PP 136 Tryd.f136 [] [(155,Zy z0)] cv19 Az (Jm z0):=fun z0 _ s=>by cases s <;> kernel_rfl
 have e:∀ z0,EntryIs ctx PP 136 [] [(155,Zy z0)] cv9 cv19 Az (fun k a=>Bz z0 k a):=fun z0 _ a=>by kernel_rfl
 fn_ok (hc BAA hl_nil) Tryd.func136 (fun s s' h=>by cases s;cases s';cases h;rfl) (fun _=>rfl) (fun _ _=>rfl) (b Ed) (e Ed) gas
noncomputable def Jf {γ:Type} (F:Dc):Hd ctx γ:=hdl cv9.dec (fun a=>F a) cv19.enc
abbrev Rf:=Option (List Int)
noncomputable def Dz  : Option (List Int):=
 some [1116352408,1899447441,3049323471,3921009573,961987163,1508970993,2453635748,2870763221,3624381080,310598401,607225278,1426881987,1925078388,2162078206,2614888103,3248222580,3835390401,4022224774,264347078,604807628,770255983,1249150122,1555081692,1996064986,2554220882,2821834349,2952996808,3210313671,3336571891,3584528711,113926993,338241895,666307205,773529912,1294757372,1396182291,1695183700,1986661051,2177026350,2456956037,2730485921,2820302411,3259730800,3345764771,3516065817,3600352804,4094571909,275423344,430227734,506948616,659060556,883997877,958139571,1322822218,1537002063,1747873779,1955562222,2024104815,2227730452,2361852424,2428436474,2756734187,3204031479,3329325298]
noncomputable def Oa:Rf:=Dz
theorem Ez:Tells ctx PP 137 cv12 cv19 (fun _=>Oa):=fn_ok0 hl_nil Tryd.func137 (fun _=>by kernel_rfl:EntryIs0 ctx PP 137 [] [] cv12 cv19 fun _=>Dz)
noncomputable def Lm {γ:Type} (F:Rf):Hd ctx γ:=hdl cv12.dec (fun _=>F) cv19.enc
abbrev Wq:=Int→Int→Int→Option Int
noncomputable def Xq (x_0:Int) (low_1:Int) (high_2:Int):Option Int:=
 bif (!(low_1 == 0)) then
 bif (!(low_1 == 0)) then
 some (w32 ((w32 (x_0.tdiv low_1))+(w32 ((x_0.tmod low_1)*high_2))))
 else none
 else none
noncomputable def Qh:Wq:=Xq
theorem CAA:Tells ctx PP 164 cv24 cv15 (fun a=>Qh a.1 a.2.1 a.2.2):=fn_ok0 hl_nil Tryd.func164 (fun a=>by kernel_rfl:EntryIs0 ctx PP 164 [] [] cv24 cv15 fun a=>Xq a.1 a.2.1 a.2.2)
noncomputable def DAA {γ:Type} (F:Wq):Hd ctx γ:=hdl cv24.dec (fun a=>F a.1 a.2.1 a.2.2) cv15.enc
abbrev Om:=Int→Int→Int→Int→Bool→Option Int
noncomputable def Tf (z0:Wq) (x_0:Int) (a_1:Int) (b_2:Int) (c_3:Int) (last_4:Bool):Option Int:=
 bif (!(a_1 == 0)) then
 (z0 x_0 a_1 (w32 ((w32 ((2147483648:Int).tdiv a_1))*2))).bind fun r0=>
 bif (!(b_2 == 0)) then
 (z0 x_0 b_2 (w32 ((w32 ((2147483648:Int).tdiv b_2))*2))).bind fun r1=>
 bif (!(c_3 == 0)) then
 bif (!last_4) then
 bif (!(c_3 == 0)) then
 (z0 x_0 c_3 (w32 ((w32 ((2147483648:Int).tdiv c_3))*2))).bind fun r2=>
 some (w32 (((BitVec.toNat ((BitVec.ofInt (IntKind.bits IntKind.u32) (w32 (((BitVec.toNat ((BitVec.ofInt (IntKind.bits IntKind.u32) r0) ^^^ (BitVec.ofInt (IntKind.bits IntKind.u32) r1))):Nat):Int))) ^^^ (BitVec.ofInt (IntKind.bits IntKind.u32) r2))):Nat):Int))
 else none
 else
 some (w32 (((BitVec.toNat ((BitVec.ofInt (IntKind.bits IntKind.u32) (w32 (((BitVec.toNat ((BitVec.ofInt (IntKind.bits IntKind.u32) r0) ^^^ (BitVec.ofInt (IntKind.bits IntKind.u32) r1))):Nat):Int))) ^^^ (BitVec.ofInt (IntKind.bits IntKind.u32) (w32 (x_0.tdiv c_3))))):Nat):Int))
 else none
 else none
 else none
noncomputable def LZ:Om:=Tf Qh
theorem EAA:Tells ctx PP 156 cv25 cv15 (fun a=>LZ a.1 a.2.1 a.2.2.1 a.2.2.2.1 a.2.2.2.2):=fn_ok0 (hc CAA hl_nil) Tryd.func156 ((fun z0 a=>by kernel_rfl:∀ z0,EntryIs0 ctx PP 156 [] [(164,DAA z0)] cv25 cv15 fun a=>Tf z0 a.1 a.2.1 a.2.2.1 a.2.2.2.1 a.2.2.2.2) Qh)
noncomputable def Fz {γ:Type} (F:Om):Hd ctx γ:=hdl cv25.dec (fun a=>F a.1 a.2.1 a.2.2.1 a.2.2.2.1 a.2.2.2.2) cv15.enc
abbrev Uf:=(List Int)→(List Int)→ByteArray→Option (List Int)
inductive Rh where
 | c0 (t_0:(List Int)) (o_1:(List Int)) (v_8:Int) (v_7:(List Int))
 | c1 (t_0:(List Int)) (o_1:(List Int)) (v_10:Int) (v_7:(List Int)) (v_9:(List Int))
 | c2 (t_0:(List Int)) (o_1:(List Int)) (v_10:Int) (v_13:Int) (v_15:Int) (v_16:Int) (v_7:(List Int)) (v_9:(List Int))
 | c3 (t_0:(List Int)) (v_18:Int) (v_9:(List Int)) (v_17:(List Int))
noncomputable def Gz:Rh→LI
 | .c0 t_0 o_1 v_8 v_7=>(tdo Tryd.f138 464,[(0,[.one (.rsl 114 t_0)]),(1,[.one (.rsl 114 o_1)]),(7,[.one (.own 496)]),(8,[.one (.int .i64 v_8)])],[(496,.sl 114 v_7)])
 | .c1 t_0 o_1 v_10 v_7 v_9=>(tdo Tryd.f138 2000,[(0,[.one (.rsl 114 t_0)]),(1,[.one (.rsl 114 o_1)]),(7,[.one (.own 496)]),(9,[.one (.own 624)]),(10,[.one (.int .i64 v_10)])],[(496,.sl 114 v_7),(624,.sl 114 v_9)])
 | .c2 t_0 o_1 v_10 v_13 v_15 v_16 v_7 v_9=>(tdo Tryd.f138 8202192,[(0,[.one (.rsl 114 t_0)]),(1,[.one (.rsl 114 o_1)]),(7,[.one (.own 496)]),(9,[.one (.own 624)]),(10,[.one (.int .i64 v_10)]),(13,[.one (.int .u32 v_13)]),(15,[.one (.int .u32 v_15)]),(16,[.one (.int .i64 v_16)])],[(496,.sl 114 v_7),(624,.sl 114 v_9)])
 | .c3 t_0 v_18 v_9 v_17=>(tdo Tryd.f138 8144,[(0,[.one (.rsl 114 t_0)]),(9,[.one (.own 624)]),(17,[.one (.own 1136)]),(18,[.one (.int .i64 v_18)])],[(624,.sl 114 v_9),(1136,.sl 114 v_17)])
noncomputable def Yq (z0:Dc) (z1:Om) (k:Rh→Option (List Int)) (t_0:(List Int)) (o_1:(List Int)) (A_2:ByteArray):Option (List Int):=
 (z0 A_2).bind fun r0=>
 k (.c0 t_0 o_1 16 r0)
noncomputable def Qa (z0:Dc) (z1:Om) (k:Rh→Option (List Int)):Rh→Option (List Int)
 | .c0 t_0 o_1 v_8 v_7=>
 bif (decide (v_8<64)) then
  bif ((decide (0≤(w64 (v_8 - 2)))) && (decide ((w64 (v_8 - 2))<(v_7.length:Int)))) then
  (z1 (v_7.getD (w64 (v_8 - 2)).toNat 0) 131072 524288 1024 true).bind fun r0=>
  bif ((decide (0≤(w64 (v_8 - 7)))) && (decide ((w64 (v_8 - 7))<(v_7.length:Int)))) then
  bif ((decide (0≤(w64 (v_8 - 15)))) && (decide ((w64 (v_8 - 15))<(v_7.length:Int)))) then
  (z1 (v_7.getD (w64 (v_8 - 15)).toNat 0) 128 262144 8 true).bind fun r1=>
  bif ((decide (0≤(w64 (v_8 - 16)))) && (decide ((w64 (v_8 - 16))<(v_7.length:Int)))) then
  bif (decide (((v_7.length+1)*4)≤140737488355328)) then
  k (.c0 t_0 o_1 (w64 (v_8+1)) (v_7++[(w32 ((w32 ((w32 (r0+(v_7.getD (w64 (v_8 - 7)).toNat 0)))+r1))+(v_7.getD (w64 (v_8 - 16)).toNat 0)))]))
  else none
  else none
  else none
  else none
  else none
 else
  bif (decide (((0+t_0.length)*4)≤140737488355328)) then
  k (.c1 t_0 o_1 0 v_7 ([]++t_0))
  else none
 | .c1 t_0 o_1 v_10 v_7 v_9=>
 bif (decide (v_10<64)) then
  bif ((decide ((0:Int)≤(4:Int))) && (decide (4<(v_9.length:Int)))) then
  bif ((decide ((0:Int)≤(5:Int))) && (decide (5<(v_9.length:Int)))) then
  bif ((decide ((0:Int)≤(6:Int))) && (decide (6<(v_9.length:Int)))) then
  bif ((decide ((0:Int)≤(7:Int))) && (decide (7<(v_9.length:Int)))) then
  (z1 (v_9.getD (4:Int).toNat 0) 64 2048 33554432 false).bind fun r0=>
  bif ((decide (0≤v_10)) && (decide (v_10<(o_1.length:Int)))) then
  bif ((decide (0≤v_10)) && (decide (v_10<(v_7.length:Int)))) then
  bif ((decide ((0:Int)≤(0:Int))) && (decide (0<(v_9.length:Int)))) then
  bif ((decide ((0:Int)≤(1:Int))) && (decide (1<(v_9.length:Int)))) then
  bif ((decide ((0:Int)≤(0:Int))) && (decide (0<(v_9.length:Int)))) then
  bif ((decide ((0:Int)≤(2:Int))) && (decide (2<(v_9.length:Int)))) then
  bif ((decide ((0:Int)≤(1:Int))) && (decide (1<(v_9.length:Int)))) then
  bif ((decide ((0:Int)≤(2:Int))) && (decide (2<(v_9.length:Int)))) then
  bif ((decide ((0:Int)≤(0:Int))) && (decide (0<(v_9.length:Int)))) then
  (z1 (v_9.getD (0:Int).toNat 0) 4 8192 4194304 false).bind fun r1=>
  k (.c2 t_0 o_1 v_10 (w32 ((w32 ((w32 ((w32 ((v_9.getD (7:Int).toNat 0)+r0))+(w32 (((BitVec.toNat ((BitVec.ofInt (IntKind.bits IntKind.u32) (w32 (((BitVec.toNat ((BitVec.ofInt (IntKind.bits IntKind.u32) (v_9.getD (4:Int).toNat 0)) &&& (BitVec.ofInt (IntKind.bits IntKind.u32) (v_9.getD (5:Int).toNat 0)))):Nat):Int))) ^^^ (BitVec.ofInt (IntKind.bits IntKind.u32) (w32 (((BitVec.toNat ((BitVec.ofInt (IntKind.bits IntKind.u32) (w32 (4294967295 - (v_9.getD (4:Int).toNat 0)))) &&& (BitVec.ofInt (IntKind.bits IntKind.u32) (v_9.getD (6:Int).toNat 0)))):Nat):Int))))):Nat):Int))))+(o_1.getD v_10.toNat 0)))+(v_7.getD v_10.toNat 0))) (w32 (r1+(w32 (((BitVec.toNat ((BitVec.ofInt (IntKind.bits IntKind.u32) (w32 (((BitVec.toNat ((BitVec.ofInt (IntKind.bits IntKind.u32) (w32 (((BitVec.toNat ((BitVec.ofInt (IntKind.bits IntKind.u32) (v_9.getD (0:Int).toNat 0)) &&& (BitVec.ofInt (IntKind.bits IntKind.u32) (v_9.getD (1:Int).toNat 0)))):Nat):Int))) ^^^ (BitVec.ofInt (IntKind.bits IntKind.u32) (w32 (((BitVec.toNat ((BitVec.ofInt (IntKind.bits IntKind.u32) (v_9.getD (0:Int).toNat 0)) &&& (BitVec.ofInt (IntKind.bits IntKind.u32) (v_9.getD (2:Int).toNat 0)))):Nat):Int))))):Nat):Int))) ^^^ (BitVec.ofInt (IntKind.bits IntKind.u32) (w32 (((BitVec.toNat ((BitVec.ofInt (IntKind.bits IntKind.u32) (v_9.getD (1:Int).toNat 0)) &&& (BitVec.ofInt (IntKind.bits IntKind.u32) (v_9.getD (2:Int).toNat 0)))):Nat):Int))))):Nat):Int)))) 7 v_7 v_9)
  else none
  else none
  else none
  else none
  else none
  else none
  else none
  else none
  else none
  else none
  else none
  else none
  else none
 else
  k (.c3 t_0 0 v_9 [])
 | .c2 t_0 o_1 v_10 v_13 v_15 v_16 v_7 v_9=>
 bif (decide (v_16 > 0)) then
  bif ((decide (0≤(w64 (v_16 - 1)))) && (decide ((w64 (v_16 - 1))<(v_9.length:Int)))) then
  bif ((decide (0≤v_16)) && (decide (v_16<(v_9.length:Int)))) then
  k (.c2 t_0 o_1 v_10 v_13 v_15 (w64 (v_16 - 1)) v_7 (v_9.set v_16.toNat (v_9.getD (w64 (v_16 - 1)).toNat 0)))
  else none
  else none
 else
  bif ((decide ((0:Int)≤(4:Int))) && (decide (4<(v_9.length:Int)))) then
  bif ((decide ((0:Int)≤(4:Int))) && (decide (4<(v_9.length:Int)))) then
  bif ((decide ((0:Int)≤(0:Int))) && (decide (0<((v_9.set (4:Int).toNat (w32 ((v_9.getD (4:Int).toNat 0)+v_13))).length:Int)))) then
  k (.c1 t_0 o_1 (w64 (v_10+1)) v_7 ((v_9.set (4:Int).toNat (w32 ((v_9.getD (4:Int).toNat 0)+v_13))).set (0:Int).toNat (w32 (v_13+v_15))))
  else none
  else none
  else none
 | .c3 t_0 v_18 v_9 v_17=>
 bif (decide (v_18<8)) then
  bif ((decide (0≤v_18)) && (decide (v_18<(t_0.length:Int)))) then
  bif ((decide (0≤v_18)) && (decide (v_18<(v_9.length:Int)))) then
  bif (decide (((v_17.length+1)*4)≤140737488355328)) then
  k (.c3 t_0 (w64 (v_18+1)) v_9 (v_17++[(w32 ((t_0.getD v_18.toNat 0)+(v_9.getD v_18.toNat 0)))]))
  else none
  else none
  else none
 else
  some v_17
noncomputable def WY:Nat→Rh→Option (List Int)
 | 0,_=>none
 | m+1,s=>Qa DZ LZ (WY m) s
noncomputable def Aa:Uf:=Yq DZ LZ (WY gas)
theorem Hz:Tells ctx PP 138 cv26 cv19 (fun a=>Aa a.1 a.2.1 a.2.2):=
 have b:∀ z0 z1,CutIs ctx PP 138 Tryd.f138 [] [(136,Jf z0),(156,Fz z1)] cv19 Gz (Qa z0 z1):=fun z0 z1 _ s=>by cases s <;> kernel_rfl
 have e:∀ z0 z1,EntryIs ctx PP 138 [] [(136,Jf z0),(156,Fz z1)] cv26 cv19 Gz (fun k a=>Yq z0 z1 k a.1 a.2.1 a.2.2):=fun z0 z1 _ a=>by kernel_rfl
 fn_ok (hc Vq (hc EAA hl_nil)) Tryd.func138 (fun s s' h=>by cases s <;> cases s' <;> first | (cases h;done) | (cases h;rfl) | exact (rg_ne h (by kernel_rfl)).elim) (fun _=>rfl) (fun _ _=>rfl) (b DZ LZ) (e DZ LZ) gas
noncomputable def Pm {γ:Type} (F:Uf):Hd ctx γ:=hdl cv26.dec (fun a=>F a.1 a.2.1 a.2.2) cv19.enc
abbrev Zq:=SHasher→ByteArray→Option SHasher
inductive Uh where
 | c0 (s_1:ByteArray) (buf_7:ByteArray) (at_8:Int) (h_2:SHasher) (v_4:SHasher) (state_5:(List Int)) (k_6:(List Int))
noncomputable def Iz:Uh→LI
 | .c0 s_1 buf_7 at_8 h_2 v_4 state_5 k_6=>(tdo Tryd.f111 4064,[(1,[.one (.str s_1)]),(2,[.one (.ptr 128 0)]),(4,[.one (.ptr 256 0)]),(5,[.one (.own 368)]),(6,[.one (.own 432)]),(7,[.one (.str buf_7)]),(8,[.one (.int .i64 at_8)])],[(128,.var [.str h_2.fState,.str h_2.fRest,.int .i64 h_2.fCount]),(256,.var [.str v_4.fState,.str v_4.fRest,.int .i64 v_4.fCount]),(368,.sl 114 state_5),(432,.sl 114 k_6)])
noncomputable def Ar (z0:Hf) (z1:Dc) (z2:Rf) (z3:Uf) (z4:Ad) (k:Uh→Option SHasher) (h_0:SHasher) (s_1:ByteArray):Option SHasher:=
 (z0 h_0).bind fun r0=>
 bif (!r0) then
 some h_0
 else
 bif (decide ((w64 (h_0.fCount+(s_1.size:Int))) > 1000000000)) then
  some h_0
 else
  (z1 h_0.fState).bind fun r1=>
  z2.bind fun r2=>
  bif (decide ((h_0.fRest.size+s_1.size)≤9223372036854775807)) then
  k (.c0 s_1 (h_0.fRest++s_1) 0 h_0 ⟨⟨#[]⟩,⟨#[]⟩,0⟩ r1 r2)
  else none
noncomputable def Qm (z0:Hf) (z1:Dc) (z2:Rf) (z3:Uf) (z4:Ad) (k:Uh→Option SHasher):Uh→Option SHasher
 | .c0 s_1 buf_7 at_8 h_2 v_4 state_5 k_6=>
 bif (decide ((w64 (at_8+64))≤(buf_7.size:Int))) then
  bif (((decide (0≤at_8)) && (decide (at_8≤(w64 (at_8+64))))) && (decide ((w64 (at_8+64))≤(buf_7.size:Int)))) then
  (z3 state_5 k_6 (buf_7.extract at_8.toNat (w64 (at_8+64)).toNat)).bind fun r0=>
  k (.c0 s_1 buf_7 (w64 (at_8+64)) h_2 v_4 r0 k_6)
  else none
 else
  (z4 state_5).bind fun r1=>
  bif ((decide (0≤at_8)) && (decide (at_8≤(buf_7.size:Int)))) then
  some ⟨r1,(buf_7.extract at_8.toNat buf_7.size),(w64 (h_2.fCount+(s_1.size:Int)))⟩
  else none
noncomputable def Vh:Nat→Uh→Option SHasher
 | 0,_=>none
 | m+1,s=>Qm KZ DZ Oa Aa UZ (Vh m) s
noncomputable def Wh:Zq:=Ar KZ DZ Oa Aa UZ (Vh gas)
theorem FAA:Tells ctx PP 111 cv27 cv21 (fun a=>Wh a.1 a.2):=
 have b:∀ z0 z1 z2 z3 z4,CutIs ctx PP 111 Tryd.f111 [] [(135,Em z0),(136,Jf z1),(137,Lm z2),(138,Pm z3),(139,Jh z4)] cv21 Iz (Qm z0 z1 z2 z3 z4):=fun z0 z1 z2 z3 z4 _ s=>by cases s <;> kernel_rfl
 have e:∀ z0 z1 z2 z3 z4,EntryIs ctx PP 111 [] [(135,Em z0),(136,Jf z1),(137,Lm z2),(138,Pm z3),(139,Jh z4)] cv27 cv21 Iz (fun k a=>Ar z0 z1 z2 z3 z4 k a.1 a.2):=fun z0 z1 z2 z3 z4 _ a=>by kernel_rfl
 fn_ok (hc Yy (hc Vq (hc Ez (hc Hz (hc Oq hl_nil))))) Tryd.func111 (fun s s' h=>by cases s;cases s';(repeat cases ‹SHasher›);cases h;rfl) (fun _=>rfl) (fun _ _=>rfl) (b KZ DZ Oa Aa UZ) (e KZ DZ Oa Aa UZ) gas
noncomputable def GAA {γ:Type} (F:Zq):Hd ctx γ:=hdl cv27.dec (fun a=>F a.1 a.2) cv21.enc
abbrev Hr:=SHasher→Option ByteArray
inductive Xh where
 | c0 (h_1:SHasher) (tail_3:(List Int))
 | c1 (bits_4:Int) (i_5:Int) (h_1:SHasher) (tail_3:(List Int))
 | c2 (bits_4:Int) (i_5:Int) (x_6:Int) (k_7:Int) (h_1:SHasher) (tail_3:(List Int))
 | c3 (at_10:Int) (tail_3:(List Int)) (state_8:(List Int)) (k_9:(List Int))
noncomputable def Jz:Xh→LI
 | .c0 h_1 tail_3=>(tdo Tryd.f110 992,[(1,[.one (.ptr 64 0)]),(3,[.one (.own 240)])],[(64,.var [.str h_1.fState,.str h_1.fRest,.int .i64 h_1.fCount]),(240,.sl 5 tail_3)])
 | .c1 bits_4 i_5 h_1 tail_3=>(tdo Tryd.f110 8144,[(1,[.one (.ptr 64 0)]),(3,[.one (.own 240)]),(4,[.one (.int .i64 bits_4)]),(5,[.one (.int .i64 i_5)])],[(64,.var [.str h_1.fState,.str h_1.fRest,.int .i64 h_1.fCount]),(240,.sl 5 tail_3)])
 | .c2 bits_4 i_5 x_6 k_7 h_1 tail_3=>(tdo Tryd.f110 2085456,[(1,[.one (.ptr 64 0)]),(3,[.one (.own 240)]),(4,[.one (.int .i64 bits_4)]),(5,[.one (.int .i64 i_5)]),(6,[.one (.int .i64 x_6)]),(7,[.one (.int .i64 k_7)])],[(64,.var [.str h_1.fState,.str h_1.fRest,.int .i64 h_1.fCount]),(240,.sl 5 tail_3)])
 | .c3 at_10 tail_3 state_8 k_9=>(tdo Tryd.f110 65488,[(3,[.one (.own 240)]),(8,[.one (.own 560)]),(9,[.one (.own 624)]),(10,[.one (.int .i64 at_10)])],[(240,.sl 5 tail_3),(560,.sl 114 state_8),(624,.sl 114 k_9)])
noncomputable def Ir (z0:Hf) (z1:Dc) (z2:Rf) (z3:Uf) (z4:Ad) (k:Xh→Option ByteArray) (h_0:SHasher):Option ByteArray:=
 (z0 h_0).bind fun r0=>
 bif (!r0) then
 some ⟨#[]⟩
 else
 bif (decide (h_0.fRest.size≤9223372036854775807)) then
 bif (decide ((((bytesOf h_0.fRest).length+1)*1)≤140737488355328)) then
 k (.c0 h_0 ((bytesOf h_0.fRest)++[(128:Int)]))
 else none
 else none
noncomputable def Ua (z0:Hf) (z1:Dc) (z2:Rf) (z3:Uf) (z4:Ad) (k:Xh→Option ByteArray):Xh→Option ByteArray
 | .c0 h_1 tail_3=>
 bif (((tail_3.length:Int).tmod 64) != 56) then
  bif (decide (((tail_3.length+1)*1)≤140737488355328)) then
  k (.c0 h_1 (tail_3++[(0:Int)]))
  else none
 else
  k (.c1 (w64 (8*h_1.fCount)) 7 h_1 tail_3)
 | .c1 bits_4 i_5 h_1 tail_3=>
 bif (decide (i_5≥0)) then
  k (.c2 bits_4 i_5 bits_4 0 h_1 tail_3)
 else
  (z1 h_1.fState).bind fun r0=>
  z2.bind fun r1=>
  k (.c3 0 tail_3 r0 r1)
 | .c2 bits_4 i_5 x_6 k_7 h_1 tail_3=>
 bif (decide (k_7<i_5)) then
  k (.c2 bits_4 i_5 (w64 (x_6.tdiv 256)) (w64 (k_7+1)) h_1 tail_3)
 else
  bif (decide (((tail_3.length+1)*1)≤140737488355328)) then
  k (.c1 bits_4 (w64 (i_5 - 1)) h_1 (tail_3++[(w8 (x_6.tmod 256))]))
  else none
 | .c3 at_10 tail_3 state_8 k_9=>
 bif (decide (at_10<(tail_3.length:Int))) then
  bif (((decide (0≤at_10)) && (decide (at_10≤(w64 (at_10+64))))) && (decide ((w64 (at_10+64))≤(tail_3.length:Int)))) then
  (z3 state_8 k_9 (ofBytes ((tail_3.drop at_10.toNat).take ((w64 (at_10+64)).toNat - at_10.toNat)))).bind fun r0=>
  k (.c3 (w64 (at_10+64)) tail_3 r0 k_9)
  else none
 else
  (z4 state_8).bind fun r1=>
  some r1
noncomputable def XY:Nat→Xh→Option ByteArray
 | 0,_=>none
 | m+1,s=>Ua KZ DZ Oa Aa UZ (XY m) s
noncomputable def Yh:Hr:=Ir KZ DZ Oa Aa UZ (XY gas)
theorem HAA:Tells ctx PP 110 cv21 cv9 (fun a=>Yh a):=
 have b:∀ z0 z1 z2 z3 z4,CutIs ctx PP 110 Tryd.f110 [] [(135,Em z0),(136,Jf z1),(137,Lm z2),(138,Pm z3),(139,Jh z4)] cv9 Jz (Ua z0 z1 z2 z3 z4):=fun z0 z1 z2 z3 z4 _ s=>by cases s <;> kernel_rfl
 have e:∀ z0 z1 z2 z3 z4,EntryIs ctx PP 110 [] [(135,Em z0),(136,Jf z1),(137,Lm z2),(138,Pm z3),(139,Jh z4)] cv21 cv9 Jz (fun k a=>Ir z0 z1 z2 z3 z4 k a):=fun z0 z1 z2 z3 z4 _ a=>by kernel_rfl
 fn_ok (hc Yy (hc Vq (hc Ez (hc Hz (hc Oq hl_nil))))) Tryd.func110 (fun s s' h=>by cases s <;> cases s' <;> first | ((repeat cases ‹SHasher›);cases h;done) | ((repeat cases ‹SHasher›);cases h;rfl) | exact (rg_ne h (by kernel_rfl)).elim) (fun _=>rfl) (fun _ _=>rfl) (b KZ DZ Oa Aa UZ) (e KZ DZ Oa Aa UZ) gas
noncomputable def IAA {γ:Type} (F:Hr):Hd ctx γ:=hdl cv21.dec (fun a=>F a) cv9.enc
abbrev Jd:=ByteArray→Option ByteArray
noncomputable def Jr (z0:Pq) (z1:Zq) (z2:Hr) (s_0:ByteArray):Option ByteArray:=
 z0.bind fun r0=>
 (z1 r0 s_0).bind fun r1=>
 (z2 r1).bind fun r2=>
 some r2
noncomputable def MZ:Jd:=Jr Lh Wh Yh
theorem Sm:Tells ctx PP 60 cv9 cv9 (fun a=>MZ a):=fn_ok0 (hc Z9 (hc FAA (hc HAA hl_nil))) Tryd.func60 ((fun z0 z1 z2 a=>by kernel_rfl:∀ z0 z1 z2,EntryIs0 ctx PP 60 [] [(112,AAA z0),(111,GAA z1),(110,IAA z2)] cv9 cv9 fun a=>Jr z0 z1 z2 a) Lh Wh Yh)
noncomputable def Zh {γ:Type} (F:Jd):Hd ctx γ:=hdl cv9.dec (fun a=>F a) cv9.enc
abbrev Um:=Int→Int→Option ByteArray
inductive Ai where
 | c0 (n_0:Int) (x_1:Int) (i_6:Int) (out_5:(List Int))
noncomputable def Kz:Ai→LI
 | .c0 n_0 x_1 i_6 out_5=>(tdo Tryd.f56 464,[(0,[.one (.int .i64 n_0)]),(1,[.one (.int .u8 x_1)]),(5,[.one (.own 368)]),(6,[.one (.int .i64 i_6)])],[(368,.sl 5 out_5)])
noncomputable def Kr (k:Ai→Option ByteArray) (n_0:Int) (x_1:Int):Option ByteArray:=
 bif ((((decide (0≤n_0)) && (decide (n_0≤n_0))) && (decide (n_0≤9223372036854775807))) && (decide ((n_0.toNat*1)≤140737488355328))) then
 k (.c0 n_0 x_1 0 (List.replicate n_0.toNat (0:Int)))
 else none
noncomputable def Vm (k:Ai→Option ByteArray):Ai→Option ByteArray
 | .c0 n_0 x_1 i_6 out_5=>
 bif (decide (i_6<n_0)) then
  bif ((decide (0≤i_6)) && (decide (i_6<(out_5.length:Int)))) then
  k (.c0 n_0 x_1 (w64 (i_6+1)) (out_5.set i_6.toNat x_1))
  else none
 else
  some (ofBytes out_5)
noncomputable def Ci:Nat→Ai→Option ByteArray
 | 0,_=>none
 | m+1,s=>Vm (Ci m) s
noncomputable def Ic:Um:=Kr (Ci gas)
theorem Nz:Tells ctx PP 56 cv8 cv9 (fun a=>Ic a.1 a.2):=
 have b:CutIs ctx PP 56 Tryd.f56 [] [] cv9 Kz (Vm):=fun _ s=>by cases s <;> kernel_rfl
 have e:EntryIs ctx PP 56 [] [] cv8 cv9 Kz (fun k a=>Kr k a.1 a.2):=fun _ a=>by kernel_rfl
 fn_ok hl_nil Tryd.func56 (fun s s' h=>by cases s;cases s';cases h;rfl) (fun _=>rfl) (fun _ _=>rfl) b e gas
noncomputable def Oz {γ:Type} (F:Um):Hd ctx γ:=hdl cv8.dec (fun a=>F a.1 a.2) cv9.enc
abbrev Xm:=Option SBook
noncomputable def Lr (z0:Jd) (z1:Um)  : Option SBook:=
 (z0 ⟨#[]⟩).bind fun r0=>
 (z1 32 0).bind fun r1=>
 some ⟨r0,0,[],0,r1,0⟩
noncomputable def Ld:Xm:=Lr MZ Ic
theorem JAA:Tells ctx PP 43 cv12 cv40 (fun _=>Ld):=fn_ok0 (hc Sm (hc Nz hl_nil)) Tryd.func43 ((fun z0 z1 _=>by kernel_rfl:∀ z0 z1,EntryIs0 ctx PP 43 [] [(60,Zh z0),(56,Oz z1)] cv12 cv40 fun _=>Lr z0 z1) MZ Ic)
noncomputable def Pz {γ:Type} (F:Xm):Hd ctx γ:=hdl cv12.dec (fun _=>F) cv40.enc
abbrev Di:=SL01Cur→Option (Int×SL01Cur)
noncomputable def Nr (c_0:SL01Cur):Option (Int×SL01Cur):=
 bif (decide (c_0.fI<(codeL.length:Int))) then
 bif ((decide (0≤c_0.fI)) && (decide (c_0.fI<(codeL.length:Int)))) then
 bif (Nat.blt c_0.fI.toNat codeL.length) then
 some ((w64 (((BitVec.toNat ((BitVec.ofInt (IntKind.bits IntKind.i64) (w64 ((w64 (((BitVec.toNat ((BitVec.ofInt (IntKind.bits IntKind.i64) (w64 (((BitVec.toNat ((BitVec.ofInt (IntKind.bits IntKind.i64) (Int.fdiv (w64 ((w64 (c_0.fH*6364136223846793005))+1442695040888963407)) (2 ^ (Min.min (33:Int).toNat (IntKind.bits IntKind.i64))))) ^^^ (BitVec.ofInt (IntKind.bits IntKind.i64) (Int.fdiv (w64 ((w64 (c_0.fH*6364136223846793005))+1442695040888963407)) (2 ^ (Min.min (45:Int).toNat (IntKind.bits IntKind.i64))))))):Nat):Int))) &&& (BitVec.ofInt (IntKind.bits IntKind.i64) 255))):Nat):Int))+(w64 (codeL.getD c_0.fI.toNat 0))))) &&& (BitVec.ofInt (IntKind.bits IntKind.i64) 255))):Nat):Int)),⟨(),(w64 (c_0.fI+1)),(w64 ((w64 (c_0.fH*6364136223846793005))+1442695040888963407))⟩)
 else none
 else none
 else
 some ((w64 (((BitVec.toNat ((BitVec.ofInt (IntKind.bits IntKind.i64) (w64 (((BitVec.toNat ((BitVec.ofInt (IntKind.bits IntKind.i64) (Int.fdiv (w64 ((w64 (c_0.fH*6364136223846793005))+1442695040888963407)) (2 ^ (Min.min (33:Int).toNat (IntKind.bits IntKind.i64))))) ^^^ (BitVec.ofInt (IntKind.bits IntKind.i64) (Int.fdiv (w64 ((w64 (c_0.fH*6364136223846793005))+1442695040888963407)) (2 ^ (Min.min (45:Int).toNat (IntKind.bits IntKind.i64))))))):Nat):Int))) &&& (BitVec.ofInt (IntKind.bits IntKind.i64) 255))):Nat):Int)),⟨(),c_0.fI,(w64 ((w64 (c_0.fH*6364136223846793005))+1442695040888963407))⟩)
noncomputable def Jb:Di:=Nr
theorem Qz:Tells ctx PP 93 cv3 cv4 (fun a=>Jb a):=fn_ok0 hl_nil Tryd.func93 (fun a=>by kernel_rfl:EntryIs0 ctx PP 93 [0] [] cv3 cv4 fun a=>Nr a)
noncomputable def Qr {γ:Type} (F:Di):Hd ctx γ:=hdl cv3.dec (fun a=>F a) cv4.enc
abbrev WZ:=SL01Cur→Int→Option (Int×SL01Cur)
noncomputable def Sr (z0:Di) (c_0:SL01Cur) (n_1:Int):Option (Int×SL01Cur):=
 bif (decide (n_1≤0)) then
 some (0,⟨(),c_0.fI,c_0.fH⟩)
 else
 bif (decide (n_1≤256)) then
  (z0 ⟨(),c_0.fI,c_0.fH⟩).bind fun r0=>
  bif (!(n_1 == 0)) then
  some ((r0.1.tmod n_1),⟨(),r0.2.fI,r0.2.fH⟩)
  else none
 else
  (z0 ⟨(),c_0.fI,c_0.fH⟩).bind fun r1=>
  (z0 ⟨(),r1.2.fI,r1.2.fH⟩).bind fun r2=>
  (z0 ⟨(),r2.2.fI,r2.2.fH⟩).bind fun r3=>
  (z0 ⟨(),r3.2.fI,r3.2.fH⟩).bind fun r4=>
  bif (!(n_1 == 0)) then
  some (((w64 ((w64 ((w64 ((w64 (r1.1*16777216))+(w64 (r2.1*65536))))+(w64 (r3.1*256))))+r4.1)).tmod n_1),⟨(),r4.2.fI,r4.2.fH⟩)
  else none
noncomputable def OY:WZ:=Sr Jb
theorem Nb:Tells ctx PP 57 cv5 cv4 (fun a=>OY a.1 a.2):=fn_ok0 (hc Qz hl_nil) Tryd.func57 ((fun z0 a=>by kernel_rfl:∀ z0,EntryIs0 ctx PP 57 [0] [(93,Qr z0)] cv5 cv4 fun a=>Sr z0 a.1 a.2) Jb)
noncomputable def Va {γ:Type} (F:WZ):Hd ctx γ:=hdl cv5.dec (fun a=>F a.1 a.2) cv4.enc
abbrev Vf:=SL01Cur→(List Int)→Option (Int×SL01Cur)
noncomputable def Ur (z0:WZ) (c_0:SL01Cur) (list_1:(List Int)):Option (Int×SL01Cur):=
 (z0 ⟨(),c_0.fI,c_0.fH⟩ (list_1.length:Int)).bind fun r0=>
 bif ((decide (0≤r0.1)) && (decide (r0.1<(list_1.length:Int)))) then
 some ((list_1.getD r0.1.toNat 0),⟨(),r0.2.fI,r0.2.fH⟩)
 else none
noncomputable def Ba:Vf:=Ur OY
theorem Ym:Tells ctx PP 105 cv7 cv4 (fun a=>Ba a.1 a.2):=fn_ok0 (hc Nb hl_nil) Tryd.func105 ((fun z0 a=>by kernel_rfl:∀ z0,EntryIs0 ctx PP 105 [0] [(57,Va z0)] cv7 cv4 fun a=>Ur z0 a.1 a.2) OY)
noncomputable def Zm {γ:Type} (F:Vf):Hd ctx γ:=hdl cv7.dec (fun a=>F a.1 a.2) cv4.enc
abbrev Dn:=SL01Cur→(List ByteArray)→Option (ByteArray×SL01Cur)
noncomputable def Vr (z0:WZ) (c_0:SL01Cur) (list_1:(List ByteArray)):Option (ByteArray×SL01Cur):=
 (z0 ⟨(),c_0.fI,c_0.fH⟩ (list_1.length:Int)).bind fun r0=>
 bif ((decide (0≤r0.1)) && (decide (r0.1<(list_1.length:Int)))) then
 some ((list_1.getD r0.1.toNat (⟨#[]⟩:ByteArray)),⟨(),r0.2.fI,r0.2.fH⟩)
 else none
noncomputable def Md:Dn:=Vr OY
theorem Rz:Tells ctx PP 122 cv28 cv10 (fun a=>Md a.1 a.2):=fn_ok0 (hc Nb hl_nil) Tryd.func122 ((fun z0 a=>by kernel_rfl:∀ z0,EntryIs0 ctx PP 122 [0] [(57,Va z0)] cv28 cv10 fun a=>Vr z0 a.1 a.2) OY)
noncomputable def Sz {γ:Type} (F:Dn):Hd ctx γ:=hdl cv28.dec (fun a=>F a.1 a.2) cv10.enc
abbrev En:=SL01Cur→Int→Option (Bool×SL01Cur)
noncomputable def Xr (z0:WZ) (c_0:SL01Cur) (n_1:Int):Option (Bool×SL01Cur):=
 (z0 ⟨(),c_0.fI,c_0.fH⟩ n_1).bind fun r0=>
 some ((r0.1 == 0),⟨(),r0.2.fI,r0.2.fH⟩)
noncomputable def Qd:En:=Xr OY
theorem Tz:Tells ctx PP 54 cv5 cv6 (fun a=>Qd a.1 a.2):=fn_ok0 (hc Nb hl_nil) Tryd.func54 ((fun z0 a=>by kernel_rfl:∀ z0,EntryIs0 ctx PP 54 [0] [(57,Va z0)] cv5 cv6 fun a=>Xr z0 a.1 a.2) OY)
noncomputable def Uz {γ:Type} (F:En):Hd ctx γ:=hdl cv5.dec (fun a=>F a.1 a.2) cv6.enc
abbrev Yr:=SL01Cur→Int→Option (ByteArray×SL01Cur)
inductive Ei where
 | c0 (n_1:Int) (i_6:Int) (c_0c1:Int) (c_0c2:Int) (out_5:(List Int))
noncomputable def Vz:Ei→LI
 | .c0 n_1 i_6 c_0c1 c_0c2 out_5=>(tdo Tryd.f58 976,[(0,[.one (.ptr 0 0)]),(1,[.one (.int .i64 n_1)]),(5,[.one (.own 368)]),(6,[.one (.int .i64 i_6)])],[(0,.var [.csl,.int .i64 c_0c1,.int .i64 c_0c2]),(368,.sl 5 out_5)])
noncomputable def Zr (z0:Di) (k:Ei→Option (ByteArray×SL01Cur)) (c_0:SL01Cur) (n_1:Int):Option (ByteArray×SL01Cur):=
 bif (decide (n_1 > 5000)) then
 k (.c0 5000 0 c_0.fI c_0.fH [])
 else
 k (.c0 n_1 0 c_0.fI c_0.fH [])
noncomputable def Gn (z0:Di) (k:Ei→Option (ByteArray×SL01Cur)):Ei→Option (ByteArray×SL01Cur)
 | .c0 n_1 i_6 c_0c1 c_0c2 out_5=>
 bif (decide (i_6<n_1)) then
  (z0 ⟨(),c_0c1,c_0c2⟩).bind fun r0=>
  bif (decide (((out_5.length+1)*1)≤140737488355328)) then
  k (.c0 n_1 (w64 (i_6+1)) r0.2.fI r0.2.fH (out_5++[(w8 r0.1)]))
  else none
 else
  some ((ofBytes out_5),⟨(),c_0c1,c_0c2⟩)
noncomputable def Xf:Nat→Ei→Option (ByteArray×SL01Cur)
 | 0,_=>none
 | m+1,s=>Gn Jb (Xf m) s
noncomputable def Gi:Yr:=Zr Jb (Xf gas)
theorem KAA:Tells ctx PP 58 cv5 cv10 (fun a=>Gi a.1 a.2):=
 have b:∀ z0,CutIs ctx PP 58 Tryd.f58 [0] [(93,Qr z0)] cv10 Vz (Gn z0):=fun z0 _ s=>by cases s <;> kernel_rfl
 have e:∀ z0,EntryIs ctx PP 58 [0] [(93,Qr z0)] cv5 cv10 Vz (fun k a=>Zr z0 k a.1 a.2):=fun z0 _ a=>by kernel_rfl
 fn_ok (hc Qz hl_nil) Tryd.func58 (fun s s' h=>by cases s;cases s';cases h;rfl) (fun _=>rfl) (fun _ _=>rfl) (b Jb) (e Jb) gas
noncomputable def LAA {γ:Type} (F:Yr):Hd ctx γ:=hdl cv5.dec (fun a=>F a.1 a.2) cv10.enc
abbrev Pn:=SL01Cur→Option (SThing×SL01Cur)
noncomputable def Es (z0:WZ) (z1:En) (z2:Yr) (z3:Dn) (z4:Jd) (c_0:SL01Cur):Option (SThing×SL01Cur):=
 (z0 ⟨(),c_0.fI,c_0.fH⟩ 6).bind fun r0=>
 (z0 ⟨(),r0.2.fI,r0.2.fH⟩ 3).bind fun r1=>
 (z1 ⟨(),r1.2.fI,r1.2.fH⟩ 2).bind fun r2=>
 (z1 ⟨(),r2.2.fI,r2.2.fH⟩ 2).bind fun r3=>
 bif ((w64 (1+r1.1)) == 3) then
 (z0 ⟨(),r3.2.fI,r3.2.fH⟩ 9).bind fun r4=>
 (z2 ⟨(),r4.2.fI,r4.2.fH⟩ r4.1).bind fun r5=>
 some (⟨(w64 (1+r0.1)),(w64 (1+r1.1)),r2.1,r3.1,false,false,r5.1,0⟩,⟨(),r5.2.fI,r5.2.fH⟩)
 else
 bif ((w64 (1+r1.1)) == 2) then
  (z0 ⟨(),r3.2.fI,r3.2.fH⟩ 17).bind fun r6=>
  (z1 ⟨(),r6.2.fI,r6.2.fH⟩ 4).bind fun r7=>
  (z3 ⟨(),r7.2.fI,r7.2.fH⟩ [⟨#[97]⟩,⟨#[98]⟩,⟨#[99]⟩]).bind fun r8=>
  (z4 r8.1).bind fun r9=>
  some (⟨(w64 (1+r0.1)),(w64 (1+r1.1)),r2.1,r3.1,(!r7.1),false,r9,r6.1⟩,⟨(),r8.2.fI,r8.2.fH⟩)
 else
  (z1 ⟨(),r3.2.fI,r3.2.fH⟩ 4).bind fun r10=>
  (z3 ⟨(),r10.2.fI,r10.2.fH⟩ [⟨#[97]⟩,⟨#[98]⟩,⟨#[99]⟩]).bind fun r11=>
  (z4 r11.1).bind fun r12=>
  some (⟨(w64 (1+r0.1)),(w64 (1+r1.1)),r2.1,r3.1,false,(!r10.1),r12,0⟩,⟨(),r11.2.fI,r11.2.fH⟩)
noncomputable def Td:Pn:=Es OY Qd Gi Md MZ
theorem Xz:Tells ctx PP 113 cv3 cv29 (fun a=>Td a):=fn_ok0 (hc Nb (hc Tz (hc KAA (hc Rz (hc Sm hl_nil))))) Tryd.func113 ((fun z0 z1 z2 z3 z4 a=>by kernel_rfl:∀ z0 z1 z2 z3 z4,EntryIs0 ctx PP 113 [0] [(57,Va z0),(54,Uz z1),(58,LAA z2),(122,Sz z3),(60,Zh z4)] cv3 cv29 fun a=>Es z0 z1 z2 z3 z4 a) OY Qd Gi Md MZ)
noncomputable def Yz {γ:Type} (F:Pn):Hd ctx γ:=hdl cv3.dec (fun a=>F a) cv29.enc
abbrev Ii:=SL01Cur→SBook→Option (SRec×SL01Cur)
noncomputable def Gs (z0:Vf) (z1:Dn) (z2:Jd) (z3:WZ) (z4:Pn) (z5:En) (c_0:SL01Cur) (b_1:SBook):Option (SRec×SL01Cur):=
 (z0 ⟨(),c_0.fI,c_0.fH⟩ [1,2,3,3,3,3,4]).bind fun r0=>
 bif (r0.1 == 1) then
 (z1 ⟨(),r0.2.fI,r0.2.fH⟩ [⟨#[]⟩,⟨#[119]⟩,⟨#[112,105,110]⟩]).bind fun r1=>
 (z2 r1.1).bind fun r2=>
 some (⟨r0.1,r2,0,⟨0,0,false,false,false,false,⟨#[]⟩,0⟩⟩,⟨(),r1.2.fI,r1.2.fH⟩)
 else
 bif (r0.1 == 2) then
  (z3 ⟨(),r0.2.fI,r0.2.fH⟩ 4).bind fun r3=>
  some (⟨r0.1,⟨#[]⟩,r3.1,⟨0,0,false,false,false,false,⟨#[]⟩,0⟩⟩,⟨(),r3.2.fI,r3.2.fH⟩)
 else
  bif (r0.1 == 3) then
  (z4 ⟨(),r0.2.fI,r0.2.fH⟩).bind fun r4=>
  bif (decide ((b_1.fThings.length:Int) > 0)) then
   (z5 ⟨(),r4.2.fI,r4.2.fH⟩ 2).bind fun r5=>
   bif r5.1 then
   (z3 ⟨(),r5.2.fI,r5.2.fH⟩ (b_1.fThings.length:Int)).bind fun r6=>
   bif ((decide (0≤r6.1)) && (decide (r6.1<(b_1.fThings.length:Int)))) then
   bif (b_1.fThings.getD r6.1.toNat (⟨0,0,false,false,false,false,⟨#[]⟩,0⟩:SThing)).fHidden then
    bif (b_1.fThings.getD r6.1.toNat (⟨0,0,false,false,false,false,⟨#[]⟩,0⟩:SThing)).fFixed then
    bif ((b_1.fThings.getD r6.1.toNat (⟨0,0,false,false,false,false,⟨#[]⟩,0⟩:SThing)).fKind == 2) then
     bif (decide ((b_1.fThings.getD r6.1.toNat (⟨0,0,false,false,false,false,⟨#[]⟩,0⟩:SThing)).fNext<16)) then
     (z3 ⟨(),r6.2.fI,r6.2.fH⟩ 2).bind fun r7=>
     some (⟨r0.1,⟨#[]⟩,0,⟨(b_1.fThings.getD r6.1.toNat (⟨0,0,false,false,false,false,⟨#[]⟩,0⟩:SThing)).fId,(b_1.fThings.getD r6.1.toNat (⟨0,0,false,false,false,false,⟨#[]⟩,0⟩:SThing)).fKind,true,true,(b_1.fThings.getD r6.1.toNat (⟨0,0,false,false,false,false,⟨#[]⟩,0⟩:SThing)).fSigns,(b_1.fThings.getD r6.1.toNat (⟨0,0,false,false,false,false,⟨#[]⟩,0⟩:SThing)).fWraps,(b_1.fThings.getD r6.1.toNat (⟨0,0,false,false,false,false,⟨#[]⟩,0⟩:SThing)).fValue,(w64 ((b_1.fThings.getD r6.1.toNat (⟨0,0,false,false,false,false,⟨#[]⟩,0⟩:SThing)).fNext+r7.1))⟩⟩,⟨(),r7.2.fI,r7.2.fH⟩)
     else
     some (⟨r0.1,⟨#[]⟩,0,⟨(b_1.fThings.getD r6.1.toNat (⟨0,0,false,false,false,false,⟨#[]⟩,0⟩:SThing)).fId,(b_1.fThings.getD r6.1.toNat (⟨0,0,false,false,false,false,⟨#[]⟩,0⟩:SThing)).fKind,true,true,(b_1.fThings.getD r6.1.toNat (⟨0,0,false,false,false,false,⟨#[]⟩,0⟩:SThing)).fSigns,(b_1.fThings.getD r6.1.toNat (⟨0,0,false,false,false,false,⟨#[]⟩,0⟩:SThing)).fWraps,(b_1.fThings.getD r6.1.toNat (⟨0,0,false,false,false,false,⟨#[]⟩,0⟩:SThing)).fValue,(b_1.fThings.getD r6.1.toNat (⟨0,0,false,false,false,false,⟨#[]⟩,0⟩:SThing)).fNext⟩⟩,⟨(),r6.2.fI,r6.2.fH⟩)
    else
     some (⟨r0.1,⟨#[]⟩,0,⟨(b_1.fThings.getD r6.1.toNat (⟨0,0,false,false,false,false,⟨#[]⟩,0⟩:SThing)).fId,(b_1.fThings.getD r6.1.toNat (⟨0,0,false,false,false,false,⟨#[]⟩,0⟩:SThing)).fKind,true,true,(b_1.fThings.getD r6.1.toNat (⟨0,0,false,false,false,false,⟨#[]⟩,0⟩:SThing)).fSigns,(b_1.fThings.getD r6.1.toNat (⟨0,0,false,false,false,false,⟨#[]⟩,0⟩:SThing)).fWraps,(b_1.fThings.getD r6.1.toNat (⟨0,0,false,false,false,false,⟨#[]⟩,0⟩:SThing)).fValue,(b_1.fThings.getD r6.1.toNat (⟨0,0,false,false,false,false,⟨#[]⟩,0⟩:SThing)).fNext⟩⟩,⟨(),r6.2.fI,r6.2.fH⟩)
    else
    (z5 ⟨(),r6.2.fI,r6.2.fH⟩ 2).bind fun r8=>
    bif ((b_1.fThings.getD r6.1.toNat (⟨0,0,false,false,false,false,⟨#[]⟩,0⟩:SThing)).fKind == 2) then
     bif (decide ((b_1.fThings.getD r6.1.toNat (⟨0,0,false,false,false,false,⟨#[]⟩,0⟩:SThing)).fNext<16)) then
     (z3 ⟨(),r8.2.fI,r8.2.fH⟩ 2).bind fun r9=>
     some (⟨r0.1,⟨#[]⟩,0,⟨(b_1.fThings.getD r6.1.toNat (⟨0,0,false,false,false,false,⟨#[]⟩,0⟩:SThing)).fId,(b_1.fThings.getD r6.1.toNat (⟨0,0,false,false,false,false,⟨#[]⟩,0⟩:SThing)).fKind,true,r8.1,(b_1.fThings.getD r6.1.toNat (⟨0,0,false,false,false,false,⟨#[]⟩,0⟩:SThing)).fSigns,(b_1.fThings.getD r6.1.toNat (⟨0,0,false,false,false,false,⟨#[]⟩,0⟩:SThing)).fWraps,(b_1.fThings.getD r6.1.toNat (⟨0,0,false,false,false,false,⟨#[]⟩,0⟩:SThing)).fValue,(w64 ((b_1.fThings.getD r6.1.toNat (⟨0,0,false,false,false,false,⟨#[]⟩,0⟩:SThing)).fNext+r9.1))⟩⟩,⟨(),r9.2.fI,r9.2.fH⟩)
     else
     some (⟨r0.1,⟨#[]⟩,0,⟨(b_1.fThings.getD r6.1.toNat (⟨0,0,false,false,false,false,⟨#[]⟩,0⟩:SThing)).fId,(b_1.fThings.getD r6.1.toNat (⟨0,0,false,false,false,false,⟨#[]⟩,0⟩:SThing)).fKind,true,r8.1,(b_1.fThings.getD r6.1.toNat (⟨0,0,false,false,false,false,⟨#[]⟩,0⟩:SThing)).fSigns,(b_1.fThings.getD r6.1.toNat (⟨0,0,false,false,false,false,⟨#[]⟩,0⟩:SThing)).fWraps,(b_1.fThings.getD r6.1.toNat (⟨0,0,false,false,false,false,⟨#[]⟩,0⟩:SThing)).fValue,(b_1.fThings.getD r6.1.toNat (⟨0,0,false,false,false,false,⟨#[]⟩,0⟩:SThing)).fNext⟩⟩,⟨(),r8.2.fI,r8.2.fH⟩)
    else
     some (⟨r0.1,⟨#[]⟩,0,⟨(b_1.fThings.getD r6.1.toNat (⟨0,0,false,false,false,false,⟨#[]⟩,0⟩:SThing)).fId,(b_1.fThings.getD r6.1.toNat (⟨0,0,false,false,false,false,⟨#[]⟩,0⟩:SThing)).fKind,true,r8.1,(b_1.fThings.getD r6.1.toNat (⟨0,0,false,false,false,false,⟨#[]⟩,0⟩:SThing)).fSigns,(b_1.fThings.getD r6.1.toNat (⟨0,0,false,false,false,false,⟨#[]⟩,0⟩:SThing)).fWraps,(b_1.fThings.getD r6.1.toNat (⟨0,0,false,false,false,false,⟨#[]⟩,0⟩:SThing)).fValue,(b_1.fThings.getD r6.1.toNat (⟨0,0,false,false,false,false,⟨#[]⟩,0⟩:SThing)).fNext⟩⟩,⟨(),r8.2.fI,r8.2.fH⟩)
   else
    (z5 ⟨(),r6.2.fI,r6.2.fH⟩ 2).bind fun r10=>
    bif (b_1.fThings.getD r6.1.toNat (⟨0,0,false,false,false,false,⟨#[]⟩,0⟩:SThing)).fFixed then
    bif ((b_1.fThings.getD r6.1.toNat (⟨0,0,false,false,false,false,⟨#[]⟩,0⟩:SThing)).fKind == 2) then
     bif (decide ((b_1.fThings.getD r6.1.toNat (⟨0,0,false,false,false,false,⟨#[]⟩,0⟩:SThing)).fNext<16)) then
     (z3 ⟨(),r10.2.fI,r10.2.fH⟩ 2).bind fun r11=>
     some (⟨r0.1,⟨#[]⟩,0,⟨(b_1.fThings.getD r6.1.toNat (⟨0,0,false,false,false,false,⟨#[]⟩,0⟩:SThing)).fId,(b_1.fThings.getD r6.1.toNat (⟨0,0,false,false,false,false,⟨#[]⟩,0⟩:SThing)).fKind,r10.1,true,(b_1.fThings.getD r6.1.toNat (⟨0,0,false,false,false,false,⟨#[]⟩,0⟩:SThing)).fSigns,(b_1.fThings.getD r6.1.toNat (⟨0,0,false,false,false,false,⟨#[]⟩,0⟩:SThing)).fWraps,(b_1.fThings.getD r6.1.toNat (⟨0,0,false,false,false,false,⟨#[]⟩,0⟩:SThing)).fValue,(w64 ((b_1.fThings.getD r6.1.toNat (⟨0,0,false,false,false,false,⟨#[]⟩,0⟩:SThing)).fNext+r11.1))⟩⟩,⟨(),r11.2.fI,r11.2.fH⟩)
     else
     some (⟨r0.1,⟨#[]⟩,0,⟨(b_1.fThings.getD r6.1.toNat (⟨0,0,false,false,false,false,⟨#[]⟩,0⟩:SThing)).fId,(b_1.fThings.getD r6.1.toNat (⟨0,0,false,false,false,false,⟨#[]⟩,0⟩:SThing)).fKind,r10.1,true,(b_1.fThings.getD r6.1.toNat (⟨0,0,false,false,false,false,⟨#[]⟩,0⟩:SThing)).fSigns,(b_1.fThings.getD r6.1.toNat (⟨0,0,false,false,false,false,⟨#[]⟩,0⟩:SThing)).fWraps,(b_1.fThings.getD r6.1.toNat (⟨0,0,false,false,false,false,⟨#[]⟩,0⟩:SThing)).fValue,(b_1.fThings.getD r6.1.toNat (⟨0,0,false,false,false,false,⟨#[]⟩,0⟩:SThing)).fNext⟩⟩,⟨(),r10.2.fI,r10.2.fH⟩)
    else
     some (⟨r0.1,⟨#[]⟩,0,⟨(b_1.fThings.getD r6.1.toNat (⟨0,0,false,false,false,false,⟨#[]⟩,0⟩:SThing)).fId,(b_1.fThings.getD r6.1.toNat (⟨0,0,false,false,false,false,⟨#[]⟩,0⟩:SThing)).fKind,r10.1,true,(b_1.fThings.getD r6.1.toNat (⟨0,0,false,false,false,false,⟨#[]⟩,0⟩:SThing)).fSigns,(b_1.fThings.getD r6.1.toNat (⟨0,0,false,false,false,false,⟨#[]⟩,0⟩:SThing)).fWraps,(b_1.fThings.getD r6.1.toNat (⟨0,0,false,false,false,false,⟨#[]⟩,0⟩:SThing)).fValue,(b_1.fThings.getD r6.1.toNat (⟨0,0,false,false,false,false,⟨#[]⟩,0⟩:SThing)).fNext⟩⟩,⟨(),r10.2.fI,r10.2.fH⟩)
    else
    (z5 ⟨(),r10.2.fI,r10.2.fH⟩ 2).bind fun r12=>
    bif ((b_1.fThings.getD r6.1.toNat (⟨0,0,false,false,false,false,⟨#[]⟩,0⟩:SThing)).fKind == 2) then
     bif (decide ((b_1.fThings.getD r6.1.toNat (⟨0,0,false,false,false,false,⟨#[]⟩,0⟩:SThing)).fNext<16)) then
     (z3 ⟨(),r12.2.fI,r12.2.fH⟩ 2).bind fun r13=>
     some (⟨r0.1,⟨#[]⟩,0,⟨(b_1.fThings.getD r6.1.toNat (⟨0,0,false,false,false,false,⟨#[]⟩,0⟩:SThing)).fId,(b_1.fThings.getD r6.1.toNat (⟨0,0,false,false,false,false,⟨#[]⟩,0⟩:SThing)).fKind,r10.1,r12.1,(b_1.fThings.getD r6.1.toNat (⟨0,0,false,false,false,false,⟨#[]⟩,0⟩:SThing)).fSigns,(b_1.fThings.getD r6.1.toNat (⟨0,0,false,false,false,false,⟨#[]⟩,0⟩:SThing)).fWraps,(b_1.fThings.getD r6.1.toNat (⟨0,0,false,false,false,false,⟨#[]⟩,0⟩:SThing)).fValue,(w64 ((b_1.fThings.getD r6.1.toNat (⟨0,0,false,false,false,false,⟨#[]⟩,0⟩:SThing)).fNext+r13.1))⟩⟩,⟨(),r13.2.fI,r13.2.fH⟩)
     else
     some (⟨r0.1,⟨#[]⟩,0,⟨(b_1.fThings.getD r6.1.toNat (⟨0,0,false,false,false,false,⟨#[]⟩,0⟩:SThing)).fId,(b_1.fThings.getD r6.1.toNat (⟨0,0,false,false,false,false,⟨#[]⟩,0⟩:SThing)).fKind,r10.1,r12.1,(b_1.fThings.getD r6.1.toNat (⟨0,0,false,false,false,false,⟨#[]⟩,0⟩:SThing)).fSigns,(b_1.fThings.getD r6.1.toNat (⟨0,0,false,false,false,false,⟨#[]⟩,0⟩:SThing)).fWraps,(b_1.fThings.getD r6.1.toNat (⟨0,0,false,false,false,false,⟨#[]⟩,0⟩:SThing)).fValue,(b_1.fThings.getD r6.1.toNat (⟨0,0,false,false,false,false,⟨#[]⟩,0⟩:SThing)).fNext⟩⟩,⟨(),r12.2.fI,r12.2.fH⟩)
    else
     some (⟨r0.1,⟨#[]⟩,0,⟨(b_1.fThings.getD r6.1.toNat (⟨0,0,false,false,false,false,⟨#[]⟩,0⟩:SThing)).fId,(b_1.fThings.getD r6.1.toNat (⟨0,0,false,false,false,false,⟨#[]⟩,0⟩:SThing)).fKind,r10.1,r12.1,(b_1.fThings.getD r6.1.toNat (⟨0,0,false,false,false,false,⟨#[]⟩,0⟩:SThing)).fSigns,(b_1.fThings.getD r6.1.toNat (⟨0,0,false,false,false,false,⟨#[]⟩,0⟩:SThing)).fWraps,(b_1.fThings.getD r6.1.toNat (⟨0,0,false,false,false,false,⟨#[]⟩,0⟩:SThing)).fValue,(b_1.fThings.getD r6.1.toNat (⟨0,0,false,false,false,false,⟨#[]⟩,0⟩:SThing)).fNext⟩⟩,⟨(),r12.2.fI,r12.2.fH⟩)
   else none
   else
   some (⟨r0.1,⟨#[]⟩,0,⟨(w64 (b_1.fLast+1)),r4.1.fKind,r4.1.fHidden,r4.1.fFixed,r4.1.fSigns,r4.1.fWraps,r4.1.fValue,r4.1.fNext⟩⟩,⟨(),r5.2.fI,r5.2.fH⟩)
  else
   some (⟨r0.1,⟨#[]⟩,0,⟨(w64 (b_1.fLast+1)),r4.1.fKind,r4.1.fHidden,r4.1.fFixed,r4.1.fSigns,r4.1.fWraps,r4.1.fValue,r4.1.fNext⟩⟩,⟨(),r4.2.fI,r4.2.fH⟩)
  else
  bif (r0.1 == 4) then
   (z3 ⟨(),r0.2.fI,r0.2.fH⟩ 6).bind fun r14=>
   bif (decide ((b_1.fThings.length:Int) > 0)) then
   (z3 ⟨(),r14.2.fI,r14.2.fH⟩ (b_1.fThings.length:Int)).bind fun r15=>
   bif ((decide (0≤r15.1)) && (decide (r15.1<(b_1.fThings.length:Int)))) then
   some (⟨r0.1,⟨#[]⟩,(b_1.fThings.getD r15.1.toNat (⟨0,0,false,false,false,false,⟨#[]⟩,0⟩:SThing)).fId,⟨0,0,false,false,false,false,⟨#[]⟩,0⟩⟩,⟨(),r15.2.fI,r15.2.fH⟩)
   else none
   else
   some (⟨r0.1,⟨#[]⟩,(w64 (1+r14.1)),⟨0,0,false,false,false,false,⟨#[]⟩,0⟩⟩,⟨(),r14.2.fI,r14.2.fH⟩)
  else
   some (⟨r0.1,⟨#[]⟩,0,⟨0,0,false,false,false,false,⟨#[]⟩,0⟩⟩,⟨(),r0.2.fI,r0.2.fH⟩)
noncomputable def Ob:Ii:=Gs Ba Md MZ OY Td Qd
theorem Zz:Tells ctx PP 94 cv41 cv42 (fun a=>Ob a.1 a.2):=fn_ok0 (hc Ym (hc Rz (hc Sm (hc Nb (hc Xz (hc Tz hl_nil)))))) Tryd.func94 ((fun z0 z1 z2 z3 z4 z5 a=>by kernel_rfl:∀ z0 z1 z2 z3 z4 z5,EntryIs0 ctx PP 94 [0] [(105,Zm z0),(122,Sz z1),(60,Zh z2),(57,Va z3),(113,Yz z4),(54,Uz z5)] cv41 cv42 fun a=>Gs z0 z1 z2 z3 z4 z5 a.1 a.2) Ba Md MZ OY Td Qd)
noncomputable def Js {γ:Type} (F:Ii):Hd ctx γ:=hdl cv41.dec (fun a=>F a.1 a.2) cv42.enc
abbrev Ji:=Int→Option ByteArray
inductive Oi where
 | c0 (n_0:Int) (out_3:(List Int))
noncomputable def O0:Oi→LI
 | .c0 n_0 out_3=>(tdo Tryd.f78 224,[(0,[.one (.int .i64 n_0)]),(3,[.one (.own 240)])],[(240,.sl 5 out_3)])
noncomputable def U0 (k:Oi→Option ByteArray) (n_0:Int):Option ByteArray:=
 k (.c0 n_0 [])
noncomputable def Qn (k:Oi→Option ByteArray):Oi→Option ByteArray
 | .c0 n_0 out_3=>
 bif (decide (n_0 > 127)) then
  bif (decide (((out_3.length+1)*1)≤140737488355328)) then
  k (.c0 (w64 (n_0.tdiv 128)) (out_3++[(w8 (w64 ((n_0.tmod 128)+128)))]))
  else none
 else
  bif (decide (((out_3.length+1)*1)≤140737488355328)) then
  some (ofBytes (out_3++[(w8 n_0)]))
  else none
noncomputable def Qi:Nat→Oi→Option ByteArray
 | 0,_=>none
 | m+1,s=>Qn (Qi m) s
noncomputable def Jc:Ji:=U0 (Qi gas)
theorem Ls:Tells ctx PP 78 cv14 cv9 (fun a=>Jc a):=
 have b:CutIs ctx PP 78 Tryd.f78 [] [] cv9 O0 (Qn):=fun _ s=>by cases s <;> kernel_rfl
 have e:EntryIs ctx PP 78 [] [] cv14 cv9 O0 (fun k a=>U0 k a):=fun _ a=>by kernel_rfl
 fn_ok hl_nil Tryd.func78 (fun s s' h=>by cases s;cases s';cases h;rfl) (fun _=>rfl) (fun _ _=>rfl) b e gas
noncomputable def Ns {γ:Type} (F:Ji):Hd ctx γ:=hdl cv14.dec (fun a=>F a) cv9.enc
abbrev Ri:=SThing→Option Bool
noncomputable def Qs (z0:Bd) (x_0:SThing):Option Bool:=
 (z0 x_0.fId 1 1000).bind fun r0=>
 bif (!r0) then
 some false
 else
 (z0 x_0.fKind 1 3).bind fun r1=>
 bif (!r1) then
  some false
 else
  (z0 x_0.fNext 0 16).bind fun r2=>
  bif (!r2) then
  some false
  else
  bif (x_0.fKind != 2) then
   bif (x_0.fNext != 0) then
   some false
   else
   bif x_0.fSigns then
    some false
   else
    bif (x_0.fKind != 1) then
    bif x_0.fWraps then
     some false
    else
     bif (x_0.fKind == 3) then
     some (decide ((x_0.fValue.size:Int)≤100))
     else
     some ((x_0.fValue.size:Int) == 32)
    else
    bif (x_0.fKind == 3) then
     some (decide ((x_0.fValue.size:Int)≤100))
    else
     some ((x_0.fValue.size:Int) == 32)
  else
   bif (x_0.fKind != 1) then
   bif x_0.fWraps then
    some false
   else
    bif (x_0.fKind == 3) then
    some (decide ((x_0.fValue.size:Int)≤100))
    else
    some ((x_0.fValue.size:Int) == 32)
   else
   bif (x_0.fKind == 3) then
    some (decide ((x_0.fValue.size:Int)≤100))
   else
    some ((x_0.fValue.size:Int) == 32)
noncomputable def Qb:Ri:=Qs VZ
theorem X0:Tells ctx PP 17 cv30 cv1 (fun a=>Qb a):=fn_ok0 (hc Cm hl_nil) Tryd.func17 ((fun z0 a=>by kernel_rfl:∀ z0,EntryIs0 ctx PP 17 [] [(63,Nh z0)] cv30 cv1 fun a=>Qs z0 a) VZ)
noncomputable def Us {γ:Type} (F:Ri):Hd ctx γ:=hdl cv30.dec (fun a=>F a) cv1.enc
abbrev Vs:=Bool→Int→Option Int
noncomputable def Y0 (x_0:Bool) (n_1:Int):Option Int:=
 bif x_0 then
 some n_1
 else
 some 0
noncomputable def Rn:Vs:=Y0
theorem MAA:Tells ctx PP 144 cv43 cv14 (fun a=>Rn a.1 a.2):=fn_ok0 hl_nil Tryd.func144 (fun a=>by kernel_rfl:EntryIs0 ctx PP 144 [] [] cv43 cv14 fun a=>Y0 a.1 a.2)
noncomputable def NAA {γ:Type} (F:Vs):Hd ctx γ:=hdl cv43.dec (fun a=>F a.1 a.2) cv14.enc
abbrev Ws:=Int→Option ByteArray
noncomputable def Dt (n_0:Int):Option ByteArray:=
 bif (decide ((n_0.tmod 256)<0)) then
 some (ofBytes [(w8 (w64 ((n_0.tmod 256)+256)))])
 else
 some (ofBytes [(w8 (n_0.tmod 256))])
noncomputable def Si:Ws:=Dt
theorem OAA:Tells ctx PP 116 cv14 cv9 (fun a=>Si a):=fn_ok0 hl_nil Tryd.func116 (fun a=>by kernel_rfl:EntryIs0 ctx PP 116 [] [] cv14 cv9 fun a=>Dt a)
noncomputable def PAA {γ:Type} (F:Ws):Hd ctx γ:=hdl cv14.dec (fun a=>F a) cv9.enc
abbrev Et:=ByteArray→Option ByteArray
noncomputable def Gt (z0:Ji) (s_0:ByteArray):Option ByteArray:=
 (z0 (s_0.size:Int)).bind fun r0=>
 bif (decide ((r0.size+s_0.size)≤9223372036854775807)) then
 some (r0++s_0)
 else none
noncomputable def Ti:Et:=Gt Jc
theorem QAA:Tells ctx PP 145 cv9 cv9 (fun a=>Ti a):=fn_ok0 (hc Ls hl_nil) Tryd.func145 ((fun z0 a=>by kernel_rfl:∀ z0,EntryIs0 ctx PP 145 [] [(78,Ns z0)] cv9 cv9 fun a=>Gt z0 a) Jc)
noncomputable def RAA {γ:Type} (F:Et):Hd ctx γ:=hdl cv9.dec (fun a=>F a) cv9.enc
abbrev Ht:=SThing→Option (ByteArray×Bool)
noncomputable def Jt (z0:Ri) (z1:Vs) (z2:Ji) (z3:Ws) (z4:Et) (x_0:SThing):Option (ByteArray×Bool):=
 (z0 x_0).bind fun r0=>
 bif (!r0) then
 some (⟨#[]⟩,false)
 else
 (z1 x_0.fHidden 1).bind fun r1=>
 (z1 x_0.fFixed 2).bind fun r2=>
 (z1 x_0.fSigns 4).bind fun r3=>
 (z1 x_0.fWraps 8).bind fun r4=>
 (z2 x_0.fId).bind fun r5=>
 (z3 x_0.fKind).bind fun r6=>
 bif (decide ((r5.size+r6.size)≤9223372036854775807)) then
 (z3 (w64 ((w64 ((w64 (r1+r2))+r3))+r4))).bind fun r7=>
 bif (decide (((r5++r6).size+r7.size)≤9223372036854775807)) then
 (z4 x_0.fValue).bind fun r8=>
 bif (decide ((((r5++r6)++r7).size+r8.size)≤9223372036854775807)) then
 (z2 x_0.fNext).bind fun r9=>
 bif (decide (((((r5++r6)++r7)++r8).size+r9.size)≤9223372036854775807)) then
 some (((((r5++r6)++r7)++r8)++r9),true)
 else none
 else none
 else none
 else none
noncomputable def Ui:Ht:=Jt Qb Rn Jc Si Ti
theorem SAA:Tells ctx PP 121 cv30 cv33 (fun a=>Ui a):=fn_ok0 (hc X0 (hc MAA (hc Ls (hc OAA (hc QAA hl_nil))))) Tryd.func121 ((fun z0 z1 z2 z3 z4 a=>by kernel_rfl:∀ z0 z1 z2 z3 z4,EntryIs0 ctx PP 121 [] [(17,Us z0),(144,NAA z1),(78,Ns z2),(116,PAA z3),(145,RAA z4)] cv30 cv33 fun a=>Jt z0 z1 z2 z3 z4 a) Qb Rn Jc Si Ti)
noncomputable def TAA {γ:Type} (F:Ht):Hd ctx γ:=hdl cv30.dec (fun a=>F a) cv33.enc
abbrev Tn:=SRec→Option (ByteArray×Bool)
noncomputable def Kt (z0:Bd) (z1:Ji) (z2:Ht) (r_0:SRec):Option (ByteArray×Bool):=
 bif (r_0.fKind == 1) then
 bif ((r_0.fText.size:Int) == 32) then
  bif (r_0.fNum == 0) then
  bif ((r_0.fThing.fId == 0) && ((r_0.fThing.fKind == 0) && ((r_0.fThing.fHidden == false) && ((r_0.fThing.fFixed == false) && ((r_0.fThing.fSigns == false) && ((r_0.fThing.fWraps == false) && (((ByteArray.toList r_0.fThing.fValue) == (ByteArray.toList ⟨#[]⟩)) && ((r_0.fThing.fNext == 0) && true)))))))) then
   bif (decide (((⟨#[1]⟩:ByteArray).size+r_0.fText.size)≤9223372036854775807)) then
   some (((⟨#[1]⟩:ByteArray)++r_0.fText),true)
   else none
  else
   some (⟨#[]⟩,false)
  else
  some (⟨#[]⟩,false)
 else
  some (⟨#[]⟩,false)
 else
 bif (r_0.fKind == 2) then
  bif ((ByteArray.toList r_0.fText) == (ByteArray.toList ⟨#[]⟩)) then
  bif ((r_0.fThing.fId == 0) && ((r_0.fThing.fKind == 0) && ((r_0.fThing.fHidden == false) && ((r_0.fThing.fFixed == false) && ((r_0.fThing.fSigns == false) && ((r_0.fThing.fWraps == false) && (((ByteArray.toList r_0.fThing.fValue) == (ByteArray.toList ⟨#[]⟩)) && ((r_0.fThing.fNext == 0) && true)))))))) then
   (z0 r_0.fNum 0 3).bind fun r0=>
   bif r0 then
   (z1 r_0.fNum).bind fun r1=>
   bif (decide (((⟨#[2]⟩:ByteArray).size+r1.size)≤9223372036854775807)) then
   some (((⟨#[2]⟩:ByteArray)++r1),true)
   else none
   else
   some (⟨#[]⟩,false)
  else
   some (⟨#[]⟩,false)
  else
  some (⟨#[]⟩,false)
 else
  bif (r_0.fKind == 3) then
  (z2 r_0.fThing).bind fun r2=>
  bif r2.2 then
   bif ((ByteArray.toList r_0.fText) == (ByteArray.toList ⟨#[]⟩)) then
   bif (r_0.fNum == 0) then
    bif (decide (((⟨#[3]⟩:ByteArray).size+r2.1.size)≤9223372036854775807)) then
    some (((⟨#[3]⟩:ByteArray)++r2.1),true)
    else none
   else
    some (⟨#[]⟩,false)
   else
   some (⟨#[]⟩,false)
  else
   some (⟨#[]⟩,false)
  else
  bif (r_0.fKind == 4) then
   bif ((ByteArray.toList r_0.fText) == (ByteArray.toList ⟨#[]⟩)) then
   bif ((r_0.fThing.fId == 0) && ((r_0.fThing.fKind == 0) && ((r_0.fThing.fHidden == false) && ((r_0.fThing.fFixed == false) && ((r_0.fThing.fSigns == false) && ((r_0.fThing.fWraps == false) && (((ByteArray.toList r_0.fThing.fValue) == (ByteArray.toList ⟨#[]⟩)) && ((r_0.fThing.fNext == 0) && true)))))))) then
    (z0 r_0.fNum 1 1000).bind fun r3=>
    bif r3 then
    (z1 r_0.fNum).bind fun r4=>
    bif (decide (((⟨#[4]⟩:ByteArray).size+r4.size)≤9223372036854775807)) then
    some (((⟨#[4]⟩:ByteArray)++r4),true)
    else none
    else
    some (⟨#[]⟩,false)
   else
    some (⟨#[]⟩,false)
   else
   some (⟨#[]⟩,false)
  else
   some (⟨#[]⟩,false)
noncomputable def Ud:Tn:=Kt VZ Jc Ui
theorem UAA:Tells ctx PP 86 cv44 cv33 (fun a=>Ud a):=fn_ok0 (hc Cm (hc Ls (hc SAA hl_nil))) Tryd.func86 ((fun z0 z1 z2 a=>by kernel_rfl:∀ z0 z1 z2,EntryIs0 ctx PP 86 [] [(63,Nh z0),(78,Ns z1),(121,TAA z2)] cv44 cv33 fun a=>Kt z0 z1 z2 a) VZ Jc Ui)
noncomputable def O1 {γ:Type} (F:Tn):Hd ctx γ:=hdl cv44.dec (fun a=>F a) cv33.enc
abbrev Yf:=SBook→Option Bool
inductive Wi where
 | c0 (i_3:Int) (b_1:SBook)
noncomputable def U1:Wi→LI
 | .c0 i_3 b_1=>(tdo Tryd.f37 464,[(1,[.one (.ptr 64 0)]),(3,[.one (.int .i64 i_3)])],[(64,.var [.str b_1.fWord,.int .i64 b_1.fTries,.rsl 27 b_1.fThings,.int .i64 b_1.fLast,.str b_1.fChain,.int .i64 b_1.fCount])])
noncomputable def Ot (z0:Bd) (z1:Ri) (k:Wi→Option Bool) (b_0:SBook):Option Bool:=
 bif ((b_0.fWord.size:Int) != 32) then
 some false
 else
 bif ((b_0.fChain.size:Int) != 32) then
  some false
 else
  (z0 b_0.fTries 0 3).bind fun r0=>
  bif (!r0) then
  some false
  else
  bif (decide ((b_0.fThings.length:Int) > 8)) then
   some false
  else
   (z0 b_0.fLast 0 1000).bind fun r1=>
   bif (!r1) then
   some false
   else
   (z0 b_0.fCount 0 10000).bind fun r2=>
   bif (!r2) then
    some false
   else
    k (.c0 0 b_0)
noncomputable def Un (z0:Bd) (z1:Ri) (k:Wi→Option Bool):Wi→Option Bool
 | .c0 i_3 b_1=>
 bif (decide (i_3<(b_1.fThings.length:Int))) then
  bif ((decide (0≤i_3)) && (decide (i_3<(b_1.fThings.length:Int)))) then
  (z1 (b_1.fThings.getD i_3.toNat (⟨0,0,false,false,false,false,⟨#[]⟩,0⟩:SThing))).bind fun r0=>
  bif (!r0) then
  some false
  else
  bif ((decide (0≤i_3)) && (decide (i_3<(b_1.fThings.length:Int)))) then
  bif (decide ((b_1.fThings.getD i_3.toNat (⟨0,0,false,false,false,false,⟨#[]⟩,0⟩:SThing)).fId > b_1.fLast)) then
   some false
  else
   bif (decide (i_3 > 0)) then
   bif ((decide (0≤(w64 (i_3 - 1)))) && (decide ((w64 (i_3 - 1))<(b_1.fThings.length:Int)))) then
   bif ((decide (0≤i_3)) && (decide (i_3<(b_1.fThings.length:Int)))) then
   bif (decide ((b_1.fThings.getD (w64 (i_3 - 1)).toNat (⟨0,0,false,false,false,false,⟨#[]⟩,0⟩:SThing)).fId≥(b_1.fThings.getD i_3.toNat (⟨0,0,false,false,false,false,⟨#[]⟩,0⟩:SThing)).fId)) then
    some false
   else
    k (.c0 (w64 (i_3+1)) b_1)
   else none
   else none
   else
   k (.c0 (w64 (i_3+1)) b_1)
  else none
  else none
 else
  some true
noncomputable def Vd:Nat→Wi→Option Bool
 | 0,_=>none
 | m+1,s=>Un VZ Qb (Vd m) s
noncomputable def Ea:Yf:=Ot VZ Qb (Vd gas)
theorem Y1:Tells ctx PP 37 cv45 cv1 (fun a=>Ea a):=
 have b:∀ z0 z1,CutIs ctx PP 37 Tryd.f37 [] [(63,Nh z0),(17,Us z1)] cv1 U1 (Un z0 z1):=fun z0 z1 _ s=>by cases s <;> kernel_rfl
 have e:∀ z0 z1,EntryIs ctx PP 37 [] [(63,Nh z0),(17,Us z1)] cv45 cv1 U1 (fun k a=>Ot z0 z1 k a):=fun z0 z1 _ a=>by kernel_rfl
 fn_ok (hc Cm (hc X0 hl_nil)) Tryd.func37 (fun s s' h=>by cases s;cases s';(repeat cases ‹SBook›);cases h;rfl) (fun _=>rfl) (fun _ _=>rfl) (b VZ Qb) (e VZ Qb) gas
noncomputable def Wn {γ:Type} (F:Yf):Hd ctx γ:=hdl cv45.dec (fun a=>F a) cv1.enc
abbrev Xi:=SBook→Option SBook
noncomputable def Rt (b_0:SBook):Option SBook:=
 bif (decide (((0+b_0.fThings.length)*48)≤140737488355328)) then
 some ⟨b_0.fWord,b_0.fTries,([]++b_0.fThings),b_0.fLast,b_0.fChain,b_0.fCount⟩
 else none
noncomputable def Ub:Xi:=Rt
theorem U2:Tells ctx PP 87 cv45 cv40 (fun a=>Ub a):=fn_ok0 hl_nil Tryd.func87 (fun a=>by kernel_rfl:EntryIs0 ctx PP 87 [] [] cv45 cv40 fun a=>Rt a)
noncomputable def Tt {γ:Type} (F:Xi):Hd ctx γ:=hdl cv45.dec (fun a=>F a) cv40.enc
abbrev Xn:=SBook→Int→Option (SThing×Bool)
inductive Yi where
 | c0 (id_1:Int) (i_6:Int) (b_2:SBook) (v_4:SThing)
noncomputable def Y2:Yi→LI
 | .c0 id_1 i_6 b_2 v_4=>(tdo Tryd.f88 208,[(1,[.one (.int .i64 id_1)]),(2,[.one (.ptr 128 0)]),(4,[.one (.ptr 256 0)]),(6,[.one (.int .i64 i_6)])],[(128,.var [.str b_2.fWord,.int .i64 b_2.fTries,.rsl 27 b_2.fThings,.int .i64 b_2.fLast,.str b_2.fChain,.int .i64 b_2.fCount]),(256,.var [.int .i64 v_4.fId,.int .i64 v_4.fKind,.bool v_4.fHidden,.bool v_4.fFixed,.bool v_4.fSigns,.bool v_4.fWraps,.str v_4.fValue,.int .i64 v_4.fNext])])
noncomputable def J3 (k:Yi→Option (SThing×Bool)) (b_0:SBook) (id_1:Int):Option (SThing×Bool):=
 k (.c0 id_1 0 b_0 ⟨0,0,false,false,false,false,⟨#[]⟩,0⟩)
noncomputable def Yn (k:Yi→Option (SThing×Bool)):Yi→Option (SThing×Bool)
 | .c0 id_1 i_6 b_2 v_4=>
 bif (decide (i_6<(b_2.fThings.length:Int))) then
  bif ((decide (0≤i_6)) && (decide (i_6<(b_2.fThings.length:Int)))) then
  bif ((b_2.fThings.getD i_6.toNat (⟨0,0,false,false,false,false,⟨#[]⟩,0⟩:SThing)).fId == id_1) then
  bif ((decide (0≤i_6)) && (decide (i_6<(b_2.fThings.length:Int)))) then
  some ((b_2.fThings.getD i_6.toNat (⟨0,0,false,false,false,false,⟨#[]⟩,0⟩:SThing)),true)
  else none
  else
  k (.c0 id_1 (w64 (i_6+1)) b_2 v_4)
  else none
 else
  some (⟨0,0,false,false,false,false,⟨#[]⟩,0⟩,false)
noncomputable def Zf:Nat→Yi→Option (SThing×Bool)
 | 0,_=>none
 | m+1,s=>Yn (Zf m) s
noncomputable def Ag:Xn:=J3 (Zf gas)
theorem VAA:Tells ctx PP 88 cv46 cv18 (fun a=>Ag a.1 a.2):=
 have b:CutIs ctx PP 88 Tryd.f88 [] [] cv18 Y2 (Yn):=fun _ s=>by cases s <;> kernel_rfl
 have e:EntryIs ctx PP 88 [] [] cv46 cv18 Y2 (fun k a=>J3 k a.1 a.2):=fun _ a=>by kernel_rfl
 fn_ok hl_nil Tryd.func88 (fun s s' h=>by cases s;cases s';(repeat cases ‹SBook›);(repeat cases ‹SThing›);cases h;rfl) (fun _=>rfl) (fun _ _=>rfl) b e gas
noncomputable def O3 {γ:Type} (F:Xn):Hd ctx γ:=hdl cv46.dec (fun a=>F a.1 a.2) cv18.enc
abbrev Zn:=SThing→SThing→Option Bool
noncomputable def Ut (a_0:SThing) (b_1:SThing):Option Bool:=
 bif (a_0.fKind == b_1.fKind) then
 bif ((ByteArray.toList a_0.fValue) == (ByteArray.toList b_1.fValue)) then
  bif (a_0.fSigns == b_1.fSigns) then
  bif (a_0.fWraps == b_1.fWraps) then
   bif (decide (a_0.fNext≤b_1.fNext)) then
   bif b_1.fHidden then
    bif b_1.fFixed then
    some true
    else
    some (!a_0.fFixed)
   else
    bif (!a_0.fHidden) then
    bif b_1.fFixed then
     some true
    else
     some (!a_0.fFixed)
    else
    some false
   else
   some false
  else
   some false
  else
  some false
 else
  some false
 else
 some false
noncomputable def Xd:Zn:=Ut
theorem WAA:Tells ctx PP 89 cv47 cv1 (fun a=>Xd a.1 a.2):=fn_ok0 hl_nil Tryd.func89 (fun a=>by kernel_rfl:EntryIs0 ctx PP 89 [] [] cv47 cv1 fun a=>Ut a.1 a.2)
noncomputable def U3 {γ:Type} (F:Zn):Hd ctx γ:=hdl cv47.dec (fun a=>F a.1 a.2) cv1.enc
abbrev Bo:=(List SThing)→SThing→Option (List SThing)
inductive Zi where
 | c0 (list_0:(List SThing)) (i_6:Int) (x_3:SThing) (out_5:(List SThing))
 | c1 (list_0:(List SThing)) (i_7:Int) (x_3:SThing) (out_5:(List SThing))
noncomputable def V3:Zi→LI
 | .c0 list_0 i_6 x_3 out_5=>(tdo Tryd.f90 464,[(0,[.one (.rsl 27 list_0)]),(3,[.one (.ptr 192 0)]),(5,[.one (.own 368)]),(6,[.one (.int .i64 i_6)])],[(192,.var [.int .i64 x_3.fId,.int .i64 x_3.fKind,.bool x_3.fHidden,.bool x_3.fFixed,.bool x_3.fSigns,.bool x_3.fWraps,.str x_3.fValue,.int .i64 x_3.fNext]),(368,.sl 27 out_5)])
 | .c1 list_0 i_7 x_3 out_5=>(tdo Tryd.f90 2000,[(0,[.one (.rsl 27 list_0)]),(3,[.one (.ptr 192 0)]),(5,[.one (.own 368)]),(7,[.one (.int .i64 i_7)])],[(192,.var [.int .i64 x_3.fId,.int .i64 x_3.fKind,.bool x_3.fHidden,.bool x_3.fFixed,.bool x_3.fSigns,.bool x_3.fWraps,.str x_3.fValue,.int .i64 x_3.fNext]),(368,.sl 27 out_5)])
noncomputable def Vt (k:Zi→Option (List SThing)) (list_0:(List SThing)) (x_1:SThing):Option (List SThing):=
 k (.c0 list_0 0 x_1 [])
noncomputable def Bg (k:Zi→Option (List SThing)):Zi→Option (List SThing)
 | .c0 list_0 i_6 x_3 out_5=>
 bif (decide (i_6<(list_0.length:Int))) then
  bif ((decide (0≤i_6)) && (decide (i_6<(list_0.length:Int)))) then
  bif (decide ((list_0.getD i_6.toNat (⟨0,0,false,false,false,false,⟨#[]⟩,0⟩:SThing)).fId<x_3.fId)) then
  bif ((decide (0≤i_6)) && (decide (i_6<(list_0.length:Int)))) then
  bif (decide (((out_5.length+1)*48)≤140737488355328)) then
  k (.c0 list_0 (w64 (i_6+1)) x_3 (out_5++[(list_0.getD i_6.toNat (⟨0,0,false,false,false,false,⟨#[]⟩,0⟩:SThing))]))
  else none
  else none
  else
  k (.c0 list_0 (w64 (i_6+1)) x_3 out_5)
  else none
 else
  bif (decide (((out_5.length+1)*48)≤140737488355328)) then
  k (.c1 list_0 0 x_3 (out_5++[x_3]))
  else none
 | .c1 list_0 i_7 x_3 out_5=>
 bif (decide (i_7<(list_0.length:Int))) then
  bif ((decide (0≤i_7)) && (decide (i_7<(list_0.length:Int)))) then
  bif (decide ((list_0.getD i_7.toNat (⟨0,0,false,false,false,false,⟨#[]⟩,0⟩:SThing)).fId > x_3.fId)) then
  bif ((decide (0≤i_7)) && (decide (i_7<(list_0.length:Int)))) then
  bif (decide (((out_5.length+1)*48)≤140737488355328)) then
  k (.c1 list_0 (w64 (i_7+1)) x_3 (out_5++[(list_0.getD i_7.toNat (⟨0,0,false,false,false,false,⟨#[]⟩,0⟩:SThing))]))
  else none
  else none
  else
  k (.c1 list_0 (w64 (i_7+1)) x_3 out_5)
  else none
 else
  some out_5
noncomputable def Vb:Nat→Zi→Option (List SThing)
 | 0,_=>none
 | m+1,s=>Bg (Vb m) s
noncomputable def Yd:Bo:=Vt (Vb gas)
theorem XAA:Tells ctx PP 90 cv48 cv49 (fun a=>Yd a.1 a.2):=
 have b:CutIs ctx PP 90 Tryd.f90 [] [] cv49 V3 (Bg):=fun _ s=>by cases s <;> kernel_rfl
 have e:EntryIs ctx PP 90 [] [] cv48 cv49 V3 (fun k a=>Vt k a.1 a.2):=fun _ a=>by kernel_rfl
 fn_ok hl_nil Tryd.func90 (fun s s' h=>by cases s <;> cases s' <;> first | ((repeat cases ‹SThing›);cases h;done) | ((repeat cases ‹SThing›);cases h;rfl) | exact (rg_ne h (by kernel_rfl)).elim) (fun _=>rfl) (fun _ _=>rfl) b e gas
noncomputable def X3 {γ:Type} (F:Bo):Hd ctx γ:=hdl cv48.dec (fun a=>F a.1 a.2) cv49.enc
abbrev Fg:=SBook→SRec→Option (SBook×Bool)
inductive Aj where
 | c0 (y_6:ByteArray) (v_14:Int) (A_2:SBook) (r_3:SRec) (r_4c0:ByteArray) (r_4c1:Int) (r_4c3:Int) (r_4c4:ByteArray) (r_4c5:Int) (v_8c0:ByteArray) (v_8c1:Int) (v_8c3:Int) (v_8c4:ByteArray) (v_8c5:Int) (v_13:(List SThing)) (r_4r2:(List SThing)) (v_8r2:(List SThing))
noncomputable def Y3:Aj→LI
 | .c0 y_6 v_14 A_2 r_3 r_4c0 r_4c1 r_4c3 r_4c4 r_4c5 v_8c0 v_8c1 v_8c3 v_8c4 v_8c5 v_13 r_4r2 v_8r2=>(tdo Tryd.f34 32898512,[(2,[.one (.ptr 128 0)]),(3,[.one (.ptr 192 0)]),(4,[.one (.ptr 256 0)]),(6,[.one (.str y_6)]),(8,[.one (.ptr 512 0)]),(13,[.one (.own 880)]),(14,[.one (.int .i64 v_14)])],[(128,.var [.str A_2.fWord,.int .i64 A_2.fTries,.rsl 27 A_2.fThings,.int .i64 A_2.fLast,.str A_2.fChain,.int .i64 A_2.fCount]),(192,.var [.int .i64 r_3.fKind,.str r_3.fText,.int .i64 r_3.fNum,.int .i64 r_3.fThing.fId,.int .i64 r_3.fThing.fKind,.bool r_3.fThing.fHidden,.bool r_3.fThing.fFixed,.bool r_3.fThing.fSigns,.bool r_3.fThing.fWraps,.str r_3.fThing.fValue,.int .i64 r_3.fThing.fNext]),(256,.var [.str r_4c0,.int .i64 r_4c1,.own 1016386,.int .i64 r_4c3,.str r_4c4,.int .i64 r_4c5]),(512,.var [.str v_8c0,.int .i64 v_8c1,.own 1032770,.int .i64 v_8c3,.str v_8c4,.int .i64 v_8c5]),(880,.sl 27 v_13),(1016386,.sl 27 r_4r2),(1032770,.sl 27 v_8r2)])
noncomputable def Xt (z0:Tn) (z1:Yf) (z2:Xi) (z3:Xn) (z4:Zn) (z5:Bo) (z6:Jd) (k:Aj→Option (SBook×Bool)) (t_0:SBook) (o_1:SRec):Option (SBook×Bool):=
 (z0 o_1).bind fun r0=>
 (z1 t_0).bind fun r1=>
 bif (!r1) then
 some (⟨⟨#[]⟩,0,[],0,⟨#[]⟩,0⟩,false)
 else
 bif (!r0.2) then
  some (⟨⟨#[]⟩,0,[],0,⟨#[]⟩,0⟩,false)
 else
  bif (t_0.fCount == 10000) then
  some (⟨⟨#[]⟩,0,[],0,⟨#[]⟩,0⟩,false)
  else
  (z2 t_0).bind fun r2=>
  bif (o_1.fKind == 1) then
   bif (decide ((t_0.fChain.size+r0.1.size)≤9223372036854775807)) then
   (z6 (t_0.fChain++r0.1)).bind fun r3=>
   (z1 ⟨o_1.fText,0,r2.fThings,r2.fLast,r3,(w64 (t_0.fCount+1))⟩).bind fun r4=>
   bif (!r4) then
   some (⟨⟨#[]⟩,0,[],0,⟨#[]⟩,0⟩,false)
   else
   some (⟨o_1.fText,0,r2.fThings,r2.fLast,r3,(w64 (t_0.fCount+1))⟩,true)
   else none
  else
   bif (o_1.fKind == 2) then
   bif (decide ((t_0.fChain.size+r0.1.size)≤9223372036854775807)) then
   (z6 (t_0.fChain++r0.1)).bind fun r5=>
   (z1 ⟨r2.fWord,o_1.fNum,r2.fThings,r2.fLast,r5,(w64 (t_0.fCount+1))⟩).bind fun r6=>
   bif (!r6) then
    some (⟨⟨#[]⟩,0,[],0,⟨#[]⟩,0⟩,false)
   else
    some (⟨r2.fWord,o_1.fNum,r2.fThings,r2.fLast,r5,(w64 (t_0.fCount+1))⟩,true)
   else none
   else
   bif (o_1.fKind == 3) then
    (z3 t_0 o_1.fThing.fId).bind fun r7=>
    bif r7.2 then
    (z4 r7.1 o_1.fThing).bind fun r8=>
    bif (!r8) then
     some (⟨⟨#[]⟩,0,[],0,⟨#[]⟩,0⟩,false)
    else
     bif (!r7.2) then
     bif (o_1.fThing.fId != (w64 (t_0.fLast+1))) then
      some (⟨⟨#[]⟩,0,[],0,⟨#[]⟩,0⟩,false)
     else
      bif ((t_0.fThings.length:Int) == 8) then
      some (⟨⟨#[]⟩,0,[],0,⟨#[]⟩,0⟩,false)
      else
      bif (!r7.2) then
       (z5 t_0.fThings o_1.fThing).bind fun r9=>
       bif (decide ((t_0.fChain.size+r0.1.size)≤9223372036854775807)) then
       (z6 (t_0.fChain++r0.1)).bind fun r10=>
       (z1 ⟨r2.fWord,r2.fTries,r9,o_1.fThing.fId,r10,(w64 (t_0.fCount+1))⟩).bind fun r11=>
       bif (!r11) then
       some (⟨⟨#[]⟩,0,[],0,⟨#[]⟩,0⟩,false)
       else
       some (⟨r2.fWord,r2.fTries,r9,o_1.fThing.fId,r10,(w64 (t_0.fCount+1))⟩,true)
       else none
      else
       (z5 t_0.fThings o_1.fThing).bind fun r12=>
       bif (decide ((t_0.fChain.size+r0.1.size)≤9223372036854775807)) then
       (z6 (t_0.fChain++r0.1)).bind fun r13=>
       (z1 ⟨r2.fWord,r2.fTries,r12,r2.fLast,r13,(w64 (t_0.fCount+1))⟩).bind fun r14=>
       bif (!r14) then
       some (⟨⟨#[]⟩,0,[],0,⟨#[]⟩,0⟩,false)
       else
       some (⟨r2.fWord,r2.fTries,r12,r2.fLast,r13,(w64 (t_0.fCount+1))⟩,true)
       else none
     else
     bif (!r7.2) then
      (z5 t_0.fThings o_1.fThing).bind fun r15=>
      bif (decide ((t_0.fChain.size+r0.1.size)≤9223372036854775807)) then
      (z6 (t_0.fChain++r0.1)).bind fun r16=>
      (z1 ⟨r2.fWord,r2.fTries,r15,o_1.fThing.fId,r16,(w64 (t_0.fCount+1))⟩).bind fun r17=>
      bif (!r17) then
      some (⟨⟨#[]⟩,0,[],0,⟨#[]⟩,0⟩,false)
      else
      some (⟨r2.fWord,r2.fTries,r15,o_1.fThing.fId,r16,(w64 (t_0.fCount+1))⟩,true)
      else none
     else
      (z5 t_0.fThings o_1.fThing).bind fun r18=>
      bif (decide ((t_0.fChain.size+r0.1.size)≤9223372036854775807)) then
      (z6 (t_0.fChain++r0.1)).bind fun r19=>
      (z1 ⟨r2.fWord,r2.fTries,r18,r2.fLast,r19,(w64 (t_0.fCount+1))⟩).bind fun r20=>
      bif (!r20) then
      some (⟨⟨#[]⟩,0,[],0,⟨#[]⟩,0⟩,false)
      else
      some (⟨r2.fWord,r2.fTries,r18,r2.fLast,r19,(w64 (t_0.fCount+1))⟩,true)
      else none
    else
    bif (!r7.2) then
     bif (o_1.fThing.fId != (w64 (t_0.fLast+1))) then
     some (⟨⟨#[]⟩,0,[],0,⟨#[]⟩,0⟩,false)
     else
     bif ((t_0.fThings.length:Int) == 8) then
      some (⟨⟨#[]⟩,0,[],0,⟨#[]⟩,0⟩,false)
     else
      bif (!r7.2) then
      (z5 t_0.fThings o_1.fThing).bind fun r21=>
      bif (decide ((t_0.fChain.size+r0.1.size)≤9223372036854775807)) then
      (z6 (t_0.fChain++r0.1)).bind fun r22=>
      (z1 ⟨r2.fWord,r2.fTries,r21,o_1.fThing.fId,r22,(w64 (t_0.fCount+1))⟩).bind fun r23=>
      bif (!r23) then
       some (⟨⟨#[]⟩,0,[],0,⟨#[]⟩,0⟩,false)
      else
       some (⟨r2.fWord,r2.fTries,r21,o_1.fThing.fId,r22,(w64 (t_0.fCount+1))⟩,true)
      else none
      else
      (z5 t_0.fThings o_1.fThing).bind fun r24=>
      bif (decide ((t_0.fChain.size+r0.1.size)≤9223372036854775807)) then
      (z6 (t_0.fChain++r0.1)).bind fun r25=>
      (z1 ⟨r2.fWord,r2.fTries,r24,r2.fLast,r25,(w64 (t_0.fCount+1))⟩).bind fun r26=>
      bif (!r26) then
       some (⟨⟨#[]⟩,0,[],0,⟨#[]⟩,0⟩,false)
      else
       some (⟨r2.fWord,r2.fTries,r24,r2.fLast,r25,(w64 (t_0.fCount+1))⟩,true)
      else none
    else
     bif (!r7.2) then
     (z5 t_0.fThings o_1.fThing).bind fun r27=>
     bif (decide ((t_0.fChain.size+r0.1.size)≤9223372036854775807)) then
     (z6 (t_0.fChain++r0.1)).bind fun r28=>
     (z1 ⟨r2.fWord,r2.fTries,r27,o_1.fThing.fId,r28,(w64 (t_0.fCount+1))⟩).bind fun r29=>
     bif (!r29) then
      some (⟨⟨#[]⟩,0,[],0,⟨#[]⟩,0⟩,false)
     else
      some (⟨r2.fWord,r2.fTries,r27,o_1.fThing.fId,r28,(w64 (t_0.fCount+1))⟩,true)
     else none
     else
     (z5 t_0.fThings o_1.fThing).bind fun r30=>
     bif (decide ((t_0.fChain.size+r0.1.size)≤9223372036854775807)) then
     (z6 (t_0.fChain++r0.1)).bind fun r31=>
     (z1 ⟨r2.fWord,r2.fTries,r30,r2.fLast,r31,(w64 (t_0.fCount+1))⟩).bind fun r32=>
     bif (!r32) then
      some (⟨⟨#[]⟩,0,[],0,⟨#[]⟩,0⟩,false)
     else
      some (⟨r2.fWord,r2.fTries,r30,r2.fLast,r31,(w64 (t_0.fCount+1))⟩,true)
     else none
   else
    bif (o_1.fKind == 4) then
    (z3 t_0 o_1.fNum).bind fun r33=>
    bif (!r33.2) then
     some (⟨⟨#[]⟩,0,[],0,⟨#[]⟩,0⟩,false)
    else
     k (.c0 r0.1 0 t_0 o_1 ⟨#[]⟩ 0 0 ⟨#[]⟩ 0 r2.fWord r2.fTries r2.fLast r2.fChain r2.fCount [] [] r2.fThings)
    else
    bif (decide ((t_0.fChain.size+r0.1.size)≤9223372036854775807)) then
    (z6 (t_0.fChain++r0.1)).bind fun r34=>
    (z1 ⟨r2.fWord,r2.fTries,r2.fThings,r2.fLast,r34,(w64 (t_0.fCount+1))⟩).bind fun r35=>
    bif (!r35) then
     some (⟨⟨#[]⟩,0,[],0,⟨#[]⟩,0⟩,false)
    else
     some (⟨r2.fWord,r2.fTries,r2.fThings,r2.fLast,r34,(w64 (t_0.fCount+1))⟩,true)
    else none
noncomputable def Eo (z0:Tn) (z1:Yf) (z2:Xi) (z3:Xn) (z4:Zn) (z5:Bo) (z6:Jd) (k:Aj→Option (SBook×Bool)):Aj→Option (SBook×Bool)
 | .c0 y_6 v_14 A_2 r_3 r_4c0 r_4c1 r_4c3 r_4c4 r_4c5 v_8c0 v_8c1 v_8c3 v_8c4 v_8c5 v_13 r_4r2 v_8r2=>
 bif (decide (v_14<(A_2.fThings.length:Int))) then
  bif ((decide (0≤v_14)) && (decide (v_14<(A_2.fThings.length:Int)))) then
  bif ((A_2.fThings.getD v_14.toNat (⟨0,0,false,false,false,false,⟨#[]⟩,0⟩:SThing)).fId != r_3.fNum) then
  bif ((decide (0≤v_14)) && (decide (v_14<(A_2.fThings.length:Int)))) then
  bif (decide (((v_13.length+1)*48)≤140737488355328)) then
  k (.c0 y_6 (w64 (v_14+1)) A_2 r_3 r_4c0 r_4c1 r_4c3 r_4c4 r_4c5 v_8c0 v_8c1 v_8c3 v_8c4 v_8c5 (v_13++[(A_2.fThings.getD v_14.toNat (⟨0,0,false,false,false,false,⟨#[]⟩,0⟩:SThing))]) r_4r2 v_8r2)
  else none
  else none
  else
  k (.c0 y_6 (w64 (v_14+1)) A_2 r_3 r_4c0 r_4c1 r_4c3 r_4c4 r_4c5 v_8c0 v_8c1 v_8c3 v_8c4 v_8c5 v_13 r_4r2 v_8r2)
  else none
 else
  bif (decide ((A_2.fChain.size+y_6.size)≤9223372036854775807)) then
  (z6 (A_2.fChain++y_6)).bind fun r0=>
  (z1 ⟨v_8c0,v_8c1,v_13,v_8c3,r0,(w64 (A_2.fCount+1))⟩).bind fun r1=>
  bif (!r1) then
  some (⟨⟨#[]⟩,0,[],0,⟨#[]⟩,0⟩,false)
  else
  some (⟨v_8c0,v_8c1,v_13,v_8c3,r0,(w64 (A_2.fCount+1))⟩,true)
  else none
noncomputable def Bj:Nat→Aj→Option (SBook×Bool)
 | 0,_=>none
 | m+1,s=>Eo Ud Ea Ub Ag Xd Yd MZ (Bj m) s
noncomputable def Fa:Fg:=Xt Ud Ea Ub Ag Xd Yd MZ (Bj gas)
theorem I4:Tells ctx PP 34 cv50 cv51 (fun a=>Fa a.1 a.2):=
 have b:∀ z0 z1 z2 z3 z4 z5 z6,CutIs ctx PP 34 Tryd.f34 [] [(86,O1 z0),(37,Wn z1),(87,Tt z2),(88,O3 z3),(89,U3 z4),(90,X3 z5),(60,Zh z6)] cv51 Y3 (Eo z0 z1 z2 z3 z4 z5 z6):=fun z0 z1 z2 z3 z4 z5 z6 _ s=>by cases s <;> kernel_rfl
 have e:∀ z0 z1 z2 z3 z4 z5 z6,EntryIs ctx PP 34 [] [(86,O1 z0),(37,Wn z1),(87,Tt z2),(88,O3 z3),(89,U3 z4),(90,X3 z5),(60,Zh z6)] cv50 cv51 Y3 (fun k a=>Xt z0 z1 z2 z3 z4 z5 z6 k a.1 a.2):=fun z0 z1 z2 z3 z4 z5 z6 _ a=>by kernel_rfl
 fn_ok (hc UAA (hc Y1 (hc U2 (hc VAA (hc WAA (hc XAA (hc Sm hl_nil))))))) Tryd.func34 (fun s s' h=>by cases s;cases s';(repeat cases ‹SBook›);(repeat cases ‹SRec›);(repeat cases ‹SThing›);cases h;rfl) (fun _=>rfl) (fun _ _=>rfl) (b Ud Ea Ub Ag Xd Yd MZ) (e Ud Ea Ub Ag Xd Yd MZ) gas
noncomputable def Ho {γ:Type} (F:Fg):Hd ctx γ:=hdl cv50.dec (fun a=>F a.1 a.2) cv51.enc
abbrev Yt:=SL01Cur→Option ((List SRec)×SBook×SL01Cur)
inductive Cj where
 | c0 (i_6:Int) (c_0c1:Int) (c_0c2:Int) (v_3c0:ByteArray) (v_3c1:Int) (v_3c3:Int) (v_3c4:ByteArray) (v_3c5:Int) (b_4c0:ByteArray) (b_4c1:Int) (b_4c3:Int) (b_4c4:ByteArray) (b_4c5:Int) (list_5:(List SRec)) (v_3r2:(List SThing)) (b_4r2:(List SThing))
noncomputable def J4:Cj→LI
 | .c0 i_6 c_0c1 c_0c2 v_3c0 v_3c1 v_3c3 v_3c4 v_3c5 b_4c0 b_4c1 b_4c3 b_4c4 b_4c5 list_5 v_3r2 b_4r2=>(tdo Tryd.f91 976,[(0,[.one (.ptr 0 0)]),(3,[.one (.ptr 192 0)]),(4,[.one (.ptr 256 0)]),(5,[.one (.own 368)]),(6,[.one (.int .i64 i_6)])],[(0,.var [.csl,.int .i64 c_0c1,.int .i64 c_0c2]),(192,.var [.str v_3c0,.int .i64 v_3c1,.own 1012290,.int .i64 v_3c3,.str v_3c4,.int .i64 v_3c5]),(256,.var [.str b_4c0,.int .i64 b_4c1,.own 1016386,.int .i64 b_4c3,.str b_4c4,.int .i64 b_4c5]),(368,.sl 47 list_5),(1012290,.sl 27 v_3r2),(1016386,.sl 27 b_4r2)])
noncomputable def Zt (z0:Xm) (z1:WZ) (z2:Ii) (z3:Fg) (k:Cj→Option ((List SRec)×SBook×SL01Cur)) (c_0:SL01Cur):Option ((List SRec)×SBook×SL01Cur):=
 z0.bind fun r0=>
 k (.c0 0 c_0.fI c_0.fH ⟨#[]⟩ 0 0 ⟨#[]⟩ 0 r0.fWord r0.fTries r0.fLast r0.fChain r0.fCount [] [] r0.fThings)
noncomputable def Io (z0:Xm) (z1:WZ) (z2:Ii) (z3:Fg) (k:Cj→Option ((List SRec)×SBook×SL01Cur)):Cj→Option ((List SRec)×SBook×SL01Cur)
 | .c0 i_6 c_0c1 c_0c2 v_3c0 v_3c1 v_3c3 v_3c4 v_3c5 b_4c0 b_4c1 b_4c3 b_4c4 b_4c5 list_5 v_3r2 b_4r2=>
 (z1 ⟨(),c_0c1,c_0c2⟩ 12).bind fun r0=>
 bif (decide (i_6<r0.1)) then
  (z2 ⟨(),r0.2.fI,r0.2.fH⟩ ⟨b_4c0,b_4c1,b_4r2,b_4c3,b_4c4,b_4c5⟩).bind fun r1=>
  (z3 ⟨b_4c0,b_4c1,b_4r2,b_4c3,b_4c4,b_4c5⟩ r1.1).bind fun r2=>
  bif r2.2 then
  bif (decide (((list_5.length+1)*80)≤140737488355328)) then
  k (.c0 (w64 (i_6+1)) r1.2.fI r1.2.fH v_3c0 v_3c1 v_3c3 v_3c4 v_3c5 r2.1.fWord r2.1.fTries r2.1.fLast r2.1.fChain r2.1.fCount (list_5++[r1.1]) v_3r2 r2.1.fThings)
  else none
  else
  k (.c0 (w64 (i_6+1)) r1.2.fI r1.2.fH v_3c0 v_3c1 v_3c3 v_3c4 v_3c5 b_4c0 b_4c1 b_4c3 b_4c4 b_4c5 list_5 v_3r2 b_4r2)
 else
  some (list_5,(⟨b_4c0,b_4c1,b_4r2,b_4c3,b_4c4,b_4c5⟩,⟨(),r0.2.fI,r0.2.fH⟩))
noncomputable def Ej:Nat→Cj→Option ((List SRec)×SBook×SL01Cur)
 | 0,_=>none
 | m+1,s=>Io Ld OY Ob Fa (Ej m) s
noncomputable def Fj:Yt:=Zt Ld OY Ob Fa (Ej gas)
theorem YAA:Tells ctx PP 91 cv3 cv52 (fun a=>Fj a):=
 have b:∀ z0 z1 z2 z3,CutIs ctx PP 91 Tryd.f91 [0] [(43,Pz z0),(57,Va z1),(94,Js z2),(34,Ho z3)] cv52 J4 (Io z0 z1 z2 z3):=fun z0 z1 z2 z3 _ s=>by cases s <;> kernel_rfl
 have e:∀ z0 z1 z2 z3,EntryIs ctx PP 91 [0] [(43,Pz z0),(57,Va z1),(94,Js z2),(34,Ho z3)] cv3 cv52 J4 (fun k a=>Zt z0 z1 z2 z3 k a):=fun z0 z1 z2 z3 _ a=>by kernel_rfl
 fn_ok (hc JAA (hc Nb (hc Zz (hc I4 hl_nil)))) Tryd.func91 (fun s s' h=>by cases s;cases s';cases h;rfl) (fun _=>rfl) (fun _ _=>rfl) (b Ld OY Ob Fa) (e Ld OY Ob Fa) gas
noncomputable def ZAA {γ:Type} (F:Yt):Hd ctx γ:=hdl cv3.dec (fun a=>F a) cv52.enc
abbrev Jo:=SL01Cur→Option (SThing×SL01Cur)
noncomputable def Au (z0:Pn) (z1:WZ) (z2:Vf) (z3:Um) (c_0:SL01Cur):Option (SThing×SL01Cur):=
 (z0 ⟨(),c_0.fI,c_0.fH⟩).bind fun r0=>
 (z1 ⟨(),r0.2.fI,r0.2.fH⟩ 20).bind fun r1=>
 bif (r1.1 == 0) then
 (z2 ⟨(),r1.2.fI,r1.2.fH⟩ [0,(-(1:Int)),1000,1001]).bind fun r2=>
 some (⟨r2.1,r0.1.fKind,r0.1.fHidden,r0.1.fFixed,r0.1.fSigns,r0.1.fWraps,r0.1.fValue,r0.1.fNext⟩,⟨(),r2.2.fI,r2.2.fH⟩)
 else
 bif (r1.1 == 1) then
  (z1 ⟨(),r1.2.fI,r1.2.fH⟩ 5).bind fun r3=>
  some (⟨r0.1.fId,r3.1,r0.1.fHidden,r0.1.fFixed,r0.1.fSigns,r0.1.fWraps,r0.1.fValue,r0.1.fNext⟩,⟨(),r3.2.fI,r3.2.fH⟩)
 else
  bif (r1.1 == 2) then
  some (⟨r0.1.fId,r0.1.fKind,r0.1.fHidden,r0.1.fFixed,(!r0.1.fSigns),r0.1.fWraps,r0.1.fValue,r0.1.fNext⟩,⟨(),r1.2.fI,r1.2.fH⟩)
  else
  bif (r1.1 == 3) then
   some (⟨r0.1.fId,r0.1.fKind,r0.1.fHidden,r0.1.fFixed,r0.1.fSigns,(!r0.1.fWraps),r0.1.fValue,r0.1.fNext⟩,⟨(),r1.2.fI,r1.2.fH⟩)
  else
   bif (r1.1 == 4) then
   (z2 ⟨(),r1.2.fI,r1.2.fH⟩ [(-(1:Int)),0,16,17]).bind fun r4=>
   some (⟨r0.1.fId,r0.1.fKind,r0.1.fHidden,r0.1.fFixed,r0.1.fSigns,r0.1.fWraps,r0.1.fValue,r4.1⟩,⟨(),r4.2.fI,r4.2.fH⟩)
   else
   bif (r1.1 == 5) then
    (z2 ⟨(),r1.2.fI,r1.2.fH⟩ [31,32,33,100,101]).bind fun r5=>
    (z3 r5.1 70).bind fun r6=>
    some (⟨r0.1.fId,r0.1.fKind,r0.1.fHidden,r0.1.fFixed,r0.1.fSigns,r0.1.fWraps,r6,r0.1.fNext⟩,⟨(),r5.2.fI,r5.2.fH⟩)
   else
    some (r0.1,⟨(),r1.2.fI,r1.2.fH⟩)
noncomputable def Zd:Jo:=Au Td OY Ba Ic
theorem O4:Tells ctx PP 61 cv3 cv29 (fun a=>Zd a):=fn_ok0 (hc Xz (hc Nb (hc Ym (hc Nz hl_nil)))) Tryd.func61 ((fun z0 z1 z2 z3 a=>by kernel_rfl:∀ z0 z1 z2 z3,EntryIs0 ctx PP 61 [0] [(113,Yz z0),(57,Va z1),(105,Zm z2),(56,Oz z3)] cv3 cv29 fun a=>Au z0 z1 z2 z3 a) Td OY Ba Ic)
noncomputable def U4 {γ:Type} (F:Jo):Hd ctx γ:=hdl cv3.dec (fun a=>F a) cv29.enc
abbrev Du:=SL01Cur→Option (SBook×SL01Cur)
noncomputable def Eu (z0:Yt) (z1:Xi) (z2:WZ) (z3:Vf) (z4:Jo) (c_0:SL01Cur):Option (SBook×SL01Cur):=
 (z0 ⟨(),c_0.fI,c_0.fH⟩).bind fun r0=>
 (z1 r0.2.1).bind fun r1=>
 (z2 ⟨(),r0.2.2.fI,r0.2.2.fH⟩ 20).bind fun r2=>
 bif (r2.1 == 0) then
 some (⟨⟨#[120]⟩,r1.fTries,r1.fThings,r1.fLast,r1.fChain,r1.fCount⟩,⟨(),r2.2.fI,r2.2.fH⟩)
 else
 bif (r2.1 == 1) then
  (z3 ⟨(),r2.2.fI,r2.2.fH⟩ [(-(1:Int)),3,4]).bind fun r3=>
  some (⟨r1.fWord,r3.1,r1.fThings,r1.fLast,r1.fChain,r1.fCount⟩,⟨(),r3.2.fI,r3.2.fH⟩)
 else
  bif (r2.1 == 2) then
  (z3 ⟨(),r2.2.fI,r2.2.fH⟩ [(-(1:Int)),0,1000,1001]).bind fun r4=>
  some (⟨r1.fWord,r1.fTries,r1.fThings,r4.1,r1.fChain,r1.fCount⟩,⟨(),r4.2.fI,r4.2.fH⟩)
  else
  bif (r2.1 == 3) then
   (z4 ⟨(),r2.2.fI,r2.2.fH⟩).bind fun r5=>
   bif (decide (((r1.fThings.length+1)*48)≤140737488355328)) then
   some (⟨r1.fWord,r1.fTries,(r1.fThings++[r5.1]),r1.fLast,r1.fChain,r1.fCount⟩,⟨(),r5.2.fI,r5.2.fH⟩)
   else none
  else
   bif (r2.1 == 4) then
   (z3 ⟨(),r2.2.fI,r2.2.fH⟩ [(-(1:Int)),9999,10000,10001]).bind fun r6=>
   some (⟨r1.fWord,r1.fTries,r1.fThings,r1.fLast,r1.fChain,r6.1⟩,⟨(),r6.2.fI,r6.2.fH⟩)
   else
   some (r1,⟨(),r2.2.fI,r2.2.fH⟩)
noncomputable def Gj:Du:=Eu Fj Ub OY Ba Zd
theorem AAB:Tells ctx PP 80 cv3 cv53 (fun a=>Gj a):=fn_ok0 (hc YAA (hc U2 (hc Nb (hc Ym (hc O4 hl_nil))))) Tryd.func80 ((fun z0 z1 z2 z3 z4 a=>by kernel_rfl:∀ z0 z1 z2 z3 z4,EntryIs0 ctx PP 80 [0] [(91,ZAA z0),(87,Tt z1),(57,Va z2),(105,Zm z3),(61,U4 z4)] cv3 cv53 fun a=>Eu z0 z1 z2 z3 z4 a) Fj Ub OY Ba Zd)
noncomputable def BAB {γ:Type} (F:Du):Hd ctx γ:=hdl cv3.dec (fun a=>F a) cv53.enc
abbrev Gu:=SL01Cur→SBook→Option (SRec×SL01Cur)
noncomputable def Hu (z0:Ii) (z1:WZ) (z2:Vf) (z3:Jo) (c_0:SL01Cur) (b_1:SBook):Option (SRec×SL01Cur):=
 (z0 ⟨(),c_0.fI,c_0.fH⟩ b_1).bind fun r0=>
 (z1 ⟨(),r0.2.fI,r0.2.fH⟩ 16).bind fun r1=>
 bif (r1.1 == 0) then
 (z1 ⟨(),r1.2.fI,r1.2.fH⟩ 6).bind fun r2=>
 some (⟨r2.1,r0.1.fText,r0.1.fNum,r0.1.fThing⟩,⟨(),r2.2.fI,r2.2.fH⟩)
 else
 bif (r1.1 == 1) then
  (z2 ⟨(),r1.2.fI,r1.2.fH⟩ [(-(1:Int)),0,4,1000,1001]).bind fun r3=>
  some (⟨r0.1.fKind,r0.1.fText,r3.1,r0.1.fThing⟩,⟨(),r3.2.fI,r3.2.fH⟩)
 else
  bif (r1.1 == 2) then
  some (⟨r0.1.fKind,⟨#[120]⟩,r0.1.fNum,r0.1.fThing⟩,⟨(),r1.2.fI,r1.2.fH⟩)
  else
  bif (r1.1 == 3) then
   (z3 ⟨(),r1.2.fI,r1.2.fH⟩).bind fun r4=>
   some (⟨r0.1.fKind,r0.1.fText,r0.1.fNum,r4.1⟩,⟨(),r4.2.fI,r4.2.fH⟩)
  else
   some (r0.1,⟨(),r1.2.fI,r1.2.fH⟩)
noncomputable def Ij:Gu:=Hu Ob OY Ba Zd
theorem CAB:Tells ctx PP 81 cv41 cv42 (fun a=>Ij a.1 a.2):=fn_ok0 (hc Zz (hc Nb (hc Ym (hc O4 hl_nil)))) Tryd.func81 ((fun z0 z1 z2 z3 a=>by kernel_rfl:∀ z0 z1 z2 z3,EntryIs0 ctx PP 81 [0] [(94,Js z0),(57,Va z1),(105,Zm z2),(61,U4 z3)] cv41 cv42 fun a=>Hu z0 z1 z2 z3 a.1 a.2) Ob OY Ba Zd)
noncomputable def DAB {γ:Type} (F:Gu):Hd ctx γ:=hdl cv41.dec (fun a=>F a.1 a.2) cv42.enc
abbrev Ko:=Unit→Option (SBook×SRec)
noncomputable def Iu (z0:Jq) (z1:Du) (z2:Gu) (code_0:Unit):Option (SBook×SRec):=
 (z0 ()).bind fun r0=>
 (z1 ⟨(),r0.fI,r0.fH⟩).bind fun r1=>
 (z2 ⟨(),r1.2.fI,r1.2.fH⟩ r1.1).bind fun r2=>
 some (r1.1,r2.1)
noncomputable def Ae:Ko:=Iu Fh Gj Ij
theorem EAB:Tells ctx PP 32 cv0 cv54 (fun a=>Ae a):=fn_ok0 (hc V9 (hc AAB (hc CAB hl_nil))) Tryd.func32 ((fun z0 z1 z2 a=>by kernel_rfl:∀ z0 z1 z2,EntryIs0 ctx PP 32 [] [(53,W9 z0),(80,BAB z1),(81,DAB z2)] cv0 cv54 fun a=>Iu z0 z1 z2 a) Fh Gj Ij)
noncomputable def V4 {γ:Type} (F:Ko):Hd ctx γ:=hdl cv0.dec (fun a=>F a) cv54.enc
abbrev Jj:=Int→Option ByteArray
inductive Lj where
 | c0 (n_0:Int) (out_3:(List Int))
noncomputable def X4:Lj→LI
 | .c0 n_0 out_3=>(tdo Tryd.f114 224,[(0,[.one (.int .i64 n_0)]),(3,[.one (.own 240)])],[(240,.sl 5 out_3)])
noncomputable def Y4 (k:Lj→Option ByteArray) (n_0:Int):Option ByteArray:=
 k (.c0 n_0 [])
noncomputable def Oo (k:Lj→Option ByteArray):Lj→Option ByteArray
 | .c0 n_0 out_3=>
 bif (decide (n_0 > 127)) then
  bif (decide (((out_3.length+1)*1)≤140737488355328)) then
  k (.c0 (w64 (n_0.tdiv 128)) (out_3++[(w8 (w64 (128+(n_0.tmod 128))))]))
  else none
 else
  bif (decide (((out_3.length+1)*1)≤140737488355328)) then
  some (ofBytes (out_3++[(w8 n_0)]))
  else none
noncomputable def Nj:Nat→Lj→Option ByteArray
 | 0,_=>none
 | m+1,s=>Oo (Nj m) s
noncomputable def Lc:Jj:=Y4 (Nj gas)
theorem Ju:Tells ctx PP 114 cv14 cv9 (fun a=>Lc a):=
 have b:CutIs ctx PP 114 Tryd.f114 [] [] cv9 X4 (Oo):=fun _ s=>by cases s <;> kernel_rfl
 have e:EntryIs ctx PP 114 [] [] cv14 cv9 X4 (fun k a=>Y4 k a):=fun _ a=>by kernel_rfl
 fn_ok hl_nil Tryd.func114 (fun s s' h=>by cases s;cases s';cases h;rfl) (fun _=>rfl) (fun _ _=>rfl) b e gas
noncomputable def Ku {γ:Type} (F:Jj):Hd ctx γ:=hdl cv14.dec (fun a=>F a) cv9.enc
abbrev Gg:=Int→Int→Int→Option Bool
noncomputable def Z4 (n_0:Int) (low_1:Int) (high_2:Int):Option Bool:=
 bif (decide (n_0≥low_1)) then
 some (decide (n_0≤high_2))
 else
 some false
noncomputable def Xa:Gg:=Z4
theorem Lu:Tells ctx PP 62 cv22 cv1 (fun a=>Xa a.1 a.2.1 a.2.2):=fn_ok0 hl_nil Tryd.func62 (fun a=>by kernel_rfl:EntryIs0 ctx PP 62 [] [] cv22 cv1 fun a=>Z4 a.1 a.2.1 a.2.2)
noncomputable def Po {γ:Type} (F:Gg):Hd ctx γ:=hdl cv22.dec (fun a=>F a.1 a.2.1 a.2.2) cv1.enc
abbrev Oj:=SThing→Option Bool
noncomputable def Nu (z0:Gg) (x_0:SThing):Option Bool:=
 (z0 x_0.fId 1 1000).bind fun r0=>
 bif (!r0) then
 some false
 else
 (z0 x_0.fNext 0 16).bind fun r1=>
 bif (!r1) then
  some false
 else
  bif (x_0.fKind != 2) then
  bif (x_0.fNext != 0) then
   some false
  else
   bif x_0.fSigns then
   some false
   else
   bif (x_0.fKind != 1) then
    bif x_0.fWraps then
    some false
    else
    bif (x_0.fKind == 1) then
     bif (x_0.fKind == 1) then
     some ((x_0.fValue.size:Int) == 32)
     else
     bif (x_0.fKind == 3) then
      some (decide ((x_0.fValue.size:Int)≤100))
     else
      some false
    else
     bif (x_0.fKind == 2) then
     some ((x_0.fValue.size:Int) == 32)
     else
     bif (x_0.fKind == 3) then
      some (decide ((x_0.fValue.size:Int)≤100))
     else
      some false
   else
    bif (x_0.fKind == 1) then
    bif (x_0.fKind == 1) then
     some ((x_0.fValue.size:Int) == 32)
    else
     bif (x_0.fKind == 3) then
     some (decide ((x_0.fValue.size:Int)≤100))
     else
     some false
    else
    bif (x_0.fKind == 2) then
     some ((x_0.fValue.size:Int) == 32)
    else
     bif (x_0.fKind == 3) then
     some (decide ((x_0.fValue.size:Int)≤100))
     else
     some false
  else
  bif (x_0.fKind != 1) then
   bif x_0.fWraps then
   some false
   else
   bif (x_0.fKind == 1) then
    bif (x_0.fKind == 1) then
    some ((x_0.fValue.size:Int) == 32)
    else
    bif (x_0.fKind == 3) then
     some (decide ((x_0.fValue.size:Int)≤100))
    else
     some false
   else
    bif (x_0.fKind == 2) then
    some ((x_0.fValue.size:Int) == 32)
    else
    bif (x_0.fKind == 3) then
     some (decide ((x_0.fValue.size:Int)≤100))
    else
     some false
  else
   bif (x_0.fKind == 1) then
   bif (x_0.fKind == 1) then
    some ((x_0.fValue.size:Int) == 32)
   else
    bif (x_0.fKind == 3) then
    some (decide ((x_0.fValue.size:Int)≤100))
    else
    some false
   else
   bif (x_0.fKind == 2) then
    some ((x_0.fValue.size:Int) == 32)
   else
    bif (x_0.fKind == 3) then
    some (decide ((x_0.fValue.size:Int)≤100))
    else
    some false
noncomputable def Xb:Oj:=Nu Xa
theorem D5:Tells ctx PP 16 cv30 cv1 (fun a=>Xb a):=fn_ok0 (hc Lu hl_nil) Tryd.func16 ((fun z0 a=>by kernel_rfl:∀ z0,EntryIs0 ctx PP 16 [] [(62,Po z0)] cv30 cv1 fun a=>Nu z0 a) Xa)
noncomputable def Ou {γ:Type} (F:Oj):Hd ctx γ:=hdl cv30.dec (fun a=>F a) cv1.enc
abbrev Qo:=Int→Option ByteArray
noncomputable def Qu (n_0:Int):Option ByteArray:=
 some (ofBytes [(w8 n_0)])
noncomputable def Ce:Qo:=Qu
theorem E5:Tells ctx PP 75 cv14 cv9 (fun a=>Ce a):=fn_ok0 hl_nil Tryd.func75 (fun a=>by kernel_rfl:EntryIs0 ctx PP 75 [] [] cv14 cv9 fun a=>Qu a)
noncomputable def F5 {γ:Type} (F:Qo):Hd ctx γ:=hdl cv14.dec (fun a=>F a) cv9.enc
abbrev Ru:=SThing→Option Int
inductive Pj where
 | c0 (n_3:Int) (v_15:Int) (v_16:Int) (v_14:(List Bool))
noncomputable def G5:Pj→LI
 | .c0 n_3 v_15 v_16 v_14=>(tdo Tryd.f142 232,[(3,[.one (.int .i64 n_3)]),(14,[.one (.own 944)]),(15,[.one (.int .i64 v_15)]),(16,[.one (.int .i64 v_16)])],[(944,.sl 4 v_14)])
noncomputable def Uu (k:Pj→Option Int) (x_0:SThing):Option Int:=
 k (.c0 0 ((4:Nat):Int) 0 [x_0.fHidden,x_0.fFixed,x_0.fSigns,x_0.fWraps])
noncomputable def I5 (k:Pj→Option Int):Pj→Option Int
 | .c0 n_3 v_15 v_16 v_14=>
 bif (decide (v_16<v_15)) then
  bif ((decide (0≤v_16)) && (decide (v_16<(v_14.length:Int)))) then
  bif (v_14.getD v_16.toNat false) then
  bif (decide (0≤v_16)) then
  k (.c0 (w64 (((BitVec.toNat ((BitVec.ofInt (IntKind.bits IntKind.i64) n_3) ||| (BitVec.ofInt (IntKind.bits IntKind.i64) (w64 (1*(2 ^ (Min.min v_16.toNat (IntKind.bits IntKind.i64)))))))):Nat):Int)) v_15 (w64 (v_16+1)) v_14)
  else none
  else
  k (.c0 n_3 v_15 (w64 (v_16+1)) v_14)
  else none
 else
  some n_3
noncomputable def Vu:Nat→Pj→Option Int
 | 0,_=>none
 | m+1,s=>I5 (Vu m) s
noncomputable def Qj:Ru:=Uu (Vu gas)
theorem FAB:Tells ctx PP 142 cv30 cv14 (fun a=>Qj a):=
 have b:CutIs ctx PP 142 Tryd.f142 [] [] cv14 G5 (I5):=fun _ s=>by cases s <;> kernel_rfl
 have e:EntryIs ctx PP 142 [] [] cv30 cv14 G5 (fun k a=>Uu k a):=fun _ a=>by kernel_rfl
 fn_ok hl_nil Tryd.func142 (fun s s' h=>by cases s;cases s';cases h;rfl) (fun _=>rfl) (fun _ _=>rfl) b e gas
noncomputable def GAB {γ:Type} (F:Ru):Hd ctx γ:=hdl cv30.dec (fun a=>F a) cv14.enc
abbrev Wu:=ByteArray→Option ByteArray
noncomputable def Xu (z0:Jj) (s_0:ByteArray):Option ByteArray:=
 (z0 (s_0.size:Int)).bind fun r0=>
 bif (decide ((r0.size+s_0.size)≤9223372036854775807)) then
 some (r0++s_0)
 else none
noncomputable def Rj:Wu:=Xu Lc
theorem IAB:Tells ctx PP 143 cv9 cv9 (fun a=>Rj a):=fn_ok0 (hc Ju hl_nil) Tryd.func143 ((fun z0 a=>by kernel_rfl:∀ z0,EntryIs0 ctx PP 143 [] [(114,Ku z0)] cv9 cv9 fun a=>Xu z0 a) Lc)
noncomputable def JAB {γ:Type} (F:Wu):Hd ctx γ:=hdl cv9.dec (fun a=>F a) cv9.enc
abbrev Yu:=SThing→Option (ByteArray×Bool)
noncomputable def Zu (z0:Oj) (z1:Jj) (z2:Qo) (z3:Ru) (z4:Wu) (x_0:SThing):Option (ByteArray×Bool):=
 (z0 x_0).bind fun r0=>
 bif (!r0) then
 some (⟨#[]⟩,false)
 else
 (z1 x_0.fId).bind fun r1=>
 (z2 x_0.fKind).bind fun r2=>
 bif (decide ((r1.size+r2.size)≤9223372036854775807)) then
 (z3 x_0).bind fun r3=>
 (z2 r3).bind fun r4=>
 bif (decide (((r1++r2).size+r4.size)≤9223372036854775807)) then
 (z4 x_0.fValue).bind fun r5=>
 bif (decide ((((r1++r2)++r4).size+r5.size)≤9223372036854775807)) then
 (z1 x_0.fNext).bind fun r6=>
 bif (decide (((((r1++r2)++r4)++r5).size+r6.size)≤9223372036854775807)) then
 some (((((r1++r2)++r4)++r5)++r6),true)
 else none
 else none
 else none
 else none
noncomputable def Sj:Yu:=Zu Xb Lc Ce Qj Rj
theorem KAB:Tells ctx PP 119 cv30 cv33 (fun a=>Sj a):=fn_ok0 (hc D5 (hc Ju (hc E5 (hc FAB (hc IAB hl_nil))))) Tryd.func119 ((fun z0 z1 z2 z3 z4 a=>by kernel_rfl:∀ z0 z1 z2 z3 z4,EntryIs0 ctx PP 119 [] [(16,Ou z0),(114,Ku z1),(75,F5 z2),(142,GAB z3),(143,JAB z4)] cv30 cv33 fun a=>Zu z0 z1 z2 z3 z4 a) Xb Lc Ce Qj Rj)
noncomputable def LAB {γ:Type} (F:Yu):Hd ctx γ:=hdl cv30.dec (fun a=>F a) cv33.enc
abbrev Bv:=SRec→Option (ByteArray×Bool)
noncomputable def Dv (z0:Jj) (z1:Gg) (z2:Yu) (z3:Qo) (r_0:SRec):Option (ByteArray×Bool):=
 bif (r_0.fKind == 1) then
 bif (!((r_0.fText.size:Int) == 32)) then
  some (⟨#[]⟩,false)
 else
  bif (!((r_0.fKind == r_0.fKind) && (((ByteArray.toList r_0.fText) == (ByteArray.toList r_0.fText)) && ((r_0.fNum == 0) && (((r_0.fThing.fId == 0) && ((r_0.fThing.fKind == 0) && ((r_0.fThing.fHidden == false) && ((r_0.fThing.fFixed == false) && ((r_0.fThing.fSigns == false) && ((r_0.fThing.fWraps == false) && (((ByteArray.toList r_0.fThing.fValue) == (ByteArray.toList ⟨#[]⟩)) && ((r_0.fThing.fNext == 0) && true)))))))) && true))))) then
  some (⟨#[]⟩,false)
  else
  (z3 r_0.fKind).bind fun r0=>
  bif (decide ((r0.size+r_0.fText.size)≤9223372036854775807)) then
  some ((r0++r_0.fText),true)
  else none
 else
 bif (r_0.fKind == 2) then
  (z0 r_0.fNum).bind fun r1=>
  (z1 r_0.fNum 0 3).bind fun r2=>
  bif (!r2) then
  some (⟨#[]⟩,false)
  else
  bif (!((r_0.fKind == r_0.fKind) && (((ByteArray.toList r_0.fText) == (ByteArray.toList ⟨#[]⟩)) && ((r_0.fNum == r_0.fNum) && (((r_0.fThing.fId == 0) && ((r_0.fThing.fKind == 0) && ((r_0.fThing.fHidden == false) && ((r_0.fThing.fFixed == false) && ((r_0.fThing.fSigns == false) && ((r_0.fThing.fWraps == false) && (((ByteArray.toList r_0.fThing.fValue) == (ByteArray.toList ⟨#[]⟩)) && ((r_0.fThing.fNext == 0) && true)))))))) && true))))) then
   some (⟨#[]⟩,false)
  else
   (z3 r_0.fKind).bind fun r3=>
   bif (decide ((r3.size+r1.size)≤9223372036854775807)) then
   some ((r3++r1),true)
   else none
 else
  bif (r_0.fKind == 3) then
  (z2 r_0.fThing).bind fun r4=>
  bif (!r4.2) then
   some (⟨#[]⟩,false)
  else
   bif (!((r_0.fKind == r_0.fKind) && (((ByteArray.toList r_0.fText) == (ByteArray.toList ⟨#[]⟩)) && ((r_0.fNum == 0) && (((r_0.fThing.fId == r_0.fThing.fId) && ((r_0.fThing.fKind == r_0.fThing.fKind) && ((r_0.fThing.fHidden == r_0.fThing.fHidden) && ((r_0.fThing.fFixed == r_0.fThing.fFixed) && ((r_0.fThing.fSigns == r_0.fThing.fSigns) && ((r_0.fThing.fWraps == r_0.fThing.fWraps) && (((ByteArray.toList r_0.fThing.fValue) == (ByteArray.toList r_0.fThing.fValue)) && ((r_0.fThing.fNext == r_0.fThing.fNext) && true)))))))) && true))))) then
   some (⟨#[]⟩,false)
   else
   (z3 r_0.fKind).bind fun r5=>
   bif (decide ((r5.size+r4.1.size)≤9223372036854775807)) then
   some ((r5++r4.1),true)
   else none
  else
  bif (r_0.fKind == 4) then
   (z0 r_0.fNum).bind fun r6=>
   (z1 r_0.fNum 1 1000).bind fun r7=>
   bif (!r7) then
   some (⟨#[]⟩,false)
   else
   bif (!((r_0.fKind == r_0.fKind) && (((ByteArray.toList r_0.fText) == (ByteArray.toList ⟨#[]⟩)) && ((r_0.fNum == r_0.fNum) && (((r_0.fThing.fId == 0) && ((r_0.fThing.fKind == 0) && ((r_0.fThing.fHidden == false) && ((r_0.fThing.fFixed == false) && ((r_0.fThing.fSigns == false) && ((r_0.fThing.fWraps == false) && (((ByteArray.toList r_0.fThing.fValue) == (ByteArray.toList ⟨#[]⟩)) && ((r_0.fThing.fNext == 0) && true)))))))) && true))))) then
    some (⟨#[]⟩,false)
   else
    (z3 r_0.fKind).bind fun r8=>
    bif (decide ((r8.size+r6.size)≤9223372036854775807)) then
    some ((r8++r6),true)
    else none
  else
   some (⟨#[]⟩,false)
noncomputable def Tj:Bv:=Dv Lc Xa Sj Ce
theorem MAB:Tells ctx PP 82 cv44 cv33 (fun a=>Tj a):=fn_ok0 (hc Ju (hc Lu (hc KAB (hc E5 hl_nil)))) Tryd.func82 ((fun z0 z1 z2 z3 a=>by kernel_rfl:∀ z0 z1 z2 z3,EntryIs0 ctx PP 82 [] [(114,Ku z0),(62,Po z1),(119,LAB z2),(75,F5 z3)] cv44 cv33 fun a=>Dv z0 z1 z2 z3 a) Lc Xa Sj Ce)
noncomputable def NAB {γ:Type} (F:Bv):Hd ctx γ:=hdl cv44.dec (fun a=>F a) cv33.enc
abbrev Uj:=SBook→Option Bool
inductive Vj where
 | c0 (v_6:(List SThing)) (v_7:Int) (v_8:Int) (b_1:SBook)
noncomputable def J5:Vj→LI
 | .c0 v_6 v_7 v_8 b_1=>(tdo Tryd.f36 104,[(1,[.one (.ptr 64 0)]),(6,[.one (.rsl 27 v_6)]),(7,[.one (.int .i64 v_7)]),(8,[.one (.int .i64 v_8)])],[(64,.var [.str b_1.fWord,.int .i64 b_1.fTries,.rsl 27 b_1.fThings,.int .i64 b_1.fLast,.str b_1.fChain,.int .i64 b_1.fCount])])
noncomputable def Fv (z0:Oj) (z1:Gg) (k:Vj→Option Bool) (b_0:SBook):Option Bool:=
 k (.c0 b_0.fThings (b_0.fThings.length:Int) 0 b_0)
noncomputable def Ro (z0:Oj) (z1:Gg) (k:Vj→Option Bool):Vj→Option Bool
 | .c0 v_6 v_7 v_8 b_1=>
 bif (decide (v_8<v_7)) then
  bif ((decide (0≤v_8)) && (decide (v_8<(v_6.length:Int)))) then
  (z0 (v_6.getD v_8.toNat (⟨0,0,false,false,false,false,⟨#[]⟩,0⟩:SThing))).bind fun r0=>
  bif (!r0) then
  some false
  else
  bif (decide ((v_6.getD v_8.toNat (⟨0,0,false,false,false,false,⟨#[]⟩,0⟩:SThing)).fId > b_1.fLast)) then
   some false
  else
   bif (decide (v_8 > 0)) then
   bif ((decide (0≤(w64 (v_8 - 1)))) && (decide ((w64 (v_8 - 1))<(b_1.fThings.length:Int)))) then
   bif (decide ((b_1.fThings.getD (w64 (v_8 - 1)).toNat (⟨0,0,false,false,false,false,⟨#[]⟩,0⟩:SThing)).fId≥(v_6.getD v_8.toNat (⟨0,0,false,false,false,false,⟨#[]⟩,0⟩:SThing)).fId)) then
    some false
   else
    k (.c0 v_6 v_7 (w64 (v_8+1)) b_1)
   else none
   else
   k (.c0 v_6 v_7 (w64 (v_8+1)) b_1)
  else none
 else
  bif ((b_1.fWord.size:Int) == 32) then
  bif ((b_1.fChain.size:Int) == 32) then
   (z1 b_1.fTries 0 3).bind fun r1=>
   bif r1 then
   bif (decide ((b_1.fThings.length:Int)≤8)) then
    (z1 b_1.fLast 0 1000).bind fun r2=>
    bif r2 then
    (z1 b_1.fCount 0 10000).bind fun r3=>
    some r3
    else
    some false
   else
    some false
   else
   some false
  else
   some false
  else
  some false
noncomputable def Hg:Nat→Vj→Option Bool
 | 0,_=>none
 | m+1,s=>Ro Xb Xa (Hg m) s
noncomputable def Ya:Uj:=Fv Xb Xa (Hg gas)
theorem O5:Tells ctx PP 36 cv45 cv1 (fun a=>Ya a):=
 have b:∀ z0 z1,CutIs ctx PP 36 Tryd.f36 [] [(16,Ou z0),(62,Po z1)] cv1 J5 (Ro z0 z1):=fun z0 z1 _ s=>by cases s <;> kernel_rfl
 have e:∀ z0 z1,EntryIs ctx PP 36 [] [(16,Ou z0),(62,Po z1)] cv45 cv1 J5 (fun k a=>Fv z0 z1 k a):=fun z0 z1 _ a=>by kernel_rfl
 fn_ok (hc D5 (hc Lu hl_nil)) Tryd.func36 (fun s s' h=>by cases s;cases s';(repeat cases ‹SBook›);cases h;rfl) (fun _=>rfl) (fun _ _=>rfl) (b Xb Xa) (e Xb Xa) gas
noncomputable def Gv {γ:Type} (F:Uj):Hd ctx γ:=hdl cv45.dec (fun a=>F a) cv1.enc
abbrev Jv:=SBook→Option SBook
noncomputable def Kv (b_0:SBook):Option SBook:=
 bif (decide ((b_0.fThings.length*48)≤140737488355328)) then
 some b_0
 else none
noncomputable def Wj:Jv:=Kv
theorem OAB:Tells ctx PP 83 cv45 cv40 (fun a=>Wj a):=fn_ok0 hl_nil Tryd.func83 (fun a=>by kernel_rfl:EntryIs0 ctx PP 83 [] [] cv45 cv40 fun a=>Kv a)
noncomputable def PAB {γ:Type} (F:Jv):Hd ctx γ:=hdl cv45.dec (fun a=>F a) cv40.enc
abbrev Xj:=SBook→Int→Option Int
inductive Yj where
 | c0 (id_1:Int) (v_8:(List SThing)) (v_9:Int) (v_10:Int)
noncomputable def P5:Yj→LI
 | .c0 id_1 v_8 v_9 v_10=>(tdo Tryd.f85 104,[(1,[.one (.int .i64 id_1)]),(8,[.one (.rsl 27 v_8)]),(9,[.one (.int .i64 v_9)]),(10,[.one (.int .i64 v_10)])],[])
noncomputable def Q5 (k:Yj→Option Int) (b_0:SBook) (id_1:Int):Option Int:=
 k (.c0 id_1 b_0.fThings (b_0.fThings.length:Int) 0)
noncomputable def Uo (k:Yj→Option Int):Yj→Option Int
 | .c0 id_1 v_8 v_9 v_10=>
 bif (decide (v_10<v_9)) then
  bif ((decide (0≤v_10)) && (decide (v_10<(v_8.length:Int)))) then
  bif ((v_8.getD v_10.toNat (⟨0,0,false,false,false,false,⟨#[]⟩,0⟩:SThing)).fId == id_1) then
  some v_10
  else
  k (.c0 id_1 v_8 v_9 (w64 (v_10+1)))
  else none
 else
  some (-(1:Int))
noncomputable def Ig:Nat→Yj→Option Int
 | 0,_=>none
 | m+1,s=>Uo (Ig m) s
noncomputable def Mc:Xj:=Q5 (Ig gas)
theorem Nv:Tells ctx PP 85 cv46 cv14 (fun a=>Mc a.1 a.2):=
 have b:CutIs ctx PP 85 Tryd.f85 [] [] cv14 P5 (Uo):=fun _ s=>by cases s <;> kernel_rfl
 have e:EntryIs ctx PP 85 [] [] cv46 cv14 P5 (fun k a=>Q5 k a.1 a.2):=fun _ a=>by kernel_rfl
 fn_ok hl_nil Tryd.func85 (fun s s' h=>by cases s;cases s';cases h;rfl) (fun _=>rfl) (fun _ _=>rfl) b e gas
noncomputable def Ov {γ:Type} (F:Xj):Hd ctx γ:=hdl cv46.dec (fun a=>F a.1 a.2) cv14.enc
abbrev Pv:=SThing→SThing→Option Bool
noncomputable def Qv (x_0:SThing) (y_1:SThing):Option Bool:=
 bif (y_1.fKind == x_0.fKind) then
 bif ((ByteArray.toList y_1.fValue) == (ByteArray.toList x_0.fValue)) then
  bif (y_1.fSigns == x_0.fSigns) then
  bif (y_1.fWraps == x_0.fWraps) then
   bif (decide (y_1.fNext≥x_0.fNext)) then
   bif y_1.fHidden then
    bif y_1.fFixed then
    some true
    else
    some (!x_0.fFixed)
   else
    bif (!x_0.fHidden) then
    bif y_1.fFixed then
     some true
    else
     some (!x_0.fFixed)
    else
    some false
   else
   some false
  else
   some false
  else
  some false
 else
  some false
 else
 some false
noncomputable def Zj:Pv:=Qv
theorem QAB:Tells ctx PP 120 cv47 cv1 (fun a=>Zj a.1 a.2):=fn_ok0 hl_nil Tryd.func120 (fun a=>by kernel_rfl:EntryIs0 ctx PP 120 [] [] cv47 cv1 fun a=>Qv a.1 a.2)
noncomputable def RAB {γ:Type} (F:Pv):Hd ctx γ:=hdl cv47.dec (fun a=>F a.1 a.2) cv1.enc
abbrev Sv:=SBook→SThing→Option (Bool×SBook)
noncomputable def Tv (z0:Xj) (z1:Pv) (b_0:SBook) (x_1:SThing):Option (Bool×SBook):=
 (z0 b_0 x_1.fId).bind fun r0=>
 bif (decide (r0≥0)) then
 bif ((decide (0≤r0)) && (decide (r0<(b_0.fThings.length:Int)))) then
 (z1 (b_0.fThings.getD r0.toNat (⟨0,0,false,false,false,false,⟨#[]⟩,0⟩:SThing)) x_1).bind fun r1=>
 bif (!r1) then
  some (false,b_0)
 else
  bif ((decide (0≤r0)) && (decide (r0<(b_0.fThings.length:Int)))) then
  some (true,⟨b_0.fWord,b_0.fTries,(b_0.fThings.set r0.toNat x_1),b_0.fLast,b_0.fChain,b_0.fCount⟩)
  else none
 else none
 else
 bif (x_1.fId != (w64 (b_0.fLast+1))) then
  some (false,b_0)
 else
  bif (decide ((b_0.fThings.length:Int)≥8)) then
  some (false,b_0)
  else
  bif (decide (((b_0.fThings.length+1)*48)≤140737488355328)) then
  some (true,⟨b_0.fWord,b_0.fTries,(b_0.fThings++[x_1]),x_1.fId,b_0.fChain,b_0.fCount⟩)
  else none
noncomputable def Ak:Sv:=Tv Mc Zj
theorem SAB:Tells ctx PP 84 cv55 cv56 (fun a=>Ak a.1 a.2):=fn_ok0 (hc Nv (hc QAB hl_nil)) Tryd.func84 ((fun z0 z1 a=>by kernel_rfl:∀ z0 z1,EntryIs0 ctx PP 84 [0] [(85,Ov z0),(120,RAB z1)] cv55 cv56 fun a=>Tv z0 z1 a.1 a.2) Mc Zj)
noncomputable def TAB {γ:Type} (F:Sv):Hd ctx γ:=hdl cv55.dec (fun a=>F a.1 a.2) cv56.enc
abbrev Wv:=Option (List Int)
noncomputable def U5  : Option (List Int):=
 some [1779033703,3144134277,1013904242,2773480762,1359893119,2600822924,528734635,1541459225]
noncomputable def Vo:Wv:=U5
theorem UAB:Tells ctx PP 107 cv12 cv13 (fun _=>Vo):=fn_ok0 hl_nil Tryd.func107 (fun _=>by kernel_rfl:EntryIs0 ctx PP 107 [] [] cv12 cv13 fun _=>U5)
noncomputable def VAB {γ:Type} (F:Wv):Hd ctx γ:=hdl cv12.dec (fun _=>F) cv13.enc
abbrev Xv:=Int→Option ByteArray
noncomputable def Yv (n_0:Int):Option ByteArray:=
 bif ((((decide (0≤n_0)) && (decide (n_0≤n_0))) && (decide (n_0≤9223372036854775807))) && (decide ((n_0.toNat*1)≤140737488355328))) then
 some (ofBytes (List.replicate n_0.toNat (0:Int)))
 else none
noncomputable def Ik:Xv:=Yv
theorem WAB:Tells ctx PP 92 cv14 cv9 (fun a=>Ik a):=fn_ok0 hl_nil Tryd.func92 (fun a=>by kernel_rfl:EntryIs0 ctx PP 92 [] [] cv14 cv9 fun a=>Yv a)
noncomputable def XAB {γ:Type} (F:Xv):Hd ctx γ:=hdl cv14.dec (fun a=>F a) cv9.enc
abbrev Jk:=Int→Option ByteArray
noncomputable def Zv (n_0:Int):Option ByteArray:=
 some (ofBytes [(w8 (Int.fdiv n_0 (2 ^ (Min.min (24:Int).toNat (IntKind.bits IntKind.u32))))),(w8 (Int.fdiv n_0 (2 ^ (Min.min (16:Int).toNat (IntKind.bits IntKind.u32))))),(w8 (Int.fdiv n_0 (2 ^ (Min.min (8:Int).toNat (IntKind.bits IntKind.u32))))),(w8 n_0)])
noncomputable def Yb:Jk:=Zv
theorem V5:Tells ctx PP 134 cv15 cv9 (fun a=>Yb a):=fn_ok0 hl_nil Tryd.func134 (fun a=>by kernel_rfl:EntryIs0 ctx PP 134 [] [] cv15 cv9 fun a=>Zv a)
noncomputable def Aw {γ:Type} (F:Jk):Hd ctx γ:=hdl cv15.dec (fun a=>F a) cv9.enc
abbrev Dw:=Int→Option ByteArray
noncomputable def Ew (z0:Jk) (n_0:Int):Option ByteArray:=
 (z0 (w32 (Int.fdiv n_0 (2 ^ (Min.min (32:Int).toNat (IntKind.bits IntKind.i64)))))).bind fun r0=>
 (z0 (w32 n_0)).bind fun r1=>
 bif (decide ((r0.size+r1.size)≤9223372036854775807)) then
 some (r0++r1)
 else none
noncomputable def Nk:Dw:=Ew Yb
theorem YAB:Tells ctx PP 133 cv14 cv9 (fun a=>Nk a):=fn_ok0 (hc V5 hl_nil) Tryd.func133 ((fun z0 a=>by kernel_rfl:∀ z0,EntryIs0 ctx PP 133 [] [(134,Aw z0)] cv14 cv9 fun a=>Ew z0 a) Yb)
noncomputable def ZAB {γ:Type} (F:Dw):Hd ctx γ:=hdl cv14.dec (fun a=>F a) cv9.enc
abbrev Gw:=Int→Option ByteArray
noncomputable def Hw (z0:Xv) (z1:Dw) (count_0:Int):Option ByteArray:=
 (z0 ((w64 (119 - (count_0.tmod 64))).tmod 64)).bind fun r0=>
 bif (decide (((⟨#[128]⟩:ByteArray).size+r0.size)≤9223372036854775807)) then
 (z1 (w64 (8*count_0))).bind fun r1=>
 bif (decide ((((⟨#[128]⟩:ByteArray)++r0).size+r1.size)≤9223372036854775807)) then
 some (((⟨#[128]⟩:ByteArray)++r0)++r1)
 else none
 else none
noncomputable def Qk:Gw:=Hw Ik Nk
theorem AAC:Tells ctx PP 108 cv14 cv9 (fun a=>Qk a):=fn_ok0 (hc WAB (hc YAB hl_nil)) Tryd.func108 ((fun z0 z1 a=>by kernel_rfl:∀ z0 z1,EntryIs0 ctx PP 108 [] [(92,XAB z0),(133,ZAB z1)] cv14 cv9 fun a=>Hw z0 z1 a) Ik Nk)
noncomputable def BAC {γ:Type} (F:Gw):Hd ctx γ:=hdl cv14.dec (fun a=>F a) cv9.enc
abbrev Iw:=Int→Int→Option Int
noncomputable def Jw (x_0:Int) (k_1:Int):Option Int:=
 bif (decide (0≤(wu64 (32 - (wu64 (((BitVec.toNat ((BitVec.ofInt (IntKind.bits IntKind.u64) (wu64 k_1)) &&& (BitVec.ofInt (IntKind.bits IntKind.u64) 31))):Nat):Int)))))) then
 some (w32 (((BitVec.toNat ((BitVec.ofInt (IntKind.bits IntKind.u32) (w32 (x_0*(2 ^ (Min.min (wu64 (((BitVec.toNat ((BitVec.ofInt (IntKind.bits IntKind.u64) (wu64 k_1)) &&& (BitVec.ofInt (IntKind.bits IntKind.u64) 31))):Nat):Int)).toNat (IntKind.bits IntKind.u32)))))) ||| (BitVec.ofInt (IntKind.bits IntKind.u32) (Int.fdiv x_0 (2 ^ (Min.min (wu64 (32 - (wu64 (((BitVec.toNat ((BitVec.ofInt (IntKind.bits IntKind.u64) (wu64 k_1)) &&& (BitVec.ofInt (IntKind.bits IntKind.u64) 31))):Nat):Int)))).toNat (IntKind.bits IntKind.u32))))))):Nat):Int))
 else none
noncomputable def Rk:Iw:=Jw
theorem CAC:Tells ctx PP 163 cv16 cv15 (fun a=>Rk a.1 a.2):=fn_ok0 hl_nil Tryd.func163 (fun a=>by kernel_rfl:EntryIs0 ctx PP 163 [] [] cv16 cv15 fun a=>Jw a.1 a.2)
noncomputable def DAC {γ:Type} (F:Iw):Hd ctx γ:=hdl cv16.dec (fun a=>F a.1 a.2) cv15.enc
abbrev Jg:=Int→Int→Option Int
noncomputable def Kw (z0:Iw) (x_0:Int) (n_1:Int):Option Int:=
 (z0 x_0 (w64 (0 - n_1))).bind fun r0=>
 some r0
noncomputable def RY:Jg:=Kw Rk
theorem X5:Tells ctx PP 154 cv16 cv15 (fun a=>RY a.1 a.2):=fn_ok0 (hc CAC hl_nil) Tryd.func154 ((fun z0 a=>by kernel_rfl:∀ z0,EntryIs0 ctx PP 154 [] [(163,DAC z0)] cv16 cv15 fun a=>Kw z0 a.1 a.2) Rk)
noncomputable def Xo {γ:Type} (F:Jg):Hd ctx γ:=hdl cv16.dec (fun a=>F a.1 a.2) cv15.enc
abbrev Yo:=ByteArray→Option (List Int)
inductive Uk where
 | c0 (block_0:ByteArray) (v_11:Int) (v_2r0:(List Int)) (w_3r0:(List Int))
 | c1 (block_0:ByteArray) (i_4:Int) (v_11:Int) (v_14:Int) (v_2r0:(List Int)) (w_3r0:(List Int))
 | c2 (t_6:Int) (v_2r0:(List Int)) (w_3r0:(List Int))
noncomputable def Y5:Uk→LI
 | .c0 block_0 v_11 v_2r0 w_3r0=>(tdo Tryd.f153 232,[(0,[.one (.str block_0)]),(2,[.one (.ptr 128 0)]),(3,[.one (.ptr 192 0)]),(11,[.one (.int .i64 v_11)])],[(128,.ar 114 v_2r0),(192,.ar 114 w_3r0)])
 | .c1 block_0 i_4 v_11 v_14 v_2r0 w_3r0=>(tdo Tryd.f153 59800,[(0,[.one (.str block_0)]),(2,[.one (.ptr 128 0)]),(3,[.one (.ptr 192 0)]),(4,[.one (.int .i64 i_4)]),(11,[.one (.int .i64 v_11)]),(14,[.one (.int .i64 v_14)])],[(128,.ar 114 v_2r0),(192,.ar 114 w_3r0)])
 | .c2 t_6 v_2r0 w_3r0=>(tdo Tryd.f153 976,[(2,[.one (.ptr 128 0)]),(3,[.one (.ptr 192 0)]),(6,[.one (.int .i64 t_6)])],[(128,.ar 114 v_2r0),(192,.ar 114 w_3r0)])
noncomputable def Nw (z0:Jg) (k:Uk→Option (List Int)) (block_0:ByteArray):Option (List Int):=
 k (.c0 block_0 0 (List.replicate 64 (0:Int)) (List.replicate 64 (0:Int)))
noncomputable def Nc (z0:Jg) (k:Uk→Option (List Int)):Uk→Option (List Int)
 | .c0 block_0 v_11 v_2r0 w_3r0=>
 bif (decide (v_11<16)) then
  k (.c1 block_0 v_11 v_11 0 v_2r0 w_3r0)
 else
  k (.c2 16 v_2r0 w_3r0)
 | .c1 block_0 i_4 v_11 v_14 v_2r0 w_3r0=>
 bif (decide (v_14<4)) then
  bif (Nat.beq 64 w_3r0.length) then
  bif ((decide (0≤i_4)) && (decide (i_4<(w_3r0.length:Int)))) then
  bif ((decide (0≤(w64 ((w64 (4*i_4))+v_14)))) && (decide ((w64 ((w64 (4*i_4))+v_14))<(block_0.size:Int)))) then
  bif (Nat.beq 64 w_3r0.length) then
  bif ((decide (0≤i_4)) && (decide (i_4<(w_3r0.length:Int)))) then
  k (.c1 block_0 i_4 v_11 (w64 (v_14+1)) v_2r0 (w_3r0.set i_4.toNat (w32 (((BitVec.toNat ((BitVec.ofInt (IntKind.bits IntKind.u32) (w32 ((w_3r0.getD i_4.toNat 0)*(2 ^ (Min.min (8:Int).toNat (IntKind.bits IntKind.u32)))))) ||| (BitVec.ofInt (IntKind.bits IntKind.u32) (w32 (bt block_0 (w64 ((w64 (4*i_4))+v_14))))))):Nat):Int))))
  else none
  else none
  else none
  else none
  else none
 else
  k (.c0 block_0 (w64 (v_11+1)) v_2r0 w_3r0)
 | .c2 t_6 v_2r0 w_3r0=>
 bif (decide (t_6<64)) then
  bif (Nat.beq 64 w_3r0.length) then
  bif ((decide (0≤(w64 (t_6 - 15)))) && (decide ((w64 (t_6 - 15))<(w_3r0.length:Int)))) then
  bif (Nat.beq 64 w_3r0.length) then
  bif ((decide (0≤(w64 (t_6 - 2)))) && (decide ((w64 (t_6 - 2))<(w_3r0.length:Int)))) then
  (z0 (w_3r0.getD (w64 (t_6 - 15)).toNat 0) 7).bind fun r0=>
  (z0 (w_3r0.getD (w64 (t_6 - 15)).toNat 0) 18).bind fun r1=>
  (z0 (w_3r0.getD (w64 (t_6 - 2)).toNat 0) 17).bind fun r2=>
  (z0 (w_3r0.getD (w64 (t_6 - 2)).toNat 0) 19).bind fun r3=>
  bif (Nat.beq 64 w_3r0.length) then
  bif ((decide (0≤(w64 (t_6 - 7)))) && (decide ((w64 (t_6 - 7))<(w_3r0.length:Int)))) then
  bif (Nat.beq 64 w_3r0.length) then
  bif ((decide (0≤(w64 (t_6 - 16)))) && (decide ((w64 (t_6 - 16))<(w_3r0.length:Int)))) then
  bif (Nat.beq 64 w_3r0.length) then
  bif ((decide (0≤t_6)) && (decide (t_6<(w_3r0.length:Int)))) then
  k (.c2 (w64 (t_6+1)) v_2r0 (w_3r0.set t_6.toNat (w32 ((w32 ((w32 ((w32 (((BitVec.toNat ((BitVec.ofInt (IntKind.bits IntKind.u32) (w32 (((BitVec.toNat ((BitVec.ofInt (IntKind.bits IntKind.u32) r2) ^^^ (BitVec.ofInt (IntKind.bits IntKind.u32) r3))):Nat):Int))) ^^^ (BitVec.ofInt (IntKind.bits IntKind.u32) (Int.fdiv (w_3r0.getD (w64 (t_6 - 2)).toNat 0) (2 ^ (Min.min (10:Int).toNat (IntKind.bits IntKind.u32))))))):Nat):Int))+(w_3r0.getD (w64 (t_6 - 7)).toNat 0)))+(w32 (((BitVec.toNat ((BitVec.ofInt (IntKind.bits IntKind.u32) (w32 (((BitVec.toNat ((BitVec.ofInt (IntKind.bits IntKind.u32) r0) ^^^ (BitVec.ofInt (IntKind.bits IntKind.u32) r1))):Nat):Int))) ^^^ (BitVec.ofInt (IntKind.bits IntKind.u32) (Int.fdiv (w_3r0.getD (w64 (t_6 - 15)).toNat 0) (2 ^ (Min.min (3:Int).toNat (IntKind.bits IntKind.u32))))))):Nat):Int))))+(w_3r0.getD (w64 (t_6 - 16)).toNat 0)))))
  else none
  else none
  else none
  else none
  else none
  else none
  else none
  else none
  else none
  else none
 else
  bif (Nat.beq 64 w_3r0.length) then
  bif ((Nat.beq w_3r0.length v_2r0.length) && (Nat.beq 64 w_3r0.length)) then
  bif ((Nat.beq 64 w_3r0.length) && true) then
  some w_3r0
  else none
  else none
  else none
noncomputable def NZ:Nat→Uk→Option (List Int)
 | 0,_=>none
 | m+1,s=>Nc RY (NZ m) s
noncomputable def Ee:Yo:=Nw RY (NZ gas)
theorem EAC:Tells ctx PP 153 cv9 cv13 (fun a=>Ee a):=
 have b:∀ z0,CutIs ctx PP 153 Tryd.f153 [] [(154,Xo z0)] cv13 Y5 (Nc z0):=fun z0 _ s=>by cases s <;> kernel_rfl
 have e:∀ z0,EntryIs ctx PP 153 [] [(154,Xo z0)] cv9 cv13 Y5 (fun k a=>Nw z0 k a):=fun z0 _ a=>by kernel_rfl
 fn_ok (hc X5 hl_nil) Tryd.func153 (fun s s' h=>by cases s <;> cases s' <;> first | (cases h;done) | (cases h;rfl) | exact (rg_ne h (by kernel_rfl)).elim) (fun _=>rfl) (fun _ _=>rfl) (b RY) (e RY) gas
noncomputable def Z5 {γ:Type} (F:Yo):Hd ctx γ:=hdl cv9.dec (fun a=>F a) cv13.enc
abbrev Zo:=(List Int)→ByteArray→Option (List Int)
inductive Vk where
 | c0 (a_6:Int) (b_7:Int) (c_8:Int) (d_9:Int) (e_10:Int) (f_11:Int) (g_12:Int) (h_13:Int) (v_37:Int) (state_2r0:(List Int)) (v_4r0:(List Int)) (w_5r0:(List Int))
 | c1 (v_109:Int) (state_2r0:(List Int)) (v_4r0:(List Int)) (out_17r0:(List Int))
noncomputable def D6:Vk→LI
 | .c0 a_6 b_7 c_8 d_9 e_10 f_11 g_12 h_13 v_37 state_2r0 v_4r0 w_5r0=>(tdo Tryd.f132 488,[(2,[.one (.ptr 128 0)]),(4,[.one (.ptr 256 0)]),(5,[.one (.ptr 320 0)]),(6,[.one (.int .u32 a_6)]),(7,[.one (.int .u32 b_7)]),(8,[.one (.int .u32 c_8)]),(9,[.one (.int .u32 d_9)]),(10,[.one (.int .u32 e_10)]),(11,[.one (.int .u32 f_11)]),(12,[.one (.int .u32 g_12)]),(13,[.one (.int .u32 h_13)]),(37,[.one (.int .i64 v_37)])],[(128,.ar 114 state_2r0),(256,.ar 114 v_4r0),(320,.ar 114 w_5r0)])
 | .c1 v_109 state_2r0 v_4r0 out_17r0=>(tdo Tryd.f132 2024,[(2,[.one (.ptr 128 0)]),(4,[.one (.ptr 256 0)]),(17,[.one (.ptr 1088 0)]),(109,[.one (.int .i64 v_109)])],[(128,.ar 114 state_2r0),(256,.ar 114 v_4r0),(1088,.ar 114 out_17r0)])
noncomputable def Qw (z0:Yo) (z1:Jg) (k:Vk→Option (List Int)) (state_0:(List Int)) (block_1:ByteArray):Option (List Int):=
 (z0 block_1).bind fun r0=>
 bif ((Nat.beq r0.length (List.replicate 64 (0:Int)).length) && (Nat.beq 64 r0.length)) then
 bif (Nat.beq 8 state_0.length) then
 bif ((decide ((0:Int)≤(0:Int))) && (decide (0<(state_0.length:Int)))) then
 bif (Nat.beq 8 state_0.length) then
 bif ((decide ((0:Int)≤(1:Int))) && (decide (1<(state_0.length:Int)))) then
 bif (Nat.beq 8 state_0.length) then
 bif ((decide ((0:Int)≤(2:Int))) && (decide (2<(state_0.length:Int)))) then
 bif (Nat.beq 8 state_0.length) then
 bif ((decide ((0:Int)≤(3:Int))) && (decide (3<(state_0.length:Int)))) then
 bif (Nat.beq 8 state_0.length) then
 bif ((decide ((0:Int)≤(4:Int))) && (decide (4<(state_0.length:Int)))) then
 bif (Nat.beq 8 state_0.length) then
 bif ((decide ((0:Int)≤(5:Int))) && (decide (5<(state_0.length:Int)))) then
 bif (Nat.beq 8 state_0.length) then
 bif ((decide ((0:Int)≤(6:Int))) && (decide (6<(state_0.length:Int)))) then
 bif (Nat.beq 8 state_0.length) then
 bif ((decide ((0:Int)≤(7:Int))) && (decide (7<(state_0.length:Int)))) then
 k (.c0 (state_0.getD (0:Int).toNat 0) (state_0.getD (1:Int).toNat 0) (state_0.getD (2:Int).toNat 0) (state_0.getD (3:Int).toNat 0) (state_0.getD (4:Int).toNat 0) (state_0.getD (5:Int).toNat 0) (state_0.getD (6:Int).toNat 0) (state_0.getD (7:Int).toNat 0) 0 state_0 [0,0,0,0,0,0,0,0] r0)
 else none
 else none
 else none
 else none
 else none
 else none
 else none
 else none
 else none
 else none
 else none
 else none
 else none
 else none
 else none
 else none
 else none
noncomputable def Og (z0:Yo) (z1:Jg) (k:Vk→Option (List Int)):Vk→Option (List Int)
 | .c0 a_6 b_7 c_8 d_9 e_10 f_11 g_12 h_13 v_37 state_2r0 v_4r0 w_5r0=>
 bif (decide (v_37<64)) then
  (z1 e_10 6).bind fun r0=>
  (z1 e_10 11).bind fun r1=>
  (z1 e_10 25).bind fun r2=>
  bif ((decide (0≤v_37)) && (decide (v_37<((64:Nat):Int)))) then
  bif (Nat.blt v_37.toNat 64) then
  bif (Nat.beq 64 w_5r0.length) then
  bif ((decide (0≤v_37)) && (decide (v_37<(w_5r0.length:Int)))) then
  (z1 a_6 2).bind fun r3=>
  (z1 a_6 13).bind fun r4=>
  (z1 a_6 22).bind fun r5=>
  k (.c0 (w32 ((w32 ((w32 ((w32 ((w32 (h_13+(w32 (((BitVec.toNat ((BitVec.ofInt (IntKind.bits IntKind.u32) (w32 (((BitVec.toNat ((BitVec.ofInt (IntKind.bits IntKind.u32) r0) ^^^ (BitVec.ofInt (IntKind.bits IntKind.u32) r1))):Nat):Int))) ^^^ (BitVec.ofInt (IntKind.bits IntKind.u32) r2))):Nat):Int))))+(w32 (((BitVec.toNat ((BitVec.ofInt (IntKind.bits IntKind.u32) (w32 (((BitVec.toNat ((BitVec.ofInt (IntKind.bits IntKind.u32) e_10) &&& (BitVec.ofInt (IntKind.bits IntKind.u32) f_11))):Nat):Int))) ^^^ (BitVec.ofInt (IntKind.bits IntKind.u32) (w32 (((BitVec.toNat ((BitVec.ofInt (IntKind.bits IntKind.u32) (w32 (((BitVec.toNat ((BitVec.ofInt (IntKind.bits IntKind.u32) (ite ((IntKind.signed IntKind.u32)=true) (-(1:Int)) (IntKind.max IntKind.u32))) ^^^ (BitVec.ofInt (IntKind.bits IntKind.u32) e_10))):Nat):Int))) &&& (BitVec.ofInt (IntKind.bits IntKind.u32) g_12))):Nat):Int))))):Nat):Int))))+([(1116352408:Int),(1899447441:Int),(3049323471:Int),(3921009573:Int),(961987163:Int),(1508970993:Int),(2453635748:Int),(2870763221:Int),(3624381080:Int),(310598401:Int),(607225278:Int),(1426881987:Int),(1925078388:Int),(2162078206:Int),(2614888103:Int),(3248222580:Int),(3835390401:Int),(4022224774:Int),(264347078:Int),(604807628:Int),(770255983:Int),(1249150122:Int),(1555081692:Int),(1996064986:Int),(2554220882:Int),(2821834349:Int),(2952996808:Int),(3210313671:Int),(3336571891:Int),(3584528711:Int),(113926993:Int),(338241895:Int),(666307205:Int),(773529912:Int),(1294757372:Int),(1396182291:Int),(1695183700:Int),(1986661051:Int),(2177026350:Int),(2456956037:Int),(2730485921:Int),(2820302411:Int),(3259730800:Int),(3345764771:Int),(3516065817:Int),(3600352804:Int),(4094571909:Int),(275423344:Int),(430227734:Int),(506948616:Int),(659060556:Int),(883997877:Int),(958139571:Int),(1322822218:Int),(1537002063:Int),(1747873779:Int),(1955562222:Int),(2024104815:Int),(2227730452:Int),(2361852424:Int),(2428436474:Int),(2756734187:Int),(3204031479:Int),(3329325298:Int)].getD v_37.toNat 0)))+(w_5r0.getD v_37.toNat 0)))+(w32 ((w32 (((BitVec.toNat ((BitVec.ofInt (IntKind.bits IntKind.u32) (w32 (((BitVec.toNat ((BitVec.ofInt (IntKind.bits IntKind.u32) r3) ^^^ (BitVec.ofInt (IntKind.bits IntKind.u32) r4))):Nat):Int))) ^^^ (BitVec.ofInt (IntKind.bits IntKind.u32) r5))):Nat):Int))+(w32 (((BitVec.toNat ((BitVec.ofInt (IntKind.bits IntKind.u32) (w32 (((BitVec.toNat ((BitVec.ofInt (IntKind.bits IntKind.u32) (w32 (((BitVec.toNat ((BitVec.ofInt (IntKind.bits IntKind.u32) a_6) &&& (BitVec.ofInt (IntKind.bits IntKind.u32) b_7))):Nat):Int))) ^^^ (BitVec.ofInt (IntKind.bits IntKind.u32) (w32 (((BitVec.toNat ((BitVec.ofInt (IntKind.bits IntKind.u32) a_6) &&& (BitVec.ofInt (IntKind.bits IntKind.u32) c_8))):Nat):Int))))):Nat):Int))) ^^^ (BitVec.ofInt (IntKind.bits IntKind.u32) (w32 (((BitVec.toNat ((BitVec.ofInt (IntKind.bits IntKind.u32) b_7) &&& (BitVec.ofInt (IntKind.bits IntKind.u32) c_8))):Nat):Int))))):Nat):Int)))))) a_6 b_7 c_8 (w32 (d_9+(w32 ((w32 ((w32 ((w32 (h_13+(w32 (((BitVec.toNat ((BitVec.ofInt (IntKind.bits IntKind.u32) (w32 (((BitVec.toNat ((BitVec.ofInt (IntKind.bits IntKind.u32) r0) ^^^ (BitVec.ofInt (IntKind.bits IntKind.u32) r1))):Nat):Int))) ^^^ (BitVec.ofInt (IntKind.bits IntKind.u32) r2))):Nat):Int))))+(w32 (((BitVec.toNat ((BitVec.ofInt (IntKind.bits IntKind.u32) (w32 (((BitVec.toNat ((BitVec.ofInt (IntKind.bits IntKind.u32) e_10) &&& (BitVec.ofInt (IntKind.bits IntKind.u32) f_11))):Nat):Int))) ^^^ (BitVec.ofInt (IntKind.bits IntKind.u32) (w32 (((BitVec.toNat ((BitVec.ofInt (IntKind.bits IntKind.u32) (w32 (((BitVec.toNat ((BitVec.ofInt (IntKind.bits IntKind.u32) (ite ((IntKind.signed IntKind.u32)=true) (-(1:Int)) (IntKind.max IntKind.u32))) ^^^ (BitVec.ofInt (IntKind.bits IntKind.u32) e_10))):Nat):Int))) &&& (BitVec.ofInt (IntKind.bits IntKind.u32) g_12))):Nat):Int))))):Nat):Int))))+([(1116352408:Int),(1899447441:Int),(3049323471:Int),(3921009573:Int),(961987163:Int),(1508970993:Int),(2453635748:Int),(2870763221:Int),(3624381080:Int),(310598401:Int),(607225278:Int),(1426881987:Int),(1925078388:Int),(2162078206:Int),(2614888103:Int),(3248222580:Int),(3835390401:Int),(4022224774:Int),(264347078:Int),(604807628:Int),(770255983:Int),(1249150122:Int),(1555081692:Int),(1996064986:Int),(2554220882:Int),(2821834349:Int),(2952996808:Int),(3210313671:Int),(3336571891:Int),(3584528711:Int),(113926993:Int),(338241895:Int),(666307205:Int),(773529912:Int),(1294757372:Int),(1396182291:Int),(1695183700:Int),(1986661051:Int),(2177026350:Int),(2456956037:Int),(2730485921:Int),(2820302411:Int),(3259730800:Int),(3345764771:Int),(3516065817:Int),(3600352804:Int),(4094571909:Int),(275423344:Int),(430227734:Int),(506948616:Int),(659060556:Int),(883997877:Int),(958139571:Int),(1322822218:Int),(1537002063:Int),(1747873779:Int),(1955562222:Int),(2024104815:Int),(2227730452:Int),(2361852424:Int),(2428436474:Int),(2756734187:Int),(3204031479:Int),(3329325298:Int)].getD v_37.toNat 0)))+(w_5r0.getD v_37.toNat 0))))) e_10 f_11 g_12 (w64 (v_37+1)) state_2r0 v_4r0 w_5r0)
  else none
  else none
  else none
  else none
 else
  k (.c1 0 state_2r0 v_4r0 [a_6,b_7,c_8,d_9,e_10,f_11,g_12,h_13])
 | .c1 v_109 state_2r0 v_4r0 out_17r0=>
 bif (decide (v_109<8)) then
  bif (Nat.beq 8 out_17r0.length) then
  bif ((decide (0≤v_109)) && (decide (v_109<(out_17r0.length:Int)))) then
  bif (Nat.beq 8 state_2r0.length) then
  bif ((decide (0≤v_109)) && (decide (v_109<(state_2r0.length:Int)))) then
  bif (Nat.beq 8 out_17r0.length) then
  bif ((decide (0≤v_109)) && (decide (v_109<(out_17r0.length:Int)))) then
  k (.c1 (w64 (v_109+1)) state_2r0 v_4r0 (out_17r0.set v_109.toNat (w32 ((out_17r0.getD v_109.toNat 0)+(state_2r0.getD v_109.toNat 0)))))
  else none
  else none
  else none
  else none
  else none
  else none
 else
  bif (Nat.beq 8 out_17r0.length) then
  bif ((Nat.beq out_17r0.length v_4r0.length) && (Nat.beq 8 out_17r0.length)) then
  bif ((Nat.beq 8 out_17r0.length) && true) then
  some out_17r0
  else none
  else none
  else none
noncomputable def Ia:Nat→Vk→Option (List Int)
 | 0,_=>none
 | m+1,s=>Og Ee RY (Ia m) s
noncomputable def Fe:Zo:=Qw Ee RY (Ia gas)
theorem FAC:Tells ctx PP 132 cv17 cv13 (fun a=>Fe a.1 a.2):=
 have b:∀ z0 z1,CutIs ctx PP 132 Tryd.f132 [] [(153,Z5 z0),(154,Xo z1)] cv13 D6 (Og z0 z1):=fun z0 z1 _ s=>by cases s <;> kernel_rfl
 have e:∀ z0 z1,EntryIs ctx PP 132 [] [(153,Z5 z0),(154,Xo z1)] cv17 cv13 D6 (fun k a=>Qw z0 z1 k a.1 a.2):=fun z0 z1 _ a=>by kernel_rfl
 fn_ok (hc EAC (hc X5 hl_nil)) Tryd.func132 (fun s s' h=>by cases s <;> cases s' <;> first | (cases h;done) | (cases h;rfl) | exact (rg_ne h (by kernel_rfl)).elim) (fun _=>rfl) (fun _ _=>rfl) (b Ee RY) (e Ee RY) gas
noncomputable def F6 {γ:Type} (F:Zo):Hd ctx γ:=hdl cv17.dec (fun a=>F a.1 a.2) cv13.enc
abbrev Rw:=(List Int)→ByteArray→Option ((List Int)×ByteArray)
inductive Xk where
 | c0 (s_1:ByteArray) (state_2r0:(List Int)) (v_4r0:(List Int))
noncomputable def G6:Xk→LI
 | .c0 s_1 state_2r0 v_4r0=>(tdo Tryd.f106 96,[(1,[.one (.str s_1)]),(2,[.one (.ptr 128 0)]),(4,[.one (.ptr 256 0)])],[(128,.ar 114 state_2r0),(256,.ar 114 v_4r0)])
noncomputable def Uw (z0:Zo) (k:Xk→Option ((List Int)×ByteArray)) (state_0:(List Int)) (s_1:ByteArray):Option ((List Int)×ByteArray):=
 k (.c0 s_1 state_0 [0,0,0,0,0,0,0,0])
noncomputable def Ap (z0:Zo) (k:Xk→Option ((List Int)×ByteArray)):Xk→Option ((List Int)×ByteArray)
 | .c0 s_1 state_2r0 v_4r0=>
 bif (decide ((s_1.size:Int)≥64)) then
  bif (Nat.beq 8 state_2r0.length) then
  bif ((decide ((0:Int)≤(64:Int))) && (decide (64≤(s_1.size:Int)))) then
  (z0 state_2r0 (s_1.extract 0 (64:Int).toNat)).bind fun r0=>
  bif ((Nat.beq r0.length state_2r0.length) && (Nat.beq 8 r0.length)) then
  bif ((decide ((0:Int)≤(64:Int))) && (decide (64≤(s_1.size:Int)))) then
  k (.c0 (s_1.extract (64:Int).toNat s_1.size) r0 v_4r0)
  else none
  else none
  else none
  else none
 else
  bif (Nat.beq 8 state_2r0.length) then
  bif ((Nat.beq state_2r0.length v_4r0.length) && (Nat.beq 8 state_2r0.length)) then
  bif ((Nat.beq 8 state_2r0.length) && true) then
  some (state_2r0,s_1)
  else none
  else none
  else none
noncomputable def Yk:Nat→Xk→Option ((List Int)×ByteArray)
 | 0,_=>none
 | m+1,s=>Ap Fe (Yk m) s
noncomputable def Zk:Rw:=Uw Fe (Yk gas)
theorem GAC:Tells ctx PP 106 cv17 cv17 (fun a=>Zk a.1 a.2):=
 have b:∀ z0,CutIs ctx PP 106 Tryd.f106 [] [(132,F6 z0)] cv17 G6 (Ap z0):=fun z0 _ s=>by cases s <;> kernel_rfl
 have e:∀ z0,EntryIs ctx PP 106 [] [(132,F6 z0)] cv17 cv17 G6 (fun k a=>Uw z0 k a.1 a.2):=fun z0 _ a=>by kernel_rfl
 fn_ok (hc FAC hl_nil) Tryd.func106 (fun s s' h=>by cases s;cases s';cases h;rfl) (fun _=>rfl) (fun _ _=>rfl) (b Fe) (e Fe) gas
noncomputable def HAC {γ:Type} (F:Rw):Hd ctx γ:=hdl cv17.dec (fun a=>F a.1 a.2) cv17.enc
abbrev Vw:=(List Int)→Option ByteArray
inductive Bl where
 | c0 (out_3:ByteArray) (v_6:(List Int)) (v_7:Int)
noncomputable def H6:Bl→LI
 | .c0 out_3 v_6 v_7=>(tdo Tryd.f109 232,[(3,[.one (.str out_3)]),(6,[.arr 114 v_6]),(7,[.one (.int .i64 v_7)])],[])
noncomputable def Xw (z0:Jk) (k:Bl→Option ByteArray) (state_0:(List Int)):Option ByteArray:=
 bif (Nat.beq 8 state_0.length) then
 k (.c0 ⟨#[]⟩ state_0 0)
 else none
noncomputable def Dp (z0:Jk) (k:Bl→Option ByteArray):Bl→Option ByteArray
 | .c0 out_3 v_6 v_7=>
 bif (decide (v_7<8)) then
  bif (Nat.beq 8 v_6.length) then
  bif ((decide (0≤v_7)) && (decide (v_7<(v_6.length:Int)))) then
  (z0 (v_6.getD v_7.toNat 0)).bind fun r0=>
  bif (decide ((out_3.size+r0.size)≤9223372036854775807)) then
  k (.c0 (out_3++r0) v_6 (w64 (v_7+1)))
  else none
  else none
  else none
 else
  some out_3
noncomputable def Dl:Nat→Bl→Option ByteArray
 | 0,_=>none
 | m+1,s=>Dp Yb (Dl m) s
noncomputable def Gl:Vw:=Xw Yb (Dl gas)
theorem IAC:Tells ctx PP 109 cv13 cv9 (fun a=>Gl a):=
 have b:∀ z0,CutIs ctx PP 109 Tryd.f109 [] [(134,Aw z0)] cv9 H6 (Dp z0):=fun z0 _ s=>by cases s <;> kernel_rfl
 have e:∀ z0,EntryIs ctx PP 109 [] [(134,Aw z0)] cv13 cv9 H6 (fun k a=>Xw z0 k a):=fun z0 _ a=>by kernel_rfl
 fn_ok (hc V5 hl_nil) Tryd.func109 (fun s s' h=>by cases s;cases s';cases h;rfl) (fun _=>rfl) (fun _ _=>rfl) (b Yb) (e Yb) gas
noncomputable def JAC {γ:Type} (F:Vw):Hd ctx γ:=hdl cv13.dec (fun a=>F a) cv9.enc
abbrev Yw:=ByteArray→Option ByteArray
noncomputable def Zw (z0:Wv) (z1:Gw) (z2:Rw) (z3:Vw) (s_0:ByteArray):Option ByteArray:=
 z0.bind fun r0=>
 (z1 (s_0.size:Int)).bind fun r1=>
 bif (decide ((s_0.size+r1.size)≤9223372036854775807)) then
 (z2 r0 (s_0++r1)).bind fun r2=>
 bif ((Nat.beq r2.1.length 8) && (Nat.beq 8 r2.1.length)) then
 bif (Nat.beq 8 r2.1.length) then
 (z3 r2.1).bind fun r3=>
 some r3
 else none
 else none
 else none
noncomputable def Hl:Yw:=Zw Vo Qk Zk Gl
theorem KAC:Tells ctx PP 59 cv9 cv9 (fun a=>Hl a):=fn_ok0 (hc UAB (hc AAC (hc GAC (hc IAC hl_nil)))) Tryd.func59 ((fun z0 z1 z2 z3 a=>by kernel_rfl:∀ z0 z1 z2 z3,EntryIs0 ctx PP 59 [] [(107,VAB z0),(108,BAC z1),(106,HAC z2),(109,JAC z3)] cv9 cv9 fun a=>Zw z0 z1 z2 z3 a) Vo Qk Zk Gl)
noncomputable def LAC {γ:Type} (F:Yw):Hd ctx γ:=hdl cv9.dec (fun a=>F a) cv9.enc
abbrev Ep:=SBook→SRec→Option (SBook×Bool)
noncomputable def Dx (z0:Bv) (z1:Uj) (z2:Jv) (z3:Sv) (z4:Xj) (z5:Yw) (b_0:SBook) (r_1:SRec):Option (SBook×Bool):=
 (z0 r_1).bind fun r0=>
 (z1 b_0).bind fun r1=>
 bif (!r1) then
 some (⟨⟨#[]⟩,0,[],0,⟨#[]⟩,0⟩,false)
 else
 bif (!r0.2) then
  some (⟨⟨#[]⟩,0,[],0,⟨#[]⟩,0⟩,false)
 else
  bif (decide (b_0.fCount≥10000)) then
  some (⟨⟨#[]⟩,0,[],0,⟨#[]⟩,0⟩,false)
  else
  (z2 b_0).bind fun r2=>
  bif (r_1.fKind == 1) then
   bif (decide ((b_0.fChain.size+r0.1.size)≤9223372036854775807)) then
   (z5 (b_0.fChain++r0.1)).bind fun r3=>
   some (⟨r_1.fText,0,r2.fThings,r2.fLast,r3,(w64 (r2.fCount+1))⟩,true)
   else none
  else
   bif (r_1.fKind == 2) then
   bif (decide ((b_0.fChain.size+r0.1.size)≤9223372036854775807)) then
   (z5 (b_0.fChain++r0.1)).bind fun r4=>
   some (⟨r2.fWord,r_1.fNum,r2.fThings,r2.fLast,r4,(w64 (r2.fCount+1))⟩,true)
   else none
   else
   bif (r_1.fKind == 3) then
    (z3 r2 r_1.fThing).bind fun r5=>
    bif (!r5.1) then
    some (⟨⟨#[]⟩,0,[],0,⟨#[]⟩,0⟩,false)
    else
    bif (decide ((b_0.fChain.size+r0.1.size)≤9223372036854775807)) then
    (z5 (b_0.fChain++r0.1)).bind fun r6=>
    some (⟨r5.2.fWord,r5.2.fTries,r5.2.fThings,r5.2.fLast,r6,(w64 (r5.2.fCount+1))⟩,true)
    else none
   else
    bif (r_1.fKind == 4) then
    (z4 b_0 r_1.fNum).bind fun r7=>
    bif (decide (r7<0)) then
     some (⟨⟨#[]⟩,0,[],0,⟨#[]⟩,0⟩,false)
    else
     bif ((decide (0≤r7)) && (decide (r7≤(b_0.fThings.length:Int)))) then
     bif (decide ((((b_0.fThings.take r7.toNat).drop 0).length*48)≤140737488355328)) then
     bif ((decide (0≤(w64 (r7+1)))) && (decide ((w64 (r7+1))≤(b_0.fThings.length:Int)))) then
     bif (decide (((((b_0.fThings.take r7.toNat).drop 0).length+((b_0.fThings.take b_0.fThings.length).drop (w64 (r7+1)).toNat).length)*48)≤140737488355328)) then
     bif (decide ((b_0.fChain.size+r0.1.size)≤9223372036854775807)) then
     (z5 (b_0.fChain++r0.1)).bind fun r8=>
     some (⟨r2.fWord,r2.fTries,(((b_0.fThings.take r7.toNat).drop 0)++((b_0.fThings.take b_0.fThings.length).drop (w64 (r7+1)).toNat)),r2.fLast,r8,(w64 (r2.fCount+1))⟩,true)
     else none
     else none
     else none
     else none
     else none
    else
    bif (decide ((b_0.fChain.size+r0.1.size)≤9223372036854775807)) then
    (z5 (b_0.fChain++r0.1)).bind fun r9=>
    some (⟨r2.fWord,r2.fTries,r2.fThings,r2.fLast,r9,(w64 (r2.fCount+1))⟩,true)
    else none
noncomputable def He:Ep:=Dx Tj Ya Wj Ak Mc Hl
theorem NAC:Tells ctx PP 33 cv50 cv51 (fun a=>He a.1 a.2):=fn_ok0 (hc MAB (hc O5 (hc OAB (hc SAB (hc Nv (hc KAC hl_nil)))))) Tryd.func33 ((fun z0 z1 z2 z3 z4 z5 a=>by kernel_rfl:∀ z0 z1 z2 z3 z4 z5,EntryIs0 ctx PP 33 [] [(82,NAB z0),(36,Gv z1),(83,PAB z2),(84,TAB z3),(85,Ov z4),(59,LAC z5)] cv50 cv51 fun a=>Dx z0 z1 z2 z3 z4 z5 a.1 a.2) Tj Ya Wj Ak Mc Hl)
noncomputable def J6 {γ:Type} (F:Ep):Hd ctx γ:=hdl cv50.dec (fun a=>F a.1 a.2) cv51.enc
abbrev Fp:=SBook→SBook→Option Bool
inductive Il where
 | c0 (i_5:Int) (a_2:SBook) (b_3:SBook)
noncomputable def L6:Il→LI
 | .c0 i_5 a_2 b_3=>(tdo Tryd.f35 464,[(2,[.one (.ptr 128 0)]),(3,[.one (.ptr 192 0)]),(5,[.one (.int .i64 i_5)])],[(128,.var [.str a_2.fWord,.int .i64 a_2.fTries,.rsl 27 a_2.fThings,.int .i64 a_2.fLast,.str a_2.fChain,.int .i64 a_2.fCount]),(192,.var [.str b_3.fWord,.int .i64 b_3.fTries,.rsl 27 b_3.fThings,.int .i64 b_3.fLast,.str b_3.fChain,.int .i64 b_3.fCount])])
noncomputable def Gx (k:Il→Option Bool) (a_0:SBook) (b_1:SBook):Option Bool:=
 bif (!((ByteArray.toList a_0.fWord) == (ByteArray.toList b_1.fWord))) then
 some false
 else
 bif (a_0.fTries != b_1.fTries) then
  some false
 else
  bif (a_0.fLast != b_1.fLast) then
  some false
  else
  bif (!((ByteArray.toList a_0.fChain) == (ByteArray.toList b_1.fChain))) then
   some false
  else
   bif (a_0.fCount != b_1.fCount) then
   some false
   else
   bif ((a_0.fThings.length:Int) != (b_1.fThings.length:Int)) then
    some false
   else
    k (.c0 0 a_0 b_1)
noncomputable def Gp (k:Il→Option Bool):Il→Option Bool
 | .c0 i_5 a_2 b_3=>
 bif (decide (i_5<(a_2.fThings.length:Int))) then
  bif ((decide (0≤i_5)) && (decide (i_5<(a_2.fThings.length:Int)))) then
  bif ((decide (0≤i_5)) && (decide (i_5<(b_3.fThings.length:Int)))) then
  bif (!(((a_2.fThings.getD i_5.toNat (⟨0,0,false,false,false,false,⟨#[]⟩,0⟩:SThing)).fId == (b_3.fThings.getD i_5.toNat (⟨0,0,false,false,false,false,⟨#[]⟩,0⟩:SThing)).fId) && (((a_2.fThings.getD i_5.toNat (⟨0,0,false,false,false,false,⟨#[]⟩,0⟩:SThing)).fKind == (b_3.fThings.getD i_5.toNat (⟨0,0,false,false,false,false,⟨#[]⟩,0⟩:SThing)).fKind) && (((a_2.fThings.getD i_5.toNat (⟨0,0,false,false,false,false,⟨#[]⟩,0⟩:SThing)).fHidden == (b_3.fThings.getD i_5.toNat (⟨0,0,false,false,false,false,⟨#[]⟩,0⟩:SThing)).fHidden) && (((a_2.fThings.getD i_5.toNat (⟨0,0,false,false,false,false,⟨#[]⟩,0⟩:SThing)).fFixed == (b_3.fThings.getD i_5.toNat (⟨0,0,false,false,false,false,⟨#[]⟩,0⟩:SThing)).fFixed) && (((a_2.fThings.getD i_5.toNat (⟨0,0,false,false,false,false,⟨#[]⟩,0⟩:SThing)).fSigns == (b_3.fThings.getD i_5.toNat (⟨0,0,false,false,false,false,⟨#[]⟩,0⟩:SThing)).fSigns) && (((a_2.fThings.getD i_5.toNat (⟨0,0,false,false,false,false,⟨#[]⟩,0⟩:SThing)).fWraps == (b_3.fThings.getD i_5.toNat (⟨0,0,false,false,false,false,⟨#[]⟩,0⟩:SThing)).fWraps) && (((ByteArray.toList (a_2.fThings.getD i_5.toNat (⟨0,0,false,false,false,false,⟨#[]⟩,0⟩:SThing)).fValue) == (ByteArray.toList (b_3.fThings.getD i_5.toNat (⟨0,0,false,false,false,false,⟨#[]⟩,0⟩:SThing)).fValue)) && (((a_2.fThings.getD i_5.toNat (⟨0,0,false,false,false,false,⟨#[]⟩,0⟩:SThing)).fNext == (b_3.fThings.getD i_5.toNat (⟨0,0,false,false,false,false,⟨#[]⟩,0⟩:SThing)).fNext) && true))))))))) then
  some false
  else
  k (.c0 (w64 (i_5+1)) a_2 b_3)
  else none
  else none
 else
  some true
noncomputable def Jl:Nat→Il→Option Bool
 | 0,_=>none
 | m+1,s=>Gp (Jl m) s
noncomputable def Ie:Fp:=Gx (Jl gas)
theorem OAC:Tells ctx PP 35 cv57 cv1 (fun a=>Ie a.1 a.2):=
 have b:CutIs ctx PP 35 Tryd.f35 [] [] cv1 L6 (Gp):=fun _ s=>by cases s <;> kernel_rfl
 have e:EntryIs ctx PP 35 [] [] cv57 cv1 L6 (fun k a=>Gx k a.1 a.2):=fun _ a=>by kernel_rfl
 fn_ok hl_nil Tryd.func35 (fun s s' h=>by cases s;cases s';(repeat cases ‹SBook›);cases h;rfl) (fun _=>rfl) (fun _ _=>rfl) b e gas
noncomputable def O6 {γ:Type} (F:Fp):Hd ctx γ:=hdl cv57.dec (fun a=>F a.1 a.2) cv1.enc
abbrev Ip:=SBook→Int→Option (SThing×Bool)
noncomputable def Ox (z0:Xj) (b_0:SBook) (id_1:Int):Option (SThing×Bool):=
 (z0 b_0 id_1).bind fun r0=>
 bif (decide (r0<0)) then
 some (⟨0,0,false,false,false,false,⟨#[]⟩,0⟩,false)
 else
 bif ((decide (0≤r0)) && (decide (r0<(b_0.fThings.length:Int)))) then
 some ((b_0.fThings.getD r0.toNat (⟨0,0,false,false,false,false,⟨#[]⟩,0⟩:SThing)),true)
 else none
noncomputable def Oc:Ip:=Ox Mc
theorem PAC:Tells ctx PP 38 cv46 cv18 (fun a=>Oc a.1 a.2):=fn_ok0 (hc Nv hl_nil) Tryd.func38 ((fun z0 a=>by kernel_rfl:∀ z0,EntryIs0 ctx PP 38 [] [(85,Ov z0)] cv46 cv18 fun a=>Ox z0 a.1 a.2) Mc)
noncomputable def P6 {γ:Type} (F:Ip):Hd ctx γ:=hdl cv46.dec (fun a=>F a.1 a.2) cv18.enc
abbrev U6:=Unit→Option Bool
inductive Ll where
 | c0 (v_9:Int) (r_3c0:ByteArray) (r_3c1:Int) (r_3c3:Int) (r_3c4:ByteArray) (r_3c5:Int) (r_4:SRec) (a_5c0:ByteArray) (a_5c1:Int) (a_5c3:Int) (a_5c4:ByteArray) (a_5c5:Int) (r_3r2:(List SThing)) (a_5r2:(List SThing))
noncomputable def V6:Ll→LI
 | .c0 v_9 r_3c0 r_3c1 r_3c3 r_3c4 r_3c5 r_4 a_5c0 a_5c1 a_5c3 a_5c4 a_5c5 r_3r2 a_5r2=>(tdo Tryd.f6 16336,[(3,[.one (.ptr 192 0)]),(4,[.one (.ptr 256 0)]),(5,[.one (.ptr 320 0)]),(9,[.one (.int .i64 v_9)])],[(192,.var [.str r_3c0,.int .i64 r_3c1,.own 1012290,.int .i64 r_3c3,.str r_3c4,.int .i64 r_3c5]),(256,.var [.int .i64 r_4.fKind,.str r_4.fText,.int .i64 r_4.fNum,.int .i64 r_4.fThing.fId,.int .i64 r_4.fThing.fKind,.bool r_4.fThing.fHidden,.bool r_4.fThing.fFixed,.bool r_4.fThing.fSigns,.bool r_4.fThing.fWraps,.str r_4.fThing.fValue,.int .i64 r_4.fThing.fNext]),(320,.var [.str a_5c0,.int .i64 a_5c1,.own 1020482,.int .i64 a_5c3,.str a_5c4,.int .i64 a_5c5]),(1012290,.sl 27 r_3r2),(1020482,.sl 27 a_5r2)])
noncomputable def Px (z0:Xl) (z1:Ko) (z2:Ep) (z3:Fg) (z4:Fp) (z5:Uj) (z6:Yf) (z7:Ip) (k:Ll→Option Bool) (t_0:Unit):Option Bool:=
 (z0 ()).bind fun r0=>
 bif r0 then
 some true
 else
 (z1 ()).bind fun r1=>
 (z2 r1.1 r1.2).bind fun r2=>
 (z3 r1.1 r1.2).bind fun r3=>
 bif (!(r2.2 == r3.2)) then
  some false
 else
  (z4 r2.1 r3.1).bind fun r4=>
  bif (!r4) then
  some false
  else
  (z5 r1.1).bind fun r5=>
  (z6 r1.1).bind fun r6=>
  bif (!(r5 == r6)) then
   some false
  else
   bif (!r2.2) then
   some (r2.1.fCount == 0)
   else
   k (.c0 0 r1.1.fWord r1.1.fTries r1.1.fLast r1.1.fChain r1.1.fCount r1.2 r2.1.fWord r2.1.fTries r2.1.fLast r2.1.fChain r2.1.fCount r1.1.fThings r2.1.fThings)
noncomputable def Jp (z0:Xl) (z1:Ko) (z2:Ep) (z3:Fg) (z4:Fp) (z5:Uj) (z6:Yf) (z7:Ip) (k:Ll→Option Bool):Ll→Option Bool
 | .c0 v_9 r_3c0 r_3c1 r_3c3 r_3c4 r_3c5 r_4 a_5c0 a_5c1 a_5c3 a_5c4 a_5c5 r_3r2 a_5r2=>
 bif (decide (v_9<(r_3r2.length:Int))) then
  bif ((decide (0≤v_9)) && (decide (v_9<(r_3r2.length:Int)))) then
  (z7 ⟨a_5c0,a_5c1,a_5r2,a_5c3,a_5c4,a_5c5⟩ (r_3r2.getD v_9.toNat (⟨0,0,false,false,false,false,⟨#[]⟩,0⟩:SThing)).fId).bind fun r0=>
  bif (!r0.2) then
  bif (r_4.fKind != 4) then
   some false
  else
   bif (r_4.fNum != (r_3r2.getD v_9.toNat (⟨0,0,false,false,false,false,⟨#[]⟩,0⟩:SThing)).fId) then
   some false
   else
   bif r0.2 then
    bif (r0.1.fKind != (r_3r2.getD v_9.toNat (⟨0,0,false,false,false,false,⟨#[]⟩,0⟩:SThing)).fKind) then
    some false
    else
    bif (!((ByteArray.toList r0.1.fValue) == (ByteArray.toList (r_3r2.getD v_9.toNat (⟨0,0,false,false,false,false,⟨#[]⟩,0⟩:SThing)).fValue))) then
     some false
    else
     bif (r_3r2.getD v_9.toNat (⟨0,0,false,false,false,false,⟨#[]⟩,0⟩:SThing)).fHidden then
     bif (!r0.1.fHidden) then
      some false
     else
      bif (r_3r2.getD v_9.toNat (⟨0,0,false,false,false,false,⟨#[]⟩,0⟩:SThing)).fFixed then
      bif (!r0.1.fFixed) then
       some false
      else
       bif (decide (r0.1.fNext<(r_3r2.getD v_9.toNat (⟨0,0,false,false,false,false,⟨#[]⟩,0⟩:SThing)).fNext)) then
       some false
       else
       k (.c0 (w64 (v_9+1)) r_3c0 r_3c1 r_3c3 r_3c4 r_3c5 r_4 a_5c0 a_5c1 a_5c3 a_5c4 a_5c5 r_3r2 a_5r2)
      else
      bif (decide (r0.1.fNext<(r_3r2.getD v_9.toNat (⟨0,0,false,false,false,false,⟨#[]⟩,0⟩:SThing)).fNext)) then
       some false
      else
       k (.c0 (w64 (v_9+1)) r_3c0 r_3c1 r_3c3 r_3c4 r_3c5 r_4 a_5c0 a_5c1 a_5c3 a_5c4 a_5c5 r_3r2 a_5r2)
     else
     bif (r_3r2.getD v_9.toNat (⟨0,0,false,false,false,false,⟨#[]⟩,0⟩:SThing)).fFixed then
      bif (!r0.1.fFixed) then
      some false
      else
      bif (decide (r0.1.fNext<(r_3r2.getD v_9.toNat (⟨0,0,false,false,false,false,⟨#[]⟩,0⟩:SThing)).fNext)) then
       some false
      else
       k (.c0 (w64 (v_9+1)) r_3c0 r_3c1 r_3c3 r_3c4 r_3c5 r_4 a_5c0 a_5c1 a_5c3 a_5c4 a_5c5 r_3r2 a_5r2)
     else
      bif (decide (r0.1.fNext<(r_3r2.getD v_9.toNat (⟨0,0,false,false,false,false,⟨#[]⟩,0⟩:SThing)).fNext)) then
      some false
      else
      k (.c0 (w64 (v_9+1)) r_3c0 r_3c1 r_3c3 r_3c4 r_3c5 r_4 a_5c0 a_5c1 a_5c3 a_5c4 a_5c5 r_3r2 a_5r2)
   else
    k (.c0 (w64 (v_9+1)) r_3c0 r_3c1 r_3c3 r_3c4 r_3c5 r_4 a_5c0 a_5c1 a_5c3 a_5c4 a_5c5 r_3r2 a_5r2)
  else
  bif r0.2 then
   bif (r0.1.fKind != (r_3r2.getD v_9.toNat (⟨0,0,false,false,false,false,⟨#[]⟩,0⟩:SThing)).fKind) then
   some false
   else
   bif (!((ByteArray.toList r0.1.fValue) == (ByteArray.toList (r_3r2.getD v_9.toNat (⟨0,0,false,false,false,false,⟨#[]⟩,0⟩:SThing)).fValue))) then
    some false
   else
    bif (r_3r2.getD v_9.toNat (⟨0,0,false,false,false,false,⟨#[]⟩,0⟩:SThing)).fHidden then
    bif (!r0.1.fHidden) then
     some false
    else
     bif (r_3r2.getD v_9.toNat (⟨0,0,false,false,false,false,⟨#[]⟩,0⟩:SThing)).fFixed then
     bif (!r0.1.fFixed) then
      some false
     else
      bif (decide (r0.1.fNext<(r_3r2.getD v_9.toNat (⟨0,0,false,false,false,false,⟨#[]⟩,0⟩:SThing)).fNext)) then
      some false
      else
      k (.c0 (w64 (v_9+1)) r_3c0 r_3c1 r_3c3 r_3c4 r_3c5 r_4 a_5c0 a_5c1 a_5c3 a_5c4 a_5c5 r_3r2 a_5r2)
     else
     bif (decide (r0.1.fNext<(r_3r2.getD v_9.toNat (⟨0,0,false,false,false,false,⟨#[]⟩,0⟩:SThing)).fNext)) then
      some false
     else
      k (.c0 (w64 (v_9+1)) r_3c0 r_3c1 r_3c3 r_3c4 r_3c5 r_4 a_5c0 a_5c1 a_5c3 a_5c4 a_5c5 r_3r2 a_5r2)
    else
    bif (r_3r2.getD v_9.toNat (⟨0,0,false,false,false,false,⟨#[]⟩,0⟩:SThing)).fFixed then
     bif (!r0.1.fFixed) then
     some false
     else
     bif (decide (r0.1.fNext<(r_3r2.getD v_9.toNat (⟨0,0,false,false,false,false,⟨#[]⟩,0⟩:SThing)).fNext)) then
      some false
     else
      k (.c0 (w64 (v_9+1)) r_3c0 r_3c1 r_3c3 r_3c4 r_3c5 r_4 a_5c0 a_5c1 a_5c3 a_5c4 a_5c5 r_3r2 a_5r2)
    else
     bif (decide (r0.1.fNext<(r_3r2.getD v_9.toNat (⟨0,0,false,false,false,false,⟨#[]⟩,0⟩:SThing)).fNext)) then
     some false
     else
     k (.c0 (w64 (v_9+1)) r_3c0 r_3c1 r_3c3 r_3c4 r_3c5 r_4 a_5c0 a_5c1 a_5c3 a_5c4 a_5c5 r_3r2 a_5r2)
  else
   k (.c0 (w64 (v_9+1)) r_3c0 r_3c1 r_3c3 r_3c4 r_3c5 r_4 a_5c0 a_5c1 a_5c3 a_5c4 a_5c5 r_3r2 a_5r2)
  else none
 else
  (z5 ⟨a_5c0,a_5c1,a_5r2,a_5c3,a_5c4,a_5c5⟩).bind fun r1=>
  bif r1 then
  bif (a_5c5 == (w64 (r_3c5+1))) then
   bif (decide (a_5c3≥r_3c3)) then
   some ((a_5c4.size:Int) == 32)
   else
   some false
  else
   some false
  else
  some false
noncomputable def Nl:Nat→Ll→Option Bool
 | 0,_=>none
 | m+1,s=>Jp Gf Ae He Fa Ie Ya Ea Oc (Nl m) s
noncomputable def laws_FnEnters:U6:=Px Gf Ae He Fa Ie Ya Ea Oc (Nl gas)
theorem ok_laws_FnEnters:Tells ctx PP 6 cv0 cv1 (fun a=>laws_FnEnters a):=
 have b:∀ z0 z1 z2 z3 z4 z5 z6 z7,CutIs ctx PP 6 Tryd.f6 [] [(9,Qy z0),(32,V4 z1),(33,J6 z2),(34,Ho z3),(35,O6 z4),(36,Gv z5),(37,Wn z6),(38,P6 z7)] cv1 V6 (Jp z0 z1 z2 z3 z4 z5 z6 z7):=fun z0 z1 z2 z3 z4 z5 z6 z7 _ s=>by cases s <;> kernel_rfl
 have e:∀ z0 z1 z2 z3 z4 z5 z6 z7,EntryIs ctx PP 6 [] [(9,Qy z0),(32,V4 z1),(33,J6 z2),(34,Ho z3),(35,O6 z4),(36,Gv z5),(37,Wn z6),(38,P6 z7)] cv0 cv1 V6 (fun k a=>Px z0 z1 z2 z3 z4 z5 z6 z7 k a):=fun z0 z1 z2 z3 z4 z5 z6 z7 _ a=>by kernel_rfl
 fn_ok (hc U9 (hc EAB (hc NAC (hc I4 (hc OAC (hc O5 (hc Y1 (hc PAC hl_nil)))))))) Tryd.func6 (fun s s' h=>by cases s;cases s';(repeat cases ‹SRec›);(repeat cases ‹SThing›);cases h;rfl) (fun _=>rfl) (fun _ _=>rfl) (b Gf Ae He Fa Ie Ya Ea Oc) (e Gf Ae He Fa Ie Ya Ea Oc) gas
noncomputable def JAH {γ:Type} (F:U6):Hd ctx γ:=hdl cv0.dec (fun a=>F a) cv1.enc
end Go.Proofs.YtjfkbidckphneaaDoor.G

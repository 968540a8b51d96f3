/- Functions of the program, told by plain functions: part 1 of 1. -/
import Derived.Test.YtjfkbidckphneaaDoorCtx
namespace Go.Proofs.YtjfkbidckphneaaDoor.G
open Go Go.Ev
set_option linter.unusedVariables false
set_option linter.unusedSectionVars false
variable [PC]
abbrev Vq:=Unit→Option Bool
noncomputable def Kz (code_0:Unit):Option Bool:=
 some (decide ((codeL.length:Int) > 1048576))
noncomputable def Gm:Vq:=Kz
theorem WAA:Tells ctx PP 9 cv0 cv1 (fun a=>Gm a):=fn_ok0 hl_nil Tryd.func9 (fun a=>by kernel_rfl:EntryIs0 ctx PP 9 [] [] cv0 cv1 fun a=>Kz a)
noncomputable def XAA {γ:Type} (F:Vq):Hd ctx γ:=hdl cv0.dec (fun a=>F a) cv1.enc
abbrev Df:=Unit→Option SL01Cur
inductive Bh where
 | c0 (h_3:Int) (i_4:Int)
noncomputable def Nz:Bh→LI
 | .c0 h_3 i_4=>(tdo Tryd.f53 464,[(0,[.one (.csl)]),(3,[.one (.int .i64 h_3)]),(4,[.one (.int .i64 i_4)])],[])
noncomputable def Wq (k:Bh→Option SL01Cur) (code_0:Unit):Option SL01Cur:=
 k (.c0 (w64 (27401+(codeL.length:Int))) 0)
noncomputable def Jm (k:Bh→Option SL01Cur):Bh→Option SL01Cur
 | .c0 h_3 i_4=>
 bif (decide (i_4<(codeL.length:Int))) then
  bif (decide (i_4<4000)) then
  bif ((decide (0≤i_4)) && (decide (i_4<(codeL.length:Int)))) then
  bif (Nat.blt i_4.toNat codeL.length) then
  k (.c0 (w64 (((BitVec.toNat ((BitVec.ofInt (IntKind.bits IntKind.i64) (w64 ((w64 ((w64 (h_3*131))+(w64 (codeL.getD i_4.toNat 0))))+7))) &&& (BitVec.ofInt (IntKind.bits IntKind.i64) 1073741823))):Nat):Int)) (w64 (i_4+1)))
  else none
  else none
  else
  some ⟨(),0,h_3⟩
 else
  some ⟨(),0,h_3⟩
noncomputable def Dh:Nat→Bh→Option SL01Cur
 | 0,_=>none
 | m+1,s=>Jm (Dh m) s
noncomputable def Ba:Df:=Wq (Dh gas)
theorem Xq:Tells ctx PP 53 cv0 cv2 (fun a=>Ba a):=
 have b:CutIs ctx PP 53 Tryd.f53 [] [] cv2 Nz (Jm):=fun _ s=>by cases s <;> kernel_rfl
 have e:EntryIs ctx PP 53 [] [] cv0 cv2 Nz (fun k a=>Wq k a):=fun _ a=>by kernel_rfl
 fn_ok hl_nil Tryd.func53 (fun s s' h=>by cases s;cases s';cases h;rfl) (fun _=>rfl) (fun _ _=>rfl) b e gas
noncomputable def Lm {γ:Type} (F:Df):Hd ctx γ:=hdl cv0.dec (fun a=>F a) cv2.enc
abbrev Yq:=Option (List Int)
noncomputable def Oz  : Option (List Int):=
 some [1779033703,3144134277,1013904242,2773480762,1359893119,2600822924,528734635,1541459225]
noncomputable def Om:Yq:=Oz
theorem YAA:Tells ctx PP 140 cv12 cv19 (fun _=>Om):=fn_ok0 hl_nil Tryd.func140 (fun _=>by kernel_rfl:EntryIs0 ctx PP 140 [] [] cv12 cv19 fun _=>Oz)
noncomputable def ZAA {γ:Type} (F:Yq):Hd ctx γ:=hdl cv12.dec (fun _=>F) cv19.enc
abbrev Oc:=(List Int)→Option ByteArray
inductive Eh where
 | c0 (words_0:(List Int)) (i_4:Int) (out_3:(List Int))
noncomputable def Pz:Eh→LI
 | .c0 words_0 i_4 out_3=>(tdo Tryd.f139 464,[(0,[.one (.rsl 114 words_0)]),(3,[.one (.own 240)]),(4,[.one (.int .i64 i_4)])],[(240,.sl 5 out_3)])
noncomputable def Qz (k:Eh→Option ByteArray) (words_0:(List Int)):Option ByteArray:=
 k (.c0 words_0 0 [])
noncomputable def Pm (k:Eh→Option ByteArray):Eh→Option ByteArray
 | .c0 words_0 i_4 out_3=>
 bif (decide (i_4<(words_0.length:Int))) then
  bif ((decide (0≤i_4)) && (decide (i_4<(words_0.length:Int)))) then
  bif (decide (((out_3.length+4)*1)≤140737488355328)) then
  k (.c0 words_0 (w64 (i_4+1)) (out_3++[(w8 (w32 ((words_0.getD i_4.toNat 0).tdiv 16777216))),(w8 ((w32 ((words_0.getD i_4.toNat 0).tdiv 65536)).tmod 256)),(w8 ((w32 ((words_0.getD i_4.toNat 0).tdiv 256)).tmod 256)),(w8 ((words_0.getD i_4.toNat 0).tmod 256))]))
  else none
  else none
 else
  some (ofBytes out_3)
noncomputable def Fh:Nat→Eh→Option ByteArray
 | 0,_=>none
 | m+1,s=>Pm (Fh m) s
noncomputable def VZ:Oc:=Qz (Fh gas)
theorem Zq:Tells ctx PP 139 cv20 cv9 (fun a=>VZ a):=
 have b:CutIs ctx PP 139 Tryd.f139 [] [] cv9 Pz (Pm):=fun _ s=>by cases s <;> kernel_rfl
 have e:EntryIs ctx PP 139 [] [] cv20 cv9 Pz (fun k a=>Qz k a):=fun _ a=>by kernel_rfl
 fn_ok hl_nil Tryd.func139 (fun s s' h=>by cases s;cases s';cases h;rfl) (fun _=>rfl) (fun _ _=>rfl) b e gas
noncomputable def Gh {γ:Type} (F:Oc):Hd ctx γ:=hdl cv20.dec (fun a=>F a) cv9.enc
abbrev Ar:=Option SHasher
noncomputable def Hr (z0:Yq) (z1:Oc)  : Option SHasher:=
 z0.bind fun r0=>
 (z1 r0).bind fun r1=>
 some ⟨r1,⟨#[]⟩,0⟩
noncomputable def Ih:Ar:=Hr Om VZ
theorem AAB:Tells ctx PP 112 cv12 cv21 (fun _=>Ih):=fn_ok0 (hc YAA (hc Zq hl_nil)) Tryd.func112 ((fun z0 z1 _=>by kernel_rfl:∀ z0 z1,EntryIs0 ctx PP 112 [] [(140,ZAA z0),(139,Gh z1)] cv12 cv21 fun _=>Hr z0 z1) Om VZ)
noncomputable def BAB {γ:Type} (F:Ar):Hd ctx γ:=hdl cv12.dec (fun _=>F) cv21.enc
abbrev Qc:=Int→Int→Int→Option Bool
noncomputable def Rz (x_0:Int) (least_1:Int) (most_2:Int):Option Bool:=
 bif (decide (x_0≥least_1)) then
 some (decide (x_0≤most_2))
 else
 some false
noncomputable def WZ:Qc:=Rz
theorem Qm:Tells ctx PP 63 cv22 cv1 (fun a=>WZ a.1 a.2.1 a.2.2):=fn_ok0 hl_nil Tryd.func63 (fun a=>by kernel_rfl:EntryIs0 ctx PP 63 [] [] cv22 cv1 fun a=>Rz a.1 a.2.1 a.2.2)
noncomputable def Jh {γ:Type} (F:Qc):Hd ctx γ:=hdl cv22.dec (fun a=>F a.1 a.2.1 a.2.2) cv1.enc
abbrev Ef:=SHasher→Option Bool
noncomputable def Ir (z0:Qc) (h_0:SHasher):Option Bool:=
 bif ((h_0.fState.size:Int) == 32) then
 bif (decide ((h_0.fRest.size:Int)<64)) then
  (z0 h_0.fCount 0 1000000000).bind fun r0=>
  bif r0 then
  some ((h_0.fCount.tmod 64) == (h_0.fRest.size:Int))
  else
  some false
 else
  some false
 else
 some false
noncomputable def LZ:Ef:=Ir WZ
theorem Sz:Tells ctx PP 135 cv21 cv1 (fun a=>LZ a):=fn_ok0 (hc Qm hl_nil) Tryd.func135 ((fun z0 a=>by kernel_rfl:∀ z0,EntryIs0 ctx PP 135 [] [(63,Jh z0)] cv21 cv1 fun a=>Ir z0 a) WZ)
noncomputable def Sm {γ:Type} (F:Ef):Hd ctx γ:=hdl cv21.dec (fun a=>F a) cv1.enc
abbrev Um:=ByteArray→Int→Option Int
noncomputable def Jr (s_0:ByteArray) (at_1:Int):Option Int:=
 bif ((decide (0≤at_1)) && (decide (at_1<(s_0.size:Int)))) then
 bif ((decide (0≤(w64 (at_1+1)))) && (decide ((w64 (at_1+1))<(s_0.size:Int)))) then
 bif ((decide (0≤(w64 (at_1+2)))) && (decide ((w64 (at_1+2))<(s_0.size:Int)))) then
 bif ((decide (0≤(w64 (at_1+3)))) && (decide ((w64 (at_1+3))<(s_0.size:Int)))) then
 some (w32 ((w32 ((w32 ((w32 ((w32 (bt s_0 at_1))*16777216))+(w32 ((w32 (bt s_0 (w64 (at_1+1))))*65536))))+(w32 ((w32 (bt s_0 (w64 (at_1+2))))*256))))+(w32 (bt s_0 (w64 (at_1+3))))))
 else none
 else none
 else none
 else none
noncomputable def Tc:Um:=Jr
theorem CAB:Tells ctx PP 155 cv23 cv15 (fun a=>Tc a.1 a.2):=fn_ok0 hl_nil Tryd.func155 (fun a=>by kernel_rfl:EntryIs0 ctx PP 155 [] [] cv23 cv15 fun a=>Jr a.1 a.2)
noncomputable def Tz {γ:Type} (F:Um):Hd ctx γ:=hdl cv23.dec (fun a=>F a.1 a.2) cv15.enc
abbrev Dc:=ByteArray→Option (List Int)
inductive Lh where
 | c0 (s_0:ByteArray) (i_4:Int) (out_3:(List Int))
noncomputable def Uz:Lh→LI
 | .c0 s_0 i_4 out_3=>(tdo Tryd.f136 464,[(0,[.one (.str s_0)]),(3,[.one (.own 240)]),(4,[.one (.int .i64 i_4)])],[(240,.sl 114 out_3)])
noncomputable def Vz (z0:Um) (k:Lh→Option (List Int)) (s_0:ByteArray):Option (List Int):=
 k (.c0 s_0 0 [])
noncomputable def Vm (z0:Um) (k:Lh→Option (List Int)):Lh→Option (List Int)
 | .c0 s_0 i_4 out_3=>
 bif (decide ((w64 (i_4+4))≤(s_0.size:Int))) then
  (z0 s_0 i_4).bind fun r0=>
  bif (decide (((out_3.length+1)*4)≤140737488355328)) then
  k (.c0 s_0 (w64 (i_4+4)) (out_3++[r0]))
  else none
 else
  some out_3
noncomputable def Nh:Nat→Lh→Option (List Int)
 | 0,_=>none
 | m+1,s=>Vm Tc (Nh m) s
noncomputable def EZ:Dc:=Vz Tc (Nh gas)
theorem Kr:Tells ctx PP 136 cv9 cv19 (fun a=>EZ a):=
 have b:∀ z0,CutIs ctx PP 136 Tryd.f136 [] [(155,Tz z0)] cv19 Uz (Vm z0):=fun z0 _ s=>by cases s <;> kernel_rfl
 have e:∀ z0,EntryIs ctx PP 136 [] [(155,Tz z0)] cv9 cv19 Uz (fun k a=>Vz z0 k a):=fun z0 _ a=>by kernel_rfl
 fn_ok (hc CAB hl_nil) Tryd.func136 (fun s s' h=>by cases s;cases s';cases h;rfl) (fun _=>rfl) (fun _ _=>rfl) (b Tc) (e Tc) gas
noncomputable def Gf {γ:Type} (F:Dc):Hd ctx γ:=hdl cv9.dec (fun a=>F a) cv19.enc
abbrev Hf:=Option (List Int)
noncomputable def Xz  : Option (List Int):=
 some [1116352408,1899447441,3049323471,3921009573,961987163,1508970993,2453635748,2870763221,3624381080,310598401,607225278,1426881987,1925078388,2162078206,2614888103,3248222580,3835390401,4022224774,264347078,604807628,770255983,1249150122,1555081692,1996064986,2554220882,2821834349,2952996808,3210313671,3336571891,3584528711,113926993,338241895,666307205,773529912,1294757372,1396182291,1695183700,1986661051,2177026350,2456956037,2730485921,2820302411,3259730800,3345764771,3516065817,3600352804,4094571909,275423344,430227734,506948616,659060556,883997877,958139571,1322822218,1537002063,1747873779,1955562222,2024104815,2227730452,2361852424,2428436474,2756734187,3204031479,3329325298]
noncomputable def Va:Hf:=Xz
theorem Yz:Tells ctx PP 137 cv12 cv19 (fun _=>Va):=fn_ok0 hl_nil Tryd.func137 (fun _=>by kernel_rfl:EntryIs0 ctx PP 137 [] [] cv12 cv19 fun _=>Xz)
noncomputable def Xm {γ:Type} (F:Hf):Hd ctx γ:=hdl cv12.dec (fun _=>F) cv19.enc
abbrev Lr:=Int→Int→Int→Option Int
noncomputable def Nr (x_0:Int) (low_1:Int) (high_2:Int):Option Int:=
 bif (!(low_1 == 0)) then
 bif (!(low_1 == 0)) then
 some (w32 ((w32 (x_0.tdiv low_1))+(w32 ((x_0.tmod low_1)*high_2))))
 else none
 else none
noncomputable def Oh:Lr:=Nr
theorem DAB:Tells ctx PP 164 cv24 cv15 (fun a=>Oh a.1 a.2.1 a.2.2):=fn_ok0 hl_nil Tryd.func164 (fun a=>by kernel_rfl:EntryIs0 ctx PP 164 [] [] cv24 cv15 fun a=>Nr a.1 a.2.1 a.2.2)
noncomputable def EAB {γ:Type} (F:Lr):Hd ctx γ:=hdl cv24.dec (fun a=>F a.1 a.2.1 a.2.2) cv15.enc
abbrev Ym:=Int→Int→Int→Int→Bool→Option Int
noncomputable def Jf (z0:Lr) (x_0:Int) (a_1:Int) (b_2:Int) (c_3:Int) (last_4:Bool):Option Int:=
 bif (!(a_1 == 0)) then
 (z0 x_0 a_1 (w32 ((w32 ((2147483648:Int).tdiv a_1))*2))).bind fun r0=>
 bif (!(b_2 == 0)) then
 (z0 x_0 b_2 (w32 ((w32 ((2147483648:Int).tdiv b_2))*2))).bind fun r1=>
 bif (!(c_3 == 0)) then
 bif (!last_4) then
 bif (!(c_3 == 0)) then
 (z0 x_0 c_3 (w32 ((w32 ((2147483648:Int).tdiv c_3))*2))).bind fun r2=>
 some (w32 (((BitVec.toNat ((BitVec.ofInt (IntKind.bits IntKind.u32) (w32 (((BitVec.toNat ((BitVec.ofInt (IntKind.bits IntKind.u32) r0) ^^^ (BitVec.ofInt (IntKind.bits IntKind.u32) r1))):Nat):Int))) ^^^ (BitVec.ofInt (IntKind.bits IntKind.u32) r2))):Nat):Int))
 else none
 else
 some (w32 (((BitVec.toNat ((BitVec.ofInt (IntKind.bits IntKind.u32) (w32 (((BitVec.toNat ((BitVec.ofInt (IntKind.bits IntKind.u32) r0) ^^^ (BitVec.ofInt (IntKind.bits IntKind.u32) r1))):Nat):Int))) ^^^ (BitVec.ofInt (IntKind.bits IntKind.u32) (w32 (x_0.tdiv c_3))))):Nat):Int))
 else none
 else none
 else none
noncomputable def MZ:Ym:=Jf Oh
theorem FAB:Tells ctx PP 156 cv25 cv15 (fun a=>MZ a.1 a.2.1 a.2.2.1 a.2.2.2.1 a.2.2.2.2):=fn_ok0 (hc DAB hl_nil) Tryd.func156 ((fun z0 a=>by kernel_rfl:∀ z0,EntryIs0 ctx PP 156 [] [(164,EAB z0)] cv25 cv15 fun a=>Jf z0 a.1 a.2.1 a.2.2.1 a.2.2.2.1 a.2.2.2.2) Oh)
noncomputable def Zz {γ:Type} (F:Ym):Hd ctx γ:=hdl cv25.dec (fun a=>F a.1 a.2.1 a.2.2.1 a.2.2.2.1 a.2.2.2.2) cv15.enc
abbrev Rf:=(List Int)→(List Int)→ByteArray→Option (List Int)
inductive Ph where
 | c0 (t_0:(List Int)) (o_1:(List Int)) (v_8:Int) (v_7:(List Int))
 | c1 (t_0:(List Int)) (o_1:(List Int)) (v_10:Int) (v_7:(List Int)) (v_9:(List Int))
 | c2 (t_0:(List Int)) (o_1:(List Int)) (v_10:Int) (v_13:Int) (v_15:Int) (v_16:Int) (v_7:(List Int)) (v_9:(List Int))
 | c3 (t_0:(List Int)) (v_18:Int) (v_9:(List Int)) (v_17:(List Int))
noncomputable def O0:Ph→LI
 | .c0 t_0 o_1 v_8 v_7=>(tdo Tryd.f138 464,[(0,[.one (.rsl 114 t_0)]),(1,[.one (.rsl 114 o_1)]),(7,[.one (.own 496)]),(8,[.one (.int .i64 v_8)])],[(496,.sl 114 v_7)])
 | .c1 t_0 o_1 v_10 v_7 v_9=>(tdo Tryd.f138 2000,[(0,[.one (.rsl 114 t_0)]),(1,[.one (.rsl 114 o_1)]),(7,[.one (.own 496)]),(9,[.one (.own 624)]),(10,[.one (.int .i64 v_10)])],[(496,.sl 114 v_7),(624,.sl 114 v_9)])
 | .c2 t_0 o_1 v_10 v_13 v_15 v_16 v_7 v_9=>(tdo Tryd.f138 8202192,[(0,[.one (.rsl 114 t_0)]),(1,[.one (.rsl 114 o_1)]),(7,[.one (.own 496)]),(9,[.one (.own 624)]),(10,[.one (.int .i64 v_10)]),(13,[.one (.int .u32 v_13)]),(15,[.one (.int .u32 v_15)]),(16,[.one (.int .i64 v_16)])],[(496,.sl 114 v_7),(624,.sl 114 v_9)])
 | .c3 t_0 v_18 v_9 v_17=>(tdo Tryd.f138 8144,[(0,[.one (.rsl 114 t_0)]),(9,[.one (.own 624)]),(17,[.one (.own 1136)]),(18,[.one (.int .i64 v_18)])],[(624,.sl 114 v_9),(1136,.sl 114 v_17)])
noncomputable def Qr (z0:Dc) (z1:Ym) (k:Ph→Option (List Int)) (t_0:(List Int)) (o_1:(List Int)) (A_2:ByteArray):Option (List Int):=
 (z0 A_2).bind fun r0=>
 k (.c0 t_0 o_1 16 r0)
noncomputable def Xa (z0:Dc) (z1:Ym) (k:Ph→Option (List Int)):Ph→Option (List Int)
 | .c0 t_0 o_1 v_8 v_7=>
 bif (decide (v_8<64)) then
  bif ((decide (0≤(w64 (v_8 - 2)))) && (decide ((w64 (v_8 - 2))<(v_7.length:Int)))) then
  (z1 (v_7.getD (w64 (v_8 - 2)).toNat 0) 131072 524288 1024 true).bind fun r0=>
  bif ((decide (0≤(w64 (v_8 - 7)))) && (decide ((w64 (v_8 - 7))<(v_7.length:Int)))) then
  bif ((decide (0≤(w64 (v_8 - 15)))) && (decide ((w64 (v_8 - 15))<(v_7.length:Int)))) then
  (z1 (v_7.getD (w64 (v_8 - 15)).toNat 0) 128 262144 8 true).bind fun r1=>
  bif ((decide (0≤(w64 (v_8 - 16)))) && (decide ((w64 (v_8 - 16))<(v_7.length:Int)))) then
  bif (decide (((v_7.length+1)*4)≤140737488355328)) then
  k (.c0 t_0 o_1 (w64 (v_8+1)) (v_7++[(w32 ((w32 ((w32 (r0+(v_7.getD (w64 (v_8 - 7)).toNat 0)))+r1))+(v_7.getD (w64 (v_8 - 16)).toNat 0)))]))
  else none
  else none
  else none
  else none
  else none
 else
  bif (decide (((0+t_0.length)*4)≤140737488355328)) then
  k (.c1 t_0 o_1 0 v_7 ([]++t_0))
  else none
 | .c1 t_0 o_1 v_10 v_7 v_9=>
 bif (decide (v_10<64)) then
  bif ((decide ((0:Int)≤(4:Int))) && (decide (4<(v_9.length:Int)))) then
  bif ((decide ((0:Int)≤(5:Int))) && (decide (5<(v_9.length:Int)))) then
  bif ((decide ((0:Int)≤(6:Int))) && (decide (6<(v_9.length:Int)))) then
  bif ((decide ((0:Int)≤(7:Int))) && (decide (7<(v_9.length:Int)))) then
  (z1 (v_9.getD (4:Int).toNat 0) 64 2048 33554432 false).bind fun r0=>
  bif ((decide (0≤v_10)) && (decide (v_10<(o_1.length:Int)))) then
  bif ((decide (0≤v_10)) && (decide (v_10<(v_7.length:Int)))) then
  bif ((decide ((0:Int)≤(0:Int))) && (decide (0<(v_9.length:Int)))) then
  bif ((decide ((0:Int)≤(1:Int))) && (decide (1<(v_9.length:Int)))) then
  bif ((decide ((0:Int)≤(0:Int))) && (decide (0<(v_9.length:Int)))) then
  bif ((decide ((0:Int)≤(2:Int))) && (decide (2<(v_9.length:Int)))) then
  bif ((decide ((0:Int)≤(1:Int))) && (decide (1<(v_9.length:Int)))) then
  bif ((decide ((0:Int)≤(2:Int))) && (decide (2<(v_9.length:Int)))) then
  bif ((decide ((0:Int)≤(0:Int))) && (decide (0<(v_9.length:Int)))) then
  (z1 (v_9.getD (0:Int).toNat 0) 4 8192 4194304 false).bind fun r1=>
  k (.c2 t_0 o_1 v_10 (w32 ((w32 ((w32 ((w32 ((v_9.getD (7:Int).toNat 0)+r0))+(w32 (((BitVec.toNat ((BitVec.ofInt (IntKind.bits IntKind.u32) (w32 (((BitVec.toNat ((BitVec.ofInt (IntKind.bits IntKind.u32) (v_9.getD (4:Int).toNat 0)) &&& (BitVec.ofInt (IntKind.bits IntKind.u32) (v_9.getD (5:Int).toNat 0)))):Nat):Int))) ^^^ (BitVec.ofInt (IntKind.bits IntKind.u32) (w32 (((BitVec.toNat ((BitVec.ofInt (IntKind.bits IntKind.u32) (w32 (4294967295 - (v_9.getD (4:Int).toNat 0)))) &&& (BitVec.ofInt (IntKind.bits IntKind.u32) (v_9.getD (6:Int).toNat 0)))):Nat):Int))))):Nat):Int))))+(o_1.getD v_10.toNat 0)))+(v_7.getD v_10.toNat 0))) (w32 (r1+(w32 (((BitVec.toNat ((BitVec.ofInt (IntKind.bits IntKind.u32) (w32 (((BitVec.toNat ((BitVec.ofInt (IntKind.bits IntKind.u32) (w32 (((BitVec.toNat ((BitVec.ofInt (IntKind.bits IntKind.u32) (v_9.getD (0:Int).toNat 0)) &&& (BitVec.ofInt (IntKind.bits IntKind.u32) (v_9.getD (1:Int).toNat 0)))):Nat):Int))) ^^^ (BitVec.ofInt (IntKind.bits IntKind.u32) (w32 (((BitVec.toNat ((BitVec.ofInt (IntKind.bits IntKind.u32) (v_9.getD (0:Int).toNat 0)) &&& (BitVec.ofInt (IntKind.bits IntKind.u32) (v_9.getD (2:Int).toNat 0)))):Nat):Int))))):Nat):Int))) ^^^ (BitVec.ofInt (IntKind.bits IntKind.u32) (w32 (((BitVec.toNat ((BitVec.ofInt (IntKind.bits IntKind.u32) (v_9.getD (1:Int).toNat 0)) &&& (BitVec.ofInt (IntKind.bits IntKind.u32) (v_9.getD (2:Int).toNat 0)))):Nat):Int))))):Nat):Int)))) 7 v_7 v_9)
  else none
  else none
  else none
  else none
  else none
  else none
  else none
  else none
  else none
  else none
  else none
  else none
  else none
 else
  k (.c3 t_0 0 v_9 [])
 | .c2 t_0 o_1 v_10 v_13 v_15 v_16 v_7 v_9=>
 bif (decide (v_16 > 0)) then
  bif ((decide (0≤(w64 (v_16 - 1)))) && (decide ((w64 (v_16 - 1))<(v_9.length:Int)))) then
  bif ((decide (0≤v_16)) && (decide (v_16<(v_9.length:Int)))) then
  k (.c2 t_0 o_1 v_10 v_13 v_15 (w64 (v_16 - 1)) v_7 (v_9.set v_16.toNat (v_9.getD (w64 (v_16 - 1)).toNat 0)))
  else none
  else none
 else
  bif ((decide ((0:Int)≤(4:Int))) && (decide (4<(v_9.length:Int)))) then
  bif ((decide ((0:Int)≤(4:Int))) && (decide (4<(v_9.length:Int)))) then
  bif ((decide ((0:Int)≤(0:Int))) && (decide (0<((v_9.set (4:Int).toNat (w32 ((v_9.getD (4:Int).toNat 0)+v_13))).length:Int)))) then
  k (.c1 t_0 o_1 (w64 (v_10+1)) v_7 ((v_9.set (4:Int).toNat (w32 ((v_9.getD (4:Int).toNat 0)+v_13))).set (0:Int).toNat (w32 (v_13+v_15))))
  else none
  else none
  else none
 | .c3 t_0 v_18 v_9 v_17=>
 bif (decide (v_18<8)) then
  bif ((decide (0≤v_18)) && (decide (v_18<(t_0.length:Int)))) then
  bif ((decide (0≤v_18)) && (decide (v_18<(v_9.length:Int)))) then
  bif (decide (((v_17.length+1)*4)≤140737488355328)) then
  k (.c3 t_0 (w64 (v_18+1)) v_9 (v_17++[(w32 ((t_0.getD v_18.toNat 0)+(v_9.getD v_18.toNat 0)))]))
  else none
  else none
  else none
 else
  some v_17
noncomputable def XY:Nat→Ph→Option (List Int)
 | 0,_=>none
 | m+1,s=>Xa EZ MZ (XY m) s
noncomputable def Ea:Rf:=Qr EZ MZ (XY gas)
theorem U0:Tells ctx PP 138 cv26 cv19 (fun a=>Ea a.1 a.2.1 a.2.2):=
 have b:∀ z0 z1,CutIs ctx PP 138 Tryd.f138 [] [(136,Gf z0),(156,Zz z1)] cv19 O0 (Xa z0 z1):=fun z0 z1 _ s=>by cases s <;> kernel_rfl
 have e:∀ z0 z1,EntryIs ctx PP 138 [] [(136,Gf z0),(156,Zz z1)] cv26 cv19 O0 (fun k a=>Qr z0 z1 k a.1 a.2.1 a.2.2):=fun z0 z1 _ a=>by kernel_rfl
 fn_ok (hc Kr (hc FAB hl_nil)) Tryd.func138 (fun s s' h=>by cases s <;> cases s' <;> first | (cases h;done) | (cases h;rfl) | exact (rg_ne h (by kernel_rfl)).elim) (fun _=>rfl) (fun _ _=>rfl) (b EZ MZ) (e EZ MZ) gas
noncomputable def Zm {γ:Type} (F:Rf):Hd ctx γ:=hdl cv26.dec (fun a=>F a.1 a.2.1 a.2.2) cv19.enc
abbrev Sr:=SHasher→ByteArray→Option SHasher
inductive Qh where
 | c0 (s_1:ByteArray) (buf_7:ByteArray) (at_8:Int) (h_2:SHasher) (v_4:SHasher) (state_5:(List Int)) (k_6:(List Int))
noncomputable def X0:Qh→LI
 | .c0 s_1 buf_7 at_8 h_2 v_4 state_5 k_6=>(tdo Tryd.f111 4064,[(1,[.one (.str s_1)]),(2,[.one (.ptr 128 0)]),(4,[.one (.ptr 256 0)]),(5,[.one (.own 368)]),(6,[.one (.own 432)]),(7,[.one (.str buf_7)]),(8,[.one (.int .i64 at_8)])],[(128,.var [.str h_2.fState,.str h_2.fRest,.int .i64 h_2.fCount]),(256,.var [.str v_4.fState,.str v_4.fRest,.int .i64 v_4.fCount]),(368,.sl 114 state_5),(432,.sl 114 k_6)])
noncomputable def Ur (z0:Ef) (z1:Dc) (z2:Hf) (z3:Rf) (z4:Oc) (k:Qh→Option SHasher) (h_0:SHasher) (s_1:ByteArray):Option SHasher:=
 (z0 h_0).bind fun r0=>
 bif (!r0) then
 some h_0
 else
 bif (decide ((w64 (h_0.fCount+(s_1.size:Int))) > 1000000000)) then
  some h_0
 else
  (z1 h_0.fState).bind fun r1=>
  z2.bind fun r2=>
  bif (decide ((h_0.fRest.size+s_1.size)≤9223372036854775807)) then
  k (.c0 s_1 (h_0.fRest++s_1) 0 h_0 ⟨⟨#[]⟩,⟨#[]⟩,0⟩ r1 r2)
  else none
noncomputable def Dn (z0:Ef) (z1:Dc) (z2:Hf) (z3:Rf) (z4:Oc) (k:Qh→Option SHasher):Qh→Option SHasher
 | .c0 s_1 buf_7 at_8 h_2 v_4 state_5 k_6=>
 bif (decide ((w64 (at_8+64))≤(buf_7.size:Int))) then
  bif (((decide (0≤at_8)) && (decide (at_8≤(w64 (at_8+64))))) && (decide ((w64 (at_8+64))≤(buf_7.size:Int)))) then
  (z3 state_5 k_6 (buf_7.extract at_8.toNat (w64 (at_8+64)).toNat)).bind fun r0=>
  k (.c0 s_1 buf_7 (w64 (at_8+64)) h_2 v_4 r0 k_6)
  else none
 else
  (z4 state_5).bind fun r1=>
  bif ((decide (0≤at_8)) && (decide (at_8≤(buf_7.size:Int)))) then
  some ⟨r1,(buf_7.extract at_8.toNat buf_7.size),(w64 (h_2.fCount+(s_1.size:Int)))⟩
  else none
noncomputable def Rh:Nat→Qh→Option SHasher
 | 0,_=>none
 | m+1,s=>Dn LZ EZ Va Ea VZ (Rh m) s
noncomputable def Uh:Sr:=Ur LZ EZ Va Ea VZ (Rh gas)
theorem GAB:Tells ctx PP 111 cv27 cv21 (fun a=>Uh a.1 a.2):=
 have b:∀ z0 z1 z2 z3 z4,CutIs ctx PP 111 Tryd.f111 [] [(135,Sm z0),(136,Gf z1),(137,Xm z2),(138,Zm z3),(139,Gh z4)] cv21 X0 (Dn z0 z1 z2 z3 z4):=fun z0 z1 z2 z3 z4 _ s=>by cases s <;> kernel_rfl
 have e:∀ z0 z1 z2 z3 z4,EntryIs ctx PP 111 [] [(135,Sm z0),(136,Gf z1),(137,Xm z2),(138,Zm z3),(139,Gh z4)] cv27 cv21 X0 (fun k a=>Ur z0 z1 z2 z3 z4 k a.1 a.2):=fun z0 z1 z2 z3 z4 _ a=>by kernel_rfl
 fn_ok (hc Sz (hc Kr (hc Yz (hc U0 (hc Zq hl_nil))))) Tryd.func111 (fun s s' h=>by cases s;cases s';(repeat cases ‹SHasher›);cases h;rfl) (fun _=>rfl) (fun _ _=>rfl) (b LZ EZ Va Ea VZ) (e LZ EZ Va Ea VZ) gas
noncomputable def IAB {γ:Type} (F:Sr):Hd ctx γ:=hdl cv27.dec (fun a=>F a.1 a.2) cv21.enc
abbrev Vr:=SHasher→Option ByteArray
inductive Vh where
 | c0 (h_1:SHasher) (tail_3:(List Int))
 | c1 (bits_4:Int) (i_5:Int) (h_1:SHasher) (tail_3:(List Int))
 | c2 (bits_4:Int) (i_5:Int) (x_6:Int) (k_7:Int) (h_1:SHasher) (tail_3:(List Int))
 | c3 (at_10:Int) (tail_3:(List Int)) (state_8:(List Int)) (k_9:(List Int))
noncomputable def Y0:Vh→LI
 | .c0 h_1 tail_3=>(tdo Tryd.f110 992,[(1,[.one (.ptr 64 0)]),(3,[.one (.own 240)])],[(64,.var [.str h_1.fState,.str h_1.fRest,.int .i64 h_1.fCount]),(240,.sl 5 tail_3)])
 | .c1 bits_4 i_5 h_1 tail_3=>(tdo Tryd.f110 8144,[(1,[.one (.ptr 64 0)]),(3,[.one (.own 240)]),(4,[.one (.int .i64 bits_4)]),(5,[.one (.int .i64 i_5)])],[(64,.var [.str h_1.fState,.str h_1.fRest,.int .i64 h_1.fCount]),(240,.sl 5 tail_3)])
 | .c2 bits_4 i_5 x_6 k_7 h_1 tail_3=>(tdo Tryd.f110 2085456,[(1,[.one (.ptr 64 0)]),(3,[.one (.own 240)]),(4,[.one (.int .i64 bits_4)]),(5,[.one (.int .i64 i_5)]),(6,[.one (.int .i64 x_6)]),(7,[.one (.int .i64 k_7)])],[(64,.var [.str h_1.fState,.str h_1.fRest,.int .i64 h_1.fCount]),(240,.sl 5 tail_3)])
 | .c3 at_10 tail_3 state_8 k_9=>(tdo Tryd.f110 65488,[(3,[.one (.own 240)]),(8,[.one (.own 560)]),(9,[.one (.own 624)]),(10,[.one (.int .i64 at_10)])],[(240,.sl 5 tail_3),(560,.sl 114 state_8),(624,.sl 114 k_9)])
noncomputable def Xr (z0:Ef) (z1:Dc) (z2:Hf) (z3:Rf) (z4:Oc) (k:Vh→Option ByteArray) (h_0:SHasher):Option ByteArray:=
 (z0 h_0).bind fun r0=>
 bif (!r0) then
 some ⟨#[]⟩
 else
 bif (decide (h_0.fRest.size≤9223372036854775807)) then
 bif (decide ((((bytesOf h_0.fRest).length+1)*1)≤140737488355328)) then
 k (.c0 h_0 ((bytesOf h_0.fRest)++[(128:Int)]))
 else none
 else none
noncomputable def Ya (z0:Ef) (z1:Dc) (z2:Hf) (z3:Rf) (z4:Oc) (k:Vh→Option ByteArray):Vh→Option ByteArray
 | .c0 h_1 tail_3=>
 bif (((tail_3.length:Int).tmod 64) != 56) then
  bif (decide (((tail_3.length+1)*1)≤140737488355328)) then
  k (.c0 h_1 (tail_3++[(0:Int)]))
  else none
 else
  k (.c1 (w64 (8*h_1.fCount)) 7 h_1 tail_3)
 | .c1 bits_4 i_5 h_1 tail_3=>
 bif (decide (i_5≥0)) then
  k (.c2 bits_4 i_5 bits_4 0 h_1 tail_3)
 else
  (z1 h_1.fState).bind fun r0=>
  z2.bind fun r1=>
  k (.c3 0 tail_3 r0 r1)
 | .c2 bits_4 i_5 x_6 k_7 h_1 tail_3=>
 bif (decide (k_7<i_5)) then
  k (.c2 bits_4 i_5 (w64 (x_6.tdiv 256)) (w64 (k_7+1)) h_1 tail_3)
 else
  bif (decide (((tail_3.length+1)*1)≤140737488355328)) then
  k (.c1 bits_4 (w64 (i_5 - 1)) h_1 (tail_3++[(w8 (x_6.tmod 256))]))
  else none
 | .c3 at_10 tail_3 state_8 k_9=>
 bif (decide (at_10<(tail_3.length:Int))) then
  bif (((decide (0≤at_10)) && (decide (at_10≤(w64 (at_10+64))))) && (decide ((w64 (at_10+64))≤(tail_3.length:Int)))) then
  (z3 state_8 k_9 (ofBytes ((tail_3.drop at_10.toNat).take ((w64 (at_10+64)).toNat - at_10.toNat)))).bind fun r0=>
  k (.c3 (w64 (at_10+64)) tail_3 r0 k_9)
  else none
 else
  (z4 state_8).bind fun r1=>
  some r1
noncomputable def ZY:Nat→Vh→Option ByteArray
 | 0,_=>none
 | m+1,s=>Ya LZ EZ Va Ea VZ (ZY m) s
noncomputable def Wh:Vr:=Xr LZ EZ Va Ea VZ (ZY gas)
theorem JAB:Tells ctx PP 110 cv21 cv9 (fun a=>Wh a):=
 have b:∀ z0 z1 z2 z3 z4,CutIs ctx PP 110 Tryd.f110 [] [(135,Sm z0),(136,Gf z1),(137,Xm z2),(138,Zm z3),(139,Gh z4)] cv9 Y0 (Ya z0 z1 z2 z3 z4):=fun z0 z1 z2 z3 z4 _ s=>by cases s <;> kernel_rfl
 have e:∀ z0 z1 z2 z3 z4,EntryIs ctx PP 110 [] [(135,Sm z0),(136,Gf z1),(137,Xm z2),(138,Zm z3),(139,Gh z4)] cv21 cv9 Y0 (fun k a=>Xr z0 z1 z2 z3 z4 k a):=fun z0 z1 z2 z3 z4 _ a=>by kernel_rfl
 fn_ok (hc Sz (hc Kr (hc Yz (hc U0 (hc Zq hl_nil))))) Tryd.func110 (fun s s' h=>by cases s <;> cases s' <;> first | ((repeat cases ‹SHasher›);cases h;done) | ((repeat cases ‹SHasher›);cases h;rfl) | exact (rg_ne h (by kernel_rfl)).elim) (fun _=>rfl) (fun _ _=>rfl) (b LZ EZ Va Ea VZ) (e LZ EZ Va Ea VZ) gas
noncomputable def KAB {γ:Type} (F:Vr):Hd ctx γ:=hdl cv21.dec (fun a=>F a) cv9.enc
abbrev Uc:=ByteArray→Option ByteArray
noncomputable def Yr (z0:Ar) (z1:Sr) (z2:Vr) (s_0:ByteArray):Option ByteArray:=
 z0.bind fun r0=>
 (z1 r0 s_0).bind fun r1=>
 (z2 r1).bind fun r2=>
 some r2
noncomputable def NZ:Uc:=Yr Ih Uh Wh
theorem En:Tells ctx PP 60 cv9 cv9 (fun a=>NZ a):=fn_ok0 (hc AAB (hc GAB (hc JAB hl_nil))) Tryd.func60 ((fun z0 z1 z2 a=>by kernel_rfl:∀ z0 z1 z2,EntryIs0 ctx PP 60 [] [(112,BAB z0),(111,IAB z1),(110,KAB z2)] cv9 cv9 fun a=>Yr z0 z1 z2 a) Ih Uh Wh)
noncomputable def Xh {γ:Type} (F:Uc):Hd ctx γ:=hdl cv9.dec (fun a=>F a) cv9.enc
abbrev Zr:=Int→Int→Option ByteArray
inductive Yh where
 | c0 (n_0:Int) (x_1:Int) (i_6:Int) (out_5:(List Int))
noncomputable def O1:Yh→LI
 | .c0 n_0 x_1 i_6 out_5=>(tdo Tryd.f56 464,[(0,[.one (.int .i64 n_0)]),(1,[.one (.int .u8 x_1)]),(5,[.one (.own 368)]),(6,[.one (.int .i64 i_6)])],[(368,.sl 5 out_5)])
noncomputable def Es (k:Yh→Option ByteArray) (n_0:Int) (x_1:Int):Option ByteArray:=
 bif ((((decide (0≤n_0)) && (decide (n_0≤n_0))) && (decide (n_0≤9223372036854775807))) && (decide ((n_0.toNat*1)≤140737488355328))) then
 k (.c0 n_0 x_1 0 (List.replicate n_0.toNat (0:Int)))
 else none
noncomputable def Gn (k:Yh→Option ByteArray):Yh→Option ByteArray
 | .c0 n_0 x_1 i_6 out_5=>
 bif (decide (i_6<n_0)) then
  bif ((decide (0≤i_6)) && (decide (i_6<(out_5.length:Int)))) then
  k (.c0 n_0 x_1 (w64 (i_6+1)) (out_5.set i_6.toNat x_1))
  else none
 else
  some (ofBytes out_5)
noncomputable def Zh:Nat→Yh→Option ByteArray
 | 0,_=>none
 | m+1,s=>Gn (Zh m) s
noncomputable def Tf:Zr:=Es (Zh gas)
theorem LAB:Tells ctx PP 56 cv8 cv9 (fun a=>Tf a.1 a.2):=
 have b:CutIs ctx PP 56 Tryd.f56 [] [] cv9 O1 (Gn):=fun _ s=>by cases s <;> kernel_rfl
 have e:EntryIs ctx PP 56 [] [] cv8 cv9 O1 (fun k a=>Es k a.1 a.2):=fun _ a=>by kernel_rfl
 fn_ok hl_nil Tryd.func56 (fun s s' h=>by cases s;cases s';cases h;rfl) (fun _=>rfl) (fun _ _=>rfl) b e gas
noncomputable def MAB {γ:Type} (F:Zr):Hd ctx γ:=hdl cv8.dec (fun a=>F a.1 a.2) cv9.enc
abbrev Uf:=Option SBook
noncomputable def Gs (z0:Uc) (z1:Zr)  : Option SBook:=
 (z0 ⟨#[]⟩).bind fun r0=>
 (z1 32 0).bind fun r1=>
 some ⟨r0,0,[],0,r1,0⟩
noncomputable def Fa:Uf:=Gs NZ Tf
theorem Js:Tells ctx PP 43 cv12 cv40 (fun _=>Fa):=fn_ok0 (hc En (hc LAB hl_nil)) Tryd.func43 ((fun z0 z1 _=>by kernel_rfl:∀ z0 z1,EntryIs0 ctx PP 43 [] [(60,Xh z0),(56,MAB z1)] cv12 cv40 fun _=>Gs z0 z1) NZ Tf)
noncomputable def Pn {γ:Type} (F:Uf):Hd ctx γ:=hdl cv12.dec (fun _=>F) cv40.enc
abbrev Xc:=SL01Cur→Option (Int×SL01Cur)
noncomputable def Ls (c_0:SL01Cur):Option (Int×SL01Cur):=
 bif (decide (c_0.fI<(codeL.length:Int))) then
 bif ((decide (0≤c_0.fI)) && (decide (c_0.fI<(codeL.length:Int)))) then
 bif (Nat.blt c_0.fI.toNat codeL.length) then
 some ((w64 (((BitVec.toNat ((BitVec.ofInt (IntKind.bits IntKind.i64) (w64 ((w64 (((BitVec.toNat ((BitVec.ofInt (IntKind.bits IntKind.i64) (w64 (((BitVec.toNat ((BitVec.ofInt (IntKind.bits IntKind.i64) (Int.fdiv (w64 ((w64 (c_0.fH*6364136223846793005))+1442695040888963407)) (2 ^ (Min.min (33:Int).toNat (IntKind.bits IntKind.i64))))) ^^^ (BitVec.ofInt (IntKind.bits IntKind.i64) (Int.fdiv (w64 ((w64 (c_0.fH*6364136223846793005))+1442695040888963407)) (2 ^ (Min.min (45:Int).toNat (IntKind.bits IntKind.i64))))))):Nat):Int))) &&& (BitVec.ofInt (IntKind.bits IntKind.i64) 255))):Nat):Int))+(w64 (codeL.getD c_0.fI.toNat 0))))) &&& (BitVec.ofInt (IntKind.bits IntKind.i64) 255))):Nat):Int)),⟨(),(w64 (c_0.fI+1)),(w64 ((w64 (c_0.fH*6364136223846793005))+1442695040888963407))⟩)
 else none
 else none
 else
 some ((w64 (((BitVec.toNat ((BitVec.ofInt (IntKind.bits IntKind.i64) (w64 (((BitVec.toNat ((BitVec.ofInt (IntKind.bits IntKind.i64) (Int.fdiv (w64 ((w64 (c_0.fH*6364136223846793005))+1442695040888963407)) (2 ^ (Min.min (33:Int).toNat (IntKind.bits IntKind.i64))))) ^^^ (BitVec.ofInt (IntKind.bits IntKind.i64) (Int.fdiv (w64 ((w64 (c_0.fH*6364136223846793005))+1442695040888963407)) (2 ^ (Min.min (45:Int).toNat (IntKind.bits IntKind.i64))))))):Nat):Int))) &&& (BitVec.ofInt (IntKind.bits IntKind.i64) 255))):Nat):Int)),⟨(),c_0.fI,(w64 ((w64 (c_0.fH*6364136223846793005))+1442695040888963407))⟩)
noncomputable def OZ:Xc:=Ls
theorem Ns:Tells ctx PP 93 cv3 cv4 (fun a=>OZ a):=fn_ok0 hl_nil Tryd.func93 (fun a=>by kernel_rfl:EntryIs0 ctx PP 93 [0] [] cv3 cv4 fun a=>Ls a)
noncomputable def Ai {γ:Type} (F:Xc):Hd ctx γ:=hdl cv3.dec (fun a=>F a) cv4.enc
abbrev XZ:=SL01Cur→Int→Option (Int×SL01Cur)
noncomputable def Qs (z0:Xc) (c_0:SL01Cur) (n_1:Int):Option (Int×SL01Cur):=
 bif (decide (n_1≤0)) then
 some (0,⟨(),c_0.fI,c_0.fH⟩)
 else
 bif (decide (n_1≤256)) then
  (z0 ⟨(),c_0.fI,c_0.fH⟩).bind fun r0=>
  bif (!(n_1 == 0)) then
  some ((r0.1.tmod n_1),⟨(),r0.2.fI,r0.2.fH⟩)
  else none
 else
  (z0 ⟨(),c_0.fI,c_0.fH⟩).bind fun r1=>
  (z0 ⟨(),r1.2.fI,r1.2.fH⟩).bind fun r2=>
  (z0 ⟨(),r2.2.fI,r2.2.fH⟩).bind fun r3=>
  (z0 ⟨(),r3.2.fI,r3.2.fH⟩).bind fun r4=>
  bif (!(n_1 == 0)) then
  some (((w64 ((w64 ((w64 ((w64 (r1.1*16777216))+(w64 (r2.1*65536))))+(w64 (r3.1*256))))+r4.1)).tmod n_1),⟨(),r4.2.fI,r4.2.fH⟩)
  else none
noncomputable def OY:XZ:=Qs OZ
theorem Ic:Tells ctx PP 57 cv5 cv4 (fun a=>OY a.1 a.2):=fn_ok0 (hc Ns hl_nil) Tryd.func57 ((fun z0 a=>by kernel_rfl:∀ z0,EntryIs0 ctx PP 57 [0] [(93,Ai z0)] cv5 cv4 fun a=>Qs z0 a.1 a.2) OZ)
noncomputable def Za {γ:Type} (F:XZ):Hd ctx γ:=hdl cv5.dec (fun a=>F a.1 a.2) cv4.enc
abbrev Us:=SL01Cur→(List Int)→Option (Int×SL01Cur)
noncomputable def Vs (z0:XZ) (c_0:SL01Cur) (list_1:(List Int)):Option (Int×SL01Cur):=
 (z0 ⟨(),c_0.fI,c_0.fH⟩ (list_1.length:Int)).bind fun r0=>
 bif ((decide (0≤r0.1)) && (decide (r0.1<(list_1.length:Int)))) then
 some ((list_1.getD r0.1.toNat 0),⟨(),r0.2.fI,r0.2.fH⟩)
 else none
noncomputable def Ci:Us:=Vs OY
theorem NAB:Tells ctx PP 105 cv7 cv4 (fun a=>Ci a.1 a.2):=fn_ok0 (hc Ic hl_nil) Tryd.func105 ((fun z0 a=>by kernel_rfl:∀ z0,EntryIs0 ctx PP 105 [0] [(57,Za z0)] cv7 cv4 fun a=>Vs z0 a.1 a.2) OY)
noncomputable def OAB {γ:Type} (F:Us):Hd ctx γ:=hdl cv7.dec (fun a=>F a.1 a.2) cv4.enc
abbrev Qn:=SL01Cur→(List ByteArray)→Option (ByteArray×SL01Cur)
noncomputable def Ws (z0:XZ) (c_0:SL01Cur) (list_1:(List ByteArray)):Option (ByteArray×SL01Cur):=
 (z0 ⟨(),c_0.fI,c_0.fH⟩ (list_1.length:Int)).bind fun r0=>
 bif ((decide (0≤r0.1)) && (decide (r0.1<(list_1.length:Int)))) then
 some ((list_1.getD r0.1.toNat (⟨#[]⟩:ByteArray)),⟨(),r0.2.fI,r0.2.fH⟩)
 else none
noncomputable def Yc:Qn:=Ws OY
theorem U1:Tells ctx PP 122 cv28 cv10 (fun a=>Yc a.1 a.2):=fn_ok0 (hc Ic hl_nil) Tryd.func122 ((fun z0 a=>by kernel_rfl:∀ z0,EntryIs0 ctx PP 122 [0] [(57,Za z0)] cv28 cv10 fun a=>Ws z0 a.1 a.2) OY)
noncomputable def Y1 {γ:Type} (F:Qn):Hd ctx γ:=hdl cv28.dec (fun a=>F a.1 a.2) cv10.enc
abbrev Di:=SL01Cur→Int→Option (Bool×SL01Cur)
noncomputable def Dt (z0:XZ) (c_0:SL01Cur) (n_1:Int):Option (Bool×SL01Cur):=
 (z0 ⟨(),c_0.fI,c_0.fH⟩ n_1).bind fun r0=>
 some ((r0.1 == 0),⟨(),r0.2.fI,r0.2.fH⟩)
noncomputable def Ob:Di:=Dt OY
theorem Et:Tells ctx PP 54 cv5 cv6 (fun a=>Ob a.1 a.2):=fn_ok0 (hc Ic hl_nil) Tryd.func54 ((fun z0 a=>by kernel_rfl:∀ z0,EntryIs0 ctx PP 54 [0] [(57,Za z0)] cv5 cv6 fun a=>Dt z0 a.1 a.2) OY)
noncomputable def Gt {γ:Type} (F:Di):Hd ctx γ:=hdl cv5.dec (fun a=>F a.1 a.2) cv6.enc
abbrev Ht:=SL01Cur→Int→Option (ByteArray×SL01Cur)
inductive Ei where
 | c0 (n_1:Int) (i_6:Int) (c_0c1:Int) (c_0c2:Int) (out_5:(List Int))
noncomputable def U2:Ei→LI
 | .c0 n_1 i_6 c_0c1 c_0c2 out_5=>(tdo Tryd.f58 976,[(0,[.one (.ptr 0 0)]),(1,[.one (.int .i64 n_1)]),(5,[.one (.own 368)]),(6,[.one (.int .i64 i_6)])],[(0,.var [.csl,.int .i64 c_0c1,.int .i64 c_0c2]),(368,.sl 5 out_5)])
noncomputable def Jt (z0:Xc) (k:Ei→Option (ByteArray×SL01Cur)) (c_0:SL01Cur) (n_1:Int):Option (ByteArray×SL01Cur):=
 bif (decide (n_1 > 5000)) then
 k (.c0 5000 0 c_0.fI c_0.fH [])
 else
 k (.c0 n_1 0 c_0.fI c_0.fH [])
noncomputable def Rn (z0:Xc) (k:Ei→Option (ByteArray×SL01Cur)):Ei→Option (ByteArray×SL01Cur)
 | .c0 n_1 i_6 c_0c1 c_0c2 out_5=>
 bif (decide (i_6<n_1)) then
  (z0 ⟨(),c_0c1,c_0c2⟩).bind fun r0=>
  bif (decide (((out_5.length+1)*1)≤140737488355328)) then
  k (.c0 n_1 (w64 (i_6+1)) r0.2.fI r0.2.fH (out_5++[(w8 r0.1)]))
  else none
 else
  some ((ofBytes out_5),⟨(),c_0c1,c_0c2⟩)
noncomputable def Vf:Nat→Ei→Option (ByteArray×SL01Cur)
 | 0,_=>none
 | m+1,s=>Rn OZ (Vf m) s
noncomputable def Gi:Ht:=Jt OZ (Vf gas)
theorem PAB:Tells ctx PP 58 cv5 cv10 (fun a=>Gi a.1 a.2):=
 have b:∀ z0,CutIs ctx PP 58 Tryd.f58 [0] [(93,Ai z0)] cv10 U2 (Rn z0):=fun z0 _ s=>by cases s <;> kernel_rfl
 have e:∀ z0,EntryIs ctx PP 58 [0] [(93,Ai z0)] cv5 cv10 U2 (fun k a=>Jt z0 k a.1 a.2):=fun z0 _ a=>by kernel_rfl
 fn_ok (hc Ns hl_nil) Tryd.func58 (fun s s' h=>by cases s;cases s';cases h;rfl) (fun _=>rfl) (fun _ _=>rfl) (b OZ) (e OZ) gas
noncomputable def QAB {γ:Type} (F:Ht):Hd ctx γ:=hdl cv5.dec (fun a=>F a.1 a.2) cv10.enc
abbrev Kt:=SL01Cur→Option (SThing×SL01Cur)
noncomputable def Ot (z0:XZ) (z1:Di) (z2:Ht) (z3:Qn) (z4:Uc) (c_0:SL01Cur):Option (SThing×SL01Cur):=
 (z0 ⟨(),c_0.fI,c_0.fH⟩ 6).bind fun r0=>
 (z0 ⟨(),r0.2.fI,r0.2.fH⟩ 3).bind fun r1=>
 (z1 ⟨(),r1.2.fI,r1.2.fH⟩ 2).bind fun r2=>
 (z1 ⟨(),r2.2.fI,r2.2.fH⟩ 2).bind fun r3=>
 bif ((w64 (1+r1.1)) == 3) then
 (z0 ⟨(),r3.2.fI,r3.2.fH⟩ 9).bind fun r4=>
 (z2 ⟨(),r4.2.fI,r4.2.fH⟩ r4.1).bind fun r5=>
 some (⟨(w64 (1+r0.1)),(w64 (1+r1.1)),r2.1,r3.1,false,false,r5.1,0⟩,⟨(),r5.2.fI,r5.2.fH⟩)
 else
 bif ((w64 (1+r1.1)) == 2) then
  (z0 ⟨(),r3.2.fI,r3.2.fH⟩ 17).bind fun r6=>
  (z1 ⟨(),r6.2.fI,r6.2.fH⟩ 4).bind fun r7=>
  (z3 ⟨(),r7.2.fI,r7.2.fH⟩ [⟨#[97]⟩,⟨#[98]⟩,⟨#[99]⟩]).bind fun r8=>
  (z4 r8.1).bind fun r9=>
  some (⟨(w64 (1+r0.1)),(w64 (1+r1.1)),r2.1,r3.1,(!r7.1),false,r9,r6.1⟩,⟨(),r8.2.fI,r8.2.fH⟩)
 else
  (z1 ⟨(),r3.2.fI,r3.2.fH⟩ 4).bind fun r10=>
  (z3 ⟨(),r10.2.fI,r10.2.fH⟩ [⟨#[97]⟩,⟨#[98]⟩,⟨#[99]⟩]).bind fun r11=>
  (z4 r11.1).bind fun r12=>
  some (⟨(w64 (1+r0.1)),(w64 (1+r1.1)),r2.1,r3.1,false,(!r10.1),r12,0⟩,⟨(),r11.2.fI,r11.2.fH⟩)
noncomputable def Ii:Kt:=Ot OY Ob Gi Yc NZ
theorem RAB:Tells ctx PP 113 cv3 cv29 (fun a=>Ii a):=fn_ok0 (hc Ic (hc Et (hc PAB (hc U1 (hc En hl_nil))))) Tryd.func113 ((fun z0 z1 z2 z3 z4 a=>by kernel_rfl:∀ z0 z1 z2 z3 z4,EntryIs0 ctx PP 113 [0] [(57,Za z0),(54,Gt z1),(58,QAB z2),(122,Y1 z3),(60,Xh z4)] cv3 cv29 fun a=>Ot z0 z1 z2 z3 z4 a) OY Ob Gi Yc NZ)
noncomputable def SAB {γ:Type} (F:Kt):Hd ctx γ:=hdl cv3.dec (fun a=>F a) cv29.enc
abbrev Ji:=SL01Cur→SBook→Option (SRec×SL01Cur)
noncomputable def Rt (z0:Us) (z1:Qn) (z2:Uc) (z3:XZ) (z4:Kt) (z5:Di) (c_0:SL01Cur) (b_1:SBook):Option (SRec×SL01Cur):=
 (z0 ⟨(),c_0.fI,c_0.fH⟩ [1,2,3,3,3,3,4]).bind fun r0=>
 bif (r0.1 == 1) then
 (z1 ⟨(),r0.2.fI,r0.2.fH⟩ [⟨#[]⟩,⟨#[119]⟩,⟨#[112,105,110]⟩]).bind fun r1=>
 (z2 r1.1).bind fun r2=>
 some (⟨r0.1,r2,0,⟨0,0,false,false,false,false,⟨#[]⟩,0⟩⟩,⟨(),r1.2.fI,r1.2.fH⟩)
 else
 bif (r0.1 == 2) then
  (z3 ⟨(),r0.2.fI,r0.2.fH⟩ 4).bind fun r3=>
  some (⟨r0.1,⟨#[]⟩,r3.1,⟨0,0,false,false,false,false,⟨#[]⟩,0⟩⟩,⟨(),r3.2.fI,r3.2.fH⟩)
 else
  bif (r0.1 == 3) then
  (z4 ⟨(),r0.2.fI,r0.2.fH⟩).bind fun r4=>
  bif (decide ((b_1.fThings.length:Int) > 0)) then
   (z5 ⟨(),r4.2.fI,r4.2.fH⟩ 2).bind fun r5=>
   bif r5.1 then
   (z3 ⟨(),r5.2.fI,r5.2.fH⟩ (b_1.fThings.length:Int)).bind fun r6=>
   bif ((decide (0≤r6.1)) && (decide (r6.1<(b_1.fThings.length:Int)))) then
   bif (b_1.fThings.getD r6.1.toNat (⟨0,0,false,false,false,false,⟨#[]⟩,0⟩:SThing)).fHidden then
    bif (b_1.fThings.getD r6.1.toNat (⟨0,0,false,false,false,false,⟨#[]⟩,0⟩:SThing)).fFixed then
    bif ((b_1.fThings.getD r6.1.toNat (⟨0,0,false,false,false,false,⟨#[]⟩,0⟩:SThing)).fKind == 2) then
     bif (decide ((b_1.fThings.getD r6.1.toNat (⟨0,0,false,false,false,false,⟨#[]⟩,0⟩:SThing)).fNext<16)) then
     (z3 ⟨(),r6.2.fI,r6.2.fH⟩ 2).bind fun r7=>
     some (⟨r0.1,⟨#[]⟩,0,⟨(b_1.fThings.getD r6.1.toNat (⟨0,0,false,false,false,false,⟨#[]⟩,0⟩:SThing)).fId,(b_1.fThings.getD r6.1.toNat (⟨0,0,false,false,false,false,⟨#[]⟩,0⟩:SThing)).fKind,true,true,(b_1.fThings.getD r6.1.toNat (⟨0,0,false,false,false,false,⟨#[]⟩,0⟩:SThing)).fSigns,(b_1.fThings.getD r6.1.toNat (⟨0,0,false,false,false,false,⟨#[]⟩,0⟩:SThing)).fWraps,(b_1.fThings.getD r6.1.toNat (⟨0,0,false,false,false,false,⟨#[]⟩,0⟩:SThing)).fValue,(w64 ((b_1.fThings.getD r6.1.toNat (⟨0,0,false,false,false,false,⟨#[]⟩,0⟩:SThing)).fNext+r7.1))⟩⟩,⟨(),r7.2.fI,r7.2.fH⟩)
     else
     some (⟨r0.1,⟨#[]⟩,0,⟨(b_1.fThings.getD r6.1.toNat (⟨0,0,false,false,false,false,⟨#[]⟩,0⟩:SThing)).fId,(b_1.fThings.getD r6.1.toNat (⟨0,0,false,false,false,false,⟨#[]⟩,0⟩:SThing)).fKind,true,true,(b_1.fThings.getD r6.1.toNat (⟨0,0,false,false,false,false,⟨#[]⟩,0⟩:SThing)).fSigns,(b_1.fThings.getD r6.1.toNat (⟨0,0,false,false,false,false,⟨#[]⟩,0⟩:SThing)).fWraps,(b_1.fThings.getD r6.1.toNat (⟨0,0,false,false,false,false,⟨#[]⟩,0⟩:SThing)).fValue,(b_1.fThings.getD r6.1.toNat (⟨0,0,false,false,false,false,⟨#[]⟩,0⟩:SThing)).fNext⟩⟩,⟨(),r6.2.fI,r6.2.fH⟩)
    else
     some (⟨r0.1,⟨#[]⟩,0,⟨(b_1.fThings.getD r6.1.toNat (⟨0,0,false,false,false,false,⟨#[]⟩,0⟩:SThing)).fId,(b_1.fThings.getD r6.1.toNat (⟨0,0,false,false,false,false,⟨#[]⟩,0⟩:SThing)).fKind,true,true,(b_1.fThings.getD r6.1.toNat (⟨0,0,false,false,false,false,⟨#[]⟩,0⟩:SThing)).fSigns,(b_1.fThings.getD r6.1.toNat (⟨0,0,false,false,false,false,⟨#[]⟩,0⟩:SThing)).fWraps,(b_1.fThings.getD r6.1.toNat (⟨0,0,false,false,false,false,⟨#[]⟩,0⟩:SThing)).fValue,(b_1.fThings.getD r6.1.toNat (⟨0,0,false,false,false,false,⟨#[]⟩,0⟩:SThing)).fNext⟩⟩,⟨(),r6.2.fI,r6.2.fH⟩)
    else
    (z5 ⟨(),r6.2.fI,r6.2.fH⟩ 2).bind fun r8=>
    bif ((b_1.fThings.getD r6.1.toNat (⟨0,0,false,false,false,false,⟨#[]⟩,0⟩:SThing)).fKind == 2) then
     bif (decide ((b_1.fThings.getD r6.1.toNat (⟨0,0,false,false,false,false,⟨#[]⟩,0⟩:SThing)).fNext<16)) then
     (z3 ⟨(),r8.2.fI,r8.2.fH⟩ 2).bind fun r9=>
     some (⟨r0.1,⟨#[]⟩,0,⟨(b_1.fThings.getD r6.1.toNat (⟨0,0,false,false,false,false,⟨#[]⟩,0⟩:SThing)).fId,(b_1.fThings.getD r6.1.toNat (⟨0,0,false,false,false,false,⟨#[]⟩,0⟩:SThing)).fKind,true,r8.1,(b_1.fThings.getD r6.1.toNat (⟨0,0,false,false,false,false,⟨#[]⟩,0⟩:SThing)).fSigns,(b_1.fThings.getD r6.1.toNat (⟨0,0,false,false,false,false,⟨#[]⟩,0⟩:SThing)).fWraps,(b_1.fThings.getD r6.1.toNat (⟨0,0,false,false,false,false,⟨#[]⟩,0⟩:SThing)).fValue,(w64 ((b_1.fThings.getD r6.1.toNat (⟨0,0,false,false,false,false,⟨#[]⟩,0⟩:SThing)).fNext+r9.1))⟩⟩,⟨(),r9.2.fI,r9.2.fH⟩)
     else
     some (⟨r0.1,⟨#[]⟩,0,⟨(b_1.fThings.getD r6.1.toNat (⟨0,0,false,false,false,false,⟨#[]⟩,0⟩:SThing)).fId,(b_1.fThings.getD r6.1.toNat (⟨0,0,false,false,false,false,⟨#[]⟩,0⟩:SThing)).fKind,true,r8.1,(b_1.fThings.getD r6.1.toNat (⟨0,0,false,false,false,false,⟨#[]⟩,0⟩:SThing)).fSigns,(b_1.fThings.getD r6.1.toNat (⟨0,0,false,false,false,false,⟨#[]⟩,0⟩:SThing)).fWraps,(b_1.fThings.getD r6.1.toNat (⟨0,0,false,false,false,false,⟨#[]⟩,0⟩:SThing)).fValue,(b_1.fThings.getD r6.1.toNat (⟨0,0,false,false,false,false,⟨#[]⟩,0⟩:SThing)).fNext⟩⟩,⟨(),r8.2.fI,r8.2.fH⟩)
    else
     some (⟨r0.1,⟨#[]⟩,0,⟨(b_1.fThings.getD r6.1.toNat (⟨0,0,false,false,false,false,⟨#[]⟩,0⟩:SThing)).fId,(b_1.fThings.getD r6.1.toNat (⟨0,0,false,false,false,false,⟨#[]⟩,0⟩:SThing)).fKind,true,r8.1,(b_1.fThings.getD r6.1.toNat (⟨0,0,false,false,false,false,⟨#[]⟩,0⟩:SThing)).fSigns,(b_1.fThings.getD r6.1.toNat (⟨0,0,false,false,false,false,⟨#[]⟩,0⟩:SThing)).fWraps,(b_1.fThings.getD r6.1.toNat (⟨0,0,false,false,false,false,⟨#[]⟩,0⟩:SThing)).fValue,(b_1.fThings.getD r6.1.toNat (⟨0,0,false,false,false,false,⟨#[]⟩,0⟩:SThing)).fNext⟩⟩,⟨(),r8.2.fI,r8.2.fH⟩)
   else
    (z5 ⟨(),r6.2.fI,r6.2.fH⟩ 2).bind fun r10=>
    bif (b_1.fThings.getD r6.1.toNat (⟨0,0,false,false,false,false,⟨#[]⟩,0⟩:SThing)).fFixed then
    bif ((b_1.fThings.getD r6.1.toNat (⟨0,0,false,false,false,false,⟨#[]⟩,0⟩:SThing)).fKind == 2) then
     bif (decide ((b_1.fThings.getD r6.1.toNat (⟨0,0,false,false,false,false,⟨#[]⟩,0⟩:SThing)).fNext<16)) then
     (z3 ⟨(),r10.2.fI,r10.2.fH⟩ 2).bind fun r11=>
     some (⟨r0.1,⟨#[]⟩,0,⟨(b_1.fThings.getD r6.1.toNat (⟨0,0,false,false,false,false,⟨#[]⟩,0⟩:SThing)).fId,(b_1.fThings.getD r6.1.toNat (⟨0,0,false,false,false,false,⟨#[]⟩,0⟩:SThing)).fKind,r10.1,true,(b_1.fThings.getD r6.1.toNat (⟨0,0,false,false,false,false,⟨#[]⟩,0⟩:SThing)).fSigns,(b_1.fThings.getD r6.1.toNat (⟨0,0,false,false,false,false,⟨#[]⟩,0⟩:SThing)).fWraps,(b_1.fThings.getD r6.1.toNat (⟨0,0,false,false,false,false,⟨#[]⟩,0⟩:SThing)).fValue,(w64 ((b_1.fThings.getD r6.1.toNat (⟨0,0,false,false,false,false,⟨#[]⟩,0⟩:SThing)).fNext+r11.1))⟩⟩,⟨(),r11.2.fI,r11.2.fH⟩)
     else
     some (⟨r0.1,⟨#[]⟩,0,⟨(b_1.fThings.getD r6.1.toNat (⟨0,0,false,false,false,false,⟨#[]⟩,0⟩:SThing)).fId,(b_1.fThings.getD r6.1.toNat (⟨0,0,false,false,false,false,⟨#[]⟩,0⟩:SThing)).fKind,r10.1,true,(b_1.fThings.getD r6.1.toNat (⟨0,0,false,false,false,false,⟨#[]⟩,0⟩:SThing)).fSigns,(b_1.fThings.getD r6.1.toNat (⟨0,0,false,false,false,false,⟨#[]⟩,0⟩:SThing)).fWraps,(b_1.fThings.getD r6.1.toNat (⟨0,0,false,false,false,false,⟨#[]⟩,0⟩:SThing)).fValue,(b_1.fThings.getD r6.1.toNat (⟨0,0,false,false,false,false,⟨#[]⟩,0⟩:SThing)).fNext⟩⟩,⟨(),r10.2.fI,r10.2.fH⟩)
    else
     some (⟨r0.1,⟨#[]⟩,0,⟨(b_1.fThings.getD r6.1.toNat (⟨0,0,false,false,false,false,⟨#[]⟩,0⟩:SThing)).fId,(b_1.fThings.getD r6.1.toNat (⟨0,0,false,false,false,false,⟨#[]⟩,0⟩:SThing)).fKind,r10.1,true,(b_1.fThings.getD r6.1.toNat (⟨0,0,false,false,false,false,⟨#[]⟩,0⟩:SThing)).fSigns,(b_1.fThings.getD r6.1.toNat (⟨0,0,false,false,false,false,⟨#[]⟩,0⟩:SThing)).fWraps,(b_1.fThings.getD r6.1.toNat (⟨0,0,false,false,false,false,⟨#[]⟩,0⟩:SThing)).fValue,(b_1.fThings.getD r6.1.toNat (⟨0,0,false,false,false,false,⟨#[]⟩,0⟩:SThing)).fNext⟩⟩,⟨(),r10.2.fI,r10.2.fH⟩)
    else
    (z5 ⟨(),r10.2.fI,r10.2.fH⟩ 2).bind fun r12=>
    bif ((b_1.fThings.getD r6.1.toNat (⟨0,0,false,false,false,false,⟨#[]⟩,0⟩:SThing)).fKind == 2) then
     bif (decide ((b_1.fThings.getD r6.1.toNat (⟨0,0,false,false,false,false,⟨#[]⟩,0⟩:SThing)).fNext<16)) then
     (z3 ⟨(),r12.2.fI,r12.2.fH⟩ 2).bind fun r13=>
     some (⟨r0.1,⟨#[]⟩,0,⟨(b_1.fThings.getD r6.1.toNat (⟨0,0,false,false,false,false,⟨#[]⟩,0⟩:SThing)).fId,(b_1.fThings.getD r6.1.toNat (⟨0,0,false,false,false,false,⟨#[]⟩,0⟩:SThing)).fKind,r10.1,r12.1,(b_1.fThings.getD r6.1.toNat (⟨0,0,false,false,false,false,⟨#[]⟩,0⟩:SThing)).fSigns,(b_1.fThings.getD r6.1.toNat (⟨0,0,false,false,false,false,⟨#[]⟩,0⟩:SThing)).fWraps,(b_1.fThings.getD r6.1.toNat (⟨0,0,false,false,false,false,⟨#[]⟩,0⟩:SThing)).fValue,(w64 ((b_1.fThings.getD r6.1.toNat (⟨0,0,false,false,false,false,⟨#[]⟩,0⟩:SThing)).fNext+r13.1))⟩⟩,⟨(),r13.2.fI,r13.2.fH⟩)
     else
     some (⟨r0.1,⟨#[]⟩,0,⟨(b_1.fThings.getD r6.1.toNat (⟨0,0,false,false,false,false,⟨#[]⟩,0⟩:SThing)).fId,(b_1.fThings.getD r6.1.toNat (⟨0,0,false,false,false,false,⟨#[]⟩,0⟩:SThing)).fKind,r10.1,r12.1,(b_1.fThings.getD r6.1.toNat (⟨0,0,false,false,false,false,⟨#[]⟩,0⟩:SThing)).fSigns,(b_1.fThings.getD r6.1.toNat (⟨0,0,false,false,false,false,⟨#[]⟩,0⟩:SThing)).fWraps,(b_1.fThings.getD r6.1.toNat (⟨0,0,false,false,false,false,⟨#[]⟩,0⟩:SThing)).fValue,(b_1.fThings.getD r6.1.toNat (⟨0,0,false,false,false,false,⟨#[]⟩,0⟩:SThing)).fNext⟩⟩,⟨(),r12.2.fI,r12.2.fH⟩)
    else
     some (⟨r0.1,⟨#[]⟩,0,⟨(b_1.fThings.getD r6.1.toNat (⟨0,0,false,false,false,false,⟨#[]⟩,0⟩:SThing)).fId,(b_1.fThings.getD r6.1.toNat (⟨0,0,false,false,false,false,⟨#[]⟩,0⟩:SThing)).fKind,r10.1,r12.1,(b_1.fThings.getD r6.1.toNat (⟨0,0,false,false,false,false,⟨#[]⟩,0⟩:SThing)).fSigns,(b_1.fThings.getD r6.1.toNat (⟨0,0,false,false,false,false,⟨#[]⟩,0⟩:SThing)).fWraps,(b_1.fThings.getD r6.1.toNat (⟨0,0,false,false,false,false,⟨#[]⟩,0⟩:SThing)).fValue,(b_1.fThings.getD r6.1.toNat (⟨0,0,false,false,false,false,⟨#[]⟩,0⟩:SThing)).fNext⟩⟩,⟨(),r12.2.fI,r12.2.fH⟩)
   else none
   else
   some (⟨r0.1,⟨#[]⟩,0,⟨(w64 (b_1.fLast+1)),r4.1.fKind,r4.1.fHidden,r4.1.fFixed,r4.1.fSigns,r4.1.fWraps,r4.1.fValue,r4.1.fNext⟩⟩,⟨(),r5.2.fI,r5.2.fH⟩)
  else
   some (⟨r0.1,⟨#[]⟩,0,⟨(w64 (b_1.fLast+1)),r4.1.fKind,r4.1.fHidden,r4.1.fFixed,r4.1.fSigns,r4.1.fWraps,r4.1.fValue,r4.1.fNext⟩⟩,⟨(),r4.2.fI,r4.2.fH⟩)
  else
  bif (r0.1 == 4) then
   (z3 ⟨(),r0.2.fI,r0.2.fH⟩ 6).bind fun r14=>
   bif (decide ((b_1.fThings.length:Int) > 0)) then
   (z3 ⟨(),r14.2.fI,r14.2.fH⟩ (b_1.fThings.length:Int)).bind fun r15=>
   bif ((decide (0≤r15.1)) && (decide (r15.1<(b_1.fThings.length:Int)))) then
   some (⟨r0.1,⟨#[]⟩,(b_1.fThings.getD r15.1.toNat (⟨0,0,false,false,false,false,⟨#[]⟩,0⟩:SThing)).fId,⟨0,0,false,false,false,false,⟨#[]⟩,0⟩⟩,⟨(),r15.2.fI,r15.2.fH⟩)
   else none
   else
   some (⟨r0.1,⟨#[]⟩,(w64 (1+r14.1)),⟨0,0,false,false,false,false,⟨#[]⟩,0⟩⟩,⟨(),r14.2.fI,r14.2.fH⟩)
  else
   some (⟨r0.1,⟨#[]⟩,0,⟨0,0,false,false,false,false,⟨#[]⟩,0⟩⟩,⟨(),r0.2.fI,r0.2.fH⟩)
noncomputable def Qb:Ji:=Rt Ci Yc NZ OY Ii Ob
theorem Y2:Tells ctx PP 94 cv41 cv42 (fun a=>Qb a.1 a.2):=fn_ok0 (hc NAB (hc U1 (hc En (hc Ic (hc RAB (hc Et hl_nil)))))) Tryd.func94 ((fun z0 z1 z2 z3 z4 z5 a=>by kernel_rfl:∀ z0 z1 z2 z3 z4 z5,EntryIs0 ctx PP 94 [0] [(105,OAB z0),(122,Y1 z1),(60,Xh z2),(57,Za z3),(113,SAB z4),(54,Gt z5)] cv41 cv42 fun a=>Rt z0 z1 z2 z3 z4 z5 a.1 a.2) Ci Yc NZ OY Ii Ob)
noncomputable def Tt {γ:Type} (F:Ji):Hd ctx γ:=hdl cv41.dec (fun a=>F a.1 a.2) cv42.enc
abbrev Oi:=Int→Option ByteArray
inductive Qi where
 | c0 (n_0:Int) (out_3:(List Int))
noncomputable def J3:Qi→LI
 | .c0 n_0 out_3=>(tdo Tryd.f78 224,[(0,[.one (.int .i64 n_0)]),(3,[.one (.own 240)])],[(240,.sl 5 out_3)])
noncomputable def O3 (k:Qi→Option ByteArray) (n_0:Int):Option ByteArray:=
 k (.c0 n_0 [])
noncomputable def Tn (k:Qi→Option ByteArray):Qi→Option ByteArray
 | .c0 n_0 out_3=>
 bif (decide (n_0 > 127)) then
  bif (decide (((out_3.length+1)*1)≤140737488355328)) then
  k (.c0 (w64 (n_0.tdiv 128)) (out_3++[(w8 (w64 ((n_0.tmod 128)+128)))]))
  else none
 else
  bif (decide (((out_3.length+1)*1)≤140737488355328)) then
  some (ofBytes (out_3++[(w8 n_0)]))
  else none
noncomputable def Ri:Nat→Qi→Option ByteArray
 | 0,_=>none
 | m+1,s=>Tn (Ri m) s
noncomputable def Jc:Oi:=O3 (Ri gas)
theorem Ut:Tells ctx PP 78 cv14 cv9 (fun a=>Jc a):=
 have b:CutIs ctx PP 78 Tryd.f78 [] [] cv9 J3 (Tn):=fun _ s=>by cases s <;> kernel_rfl
 have e:EntryIs ctx PP 78 [] [] cv14 cv9 J3 (fun k a=>O3 k a):=fun _ a=>by kernel_rfl
 fn_ok hl_nil Tryd.func78 (fun s s' h=>by cases s;cases s';cases h;rfl) (fun _=>rfl) (fun _ _=>rfl) b e gas
noncomputable def Vt {γ:Type} (F:Oi):Hd ctx γ:=hdl cv14.dec (fun a=>F a) cv9.enc
abbrev Si:=SThing→Option Bool
noncomputable def Xt (z0:Qc) (x_0:SThing):Option Bool:=
 (z0 x_0.fId 1 1000).bind fun r0=>
 bif (!r0) then
 some false
 else
 (z0 x_0.fKind 1 3).bind fun r1=>
 bif (!r1) then
  some false
 else
  (z0 x_0.fNext 0 16).bind fun r2=>
  bif (!r2) then
  some false
  else
  bif (x_0.fKind != 2) then
   bif (x_0.fNext != 0) then
   some false
   else
   bif x_0.fSigns then
    some false
   else
    bif (x_0.fKind != 1) then
    bif x_0.fWraps then
     some false
    else
     bif (x_0.fKind == 3) then
     some (decide ((x_0.fValue.size:Int)≤100))
     else
     some ((x_0.fValue.size:Int) == 32)
    else
    bif (x_0.fKind == 3) then
     some (decide ((x_0.fValue.size:Int)≤100))
    else
     some ((x_0.fValue.size:Int) == 32)
  else
   bif (x_0.fKind != 1) then
   bif x_0.fWraps then
    some false
   else
    bif (x_0.fKind == 3) then
    some (decide ((x_0.fValue.size:Int)≤100))
    else
    some ((x_0.fValue.size:Int) == 32)
   else
   bif (x_0.fKind == 3) then
    some (decide ((x_0.fValue.size:Int)≤100))
   else
    some ((x_0.fValue.size:Int) == 32)
noncomputable def Ub:Si:=Xt WZ
theorem U3:Tells ctx PP 17 cv30 cv1 (fun a=>Ub a):=fn_ok0 (hc Qm hl_nil) Tryd.func17 ((fun z0 a=>by kernel_rfl:∀ z0,EntryIs0 ctx PP 17 [] [(63,Jh z0)] cv30 cv1 fun a=>Xt z0 a) WZ)
noncomputable def Yt {γ:Type} (F:Si):Hd ctx γ:=hdl cv30.dec (fun a=>F a) cv1.enc
abbrev Zt:=Bool→Int→Option Int
noncomputable def V3 (x_0:Bool) (n_1:Int):Option Int:=
 bif x_0 then
 some n_1
 else
 some 0
noncomputable def Un:Zt:=V3
theorem TAB:Tells ctx PP 144 cv43 cv14 (fun a=>Un a.1 a.2):=fn_ok0 hl_nil Tryd.func144 (fun a=>by kernel_rfl:EntryIs0 ctx PP 144 [] [] cv43 cv14 fun a=>V3 a.1 a.2)
noncomputable def UAB {γ:Type} (F:Zt):Hd ctx γ:=hdl cv43.dec (fun a=>F a.1 a.2) cv14.enc
abbrev Au:=Int→Option ByteArray
noncomputable def Du (n_0:Int):Option ByteArray:=
 bif (decide ((n_0.tmod 256)<0)) then
 some (ofBytes [(w8 (w64 ((n_0.tmod 256)+256)))])
 else
 some (ofBytes [(w8 (n_0.tmod 256))])
noncomputable def Ti:Au:=Du
theorem VAB:Tells ctx PP 116 cv14 cv9 (fun a=>Ti a):=fn_ok0 hl_nil Tryd.func116 (fun a=>by kernel_rfl:EntryIs0 ctx PP 116 [] [] cv14 cv9 fun a=>Du a)
noncomputable def WAB {γ:Type} (F:Au):Hd ctx γ:=hdl cv14.dec (fun a=>F a) cv9.enc
abbrev Eu:=ByteArray→Option ByteArray
noncomputable def Gu (z0:Oi) (s_0:ByteArray):Option ByteArray:=
 (z0 (s_0.size:Int)).bind fun r0=>
 bif (decide ((r0.size+s_0.size)≤9223372036854775807)) then
 some (r0++s_0)
 else none
noncomputable def Ui:Eu:=Gu Jc
theorem XAB:Tells ctx PP 145 cv9 cv9 (fun a=>Ui a):=fn_ok0 (hc Ut hl_nil) Tryd.func145 ((fun z0 a=>by kernel_rfl:∀ z0,EntryIs0 ctx PP 145 [] [(78,Vt z0)] cv9 cv9 fun a=>Gu z0 a) Jc)
noncomputable def YAB {γ:Type} (F:Eu):Hd ctx γ:=hdl cv9.dec (fun a=>F a) cv9.enc
abbrev Hu:=SThing→Option (ByteArray×Bool)
noncomputable def Iu (z0:Si) (z1:Zt) (z2:Oi) (z3:Au) (z4:Eu) (x_0:SThing):Option (ByteArray×Bool):=
 (z0 x_0).bind fun r0=>
 bif (!r0) then
 some (⟨#[]⟩,false)
 else
 (z1 x_0.fHidden 1).bind fun r1=>
 (z1 x_0.fFixed 2).bind fun r2=>
 (z1 x_0.fSigns 4).bind fun r3=>
 (z1 x_0.fWraps 8).bind fun r4=>
 (z2 x_0.fId).bind fun r5=>
 (z3 x_0.fKind).bind fun r6=>
 bif (decide ((r5.size+r6.size)≤9223372036854775807)) then
 (z3 (w64 ((w64 ((w64 (r1+r2))+r3))+r4))).bind fun r7=>
 bif (decide (((r5++r6).size+r7.size)≤9223372036854775807)) then
 (z4 x_0.fValue).bind fun r8=>
 bif (decide ((((r5++r6)++r7).size+r8.size)≤9223372036854775807)) then
 (z2 x_0.fNext).bind fun r9=>
 bif (decide (((((r5++r6)++r7)++r8).size+r9.size)≤9223372036854775807)) then
 some (((((r5++r6)++r7)++r8)++r9),true)
 else none
 else none
 else none
 else none
noncomputable def Wi:Hu:=Iu Ub Un Jc Ti Ui
theorem ZAB:Tells ctx PP 121 cv30 cv33 (fun a=>Wi a):=fn_ok0 (hc U3 (hc TAB (hc Ut (hc VAB (hc XAB hl_nil))))) Tryd.func121 ((fun z0 z1 z2 z3 z4 a=>by kernel_rfl:∀ z0 z1 z2 z3 z4,EntryIs0 ctx PP 121 [] [(17,Yt z0),(144,UAB z1),(78,Vt z2),(116,WAB z3),(145,YAB z4)] cv30 cv33 fun a=>Iu z0 z1 z2 z3 z4 a) Ub Un Jc Ti Ui)
noncomputable def AAC {γ:Type} (F:Hu):Hd ctx γ:=hdl cv30.dec (fun a=>F a) cv33.enc
abbrev Wn:=SRec→Option (ByteArray×Bool)
noncomputable def Ju (z0:Qc) (z1:Oi) (z2:Hu) (r_0:SRec):Option (ByteArray×Bool):=
 bif (r_0.fKind == 1) then
 bif ((r_0.fText.size:Int) == 32) then
  bif (r_0.fNum == 0) then
  bif ((r_0.fThing.fId == 0) && ((r_0.fThing.fKind == 0) && ((r_0.fThing.fHidden == false) && ((r_0.fThing.fFixed == false) && ((r_0.fThing.fSigns == false) && ((r_0.fThing.fWraps == false) && (((ByteArray.toList r_0.fThing.fValue) == (ByteArray.toList ⟨#[]⟩)) && ((r_0.fThing.fNext == 0) && true)))))))) then
   bif (decide (((⟨#[1]⟩:ByteArray).size+r_0.fText.size)≤9223372036854775807)) then
   some (((⟨#[1]⟩:ByteArray)++r_0.fText),true)
   else none
  else
   some (⟨#[]⟩,false)
  else
  some (⟨#[]⟩,false)
 else
  some (⟨#[]⟩,false)
 else
 bif (r_0.fKind == 2) then
  bif ((ByteArray.toList r_0.fText) == (ByteArray.toList ⟨#[]⟩)) then
  bif ((r_0.fThing.fId == 0) && ((r_0.fThing.fKind == 0) && ((r_0.fThing.fHidden == false) && ((r_0.fThing.fFixed == false) && ((r_0.fThing.fSigns == false) && ((r_0.fThing.fWraps == false) && (((ByteArray.toList r_0.fThing.fValue) == (ByteArray.toList ⟨#[]⟩)) && ((r_0.fThing.fNext == 0) && true)))))))) then
   (z0 r_0.fNum 0 3).bind fun r0=>
   bif r0 then
   (z1 r_0.fNum).bind fun r1=>
   bif (decide (((⟨#[2]⟩:ByteArray).size+r1.size)≤9223372036854775807)) then
   some (((⟨#[2]⟩:ByteArray)++r1),true)
   else none
   else
   some (⟨#[]⟩,false)
  else
   some (⟨#[]⟩,false)
  else
  some (⟨#[]⟩,false)
 else
  bif (r_0.fKind == 3) then
  (z2 r_0.fThing).bind fun r2=>
  bif r2.2 then
   bif ((ByteArray.toList r_0.fText) == (ByteArray.toList ⟨#[]⟩)) then
   bif (r_0.fNum == 0) then
    bif (decide (((⟨#[3]⟩:ByteArray).size+r2.1.size)≤9223372036854775807)) then
    some (((⟨#[3]⟩:ByteArray)++r2.1),true)
    else none
   else
    some (⟨#[]⟩,false)
   else
   some (⟨#[]⟩,false)
  else
   some (⟨#[]⟩,false)
  else
  bif (r_0.fKind == 4) then
   bif ((ByteArray.toList r_0.fText) == (ByteArray.toList ⟨#[]⟩)) then
   bif ((r_0.fThing.fId == 0) && ((r_0.fThing.fKind == 0) && ((r_0.fThing.fHidden == false) && ((r_0.fThing.fFixed == false) && ((r_0.fThing.fSigns == false) && ((r_0.fThing.fWraps == false) && (((ByteArray.toList r_0.fThing.fValue) == (ByteArray.toList ⟨#[]⟩)) && ((r_0.fThing.fNext == 0) && true)))))))) then
    (z0 r_0.fNum 1 1000).bind fun r3=>
    bif r3 then
    (z1 r_0.fNum).bind fun r4=>
    bif (decide (((⟨#[4]⟩:ByteArray).size+r4.size)≤9223372036854775807)) then
    some (((⟨#[4]⟩:ByteArray)++r4),true)
    else none
    else
    some (⟨#[]⟩,false)
   else
    some (⟨#[]⟩,false)
   else
   some (⟨#[]⟩,false)
  else
   some (⟨#[]⟩,false)
noncomputable def Ad:Wn:=Ju WZ Jc Wi
theorem BAC:Tells ctx PP 86 cv44 cv33 (fun a=>Ad a):=fn_ok0 (hc Qm (hc Ut (hc ZAB hl_nil))) Tryd.func86 ((fun z0 z1 z2 a=>by kernel_rfl:∀ z0 z1 z2,EntryIs0 ctx PP 86 [] [(63,Jh z0),(78,Vt z1),(121,AAC z2)] cv44 cv33 fun a=>Ju z0 z1 z2 a) WZ Jc Wi)
noncomputable def X3 {γ:Type} (F:Wn):Hd ctx γ:=hdl cv44.dec (fun a=>F a) cv33.enc
abbrev Xn:=SBook→Option Bool
inductive Xi where
 | c0 (i_3:Int) (b_1:SBook)
noncomputable def Y3:Xi→LI
 | .c0 i_3 b_1=>(tdo Tryd.f37 464,[(1,[.one (.ptr 64 0)]),(3,[.one (.int .i64 i_3)])],[(64,.var [.str b_1.fWord,.int .i64 b_1.fTries,.rsl 27 b_1.fThings,.int .i64 b_1.fLast,.str b_1.fChain,.int .i64 b_1.fCount])])
noncomputable def Ku (z0:Qc) (z1:Si) (k:Xi→Option Bool) (b_0:SBook):Option Bool:=
 bif ((b_0.fWord.size:Int) != 32) then
 some false
 else
 bif ((b_0.fChain.size:Int) != 32) then
  some false
 else
  (z0 b_0.fTries 0 3).bind fun r0=>
  bif (!r0) then
  some false
  else
  bif (decide ((b_0.fThings.length:Int) > 8)) then
   some false
  else
   (z0 b_0.fLast 0 1000).bind fun r1=>
   bif (!r1) then
   some false
   else
   (z0 b_0.fCount 0 10000).bind fun r2=>
   bif (!r2) then
    some false
   else
    k (.c0 0 b_0)
noncomputable def Yn (z0:Qc) (z1:Si) (k:Xi→Option Bool):Xi→Option Bool
 | .c0 i_3 b_1=>
 bif (decide (i_3<(b_1.fThings.length:Int))) then
  bif ((decide (0≤i_3)) && (decide (i_3<(b_1.fThings.length:Int)))) then
  (z1 (b_1.fThings.getD i_3.toNat (⟨0,0,false,false,false,false,⟨#[]⟩,0⟩:SThing))).bind fun r0=>
  bif (!r0) then
  some false
  else
  bif ((decide (0≤i_3)) && (decide (i_3<(b_1.fThings.length:Int)))) then
  bif (decide ((b_1.fThings.getD i_3.toNat (⟨0,0,false,false,false,false,⟨#[]⟩,0⟩:SThing)).fId > b_1.fLast)) then
   some false
  else
   bif (decide (i_3 > 0)) then
   bif ((decide (0≤(w64 (i_3 - 1)))) && (decide ((w64 (i_3 - 1))<(b_1.fThings.length:Int)))) then
   bif ((decide (0≤i_3)) && (decide (i_3<(b_1.fThings.length:Int)))) then
   bif (decide ((b_1.fThings.getD (w64 (i_3 - 1)).toNat (⟨0,0,false,false,false,false,⟨#[]⟩,0⟩:SThing)).fId≥(b_1.fThings.getD i_3.toNat (⟨0,0,false,false,false,false,⟨#[]⟩,0⟩:SThing)).fId)) then
    some false
   else
    k (.c0 (w64 (i_3+1)) b_1)
   else none
   else none
   else
   k (.c0 (w64 (i_3+1)) b_1)
  else none
  else none
 else
  some true
noncomputable def Bd:Nat→Xi→Option Bool
 | 0,_=>none
 | m+1,s=>Yn WZ Ub (Bd m) s
noncomputable def Ed:Xn:=Ku WZ Ub (Bd gas)
theorem CAC:Tells ctx PP 37 cv45 cv1 (fun a=>Ed a):=
 have b:∀ z0 z1,CutIs ctx PP 37 Tryd.f37 [] [(63,Jh z0),(17,Yt z1)] cv1 Y3 (Yn z0 z1):=fun z0 z1 _ s=>by cases s <;> kernel_rfl
 have e:∀ z0 z1,EntryIs ctx PP 37 [] [(63,Jh z0),(17,Yt z1)] cv45 cv1 Y3 (fun k a=>Ku z0 z1 k a):=fun z0 z1 _ a=>by kernel_rfl
 fn_ok (hc Qm (hc U3 hl_nil)) Tryd.func37 (fun s s' h=>by cases s;cases s';(repeat cases ‹SBook›);cases h;rfl) (fun _=>rfl) (fun _ _=>rfl) (b WZ Ub) (e WZ Ub) gas
noncomputable def I4 {γ:Type} (F:Xn):Hd ctx γ:=hdl cv45.dec (fun a=>F a) cv1.enc
abbrev Xf:=SBook→Option SBook
noncomputable def Lu (b_0:SBook):Option SBook:=
 bif (decide (((0+b_0.fThings.length)*48)≤140737488355328)) then
 some ⟨b_0.fWord,b_0.fTries,([]++b_0.fThings),b_0.fLast,b_0.fChain,b_0.fCount⟩
 else none
noncomputable def Ia:Xf:=Lu
theorem J4:Tells ctx PP 87 cv45 cv40 (fun a=>Ia a):=fn_ok0 hl_nil Tryd.func87 (fun a=>by kernel_rfl:EntryIs0 ctx PP 87 [] [] cv45 cv40 fun a=>Lu a)
noncomputable def Zn {γ:Type} (F:Xf):Hd ctx γ:=hdl cv45.dec (fun a=>F a) cv40.enc
abbrev Bo:=SBook→Int→Option (SThing×Bool)
inductive Yi where
 | c0 (id_1:Int) (i_6:Int) (b_2:SBook) (v_4:SThing)
noncomputable def O4:Yi→LI
 | .c0 id_1 i_6 b_2 v_4=>(tdo Tryd.f88 208,[(1,[.one (.int .i64 id_1)]),(2,[.one (.ptr 128 0)]),(4,[.one (.ptr 256 0)]),(6,[.one (.int .i64 i_6)])],[(128,.var [.str b_2.fWord,.int .i64 b_2.fTries,.rsl 27 b_2.fThings,.int .i64 b_2.fLast,.str b_2.fChain,.int .i64 b_2.fCount]),(256,.var [.int .i64 v_4.fId,.int .i64 v_4.fKind,.bool v_4.fHidden,.bool v_4.fFixed,.bool v_4.fSigns,.bool v_4.fWraps,.str v_4.fValue,.int .i64 v_4.fNext])])
noncomputable def U4 (k:Yi→Option (SThing×Bool)) (b_0:SBook) (id_1:Int):Option (SThing×Bool):=
 k (.c0 id_1 0 b_0 ⟨0,0,false,false,false,false,⟨#[]⟩,0⟩)
noncomputable def Eo (k:Yi→Option (SThing×Bool)):Yi→Option (SThing×Bool)
 | .c0 id_1 i_6 b_2 v_4=>
 bif (decide (i_6<(b_2.fThings.length:Int))) then
  bif ((decide (0≤i_6)) && (decide (i_6<(b_2.fThings.length:Int)))) then
  bif ((b_2.fThings.getD i_6.toNat (⟨0,0,false,false,false,false,⟨#[]⟩,0⟩:SThing)).fId == id_1) then
  bif ((decide (0≤i_6)) && (decide (i_6<(b_2.fThings.length:Int)))) then
  some ((b_2.fThings.getD i_6.toNat (⟨0,0,false,false,false,false,⟨#[]⟩,0⟩:SThing)),true)
  else none
  else
  k (.c0 id_1 (w64 (i_6+1)) b_2 v_4)
  else none
 else
  some (⟨0,0,false,false,false,false,⟨#[]⟩,0⟩,false)
noncomputable def Yf:Nat→Yi→Option (SThing×Bool)
 | 0,_=>none
 | m+1,s=>Eo (Yf m) s
noncomputable def Zf:Bo:=U4 (Yf gas)
theorem DAC:Tells ctx PP 88 cv46 cv18 (fun a=>Zf a.1 a.2):=
 have b:CutIs ctx PP 88 Tryd.f88 [] [] cv18 O4 (Eo):=fun _ s=>by cases s <;> kernel_rfl
 have e:EntryIs ctx PP 88 [] [] cv46 cv18 O4 (fun k a=>U4 k a.1 a.2):=fun _ a=>by kernel_rfl
 fn_ok hl_nil Tryd.func88 (fun s s' h=>by cases s;cases s';(repeat cases ‹SBook›);(repeat cases ‹SThing›);cases h;rfl) (fun _=>rfl) (fun _ _=>rfl) b e gas
noncomputable def V4 {γ:Type} (F:Bo):Hd ctx γ:=hdl cv46.dec (fun a=>F a.1 a.2) cv18.enc
abbrev Ho:=SThing→SThing→Option Bool
noncomputable def Nu (a_0:SThing) (b_1:SThing):Option Bool:=
 bif (a_0.fKind == b_1.fKind) then
 bif ((ByteArray.toList a_0.fValue) == (ByteArray.toList b_1.fValue)) then
  bif (a_0.fSigns == b_1.fSigns) then
  bif (a_0.fWraps == b_1.fWraps) then
   bif (decide (a_0.fNext≤b_1.fNext)) then
   bif b_1.fHidden then
    bif b_1.fFixed then
    some true
    else
    some (!a_0.fFixed)
   else
    bif (!a_0.fHidden) then
    bif b_1.fFixed then
     some true
    else
     some (!a_0.fFixed)
    else
    some false
   else
   some false
  else
   some false
  else
  some false
 else
  some false
 else
 some false
noncomputable def Jd:Ho:=Nu
theorem EAC:Tells ctx PP 89 cv47 cv1 (fun a=>Jd a.1 a.2):=fn_ok0 hl_nil Tryd.func89 (fun a=>by kernel_rfl:EntryIs0 ctx PP 89 [] [] cv47 cv1 fun a=>Nu a.1 a.2)
noncomputable def X4 {γ:Type} (F:Ho):Hd ctx γ:=hdl cv47.dec (fun a=>F a.1 a.2) cv1.enc
abbrev Io:=(List SThing)→SThing→Option (List SThing)
inductive Zi where
 | c0 (list_0:(List SThing)) (i_6:Int) (x_3:SThing) (out_5:(List SThing))
 | c1 (list_0:(List SThing)) (i_7:Int) (x_3:SThing) (out_5:(List SThing))
noncomputable def Y4:Zi→LI
 | .c0 list_0 i_6 x_3 out_5=>(tdo Tryd.f90 464,[(0,[.one (.rsl 27 list_0)]),(3,[.one (.ptr 192 0)]),(5,[.one (.own 368)]),(6,[.one (.int .i64 i_6)])],[(192,.var [.int .i64 x_3.fId,.int .i64 x_3.fKind,.bool x_3.fHidden,.bool x_3.fFixed,.bool x_3.fSigns,.bool x_3.fWraps,.str x_3.fValue,.int .i64 x_3.fNext]),(368,.sl 27 out_5)])
 | .c1 list_0 i_7 x_3 out_5=>(tdo Tryd.f90 2000,[(0,[.one (.rsl 27 list_0)]),(3,[.one (.ptr 192 0)]),(5,[.one (.own 368)]),(7,[.one (.int .i64 i_7)])],[(192,.var [.int .i64 x_3.fId,.int .i64 x_3.fKind,.bool x_3.fHidden,.bool x_3.fFixed,.bool x_3.fSigns,.bool x_3.fWraps,.str x_3.fValue,.int .i64 x_3.fNext]),(368,.sl 27 out_5)])
noncomputable def Ou (k:Zi→Option (List SThing)) (list_0:(List SThing)) (x_1:SThing):Option (List SThing):=
 k (.c0 list_0 0 x_1 [])
noncomputable def Ag (k:Zi→Option (List SThing)):Zi→Option (List SThing)
 | .c0 list_0 i_6 x_3 out_5=>
 bif (decide (i_6<(list_0.length:Int))) then
  bif ((decide (0≤i_6)) && (decide (i_6<(list_0.length:Int)))) then
  bif (decide ((list_0.getD i_6.toNat (⟨0,0,false,false,false,false,⟨#[]⟩,0⟩:SThing)).fId<x_3.fId)) then
  bif ((decide (0≤i_6)) && (decide (i_6<(list_0.length:Int)))) then
  bif (decide (((out_5.length+1)*48)≤140737488355328)) then
  k (.c0 list_0 (w64 (i_6+1)) x_3 (out_5++[(list_0.getD i_6.toNat (⟨0,0,false,false,false,false,⟨#[]⟩,0⟩:SThing))]))
  else none
  else none
  else
  k (.c0 list_0 (w64 (i_6+1)) x_3 out_5)
  else none
 else
  bif (decide (((out_5.length+1)*48)≤140737488355328)) then
  k (.c1 list_0 0 x_3 (out_5++[x_3]))
  else none
 | .c1 list_0 i_7 x_3 out_5=>
 bif (decide (i_7<(list_0.length:Int))) then
  bif ((decide (0≤i_7)) && (decide (i_7<(list_0.length:Int)))) then
  bif (decide ((list_0.getD i_7.toNat (⟨0,0,false,false,false,false,⟨#[]⟩,0⟩:SThing)).fId > x_3.fId)) then
  bif ((decide (0≤i_7)) && (decide (i_7<(list_0.length:Int)))) then
  bif (decide (((out_5.length+1)*48)≤140737488355328)) then
  k (.c1 list_0 (w64 (i_7+1)) x_3 (out_5++[(list_0.getD i_7.toNat (⟨0,0,false,false,false,false,⟨#[]⟩,0⟩:SThing))]))
  else none
  else none
  else
  k (.c1 list_0 (w64 (i_7+1)) x_3 out_5)
  else none
 else
  some out_5
noncomputable def Vb:Nat→Zi→Option (List SThing)
 | 0,_=>none
 | m+1,s=>Ag (Vb m) s
noncomputable def Ld:Io:=Ou (Vb gas)
theorem FAC:Tells ctx PP 90 cv48 cv49 (fun a=>Ld a.1 a.2):=
 have b:CutIs ctx PP 90 Tryd.f90 [] [] cv49 Y4 (Ag):=fun _ s=>by cases s <;> kernel_rfl
 have e:EntryIs ctx PP 90 [] [] cv48 cv49 Y4 (fun k a=>Ou k a.1 a.2):=fun _ a=>by kernel_rfl
 fn_ok hl_nil Tryd.func90 (fun s s' h=>by cases s <;> cases s' <;> first | ((repeat cases ‹SThing›);cases h;done) | ((repeat cases ‹SThing›);cases h;rfl) | exact (rg_ne h (by kernel_rfl)).elim) (fun _=>rfl) (fun _ _=>rfl) b e gas
noncomputable def Z4 {γ:Type} (F:Io):Hd ctx γ:=hdl cv48.dec (fun a=>F a.1 a.2) cv49.enc
abbrev Bg:=SBook→SRec→Option (SBook×Bool)
inductive Aj where
 | c0 (y_6:ByteArray) (v_14:Int) (A_2:SBook) (r_3:SRec) (r_4c0:ByteArray) (r_4c1:Int) (r_4c3:Int) (r_4c4:ByteArray) (r_4c5:Int) (v_8c0:ByteArray) (v_8c1:Int) (v_8c3:Int) (v_8c4:ByteArray) (v_8c5:Int) (v_13:(List SThing)) (r_4r2:(List SThing)) (v_8r2:(List SThing))
noncomputable def D5:Aj→LI
 | .c0 y_6 v_14 A_2 r_3 r_4c0 r_4c1 r_4c3 r_4c4 r_4c5 v_8c0 v_8c1 v_8c3 v_8c4 v_8c5 v_13 r_4r2 v_8r2=>(tdo Tryd.f34 32898512,[(2,[.one (.ptr 128 0)]),(3,[.one (.ptr 192 0)]),(4,[.one (.ptr 256 0)]),(6,[.one (.str y_6)]),(8,[.one (.ptr 512 0)]),(13,[.one (.own 880)]),(14,[.one (.int .i64 v_14)])],[(128,.var [.str A_2.fWord,.int .i64 A_2.fTries,.rsl 27 A_2.fThings,.int .i64 A_2.fLast,.str A_2.fChain,.int .i64 A_2.fCount]),(192,.var [.int .i64 r_3.fKind,.str r_3.fText,.int .i64 r_3.fNum,.int .i64 r_3.fThing.fId,.int .i64 r_3.fThing.fKind,.bool r_3.fThing.fHidden,.bool r_3.fThing.fFixed,.bool r_3.fThing.fSigns,.bool r_3.fThing.fWraps,.str r_3.fThing.fValue,.int .i64 r_3.fThing.fNext]),(256,.var [.str r_4c0,.int .i64 r_4c1,.own 1016386,.int .i64 r_4c3,.str r_4c4,.int .i64 r_4c5]),(512,.var [.str v_8c0,.int .i64 v_8c1,.own 1032770,.int .i64 v_8c3,.str v_8c4,.int .i64 v_8c5]),(880,.sl 27 v_13),(1016386,.sl 27 r_4r2),(1032770,.sl 27 v_8r2)])
noncomputable def Qu (z0:Wn) (z1:Xn) (z2:Xf) (z3:Bo) (z4:Ho) (z5:Io) (z6:Uc) (k:Aj→Option (SBook×Bool)) (t_0:SBook) (o_1:SRec):Option (SBook×Bool):=
 (z0 o_1).bind fun r0=>
 (z1 t_0).bind fun r1=>
 bif (!r1) then
 some (⟨⟨#[]⟩,0,[],0,⟨#[]⟩,0⟩,false)
 else
 bif (!r0.2) then
  some (⟨⟨#[]⟩,0,[],0,⟨#[]⟩,0⟩,false)
 else
  bif (t_0.fCount == 10000) then
  some (⟨⟨#[]⟩,0,[],0,⟨#[]⟩,0⟩,false)
  else
  (z2 t_0).bind fun r2=>
  bif (o_1.fKind == 1) then
   bif (decide ((t_0.fChain.size+r0.1.size)≤9223372036854775807)) then
   (z6 (t_0.fChain++r0.1)).bind fun r3=>
   (z1 ⟨o_1.fText,0,r2.fThings,r2.fLast,r3,(w64 (t_0.fCount+1))⟩).bind fun r4=>
   bif (!r4) then
   some (⟨⟨#[]⟩,0,[],0,⟨#[]⟩,0⟩,false)
   else
   some (⟨o_1.fText,0,r2.fThings,r2.fLast,r3,(w64 (t_0.fCount+1))⟩,true)
   else none
  else
   bif (o_1.fKind == 2) then
   bif (decide ((t_0.fChain.size+r0.1.size)≤9223372036854775807)) then
   (z6 (t_0.fChain++r0.1)).bind fun r5=>
   (z1 ⟨r2.fWord,o_1.fNum,r2.fThings,r2.fLast,r5,(w64 (t_0.fCount+1))⟩).bind fun r6=>
   bif (!r6) then
    some (⟨⟨#[]⟩,0,[],0,⟨#[]⟩,0⟩,false)
   else
    some (⟨r2.fWord,o_1.fNum,r2.fThings,r2.fLast,r5,(w64 (t_0.fCount+1))⟩,true)
   else none
   else
   bif (o_1.fKind == 3) then
    (z3 t_0 o_1.fThing.fId).bind fun r7=>
    bif r7.2 then
    (z4 r7.1 o_1.fThing).bind fun r8=>
    bif (!r8) then
     some (⟨⟨#[]⟩,0,[],0,⟨#[]⟩,0⟩,false)
    else
     bif (!r7.2) then
     bif (o_1.fThing.fId != (w64 (t_0.fLast+1))) then
      some (⟨⟨#[]⟩,0,[],0,⟨#[]⟩,0⟩,false)
     else
      bif ((t_0.fThings.length:Int) == 8) then
      some (⟨⟨#[]⟩,0,[],0,⟨#[]⟩,0⟩,false)
      else
      bif (!r7.2) then
       (z5 t_0.fThings o_1.fThing).bind fun r9=>
       bif (decide ((t_0.fChain.size+r0.1.size)≤9223372036854775807)) then
       (z6 (t_0.fChain++r0.1)).bind fun r10=>
       (z1 ⟨r2.fWord,r2.fTries,r9,o_1.fThing.fId,r10,(w64 (t_0.fCount+1))⟩).bind fun r11=>
       bif (!r11) then
       some (⟨⟨#[]⟩,0,[],0,⟨#[]⟩,0⟩,false)
       else
       some (⟨r2.fWord,r2.fTries,r9,o_1.fThing.fId,r10,(w64 (t_0.fCount+1))⟩,true)
       else none
      else
       (z5 t_0.fThings o_1.fThing).bind fun r12=>
       bif (decide ((t_0.fChain.size+r0.1.size)≤9223372036854775807)) then
       (z6 (t_0.fChain++r0.1)).bind fun r13=>
       (z1 ⟨r2.fWord,r2.fTries,r12,r2.fLast,r13,(w64 (t_0.fCount+1))⟩).bind fun r14=>
       bif (!r14) then
       some (⟨⟨#[]⟩,0,[],0,⟨#[]⟩,0⟩,false)
       else
       some (⟨r2.fWord,r2.fTries,r12,r2.fLast,r13,(w64 (t_0.fCount+1))⟩,true)
       else none
     else
     bif (!r7.2) then
      (z5 t_0.fThings o_1.fThing).bind fun r15=>
      bif (decide ((t_0.fChain.size+r0.1.size)≤9223372036854775807)) then
      (z6 (t_0.fChain++r0.1)).bind fun r16=>
      (z1 ⟨r2.fWord,r2.fTries,r15,o_1.fThing.fId,r16,(w64 (t_0.fCount+1))⟩).bind fun r17=>
      bif (!r17) then
      some (⟨⟨#[]⟩,0,[],0,⟨#[]⟩,0⟩,false)
      else
      some (⟨r2.fWord,r2.fTries,r15,o_1.fThing.fId,r16,(w64 (t_0.fCount+1))⟩,true)
      else none
     else
      (z5 t_0.fThings o_1.fThing).bind fun r18=>
      bif (decide ((t_0.fChain.size+r0.1.size)≤9223372036854775807)) then
      (z6 (t_0.fChain++r0.1)).bind fun r19=>
      (z1 ⟨r2.fWord,r2.fTries,r18,r2.fLast,r19,(w64 (t_0.fCount+1))⟩).bind fun r20=>
      bif (!r20) then
      some (⟨⟨#[]⟩,0,[],0,⟨#[]⟩,0⟩,false)
      else
      some (⟨r2.fWord,r2.fTries,r18,r2.fLast,r19,(w64 (t_0.fCount+1))⟩,true)
      else none
    else
    bif (!r7.2) then
     bif (o_1.fThing.fId != (w64 (t_0.fLast+1))) then
     some (⟨⟨#[]⟩,0,[],0,⟨#[]⟩,0⟩,false)
     else
     bif ((t_0.fThings.length:Int) == 8) then
      some (⟨⟨#[]⟩,0,[],0,⟨#[]⟩,0⟩,false)
     else
      bif (!r7.2) then
      (z5 t_0.fThings o_1.fThing).bind fun r21=>
      bif (decide ((t_0.fChain.size+r0.1.size)≤9223372036854775807)) then
      (z6 (t_0.fChain++r0.1)).bind fun r22=>
      (z1 ⟨r2.fWord,r2.fTries,r21,o_1.fThing.fId,r22,(w64 (t_0.fCount+1))⟩).bind fun r23=>
      bif (!r23) then
       some (⟨⟨#[]⟩,0,[],0,⟨#[]⟩,0⟩,false)
      else
       some (⟨r2.fWord,r2.fTries,r21,o_1.fThing.fId,r22,(w64 (t_0.fCount+1))⟩,true)
      else none
      else
      (z5 t_0.fThings o_1.fThing).bind fun r24=>
      bif (decide ((t_0.fChain.size+r0.1.size)≤9223372036854775807)) then
      (z6 (t_0.fChain++r0.1)).bind fun r25=>
      (z1 ⟨r2.fWord,r2.fTries,r24,r2.fLast,r25,(w64 (t_0.fCount+1))⟩).bind fun r26=>
      bif (!r26) then
       some (⟨⟨#[]⟩,0,[],0,⟨#[]⟩,0⟩,false)
      else
       some (⟨r2.fWord,r2.fTries,r24,r2.fLast,r25,(w64 (t_0.fCount+1))⟩,true)
      else none
    else
     bif (!r7.2) then
     (z5 t_0.fThings o_1.fThing).bind fun r27=>
     bif (decide ((t_0.fChain.size+r0.1.size)≤9223372036854775807)) then
     (z6 (t_0.fChain++r0.1)).bind fun r28=>
     (z1 ⟨r2.fWord,r2.fTries,r27,o_1.fThing.fId,r28,(w64 (t_0.fCount+1))⟩).bind fun r29=>
     bif (!r29) then
      some (⟨⟨#[]⟩,0,[],0,⟨#[]⟩,0⟩,false)
     else
      some (⟨r2.fWord,r2.fTries,r27,o_1.fThing.fId,r28,(w64 (t_0.fCount+1))⟩,true)
     else none
     else
     (z5 t_0.fThings o_1.fThing).bind fun r30=>
     bif (decide ((t_0.fChain.size+r0.1.size)≤9223372036854775807)) then
     (z6 (t_0.fChain++r0.1)).bind fun r31=>
     (z1 ⟨r2.fWord,r2.fTries,r30,r2.fLast,r31,(w64 (t_0.fCount+1))⟩).bind fun r32=>
     bif (!r32) then
      some (⟨⟨#[]⟩,0,[],0,⟨#[]⟩,0⟩,false)
     else
      some (⟨r2.fWord,r2.fTries,r30,r2.fLast,r31,(w64 (t_0.fCount+1))⟩,true)
     else none
   else
    bif (o_1.fKind == 4) then
    (z3 t_0 o_1.fNum).bind fun r33=>
    bif (!r33.2) then
     some (⟨⟨#[]⟩,0,[],0,⟨#[]⟩,0⟩,false)
    else
     k (.c0 r0.1 0 t_0 o_1 ⟨#[]⟩ 0 0 ⟨#[]⟩ 0 r2.fWord r2.fTries r2.fLast r2.fChain r2.fCount [] [] r2.fThings)
    else
    bif (decide ((t_0.fChain.size+r0.1.size)≤9223372036854775807)) then
    (z6 (t_0.fChain++r0.1)).bind fun r34=>
    (z1 ⟨r2.fWord,r2.fTries,r2.fThings,r2.fLast,r34,(w64 (t_0.fCount+1))⟩).bind fun r35=>
    bif (!r35) then
     some (⟨⟨#[]⟩,0,[],0,⟨#[]⟩,0⟩,false)
    else
     some (⟨r2.fWord,r2.fTries,r2.fThings,r2.fLast,r34,(w64 (t_0.fCount+1))⟩,true)
    else none
noncomputable def Jo (z0:Wn) (z1:Xn) (z2:Xf) (z3:Bo) (z4:Ho) (z5:Io) (z6:Uc) (k:Aj→Option (SBook×Bool)):Aj→Option (SBook×Bool)
 | .c0 y_6 v_14 A_2 r_3 r_4c0 r_4c1 r_4c3 r_4c4 r_4c5 v_8c0 v_8c1 v_8c3 v_8c4 v_8c5 v_13 r_4r2 v_8r2=>
 bif (decide (v_14<(A_2.fThings.length:Int))) then
  bif ((decide (0≤v_14)) && (decide (v_14<(A_2.fThings.length:Int)))) then
  bif ((A_2.fThings.getD v_14.toNat (⟨0,0,false,false,false,false,⟨#[]⟩,0⟩:SThing)).fId != r_3.fNum) then
  bif ((decide (0≤v_14)) && (decide (v_14<(A_2.fThings.length:Int)))) then
  bif (decide (((v_13.length+1)*48)≤140737488355328)) then
  k (.c0 y_6 (w64 (v_14+1)) A_2 r_3 r_4c0 r_4c1 r_4c3 r_4c4 r_4c5 v_8c0 v_8c1 v_8c3 v_8c4 v_8c5 (v_13++[(A_2.fThings.getD v_14.toNat (⟨0,0,false,false,false,false,⟨#[]⟩,0⟩:SThing))]) r_4r2 v_8r2)
  else none
  else none
  else
  k (.c0 y_6 (w64 (v_14+1)) A_2 r_3 r_4c0 r_4c1 r_4c3 r_4c4 r_4c5 v_8c0 v_8c1 v_8c3 v_8c4 v_8c5 v_13 r_4r2 v_8r2)
  else none
 else
  bif (decide ((A_2.fChain.size+y_6.size)≤9223372036854775807)) then
  (z6 (A_2.fChain++y_6)).bind fun r0=>
  (z1 ⟨v_8c0,v_8c1,v_13,v_8c3,r0,(w64 (A_2.fCount+1))⟩).bind fun r1=>
  bif (!r1) then
  some (⟨⟨#[]⟩,0,[],0,⟨#[]⟩,0⟩,false)
  else
  some (⟨v_8c0,v_8c1,v_13,v_8c3,r0,(w64 (A_2.fCount+1))⟩,true)
  else none
noncomputable def Bj:Nat→Aj→Option (SBook×Bool)
 | 0,_=>none
 | m+1,s=>Jo Ad Ed Ia Zf Jd Ld NZ (Bj m) s
noncomputable def Ja:Bg:=Qu Ad Ed Ia Zf Jd Ld NZ (Bj gas)
theorem E5:Tells ctx PP 34 cv50 cv51 (fun a=>Ja a.1 a.2):=
 have b:∀ z0 z1 z2 z3 z4 z5 z6,CutIs ctx PP 34 Tryd.f34 [] [(86,X3 z0),(37,I4 z1),(87,Zn z2),(88,V4 z3),(89,X4 z4),(90,Z4 z5),(60,Xh z6)] cv51 D5 (Jo z0 z1 z2 z3 z4 z5 z6):=fun z0 z1 z2 z3 z4 z5 z6 _ s=>by cases s <;> kernel_rfl
 have e:∀ z0 z1 z2 z3 z4 z5 z6,EntryIs ctx PP 34 [] [(86,X3 z0),(37,I4 z1),(87,Zn z2),(88,V4 z3),(89,X4 z4),(90,Z4 z5),(60,Xh z6)] cv50 cv51 D5 (fun k a=>Qu z0 z1 z2 z3 z4 z5 z6 k a.1 a.2):=fun z0 z1 z2 z3 z4 z5 z6 _ a=>by kernel_rfl
 fn_ok (hc BAC (hc CAC (hc J4 (hc DAC (hc EAC (hc FAC (hc En hl_nil))))))) Tryd.func34 (fun s s' h=>by cases s;cases s';(repeat cases ‹SBook›);(repeat cases ‹SRec›);(repeat cases ‹SThing›);cases h;rfl) (fun _=>rfl) (fun _ _=>rfl) (b Ad Ed Ia Zf Jd Ld NZ) (e Ad Ed Ia Zf Jd Ld NZ) gas
noncomputable def Ko {γ:Type} (F:Bg):Hd ctx γ:=hdl cv50.dec (fun a=>F a.1 a.2) cv51.enc
abbrev Oo:=SL01Cur→Option ((List SRec)×SBook×SL01Cur)
inductive Cj where
 | c0 (i_6:Int) (c_0c1:Int) (c_0c2:Int) (v_3c0:ByteArray) (v_3c1:Int) (v_3c3:Int) (v_3c4:ByteArray) (v_3c5:Int) (b_4c0:ByteArray) (b_4c1:Int) (b_4c3:Int) (b_4c4:ByteArray) (b_4c5:Int) (list_5:(List SRec)) (v_3r2:(List SThing)) (b_4r2:(List SThing))
noncomputable def F5:Cj→LI
 | .c0 i_6 c_0c1 c_0c2 v_3c0 v_3c1 v_3c3 v_3c4 v_3c5 b_4c0 b_4c1 b_4c3 b_4c4 b_4c5 list_5 v_3r2 b_4r2=>(tdo Tryd.f91 976,[(0,[.one (.ptr 0 0)]),(3,[.one (.ptr 192 0)]),(4,[.one (.ptr 256 0)]),(5,[.one (.own 368)]),(6,[.one (.int .i64 i_6)])],[(0,.var [.csl,.int .i64 c_0c1,.int .i64 c_0c2]),(192,.var [.str v_3c0,.int .i64 v_3c1,.own 1012290,.int .i64 v_3c3,.str v_3c4,.int .i64 v_3c5]),(256,.var [.str b_4c0,.int .i64 b_4c1,.own 1016386,.int .i64 b_4c3,.str b_4c4,.int .i64 b_4c5]),(368,.sl 47 list_5),(1012290,.sl 27 v_3r2),(1016386,.sl 27 b_4r2)])
noncomputable def Ru (z0:Uf) (z1:XZ) (z2:Ji) (z3:Bg) (k:Cj→Option ((List SRec)×SBook×SL01Cur)) (c_0:SL01Cur):Option ((List SRec)×SBook×SL01Cur):=
 z0.bind fun r0=>
 k (.c0 0 c_0.fI c_0.fH ⟨#[]⟩ 0 0 ⟨#[]⟩ 0 r0.fWord r0.fTries r0.fLast r0.fChain r0.fCount [] [] r0.fThings)
noncomputable def Po (z0:Uf) (z1:XZ) (z2:Ji) (z3:Bg) (k:Cj→Option ((List SRec)×SBook×SL01Cur)):Cj→Option ((List SRec)×SBook×SL01Cur)
 | .c0 i_6 c_0c1 c_0c2 v_3c0 v_3c1 v_3c3 v_3c4 v_3c5 b_4c0 b_4c1 b_4c3 b_4c4 b_4c5 list_5 v_3r2 b_4r2=>
 (z1 ⟨(),c_0c1,c_0c2⟩ 12).bind fun r0=>
 bif (decide (i_6<r0.1)) then
  (z2 ⟨(),r0.2.fI,r0.2.fH⟩ ⟨b_4c0,b_4c1,b_4r2,b_4c3,b_4c4,b_4c5⟩).bind fun r1=>
  (z3 ⟨b_4c0,b_4c1,b_4r2,b_4c3,b_4c4,b_4c5⟩ r1.1).bind fun r2=>
  bif r2.2 then
  bif (decide (((list_5.length+1)*80)≤140737488355328)) then
  k (.c0 (w64 (i_6+1)) r1.2.fI r1.2.fH v_3c0 v_3c1 v_3c3 v_3c4 v_3c5 r2.1.fWord r2.1.fTries r2.1.fLast r2.1.fChain r2.1.fCount (list_5++[r1.1]) v_3r2 r2.1.fThings)
  else none
  else
  k (.c0 (w64 (i_6+1)) r1.2.fI r1.2.fH v_3c0 v_3c1 v_3c3 v_3c4 v_3c5 b_4c0 b_4c1 b_4c3 b_4c4 b_4c5 list_5 v_3r2 b_4r2)
 else
  some (list_5,(⟨b_4c0,b_4c1,b_4r2,b_4c3,b_4c4,b_4c5⟩,⟨(),r0.2.fI,r0.2.fH⟩))
noncomputable def Ej:Nat→Cj→Option ((List SRec)×SBook×SL01Cur)
 | 0,_=>none
 | m+1,s=>Po Fa OY Qb Ja (Ej m) s
noncomputable def Md:Oo:=Ru Fa OY Qb Ja (Ej gas)
theorem G5:Tells ctx PP 91 cv3 cv52 (fun a=>Md a):=
 have b:∀ z0 z1 z2 z3,CutIs ctx PP 91 Tryd.f91 [0] [(43,Pn z0),(57,Za z1),(94,Tt z2),(34,Ko z3)] cv52 F5 (Po z0 z1 z2 z3):=fun z0 z1 z2 z3 _ s=>by cases s <;> kernel_rfl
 have e:∀ z0 z1 z2 z3,EntryIs ctx PP 91 [0] [(43,Pn z0),(57,Za z1),(94,Tt z2),(34,Ko z3)] cv3 cv52 F5 (fun k a=>Ru z0 z1 z2 z3 k a):=fun z0 z1 z2 z3 _ a=>by kernel_rfl
 fn_ok (hc Js (hc Ic (hc Y2 (hc E5 hl_nil)))) Tryd.func91 (fun s s' h=>by cases s;cases s';cases h;rfl) (fun _=>rfl) (fun _ _=>rfl) (b Fa OY Qb Ja) (e Fa OY Qb Ja) gas
noncomputable def I5 {γ:Type} (F:Oo):Hd ctx γ:=hdl cv3.dec (fun a=>F a) cv52.enc
abbrev Uu:=Unit→Option (List SRec)
noncomputable def Vu (z0:Df) (z1:Oo) (code_0:Unit):Option (List SRec):=
 (z0 ()).bind fun r0=>
 (z1 ⟨(),r0.fI,r0.fH⟩).bind fun r1=>
 some r1.1
noncomputable def Fj:Uu:=Vu Ba Md
theorem GAC:Tells ctx PP 39 cv0 cv58 (fun a=>Fj a):=fn_ok0 (hc Xq (hc G5 hl_nil)) Tryd.func39 ((fun z0 z1 a=>by kernel_rfl:∀ z0 z1,EntryIs0 ctx PP 39 [] [(53,Lm z0),(91,I5 z1)] cv0 cv58 fun a=>Vu z0 z1 a) Ba Md)
noncomputable def HAC {γ:Type} (F:Uu):Hd ctx γ:=hdl cv0.dec (fun a=>F a) cv58.enc
abbrev Wu:=Option (List Int)
noncomputable def J5  : Option (List Int):=
 some [1779033703,3144134277,1013904242,2773480762,1359893119,2600822924,528734635,1541459225]
noncomputable def Qo:Wu:=J5
theorem IAC:Tells ctx PP 107 cv12 cv13 (fun _=>Qo):=fn_ok0 hl_nil Tryd.func107 (fun _=>by kernel_rfl:EntryIs0 ctx PP 107 [] [] cv12 cv13 fun _=>J5)
noncomputable def JAC {γ:Type} (F:Wu):Hd ctx γ:=hdl cv12.dec (fun _=>F) cv13.enc
abbrev Ro:=Int→Option ByteArray
noncomputable def Xu (n_0:Int):Option ByteArray:=
 bif ((((decide (0≤n_0)) && (decide (n_0≤n_0))) && (decide (n_0≤9223372036854775807))) && (decide ((n_0.toNat*1)≤140737488355328))) then
 some (ofBytes (List.replicate n_0.toNat (0:Int)))
 else none
noncomputable def Qd:Ro:=Xu
theorem O5:Tells ctx PP 92 cv14 cv9 (fun a=>Qd a):=fn_ok0 hl_nil Tryd.func92 (fun a=>by kernel_rfl:EntryIs0 ctx PP 92 [] [] cv14 cv9 fun a=>Xu a)
noncomputable def P5 {γ:Type} (F:Ro):Hd ctx γ:=hdl cv14.dec (fun a=>F a) cv9.enc
abbrev Gj:=Int→Option ByteArray
noncomputable def Yu (n_0:Int):Option ByteArray:=
 some (ofBytes [(w8 (Int.fdiv n_0 (2 ^ (Min.min (24:Int).toNat (IntKind.bits IntKind.u32))))),(w8 (Int.fdiv n_0 (2 ^ (Min.min (16:Int).toNat (IntKind.bits IntKind.u32))))),(w8 (Int.fdiv n_0 (2 ^ (Min.min (8:Int).toNat (IntKind.bits IntKind.u32))))),(w8 n_0)])
noncomputable def Xb:Gj:=Yu
theorem Q5:Tells ctx PP 134 cv15 cv9 (fun a=>Xb a):=fn_ok0 hl_nil Tryd.func134 (fun a=>by kernel_rfl:EntryIs0 ctx PP 134 [] [] cv15 cv9 fun a=>Yu a)
noncomputable def Zu {γ:Type} (F:Gj):Hd ctx γ:=hdl cv15.dec (fun a=>F a) cv9.enc
abbrev Bv:=Int→Option ByteArray
noncomputable def Dv (z0:Gj) (n_0:Int):Option ByteArray:=
 (z0 (w32 (Int.fdiv n_0 (2 ^ (Min.min (32:Int).toNat (IntKind.bits IntKind.i64)))))).bind fun r0=>
 (z0 (w32 n_0)).bind fun r1=>
 bif (decide ((r0.size+r1.size)≤9223372036854775807)) then
 some (r0++r1)
 else none
noncomputable def Ij:Bv:=Dv Xb
theorem KAC:Tells ctx PP 133 cv14 cv9 (fun a=>Ij a):=fn_ok0 (hc Q5 hl_nil) Tryd.func133 ((fun z0 a=>by kernel_rfl:∀ z0,EntryIs0 ctx PP 133 [] [(134,Zu z0)] cv14 cv9 fun a=>Dv z0 a) Xb)
noncomputable def LAC {γ:Type} (F:Bv):Hd ctx γ:=hdl cv14.dec (fun a=>F a) cv9.enc
abbrev Fv:=Int→Option ByteArray
noncomputable def Gv (z0:Ro) (z1:Bv) (count_0:Int):Option ByteArray:=
 (z0 ((w64 (119 - (count_0.tmod 64))).tmod 64)).bind fun r0=>
 bif (decide (((⟨#[128]⟩:ByteArray).size+r0.size)≤9223372036854775807)) then
 (z1 (w64 (8*count_0))).bind fun r1=>
 bif (decide ((((⟨#[128]⟩:ByteArray)++r0).size+r1.size)≤9223372036854775807)) then
 some (((⟨#[128]⟩:ByteArray)++r0)++r1)
 else none
 else none
noncomputable def Jj:Fv:=Gv Qd Ij
theorem NAC:Tells ctx PP 108 cv14 cv9 (fun a=>Jj a):=fn_ok0 (hc O5 (hc KAC hl_nil)) Tryd.func108 ((fun z0 z1 a=>by kernel_rfl:∀ z0 z1,EntryIs0 ctx PP 108 [] [(92,P5 z0),(133,LAC z1)] cv14 cv9 fun a=>Gv z0 z1 a) Qd Ij)
noncomputable def OAC {γ:Type} (F:Fv):Hd ctx γ:=hdl cv14.dec (fun a=>F a) cv9.enc
abbrev Jv:=Int→Int→Option Int
noncomputable def Kv (x_0:Int) (k_1:Int):Option Int:=
 bif (decide (0≤(wu64 (32 - (wu64 (((BitVec.toNat ((BitVec.ofInt (IntKind.bits IntKind.u64) (wu64 k_1)) &&& (BitVec.ofInt (IntKind.bits IntKind.u64) 31))):Nat):Int)))))) then
 some (w32 (((BitVec.toNat ((BitVec.ofInt (IntKind.bits IntKind.u32) (w32 (x_0*(2 ^ (Min.min (wu64 (((BitVec.toNat ((BitVec.ofInt (IntKind.bits IntKind.u64) (wu64 k_1)) &&& (BitVec.ofInt (IntKind.bits IntKind.u64) 31))):Nat):Int)).toNat (IntKind.bits IntKind.u32)))))) ||| (BitVec.ofInt (IntKind.bits IntKind.u32) (Int.fdiv x_0 (2 ^ (Min.min (wu64 (32 - (wu64 (((BitVec.toNat ((BitVec.ofInt (IntKind.bits IntKind.u64) (wu64 k_1)) &&& (BitVec.ofInt (IntKind.bits IntKind.u64) 31))):Nat):Int)))).toNat (IntKind.bits IntKind.u32))))))):Nat):Int))
 else none
noncomputable def Lj:Jv:=Kv
theorem PAC:Tells ctx PP 163 cv16 cv15 (fun a=>Lj a.1 a.2):=fn_ok0 hl_nil Tryd.func163 (fun a=>by kernel_rfl:EntryIs0 ctx PP 163 [] [] cv16 cv15 fun a=>Kv a.1 a.2)
noncomputable def QAC {γ:Type} (F:Jv):Hd ctx γ:=hdl cv16.dec (fun a=>F a.1 a.2) cv15.enc
abbrev Fg:=Int→Int→Option Int
noncomputable def Nv (z0:Jv) (x_0:Int) (n_1:Int):Option Int:=
 (z0 x_0 (w64 (0 - n_1))).bind fun r0=>
 some r0
noncomputable def QY:Fg:=Nv Lj
theorem U5:Tells ctx PP 154 cv16 cv15 (fun a=>QY a.1 a.2):=fn_ok0 (hc PAC hl_nil) Tryd.func154 ((fun z0 a=>by kernel_rfl:∀ z0,EntryIs0 ctx PP 154 [] [(163,QAC z0)] cv16 cv15 fun a=>Nv z0 a.1 a.2) Lj)
noncomputable def Uo {γ:Type} (F:Fg):Hd ctx γ:=hdl cv16.dec (fun a=>F a.1 a.2) cv15.enc
abbrev Vo:=ByteArray→Option (List Int)
inductive Nj where
 | c0 (block_0:ByteArray) (v_11:Int) (v_2r0:(List Int)) (w_3r0:(List Int))
 | c1 (block_0:ByteArray) (i_4:Int) (v_11:Int) (v_14:Int) (v_2r0:(List Int)) (w_3r0:(List Int))
 | c2 (t_6:Int) (v_2r0:(List Int)) (w_3r0:(List Int))
noncomputable def V5:Nj→LI
 | .c0 block_0 v_11 v_2r0 w_3r0=>(tdo Tryd.f153 232,[(0,[.one (.str block_0)]),(2,[.one (.ptr 128 0)]),(3,[.one (.ptr 192 0)]),(11,[.one (.int .i64 v_11)])],[(128,.ar 114 v_2r0),(192,.ar 114 w_3r0)])
 | .c1 block_0 i_4 v_11 v_14 v_2r0 w_3r0=>(tdo Tryd.f153 59800,[(0,[.one (.str block_0)]),(2,[.one (.ptr 128 0)]),(3,[.one (.ptr 192 0)]),(4,[.one (.int .i64 i_4)]),(11,[.one (.int .i64 v_11)]),(14,[.one (.int .i64 v_14)])],[(128,.ar 114 v_2r0),(192,.ar 114 w_3r0)])
 | .c2 t_6 v_2r0 w_3r0=>(tdo Tryd.f153 976,[(2,[.one (.ptr 128 0)]),(3,[.one (.ptr 192 0)]),(6,[.one (.int .i64 t_6)])],[(128,.ar 114 v_2r0),(192,.ar 114 w_3r0)])
noncomputable def Ov (z0:Fg) (k:Nj→Option (List Int)) (block_0:ByteArray):Option (List Int):=
 k (.c0 block_0 0 (List.replicate 64 (0:Int)) (List.replicate 64 (0:Int)))
noncomputable def Lc (z0:Fg) (k:Nj→Option (List Int)):Nj→Option (List Int)
 | .c0 block_0 v_11 v_2r0 w_3r0=>
 bif (decide (v_11<16)) then
  k (.c1 block_0 v_11 v_11 0 v_2r0 w_3r0)
 else
  k (.c2 16 v_2r0 w_3r0)
 | .c1 block_0 i_4 v_11 v_14 v_2r0 w_3r0=>
 bif (decide (v_14<4)) then
  bif (Nat.beq 64 w_3r0.length) then
  bif ((decide (0≤i_4)) && (decide (i_4<(w_3r0.length:Int)))) then
  bif ((decide (0≤(w64 ((w64 (4*i_4))+v_14)))) && (decide ((w64 ((w64 (4*i_4))+v_14))<(block_0.size:Int)))) then
  bif (Nat.beq 64 w_3r0.length) then
  bif ((decide (0≤i_4)) && (decide (i_4<(w_3r0.length:Int)))) then
  k (.c1 block_0 i_4 v_11 (w64 (v_14+1)) v_2r0 (w_3r0.set i_4.toNat (w32 (((BitVec.toNat ((BitVec.ofInt (IntKind.bits IntKind.u32) (w32 ((w_3r0.getD i_4.toNat 0)*(2 ^ (Min.min (8:Int).toNat (IntKind.bits IntKind.u32)))))) ||| (BitVec.ofInt (IntKind.bits IntKind.u32) (w32 (bt block_0 (w64 ((w64 (4*i_4))+v_14))))))):Nat):Int))))
  else none
  else none
  else none
  else none
  else none
 else
  k (.c0 block_0 (w64 (v_11+1)) v_2r0 w_3r0)
 | .c2 t_6 v_2r0 w_3r0=>
 bif (decide (t_6<64)) then
  bif (Nat.beq 64 w_3r0.length) then
  bif ((decide (0≤(w64 (t_6 - 15)))) && (decide ((w64 (t_6 - 15))<(w_3r0.length:Int)))) then
  bif (Nat.beq 64 w_3r0.length) then
  bif ((decide (0≤(w64 (t_6 - 2)))) && (decide ((w64 (t_6 - 2))<(w_3r0.length:Int)))) then
  (z0 (w_3r0.getD (w64 (t_6 - 15)).toNat 0) 7).bind fun r0=>
  (z0 (w_3r0.getD (w64 (t_6 - 15)).toNat 0) 18).bind fun r1=>
  (z0 (w_3r0.getD (w64 (t_6 - 2)).toNat 0) 17).bind fun r2=>
  (z0 (w_3r0.getD (w64 (t_6 - 2)).toNat 0) 19).bind fun r3=>
  bif (Nat.beq 64 w_3r0.length) then
  bif ((decide (0≤(w64 (t_6 - 7)))) && (decide ((w64 (t_6 - 7))<(w_3r0.length:Int)))) then
  bif (Nat.beq 64 w_3r0.length) then
  bif ((decide (0≤(w64 (t_6 - 16)))) && (decide ((w64 (t_6 - 16))<(w_3r0.length:Int)))) then
  bif (Nat.beq 64 w_3r0.length) then
  bif ((decide (0≤t_6)) && (decide (t_6<(w_3r0.length:Int)))) then
  k (.c2 (w64 (t_6+1)) v_2r0 (w_3r0.set t_6.toNat (w32 ((w32 ((w32 ((w32 (((BitVec.toNat ((BitVec.ofInt (IntKind.bits IntKind.u32) (w32 (((BitVec.toNat ((BitVec.ofInt (IntKind.bits IntKind.u32) r2) ^^^ (BitVec.ofInt (IntKind.bits IntKind.u32) r3))):Nat):Int))) ^^^ (BitVec.ofInt (IntKind.bits IntKind.u32) (Int.fdiv (w_3r0.getD (w64 (t_6 - 2)).toNat 0) (2 ^ (Min.min (10:Int).toNat (IntKind.bits IntKind.u32))))))):Nat):Int))+(w_3r0.getD (w64 (t_6 - 7)).toNat 0)))+(w32 (((BitVec.toNat ((BitVec.ofInt (IntKind.bits IntKind.u32) (w32 (((BitVec.toNat ((BitVec.ofInt (IntKind.bits IntKind.u32) r0) ^^^ (BitVec.ofInt (IntKind.bits IntKind.u32) r1))):Nat):Int))) ^^^ (BitVec.ofInt (IntKind.bits IntKind.u32) (Int.fdiv (w_3r0.getD (w64 (t_6 - 15)).toNat 0) (2 ^ (Min.min (3:Int).toNat (IntKind.bits IntKind.u32))))))):Nat):Int))))+(w_3r0.getD (w64 (t_6 - 16)).toNat 0)))))
  else none
  else none
  else none
  else none
  else none
  else none
  else none
  else none
  else none
  else none
 else
  bif (Nat.beq 64 w_3r0.length) then
  bif ((Nat.beq w_3r0.length v_2r0.length) && (Nat.beq 64 w_3r0.length)) then
  bif ((Nat.beq 64 w_3r0.length) && true) then
  some w_3r0
  else none
  else none
  else none
noncomputable def PZ:Nat→Nj→Option (List Int)
 | 0,_=>none
 | m+1,s=>Lc QY (PZ m) s
noncomputable def Td:Vo:=Ov QY (PZ gas)
theorem RAC:Tells ctx PP 153 cv9 cv13 (fun a=>Td a):=
 have b:∀ z0,CutIs ctx PP 153 Tryd.f153 [] [(154,Uo z0)] cv13 V5 (Lc z0):=fun z0 _ s=>by cases s <;> kernel_rfl
 have e:∀ z0,EntryIs ctx PP 153 [] [(154,Uo z0)] cv9 cv13 V5 (fun k a=>Ov z0 k a):=fun z0 _ a=>by kernel_rfl
 fn_ok (hc U5 hl_nil) Tryd.func153 (fun s s' h=>by cases s <;> cases s' <;> first | (cases h;done) | (cases h;rfl) | exact (rg_ne h (by kernel_rfl)).elim) (fun _=>rfl) (fun _ _=>rfl) (b QY) (e QY) gas
noncomputable def X5 {γ:Type} (F:Vo):Hd ctx γ:=hdl cv9.dec (fun a=>F a) cv13.enc
abbrev Xo:=(List Int)→ByteArray→Option (List Int)
inductive Oj where
 | c0 (a_6:Int) (b_7:Int) (c_8:Int) (d_9:Int) (e_10:Int) (f_11:Int) (g_12:Int) (h_13:Int) (v_37:Int) (state_2r0:(List Int)) (v_4r0:(List Int)) (w_5r0:(List Int))
 | c1 (v_109:Int) (state_2r0:(List Int)) (v_4r0:(List Int)) (out_17r0:(List Int))
noncomputable def Y5:Oj→LI
 | .c0 a_6 b_7 c_8 d_9 e_10 f_11 g_12 h_13 v_37 state_2r0 v_4r0 w_5r0=>(tdo Tryd.f132 488,[(2,[.one (.ptr 128 0)]),(4,[.one (.ptr 256 0)]),(5,[.one (.ptr 320 0)]),(6,[.one (.int .u32 a_6)]),(7,[.one (.int .u32 b_7)]),(8,[.one (.int .u32 c_8)]),(9,[.one (.int .u32 d_9)]),(10,[.one (.int .u32 e_10)]),(11,[.one (.int .u32 f_11)]),(12,[.one (.int .u32 g_12)]),(13,[.one (.int .u32 h_13)]),(37,[.one (.int .i64 v_37)])],[(128,.ar 114 state_2r0),(256,.ar 114 v_4r0),(320,.ar 114 w_5r0)])
 | .c1 v_109 state_2r0 v_4r0 out_17r0=>(tdo Tryd.f132 2024,[(2,[.one (.ptr 128 0)]),(4,[.one (.ptr 256 0)]),(17,[.one (.ptr 1088 0)]),(109,[.one (.int .i64 v_109)])],[(128,.ar 114 state_2r0),(256,.ar 114 v_4r0),(1088,.ar 114 out_17r0)])
noncomputable def Pv (z0:Vo) (z1:Fg) (k:Oj→Option (List Int)) (state_0:(List Int)) (block_1:ByteArray):Option (List Int):=
 (z0 block_1).bind fun r0=>
 bif ((Nat.beq r0.length (List.replicate 64 (0:Int)).length) && (Nat.beq 64 r0.length)) then
 bif (Nat.beq 8 state_0.length) then
 bif ((decide ((0:Int)≤(0:Int))) && (decide (0<(state_0.length:Int)))) then
 bif (Nat.beq 8 state_0.length) then
 bif ((decide ((0:Int)≤(1:Int))) && (decide (1<(state_0.length:Int)))) then
 bif (Nat.beq 8 state_0.length) then
 bif ((decide ((0:Int)≤(2:Int))) && (decide (2<(state_0.length:Int)))) then
 bif (Nat.beq 8 state_0.length) then
 bif ((decide ((0:Int)≤(3:Int))) && (decide (3<(state_0.length:Int)))) then
 bif (Nat.beq 8 state_0.length) then
 bif ((decide ((0:Int)≤(4:Int))) && (decide (4<(state_0.length:Int)))) then
 bif (Nat.beq 8 state_0.length) then
 bif ((decide ((0:Int)≤(5:Int))) && (decide (5<(state_0.length:Int)))) then
 bif (Nat.beq 8 state_0.length) then
 bif ((decide ((0:Int)≤(6:Int))) && (decide (6<(state_0.length:Int)))) then
 bif (Nat.beq 8 state_0.length) then
 bif ((decide ((0:Int)≤(7:Int))) && (decide (7<(state_0.length:Int)))) then
 k (.c0 (state_0.getD (0:Int).toNat 0) (state_0.getD (1:Int).toNat 0) (state_0.getD (2:Int).toNat 0) (state_0.getD (3:Int).toNat 0) (state_0.getD (4:Int).toNat 0) (state_0.getD (5:Int).toNat 0) (state_0.getD (6:Int).toNat 0) (state_0.getD (7:Int).toNat 0) 0 state_0 [0,0,0,0,0,0,0,0] r0)
 else none
 else none
 else none
 else none
 else none
 else none
 else none
 else none
 else none
 else none
 else none
 else none
 else none
 else none
 else none
 else none
 else none
noncomputable def Gg (z0:Vo) (z1:Fg) (k:Oj→Option (List Int)):Oj→Option (List Int)
 | .c0 a_6 b_7 c_8 d_9 e_10 f_11 g_12 h_13 v_37 state_2r0 v_4r0 w_5r0=>
 bif (decide (v_37<64)) then
  (z1 e_10 6).bind fun r0=>
  (z1 e_10 11).bind fun r1=>
  (z1 e_10 25).bind fun r2=>
  bif ((decide (0≤v_37)) && (decide (v_37<((64:Nat):Int)))) then
  bif (Nat.blt v_37.toNat 64) then
  bif (Nat.beq 64 w_5r0.length) then
  bif ((decide (0≤v_37)) && (decide (v_37<(w_5r0.length:Int)))) then
  (z1 a_6 2).bind fun r3=>
  (z1 a_6 13).bind fun r4=>
  (z1 a_6 22).bind fun r5=>
  k (.c0 (w32 ((w32 ((w32 ((w32 ((w32 (h_13+(w32 (((BitVec.toNat ((BitVec.ofInt (IntKind.bits IntKind.u32) (w32 (((BitVec.toNat ((BitVec.ofInt (IntKind.bits IntKind.u32) r0) ^^^ (BitVec.ofInt (IntKind.bits IntKind.u32) r1))):Nat):Int))) ^^^ (BitVec.ofInt (IntKind.bits IntKind.u32) r2))):Nat):Int))))+(w32 (((BitVec.toNat ((BitVec.ofInt (IntKind.bits IntKind.u32) (w32 (((BitVec.toNat ((BitVec.ofInt (IntKind.bits IntKind.u32) e_10) &&& (BitVec.ofInt (IntKind.bits IntKind.u32) f_11))):Nat):Int))) ^^^ (BitVec.ofInt (IntKind.bits IntKind.u32) (w32 (((BitVec.toNat ((BitVec.ofInt (IntKind.bits IntKind.u32) (w32 (((BitVec.toNat ((BitVec.ofInt (IntKind.bits IntKind.u32) (ite ((IntKind.signed IntKind.u32)=true) (-(1:Int)) (IntKind.max IntKind.u32))) ^^^ (BitVec.ofInt (IntKind.bits IntKind.u32) e_10))):Nat):Int))) &&& (BitVec.ofInt (IntKind.bits IntKind.u32) g_12))):Nat):Int))))):Nat):Int))))+([(1116352408:Int),(1899447441:Int),(3049323471:Int),(3921009573:Int),(961987163:Int),(1508970993:Int),(2453635748:Int),(2870763221:Int),(3624381080:Int),(310598401:Int),(607225278:Int),(1426881987:Int),(1925078388:Int),(2162078206:Int),(2614888103:Int),(3248222580:Int),(3835390401:Int),(4022224774:Int),(264347078:Int),(604807628:Int),(770255983:Int),(1249150122:Int),(1555081692:Int),(1996064986:Int),(2554220882:Int),(2821834349:Int),(2952996808:Int),(3210313671:Int),(3336571891:Int),(3584528711:Int),(113926993:Int),(338241895:Int),(666307205:Int),(773529912:Int),(1294757372:Int),(1396182291:Int),(1695183700:Int),(1986661051:Int),(2177026350:Int),(2456956037:Int),(2730485921:Int),(2820302411:Int),(3259730800:Int),(3345764771:Int),(3516065817:Int),(3600352804:Int),(4094571909:Int),(275423344:Int),(430227734:Int),(506948616:Int),(659060556:Int),(883997877:Int),(958139571:Int),(1322822218:Int),(1537002063:Int),(1747873779:Int),(1955562222:Int),(2024104815:Int),(2227730452:Int),(2361852424:Int),(2428436474:Int),(2756734187:Int),(3204031479:Int),(3329325298:Int)].getD v_37.toNat 0)))+(w_5r0.getD v_37.toNat 0)))+(w32 ((w32 (((BitVec.toNat ((BitVec.ofInt (IntKind.bits IntKind.u32) (w32 (((BitVec.toNat ((BitVec.ofInt (IntKind.bits IntKind.u32) r3) ^^^ (BitVec.ofInt (IntKind.bits IntKind.u32) r4))):Nat):Int))) ^^^ (BitVec.ofInt (IntKind.bits IntKind.u32) r5))):Nat):Int))+(w32 (((BitVec.toNat ((BitVec.ofInt (IntKind.bits IntKind.u32) (w32 (((BitVec.toNat ((BitVec.ofInt (IntKind.bits IntKind.u32) (w32 (((BitVec.toNat ((BitVec.ofInt (IntKind.bits IntKind.u32) a_6) &&& (BitVec.ofInt (IntKind.bits IntKind.u32) b_7))):Nat):Int))) ^^^ (BitVec.ofInt (IntKind.bits IntKind.u32) (w32 (((BitVec.toNat ((BitVec.ofInt (IntKind.bits IntKind.u32) a_6) &&& (BitVec.ofInt (IntKind.bits IntKind.u32) c_8))):Nat):Int))))):Nat):Int))) ^^^ (BitVec.ofInt (IntKind.bits IntKind.u32) (w32 (((BitVec.toNat ((BitVec.ofInt (IntKind.bits IntKind.u32) b_7) &&& (BitVec.ofInt (IntKind.bits IntKind.u32) c_8))):Nat):Int))))):Nat):Int)))))) a_6 b_7 c_8 (w32 (d_9+(w32 ((w32 ((w32 ((w32 (h_13+(w32 (((BitVec.toNat ((BitVec.ofInt (IntKind.bits IntKind.u32) (w32 (((BitVec.toNat ((BitVec.ofInt (IntKind.bits IntKind.u32) r0) ^^^ (BitVec.ofInt (IntKind.bits IntKind.u32) r1))):Nat):Int))) ^^^ (BitVec.ofInt (IntKind.bits IntKind.u32) r2))):Nat):Int))))+(w32 (((BitVec.toNat ((BitVec.ofInt (IntKind.bits IntKind.u32) (w32 (((BitVec.toNat ((BitVec.ofInt (IntKind.bits IntKind.u32) e_10) &&& (BitVec.ofInt (IntKind.bits IntKind.u32) f_11))):Nat):Int))) ^^^ (BitVec.ofInt (IntKind.bits IntKind.u32) (w32 (((BitVec.toNat ((BitVec.ofInt (IntKind.bits IntKind.u32) (w32 (((BitVec.toNat ((BitVec.ofInt (IntKind.bits IntKind.u32) (ite ((IntKind.signed IntKind.u32)=true) (-(1:Int)) (IntKind.max IntKind.u32))) ^^^ (BitVec.ofInt (IntKind.bits IntKind.u32) e_10))):Nat):Int))) &&& (BitVec.ofInt (IntKind.bits IntKind.u32) g_12))):Nat):Int))))):Nat):Int))))+([(1116352408:Int),(1899447441:Int),(3049323471:Int),(3921009573:Int),(961987163:Int),(1508970993:Int),(2453635748:Int),(2870763221:Int),(3624381080:Int),(310598401:Int),(607225278:Int),(1426881987:Int),(1925078388:Int),(2162078206:Int),(2614888103:Int),(3248222580:Int),(3835390401:Int),(4022224774:Int),(264347078:Int),(604807628:Int),(770255983:Int),(1249150122:Int),(1555081692:Int),(1996064986:Int),(2554220882:Int),(2821834349:Int),(2952996808:Int),(3210313671:Int),(3336571891:Int),(3584528711:Int),(113926993:Int),(338241895:Int),(666307205:Int),(773529912:Int),(1294757372:Int),(1396182291:Int),(1695183700:Int),(1986661051:Int),(2177026350:Int),(2456956037:Int),(2730485921:Int),(2820302411:Int),(3259730800:Int),(3345764771:Int),(3516065817:Int),(3600352804:Int),(4094571909:Int),(275423344:Int),(430227734:Int),(506948616:Int),(659060556:Int),(883997877:Int),(958139571:Int),(1322822218:Int),(1537002063:Int),(1747873779:Int),(1955562222:Int),(2024104815:Int),(2227730452:Int),(2361852424:Int),(2428436474:Int),(2756734187:Int),(3204031479:Int),(3329325298:Int)].getD v_37.toNat 0)))+(w_5r0.getD v_37.toNat 0))))) e_10 f_11 g_12 (w64 (v_37+1)) state_2r0 v_4r0 w_5r0)
  else none
  else none
  else none
  else none
 else
  k (.c1 0 state_2r0 v_4r0 [a_6,b_7,c_8,d_9,e_10,f_11,g_12,h_13])
 | .c1 v_109 state_2r0 v_4r0 out_17r0=>
 bif (decide (v_109<8)) then
  bif (Nat.beq 8 out_17r0.length) then
  bif ((decide (0≤v_109)) && (decide (v_109<(out_17r0.length:Int)))) then
  bif (Nat.beq 8 state_2r0.length) then
  bif ((decide (0≤v_109)) && (decide (v_109<(state_2r0.length:Int)))) then
  bif (Nat.beq 8 out_17r0.length) then
  bif ((decide (0≤v_109)) && (decide (v_109<(out_17r0.length:Int)))) then
  k (.c1 (w64 (v_109+1)) state_2r0 v_4r0 (out_17r0.set v_109.toNat (w32 ((out_17r0.getD v_109.toNat 0)+(state_2r0.getD v_109.toNat 0)))))
  else none
  else none
  else none
  else none
  else none
  else none
 else
  bif (Nat.beq 8 out_17r0.length) then
  bif ((Nat.beq out_17r0.length v_4r0.length) && (Nat.beq 8 out_17r0.length)) then
  bif ((Nat.beq 8 out_17r0.length) && true) then
  some out_17r0
  else none
  else none
  else none
noncomputable def La:Nat→Oj→Option (List Int)
 | 0,_=>none
 | m+1,s=>Gg Td QY (La m) s
noncomputable def Ud:Xo:=Pv Td QY (La gas)
theorem SAC:Tells ctx PP 132 cv17 cv13 (fun a=>Ud a.1 a.2):=
 have b:∀ z0 z1,CutIs ctx PP 132 Tryd.f132 [] [(153,X5 z0),(154,Uo z1)] cv13 Y5 (Gg z0 z1):=fun z0 z1 _ s=>by cases s <;> kernel_rfl
 have e:∀ z0 z1,EntryIs ctx PP 132 [] [(153,X5 z0),(154,Uo z1)] cv17 cv13 Y5 (fun k a=>Pv z0 z1 k a.1 a.2):=fun z0 z1 _ a=>by kernel_rfl
 fn_ok (hc RAC (hc U5 hl_nil)) Tryd.func132 (fun s s' h=>by cases s <;> cases s' <;> first | (cases h;done) | (cases h;rfl) | exact (rg_ne h (by kernel_rfl)).elim) (fun _=>rfl) (fun _ _=>rfl) (b Td QY) (e Td QY) gas
noncomputable def Z5 {γ:Type} (F:Xo):Hd ctx γ:=hdl cv17.dec (fun a=>F a.1 a.2) cv13.enc
abbrev Qv:=(List Int)→ByteArray→Option ((List Int)×ByteArray)
inductive Pj where
 | c0 (s_1:ByteArray) (state_2r0:(List Int)) (v_4r0:(List Int))
noncomputable def D6:Pj→LI
 | .c0 s_1 state_2r0 v_4r0=>(tdo Tryd.f106 96,[(1,[.one (.str s_1)]),(2,[.one (.ptr 128 0)]),(4,[.one (.ptr 256 0)])],[(128,.ar 114 state_2r0),(256,.ar 114 v_4r0)])
noncomputable def Sv (z0:Xo) (k:Pj→Option ((List Int)×ByteArray)) (state_0:(List Int)) (s_1:ByteArray):Option ((List Int)×ByteArray):=
 k (.c0 s_1 state_0 [0,0,0,0,0,0,0,0])
noncomputable def Yo (z0:Xo) (k:Pj→Option ((List Int)×ByteArray)):Pj→Option ((List Int)×ByteArray)
 | .c0 s_1 state_2r0 v_4r0=>
 bif (decide ((s_1.size:Int)≥64)) then
  bif (Nat.beq 8 state_2r0.length) then
  bif ((decide ((0:Int)≤(64:Int))) && (decide (64≤(s_1.size:Int)))) then
  (z0 state_2r0 (s_1.extract 0 (64:Int).toNat)).bind fun r0=>
  bif ((Nat.beq r0.length state_2r0.length) && (Nat.beq 8 r0.length)) then
  bif ((decide ((0:Int)≤(64:Int))) && (decide (64≤(s_1.size:Int)))) then
  k (.c0 (s_1.extract (64:Int).toNat s_1.size) r0 v_4r0)
  else none
  else none
  else none
  else none
 else
  bif (Nat.beq 8 state_2r0.length) then
  bif ((Nat.beq state_2r0.length v_4r0.length) && (Nat.beq 8 state_2r0.length)) then
  bif ((Nat.beq 8 state_2r0.length) && true) then
  some (state_2r0,s_1)
  else none
  else none
  else none
noncomputable def Qj:Nat→Pj→Option ((List Int)×ByteArray)
 | 0,_=>none
 | m+1,s=>Yo Ud (Qj m) s
noncomputable def Rj:Qv:=Sv Ud (Qj gas)
theorem UAC:Tells ctx PP 106 cv17 cv17 (fun a=>Rj a.1 a.2):=
 have b:∀ z0,CutIs ctx PP 106 Tryd.f106 [] [(132,Z5 z0)] cv17 D6 (Yo z0):=fun z0 _ s=>by cases s <;> kernel_rfl
 have e:∀ z0,EntryIs ctx PP 106 [] [(132,Z5 z0)] cv17 cv17 D6 (fun k a=>Sv z0 k a.1 a.2):=fun z0 _ a=>by kernel_rfl
 fn_ok (hc SAC hl_nil) Tryd.func106 (fun s s' h=>by cases s;cases s';cases h;rfl) (fun _=>rfl) (fun _ _=>rfl) (b Ud) (e Ud) gas
noncomputable def VAC {γ:Type} (F:Qv):Hd ctx γ:=hdl cv17.dec (fun a=>F a.1 a.2) cv17.enc
abbrev Tv:=(List Int)→Option ByteArray
inductive Sj where
 | c0 (out_3:ByteArray) (v_6:(List Int)) (v_7:Int)
noncomputable def F6:Sj→LI
 | .c0 out_3 v_6 v_7=>(tdo Tryd.f109 232,[(3,[.one (.str out_3)]),(6,[.arr 114 v_6]),(7,[.one (.int .i64 v_7)])],[])
noncomputable def Wv (z0:Gj) (k:Sj→Option ByteArray) (state_0:(List Int)):Option ByteArray:=
 bif (Nat.beq 8 state_0.length) then
 k (.c0 ⟨#[]⟩ state_0 0)
 else none
noncomputable def Zo (z0:Gj) (k:Sj→Option ByteArray):Sj→Option ByteArray
 | .c0 out_3 v_6 v_7=>
 bif (decide (v_7<8)) then
  bif (Nat.beq 8 v_6.length) then
  bif ((decide (0≤v_7)) && (decide (v_7<(v_6.length:Int)))) then
  (z0 (v_6.getD v_7.toNat 0)).bind fun r0=>
  bif (decide ((out_3.size+r0.size)≤9223372036854775807)) then
  k (.c0 (out_3++r0) v_6 (w64 (v_7+1)))
  else none
  else none
  else none
 else
  some out_3
noncomputable def Tj:Nat→Sj→Option ByteArray
 | 0,_=>none
 | m+1,s=>Zo Xb (Tj m) s
noncomputable def Uj:Tv:=Wv Xb (Tj gas)
theorem WAC:Tells ctx PP 109 cv13 cv9 (fun a=>Uj a):=
 have b:∀ z0,CutIs ctx PP 109 Tryd.f109 [] [(134,Zu z0)] cv9 F6 (Zo z0):=fun z0 _ s=>by cases s <;> kernel_rfl
 have e:∀ z0,EntryIs ctx PP 109 [] [(134,Zu z0)] cv13 cv9 F6 (fun k a=>Wv z0 k a):=fun z0 _ a=>by kernel_rfl
 fn_ok (hc Q5 hl_nil) Tryd.func109 (fun s s' h=>by cases s;cases s';cases h;rfl) (fun _=>rfl) (fun _ _=>rfl) (b Xb) (e Xb) gas
noncomputable def XAC {γ:Type} (F:Tv):Hd ctx γ:=hdl cv13.dec (fun a=>F a) cv9.enc
abbrev Ap:=ByteArray→Option ByteArray
noncomputable def Xv (z0:Wu) (z1:Fv) (z2:Qv) (z3:Tv) (s_0:ByteArray):Option ByteArray:=
 z0.bind fun r0=>
 (z1 (s_0.size:Int)).bind fun r1=>
 bif (decide ((s_0.size+r1.size)≤9223372036854775807)) then
 (z2 r0 (s_0++r1)).bind fun r2=>
 bif ((Nat.beq r2.1.length 8) && (Nat.beq 8 r2.1.length)) then
 bif (Nat.beq 8 r2.1.length) then
 (z3 r2.1).bind fun r3=>
 some r3
 else none
 else none
 else none
noncomputable def Vd:Ap:=Xv Qo Jj Rj Uj
theorem G6:Tells ctx PP 59 cv9 cv9 (fun a=>Vd a):=fn_ok0 (hc IAC (hc NAC (hc UAC (hc WAC hl_nil)))) Tryd.func59 ((fun z0 z1 z2 z3 a=>by kernel_rfl:∀ z0 z1 z2 z3,EntryIs0 ctx PP 59 [] [(107,JAC z0),(108,OAC z1),(106,VAC z2),(109,XAC z3)] cv9 cv9 fun a=>Xv z0 z1 z2 z3 a) Qo Jj Rj Uj)
noncomputable def H6 {γ:Type} (F:Ap):Hd ctx γ:=hdl cv9.dec (fun a=>F a) cv9.enc
abbrev Dp:=Option SBook
noncomputable def Yv (z0:Ap) (z1:Ro)  : Option SBook:=
 (z0 ⟨#[]⟩).bind fun r0=>
 (z1 32).bind fun r1=>
 some ⟨r0,0,[],0,r1,0⟩
noncomputable def Xd:Dp:=Yv Vd Qd
theorem J6:Tells ctx PP 41 cv12 cv40 (fun _=>Xd):=fn_ok0 (hc G6 (hc O5 hl_nil)) Tryd.func41 ((fun z0 z1 _=>by kernel_rfl:∀ z0 z1,EntryIs0 ctx PP 41 [] [(59,H6 z0),(92,P5 z1)] cv12 cv40 fun _=>Yv z0 z1) Vd Qd)
noncomputable def L6 {γ:Type} (F:Dp):Hd ctx γ:=hdl cv12.dec (fun _=>F) cv40.enc
abbrev Vj:=SBook→Option SBook
noncomputable def Zv (b_0:SBook):Option SBook:=
 bif (decide ((b_0.fThings.length*48)≤140737488355328)) then
 some b_0
 else none
noncomputable def Yb:Vj:=Zv
theorem O6:Tells ctx PP 83 cv45 cv40 (fun a=>Yb a):=fn_ok0 hl_nil Tryd.func83 (fun a=>by kernel_rfl:EntryIs0 ctx PP 83 [] [] cv45 cv40 fun a=>Zv a)
noncomputable def Aw {γ:Type} (F:Vj):Hd ctx γ:=hdl cv45.dec (fun a=>F a) cv40.enc
abbrev Wj:=Int→Option ByteArray
inductive Xj where
 | c0 (n_0:Int) (out_3:(List Int))
noncomputable def P6:Xj→LI
 | .c0 n_0 out_3=>(tdo Tryd.f114 224,[(0,[.one (.int .i64 n_0)]),(3,[.one (.own 240)])],[(240,.sl 5 out_3)])
noncomputable def U6 (k:Xj→Option ByteArray) (n_0:Int):Option ByteArray:=
 k (.c0 n_0 [])
noncomputable def Ep (k:Xj→Option ByteArray):Xj→Option ByteArray
 | .c0 n_0 out_3=>
 bif (decide (n_0 > 127)) then
  bif (decide (((out_3.length+1)*1)≤140737488355328)) then
  k (.c0 (w64 (n_0.tdiv 128)) (out_3++[(w8 (w64 (128+(n_0.tmod 128))))]))
  else none
 else
  bif (decide (((out_3.length+1)*1)≤140737488355328)) then
  some (ofBytes (out_3++[(w8 n_0)]))
  else none
noncomputable def Yj:Nat→Xj→Option ByteArray
 | 0,_=>none
 | m+1,s=>Ep (Yj m) s
noncomputable def Mc:Wj:=U6 (Yj gas)
theorem Dw:Tells ctx PP 114 cv14 cv9 (fun a=>Mc a):=
 have b:CutIs ctx PP 114 Tryd.f114 [] [] cv9 P6 (Ep):=fun _ s=>by cases s <;> kernel_rfl
 have e:EntryIs ctx PP 114 [] [] cv14 cv9 P6 (fun k a=>U6 k a):=fun _ a=>by kernel_rfl
 fn_ok hl_nil Tryd.func114 (fun s s' h=>by cases s;cases s';cases h;rfl) (fun _=>rfl) (fun _ _=>rfl) b e gas
noncomputable def Ew {γ:Type} (F:Wj):Hd ctx γ:=hdl cv14.dec (fun a=>F a) cv9.enc
abbrev Hg:=Int→Int→Int→Option Bool
noncomputable def V6 (n_0:Int) (low_1:Int) (high_2:Int):Option Bool:=
 bif (decide (n_0≥low_1)) then
 some (decide (n_0≤high_2))
 else
 some false
noncomputable def Cb:Hg:=V6
theorem Gw:Tells ctx PP 62 cv22 cv1 (fun a=>Cb a.1 a.2.1 a.2.2):=fn_ok0 hl_nil Tryd.func62 (fun a=>by kernel_rfl:EntryIs0 ctx PP 62 [] [] cv22 cv1 fun a=>V6 a.1 a.2.1 a.2.2)
noncomputable def Fp {γ:Type} (F:Hg):Hd ctx γ:=hdl cv22.dec (fun a=>F a.1 a.2.1 a.2.2) cv1.enc
abbrev Zj:=SThing→Option Bool
noncomputable def Hw (z0:Hg) (x_0:SThing):Option Bool:=
 (z0 x_0.fId 1 1000).bind fun r0=>
 bif (!r0) then
 some false
 else
 (z0 x_0.fNext 0 16).bind fun r1=>
 bif (!r1) then
  some false
 else
  bif (x_0.fKind != 2) then
  bif (x_0.fNext != 0) then
   some false
  else
   bif x_0.fSigns then
   some false
   else
   bif (x_0.fKind != 1) then
    bif x_0.fWraps then
    some false
    else
    bif (x_0.fKind == 1) then
     bif (x_0.fKind == 1) then
     some ((x_0.fValue.size:Int) == 32)
     else
     bif (x_0.fKind == 3) then
      some (decide ((x_0.fValue.size:Int)≤100))
     else
      some false
    else
     bif (x_0.fKind == 2) then
     some ((x_0.fValue.size:Int) == 32)
     else
     bif (x_0.fKind == 3) then
      some (decide ((x_0.fValue.size:Int)≤100))
     else
      some false
   else
    bif (x_0.fKind == 1) then
    bif (x_0.fKind == 1) then
     some ((x_0.fValue.size:Int) == 32)
    else
     bif (x_0.fKind == 3) then
     some (decide ((x_0.fValue.size:Int)≤100))
     else
     some false
    else
    bif (x_0.fKind == 2) then
     some ((x_0.fValue.size:Int) == 32)
    else
     bif (x_0.fKind == 3) then
     some (decide ((x_0.fValue.size:Int)≤100))
     else
     some false
  else
  bif (x_0.fKind != 1) then
   bif x_0.fWraps then
   some false
   else
   bif (x_0.fKind == 1) then
    bif (x_0.fKind == 1) then
    some ((x_0.fValue.size:Int) == 32)
    else
    bif (x_0.fKind == 3) then
     some (decide ((x_0.fValue.size:Int)≤100))
    else
     some false
   else
    bif (x_0.fKind == 2) then
    some ((x_0.fValue.size:Int) == 32)
    else
    bif (x_0.fKind == 3) then
     some (decide ((x_0.fValue.size:Int)≤100))
    else
     some false
  else
   bif (x_0.fKind == 1) then
   bif (x_0.fKind == 1) then
    some ((x_0.fValue.size:Int) == 32)
   else
    bif (x_0.fKind == 3) then
    some (decide ((x_0.fValue.size:Int)≤100))
    else
    some false
   else
   bif (x_0.fKind == 2) then
    some ((x_0.fValue.size:Int) == 32)
   else
    bif (x_0.fKind == 3) then
    some (decide ((x_0.fValue.size:Int)≤100))
    else
    some false
noncomputable def Zb:Zj:=Hw Cb
theorem X6:Tells ctx PP 16 cv30 cv1 (fun a=>Zb a):=fn_ok0 (hc Gw hl_nil) Tryd.func16 ((fun z0 a=>by kernel_rfl:∀ z0,EntryIs0 ctx PP 16 [] [(62,Fp z0)] cv30 cv1 fun a=>Hw z0 a) Cb)
noncomputable def Iw {γ:Type} (F:Zj):Hd ctx γ:=hdl cv30.dec (fun a=>F a) cv1.enc
abbrev Gp:=Int→Option ByteArray
noncomputable def Jw (n_0:Int):Option ByteArray:=
 some (ofBytes [(w8 n_0)])
noncomputable def Yd:Gp:=Jw
theorem Y6:Tells ctx PP 75 cv14 cv9 (fun a=>Yd a):=fn_ok0 hl_nil Tryd.func75 (fun a=>by kernel_rfl:EntryIs0 ctx PP 75 [] [] cv14 cv9 fun a=>Jw a)
noncomputable def D7 {γ:Type} (F:Gp):Hd ctx γ:=hdl cv14.dec (fun a=>F a) cv9.enc
abbrev Kw:=SThing→Option Int
inductive Ak where
 | c0 (n_3:Int) (v_15:Int) (v_16:Int) (v_14:(List Bool))
noncomputable def F7:Ak→LI
 | .c0 n_3 v_15 v_16 v_14=>(tdo Tryd.f142 232,[(3,[.one (.int .i64 n_3)]),(14,[.one (.own 944)]),(15,[.one (.int .i64 v_15)]),(16,[.one (.int .i64 v_16)])],[(944,.sl 4 v_14)])
noncomputable def Nw (k:Ak→Option Int) (x_0:SThing):Option Int:=
 k (.c0 0 ((4:Nat):Int) 0 [x_0.fHidden,x_0.fFixed,x_0.fSigns,x_0.fWraps])
noncomputable def G7 (k:Ak→Option Int):Ak→Option Int
 | .c0 n_3 v_15 v_16 v_14=>
 bif (decide (v_16<v_15)) then
  bif ((decide (0≤v_16)) && (decide (v_16<(v_14.length:Int)))) then
  bif (v_14.getD v_16.toNat false) then
  bif (decide (0≤v_16)) then
  k (.c0 (w64 (((BitVec.toNat ((BitVec.ofInt (IntKind.bits IntKind.i64) n_3) ||| (BitVec.ofInt (IntKind.bits IntKind.i64) (w64 (1*(2 ^ (Min.min v_16.toNat (IntKind.bits IntKind.i64)))))))):Nat):Int)) v_15 (w64 (v_16+1)) v_14)
  else none
  else
  k (.c0 n_3 v_15 (w64 (v_16+1)) v_14)
  else none
 else
  some n_3
noncomputable def Qw:Nat→Ak→Option Int
 | 0,_=>none
 | m+1,s=>G7 (Qw m) s
noncomputable def Ik:Kw:=Nw (Qw gas)
theorem YAC:Tells ctx PP 142 cv30 cv14 (fun a=>Ik a):=
 have b:CutIs ctx PP 142 Tryd.f142 [] [] cv14 F7 (G7):=fun _ s=>by cases s <;> kernel_rfl
 have e:EntryIs ctx PP 142 [] [] cv30 cv14 F7 (fun k a=>Nw k a):=fun _ a=>by kernel_rfl
 fn_ok hl_nil Tryd.func142 (fun s s' h=>by cases s;cases s';cases h;rfl) (fun _=>rfl) (fun _ _=>rfl) b e gas
noncomputable def ZAC {γ:Type} (F:Kw):Hd ctx γ:=hdl cv30.dec (fun a=>F a) cv14.enc
abbrev Rw:=ByteArray→Option ByteArray
noncomputable def Uw (z0:Wj) (s_0:ByteArray):Option ByteArray:=
 (z0 (s_0.size:Int)).bind fun r0=>
 bif (decide ((r0.size+s_0.size)≤9223372036854775807)) then
 some (r0++s_0)
 else none
noncomputable def Jk:Rw:=Uw Mc
theorem AAD:Tells ctx PP 143 cv9 cv9 (fun a=>Jk a):=fn_ok0 (hc Dw hl_nil) Tryd.func143 ((fun z0 a=>by kernel_rfl:∀ z0,EntryIs0 ctx PP 143 [] [(114,Ew z0)] cv9 cv9 fun a=>Uw z0 a) Mc)
noncomputable def CAD {γ:Type} (F:Rw):Hd ctx γ:=hdl cv9.dec (fun a=>F a) cv9.enc
abbrev Vw:=SThing→Option (ByteArray×Bool)
noncomputable def Xw (z0:Zj) (z1:Wj) (z2:Gp) (z3:Kw) (z4:Rw) (x_0:SThing):Option (ByteArray×Bool):=
 (z0 x_0).bind fun r0=>
 bif (!r0) then
 some (⟨#[]⟩,false)
 else
 (z1 x_0.fId).bind fun r1=>
 (z2 x_0.fKind).bind fun r2=>
 bif (decide ((r1.size+r2.size)≤9223372036854775807)) then
 (z3 x_0).bind fun r3=>
 (z2 r3).bind fun r4=>
 bif (decide (((r1++r2).size+r4.size)≤9223372036854775807)) then
 (z4 x_0.fValue).bind fun r5=>
 bif (decide ((((r1++r2)++r4).size+r5.size)≤9223372036854775807)) then
 (z1 x_0.fNext).bind fun r6=>
 bif (decide (((((r1++r2)++r4)++r5).size+r6.size)≤9223372036854775807)) then
 some (((((r1++r2)++r4)++r5)++r6),true)
 else none
 else none
 else none
 else none
noncomputable def Nk:Vw:=Xw Zb Mc Yd Ik Jk
theorem DAD:Tells ctx PP 119 cv30 cv33 (fun a=>Nk a):=fn_ok0 (hc X6 (hc Dw (hc Y6 (hc YAC (hc AAD hl_nil))))) Tryd.func119 ((fun z0 z1 z2 z3 z4 a=>by kernel_rfl:∀ z0 z1 z2 z3 z4,EntryIs0 ctx PP 119 [] [(16,Iw z0),(114,Ew z1),(75,D7 z2),(142,ZAC z3),(143,CAD z4)] cv30 cv33 fun a=>Xw z0 z1 z2 z3 z4 a) Zb Mc Yd Ik Jk)
noncomputable def EAD {γ:Type} (F:Vw):Hd ctx γ:=hdl cv30.dec (fun a=>F a) cv33.enc
abbrev Yw:=SRec→Option (ByteArray×Bool)
noncomputable def Zw (z0:Wj) (z1:Hg) (z2:Vw) (z3:Gp) (r_0:SRec):Option (ByteArray×Bool):=
 bif (r_0.fKind == 1) then
 bif (!((r_0.fText.size:Int) == 32)) then
  some (⟨#[]⟩,false)
 else
  bif (!((r_0.fKind == r_0.fKind) && (((ByteArray.toList r_0.fText) == (ByteArray.toList r_0.fText)) && ((r_0.fNum == 0) && (((r_0.fThing.fId == 0) && ((r_0.fThing.fKind == 0) && ((r_0.fThing.fHidden == false) && ((r_0.fThing.fFixed == false) && ((r_0.fThing.fSigns == false) && ((r_0.fThing.fWraps == false) && (((ByteArray.toList r_0.fThing.fValue) == (ByteArray.toList ⟨#[]⟩)) && ((r_0.fThing.fNext == 0) && true)))))))) && true))))) then
  some (⟨#[]⟩,false)
  else
  (z3 r_0.fKind).bind fun r0=>
  bif (decide ((r0.size+r_0.fText.size)≤9223372036854775807)) then
  some ((r0++r_0.fText),true)
  else none
 else
 bif (r_0.fKind == 2) then
  (z0 r_0.fNum).bind fun r1=>
  (z1 r_0.fNum 0 3).bind fun r2=>
  bif (!r2) then
  some (⟨#[]⟩,false)
  else
  bif (!((r_0.fKind == r_0.fKind) && (((ByteArray.toList r_0.fText) == (ByteArray.toList ⟨#[]⟩)) && ((r_0.fNum == r_0.fNum) && (((r_0.fThing.fId == 0) && ((r_0.fThing.fKind == 0) && ((r_0.fThing.fHidden == false) && ((r_0.fThing.fFixed == false) && ((r_0.fThing.fSigns == false) && ((r_0.fThing.fWraps == false) && (((ByteArray.toList r_0.fThing.fValue) == (ByteArray.toList ⟨#[]⟩)) && ((r_0.fThing.fNext == 0) && true)))))))) && true))))) then
   some (⟨#[]⟩,false)
  else
   (z3 r_0.fKind).bind fun r3=>
   bif (decide ((r3.size+r1.size)≤9223372036854775807)) then
   some ((r3++r1),true)
   else none
 else
  bif (r_0.fKind == 3) then
  (z2 r_0.fThing).bind fun r4=>
  bif (!r4.2) then
   some (⟨#[]⟩,false)
  else
   bif (!((r_0.fKind == r_0.fKind) && (((ByteArray.toList r_0.fText) == (ByteArray.toList ⟨#[]⟩)) && ((r_0.fNum == 0) && (((r_0.fThing.fId == r_0.fThing.fId) && ((r_0.fThing.fKind == r_0.fThing.fKind) && ((r_0.fThing.fHidden == r_0.fThing.fHidden) && ((r_0.fThing.fFixed == r_0.fThing.fFixed) && ((r_0.fThing.fSigns == r_0.fThing.fSigns) && ((r_0.fThing.fWraps == r_0.fThing.fWraps) && (((ByteArray.toList r_0.fThing.fValue) == (ByteArray.toList r_0.fThing.fValue)) && ((r_0.fThing.fNext == r_0.fThing.fNext) && true)))))))) && true))))) then
   some (⟨#[]⟩,false)
   else
   (z3 r_0.fKind).bind fun r5=>
   bif (decide ((r5.size+r4.1.size)≤9223372036854775807)) then
   some ((r5++r4.1),true)
   else none
  else
  bif (r_0.fKind == 4) then
   (z0 r_0.fNum).bind fun r6=>
   (z1 r_0.fNum 1 1000).bind fun r7=>
   bif (!r7) then
   some (⟨#[]⟩,false)
   else
   bif (!((r_0.fKind == r_0.fKind) && (((ByteArray.toList r_0.fText) == (ByteArray.toList ⟨#[]⟩)) && ((r_0.fNum == r_0.fNum) && (((r_0.fThing.fId == 0) && ((r_0.fThing.fKind == 0) && ((r_0.fThing.fHidden == false) && ((r_0.fThing.fFixed == false) && ((r_0.fThing.fSigns == false) && ((r_0.fThing.fWraps == false) && (((ByteArray.toList r_0.fThing.fValue) == (ByteArray.toList ⟨#[]⟩)) && ((r_0.fThing.fNext == 0) && true)))))))) && true))))) then
    some (⟨#[]⟩,false)
   else
    (z3 r_0.fKind).bind fun r8=>
    bif (decide ((r8.size+r6.size)≤9223372036854775807)) then
    some ((r8++r6),true)
    else none
  else
   some (⟨#[]⟩,false)
noncomputable def Qk:Yw:=Zw Mc Cb Nk Yd
theorem FAD:Tells ctx PP 82 cv44 cv33 (fun a=>Qk a):=fn_ok0 (hc Dw (hc Gw (hc DAD (hc Y6 hl_nil)))) Tryd.func82 ((fun z0 z1 z2 z3 a=>by kernel_rfl:∀ z0 z1 z2 z3,EntryIs0 ctx PP 82 [] [(114,Ew z0),(62,Fp z1),(119,EAD z2),(75,D7 z3)] cv44 cv33 fun a=>Zw z0 z1 z2 z3 a) Mc Cb Nk Yd)
noncomputable def GAD {γ:Type} (F:Yw):Hd ctx γ:=hdl cv44.dec (fun a=>F a) cv33.enc
abbrev Ip:=SBook→Option Bool
inductive Rk where
 | c0 (v_6:(List SThing)) (v_7:Int) (v_8:Int) (b_1:SBook)
noncomputable def H7:Rk→LI
 | .c0 v_6 v_7 v_8 b_1=>(tdo Tryd.f36 104,[(1,[.one (.ptr 64 0)]),(6,[.one (.rsl 27 v_6)]),(7,[.one (.int .i64 v_7)]),(8,[.one (.int .i64 v_8)])],[(64,.var [.str b_1.fWord,.int .i64 b_1.fTries,.rsl 27 b_1.fThings,.int .i64 b_1.fLast,.str b_1.fChain,.int .i64 b_1.fCount])])
noncomputable def Dx (z0:Zj) (z1:Hg) (k:Rk→Option Bool) (b_0:SBook):Option Bool:=
 k (.c0 b_0.fThings (b_0.fThings.length:Int) 0 b_0)
noncomputable def Jp (z0:Zj) (z1:Hg) (k:Rk→Option Bool):Rk→Option Bool
 | .c0 v_6 v_7 v_8 b_1=>
 bif (decide (v_8<v_7)) then
  bif ((decide (0≤v_8)) && (decide (v_8<(v_6.length:Int)))) then
  (z0 (v_6.getD v_8.toNat (⟨0,0,false,false,false,false,⟨#[]⟩,0⟩:SThing))).bind fun r0=>
  bif (!r0) then
  some false
  else
  bif (decide ((v_6.getD v_8.toNat (⟨0,0,false,false,false,false,⟨#[]⟩,0⟩:SThing)).fId > b_1.fLast)) then
   some false
  else
   bif (decide (v_8 > 0)) then
   bif ((decide (0≤(w64 (v_8 - 1)))) && (decide ((w64 (v_8 - 1))<(b_1.fThings.length:Int)))) then
   bif (decide ((b_1.fThings.getD (w64 (v_8 - 1)).toNat (⟨0,0,false,false,false,false,⟨#[]⟩,0⟩:SThing)).fId≥(v_6.getD v_8.toNat (⟨0,0,false,false,false,false,⟨#[]⟩,0⟩:SThing)).fId)) then
    some false
   else
    k (.c0 v_6 v_7 (w64 (v_8+1)) b_1)
   else none
   else
   k (.c0 v_6 v_7 (w64 (v_8+1)) b_1)
  else none
 else
  bif ((b_1.fWord.size:Int) == 32) then
  bif ((b_1.fChain.size:Int) == 32) then
   (z1 b_1.fTries 0 3).bind fun r1=>
   bif r1 then
   bif (decide ((b_1.fThings.length:Int)≤8)) then
    (z1 b_1.fLast 0 1000).bind fun r2=>
    bif r2 then
    (z1 b_1.fCount 0 10000).bind fun r3=>
    some r3
    else
    some false
   else
    some false
   else
   some false
  else
   some false
  else
  some false
noncomputable def Ig:Nat→Rk→Option Bool
 | 0,_=>none
 | m+1,s=>Jp Zb Cb (Ig m) s
noncomputable def Zd:Ip:=Dx Zb Cb (Ig gas)
theorem I7:Tells ctx PP 36 cv45 cv1 (fun a=>Zd a):=
 have b:∀ z0 z1,CutIs ctx PP 36 Tryd.f36 [] [(16,Iw z0),(62,Fp z1)] cv1 H7 (Jp z0 z1):=fun z0 z1 _ s=>by cases s <;> kernel_rfl
 have e:∀ z0 z1,EntryIs ctx PP 36 [] [(16,Iw z0),(62,Fp z1)] cv45 cv1 H7 (fun k a=>Dx z0 z1 k a):=fun z0 z1 _ a=>by kernel_rfl
 fn_ok (hc X6 (hc Gw hl_nil)) Tryd.func36 (fun s s' h=>by cases s;cases s';(repeat cases ‹SBook›);cases h;rfl) (fun _=>rfl) (fun _ _=>rfl) (b Zb Cb) (e Zb Cb) gas
noncomputable def J7 {γ:Type} (F:Ip):Hd ctx γ:=hdl cv45.dec (fun a=>F a) cv1.enc
abbrev Np:=SBook→Int→Option Int
inductive Uk where
 | c0 (id_1:Int) (v_8:(List SThing)) (v_9:Int) (v_10:Int)
noncomputable def N7:Uk→LI
 | .c0 id_1 v_8 v_9 v_10=>(tdo Tryd.f85 104,[(1,[.one (.int .i64 id_1)]),(8,[.one (.rsl 27 v_8)]),(9,[.one (.int .i64 v_9)]),(10,[.one (.int .i64 v_10)])],[])
noncomputable def O7 (k:Uk→Option Int) (b_0:SBook) (id_1:Int):Option Int:=
 k (.c0 id_1 b_0.fThings (b_0.fThings.length:Int) 0)
noncomputable def Qp (k:Uk→Option Int):Uk→Option Int
 | .c0 id_1 v_8 v_9 v_10=>
 bif (decide (v_10<v_9)) then
  bif ((decide (0≤v_10)) && (decide (v_10<(v_8.length:Int)))) then
  bif ((v_8.getD v_10.toNat (⟨0,0,false,false,false,false,⟨#[]⟩,0⟩:SThing)).fId == id_1) then
  some v_10
  else
  k (.c0 id_1 v_8 v_9 (w64 (v_10+1)))
  else none
 else
  some (-(1:Int))
noncomputable def Jg:Nat→Uk→Option Int
 | 0,_=>none
 | m+1,s=>Qp (Jg m) s
noncomputable def Og:Np:=O7 (Jg gas)
theorem P7:Tells ctx PP 85 cv46 cv14 (fun a=>Og a.1 a.2):=
 have b:CutIs ctx PP 85 Tryd.f85 [] [] cv14 N7 (Qp):=fun _ s=>by cases s <;> kernel_rfl
 have e:EntryIs ctx PP 85 [] [] cv46 cv14 N7 (fun k a=>O7 k a.1 a.2):=fun _ a=>by kernel_rfl
 fn_ok hl_nil Tryd.func85 (fun s s' h=>by cases s;cases s';cases h;rfl) (fun _=>rfl) (fun _ _=>rfl) b e gas
noncomputable def Q7 {γ:Type} (F:Np):Hd ctx γ:=hdl cv46.dec (fun a=>F a.1 a.2) cv14.enc
abbrev Gx:=SThing→SThing→Option Bool
noncomputable def Ox (x_0:SThing) (y_1:SThing):Option Bool:=
 bif (y_1.fKind == x_0.fKind) then
 bif ((ByteArray.toList y_1.fValue) == (ByteArray.toList x_0.fValue)) then
  bif (y_1.fSigns == x_0.fSigns) then
  bif (y_1.fWraps == x_0.fWraps) then
   bif (decide (y_1.fNext≥x_0.fNext)) then
   bif y_1.fHidden then
    bif y_1.fFixed then
    some true
    else
    some (!x_0.fFixed)
   else
    bif (!x_0.fHidden) then
    bif y_1.fFixed then
     some true
    else
     some (!x_0.fFixed)
    else
    some false
   else
   some false
  else
   some false
  else
  some false
 else
  some false
 else
 some false
noncomputable def Vk:Gx:=Ox
theorem IAD:Tells ctx PP 120 cv47 cv1 (fun a=>Vk a.1 a.2):=fn_ok0 hl_nil Tryd.func120 (fun a=>by kernel_rfl:EntryIs0 ctx PP 120 [] [] cv47 cv1 fun a=>Ox a.1 a.2)
noncomputable def JAD {γ:Type} (F:Gx):Hd ctx γ:=hdl cv47.dec (fun a=>F a.1 a.2) cv1.enc
abbrev Px:=SBook→SThing→Option (Bool×SBook)
noncomputable def Qx (z0:Np) (z1:Gx) (b_0:SBook) (x_1:SThing):Option (Bool×SBook):=
 (z0 b_0 x_1.fId).bind fun r0=>
 bif (decide (r0≥0)) then
 bif ((decide (0≤r0)) && (decide (r0<(b_0.fThings.length:Int)))) then
 (z1 (b_0.fThings.getD r0.toNat (⟨0,0,false,false,false,false,⟨#[]⟩,0⟩:SThing)) x_1).bind fun r1=>
 bif (!r1) then
  some (false,b_0)
 else
  bif ((decide (0≤r0)) && (decide (r0<(b_0.fThings.length:Int)))) then
  some (true,⟨b_0.fWord,b_0.fTries,(b_0.fThings.set r0.toNat x_1),b_0.fLast,b_0.fChain,b_0.fCount⟩)
  else none
 else none
 else
 bif (x_1.fId != (w64 (b_0.fLast+1))) then
  some (false,b_0)
 else
  bif (decide ((b_0.fThings.length:Int)≥8)) then
  some (false,b_0)
  else
  bif (decide (((b_0.fThings.length+1)*48)≤140737488355328)) then
  some (true,⟨b_0.fWord,b_0.fTries,(b_0.fThings++[x_1]),x_1.fId,b_0.fChain,b_0.fCount⟩)
  else none
noncomputable def Xk:Px:=Qx Og Vk
theorem KAD:Tells ctx PP 84 cv55 cv56 (fun a=>Xk a.1 a.2):=fn_ok0 (hc P7 (hc IAD hl_nil)) Tryd.func84 ((fun z0 z1 a=>by kernel_rfl:∀ z0 z1,EntryIs0 ctx PP 84 [0] [(85,Q7 z0),(120,JAD z1)] cv55 cv56 fun a=>Qx z0 z1 a.1 a.2) Og Vk)
noncomputable def LAD {γ:Type} (F:Px):Hd ctx γ:=hdl cv55.dec (fun a=>F a.1 a.2) cv56.enc
abbrev Vp:=SBook→SRec→Option (SBook×Bool)
noncomputable def Rx (z0:Yw) (z1:Ip) (z2:Vj) (z3:Px) (z4:Np) (z5:Ap) (b_0:SBook) (r_1:SRec):Option (SBook×Bool):=
 (z0 r_1).bind fun r0=>
 (z1 b_0).bind fun r1=>
 bif (!r1) then
 some (⟨⟨#[]⟩,0,[],0,⟨#[]⟩,0⟩,false)
 else
 bif (!r0.2) then
  some (⟨⟨#[]⟩,0,[],0,⟨#[]⟩,0⟩,false)
 else
  bif (decide (b_0.fCount≥10000)) then
  some (⟨⟨#[]⟩,0,[],0,⟨#[]⟩,0⟩,false)
  else
  (z2 b_0).bind fun r2=>
  bif (r_1.fKind == 1) then
   bif (decide ((b_0.fChain.size+r0.1.size)≤9223372036854775807)) then
   (z5 (b_0.fChain++r0.1)).bind fun r3=>
   some (⟨r_1.fText,0,r2.fThings,r2.fLast,r3,(w64 (r2.fCount+1))⟩,true)
   else none
  else
   bif (r_1.fKind == 2) then
   bif (decide ((b_0.fChain.size+r0.1.size)≤9223372036854775807)) then
   (z5 (b_0.fChain++r0.1)).bind fun r4=>
   some (⟨r2.fWord,r_1.fNum,r2.fThings,r2.fLast,r4,(w64 (r2.fCount+1))⟩,true)
   else none
   else
   bif (r_1.fKind == 3) then
    (z3 r2 r_1.fThing).bind fun r5=>
    bif (!r5.1) then
    some (⟨⟨#[]⟩,0,[],0,⟨#[]⟩,0⟩,false)
    else
    bif (decide ((b_0.fChain.size+r0.1.size)≤9223372036854775807)) then
    (z5 (b_0.fChain++r0.1)).bind fun r6=>
    some (⟨r5.2.fWord,r5.2.fTries,r5.2.fThings,r5.2.fLast,r6,(w64 (r5.2.fCount+1))⟩,true)
    else none
   else
    bif (r_1.fKind == 4) then
    (z4 b_0 r_1.fNum).bind fun r7=>
    bif (decide (r7<0)) then
     some (⟨⟨#[]⟩,0,[],0,⟨#[]⟩,0⟩,false)
    else
     bif ((decide (0≤r7)) && (decide (r7≤(b_0.fThings.length:Int)))) then
     bif (decide ((((b_0.fThings.take r7.toNat).drop 0).length*48)≤140737488355328)) then
     bif ((decide (0≤(w64 (r7+1)))) && (decide ((w64 (r7+1))≤(b_0.fThings.length:Int)))) then
     bif (decide (((((b_0.fThings.take r7.toNat).drop 0).length+((b_0.fThings.take b_0.fThings.length).drop (w64 (r7+1)).toNat).length)*48)≤140737488355328)) then
     bif (decide ((b_0.fChain.size+r0.1.size)≤9223372036854775807)) then
     (z5 (b_0.fChain++r0.1)).bind fun r8=>
     some (⟨r2.fWord,r2.fTries,(((b_0.fThings.take r7.toNat).drop 0)++((b_0.fThings.take b_0.fThings.length).drop (w64 (r7+1)).toNat)),r2.fLast,r8,(w64 (r2.fCount+1))⟩,true)
     else none
     else none
     else none
     else none
     else none
    else
    bif (decide ((b_0.fChain.size+r0.1.size)≤9223372036854775807)) then
    (z5 (b_0.fChain++r0.1)).bind fun r9=>
    some (⟨r2.fWord,r2.fTries,r2.fThings,r2.fLast,r9,(w64 (r2.fCount+1))⟩,true)
    else none
noncomputable def Ae:Vp:=Rx Qk Zd Yb Xk Og Vd
theorem MAD:Tells ctx PP 33 cv50 cv51 (fun a=>Ae a.1 a.2):=fn_ok0 (hc FAD (hc I7 (hc O6 (hc KAD (hc P7 (hc G6 hl_nil)))))) Tryd.func33 ((fun z0 z1 z2 z3 z4 z5 a=>by kernel_rfl:∀ z0 z1 z2 z3 z4 z5,EntryIs0 ctx PP 33 [] [(82,GAD z0),(36,J7 z1),(83,Aw z2),(84,LAD z3),(85,Q7 z4),(59,H6 z5)] cv50 cv51 fun a=>Rx z0 z1 z2 z3 z4 z5 a.1 a.2) Qk Zd Yb Xk Og Vd)
noncomputable def U7 {γ:Type} (F:Vp):Hd ctx γ:=hdl cv50.dec (fun a=>F a.1 a.2) cv51.enc
abbrev Wp:=SBook→(List SRec)→Option (SBook×Bool)
inductive Yk where
 | c0 (v_13:(List SRec)) (v_14:Int) (v_15:Int) (v_4c0:ByteArray) (v_4c1:Int) (v_4c3:Int) (v_4c4:ByteArray) (v_4c5:Int) (out_6c0:ByteArray) (out_6c1:Int) (out_6c3:Int) (out_6c4:ByteArray) (out_6c5:Int) (v_4r2:(List SThing)) (out_6r2:(List SThing))
noncomputable def V7:Yk→LI
 | .c0 v_13 v_14 v_15 v_4c0 v_4c1 v_4c3 v_4c4 v_4c5 out_6c0 out_6c1 out_6c3 out_6c4 out_6c5 v_4r2 out_6r2=>(tdo Tryd.f40 232,[(4,[.one (.ptr 256 0)]),(6,[.one (.ptr 384 0)]),(13,[.one (.rsl 47 v_13)]),(14,[.one (.int .i64 v_14)]),(15,[.one (.int .i64 v_15)])],[(256,.var [.str v_4c0,.int .i64 v_4c1,.own 1016386,.int .i64 v_4c3,.str v_4c4,.int .i64 v_4c5]),(384,.var [.str out_6c0,.int .i64 out_6c1,.own 1024578,.int .i64 out_6c3,.str out_6c4,.int .i64 out_6c5]),(1016386,.sl 27 v_4r2),(1024578,.sl 27 out_6r2)])
noncomputable def Ux (z0:Vj) (z1:Vp) (k:Yk→Option (SBook×Bool)) (b_0:SBook) (list_1:(List SRec)):Option (SBook×Bool):=
 (z0 b_0).bind fun r0=>
 k (.c0 list_1 (list_1.length:Int) 0 ⟨#[]⟩ 0 0 ⟨#[]⟩ 0 r0.fWord r0.fTries r0.fLast r0.fChain r0.fCount [] r0.fThings)
noncomputable def Xp (z0:Vj) (z1:Vp) (k:Yk→Option (SBook×Bool)):Yk→Option (SBook×Bool)
 | .c0 v_13 v_14 v_15 v_4c0 v_4c1 v_4c3 v_4c4 v_4c5 out_6c0 out_6c1 out_6c3 out_6c4 out_6c5 v_4r2 out_6r2=>
 bif (decide (v_15<v_14)) then
  bif ((decide (0≤v_15)) && (decide (v_15<(v_13.length:Int)))) then
  (z1 ⟨out_6c0,out_6c1,out_6r2,out_6c3,out_6c4,out_6c5⟩ (v_13.getD v_15.toNat (⟨0,⟨#[]⟩,0,⟨0,0,false,false,false,false,⟨#[]⟩,0⟩⟩:SRec))).bind fun r0=>
  bif (!r0.2) then
  some (⟨⟨#[]⟩,0,[],0,⟨#[]⟩,0⟩,false)
  else
  k (.c0 v_13 v_14 (w64 (v_15+1)) v_4c0 v_4c1 v_4c3 v_4c4 v_4c5 r0.1.fWord r0.1.fTries r0.1.fLast r0.1.fChain r0.1.fCount v_4r2 r0.1.fThings)
  else none
 else
  some (⟨out_6c0,out_6c1,out_6r2,out_6c3,out_6c4,out_6c5⟩,true)
noncomputable def Zk:Nat→Yk→Option (SBook×Bool)
 | 0,_=>none
 | m+1,s=>Xp Yb Ae (Zk m) s
noncomputable def Ce:Wp:=Ux Yb Ae (Zk gas)
theorem X7:Tells ctx PP 40 cv59 cv51 (fun a=>Ce a.1 a.2):=
 have b:∀ z0 z1,CutIs ctx PP 40 Tryd.f40 [] [(83,Aw z0),(33,U7 z1)] cv51 V7 (Xp z0 z1):=fun z0 z1 _ s=>by cases s <;> kernel_rfl
 have e:∀ z0 z1,EntryIs ctx PP 40 [] [(83,Aw z0),(33,U7 z1)] cv59 cv51 V7 (fun k a=>Ux z0 z1 k a.1 a.2):=fun z0 z1 _ a=>by kernel_rfl
 fn_ok (hc O6 (hc MAD hl_nil)) Tryd.func40 (fun s s' h=>by cases s;cases s';cases h;rfl) (fun _=>rfl) (fun _ _=>rfl) (b Yb Ae) (e Yb Ae) gas
noncomputable def Y7 {γ:Type} (F:Wp):Hd ctx γ:=hdl cv59.dec (fun a=>F a.1 a.2) cv51.enc
abbrev Yp:=SBook→(List SRec)→Option (SBook×Bool)
inductive Bl where
 | c0 (list_1:(List SRec)) (i_7:Int) (v_4c0:ByteArray) (v_4c1:Int) (v_4c3:Int) (v_4c4:ByteArray) (v_4c5:Int) (out_6c0:ByteArray) (out_6c1:Int) (out_6c3:Int) (out_6c4:ByteArray) (out_6c5:Int) (v_4r2:(List SThing)) (out_6r2:(List SThing))
noncomputable def Z7:Bl→LI
 | .c0 list_1 i_7 v_4c0 v_4c1 v_4c3 v_4c4 v_4c5 out_6c0 out_6c1 out_6c3 out_6c4 out_6c5 v_4r2 out_6r2=>(tdo Tryd.f42 464,[(1,[.one (.rsl 47 list_1)]),(4,[.one (.ptr 256 0)]),(6,[.one (.ptr 384 0)]),(7,[.one (.int .i64 i_7)])],[(256,.var [.str v_4c0,.int .i64 v_4c1,.own 1016386,.int .i64 v_4c3,.str v_4c4,.int .i64 v_4c5]),(384,.var [.str out_6c0,.int .i64 out_6c1,.own 1024578,.int .i64 out_6c3,.str out_6c4,.int .i64 out_6c5]),(1016386,.sl 27 v_4r2),(1024578,.sl 27 out_6r2)])
noncomputable def Vx (z0:Xf) (z1:Bg) (k:Bl→Option (SBook×Bool)) (b_0:SBook) (list_1:(List SRec)):Option (SBook×Bool):=
 (z0 b_0).bind fun r0=>
 k (.c0 list_1 0 ⟨#[]⟩ 0 0 ⟨#[]⟩ 0 r0.fWord r0.fTries r0.fLast r0.fChain r0.fCount [] r0.fThings)
noncomputable def Zp (z0:Xf) (z1:Bg) (k:Bl→Option (SBook×Bool)):Bl→Option (SBook×Bool)
 | .c0 list_1 i_7 v_4c0 v_4c1 v_4c3 v_4c4 v_4c5 out_6c0 out_6c1 out_6c3 out_6c4 out_6c5 v_4r2 out_6r2=>
 bif (decide (i_7<(list_1.length:Int))) then
  bif ((decide (0≤i_7)) && (decide (i_7<(list_1.length:Int)))) then
  (z1 ⟨out_6c0,out_6c1,out_6r2,out_6c3,out_6c4,out_6c5⟩ (list_1.getD i_7.toNat (⟨0,⟨#[]⟩,0,⟨0,0,false,false,false,false,⟨#[]⟩,0⟩⟩:SRec))).bind fun r0=>
  bif (!r0.2) then
  some (⟨⟨#[]⟩,0,[],0,⟨#[]⟩,0⟩,false)
  else
  k (.c0 list_1 (w64 (i_7+1)) v_4c0 v_4c1 v_4c3 v_4c4 v_4c5 r0.1.fWord r0.1.fTries r0.1.fLast r0.1.fChain r0.1.fCount v_4r2 r0.1.fThings)
  else none
 else
  some (⟨out_6c0,out_6c1,out_6r2,out_6c3,out_6c4,out_6c5⟩,true)
noncomputable def Dl:Nat→Bl→Option (SBook×Bool)
 | 0,_=>none
 | m+1,s=>Zp Ia Ja (Dl m) s
noncomputable def Ee:Yp:=Vx Ia Ja (Dl gas)
theorem A8:Tells ctx PP 42 cv59 cv51 (fun a=>Ee a.1 a.2):=
 have b:∀ z0 z1,CutIs ctx PP 42 Tryd.f42 [] [(87,Zn z0),(34,Ko z1)] cv51 Z7 (Zp z0 z1):=fun z0 z1 _ s=>by cases s <;> kernel_rfl
 have e:∀ z0 z1,EntryIs ctx PP 42 [] [(87,Zn z0),(34,Ko z1)] cv59 cv51 Z7 (fun k a=>Vx z0 z1 k a.1 a.2):=fun z0 z1 _ a=>by kernel_rfl
 fn_ok (hc J4 (hc E5 hl_nil)) Tryd.func42 (fun s s' h=>by cases s;cases s';cases h;rfl) (fun _=>rfl) (fun _ _=>rfl) (b Ia Ja) (e Ia Ja) gas
noncomputable def D8 {γ:Type} (F:Yp):Hd ctx γ:=hdl cv59.dec (fun a=>F a.1 a.2) cv51.enc
abbrev Wx:=Unit→Option (List Int)
inductive Gl where
 | c0 (i_5:Int) (v_7c1:Int) (v_7c2:Int) (out_4:(List Int))
noncomputable def E8:Gl→LI
 | .c0 i_5 v_7c1 v_7c2 out_4=>(tdo Tryd.f44 2000,[(3,[.one (.ptr 448 0)]),(4,[.one (.own 304)]),(5,[.one (.int .i64 i_5)])],[(448,.var [.csl,.int .i64 v_7c1,.int .i64 v_7c2]),(304,.sl 3 out_4)])
noncomputable def Xx (z0:Df) (z1:Xc) (z2:XZ) (k:Gl→Option (List Int)) (code_0:Unit):Option (List Int):=
 (z0 ()).bind fun r0=>
 (z1 ⟨(),r0.fI,r0.fH⟩).bind fun r1=>
 k (.c0 0 r1.2.fI r1.2.fH [])
noncomputable def Aq (z0:Df) (z1:Xc) (z2:XZ) (k:Gl→Option (List Int)):Gl→Option (List Int)
 | .c0 i_5 v_7c1 v_7c2 out_4=>
 bif (decide (i_5<12)) then
  (z2 ⟨(),v_7c1,v_7c2⟩ 10000).bind fun r0=>
  bif (decide (((out_4.length+1)*8)≤140737488355328)) then
  k (.c0 (w64 (i_5+1)) r0.2.fI r0.2.fH (out_4++[r0.1]))
  else none
 else
  some out_4
noncomputable def Hl:Nat→Gl→Option (List Int)
 | 0,_=>none
 | m+1,s=>Aq Ba OZ OY (Hl m) s
noncomputable def Il:Wx:=Xx Ba OZ OY (Hl gas)
theorem NAD:Tells ctx PP 44 cv0 cv60 (fun a=>Il a):=
 have b:∀ z0 z1 z2,CutIs ctx PP 44 Tryd.f44 [] [(53,Lm z0),(93,Ai z1),(57,Za z2)] cv60 E8 (Aq z0 z1 z2):=fun z0 z1 z2 _ s=>by cases s <;> kernel_rfl
 have e:∀ z0 z1 z2,EntryIs ctx PP 44 [] [(53,Lm z0),(93,Ai z1),(57,Za z2)] cv0 cv60 E8 (fun k a=>Xx z0 z1 z2 k a):=fun z0 z1 z2 _ a=>by kernel_rfl
 fn_ok (hc Xq (hc Ns (hc Ic hl_nil))) Tryd.func44 (fun s s' h=>by cases s;cases s';cases h;rfl) (fun _=>rfl) (fun _ _=>rfl) (b Ba OZ OY) (e Ba OZ OY) gas
noncomputable def OAD {γ:Type} (F:Wx):Hd ctx γ:=hdl cv0.dec (fun a=>F a) cv60.enc
abbrev Yx:=SBook→SBook→Option Bool
inductive Jl where
 | c0 (i_5:Int) (a_2:SBook) (b_3:SBook)
noncomputable def F8:Jl→LI
 | .c0 i_5 a_2 b_3=>(tdo Tryd.f35 464,[(2,[.one (.ptr 128 0)]),(3,[.one (.ptr 192 0)]),(5,[.one (.int .i64 i_5)])],[(128,.var [.str a_2.fWord,.int .i64 a_2.fTries,.rsl 27 a_2.fThings,.int .i64 a_2.fLast,.str a_2.fChain,.int .i64 a_2.fCount]),(192,.var [.str b_3.fWord,.int .i64 b_3.fTries,.rsl 27 b_3.fThings,.int .i64 b_3.fLast,.str b_3.fChain,.int .i64 b_3.fCount])])
noncomputable def Zx (k:Jl→Option Bool) (a_0:SBook) (b_1:SBook):Option Bool:=
 bif (!((ByteArray.toList a_0.fWord) == (ByteArray.toList b_1.fWord))) then
 some false
 else
 bif (a_0.fTries != b_1.fTries) then
  some false
 else
  bif (a_0.fLast != b_1.fLast) then
  some false
  else
  bif (!((ByteArray.toList a_0.fChain) == (ByteArray.toList b_1.fChain))) then
   some false
  else
   bif (a_0.fCount != b_1.fCount) then
   some false
   else
   bif ((a_0.fThings.length:Int) != (b_1.fThings.length:Int)) then
    some false
   else
    k (.c0 0 a_0 b_1)
noncomputable def Bq (k:Jl→Option Bool):Jl→Option Bool
 | .c0 i_5 a_2 b_3=>
 bif (decide (i_5<(a_2.fThings.length:Int))) then
  bif ((decide (0≤i_5)) && (decide (i_5<(a_2.fThings.length:Int)))) then
  bif ((decide (0≤i_5)) && (decide (i_5<(b_3.fThings.length:Int)))) then
  bif (!(((a_2.fThings.getD i_5.toNat (⟨0,0,false,false,false,false,⟨#[]⟩,0⟩:SThing)).fId == (b_3.fThings.getD i_5.toNat (⟨0,0,false,false,false,false,⟨#[]⟩,0⟩:SThing)).fId) && (((a_2.fThings.getD i_5.toNat (⟨0,0,false,false,false,false,⟨#[]⟩,0⟩:SThing)).fKind == (b_3.fThings.getD i_5.toNat (⟨0,0,false,false,false,false,⟨#[]⟩,0⟩:SThing)).fKind) && (((a_2.fThings.getD i_5.toNat (⟨0,0,false,false,false,false,⟨#[]⟩,0⟩:SThing)).fHidden == (b_3.fThings.getD i_5.toNat (⟨0,0,false,false,false,false,⟨#[]⟩,0⟩:SThing)).fHidden) && (((a_2.fThings.getD i_5.toNat (⟨0,0,false,false,false,false,⟨#[]⟩,0⟩:SThing)).fFixed == (b_3.fThings.getD i_5.toNat (⟨0,0,false,false,false,false,⟨#[]⟩,0⟩:SThing)).fFixed) && (((a_2.fThings.getD i_5.toNat (⟨0,0,false,false,false,false,⟨#[]⟩,0⟩:SThing)).fSigns == (b_3.fThings.getD i_5.toNat (⟨0,0,false,false,false,false,⟨#[]⟩,0⟩:SThing)).fSigns) && (((a_2.fThings.getD i_5.toNat (⟨0,0,false,false,false,false,⟨#[]⟩,0⟩:SThing)).fWraps == (b_3.fThings.getD i_5.toNat (⟨0,0,false,false,false,false,⟨#[]⟩,0⟩:SThing)).fWraps) && (((ByteArray.toList (a_2.fThings.getD i_5.toNat (⟨0,0,false,false,false,false,⟨#[]⟩,0⟩:SThing)).fValue) == (ByteArray.toList (b_3.fThings.getD i_5.toNat (⟨0,0,false,false,false,false,⟨#[]⟩,0⟩:SThing)).fValue)) && (((a_2.fThings.getD i_5.toNat (⟨0,0,false,false,false,false,⟨#[]⟩,0⟩:SThing)).fNext == (b_3.fThings.getD i_5.toNat (⟨0,0,false,false,false,false,⟨#[]⟩,0⟩:SThing)).fNext) && true))))))))) then
  some false
  else
  k (.c0 (w64 (i_5+1)) a_2 b_3)
  else none
  else none
 else
  some true
noncomputable def Ll:Nat→Jl→Option Bool
 | 0,_=>none
 | m+1,s=>Bq (Ll m) s
noncomputable def Nl:Yx:=Zx (Ll gas)
theorem PAD:Tells ctx PP 35 cv57 cv1 (fun a=>Nl a.1 a.2):=
 have b:CutIs ctx PP 35 Tryd.f35 [] [] cv1 F8 (Bq):=fun _ s=>by cases s <;> kernel_rfl
 have e:EntryIs ctx PP 35 [] [] cv57 cv1 F8 (fun k a=>Zx k a.1 a.2):=fun _ a=>by kernel_rfl
 fn_ok hl_nil Tryd.func35 (fun s s' h=>by cases s;cases s';(repeat cases ‹SBook›);cases h;rfl) (fun _=>rfl) (fun _ _=>rfl) b e gas
noncomputable def QAD {γ:Type} (F:Yx):Hd ctx γ:=hdl cv57.dec (fun a=>F a.1 a.2) cv1.enc
abbrev Dy:=SBook→(List SRec)→Option Bool
noncomputable def Ey (z0:Dp) (z1:Wp) (b_0:SBook) (list_1:(List SRec)):Option Bool:=
 z0.bind fun r0=>
 (z1 r0 list_1).bind fun r1=>
 bif r1.2 then
 bif ((ByteArray.toList r1.1.fChain) == (ByteArray.toList b_0.fChain)) then
  some (r1.1.fCount == b_0.fCount)
 else
  some false
 else
 some false
noncomputable def Ol:Dy:=Ey Xd Ce
theorem RAD:Tells ctx PP 45 cv59 cv1 (fun a=>Ol a.1 a.2):=fn_ok0 (hc J6 (hc X7 hl_nil)) Tryd.func45 ((fun z0 z1 a=>by kernel_rfl:∀ z0 z1,EntryIs0 ctx PP 45 [] [(41,L6 z0),(40,Y7 z1)] cv59 cv1 fun a=>Ey z0 z1 a.1 a.2) Xd Ce)
noncomputable def SAD {γ:Type} (F:Dy):Hd ctx γ:=hdl cv59.dec (fun a=>F a.1 a.2) cv1.enc
abbrev Gy:=Unit→Option (SBook×(List SRec))
noncomputable def Hy (z0:Df) (z1:Oo) (z2:Di) (z3:XZ) (z4:Ji) (code_0:Unit):Option (SBook×(List SRec)):=
 (z0 ()).bind fun r0=>
 (z1 ⟨(),r0.fI,r0.fH⟩).bind fun r1=>
 bif (decide ((r1.1.length:Int) > 0)) then
 (z2 ⟨(),r1.2.2.fI,r1.2.2.fH⟩ 2).bind fun r2=>
 bif r2.1 then
  bif (decide (((0+r1.1.length)*80)≤140737488355328)) then
  (z3 ⟨(),r2.2.fI,r2.2.fH⟩ (([]++r1.1).length:Int)).bind fun r3=>
  (z4 ⟨(),r3.2.fI,r3.2.fH⟩ r1.2.1).bind fun r4=>
  bif ((decide (0≤r3.1)) && (decide (r3.1<(([]++r1.1).length:Int)))) then
  some (r1.2.1,(([]++r1.1).set r3.1.toNat r4.1))
  else none
  else none
 else
  some (r1.2.1,r1.1)
 else
 some (r1.2.1,r1.1)
noncomputable def Ql:Gy:=Hy Ba Md Ob OY Qb
theorem TAD:Tells ctx PP 46 cv0 cv61 (fun a=>Ql a):=fn_ok0 (hc Xq (hc G5 (hc Et (hc Ic (hc Y2 hl_nil))))) Tryd.func46 ((fun z0 z1 z2 z3 z4 a=>by kernel_rfl:∀ z0 z1 z2 z3 z4,EntryIs0 ctx PP 46 [] [(53,Lm z0),(91,I5 z1),(54,Gt z2),(57,Za z3),(94,Tt z4)] cv0 cv61 fun a=>Hy z0 z1 z2 z3 z4 a) Ba Md Ob OY Qb)
noncomputable def UAD {γ:Type} (F:Gy):Hd ctx γ:=hdl cv0.dec (fun a=>F a) cv61.enc
abbrev Iy:=SBook→(List SRec)→Option Bool
noncomputable def Jy (z0:Uf) (z1:Yp) (b_0:SBook) (list_1:(List SRec)):Option Bool:=
 z0.bind fun r0=>
 (z1 r0 list_1).bind fun r1=>
 bif r1.2 then
 bif ((ByteArray.toList r1.1.fChain) == (ByteArray.toList b_0.fChain)) then
  some (r1.1.fCount == b_0.fCount)
 else
  some false
 else
 some false
noncomputable def Rl:Iy:=Jy Fa Ee
theorem VAD:Tells ctx PP 47 cv59 cv1 (fun a=>Rl a.1 a.2):=fn_ok0 (hc Js (hc A8 hl_nil)) Tryd.func47 ((fun z0 z1 a=>by kernel_rfl:∀ z0 z1,EntryIs0 ctx PP 47 [] [(43,Pn z0),(42,D8 z1)] cv59 cv1 fun a=>Jy z0 z1 a.1 a.2) Fa Ee)
noncomputable def WAD {γ:Type} (F:Iy):Hd ctx γ:=hdl cv59.dec (fun a=>F a.1 a.2) cv1.enc
abbrev G8:=Unit→Option Bool
noncomputable def Ky (z0:Vq) (z1:Uu) (z2:Dp) (z3:Wp) (z4:Uf) (z5:Yp) (z6:Wx) (z7:Yx) (z8:Dy) (z9:Ip) (z10:Gy) (z11:Iy) (code_0:Unit):Option Bool:=
 (z0 ()).bind fun r0=>
 bif r0 then
 some true
 else
 (z1 ()).bind fun r1=>
 z2.bind fun r2=>
 (z3 r2 r1).bind fun r3=>
 z4.bind fun r4=>
 (z5 r4 r1).bind fun r5=>
 (z6 ()).bind fun r6=>
 bif ((decide ((0:Int)≤(0:Int))) && (decide (0<(r6.length:Int)))) then
 bif (!((w64 ((r1.length:Int)+1)) == 0)) then
 z2.bind fun r7=>
 bif ((decide (0≤((r6.getD (0:Int).toNat 0).tmod (w64 ((r1.length:Int)+1))))) && (decide (((r6.getD (0:Int).toNat 0).tmod (w64 ((r1.length:Int)+1)))≤(r1.length:Int)))) then
 (z3 r7 ((r1.drop 0).take (((r6.getD (0:Int).toNat 0).tmod (w64 ((r1.length:Int)+1))).toNat - 0))).bind fun r8=>
 bif ((decide (0≤((r6.getD (0:Int).toNat 0).tmod (w64 ((r1.length:Int)+1))))) && (decide (((r6.getD (0:Int).toNat 0).tmod (w64 ((r1.length:Int)+1)))≤(r1.length:Int)))) then
 (z3 r8.1 ((r1.drop ((r6.getD (0:Int).toNat 0).tmod (w64 ((r1.length:Int)+1))).toNat).take (r1.length - ((r6.getD (0:Int).toNat 0).tmod (w64 ((r1.length:Int)+1))).toNat))).bind fun r9=>
 bif (!r3.2) then
  some false
 else
  bif (!r8.2) then
  some false
  else
  bif (!r9.2) then
   some false
  else
   (z7 r3.1 r5.1).bind fun r10=>
   bif (!r10) then
   some false
   else
   (z7 r9.1 r3.1).bind fun r11=>
   bif (!r11) then
    some false
   else
    (z8 r3.1 r1).bind fun r12=>
    bif (!r12) then
    some false
    else
    (z9 r3.1).bind fun r13=>
    bif (!r13) then
     some false
    else
     (z10 ()).bind fun r14=>
     (z8 r14.1 r14.2).bind fun r15=>
     (z11 r14.1 r14.2).bind fun r16=>
     bif (r15 == r16) then
     bif ((r1.length:Int) == 0) then
      some true
     else
      bif ((decide (0≤(w64 ((r1.length:Int) - 1)))) && (decide ((w64 ((r1.length:Int) - 1))≤(r1.length:Int)))) then
      (z8 r3.1 ((r1.drop 0).take ((w64 ((r1.length:Int) - 1)).toNat - 0))).bind fun r17=>
      some (!r17)
      else none
     else
     some false
 else none
 else none
 else none
 else none
noncomputable def laws_FnChainsOfBooks:G8:=Ky Gm Fj Xd Ce Fa Ee Il Nl Ol Zd Ql Rl
theorem ok_laws_FnChainsOfBooks:Tells ctx PP 7 cv0 cv1 (fun a=>laws_FnChainsOfBooks a):=fn_ok0 (hc WAA (hc GAC (hc J6 (hc X7 (hc Js (hc A8 (hc NAD (hc PAD (hc RAD (hc I7 (hc TAD (hc VAD hl_nil)))))))))))) Tryd.func7 ((fun z0 z1 z2 z3 z4 z5 z6 z7 z8 z9 z10 z11 a=>by kernel_rfl:∀ z0 z1 z2 z3 z4 z5 z6 z7 z8 z9 z10 z11,EntryIs0 ctx PP 7 [] [(9,XAA z0),(39,HAC z1),(41,L6 z2),(40,Y7 z3),(43,Pn z4),(42,D8 z5),(44,OAD z6),(35,QAD z7),(45,SAD z8),(36,J7 z9),(46,UAD z10),(47,WAD z11)] cv0 cv1 fun a=>Ky z0 z1 z2 z3 z4 z5 z6 z7 z8 z9 z10 z11 a) Gm Fj Xd Ce Fa Ee Il Nl Ol Zd Ql Rl)
noncomputable def DAI {γ:Type} (F:G8):Hd ctx γ:=hdl cv0.dec (fun a=>F a) cv1.enc
end Go.Proofs.YtjfkbidckphneaaDoor.G

/- Functions of the program, told by plain functions: part 1 of 1. -/
import Derived.Test.YtjfkbidckphneaaCtx
namespace Go.Proofs.Ytjfkbidckphneaa.G
open Go Go.Ev
set_option linter.unusedVariables false
set_option linter.unusedSectionVars false
variable [PC]
abbrev Zd:=Unit→Option Bool
noncomputable def Ui (code_0:Unit):Option Bool:=
 some (decide ((codeL.length:Int) > 1048576))
noncomputable def Ba:Zd:=Ui
theorem Zl:Tells ctx PP 5 cv0 cv1 (fun a=>Ba a):=fn_ok0 hl_nil Try.func5 (fun a=>by kernel_rfl:EntryIs0 ctx PP 5 [] [] cv0 cv1 fun a=>Ui a)
noncomputable def Wi {γ:Type} (F:Zd):Hd ctx γ:=hdl cv0.dec (fun a=>F a) cv1.enc
abbrev Rf:=Unit→Option SL01Cur
inductive Nb where
 | c0 (h_3:Int) (i_4:Int)
noncomputable def Xi:Nb→LI
 | .c0 h_3 i_4=>(tdo Try.f18 464,[(0,[.one (.csl)]),(3,[.one (.int .i64 h_3)]),(4,[.one (.int .i64 i_4)])],[])
noncomputable def Tf (k:Nb→Option SL01Cur) (code_0:Unit):Option SL01Cur:=
 k (.c0 (w64 (27401+(codeL.length:Int))) 0)
noncomputable def Ae (k:Nb→Option SL01Cur):Nb→Option SL01Cur
 | .c0 h_3 i_4=>
 bif (decide (i_4<(codeL.length:Int))) then
  bif (decide (i_4<4000)) then
  bif ((decide (0≤i_4)) && (decide (i_4<(codeL.length:Int)))) then
  bif (Nat.blt i_4.toNat codeL.length) then
  k (.c0 (w64 (((BitVec.toNat ((BitVec.ofInt (IntKind.bits IntKind.i64) (w64 ((w64 ((w64 (h_3*131))+(w64 (codeL.getD i_4.toNat 0))))+7))) &&& (BitVec.ofInt (IntKind.bits IntKind.i64) 1073741823))):Nat):Int)) (w64 (i_4+1)))
  else none
  else none
  else
  some ⟨(),0,h_3⟩
 else
  some ⟨(),0,h_3⟩
noncomputable def Ob:Nat→Nb→Option SL01Cur
 | 0,_=>none
 | m+1,s=>Ae (Ob m) s
noncomputable def Qb:Rf:=Tf (Ob gas)
theorem Am:Tells ctx PP 18 cv0 cv2 (fun a=>Qb a):=
 have b:CutIs ctx PP 18 Try.f18 [] [] cv2 Xi (Ae):=fun _ s=>by cases s <;> kernel_rfl
 have e:EntryIs ctx PP 18 [] [] cv0 cv2 Xi (fun k a=>Tf k a):=fun _ a=>by kernel_rfl
 fn_ok hl_nil Try.func18 (fun s s' h=>by cases s;cases s';cases h;rfl) (fun _=>rfl) (fun _ _=>rfl) b e gas
noncomputable def Cm {γ:Type} (F:Rf):Hd ctx γ:=hdl cv0.dec (fun a=>F a) cv2.enc
abbrev Ub:=SL01Cur→Option (Int×SL01Cur)
noncomputable def Uf (c_0:SL01Cur):Option (Int×SL01Cur):=
 bif (decide (c_0.fI<(codeL.length:Int))) then
 bif ((decide (0≤c_0.fI)) && (decide (c_0.fI<(codeL.length:Int)))) then
 bif (Nat.blt c_0.fI.toNat codeL.length) then
 some ((w64 (((BitVec.toNat ((BitVec.ofInt (IntKind.bits IntKind.i64) (w64 ((w64 (((BitVec.toNat ((BitVec.ofInt (IntKind.bits IntKind.i64) (w64 (((BitVec.toNat ((BitVec.ofInt (IntKind.bits IntKind.i64) (Int.fdiv (w64 ((w64 (c_0.fH*6364136223846793005))+1442695040888963407)) (2 ^ (Min.min (33:Int).toNat (IntKind.bits IntKind.i64))))) ^^^ (BitVec.ofInt (IntKind.bits IntKind.i64) (Int.fdiv (w64 ((w64 (c_0.fH*6364136223846793005))+1442695040888963407)) (2 ^ (Min.min (45:Int).toNat (IntKind.bits IntKind.i64))))))):Nat):Int))) &&& (BitVec.ofInt (IntKind.bits IntKind.i64) 255))):Nat):Int))+(w64 (codeL.getD c_0.fI.toNat 0))))) &&& (BitVec.ofInt (IntKind.bits IntKind.i64) 255))):Nat):Int)),⟨(),(w64 (c_0.fI+1)),(w64 ((w64 (c_0.fH*6364136223846793005))+1442695040888963407))⟩)
 else none
 else none
 else
 some ((w64 (((BitVec.toNat ((BitVec.ofInt (IntKind.bits IntKind.i64) (w64 (((BitVec.toNat ((BitVec.ofInt (IntKind.bits IntKind.i64) (Int.fdiv (w64 ((w64 (c_0.fH*6364136223846793005))+1442695040888963407)) (2 ^ (Min.min (33:Int).toNat (IntKind.bits IntKind.i64))))) ^^^ (BitVec.ofInt (IntKind.bits IntKind.i64) (Int.fdiv (w64 ((w64 (c_0.fH*6364136223846793005))+1442695040888963407)) (2 ^ (Min.min (45:Int).toNat (IntKind.bits IntKind.i64))))))):Nat):Int))) &&& (BitVec.ofInt (IntKind.bits IntKind.i64) 255))):Nat):Int)),⟨(),c_0.fI,(w64 ((w64 (c_0.fH*6364136223846793005))+1442695040888963407))⟩)
noncomputable def EZ:Ub:=Uf
theorem Yi:Tells ctx PP 56 cv3 cv4 (fun a=>EZ a):=fn_ok0 hl_nil Try.func56 (fun a=>by kernel_rfl:EntryIs0 ctx PP 56 [0] [] cv3 cv4 fun a=>Uf a)
noncomputable def Vf {γ:Type} (F:Ub):Hd ctx γ:=hdl cv3.dec (fun a=>F a) cv4.enc
abbrev NZ:=SL01Cur→Int→Option (Int×SL01Cur)
noncomputable def Xf (z0:Ub) (c_0:SL01Cur) (n_1:Int):Option (Int×SL01Cur):=
 bif (decide (n_1≤0)) then
 some (0,⟨(),c_0.fI,c_0.fH⟩)
 else
 bif (decide (n_1≤256)) then
  (z0 ⟨(),c_0.fI,c_0.fH⟩).bind fun r0=>
  bif (!(n_1 == 0)) then
  some ((r0.1.tmod n_1),⟨(),r0.2.fI,r0.2.fH⟩)
  else none
 else
  (z0 ⟨(),c_0.fI,c_0.fH⟩).bind fun r1=>
  (z0 ⟨(),r1.2.fI,r1.2.fH⟩).bind fun r2=>
  (z0 ⟨(),r2.2.fI,r2.2.fH⟩).bind fun r3=>
  (z0 ⟨(),r3.2.fI,r3.2.fH⟩).bind fun r4=>
  bif (!(n_1 == 0)) then
  some (((w64 ((w64 ((w64 ((w64 (r1.1*16777216))+(w64 (r2.1*65536))))+(w64 (r3.1*256))))+r4.1)).tmod n_1),⟨(),r4.2.fI,r4.2.fH⟩)
  else none
noncomputable def PY:NZ:=Xf EZ
theorem Vb:Tells ctx PP 38 cv5 cv4 (fun a=>PY a.1 a.2):=fn_ok0 (hc Yi hl_nil) Try.func38 ((fun z0 a=>by kernel_rfl:∀ z0,EntryIs0 ctx PP 38 [0] [(56,Vf z0)] cv5 cv4 fun a=>Xf z0 a.1 a.2) EZ)
noncomputable def Xb {γ:Type} (F:NZ):Hd ctx γ:=hdl cv5.dec (fun a=>F a.1 a.2) cv4.enc
abbrev Ce:=SL01Cur→Int→Option (Bool×SL01Cur)
noncomputable def Yf (z0:NZ) (c_0:SL01Cur) (n_1:Int):Option (Bool×SL01Cur):=
 (z0 ⟨(),c_0.fI,c_0.fH⟩ n_1).bind fun r0=>
 some ((r0.1 == 0),⟨(),r0.2.fI,r0.2.fH⟩)
noncomputable def OZ:Ce:=Yf PY
theorem Zi:Tells ctx PP 20 cv5 cv6 (fun a=>OZ a.1 a.2):=fn_ok0 (hc Vb hl_nil) Try.func20 ((fun z0 a=>by kernel_rfl:∀ z0,EntryIs0 ctx PP 20 [0] [(38,Xb z0)] cv5 cv6 fun a=>Yf z0 a.1 a.2) PY)
noncomputable def Aj {γ:Type} (F:Ce):Hd ctx γ:=hdl cv5.dec (fun a=>F a.1 a.2) cv6.enc
abbrev Zf:=SL01Cur→Int→Option (ByteArray×SL01Cur)
inductive Yb where
 | c0 (n_1:Int) (i_6:Int) (c_0c1:Int) (c_0c2:Int) (out_5:(List Int))
noncomputable def Bj:Yb→LI
 | .c0 n_1 i_6 c_0c1 c_0c2 out_5=>(tdo Try.f51 976,[(0,[.one (.ptr 0 0)]),(1,[.one (.int .i64 n_1)]),(5,[.one (.own 368)]),(6,[.one (.int .i64 i_6)])],[(0,.var [.csl,.int .i64 c_0c1,.int .i64 c_0c2]),(368,.sl 5 out_5)])
noncomputable def Ag (z0:Ub) (k:Yb→Option (ByteArray×SL01Cur)) (c_0:SL01Cur) (n_1:Int):Option (ByteArray×SL01Cur):=
 bif (decide (n_1 > 5000)) then
 k (.c0 5000 0 c_0.fI c_0.fH [])
 else
 k (.c0 n_1 0 c_0.fI c_0.fH [])
noncomputable def Ee (z0:Ub) (k:Yb→Option (ByteArray×SL01Cur)):Yb→Option (ByteArray×SL01Cur)
 | .c0 n_1 i_6 c_0c1 c_0c2 out_5=>
 bif (decide (i_6<n_1)) then
  (z0 ⟨(),c_0c1,c_0c2⟩).bind fun r0=>
  bif (decide (((out_5.length+1)*1)≤140737488355328)) then
  k (.c0 n_1 (w64 (i_6+1)) r0.2.fI r0.2.fH (out_5++[(w8 r0.1)]))
  else none
 else
  some ((ofBytes out_5),⟨(),c_0c1,c_0c2⟩)
noncomputable def Ea:Nat→Yb→Option (ByteArray×SL01Cur)
 | 0,_=>none
 | m+1,s=>Ee EZ (Ea m) s
noncomputable def Zb:Zf:=Ag EZ (Ea gas)
theorem Em:Tells ctx PP 51 cv5 cv7 (fun a=>Zb a.1 a.2):=
 have b:∀ z0,CutIs ctx PP 51 Try.f51 [0] [(56,Vf z0)] cv7 Bj (Ee z0):=fun z0 _ s=>by cases s <;> kernel_rfl
 have e:∀ z0,EntryIs ctx PP 51 [0] [(56,Vf z0)] cv5 cv7 Bj (fun k a=>Ag z0 k a.1 a.2):=fun z0 _ a=>by kernel_rfl
 fn_ok (hc Yi hl_nil) Try.func51 (fun s s' h=>by cases s;cases s';cases h;rfl) (fun _=>rfl) (fun _ _=>rfl) (b EZ) (e EZ) gas
noncomputable def Gm {γ:Type} (F:Zf):Hd ctx γ:=hdl cv5.dec (fun a=>F a.1 a.2) cv7.enc
abbrev Bg:=SL01Cur→(List ByteArray)→Option (ByteArray×SL01Cur)
noncomputable def Fg (z0:NZ) (c_0:SL01Cur) (list_1:(List ByteArray)):Option (ByteArray×SL01Cur):=
 (z0 ⟨(),c_0.fI,c_0.fH⟩ (list_1.length:Int)).bind fun r0=>
 bif ((decide (0≤r0.1)) && (decide (r0.1<(list_1.length:Int)))) then
 some ((list_1.getD r0.1.toNat (⟨#[]⟩:ByteArray)),⟨(),r0.2.fI,r0.2.fH⟩)
 else none
noncomputable def Ac:Bg:=Fg PY
theorem Jm:Tells ctx PP 55 cv8 cv7 (fun a=>Ac a.1 a.2):=fn_ok0 (hc Vb hl_nil) Try.func55 ((fun z0 a=>by kernel_rfl:∀ z0,EntryIs0 ctx PP 55 [0] [(38,Xb z0)] cv8 cv7 fun a=>Fg z0 a.1 a.2) PY)
noncomputable def Lm {γ:Type} (F:Bg):Hd ctx γ:=hdl cv8.dec (fun a=>F a.1 a.2) cv7.enc
abbrev Gg:=Option (List Int)
noncomputable def Cj  : Option (List Int):=
 some [1779033703,3144134277,1013904242,2773480762,1359893119,2600822924,528734635,1541459225]
noncomputable def Fe:Gg:=Cj
theorem Om:Tells ctx PP 71 cv9 cv10 (fun _=>Fe):=fn_ok0 hl_nil Try.func71 (fun _=>by kernel_rfl:EntryIs0 ctx PP 71 [] [] cv9 cv10 fun _=>Cj)
noncomputable def Pm {γ:Type} (F:Gg):Hd ctx γ:=hdl cv9.dec (fun _=>F) cv10.enc
abbrev PZ:=(List Int)→Option ByteArray
inductive Bc where
 | c0 (words_0:(List Int)) (i_4:Int) (out_3:(List Int))
noncomputable def Ej:Bc→LI
 | .c0 words_0 i_4 out_3=>(tdo Try.f70 464,[(0,[.one (.rsl 105 words_0)]),(3,[.one (.own 240)]),(4,[.one (.int .i64 i_4)])],[(240,.sl 5 out_3)])
noncomputable def Fj (k:Bc→Option ByteArray) (words_0:(List Int)):Option ByteArray:=
 k (.c0 words_0 0 [])
noncomputable def He (k:Bc→Option ByteArray):Bc→Option ByteArray
 | .c0 words_0 i_4 out_3=>
 bif (decide (i_4<(words_0.length:Int))) then
  bif ((decide (0≤i_4)) && (decide (i_4<(words_0.length:Int)))) then
  bif (decide (((out_3.length+4)*1)≤140737488355328)) then
  k (.c0 words_0 (w64 (i_4+1)) (out_3++[(w8 (w32 ((words_0.getD i_4.toNat 0).tdiv 16777216))),(w8 ((w32 ((words_0.getD i_4.toNat 0).tdiv 65536)).tmod 256)),(w8 ((w32 ((words_0.getD i_4.toNat 0).tdiv 256)).tmod 256)),(w8 ((words_0.getD i_4.toNat 0).tmod 256))]))
  else none
  else none
 else
  some (ofBytes out_3)
noncomputable def Cc:Nat→Bc→Option ByteArray
 | 0,_=>none
 | m+1,s=>He (Cc m) s
noncomputable def TY:PZ:=Fj (Cc gas)
theorem Hg:Tells ctx PP 70 cv11 cv12 (fun a=>TY a):=
 have b:CutIs ctx PP 70 Try.f70 [] [] cv12 Ej (He):=fun _ s=>by cases s <;> kernel_rfl
 have e:EntryIs ctx PP 70 [] [] cv11 cv12 Ej (fun k a=>Fj k a):=fun _ a=>by kernel_rfl
 fn_ok hl_nil Try.func70 (fun s s' h=>by cases s;cases s';cases h;rfl) (fun _=>rfl) (fun _ _=>rfl) b e gas
noncomputable def Dc {γ:Type} (F:PZ):Hd ctx γ:=hdl cv11.dec (fun a=>F a) cv12.enc
abbrev Ig:=Option SHasher
noncomputable def Jg (z0:Gg) (z1:PZ)  : Option SHasher:=
 z0.bind fun r0=>
 (z1 r0).bind fun r1=>
 some ⟨r1,⟨#[]⟩,0⟩
noncomputable def Ic:Ig:=Jg Fe TY
theorem Qm:Tells ctx PP 65 cv9 cv13 (fun _=>Ic):=fn_ok0 (hc Om (hc Hg hl_nil)) Try.func65 ((fun z0 z1 _=>by kernel_rfl:∀ z0 z1,EntryIs0 ctx PP 65 [] [(71,Pm z0),(70,Dc z1)] cv9 cv13 fun _=>Jg z0 z1) Fe TY)
noncomputable def Sm {γ:Type} (F:Ig):Hd ctx γ:=hdl cv9.dec (fun _=>F) cv13.enc
abbrev Ie:=Int→Int→Int→Option Bool
noncomputable def Gj (x_0:Int) (least_1:Int) (most_2:Int):Option Bool:=
 bif (decide (x_0≥least_1)) then
 some (decide (x_0≤most_2))
 else
 some false
noncomputable def Fa:Ie:=Gj
theorem Ij:Tells ctx PP 21 cv14 cv1 (fun a=>Fa a.1 a.2.1 a.2.2):=fn_ok0 hl_nil Try.func21 (fun a=>by kernel_rfl:EntryIs0 ctx PP 21 [] [] cv14 cv1 fun a=>Gj a.1 a.2.1 a.2.2)
noncomputable def Jj {γ:Type} (F:Ie):Hd ctx γ:=hdl cv14.dec (fun a=>F a.1 a.2.1 a.2.2) cv1.enc
abbrev Ia:=SHasher→Option Bool
noncomputable def Og (z0:Ie) (h_0:SHasher):Option Bool:=
 bif ((h_0.fState.size:Int) == 32) then
 bif (decide ((h_0.fRest.size:Int)<64)) then
  (z0 h_0.fCount 0 1000000000).bind fun r0=>
  bif r0 then
  some ((h_0.fCount.tmod 64) == (h_0.fRest.size:Int))
  else
  some false
 else
  some false
 else
 some false
noncomputable def QY:Ia:=Og Fa
theorem Lj:Tells ctx PP 66 cv13 cv1 (fun a=>QY a):=fn_ok0 (hc Ij hl_nil) Try.func66 ((fun z0 a=>by kernel_rfl:∀ z0,EntryIs0 ctx PP 66 [] [(21,Jj z0)] cv13 cv1 fun a=>Og z0 a) Fa)
noncomputable def Je {γ:Type} (F:Ia):Hd ctx γ:=hdl cv13.dec (fun a=>F a) cv1.enc
abbrev Me:=ByteArray→Int→Option Int
noncomputable def Pg (s_0:ByteArray) (at_1:Int):Option Int:=
 bif ((decide (0≤at_1)) && (decide (at_1<(s_0.size:Int)))) then
 bif ((decide (0≤(w64 (at_1+1)))) && (decide ((w64 (at_1+1))<(s_0.size:Int)))) then
 bif ((decide (0≤(w64 (at_1+2)))) && (decide ((w64 (at_1+2))<(s_0.size:Int)))) then
 bif ((decide (0≤(w64 (at_1+3)))) && (decide ((w64 (at_1+3))<(s_0.size:Int)))) then
 some (w32 ((w32 ((w32 ((w32 ((w32 (bt s_0 at_1))*16777216))+(w32 ((w32 (bt s_0 (w64 (at_1+1))))*65536))))+(w32 ((w32 (bt s_0 (w64 (at_1+2))))*256))))+(w32 (bt s_0 (w64 (at_1+3))))))
 else none
 else none
 else none
 else none
noncomputable def QZ:Me:=Pg
theorem Um:Tells ctx PP 72 cv15 cv16 (fun a=>QZ a.1 a.2):=fn_ok0 hl_nil Try.func72 (fun a=>by kernel_rfl:EntryIs0 ctx PP 72 [] [] cv15 cv16 fun a=>Pg a.1 a.2)
noncomputable def Nj {γ:Type} (F:Me):Hd ctx γ:=hdl cv15.dec (fun a=>F a.1 a.2) cv16.enc
abbrev LZ:=ByteArray→Option (List Int)
inductive Jc where
 | c0 (s_0:ByteArray) (i_4:Int) (out_3:(List Int))
noncomputable def Oj:Jc→LI
 | .c0 s_0 i_4 out_3=>(tdo Try.f67 464,[(0,[.one (.str s_0)]),(3,[.one (.own 240)]),(4,[.one (.int .i64 i_4)])],[(240,.sl 105 out_3)])
noncomputable def Pj (z0:Me) (k:Jc→Option (List Int)) (s_0:ByteArray):Option (List Int):=
 k (.c0 s_0 0 [])
noncomputable def Oe (z0:Me) (k:Jc→Option (List Int)):Jc→Option (List Int)
 | .c0 s_0 i_4 out_3=>
 bif (decide ((w64 (i_4+4))≤(s_0.size:Int))) then
  (z0 s_0 i_4).bind fun r0=>
  bif (decide (((out_3.length+1)*4)≤140737488355328)) then
  k (.c0 s_0 (w64 (i_4+4)) (out_3++[r0]))
  else none
 else
  some out_3
noncomputable def Lc:Nat→Jc→Option (List Int)
 | 0,_=>none
 | m+1,s=>Oe QZ (Lc m) s
noncomputable def LY:LZ:=Pj QZ (Lc gas)
theorem Qg:Tells ctx PP 67 cv12 cv10 (fun a=>LY a):=
 have b:∀ z0,CutIs ctx PP 67 Try.f67 [] [(72,Nj z0)] cv10 Oj (Oe z0):=fun z0 _ s=>by cases s <;> kernel_rfl
 have e:∀ z0,EntryIs ctx PP 67 [] [(72,Nj z0)] cv12 cv10 Oj (fun k a=>Pj z0 k a):=fun z0 _ a=>by kernel_rfl
 fn_ok (hc Um hl_nil) Try.func67 (fun s s' h=>by cases s;cases s';cases h;rfl) (fun _=>rfl) (fun _ _=>rfl) (b QZ) (e QZ) gas
noncomputable def Ja {γ:Type} (F:LZ):Hd ctx γ:=hdl cv12.dec (fun a=>F a) cv10.enc
abbrev La:=Option (List Int)
noncomputable def Qj  : Option (List Int):=
 some [1116352408,1899447441,3049323471,3921009573,961987163,1508970993,2453635748,2870763221,3624381080,310598401,607225278,1426881987,1925078388,2162078206,2614888103,3248222580,3835390401,4022224774,264347078,604807628,770255983,1249150122,1555081692,1996064986,2554220882,2821834349,2952996808,3210313671,3336571891,3584528711,113926993,338241895,666307205,773529912,1294757372,1396182291,1695183700,1986661051,2177026350,2456956037,2730485921,2820302411,3259730800,3345764771,3516065817,3600352804,4094571909,275423344,430227734,506948616,659060556,883997877,958139571,1322822218,1537002063,1747873779,1955562222,2024104815,2227730452,2361852424,2428436474,2756734187,3204031479,3329325298]
noncomputable def ZY:La:=Qj
theorem Rj:Tells ctx PP 68 cv9 cv10 (fun _=>ZY):=fn_ok0 hl_nil Try.func68 (fun _=>by kernel_rfl:EntryIs0 ctx PP 68 [] [] cv9 cv10 fun _=>Qj)
noncomputable def Qe {γ:Type} (F:La):Hd ctx γ:=hdl cv9.dec (fun _=>F) cv10.enc
abbrev Ug:=Int→Int→Int→Option Int
noncomputable def Vg (x_0:Int) (low_1:Int) (high_2:Int):Option Int:=
 bif (!(low_1 == 0)) then
 bif (!(low_1 == 0)) then
 some (w32 ((w32 (x_0.tdiv low_1))+(w32 ((x_0.tmod low_1)*high_2))))
 else none
 else none
noncomputable def Mc:Ug:=Vg
theorem Vm:Tells ctx PP 74 cv17 cv16 (fun a=>Mc a.1 a.2.1 a.2.2):=fn_ok0 hl_nil Try.func74 (fun a=>by kernel_rfl:EntryIs0 ctx PP 74 [] [] cv17 cv16 fun a=>Vg a.1 a.2.1 a.2.2)
noncomputable def Xm {γ:Type} (F:Ug):Hd ctx γ:=hdl cv17.dec (fun a=>F a.1 a.2.1 a.2.2) cv16.enc
abbrev Ue:=Int→Int→Int→Int→Bool→Option Int
noncomputable def Na (z0:Ug) (x_0:Int) (a_1:Int) (b_2:Int) (c_3:Int) (last_4:Bool):Option Int:=
 bif (!(a_1 == 0)) then
 (z0 x_0 a_1 (w32 ((w32 ((2147483648:Int).tdiv a_1))*2))).bind fun r0=>
 bif (!(b_2 == 0)) then
 (z0 x_0 b_2 (w32 ((w32 ((2147483648:Int).tdiv b_2))*2))).bind fun r1=>
 bif (!(c_3 == 0)) then
 bif (!last_4) then
 bif (!(c_3 == 0)) then
 (z0 x_0 c_3 (w32 ((w32 ((2147483648:Int).tdiv c_3))*2))).bind fun r2=>
 some (w32 (((BitVec.toNat ((BitVec.ofInt (IntKind.bits IntKind.u32) (w32 (((BitVec.toNat ((BitVec.ofInt (IntKind.bits IntKind.u32) r0) ^^^ (BitVec.ofInt (IntKind.bits IntKind.u32) r1))):Nat):Int))) ^^^ (BitVec.ofInt (IntKind.bits IntKind.u32) r2))):Nat):Int))
 else none
 else
 some (w32 (((BitVec.toNat ((BitVec.ofInt (IntKind.bits IntKind.u32) (w32 (((BitVec.toNat ((BitVec.ofInt (IntKind.bits IntKind.u32) r0) ^^^ (BitVec.ofInt (IntKind.bits IntKind.u32) r1))):Nat):Int))) ^^^ (BitVec.ofInt (IntKind.bits IntKind.u32) (w32 (x_0.tdiv c_3))))):Nat):Int))
 else none
 else none
 else none
noncomputable def RY:Ue:=Na Mc
theorem Ym:Tells ctx PP 73 cv18 cv16 (fun a=>RY a.1 a.2.1 a.2.2.1 a.2.2.2.1 a.2.2.2.2):=fn_ok0 (hc Vm hl_nil) Try.func73 ((fun z0 a=>by kernel_rfl:∀ z0,EntryIs0 ctx PP 73 [] [(74,Xm z0)] cv18 cv16 fun a=>Na z0 a.1 a.2.1 a.2.2.1 a.2.2.2.1 a.2.2.2.2) Mc)
noncomputable def Sj {γ:Type} (F:Ue):Hd ctx γ:=hdl cv18.dec (fun a=>F a.1 a.2.1 a.2.2.1 a.2.2.2.1 a.2.2.2.2) cv16.enc
abbrev Oa:=(List Int)→(List Int)→ByteArray→Option (List Int)
inductive Nc where
 | c0 (t_0:(List Int)) (o_1:(List Int)) (v_8:Int) (v_7:(List Int))
 | c1 (t_0:(List Int)) (o_1:(List Int)) (v_10:Int) (v_7:(List Int)) (v_9:(List Int))
 | c2 (t_0:(List Int)) (o_1:(List Int)) (v_10:Int) (v_13:Int) (v_15:Int) (v_16:Int) (v_7:(List Int)) (v_9:(List Int))
 | c3 (t_0:(List Int)) (v_18:Int) (v_9:(List Int)) (v_17:(List Int))
noncomputable def Tj:Nc→LI
 | .c0 t_0 o_1 v_8 v_7=>(tdo Try.f69 464,[(0,[.one (.rsl 105 t_0)]),(1,[.one (.rsl 105 o_1)]),(7,[.one (.own 496)]),(8,[.one (.int .i64 v_8)])],[(496,.sl 105 v_7)])
 | .c1 t_0 o_1 v_10 v_7 v_9=>(tdo Try.f69 2000,[(0,[.one (.rsl 105 t_0)]),(1,[.one (.rsl 105 o_1)]),(7,[.one (.own 496)]),(9,[.one (.own 624)]),(10,[.one (.int .i64 v_10)])],[(496,.sl 105 v_7),(624,.sl 105 v_9)])
 | .c2 t_0 o_1 v_10 v_13 v_15 v_16 v_7 v_9=>(tdo Try.f69 8202192,[(0,[.one (.rsl 105 t_0)]),(1,[.one (.rsl 105 o_1)]),(7,[.one (.own 496)]),(9,[.one (.own 624)]),(10,[.one (.int .i64 v_10)]),(13,[.one (.int .u32 v_13)]),(15,[.one (.int .u32 v_15)]),(16,[.one (.int .i64 v_16)])],[(496,.sl 105 v_7),(624,.sl 105 v_9)])
 | .c3 t_0 v_18 v_9 v_17=>(tdo Try.f69 8144,[(0,[.one (.rsl 105 t_0)]),(9,[.one (.own 624)]),(17,[.one (.own 1136)]),(18,[.one (.int .i64 v_18)])],[(624,.sl 105 v_9),(1136,.sl 105 v_17)])
noncomputable def Xg (z0:LZ) (z1:Ue) (k:Nc→Option (List Int)) (t_0:(List Int)) (o_1:(List Int)) (A_2:ByteArray):Option (List Int):=
 (z0 A_2).bind fun r0=>
 k (.c0 t_0 o_1 16 r0)
noncomputable def AZ (z0:LZ) (z1:Ue) (k:Nc→Option (List Int)):Nc→Option (List Int)
 | .c0 t_0 o_1 v_8 v_7=>
 bif (decide (v_8<64)) then
  bif ((decide (0≤(w64 (v_8 - 2)))) && (decide ((w64 (v_8 - 2))<(v_7.length:Int)))) then
  (z1 (v_7.getD (w64 (v_8 - 2)).toNat 0) 131072 524288 1024 true).bind fun r0=>
  bif ((decide (0≤(w64 (v_8 - 7)))) && (decide ((w64 (v_8 - 7))<(v_7.length:Int)))) then
  bif ((decide (0≤(w64 (v_8 - 15)))) && (decide ((w64 (v_8 - 15))<(v_7.length:Int)))) then
  (z1 (v_7.getD (w64 (v_8 - 15)).toNat 0) 128 262144 8 true).bind fun r1=>
  bif ((decide (0≤(w64 (v_8 - 16)))) && (decide ((w64 (v_8 - 16))<(v_7.length:Int)))) then
  bif (decide (((v_7.length+1)*4)≤140737488355328)) then
  k (.c0 t_0 o_1 (w64 (v_8+1)) (v_7++[(w32 ((w32 ((w32 (r0+(v_7.getD (w64 (v_8 - 7)).toNat 0)))+r1))+(v_7.getD (w64 (v_8 - 16)).toNat 0)))]))
  else none
  else none
  else none
  else none
  else none
 else
  bif (decide (((0+t_0.length)*4)≤140737488355328)) then
  k (.c1 t_0 o_1 0 v_7 ([]++t_0))
  else none
 | .c1 t_0 o_1 v_10 v_7 v_9=>
 bif (decide (v_10<64)) then
  bif ((decide ((0:Int)≤(4:Int))) && (decide (4<(v_9.length:Int)))) then
  bif ((decide ((0:Int)≤(5:Int))) && (decide (5<(v_9.length:Int)))) then
  bif ((decide ((0:Int)≤(6:Int))) && (decide (6<(v_9.length:Int)))) then
  bif ((decide ((0:Int)≤(7:Int))) && (decide (7<(v_9.length:Int)))) then
  (z1 (v_9.getD (4:Int).toNat 0) 64 2048 33554432 false).bind fun r0=>
  bif ((decide (0≤v_10)) && (decide (v_10<(o_1.length:Int)))) then
  bif ((decide (0≤v_10)) && (decide (v_10<(v_7.length:Int)))) then
  bif ((decide ((0:Int)≤(0:Int))) && (decide (0<(v_9.length:Int)))) then
  bif ((decide ((0:Int)≤(1:Int))) && (decide (1<(v_9.length:Int)))) then
  bif ((decide ((0:Int)≤(0:Int))) && (decide (0<(v_9.length:Int)))) then
  bif ((decide ((0:Int)≤(2:Int))) && (decide (2<(v_9.length:Int)))) then
  bif ((decide ((0:Int)≤(1:Int))) && (decide (1<(v_9.length:Int)))) then
  bif ((decide ((0:Int)≤(2:Int))) && (decide (2<(v_9.length:Int)))) then
  bif ((decide ((0:Int)≤(0:Int))) && (decide (0<(v_9.length:Int)))) then
  (z1 (v_9.getD (0:Int).toNat 0) 4 8192 4194304 false).bind fun r1=>
  k (.c2 t_0 o_1 v_10 (w32 ((w32 ((w32 ((w32 ((v_9.getD (7:Int).toNat 0)+r0))+(w32 (((BitVec.toNat ((BitVec.ofInt (IntKind.bits IntKind.u32) (w32 (((BitVec.toNat ((BitVec.ofInt (IntKind.bits IntKind.u32) (v_9.getD (4:Int).toNat 0)) &&& (BitVec.ofInt (IntKind.bits IntKind.u32) (v_9.getD (5:Int).toNat 0)))):Nat):Int))) ^^^ (BitVec.ofInt (IntKind.bits IntKind.u32) (w32 (((BitVec.toNat ((BitVec.ofInt (IntKind.bits IntKind.u32) (w32 (4294967295 - (v_9.getD (4:Int).toNat 0)))) &&& (BitVec.ofInt (IntKind.bits IntKind.u32) (v_9.getD (6:Int).toNat 0)))):Nat):Int))))):Nat):Int))))+(o_1.getD v_10.toNat 0)))+(v_7.getD v_10.toNat 0))) (w32 (r1+(w32 (((BitVec.toNat ((BitVec.ofInt (IntKind.bits IntKind.u32) (w32 (((BitVec.toNat ((BitVec.ofInt (IntKind.bits IntKind.u32) (w32 (((BitVec.toNat ((BitVec.ofInt (IntKind.bits IntKind.u32) (v_9.getD (0:Int).toNat 0)) &&& (BitVec.ofInt (IntKind.bits IntKind.u32) (v_9.getD (1:Int).toNat 0)))):Nat):Int))) ^^^ (BitVec.ofInt (IntKind.bits IntKind.u32) (w32 (((BitVec.toNat ((BitVec.ofInt (IntKind.bits IntKind.u32) (v_9.getD (0:Int).toNat 0)) &&& (BitVec.ofInt (IntKind.bits IntKind.u32) (v_9.getD (2:Int).toNat 0)))):Nat):Int))))):Nat):Int))) ^^^ (BitVec.ofInt (IntKind.bits IntKind.u32) (w32 (((BitVec.toNat ((BitVec.ofInt (IntKind.bits IntKind.u32) (v_9.getD (1:Int).toNat 0)) &&& (BitVec.ofInt (IntKind.bits IntKind.u32) (v_9.getD (2:Int).toNat 0)))):Nat):Int))))):Nat):Int)))) 7 v_7 v_9)
  else none
  else none
  else none
  else none
  else none
  else none
  else none
  else none
  else none
  else none
  else none
  else none
  else none
 else
  k (.c3 t_0 0 v_9 [])
 | .c2 t_0 o_1 v_10 v_13 v_15 v_16 v_7 v_9=>
 bif (decide (v_16 > 0)) then
  bif ((decide (0≤(w64 (v_16 - 1)))) && (decide ((w64 (v_16 - 1))<(v_9.length:Int)))) then
  bif ((decide (0≤v_16)) && (decide (v_16<(v_9.length:Int)))) then
  k (.c2 t_0 o_1 v_10 v_13 v_15 (w64 (v_16 - 1)) v_7 (v_9.set v_16.toNat (v_9.getD (w64 (v_16 - 1)).toNat 0)))
  else none
  else none
 else
  bif ((decide ((0:Int)≤(4:Int))) && (decide (4<(v_9.length:Int)))) then
  bif ((decide ((0:Int)≤(4:Int))) && (decide (4<(v_9.length:Int)))) then
  bif ((decide ((0:Int)≤(0:Int))) && (decide (0<((v_9.set (4:Int).toNat (w32 ((v_9.getD (4:Int).toNat 0)+v_13))).length:Int)))) then
  k (.c1 t_0 o_1 (w64 (v_10+1)) v_7 ((v_9.set (4:Int).toNat (w32 ((v_9.getD (4:Int).toNat 0)+v_13))).set (0:Int).toNat (w32 (v_13+v_15))))
  else none
  else none
  else none
 | .c3 t_0 v_18 v_9 v_17=>
 bif (decide (v_18<8)) then
  bif ((decide (0≤v_18)) && (decide (v_18<(t_0.length:Int)))) then
  bif ((decide (0≤v_18)) && (decide (v_18<(v_9.length:Int)))) then
  bif (decide (((v_17.length+1)*4)≤140737488355328)) then
  k (.c3 t_0 (w64 (v_18+1)) v_9 (v_17++[(w32 ((t_0.getD v_18.toNat 0)+(v_9.getD v_18.toNat 0)))]))
  else none
  else none
  else none
 else
  some v_17
noncomputable def RV:Nat→Nc→Option (List Int)
 | 0,_=>none
 | m+1,s=>AZ LY RY (RV m) s
noncomputable def VY:Oa:=Xg LY RY (RV gas)
theorem Uj:Tells ctx PP 69 cv19 cv10 (fun a=>VY a.1 a.2.1 a.2.2):=
 have b:∀ z0 z1,CutIs ctx PP 69 Try.f69 [] [(67,Ja z0),(73,Sj z1)] cv10 Tj (AZ z0 z1):=fun z0 z1 _ s=>by cases s <;> kernel_rfl
 have e:∀ z0 z1,EntryIs ctx PP 69 [] [(67,Ja z0),(73,Sj z1)] cv19 cv10 Tj (fun k a=>Xg z0 z1 k a.1 a.2.1 a.2.2):=fun z0 z1 _ a=>by kernel_rfl
 fn_ok (hc Qg (hc Ym hl_nil)) Try.func69 (fun s s' h=>by cases s <;> cases s' <;> first | (cases h;done) | (cases h;rfl) | exact (rg_ne h (by kernel_rfl)).elim) (fun _=>rfl) (fun _ _=>rfl) (b LY RY) (e LY RY) gas
noncomputable def Ve {γ:Type} (F:Oa):Hd ctx γ:=hdl cv19.dec (fun a=>F a.1 a.2.1 a.2.2) cv10.enc
abbrev Yg:=SHasher→ByteArray→Option SHasher
inductive Oc where
 | c0 (s_1:ByteArray) (buf_7:ByteArray) (at_8:Int) (h_2:SHasher) (v_4:SHasher) (state_5:(List Int)) (k_6:(List Int))
noncomputable def Vj:Oc→LI
 | .c0 s_1 buf_7 at_8 h_2 v_4 state_5 k_6=>(tdo Try.f64 4064,[(1,[.one (.str s_1)]),(2,[.one (.ptr 128 0)]),(4,[.one (.ptr 256 0)]),(5,[.one (.own 368)]),(6,[.one (.own 432)]),(7,[.one (.str buf_7)]),(8,[.one (.int .i64 at_8)])],[(128,.var [.str h_2.fState,.str h_2.fRest,.int .i64 h_2.fCount]),(256,.var [.str v_4.fState,.str v_4.fRest,.int .i64 v_4.fCount]),(368,.sl 105 state_5),(432,.sl 105 k_6)])
noncomputable def Zg (z0:Ia) (z1:LZ) (z2:La) (z3:Oa) (z4:PZ) (k:Oc→Option SHasher) (h_0:SHasher) (s_1:ByteArray):Option SHasher:=
 (z0 h_0).bind fun r0=>
 bif (!r0) then
 some h_0
 else
 bif (decide ((w64 (h_0.fCount+(s_1.size:Int))) > 1000000000)) then
  some h_0
 else
  (z1 h_0.fState).bind fun r1=>
  z2.bind fun r2=>
  bif (decide ((h_0.fRest.size+s_1.size)≤9223372036854775807)) then
  k (.c0 s_1 (h_0.fRest++s_1) 0 h_0 ⟨⟨#[]⟩,⟨#[]⟩,0⟩ r1 r2)
  else none
noncomputable def Xe (z0:Ia) (z1:LZ) (z2:La) (z3:Oa) (z4:PZ) (k:Oc→Option SHasher):Oc→Option SHasher
 | .c0 s_1 buf_7 at_8 h_2 v_4 state_5 k_6=>
 bif (decide ((w64 (at_8+64))≤(buf_7.size:Int))) then
  bif (((decide (0≤at_8)) && (decide (at_8≤(w64 (at_8+64))))) && (decide ((w64 (at_8+64))≤(buf_7.size:Int)))) then
  (z3 state_5 k_6 (buf_7.extract at_8.toNat (w64 (at_8+64)).toNat)).bind fun r0=>
  k (.c0 s_1 buf_7 (w64 (at_8+64)) h_2 v_4 r0 k_6)
  else none
 else
  (z4 state_5).bind fun r1=>
  bif ((decide (0≤at_8)) && (decide (at_8≤(buf_7.size:Int)))) then
  some ⟨r1,(buf_7.extract at_8.toNat buf_7.size),(w64 (h_2.fCount+(s_1.size:Int)))⟩
  else none
noncomputable def Qc:Nat→Oc→Option SHasher
 | 0,_=>none
 | m+1,s=>Xe QY LY ZY VY TY (Qc m) s
noncomputable def Tc:Yg:=Zg QY LY ZY VY TY (Qc gas)
theorem Zm:Tells ctx PP 64 cv20 cv13 (fun a=>Tc a.1 a.2):=
 have b:∀ z0 z1 z2 z3 z4,CutIs ctx PP 64 Try.f64 [] [(66,Je z0),(67,Ja z1),(68,Qe z2),(69,Ve z3),(70,Dc z4)] cv13 Vj (Xe z0 z1 z2 z3 z4):=fun z0 z1 z2 z3 z4 _ s=>by cases s <;> kernel_rfl
 have e:∀ z0 z1 z2 z3 z4,EntryIs ctx PP 64 [] [(66,Je z0),(67,Ja z1),(68,Qe z2),(69,Ve z3),(70,Dc z4)] cv20 cv13 Vj (fun k a=>Zg z0 z1 z2 z3 z4 k a.1 a.2):=fun z0 z1 z2 z3 z4 _ a=>by kernel_rfl
 fn_ok (hc Lj (hc Qg (hc Rj (hc Uj (hc Hg hl_nil))))) Try.func64 (fun s s' h=>by cases s;cases s';(repeat cases ‹SHasher›);cases h;rfl) (fun _=>rfl) (fun _ _=>rfl) (b QY LY ZY VY TY) (e QY LY ZY VY TY) gas
noncomputable def Dn {γ:Type} (F:Yg):Hd ctx γ:=hdl cv20.dec (fun a=>F a.1 a.2) cv13.enc
abbrev Ah:=SHasher→Option ByteArray
inductive Uc where
 | c0 (h_1:SHasher) (tail_3:(List Int))
 | c1 (bits_4:Int) (i_5:Int) (h_1:SHasher) (tail_3:(List Int))
 | c2 (bits_4:Int) (i_5:Int) (x_6:Int) (k_7:Int) (h_1:SHasher) (tail_3:(List Int))
 | c3 (at_10:Int) (tail_3:(List Int)) (state_8:(List Int)) (k_9:(List Int))
noncomputable def Wj:Uc→LI
 | .c0 h_1 tail_3=>(tdo Try.f63 992,[(1,[.one (.ptr 64 0)]),(3,[.one (.own 240)])],[(64,.var [.str h_1.fState,.str h_1.fRest,.int .i64 h_1.fCount]),(240,.sl 5 tail_3)])
 | .c1 bits_4 i_5 h_1 tail_3=>(tdo Try.f63 8144,[(1,[.one (.ptr 64 0)]),(3,[.one (.own 240)]),(4,[.one (.int .i64 bits_4)]),(5,[.one (.int .i64 i_5)])],[(64,.var [.str h_1.fState,.str h_1.fRest,.int .i64 h_1.fCount]),(240,.sl 5 tail_3)])
 | .c2 bits_4 i_5 x_6 k_7 h_1 tail_3=>(tdo Try.f63 2085456,[(1,[.one (.ptr 64 0)]),(3,[.one (.own 240)]),(4,[.one (.int .i64 bits_4)]),(5,[.one (.int .i64 i_5)]),(6,[.one (.int .i64 x_6)]),(7,[.one (.int .i64 k_7)])],[(64,.var [.str h_1.fState,.str h_1.fRest,.int .i64 h_1.fCount]),(240,.sl 5 tail_3)])
 | .c3 at_10 tail_3 state_8 k_9=>(tdo Try.f63 65488,[(3,[.one (.own 240)]),(8,[.one (.own 560)]),(9,[.one (.own 624)]),(10,[.one (.int .i64 at_10)])],[(240,.sl 5 tail_3),(560,.sl 105 state_8),(624,.sl 105 k_9)])
noncomputable def Bh (z0:Ia) (z1:LZ) (z2:La) (z3:Oa) (z4:PZ) (k:Uc→Option ByteArray) (h_0:SHasher):Option ByteArray:=
 (z0 h_0).bind fun r0=>
 bif (!r0) then
 some ⟨#[]⟩
 else
 bif (decide (h_0.fRest.size≤9223372036854775807)) then
 bif (decide ((((bytesOf h_0.fRest).length+1)*1)≤140737488355328)) then
 k (.c0 h_0 ((bytesOf h_0.fRest)++[(128:Int)]))
 else none
 else none
noncomputable def BZ (z0:Ia) (z1:LZ) (z2:La) (z3:Oa) (z4:PZ) (k:Uc→Option ByteArray):Uc→Option ByteArray
 | .c0 h_1 tail_3=>
 bif (((tail_3.length:Int).tmod 64) != 56) then
  bif (decide (((tail_3.length+1)*1)≤140737488355328)) then
  k (.c0 h_1 (tail_3++[(0:Int)]))
  else none
 else
  k (.c1 (w64 (8*h_1.fCount)) 7 h_1 tail_3)
 | .c1 bits_4 i_5 h_1 tail_3=>
 bif (decide (i_5≥0)) then
  k (.c2 bits_4 i_5 bits_4 0 h_1 tail_3)
 else
  (z1 h_1.fState).bind fun r0=>
  z2.bind fun r1=>
  k (.c3 0 tail_3 r0 r1)
 | .c2 bits_4 i_5 x_6 k_7 h_1 tail_3=>
 bif (decide (k_7<i_5)) then
  k (.c2 bits_4 i_5 (w64 (x_6.tdiv 256)) (w64 (k_7+1)) h_1 tail_3)
 else
  bif (decide (((tail_3.length+1)*1)≤140737488355328)) then
  k (.c1 bits_4 (w64 (i_5 - 1)) h_1 (tail_3++[(w8 (x_6.tmod 256))]))
  else none
 | .c3 at_10 tail_3 state_8 k_9=>
 bif (decide (at_10<(tail_3.length:Int))) then
  bif (((decide (0≤at_10)) && (decide (at_10≤(w64 (at_10+64))))) && (decide ((w64 (at_10+64))≤(tail_3.length:Int)))) then
  (z3 state_8 k_9 (ofBytes ((tail_3.drop at_10.toNat).take ((w64 (at_10+64)).toNat - at_10.toNat)))).bind fun r0=>
  k (.c3 (w64 (at_10+64)) tail_3 r0 k_9)
  else none
 else
  (z4 state_8).bind fun r1=>
  some r1
noncomputable def JY:Nat→Uc→Option ByteArray
 | 0,_=>none
 | m+1,s=>BZ QY LY ZY VY TY (JY m) s
noncomputable def Xc:Ah:=Bh QY LY ZY VY TY (JY gas)
theorem En:Tells ctx PP 63 cv13 cv12 (fun a=>Xc a):=
 have b:∀ z0 z1 z2 z3 z4,CutIs ctx PP 63 Try.f63 [] [(66,Je z0),(67,Ja z1),(68,Qe z2),(69,Ve z3),(70,Dc z4)] cv12 Wj (BZ z0 z1 z2 z3 z4):=fun z0 z1 z2 z3 z4 _ s=>by cases s <;> kernel_rfl
 have e:∀ z0 z1 z2 z3 z4,EntryIs ctx PP 63 [] [(66,Je z0),(67,Ja z1),(68,Qe z2),(69,Ve z3),(70,Dc z4)] cv13 cv12 Wj (fun k a=>Bh z0 z1 z2 z3 z4 k a):=fun z0 z1 z2 z3 z4 _ a=>by kernel_rfl
 fn_ok (hc Lj (hc Qg (hc Rj (hc Uj (hc Hg hl_nil))))) Try.func63 (fun s s' h=>by cases s <;> cases s' <;> first | ((repeat cases ‹SHasher›);cases h;done) | ((repeat cases ‹SHasher›);cases h;rfl) | exact (rg_ne h (by kernel_rfl)).elim) (fun _=>rfl) (fun _ _=>rfl) (b QY LY ZY VY TY) (e QY LY ZY VY TY) gas
noncomputable def Gn {γ:Type} (F:Ah):Hd ctx γ:=hdl cv13.dec (fun a=>F a) cv12.enc
abbrev Dh:=ByteArray→Option ByteArray
noncomputable def Eh (z0:Ig) (z1:Yg) (z2:Ah) (s_0:ByteArray):Option ByteArray:=
 z0.bind fun r0=>
 (z1 r0 s_0).bind fun r1=>
 (z2 r1).bind fun r2=>
 some r2
noncomputable def Yc:Dh:=Eh Ic Tc Xc
theorem Pn:Tells ctx PP 54 cv12 cv12 (fun a=>Yc a):=fn_ok0 (hc Qm (hc Zm (hc En hl_nil))) Try.func54 ((fun z0 z1 z2 a=>by kernel_rfl:∀ z0 z1 z2,EntryIs0 ctx PP 54 [] [(65,Sm z0),(64,Dn z1),(63,Gn z2)] cv12 cv12 fun a=>Eh z0 z1 z2 a) Ic Tc Xc)
noncomputable def Qn {γ:Type} (F:Dh):Hd ctx γ:=hdl cv12.dec (fun a=>F a) cv12.enc
abbrev Fh:=SL01Cur→Option (SThing×SL01Cur)
noncomputable def Gh (z0:NZ) (z1:Ce) (z2:Zf) (z3:Bg) (z4:Dh) (c_0:SL01Cur):Option (SThing×SL01Cur):=
 (z0 ⟨(),c_0.fI,c_0.fH⟩ 6).bind fun r0=>
 (z0 ⟨(),r0.2.fI,r0.2.fH⟩ 3).bind fun r1=>
 (z1 ⟨(),r1.2.fI,r1.2.fH⟩ 2).bind fun r2=>
 (z1 ⟨(),r2.2.fI,r2.2.fH⟩ 2).bind fun r3=>
 bif ((w64 (1+r1.1)) == 3) then
 (z0 ⟨(),r3.2.fI,r3.2.fH⟩ 9).bind fun r4=>
 (z2 ⟨(),r4.2.fI,r4.2.fH⟩ r4.1).bind fun r5=>
 some (⟨(w64 (1+r0.1)),(w64 (1+r1.1)),r2.1,r3.1,false,false,r5.1,0⟩,⟨(),r5.2.fI,r5.2.fH⟩)
 else
 bif ((w64 (1+r1.1)) == 2) then
  (z0 ⟨(),r3.2.fI,r3.2.fH⟩ 17).bind fun r6=>
  (z1 ⟨(),r6.2.fI,r6.2.fH⟩ 4).bind fun r7=>
  (z3 ⟨(),r7.2.fI,r7.2.fH⟩ [⟨#[97]⟩,⟨#[98]⟩,⟨#[99]⟩]).bind fun r8=>
  (z4 r8.1).bind fun r9=>
  some (⟨(w64 (1+r0.1)),(w64 (1+r1.1)),r2.1,r3.1,(!r7.1),false,r9,r6.1⟩,⟨(),r8.2.fI,r8.2.fH⟩)
 else
  (z1 ⟨(),r3.2.fI,r3.2.fH⟩ 4).bind fun r10=>
  (z3 ⟨(),r10.2.fI,r10.2.fH⟩ [⟨#[97]⟩,⟨#[98]⟩,⟨#[99]⟩]).bind fun r11=>
  (z4 r11.1).bind fun r12=>
  some (⟨(w64 (1+r0.1)),(w64 (1+r1.1)),r2.1,r3.1,false,(!r10.1),r12,0⟩,⟨(),r11.2.fI,r11.2.fH⟩)
noncomputable def Ad:Fh:=Gh PY OZ Zb Ac Yc
theorem Rn:Tells ctx PP 37 cv3 cv21 (fun a=>Ad a):=fn_ok0 (hc Vb (hc Zi (hc Em (hc Jm (hc Pn hl_nil))))) Try.func37 ((fun z0 z1 z2 z3 z4 a=>by kernel_rfl:∀ z0 z1 z2 z3 z4,EntryIs0 ctx PP 37 [0] [(38,Xb z0),(20,Aj z1),(51,Gm z2),(55,Lm z3),(54,Qn z4)] cv3 cv21 fun a=>Gh z0 z1 z2 z3 z4 a) PY OZ Zb Ac Yc)
noncomputable def Tn {γ:Type} (F:Fh):Hd ctx γ:=hdl cv3.dec (fun a=>F a) cv21.enc
abbrev Ih:=SL01Cur→(List Int)→Option (Int×SL01Cur)
noncomputable def Jh (z0:NZ) (c_0:SL01Cur) (list_1:(List Int)):Option (Int×SL01Cur):=
 (z0 ⟨(),c_0.fI,c_0.fH⟩ (list_1.length:Int)).bind fun r0=>
 bif ((decide (0≤r0.1)) && (decide (r0.1<(list_1.length:Int)))) then
 some ((list_1.getD r0.1.toNat 0),⟨(),r0.2.fI,r0.2.fH⟩)
 else none
noncomputable def Bd:Ih:=Jh PY
theorem Un:Tells ctx PP 39 cv22 cv4 (fun a=>Bd a.1 a.2):=fn_ok0 (hc Vb hl_nil) Try.func39 ((fun z0 a=>by kernel_rfl:∀ z0,EntryIs0 ctx PP 39 [0] [(38,Xb z0)] cv22 cv4 fun a=>Jh z0 a.1 a.2) PY)
noncomputable def Wn {γ:Type} (F:Ih):Hd ctx γ:=hdl cv22.dec (fun a=>F a.1 a.2) cv4.enc
abbrev Lh:=Int→Int→Option ByteArray
inductive Ed where
 | c0 (n_0:Int) (x_1:Int) (i_6:Int) (out_5:(List Int))
noncomputable def Xj:Ed→LI
 | .c0 n_0 x_1 i_6 out_5=>(tdo Try.f40 464,[(0,[.one (.int .i64 n_0)]),(1,[.one (.int .u8 x_1)]),(5,[.one (.own 368)]),(6,[.one (.int .i64 i_6)])],[(368,.sl 5 out_5)])
noncomputable def Nh (k:Ed→Option ByteArray) (n_0:Int) (x_1:Int):Option ByteArray:=
 bif ((((decide (0≤n_0)) && (decide (n_0≤n_0))) && (decide (n_0≤9223372036854775807))) && (decide ((n_0.toNat*1)≤140737488355328))) then
 k (.c0 n_0 x_1 0 (List.replicate n_0.toNat (0:Int)))
 else none
noncomputable def Ye (k:Ed→Option ByteArray):Ed→Option ByteArray
 | .c0 n_0 x_1 i_6 out_5=>
 bif (decide (i_6<n_0)) then
  bif ((decide (0≤i_6)) && (decide (i_6<(out_5.length:Int)))) then
  k (.c0 n_0 x_1 (w64 (i_6+1)) (out_5.set i_6.toNat x_1))
  else none
 else
  some (ofBytes out_5)
noncomputable def Jd:Nat→Ed→Option ByteArray
 | 0,_=>none
 | m+1,s=>Ye (Jd m) s
noncomputable def Ld:Lh:=Nh (Jd gas)
theorem Xn:Tells ctx PP 40 cv23 cv12 (fun a=>Ld a.1 a.2):=
 have b:CutIs ctx PP 40 Try.f40 [] [] cv12 Xj (Ye):=fun _ s=>by cases s <;> kernel_rfl
 have e:EntryIs ctx PP 40 [] [] cv23 cv12 Xj (fun k a=>Nh k a.1 a.2):=fun _ a=>by kernel_rfl
 fn_ok hl_nil Try.func40 (fun s s' h=>by cases s;cases s';cases h;rfl) (fun _=>rfl) (fun _ _=>rfl) b e gas
noncomputable def Yn {γ:Type} (F:Lh):Hd ctx γ:=hdl cv23.dec (fun a=>F a.1 a.2) cv12.enc
abbrev Oh:=SL01Cur→Option (SThing×SL01Cur)
noncomputable def Ph (z0:Fh) (z1:NZ) (z2:Ih) (z3:Lh) (c_0:SL01Cur):Option (SThing×SL01Cur):=
 (z0 ⟨(),c_0.fI,c_0.fH⟩).bind fun r0=>
 (z1 ⟨(),r0.2.fI,r0.2.fH⟩ 20).bind fun r1=>
 bif (r1.1 == 0) then
 (z2 ⟨(),r1.2.fI,r1.2.fH⟩ [0,(-(1:Int)),1000,1001]).bind fun r2=>
 some (⟨r2.1,r0.1.fKind,r0.1.fHidden,r0.1.fFixed,r0.1.fSigns,r0.1.fWraps,r0.1.fValue,r0.1.fNext⟩,⟨(),r2.2.fI,r2.2.fH⟩)
 else
 bif (r1.1 == 1) then
  (z1 ⟨(),r1.2.fI,r1.2.fH⟩ 5).bind fun r3=>
  some (⟨r0.1.fId,r3.1,r0.1.fHidden,r0.1.fFixed,r0.1.fSigns,r0.1.fWraps,r0.1.fValue,r0.1.fNext⟩,⟨(),r3.2.fI,r3.2.fH⟩)
 else
  bif (r1.1 == 2) then
  some (⟨r0.1.fId,r0.1.fKind,r0.1.fHidden,r0.1.fFixed,(!r0.1.fSigns),r0.1.fWraps,r0.1.fValue,r0.1.fNext⟩,⟨(),r1.2.fI,r1.2.fH⟩)
  else
  bif (r1.1 == 3) then
   some (⟨r0.1.fId,r0.1.fKind,r0.1.fHidden,r0.1.fFixed,r0.1.fSigns,(!r0.1.fWraps),r0.1.fValue,r0.1.fNext⟩,⟨(),r1.2.fI,r1.2.fH⟩)
  else
   bif (r1.1 == 4) then
   (z2 ⟨(),r1.2.fI,r1.2.fH⟩ [(-(1:Int)),0,16,17]).bind fun r4=>
   some (⟨r0.1.fId,r0.1.fKind,r0.1.fHidden,r0.1.fFixed,r0.1.fSigns,r0.1.fWraps,r0.1.fValue,r4.1⟩,⟨(),r4.2.fI,r4.2.fH⟩)
   else
   bif (r1.1 == 5) then
    (z2 ⟨(),r1.2.fI,r1.2.fH⟩ [31,32,33,100,101]).bind fun r5=>
    (z3 r5.1 70).bind fun r6=>
    some (⟨r0.1.fId,r0.1.fKind,r0.1.fHidden,r0.1.fFixed,r0.1.fSigns,r0.1.fWraps,r6,r0.1.fNext⟩,⟨(),r5.2.fI,r5.2.fH⟩)
   else
    some (r0.1,⟨(),r1.2.fI,r1.2.fH⟩)
noncomputable def Md:Oh:=Ph Ad PY Bd Ld
theorem Zn:Tells ctx PP 19 cv3 cv21 (fun a=>Md a):=fn_ok0 (hc Rn (hc Vb (hc Un (hc Xn hl_nil)))) Try.func19 ((fun z0 z1 z2 z3 a=>by kernel_rfl:∀ z0 z1 z2 z3,EntryIs0 ctx PP 19 [0] [(37,Tn z0),(38,Xb z1),(39,Wn z2),(40,Yn z3)] cv3 cv21 fun a=>Ph z0 z1 z2 z3 a) Ad PY Bd Ld)
noncomputable def Bo {γ:Type} (F:Oh):Hd ctx γ:=hdl cv3.dec (fun a=>F a) cv21.enc
abbrev Ze:=Unit→Option (SThing×Bool×Bool)
noncomputable def Qh (z0:Rf) (z1:Oh) (z2:Ce) (code_0:Unit):Option (SThing×Bool×Bool):=
 (z0 ()).bind fun r0=>
 (z1 ⟨(),r0.fI,r0.fH⟩).bind fun r1=>
 (z2 ⟨(),r1.2.fI,r1.2.fH⟩ 2).bind fun r2=>
 (z2 ⟨(),r2.2.fI,r2.2.fH⟩ 2).bind fun r3=>
 some (r1.1,(r2.1,r3.1))
noncomputable def RZ:Ze:=Qh Qb Md OZ
theorem Eo:Tells ctx PP 6 cv0 cv24 (fun a=>RZ a):=fn_ok0 (hc Am (hc Zn (hc Zi hl_nil))) Try.func6 ((fun z0 z1 z2 a=>by kernel_rfl:∀ z0 z1 z2,EntryIs0 ctx PP 6 [] [(18,Cm z0),(19,Bo z1),(20,Aj z2)] cv0 cv24 fun a=>Qh z0 z1 z2 a) Qb Md OZ)
noncomputable def Yj {γ:Type} (F:Ze):Hd ctx γ:=hdl cv0.dec (fun a=>F a) cv24.enc
abbrev Rh:=Int→Int→Int→Option Bool
noncomputable def Zj (n_0:Int) (low_1:Int) (high_2:Int):Option Bool:=
 bif (decide (n_0≥low_1)) then
 some (decide (n_0≤high_2))
 else
 some false
noncomputable def Af:Rh:=Zj
theorem Ho:Tells ctx PP 22 cv14 cv1 (fun a=>Af a.1 a.2.1 a.2.2):=fn_ok0 hl_nil Try.func22 (fun a=>by kernel_rfl:EntryIs0 ctx PP 22 [] [] cv14 cv1 fun a=>Zj a.1 a.2.1 a.2.2)
noncomputable def Io {γ:Type} (F:Rh):Hd ctx γ:=hdl cv14.dec (fun a=>F a.1 a.2.1 a.2.2) cv1.enc
abbrev Qa:=SThing→Option Bool
noncomputable def Uh (z0:Rh) (x_0:SThing):Option Bool:=
 (z0 x_0.fId 1 1000).bind fun r0=>
 bif (!r0) then
 some false
 else
 (z0 x_0.fNext 0 16).bind fun r1=>
 bif (!r1) then
  some false
 else
  bif (x_0.fKind != 2) then
  bif (x_0.fNext != 0) then
   some false
  else
   bif x_0.fSigns then
   some false
   else
   bif (x_0.fKind != 1) then
    bif x_0.fWraps then
    some false
    else
    bif (x_0.fKind == 1) then
     bif (x_0.fKind == 1) then
     some ((x_0.fValue.size:Int) == 32)
     else
     bif (x_0.fKind == 3) then
      some (decide ((x_0.fValue.size:Int)≤100))
     else
      some false
    else
     bif (x_0.fKind == 2) then
     some ((x_0.fValue.size:Int) == 32)
     else
     bif (x_0.fKind == 3) then
      some (decide ((x_0.fValue.size:Int)≤100))
     else
      some false
   else
    bif (x_0.fKind == 1) then
    bif (x_0.fKind == 1) then
     some ((x_0.fValue.size:Int) == 32)
    else
     bif (x_0.fKind == 3) then
     some (decide ((x_0.fValue.size:Int)≤100))
     else
     some false
    else
    bif (x_0.fKind == 2) then
     some ((x_0.fValue.size:Int) == 32)
    else
     bif (x_0.fKind == 3) then
     some (decide ((x_0.fValue.size:Int)≤100))
     else
     some false
  else
  bif (x_0.fKind != 1) then
   bif x_0.fWraps then
   some false
   else
   bif (x_0.fKind == 1) then
    bif (x_0.fKind == 1) then
    some ((x_0.fValue.size:Int) == 32)
    else
    bif (x_0.fKind == 3) then
     some (decide ((x_0.fValue.size:Int)≤100))
    else
     some false
   else
    bif (x_0.fKind == 2) then
    some ((x_0.fValue.size:Int) == 32)
    else
    bif (x_0.fKind == 3) then
     some (decide ((x_0.fValue.size:Int)≤100))
    else
     some false
  else
   bif (x_0.fKind == 1) then
   bif (x_0.fKind == 1) then
    some ((x_0.fValue.size:Int) == 32)
   else
    bif (x_0.fKind == 3) then
    some (decide ((x_0.fValue.size:Int)≤100))
    else
    some false
   else
   bif (x_0.fKind == 2) then
    some ((x_0.fValue.size:Int) == 32)
   else
    bif (x_0.fKind == 3) then
    some (decide ((x_0.fValue.size:Int)≤100))
    else
    some false
noncomputable def WY:Qa:=Uh Af
theorem Vh:Tells ctx PP 11 cv25 cv1 (fun a=>WY a):=fn_ok0 (hc Ho hl_nil) Try.func11 ((fun z0 a=>by kernel_rfl:∀ z0,EntryIs0 ctx PP 11 [] [(22,Io z0)] cv25 cv1 fun a=>Uh z0 a) Af)
noncomputable def Bf {γ:Type} (F:Qa):Hd ctx γ:=hdl cv25.dec (fun a=>F a) cv1.enc
abbrev Df:=SThing→Bool→Bool→Option (SThing×Bool)
noncomputable def Wh (z0:Qa) (x_0:SThing) (hidden_1:Bool) (fixed_2:Bool):Option (SThing×Bool):=
 (z0 x_0).bind fun r0=>
 bif (!r0) then
 some (⟨0,0,false,false,false,false,⟨#[]⟩,0⟩,false)
 else
 bif x_0.fHidden then
  bif (!hidden_1) then
  some (⟨0,0,false,false,false,false,⟨#[]⟩,0⟩,false)
  else
  bif x_0.fFixed then
   bif (!fixed_2) then
   some (⟨0,0,false,false,false,false,⟨#[]⟩,0⟩,false)
   else
   some (⟨x_0.fId,x_0.fKind,hidden_1,fixed_2,x_0.fSigns,x_0.fWraps,x_0.fValue,x_0.fNext⟩,true)
  else
   some (⟨x_0.fId,x_0.fKind,hidden_1,fixed_2,x_0.fSigns,x_0.fWraps,x_0.fValue,x_0.fNext⟩,true)
 else
  bif x_0.fFixed then
  bif (!fixed_2) then
   some (⟨0,0,false,false,false,false,⟨#[]⟩,0⟩,false)
  else
   some (⟨x_0.fId,x_0.fKind,hidden_1,fixed_2,x_0.fSigns,x_0.fWraps,x_0.fValue,x_0.fNext⟩,true)
  else
  some (⟨x_0.fId,x_0.fKind,hidden_1,fixed_2,x_0.fSigns,x_0.fWraps,x_0.fValue,x_0.fNext⟩,true)
noncomputable def UZ:Df:=Wh WY
theorem Jo:Tells ctx PP 7 cv24 cv26 (fun a=>UZ a.1 a.2.1 a.2.2):=fn_ok0 (hc Vh hl_nil) Try.func7 ((fun z0 a=>by kernel_rfl:∀ z0,EntryIs0 ctx PP 7 [] [(11,Bf z0)] cv24 cv26 fun a=>Wh z0 a.1 a.2.1 a.2.2) WY)
noncomputable def Ak {γ:Type} (F:Df):Hd ctx γ:=hdl cv24.dec (fun a=>F a.1 a.2.1 a.2.2) cv26.enc
abbrev Qd:=SThing→Option Bool
noncomputable def Xh (z0:Ie) (x_0:SThing):Option Bool:=
 (z0 x_0.fId 1 1000).bind fun r0=>
 bif (!r0) then
 some false
 else
 (z0 x_0.fKind 1 3).bind fun r1=>
 bif (!r1) then
  some false
 else
  (z0 x_0.fNext 0 16).bind fun r2=>
  bif (!r2) then
  some false
  else
  bif (x_0.fKind != 2) then
   bif (x_0.fNext != 0) then
   some false
   else
   bif x_0.fSigns then
    some false
   else
    bif (x_0.fKind != 1) then
    bif x_0.fWraps then
     some false
    else
     bif (x_0.fKind == 3) then
     some (decide ((x_0.fValue.size:Int)≤100))
     else
     some ((x_0.fValue.size:Int) == 32)
    else
    bif (x_0.fKind == 3) then
     some (decide ((x_0.fValue.size:Int)≤100))
    else
     some ((x_0.fValue.size:Int) == 32)
  else
   bif (x_0.fKind != 1) then
   bif x_0.fWraps then
    some false
   else
    bif (x_0.fKind == 3) then
    some (decide ((x_0.fValue.size:Int)≤100))
    else
    some ((x_0.fValue.size:Int) == 32)
   else
   bif (x_0.fKind == 3) then
    some (decide ((x_0.fValue.size:Int)≤100))
   else
    some ((x_0.fValue.size:Int) == 32)
noncomputable def FZ:Qd:=Xh Fa
theorem Ik:Tells ctx PP 8 cv25 cv1 (fun a=>FZ a):=fn_ok0 (hc Ij hl_nil) Try.func8 ((fun z0 a=>by kernel_rfl:∀ z0,EntryIs0 ctx PP 8 [] [(21,Jj z0)] cv25 cv1 fun a=>Xh z0 a) Fa)
noncomputable def Yh {γ:Type} (F:Qd):Hd ctx γ:=hdl cv25.dec (fun a=>F a) cv1.enc
abbrev Ef:=SThing→Int→Option Bool
noncomputable def Zh (z0:Qa) (x_0:SThing) (do_1:Int):Option Bool:=
 (z0 x_0).bind fun r0=>
 bif (!r0) then
 some false
 else
 bif (do_1 == 1) then
  some (!x_0.fHidden)
 else
  bif (do_1 == 2) then
  bif (!x_0.fFixed) then
   some (x_0.fKind != 2)
  else
   some false
  else
  bif (do_1 == 3) then
   some x_0.fSigns
  else
   bif (do_1 == 4) then
   some x_0.fWraps
   else
   some (do_1 == 5)
noncomputable def VZ:Ef:=Zh WY
theorem Ko:Tells ctx PP 9 cv27 cv1 (fun a=>VZ a.1 a.2):=fn_ok0 (hc Vh hl_nil) Try.func9 ((fun z0 a=>by kernel_rfl:∀ z0,EntryIs0 ctx PP 9 [] [(11,Bf z0)] cv27 cv1 fun a=>Zh z0 a.1 a.2) WY)
noncomputable def Jk {γ:Type} (F:Ef):Hd ctx γ:=hdl cv27.dec (fun a=>F a.1 a.2) cv1.enc
abbrev Gf:=SThing→Int→Option Bool
noncomputable def Ai (z0:Qd) (x_0:SThing) (do_1:Int):Option Bool:=
 (z0 x_0).bind fun r0=>
 bif (!r0) then
 some false
 else
 bif (do_1 == 1) then
  some (!x_0.fHidden)
 else
  bif (do_1 == 2) then
  bif (!x_0.fFixed) then
   some (x_0.fKind != 2)
  else
   some false
  else
  bif (do_1 == 3) then
   some x_0.fSigns
  else
   bif (do_1 == 4) then
   some x_0.fWraps
   else
   some (do_1 == 5)
noncomputable def WZ:Gf:=Ai FZ
theorem Oo:Tells ctx PP 10 cv27 cv1 (fun a=>WZ a.1 a.2):=fn_ok0 (hc Ik hl_nil) Try.func10 ((fun z0 a=>by kernel_rfl:∀ z0,EntryIs0 ctx PP 10 [] [(8,Yh z0)] cv27 cv1 fun a=>Ai z0 a.1 a.2) FZ)
noncomputable def Nk {γ:Type} (F:Gf):Hd ctx γ:=hdl cv27.dec (fun a=>F a.1 a.2) cv1.enc
abbrev Qk:=Unit→Option Bool
inductive Td where
 | c0 (ok_7:Bool) (x_3:SThing) (y_6:SThing)
 | c1 (ok_7:Bool) (x_3:SThing) (y_6:SThing)
 | c2 (do_8:Int) (x_3:SThing) (y_6:SThing)
noncomputable def Rk:Td→LI
 | .c0 ok_7 x_3 y_6=>(tdo Try.f3 252,[(3,[.one (.ptr 192 0)]),(6,[.one (.ptr 384 0)]),(7,[.one (.bool ok_7)])],[(192,.var [.int .i64 x_3.fId,.int .i64 x_3.fKind,.bool x_3.fHidden,.bool x_3.fFixed,.bool x_3.fSigns,.bool x_3.fWraps,.str x_3.fValue,.int .i64 x_3.fNext]),(384,.var [.int .i64 y_6.fId,.int .i64 y_6.fKind,.bool y_6.fHidden,.bool y_6.fFixed,.bool y_6.fSigns,.bool y_6.fWraps,.str y_6.fValue,.int .i64 y_6.fNext])])
 | .c1 ok_7 x_3 y_6=>(tdo Try.f3 508,[(3,[.one (.ptr 192 0)]),(6,[.one (.ptr 384 0)]),(7,[.one (.bool ok_7)])],[(192,.var [.int .i64 x_3.fId,.int .i64 x_3.fKind,.bool x_3.fHidden,.bool x_3.fFixed,.bool x_3.fSigns,.bool x_3.fWraps,.str x_3.fValue,.int .i64 x_3.fNext]),(384,.var [.int .i64 y_6.fId,.int .i64 y_6.fKind,.bool y_6.fHidden,.bool y_6.fFixed,.bool y_6.fSigns,.bool y_6.fWraps,.str y_6.fValue,.int .i64 y_6.fNext])])
 | .c2 do_8 x_3 y_6=>(tdo Try.f3 16336,[(3,[.one (.ptr 192 0)]),(6,[.one (.ptr 384 0)]),(8,[.one (.int .i64 do_8)])],[(192,.var [.int .i64 x_3.fId,.int .i64 x_3.fKind,.bool x_3.fHidden,.bool x_3.fFixed,.bool x_3.fSigns,.bool x_3.fWraps,.str x_3.fValue,.int .i64 x_3.fNext]),(384,.var [.int .i64 y_6.fId,.int .i64 y_6.fKind,.bool y_6.fHidden,.bool y_6.fFixed,.bool y_6.fSigns,.bool y_6.fWraps,.str y_6.fValue,.int .i64 y_6.fNext])])
noncomputable def Ci (z0:Zd) (z1:Ze) (z2:Df) (z3:Qd) (z4:Ef) (z5:Gf) (z6:Qa) (k:Td→Option Bool) (code_0:Unit):Option Bool:=
 (z0 ()).bind fun r0=>
 bif r0 then
 some true
 else
 (z1 ()).bind fun r1=>
 (z2 r1.1 r1.2.1 r1.2.2).bind fun r2=>
 (z3 r1.1).bind fun r3=>
 bif r3 then
  bif r1.2.1 then
  bif r1.2.2 then
   bif (!(r2.2 == true)) then
   some false
   else
   k (.c0 r2.2 r1.1 r2.1)
  else
   bif (!(r2.2 == (!r1.1.fFixed))) then
   some false
   else
   k (.c0 r2.2 r1.1 r2.1)
  else
  bif (!r1.1.fHidden) then
   bif r1.2.2 then
   bif (!(r2.2 == true)) then
    some false
   else
    k (.c0 r2.2 r1.1 r2.1)
   else
   bif (!(r2.2 == (!r1.1.fFixed))) then
    some false
   else
    k (.c0 r2.2 r1.1 r2.1)
  else
   bif (!(r2.2 == false)) then
   some false
   else
   k (.c0 r2.2 r1.1 r2.1)
 else
  bif (!(r2.2 == false)) then
  some false
  else
  k (.c0 r2.2 r1.1 r2.1)
noncomputable def Ua (z0:Zd) (z1:Ze) (z2:Df) (z3:Qd) (z4:Ef) (z5:Gf) (z6:Qa) (k:Td→Option Bool):Td→Option Bool
 | .c0 ok_7 x_3 y_6=>
 (z4 x_3 1).bind fun r0=>
 bif r0 then
  bif x_3.fHidden then
  some false
  else
  (z4 x_3 2).bind fun r1=>
  bif r1 then
   bif x_3.fFixed then
   some false
   else
   bif (x_3.fKind == 2) then
    some false
   else
    (z4 x_3 3).bind fun r2=>
    bif r2 then
    bif (!x_3.fSigns) then
     some false
    else
     (z4 x_3 9).bind fun r3=>
     bif r3 then
     some false
     else
     k (.c1 ok_7 x_3 y_6)
    else
    (z4 x_3 9).bind fun r4=>
    bif r4 then
     some false
    else
     k (.c1 ok_7 x_3 y_6)
  else
   (z4 x_3 3).bind fun r5=>
   bif r5 then
   bif (!x_3.fSigns) then
    some false
   else
    (z4 x_3 9).bind fun r6=>
    bif r6 then
    some false
    else
    k (.c1 ok_7 x_3 y_6)
   else
   (z4 x_3 9).bind fun r7=>
   bif r7 then
    some false
   else
    k (.c1 ok_7 x_3 y_6)
 else
  (z4 x_3 2).bind fun r8=>
  bif r8 then
  bif x_3.fFixed then
   some false
  else
   bif (x_3.fKind == 2) then
   some false
   else
   (z4 x_3 3).bind fun r9=>
   bif r9 then
    bif (!x_3.fSigns) then
    some false
    else
    (z4 x_3 9).bind fun r10=>
    bif r10 then
     some false
    else
     k (.c1 ok_7 x_3 y_6)
   else
    (z4 x_3 9).bind fun r11=>
    bif r11 then
    some false
    else
    k (.c1 ok_7 x_3 y_6)
  else
  (z4 x_3 3).bind fun r12=>
  bif r12 then
   bif (!x_3.fSigns) then
   some false
   else
   (z4 x_3 9).bind fun r13=>
   bif r13 then
    some false
   else
    k (.c1 ok_7 x_3 y_6)
  else
   (z4 x_3 9).bind fun r14=>
   bif r14 then
   some false
   else
   k (.c1 ok_7 x_3 y_6)
 | .c1 ok_7 x_3 y_6=>
 bif (!ok_7) then
  some (y_6.fId == 0)
 else
  k (.c2 0 x_3 y_6)
 | .c2 do_8 x_3 y_6=>
 bif (decide (do_8≤6)) then
  (z4 y_6 do_8).bind fun r0=>
  bif r0 then
  (z4 x_3 do_8).bind fun r1=>
  bif (!r1) then
   some false
  else
   (z4 x_3 do_8).bind fun r2=>
   (z5 x_3 do_8).bind fun r3=>
   bif (!(r2 == r3)) then
   some false
   else
   k (.c2 (w64 (do_8+1)) x_3 y_6)
  else
  (z4 x_3 do_8).bind fun r4=>
  (z5 x_3 do_8).bind fun r5=>
  bif (!(r4 == r5)) then
   some false
  else
   k (.c2 (w64 (do_8+1)) x_3 y_6)
 else
  (z6 y_6).bind fun r6=>
  bif r6 then
  bif ((ByteArray.toList y_6.fValue) == (ByteArray.toList x_3.fValue)) then
   bif (y_6.fNext == x_3.fNext) then
   (z4 y_6 5).bind fun r7=>
   some r7
   else
   some false
  else
   some false
  else
  some false
noncomputable def GZ:Nat→Td→Option Bool
 | 0,_=>none
 | m+1,s=>Ua Ba RZ UZ FZ VZ WZ WY (GZ m) s
noncomputable def laws_FnRules:Qk:=Ci Ba RZ UZ FZ VZ WZ WY (GZ gas)
theorem ok_laws_FnRules:Tells ctx PP 3 cv0 cv1 (fun a=>laws_FnRules a):=
 have b:∀ z0 z1 z2 z3 z4 z5 z6,CutIs ctx PP 3 Try.f3 [] [(5,Wi z0),(6,Yj z1),(7,Ak z2),(8,Yh z3),(9,Jk z4),(10,Nk z5),(11,Bf z6)] cv1 Rk (Ua z0 z1 z2 z3 z4 z5 z6):=fun z0 z1 z2 z3 z4 z5 z6 _ s=>by cases s <;> kernel_rfl
 have e:∀ z0 z1 z2 z3 z4 z5 z6,EntryIs ctx PP 3 [] [(5,Wi z0),(6,Yj z1),(7,Ak z2),(8,Yh z3),(9,Jk z4),(10,Nk z5),(11,Bf z6)] cv0 cv1 Rk (fun k a=>Ci z0 z1 z2 z3 z4 z5 z6 k a):=fun z0 z1 z2 z3 z4 z5 z6 _ a=>by kernel_rfl
 fn_ok (hc Zl (hc Eo (hc Jo (hc Ik (hc Ko (hc Oo (hc Vh hl_nil))))))) Try.func3 (fun s s' h=>by cases s <;> cases s' <;> first | ((repeat cases ‹SThing›);cases h;done) | ((repeat cases ‹SThing›);cases h;rfl) | exact (rg_ne h (by kernel_rfl)).elim) (fun _=>rfl) (fun _ _=>rfl) (b Ba RZ UZ FZ VZ WZ WY) (e Ba RZ UZ FZ VZ WZ WY) gas
noncomputable def Us {γ:Type} (F:Qk):Hd ctx γ:=hdl cv0.dec (fun a=>F a) cv1.enc
end Go.Proofs.Ytjfkbidckphneaa.G

/- Functions of the program, told by plain functions: part 1 of 1. -/
import Derived.Test.YthfpmhalgimbbaaDoorCtx
namespace Go.Proofs.YthfpmhalgimbbaaDoor.G
open Go Go.Ev
abbrev Xb:=Int→Int→Int→Option Bool
noncomputable def X8 (x_0:Int) (least_1:Int) (most_2:Int):Option Bool:=
 bif (decide (x_0≥least_1)) then
 some (decide (x_0≤most_2))
 else
 some false
noncomputable def LY:Xb:=X8
theorem Nh:Tells ctx PP 79 cv0 cv1 (fun a=>LY a.1 a.2.1 a.2.2):=fn_ok0 hl_nil Tryd.func79 (fun a=>by kernel_rfl:EntryIs0 ctx PP 79 [] [] cv0 cv1 fun a=>X8 a.1 a.2.1 a.2.2)
noncomputable def Ae {γ:Type} (F:Xb):Hd ctx γ:=hdl cv0.dec (fun a=>F a.1 a.2.1 a.2.2) cv1.enc
abbrev Na:=Int→Option ByteArray
inductive Cj where
 | c0 (n_0:Int) (out_3:(List Int))
noncomputable def Y8:Cj→LI
 | .c0 n_0 out_3=>(tdo Tryd.f80 224,[(0,[.one (.int .i64 n_0)]),(3,[.one (.own 240)])],[(240,.sl 5 out_3)])
noncomputable def Z8 (k:Cj→Option ByteArray) (n_0:Int):Option ByteArray:=
 k (.c0 n_0 [])
noncomputable def Zp (k:Cj→Option ByteArray):Cj→Option ByteArray
 | .c0 n_0 out_3=>
 bif (decide (n_0 > 127)) then
  bif (decide (((out_3.length+1)*1)≤140737488355328)) then
  k (.c0 (w64 (n_0.tdiv 128)) (out_3++[(w8 (w64 ((n_0.tmod 128)+128)))]))
  else none
 else
  bif (decide (((out_3.length+1)*1)≤140737488355328)) then
  some (ofBytes (out_3++[(w8 n_0)]))
  else none
noncomputable def Ej:Nat→Cj→Option ByteArray
 | 0,_=>none
 | m+1,s=>Zp (Ej m) s
noncomputable def GY:Na:=Z8 (Ej gas)
theorem Xe:Tells ctx PP 80 cv2 cv3 (fun a=>GY a):=
 have b:CutIs ctx PP 80 Tryd.f80 [] [] cv3 Y8 (Zp):=fun _ s=>by cases s <;> kernel_rfl
 have e:EntryIs ctx PP 80 [] [] cv2 cv3 Y8 (fun k a=>Z8 k a):=fun _ a=>by kernel_rfl
 fn_ok hl_nil Tryd.func80 (fun s s' h=>by cases s;cases s';cases h;rfl) (fun _=>rfl) (fun _ _=>rfl) b e gas
noncomputable def Tc {γ:Type} (F:Na):Hd ctx γ:=hdl cv2.dec (fun a=>F a) cv3.enc
abbrev Fj:=ByteArray→Int→Option (Int×Int×Bool)
inductive Gj where
 | c0 (text_0:ByteArray) (at_1:Int) (n_7:Int) (scale_8:Int) (i_9:Int)
noncomputable def C9:Gj→LI
 | .c0 text_0 at_1 n_7 scale_8 i_9=>(tdo Tryd.f69 2000,[(0,[.one (.str text_0)]),(1,[.one (.int .i64 at_1)]),(7,[.one (.int .i64 n_7)]),(8,[.one (.int .i64 scale_8)]),(9,[.one (.int .i64 i_9)])],[])
noncomputable def Ij (z0:Xb) (z1:Na) (k:Gj→Option (Int×Int×Bool)) (text_0:ByteArray) (at_1:Int):Option (Int×Int×Bool):=
 (z0 at_1 0 (text_0.size:Int)).bind fun r0=>
 bif (!r0) then
 some (0,(0,false))
 else
 k (.c0 text_0 at_1 0 1 at_1)
noncomputable def Aq (z0:Xb) (z1:Na) (k:Gj→Option (Int×Int×Bool)):Gj→Option (Int×Int×Bool)
 | .c0 text_0 at_1 n_7 scale_8 i_9=>
 bif (decide (i_9<(text_0.size:Int))) then
  bif (decide (i_9<(w64 (at_1+5)))) then
  bif ((decide (0≤i_9)) && (decide (i_9<(text_0.size:Int)))) then
  bif ((decide (0≤i_9)) && (decide (i_9<(text_0.size:Int)))) then
  bif (decide ((bt text_0 i_9)<128)) then
   bif (decide ((w64 (n_7+(w64 (((w64 (bt text_0 i_9)).tmod 128)*scale_8)))) > 1000000000)) then
   some (0,(0,false))
   else
   (z1 (w64 (n_7+(w64 (((w64 (bt text_0 i_9)).tmod 128)*scale_8))))).bind fun r0=>
   bif (((decide (0≤at_1)) && (decide (at_1≤(w64 (i_9+1))))) && (decide ((w64 (i_9+1))≤(text_0.size:Int)))) then
   bif (!((ByteArray.toList r0) == (ByteArray.toList (text_0.extract at_1.toNat (w64 (i_9+1)).toNat)))) then
    some (0,(0,false))
   else
    some ((w64 (n_7+(w64 (((w64 (bt text_0 i_9)).tmod 128)*scale_8)))),((w64 (i_9+1)),true))
   else none
  else
   k (.c0 text_0 at_1 (w64 (n_7+(w64 (((w64 (bt text_0 i_9)).tmod 128)*scale_8)))) (w64 (scale_8*128)) (w64 (i_9+1)))
  else none
  else none
  else
  some (0,(0,false))
 else
  some (0,(0,false))
noncomputable def Yb:Nat→Gj→Option (Int×Int×Bool)
 | 0,_=>none
 | m+1,s=>Aq LY GY (Yb m) s
noncomputable def ZY:Fj:=Ij LY GY (Yb gas)
theorem D9:Tells ctx PP 69 cv4 cv5 (fun a=>ZY a.1 a.2):=
 have b:∀ z0 z1,CutIs ctx PP 69 Tryd.f69 [] [(79,Ae z0),(80,Tc z1)] cv5 C9 (Aq z0 z1):=fun z0 z1 _ s=>by cases s <;> kernel_rfl
 have e:∀ z0 z1,EntryIs ctx PP 69 [] [(79,Ae z0),(80,Tc z1)] cv4 cv5 C9 (fun k a=>Ij z0 z1 k a.1 a.2):=fun z0 z1 _ a=>by kernel_rfl
 fn_ok (hc Nh (hc Xe hl_nil)) Tryd.func69 (fun s s' h=>by cases s;cases s';cases h;rfl) (fun _=>rfl) (fun _ _=>rfl) (b LY GY) (e LY GY) gas
noncomputable def Pv {γ:Type} (F:Fj):Hd ctx γ:=hdl cv4.dec (fun a=>F a.1 a.2) cv5.enc
abbrev Qv:=Int→ByteArray→Option Int
inductive Jj where
 | c0 (sum_0:Int) (text_1:ByteArray) (i_5:Int)
 | c1 (sum_0:Int) (text_1:ByteArray) (i_5:Int) (k_6:Int)
noncomputable def F9:Jj→LI
 | .c0 sum_0 text_1 i_5=>(tdo Tryd.f120 208,[(0,[.one (.int .u32 sum_0)]),(1,[.one (.str text_1)]),(5,[.one (.int .i64 i_5)])],[])
 | .c1 sum_0 text_1 i_5 k_6=>(tdo Tryd.f120 26928,[(0,[.one (.int .u32 sum_0)]),(1,[.one (.str text_1)]),(5,[.one (.int .i64 i_5)]),(6,[.one (.int .i64 k_6)])],[])
noncomputable def Sv (k:Jj→Option Int) (sum_0:Int) (text_1:ByteArray):Option Int:=
 k (.c0 sum_0 text_1 0)
noncomputable def Oh (k:Jj→Option Int):Jj→Option Int
 | .c0 sum_0 text_1 i_5=>
 bif (decide (i_5<(text_1.size:Int))) then
  bif ((decide (0≤i_5)) && (decide (i_5<(text_1.size:Int)))) then
  k (.c1 (w32 (((BitVec.toNat ((BitVec.ofInt (IntKind.bits IntKind.u32) sum_0) ^^^ (BitVec.ofInt (IntKind.bits IntKind.u32) (w32 (bt text_1 i_5))))):Nat):Int)) text_1 i_5 0)
  else none
 else
  some sum_0
 | .c1 sum_0 text_1 i_5 k_6=>
 bif (decide (k_6<8)) then
  bif ((sum_0.tmod 2) == 1) then
  k (.c1 (w32 (((BitVec.toNat ((BitVec.ofInt (IntKind.bits IntKind.u32) (w32 (sum_0.tdiv 2))) ^^^ (BitVec.ofInt (IntKind.bits IntKind.u32) 3558460437))):Nat):Int)) text_1 i_5 (w64 (k_6+1)))
  else
  k (.c1 (w32 (sum_0.tdiv 2)) text_1 i_5 (w64 (k_6+1)))
 else
  k (.c0 sum_0 text_1 (w64 (i_5+1)))
noncomputable def Uc:Nat→Jj→Option Int
 | 0,_=>none
 | m+1,s=>Oh (Uc m) s
noncomputable def Lj:Qv:=Sv (Uc gas)
theorem KAE:Tells ctx PP 120 cv6 cv7 (fun a=>Lj a.1 a.2):=
 have b:CutIs ctx PP 120 Tryd.f120 [] [] cv7 F9 (Oh):=fun _ s=>by cases s <;> kernel_rfl
 have e:EntryIs ctx PP 120 [] [] cv6 cv7 F9 (fun k a=>Sv k a.1 a.2):=fun _ a=>by kernel_rfl
 fn_ok hl_nil Tryd.func120 (fun s s' h=>by cases s <;> cases s' <;> first | (cases h;done) | (cases h;rfl) | exact (rg_ne h (by kernel_rfl)).elim) (fun _=>rfl) (fun _ _=>rfl) b e gas
noncomputable def LAE {γ:Type} (F:Qv):Hd ctx γ:=hdl cv6.dec (fun a=>F a.1 a.2) cv7.enc
abbrev Tv:=ByteArray→Option Int
noncomputable def Wv (z0:Qv) (text_0:ByteArray):Option Int:=
 (z0 4294967295 text_0).bind fun r0=>
 some r0
noncomputable def Nj:Tv:=Wv Lj
theorem MAE:Tells ctx PP 82 cv3 cv7 (fun a=>Nj a):=fn_ok0 (hc KAE hl_nil) Tryd.func82 ((fun z0 a=>by kernel_rfl:∀ z0,EntryIs0 ctx PP 82 [] [(120,LAE z0)] cv3 cv7 fun a=>Wv z0 a) Lj)
noncomputable def NAE {γ:Type} (F:Tv):Hd ctx γ:=hdl cv3.dec (fun a=>F a) cv7.enc
abbrev Xv:=Int→Option ByteArray
noncomputable def Yv (x_0:Int):Option ByteArray:=
 some (ofBytes [(w8 (Int.fdiv x_0 (2 ^ (Min.min (24:Int).toNat (IntKind.bits IntKind.u32))))),(w8 (Int.fdiv x_0 (2 ^ (Min.min (16:Int).toNat (IntKind.bits IntKind.u32))))),(w8 (Int.fdiv x_0 (2 ^ (Min.min (8:Int).toNat (IntKind.bits IntKind.u32))))),(w8 x_0)])
noncomputable def Oj:Xv:=Yv
theorem OAE:Tells ctx PP 81 cv7 cv3 (fun a=>Oj a):=fn_ok0 hl_nil Tryd.func81 (fun a=>by kernel_rfl:EntryIs0 ctx PP 81 [] [] cv7 cv3 fun a=>Yv a)
noncomputable def PAE {γ:Type} (F:Xv):Hd ctx γ:=hdl cv7.dec (fun a=>F a) cv3.enc
abbrev Ph:=ByteArray→Option (ByteArray×Bool)
noncomputable def Zv (z0:Xb) (z1:Na) (z2:Tv) (z3:Xv) (text_0:ByteArray):Option (ByteArray×Bool):=
 (z0 (text_0.size:Int) 1 9000).bind fun r0=>
 bif (!r0) then
 some (⟨#[]⟩,false)
 else
 (z1 (text_0.size:Int)).bind fun r1=>
 (z2 text_0).bind fun r2=>
 (z3 r2).bind fun r3=>
 bif (decide ((r1.size+r3.size)≤9223372036854775807)) then
 bif (decide (((r1++r3).size+text_0.size)≤9223372036854775807)) then
 some (((r1++r3)++text_0),true)
 else none
 else none
noncomputable def Oa:Ph:=Zv LY GY Nj Oj
theorem G9:Tells ctx PP 33 cv3 cv8 (fun a=>Oa a):=fn_ok0 (hc Nh (hc Xe (hc MAE (hc OAE hl_nil)))) Tryd.func33 ((fun z0 z1 z2 z3 a=>by kernel_rfl:∀ z0 z1 z2 z3,EntryIs0 ctx PP 33 [] [(79,Ae z0),(80,Tc z1),(82,NAE z2),(81,PAE z3)] cv3 cv8 fun a=>Zv z0 z1 z2 z3 a) LY GY Nj Oj)
noncomputable def Bq {γ:Type} (F:Ph):Hd ctx γ:=hdl cv3.dec (fun a=>F a) cv8.enc
abbrev Dq:=ByteArray→Option ((List ByteArray)×Int)
inductive Pj where
 | c0 (file_0:ByteArray) (at_5:Int) (out_4:(List ByteArray))
noncomputable def H9:Pj→LI
 | .c0 file_0 at_5 out_4=>(tdo Tryd.f30 992,[(0,[.one (.str file_0)]),(4,[.one (.own 304)]),(5,[.one (.int .i64 at_5)])],[(304,.sl 9 out_4)])
noncomputable def Aw (z0:Fj) (z1:Ph) (k:Pj→Option ((List ByteArray)×Int)) (file_0:ByteArray):Option ((List ByteArray)×Int):=
 bif (decide ((file_0.size:Int) > 20000)) then
 some ([],0)
 else
 k (.c0 file_0 0 [])
noncomputable def Dw (z0:Fj) (z1:Ph) (k:Pj→Option ((List ByteArray)×Int)):Pj→Option ((List ByteArray)×Int)
 | .c0 file_0 at_5 out_4=>
 bif (decide (at_5<(file_0.size:Int))) then
  (z0 file_0 at_5).bind fun r0=>
  bif (!r0.2.2) then
  some (out_4,at_5)
  else
  bif (decide (r0.1 > (w64 ((w64 ((file_0.size:Int) - r0.2.1)) - 4)))) then
   some (out_4,at_5)
  else
   bif (((decide (0≤(w64 (r0.2.1+4)))) && (decide ((w64 (r0.2.1+4))≤(w64 ((w64 (r0.2.1+4))+r0.1))))) && (decide ((w64 ((w64 (r0.2.1+4))+r0.1))≤(file_0.size:Int)))) then
   (z1 (file_0.extract (w64 (r0.2.1+4)).toNat (w64 ((w64 (r0.2.1+4))+r0.1)).toNat)).bind fun r1=>
   bif (!r1.2) then
   some (out_4,at_5)
   else
   bif (((decide (0≤at_5)) && (decide (at_5≤(w64 ((w64 (r0.2.1+4))+r0.1))))) && (decide ((w64 ((w64 (r0.2.1+4))+r0.1))≤(file_0.size:Int)))) then
   bif (!((ByteArray.toList r1.1) == (ByteArray.toList (file_0.extract at_5.toNat (w64 ((w64 (r0.2.1+4))+r0.1)).toNat)))) then
    some (out_4,at_5)
   else
    bif (decide (((out_4.length+1)*16)≤140737488355328)) then
    k (.c0 file_0 (w64 ((w64 (r0.2.1+4))+r0.1)) (out_4++[(file_0.extract (w64 (r0.2.1+4)).toNat (w64 ((w64 (r0.2.1+4))+r0.1)).toNat)]))
    else none
   else none
   else none
 else
  some (out_4,at_5)
noncomputable def Fq:Nat→Pj→Option ((List ByteArray)×Int)
 | 0,_=>none
 | m+1,s=>Dw ZY Oa (Fq m) s
noncomputable def Ye:Dq:=Aw ZY Oa (Fq gas)
theorem QAE:Tells ctx PP 30 cv3 cv9 (fun a=>Ye a):=
 have b:∀ z0 z1,CutIs ctx PP 30 Tryd.f30 [] [(69,Pv z0),(33,Bq z1)] cv9 H9 (Dw z0 z1):=fun z0 z1 _ s=>by cases s <;> kernel_rfl
 have e:∀ z0 z1,EntryIs ctx PP 30 [] [(69,Pv z0),(33,Bq z1)] cv3 cv9 H9 (fun k a=>Aw z0 z1 k a):=fun z0 z1 _ a=>by kernel_rfl
 fn_ok (hc D9 (hc G9 hl_nil)) Tryd.func30 (fun s s' h=>by cases s;cases s';cases h;rfl) (fun _=>rfl) (fun _ _=>rfl) (b ZY Oa) (e ZY Oa) gas
noncomputable def I9 {γ:Type} (F:Dq):Hd ctx γ:=hdl cv3.dec (fun a=>F a) cv9.enc
abbrev Qj:=Int→Option ByteArray
noncomputable def Ew (n_0:Int):Option ByteArray:=
 bif (decide ((n_0.tmod 256)<0)) then
 some (ofBytes [(w8 (w64 ((n_0.tmod 256)+256)))])
 else
 some (ofBytes [(w8 (n_0.tmod 256))])
noncomputable def Xc:Qj:=Ew
theorem J9:Tells ctx PP 117 cv2 cv3 (fun a=>Xc a):=fn_ok0 hl_nil Tryd.func117 (fun a=>by kernel_rfl:EntryIs0 ctx PP 117 [] [] cv2 cv3 fun a=>Ew a)
noncomputable def Gw {γ:Type} (F:Qj):Hd ctx γ:=hdl cv2.dec (fun a=>F a) cv3.enc
abbrev Hw:=Option (List Int)
noncomputable def L9  : Option (List Int):=
 some [1779033703,3144134277,1013904242,2773480762,1359893119,2600822924,528734635,1541459225]
noncomputable def Gq:Hw:=L9
theorem RAE:Tells ctx PP 153 cv10 cv11 (fun _=>Gq):=fn_ok0 hl_nil Tryd.func153 (fun _=>by kernel_rfl:EntryIs0 ctx PP 153 [] [] cv10 cv11 fun _=>L9)
noncomputable def SAE {γ:Type} (F:Hw):Hd ctx γ:=hdl cv10.dec (fun _=>F) cv11.enc
abbrev Ze:=(List Int)→Option ByteArray
inductive Rj where
 | c0 (words_0:(List Int)) (i_4:Int) (out_3:(List Int))
noncomputable def N9:Rj→LI
 | .c0 words_0 i_4 out_3=>(tdo Tryd.f152 464,[(0,[.one (.rsl 119 words_0)]),(3,[.one (.own 240)]),(4,[.one (.int .i64 i_4)])],[(240,.sl 5 out_3)])
noncomputable def O9 (k:Rj→Option ByteArray) (words_0:(List Int)):Option ByteArray:=
 k (.c0 words_0 0 [])
noncomputable def Hq (k:Rj→Option ByteArray):Rj→Option ByteArray
 | .c0 words_0 i_4 out_3=>
 bif (decide (i_4<(words_0.length:Int))) then
  bif ((decide (0≤i_4)) && (decide (i_4<(words_0.length:Int)))) then
  bif (decide (((out_3.length+4)*1)≤140737488355328)) then
  k (.c0 words_0 (w64 (i_4+1)) (out_3++[(w8 (w32 ((words_0.getD i_4.toNat 0).tdiv 16777216))),(w8 ((w32 ((words_0.getD i_4.toNat 0).tdiv 65536)).tmod 256)),(w8 ((w32 ((words_0.getD i_4.toNat 0).tdiv 256)).tmod 256)),(w8 ((words_0.getD i_4.toNat 0).tmod 256))]))
  else none
  else none
 else
  some (ofBytes out_3)
noncomputable def Sj:Nat→Rj→Option ByteArray
 | 0,_=>none
 | m+1,s=>Hq (Sj m) s
noncomputable def Ea:Ze:=O9 (Sj gas)
theorem Iw:Tells ctx PP 152 cv12 cv3 (fun a=>Ea a):=
 have b:CutIs ctx PP 152 Tryd.f152 [] [] cv3 N9 (Hq):=fun _ s=>by cases s <;> kernel_rfl
 have e:EntryIs ctx PP 152 [] [] cv12 cv3 N9 (fun k a=>O9 k a):=fun _ a=>by kernel_rfl
 fn_ok hl_nil Tryd.func152 (fun s s' h=>by cases s;cases s';cases h;rfl) (fun _=>rfl) (fun _ _=>rfl) b e gas
noncomputable def Tj {γ:Type} (F:Ze):Hd ctx γ:=hdl cv12.dec (fun a=>F a) cv3.enc
abbrev Jw:=Option SHasher
noncomputable def Kw (z0:Hw) (z1:Ze)  : Option SHasher:=
 z0.bind fun r0=>
 (z1 r0).bind fun r1=>
 some ⟨r1,⟨#[]⟩,0⟩
noncomputable def Uj:Jw:=Kw Gq Ea
theorem TAE:Tells ctx PP 130 cv10 cv13 (fun _=>Uj):=fn_ok0 (hc RAE (hc Iw hl_nil)) Tryd.func130 ((fun z0 z1 _=>by kernel_rfl:∀ z0 z1,EntryIs0 ctx PP 130 [] [(153,SAE z0),(152,Tj z1)] cv10 cv13 fun _=>Kw z0 z1) Gq Ea)
noncomputable def UAE {γ:Type} (F:Jw):Hd ctx γ:=hdl cv10.dec (fun _=>F) cv13.enc
abbrev Qh:=SHasher→Option Bool
noncomputable def Nw (z0:Xb) (h_0:SHasher):Option Bool:=
 bif ((h_0.fState.size:Int) == 32) then
 bif (decide ((h_0.fRest.size:Int)<64)) then
  (z0 h_0.fCount 0 1000000000).bind fun r0=>
  bif r0 then
  some ((h_0.fCount.tmod 64) == (h_0.fRest.size:Int))
  else
  some false
 else
  some false
 else
 some false
noncomputable def OZ:Qh:=Nw LY
theorem P9:Tells ctx PP 148 cv13 cv1 (fun a=>OZ a):=fn_ok0 (hc Nh hl_nil) Tryd.func148 ((fun z0 a=>by kernel_rfl:∀ z0,EntryIs0 ctx PP 148 [] [(79,Ae z0)] cv13 cv1 fun a=>Nw z0 a) LY)
noncomputable def Iq {γ:Type} (F:Qh):Hd ctx γ:=hdl cv13.dec (fun a=>F a) cv1.enc
abbrev Jq:=ByteArray→Int→Option Int
noncomputable def Qw (s_0:ByteArray) (at_1:Int):Option Int:=
 bif ((decide (0≤at_1)) && (decide (at_1<(s_0.size:Int)))) then
 bif ((decide (0≤(w64 (at_1+1)))) && (decide ((w64 (at_1+1))<(s_0.size:Int)))) then
 bif ((decide (0≤(w64 (at_1+2)))) && (decide ((w64 (at_1+2))<(s_0.size:Int)))) then
 bif ((decide (0≤(w64 (at_1+3)))) && (decide ((w64 (at_1+3))<(s_0.size:Int)))) then
 some (w32 ((w32 ((w32 ((w32 ((w32 (bt s_0 at_1))*16777216))+(w32 ((w32 (bt s_0 (w64 (at_1+1))))*65536))))+(w32 ((w32 (bt s_0 (w64 (at_1+2))))*256))))+(w32 (bt s_0 (w64 (at_1+3))))))
 else none
 else none
 else none
 else none
noncomputable def Af:Jq:=Qw
theorem VAE:Tells ctx PP 156 cv4 cv7 (fun a=>Af a.1 a.2):=fn_ok0 hl_nil Tryd.func156 (fun a=>by kernel_rfl:EntryIs0 ctx PP 156 [] [] cv4 cv7 fun a=>Qw a.1 a.2)
noncomputable def Q9 {γ:Type} (F:Jq):Hd ctx γ:=hdl cv4.dec (fun a=>F a.1 a.2) cv7.enc
abbrev Ce:=ByteArray→Option (List Int)
inductive Vj where
 | c0 (s_0:ByteArray) (i_4:Int) (out_3:(List Int))
noncomputable def S9:Vj→LI
 | .c0 s_0 i_4 out_3=>(tdo Tryd.f149 464,[(0,[.one (.str s_0)]),(3,[.one (.own 240)]),(4,[.one (.int .i64 i_4)])],[(240,.sl 119 out_3)])
noncomputable def U9 (z0:Jq) (k:Vj→Option (List Int)) (s_0:ByteArray):Option (List Int):=
 k (.c0 s_0 0 [])
noncomputable def Kq (z0:Jq) (k:Vj→Option (List Int)):Vj→Option (List Int)
 | .c0 s_0 i_4 out_3=>
 bif (decide ((w64 (i_4+4))≤(s_0.size:Int))) then
  (z0 s_0 i_4).bind fun r0=>
  bif (decide (((out_3.length+1)*4)≤140737488355328)) then
  k (.c0 s_0 (w64 (i_4+4)) (out_3++[r0]))
  else none
 else
  some out_3
noncomputable def Wj:Nat→Vj→Option (List Int)
 | 0,_=>none
 | m+1,s=>Kq Af (Wj m) s
noncomputable def AZ:Ce:=U9 Af (Wj gas)
theorem Rw:Tells ctx PP 149 cv3 cv11 (fun a=>AZ a):=
 have b:∀ z0,CutIs ctx PP 149 Tryd.f149 [] [(156,Q9 z0)] cv11 S9 (Kq z0):=fun z0 _ s=>by cases s <;> kernel_rfl
 have e:∀ z0,EntryIs ctx PP 149 [] [(156,Q9 z0)] cv3 cv11 S9 (fun k a=>U9 z0 k a):=fun z0 _ a=>by kernel_rfl
 fn_ok (hc VAE hl_nil) Tryd.func149 (fun s s' h=>by cases s;cases s';cases h;rfl) (fun _=>rfl) (fun _ _=>rfl) (b Af) (e Af) gas
noncomputable def Rh {γ:Type} (F:Ce):Hd ctx γ:=hdl cv3.dec (fun a=>F a) cv11.enc
abbrev Uh:=Option (List Int)
noncomputable def V9  : Option (List Int):=
 some [1116352408,1899447441,3049323471,3921009573,961987163,1508970993,2453635748,2870763221,3624381080,310598401,607225278,1426881987,1925078388,2162078206,2614888103,3248222580,3835390401,4022224774,264347078,604807628,770255983,1249150122,1555081692,1996064986,2554220882,2821834349,2952996808,3210313671,3336571891,3584528711,113926993,338241895,666307205,773529912,1294757372,1396182291,1695183700,1986661051,2177026350,2456956037,2730485921,2820302411,3259730800,3345764771,3516065817,3600352804,4094571909,275423344,430227734,506948616,659060556,883997877,958139571,1322822218,1537002063,1747873779,1955562222,2024104815,2227730452,2361852424,2428436474,2756734187,3204031479,3329325298]
noncomputable def Zb:Uh:=V9
theorem W9:Tells ctx PP 150 cv10 cv11 (fun _=>Zb):=fn_ok0 hl_nil Tryd.func150 (fun _=>by kernel_rfl:EntryIs0 ctx PP 150 [] [] cv10 cv11 fun _=>V9)
noncomputable def Nq {γ:Type} (F:Uh):Hd ctx γ:=hdl cv10.dec (fun _=>F) cv11.enc
abbrev Uw:=Int→Int→Int→Option Int
noncomputable def Vw (x_0:Int) (low_1:Int) (high_2:Int):Option Int:=
 bif (!(low_1 == 0)) then
 bif (!(low_1 == 0)) then
 some (w32 ((w32 (x_0.tdiv low_1))+(w32 ((x_0.tmod low_1)*high_2))))
 else none
 else none
noncomputable def Xj:Uw:=Vw
theorem WAE:Tells ctx PP 160 cv14 cv7 (fun a=>Xj a.1 a.2.1 a.2.2):=fn_ok0 hl_nil Tryd.func160 (fun a=>by kernel_rfl:EntryIs0 ctx PP 160 [] [] cv14 cv7 fun a=>Vw a.1 a.2.1 a.2.2)
noncomputable def XAE {γ:Type} (F:Uw):Hd ctx γ:=hdl cv14.dec (fun a=>F a.1 a.2.1 a.2.2) cv7.enc
abbrev Oq:=Int→Int→Int→Int→Bool→Option Int
noncomputable def Vh (z0:Uw) (x_0:Int) (a_1:Int) (b_2:Int) (c_3:Int) (last_4:Bool):Option Int:=
 bif (!(a_1 == 0)) then
 (z0 x_0 a_1 (w32 ((w32 ((2147483648:Int).tdiv a_1))*2))).bind fun r0=>
 bif (!(b_2 == 0)) then
 (z0 x_0 b_2 (w32 ((w32 ((2147483648:Int).tdiv b_2))*2))).bind fun r1=>
 bif (!(c_3 == 0)) then
 bif (!last_4) then
 bif (!(c_3 == 0)) then
 (z0 x_0 c_3 (w32 ((w32 ((2147483648:Int).tdiv c_3))*2))).bind fun r2=>
 some (w32 (((BitVec.toNat ((BitVec.ofInt (IntKind.bits IntKind.u32) (w32 (((BitVec.toNat ((BitVec.ofInt (IntKind.bits IntKind.u32) r0) ^^^ (BitVec.ofInt (IntKind.bits IntKind.u32) r1))):Nat):Int))) ^^^ (BitVec.ofInt (IntKind.bits IntKind.u32) r2))):Nat):Int))
 else none
 else
 some (w32 (((BitVec.toNat ((BitVec.ofInt (IntKind.bits IntKind.u32) (w32 (((BitVec.toNat ((BitVec.ofInt (IntKind.bits IntKind.u32) r0) ^^^ (BitVec.ofInt (IntKind.bits IntKind.u32) r1))):Nat):Int))) ^^^ (BitVec.ofInt (IntKind.bits IntKind.u32) (w32 (x_0.tdiv c_3))))):Nat):Int))
 else none
 else none
 else none
noncomputable def PZ:Oq:=Vh Xj
theorem YAE:Tells ctx PP 157 cv15 cv7 (fun a=>PZ a.1 a.2.1 a.2.2.1 a.2.2.2.1 a.2.2.2.2):=fn_ok0 (hc WAE hl_nil) Tryd.func157 ((fun z0 a=>by kernel_rfl:∀ z0,EntryIs0 ctx PP 157 [] [(160,XAE z0)] cv15 cv7 fun a=>Vh z0 a.1 a.2.1 a.2.2.1 a.2.2.2.1 a.2.2.2.2) Xj)
noncomputable def X9 {γ:Type} (F:Oq):Hd ctx γ:=hdl cv15.dec (fun a=>F a.1 a.2.1 a.2.2.1 a.2.2.2.1 a.2.2.2.2) cv7.enc
abbrev Wh:=(List Int)→(List Int)→ByteArray→Option (List Int)
inductive Yj where
 | c0 (t_0:(List Int)) (o_1:(List Int)) (v_8:Int) (v_7:(List Int))
 | c1 (t_0:(List Int)) (o_1:(List Int)) (v_10:Int) (v_7:(List Int)) (v_9:(List Int))
 | c2 (t_0:(List Int)) (o_1:(List Int)) (v_10:Int) (v_13:Int) (v_15:Int) (v_16:Int) (v_7:(List Int)) (v_9:(List Int))
 | c3 (t_0:(List Int)) (v_18:Int) (v_9:(List Int)) (v_17:(List Int))
noncomputable def Y9:Yj→LI
 | .c0 t_0 o_1 v_8 v_7=>(tdo Tryd.f151 464,[(0,[.one (.rsl 119 t_0)]),(1,[.one (.rsl 119 o_1)]),(7,[.one (.own 496)]),(8,[.one (.int .i64 v_8)])],[(496,.sl 119 v_7)])
 | .c1 t_0 o_1 v_10 v_7 v_9=>(tdo Tryd.f151 2000,[(0,[.one (.rsl 119 t_0)]),(1,[.one (.rsl 119 o_1)]),(7,[.one (.own 496)]),(9,[.one (.own 624)]),(10,[.one (.int .i64 v_10)])],[(496,.sl 119 v_7),(624,.sl 119 v_9)])
 | .c2 t_0 o_1 v_10 v_13 v_15 v_16 v_7 v_9=>(tdo Tryd.f151 8202192,[(0,[.one (.rsl 119 t_0)]),(1,[.one (.rsl 119 o_1)]),(7,[.one (.own 496)]),(9,[.one (.own 624)]),(10,[.one (.int .i64 v_10)]),(13,[.one (.int .u32 v_13)]),(15,[.one (.int .u32 v_15)]),(16,[.one (.int .i64 v_16)])],[(496,.sl 119 v_7),(624,.sl 119 v_9)])
 | .c3 t_0 v_18 v_9 v_17=>(tdo Tryd.f151 8144,[(0,[.one (.rsl 119 t_0)]),(9,[.one (.own 624)]),(17,[.one (.own 1136)]),(18,[.one (.int .i64 v_18)])],[(624,.sl 119 v_9),(1136,.sl 119 v_17)])
noncomputable def Xw (z0:Ce) (z1:Oq) (k:Yj→Option (List Int)) (t_0:(List Int)) (o_1:(List Int)) (A_2:ByteArray):Option (List Int):=
 (z0 A_2).bind fun r0=>
 k (.c0 t_0 o_1 16 r0)
noncomputable def Ac (z0:Ce) (z1:Oq) (k:Yj→Option (List Int)):Yj→Option (List Int)
 | .c0 t_0 o_1 v_8 v_7=>
 bif (decide (v_8<64)) then
  bif ((decide (0≤(w64 (v_8 - 2)))) && (decide ((w64 (v_8 - 2))<(v_7.length:Int)))) then
  (z1 (v_7.getD (w64 (v_8 - 2)).toNat 0) 131072 524288 1024 true).bind fun r0=>
  bif ((decide (0≤(w64 (v_8 - 7)))) && (decide ((w64 (v_8 - 7))<(v_7.length:Int)))) then
  bif ((decide (0≤(w64 (v_8 - 15)))) && (decide ((w64 (v_8 - 15))<(v_7.length:Int)))) then
  (z1 (v_7.getD (w64 (v_8 - 15)).toNat 0) 128 262144 8 true).bind fun r1=>
  bif ((decide (0≤(w64 (v_8 - 16)))) && (decide ((w64 (v_8 - 16))<(v_7.length:Int)))) then
  bif (decide (((v_7.length+1)*4)≤140737488355328)) then
  k (.c0 t_0 o_1 (w64 (v_8+1)) (v_7++[(w32 ((w32 ((w32 (r0+(v_7.getD (w64 (v_8 - 7)).toNat 0)))+r1))+(v_7.getD (w64 (v_8 - 16)).toNat 0)))]))
  else none
  else none
  else none
  else none
  else none
 else
  bif (decide (((0+t_0.length)*4)≤140737488355328)) then
  k (.c1 t_0 o_1 0 v_7 ([]++t_0))
  else none
 | .c1 t_0 o_1 v_10 v_7 v_9=>
 bif (decide (v_10<64)) then
  bif ((decide ((0:Int)≤(4:Int))) && (decide (4<(v_9.length:Int)))) then
  bif ((decide ((0:Int)≤(5:Int))) && (decide (5<(v_9.length:Int)))) then
  bif ((decide ((0:Int)≤(6:Int))) && (decide (6<(v_9.length:Int)))) then
  bif ((decide ((0:Int)≤(7:Int))) && (decide (7<(v_9.length:Int)))) then
  (z1 (v_9.getD (4:Int).toNat 0) 64 2048 33554432 false).bind fun r0=>
  bif ((decide (0≤v_10)) && (decide (v_10<(o_1.length:Int)))) then
  bif ((decide (0≤v_10)) && (decide (v_10<(v_7.length:Int)))) then
  bif ((decide ((0:Int)≤(0:Int))) && (decide (0<(v_9.length:Int)))) then
  bif ((decide ((0:Int)≤(1:Int))) && (decide (1<(v_9.length:Int)))) then
  bif ((decide ((0:Int)≤(0:Int))) && (decide (0<(v_9.length:Int)))) then
  bif ((decide ((0:Int)≤(2:Int))) && (decide (2<(v_9.length:Int)))) then
  bif ((decide ((0:Int)≤(1:Int))) && (decide (1<(v_9.length:Int)))) then
  bif ((decide ((0:Int)≤(2:Int))) && (decide (2<(v_9.length:Int)))) then
  bif ((decide ((0:Int)≤(0:Int))) && (decide (0<(v_9.length:Int)))) then
  (z1 (v_9.getD (0:Int).toNat 0) 4 8192 4194304 false).bind fun r1=>
  k (.c2 t_0 o_1 v_10 (w32 ((w32 ((w32 ((w32 ((v_9.getD (7:Int).toNat 0)+r0))+(w32 (((BitVec.toNat ((BitVec.ofInt (IntKind.bits IntKind.u32) (w32 (((BitVec.toNat ((BitVec.ofInt (IntKind.bits IntKind.u32) (v_9.getD (4:Int).toNat 0)) &&& (BitVec.ofInt (IntKind.bits IntKind.u32) (v_9.getD (5:Int).toNat 0)))):Nat):Int))) ^^^ (BitVec.ofInt (IntKind.bits IntKind.u32) (w32 (((BitVec.toNat ((BitVec.ofInt (IntKind.bits IntKind.u32) (w32 (4294967295 - (v_9.getD (4:Int).toNat 0)))) &&& (BitVec.ofInt (IntKind.bits IntKind.u32) (v_9.getD (6:Int).toNat 0)))):Nat):Int))))):Nat):Int))))+(o_1.getD v_10.toNat 0)))+(v_7.getD v_10.toNat 0))) (w32 (r1+(w32 (((BitVec.toNat ((BitVec.ofInt (IntKind.bits IntKind.u32) (w32 (((BitVec.toNat ((BitVec.ofInt (IntKind.bits IntKind.u32) (w32 (((BitVec.toNat ((BitVec.ofInt (IntKind.bits IntKind.u32) (v_9.getD (0:Int).toNat 0)) &&& (BitVec.ofInt (IntKind.bits IntKind.u32) (v_9.getD (1:Int).toNat 0)))):Nat):Int))) ^^^ (BitVec.ofInt (IntKind.bits IntKind.u32) (w32 (((BitVec.toNat ((BitVec.ofInt (IntKind.bits IntKind.u32) (v_9.getD (0:Int).toNat 0)) &&& (BitVec.ofInt (IntKind.bits IntKind.u32) (v_9.getD (2:Int).toNat 0)))):Nat):Int))))):Nat):Int))) ^^^ (BitVec.ofInt (IntKind.bits IntKind.u32) (w32 (((BitVec.toNat ((BitVec.ofInt (IntKind.bits IntKind.u32) (v_9.getD (1:Int).toNat 0)) &&& (BitVec.ofInt (IntKind.bits IntKind.u32) (v_9.getD (2:Int).toNat 0)))):Nat):Int))))):Nat):Int)))) 7 v_7 v_9)
  else none
  else none
  else none
  else none
  else none
  else none
  else none
  else none
  else none
  else none
  else none
  else none
  else none
 else
  k (.c3 t_0 0 v_9 [])
 | .c2 t_0 o_1 v_10 v_13 v_15 v_16 v_7 v_9=>
 bif (decide (v_16 > 0)) then
  bif ((decide (0≤(w64 (v_16 - 1)))) && (decide ((w64 (v_16 - 1))<(v_9.length:Int)))) then
  bif ((decide (0≤v_16)) && (decide (v_16<(v_9.length:Int)))) then
  k (.c2 t_0 o_1 v_10 v_13 v_15 (w64 (v_16 - 1)) v_7 (v_9.set v_16.toNat (v_9.getD (w64 (v_16 - 1)).toNat 0)))
  else none
  else none
 else
  bif ((decide ((0:Int)≤(4:Int))) && (decide (4<(v_9.length:Int)))) then
  bif ((decide ((0:Int)≤(4:Int))) && (decide (4<(v_9.length:Int)))) then
  bif ((decide ((0:Int)≤(0:Int))) && (decide (0<((v_9.set (4:Int).toNat (w32 ((v_9.getD (4:Int).toNat 0)+v_13))).length:Int)))) then
  k (.c1 t_0 o_1 (w64 (v_10+1)) v_7 ((v_9.set (4:Int).toNat (w32 ((v_9.getD (4:Int).toNat 0)+v_13))).set (0:Int).toNat (w32 (v_13+v_15))))
  else none
  else none
  else none
 | .c3 t_0 v_18 v_9 v_17=>
 bif (decide (v_18<8)) then
  bif ((decide (0≤v_18)) && (decide (v_18<(t_0.length:Int)))) then
  bif ((decide (0≤v_18)) && (decide (v_18<(v_9.length:Int)))) then
  bif (decide (((v_17.length+1)*4)≤140737488355328)) then
  k (.c3 t_0 (w64 (v_18+1)) v_9 (v_17++[(w32 ((t_0.getD v_18.toNat 0)+(v_9.getD v_18.toNat 0)))]))
  else none
  else none
  else none
 else
  some v_17
noncomputable def PY:Nat→Yj→Option (List Int)
 | 0,_=>none
 | m+1,s=>Ac AZ PZ (PY m) s
noncomputable def Qa:Wh:=Xw AZ PZ (PY gas)
theorem Z9:Tells ctx PP 151 cv16 cv11 (fun a=>Qa a.1 a.2.1 a.2.2):=
 have b:∀ z0 z1,CutIs ctx PP 151 Tryd.f151 [] [(149,Rh z0),(157,X9 z1)] cv11 Y9 (Ac z0 z1):=fun z0 z1 _ s=>by cases s <;> kernel_rfl
 have e:∀ z0 z1,EntryIs ctx PP 151 [] [(149,Rh z0),(157,X9 z1)] cv16 cv11 Y9 (fun k a=>Xw z0 z1 k a.1 a.2.1 a.2.2):=fun z0 z1 _ a=>by kernel_rfl
 fn_ok (hc Rw (hc YAE hl_nil)) Tryd.func151 (fun s s' h=>by cases s <;> cases s' <;> first | (cases h;done) | (cases h;rfl) | exact (rg_ne h (by kernel_rfl)).elim) (fun _=>rfl) (fun _ _=>rfl) (b AZ PZ) (e AZ PZ) gas
noncomputable def Pq {γ:Type} (F:Wh):Hd ctx γ:=hdl cv16.dec (fun a=>F a.1 a.2.1 a.2.2) cv11.enc
abbrev Yw:=SHasher→ByteArray→Option SHasher
inductive Zj where
 | c0 (s_1:ByteArray) (buf_7:ByteArray) (at_8:Int) (h_2:SHasher) (v_4:SHasher) (state_5:(List Int)) (k_6:(List Int))
noncomputable def AAA:Zj→LI
 | .c0 s_1 buf_7 at_8 h_2 v_4 state_5 k_6=>(tdo Tryd.f129 4064,[(1,[.one (.str s_1)]),(2,[.one (.ptr 128 0)]),(4,[.one (.ptr 256 0)]),(5,[.one (.own 368)]),(6,[.one (.own 432)]),(7,[.one (.str buf_7)]),(8,[.one (.int .i64 at_8)])],[(128,.var [.str h_2.fState,.str h_2.fRest,.int .i64 h_2.fCount]),(256,.var [.str v_4.fState,.str v_4.fRest,.int .i64 v_4.fCount]),(368,.sl 119 state_5),(432,.sl 119 k_6)])
noncomputable def Zw (z0:Qh) (z1:Ce) (z2:Uh) (z3:Wh) (z4:Ze) (k:Zj→Option SHasher) (h_0:SHasher) (s_1:ByteArray):Option SHasher:=
 (z0 h_0).bind fun r0=>
 bif (!r0) then
 some h_0
 else
 bif (decide ((w64 (h_0.fCount+(s_1.size:Int))) > 1000000000)) then
  some h_0
 else
  (z1 h_0.fState).bind fun r1=>
  z2.bind fun r2=>
  bif (decide ((h_0.fRest.size+s_1.size)≤9223372036854775807)) then
  k (.c0 s_1 (h_0.fRest++s_1) 0 h_0 ⟨⟨#[]⟩,⟨#[]⟩,0⟩ r1 r2)
  else none
noncomputable def Qq (z0:Qh) (z1:Ce) (z2:Uh) (z3:Wh) (z4:Ze) (k:Zj→Option SHasher):Zj→Option SHasher
 | .c0 s_1 buf_7 at_8 h_2 v_4 state_5 k_6=>
 bif (decide ((w64 (at_8+64))≤(buf_7.size:Int))) then
  bif (((decide (0≤at_8)) && (decide (at_8≤(w64 (at_8+64))))) && (decide ((w64 (at_8+64))≤(buf_7.size:Int)))) then
  (z3 state_5 k_6 (buf_7.extract at_8.toNat (w64 (at_8+64)).toNat)).bind fun r0=>
  k (.c0 s_1 buf_7 (w64 (at_8+64)) h_2 v_4 r0 k_6)
  else none
 else
  (z4 state_5).bind fun r1=>
  bif ((decide (0≤at_8)) && (decide (at_8≤(buf_7.size:Int)))) then
  some ⟨r1,(buf_7.extract at_8.toNat buf_7.size),(w64 (h_2.fCount+(s_1.size:Int)))⟩
  else none
noncomputable def Ak:Nat→Zj→Option SHasher
 | 0,_=>none
 | m+1,s=>Qq OZ AZ Zb Qa Ea (Ak m) s
noncomputable def Dk:Yw:=Zw OZ AZ Zb Qa Ea (Ak gas)
theorem ZAE:Tells ctx PP 129 cv17 cv13 (fun a=>Dk a.1 a.2):=
 have b:∀ z0 z1 z2 z3 z4,CutIs ctx PP 129 Tryd.f129 [] [(148,Iq z0),(149,Rh z1),(150,Nq z2),(151,Pq z3),(152,Tj z4)] cv13 AAA (Qq z0 z1 z2 z3 z4):=fun z0 z1 z2 z3 z4 _ s=>by cases s <;> kernel_rfl
 have e:∀ z0 z1 z2 z3 z4,EntryIs ctx PP 129 [] [(148,Iq z0),(149,Rh z1),(150,Nq z2),(151,Pq z3),(152,Tj z4)] cv17 cv13 AAA (fun k a=>Zw z0 z1 z2 z3 z4 k a.1 a.2):=fun z0 z1 z2 z3 z4 _ a=>by kernel_rfl
 fn_ok (hc P9 (hc Rw (hc W9 (hc Z9 (hc Iw hl_nil))))) Tryd.func129 (fun s s' h=>by cases s;cases s';(repeat cases ‹SHasher›);cases h;rfl) (fun _=>rfl) (fun _ _=>rfl) (b OZ AZ Zb Qa Ea) (e OZ AZ Zb Qa Ea) gas
noncomputable def AAF {γ:Type} (F:Yw):Hd ctx γ:=hdl cv17.dec (fun a=>F a.1 a.2) cv13.enc
abbrev Dx:=SHasher→Option ByteArray
inductive Ik where
 | c0 (h_1:SHasher) (tail_3:(List Int))
 | c1 (bits_4:Int) (i_5:Int) (h_1:SHasher) (tail_3:(List Int))
 | c2 (bits_4:Int) (i_5:Int) (x_6:Int) (k_7:Int) (h_1:SHasher) (tail_3:(List Int))
 | c3 (at_10:Int) (tail_3:(List Int)) (state_8:(List Int)) (k_9:(List Int))
noncomputable def BAA:Ik→LI
 | .c0 h_1 tail_3=>(tdo Tryd.f128 992,[(1,[.one (.ptr 64 0)]),(3,[.one (.own 240)])],[(64,.var [.str h_1.fState,.str h_1.fRest,.int .i64 h_1.fCount]),(240,.sl 5 tail_3)])
 | .c1 bits_4 i_5 h_1 tail_3=>(tdo Tryd.f128 8144,[(1,[.one (.ptr 64 0)]),(3,[.one (.own 240)]),(4,[.one (.int .i64 bits_4)]),(5,[.one (.int .i64 i_5)])],[(64,.var [.str h_1.fState,.str h_1.fRest,.int .i64 h_1.fCount]),(240,.sl 5 tail_3)])
 | .c2 bits_4 i_5 x_6 k_7 h_1 tail_3=>(tdo Tryd.f128 2085456,[(1,[.one (.ptr 64 0)]),(3,[.one (.own 240)]),(4,[.one (.int .i64 bits_4)]),(5,[.one (.int .i64 i_5)]),(6,[.one (.int .i64 x_6)]),(7,[.one (.int .i64 k_7)])],[(64,.var [.str h_1.fState,.str h_1.fRest,.int .i64 h_1.fCount]),(240,.sl 5 tail_3)])
 | .c3 at_10 tail_3 state_8 k_9=>(tdo Tryd.f128 65488,[(3,[.one (.own 240)]),(8,[.one (.own 560)]),(9,[.one (.own 624)]),(10,[.one (.int .i64 at_10)])],[(240,.sl 5 tail_3),(560,.sl 119 state_8),(624,.sl 119 k_9)])
noncomputable def Gx (z0:Qh) (z1:Ce) (z2:Uh) (z3:Wh) (z4:Ze) (k:Ik→Option ByteArray) (h_0:SHasher):Option ByteArray:=
 (z0 h_0).bind fun r0=>
 bif (!r0) then
 some ⟨#[]⟩
 else
 bif (decide (h_0.fRest.size≤9223372036854775807)) then
 bif (decide ((((bytesOf h_0.fRest).length+1)*1)≤140737488355328)) then
 k (.c0 h_0 ((bytesOf h_0.fRest)++[(128:Int)]))
 else none
 else none
noncomputable def Bc (z0:Qh) (z1:Ce) (z2:Uh) (z3:Wh) (z4:Ze) (k:Ik→Option ByteArray):Ik→Option ByteArray
 | .c0 h_1 tail_3=>
 bif (((tail_3.length:Int).tmod 64) != 56) then
  bif (decide (((tail_3.length+1)*1)≤140737488355328)) then
  k (.c0 h_1 (tail_3++[(0:Int)]))
  else none
 else
  k (.c1 (w64 (8*h_1.fCount)) 7 h_1 tail_3)
 | .c1 bits_4 i_5 h_1 tail_3=>
 bif (decide (i_5≥0)) then
  k (.c2 bits_4 i_5 bits_4 0 h_1 tail_3)
 else
  (z1 h_1.fState).bind fun r0=>
  z2.bind fun r1=>
  k (.c3 0 tail_3 r0 r1)
 | .c2 bits_4 i_5 x_6 k_7 h_1 tail_3=>
 bif (decide (k_7<i_5)) then
  k (.c2 bits_4 i_5 (w64 (x_6.tdiv 256)) (w64 (k_7+1)) h_1 tail_3)
 else
  bif (decide (((tail_3.length+1)*1)≤140737488355328)) then
  k (.c1 bits_4 (w64 (i_5 - 1)) h_1 (tail_3++[(w8 (x_6.tmod 256))]))
  else none
 | .c3 at_10 tail_3 state_8 k_9=>
 bif (decide (at_10<(tail_3.length:Int))) then
  bif (((decide (0≤at_10)) && (decide (at_10≤(w64 (at_10+64))))) && (decide ((w64 (at_10+64))≤(tail_3.length:Int)))) then
  (z3 state_8 k_9 (ofBytes ((tail_3.drop at_10.toNat).take ((w64 (at_10+64)).toNat - at_10.toNat)))).bind fun r0=>
  k (.c3 (w64 (at_10+64)) tail_3 r0 k_9)
  else none
 else
  (z4 state_8).bind fun r1=>
  some r1
noncomputable def QY:Nat→Ik→Option ByteArray
 | 0,_=>none
 | m+1,s=>Bc OZ AZ Zb Qa Ea (QY m) s
noncomputable def Jk:Dx:=Gx OZ AZ Zb Qa Ea (QY gas)
theorem BAF:Tells ctx PP 128 cv13 cv3 (fun a=>Jk a):=
 have b:∀ z0 z1 z2 z3 z4,CutIs ctx PP 128 Tryd.f128 [] [(148,Iq z0),(149,Rh z1),(150,Nq z2),(151,Pq z3),(152,Tj z4)] cv3 BAA (Bc z0 z1 z2 z3 z4):=fun z0 z1 z2 z3 z4 _ s=>by cases s <;> kernel_rfl
 have e:∀ z0 z1 z2 z3 z4,EntryIs ctx PP 128 [] [(148,Iq z0),(149,Rh z1),(150,Nq z2),(151,Pq z3),(152,Tj z4)] cv13 cv3 BAA (fun k a=>Gx z0 z1 z2 z3 z4 k a):=fun z0 z1 z2 z3 z4 _ a=>by kernel_rfl
 fn_ok (hc P9 (hc Rw (hc W9 (hc Z9 (hc Iw hl_nil))))) Tryd.func128 (fun s s' h=>by cases s <;> cases s' <;> first | ((repeat cases ‹SHasher›);cases h;done) | ((repeat cases ‹SHasher›);cases h;rfl) | exact (rg_ne h (by kernel_rfl)).elim) (fun _=>rfl) (fun _ _=>rfl) (b OZ AZ Zb Qa Ea) (e OZ AZ Zb Qa Ea) gas
noncomputable def CAF {γ:Type} (F:Dx):Hd ctx γ:=hdl cv13.dec (fun a=>F a) cv3.enc
abbrev Nk:=ByteArray→Option ByteArray
noncomputable def Ox (z0:Jw) (z1:Yw) (z2:Dx) (s_0:ByteArray):Option ByteArray:=
 z0.bind fun r0=>
 (z1 r0 s_0).bind fun r1=>
 (z2 r1).bind fun r2=>
 some r2
noncomputable def Yc:Nk:=Ox Uj Dk Jk
theorem CAA:Tells ctx PP 95 cv3 cv3 (fun a=>Yc a):=fn_ok0 (hc TAE (hc ZAE (hc BAF hl_nil))) Tryd.func95 ((fun z0 z1 z2 a=>by kernel_rfl:∀ z0 z1 z2,EntryIs0 ctx PP 95 [] [(130,UAE z0),(129,AAF z1),(128,CAF z2)] cv3 cv3 fun a=>Ox z0 z1 z2 a) Uj Dk Jk)
noncomputable def Px {γ:Type} (F:Nk):Hd ctx γ:=hdl cv3.dec (fun a=>F a) cv3.enc
abbrev Qx:=ByteArray→Int→Option ByteArray
inductive Qk where
 | c0 (key_0:ByteArray) (x_1:Int) (i_6:Int) (out_5:(List Int))
noncomputable def DAA:Qk→LI
 | .c0 key_0 x_1 i_6 out_5=>(tdo Tryd.f141 976,[(0,[.one (.str key_0)]),(1,[.one (.int .u8 x_1)]),(5,[.one (.own 368)]),(6,[.one (.int .i64 i_6)])],[(368,.sl 5 out_5)])
noncomputable def Rx (z0:Nk) (k:Qk→Option ByteArray) (key_0:ByteArray) (x_1:Int):Option ByteArray:=
 bif (decide ((key_0.size:Int) > 64)) then
 (z0 key_0).bind fun r0=>
 k (.c0 r0 x_1 0 (List.replicate (64:Int).toNat (0:Int)))
 else
 k (.c0 key_0 x_1 0 (List.replicate (64:Int).toNat (0:Int)))
noncomputable def Rq (z0:Nk) (k:Qk→Option ByteArray):Qk→Option ByteArray
 | .c0 key_0 x_1 i_6 out_5=>
 bif (decide (i_6<64)) then
  bif (decide (i_6<(key_0.size:Int))) then
  bif ((decide (0≤i_6)) && (decide (i_6<(key_0.size:Int)))) then
  bif ((decide (0≤i_6)) && (decide (i_6<(out_5.length:Int)))) then
  bif ((decide (0≤i_6)) && (decide (i_6<((out_5.set i_6.toNat (bt key_0 i_6)).length:Int)))) then
  bif ((decide (0≤i_6)) && (decide (i_6<((out_5.set i_6.toNat (bt key_0 i_6)).length:Int)))) then
  k (.c0 key_0 x_1 (w64 (i_6+1)) ((out_5.set i_6.toNat (bt key_0 i_6)).set i_6.toNat (w8 (((BitVec.toNat ((BitVec.ofInt (IntKind.bits IntKind.u8) ((out_5.set i_6.toNat (bt key_0 i_6)).getD i_6.toNat 0)) ^^^ (BitVec.ofInt (IntKind.bits IntKind.u8) x_1))):Nat):Int))))
  else none
  else none
  else none
  else none
  else
  bif ((decide (0≤i_6)) && (decide (i_6<(out_5.length:Int)))) then
  bif ((decide (0≤i_6)) && (decide (i_6<(out_5.length:Int)))) then
  k (.c0 key_0 x_1 (w64 (i_6+1)) (out_5.set i_6.toNat (w8 (((BitVec.toNat ((BitVec.ofInt (IntKind.bits IntKind.u8) (out_5.getD i_6.toNat 0)) ^^^ (BitVec.ofInt (IntKind.bits IntKind.u8) x_1))):Nat):Int))))
  else none
  else none
 else
  some (ofBytes out_5)
noncomputable def Xh:Nat→Qk→Option ByteArray
 | 0,_=>none
 | m+1,s=>Rq Yc (Xh m) s
noncomputable def Rk:Qx:=Rx Yc (Xh gas)
theorem DAF:Tells ctx PP 141 cv18 cv3 (fun a=>Rk a.1 a.2):=
 have b:∀ z0,CutIs ctx PP 141 Tryd.f141 [] [(95,Px z0)] cv3 DAA (Rq z0):=fun z0 _ s=>by cases s <;> kernel_rfl
 have e:∀ z0,EntryIs ctx PP 141 [] [(95,Px z0)] cv18 cv3 DAA (fun k a=>Rx z0 k a.1 a.2):=fun z0 _ a=>by kernel_rfl
 fn_ok (hc CAA hl_nil) Tryd.func141 (fun s s' h=>by cases s;cases s';cases h;rfl) (fun _=>rfl) (fun _ _=>rfl) (b Yc) (e Yc) gas
noncomputable def EAF {γ:Type} (F:Qx):Hd ctx γ:=hdl cv18.dec (fun a=>F a.1 a.2) cv3.enc
abbrev Uk:=ByteArray→ByteArray→Option ByteArray
noncomputable def Ux (z0:Qx) (z1:Nk) (key_0:ByteArray) (s_1:ByteArray):Option ByteArray:=
 (z0 key_0 92).bind fun r0=>
 (z0 key_0 54).bind fun r1=>
 bif (decide ((r1.size+s_1.size)≤9223372036854775807)) then
 (z1 (r1++s_1)).bind fun r2=>
 bif (decide ((r0.size+r2.size)≤9223372036854775807)) then
 (z1 (r0++r2)).bind fun r3=>
 some r3
 else none
 else none
noncomputable def Ad:Uk:=Ux Rk Yc
theorem EAA:Tells ctx PP 116 cv19 cv3 (fun a=>Ad a.1 a.2):=fn_ok0 (hc DAF (hc CAA hl_nil)) Tryd.func116 ((fun z0 z1 a=>by kernel_rfl:∀ z0 z1,EntryIs0 ctx PP 116 [] [(141,EAF z0),(95,Px z1)] cv19 cv3 fun a=>Ux z0 z1 a.1 a.2) Rk Yc)
noncomputable def Vx {γ:Type} (F:Uk):Hd ctx γ:=hdl cv19.dec (fun a=>F a.1 a.2) cv3.enc
abbrev Wx:=ByteArray→Int→Int→Option (ByteArray×Bool)
inductive Vk where
 | c0 (key_0:ByteArray) (num_1:Int) (n_2:Int) (i_9:Int) (out_8:(List Int))
noncomputable def FAA:Vk→LI
 | .c0 key_0 num_1 n_2 i_9 out_8=>(tdo Tryd.f70 976,[(0,[.one (.str key_0)]),(1,[.one (.int .i64 num_1)]),(2,[.one (.int .i64 n_2)]),(8,[.one (.own 560)]),(9,[.one (.int .i64 i_9)])],[(560,.sl 5 out_8)])
noncomputable def Xx (z0:Xb) (z1:Na) (z2:Qj) (z3:Uk) (k:Vk→Option (ByteArray×Bool)) (key_0:ByteArray) (num_1:Int) (n_2:Int):Option (ByteArray×Bool):=
 (z0 num_1 0 1000000000).bind fun r0=>
 bif (!r0) then
 some (⟨#[]⟩,false)
 else
 (z0 n_2 0 8000).bind fun r1=>
 bif (!r1) then
  some (⟨#[]⟩,false)
 else
  k (.c0 key_0 num_1 n_2 0 [])
noncomputable def Tq (z0:Xb) (z1:Na) (z2:Qj) (z3:Uk) (k:Vk→Option (ByteArray×Bool)):Vk→Option (ByteArray×Bool)
 | .c0 key_0 num_1 n_2 i_9 out_8=>
 bif (decide ((out_8.length:Int)<n_2)) then
  (z1 num_1).bind fun r0=>
  bif (decide (((⟨#[109]⟩:ByteArray).size+r0.size)≤9223372036854775807)) then
  (z2 i_9).bind fun r1=>
  bif (decide ((((⟨#[109]⟩:ByteArray)++r0).size+r1.size)≤9223372036854775807)) then
  (z3 key_0 (((⟨#[109]⟩:ByteArray)++r0)++r1)).bind fun r2=>
  bif (decide (r2.size≤9223372036854775807)) then
  bif (decide (((out_8.length+(bytesOf r2).length)*1)≤140737488355328)) then
  k (.c0 key_0 num_1 n_2 (w64 (i_9+1)) (out_8++(bytesOf r2)))
  else none
  else none
  else none
  else none
 else
  bif ((decide (0≤n_2)) && (decide (n_2≤(out_8.length:Int)))) then
  some ((ofBytes ((out_8.drop 0).take (n_2.toNat - 0))),true)
  else none
noncomputable def Xk:Nat→Vk→Option (ByteArray×Bool)
 | 0,_=>none
 | m+1,s=>Tq LY GY Xc Ad (Xk m) s
noncomputable def Yk:Wx:=Xx LY GY Xc Ad (Xk gas)
theorem FAF:Tells ctx PP 70 cv20 cv8 (fun a=>Yk a.1 a.2.1 a.2.2):=
 have b:∀ z0 z1 z2 z3,CutIs ctx PP 70 Tryd.f70 [] [(79,Ae z0),(80,Tc z1),(117,Gw z2),(116,Vx z3)] cv8 FAA (Tq z0 z1 z2 z3):=fun z0 z1 z2 z3 _ s=>by cases s <;> kernel_rfl
 have e:∀ z0 z1 z2 z3,EntryIs ctx PP 70 [] [(79,Ae z0),(80,Tc z1),(117,Gw z2),(116,Vx z3)] cv20 cv8 FAA (fun k a=>Xx z0 z1 z2 z3 k a.1 a.2.1 a.2.2):=fun z0 z1 z2 z3 _ a=>by kernel_rfl
 fn_ok (hc Nh (hc Xe (hc J9 (hc EAA hl_nil)))) Tryd.func70 (fun s s' h=>by cases s;cases s';cases h;rfl) (fun _=>rfl) (fun _ _=>rfl) (b LY GY Xc Ad) (e LY GY Xc Ad) gas
noncomputable def GAF {γ:Type} (F:Wx):Hd ctx γ:=hdl cv20.dec (fun a=>F a.1 a.2.1 a.2.2) cv8.enc
abbrev Yx:=ByteArray→Int→ByteArray→Option ByteArray
noncomputable def Zx (z0:Na) (z1:Uk) (key_0:ByteArray) (num_1:Int) (s_2:ByteArray):Option ByteArray:=
 (z0 num_1).bind fun r0=>
 bif (decide (((⟨#[116]⟩:ByteArray).size+r0.size)≤9223372036854775807)) then
 bif (decide ((((⟨#[116]⟩:ByteArray)++r0).size+s_2.size)≤9223372036854775807)) then
 (z1 key_0 (((⟨#[116]⟩:ByteArray)++r0)++s_2)).bind fun r1=>
 bif ((decide ((0:Int)≤(16:Int))) && (decide (16≤(r1.size:Int)))) then
 some (r1.extract 0 (16:Int).toNat)
 else none
 else none
 else none
noncomputable def Zk:Yx:=Zx GY Ad
theorem HAF:Tells ctx PP 72 cv21 cv3 (fun a=>Zk a.1 a.2.1 a.2.2):=fn_ok0 (hc Xe (hc EAA hl_nil)) Tryd.func72 ((fun z0 z1 a=>by kernel_rfl:∀ z0 z1,EntryIs0 ctx PP 72 [] [(80,Tc z0),(116,Vx z1)] cv21 cv3 fun a=>Zx z0 z1 a.1 a.2.1 a.2.2) GY Ad)
noncomputable def IAF {γ:Type} (F:Yx):Hd ctx γ:=hdl cv21.dec (fun a=>F a.1 a.2.1 a.2.2) cv3.enc
abbrev Dy:=ByteArray→ByteArray→Option Bool
noncomputable def Ey (a_0:ByteArray) (b_1:ByteArray):Option Bool:=
 some ((ByteArray.toList a_0) == (ByteArray.toList b_1))
noncomputable def Vq:Dy:=Ey
theorem JAF:Tells ctx PP 71 cv19 cv1 (fun a=>Vq a.1 a.2):=fn_ok0 hl_nil Tryd.func71 (fun a=>by kernel_rfl:EntryIs0 ctx PP 71 [] [] cv19 cv1 fun a=>Ey a.1 a.2)
noncomputable def KAF {γ:Type} (F:Dy):Hd ctx γ:=hdl cv19.dec (fun a=>F a.1 a.2) cv1.enc
abbrev Gy:=ByteArray→ByteArray→Option ByteArray
inductive Bl where
 | c0 (b_1:ByteArray) (i_6:Int) (out_5:(List Int))
noncomputable def GAA:Bl→LI
 | .c0 b_1 i_6 out_5=>(tdo Tryd.f73 464,[(1,[.one (.str b_1)]),(5,[.one (.own 368)]),(6,[.one (.int .i64 i_6)])],[(368,.sl 5 out_5)])
noncomputable def Hy (k:Bl→Option ByteArray) (a_0:ByteArray) (b_1:ByteArray):Option ByteArray:=
 bif (decide (a_0.size≤9223372036854775807)) then
 k (.c0 b_1 0 (bytesOf a_0))
 else none
noncomputable def Wq (k:Bl→Option ByteArray):Bl→Option ByteArray
 | .c0 b_1 i_6 out_5=>
 bif (decide (i_6<(out_5.length:Int))) then
  bif ((decide (0≤i_6)) && (decide (i_6<(out_5.length:Int)))) then
  bif ((decide (0≤i_6)) && (decide (i_6<(b_1.size:Int)))) then
  bif ((decide (0≤i_6)) && (decide (i_6<(out_5.length:Int)))) then
  k (.c0 b_1 (w64 (i_6+1)) (out_5.set i_6.toNat (w8 (((BitVec.toNat ((BitVec.ofInt (IntKind.bits IntKind.u8) (out_5.getD i_6.toNat 0)) ^^^ (BitVec.ofInt (IntKind.bits IntKind.u8) (bt b_1 i_6)))):Nat):Int))))
  else none
  else none
  else none
 else
  some (ofBytes out_5)
noncomputable def Dl:Nat→Bl→Option ByteArray
 | 0,_=>none
 | m+1,s=>Wq (Dl m) s
noncomputable def Gl:Gy:=Hy (Dl gas)
theorem LAF:Tells ctx PP 73 cv19 cv3 (fun a=>Gl a.1 a.2):=
 have b:CutIs ctx PP 73 Tryd.f73 [] [] cv3 GAA (Wq):=fun _ s=>by cases s <;> kernel_rfl
 have e:EntryIs ctx PP 73 [] [] cv19 cv3 GAA (fun k a=>Hy k a.1 a.2):=fun _ a=>by kernel_rfl
 fn_ok hl_nil Tryd.func73 (fun s s' h=>by cases s;cases s';cases h;rfl) (fun _=>rfl) (fun _ _=>rfl) b e gas
noncomputable def MAF {γ:Type} (F:Gy):Hd ctx γ:=hdl cv19.dec (fun a=>F a.1 a.2) cv3.enc
abbrev Xq:=ByteArray→Int→ByteArray→Option (ByteArray×Bool)
noncomputable def Iy (z0:Wx) (z1:Yx) (z2:Dy) (z3:Gy) (key_0:ByteArray) (num_1:Int) (text_2:ByteArray):Option (ByteArray×Bool):=
 bif (decide ((text_2.size:Int)<16)) then
 some (⟨#[]⟩,false)
 else
 bif ((decide (0≤(w64 ((text_2.size:Int) - 16)))) && (decide ((w64 ((text_2.size:Int) - 16))≤(text_2.size:Int)))) then
 (z0 key_0 num_1 ((text_2.extract 0 (w64 ((text_2.size:Int) - 16)).toNat).size:Int)).bind fun r0=>
 bif (!r0.2) then
  some (⟨#[]⟩,false)
 else
  (z1 key_0 num_1 (text_2.extract 0 (w64 ((text_2.size:Int) - 16)).toNat)).bind fun r1=>
  bif ((decide (0≤((text_2.extract 0 (w64 ((text_2.size:Int) - 16)).toNat).size:Int))) && (decide (((text_2.extract 0 (w64 ((text_2.size:Int) - 16)).toNat).size:Int)≤(text_2.size:Int)))) then
  (z2 r1 (text_2.extract ((text_2.extract 0 (w64 ((text_2.size:Int) - 16)).toNat).size:Int).toNat text_2.size)).bind fun r2=>
  bif (!r2) then
  some (⟨#[]⟩,false)
  else
  (z3 (text_2.extract 0 (w64 ((text_2.size:Int) - 16)).toNat) r0.1).bind fun r3=>
  some (r3,true)
  else none
 else none
noncomputable def Bf:Xq:=Iy Yk Zk Vq Gl
theorem NAF:Tells ctx PP 31 cv21 cv8 (fun a=>Bf a.1 a.2.1 a.2.2):=fn_ok0 (hc FAF (hc HAF (hc JAF (hc LAF hl_nil)))) Tryd.func31 ((fun z0 z1 z2 z3 a=>by kernel_rfl:∀ z0 z1 z2 z3,EntryIs0 ctx PP 31 [] [(70,GAF z0),(72,IAF z1),(71,KAF z2),(73,MAF z3)] cv21 cv8 fun a=>Iy z0 z1 z2 z3 a.1 a.2.1 a.2.2) Yk Zk Vq Gl)
noncomputable def HAA {γ:Type} (F:Xq):Hd ctx γ:=hdl cv21.dec (fun a=>F a.1 a.2.1 a.2.2) cv8.enc
abbrev Hl:=SL19Cur→Int→Option (ByteArray×SL19Cur)
noncomputable def Yq (c_0:SL19Cur) (n_1:Int):Option (ByteArray×SL19Cur):=
 bif c_0.fBad then
 some (⟨#[]⟩,⟨c_0.fText,c_0.fAt,true⟩)
 else
 bif (decide (n_1 > (w64 ((c_0.fText.size:Int) - c_0.fAt)))) then
  some (⟨#[]⟩,⟨c_0.fText,c_0.fAt,true⟩)
 else
  bif (((decide (0≤(w64 ((w64 (c_0.fAt+n_1)) - n_1)))) && (decide ((w64 ((w64 (c_0.fAt+n_1)) - n_1))≤(w64 (c_0.fAt+n_1))))) && (decide ((w64 (c_0.fAt+n_1))≤(c_0.fText.size:Int)))) then
  some ((c_0.fText.extract (w64 ((w64 (c_0.fAt+n_1)) - n_1)).toNat (w64 (c_0.fAt+n_1)).toNat),⟨c_0.fText,(w64 (c_0.fAt+n_1)),c_0.fBad⟩)
  else none
noncomputable def QZ:Hl:=Yq
theorem Jy:Tells ctx PP 75 cv22 cv23 (fun a=>QZ a.1 a.2):=fn_ok0 hl_nil Tryd.func75 (fun a=>by kernel_rfl:EntryIs0 ctx PP 75 [0] [] cv22 cv23 fun a=>Yq a.1 a.2)
noncomputable def Ky {γ:Type} (F:Hl):Hd ctx γ:=hdl cv22.dec (fun a=>F a.1 a.2) cv23.enc
abbrev Zq:=SL19Cur→Option (Int×SL19Cur)
noncomputable def Ar (z0:Hl) (c_0:SL19Cur):Option (Int×SL19Cur):=
 (z0 c_0 1).bind fun r0=>
 bif r0.2.fBad then
 some (0,r0.2)
 else
 bif ((decide ((0:Int)≤(0:Int))) && (decide (0<(r0.1.size:Int)))) then
 some ((w64 (bt r0.1 0)),r0.2)
 else none
noncomputable def RZ:Zq:=Ar QZ
theorem IAA:Tells ctx PP 74 cv24 cv25 (fun a=>RZ a):=fn_ok0 (hc Jy hl_nil) Tryd.func74 ((fun z0 a=>by kernel_rfl:∀ z0,EntryIs0 ctx PP 74 [0] [(75,Ky z0)] cv24 cv25 fun a=>Ar z0 a) QZ)
noncomputable def JAA {γ:Type} (F:Zq):Hd ctx γ:=hdl cv24.dec (fun a=>F a) cv25.enc
abbrev Il:=SL19Cur→Option (Int×SL19Cur)
noncomputable def Hr (z0:Fj) (c_0:SL19Cur):Option (Int×SL19Cur):=
 (z0 c_0.fText c_0.fAt).bind fun r0=>
 bif c_0.fBad then
 some (0,⟨c_0.fText,c_0.fAt,true⟩)
 else
 bif (!r0.2.2) then
  some (0,⟨c_0.fText,c_0.fAt,true⟩)
 else
  some (r0.1,⟨c_0.fText,r0.2.1,c_0.fBad⟩)
noncomputable def Ua:Il:=Hr ZY
theorem Ny:Tells ctx PP 76 cv24 cv25 (fun a=>Ua a):=fn_ok0 (hc D9 hl_nil) Tryd.func76 ((fun z0 a=>by kernel_rfl:∀ z0,EntryIs0 ctx PP 76 [0] [(69,Pv z0)] cv24 cv25 fun a=>Hr z0 a) ZY)
noncomputable def Oy {γ:Type} (F:Il):Hd ctx γ:=hdl cv24.dec (fun a=>F a) cv25.enc
abbrev Py:=SL19Cur→Option (ByteArray×SL19Cur)
noncomputable def Ir (z0:Il) (z1:Hl) (c_0:SL19Cur):Option (ByteArray×SL19Cur):=
 (z0 c_0).bind fun r0=>
 (z1 r0.2 r0.1).bind fun r1=>
 some (r1.1,r1.2)
noncomputable def Df:Py:=Ir Ua QZ
theorem OAF:Tells ctx PP 118 cv24 cv23 (fun a=>Df a):=fn_ok0 (hc Ny (hc Jy hl_nil)) Tryd.func118 ((fun z0 z1 a=>by kernel_rfl:∀ z0 z1,EntryIs0 ctx PP 118 [0] [(76,Oy z0),(75,Ky z1)] cv24 cv23 fun a=>Ir z0 z1 a) Ua QZ)
noncomputable def PAF {γ:Type} (F:Py):Hd ctx γ:=hdl cv24.dec (fun a=>F a) cv23.enc
abbrev Qy:=SThing→Option Bool
noncomputable def Ry (z0:Xb) (x_0:SThing):Option Bool:=
 (z0 x_0.fId 1 1000).bind fun r0=>
 bif (!r0) then
 some false
 else
 (z0 x_0.fKind 1 3).bind fun r1=>
 bif (!r1) then
  some false
 else
  (z0 x_0.fNext 0 16).bind fun r2=>
  bif (!r2) then
  some false
  else
  bif (x_0.fKind != 2) then
   bif (x_0.fNext != 0) then
   some false
   else
   bif x_0.fSigns then
    some false
   else
    bif (x_0.fKind != 1) then
    bif x_0.fWraps then
     some false
    else
     bif (x_0.fKind == 3) then
     some (decide ((x_0.fValue.size:Int)≤100))
     else
     some ((x_0.fValue.size:Int) == 32)
    else
    bif (x_0.fKind == 3) then
     some (decide ((x_0.fValue.size:Int)≤100))
    else
     some ((x_0.fValue.size:Int) == 32)
  else
   bif (x_0.fKind != 1) then
   bif x_0.fWraps then
    some false
   else
    bif (x_0.fKind == 3) then
    some (decide ((x_0.fValue.size:Int)≤100))
    else
    some ((x_0.fValue.size:Int) == 32)
   else
   bif (x_0.fKind == 3) then
    some (decide ((x_0.fValue.size:Int)≤100))
   else
    some ((x_0.fValue.size:Int) == 32)
noncomputable def Jl:Qy:=Ry LY
theorem QAF:Tells ctx PP 138 cv26 cv1 (fun a=>Jl a):=fn_ok0 (hc Nh hl_nil) Tryd.func138 ((fun z0 a=>by kernel_rfl:∀ z0,EntryIs0 ctx PP 138 [] [(79,Ae z0)] cv26 cv1 fun a=>Ry z0 a) LY)
noncomputable def RAF {γ:Type} (F:Qy):Hd ctx γ:=hdl cv26.dec (fun a=>F a) cv1.enc
abbrev Uy:=Bool→Int→Option Int
noncomputable def KAA (x_0:Bool) (n_1:Int):Option Int:=
 bif x_0 then
 some n_1
 else
 some 0
noncomputable def Jr:Uy:=KAA
theorem SAF:Tells ctx PP 142 cv27 cv2 (fun a=>Jr a.1 a.2):=fn_ok0 hl_nil Tryd.func142 (fun a=>by kernel_rfl:EntryIs0 ctx PP 142 [] [] cv27 cv2 fun a=>KAA a.1 a.2)
noncomputable def TAF {γ:Type} (F:Uy):Hd ctx γ:=hdl cv27.dec (fun a=>F a.1 a.2) cv2.enc
abbrev Vy:=ByteArray→Option ByteArray
noncomputable def Wy (z0:Na) (s_0:ByteArray):Option ByteArray:=
 (z0 (s_0.size:Int)).bind fun r0=>
 bif (decide ((r0.size+s_0.size)≤9223372036854775807)) then
 some (r0++s_0)
 else none
noncomputable def Ll:Vy:=Wy GY
theorem UAF:Tells ctx PP 143 cv3 cv3 (fun a=>Ll a):=fn_ok0 (hc Xe hl_nil) Tryd.func143 ((fun z0 a=>by kernel_rfl:∀ z0,EntryIs0 ctx PP 143 [] [(80,Tc z0)] cv3 cv3 fun a=>Wy z0 a) GY)
noncomputable def VAF {γ:Type} (F:Vy):Hd ctx γ:=hdl cv3.dec (fun a=>F a) cv3.enc
abbrev Kr:=SThing→Option (ByteArray×Bool)
noncomputable def Xy (z0:Qy) (z1:Uy) (z2:Na) (z3:Qj) (z4:Vy) (x_0:SThing):Option (ByteArray×Bool):=
 (z0 x_0).bind fun r0=>
 bif (!r0) then
 some (⟨#[]⟩,false)
 else
 (z1 x_0.fHidden 1).bind fun r1=>
 (z1 x_0.fFixed 2).bind fun r2=>
 (z1 x_0.fSigns 4).bind fun r3=>
 (z1 x_0.fWraps 8).bind fun r4=>
 (z2 x_0.fId).bind fun r5=>
 (z3 x_0.fKind).bind fun r6=>
 bif (decide ((r5.size+r6.size)≤9223372036854775807)) then
 (z3 (w64 ((w64 ((w64 (r1+r2))+r3))+r4))).bind fun r7=>
 bif (decide (((r5++r6).size+r7.size)≤9223372036854775807)) then
 (z4 x_0.fValue).bind fun r8=>
 bif (decide ((((r5++r6)++r7).size+r8.size)≤9223372036854775807)) then
 (z2 x_0.fNext).bind fun r9=>
 bif (decide (((((r5++r6)++r7)++r8).size+r9.size)≤9223372036854775807)) then
 some (((((r5++r6)++r7)++r8)++r9),true)
 else none
 else none
 else none
 else none
noncomputable def Ef:Kr:=Xy Jl Jr GY Xc Ll
theorem LAA:Tells ctx PP 119 cv26 cv8 (fun a=>Ef a):=fn_ok0 (hc QAF (hc SAF (hc Xe (hc J9 (hc UAF hl_nil))))) Tryd.func119 ((fun z0 z1 z2 z3 z4 a=>by kernel_rfl:∀ z0 z1 z2 z3 z4,EntryIs0 ctx PP 119 [] [(138,RAF z0),(142,TAF z1),(80,Tc z2),(117,Gw z3),(143,VAF z4)] cv26 cv8 fun a=>Xy z0 z1 z2 z3 z4 a) Jl Jr GY Xc Ll)
noncomputable def MAA {γ:Type} (F:Kr):Hd ctx γ:=hdl cv26.dec (fun a=>F a) cv8.enc
abbrev Yy:=ByteArray→Option (SThing×Bool)
noncomputable def Lr (z0:Il) (z1:Zq) (z2:Py) (z3:Kr) (text_0:ByteArray):Option (SThing×Bool):=
 (z0 ⟨text_0,0,false⟩).bind fun r0=>
 (z1 r0.2).bind fun r1=>
 (z1 r1.2).bind fun r2=>
 (z2 r2.2).bind fun r3=>
 (z0 r3.2).bind fun r4=>
 (z3 ⟨r0.1,r1.1,((r2.1.tmod 2) == 1),(((w64 (r2.1.tdiv 2)).tmod 2) == 1),(((w64 (r2.1.tdiv 4)).tmod 2) == 1),(((w64 (r2.1.tdiv 8)).tmod 2) == 1),r3.1,r4.1⟩).bind fun r5=>
 bif r4.2.fBad then
 some (⟨0,0,false,false,false,false,⟨#[]⟩,0⟩,false)
 else
 bif (!r5.2) then
  some (⟨0,0,false,false,false,false,⟨#[]⟩,0⟩,false)
 else
  bif (!((ByteArray.toList r5.1) == (ByteArray.toList text_0))) then
  some (⟨0,0,false,false,false,false,⟨#[]⟩,0⟩,false)
  else
  some (⟨r0.1,r1.1,((r2.1.tmod 2) == 1),(((w64 (r2.1.tdiv 2)).tmod 2) == 1),(((w64 (r2.1.tdiv 4)).tmod 2) == 1),(((w64 (r2.1.tdiv 8)).tmod 2) == 1),r3.1,r4.1⟩,true)
noncomputable def Ee:Yy:=Lr Ua RZ Df Ef
theorem WAF:Tells ctx PP 77 cv3 cv28 (fun a=>Ee a):=fn_ok0 (hc Ny (hc IAA (hc OAF (hc LAA hl_nil)))) Tryd.func77 ((fun z0 z1 z2 z3 a=>by kernel_rfl:∀ z0 z1 z2 z3,EntryIs0 ctx PP 77 [] [(76,Oy z0),(74,JAA z1),(118,PAF z2),(119,MAA z3)] cv3 cv28 fun a=>Lr z0 z1 z2 z3 a) Ua RZ Df Ef)
noncomputable def XAF {γ:Type} (F:Yy):Hd ctx γ:=hdl cv3.dec (fun a=>F a) cv28.enc
abbrev Zy:=SRec→Option (ByteArray×Bool)
noncomputable def Az (z0:Xb) (z1:Na) (z2:Kr) (r_0:SRec):Option (ByteArray×Bool):=
 bif (r_0.fKind == 1) then
 bif ((r_0.fText.size:Int) == 32) then
  bif (r_0.fNum == 0) then
  bif ((r_0.fThing.fId == 0) && ((r_0.fThing.fKind == 0) && ((r_0.fThing.fHidden == false) && ((r_0.fThing.fFixed == false) && ((r_0.fThing.fSigns == false) && ((r_0.fThing.fWraps == false) && (((ByteArray.toList r_0.fThing.fValue) == (ByteArray.toList ⟨#[]⟩)) && ((r_0.fThing.fNext == 0) && true)))))))) then
   bif (decide (((⟨#[1]⟩:ByteArray).size+r_0.fText.size)≤9223372036854775807)) then
   some (((⟨#[1]⟩:ByteArray)++r_0.fText),true)
   else none
  else
   some (⟨#[]⟩,false)
  else
  some (⟨#[]⟩,false)
 else
  some (⟨#[]⟩,false)
 else
 bif (r_0.fKind == 2) then
  bif ((ByteArray.toList r_0.fText) == (ByteArray.toList ⟨#[]⟩)) then
  bif ((r_0.fThing.fId == 0) && ((r_0.fThing.fKind == 0) && ((r_0.fThing.fHidden == false) && ((r_0.fThing.fFixed == false) && ((r_0.fThing.fSigns == false) && ((r_0.fThing.fWraps == false) && (((ByteArray.toList r_0.fThing.fValue) == (ByteArray.toList ⟨#[]⟩)) && ((r_0.fThing.fNext == 0) && true)))))))) then
   (z0 r_0.fNum 0 3).bind fun r0=>
   bif r0 then
   (z1 r_0.fNum).bind fun r1=>
   bif (decide (((⟨#[2]⟩:ByteArray).size+r1.size)≤9223372036854775807)) then
   some (((⟨#[2]⟩:ByteArray)++r1),true)
   else none
   else
   some (⟨#[]⟩,false)
  else
   some (⟨#[]⟩,false)
  else
  some (⟨#[]⟩,false)
 else
  bif (r_0.fKind == 3) then
  (z2 r_0.fThing).bind fun r2=>
  bif r2.2 then
   bif ((ByteArray.toList r_0.fText) == (ByteArray.toList ⟨#[]⟩)) then
   bif (r_0.fNum == 0) then
    bif (decide (((⟨#[3]⟩:ByteArray).size+r2.1.size)≤9223372036854775807)) then
    some (((⟨#[3]⟩:ByteArray)++r2.1),true)
    else none
   else
    some (⟨#[]⟩,false)
   else
   some (⟨#[]⟩,false)
  else
   some (⟨#[]⟩,false)
  else
  bif (r_0.fKind == 4) then
   bif ((ByteArray.toList r_0.fText) == (ByteArray.toList ⟨#[]⟩)) then
   bif ((r_0.fThing.fId == 0) && ((r_0.fThing.fKind == 0) && ((r_0.fThing.fHidden == false) && ((r_0.fThing.fFixed == false) && ((r_0.fThing.fSigns == false) && ((r_0.fThing.fWraps == false) && (((ByteArray.toList r_0.fThing.fValue) == (ByteArray.toList ⟨#[]⟩)) && ((r_0.fThing.fNext == 0) && true)))))))) then
    (z0 r_0.fNum 1 1000).bind fun r3=>
    bif r3 then
    (z1 r_0.fNum).bind fun r4=>
    bif (decide (((⟨#[4]⟩:ByteArray).size+r4.size)≤9223372036854775807)) then
    some (((⟨#[4]⟩:ByteArray)++r4),true)
    else none
    else
    some (⟨#[]⟩,false)
   else
    some (⟨#[]⟩,false)
   else
   some (⟨#[]⟩,false)
  else
   some (⟨#[]⟩,false)
noncomputable def Nl:Zy:=Az LY GY Ef
theorem YAF:Tells ctx PP 78 cv29 cv8 (fun a=>Nl a):=fn_ok0 (hc Nh (hc Xe (hc LAA hl_nil))) Tryd.func78 ((fun z0 z1 z2 a=>by kernel_rfl:∀ z0 z1 z2,EntryIs0 ctx PP 78 [] [(79,Ae z0),(80,Tc z1),(119,MAA z2)] cv29 cv8 fun a=>Az z0 z1 z2 a) LY GY Ef)
noncomputable def ZAF {γ:Type} (F:Zy):Hd ctx γ:=hdl cv29.dec (fun a=>F a) cv8.enc
abbrev Nr:=ByteArray→Option (SRec×Bool)
noncomputable def Gf (z0:Zq) (z1:Hl) (z2:Il) (z3:Yy) (z4:Zy) (text_0:ByteArray):Option (SRec×Bool):=
 (z0 ⟨text_0,0,false⟩).bind fun r0=>
 bif (r0.1 == 1) then
 (z1 r0.2 32).bind fun r1=>
 (z4 ⟨r0.1,r1.1,0,⟨0,0,false,false,false,false,⟨#[]⟩,0⟩⟩).bind fun r2=>
 bif r1.2.fBad then
  some (⟨0,⟨#[]⟩,0,⟨0,0,false,false,false,false,⟨#[]⟩,0⟩⟩,false)
 else
  bif (!r2.2) then
  some (⟨0,⟨#[]⟩,0,⟨0,0,false,false,false,false,⟨#[]⟩,0⟩⟩,false)
  else
  bif (!((ByteArray.toList r2.1) == (ByteArray.toList text_0))) then
   some (⟨0,⟨#[]⟩,0,⟨0,0,false,false,false,false,⟨#[]⟩,0⟩⟩,false)
  else
   some (⟨r0.1,r1.1,0,⟨0,0,false,false,false,false,⟨#[]⟩,0⟩⟩,true)
 else
 bif (r0.1 == 2) then
  bif (r0.1 == 2) then
  (z2 r0.2).bind fun r3=>
  (z4 ⟨r0.1,⟨#[]⟩,r3.1,⟨0,0,false,false,false,false,⟨#[]⟩,0⟩⟩).bind fun r4=>
  bif r3.2.fBad then
   some (⟨0,⟨#[]⟩,0,⟨0,0,false,false,false,false,⟨#[]⟩,0⟩⟩,false)
  else
   bif (!r4.2) then
   some (⟨0,⟨#[]⟩,0,⟨0,0,false,false,false,false,⟨#[]⟩,0⟩⟩,false)
   else
   bif (!((ByteArray.toList r4.1) == (ByteArray.toList text_0))) then
    some (⟨0,⟨#[]⟩,0,⟨0,0,false,false,false,false,⟨#[]⟩,0⟩⟩,false)
   else
    some (⟨r0.1,⟨#[]⟩,r3.1,⟨0,0,false,false,false,false,⟨#[]⟩,0⟩⟩,true)
  else
  bif (r0.1 == 3) then
   bif ((decide ((0:Int)≤(1:Int))) && (decide (1≤(text_0.size:Int)))) then
   (z3 (text_0.extract (1:Int).toNat text_0.size)).bind fun r5=>
   (z4 ⟨r0.1,⟨#[]⟩,0,r5.1⟩).bind fun r6=>
   bif r0.2.fBad then
   some (⟨0,⟨#[]⟩,0,⟨0,0,false,false,false,false,⟨#[]⟩,0⟩⟩,false)
   else
   bif (!r6.2) then
    some (⟨0,⟨#[]⟩,0,⟨0,0,false,false,false,false,⟨#[]⟩,0⟩⟩,false)
   else
    bif (!((ByteArray.toList r6.1) == (ByteArray.toList text_0))) then
    some (⟨0,⟨#[]⟩,0,⟨0,0,false,false,false,false,⟨#[]⟩,0⟩⟩,false)
    else
    some (⟨r0.1,⟨#[]⟩,0,r5.1⟩,true)
   else none
  else
   (z4 ⟨r0.1,⟨#[]⟩,0,⟨0,0,false,false,false,false,⟨#[]⟩,0⟩⟩).bind fun r7=>
   bif r0.2.fBad then
   some (⟨0,⟨#[]⟩,0,⟨0,0,false,false,false,false,⟨#[]⟩,0⟩⟩,false)
   else
   bif (!r7.2) then
    some (⟨0,⟨#[]⟩,0,⟨0,0,false,false,false,false,⟨#[]⟩,0⟩⟩,false)
   else
    bif (!((ByteArray.toList r7.1) == (ByteArray.toList text_0))) then
    some (⟨0,⟨#[]⟩,0,⟨0,0,false,false,false,false,⟨#[]⟩,0⟩⟩,false)
    else
    some (⟨r0.1,⟨#[]⟩,0,⟨0,0,false,false,false,false,⟨#[]⟩,0⟩⟩,true)
 else
  bif (r0.1 == 4) then
  (z2 r0.2).bind fun r8=>
  (z4 ⟨r0.1,⟨#[]⟩,r8.1,⟨0,0,false,false,false,false,⟨#[]⟩,0⟩⟩).bind fun r9=>
  bif r8.2.fBad then
   some (⟨0,⟨#[]⟩,0,⟨0,0,false,false,false,false,⟨#[]⟩,0⟩⟩,false)
  else
   bif (!r9.2) then
   some (⟨0,⟨#[]⟩,0,⟨0,0,false,false,false,false,⟨#[]⟩,0⟩⟩,false)
   else
   bif (!((ByteArray.toList r9.1) == (ByteArray.toList text_0))) then
    some (⟨0,⟨#[]⟩,0,⟨0,0,false,false,false,false,⟨#[]⟩,0⟩⟩,false)
   else
    some (⟨r0.1,⟨#[]⟩,r8.1,⟨0,0,false,false,false,false,⟨#[]⟩,0⟩⟩,true)
  else
  bif (r0.1 == 3) then
   bif ((decide ((0:Int)≤(1:Int))) && (decide (1≤(text_0.size:Int)))) then
   (z3 (text_0.extract (1:Int).toNat text_0.size)).bind fun r10=>
   (z4 ⟨r0.1,⟨#[]⟩,0,r10.1⟩).bind fun r11=>
   bif r0.2.fBad then
   some (⟨0,⟨#[]⟩,0,⟨0,0,false,false,false,false,⟨#[]⟩,0⟩⟩,false)
   else
   bif (!r11.2) then
    some (⟨0,⟨#[]⟩,0,⟨0,0,false,false,false,false,⟨#[]⟩,0⟩⟩,false)
   else
    bif (!((ByteArray.toList r11.1) == (ByteArray.toList text_0))) then
    some (⟨0,⟨#[]⟩,0,⟨0,0,false,false,false,false,⟨#[]⟩,0⟩⟩,false)
    else
    some (⟨r0.1,⟨#[]⟩,0,r10.1⟩,true)
   else none
  else
   (z4 ⟨r0.1,⟨#[]⟩,0,⟨0,0,false,false,false,false,⟨#[]⟩,0⟩⟩).bind fun r12=>
   bif r0.2.fBad then
   some (⟨0,⟨#[]⟩,0,⟨0,0,false,false,false,false,⟨#[]⟩,0⟩⟩,false)
   else
   bif (!r12.2) then
    some (⟨0,⟨#[]⟩,0,⟨0,0,false,false,false,false,⟨#[]⟩,0⟩⟩,false)
   else
    bif (!((ByteArray.toList r12.1) == (ByteArray.toList text_0))) then
    some (⟨0,⟨#[]⟩,0,⟨0,0,false,false,false,false,⟨#[]⟩,0⟩⟩,false)
    else
    some (⟨r0.1,⟨#[]⟩,0,⟨0,0,false,false,false,false,⟨#[]⟩,0⟩⟩,true)
noncomputable def BZ:Nr:=Gf RZ QZ Ua Ee Nl
theorem AAG:Tells ctx PP 32 cv3 cv30 (fun a=>BZ a):=fn_ok0 (hc IAA (hc Jy (hc Ny (hc WAF (hc YAF hl_nil))))) Tryd.func32 ((fun z0 z1 z2 z3 z4 a=>by kernel_rfl:∀ z0 z1 z2 z3 z4,EntryIs0 ctx PP 32 [] [(74,JAA z0),(75,Ky z1),(76,Oy z2),(77,XAF z3),(78,ZAF z4)] cv3 cv30 fun a=>Gf z0 z1 z2 z3 z4 a) RZ QZ Ua Ee Nl)
noncomputable def NAA {γ:Type} (F:Nr):Hd ctx γ:=hdl cv3.dec (fun a=>F a) cv30.enc
abbrev Bz:=ByteArray→ByteArray→Option ((List SRec)×Int)
inductive Ol where
 | c0 (key_0:ByteArray) (end_9:Int) (i_10:Int) (out_6:(List SRec)) (list_7:(List ByteArray))
noncomputable def OAA:Ol→LI
 | .c0 key_0 end_9 i_10 out_6 list_7=>(tdo Tryd.f7 2000,[(0,[.one (.str key_0)]),(6,[.one (.own 432)]),(7,[.one (.own 496)]),(9,[.one (.int .i64 end_9)]),(10,[.one (.int .i64 i_10)])],[(432,.sl 73 out_6),(496,.sl 9 list_7)])
noncomputable def Dz (z0:Dq) (z1:Xq) (z2:Nr) (z3:Ph) (k:Ol→Option ((List SRec)×Int)) (key_0:ByteArray) (file_1:ByteArray):Option ((List SRec)×Int):=
 (z0 file_1).bind fun r0=>
 k (.c0 key_0 0 0 [] r0.1)
noncomputable def Qr (z0:Dq) (z1:Xq) (z2:Nr) (z3:Ph) (k:Ol→Option ((List SRec)×Int)):Ol→Option ((List SRec)×Int)
 | .c0 key_0 end_9 i_10 out_6 list_7=>
 bif (decide (i_10<(list_7.length:Int))) then
  bif ((decide (0≤i_10)) && (decide (i_10<(list_7.length:Int)))) then
  (z1 key_0 (w64 (i_10+1)) (list_7.getD i_10.toNat (⟨#[]⟩:ByteArray))).bind fun r0=>
  (z2 r0.1).bind fun r1=>
  bif (!r0.2) then
  some (out_6,end_9)
  else
  bif (!r1.2) then
   some (out_6,end_9)
  else
   bif (decide (((out_6.length+1)*80)≤140737488355328)) then
   bif ((decide (0≤i_10)) && (decide (i_10<(list_7.length:Int)))) then
   (z3 (list_7.getD i_10.toNat (⟨#[]⟩:ByteArray))).bind fun r2=>
   k (.c0 key_0 (w64 (end_9+(r2.1.size:Int))) (w64 (i_10+1)) (out_6++[r1.1]) list_7)
   else none
   else none
  else none
 else
  some (out_6,end_9)
noncomputable def Ql:Nat→Ol→Option ((List SRec)×Int)
 | 0,_=>none
 | m+1,s=>Qr Ye Bf BZ Oa (Ql m) s
noncomputable def Rl:Bz:=Dz Ye Bf BZ Oa (Ql gas)
theorem BAG:Tells ctx PP 7 cv19 cv31 (fun a=>Rl a.1 a.2):=
 have b:∀ z0 z1 z2 z3,CutIs ctx PP 7 Tryd.f7 [] [(30,I9 z0),(31,HAA z1),(32,NAA z2),(33,Bq z3)] cv31 OAA (Qr z0 z1 z2 z3):=fun z0 z1 z2 z3 _ s=>by cases s <;> kernel_rfl
 have e:∀ z0 z1 z2 z3,EntryIs ctx PP 7 [] [(30,I9 z0),(31,HAA z1),(32,NAA z2),(33,Bq z3)] cv19 cv31 OAA (fun k a=>Dz z0 z1 z2 z3 k a.1 a.2):=fun z0 z1 z2 z3 _ a=>by kernel_rfl
 fn_ok (hc QAE (hc NAF (hc AAG (hc G9 hl_nil)))) Tryd.func7 (fun s s' h=>by cases s;cases s';cases h;rfl) (fun _=>rfl) (fun _ _=>rfl) (b Ye Bf BZ Oa) (e Ye Bf BZ Oa) gas
noncomputable def CAG {γ:Type} (F:Bz):Hd ctx γ:=hdl cv19.dec (fun a=>F a.1 a.2) cv31.enc
abbrev Fa:=Int→Int→Int→Option Bool
noncomputable def PAA (n_0:Int) (low_1:Int) (high_2:Int):Option Bool:=
 bif (decide (n_0≥low_1)) then
 some (decide (n_0≤high_2))
 else
 some false
noncomputable def DY:Fa:=PAA
theorem Hf:Tells ctx PP 84 cv0 cv1 (fun a=>DY a.1 a.2.1 a.2.2):=fn_ok0 hl_nil Tryd.func84 (fun a=>by kernel_rfl:EntryIs0 ctx PP 84 [] [] cv0 cv1 fun a=>PAA a.1 a.2.1 a.2.2)
noncomputable def Cc {γ:Type} (F:Fa):Hd ctx γ:=hdl cv0.dec (fun a=>F a.1 a.2.1 a.2.2) cv1.enc
abbrev Jf:=ByteArray→Int→Option (Int×Int×Bool)
inductive Sl where
 | c0 (text_0:ByteArray) (at_1:Int) (n_7:Int) (k_8:Int)
noncomputable def QAA:Sl→LI
 | .c0 text_0 at_1 n_7 k_8=>(tdo Tryd.f83 976,[(0,[.one (.str text_0)]),(1,[.one (.int .i64 at_1)]),(7,[.one (.int .i64 n_7)]),(8,[.one (.int .i64 k_8)])],[])
noncomputable def Ul (z0:Fa) (k:Sl→Option (Int×Int×Bool)) (text_0:ByteArray) (at_1:Int):Option (Int×Int×Bool):=
 (z0 at_1 0 (text_0.size:Int)).bind fun r0=>
 bif (!r0) then
 some (0,(0,false))
 else
 k (.c0 text_0 at_1 0 0)
noncomputable def Sr (z0:Fa) (k:Sl→Option (Int×Int×Bool)):Sl→Option (Int×Int×Bool)
 | .c0 text_0 at_1 n_7 k_8=>
 bif (decide (k_8<5)) then
  bif (decide ((w64 (at_1+k_8))<(text_0.size:Int))) then
  bif ((decide (0≤(w64 (at_1+k_8)))) && (decide ((w64 (at_1+k_8))<(text_0.size:Int)))) then
  bif (decide (0≤(w64 (7*k_8)))) then
  bif (decide ((w64 (bt text_0 (w64 (at_1+k_8))))<128)) then
   bif ((w64 (bt text_0 (w64 (at_1+k_8)))) == 0) then
   bif (decide (k_8 > 0)) then
    some (0,(0,false))
   else
    bif (decide ((w64 (n_7+(w64 (((w64 (bt text_0 (w64 (at_1+k_8)))).tmod 128)*(2 ^ (Min.min (w64 (7*k_8)).toNat (IntKind.bits IntKind.i64))))))) > 1000000000)) then
    some (0,(0,false))
    else
    some ((w64 (n_7+(w64 (((w64 (bt text_0 (w64 (at_1+k_8)))).tmod 128)*(2 ^ (Min.min (w64 (7*k_8)).toNat (IntKind.bits IntKind.i64))))))),((w64 ((w64 (at_1+k_8))+1)),true))
   else
   bif (decide ((w64 (n_7+(w64 (((w64 (bt text_0 (w64 (at_1+k_8)))).tmod 128)*(2 ^ (Min.min (w64 (7*k_8)).toNat (IntKind.bits IntKind.i64))))))) > 1000000000)) then
    some (0,(0,false))
   else
    some ((w64 (n_7+(w64 (((w64 (bt text_0 (w64 (at_1+k_8)))).tmod 128)*(2 ^ (Min.min (w64 (7*k_8)).toNat (IntKind.bits IntKind.i64))))))),((w64 ((w64 (at_1+k_8))+1)),true))
  else
   k (.c0 text_0 at_1 (w64 (n_7+(w64 (((w64 (bt text_0 (w64 (at_1+k_8)))).tmod 128)*(2 ^ (Min.min (w64 (7*k_8)).toNat (IntKind.bits IntKind.i64))))))) (w64 (k_8+1)))
  else none
  else none
  else
  some (0,(0,false))
 else
  some (0,(0,false))
noncomputable def Dc:Nat→Sl→Option (Int×Int×Bool)
 | 0,_=>none
 | m+1,s=>Sr DY (Dc m) s
noncomputable def EY:Jf:=Ul DY (Dc gas)
theorem Ur:Tells ctx PP 83 cv4 cv5 (fun a=>EY a.1 a.2):=
 have b:∀ z0,CutIs ctx PP 83 Tryd.f83 [] [(84,Cc z0)] cv5 QAA (Sr z0):=fun z0 _ s=>by cases s <;> kernel_rfl
 have e:∀ z0,EntryIs ctx PP 83 [] [(84,Cc z0)] cv4 cv5 QAA (fun k a=>Ul z0 k a.1 a.2):=fun z0 _ a=>by kernel_rfl
 fn_ok (hc Hf hl_nil) Tryd.func83 (fun s s' h=>by cases s;cases s';cases h;rfl) (fun _=>rfl) (fun _ _=>rfl) (b DY) (e DY) gas
noncomputable def Vl {γ:Type} (F:Jf):Hd ctx γ:=hdl cv4.dec (fun a=>F a.1 a.2) cv5.enc
abbrev Ez:=Int→ByteArray→Option Int
inductive Wl where
 | c0 (sum_0:Int) (text_1:ByteArray) (i_5:Int)
 | c1 (sum_0:Int) (text_1:ByteArray) (i_5:Int) (v_19:Int)
noncomputable def RAA:Wl→LI
 | .c0 sum_0 text_1 i_5=>(tdo Tryd.f121 208,[(0,[.one (.int .u32 sum_0)]),(1,[.one (.str text_1)]),(5,[.one (.int .i64 i_5)])],[])
 | .c1 sum_0 text_1 i_5 v_19=>(tdo Tryd.f121 13464,[(0,[.one (.int .u32 sum_0)]),(1,[.one (.str text_1)]),(5,[.one (.int .i64 i_5)]),(19,[.one (.int .i64 v_19)])],[])
noncomputable def Fz (k:Wl→Option Int) (sum_0:Int) (text_1:ByteArray):Option Int:=
 k (.c0 sum_0 text_1 0)
noncomputable def Yh (k:Wl→Option Int):Wl→Option Int
 | .c0 sum_0 text_1 i_5=>
 bif (decide (i_5<(text_1.size:Int))) then
  bif ((decide (0≤i_5)) && (decide (i_5<(text_1.size:Int)))) then
  k (.c1 (w32 (((BitVec.toNat ((BitVec.ofInt (IntKind.bits IntKind.u32) sum_0) ^^^ (BitVec.ofInt (IntKind.bits IntKind.u32) (w32 (bt text_1 i_5))))):Nat):Int)) text_1 i_5 0)
  else none
 else
  some sum_0
 | .c1 sum_0 text_1 i_5 v_19=>
 bif (decide (v_19<8)) then
  bif ((w32 (((BitVec.toNat ((BitVec.ofInt (IntKind.bits IntKind.u32) sum_0) &&& (BitVec.ofInt (IntKind.bits IntKind.u32) 1))):Nat):Int)) == 1) then
  k (.c1 (w32 (((BitVec.toNat ((BitVec.ofInt (IntKind.bits IntKind.u32) (Int.fdiv sum_0 (2 ^ (Min.min (1:Int).toNat (IntKind.bits IntKind.u32))))) ^^^ (BitVec.ofInt (IntKind.bits IntKind.u32) 3558460437))):Nat):Int)) text_1 i_5 (w64 (v_19+1)))
  else
  k (.c1 (Int.fdiv sum_0 (2 ^ (Min.min (1:Int).toNat (IntKind.bits IntKind.u32)))) text_1 i_5 (w64 (v_19+1)))
 else
  k (.c0 sum_0 text_1 (w64 (i_5+1)))
noncomputable def Bd:Nat→Wl→Option Int
 | 0,_=>none
 | m+1,s=>Yh (Bd m) s
noncomputable def Xl:Ez:=Fz (Bd gas)
theorem EAG:Tells ctx PP 121 cv6 cv7 (fun a=>Xl a.1 a.2):=
 have b:CutIs ctx PP 121 Tryd.f121 [] [] cv7 RAA (Yh):=fun _ s=>by cases s <;> kernel_rfl
 have e:EntryIs ctx PP 121 [] [] cv6 cv7 RAA (fun k a=>Fz k a.1 a.2):=fun _ a=>by kernel_rfl
 fn_ok hl_nil Tryd.func121 (fun s s' h=>by cases s <;> cases s' <;> first | (cases h;done) | (cases h;rfl) | exact (rg_ne h (by kernel_rfl)).elim) (fun _=>rfl) (fun _ _=>rfl) b e gas
noncomputable def FAG {γ:Type} (F:Ez):Hd ctx γ:=hdl cv6.dec (fun a=>F a.1 a.2) cv7.enc
abbrev Yl:=ByteArray→Option Int
noncomputable def Gz (z0:Ez) (text_0:ByteArray):Option Int:=
 (z0 4294967295 text_0).bind fun r0=>
 some r0
noncomputable def Ed:Yl:=Gz Xl
theorem SAA:Tells ctx PP 86 cv3 cv7 (fun a=>Ed a):=fn_ok0 (hc EAG hl_nil) Tryd.func86 ((fun z0 a=>by kernel_rfl:∀ z0,EntryIs0 ctx PP 86 [] [(121,FAG z0)] cv3 cv7 fun a=>Gz z0 a) Xl)
noncomputable def Hz {γ:Type} (F:Yl):Hd ctx γ:=hdl cv3.dec (fun a=>F a) cv7.enc
abbrev Fe:=Int→Option ByteArray
noncomputable def Iz (n_0:Int):Option ByteArray:=
 some (ofBytes [(w8 (Int.fdiv n_0 (2 ^ (Min.min (24:Int).toNat (IntKind.bits IntKind.u32))))),(w8 (Int.fdiv n_0 (2 ^ (Min.min (16:Int).toNat (IntKind.bits IntKind.u32))))),(w8 (Int.fdiv n_0 (2 ^ (Min.min (8:Int).toNat (IntKind.bits IntKind.u32))))),(w8 n_0)])
noncomputable def CZ:Fe:=Iz
theorem Vr:Tells ctx PP 85 cv7 cv3 (fun a=>CZ a):=fn_ok0 hl_nil Tryd.func85 (fun a=>by kernel_rfl:EntryIs0 ctx PP 85 [] [] cv7 cv3 fun a=>Iz a)
noncomputable def Zh {γ:Type} (F:Fe):Hd ctx γ:=hdl cv7.dec (fun a=>F a) cv3.enc
abbrev Xr:=ByteArray→Option ((List ByteArray)×Int)
inductive Zl where
 | c0 (file_0:ByteArray) (at_5:Int) (out_4:(List ByteArray))
noncomputable def TAA:Zl→LI
 | .c0 file_0 at_5 out_4=>(tdo Tryd.f34 496,[(0,[.one (.str file_0)]),(4,[.one (.own 304)]),(5,[.one (.int .i64 at_5)])],[(304,.sl 9 out_4)])
noncomputable def Jz (z0:Jf) (z1:Fa) (z2:Yl) (z3:Fe) (k:Zl→Option ((List ByteArray)×Int)) (file_0:ByteArray):Option ((List ByteArray)×Int):=
 bif (decide ((file_0.size:Int) > 20000)) then
 some ([],0)
 else
 k (.c0 file_0 0 [])
noncomputable def Kz (z0:Jf) (z1:Fa) (z2:Yl) (z3:Fe) (k:Zl→Option ((List ByteArray)×Int)):Zl→Option ((List ByteArray)×Int)
 | .c0 file_0 at_5 out_4=>
 (z0 file_0 at_5).bind fun r0=>
 bif (!r0.2.2) then
  some (out_4,at_5)
 else
  (z1 r0.1 1 9000).bind fun r1=>
  bif (!r1) then
  some (out_4,at_5)
  else
  bif (decide (r0.1 > (w64 ((w64 ((file_0.size:Int) - r0.2.1)) - 4)))) then
   some (out_4,at_5)
  else
   bif (((decide (0≤(w64 (r0.2.1+4)))) && (decide ((w64 (r0.2.1+4))≤(w64 ((w64 (r0.2.1+4))+r0.1))))) && (decide ((w64 ((w64 (r0.2.1+4))+r0.1))≤(file_0.size:Int)))) then
   bif (((decide (0≤r0.2.1)) && (decide (r0.2.1≤(w64 (r0.2.1+4))))) && (decide ((w64 (r0.2.1+4))≤(file_0.size:Int)))) then
   (z2 (file_0.extract (w64 (r0.2.1+4)).toNat (w64 ((w64 (r0.2.1+4))+r0.1)).toNat)).bind fun r2=>
   (z3 r2).bind fun r3=>
   bif (!((ByteArray.toList (file_0.extract r0.2.1.toNat (w64 (r0.2.1+4)).toNat)) == (ByteArray.toList r3))) then
   some (out_4,at_5)
   else
   bif (decide (((out_4.length+1)*16)≤140737488355328)) then
   k (.c0 file_0 (w64 ((w64 (r0.2.1+4))+r0.1)) (out_4++[(file_0.extract (w64 (r0.2.1+4)).toNat (w64 ((w64 (r0.2.1+4))+r0.1)).toNat)]))
   else none
   else none
   else none
noncomputable def Yr:Nat→Zl→Option ((List ByteArray)×Int)
 | 0,_=>none
 | m+1,s=>Kz EY DY Ed CZ (Yr m) s
noncomputable def Rf:Xr:=Jz EY DY Ed CZ (Yr gas)
theorem GAG:Tells ctx PP 34 cv3 cv9 (fun a=>Rf a):=
 have b:∀ z0 z1 z2 z3,CutIs ctx PP 34 Tryd.f34 [] [(83,Vl z0),(84,Cc z1),(86,Hz z2),(85,Zh z3)] cv9 TAA (Kz z0 z1 z2 z3):=fun z0 z1 z2 z3 _ s=>by cases s <;> kernel_rfl
 have e:∀ z0 z1 z2 z3,EntryIs ctx PP 34 [] [(83,Vl z0),(84,Cc z1),(86,Hz z2),(85,Zh z3)] cv3 cv9 TAA (fun k a=>Jz z0 z1 z2 z3 k a):=fun z0 z1 z2 z3 _ a=>by kernel_rfl
 fn_ok (hc Ur (hc Hf (hc SAA (hc Vr hl_nil)))) Tryd.func34 (fun s s' h=>by cases s;cases s';cases h;rfl) (fun _=>rfl) (fun _ _=>rfl) (b EY DY Ed CZ) (e EY DY Ed CZ) gas
noncomputable def UAA {γ:Type} (F:Xr):Hd ctx γ:=hdl cv3.dec (fun a=>F a) cv9.enc
abbrev He:=Int→Option ByteArray
inductive Am where
 | c0 (n_0:Int) (out_3:(List Int))
noncomputable def VAA:Am→LI
 | .c0 n_0 out_3=>(tdo Tryd.f92 224,[(0,[.one (.int .i64 n_0)]),(3,[.one (.own 240)])],[(240,.sl 5 out_3)])
noncomputable def WAA (k:Am→Option ByteArray) (n_0:Int):Option ByteArray:=
 k (.c0 n_0 [])
noncomputable def Zr (k:Am→Option ByteArray):Am→Option ByteArray
 | .c0 n_0 out_3=>
 bif (decide (n_0 > 127)) then
  bif (decide (((out_3.length+1)*1)≤140737488355328)) then
  k (.c0 (w64 (n_0.tdiv 128)) (out_3++[(w8 (w64 (128+(n_0.tmod 128))))]))
  else none
 else
  bif (decide (((out_3.length+1)*1)≤140737488355328)) then
  some (ofBytes (out_3++[(w8 n_0)]))
  else none
noncomputable def Cm:Nat→Am→Option ByteArray
 | 0,_=>none
 | m+1,s=>Zr (Cm m) s
noncomputable def JZ:He:=WAA (Cm gas)
theorem Ai:Tells ctx PP 92 cv2 cv3 (fun a=>JZ a):=
 have b:CutIs ctx PP 92 Tryd.f92 [] [] cv3 VAA (Zr):=fun _ s=>by cases s <;> kernel_rfl
 have e:EntryIs ctx PP 92 [] [] cv2 cv3 VAA (fun k a=>WAA k a):=fun _ a=>by kernel_rfl
 fn_ok hl_nil Tryd.func92 (fun s s' h=>by cases s;cases s';cases h;rfl) (fun _=>rfl) (fun _ _=>rfl) b e gas
noncomputable def Ci {γ:Type} (F:He):Hd ctx γ:=hdl cv2.dec (fun a=>F a) cv3.enc
abbrev Es:=Int→Option (ByteArray×Bool)
noncomputable def Nz (z0:Fa) (z1:He) (n_0:Int):Option (ByteArray×Bool):=
 (z0 n_0 0 1000000000).bind fun r0=>
 bif (!r0) then
 some (⟨#[]⟩,false)
 else
 (z1 n_0).bind fun r1=>
 some (r1,true)
noncomputable def Tf:Es:=Nz DY JZ
theorem HAG:Tells ctx PP 122 cv2 cv8 (fun a=>Tf a):=fn_ok0 (hc Hf (hc Ai hl_nil)) Tryd.func122 ((fun z0 z1 a=>by kernel_rfl:∀ z0 z1,EntryIs0 ctx PP 122 [] [(84,Cc z0),(92,Ci z1)] cv2 cv8 fun a=>Nz z0 z1 a) DY JZ)
noncomputable def XAA {γ:Type} (F:Es):Hd ctx γ:=hdl cv2.dec (fun a=>F a) cv8.enc
abbrev Di:=Int→Option ByteArray
noncomputable def Oz (n_0:Int):Option ByteArray:=
 some (ofBytes [(w8 n_0)])
noncomputable def Va:Di:=Oz
theorem Pz:Tells ctx PP 124 cv2 cv3 (fun a=>Va a):=fn_ok0 hl_nil Tryd.func124 (fun a=>by kernel_rfl:EntryIs0 ctx PP 124 [] [] cv2 cv3 fun a=>Oz a)
noncomputable def Gs {γ:Type} (F:Di):Hd ctx γ:=hdl cv2.dec (fun a=>F a) cv3.enc
abbrev Qz:=Option (List Int)
noncomputable def YAA  : Option (List Int):=
 some [1779033703,3144134277,1013904242,2773480762,1359893119,2600822924,528734635,1541459225]
noncomputable def Js:Qz:=YAA
theorem IAG:Tells ctx PP 132 cv10 cv32 (fun _=>Js):=fn_ok0 hl_nil Tryd.func132 (fun _=>by kernel_rfl:EntryIs0 ctx PP 132 [] [] cv10 cv32 fun _=>YAA)
noncomputable def JAG {γ:Type} (F:Qz):Hd ctx γ:=hdl cv10.dec (fun _=>F) cv32.enc
abbrev Ls:=Int→Option ByteArray
noncomputable def Rz (n_0:Int):Option ByteArray:=
 bif ((((decide (0≤n_0)) && (decide (n_0≤n_0))) && (decide (n_0≤9223372036854775807))) && (decide ((n_0.toNat*1)≤140737488355328))) then
 some (ofBytes (List.replicate n_0.toNat (0:Int)))
 else none
noncomputable def Ie:Ls:=Rz
theorem ZAA:Tells ctx PP 99 cv2 cv3 (fun a=>Ie a):=fn_ok0 hl_nil Tryd.func99 (fun a=>by kernel_rfl:EntryIs0 ctx PP 99 [] [] cv2 cv3 fun a=>Rz a)
noncomputable def AAB {γ:Type} (F:Ls):Hd ctx γ:=hdl cv2.dec (fun a=>F a) cv3.enc
abbrev Sz:=Int→Option ByteArray
noncomputable def Tz (z0:Fe) (n_0:Int):Option ByteArray:=
 (z0 (w32 (Int.fdiv n_0 (2 ^ (Min.min (32:Int).toNat (IntKind.bits IntKind.i64)))))).bind fun r0=>
 (z0 (w32 n_0)).bind fun r1=>
 bif (decide ((r0.size+r1.size)≤9223372036854775807)) then
 some (r0++r1)
 else none
noncomputable def Em:Sz:=Tz CZ
theorem KAG:Tells ctx PP 155 cv2 cv3 (fun a=>Em a):=fn_ok0 (hc Vr hl_nil) Tryd.func155 ((fun z0 a=>by kernel_rfl:∀ z0,EntryIs0 ctx PP 155 [] [(85,Zh z0)] cv2 cv3 fun a=>Tz z0 a) CZ)
noncomputable def LAG {γ:Type} (F:Sz):Hd ctx γ:=hdl cv2.dec (fun a=>F a) cv3.enc
abbrev Uz:=Int→Option ByteArray
noncomputable def Vz (z0:Ls) (z1:Sz) (count_0:Int):Option ByteArray:=
 (z0 ((w64 (119 - (count_0.tmod 64))).tmod 64)).bind fun r0=>
 bif (decide (((⟨#[128]⟩:ByteArray).size+r0.size)≤9223372036854775807)) then
 (z1 (w64 (8*count_0))).bind fun r1=>
 bif (decide ((((⟨#[128]⟩:ByteArray)++r0).size+r1.size)≤9223372036854775807)) then
 some (((⟨#[128]⟩:ByteArray)++r0)++r1)
 else none
 else none
noncomputable def Gm:Uz:=Vz Ie Em
theorem MAG:Tells ctx PP 133 cv2 cv3 (fun a=>Gm a):=fn_ok0 (hc ZAA (hc KAG hl_nil)) Tryd.func133 ((fun z0 z1 a=>by kernel_rfl:∀ z0 z1,EntryIs0 ctx PP 133 [] [(99,AAB z0),(155,LAG z1)] cv2 cv3 fun a=>Vz z0 z1 a) Ie Em)
noncomputable def NAG {γ:Type} (F:Uz):Hd ctx γ:=hdl cv2.dec (fun a=>F a) cv3.enc
abbrev Xz:=Int→Int→Option Int
noncomputable def Yz (x_0:Int) (k_1:Int):Option Int:=
 bif (decide (0≤(wu64 (32 - (wu64 (((BitVec.toNat ((BitVec.ofInt (IntKind.bits IntKind.u64) (wu64 k_1)) &&& (BitVec.ofInt (IntKind.bits IntKind.u64) 31))):Nat):Int)))))) then
 some (w32 (((BitVec.toNat ((BitVec.ofInt (IntKind.bits IntKind.u32) (w32 (x_0*(2 ^ (Min.min (wu64 (((BitVec.toNat ((BitVec.ofInt (IntKind.bits IntKind.u64) (wu64 k_1)) &&& (BitVec.ofInt (IntKind.bits IntKind.u64) 31))):Nat):Int)).toNat (IntKind.bits IntKind.u32)))))) ||| (BitVec.ofInt (IntKind.bits IntKind.u32) (Int.fdiv x_0 (2 ^ (Min.min (wu64 (32 - (wu64 (((BitVec.toNat ((BitVec.ofInt (IntKind.bits IntKind.u64) (wu64 k_1)) &&& (BitVec.ofInt (IntKind.bits IntKind.u64) 31))):Nat):Int)))).toNat (IntKind.bits IntKind.u32))))))):Nat):Int))
 else none
noncomputable def Jm:Xz:=Yz
theorem OAG:Tells ctx PP 161 cv33 cv7 (fun a=>Jm a.1 a.2):=fn_ok0 hl_nil Tryd.func161 (fun a=>by kernel_rfl:EntryIs0 ctx PP 161 [] [] cv33 cv7 fun a=>Yz a.1 a.2)
noncomputable def PAG {γ:Type} (F:Xz):Hd ctx γ:=hdl cv33.dec (fun a=>F a.1 a.2) cv7.enc
abbrev Ei:=Int→Int→Option Int
noncomputable def Zz (z0:Xz) (x_0:Int) (n_1:Int):Option Int:=
 (z0 x_0 (w64 (0 - n_1))).bind fun r0=>
 some r0
noncomputable def FY:Ei:=Zz Jm
theorem BAB:Tells ctx PP 159 cv33 cv7 (fun a=>FY a.1 a.2):=fn_ok0 (hc OAG hl_nil) Tryd.func159 ((fun z0 a=>by kernel_rfl:∀ z0,EntryIs0 ctx PP 159 [] [(161,PAG z0)] cv33 cv7 fun a=>Zz z0 a.1 a.2) Jm)
noncomputable def Ns {γ:Type} (F:Ei):Hd ctx γ:=hdl cv33.dec (fun a=>F a.1 a.2) cv7.enc
abbrev Qs:=ByteArray→Option (List Int)
inductive Lm where
 | c0 (block_0:ByteArray) (v_11:Int) (v_2r0:(List Int)) (w_3r0:(List Int))
 | c1 (block_0:ByteArray) (i_4:Int) (v_11:Int) (v_14:Int) (v_2r0:(List Int)) (w_3r0:(List Int))
 | c2 (t_6:Int) (v_2r0:(List Int)) (w_3r0:(List Int))
noncomputable def CAB:Lm→LI
 | .c0 block_0 v_11 v_2r0 w_3r0=>(tdo Tryd.f158 232,[(0,[.one (.str block_0)]),(2,[.one (.ptr 128 0)]),(3,[.one (.ptr 192 0)]),(11,[.one (.int .i64 v_11)])],[(128,.ar 119 v_2r0),(192,.ar 119 w_3r0)])
 | .c1 block_0 i_4 v_11 v_14 v_2r0 w_3r0=>(tdo Tryd.f158 59800,[(0,[.one (.str block_0)]),(2,[.one (.ptr 128 0)]),(3,[.one (.ptr 192 0)]),(4,[.one (.int .i64 i_4)]),(11,[.one (.int .i64 v_11)]),(14,[.one (.int .i64 v_14)])],[(128,.ar 119 v_2r0),(192,.ar 119 w_3r0)])
 | .c2 t_6 v_2r0 w_3r0=>(tdo Tryd.f158 976,[(2,[.one (.ptr 128 0)]),(3,[.one (.ptr 192 0)]),(6,[.one (.int .i64 t_6)])],[(128,.ar 119 v_2r0),(192,.ar 119 w_3r0)])
noncomputable def O0 (z0:Ei) (k:Lm→Option (List Int)) (block_0:ByteArray):Option (List Int):=
 k (.c0 block_0 0 (List.replicate 64 (0:Int)) (List.replicate 64 (0:Int)))
noncomputable def Je (z0:Ei) (k:Lm→Option (List Int)):Lm→Option (List Int)
 | .c0 block_0 v_11 v_2r0 w_3r0=>
 bif (decide (v_11<16)) then
  k (.c1 block_0 v_11 v_11 0 v_2r0 w_3r0)
 else
  k (.c2 16 v_2r0 w_3r0)
 | .c1 block_0 i_4 v_11 v_14 v_2r0 w_3r0=>
 bif (decide (v_14<4)) then
  bif (Nat.beq 64 w_3r0.length) then
  bif ((decide (0≤i_4)) && (decide (i_4<(w_3r0.length:Int)))) then
  bif ((decide (0≤(w64 ((w64 (4*i_4))+v_14)))) && (decide ((w64 ((w64 (4*i_4))+v_14))<(block_0.size:Int)))) then
  bif (Nat.beq 64 w_3r0.length) then
  bif ((decide (0≤i_4)) && (decide (i_4<(w_3r0.length:Int)))) then
  k (.c1 block_0 i_4 v_11 (w64 (v_14+1)) v_2r0 (w_3r0.set i_4.toNat (w32 (((BitVec.toNat ((BitVec.ofInt (IntKind.bits IntKind.u32) (w32 ((w_3r0.getD i_4.toNat 0)*(2 ^ (Min.min (8:Int).toNat (IntKind.bits IntKind.u32)))))) ||| (BitVec.ofInt (IntKind.bits IntKind.u32) (w32 (bt block_0 (w64 ((w64 (4*i_4))+v_14))))))):Nat):Int))))
  else none
  else none
  else none
  else none
  else none
 else
  k (.c0 block_0 (w64 (v_11+1)) v_2r0 w_3r0)
 | .c2 t_6 v_2r0 w_3r0=>
 bif (decide (t_6<64)) then
  bif (Nat.beq 64 w_3r0.length) then
  bif ((decide (0≤(w64 (t_6 - 15)))) && (decide ((w64 (t_6 - 15))<(w_3r0.length:Int)))) then
  bif (Nat.beq 64 w_3r0.length) then
  bif ((decide (0≤(w64 (t_6 - 2)))) && (decide ((w64 (t_6 - 2))<(w_3r0.length:Int)))) then
  (z0 (w_3r0.getD (w64 (t_6 - 15)).toNat 0) 7).bind fun r0=>
  (z0 (w_3r0.getD (w64 (t_6 - 15)).toNat 0) 18).bind fun r1=>
  (z0 (w_3r0.getD (w64 (t_6 - 2)).toNat 0) 17).bind fun r2=>
  (z0 (w_3r0.getD (w64 (t_6 - 2)).toNat 0) 19).bind fun r3=>
  bif (Nat.beq 64 w_3r0.length) then
  bif ((decide (0≤(w64 (t_6 - 7)))) && (decide ((w64 (t_6 - 7))<(w_3r0.length:Int)))) then
  bif (Nat.beq 64 w_3r0.length) then
  bif ((decide (0≤(w64 (t_6 - 16)))) && (decide ((w64 (t_6 - 16))<(w_3r0.length:Int)))) then
  bif (Nat.beq 64 w_3r0.length) then
  bif ((decide (0≤t_6)) && (decide (t_6<(w_3r0.length:Int)))) then
  k (.c2 (w64 (t_6+1)) v_2r0 (w_3r0.set t_6.toNat (w32 ((w32 ((w32 ((w32 (((BitVec.toNat ((BitVec.ofInt (IntKind.bits IntKind.u32) (w32 (((BitVec.toNat ((BitVec.ofInt (IntKind.bits IntKind.u32) r2) ^^^ (BitVec.ofInt (IntKind.bits IntKind.u32) r3))):Nat):Int))) ^^^ (BitVec.ofInt (IntKind.bits IntKind.u32) (Int.fdiv (w_3r0.getD (w64 (t_6 - 2)).toNat 0) (2 ^ (Min.min (10:Int).toNat (IntKind.bits IntKind.u32))))))):Nat):Int))+(w_3r0.getD (w64 (t_6 - 7)).toNat 0)))+(w32 (((BitVec.toNat ((BitVec.ofInt (IntKind.bits IntKind.u32) (w32 (((BitVec.toNat ((BitVec.ofInt (IntKind.bits IntKind.u32) r0) ^^^ (BitVec.ofInt (IntKind.bits IntKind.u32) r1))):Nat):Int))) ^^^ (BitVec.ofInt (IntKind.bits IntKind.u32) (Int.fdiv (w_3r0.getD (w64 (t_6 - 15)).toNat 0) (2 ^ (Min.min (3:Int).toNat (IntKind.bits IntKind.u32))))))):Nat):Int))))+(w_3r0.getD (w64 (t_6 - 16)).toNat 0)))))
  else none
  else none
  else none
  else none
  else none
  else none
  else none
  else none
  else none
  else none
 else
  bif (Nat.beq 64 w_3r0.length) then
  bif ((Nat.beq w_3r0.length v_2r0.length) && (Nat.beq 64 w_3r0.length)) then
  bif ((Nat.beq 64 w_3r0.length) && true) then
  some w_3r0
  else none
  else none
  else none
noncomputable def UZ:Nat→Lm→Option (List Int)
 | 0,_=>none
 | m+1,s=>Je FY (UZ m) s
noncomputable def Uf:Qs:=O0 FY (UZ gas)
theorem QAG:Tells ctx PP 158 cv3 cv32 (fun a=>Uf a):=
 have b:∀ z0,CutIs ctx PP 158 Tryd.f158 [] [(159,Ns z0)] cv32 CAB (Je z0):=fun z0 _ s=>by cases s <;> kernel_rfl
 have e:∀ z0,EntryIs ctx PP 158 [] [(159,Ns z0)] cv3 cv32 CAB (fun k a=>O0 z0 k a):=fun z0 _ a=>by kernel_rfl
 fn_ok (hc BAB hl_nil) Tryd.func158 (fun s s' h=>by cases s <;> cases s' <;> first | (cases h;done) | (cases h;rfl) | exact (rg_ne h (by kernel_rfl)).elim) (fun _=>rfl) (fun _ _=>rfl) (b FY) (e FY) gas
noncomputable def DAB {γ:Type} (F:Qs):Hd ctx γ:=hdl cv3.dec (fun a=>F a) cv32.enc
abbrev Us:=(List Int)→ByteArray→Option (List Int)
inductive Om where
 | c0 (a_6:Int) (b_7:Int) (c_8:Int) (d_9:Int) (e_10:Int) (f_11:Int) (g_12:Int) (h_13:Int) (v_37:Int) (state_2r0:(List Int)) (v_4r0:(List Int)) (w_5r0:(List Int))
 | c1 (v_109:Int) (state_2r0:(List Int)) (v_4r0:(List Int)) (out_17r0:(List Int))
noncomputable def EAB:Om→LI
 | .c0 a_6 b_7 c_8 d_9 e_10 f_11 g_12 h_13 v_37 state_2r0 v_4r0 w_5r0=>(tdo Tryd.f154 488,[(2,[.one (.ptr 128 0)]),(4,[.one (.ptr 256 0)]),(5,[.one (.ptr 320 0)]),(6,[.one (.int .u32 a_6)]),(7,[.one (.int .u32 b_7)]),(8,[.one (.int .u32 c_8)]),(9,[.one (.int .u32 d_9)]),(10,[.one (.int .u32 e_10)]),(11,[.one (.int .u32 f_11)]),(12,[.one (.int .u32 g_12)]),(13,[.one (.int .u32 h_13)]),(37,[.one (.int .i64 v_37)])],[(128,.ar 119 state_2r0),(256,.ar 119 v_4r0),(320,.ar 119 w_5r0)])
 | .c1 v_109 state_2r0 v_4r0 out_17r0=>(tdo Tryd.f154 2024,[(2,[.one (.ptr 128 0)]),(4,[.one (.ptr 256 0)]),(17,[.one (.ptr 1088 0)]),(109,[.one (.int .i64 v_109)])],[(128,.ar 119 state_2r0),(256,.ar 119 v_4r0),(1088,.ar 119 out_17r0)])
noncomputable def U0 (z0:Qs) (z1:Ei) (k:Om→Option (List Int)) (state_0:(List Int)) (block_1:ByteArray):Option (List Int):=
 (z0 block_1).bind fun r0=>
 bif ((Nat.beq r0.length (List.replicate 64 (0:Int)).length) && (Nat.beq 64 r0.length)) then
 bif (Nat.beq 8 state_0.length) then
 bif ((decide ((0:Int)≤(0:Int))) && (decide (0<(state_0.length:Int)))) then
 bif (Nat.beq 8 state_0.length) then
 bif ((decide ((0:Int)≤(1:Int))) && (decide (1<(state_0.length:Int)))) then
 bif (Nat.beq 8 state_0.length) then
 bif ((decide ((0:Int)≤(2:Int))) && (decide (2<(state_0.length:Int)))) then
 bif (Nat.beq 8 state_0.length) then
 bif ((decide ((0:Int)≤(3:Int))) && (decide (3<(state_0.length:Int)))) then
 bif (Nat.beq 8 state_0.length) then
 bif ((decide ((0:Int)≤(4:Int))) && (decide (4<(state_0.length:Int)))) then
 bif (Nat.beq 8 state_0.length) then
 bif ((decide ((0:Int)≤(5:Int))) && (decide (5<(state_0.length:Int)))) then
 bif (Nat.beq 8 state_0.length) then
 bif ((decide ((0:Int)≤(6:Int))) && (decide (6<(state_0.length:Int)))) then
 bif (Nat.beq 8 state_0.length) then
 bif ((decide ((0:Int)≤(7:Int))) && (decide (7<(state_0.length:Int)))) then
 k (.c0 (state_0.getD (0:Int).toNat 0) (state_0.getD (1:Int).toNat 0) (state_0.getD (2:Int).toNat 0) (state_0.getD (3:Int).toNat 0) (state_0.getD (4:Int).toNat 0) (state_0.getD (5:Int).toNat 0) (state_0.getD (6:Int).toNat 0) (state_0.getD (7:Int).toNat 0) 0 state_0 [0,0,0,0,0,0,0,0] r0)
 else none
 else none
 else none
 else none
 else none
 else none
 else none
 else none
 else none
 else none
 else none
 else none
 else none
 else none
 else none
 else none
 else none
noncomputable def Gi (z0:Qs) (z1:Ei) (k:Om→Option (List Int)):Om→Option (List Int)
 | .c0 a_6 b_7 c_8 d_9 e_10 f_11 g_12 h_13 v_37 state_2r0 v_4r0 w_5r0=>
 bif (decide (v_37<64)) then
  (z1 e_10 6).bind fun r0=>
  (z1 e_10 11).bind fun r1=>
  (z1 e_10 25).bind fun r2=>
  bif ((decide (0≤v_37)) && (decide (v_37<((64:Nat):Int)))) then
  bif (Nat.blt v_37.toNat 64) then
  bif (Nat.beq 64 w_5r0.length) then
  bif ((decide (0≤v_37)) && (decide (v_37<(w_5r0.length:Int)))) then
  (z1 a_6 2).bind fun r3=>
  (z1 a_6 13).bind fun r4=>
  (z1 a_6 22).bind fun r5=>
  k (.c0 (w32 ((w32 ((w32 ((w32 ((w32 (h_13+(w32 (((BitVec.toNat ((BitVec.ofInt (IntKind.bits IntKind.u32) (w32 (((BitVec.toNat ((BitVec.ofInt (IntKind.bits IntKind.u32) r0) ^^^ (BitVec.ofInt (IntKind.bits IntKind.u32) r1))):Nat):Int))) ^^^ (BitVec.ofInt (IntKind.bits IntKind.u32) r2))):Nat):Int))))+(w32 (((BitVec.toNat ((BitVec.ofInt (IntKind.bits IntKind.u32) (w32 (((BitVec.toNat ((BitVec.ofInt (IntKind.bits IntKind.u32) e_10) &&& (BitVec.ofInt (IntKind.bits IntKind.u32) f_11))):Nat):Int))) ^^^ (BitVec.ofInt (IntKind.bits IntKind.u32) (w32 (((BitVec.toNat ((BitVec.ofInt (IntKind.bits IntKind.u32) (w32 (((BitVec.toNat ((BitVec.ofInt (IntKind.bits IntKind.u32) (ite ((IntKind.signed IntKind.u32)=true) (-(1:Int)) (IntKind.max IntKind.u32))) ^^^ (BitVec.ofInt (IntKind.bits IntKind.u32) e_10))):Nat):Int))) &&& (BitVec.ofInt (IntKind.bits IntKind.u32) g_12))):Nat):Int))))):Nat):Int))))+([(1116352408:Int),(1899447441:Int),(3049323471:Int),(3921009573:Int),(961987163:Int),(1508970993:Int),(2453635748:Int),(2870763221:Int),(3624381080:Int),(310598401:Int),(607225278:Int),(1426881987:Int),(1925078388:Int),(2162078206:Int),(2614888103:Int),(3248222580:Int),(3835390401:Int),(4022224774:Int),(264347078:Int),(604807628:Int),(770255983:Int),(1249150122:Int),(1555081692:Int),(1996064986:Int),(2554220882:Int),(2821834349:Int),(2952996808:Int),(3210313671:Int),(3336571891:Int),(3584528711:Int),(113926993:Int),(338241895:Int),(666307205:Int),(773529912:Int),(1294757372:Int),(1396182291:Int),(1695183700:Int),(1986661051:Int),(2177026350:Int),(2456956037:Int),(2730485921:Int),(2820302411:Int),(3259730800:Int),(3345764771:Int),(3516065817:Int),(3600352804:Int),(4094571909:Int),(275423344:Int),(430227734:Int),(506948616:Int),(659060556:Int),(883997877:Int),(958139571:Int),(1322822218:Int),(1537002063:Int),(1747873779:Int),(1955562222:Int),(2024104815:Int),(2227730452:Int),(2361852424:Int),(2428436474:Int),(2756734187:Int),(3204031479:Int),(3329325298:Int)].getD v_37.toNat 0)))+(w_5r0.getD v_37.toNat 0)))+(w32 ((w32 (((BitVec.toNat ((BitVec.ofInt (IntKind.bits IntKind.u32) (w32 (((BitVec.toNat ((BitVec.ofInt (IntKind.bits IntKind.u32) r3) ^^^ (BitVec.ofInt (IntKind.bits IntKind.u32) r4))):Nat):Int))) ^^^ (BitVec.ofInt (IntKind.bits IntKind.u32) r5))):Nat):Int))+(w32 (((BitVec.toNat ((BitVec.ofInt (IntKind.bits IntKind.u32) (w32 (((BitVec.toNat ((BitVec.ofInt (IntKind.bits IntKind.u32) (w32 (((BitVec.toNat ((BitVec.ofInt (IntKind.bits IntKind.u32) a_6) &&& (BitVec.ofInt (IntKind.bits IntKind.u32) b_7))):Nat):Int))) ^^^ (BitVec.ofInt (IntKind.bits IntKind.u32) (w32 (((BitVec.toNat ((BitVec.ofInt (IntKind.bits IntKind.u32) a_6) &&& (BitVec.ofInt (IntKind.bits IntKind.u32) c_8))):Nat):Int))))):Nat):Int))) ^^^ (BitVec.ofInt (IntKind.bits IntKind.u32) (w32 (((BitVec.toNat ((BitVec.ofInt (IntKind.bits IntKind.u32) b_7) &&& (BitVec.ofInt (IntKind.bits IntKind.u32) c_8))):Nat):Int))))):Nat):Int)))))) a_6 b_7 c_8 (w32 (d_9+(w32 ((w32 ((w32 ((w32 (h_13+(w32 (((BitVec.toNat ((BitVec.ofInt (IntKind.bits IntKind.u32) (w32 (((BitVec.toNat ((BitVec.ofInt (IntKind.bits IntKind.u32) r0) ^^^ (BitVec.ofInt (IntKind.bits IntKind.u32) r1))):Nat):Int))) ^^^ (BitVec.ofInt (IntKind.bits IntKind.u32) r2))):Nat):Int))))+(w32 (((BitVec.toNat ((BitVec.ofInt (IntKind.bits IntKind.u32) (w32 (((BitVec.toNat ((BitVec.ofInt (IntKind.bits IntKind.u32) e_10) &&& (BitVec.ofInt (IntKind.bits IntKind.u32) f_11))):Nat):Int))) ^^^ (BitVec.ofInt (IntKind.bits IntKind.u32) (w32 (((BitVec.toNat ((BitVec.ofInt (IntKind.bits IntKind.u32) (w32 (((BitVec.toNat ((BitVec.ofInt (IntKind.bits IntKind.u32) (ite ((IntKind.signed IntKind.u32)=true) (-(1:Int)) (IntKind.max IntKind.u32))) ^^^ (BitVec.ofInt (IntKind.bits IntKind.u32) e_10))):Nat):Int))) &&& (BitVec.ofInt (IntKind.bits IntKind.u32) g_12))):Nat):Int))))):Nat):Int))))+([(1116352408:Int),(1899447441:Int),(3049323471:Int),(3921009573:Int),(961987163:Int),(1508970993:Int),(2453635748:Int),(2870763221:Int),(3624381080:Int),(310598401:Int),(607225278:Int),(1426881987:Int),(1925078388:Int),(2162078206:Int),(2614888103:Int),(3248222580:Int),(3835390401:Int),(4022224774:Int),(264347078:Int),(604807628:Int),(770255983:Int),(1249150122:Int),(1555081692:Int),(1996064986:Int),(2554220882:Int),(2821834349:Int),(2952996808:Int),(3210313671:Int),(3336571891:Int),(3584528711:Int),(113926993:Int),(338241895:Int),(666307205:Int),(773529912:Int),(1294757372:Int),(1396182291:Int),(1695183700:Int),(1986661051:Int),(2177026350:Int),(2456956037:Int),(2730485921:Int),(2820302411:Int),(3259730800:Int),(3345764771:Int),(3516065817:Int),(3600352804:Int),(4094571909:Int),(275423344:Int),(430227734:Int),(506948616:Int),(659060556:Int),(883997877:Int),(958139571:Int),(1322822218:Int),(1537002063:Int),(1747873779:Int),(1955562222:Int),(2024104815:Int),(2227730452:Int),(2361852424:Int),(2428436474:Int),(2756734187:Int),(3204031479:Int),(3329325298:Int)].getD v_37.toNat 0)))+(w_5r0.getD v_37.toNat 0))))) e_10 f_11 g_12 (w64 (v_37+1)) state_2r0 v_4r0 w_5r0)
  else none
  else none
  else none
  else none
 else
  k (.c1 0 state_2r0 v_4r0 [a_6,b_7,c_8,d_9,e_10,f_11,g_12,h_13])
 | .c1 v_109 state_2r0 v_4r0 out_17r0=>
 bif (decide (v_109<8)) then
  bif (Nat.beq 8 out_17r0.length) then
  bif ((decide (0≤v_109)) && (decide (v_109<(out_17r0.length:Int)))) then
  bif (Nat.beq 8 state_2r0.length) then
  bif ((decide (0≤v_109)) && (decide (v_109<(state_2r0.length:Int)))) then
  bif (Nat.beq 8 out_17r0.length) then
  bif ((decide (0≤v_109)) && (decide (v_109<(out_17r0.length:Int)))) then
  k (.c1 (w64 (v_109+1)) state_2r0 v_4r0 (out_17r0.set v_109.toNat (w32 ((out_17r0.getD v_109.toNat 0)+(state_2r0.getD v_109.toNat 0)))))
  else none
  else none
  else none
  else none
  else none
  else none
 else
  bif (Nat.beq 8 out_17r0.length) then
  bif ((Nat.beq out_17r0.length v_4r0.length) && (Nat.beq 8 out_17r0.length)) then
  bif ((Nat.beq 8 out_17r0.length) && true) then
  some out_17r0
  else none
  else none
  else none
noncomputable def Xa:Nat→Om→Option (List Int)
 | 0,_=>none
 | m+1,s=>Gi Uf FY (Xa m) s
noncomputable def Vf:Us:=U0 Uf FY (Xa gas)
theorem RAG:Tells ctx PP 154 cv34 cv32 (fun a=>Vf a.1 a.2):=
 have b:∀ z0 z1,CutIs ctx PP 154 Tryd.f154 [] [(158,DAB z0),(159,Ns z1)] cv32 EAB (Gi z0 z1):=fun z0 z1 _ s=>by cases s <;> kernel_rfl
 have e:∀ z0 z1,EntryIs ctx PP 154 [] [(158,DAB z0),(159,Ns z1)] cv34 cv32 EAB (fun k a=>U0 z0 z1 k a.1 a.2):=fun z0 z1 _ a=>by kernel_rfl
 fn_ok (hc QAG (hc BAB hl_nil)) Tryd.func154 (fun s s' h=>by cases s <;> cases s' <;> first | (cases h;done) | (cases h;rfl) | exact (rg_ne h (by kernel_rfl)).elim) (fun _=>rfl) (fun _ _=>rfl) (b Uf FY) (e Uf FY) gas
noncomputable def FAB {γ:Type} (F:Us):Hd ctx γ:=hdl cv34.dec (fun a=>F a.1 a.2) cv32.enc
abbrev X0:=(List Int)→ByteArray→Option ((List Int)×ByteArray)
inductive Pm where
 | c0 (s_1:ByteArray) (state_2r0:(List Int)) (v_4r0:(List Int))
noncomputable def GAB:Pm→LI
 | .c0 s_1 state_2r0 v_4r0=>(tdo Tryd.f131 96,[(1,[.one (.str s_1)]),(2,[.one (.ptr 128 0)]),(4,[.one (.ptr 256 0)])],[(128,.ar 119 state_2r0),(256,.ar 119 v_4r0)])
noncomputable def Y0 (z0:Us) (k:Pm→Option ((List Int)×ByteArray)) (state_0:(List Int)) (s_1:ByteArray):Option ((List Int)×ByteArray):=
 k (.c0 s_1 state_0 [0,0,0,0,0,0,0,0])
noncomputable def Vs (z0:Us) (k:Pm→Option ((List Int)×ByteArray)):Pm→Option ((List Int)×ByteArray)
 | .c0 s_1 state_2r0 v_4r0=>
 bif (decide ((s_1.size:Int)≥64)) then
  bif (Nat.beq 8 state_2r0.length) then
  bif ((decide ((0:Int)≤(64:Int))) && (decide (64≤(s_1.size:Int)))) then
  (z0 state_2r0 (s_1.extract 0 (64:Int).toNat)).bind fun r0=>
  bif ((Nat.beq r0.length state_2r0.length) && (Nat.beq 8 r0.length)) then
  bif ((decide ((0:Int)≤(64:Int))) && (decide (64≤(s_1.size:Int)))) then
  k (.c0 (s_1.extract (64:Int).toNat s_1.size) r0 v_4r0)
  else none
  else none
  else none
  else none
 else
  bif (Nat.beq 8 state_2r0.length) then
  bif ((Nat.beq state_2r0.length v_4r0.length) && (Nat.beq 8 state_2r0.length)) then
  bif ((Nat.beq 8 state_2r0.length) && true) then
  some (state_2r0,s_1)
  else none
  else none
  else none
noncomputable def Qm:Nat→Pm→Option ((List Int)×ByteArray)
 | 0,_=>none
 | m+1,s=>Vs Vf (Qm m) s
noncomputable def Sm:X0:=Y0 Vf (Qm gas)
theorem SAG:Tells ctx PP 131 cv34 cv34 (fun a=>Sm a.1 a.2):=
 have b:∀ z0,CutIs ctx PP 131 Tryd.f131 [] [(154,FAB z0)] cv34 GAB (Vs z0):=fun z0 _ s=>by cases s <;> kernel_rfl
 have e:∀ z0,EntryIs ctx PP 131 [] [(154,FAB z0)] cv34 cv34 GAB (fun k a=>Y0 z0 k a.1 a.2):=fun z0 _ a=>by kernel_rfl
 fn_ok (hc RAG hl_nil) Tryd.func131 (fun s s' h=>by cases s;cases s';cases h;rfl) (fun _=>rfl) (fun _ _=>rfl) (b Vf) (e Vf) gas
noncomputable def UAG {γ:Type} (F:X0):Hd ctx γ:=hdl cv34.dec (fun a=>F a.1 a.2) cv34.enc
abbrev O1:=(List Int)→Option ByteArray
inductive Um where
 | c0 (out_3:ByteArray) (v_6:(List Int)) (v_7:Int)
noncomputable def IAB:Um→LI
 | .c0 out_3 v_6 v_7=>(tdo Tryd.f134 232,[(3,[.one (.str out_3)]),(6,[.arr 119 v_6]),(7,[.one (.int .i64 v_7)])],[])
noncomputable def U1 (z0:Fe) (k:Um→Option ByteArray) (state_0:(List Int)):Option ByteArray:=
 bif (Nat.beq 8 state_0.length) then
 k (.c0 ⟨#[]⟩ state_0 0)
 else none
noncomputable def Ws (z0:Fe) (k:Um→Option ByteArray):Um→Option ByteArray
 | .c0 out_3 v_6 v_7=>
 bif (decide (v_7<8)) then
  bif (Nat.beq 8 v_6.length) then
  bif ((decide (0≤v_7)) && (decide (v_7<(v_6.length:Int)))) then
  (z0 (v_6.getD v_7.toNat 0)).bind fun r0=>
  bif (decide ((out_3.size+r0.size)≤9223372036854775807)) then
  k (.c0 (out_3++r0) v_6 (w64 (v_7+1)))
  else none
  else none
  else none
 else
  some out_3
noncomputable def Vm:Nat→Um→Option ByteArray
 | 0,_=>none
 | m+1,s=>Ws CZ (Vm m) s
noncomputable def Xm:O1:=U1 CZ (Vm gas)
theorem VAG:Tells ctx PP 134 cv32 cv3 (fun a=>Xm a):=
 have b:∀ z0,CutIs ctx PP 134 Tryd.f134 [] [(85,Zh z0)] cv3 IAB (Ws z0):=fun z0 _ s=>by cases s <;> kernel_rfl
 have e:∀ z0,EntryIs ctx PP 134 [] [(85,Zh z0)] cv32 cv3 IAB (fun k a=>U1 z0 k a):=fun z0 _ a=>by kernel_rfl
 fn_ok (hc Vr hl_nil) Tryd.func134 (fun s s' h=>by cases s;cases s';cases h;rfl) (fun _=>rfl) (fun _ _=>rfl) (b CZ) (e CZ) gas
noncomputable def WAG {γ:Type} (F:O1):Hd ctx γ:=hdl cv32.dec (fun a=>F a) cv3.enc
abbrev Y1:=ByteArray→Option ByteArray
noncomputable def U2 (z0:Qz) (z1:Uz) (z2:X0) (z3:O1) (s_0:ByteArray):Option ByteArray:=
 z0.bind fun r0=>
 (z1 (s_0.size:Int)).bind fun r1=>
 bif (decide ((s_0.size+r1.size)≤9223372036854775807)) then
 (z2 r0 (s_0++r1)).bind fun r2=>
 bif ((Nat.beq r2.1.length 8) && (Nat.beq 8 r2.1.length)) then
 bif (Nat.beq 8 r2.1.length) then
 (z3 r2.1).bind fun r3=>
 some r3
 else none
 else none
 else none
noncomputable def Xf:Y1:=U2 Js Gm Sm Xm
theorem XAG:Tells ctx PP 98 cv3 cv3 (fun a=>Xf a):=fn_ok0 (hc IAG (hc MAG (hc SAG (hc VAG hl_nil)))) Tryd.func98 ((fun z0 z1 z2 z3 a=>by kernel_rfl:∀ z0 z1 z2 z3,EntryIs0 ctx PP 98 [] [(132,JAG z0),(133,NAG z1),(131,UAG z2),(134,WAG z3)] cv3 cv3 fun a=>U2 z0 z1 z2 z3 a) Js Gm Sm Xm)
noncomputable def YAG {γ:Type} (F:Y1):Hd ctx γ:=hdl cv3.dec (fun a=>F a) cv3.enc
abbrev Y2:=ByteArray→Int→Option ByteArray
inductive Ym where
 | c0 (x_1:Int) (v_10:Int) (v_11:Int) (out_5:(List Int))
noncomputable def JAB:Ym→LI
 | .c0 x_1 v_10 v_11 out_5=>(tdo Tryd.f144 232,[(1,[.one (.int .u8 x_1)]),(5,[.one (.own 368)]),(10,[.one (.int .i64 v_10)]),(11,[.one (.int .i64 v_11)])],[(368,.sl 5 out_5)])
noncomputable def J3 (k:Ym→Option ByteArray) (s_0:ByteArray) (x_1:Int):Option ByteArray:=
 bif (decide (s_0.size≤9223372036854775807)) then
 k (.c0 x_1 ((bytesOf s_0).length:Int) 0 (bytesOf s_0))
 else none
noncomputable def Dt (k:Ym→Option ByteArray):Ym→Option ByteArray
 | .c0 x_1 v_10 v_11 out_5=>
 bif (decide (v_11<v_10)) then
  bif ((decide (0≤v_11)) && (decide (v_11<(out_5.length:Int)))) then
  bif ((decide (0≤v_11)) && (decide (v_11<(out_5.length:Int)))) then
  k (.c0 x_1 v_10 (w64 (v_11+1)) (out_5.set v_11.toNat (w8 (((BitVec.toNat ((BitVec.ofInt (IntKind.bits IntKind.u8) (out_5.getD v_11.toNat 0)) ^^^ (BitVec.ofInt (IntKind.bits IntKind.u8) x_1))):Nat):Int))))
  else none
  else none
 else
  some (ofBytes out_5)
noncomputable def Zm:Nat→Ym→Option ByteArray
 | 0,_=>none
 | m+1,s=>Dt (Zm m) s
noncomputable def Yf:Y2:=J3 (Zm gas)
theorem AAH:Tells ctx PP 144 cv18 cv3 (fun a=>Yf a.1 a.2):=
 have b:CutIs ctx PP 144 Tryd.f144 [] [] cv3 JAB (Dt):=fun _ s=>by cases s <;> kernel_rfl
 have e:EntryIs ctx PP 144 [] [] cv18 cv3 JAB (fun k a=>J3 k a.1 a.2):=fun _ a=>by kernel_rfl
 fn_ok hl_nil Tryd.func144 (fun s s' h=>by cases s;cases s';cases h;rfl) (fun _=>rfl) (fun _ _=>rfl) b e gas
noncomputable def BAH {γ:Type} (F:Y2):Hd ctx γ:=hdl cv18.dec (fun a=>F a.1 a.2) cv3.enc
abbrev Dn:=ByteArray→ByteArray→Option ByteArray
noncomputable def O3 (z0:Y1) (z1:Ls) (z2:Y2) (key_0:ByteArray) (s_1:ByteArray):Option ByteArray:=
 bif (decide ((key_0.size:Int) > 64)) then
 (z0 key_0).bind fun r0=>
 (z1 (w64 (64 - (r0.size:Int)))).bind fun r1=>
 bif (decide ((r0.size+r1.size)≤9223372036854775807)) then
 (z2 (r0++r1) 92).bind fun r2=>
 (z2 (r0++r1) 54).bind fun r3=>
 bif (decide ((r3.size+s_1.size)≤9223372036854775807)) then
 (z0 (r3++s_1)).bind fun r4=>
 bif (decide ((r2.size+r4.size)≤9223372036854775807)) then
 (z0 (r2++r4)).bind fun r5=>
 some r5
 else none
 else none
 else none
 else
 (z1 (w64 (64 - (key_0.size:Int)))).bind fun r6=>
 bif (decide ((key_0.size+r6.size)≤9223372036854775807)) then
 (z2 (key_0++r6) 92).bind fun r7=>
 (z2 (key_0++r6) 54).bind fun r8=>
 bif (decide ((r8.size+s_1.size)≤9223372036854775807)) then
 (z0 (r8++s_1)).bind fun r9=>
 bif (decide ((r7.size+r9.size)≤9223372036854775807)) then
 (z0 (r7++r9)).bind fun r10=>
 some r10
 else none
 else none
 else none
noncomputable def Jd:Dn:=O3 Xf Ie Yf
theorem KAB:Tells ctx PP 123 cv19 cv3 (fun a=>Jd a.1 a.2):=fn_ok0 (hc XAG (hc ZAA (hc AAH hl_nil))) Tryd.func123 ((fun z0 z1 z2 a=>by kernel_rfl:∀ z0 z1 z2,EntryIs0 ctx PP 123 [] [(98,YAG z0),(99,AAB z1),(144,BAH z2)] cv19 cv3 fun a=>O3 z0 z1 z2 a.1 a.2) Xf Ie Yf)
noncomputable def U3 {γ:Type} (F:Dn):Hd ctx γ:=hdl cv19.dec (fun a=>F a.1 a.2) cv3.enc
abbrev V3:=ByteArray→Int→Int→Option (ByteArray×Bool)
inductive En where
 | c0 (key_0:ByteArray) (n_2:Int) (v_8:ByteArray) (out_10:ByteArray) (i_11:Int)
noncomputable def LAB:En→LI
 | .c0 key_0 n_2 v_8 out_10 i_11=>(tdo Tryd.f87 2000,[(0,[.one (.str key_0)]),(2,[.one (.int .i64 n_2)]),(8,[.one (.str v_8)]),(10,[.one (.str out_10)]),(11,[.one (.int .i64 i_11)])],[])
noncomputable def X3 (z0:Es) (z1:Fa) (z2:Di) (z3:Dn) (k:En→Option (ByteArray×Bool)) (key_0:ByteArray) (num_1:Int) (n_2:Int):Option (ByteArray×Bool):=
 (z0 num_1).bind fun r0=>
 bif (!r0.2) then
 some (⟨#[]⟩,false)
 else
 (z1 n_2 0 8000).bind fun r1=>
 bif (!r1) then
  some (⟨#[]⟩,false)
 else
  k (.c0 key_0 n_2 r0.1 ⟨#[]⟩ 0)
noncomputable def Et (z0:Es) (z1:Fa) (z2:Di) (z3:Dn) (k:En→Option (ByteArray×Bool)):En→Option (ByteArray×Bool)
 | .c0 key_0 n_2 v_8 out_10 i_11=>
 bif (decide ((out_10.size:Int)<n_2)) then
  bif (decide (((⟨#[109]⟩:ByteArray).size+v_8.size)≤9223372036854775807)) then
  (z2 i_11).bind fun r0=>
  bif (decide ((((⟨#[109]⟩:ByteArray)++v_8).size+r0.size)≤9223372036854775807)) then
  (z3 key_0 (((⟨#[109]⟩:ByteArray)++v_8)++r0)).bind fun r1=>
  bif (decide ((out_10.size+r1.size)≤9223372036854775807)) then
  k (.c0 key_0 n_2 v_8 (out_10++r1) (w64 (i_11+1)))
  else none
  else none
  else none
 else
  bif ((decide (0≤n_2)) && (decide (n_2≤(out_10.size:Int)))) then
  some ((out_10.extract 0 n_2.toNat),true)
  else none
noncomputable def Gn:Nat→En→Option (ByteArray×Bool)
 | 0,_=>none
 | m+1,s=>Et Tf DY Va Jd (Gn m) s
noncomputable def Pn:V3:=X3 Tf DY Va Jd (Gn gas)
theorem CAH:Tells ctx PP 87 cv20 cv8 (fun a=>Pn a.1 a.2.1 a.2.2):=
 have b:∀ z0 z1 z2 z3,CutIs ctx PP 87 Tryd.f87 [] [(122,XAA z0),(84,Cc z1),(124,Gs z2),(123,U3 z3)] cv8 LAB (Et z0 z1 z2 z3):=fun z0 z1 z2 z3 _ s=>by cases s <;> kernel_rfl
 have e:∀ z0 z1 z2 z3,EntryIs ctx PP 87 [] [(122,XAA z0),(84,Cc z1),(124,Gs z2),(123,U3 z3)] cv20 cv8 LAB (fun k a=>X3 z0 z1 z2 z3 k a.1 a.2.1 a.2.2):=fun z0 z1 z2 z3 _ a=>by kernel_rfl
 fn_ok (hc HAG (hc Hf (hc Pz (hc KAB hl_nil)))) Tryd.func87 (fun s s' h=>by cases s;cases s';cases h;rfl) (fun _=>rfl) (fun _ _=>rfl) (b Tf DY Va Jd) (e Tf DY Va Jd) gas
noncomputable def DAH {γ:Type} (F:V3):Hd ctx γ:=hdl cv20.dec (fun a=>F a.1 a.2.1 a.2.2) cv8.enc
abbrev Y3:=ByteArray→Int→ByteArray→Option ByteArray
noncomputable def I4 (z0:He) (z1:Dn) (key_0:ByteArray) (num_1:Int) (s_2:ByteArray):Option ByteArray:=
 (z0 num_1).bind fun r0=>
 bif (decide (((⟨#[116]⟩:ByteArray).size+r0.size)≤9223372036854775807)) then
 bif (decide ((((⟨#[116]⟩:ByteArray)++r0).size+s_2.size)≤9223372036854775807)) then
 (z1 key_0 (((⟨#[116]⟩:ByteArray)++r0)++s_2)).bind fun r1=>
 bif ((decide ((0:Int)≤(16:Int))) && (decide (16≤(r1.size:Int)))) then
 some (r1.extract 0 (16:Int).toNat)
 else none
 else none
 else none
noncomputable def Qn:Y3:=I4 JZ Jd
theorem EAH:Tells ctx PP 88 cv21 cv3 (fun a=>Qn a.1 a.2.1 a.2.2):=fn_ok0 (hc Ai (hc KAB hl_nil)) Tryd.func88 ((fun z0 z1 a=>by kernel_rfl:∀ z0 z1,EntryIs0 ctx PP 88 [] [(92,Ci z0),(123,U3 z1)] cv21 cv3 fun a=>I4 z0 z1 a.1 a.2.1 a.2.2) JZ Jd)
noncomputable def FAH {γ:Type} (F:Y3):Hd ctx γ:=hdl cv21.dec (fun a=>F a.1 a.2.1 a.2.2) cv3.enc
abbrev J4:=ByteArray→ByteArray→Option ByteArray
inductive Rn where
 | c0 (b_1:ByteArray) (v_10:Int) (v_11:Int) (out_5:(List Int))
noncomputable def MAB:Rn→LI
 | .c0 b_1 v_10 v_11 out_5=>(tdo Tryd.f89 232,[(1,[.one (.str b_1)]),(5,[.one (.own 368)]),(10,[.one (.int .i64 v_10)]),(11,[.one (.int .i64 v_11)])],[(368,.sl 5 out_5)])
noncomputable def O4 (k:Rn→Option ByteArray) (a_0:ByteArray) (b_1:ByteArray):Option ByteArray:=
 bif (decide (a_0.size≤9223372036854775807)) then
 k (.c0 b_1 ((bytesOf a_0).length:Int) 0 (bytesOf a_0))
 else none
noncomputable def Gt (k:Rn→Option ByteArray):Rn→Option ByteArray
 | .c0 b_1 v_10 v_11 out_5=>
 bif (decide (v_11<v_10)) then
  bif ((decide (0≤v_11)) && (decide (v_11<(out_5.length:Int)))) then
  bif ((decide (0≤v_11)) && (decide (v_11<(b_1.size:Int)))) then
  bif ((decide (0≤v_11)) && (decide (v_11<(out_5.length:Int)))) then
  k (.c0 b_1 v_10 (w64 (v_11+1)) (out_5.set v_11.toNat (w8 (((BitVec.toNat ((BitVec.ofInt (IntKind.bits IntKind.u8) (out_5.getD v_11.toNat 0)) ^^^ (BitVec.ofInt (IntKind.bits IntKind.u8) (bt b_1 v_11)))):Nat):Int))))
  else none
  else none
  else none
 else
  some (ofBytes out_5)
noncomputable def Tn:Nat→Rn→Option ByteArray
 | 0,_=>none
 | m+1,s=>Gt (Tn m) s
noncomputable def Un:J4:=O4 (Tn gas)
theorem GAH:Tells ctx PP 89 cv19 cv3 (fun a=>Un a.1 a.2):=
 have b:CutIs ctx PP 89 Tryd.f89 [] [] cv3 MAB (Gt):=fun _ s=>by cases s <;> kernel_rfl
 have e:EntryIs ctx PP 89 [] [] cv19 cv3 MAB (fun k a=>O4 k a.1 a.2):=fun _ a=>by kernel_rfl
 fn_ok hl_nil Tryd.func89 (fun s s' h=>by cases s;cases s';cases h;rfl) (fun _=>rfl) (fun _ _=>rfl) b e gas
noncomputable def HAH {γ:Type} (F:J4):Hd ctx γ:=hdl cv19.dec (fun a=>F a.1 a.2) cv3.enc
abbrev Ht:=ByteArray→Int→ByteArray→Option (ByteArray×Bool)
noncomputable def U4 (z0:V3) (z1:Y3) (z2:J4) (key_0:ByteArray) (num_1:Int) (text_2:ByteArray):Option (ByteArray×Bool):=
 bif (decide ((w64 ((text_2.size:Int) - 16))<0)) then
 some (⟨#[]⟩,false)
 else
 (z0 key_0 num_1 (w64 ((text_2.size:Int) - 16))).bind fun r0=>
 bif (!r0.2) then
  some (⟨#[]⟩,false)
 else
  bif ((decide (0≤(w64 ((text_2.size:Int) - 16)))) && (decide ((w64 ((text_2.size:Int) - 16))≤(text_2.size:Int)))) then
  (z1 key_0 num_1 (text_2.extract 0 (w64 ((text_2.size:Int) - 16)).toNat)).bind fun r1=>
  bif ((decide (0≤(w64 ((text_2.size:Int) - 16)))) && (decide ((w64 ((text_2.size:Int) - 16))≤(text_2.size:Int)))) then
  bif (!((ByteArray.toList r1) == (ByteArray.toList (text_2.extract (w64 ((text_2.size:Int) - 16)).toNat text_2.size)))) then
  some (⟨#[]⟩,false)
  else
  bif ((decide (0≤(w64 ((text_2.size:Int) - 16)))) && (decide ((w64 ((text_2.size:Int) - 16))≤(text_2.size:Int)))) then
  (z2 (text_2.extract 0 (w64 ((text_2.size:Int) - 16)).toNat) r0.1).bind fun r2=>
  some (r2,true)
  else none
  else none
  else none
noncomputable def Zf:Ht:=U4 Pn Qn Un
theorem IAH:Tells ctx PP 35 cv21 cv8 (fun a=>Zf a.1 a.2.1 a.2.2):=fn_ok0 (hc CAH (hc EAH (hc GAH hl_nil))) Tryd.func35 ((fun z0 z1 z2 a=>by kernel_rfl:∀ z0 z1 z2,EntryIs0 ctx PP 35 [] [(87,DAH z0),(88,FAH z1),(89,HAH z2)] cv21 cv8 fun a=>U4 z0 z1 z2 a.1 a.2.1 a.2.2) Pn Qn Un)
noncomputable def NAB {γ:Type} (F:Ht):Hd ctx γ:=hdl cv21.dec (fun a=>F a.1 a.2.1 a.2.2) cv8.enc
abbrev V4:=SFields→Option (Int×SFields)
noncomputable def Jt (z0:Jf) (f_0:SFields):Option (Int×SFields):=
 (z0 f_0.fText f_0.fAt).bind fun r0=>
 bif (!r0.2.2) then
 some (0,⟨f_0.fText,f_0.fAt,true⟩)
 else
 some (r0.1,⟨f_0.fText,r0.2.1,f_0.fBad⟩)
noncomputable def Me:V4:=Jt EY
theorem JAH:Tells ctx PP 125 cv35 cv36 (fun a=>Me a):=fn_ok0 (hc Ur hl_nil) Tryd.func125 ((fun z0 a=>by kernel_rfl:∀ z0,EntryIs0 ctx PP 125 [0] [(83,Vl z0)] cv35 cv36 fun a=>Jt z0 a) EY)
noncomputable def KAH {γ:Type} (F:V4):Hd ctx γ:=hdl cv35.dec (fun a=>F a) cv36.enc
abbrev X4:=ByteArray→Int→Option (ByteArray×Int×Bool)
noncomputable def Kt (z0:Jf) (text_0:ByteArray) (at_1:Int):Option (ByteArray×Int×Bool):=
 (z0 text_0 at_1).bind fun r0=>
 bif (!r0.2.2) then
 some (⟨#[]⟩,(0,false))
 else
 bif (decide (r0.1 > 20000)) then
  some (⟨#[]⟩,(0,false))
 else
  bif (decide (r0.1 > (w64 ((text_0.size:Int) - r0.2.1)))) then
  some (⟨#[]⟩,(0,false))
  else
  bif (((decide (0≤r0.2.1)) && (decide (r0.2.1≤(w64 (r0.2.1+r0.1))))) && (decide ((w64 (r0.2.1+r0.1))≤(text_0.size:Int)))) then
  some ((text_0.extract r0.2.1.toNat (w64 (r0.2.1+r0.1)).toNat),((w64 (r0.2.1+r0.1)),true))
  else none
noncomputable def Ag:X4:=Kt EY
theorem LAH:Tells ctx PP 145 cv4 cv37 (fun a=>Ag a.1 a.2):=fn_ok0 (hc Ur hl_nil) Tryd.func145 ((fun z0 a=>by kernel_rfl:∀ z0,EntryIs0 ctx PP 145 [] [(83,Vl z0)] cv4 cv37 fun a=>Kt z0 a.1 a.2) EY)
noncomputable def MAH {γ:Type} (F:X4):Hd ctx γ:=hdl cv4.dec (fun a=>F a.1 a.2) cv37.enc
abbrev Y4:=SFields→Option (ByteArray×SFields)
noncomputable def Ot (z0:X4) (f_0:SFields):Option (ByteArray×SFields):=
 (z0 f_0.fText f_0.fAt).bind fun r0=>
 bif (!r0.2.2) then
 some (⟨#[]⟩,⟨f_0.fText,f_0.fAt,true⟩)
 else
 some (r0.1,⟨f_0.fText,r0.2.1,f_0.fBad⟩)
noncomputable def Bg:Y4:=Ot Ag
theorem NAH:Tells ctx PP 126 cv35 cv38 (fun a=>Bg a):=fn_ok0 (hc LAH hl_nil) Tryd.func126 ((fun z0 a=>by kernel_rfl:∀ z0,EntryIs0 ctx PP 126 [0] [(145,MAH z0)] cv35 cv38 fun a=>Ot z0 a) Ag)
noncomputable def OAH {γ:Type} (F:Y4):Hd ctx γ:=hdl cv35.dec (fun a=>F a) cv38.enc
abbrev Z4:=SThing→Option Bool
noncomputable def D5 (z0:Fa) (x_0:SThing):Option Bool:=
 (z0 x_0.fId 1 1000).bind fun r0=>
 bif (!r0) then
 some false
 else
 (z0 x_0.fNext 0 16).bind fun r1=>
 bif (!r1) then
  some false
 else
  bif (x_0.fKind != 2) then
  bif (x_0.fNext != 0) then
   some false
  else
   bif x_0.fSigns then
   some false
   else
   bif (x_0.fKind != 1) then
    bif x_0.fWraps then
    some false
    else
    bif (x_0.fKind == 1) then
     bif (x_0.fKind == 1) then
     some ((x_0.fValue.size:Int) == 32)
     else
     bif (x_0.fKind == 3) then
      some (decide ((x_0.fValue.size:Int)≤100))
     else
      some false
    else
     bif (x_0.fKind == 2) then
     some ((x_0.fValue.size:Int) == 32)
     else
     bif (x_0.fKind == 3) then
      some (decide ((x_0.fValue.size:Int)≤100))
     else
      some false
   else
    bif (x_0.fKind == 1) then
    bif (x_0.fKind == 1) then
     some ((x_0.fValue.size:Int) == 32)
    else
     bif (x_0.fKind == 3) then
     some (decide ((x_0.fValue.size:Int)≤100))
     else
     some false
    else
    bif (x_0.fKind == 2) then
     some ((x_0.fValue.size:Int) == 32)
    else
     bif (x_0.fKind == 3) then
     some (decide ((x_0.fValue.size:Int)≤100))
     else
     some false
  else
  bif (x_0.fKind != 1) then
   bif x_0.fWraps then
   some false
   else
   bif (x_0.fKind == 1) then
    bif (x_0.fKind == 1) then
    some ((x_0.fValue.size:Int) == 32)
    else
    bif (x_0.fKind == 3) then
     some (decide ((x_0.fValue.size:Int)≤100))
    else
     some false
   else
    bif (x_0.fKind == 2) then
    some ((x_0.fValue.size:Int) == 32)
    else
    bif (x_0.fKind == 3) then
     some (decide ((x_0.fValue.size:Int)≤100))
    else
     some false
  else
   bif (x_0.fKind == 1) then
   bif (x_0.fKind == 1) then
    some ((x_0.fValue.size:Int) == 32)
   else
    bif (x_0.fKind == 3) then
    some (decide ((x_0.fValue.size:Int)≤100))
    else
    some false
   else
   bif (x_0.fKind == 2) then
    some ((x_0.fValue.size:Int) == 32)
   else
    bif (x_0.fKind == 3) then
    some (decide ((x_0.fValue.size:Int)≤100))
    else
    some false
noncomputable def Wn:Z4:=D5 DY
theorem PAH:Tells ctx PP 139 cv26 cv1 (fun a=>Wn a):=fn_ok0 (hc Hf hl_nil) Tryd.func139 ((fun z0 a=>by kernel_rfl:∀ z0,EntryIs0 ctx PP 139 [] [(84,Cc z0)] cv26 cv1 fun a=>D5 z0 a) DY)
noncomputable def QAH {γ:Type} (F:Z4):Hd ctx γ:=hdl cv26.dec (fun a=>F a) cv1.enc
abbrev E5:=SThing→Option Int
inductive Xn where
 | c0 (n_3:Int) (v_15:Int) (v_16:Int) (v_14:(List Bool))
noncomputable def OAB:Xn→LI
 | .c0 n_3 v_15 v_16 v_14=>(tdo Tryd.f146 232,[(3,[.one (.int .i64 n_3)]),(14,[.one (.own 944)]),(15,[.one (.int .i64 v_15)]),(16,[.one (.int .i64 v_16)])],[(944,.sl 4 v_14)])
noncomputable def F5 (k:Xn→Option Int) (x_0:SThing):Option Int:=
 k (.c0 0 ((4:Nat):Int) 0 [x_0.fHidden,x_0.fFixed,x_0.fSigns,x_0.fWraps])
noncomputable def PAB (k:Xn→Option Int):Xn→Option Int
 | .c0 n_3 v_15 v_16 v_14=>
 bif (decide (v_16<v_15)) then
  bif ((decide (0≤v_16)) && (decide (v_16<(v_14.length:Int)))) then
  bif (v_14.getD v_16.toNat false) then
  bif (decide (0≤v_16)) then
  k (.c0 (w64 (((BitVec.toNat ((BitVec.ofInt (IntKind.bits IntKind.i64) n_3) ||| (BitVec.ofInt (IntKind.bits IntKind.i64) (w64 (1*(2 ^ (Min.min v_16.toNat (IntKind.bits IntKind.i64)))))))):Nat):Int)) v_15 (w64 (v_16+1)) v_14)
  else none
  else
  k (.c0 n_3 v_15 (w64 (v_16+1)) v_14)
  else none
 else
  some n_3
noncomputable def G5:Nat→Xn→Option Int
 | 0,_=>none
 | m+1,s=>PAB (G5 m) s
noncomputable def Yn:E5:=F5 (G5 gas)
theorem RAH:Tells ctx PP 146 cv26 cv2 (fun a=>Yn a):=
 have b:CutIs ctx PP 146 Tryd.f146 [] [] cv2 OAB (PAB):=fun _ s=>by cases s <;> kernel_rfl
 have e:EntryIs ctx PP 146 [] [] cv26 cv2 OAB (fun k a=>F5 k a):=fun _ a=>by kernel_rfl
 fn_ok hl_nil Tryd.func146 (fun s s' h=>by cases s;cases s';cases h;rfl) (fun _=>rfl) (fun _ _=>rfl) b e gas
noncomputable def SAH {γ:Type} (F:E5):Hd ctx γ:=hdl cv26.dec (fun a=>F a) cv2.enc
abbrev I5:=ByteArray→Option ByteArray
noncomputable def J5 (z0:He) (s_0:ByteArray):Option ByteArray:=
 (z0 (s_0.size:Int)).bind fun r0=>
 bif (decide ((r0.size+s_0.size)≤9223372036854775807)) then
 some (r0++s_0)
 else none
noncomputable def Zn:I5:=J5 JZ
theorem TAH:Tells ctx PP 147 cv3 cv3 (fun a=>Zn a):=fn_ok0 (hc Ai hl_nil) Tryd.func147 ((fun z0 a=>by kernel_rfl:∀ z0,EntryIs0 ctx PP 147 [] [(92,Ci z0)] cv3 cv3 fun a=>J5 z0 a) JZ)
noncomputable def UAH {γ:Type} (F:I5):Hd ctx γ:=hdl cv3.dec (fun a=>F a) cv3.enc
abbrev Rt:=SThing→Option (ByteArray×Bool)
noncomputable def O5 (z0:Z4) (z1:He) (z2:Di) (z3:E5) (z4:I5) (x_0:SThing):Option (ByteArray×Bool):=
 (z0 x_0).bind fun r0=>
 bif (!r0) then
 some (⟨#[]⟩,false)
 else
 (z1 x_0.fId).bind fun r1=>
 (z2 x_0.fKind).bind fun r2=>
 bif (decide ((r1.size+r2.size)≤9223372036854775807)) then
 (z3 x_0).bind fun r3=>
 (z2 r3).bind fun r4=>
 bif (decide (((r1++r2).size+r4.size)≤9223372036854775807)) then
 (z4 x_0.fValue).bind fun r5=>
 bif (decide ((((r1++r2)++r4).size+r5.size)≤9223372036854775807)) then
 (z1 x_0.fNext).bind fun r6=>
 bif (decide (((((r1++r2)++r4)++r5).size+r6.size)≤9223372036854775807)) then
 some (((((r1++r2)++r4)++r5)++r6),true)
 else none
 else none
 else none
 else none
noncomputable def Fg:Rt:=O5 Wn JZ Va Yn Zn
theorem QAB:Tells ctx PP 127 cv26 cv8 (fun a=>Fg a):=fn_ok0 (hc PAH (hc Ai (hc Pz (hc RAH (hc TAH hl_nil))))) Tryd.func127 ((fun z0 z1 z2 z3 z4 a=>by kernel_rfl:∀ z0 z1 z2 z3 z4,EntryIs0 ctx PP 127 [] [(139,QAH z0),(92,Ci z1),(124,Gs z2),(146,SAH z3),(147,UAH z4)] cv26 cv8 fun a=>O5 z0 z1 z2 z3 z4 a) Wn JZ Va Yn Zn)
noncomputable def RAB {γ:Type} (F:Rt):Hd ctx γ:=hdl cv26.dec (fun a=>F a) cv8.enc
abbrev P5:=ByteArray→Option (SThing×Bool)
noncomputable def Tt (z0:V4) (z1:Y4) (z2:Rt) (text_0:ByteArray):Option (SThing×Bool):=
 (z0 ⟨text_0,0,false⟩).bind fun r0=>
 (z0 r0.2).bind fun r1=>
 (z0 r1.2).bind fun r2=>
 (z1 r2.2).bind fun r3=>
 (z0 r3.2).bind fun r4=>
 (z2 ⟨r0.1,r1.1,((w64 (((BitVec.toNat ((BitVec.ofInt (IntKind.bits IntKind.i64) r2.1) &&& (BitVec.ofInt (IntKind.bits IntKind.i64) 1))):Nat):Int)) != 0),((w64 (((BitVec.toNat ((BitVec.ofInt (IntKind.bits IntKind.i64) r2.1) &&& (BitVec.ofInt (IntKind.bits IntKind.i64) 2))):Nat):Int)) != 0),((w64 (((BitVec.toNat ((BitVec.ofInt (IntKind.bits IntKind.i64) r2.1) &&& (BitVec.ofInt (IntKind.bits IntKind.i64) 4))):Nat):Int)) != 0),((w64 (((BitVec.toNat ((BitVec.ofInt (IntKind.bits IntKind.i64) r2.1) &&& (BitVec.ofInt (IntKind.bits IntKind.i64) 8))):Nat):Int)) != 0),r3.1,r4.1⟩).bind fun r5=>
 bif r4.2.fBad then
 some (⟨0,0,false,false,false,false,⟨#[]⟩,0⟩,false)
 else
 bif (!r5.2) then
  some (⟨0,0,false,false,false,false,⟨#[]⟩,0⟩,false)
 else
  bif (!((ByteArray.toList r5.1) == (ByteArray.toList text_0))) then
  some (⟨0,0,false,false,false,false,⟨#[]⟩,0⟩,false)
  else
  some (⟨r0.1,r1.1,((w64 (((BitVec.toNat ((BitVec.ofInt (IntKind.bits IntKind.i64) r2.1) &&& (BitVec.ofInt (IntKind.bits IntKind.i64) 1))):Nat):Int)) != 0),((w64 (((BitVec.toNat ((BitVec.ofInt (IntKind.bits IntKind.i64) r2.1) &&& (BitVec.ofInt (IntKind.bits IntKind.i64) 2))):Nat):Int)) != 0),((w64 (((BitVec.toNat ((BitVec.ofInt (IntKind.bits IntKind.i64) r2.1) &&& (BitVec.ofInt (IntKind.bits IntKind.i64) 4))):Nat):Int)) != 0),((w64 (((BitVec.toNat ((BitVec.ofInt (IntKind.bits IntKind.i64) r2.1) &&& (BitVec.ofInt (IntKind.bits IntKind.i64) 8))):Nat):Int)) != 0),r3.1,r4.1⟩,true)
noncomputable def Oe:P5:=Tt Me Bg Fg
theorem VAH:Tells ctx PP 90 cv3 cv28 (fun a=>Oe a):=fn_ok0 (hc JAH (hc NAH (hc QAB hl_nil))) Tryd.func90 ((fun z0 z1 z2 a=>by kernel_rfl:∀ z0 z1 z2,EntryIs0 ctx PP 90 [] [(125,KAH z0),(126,OAH z1),(127,RAB z2)] cv3 cv28 fun a=>Tt z0 z1 z2 a) Me Bg Fg)
noncomputable def WAH {γ:Type} (F:P5):Hd ctx γ:=hdl cv3.dec (fun a=>F a) cv28.enc
abbrev Q5:=SRec→Option (ByteArray×Bool)
noncomputable def U5 (z0:He) (z1:Fa) (z2:Rt) (z3:Di) (r_0:SRec):Option (ByteArray×Bool):=
 bif (r_0.fKind == 1) then
 bif (!((r_0.fText.size:Int) == 32)) then
  some (⟨#[]⟩,false)
 else
  bif (!((r_0.fKind == r_0.fKind) && (((ByteArray.toList r_0.fText) == (ByteArray.toList r_0.fText)) && ((r_0.fNum == 0) && (((r_0.fThing.fId == 0) && ((r_0.fThing.fKind == 0) && ((r_0.fThing.fHidden == false) && ((r_0.fThing.fFixed == false) && ((r_0.fThing.fSigns == false) && ((r_0.fThing.fWraps == false) && (((ByteArray.toList r_0.fThing.fValue) == (ByteArray.toList ⟨#[]⟩)) && ((r_0.fThing.fNext == 0) && true)))))))) && true))))) then
  some (⟨#[]⟩,false)
  else
  (z3 r_0.fKind).bind fun r0=>
  bif (decide ((r0.size+r_0.fText.size)≤9223372036854775807)) then
  some ((r0++r_0.fText),true)
  else none
 else
 bif (r_0.fKind == 2) then
  (z0 r_0.fNum).bind fun r1=>
  (z1 r_0.fNum 0 3).bind fun r2=>
  bif (!r2) then
  some (⟨#[]⟩,false)
  else
  bif (!((r_0.fKind == r_0.fKind) && (((ByteArray.toList r_0.fText) == (ByteArray.toList ⟨#[]⟩)) && ((r_0.fNum == r_0.fNum) && (((r_0.fThing.fId == 0) && ((r_0.fThing.fKind == 0) && ((r_0.fThing.fHidden == false) && ((r_0.fThing.fFixed == false) && ((r_0.fThing.fSigns == false) && ((r_0.fThing.fWraps == false) && (((ByteArray.toList r_0.fThing.fValue) == (ByteArray.toList ⟨#[]⟩)) && ((r_0.fThing.fNext == 0) && true)))))))) && true))))) then
   some (⟨#[]⟩,false)
  else
   (z3 r_0.fKind).bind fun r3=>
   bif (decide ((r3.size+r1.size)≤9223372036854775807)) then
   some ((r3++r1),true)
   else none
 else
  bif (r_0.fKind == 3) then
  (z2 r_0.fThing).bind fun r4=>
  bif (!r4.2) then
   some (⟨#[]⟩,false)
  else
   bif (!((r_0.fKind == r_0.fKind) && (((ByteArray.toList r_0.fText) == (ByteArray.toList ⟨#[]⟩)) && ((r_0.fNum == 0) && (((r_0.fThing.fId == r_0.fThing.fId) && ((r_0.fThing.fKind == r_0.fThing.fKind) && ((r_0.fThing.fHidden == r_0.fThing.fHidden) && ((r_0.fThing.fFixed == r_0.fThing.fFixed) && ((r_0.fThing.fSigns == r_0.fThing.fSigns) && ((r_0.fThing.fWraps == r_0.fThing.fWraps) && (((ByteArray.toList r_0.fThing.fValue) == (ByteArray.toList r_0.fThing.fValue)) && ((r_0.fThing.fNext == r_0.fThing.fNext) && true)))))))) && true))))) then
   some (⟨#[]⟩,false)
   else
   (z3 r_0.fKind).bind fun r5=>
   bif (decide ((r5.size+r4.1.size)≤9223372036854775807)) then
   some ((r5++r4.1),true)
   else none
  else
  bif (r_0.fKind == 4) then
   (z0 r_0.fNum).bind fun r6=>
   (z1 r_0.fNum 1 1000).bind fun r7=>
   bif (!r7) then
   some (⟨#[]⟩,false)
   else
   bif (!((r_0.fKind == r_0.fKind) && (((ByteArray.toList r_0.fText) == (ByteArray.toList ⟨#[]⟩)) && ((r_0.fNum == r_0.fNum) && (((r_0.fThing.fId == 0) && ((r_0.fThing.fKind == 0) && ((r_0.fThing.fHidden == false) && ((r_0.fThing.fFixed == false) && ((r_0.fThing.fSigns == false) && ((r_0.fThing.fWraps == false) && (((ByteArray.toList r_0.fThing.fValue) == (ByteArray.toList ⟨#[]⟩)) && ((r_0.fThing.fNext == 0) && true)))))))) && true))))) then
    some (⟨#[]⟩,false)
   else
    (z3 r_0.fKind).bind fun r8=>
    bif (decide ((r8.size+r6.size)≤9223372036854775807)) then
    some ((r8++r6),true)
    else none
  else
   some (⟨#[]⟩,false)
noncomputable def Bo:Q5:=U5 JZ DY Fg Va
theorem XAH:Tells ctx PP 91 cv29 cv8 (fun a=>Bo a):=fn_ok0 (hc Ai (hc Hf (hc QAB (hc Pz hl_nil)))) Tryd.func91 ((fun z0 z1 z2 z3 a=>by kernel_rfl:∀ z0 z1 z2 z3,EntryIs0 ctx PP 91 [] [(92,Ci z0),(84,Cc z1),(127,RAB z2),(124,Gs z3)] cv29 cv8 fun a=>U5 z0 z1 z2 z3 a) JZ DY Fg Va)
noncomputable def YAH {γ:Type} (F:Q5):Hd ctx γ:=hdl cv29.dec (fun a=>F a) cv8.enc
abbrev Ut:=ByteArray→Option (SRec×Bool)
noncomputable def Gg (z0:P5) (z1:Jf) (z2:Q5) (text_0:ByteArray):Option (SRec×Bool):=
 bif ((ByteArray.toList text_0) == (ByteArray.toList ⟨#[]⟩)) then
 some (⟨0,⟨#[]⟩,0,⟨0,0,false,false,false,false,⟨#[]⟩,0⟩⟩,false)
 else
 bif ((decide ((0:Int)≤(0:Int))) && (decide (0<(text_0.size:Int)))) then
 bif ((w64 (bt text_0 0)) == 1) then
  bif ((decide ((0:Int)≤(1:Int))) && (decide (1≤(text_0.size:Int)))) then
  (z2 ⟨(w64 (bt text_0 0)),(text_0.extract (1:Int).toNat text_0.size),0,⟨0,0,false,false,false,false,⟨#[]⟩,0⟩⟩).bind fun r0=>
  bif (!r0.2) then
  some (⟨0,⟨#[]⟩,0,⟨0,0,false,false,false,false,⟨#[]⟩,0⟩⟩,false)
  else
  bif (!((ByteArray.toList r0.1) == (ByteArray.toList text_0))) then
   some (⟨0,⟨#[]⟩,0,⟨0,0,false,false,false,false,⟨#[]⟩,0⟩⟩,false)
  else
   some (⟨(w64 (bt text_0 0)),(text_0.extract (1:Int).toNat text_0.size),0,⟨0,0,false,false,false,false,⟨#[]⟩,0⟩⟩,true)
  else none
 else
  bif ((w64 (bt text_0 0)) == 3) then
  bif ((decide ((0:Int)≤(1:Int))) && (decide (1≤(text_0.size:Int)))) then
  (z0 (text_0.extract (1:Int).toNat text_0.size)).bind fun r1=>
  (z2 ⟨(w64 (bt text_0 0)),⟨#[]⟩,0,r1.1⟩).bind fun r2=>
  bif (!r2.2) then
   some (⟨0,⟨#[]⟩,0,⟨0,0,false,false,false,false,⟨#[]⟩,0⟩⟩,false)
  else
   bif (!((ByteArray.toList r2.1) == (ByteArray.toList text_0))) then
   some (⟨0,⟨#[]⟩,0,⟨0,0,false,false,false,false,⟨#[]⟩,0⟩⟩,false)
   else
   some (⟨(w64 (bt text_0 0)),⟨#[]⟩,0,r1.1⟩,true)
  else none
  else
  (z1 text_0 1).bind fun r3=>
  (z2 ⟨(w64 (bt text_0 0)),⟨#[]⟩,r3.1,⟨0,0,false,false,false,false,⟨#[]⟩,0⟩⟩).bind fun r4=>
  bif (!r4.2) then
   some (⟨0,⟨#[]⟩,0,⟨0,0,false,false,false,false,⟨#[]⟩,0⟩⟩,false)
  else
   bif (!((ByteArray.toList r4.1) == (ByteArray.toList text_0))) then
   some (⟨0,⟨#[]⟩,0,⟨0,0,false,false,false,false,⟨#[]⟩,0⟩⟩,false)
   else
   some (⟨(w64 (bt text_0 0)),⟨#[]⟩,r3.1,⟨0,0,false,false,false,false,⟨#[]⟩,0⟩⟩,true)
 else none
noncomputable def KZ:Ut:=Gg Oe EY Bo
theorem ZAH:Tells ctx PP 36 cv3 cv30 (fun a=>KZ a):=fn_ok0 (hc VAH (hc Ur (hc XAH hl_nil))) Tryd.func36 ((fun z0 z1 z2 a=>by kernel_rfl:∀ z0 z1 z2,EntryIs0 ctx PP 36 [] [(90,WAH z0),(83,Vl z1),(91,YAH z2)] cv3 cv30 fun a=>Gg z0 z1 z2 a) Oe EY Bo)
noncomputable def SAB {γ:Type} (F:Ut):Hd ctx γ:=hdl cv3.dec (fun a=>F a) cv30.enc
abbrev Vt:=ByteArray→Option (ByteArray×Bool)
noncomputable def V5 (z0:Fa) (z1:He) (z2:Yl) (z3:Fe) (text_0:ByteArray):Option (ByteArray×Bool):=
 (z0 (text_0.size:Int) 1 9000).bind fun r0=>
 bif (!r0) then
 some (⟨#[]⟩,false)
 else
 (z1 (text_0.size:Int)).bind fun r1=>
 (z2 text_0).bind fun r2=>
 (z3 r2).bind fun r3=>
 bif (decide ((r1.size+r3.size)≤9223372036854775807)) then
 bif (decide (((r1++r3).size+text_0.size)≤9223372036854775807)) then
 some (((r1++r3)++text_0),true)
 else none
 else none
noncomputable def Hg:Vt:=V5 DY JZ Ed CZ
theorem AAI:Tells ctx PP 37 cv3 cv8 (fun a=>Hg a):=fn_ok0 (hc Hf (hc Ai (hc SAA (hc Vr hl_nil)))) Tryd.func37 ((fun z0 z1 z2 z3 a=>by kernel_rfl:∀ z0 z1 z2 z3,EntryIs0 ctx PP 37 [] [(84,Cc z0),(92,Ci z1),(86,Hz z2),(85,Zh z3)] cv3 cv8 fun a=>V5 z0 z1 z2 z3 a) DY JZ Ed CZ)
noncomputable def TAB {γ:Type} (F:Vt):Hd ctx γ:=hdl cv3.dec (fun a=>F a) cv8.enc
abbrev X5:=ByteArray→ByteArray→Option ((List SRec)×Int)
inductive Eo where
 | c0 (key_0:ByteArray) (at_9:Int) (v_24:Int) (v_25:Int) (out_8:(List SRec)) (v_23:(List ByteArray))
noncomputable def UAB:Eo→LI
 | .c0 key_0 at_9 v_24 v_25 out_8 v_23=>(tdo Tryd.f8 1000,[(0,[.one (.str key_0)]),(8,[.one (.own 560)]),(9,[.one (.int .i64 at_9)]),(23,[.one (.own 1520)]),(24,[.one (.int .i64 v_24)]),(25,[.one (.int .i64 v_25)])],[(560,.sl 73 out_8),(1520,.sl 9 v_23)])
noncomputable def Y5 (z0:Xr) (z1:Ht) (z2:Ut) (z3:Vt) (k:Eo→Option ((List SRec)×Int)) (key_0:ByteArray) (file_1:ByteArray):Option ((List SRec)×Int):=
 (z0 file_1).bind fun r0=>
 k (.c0 key_0 0 (r0.1.length:Int) 0 [] r0.1)
noncomputable def Xt (z0:Xr) (z1:Ht) (z2:Ut) (z3:Vt) (k:Eo→Option ((List SRec)×Int)):Eo→Option ((List SRec)×Int)
 | .c0 key_0 at_9 v_24 v_25 out_8 v_23=>
 bif (decide (v_25<v_24)) then
  bif ((decide (0≤v_25)) && (decide (v_25<(v_23.length:Int)))) then
  (z1 key_0 (w64 (v_25+1)) (v_23.getD v_25.toNat (⟨#[]⟩:ByteArray))).bind fun r0=>
  (z2 r0.1).bind fun r1=>
  bif (!r0.2) then
  some (out_8,at_9)
  else
  bif (!r1.2) then
   some (out_8,at_9)
  else
   bif (decide (((out_8.length+1)*80)≤140737488355328)) then
   (z3 (v_23.getD v_25.toNat (⟨#[]⟩:ByteArray))).bind fun r2=>
   k (.c0 key_0 (w64 (at_9+(r2.1.size:Int))) v_24 (w64 (v_25+1)) (out_8++[r1.1]) v_23)
   else none
  else none
 else
  some (out_8,at_9)
noncomputable def Ho:Nat→Eo→Option ((List SRec)×Int)
 | 0,_=>none
 | m+1,s=>Xt Rf Zf KZ Hg (Ho m) s
noncomputable def Io:X5:=Y5 Rf Zf KZ Hg (Ho gas)
theorem BAI:Tells ctx PP 8 cv19 cv31 (fun a=>Io a.1 a.2):=
 have b:∀ z0 z1 z2 z3,CutIs ctx PP 8 Tryd.f8 [] [(34,UAA z0),(35,NAB z1),(36,SAB z2),(37,TAB z3)] cv31 UAB (Xt z0 z1 z2 z3):=fun z0 z1 z2 z3 _ s=>by cases s <;> kernel_rfl
 have e:∀ z0 z1 z2 z3,EntryIs ctx PP 8 [] [(34,UAA z0),(35,NAB z1),(36,SAB z2),(37,TAB z3)] cv19 cv31 UAB (fun k a=>Y5 z0 z1 z2 z3 k a.1 a.2):=fun z0 z1 z2 z3 _ a=>by kernel_rfl
 fn_ok (hc GAG (hc IAH (hc ZAH (hc AAI hl_nil)))) Tryd.func8 (fun s s' h=>by cases s;cases s';cases h;rfl) (fun _=>rfl) (fun _ _=>rfl) (b Rf Zf KZ Hg) (e Rf Zf KZ Hg) gas
noncomputable def CAI {γ:Type} (F:X5):Hd ctx γ:=hdl cv19.dec (fun a=>F a.1 a.2) cv31.enc
abbrev Z5:=SThing→SThing→Option Bool
noncomputable def D6 (a_0:SThing) (b_1:SThing):Option Bool:=
 bif (a_0.fId != b_1.fId) then
 some false
 else
 bif (a_0.fKind != b_1.fKind) then
  some false
 else
  bif (!(a_0.fHidden == b_1.fHidden)) then
  some false
  else
  bif (!(a_0.fFixed == b_1.fFixed)) then
   some false
  else
   bif (!(a_0.fSigns == b_1.fSigns)) then
   some false
   else
   bif (!(a_0.fWraps == b_1.fWraps)) then
    some false
   else
    bif (!((ByteArray.toList a_0.fValue) == (ByteArray.toList b_1.fValue))) then
    some false
    else
    bif (a_0.fNext != b_1.fNext) then
     some false
    else
     some true
noncomputable def Jo:Z5:=D6
theorem DAI:Tells ctx PP 93 cv39 cv1 (fun a=>Jo a.1 a.2):=fn_ok0 hl_nil Tryd.func93 (fun a=>by kernel_rfl:EntryIs0 ctx PP 93 [] [] cv39 cv1 fun a=>D6 a.1 a.2)
noncomputable def EAI {γ:Type} (F:Z5):Hd ctx γ:=hdl cv39.dec (fun a=>F a.1 a.2) cv1.enc
abbrev Yt:=SRec→SRec→Option Bool
noncomputable def F6 (z0:Z5) (a_0:SRec) (b_1:SRec):Option Bool:=
 bif (a_0.fKind != b_1.fKind) then
 some false
 else
 bif (!((ByteArray.toList a_0.fText) == (ByteArray.toList b_1.fText))) then
  some false
 else
  bif (a_0.fNum != b_1.fNum) then
  some false
  else
  (z0 a_0.fThing b_1.fThing).bind fun r0=>
  bif (!r0) then
   some false
  else
   some true
noncomputable def Ig:Yt:=F6 Jo
theorem FAI:Tells ctx PP 38 cv40 cv1 (fun a=>Ig a.1 a.2):=fn_ok0 (hc DAI hl_nil) Tryd.func38 ((fun z0 a=>by kernel_rfl:∀ z0,EntryIs0 ctx PP 38 [] [(93,EAI z0)] cv40 cv1 fun a=>F6 z0 a.1 a.2) Jo)
noncomputable def VAB {γ:Type} (F:Yt):Hd ctx γ:=hdl cv40.dec (fun a=>F a.1 a.2) cv1.enc
abbrev G6:=(List SRec)→(List SRec)→Option Bool
inductive Ko where
 | c0 (a_0:(List SRec)) (b_1:(List SRec)) (i_5:Int)
noncomputable def WAB:Ko→LI
 | .c0 a_0 b_1 i_5=>(tdo Tryd.f9 464,[(0,[.one (.rsl 73 a_0)]),(1,[.one (.rsl 73 b_1)]),(5,[.one (.int .i64 i_5)])],[])
noncomputable def H6 (z0:Yt) (k:Ko→Option Bool) (a_0:(List SRec)) (b_1:(List SRec)):Option Bool:=
 bif ((a_0.length:Int) != (b_1.length:Int)) then
 some false
 else
 k (.c0 a_0 b_1 0)
noncomputable def Zt (z0:Yt) (k:Ko→Option Bool):Ko→Option Bool
 | .c0 a_0 b_1 i_5=>
 bif (decide (i_5<(a_0.length:Int))) then
  bif ((decide (0≤i_5)) && (decide (i_5<(a_0.length:Int)))) then
  bif ((decide (0≤i_5)) && (decide (i_5<(b_1.length:Int)))) then
  (z0 (a_0.getD i_5.toNat (⟨0,⟨#[]⟩,0,⟨0,0,false,false,false,false,⟨#[]⟩,0⟩⟩:SRec)) (b_1.getD i_5.toNat (⟨0,⟨#[]⟩,0,⟨0,0,false,false,false,false,⟨#[]⟩,0⟩⟩:SRec))).bind fun r0=>
  bif (!r0) then
  some false
  else
  k (.c0 a_0 b_1 (w64 (i_5+1)))
  else none
  else none
 else
  some true
noncomputable def Ii:Nat→Ko→Option Bool
 | 0,_=>none
 | m+1,s=>Zt Ig (Ii m) s
noncomputable def Oo:G6:=H6 Ig (Ii gas)
theorem GAI:Tells ctx PP 9 cv41 cv1 (fun a=>Oo a.1 a.2):=
 have b:∀ z0,CutIs ctx PP 9 Tryd.f9 [] [(38,VAB z0)] cv1 WAB (Zt z0):=fun z0 _ s=>by cases s <;> kernel_rfl
 have e:∀ z0,EntryIs ctx PP 9 [] [(38,VAB z0)] cv41 cv1 WAB (fun k a=>H6 z0 k a.1 a.2):=fun z0 _ a=>by kernel_rfl
 fn_ok (hc FAI hl_nil) Tryd.func9 (fun s s' h=>by cases s;cases s';cases h;rfl) (fun _=>rfl) (fun _ _=>rfl) (b Ig) (e Ig) gas
noncomputable def HAI {γ:Type} (F:G6):Hd ctx γ:=hdl cv41.dec (fun a=>F a.1 a.2) cv1.enc
abbrev Ji:=Int→Option ByteArray
inductive Po where
 | c0 (k_0:Int) (out_3:ByteArray)
noncomputable def XAB:Po→LI
 | .c0 k_0 out_3=>(tdo Tryd.f39 480,[(0,[.one (.int .i64 k_0)]),(3,[.one (.str out_3)])],[])
noncomputable def J6 (k:Po→Option ByteArray) (k_0:Int):Option ByteArray:=
 bif (decide (k_0≤0)) then
 some ⟨#[109,48]⟩
 else
 k (.c0 k_0 ⟨#[]⟩)
noncomputable def Au (k:Po→Option ByteArray):Po→Option ByteArray
 | .c0 k_0 out_3=>
 bif (decide (k_0 > 0)) then
  bif (decide (((ofBytes [(w8 (w64 (48+(k_0.tmod 10))))]).size+out_3.size)≤9223372036854775807)) then
  k (.c0 (w64 (k_0.tdiv 10)) ((ofBytes [(w8 (w64 (48+(k_0.tmod 10))))])++out_3))
  else none
 else
  bif (decide (((⟨#[109]⟩:ByteArray).size+out_3.size)≤9223372036854775807)) then
  some ((⟨#[109]⟩:ByteArray)++out_3)
  else none
noncomputable def Qo:Nat→Po→Option ByteArray
 | 0,_=>none
 | m+1,s=>Au (Qo m) s
noncomputable def VZ:Ji:=J6 (Qo gas)
theorem YAB:Tells ctx PP 39 cv2 cv3 (fun a=>VZ a):=
 have b:CutIs ctx PP 39 Tryd.f39 [] [] cv3 XAB (Au):=fun _ s=>by cases s <;> kernel_rfl
 have e:EntryIs ctx PP 39 [] [] cv2 cv3 XAB (fun k a=>J6 k a):=fun _ a=>by kernel_rfl
 fn_ok hl_nil Tryd.func39 (fun s s' h=>by cases s;cases s';cases h;rfl) (fun _=>rfl) (fun _ _=>rfl) b e gas
noncomputable def Du {γ:Type} (F:Ji):Hd ctx γ:=hdl cv2.dec (fun a=>F a) cv3.enc
abbrev L6:=(List SRec)→Int→Option (Int×(List SRec))
inductive Ro where
 | c0 (k_1:Int) (i_5:Int) (a_0r1:(List SRec))
 | c1 (k_1:Int) (i_5:Int) (a_0r1:(List SRec))
 | c2 (k_1:Int) (i_5:Int) (a_0r1:(List SRec))
 | c3 (k_1:Int) (i_5:Int) (a_0r1:(List SRec))
 | c4 (k_1:Int) (i_5:Int) (a_0r1:(List SRec))
 | c5 (k_1:Int) (i_5:Int) (a_0r1:(List SRec))
 | c6 (k_1:Int) (i_5:Int) (a_0r1:(List SRec))
 | c7 (k_1:Int) (i_5:Int) (a_0r1:(List SRec))
 | c8 (k_1:Int) (i_5:Int) (a_0r1:(List SRec))
 | c9 (k_1:Int) (i_5:Int) (a_0r1:(List SRec))
 | c10 (k_1:Int) (i_5:Int) (a_0r1:(List SRec))
noncomputable def ZAB:Ro→LI
 | .c0 k_1 i_5 a_0r1=>(tdo Tryd.f10 208,[(0,[.one (.own 1)]),(1,[.one (.int .i64 k_1)]),(5,[.one (.int .i64 i_5)])],[(1,.io 73 a_0r1)])
 | .c1 k_1 i_5 a_0r1=>(tdo Tryd.f10 3366,[(0,[.one (.own 1)]),(1,[.one (.int .i64 k_1)]),(5,[.one (.int .i64 i_5)])],[(1,.io 73 a_0r1)])
 | .c2 k_1 i_5 a_0r1=>(tdo Tryd.f10 13470,[(0,[.one (.own 1)]),(1,[.one (.int .i64 k_1)]),(5,[.one (.int .i64 i_5)])],[(1,.io 73 a_0r1)])
 | .c3 k_1 i_5 a_0r1=>(tdo Tryd.f10 53886,[(0,[.one (.own 1)]),(1,[.one (.int .i64 k_1)]),(5,[.one (.int .i64 i_5)])],[(1,.io 73 a_0r1)])
 | .c4 k_1 i_5 a_0r1=>(tdo Tryd.f10 215550,[(0,[.one (.own 1)]),(1,[.one (.int .i64 k_1)]),(5,[.one (.int .i64 i_5)])],[(1,.io 73 a_0r1)])
 | .c5 k_1 i_5 a_0r1=>(tdo Tryd.f10 862206,[(0,[.one (.own 1)]),(1,[.one (.int .i64 k_1)]),(5,[.one (.int .i64 i_5)])],[(1,.io 73 a_0r1)])
 | .c6 k_1 i_5 a_0r1=>(tdo Tryd.f10 3448830,[(0,[.one (.own 1)]),(1,[.one (.int .i64 k_1)]),(5,[.one (.int .i64 i_5)])],[(1,.io 73 a_0r1)])
 | .c7 k_1 i_5 a_0r1=>(tdo Tryd.f10 13795326,[(0,[.one (.own 1)]),(1,[.one (.int .i64 k_1)]),(5,[.one (.int .i64 i_5)])],[(1,.io 73 a_0r1)])
 | .c8 k_1 i_5 a_0r1=>(tdo Tryd.f10 55181310,[(0,[.one (.own 1)]),(1,[.one (.int .i64 k_1)]),(5,[.one (.int .i64 i_5)])],[(1,.io 73 a_0r1)])
 | .c9 k_1 i_5 a_0r1=>(tdo Tryd.f10 220725246,[(0,[.one (.own 1)]),(1,[.one (.int .i64 k_1)]),(5,[.one (.int .i64 i_5)])],[(1,.io 73 a_0r1)])
 | .c10 k_1 i_5 a_0r1=>(tdo Tryd.f10 882900990,[(0,[.one (.own 1)]),(1,[.one (.int .i64 k_1)]),(5,[.one (.int .i64 i_5)])],[(1,.io 73 a_0r1)])
noncomputable def O6 (z0:Ji) (k:Ro→Option (Int×(List SRec))) (a_0:(List SRec)) (k_1:Int):Option (Int×(List SRec)):=
 k (.c0 k_1 0 a_0)
noncomputable def LZ (z0:Ji) (k:Ro→Option (Int×(List SRec))):Ro→Option (Int×(List SRec))
 | .c0 k_1 i_5 a_0r1=>
 bif (decide (i_5<(a_0r1.length:Int))) then
  bif ((decide (0≤i_5)) && (decide (i_5<(a_0r1.length:Int)))) then
  k (.c1 (w64 (k_1+1)) i_5 (a_0r1.set i_5.toNat (⟨k_1,(a_0r1.getD i_5.toNat (⟨0,⟨#[]⟩,0,⟨0,0,false,false,false,false,⟨#[]⟩,0⟩⟩:SRec)).fText,(a_0r1.getD i_5.toNat (⟨0,⟨#[]⟩,0,⟨0,0,false,false,false,false,⟨#[]⟩,0⟩⟩:SRec)).fNum,(a_0r1.getD i_5.toNat (⟨0,⟨#[]⟩,0,⟨0,0,false,false,false,false,⟨#[]⟩,0⟩⟩:SRec)).fThing⟩:SRec)))
  else none
 else
  some (k_1,a_0r1)
 | .c1 k_1 i_5 a_0r1=>
 (z0 k_1).bind fun r0=>
 bif ((decide (0≤i_5)) && (decide (i_5<(a_0r1.length:Int)))) then
 k (.c2 (w64 (k_1+1)) i_5 (a_0r1.set i_5.toNat (⟨(a_0r1.getD i_5.toNat (⟨0,⟨#[]⟩,0,⟨0,0,false,false,false,false,⟨#[]⟩,0⟩⟩:SRec)).fKind,r0,(a_0r1.getD i_5.toNat (⟨0,⟨#[]⟩,0,⟨0,0,false,false,false,false,⟨#[]⟩,0⟩⟩:SRec)).fNum,(a_0r1.getD i_5.toNat (⟨0,⟨#[]⟩,0,⟨0,0,false,false,false,false,⟨#[]⟩,0⟩⟩:SRec)).fThing⟩:SRec)))
 else none
 | .c2 k_1 i_5 a_0r1=>
 bif ((decide (0≤i_5)) && (decide (i_5<(a_0r1.length:Int)))) then
 k (.c3 (w64 (k_1+1)) i_5 (a_0r1.set i_5.toNat (⟨(a_0r1.getD i_5.toNat (⟨0,⟨#[]⟩,0,⟨0,0,false,false,false,false,⟨#[]⟩,0⟩⟩:SRec)).fKind,(a_0r1.getD i_5.toNat (⟨0,⟨#[]⟩,0,⟨0,0,false,false,false,false,⟨#[]⟩,0⟩⟩:SRec)).fText,k_1,(a_0r1.getD i_5.toNat (⟨0,⟨#[]⟩,0,⟨0,0,false,false,false,false,⟨#[]⟩,0⟩⟩:SRec)).fThing⟩:SRec)))
 else none
 | .c3 k_1 i_5 a_0r1=>
 bif ((decide (0≤i_5)) && (decide (i_5<(a_0r1.length:Int)))) then
 k (.c4 (w64 (k_1+1)) i_5 (a_0r1.set i_5.toNat (⟨(a_0r1.getD i_5.toNat (⟨0,⟨#[]⟩,0,⟨0,0,false,false,false,false,⟨#[]⟩,0⟩⟩:SRec)).fKind,(a_0r1.getD i_5.toNat (⟨0,⟨#[]⟩,0,⟨0,0,false,false,false,false,⟨#[]⟩,0⟩⟩:SRec)).fText,(a_0r1.getD i_5.toNat (⟨0,⟨#[]⟩,0,⟨0,0,false,false,false,false,⟨#[]⟩,0⟩⟩:SRec)).fNum,⟨k_1,(a_0r1.getD i_5.toNat (⟨0,⟨#[]⟩,0,⟨0,0,false,false,false,false,⟨#[]⟩,0⟩⟩:SRec)).fThing.fKind,(a_0r1.getD i_5.toNat (⟨0,⟨#[]⟩,0,⟨0,0,false,false,false,false,⟨#[]⟩,0⟩⟩:SRec)).fThing.fHidden,(a_0r1.getD i_5.toNat (⟨0,⟨#[]⟩,0,⟨0,0,false,false,false,false,⟨#[]⟩,0⟩⟩:SRec)).fThing.fFixed,(a_0r1.getD i_5.toNat (⟨0,⟨#[]⟩,0,⟨0,0,false,false,false,false,⟨#[]⟩,0⟩⟩:SRec)).fThing.fSigns,(a_0r1.getD i_5.toNat (⟨0,⟨#[]⟩,0,⟨0,0,false,false,false,false,⟨#[]⟩,0⟩⟩:SRec)).fThing.fWraps,(a_0r1.getD i_5.toNat (⟨0,⟨#[]⟩,0,⟨0,0,false,false,false,false,⟨#[]⟩,0⟩⟩:SRec)).fThing.fValue,(a_0r1.getD i_5.toNat (⟨0,⟨#[]⟩,0,⟨0,0,false,false,false,false,⟨#[]⟩,0⟩⟩:SRec)).fThing.fNext⟩⟩:SRec)))
 else none
 | .c4 k_1 i_5 a_0r1=>
 bif ((decide (0≤i_5)) && (decide (i_5<(a_0r1.length:Int)))) then
 k (.c5 (w64 (k_1+1)) i_5 (a_0r1.set i_5.toNat (⟨(a_0r1.getD i_5.toNat (⟨0,⟨#[]⟩,0,⟨0,0,false,false,false,false,⟨#[]⟩,0⟩⟩:SRec)).fKind,(a_0r1.getD i_5.toNat (⟨0,⟨#[]⟩,0,⟨0,0,false,false,false,false,⟨#[]⟩,0⟩⟩:SRec)).fText,(a_0r1.getD i_5.toNat (⟨0,⟨#[]⟩,0,⟨0,0,false,false,false,false,⟨#[]⟩,0⟩⟩:SRec)).fNum,⟨(a_0r1.getD i_5.toNat (⟨0,⟨#[]⟩,0,⟨0,0,false,false,false,false,⟨#[]⟩,0⟩⟩:SRec)).fThing.fId,k_1,(a_0r1.getD i_5.toNat (⟨0,⟨#[]⟩,0,⟨0,0,false,false,false,false,⟨#[]⟩,0⟩⟩:SRec)).fThing.fHidden,(a_0r1.getD i_5.toNat (⟨0,⟨#[]⟩,0,⟨0,0,false,false,false,false,⟨#[]⟩,0⟩⟩:SRec)).fThing.fFixed,(a_0r1.getD i_5.toNat (⟨0,⟨#[]⟩,0,⟨0,0,false,false,false,false,⟨#[]⟩,0⟩⟩:SRec)).fThing.fSigns,(a_0r1.getD i_5.toNat (⟨0,⟨#[]⟩,0,⟨0,0,false,false,false,false,⟨#[]⟩,0⟩⟩:SRec)).fThing.fWraps,(a_0r1.getD i_5.toNat (⟨0,⟨#[]⟩,0,⟨0,0,false,false,false,false,⟨#[]⟩,0⟩⟩:SRec)).fThing.fValue,(a_0r1.getD i_5.toNat (⟨0,⟨#[]⟩,0,⟨0,0,false,false,false,false,⟨#[]⟩,0⟩⟩:SRec)).fThing.fNext⟩⟩:SRec)))
 else none
 | .c5 k_1 i_5 a_0r1=>
 bif ((decide (0≤i_5)) && (decide (i_5<(a_0r1.length:Int)))) then
 k (.c6 (w64 (k_1+1)) i_5 (a_0r1.set i_5.toNat (⟨(a_0r1.getD i_5.toNat (⟨0,⟨#[]⟩,0,⟨0,0,false,false,false,false,⟨#[]⟩,0⟩⟩:SRec)).fKind,(a_0r1.getD i_5.toNat (⟨0,⟨#[]⟩,0,⟨0,0,false,false,false,false,⟨#[]⟩,0⟩⟩:SRec)).fText,(a_0r1.getD i_5.toNat (⟨0,⟨#[]⟩,0,⟨0,0,false,false,false,false,⟨#[]⟩,0⟩⟩:SRec)).fNum,⟨(a_0r1.getD i_5.toNat (⟨0,⟨#[]⟩,0,⟨0,0,false,false,false,false,⟨#[]⟩,0⟩⟩:SRec)).fThing.fId,(a_0r1.getD i_5.toNat (⟨0,⟨#[]⟩,0,⟨0,0,false,false,false,false,⟨#[]⟩,0⟩⟩:SRec)).fThing.fKind,((k_1.tmod 3) == 0),(a_0r1.getD i_5.toNat (⟨0,⟨#[]⟩,0,⟨0,0,false,false,false,false,⟨#[]⟩,0⟩⟩:SRec)).fThing.fFixed,(a_0r1.getD i_5.toNat (⟨0,⟨#[]⟩,0,⟨0,0,false,false,false,false,⟨#[]⟩,0⟩⟩:SRec)).fThing.fSigns,(a_0r1.getD i_5.toNat (⟨0,⟨#[]⟩,0,⟨0,0,false,false,false,false,⟨#[]⟩,0⟩⟩:SRec)).fThing.fWraps,(a_0r1.getD i_5.toNat (⟨0,⟨#[]⟩,0,⟨0,0,false,false,false,false,⟨#[]⟩,0⟩⟩:SRec)).fThing.fValue,(a_0r1.getD i_5.toNat (⟨0,⟨#[]⟩,0,⟨0,0,false,false,false,false,⟨#[]⟩,0⟩⟩:SRec)).fThing.fNext⟩⟩:SRec)))
 else none
 | .c6 k_1 i_5 a_0r1=>
 bif ((decide (0≤i_5)) && (decide (i_5<(a_0r1.length:Int)))) then
 k (.c7 (w64 (k_1+1)) i_5 (a_0r1.set i_5.toNat (⟨(a_0r1.getD i_5.toNat (⟨0,⟨#[]⟩,0,⟨0,0,false,false,false,false,⟨#[]⟩,0⟩⟩:SRec)).fKind,(a_0r1.getD i_5.toNat (⟨0,⟨#[]⟩,0,⟨0,0,false,false,false,false,⟨#[]⟩,0⟩⟩:SRec)).fText,(a_0r1.getD i_5.toNat (⟨0,⟨#[]⟩,0,⟨0,0,false,false,false,false,⟨#[]⟩,0⟩⟩:SRec)).fNum,⟨(a_0r1.getD i_5.toNat (⟨0,⟨#[]⟩,0,⟨0,0,false,false,false,false,⟨#[]⟩,0⟩⟩:SRec)).fThing.fId,(a_0r1.getD i_5.toNat (⟨0,⟨#[]⟩,0,⟨0,0,false,false,false,false,⟨#[]⟩,0⟩⟩:SRec)).fThing.fKind,(a_0r1.getD i_5.toNat (⟨0,⟨#[]⟩,0,⟨0,0,false,false,false,false,⟨#[]⟩,0⟩⟩:SRec)).fThing.fHidden,((k_1.tmod 3) == 0),(a_0r1.getD i_5.toNat (⟨0,⟨#[]⟩,0,⟨0,0,false,false,false,false,⟨#[]⟩,0⟩⟩:SRec)).fThing.fSigns,(a_0r1.getD i_5.toNat (⟨0,⟨#[]⟩,0,⟨0,0,false,false,false,false,⟨#[]⟩,0⟩⟩:SRec)).fThing.fWraps,(a_0r1.getD i_5.toNat (⟨0,⟨#[]⟩,0,⟨0,0,false,false,false,false,⟨#[]⟩,0⟩⟩:SRec)).fThing.fValue,(a_0r1.getD i_5.toNat (⟨0,⟨#[]⟩,0,⟨0,0,false,false,false,false,⟨#[]⟩,0⟩⟩:SRec)).fThing.fNext⟩⟩:SRec)))
 else none
 | .c7 k_1 i_5 a_0r1=>
 bif ((decide (0≤i_5)) && (decide (i_5<(a_0r1.length:Int)))) then
 k (.c8 (w64 (k_1+1)) i_5 (a_0r1.set i_5.toNat (⟨(a_0r1.getD i_5.toNat (⟨0,⟨#[]⟩,0,⟨0,0,false,false,false,false,⟨#[]⟩,0⟩⟩:SRec)).fKind,(a_0r1.getD i_5.toNat (⟨0,⟨#[]⟩,0,⟨0,0,false,false,false,false,⟨#[]⟩,0⟩⟩:SRec)).fText,(a_0r1.getD i_5.toNat (⟨0,⟨#[]⟩,0,⟨0,0,false,false,false,false,⟨#[]⟩,0⟩⟩:SRec)).fNum,⟨(a_0r1.getD i_5.toNat (⟨0,⟨#[]⟩,0,⟨0,0,false,false,false,false,⟨#[]⟩,0⟩⟩:SRec)).fThing.fId,(a_0r1.getD i_5.toNat (⟨0,⟨#[]⟩,0,⟨0,0,false,false,false,false,⟨#[]⟩,0⟩⟩:SRec)).fThing.fKind,(a_0r1.getD i_5.toNat (⟨0,⟨#[]⟩,0,⟨0,0,false,false,false,false,⟨#[]⟩,0⟩⟩:SRec)).fThing.fHidden,(a_0r1.getD i_5.toNat (⟨0,⟨#[]⟩,0,⟨0,0,false,false,false,false,⟨#[]⟩,0⟩⟩:SRec)).fThing.fFixed,((k_1.tmod 3) == 0),(a_0r1.getD i_5.toNat (⟨0,⟨#[]⟩,0,⟨0,0,false,false,false,false,⟨#[]⟩,0⟩⟩:SRec)).fThing.fWraps,(a_0r1.getD i_5.toNat (⟨0,⟨#[]⟩,0,⟨0,0,false,false,false,false,⟨#[]⟩,0⟩⟩:SRec)).fThing.fValue,(a_0r1.getD i_5.toNat (⟨0,⟨#[]⟩,0,⟨0,0,false,false,false,false,⟨#[]⟩,0⟩⟩:SRec)).fThing.fNext⟩⟩:SRec)))
 else none
 | .c8 k_1 i_5 a_0r1=>
 bif ((decide (0≤i_5)) && (decide (i_5<(a_0r1.length:Int)))) then
 k (.c9 (w64 (k_1+1)) i_5 (a_0r1.set i_5.toNat (⟨(a_0r1.getD i_5.toNat (⟨0,⟨#[]⟩,0,⟨0,0,false,false,false,false,⟨#[]⟩,0⟩⟩:SRec)).fKind,(a_0r1.getD i_5.toNat (⟨0,⟨#[]⟩,0,⟨0,0,false,false,false,false,⟨#[]⟩,0⟩⟩:SRec)).fText,(a_0r1.getD i_5.toNat (⟨0,⟨#[]⟩,0,⟨0,0,false,false,false,false,⟨#[]⟩,0⟩⟩:SRec)).fNum,⟨(a_0r1.getD i_5.toNat (⟨0,⟨#[]⟩,0,⟨0,0,false,false,false,false,⟨#[]⟩,0⟩⟩:SRec)).fThing.fId,(a_0r1.getD i_5.toNat (⟨0,⟨#[]⟩,0,⟨0,0,false,false,false,false,⟨#[]⟩,0⟩⟩:SRec)).fThing.fKind,(a_0r1.getD i_5.toNat (⟨0,⟨#[]⟩,0,⟨0,0,false,false,false,false,⟨#[]⟩,0⟩⟩:SRec)).fThing.fHidden,(a_0r1.getD i_5.toNat (⟨0,⟨#[]⟩,0,⟨0,0,false,false,false,false,⟨#[]⟩,0⟩⟩:SRec)).fThing.fFixed,(a_0r1.getD i_5.toNat (⟨0,⟨#[]⟩,0,⟨0,0,false,false,false,false,⟨#[]⟩,0⟩⟩:SRec)).fThing.fSigns,((k_1.tmod 3) == 0),(a_0r1.getD i_5.toNat (⟨0,⟨#[]⟩,0,⟨0,0,false,false,false,false,⟨#[]⟩,0⟩⟩:SRec)).fThing.fValue,(a_0r1.getD i_5.toNat (⟨0,⟨#[]⟩,0,⟨0,0,false,false,false,false,⟨#[]⟩,0⟩⟩:SRec)).fThing.fNext⟩⟩:SRec)))
 else none
 | .c9 k_1 i_5 a_0r1=>
 (z0 k_1).bind fun r0=>
 bif ((decide (0≤i_5)) && (decide (i_5<(a_0r1.length:Int)))) then
 k (.c10 (w64 (k_1+1)) i_5 (a_0r1.set i_5.toNat (⟨(a_0r1.getD i_5.toNat (⟨0,⟨#[]⟩,0,⟨0,0,false,false,false,false,⟨#[]⟩,0⟩⟩:SRec)).fKind,(a_0r1.getD i_5.toNat (⟨0,⟨#[]⟩,0,⟨0,0,false,false,false,false,⟨#[]⟩,0⟩⟩:SRec)).fText,(a_0r1.getD i_5.toNat (⟨0,⟨#[]⟩,0,⟨0,0,false,false,false,false,⟨#[]⟩,0⟩⟩:SRec)).fNum,⟨(a_0r1.getD i_5.toNat (⟨0,⟨#[]⟩,0,⟨0,0,false,false,false,false,⟨#[]⟩,0⟩⟩:SRec)).fThing.fId,(a_0r1.getD i_5.toNat (⟨0,⟨#[]⟩,0,⟨0,0,false,false,false,false,⟨#[]⟩,0⟩⟩:SRec)).fThing.fKind,(a_0r1.getD i_5.toNat (⟨0,⟨#[]⟩,0,⟨0,0,false,false,false,false,⟨#[]⟩,0⟩⟩:SRec)).fThing.fHidden,(a_0r1.getD i_5.toNat (⟨0,⟨#[]⟩,0,⟨0,0,false,false,false,false,⟨#[]⟩,0⟩⟩:SRec)).fThing.fFixed,(a_0r1.getD i_5.toNat (⟨0,⟨#[]⟩,0,⟨0,0,false,false,false,false,⟨#[]⟩,0⟩⟩:SRec)).fThing.fSigns,(a_0r1.getD i_5.toNat (⟨0,⟨#[]⟩,0,⟨0,0,false,false,false,false,⟨#[]⟩,0⟩⟩:SRec)).fThing.fWraps,r0,(a_0r1.getD i_5.toNat (⟨0,⟨#[]⟩,0,⟨0,0,false,false,false,false,⟨#[]⟩,0⟩⟩:SRec)).fThing.fNext⟩⟩:SRec)))
 else none
 | .c10 k_1 i_5 a_0r1=>
 bif ((decide (0≤i_5)) && (decide (i_5<(a_0r1.length:Int)))) then
 k (.c0 (w64 (k_1+1)) (w64 (i_5+1)) (a_0r1.set i_5.toNat (⟨(a_0r1.getD i_5.toNat (⟨0,⟨#[]⟩,0,⟨0,0,false,false,false,false,⟨#[]⟩,0⟩⟩:SRec)).fKind,(a_0r1.getD i_5.toNat (⟨0,⟨#[]⟩,0,⟨0,0,false,false,false,false,⟨#[]⟩,0⟩⟩:SRec)).fText,(a_0r1.getD i_5.toNat (⟨0,⟨#[]⟩,0,⟨0,0,false,false,false,false,⟨#[]⟩,0⟩⟩:SRec)).fNum,⟨(a_0r1.getD i_5.toNat (⟨0,⟨#[]⟩,0,⟨0,0,false,false,false,false,⟨#[]⟩,0⟩⟩:SRec)).fThing.fId,(a_0r1.getD i_5.toNat (⟨0,⟨#[]⟩,0,⟨0,0,false,false,false,false,⟨#[]⟩,0⟩⟩:SRec)).fThing.fKind,(a_0r1.getD i_5.toNat (⟨0,⟨#[]⟩,0,⟨0,0,false,false,false,false,⟨#[]⟩,0⟩⟩:SRec)).fThing.fHidden,(a_0r1.getD i_5.toNat (⟨0,⟨#[]⟩,0,⟨0,0,false,false,false,false,⟨#[]⟩,0⟩⟩:SRec)).fThing.fFixed,(a_0r1.getD i_5.toNat (⟨0,⟨#[]⟩,0,⟨0,0,false,false,false,false,⟨#[]⟩,0⟩⟩:SRec)).fThing.fSigns,(a_0r1.getD i_5.toNat (⟨0,⟨#[]⟩,0,⟨0,0,false,false,false,false,⟨#[]⟩,0⟩⟩:SRec)).fThing.fWraps,(a_0r1.getD i_5.toNat (⟨0,⟨#[]⟩,0,⟨0,0,false,false,false,false,⟨#[]⟩,0⟩⟩:SRec)).fThing.fValue,k_1⟩⟩:SRec)))
 else none
noncomputable def RY:Nat→Ro→Option (Int×(List SRec))
 | 0,_=>none
 | m+1,s=>LZ VZ (RY m) s
noncomputable def Uo:L6:=O6 VZ (RY gas)
theorem IAI:Tells ctx PP 10 cv31 cv42 (fun a=>Uo a.1 a.2):=
 have b:∀ z0,CutIs ctx PP 10 Tryd.f10 [1] [(39,Du z0)] cv42 ZAB (LZ z0):=fun z0 _ s=>by cases s <;> kernel_rfl
 have e:∀ z0,EntryIs ctx PP 10 [1] [(39,Du z0)] cv31 cv42 ZAB (fun k a=>O6 z0 k a.1 a.2):=fun z0 _ a=>by kernel_rfl
 fn_ok (hc YAB hl_nil) Tryd.func10 (fun s s' h=>by cases s <;> cases s' <;> first | (cases h;done) | (cases h;rfl) | exact (rg_ne h (by kernel_rfl)).elim) (fun _=>rfl) (fun _ _=>rfl) (b VZ) (e VZ) gas
noncomputable def JAI {γ:Type} (F:L6):Hd ctx γ:=hdl cv31.dec (fun a=>F a.1 a.2) cv42.enc
abbrev P6:=(List SRec)→Int→Option Int
inductive Vo where
 | c0 (t_0:(List SRec)) (o_1:Int) (a_5:Int)
noncomputable def AAC:Vo→LI
 | .c0 t_0 o_1 a_5=>(tdo Tryd.f11 208,[(0,[.one (.rsl 73 t_0)]),(1,[.one (.int .i64 o_1)]),(5,[.one (.int .i64 a_5)])],[])
noncomputable def U6 (z0:Ji) (k:Vo→Option Int) (t_0:(List SRec)) (o_1:Int):Option Int:=
 k (.c0 t_0 o_1 0)
noncomputable def Eu (z0:Ji) (k:Vo→Option Int):Vo→Option Int
 | .c0 t_0 o_1 a_5=>
 bif (decide (a_5<(t_0.length:Int))) then
  bif ((decide (0≤a_5)) && (decide (a_5<(t_0.length:Int)))) then
  bif ((t_0.getD a_5.toNat (⟨0,⟨#[]⟩,0,⟨0,0,false,false,false,false,⟨#[]⟩,0⟩⟩:SRec)).fKind != o_1) then
  some (-(1:Int))
  else
  bif ((decide (0≤a_5)) && (decide (a_5<(t_0.length:Int)))) then
  (z0 (w64 (o_1+1))).bind fun r0=>
  bif (!((ByteArray.toList (t_0.getD a_5.toNat (⟨0,⟨#[]⟩,0,⟨0,0,false,false,false,false,⟨#[]⟩,0⟩⟩:SRec)).fText) == (ByteArray.toList r0))) then
   some (-(1:Int))
  else
   bif ((decide (0≤a_5)) && (decide (a_5<(t_0.length:Int)))) then
   bif ((t_0.getD a_5.toNat (⟨0,⟨#[]⟩,0,⟨0,0,false,false,false,false,⟨#[]⟩,0⟩⟩:SRec)).fNum != (w64 ((w64 (o_1+1))+1))) then
   some (-(1:Int))
   else
   bif ((decide (0≤a_5)) && (decide (a_5<(t_0.length:Int)))) then
   bif ((t_0.getD a_5.toNat (⟨0,⟨#[]⟩,0,⟨0,0,false,false,false,false,⟨#[]⟩,0⟩⟩:SRec)).fThing.fId != (w64 ((w64 ((w64 (o_1+1))+1))+1))) then
    some (-(1:Int))
   else
    bif ((decide (0≤a_5)) && (decide (a_5<(t_0.length:Int)))) then
    bif ((t_0.getD a_5.toNat (⟨0,⟨#[]⟩,0,⟨0,0,false,false,false,false,⟨#[]⟩,0⟩⟩:SRec)).fThing.fKind != (w64 ((w64 ((w64 ((w64 (o_1+1))+1))+1))+1))) then
    some (-(1:Int))
    else
    bif ((decide (0≤a_5)) && (decide (a_5<(t_0.length:Int)))) then
    bif (!((t_0.getD a_5.toNat (⟨0,⟨#[]⟩,0,⟨0,0,false,false,false,false,⟨#[]⟩,0⟩⟩:SRec)).fThing.fHidden == (((w64 ((w64 ((w64 ((w64 ((w64 (o_1+1))+1))+1))+1))+1)).tmod 3) == 0))) then
     some (-(1:Int))
    else
     bif ((decide (0≤a_5)) && (decide (a_5<(t_0.length:Int)))) then
     bif (!((t_0.getD a_5.toNat (⟨0,⟨#[]⟩,0,⟨0,0,false,false,false,false,⟨#[]⟩,0⟩⟩:SRec)).fThing.fFixed == (((w64 ((w64 ((w64 ((w64 ((w64 ((w64 (o_1+1))+1))+1))+1))+1))+1)).tmod 3) == 0))) then
     some (-(1:Int))
     else
     bif ((decide (0≤a_5)) && (decide (a_5<(t_0.length:Int)))) then
     bif (!((t_0.getD a_5.toNat (⟨0,⟨#[]⟩,0,⟨0,0,false,false,false,false,⟨#[]⟩,0⟩⟩:SRec)).fThing.fSigns == (((w64 ((w64 ((w64 ((w64 ((w64 ((w64 ((w64 (o_1+1))+1))+1))+1))+1))+1))+1)).tmod 3) == 0))) then
      some (-(1:Int))
     else
      bif ((decide (0≤a_5)) && (decide (a_5<(t_0.length:Int)))) then
      bif (!((t_0.getD a_5.toNat (⟨0,⟨#[]⟩,0,⟨0,0,false,false,false,false,⟨#[]⟩,0⟩⟩:SRec)).fThing.fWraps == (((w64 ((w64 ((w64 ((w64 ((w64 ((w64 ((w64 ((w64 (o_1+1))+1))+1))+1))+1))+1))+1))+1)).tmod 3) == 0))) then
      some (-(1:Int))
      else
      bif ((decide (0≤a_5)) && (decide (a_5<(t_0.length:Int)))) then
      (z0 (w64 ((w64 ((w64 ((w64 ((w64 ((w64 ((w64 ((w64 ((w64 (o_1+1))+1))+1))+1))+1))+1))+1))+1))+1))).bind fun r1=>
      bif (!((ByteArray.toList (t_0.getD a_5.toNat (⟨0,⟨#[]⟩,0,⟨0,0,false,false,false,false,⟨#[]⟩,0⟩⟩:SRec)).fThing.fValue) == (ByteArray.toList r1))) then
       some (-(1:Int))
      else
       bif ((decide (0≤a_5)) && (decide (a_5<(t_0.length:Int)))) then
       bif ((t_0.getD a_5.toNat (⟨0,⟨#[]⟩,0,⟨0,0,false,false,false,false,⟨#[]⟩,0⟩⟩:SRec)).fThing.fNext != (w64 ((w64 ((w64 ((w64 ((w64 ((w64 ((w64 ((w64 ((w64 ((w64 (o_1+1))+1))+1))+1))+1))+1))+1))+1))+1))+1))) then
       some (-(1:Int))
       else
       k (.c0 t_0 (w64 ((w64 ((w64 ((w64 ((w64 ((w64 ((w64 ((w64 ((w64 ((w64 ((w64 (o_1+1))+1))+1))+1))+1))+1))+1))+1))+1))+1))+1)) (w64 (a_5+1)))
       else none
      else none
      else none
     else none
     else none
    else none
    else none
   else none
   else none
  else none
  else none
 else
  some o_1
noncomputable def Jg:Nat→Vo→Option Int
 | 0,_=>none
 | m+1,s=>Eu VZ (Jg m) s
noncomputable def Xo:P6:=U6 VZ (Jg gas)
theorem KAI:Tells ctx PP 11 cv43 cv2 (fun a=>Xo a.1 a.2):=
 have b:∀ z0,CutIs ctx PP 11 Tryd.f11 [] [(39,Du z0)] cv2 AAC (Eu z0):=fun z0 _ s=>by cases s <;> kernel_rfl
 have e:∀ z0,EntryIs ctx PP 11 [] [(39,Du z0)] cv43 cv2 AAC (fun k a=>U6 z0 k a.1 a.2):=fun z0 _ a=>by kernel_rfl
 fn_ok (hc YAB hl_nil) Tryd.func11 (fun s s' h=>by cases s;cases s';cases h;rfl) (fun _=>rfl) (fun _ _=>rfl) (b VZ) (e VZ) gas
noncomputable def LAI {γ:Type} (F:P6):Hd ctx γ:=hdl cv43.dec (fun a=>F a.1 a.2) cv2.enc
abbrev BAC:=ByteArray→ByteArray→Option Bool
noncomputable def V6 (z0:Bz) (z1:X5) (z2:G6) (z3:L6) (z4:P6) (aKey_0:ByteArray) (aFile_1:ByteArray):Option Bool:=
 bif (decide ((aKey_0.size:Int) > 1048576)) then
 some true
 else
 bif (decide ((aFile_1.size:Int) > 1048576)) then
  some true
 else
  (z0 aKey_0 aFile_1).bind fun r0=>
  (z1 aKey_0 aFile_1).bind fun r1=>
  (z2 r1.1 r0.1).bind fun r2=>
  bif (!r2) then
  some false
  else
  bif (r1.2 != r0.2) then
   some false
  else
   (z3 r1.1 1).bind fun r3=>
   (z4 r3.2 1).bind fun r4=>
   bif (decide (r4<0)) then
   some false
   else
   bif (r4 != r3.1) then
    some false
   else
    (z1 aKey_0 aFile_1).bind fun r5=>
    (z2 r5.1 r0.1).bind fun r6=>
    bif (!r6) then
    some false
    else
    bif (r5.2 != r0.2) then
     some false
    else
     (z4 r3.2 1).bind fun r7=>
     bif (decide (r7<0)) then
     some false
     else
     bif (r7 != r3.1) then
      some false
     else
      some true
noncomputable def laws_FnExactReadBook:BAC:=V6 Rl Io Oo Uo Xo
theorem ok_laws_FnExactReadBook:Tells ctx PP 3 cv19 cv1 (fun a=>laws_FnExactReadBook a.1 a.2):=fn_ok0 (hc BAG (hc BAI (hc GAI (hc IAI (hc KAI hl_nil))))) Tryd.func3 ((fun z0 z1 z2 z3 z4 a=>by kernel_rfl:∀ z0 z1 z2 z3 z4,EntryIs0 ctx PP 3 [] [(7,CAG z0),(8,CAI z1),(9,HAI z2),(10,JAI z3),(11,LAI z4)] cv19 cv1 fun a=>V6 z0 z1 z2 z3 z4 a.1 a.2) Rl Io Oo Uo Xo)
noncomputable def UAN {γ:Type} (F:BAC):Hd ctx γ:=hdl cv19.dec (fun a=>F a.1 a.2) cv1.enc
end Go.Proofs.YthfpmhalgimbbaaDoor.G

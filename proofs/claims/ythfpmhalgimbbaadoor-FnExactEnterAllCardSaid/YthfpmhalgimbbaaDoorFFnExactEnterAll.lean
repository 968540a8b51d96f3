/- Functions of the program, told by plain functions: part 1 of 1. -/
import Derived.Test.YthfpmhalgimbbaaDoorCtx
namespace Go.Proofs.YthfpmhalgimbbaaDoor.G
open Go Go.Ev
abbrev Hf:=SThing→Int→Option Int
noncomputable def Iy (a_0:SThing) (left_1:Int):Option Int:=
 bif (decide ((w64 (left_1 - (a_0.fValue.size:Int)))<0)) then
 some (-(1:Int))
 else
 some (w64 (left_1 - (a_0.fValue.size:Int)))
noncomputable def Qa:Hf:=Iy
theorem Jy:Tells ctx PP 94 cv44 cv2 (fun a=>Qa a.1 a.2):=fn_ok0 hl_nil Tryd.func94 (fun a=>by kernel_rfl:EntryIs0 ctx PP 94 [] [] cv44 cv2 fun a=>Iy a.1 a.2)
noncomputable def Ep {γ:Type} (F:Hf):Hd ctx γ:=hdl cv44.dec (fun a=>F a.1 a.2) cv2.enc
abbrev Fp:=(List SThing)→Int→Option Int
inductive Jf where
 | c0 (a_0:(List SThing)) (left_1:Int) (i_5:Int)
noncomputable def Ky:Jf→LI
 | .c0 a_0 left_1 i_5=>(tdo Tryd.f40 976,[(0,[.one (.rsl 81 a_0)]),(1,[.one (.int .i64 left_1)]),(5,[.one (.int .i64 i_5)])],[])
noncomputable def Gp (z0:Hf) (k:Jf→Option Int) (a_0:(List SThing)) (left_1:Int):Option Int:=
 bif (decide ((w64 (left_1 - (a_0.length:Int)))<0)) then
 some (-(1:Int))
 else
 k (.c0 a_0 (w64 (left_1 - (a_0.length:Int))) 0)
noncomputable def Ip (z0:Hf) (k:Jf→Option Int):Jf→Option Int
 | .c0 a_0 left_1 i_5=>
 bif (decide (i_5<(a_0.length:Int))) then
  bif ((decide (0≤i_5)) && (decide (i_5<(a_0.length:Int)))) then
  (z0 (a_0.getD i_5.toNat (⟨0,0,false,false,false,false,⟨#[]⟩,0⟩:SThing)) left_1).bind fun r0=>
  bif (decide (r0<0)) then
  some (-(1:Int))
  else
  k (.c0 a_0 r0 (w64 (i_5+1)))
  else none
 else
  some left_1
noncomputable def Dl:Nat→Jf→Option Int
 | 0,_=>none
 | m+1,s=>Ip Qa (Dl m) s
noncomputable def Rf:Fp:=Gp Qa (Dl gas)
theorem G9:Tells ctx PP 40 cv45 cv2 (fun a=>Rf a.1 a.2):=
 have b:∀ z0,CutIs ctx PP 40 Tryd.f40 [] [(94,Ep z0)] cv2 Ky (Ip z0):=fun z0 _ s=>by cases s <;> kernel_rfl
 have e:∀ z0,EntryIs ctx PP 40 [] [(94,Ep z0)] cv45 cv2 Ky (fun k a=>Gp z0 k a.1 a.2):=fun z0 _ a=>by kernel_rfl
 fn_ok (hc Jy hl_nil) Tryd.func40 (fun s s' h=>by cases s;cases s';cases h;rfl) (fun _=>rfl) (fun _ _=>rfl) (b Qa) (e Qa) gas
noncomputable def H9 {γ:Type} (F:Fp):Hd ctx γ:=hdl cv45.dec (fun a=>F a.1 a.2) cv2.enc
abbrev Jp:=SBook→Int→Option Int
noncomputable def Np (z0:Fp) (a_0:SBook) (left_1:Int):Option Int:=
 bif (decide ((w64 (left_1 - (a_0.fWord.size:Int)))<0)) then
 some (-(1:Int))
 else
 (z0 a_0.fThings (w64 (left_1 - (a_0.fWord.size:Int)))).bind fun r0=>
 bif (decide (r0<0)) then
  some (-(1:Int))
 else
  bif (decide ((w64 (r0 - (a_0.fChain.size:Int)))<0)) then
  some (-(1:Int))
  else
  some (w64 (r0 - (a_0.fChain.size:Int)))
noncomputable def Tf:Jp:=Np Rf
theorem I9:Tells ctx PP 12 cv46 cv2 (fun a=>Tf a.1 a.2):=fn_ok0 (hc G9 hl_nil) Tryd.func12 ((fun z0 a=>by kernel_rfl:∀ z0,EntryIs0 ctx PP 12 [] [(40,H9 z0)] cv46 cv2 fun a=>Np z0 a.1 a.2) Rf)
noncomputable def J9 {γ:Type} (F:Jp):Hd ctx γ:=hdl cv46.dec (fun a=>F a.1 a.2) cv2.enc
abbrev Gl:=SRec→Int→Option Int
noncomputable def Qp (z0:Hf) (a_0:SRec) (left_1:Int):Option Int:=
 bif (decide ((w64 (left_1 - (a_0.fText.size:Int)))<0)) then
 some (-(1:Int))
 else
 (z0 a_0.fThing (w64 (left_1 - (a_0.fText.size:Int)))).bind fun r0=>
 bif (decide (r0<0)) then
  some (-(1:Int))
 else
  some r0
noncomputable def Eb:Gl:=Qp Qa
theorem L9:Tells ctx PP 41 cv47 cv2 (fun a=>Eb a.1 a.2):=fn_ok0 (hc Jy hl_nil) Tryd.func41 ((fun z0 a=>by kernel_rfl:∀ z0,EntryIs0 ctx PP 41 [] [(94,Ep z0)] cv47 cv2 fun a=>Qp z0 a.1 a.2) Qa)
noncomputable def Ny {γ:Type} (F:Gl):Hd ctx γ:=hdl cv47.dec (fun a=>F a.1 a.2) cv2.enc
abbrev Vp:=(List SRec)→Int→Option Int
inductive Uf where
 | c0 (a_0:(List SRec)) (left_1:Int) (i_5:Int)
noncomputable def Oy:Uf→LI
 | .c0 a_0 left_1 i_5=>(tdo Tryd.f13 976,[(0,[.one (.rsl 83 a_0)]),(1,[.one (.int .i64 left_1)]),(5,[.one (.int .i64 i_5)])],[])
noncomputable def Wp (z0:Gl) (k:Uf→Option Int) (a_0:(List SRec)) (left_1:Int):Option Int:=
 bif (decide ((w64 (left_1 - (a_0.length:Int)))<0)) then
 some (-(1:Int))
 else
 k (.c0 a_0 (w64 (left_1 - (a_0.length:Int))) 0)
noncomputable def Xp (z0:Gl) (k:Uf→Option Int):Uf→Option Int
 | .c0 a_0 left_1 i_5=>
 bif (decide (i_5<(a_0.length:Int))) then
  bif ((decide (0≤i_5)) && (decide (i_5<(a_0.length:Int)))) then
  (z0 (a_0.getD i_5.toNat (⟨0,⟨#[]⟩,0,⟨0,0,false,false,false,false,⟨#[]⟩,0⟩⟩:SRec)) left_1).bind fun r0=>
  bif (decide (r0<0)) then
  some (-(1:Int))
  else
  k (.c0 a_0 r0 (w64 (i_5+1)))
  else none
 else
  some left_1
noncomputable def Hl:Nat→Uf→Option Int
 | 0,_=>none
 | m+1,s=>Xp Eb (Hl m) s
noncomputable def Vf:Vp:=Wp Eb (Hl gas)
theorem N9:Tells ctx PP 13 cv48 cv2 (fun a=>Vf a.1 a.2):=
 have b:∀ z0,CutIs ctx PP 13 Tryd.f13 [] [(41,Ny z0)] cv2 Oy (Xp z0):=fun z0 _ s=>by cases s <;> kernel_rfl
 have e:∀ z0,EntryIs ctx PP 13 [] [(41,Ny z0)] cv48 cv2 Oy (fun k a=>Wp z0 k a.1 a.2):=fun z0 _ a=>by kernel_rfl
 fn_ok (hc L9 hl_nil) Tryd.func13 (fun s s' h=>by cases s;cases s';cases h;rfl) (fun _=>rfl) (fun _ _=>rfl) (b Eb) (e Eb) gas
noncomputable def O9 {γ:Type} (F:Vp):Hd ctx γ:=hdl cv48.dec (fun a=>F a.1 a.2) cv2.enc
abbrev Xf:=SThing→Option SThing
noncomputable def Yp (a_0:SThing):Option SThing:=
 some a_0
noncomputable def Aa:Xf:=Yp
theorem Py:Tells ctx PP 97 cv26 cv26 (fun a=>Aa a):=fn_ok0 hl_nil Tryd.func97 (fun a=>by kernel_rfl:EntryIs0 ctx PP 97 [] [] cv26 cv26 fun a=>Yp a)
noncomputable def Zp {γ:Type} (F:Xf):Hd ctx γ:=hdl cv26.dec (fun a=>F a) cv26.enc
abbrev Aq:=(List SThing)→Option (List SThing)
inductive Yf where
 | c0 (a_0:(List SThing)) (i_4:Int) (out_3:(List SThing))
noncomputable def Qy:Yf→LI
 | .c0 a_0 i_4 out_3=>(tdo Tryd.f43 464,[(0,[.one (.rsl 81 a_0)]),(3,[.one (.own 240)]),(4,[.one (.int .i64 i_4)])],[(240,.sl 71 out_3)])
noncomputable def Bq (z0:Xf) (k:Yf→Option (List SThing)) (a_0:(List SThing)):Option (List SThing):=
 bif ((((decide (0≤(a_0.length:Int))) && (decide ((a_0.length:Int)≤(a_0.length:Int)))) && (decide ((a_0.length:Int)≤9223372036854775807))) && (decide (((a_0.length:Int).toNat*48)≤140737488355328))) then
 k (.c0 a_0 0 (List.replicate (a_0.length:Int).toNat (⟨0,0,false,false,false,false,⟨#[]⟩,0⟩:SThing)))
 else none
noncomputable def Il (z0:Xf) (k:Yf→Option (List SThing)):Yf→Option (List SThing)
 | .c0 a_0 i_4 out_3=>
 bif (decide (i_4<(a_0.length:Int))) then
  bif ((decide (0≤i_4)) && (decide (i_4<(a_0.length:Int)))) then
  (z0 (a_0.getD i_4.toNat (⟨0,0,false,false,false,false,⟨#[]⟩,0⟩:SThing))).bind fun r0=>
  bif ((decide (0≤i_4)) && (decide (i_4<(out_3.length:Int)))) then
  k (.c0 a_0 (w64 (i_4+1)) (out_3.set i_4.toNat r0))
  else none
  else none
 else
  some out_3
noncomputable def Fb:Nat→Yf→Option (List SThing)
 | 0,_=>none
 | m+1,s=>Il Aa (Fb m) s
noncomputable def Zf:Aq:=Bq Aa (Fb gas)
theorem P9:Tells ctx PP 43 cv49 cv50 (fun a=>Zf a):=
 have b:∀ z0,CutIs ctx PP 43 Tryd.f43 [] [(97,Zp z0)] cv50 Qy (Il z0):=fun z0 _ s=>by cases s <;> kernel_rfl
 have e:∀ z0,EntryIs ctx PP 43 [] [(97,Zp z0)] cv49 cv50 Qy (fun k a=>Bq z0 k a):=fun z0 _ a=>by kernel_rfl
 fn_ok (hc Py hl_nil) Tryd.func43 (fun s s' h=>by cases s;cases s';cases h;rfl) (fun _=>rfl) (fun _ _=>rfl) (b Aa) (e Aa) gas
noncomputable def Q9 {γ:Type} (F:Aq):Hd ctx γ:=hdl cv49.dec (fun a=>F a) cv50.enc
abbrev Dq:=SBook→Option SBook
noncomputable def Fq (z0:Aq) (a_0:SBook):Option SBook:=
 (z0 a_0.fThings).bind fun r0=>
 some ⟨a_0.fWord,a_0.fTries,r0,a_0.fLast,a_0.fChain,a_0.fCount⟩
noncomputable def Ag:Dq:=Fq Zf
theorem S9:Tells ctx PP 15 cv51 cv52 (fun a=>Ag a):=fn_ok0 (hc P9 hl_nil) Tryd.func15 ((fun z0 a=>by kernel_rfl:∀ z0,EntryIs0 ctx PP 15 [] [(43,Q9 z0)] cv51 cv52 fun a=>Fq z0 a) Zf)
noncomputable def U9 {γ:Type} (F:Dq):Hd ctx γ:=hdl cv51.dec (fun a=>F a) cv52.enc
abbrev Jl:=SRec→Option SRec
noncomputable def Gq (z0:Xf) (a_0:SRec):Option SRec:=
 (z0 a_0.fThing).bind fun r0=>
 some ⟨a_0.fKind,a_0.fText,a_0.fNum,r0⟩
noncomputable def Ib:Jl:=Gq Aa
theorem V9:Tells ctx PP 44 cv29 cv29 (fun a=>Ib a):=fn_ok0 (hc Py hl_nil) Tryd.func44 ((fun z0 a=>by kernel_rfl:∀ z0,EntryIs0 ctx PP 44 [] [(97,Zp z0)] cv29 cv29 fun a=>Gq z0 a) Aa)
noncomputable def Ry {γ:Type} (F:Jl):Hd ctx γ:=hdl cv29.dec (fun a=>F a) cv29.enc
abbrev Hq:=(List SRec)→Option (List SRec)
inductive Bg where
 | c0 (a_0:(List SRec)) (i_4:Int) (out_3:(List SRec))
noncomputable def Uy:Bg→LI
 | .c0 a_0 i_4 out_3=>(tdo Tryd.f16 464,[(0,[.one (.rsl 83 a_0)]),(3,[.one (.own 240)]),(4,[.one (.int .i64 i_4)])],[(240,.sl 73 out_3)])
noncomputable def Iq (z0:Jl) (k:Bg→Option (List SRec)) (a_0:(List SRec)):Option (List SRec):=
 bif ((((decide (0≤(a_0.length:Int))) && (decide ((a_0.length:Int)≤(a_0.length:Int)))) && (decide ((a_0.length:Int)≤9223372036854775807))) && (decide (((a_0.length:Int).toNat*80)≤140737488355328))) then
 k (.c0 a_0 0 (List.replicate (a_0.length:Int).toNat (⟨0,⟨#[]⟩,0,⟨0,0,false,false,false,false,⟨#[]⟩,0⟩⟩:SRec)))
 else none
noncomputable def Ll (z0:Jl) (k:Bg→Option (List SRec)):Bg→Option (List SRec)
 | .c0 a_0 i_4 out_3=>
 bif (decide (i_4<(a_0.length:Int))) then
  bif ((decide (0≤i_4)) && (decide (i_4<(a_0.length:Int)))) then
  (z0 (a_0.getD i_4.toNat (⟨0,⟨#[]⟩,0,⟨0,0,false,false,false,false,⟨#[]⟩,0⟩⟩:SRec))).bind fun r0=>
  bif ((decide (0≤i_4)) && (decide (i_4<(out_3.length:Int)))) then
  k (.c0 a_0 (w64 (i_4+1)) (out_3.set i_4.toNat r0))
  else none
  else none
 else
  some out_3
noncomputable def Jb:Nat→Bg→Option (List SRec)
 | 0,_=>none
 | m+1,s=>Ll Ib (Jb m) s
noncomputable def Fg:Hq:=Iq Ib (Jb gas)
theorem W9:Tells ctx PP 16 cv53 cv54 (fun a=>Fg a):=
 have b:∀ z0,CutIs ctx PP 16 Tryd.f16 [] [(44,Ry z0)] cv54 Uy (Ll z0):=fun z0 _ s=>by cases s <;> kernel_rfl
 have e:∀ z0,EntryIs ctx PP 16 [] [(44,Ry z0)] cv53 cv54 Uy (fun k a=>Iq z0 k a):=fun z0 _ a=>by kernel_rfl
 fn_ok (hc V9 hl_nil) Tryd.func16 (fun s s' h=>by cases s;cases s';cases h;rfl) (fun _=>rfl) (fun _ _=>rfl) (b Ib) (e Ib) gas
noncomputable def X9 {γ:Type} (F:Hq):Hd ctx γ:=hdl cv53.dec (fun a=>F a) cv54.enc
abbrev Td:=SBook→Option SBook
noncomputable def Jq (b_0:SBook):Option SBook:=
 bif (decide (((0+b_0.fThings.length)*48)≤140737488355328)) then
 some ⟨b_0.fWord,b_0.fTries,([]++b_0.fThings),b_0.fLast,b_0.fChain,b_0.fCount⟩
 else none
noncomputable def EZ:Td:=Jq
theorem Vy:Tells ctx PP 63 cv56 cv52 (fun a=>EZ a):=fn_ok0 hl_nil Tryd.func63 (fun a=>by kernel_rfl:EntryIs0 ctx PP 63 [] [] cv56 cv52 fun a=>Jq a)
noncomputable def Nl {γ:Type} (F:Td):Hd ctx γ:=hdl cv56.dec (fun a=>F a) cv52.enc
abbrev Nb:=Int→Int→Int→Option Bool
noncomputable def Wy (x_0:Int) (least_1:Int) (most_2:Int):Option Bool:=
 bif (decide (x_0≥least_1)) then
 some (decide (x_0≤most_2))
 else
 some false
noncomputable def AZ:Nb:=Wy
theorem Ol:Tells ctx PP 79 cv0 cv1 (fun a=>AZ a.1 a.2.1 a.2.2):=fn_ok0 hl_nil Tryd.func79 (fun a=>by kernel_rfl:EntryIs0 ctx PP 79 [] [] cv0 cv1 fun a=>Wy a.1 a.2.1 a.2.2)
noncomputable def Gg {γ:Type} (F:Nb):Hd ctx γ:=hdl cv0.dec (fun a=>F a.1 a.2.1 a.2.2) cv1.enc
abbrev Hg:=Int→Option ByteArray
inductive Ig where
 | c0 (n_0:Int) (out_3:(List Int))
noncomputable def Xy:Ig→LI
 | .c0 n_0 out_3=>(tdo Tryd.f80 224,[(0,[.one (.int .i64 n_0)]),(3,[.one (.own 240)])],[(240,.sl 5 out_3)])
noncomputable def Yy (k:Ig→Option ByteArray) (n_0:Int):Option ByteArray:=
 k (.c0 n_0 [])
noncomputable def Ql (k:Ig→Option ByteArray):Ig→Option ByteArray
 | .c0 n_0 out_3=>
 bif (decide (n_0 > 127)) then
  bif (decide (((out_3.length+1)*1)≤140737488355328)) then
  k (.c0 (w64 (n_0.tdiv 128)) (out_3++[(w8 (w64 ((n_0.tmod 128)+128)))]))
  else none
 else
  bif (decide (((out_3.length+1)*1)≤140737488355328)) then
  some (ofBytes (out_3++[(w8 n_0)]))
  else none
noncomputable def Jg:Nat→Ig→Option ByteArray
 | 0,_=>none
 | m+1,s=>Ql (Jg m) s
noncomputable def Ua:Hg:=Yy (Jg gas)
theorem Kq:Tells ctx PP 80 cv2 cv3 (fun a=>Ua a):=
 have b:CutIs ctx PP 80 Tryd.f80 [] [] cv3 Xy (Ql):=fun _ s=>by cases s <;> kernel_rfl
 have e:EntryIs ctx PP 80 [] [] cv2 cv3 Xy (fun k a=>Yy k a):=fun _ a=>by kernel_rfl
 fn_ok hl_nil Tryd.func80 (fun s s' h=>by cases s;cases s';cases h;rfl) (fun _=>rfl) (fun _ _=>rfl) b e gas
noncomputable def Nq {γ:Type} (F:Hg):Hd ctx γ:=hdl cv2.dec (fun a=>F a) cv3.enc
abbrev Og:=SThing→Option Bool
noncomputable def Oq (z0:Nb) (x_0:SThing):Option Bool:=
 (z0 x_0.fId 1 1000).bind fun r0=>
 bif (!r0) then
 some false
 else
 (z0 x_0.fKind 1 3).bind fun r1=>
 bif (!r1) then
  some false
 else
  (z0 x_0.fNext 0 16).bind fun r2=>
  bif (!r2) then
  some false
  else
  bif (x_0.fKind != 2) then
   bif (x_0.fNext != 0) then
   some false
   else
   bif x_0.fSigns then
    some false
   else
    bif (x_0.fKind != 1) then
    bif x_0.fWraps then
     some false
    else
     bif (x_0.fKind == 3) then
     some (decide ((x_0.fValue.size:Int)≤100))
     else
     some ((x_0.fValue.size:Int) == 32)
    else
    bif (x_0.fKind == 3) then
     some (decide ((x_0.fValue.size:Int)≤100))
    else
     some ((x_0.fValue.size:Int) == 32)
  else
   bif (x_0.fKind != 1) then
   bif x_0.fWraps then
    some false
   else
    bif (x_0.fKind == 3) then
    some (decide ((x_0.fValue.size:Int)≤100))
    else
    some ((x_0.fValue.size:Int) == 32)
   else
   bif (x_0.fKind == 3) then
    some (decide ((x_0.fValue.size:Int)≤100))
   else
    some ((x_0.fValue.size:Int) == 32)
noncomputable def Ba:Og:=Oq AZ
theorem Zy:Tells ctx PP 138 cv26 cv1 (fun a=>Ba a):=fn_ok0 (hc Ol hl_nil) Tryd.func138 ((fun z0 a=>by kernel_rfl:∀ z0,EntryIs0 ctx PP 138 [] [(79,Gg z0)] cv26 cv1 fun a=>Oq z0 a) AZ)
noncomputable def Pq {γ:Type} (F:Og):Hd ctx γ:=hdl cv26.dec (fun a=>F a) cv1.enc
abbrev Qq:=Bool→Int→Option Int
noncomputable def Az (x_0:Bool) (n_1:Int):Option Int:=
 bif x_0 then
 some n_1
 else
 some 0
noncomputable def Rl:Qq:=Az
theorem Y9:Tells ctx PP 142 cv27 cv2 (fun a=>Rl a.1 a.2):=fn_ok0 hl_nil Tryd.func142 (fun a=>by kernel_rfl:EntryIs0 ctx PP 142 [] [] cv27 cv2 fun a=>Az a.1 a.2)
noncomputable def Z9 {γ:Type} (F:Qq):Hd ctx γ:=hdl cv27.dec (fun a=>F a.1 a.2) cv2.enc
abbrev Rq:=Int→Option ByteArray
noncomputable def Tq (n_0:Int):Option ByteArray:=
 bif (decide ((n_0.tmod 256)<0)) then
 some (ofBytes [(w8 (w64 ((n_0.tmod 256)+256)))])
 else
 some (ofBytes [(w8 (n_0.tmod 256))])
noncomputable def Pg:Rq:=Tq
theorem AAA:Tells ctx PP 117 cv2 cv3 (fun a=>Pg a):=fn_ok0 hl_nil Tryd.func117 (fun a=>by kernel_rfl:EntryIs0 ctx PP 117 [] [] cv2 cv3 fun a=>Tq a)
noncomputable def BAA {γ:Type} (F:Rq):Hd ctx γ:=hdl cv2.dec (fun a=>F a) cv3.enc
abbrev Vq:=ByteArray→Option ByteArray
noncomputable def Wq (z0:Hg) (s_0:ByteArray):Option ByteArray:=
 (z0 (s_0.size:Int)).bind fun r0=>
 bif (decide ((r0.size+s_0.size)≤9223372036854775807)) then
 some (r0++s_0)
 else none
noncomputable def Qg:Vq:=Wq Ua
theorem CAA:Tells ctx PP 143 cv3 cv3 (fun a=>Qg a):=fn_ok0 (hc Kq hl_nil) Tryd.func143 ((fun z0 a=>by kernel_rfl:∀ z0,EntryIs0 ctx PP 143 [] [(80,Nq z0)] cv3 cv3 fun a=>Wq z0 a) Ua)
noncomputable def DAA {γ:Type} (F:Vq):Hd ctx γ:=hdl cv3.dec (fun a=>F a) cv3.enc
abbrev Xq:=SThing→Option (ByteArray×Bool)
noncomputable def Yq (z0:Og) (z1:Qq) (z2:Hg) (z3:Rq) (z4:Vq) (x_0:SThing):Option (ByteArray×Bool):=
 (z0 x_0).bind fun r0=>
 bif (!r0) then
 some (⟨#[]⟩,false)
 else
 (z1 x_0.fHidden 1).bind fun r1=>
 (z1 x_0.fFixed 2).bind fun r2=>
 (z1 x_0.fSigns 4).bind fun r3=>
 (z1 x_0.fWraps 8).bind fun r4=>
 (z2 x_0.fId).bind fun r5=>
 (z3 x_0.fKind).bind fun r6=>
 bif (decide ((r5.size+r6.size)≤9223372036854775807)) then
 (z3 (w64 ((w64 ((w64 (r1+r2))+r3))+r4))).bind fun r7=>
 bif (decide (((r5++r6).size+r7.size)≤9223372036854775807)) then
 (z4 x_0.fValue).bind fun r8=>
 bif (decide ((((r5++r6)++r7).size+r8.size)≤9223372036854775807)) then
 (z2 x_0.fNext).bind fun r9=>
 bif (decide (((((r5++r6)++r7)++r8).size+r9.size)≤9223372036854775807)) then
 some (((((r5++r6)++r7)++r8)++r9),true)
 else none
 else none
 else none
 else none
noncomputable def Ug:Xq:=Yq Ba Rl Ua Pg Qg
theorem EAA:Tells ctx PP 119 cv26 cv8 (fun a=>Ug a):=fn_ok0 (hc Zy (hc Y9 (hc Kq (hc AAA (hc CAA hl_nil))))) Tryd.func119 ((fun z0 z1 z2 z3 z4 a=>by kernel_rfl:∀ z0 z1 z2 z3 z4,EntryIs0 ctx PP 119 [] [(138,Pq z0),(142,Z9 z1),(80,Nq z2),(117,BAA z3),(143,DAA z4)] cv26 cv8 fun a=>Yq z0 z1 z2 z3 z4 a) Ba Rl Ua Pg Qg)
noncomputable def FAA {γ:Type} (F:Xq):Hd ctx γ:=hdl cv26.dec (fun a=>F a) cv8.enc
abbrev Sl:=SRec→Option (ByteArray×Bool)
noncomputable def Zq (z0:Nb) (z1:Hg) (z2:Xq) (r_0:SRec):Option (ByteArray×Bool):=
 bif (r_0.fKind == 1) then
 bif ((r_0.fText.size:Int) == 32) then
  bif (r_0.fNum == 0) then
  bif ((r_0.fThing.fId == 0) && ((r_0.fThing.fKind == 0) && ((r_0.fThing.fHidden == false) && ((r_0.fThing.fFixed == false) && ((r_0.fThing.fSigns == false) && ((r_0.fThing.fWraps == false) && (((ByteArray.toList r_0.fThing.fValue) == (ByteArray.toList ⟨#[]⟩)) && ((r_0.fThing.fNext == 0) && true)))))))) then
   bif (decide (((⟨#[1]⟩:ByteArray).size+r_0.fText.size)≤9223372036854775807)) then
   some (((⟨#[1]⟩:ByteArray)++r_0.fText),true)
   else none
  else
   some (⟨#[]⟩,false)
  else
  some (⟨#[]⟩,false)
 else
  some (⟨#[]⟩,false)
 else
 bif (r_0.fKind == 2) then
  bif ((ByteArray.toList r_0.fText) == (ByteArray.toList ⟨#[]⟩)) then
  bif ((r_0.fThing.fId == 0) && ((r_0.fThing.fKind == 0) && ((r_0.fThing.fHidden == false) && ((r_0.fThing.fFixed == false) && ((r_0.fThing.fSigns == false) && ((r_0.fThing.fWraps == false) && (((ByteArray.toList r_0.fThing.fValue) == (ByteArray.toList ⟨#[]⟩)) && ((r_0.fThing.fNext == 0) && true)))))))) then
   (z0 r_0.fNum 0 3).bind fun r0=>
   bif r0 then
   (z1 r_0.fNum).bind fun r1=>
   bif (decide (((⟨#[2]⟩:ByteArray).size+r1.size)≤9223372036854775807)) then
   some (((⟨#[2]⟩:ByteArray)++r1),true)
   else none
   else
   some (⟨#[]⟩,false)
  else
   some (⟨#[]⟩,false)
  else
  some (⟨#[]⟩,false)
 else
  bif (r_0.fKind == 3) then
  (z2 r_0.fThing).bind fun r2=>
  bif r2.2 then
   bif ((ByteArray.toList r_0.fText) == (ByteArray.toList ⟨#[]⟩)) then
   bif (r_0.fNum == 0) then
    bif (decide (((⟨#[3]⟩:ByteArray).size+r2.1.size)≤9223372036854775807)) then
    some (((⟨#[3]⟩:ByteArray)++r2.1),true)
    else none
   else
    some (⟨#[]⟩,false)
   else
   some (⟨#[]⟩,false)
  else
   some (⟨#[]⟩,false)
  else
  bif (r_0.fKind == 4) then
   bif ((ByteArray.toList r_0.fText) == (ByteArray.toList ⟨#[]⟩)) then
   bif ((r_0.fThing.fId == 0) && ((r_0.fThing.fKind == 0) && ((r_0.fThing.fHidden == false) && ((r_0.fThing.fFixed == false) && ((r_0.fThing.fSigns == false) && ((r_0.fThing.fWraps == false) && (((ByteArray.toList r_0.fThing.fValue) == (ByteArray.toList ⟨#[]⟩)) && ((r_0.fThing.fNext == 0) && true)))))))) then
    (z0 r_0.fNum 1 1000).bind fun r3=>
    bif r3 then
    (z1 r_0.fNum).bind fun r4=>
    bif (decide (((⟨#[4]⟩:ByteArray).size+r4.size)≤9223372036854775807)) then
    some (((⟨#[4]⟩:ByteArray)++r4),true)
    else none
    else
    some (⟨#[]⟩,false)
   else
    some (⟨#[]⟩,false)
   else
   some (⟨#[]⟩,false)
  else
   some (⟨#[]⟩,false)
noncomputable def Ob:Sl:=Zq AZ Ua Ug
theorem GAA:Tells ctx PP 78 cv29 cv8 (fun a=>Ob a):=fn_ok0 (hc Ol (hc Kq (hc EAA hl_nil))) Tryd.func78 ((fun z0 z1 z2 a=>by kernel_rfl:∀ z0 z1 z2,EntryIs0 ctx PP 78 [] [(79,Gg z0),(80,Nq z1),(119,FAA z2)] cv29 cv8 fun a=>Zq z0 z1 z2 a) AZ Ua Ug)
noncomputable def Bz {γ:Type} (F:Sl):Hd ctx γ:=hdl cv29.dec (fun a=>F a) cv8.enc
abbrev Ul:=SBook→Option Bool
inductive Vg where
 | c0 (i_3:Int) (b_1:SBook)
noncomputable def Dz:Vg→LI
 | .c0 i_3 b_1=>(tdo Tryd.f109 464,[(1,[.one (.ptr 64 0)]),(3,[.one (.int .i64 i_3)])],[(64,.var [.str b_1.fWord,.int .i64 b_1.fTries,.rsl 71 b_1.fThings,.int .i64 b_1.fLast,.str b_1.fChain,.int .i64 b_1.fCount])])
noncomputable def Ar (z0:Nb) (z1:Og) (k:Vg→Option Bool) (b_0:SBook):Option Bool:=
 bif ((b_0.fWord.size:Int) != 32) then
 some false
 else
 bif ((b_0.fChain.size:Int) != 32) then
  some false
 else
  (z0 b_0.fTries 0 3).bind fun r0=>
  bif (!r0) then
  some false
  else
  bif (decide ((b_0.fThings.length:Int) > 8)) then
   some false
  else
   (z0 b_0.fLast 0 1000).bind fun r1=>
   bif (!r1) then
   some false
   else
   (z0 b_0.fCount 0 10000).bind fun r2=>
   bif (!r2) then
    some false
   else
    k (.c0 0 b_0)
noncomputable def Vl (z0:Nb) (z1:Og) (k:Vg→Option Bool):Vg→Option Bool
 | .c0 i_3 b_1=>
 bif (decide (i_3<(b_1.fThings.length:Int))) then
  bif ((decide (0≤i_3)) && (decide (i_3<(b_1.fThings.length:Int)))) then
  (z1 (b_1.fThings.getD i_3.toNat (⟨0,0,false,false,false,false,⟨#[]⟩,0⟩:SThing))).bind fun r0=>
  bif (!r0) then
  some false
  else
  bif ((decide (0≤i_3)) && (decide (i_3<(b_1.fThings.length:Int)))) then
  bif (decide ((b_1.fThings.getD i_3.toNat (⟨0,0,false,false,false,false,⟨#[]⟩,0⟩:SThing)).fId > b_1.fLast)) then
   some false
  else
   bif (decide (i_3 > 0)) then
   bif ((decide (0≤(w64 (i_3 - 1)))) && (decide ((w64 (i_3 - 1))<(b_1.fThings.length:Int)))) then
   bif ((decide (0≤i_3)) && (decide (i_3<(b_1.fThings.length:Int)))) then
   bif (decide ((b_1.fThings.getD (w64 (i_3 - 1)).toNat (⟨0,0,false,false,false,false,⟨#[]⟩,0⟩:SThing)).fId≥(b_1.fThings.getD i_3.toNat (⟨0,0,false,false,false,false,⟨#[]⟩,0⟩:SThing)).fId)) then
    some false
   else
    k (.c0 (w64 (i_3+1)) b_1)
   else none
   else none
   else
   k (.c0 (w64 (i_3+1)) b_1)
  else none
  else none
 else
  some true
noncomputable def Qb:Nat→Vg→Option Bool
 | 0,_=>none
 | m+1,s=>Vl AZ Ba (Qb m) s
noncomputable def Ub:Ul:=Ar AZ Ba (Qb gas)
theorem HAA:Tells ctx PP 109 cv56 cv1 (fun a=>Ub a):=
 have b:∀ z0 z1,CutIs ctx PP 109 Tryd.f109 [] [(79,Gg z0),(138,Pq z1)] cv1 Dz (Vl z0 z1):=fun z0 z1 _ s=>by cases s <;> kernel_rfl
 have e:∀ z0 z1,EntryIs ctx PP 109 [] [(79,Gg z0),(138,Pq z1)] cv56 cv1 Dz (fun k a=>Ar z0 z1 k a):=fun z0 z1 _ a=>by kernel_rfl
 fn_ok (hc Ol (hc Zy hl_nil)) Tryd.func109 (fun s s' h=>by cases s;cases s';(repeat cases ‹SBook›);cases h;rfl) (fun _=>rfl) (fun _ _=>rfl) (b AZ Ba) (e AZ Ba) gas
noncomputable def Ez {γ:Type} (F:Ul):Hd ctx γ:=hdl cv56.dec (fun a=>F a) cv1.enc
abbrev Wl:=SBook→Int→Option (SThing×Bool)
inductive Xg where
 | c0 (id_1:Int) (i_6:Int) (b_2:SBook) (v_4:SThing)
noncomputable def Fz:Xg→LI
 | .c0 id_1 i_6 b_2 v_4=>(tdo Tryd.f110 208,[(1,[.one (.int .i64 id_1)]),(2,[.one (.ptr 128 0)]),(4,[.one (.ptr 256 0)]),(6,[.one (.int .i64 i_6)])],[(128,.var [.str b_2.fWord,.int .i64 b_2.fTries,.rsl 71 b_2.fThings,.int .i64 b_2.fLast,.str b_2.fChain,.int .i64 b_2.fCount]),(256,.var [.int .i64 v_4.fId,.int .i64 v_4.fKind,.bool v_4.fHidden,.bool v_4.fFixed,.bool v_4.fSigns,.bool v_4.fWraps,.str v_4.fValue,.int .i64 v_4.fNext])])
noncomputable def Gz (k:Xg→Option (SThing×Bool)) (b_0:SBook) (id_1:Int):Option (SThing×Bool):=
 k (.c0 id_1 0 b_0 ⟨0,0,false,false,false,false,⟨#[]⟩,0⟩)
noncomputable def Xl (k:Xg→Option (SThing×Bool)):Xg→Option (SThing×Bool)
 | .c0 id_1 i_6 b_2 v_4=>
 bif (decide (i_6<(b_2.fThings.length:Int))) then
  bif ((decide (0≤i_6)) && (decide (i_6<(b_2.fThings.length:Int)))) then
  bif ((b_2.fThings.getD i_6.toNat (⟨0,0,false,false,false,false,⟨#[]⟩,0⟩:SThing)).fId == id_1) then
  bif ((decide (0≤i_6)) && (decide (i_6<(b_2.fThings.length:Int)))) then
  some ((b_2.fThings.getD i_6.toNat (⟨0,0,false,false,false,false,⟨#[]⟩,0⟩:SThing)),true)
  else none
  else
  k (.c0 id_1 (w64 (i_6+1)) b_2 v_4)
  else none
 else
  some (⟨0,0,false,false,false,false,⟨#[]⟩,0⟩,false)
noncomputable def Ud:Nat→Xg→Option (SThing×Bool)
 | 0,_=>none
 | m+1,s=>Xl (Ud m) s
noncomputable def Vd:Wl:=Gz (Ud gas)
theorem IAA:Tells ctx PP 110 cv57 cv28 (fun a=>Vd a.1 a.2):=
 have b:CutIs ctx PP 110 Tryd.f110 [] [] cv28 Fz (Xl):=fun _ s=>by cases s <;> kernel_rfl
 have e:EntryIs ctx PP 110 [] [] cv57 cv28 Fz (fun k a=>Gz k a.1 a.2):=fun _ a=>by kernel_rfl
 fn_ok hl_nil Tryd.func110 (fun s s' h=>by cases s;cases s';(repeat cases ‹SBook›);(repeat cases ‹SThing›);cases h;rfl) (fun _=>rfl) (fun _ _=>rfl) b e gas
noncomputable def Hz {γ:Type} (F:Wl):Hd ctx γ:=hdl cv57.dec (fun a=>F a.1 a.2) cv28.enc
abbrev Yl:=SThing→SThing→Option Bool
noncomputable def Hr (a_0:SThing) (b_1:SThing):Option Bool:=
 bif (a_0.fKind == b_1.fKind) then
 bif ((ByteArray.toList a_0.fValue) == (ByteArray.toList b_1.fValue)) then
  bif (a_0.fSigns == b_1.fSigns) then
  bif (a_0.fWraps == b_1.fWraps) then
   bif (decide (a_0.fNext≤b_1.fNext)) then
   bif b_1.fHidden then
    bif b_1.fFixed then
    some true
    else
    some (!a_0.fFixed)
   else
    bif (!a_0.fHidden) then
    bif b_1.fFixed then
     some true
    else
     some (!a_0.fFixed)
    else
    some false
   else
   some false
  else
   some false
  else
  some false
 else
  some false
 else
 some false
noncomputable def Vb:Yl:=Hr
theorem JAA:Tells ctx PP 111 cv39 cv1 (fun a=>Vb a.1 a.2):=fn_ok0 hl_nil Tryd.func111 (fun a=>by kernel_rfl:EntryIs0 ctx PP 111 [] [] cv39 cv1 fun a=>Hr a.1 a.2)
noncomputable def Iz {γ:Type} (F:Yl):Hd ctx γ:=hdl cv39.dec (fun a=>F a.1 a.2) cv1.enc
abbrev Zl:=(List SThing)→SThing→Option (List SThing)
inductive Yg where
 | c0 (list_0:(List SThing)) (i_6:Int) (x_3:SThing) (out_5:(List SThing))
 | c1 (list_0:(List SThing)) (i_7:Int) (x_3:SThing) (out_5:(List SThing))
noncomputable def Jz:Yg→LI
 | .c0 list_0 i_6 x_3 out_5=>(tdo Tryd.f112 464,[(0,[.one (.rsl 71 list_0)]),(3,[.one (.ptr 192 0)]),(5,[.one (.own 368)]),(6,[.one (.int .i64 i_6)])],[(192,.var [.int .i64 x_3.fId,.int .i64 x_3.fKind,.bool x_3.fHidden,.bool x_3.fFixed,.bool x_3.fSigns,.bool x_3.fWraps,.str x_3.fValue,.int .i64 x_3.fNext]),(368,.sl 71 out_5)])
 | .c1 list_0 i_7 x_3 out_5=>(tdo Tryd.f112 2000,[(0,[.one (.rsl 71 list_0)]),(3,[.one (.ptr 192 0)]),(5,[.one (.own 368)]),(7,[.one (.int .i64 i_7)])],[(192,.var [.int .i64 x_3.fId,.int .i64 x_3.fKind,.bool x_3.fHidden,.bool x_3.fFixed,.bool x_3.fSigns,.bool x_3.fWraps,.str x_3.fValue,.int .i64 x_3.fNext]),(368,.sl 71 out_5)])
noncomputable def Ir (k:Yg→Option (List SThing)) (list_0:(List SThing)) (x_1:SThing):Option (List SThing):=
 k (.c0 list_0 0 x_1 [])
noncomputable def Xd (k:Yg→Option (List SThing)):Yg→Option (List SThing)
 | .c0 list_0 i_6 x_3 out_5=>
 bif (decide (i_6<(list_0.length:Int))) then
  bif ((decide (0≤i_6)) && (decide (i_6<(list_0.length:Int)))) then
  bif (decide ((list_0.getD i_6.toNat (⟨0,0,false,false,false,false,⟨#[]⟩,0⟩:SThing)).fId<x_3.fId)) then
  bif ((decide (0≤i_6)) && (decide (i_6<(list_0.length:Int)))) then
  bif (decide (((out_5.length+1)*48)≤140737488355328)) then
  k (.c0 list_0 (w64 (i_6+1)) x_3 (out_5++[(list_0.getD i_6.toNat (⟨0,0,false,false,false,false,⟨#[]⟩,0⟩:SThing))]))
  else none
  else none
  else
  k (.c0 list_0 (w64 (i_6+1)) x_3 out_5)
  else none
 else
  bif (decide (((out_5.length+1)*48)≤140737488355328)) then
  k (.c1 list_0 0 x_3 (out_5++[x_3]))
  else none
 | .c1 list_0 i_7 x_3 out_5=>
 bif (decide (i_7<(list_0.length:Int))) then
  bif ((decide (0≤i_7)) && (decide (i_7<(list_0.length:Int)))) then
  bif (decide ((list_0.getD i_7.toNat (⟨0,0,false,false,false,false,⟨#[]⟩,0⟩:SThing)).fId > x_3.fId)) then
  bif ((decide (0≤i_7)) && (decide (i_7<(list_0.length:Int)))) then
  bif (decide (((out_5.length+1)*48)≤140737488355328)) then
  k (.c1 list_0 (w64 (i_7+1)) x_3 (out_5++[(list_0.getD i_7.toNat (⟨0,0,false,false,false,false,⟨#[]⟩,0⟩:SThing))]))
  else none
  else none
  else
  k (.c1 list_0 (w64 (i_7+1)) x_3 out_5)
  else none
 else
  some out_5
noncomputable def Ea:Nat→Yg→Option (List SThing)
 | 0,_=>none
 | m+1,s=>Xd (Ea m) s
noncomputable def Xb:Zl:=Ir (Ea gas)
theorem KAA:Tells ctx PP 112 cv58 cv50 (fun a=>Xb a.1 a.2):=
 have b:CutIs ctx PP 112 Tryd.f112 [] [] cv50 Jz (Xd):=fun _ s=>by cases s <;> kernel_rfl
 have e:EntryIs ctx PP 112 [] [] cv58 cv50 Jz (fun k a=>Ir k a.1 a.2):=fun _ a=>by kernel_rfl
 fn_ok hl_nil Tryd.func112 (fun s s' h=>by cases s <;> cases s' <;> first | ((repeat cases ‹SThing›);cases h;done) | ((repeat cases ‹SThing›);cases h;rfl) | exact (rg_ne h (by kernel_rfl)).elim) (fun _=>rfl) (fun _ _=>rfl) b e gas
noncomputable def Kz {γ:Type} (F:Zl):Hd ctx γ:=hdl cv58.dec (fun a=>F a.1 a.2) cv50.enc
abbrev Jr:=Option (List Int)
noncomputable def Nz  : Option (List Int):=
 some [1779033703,3144134277,1013904242,2773480762,1359893119,2600822924,528734635,1541459225]
noncomputable def Am:Jr:=Nz
theorem LAA:Tells ctx PP 153 cv10 cv11 (fun _=>Am):=fn_ok0 hl_nil Tryd.func153 (fun _=>by kernel_rfl:EntryIs0 ctx PP 153 [] [] cv10 cv11 fun _=>Nz)
noncomputable def MAA {γ:Type} (F:Jr):Hd ctx γ:=hdl cv10.dec (fun _=>F) cv11.enc
abbrev Yb:=(List Int)→Option ByteArray
inductive Zg where
 | c0 (words_0:(List Int)) (i_4:Int) (out_3:(List Int))
noncomputable def Oz:Zg→LI
 | .c0 words_0 i_4 out_3=>(tdo Tryd.f152 464,[(0,[.one (.rsl 119 words_0)]),(3,[.one (.own 240)]),(4,[.one (.int .i64 i_4)])],[(240,.sl 5 out_3)])
noncomputable def Pz (k:Zg→Option ByteArray) (words_0:(List Int)):Option ByteArray:=
 k (.c0 words_0 0 [])
noncomputable def Cm (k:Zg→Option ByteArray):Zg→Option ByteArray
 | .c0 words_0 i_4 out_3=>
 bif (decide (i_4<(words_0.length:Int))) then
  bif ((decide (0≤i_4)) && (decide (i_4<(words_0.length:Int)))) then
  bif (decide (((out_3.length+4)*1)≤140737488355328)) then
  k (.c0 words_0 (w64 (i_4+1)) (out_3++[(w8 (w32 ((words_0.getD i_4.toNat 0).tdiv 16777216))),(w8 ((w32 ((words_0.getD i_4.toNat 0).tdiv 65536)).tmod 256)),(w8 ((w32 ((words_0.getD i_4.toNat 0).tdiv 256)).tmod 256)),(w8 ((words_0.getD i_4.toNat 0).tmod 256))]))
  else none
  else none
 else
  some (ofBytes out_3)
noncomputable def Ah:Nat→Zg→Option ByteArray
 | 0,_=>none
 | m+1,s=>Cm (Ah m) s
noncomputable def BZ:Yb:=Pz (Ah gas)
theorem Kr:Tells ctx PP 152 cv12 cv3 (fun a=>BZ a):=
 have b:CutIs ctx PP 152 Tryd.f152 [] [] cv3 Oz (Cm):=fun _ s=>by cases s <;> kernel_rfl
 have e:EntryIs ctx PP 152 [] [] cv12 cv3 Oz (fun k a=>Pz k a):=fun _ a=>by kernel_rfl
 fn_ok hl_nil Tryd.func152 (fun s s' h=>by cases s;cases s';cases h;rfl) (fun _=>rfl) (fun _ _=>rfl) b e gas
noncomputable def Bh {γ:Type} (F:Yb):Hd ctx γ:=hdl cv12.dec (fun a=>F a) cv3.enc
abbrev Lr:=Option SHasher
noncomputable def Nr (z0:Jr) (z1:Yb)  : Option SHasher:=
 z0.bind fun r0=>
 (z1 r0).bind fun r1=>
 some ⟨r1,⟨#[]⟩,0⟩
noncomputable def Dh:Lr:=Nr Am BZ
theorem NAA:Tells ctx PP 130 cv10 cv13 (fun _=>Dh):=fn_ok0 (hc LAA (hc Kr hl_nil)) Tryd.func130 ((fun z0 z1 _=>by kernel_rfl:∀ z0 z1,EntryIs0 ctx PP 130 [] [(153,MAA z0),(152,Bh z1)] cv10 cv13 fun _=>Nr z0 z1) Am BZ)
noncomputable def OAA {γ:Type} (F:Lr):Hd ctx γ:=hdl cv10.dec (fun _=>F) cv13.enc
abbrev Yd:=SHasher→Option Bool
noncomputable def Qr (z0:Nb) (h_0:SHasher):Option Bool:=
 bif ((h_0.fState.size:Int) == 32) then
 bif (decide ((h_0.fRest.size:Int)<64)) then
  (z0 h_0.fCount 0 1000000000).bind fun r0=>
  bif r0 then
  some ((h_0.fCount.tmod 64) == (h_0.fRest.size:Int))
  else
  some false
 else
  some false
 else
 some false
noncomputable def TY:Yd:=Qr AZ
theorem Qz:Tells ctx PP 148 cv13 cv1 (fun a=>TY a):=fn_ok0 (hc Ol hl_nil) Tryd.func148 ((fun z0 a=>by kernel_rfl:∀ z0,EntryIs0 ctx PP 148 [] [(79,Gg z0)] cv13 cv1 fun a=>Qr z0 a) AZ)
noncomputable def Em {γ:Type} (F:Yd):Hd ctx γ:=hdl cv13.dec (fun a=>F a) cv1.enc
abbrev Gm:=ByteArray→Int→Option Int
noncomputable def Sr (s_0:ByteArray) (at_1:Int):Option Int:=
 bif ((decide (0≤at_1)) && (decide (at_1<(s_0.size:Int)))) then
 bif ((decide (0≤(w64 (at_1+1)))) && (decide ((w64 (at_1+1))<(s_0.size:Int)))) then
 bif ((decide (0≤(w64 (at_1+2)))) && (decide ((w64 (at_1+2))<(s_0.size:Int)))) then
 bif ((decide (0≤(w64 (at_1+3)))) && (decide ((w64 (at_1+3))<(s_0.size:Int)))) then
 some (w32 ((w32 ((w32 ((w32 ((w32 (bt s_0 at_1))*16777216))+(w32 ((w32 (bt s_0 (w64 (at_1+1))))*65536))))+(w32 ((w32 (bt s_0 (w64 (at_1+2))))*256))))+(w32 (bt s_0 (w64 (at_1+3))))))
 else none
 else none
 else none
 else none
noncomputable def Zb:Gm:=Sr
theorem PAA:Tells ctx PP 156 cv4 cv7 (fun a=>Zb a.1 a.2):=fn_ok0 hl_nil Tryd.func156 (fun a=>by kernel_rfl:EntryIs0 ctx PP 156 [] [] cv4 cv7 fun a=>Sr a.1 a.2)
noncomputable def Rz {γ:Type} (F:Gm):Hd ctx γ:=hdl cv4.dec (fun a=>F a.1 a.2) cv7.enc
abbrev Va:=ByteArray→Option (List Int)
inductive Eh where
 | c0 (s_0:ByteArray) (i_4:Int) (out_3:(List Int))
noncomputable def Sz:Eh→LI
 | .c0 s_0 i_4 out_3=>(tdo Tryd.f149 464,[(0,[.one (.str s_0)]),(3,[.one (.own 240)]),(4,[.one (.int .i64 i_4)])],[(240,.sl 119 out_3)])
noncomputable def Tz (z0:Gm) (k:Eh→Option (List Int)) (s_0:ByteArray):Option (List Int):=
 k (.c0 s_0 0 [])
noncomputable def Jm (z0:Gm) (k:Eh→Option (List Int)):Eh→Option (List Int)
 | .c0 s_0 i_4 out_3=>
 bif (decide ((w64 (i_4+4))≤(s_0.size:Int))) then
  (z0 s_0 i_4).bind fun r0=>
  bif (decide (((out_3.length+1)*4)≤140737488355328)) then
  k (.c0 s_0 (w64 (i_4+4)) (out_3++[r0]))
  else none
 else
  some out_3
noncomputable def Fh:Nat→Eh→Option (List Int)
 | 0,_=>none
 | m+1,s=>Jm Zb (Fh m) s
noncomputable def JY:Va:=Tz Zb (Fh gas)
theorem Ur:Tells ctx PP 149 cv3 cv11 (fun a=>JY a):=
 have b:∀ z0,CutIs ctx PP 149 Tryd.f149 [] [(156,Rz z0)] cv11 Sz (Jm z0):=fun z0 _ s=>by cases s <;> kernel_rfl
 have e:∀ z0,EntryIs ctx PP 149 [] [(156,Rz z0)] cv3 cv11 Sz (fun k a=>Tz z0 k a):=fun z0 _ a=>by kernel_rfl
 fn_ok (hc PAA hl_nil) Tryd.func149 (fun s s' h=>by cases s;cases s';cases h;rfl) (fun _=>rfl) (fun _ _=>rfl) (b Zb) (e Zb) gas
noncomputable def Zd {γ:Type} (F:Va):Hd ctx γ:=hdl cv3.dec (fun a=>F a) cv11.enc
abbrev Ae:=Option (List Int)
noncomputable def Uz  : Option (List Int):=
 some [1116352408,1899447441,3049323471,3921009573,961987163,1508970993,2453635748,2870763221,3624381080,310598401,607225278,1426881987,1925078388,2162078206,2614888103,3248222580,3835390401,4022224774,264347078,604807628,770255983,1249150122,1555081692,1996064986,2554220882,2821834349,2952996808,3210313671,3336571891,3584528711,113926993,338241895,666307205,773529912,1294757372,1396182291,1695183700,1986661051,2177026350,2456956037,2730485921,2820302411,3259730800,3345764771,3516065817,3600352804,4094571909,275423344,430227734,506948616,659060556,883997877,958139571,1322822218,1537002063,1747873779,1955562222,2024104815,2227730452,2361852424,2428436474,2756734187,3204031479,3329325298]
noncomputable def NZ:Ae:=Uz
theorem Vz:Tells ctx PP 150 cv10 cv11 (fun _=>NZ):=fn_ok0 hl_nil Tryd.func150 (fun _=>by kernel_rfl:EntryIs0 ctx PP 150 [] [] cv10 cv11 fun _=>Uz)
noncomputable def Lm {γ:Type} (F:Ae):Hd ctx γ:=hdl cv10.dec (fun _=>F) cv11.enc
abbrev Vr:=Int→Int→Int→Option Int
noncomputable def Xr (x_0:Int) (low_1:Int) (high_2:Int):Option Int:=
 bif (!(low_1 == 0)) then
 bif (!(low_1 == 0)) then
 some (w32 ((w32 (x_0.tdiv low_1))+(w32 ((x_0.tmod low_1)*high_2))))
 else none
 else none
noncomputable def Gh:Vr:=Xr
theorem QAA:Tells ctx PP 160 cv14 cv7 (fun a=>Gh a.1 a.2.1 a.2.2):=fn_ok0 hl_nil Tryd.func160 (fun a=>by kernel_rfl:EntryIs0 ctx PP 160 [] [] cv14 cv7 fun a=>Xr a.1 a.2.1 a.2.2)
noncomputable def RAA {γ:Type} (F:Vr):Hd ctx γ:=hdl cv14.dec (fun a=>F a.1 a.2.1 a.2.2) cv7.enc
abbrev Om:=Int→Int→Int→Int→Bool→Option Int
noncomputable def Ce (z0:Vr) (x_0:Int) (a_1:Int) (b_2:Int) (c_3:Int) (last_4:Bool):Option Int:=
 bif (!(a_1 == 0)) then
 (z0 x_0 a_1 (w32 ((w32 ((2147483648:Int).tdiv a_1))*2))).bind fun r0=>
 bif (!(b_2 == 0)) then
 (z0 x_0 b_2 (w32 ((w32 ((2147483648:Int).tdiv b_2))*2))).bind fun r1=>
 bif (!(c_3 == 0)) then
 bif (!last_4) then
 bif (!(c_3 == 0)) then
 (z0 x_0 c_3 (w32 ((w32 ((2147483648:Int).tdiv c_3))*2))).bind fun r2=>
 some (w32 (((BitVec.toNat ((BitVec.ofInt (IntKind.bits IntKind.u32) (w32 (((BitVec.toNat ((BitVec.ofInt (IntKind.bits IntKind.u32) r0) ^^^ (BitVec.ofInt (IntKind.bits IntKind.u32) r1))):Nat):Int))) ^^^ (BitVec.ofInt (IntKind.bits IntKind.u32) r2))):Nat):Int))
 else none
 else
 some (w32 (((BitVec.toNat ((BitVec.ofInt (IntKind.bits IntKind.u32) (w32 (((BitVec.toNat ((BitVec.ofInt (IntKind.bits IntKind.u32) r0) ^^^ (BitVec.ofInt (IntKind.bits IntKind.u32) r1))):Nat):Int))) ^^^ (BitVec.ofInt (IntKind.bits IntKind.u32) (w32 (x_0.tdiv c_3))))):Nat):Int))
 else none
 else none
 else none
noncomputable def UY:Om:=Ce Gh
theorem SAA:Tells ctx PP 157 cv15 cv7 (fun a=>UY a.1 a.2.1 a.2.2.1 a.2.2.2.1 a.2.2.2.2):=fn_ok0 (hc QAA hl_nil) Tryd.func157 ((fun z0 a=>by kernel_rfl:∀ z0,EntryIs0 ctx PP 157 [] [(160,RAA z0)] cv15 cv7 fun a=>Ce z0 a.1 a.2.1 a.2.2.1 a.2.2.2.1 a.2.2.2.2) Gh)
noncomputable def Xz {γ:Type} (F:Om):Hd ctx γ:=hdl cv15.dec (fun a=>F a.1 a.2.1 a.2.2.1 a.2.2.2.1 a.2.2.2.2) cv7.enc
abbrev Ee:=(List Int)→(List Int)→ByteArray→Option (List Int)
inductive Ih where
 | c0 (t_0:(List Int)) (o_1:(List Int)) (v_8:Int) (v_7:(List Int))
 | c1 (t_0:(List Int)) (o_1:(List Int)) (v_10:Int) (v_7:(List Int)) (v_9:(List Int))
 | c2 (t_0:(List Int)) (o_1:(List Int)) (v_10:Int) (v_13:Int) (v_15:Int) (v_16:Int) (v_7:(List Int)) (v_9:(List Int))
 | c3 (t_0:(List Int)) (v_18:Int) (v_9:(List Int)) (v_17:(List Int))
noncomputable def Yz:Ih→LI
 | .c0 t_0 o_1 v_8 v_7=>(tdo Tryd.f151 464,[(0,[.one (.rsl 119 t_0)]),(1,[.one (.rsl 119 o_1)]),(7,[.one (.own 496)]),(8,[.one (.int .i64 v_8)])],[(496,.sl 119 v_7)])
 | .c1 t_0 o_1 v_10 v_7 v_9=>(tdo Tryd.f151 2000,[(0,[.one (.rsl 119 t_0)]),(1,[.one (.rsl 119 o_1)]),(7,[.one (.own 496)]),(9,[.one (.own 624)]),(10,[.one (.int .i64 v_10)])],[(496,.sl 119 v_7),(624,.sl 119 v_9)])
 | .c2 t_0 o_1 v_10 v_13 v_15 v_16 v_7 v_9=>(tdo Tryd.f151 8202192,[(0,[.one (.rsl 119 t_0)]),(1,[.one (.rsl 119 o_1)]),(7,[.one (.own 496)]),(9,[.one (.own 624)]),(10,[.one (.int .i64 v_10)]),(13,[.one (.int .u32 v_13)]),(15,[.one (.int .u32 v_15)]),(16,[.one (.int .i64 v_16)])],[(496,.sl 119 v_7),(624,.sl 119 v_9)])
 | .c3 t_0 v_18 v_9 v_17=>(tdo Tryd.f151 8144,[(0,[.one (.rsl 119 t_0)]),(9,[.one (.own 624)]),(17,[.one (.own 1136)]),(18,[.one (.int .i64 v_18)])],[(624,.sl 119 v_9),(1136,.sl 119 v_17)])
noncomputable def Yr (z0:Va) (z1:Om) (k:Ih→Option (List Int)) (t_0:(List Int)) (o_1:(List Int)) (A_2:ByteArray):Option (List Int):=
 (z0 A_2).bind fun r0=>
 k (.c0 t_0 o_1 16 r0)
noncomputable def OZ (z0:Va) (z1:Om) (k:Ih→Option (List Int)):Ih→Option (List Int)
 | .c0 t_0 o_1 v_8 v_7=>
 bif (decide (v_8<64)) then
  bif ((decide (0≤(w64 (v_8 - 2)))) && (decide ((w64 (v_8 - 2))<(v_7.length:Int)))) then
  (z1 (v_7.getD (w64 (v_8 - 2)).toNat 0) 131072 524288 1024 true).bind fun r0=>
  bif ((decide (0≤(w64 (v_8 - 7)))) && (decide ((w64 (v_8 - 7))<(v_7.length:Int)))) then
  bif ((decide (0≤(w64 (v_8 - 15)))) && (decide ((w64 (v_8 - 15))<(v_7.length:Int)))) then
  (z1 (v_7.getD (w64 (v_8 - 15)).toNat 0) 128 262144 8 true).bind fun r1=>
  bif ((decide (0≤(w64 (v_8 - 16)))) && (decide ((w64 (v_8 - 16))<(v_7.length:Int)))) then
  bif (decide (((v_7.length+1)*4)≤140737488355328)) then
  k (.c0 t_0 o_1 (w64 (v_8+1)) (v_7++[(w32 ((w32 ((w32 (r0+(v_7.getD (w64 (v_8 - 7)).toNat 0)))+r1))+(v_7.getD (w64 (v_8 - 16)).toNat 0)))]))
  else none
  else none
  else none
  else none
  else none
 else
  bif (decide (((0+t_0.length)*4)≤140737488355328)) then
  k (.c1 t_0 o_1 0 v_7 ([]++t_0))
  else none
 | .c1 t_0 o_1 v_10 v_7 v_9=>
 bif (decide (v_10<64)) then
  bif ((decide ((0:Int)≤(4:Int))) && (decide (4<(v_9.length:Int)))) then
  bif ((decide ((0:Int)≤(5:Int))) && (decide (5<(v_9.length:Int)))) then
  bif ((decide ((0:Int)≤(6:Int))) && (decide (6<(v_9.length:Int)))) then
  bif ((decide ((0:Int)≤(7:Int))) && (decide (7<(v_9.length:Int)))) then
  (z1 (v_9.getD (4:Int).toNat 0) 64 2048 33554432 false).bind fun r0=>
  bif ((decide (0≤v_10)) && (decide (v_10<(o_1.length:Int)))) then
  bif ((decide (0≤v_10)) && (decide (v_10<(v_7.length:Int)))) then
  bif ((decide ((0:Int)≤(0:Int))) && (decide (0<(v_9.length:Int)))) then
  bif ((decide ((0:Int)≤(1:Int))) && (decide (1<(v_9.length:Int)))) then
  bif ((decide ((0:Int)≤(0:Int))) && (decide (0<(v_9.length:Int)))) then
  bif ((decide ((0:Int)≤(2:Int))) && (decide (2<(v_9.length:Int)))) then
  bif ((decide ((0:Int)≤(1:Int))) && (decide (1<(v_9.length:Int)))) then
  bif ((decide ((0:Int)≤(2:Int))) && (decide (2<(v_9.length:Int)))) then
  bif ((decide ((0:Int)≤(0:Int))) && (decide (0<(v_9.length:Int)))) then
  (z1 (v_9.getD (0:Int).toNat 0) 4 8192 4194304 false).bind fun r1=>
  k (.c2 t_0 o_1 v_10 (w32 ((w32 ((w32 ((w32 ((v_9.getD (7:Int).toNat 0)+r0))+(w32 (((BitVec.toNat ((BitVec.ofInt (IntKind.bits IntKind.u32) (w32 (((BitVec.toNat ((BitVec.ofInt (IntKind.bits IntKind.u32) (v_9.getD (4:Int).toNat 0)) &&& (BitVec.ofInt (IntKind.bits IntKind.u32) (v_9.getD (5:Int).toNat 0)))):Nat):Int))) ^^^ (BitVec.ofInt (IntKind.bits IntKind.u32) (w32 (((BitVec.toNat ((BitVec.ofInt (IntKind.bits IntKind.u32) (w32 (4294967295 - (v_9.getD (4:Int).toNat 0)))) &&& (BitVec.ofInt (IntKind.bits IntKind.u32) (v_9.getD (6:Int).toNat 0)))):Nat):Int))))):Nat):Int))))+(o_1.getD v_10.toNat 0)))+(v_7.getD v_10.toNat 0))) (w32 (r1+(w32 (((BitVec.toNat ((BitVec.ofInt (IntKind.bits IntKind.u32) (w32 (((BitVec.toNat ((BitVec.ofInt (IntKind.bits IntKind.u32) (w32 (((BitVec.toNat ((BitVec.ofInt (IntKind.bits IntKind.u32) (v_9.getD (0:Int).toNat 0)) &&& (BitVec.ofInt (IntKind.bits IntKind.u32) (v_9.getD (1:Int).toNat 0)))):Nat):Int))) ^^^ (BitVec.ofInt (IntKind.bits IntKind.u32) (w32 (((BitVec.toNat ((BitVec.ofInt (IntKind.bits IntKind.u32) (v_9.getD (0:Int).toNat 0)) &&& (BitVec.ofInt (IntKind.bits IntKind.u32) (v_9.getD (2:Int).toNat 0)))):Nat):Int))))):Nat):Int))) ^^^ (BitVec.ofInt (IntKind.bits IntKind.u32) (w32 (((BitVec.toNat ((BitVec.ofInt (IntKind.bits IntKind.u32) (v_9.getD (1:Int).toNat 0)) &&& (BitVec.ofInt (IntKind.bits IntKind.u32) (v_9.getD (2:Int).toNat 0)))):Nat):Int))))):Nat):Int)))) 7 v_7 v_9)
  else none
  else none
  else none
  else none
  else none
  else none
  else none
  else none
  else none
  else none
  else none
  else none
  else none
 else
  k (.c3 t_0 0 v_9 [])
 | .c2 t_0 o_1 v_10 v_13 v_15 v_16 v_7 v_9=>
 bif (decide (v_16 > 0)) then
  bif ((decide (0≤(w64 (v_16 - 1)))) && (decide ((w64 (v_16 - 1))<(v_9.length:Int)))) then
  bif ((decide (0≤v_16)) && (decide (v_16<(v_9.length:Int)))) then
  k (.c2 t_0 o_1 v_10 v_13 v_15 (w64 (v_16 - 1)) v_7 (v_9.set v_16.toNat (v_9.getD (w64 (v_16 - 1)).toNat 0)))
  else none
  else none
 else
  bif ((decide ((0:Int)≤(4:Int))) && (decide (4<(v_9.length:Int)))) then
  bif ((decide ((0:Int)≤(4:Int))) && (decide (4<(v_9.length:Int)))) then
  bif ((decide ((0:Int)≤(0:Int))) && (decide (0<((v_9.set (4:Int).toNat (w32 ((v_9.getD (4:Int).toNat 0)+v_13))).length:Int)))) then
  k (.c1 t_0 o_1 (w64 (v_10+1)) v_7 ((v_9.set (4:Int).toNat (w32 ((v_9.getD (4:Int).toNat 0)+v_13))).set (0:Int).toNat (w32 (v_13+v_15))))
  else none
  else none
  else none
 | .c3 t_0 v_18 v_9 v_17=>
 bif (decide (v_18<8)) then
  bif ((decide (0≤v_18)) && (decide (v_18<(t_0.length:Int)))) then
  bif ((decide (0≤v_18)) && (decide (v_18<(v_9.length:Int)))) then
  bif (decide (((v_17.length+1)*4)≤140737488355328)) then
  k (.c3 t_0 (w64 (v_18+1)) v_9 (v_17++[(w32 ((t_0.getD v_18.toNat 0)+(v_9.getD v_18.toNat 0)))]))
  else none
  else none
  else none
 else
  some v_17
noncomputable def CY:Nat→Ih→Option (List Int)
 | 0,_=>none
 | m+1,s=>OZ JY UY (CY m) s
noncomputable def FZ:Ee:=Yr JY UY (CY gas)
theorem Zz:Tells ctx PP 151 cv16 cv11 (fun a=>FZ a.1 a.2.1 a.2.2):=
 have b:∀ z0 z1,CutIs ctx PP 151 Tryd.f151 [] [(149,Zd z0),(157,Xz z1)] cv11 Yz (OZ z0 z1):=fun z0 z1 _ s=>by cases s <;> kernel_rfl
 have e:∀ z0 z1,EntryIs ctx PP 151 [] [(149,Zd z0),(157,Xz z1)] cv16 cv11 Yz (fun k a=>Yr z0 z1 k a.1 a.2.1 a.2.2):=fun z0 z1 _ a=>by kernel_rfl
 fn_ok (hc Ur (hc SAA hl_nil)) Tryd.func151 (fun s s' h=>by cases s <;> cases s' <;> first | (cases h;done) | (cases h;rfl) | exact (rg_ne h (by kernel_rfl)).elim) (fun _=>rfl) (fun _ _=>rfl) (b JY UY) (e JY UY) gas
noncomputable def Pm {γ:Type} (F:Ee):Hd ctx γ:=hdl cv16.dec (fun a=>F a.1 a.2.1 a.2.2) cv11.enc
abbrev Zr:=SHasher→ByteArray→Option SHasher
inductive Jh where
 | c0 (s_1:ByteArray) (buf_7:ByteArray) (at_8:Int) (h_2:SHasher) (v_4:SHasher) (state_5:(List Int)) (k_6:(List Int))
noncomputable def O0:Jh→LI
 | .c0 s_1 buf_7 at_8 h_2 v_4 state_5 k_6=>(tdo Tryd.f129 4064,[(1,[.one (.str s_1)]),(2,[.one (.ptr 128 0)]),(4,[.one (.ptr 256 0)]),(5,[.one (.own 368)]),(6,[.one (.own 432)]),(7,[.one (.str buf_7)]),(8,[.one (.int .i64 at_8)])],[(128,.var [.str h_2.fState,.str h_2.fRest,.int .i64 h_2.fCount]),(256,.var [.str v_4.fState,.str v_4.fRest,.int .i64 v_4.fCount]),(368,.sl 119 state_5),(432,.sl 119 k_6)])
noncomputable def Es (z0:Yd) (z1:Va) (z2:Ae) (z3:Ee) (z4:Yb) (k:Jh→Option SHasher) (h_0:SHasher) (s_1:ByteArray):Option SHasher:=
 (z0 h_0).bind fun r0=>
 bif (!r0) then
 some h_0
 else
 bif (decide ((w64 (h_0.fCount+(s_1.size:Int))) > 1000000000)) then
  some h_0
 else
  (z1 h_0.fState).bind fun r1=>
  z2.bind fun r2=>
  bif (decide ((h_0.fRest.size+s_1.size)≤9223372036854775807)) then
  k (.c0 s_1 (h_0.fRest++s_1) 0 h_0 ⟨⟨#[]⟩,⟨#[]⟩,0⟩ r1 r2)
  else none
noncomputable def Qm (z0:Yd) (z1:Va) (z2:Ae) (z3:Ee) (z4:Yb) (k:Jh→Option SHasher):Jh→Option SHasher
 | .c0 s_1 buf_7 at_8 h_2 v_4 state_5 k_6=>
 bif (decide ((w64 (at_8+64))≤(buf_7.size:Int))) then
  bif (((decide (0≤at_8)) && (decide (at_8≤(w64 (at_8+64))))) && (decide ((w64 (at_8+64))≤(buf_7.size:Int)))) then
  (z3 state_5 k_6 (buf_7.extract at_8.toNat (w64 (at_8+64)).toNat)).bind fun r0=>
  k (.c0 s_1 buf_7 (w64 (at_8+64)) h_2 v_4 r0 k_6)
  else none
 else
  (z4 state_5).bind fun r1=>
  bif ((decide (0≤at_8)) && (decide (at_8≤(buf_7.size:Int)))) then
  some ⟨r1,(buf_7.extract at_8.toNat buf_7.size),(w64 (h_2.fCount+(s_1.size:Int)))⟩
  else none
noncomputable def Lh:Nat→Jh→Option SHasher
 | 0,_=>none
 | m+1,s=>Qm TY JY NZ FZ BZ (Lh m) s
noncomputable def Nh:Zr:=Es TY JY NZ FZ BZ (Lh gas)
theorem TAA:Tells ctx PP 129 cv17 cv13 (fun a=>Nh a.1 a.2):=
 have b:∀ z0 z1 z2 z3 z4,CutIs ctx PP 129 Tryd.f129 [] [(148,Em z0),(149,Zd z1),(150,Lm z2),(151,Pm z3),(152,Bh z4)] cv13 O0 (Qm z0 z1 z2 z3 z4):=fun z0 z1 z2 z3 z4 _ s=>by cases s <;> kernel_rfl
 have e:∀ z0 z1 z2 z3 z4,EntryIs ctx PP 129 [] [(148,Em z0),(149,Zd z1),(150,Lm z2),(151,Pm z3),(152,Bh z4)] cv17 cv13 O0 (fun k a=>Es z0 z1 z2 z3 z4 k a.1 a.2):=fun z0 z1 z2 z3 z4 _ a=>by kernel_rfl
 fn_ok (hc Qz (hc Ur (hc Vz (hc Zz (hc Kr hl_nil))))) Tryd.func129 (fun s s' h=>by cases s;cases s';(repeat cases ‹SHasher›);cases h;rfl) (fun _=>rfl) (fun _ _=>rfl) (b TY JY NZ FZ BZ) (e TY JY NZ FZ BZ) gas
noncomputable def UAA {γ:Type} (F:Zr):Hd ctx γ:=hdl cv17.dec (fun a=>F a.1 a.2) cv13.enc
abbrev Gs:=SHasher→Option ByteArray
inductive Oh where
 | c0 (h_1:SHasher) (tail_3:(List Int))
 | c1 (bits_4:Int) (i_5:Int) (h_1:SHasher) (tail_3:(List Int))
 | c2 (bits_4:Int) (i_5:Int) (x_6:Int) (k_7:Int) (h_1:SHasher) (tail_3:(List Int))
 | c3 (at_10:Int) (tail_3:(List Int)) (state_8:(List Int)) (k_9:(List Int))
noncomputable def U0:Oh→LI
 | .c0 h_1 tail_3=>(tdo Tryd.f128 992,[(1,[.one (.ptr 64 0)]),(3,[.one (.own 240)])],[(64,.var [.str h_1.fState,.str h_1.fRest,.int .i64 h_1.fCount]),(240,.sl 5 tail_3)])
 | .c1 bits_4 i_5 h_1 tail_3=>(tdo Tryd.f128 8144,[(1,[.one (.ptr 64 0)]),(3,[.one (.own 240)]),(4,[.one (.int .i64 bits_4)]),(5,[.one (.int .i64 i_5)])],[(64,.var [.str h_1.fState,.str h_1.fRest,.int .i64 h_1.fCount]),(240,.sl 5 tail_3)])
 | .c2 bits_4 i_5 x_6 k_7 h_1 tail_3=>(tdo Tryd.f128 2085456,[(1,[.one (.ptr 64 0)]),(3,[.one (.own 240)]),(4,[.one (.int .i64 bits_4)]),(5,[.one (.int .i64 i_5)]),(6,[.one (.int .i64 x_6)]),(7,[.one (.int .i64 k_7)])],[(64,.var [.str h_1.fState,.str h_1.fRest,.int .i64 h_1.fCount]),(240,.sl 5 tail_3)])
 | .c3 at_10 tail_3 state_8 k_9=>(tdo Tryd.f128 65488,[(3,[.one (.own 240)]),(8,[.one (.own 560)]),(9,[.one (.own 624)]),(10,[.one (.int .i64 at_10)])],[(240,.sl 5 tail_3),(560,.sl 119 state_8),(624,.sl 119 k_9)])
noncomputable def Js (z0:Yd) (z1:Va) (z2:Ae) (z3:Ee) (z4:Yb) (k:Oh→Option ByteArray) (h_0:SHasher):Option ByteArray:=
 (z0 h_0).bind fun r0=>
 bif (!r0) then
 some ⟨#[]⟩
 else
 bif (decide (h_0.fRest.size≤9223372036854775807)) then
 bif (decide ((((bytesOf h_0.fRest).length+1)*1)≤140737488355328)) then
 k (.c0 h_0 ((bytesOf h_0.fRest)++[(128:Int)]))
 else none
 else none
noncomputable def PZ (z0:Yd) (z1:Va) (z2:Ae) (z3:Ee) (z4:Yb) (k:Oh→Option ByteArray):Oh→Option ByteArray
 | .c0 h_1 tail_3=>
 bif (((tail_3.length:Int).tmod 64) != 56) then
  bif (decide (((tail_3.length+1)*1)≤140737488355328)) then
  k (.c0 h_1 (tail_3++[(0:Int)]))
  else none
 else
  k (.c1 (w64 (8*h_1.fCount)) 7 h_1 tail_3)
 | .c1 bits_4 i_5 h_1 tail_3=>
 bif (decide (i_5≥0)) then
  k (.c2 bits_4 i_5 bits_4 0 h_1 tail_3)
 else
  (z1 h_1.fState).bind fun r0=>
  z2.bind fun r1=>
  k (.c3 0 tail_3 r0 r1)
 | .c2 bits_4 i_5 x_6 k_7 h_1 tail_3=>
 bif (decide (k_7<i_5)) then
  k (.c2 bits_4 i_5 (w64 (x_6.tdiv 256)) (w64 (k_7+1)) h_1 tail_3)
 else
  bif (decide (((tail_3.length+1)*1)≤140737488355328)) then
  k (.c1 bits_4 (w64 (i_5 - 1)) h_1 (tail_3++[(w8 (x_6.tmod 256))]))
  else none
 | .c3 at_10 tail_3 state_8 k_9=>
 bif (decide (at_10<(tail_3.length:Int))) then
  bif (((decide (0≤at_10)) && (decide (at_10≤(w64 (at_10+64))))) && (decide ((w64 (at_10+64))≤(tail_3.length:Int)))) then
  (z3 state_8 k_9 (ofBytes ((tail_3.drop at_10.toNat).take ((w64 (at_10+64)).toNat - at_10.toNat)))).bind fun r0=>
  k (.c3 (w64 (at_10+64)) tail_3 r0 k_9)
  else none
 else
  (z4 state_8).bind fun r1=>
  some r1
noncomputable def DY:Nat→Oh→Option ByteArray
 | 0,_=>none
 | m+1,s=>PZ TY JY NZ FZ BZ (DY m) s
noncomputable def Ph:Gs:=Js TY JY NZ FZ BZ (DY gas)
theorem VAA:Tells ctx PP 128 cv13 cv3 (fun a=>Ph a):=
 have b:∀ z0 z1 z2 z3 z4,CutIs ctx PP 128 Tryd.f128 [] [(148,Em z0),(149,Zd z1),(150,Lm z2),(151,Pm z3),(152,Bh z4)] cv3 U0 (PZ z0 z1 z2 z3 z4):=fun z0 z1 z2 z3 z4 _ s=>by cases s <;> kernel_rfl
 have e:∀ z0 z1 z2 z3 z4,EntryIs ctx PP 128 [] [(148,Em z0),(149,Zd z1),(150,Lm z2),(151,Pm z3),(152,Bh z4)] cv13 cv3 U0 (fun k a=>Js z0 z1 z2 z3 z4 k a):=fun z0 z1 z2 z3 z4 _ a=>by kernel_rfl
 fn_ok (hc Qz (hc Ur (hc Vz (hc Zz (hc Kr hl_nil))))) Tryd.func128 (fun s s' h=>by cases s <;> cases s' <;> first | ((repeat cases ‹SHasher›);cases h;done) | ((repeat cases ‹SHasher›);cases h;rfl) | exact (rg_ne h (by kernel_rfl)).elim) (fun _=>rfl) (fun _ _=>rfl) (b TY JY NZ FZ BZ) (e TY JY NZ FZ BZ) gas
noncomputable def WAA {γ:Type} (F:Gs):Hd ctx γ:=hdl cv13.dec (fun a=>F a) cv3.enc
abbrev Sm:=ByteArray→Option ByteArray
noncomputable def Ls (z0:Lr) (z1:Zr) (z2:Gs) (s_0:ByteArray):Option ByteArray:=
 z0.bind fun r0=>
 (z1 r0 s_0).bind fun r1=>
 (z2 r1).bind fun r2=>
 some r2
noncomputable def Ac:Sm:=Ls Dh Nh Ph
theorem XAA:Tells ctx PP 95 cv3 cv3 (fun a=>Ac a):=fn_ok0 (hc NAA (hc TAA (hc VAA hl_nil))) Tryd.func95 ((fun z0 z1 z2 a=>by kernel_rfl:∀ z0 z1 z2,EntryIs0 ctx PP 95 [] [(130,OAA z0),(129,UAA z1),(128,WAA z2)] cv3 cv3 fun a=>Ls z0 z1 z2 a) Dh Nh Ph)
noncomputable def X0 {γ:Type} (F:Sm):Hd ctx γ:=hdl cv3.dec (fun a=>F a) cv3.enc
abbrev Um:=SBook→SRec→Option (SBook×Bool)
inductive Qh where
 | c0 (y_6:ByteArray) (v_14:Int) (A_2:SBook) (r_3:SRec) (r_4c0:ByteArray) (r_4c1:Int) (r_4c3:Int) (r_4c4:ByteArray) (r_4c5:Int) (v_8c0:ByteArray) (v_8c1:Int) (v_8c3:Int) (v_8c4:ByteArray) (v_8c5:Int) (v_13:(List SThing)) (r_4r2:(List SThing)) (v_8r2:(List SThing))
noncomputable def Y0:Qh→LI
 | .c0 y_6 v_14 A_2 r_3 r_4c0 r_4c1 r_4c3 r_4c4 r_4c5 v_8c0 v_8c1 v_8c3 v_8c4 v_8c5 v_13 r_4r2 v_8r2=>(tdo Tryd.f64 32898512,[(2,[.one (.ptr 128 0)]),(3,[.one (.ptr 192 0)]),(4,[.one (.ptr 256 0)]),(6,[.one (.str y_6)]),(8,[.one (.ptr 512 0)]),(13,[.one (.own 880)]),(14,[.one (.int .i64 v_14)])],[(128,.var [.str A_2.fWord,.int .i64 A_2.fTries,.rsl 71 A_2.fThings,.int .i64 A_2.fLast,.str A_2.fChain,.int .i64 A_2.fCount]),(192,.var [.int .i64 r_3.fKind,.str r_3.fText,.int .i64 r_3.fNum,.int .i64 r_3.fThing.fId,.int .i64 r_3.fThing.fKind,.bool r_3.fThing.fHidden,.bool r_3.fThing.fFixed,.bool r_3.fThing.fSigns,.bool r_3.fThing.fWraps,.str r_3.fThing.fValue,.int .i64 r_3.fThing.fNext]),(256,.var [.str r_4c0,.int .i64 r_4c1,.own 1016386,.int .i64 r_4c3,.str r_4c4,.int .i64 r_4c5]),(512,.var [.str v_8c0,.int .i64 v_8c1,.own 1032770,.int .i64 v_8c3,.str v_8c4,.int .i64 v_8c5]),(880,.sl 71 v_13),(1016386,.sl 71 r_4r2),(1032770,.sl 71 v_8r2)])
noncomputable def Ns (z0:Sl) (z1:Ul) (z2:Td) (z3:Wl) (z4:Yl) (z5:Zl) (z6:Sm) (k:Qh→Option (SBook×Bool)) (t_0:SBook) (o_1:SRec):Option (SBook×Bool):=
 (z0 o_1).bind fun r0=>
 (z1 t_0).bind fun r1=>
 bif (!r1) then
 some (⟨⟨#[]⟩,0,[],0,⟨#[]⟩,0⟩,false)
 else
 bif (!r0.2) then
  some (⟨⟨#[]⟩,0,[],0,⟨#[]⟩,0⟩,false)
 else
  bif (t_0.fCount == 10000) then
  some (⟨⟨#[]⟩,0,[],0,⟨#[]⟩,0⟩,false)
  else
  (z2 t_0).bind fun r2=>
  bif (o_1.fKind == 1) then
   bif (decide ((t_0.fChain.size+r0.1.size)≤9223372036854775807)) then
   (z6 (t_0.fChain++r0.1)).bind fun r3=>
   (z1 ⟨o_1.fText,0,r2.fThings,r2.fLast,r3,(w64 (t_0.fCount+1))⟩).bind fun r4=>
   bif (!r4) then
   some (⟨⟨#[]⟩,0,[],0,⟨#[]⟩,0⟩,false)
   else
   some (⟨o_1.fText,0,r2.fThings,r2.fLast,r3,(w64 (t_0.fCount+1))⟩,true)
   else none
  else
   bif (o_1.fKind == 2) then
   bif (decide ((t_0.fChain.size+r0.1.size)≤9223372036854775807)) then
   (z6 (t_0.fChain++r0.1)).bind fun r5=>
   (z1 ⟨r2.fWord,o_1.fNum,r2.fThings,r2.fLast,r5,(w64 (t_0.fCount+1))⟩).bind fun r6=>
   bif (!r6) then
    some (⟨⟨#[]⟩,0,[],0,⟨#[]⟩,0⟩,false)
   else
    some (⟨r2.fWord,o_1.fNum,r2.fThings,r2.fLast,r5,(w64 (t_0.fCount+1))⟩,true)
   else none
   else
   bif (o_1.fKind == 3) then
    (z3 t_0 o_1.fThing.fId).bind fun r7=>
    bif r7.2 then
    (z4 r7.1 o_1.fThing).bind fun r8=>
    bif (!r8) then
     some (⟨⟨#[]⟩,0,[],0,⟨#[]⟩,0⟩,false)
    else
     bif (!r7.2) then
     bif (o_1.fThing.fId != (w64 (t_0.fLast+1))) then
      some (⟨⟨#[]⟩,0,[],0,⟨#[]⟩,0⟩,false)
     else
      bif ((t_0.fThings.length:Int) == 8) then
      some (⟨⟨#[]⟩,0,[],0,⟨#[]⟩,0⟩,false)
      else
      bif (!r7.2) then
       (z5 t_0.fThings o_1.fThing).bind fun r9=>
       bif (decide ((t_0.fChain.size+r0.1.size)≤9223372036854775807)) then
       (z6 (t_0.fChain++r0.1)).bind fun r10=>
       (z1 ⟨r2.fWord,r2.fTries,r9,o_1.fThing.fId,r10,(w64 (t_0.fCount+1))⟩).bind fun r11=>
       bif (!r11) then
       some (⟨⟨#[]⟩,0,[],0,⟨#[]⟩,0⟩,false)
       else
       some (⟨r2.fWord,r2.fTries,r9,o_1.fThing.fId,r10,(w64 (t_0.fCount+1))⟩,true)
       else none
      else
       (z5 t_0.fThings o_1.fThing).bind fun r12=>
       bif (decide ((t_0.fChain.size+r0.1.size)≤9223372036854775807)) then
       (z6 (t_0.fChain++r0.1)).bind fun r13=>
       (z1 ⟨r2.fWord,r2.fTries,r12,r2.fLast,r13,(w64 (t_0.fCount+1))⟩).bind fun r14=>
       bif (!r14) then
       some (⟨⟨#[]⟩,0,[],0,⟨#[]⟩,0⟩,false)
       else
       some (⟨r2.fWord,r2.fTries,r12,r2.fLast,r13,(w64 (t_0.fCount+1))⟩,true)
       else none
     else
     bif (!r7.2) then
      (z5 t_0.fThings o_1.fThing).bind fun r15=>
      bif (decide ((t_0.fChain.size+r0.1.size)≤9223372036854775807)) then
      (z6 (t_0.fChain++r0.1)).bind fun r16=>
      (z1 ⟨r2.fWord,r2.fTries,r15,o_1.fThing.fId,r16,(w64 (t_0.fCount+1))⟩).bind fun r17=>
      bif (!r17) then
      some (⟨⟨#[]⟩,0,[],0,⟨#[]⟩,0⟩,false)
      else
      some (⟨r2.fWord,r2.fTries,r15,o_1.fThing.fId,r16,(w64 (t_0.fCount+1))⟩,true)
      else none
     else
      (z5 t_0.fThings o_1.fThing).bind fun r18=>
      bif (decide ((t_0.fChain.size+r0.1.size)≤9223372036854775807)) then
      (z6 (t_0.fChain++r0.1)).bind fun r19=>
      (z1 ⟨r2.fWord,r2.fTries,r18,r2.fLast,r19,(w64 (t_0.fCount+1))⟩).bind fun r20=>
      bif (!r20) then
      some (⟨⟨#[]⟩,0,[],0,⟨#[]⟩,0⟩,false)
      else
      some (⟨r2.fWord,r2.fTries,r18,r2.fLast,r19,(w64 (t_0.fCount+1))⟩,true)
      else none
    else
    bif (!r7.2) then
     bif (o_1.fThing.fId != (w64 (t_0.fLast+1))) then
     some (⟨⟨#[]⟩,0,[],0,⟨#[]⟩,0⟩,false)
     else
     bif ((t_0.fThings.length:Int) == 8) then
      some (⟨⟨#[]⟩,0,[],0,⟨#[]⟩,0⟩,false)
     else
      bif (!r7.2) then
      (z5 t_0.fThings o_1.fThing).bind fun r21=>
      bif (decide ((t_0.fChain.size+r0.1.size)≤9223372036854775807)) then
      (z6 (t_0.fChain++r0.1)).bind fun r22=>
      (z1 ⟨r2.fWord,r2.fTries,r21,o_1.fThing.fId,r22,(w64 (t_0.fCount+1))⟩).bind fun r23=>
      bif (!r23) then
       some (⟨⟨#[]⟩,0,[],0,⟨#[]⟩,0⟩,false)
      else
       some (⟨r2.fWord,r2.fTries,r21,o_1.fThing.fId,r22,(w64 (t_0.fCount+1))⟩,true)
      else none
      else
      (z5 t_0.fThings o_1.fThing).bind fun r24=>
      bif (decide ((t_0.fChain.size+r0.1.size)≤9223372036854775807)) then
      (z6 (t_0.fChain++r0.1)).bind fun r25=>
      (z1 ⟨r2.fWord,r2.fTries,r24,r2.fLast,r25,(w64 (t_0.fCount+1))⟩).bind fun r26=>
      bif (!r26) then
       some (⟨⟨#[]⟩,0,[],0,⟨#[]⟩,0⟩,false)
      else
       some (⟨r2.fWord,r2.fTries,r24,r2.fLast,r25,(w64 (t_0.fCount+1))⟩,true)
      else none
    else
     bif (!r7.2) then
     (z5 t_0.fThings o_1.fThing).bind fun r27=>
     bif (decide ((t_0.fChain.size+r0.1.size)≤9223372036854775807)) then
     (z6 (t_0.fChain++r0.1)).bind fun r28=>
     (z1 ⟨r2.fWord,r2.fTries,r27,o_1.fThing.fId,r28,(w64 (t_0.fCount+1))⟩).bind fun r29=>
     bif (!r29) then
      some (⟨⟨#[]⟩,0,[],0,⟨#[]⟩,0⟩,false)
     else
      some (⟨r2.fWord,r2.fTries,r27,o_1.fThing.fId,r28,(w64 (t_0.fCount+1))⟩,true)
     else none
     else
     (z5 t_0.fThings o_1.fThing).bind fun r30=>
     bif (decide ((t_0.fChain.size+r0.1.size)≤9223372036854775807)) then
     (z6 (t_0.fChain++r0.1)).bind fun r31=>
     (z1 ⟨r2.fWord,r2.fTries,r30,r2.fLast,r31,(w64 (t_0.fCount+1))⟩).bind fun r32=>
     bif (!r32) then
      some (⟨⟨#[]⟩,0,[],0,⟨#[]⟩,0⟩,false)
     else
      some (⟨r2.fWord,r2.fTries,r30,r2.fLast,r31,(w64 (t_0.fCount+1))⟩,true)
     else none
   else
    bif (o_1.fKind == 4) then
    (z3 t_0 o_1.fNum).bind fun r33=>
    bif (!r33.2) then
     some (⟨⟨#[]⟩,0,[],0,⟨#[]⟩,0⟩,false)
    else
     k (.c0 r0.1 0 t_0 o_1 ⟨#[]⟩ 0 0 ⟨#[]⟩ 0 r2.fWord r2.fTries r2.fLast r2.fChain r2.fCount [] [] r2.fThings)
    else
    bif (decide ((t_0.fChain.size+r0.1.size)≤9223372036854775807)) then
    (z6 (t_0.fChain++r0.1)).bind fun r34=>
    (z1 ⟨r2.fWord,r2.fTries,r2.fThings,r2.fLast,r34,(w64 (t_0.fCount+1))⟩).bind fun r35=>
    bif (!r35) then
     some (⟨⟨#[]⟩,0,[],0,⟨#[]⟩,0⟩,false)
    else
     some (⟨r2.fWord,r2.fTries,r2.fThings,r2.fLast,r34,(w64 (t_0.fCount+1))⟩,true)
    else none
noncomputable def Vm (z0:Sl) (z1:Ul) (z2:Td) (z3:Wl) (z4:Yl) (z5:Zl) (z6:Sm) (k:Qh→Option (SBook×Bool)):Qh→Option (SBook×Bool)
 | .c0 y_6 v_14 A_2 r_3 r_4c0 r_4c1 r_4c3 r_4c4 r_4c5 v_8c0 v_8c1 v_8c3 v_8c4 v_8c5 v_13 r_4r2 v_8r2=>
 bif (decide (v_14<(A_2.fThings.length:Int))) then
  bif ((decide (0≤v_14)) && (decide (v_14<(A_2.fThings.length:Int)))) then
  bif ((A_2.fThings.getD v_14.toNat (⟨0,0,false,false,false,false,⟨#[]⟩,0⟩:SThing)).fId != r_3.fNum) then
  bif ((decide (0≤v_14)) && (decide (v_14<(A_2.fThings.length:Int)))) then
  bif (decide (((v_13.length+1)*48)≤140737488355328)) then
  k (.c0 y_6 (w64 (v_14+1)) A_2 r_3 r_4c0 r_4c1 r_4c3 r_4c4 r_4c5 v_8c0 v_8c1 v_8c3 v_8c4 v_8c5 (v_13++[(A_2.fThings.getD v_14.toNat (⟨0,0,false,false,false,false,⟨#[]⟩,0⟩:SThing))]) r_4r2 v_8r2)
  else none
  else none
  else
  k (.c0 y_6 (w64 (v_14+1)) A_2 r_3 r_4c0 r_4c1 r_4c3 r_4c4 r_4c5 v_8c0 v_8c1 v_8c3 v_8c4 v_8c5 v_13 r_4r2 v_8r2)
  else none
 else
  bif (decide ((A_2.fChain.size+y_6.size)≤9223372036854775807)) then
  (z6 (A_2.fChain++y_6)).bind fun r0=>
  (z1 ⟨v_8c0,v_8c1,v_13,v_8c3,r0,(w64 (A_2.fCount+1))⟩).bind fun r1=>
  bif (!r1) then
  some (⟨⟨#[]⟩,0,[],0,⟨#[]⟩,0⟩,false)
  else
  some (⟨v_8c0,v_8c1,v_13,v_8c3,r0,(w64 (A_2.fCount+1))⟩,true)
  else none
noncomputable def Rh:Nat→Qh→Option (SBook×Bool)
 | 0,_=>none
 | m+1,s=>Vm Ob Ub EZ Vd Vb Xb Ac (Rh m) s
noncomputable def Bc:Um:=Ns Ob Ub EZ Vd Vb Xb Ac (Rh gas)
theorem YAA:Tells ctx PP 64 cv59 cv60 (fun a=>Bc a.1 a.2):=
 have b:∀ z0 z1 z2 z3 z4 z5 z6,CutIs ctx PP 64 Tryd.f64 [] [(78,Bz z0),(109,Ez z1),(63,Nl z2),(110,Hz z3),(111,Iz z4),(112,Kz z5),(95,X0 z6)] cv60 Y0 (Vm z0 z1 z2 z3 z4 z5 z6):=fun z0 z1 z2 z3 z4 z5 z6 _ s=>by cases s <;> kernel_rfl
 have e:∀ z0 z1 z2 z3 z4 z5 z6,EntryIs ctx PP 64 [] [(78,Bz z0),(109,Ez z1),(63,Nl z2),(110,Hz z3),(111,Iz z4),(112,Kz z5),(95,X0 z6)] cv59 cv60 Y0 (fun k a=>Ns z0 z1 z2 z3 z4 z5 z6 k a.1 a.2):=fun z0 z1 z2 z3 z4 z5 z6 _ a=>by kernel_rfl
 fn_ok (hc GAA (hc HAA (hc Vy (hc IAA (hc JAA (hc KAA (hc XAA hl_nil))))))) Tryd.func64 (fun s s' h=>by cases s;cases s';(repeat cases ‹SBook›);(repeat cases ‹SRec›);(repeat cases ‹SThing›);cases h;rfl) (fun _=>rfl) (fun _ _=>rfl) (b Ob Ub EZ Vd Vb Xb Ac) (e Ob Ub EZ Vd Vb Xb Ac) gas
noncomputable def O1 {γ:Type} (F:Um):Hd ctx γ:=hdl cv59.dec (fun a=>F a.1 a.2) cv60.enc
abbrev Qs:=SBook→(List SRec)→Option (SBook×Bool)
inductive Uh where
 | c0 (list_1:(List SRec)) (i_7:Int) (v_4c0:ByteArray) (v_4c1:Int) (v_4c3:Int) (v_4c4:ByteArray) (v_4c5:Int) (out_6c0:ByteArray) (out_6c1:Int) (out_6c3:Int) (out_6c4:ByteArray) (out_6c5:Int) (v_4r2:(List SThing)) (out_6r2:(List SThing))
noncomputable def U1:Uh→LI
 | .c0 list_1 i_7 v_4c0 v_4c1 v_4c3 v_4c4 v_4c5 out_6c0 out_6c1 out_6c3 out_6c4 out_6c5 v_4r2 out_6r2=>(tdo Tryd.f26 464,[(1,[.one (.rsl 73 list_1)]),(4,[.one (.ptr 256 0)]),(6,[.one (.ptr 384 0)]),(7,[.one (.int .i64 i_7)])],[(256,.var [.str v_4c0,.int .i64 v_4c1,.own 1016386,.int .i64 v_4c3,.str v_4c4,.int .i64 v_4c5]),(384,.var [.str out_6c0,.int .i64 out_6c1,.own 1024578,.int .i64 out_6c3,.str out_6c4,.int .i64 out_6c5]),(1016386,.sl 71 v_4r2),(1024578,.sl 71 out_6r2)])
noncomputable def Us (z0:Td) (z1:Um) (k:Uh→Option (SBook×Bool)) (b_0:SBook) (list_1:(List SRec)):Option (SBook×Bool):=
 (z0 b_0).bind fun r0=>
 k (.c0 list_1 0 ⟨#[]⟩ 0 0 ⟨#[]⟩ 0 r0.fWord r0.fTries r0.fLast r0.fChain r0.fCount [] r0.fThings)
noncomputable def Xm (z0:Td) (z1:Um) (k:Uh→Option (SBook×Bool)):Uh→Option (SBook×Bool)
 | .c0 list_1 i_7 v_4c0 v_4c1 v_4c3 v_4c4 v_4c5 out_6c0 out_6c1 out_6c3 out_6c4 out_6c5 v_4r2 out_6r2=>
 bif (decide (i_7<(list_1.length:Int))) then
  bif ((decide (0≤i_7)) && (decide (i_7<(list_1.length:Int)))) then
  (z1 ⟨out_6c0,out_6c1,out_6r2,out_6c3,out_6c4,out_6c5⟩ (list_1.getD i_7.toNat (⟨0,⟨#[]⟩,0,⟨0,0,false,false,false,false,⟨#[]⟩,0⟩⟩:SRec))).bind fun r0=>
  bif (!r0.2) then
  some (⟨⟨#[]⟩,0,[],0,⟨#[]⟩,0⟩,false)
  else
  k (.c0 list_1 (w64 (i_7+1)) v_4c0 v_4c1 v_4c3 v_4c4 v_4c5 r0.1.fWord r0.1.fTries r0.1.fLast r0.1.fChain r0.1.fCount v_4r2 r0.1.fThings)
  else none
 else
  some (⟨out_6c0,out_6c1,out_6r2,out_6c3,out_6c4,out_6c5⟩,true)
noncomputable def Vh:Nat→Uh→Option (SBook×Bool)
 | 0,_=>none
 | m+1,s=>Xm EZ Bc (Vh m) s
noncomputable def Wh:Qs:=Us EZ Bc (Vh gas)
theorem ZAA:Tells ctx PP 26 cv61 cv60 (fun a=>Wh a.1 a.2):=
 have b:∀ z0 z1,CutIs ctx PP 26 Tryd.f26 [] [(63,Nl z0),(64,O1 z1)] cv60 U1 (Xm z0 z1):=fun z0 z1 _ s=>by cases s <;> kernel_rfl
 have e:∀ z0 z1,EntryIs ctx PP 26 [] [(63,Nl z0),(64,O1 z1)] cv61 cv60 U1 (fun k a=>Us z0 z1 k a.1 a.2):=fun z0 z1 _ a=>by kernel_rfl
 fn_ok (hc Vy (hc YAA hl_nil)) Tryd.func26 (fun s s' h=>by cases s;cases s';cases h;rfl) (fun _=>rfl) (fun _ _=>rfl) (b EZ Bc) (e EZ Bc) gas
noncomputable def AAB {γ:Type} (F:Qs):Hd ctx γ:=hdl cv61.dec (fun a=>F a.1 a.2) cv60.enc
abbrev Xh:=SBook→Option SBook
noncomputable def Vs (b_0:SBook):Option SBook:=
 bif (decide ((b_0.fThings.length*48)≤140737488355328)) then
 some b_0
 else none
noncomputable def Fa:Xh:=Vs
theorem Y1:Tells ctx PP 65 cv56 cv52 (fun a=>Fa a):=fn_ok0 hl_nil Tryd.func65 (fun a=>by kernel_rfl:EntryIs0 ctx PP 65 [] [] cv56 cv52 fun a=>Vs a)
noncomputable def Ws {γ:Type} (F:Xh):Hd ctx γ:=hdl cv56.dec (fun a=>F a) cv52.enc
abbrev Yh:=Int→Option ByteArray
inductive Zh where
 | c0 (n_0:Int) (out_3:(List Int))
noncomputable def U2:Zh→LI
 | .c0 n_0 out_3=>(tdo Tryd.f92 224,[(0,[.one (.int .i64 n_0)]),(3,[.one (.own 240)])],[(240,.sl 5 out_3)])
noncomputable def Y2 (k:Zh→Option ByteArray) (n_0:Int):Option ByteArray:=
 k (.c0 n_0 [])
noncomputable def Ym (k:Zh→Option ByteArray):Zh→Option ByteArray
 | .c0 n_0 out_3=>
 bif (decide (n_0 > 127)) then
  bif (decide (((out_3.length+1)*1)≤140737488355328)) then
  k (.c0 (w64 (n_0.tdiv 128)) (out_3++[(w8 (w64 (128+(n_0.tmod 128))))]))
  else none
 else
  bif (decide (((out_3.length+1)*1)≤140737488355328)) then
  some (ofBytes (out_3++[(w8 n_0)]))
  else none
noncomputable def Ai:Nat→Zh→Option ByteArray
 | 0,_=>none
 | m+1,s=>Ym (Ai m) s
noncomputable def Xa:Yh:=Y2 (Ai gas)
theorem Dt:Tells ctx PP 92 cv2 cv3 (fun a=>Xa a):=
 have b:CutIs ctx PP 92 Tryd.f92 [] [] cv3 U2 (Ym):=fun _ s=>by cases s <;> kernel_rfl
 have e:EntryIs ctx PP 92 [] [] cv2 cv3 U2 (fun k a=>Y2 k a):=fun _ a=>by kernel_rfl
 fn_ok hl_nil Tryd.func92 (fun s s' h=>by cases s;cases s';cases h;rfl) (fun _=>rfl) (fun _ _=>rfl) b e gas
noncomputable def Et {γ:Type} (F:Yh):Hd ctx γ:=hdl cv2.dec (fun a=>F a) cv3.enc
abbrev Fe:=Int→Int→Int→Option Bool
noncomputable def J3 (n_0:Int) (low_1:Int) (high_2:Int):Option Bool:=
 bif (decide (n_0≥low_1)) then
 some (decide (n_0≤high_2))
 else
 some false
noncomputable def QZ:Fe:=J3
theorem Gt:Tells ctx PP 84 cv0 cv1 (fun a=>QZ a.1 a.2.1 a.2.2):=fn_ok0 hl_nil Tryd.func84 (fun a=>by kernel_rfl:EntryIs0 ctx PP 84 [] [] cv0 cv1 fun a=>J3 a.1 a.2.1 a.2.2)
noncomputable def Zm {γ:Type} (F:Fe):Hd ctx γ:=hdl cv0.dec (fun a=>F a.1 a.2.1 a.2.2) cv1.enc
abbrev Ci:=SThing→Option Bool
noncomputable def Ht (z0:Fe) (x_0:SThing):Option Bool:=
 (z0 x_0.fId 1 1000).bind fun r0=>
 bif (!r0) then
 some false
 else
 (z0 x_0.fNext 0 16).bind fun r1=>
 bif (!r1) then
  some false
 else
  bif (x_0.fKind != 2) then
  bif (x_0.fNext != 0) then
   some false
  else
   bif x_0.fSigns then
   some false
   else
   bif (x_0.fKind != 1) then
    bif x_0.fWraps then
    some false
    else
    bif (x_0.fKind == 1) then
     bif (x_0.fKind == 1) then
     some ((x_0.fValue.size:Int) == 32)
     else
     bif (x_0.fKind == 3) then
      some (decide ((x_0.fValue.size:Int)≤100))
     else
      some false
    else
     bif (x_0.fKind == 2) then
     some ((x_0.fValue.size:Int) == 32)
     else
     bif (x_0.fKind == 3) then
      some (decide ((x_0.fValue.size:Int)≤100))
     else
      some false
   else
    bif (x_0.fKind == 1) then
    bif (x_0.fKind == 1) then
     some ((x_0.fValue.size:Int) == 32)
    else
     bif (x_0.fKind == 3) then
     some (decide ((x_0.fValue.size:Int)≤100))
     else
     some false
    else
    bif (x_0.fKind == 2) then
     some ((x_0.fValue.size:Int) == 32)
    else
     bif (x_0.fKind == 3) then
     some (decide ((x_0.fValue.size:Int)≤100))
     else
     some false
  else
  bif (x_0.fKind != 1) then
   bif x_0.fWraps then
   some false
   else
   bif (x_0.fKind == 1) then
    bif (x_0.fKind == 1) then
    some ((x_0.fValue.size:Int) == 32)
    else
    bif (x_0.fKind == 3) then
     some (decide ((x_0.fValue.size:Int)≤100))
    else
     some false
   else
    bif (x_0.fKind == 2) then
    some ((x_0.fValue.size:Int) == 32)
    else
    bif (x_0.fKind == 3) then
     some (decide ((x_0.fValue.size:Int)≤100))
    else
     some false
  else
   bif (x_0.fKind == 1) then
   bif (x_0.fKind == 1) then
    some ((x_0.fValue.size:Int) == 32)
   else
    bif (x_0.fKind == 3) then
    some (decide ((x_0.fValue.size:Int)≤100))
    else
    some false
   else
   bif (x_0.fKind == 2) then
    some ((x_0.fValue.size:Int) == 32)
   else
    bif (x_0.fKind == 3) then
    some (decide ((x_0.fValue.size:Int)≤100))
    else
    some false
noncomputable def Ia:Ci:=Ht QZ
theorem O3:Tells ctx PP 139 cv26 cv1 (fun a=>Ia a):=fn_ok0 (hc Gt hl_nil) Tryd.func139 ((fun z0 a=>by kernel_rfl:∀ z0,EntryIs0 ctx PP 139 [] [(84,Zm z0)] cv26 cv1 fun a=>Ht z0 a) QZ)
noncomputable def Jt {γ:Type} (F:Ci):Hd ctx γ:=hdl cv26.dec (fun a=>F a) cv1.enc
abbrev Dn:=Int→Option ByteArray
noncomputable def Kt (n_0:Int):Option ByteArray:=
 some (ofBytes [(w8 n_0)])
noncomputable def Cc:Dn:=Kt
theorem U3:Tells ctx PP 124 cv2 cv3 (fun a=>Cc a):=fn_ok0 hl_nil Tryd.func124 (fun a=>by kernel_rfl:EntryIs0 ctx PP 124 [] [] cv2 cv3 fun a=>Kt a)
noncomputable def V3 {γ:Type} (F:Dn):Hd ctx γ:=hdl cv2.dec (fun a=>F a) cv3.enc
abbrev Ot:=SThing→Option Int
inductive Di where
 | c0 (n_3:Int) (v_15:Int) (v_16:Int) (v_14:(List Bool))
noncomputable def X3:Di→LI
 | .c0 n_3 v_15 v_16 v_14=>(tdo Tryd.f146 232,[(3,[.one (.int .i64 n_3)]),(14,[.one (.own 944)]),(15,[.one (.int .i64 v_15)]),(16,[.one (.int .i64 v_16)])],[(944,.sl 4 v_14)])
noncomputable def Rt (k:Di→Option Int) (x_0:SThing):Option Int:=
 k (.c0 0 ((4:Nat):Int) 0 [x_0.fHidden,x_0.fFixed,x_0.fSigns,x_0.fWraps])
noncomputable def Y3 (k:Di→Option Int):Di→Option Int
 | .c0 n_3 v_15 v_16 v_14=>
 bif (decide (v_16<v_15)) then
  bif ((decide (0≤v_16)) && (decide (v_16<(v_14.length:Int)))) then
  bif (v_14.getD v_16.toNat false) then
  bif (decide (0≤v_16)) then
  k (.c0 (w64 (((BitVec.toNat ((BitVec.ofInt (IntKind.bits IntKind.i64) n_3) ||| (BitVec.ofInt (IntKind.bits IntKind.i64) (w64 (1*(2 ^ (Min.min v_16.toNat (IntKind.bits IntKind.i64)))))))):Nat):Int)) v_15 (w64 (v_16+1)) v_14)
  else none
  else
  k (.c0 n_3 v_15 (w64 (v_16+1)) v_14)
  else none
 else
  some n_3
noncomputable def Tt:Nat→Di→Option Int
 | 0,_=>none
 | m+1,s=>Y3 (Tt m) s
noncomputable def Ei:Ot:=Rt (Tt gas)
theorem BAB:Tells ctx PP 146 cv26 cv2 (fun a=>Ei a):=
 have b:CutIs ctx PP 146 Tryd.f146 [] [] cv2 X3 (Y3):=fun _ s=>by cases s <;> kernel_rfl
 have e:EntryIs ctx PP 146 [] [] cv26 cv2 X3 (fun k a=>Rt k a):=fun _ a=>by kernel_rfl
 fn_ok hl_nil Tryd.func146 (fun s s' h=>by cases s;cases s';cases h;rfl) (fun _=>rfl) (fun _ _=>rfl) b e gas
noncomputable def CAB {γ:Type} (F:Ot):Hd ctx γ:=hdl cv26.dec (fun a=>F a) cv2.enc
abbrev Ut:=ByteArray→Option ByteArray
noncomputable def Vt (z0:Yh) (s_0:ByteArray):Option ByteArray:=
 (z0 (s_0.size:Int)).bind fun r0=>
 bif (decide ((r0.size+s_0.size)≤9223372036854775807)) then
 some (r0++s_0)
 else none
noncomputable def Gi:Ut:=Vt Xa
theorem DAB:Tells ctx PP 147 cv3 cv3 (fun a=>Gi a):=fn_ok0 (hc Dt hl_nil) Tryd.func147 ((fun z0 a=>by kernel_rfl:∀ z0,EntryIs0 ctx PP 147 [] [(92,Et z0)] cv3 cv3 fun a=>Vt z0 a) Xa)
noncomputable def EAB {γ:Type} (F:Ut):Hd ctx γ:=hdl cv3.dec (fun a=>F a) cv3.enc
abbrev Xt:=SThing→Option (ByteArray×Bool)
noncomputable def Yt (z0:Ci) (z1:Yh) (z2:Dn) (z3:Ot) (z4:Ut) (x_0:SThing):Option (ByteArray×Bool):=
 (z0 x_0).bind fun r0=>
 bif (!r0) then
 some (⟨#[]⟩,false)
 else
 (z1 x_0.fId).bind fun r1=>
 (z2 x_0.fKind).bind fun r2=>
 bif (decide ((r1.size+r2.size)≤9223372036854775807)) then
 (z3 x_0).bind fun r3=>
 (z2 r3).bind fun r4=>
 bif (decide (((r1++r2).size+r4.size)≤9223372036854775807)) then
 (z4 x_0.fValue).bind fun r5=>
 bif (decide ((((r1++r2)++r4).size+r5.size)≤9223372036854775807)) then
 (z1 x_0.fNext).bind fun r6=>
 bif (decide (((((r1++r2)++r4)++r5).size+r6.size)≤9223372036854775807)) then
 some (((((r1++r2)++r4)++r5)++r6),true)
 else none
 else none
 else none
 else none
noncomputable def Ii:Xt:=Yt Ia Xa Cc Ei Gi
theorem FAB:Tells ctx PP 127 cv26 cv8 (fun a=>Ii a):=fn_ok0 (hc O3 (hc Dt (hc U3 (hc BAB (hc DAB hl_nil))))) Tryd.func127 ((fun z0 z1 z2 z3 z4 a=>by kernel_rfl:∀ z0 z1 z2 z3 z4,EntryIs0 ctx PP 127 [] [(139,Jt z0),(92,Et z1),(124,V3 z2),(146,CAB z3),(147,EAB z4)] cv26 cv8 fun a=>Yt z0 z1 z2 z3 z4 a) Ia Xa Cc Ei Gi)
noncomputable def GAB {γ:Type} (F:Xt):Hd ctx γ:=hdl cv26.dec (fun a=>F a) cv8.enc
abbrev Zt:=SRec→Option (ByteArray×Bool)
noncomputable def Au (z0:Yh) (z1:Fe) (z2:Xt) (z3:Dn) (r_0:SRec):Option (ByteArray×Bool):=
 bif (r_0.fKind == 1) then
 bif (!((r_0.fText.size:Int) == 32)) then
  some (⟨#[]⟩,false)
 else
  bif (!((r_0.fKind == r_0.fKind) && (((ByteArray.toList r_0.fText) == (ByteArray.toList r_0.fText)) && ((r_0.fNum == 0) && (((r_0.fThing.fId == 0) && ((r_0.fThing.fKind == 0) && ((r_0.fThing.fHidden == false) && ((r_0.fThing.fFixed == false) && ((r_0.fThing.fSigns == false) && ((r_0.fThing.fWraps == false) && (((ByteArray.toList r_0.fThing.fValue) == (ByteArray.toList ⟨#[]⟩)) && ((r_0.fThing.fNext == 0) && true)))))))) && true))))) then
  some (⟨#[]⟩,false)
  else
  (z3 r_0.fKind).bind fun r0=>
  bif (decide ((r0.size+r_0.fText.size)≤9223372036854775807)) then
  some ((r0++r_0.fText),true)
  else none
 else
 bif (r_0.fKind == 2) then
  (z0 r_0.fNum).bind fun r1=>
  (z1 r_0.fNum 0 3).bind fun r2=>
  bif (!r2) then
  some (⟨#[]⟩,false)
  else
  bif (!((r_0.fKind == r_0.fKind) && (((ByteArray.toList r_0.fText) == (ByteArray.toList ⟨#[]⟩)) && ((r_0.fNum == r_0.fNum) && (((r_0.fThing.fId == 0) && ((r_0.fThing.fKind == 0) && ((r_0.fThing.fHidden == false) && ((r_0.fThing.fFixed == false) && ((r_0.fThing.fSigns == false) && ((r_0.fThing.fWraps == false) && (((ByteArray.toList r_0.fThing.fValue) == (ByteArray.toList ⟨#[]⟩)) && ((r_0.fThing.fNext == 0) && true)))))))) && true))))) then
   some (⟨#[]⟩,false)
  else
   (z3 r_0.fKind).bind fun r3=>
   bif (decide ((r3.size+r1.size)≤9223372036854775807)) then
   some ((r3++r1),true)
   else none
 else
  bif (r_0.fKind == 3) then
  (z2 r_0.fThing).bind fun r4=>
  bif (!r4.2) then
   some (⟨#[]⟩,false)
  else
   bif (!((r_0.fKind == r_0.fKind) && (((ByteArray.toList r_0.fText) == (ByteArray.toList ⟨#[]⟩)) && ((r_0.fNum == 0) && (((r_0.fThing.fId == r_0.fThing.fId) && ((r_0.fThing.fKind == r_0.fThing.fKind) && ((r_0.fThing.fHidden == r_0.fThing.fHidden) && ((r_0.fThing.fFixed == r_0.fThing.fFixed) && ((r_0.fThing.fSigns == r_0.fThing.fSigns) && ((r_0.fThing.fWraps == r_0.fThing.fWraps) && (((ByteArray.toList r_0.fThing.fValue) == (ByteArray.toList r_0.fThing.fValue)) && ((r_0.fThing.fNext == r_0.fThing.fNext) && true)))))))) && true))))) then
   some (⟨#[]⟩,false)
   else
   (z3 r_0.fKind).bind fun r5=>
   bif (decide ((r5.size+r4.1.size)≤9223372036854775807)) then
   some ((r5++r4.1),true)
   else none
  else
  bif (r_0.fKind == 4) then
   (z0 r_0.fNum).bind fun r6=>
   (z1 r_0.fNum 1 1000).bind fun r7=>
   bif (!r7) then
   some (⟨#[]⟩,false)
   else
   bif (!((r_0.fKind == r_0.fKind) && (((ByteArray.toList r_0.fText) == (ByteArray.toList ⟨#[]⟩)) && ((r_0.fNum == r_0.fNum) && (((r_0.fThing.fId == 0) && ((r_0.fThing.fKind == 0) && ((r_0.fThing.fHidden == false) && ((r_0.fThing.fFixed == false) && ((r_0.fThing.fSigns == false) && ((r_0.fThing.fWraps == false) && (((ByteArray.toList r_0.fThing.fValue) == (ByteArray.toList ⟨#[]⟩)) && ((r_0.fThing.fNext == 0) && true)))))))) && true))))) then
    some (⟨#[]⟩,false)
   else
    (z3 r_0.fKind).bind fun r8=>
    bif (decide ((r8.size+r6.size)≤9223372036854775807)) then
    some ((r8++r6),true)
    else none
  else
   some (⟨#[]⟩,false)
noncomputable def Ji:Zt:=Au Xa QZ Ii Cc
theorem IAB:Tells ctx PP 91 cv29 cv8 (fun a=>Ji a):=fn_ok0 (hc Dt (hc Gt (hc FAB (hc U3 hl_nil)))) Tryd.func91 ((fun z0 z1 z2 z3 a=>by kernel_rfl:∀ z0 z1 z2 z3,EntryIs0 ctx PP 91 [] [(92,Et z0),(84,Zm z1),(127,GAB z2),(124,V3 z3)] cv29 cv8 fun a=>Au z0 z1 z2 z3 a) Xa QZ Ii Cc)
noncomputable def JAB {γ:Type} (F:Zt):Hd ctx γ:=hdl cv29.dec (fun a=>F a) cv8.enc
abbrev Du:=SBook→Option Bool
inductive Oi where
 | c0 (v_6:(List SThing)) (v_7:Int) (v_8:Int) (b_1:SBook)
noncomputable def I4:Oi→LI
 | .c0 v_6 v_7 v_8 b_1=>(tdo Tryd.f113 104,[(1,[.one (.ptr 64 0)]),(6,[.one (.rsl 71 v_6)]),(7,[.one (.int .i64 v_7)]),(8,[.one (.int .i64 v_8)])],[(64,.var [.str b_1.fWord,.int .i64 b_1.fTries,.rsl 71 b_1.fThings,.int .i64 b_1.fLast,.str b_1.fChain,.int .i64 b_1.fCount])])
noncomputable def Eu (z0:Ci) (z1:Fe) (k:Oi→Option Bool) (b_0:SBook):Option Bool:=
 k (.c0 b_0.fThings (b_0.fThings.length:Int) 0 b_0)
noncomputable def En (z0:Ci) (z1:Fe) (k:Oi→Option Bool):Oi→Option Bool
 | .c0 v_6 v_7 v_8 b_1=>
 bif (decide (v_8<v_7)) then
  bif ((decide (0≤v_8)) && (decide (v_8<(v_6.length:Int)))) then
  (z0 (v_6.getD v_8.toNat (⟨0,0,false,false,false,false,⟨#[]⟩,0⟩:SThing))).bind fun r0=>
  bif (!r0) then
  some false
  else
  bif (decide ((v_6.getD v_8.toNat (⟨0,0,false,false,false,false,⟨#[]⟩,0⟩:SThing)).fId > b_1.fLast)) then
   some false
  else
   bif (decide (v_8 > 0)) then
   bif ((decide (0≤(w64 (v_8 - 1)))) && (decide ((w64 (v_8 - 1))<(b_1.fThings.length:Int)))) then
   bif (decide ((b_1.fThings.getD (w64 (v_8 - 1)).toNat (⟨0,0,false,false,false,false,⟨#[]⟩,0⟩:SThing)).fId≥(v_6.getD v_8.toNat (⟨0,0,false,false,false,false,⟨#[]⟩,0⟩:SThing)).fId)) then
    some false
   else
    k (.c0 v_6 v_7 (w64 (v_8+1)) b_1)
   else none
   else
   k (.c0 v_6 v_7 (w64 (v_8+1)) b_1)
  else none
 else
  bif ((b_1.fWord.size:Int) == 32) then
  bif ((b_1.fChain.size:Int) == 32) then
   (z1 b_1.fTries 0 3).bind fun r1=>
   bif r1 then
   bif (decide ((b_1.fThings.length:Int)≤8)) then
    (z1 b_1.fLast 0 1000).bind fun r2=>
    bif r2 then
    (z1 b_1.fCount 0 10000).bind fun r3=>
    some r3
    else
    some false
   else
    some false
   else
   some false
  else
   some false
  else
  some false
noncomputable def He:Nat→Oi→Option Bool
 | 0,_=>none
 | m+1,s=>En Ia QZ (He m) s
noncomputable def Qi:Du:=Eu Ia QZ (He gas)
theorem KAB:Tells ctx PP 113 cv56 cv1 (fun a=>Qi a):=
 have b:∀ z0 z1,CutIs ctx PP 113 Tryd.f113 [] [(139,Jt z0),(84,Zm z1)] cv1 I4 (En z0 z1):=fun z0 z1 _ s=>by cases s <;> kernel_rfl
 have e:∀ z0 z1,EntryIs ctx PP 113 [] [(139,Jt z0),(84,Zm z1)] cv56 cv1 I4 (fun k a=>Eu z0 z1 k a):=fun z0 z1 _ a=>by kernel_rfl
 fn_ok (hc O3 (hc Gt hl_nil)) Tryd.func113 (fun s s' h=>by cases s;cases s';(repeat cases ‹SBook›);cases h;rfl) (fun _=>rfl) (fun _ _=>rfl) (b Ia QZ) (e Ia QZ) gas
noncomputable def LAB {γ:Type} (F:Du):Hd ctx γ:=hdl cv56.dec (fun a=>F a) cv1.enc
abbrev Gn:=SBook→Int→Option Int
inductive Ri where
 | c0 (id_1:Int) (v_8:(List SThing)) (v_9:Int) (v_10:Int)
noncomputable def J4:Ri→LI
 | .c0 id_1 v_8 v_9 v_10=>(tdo Tryd.f115 104,[(1,[.one (.int .i64 id_1)]),(8,[.one (.rsl 71 v_8)]),(9,[.one (.int .i64 v_9)]),(10,[.one (.int .i64 v_10)])],[])
noncomputable def O4 (k:Ri→Option Int) (b_0:SBook) (id_1:Int):Option Int:=
 k (.c0 id_1 b_0.fThings (b_0.fThings.length:Int) 0)
noncomputable def Pn (k:Ri→Option Int):Ri→Option Int
 | .c0 id_1 v_8 v_9 v_10=>
 bif (decide (v_10<v_9)) then
  bif ((decide (0≤v_10)) && (decide (v_10<(v_8.length:Int)))) then
  bif ((v_8.getD v_10.toNat (⟨0,0,false,false,false,false,⟨#[]⟩,0⟩:SThing)).fId == id_1) then
  some v_10
  else
  k (.c0 id_1 v_8 v_9 (w64 (v_10+1)))
  else none
 else
  some (-(1:Int))
noncomputable def Ie:Nat→Ri→Option Int
 | 0,_=>none
 | m+1,s=>Pn (Ie m) s
noncomputable def Je:Gn:=O4 (Ie gas)
theorem U4:Tells ctx PP 115 cv57 cv2 (fun a=>Je a.1 a.2):=
 have b:CutIs ctx PP 115 Tryd.f115 [] [] cv2 J4 (Pn):=fun _ s=>by cases s <;> kernel_rfl
 have e:EntryIs ctx PP 115 [] [] cv57 cv2 J4 (fun k a=>O4 k a.1 a.2):=fun _ a=>by kernel_rfl
 fn_ok hl_nil Tryd.func115 (fun s s' h=>by cases s;cases s';cases h;rfl) (fun _=>rfl) (fun _ _=>rfl) b e gas
noncomputable def V4 {γ:Type} (F:Gn):Hd ctx γ:=hdl cv57.dec (fun a=>F a.1 a.2) cv2.enc
abbrev Gu:=SThing→SThing→Option Bool
noncomputable def Hu (x_0:SThing) (y_1:SThing):Option Bool:=
 bif (y_1.fKind == x_0.fKind) then
 bif ((ByteArray.toList y_1.fValue) == (ByteArray.toList x_0.fValue)) then
  bif (y_1.fSigns == x_0.fSigns) then
  bif (y_1.fWraps == x_0.fWraps) then
   bif (decide (y_1.fNext≥x_0.fNext)) then
   bif y_1.fHidden then
    bif y_1.fFixed then
    some true
    else
    some (!x_0.fFixed)
   else
    bif (!x_0.fHidden) then
    bif y_1.fFixed then
     some true
    else
     some (!x_0.fFixed)
    else
    some false
   else
   some false
  else
   some false
  else
  some false
 else
  some false
 else
 some false
noncomputable def Si:Gu:=Hu
theorem MAB:Tells ctx PP 140 cv39 cv1 (fun a=>Si a.1 a.2):=fn_ok0 hl_nil Tryd.func140 (fun a=>by kernel_rfl:EntryIs0 ctx PP 140 [] [] cv39 cv1 fun a=>Hu a.1 a.2)
noncomputable def NAB {γ:Type} (F:Gu):Hd ctx γ:=hdl cv39.dec (fun a=>F a.1 a.2) cv1.enc
abbrev Iu:=SBook→SThing→Option (Bool×SBook)
noncomputable def Ju (z0:Gn) (z1:Gu) (b_0:SBook) (x_1:SThing):Option (Bool×SBook):=
 (z0 b_0 x_1.fId).bind fun r0=>
 bif (decide (r0≥0)) then
 bif ((decide (0≤r0)) && (decide (r0<(b_0.fThings.length:Int)))) then
 (z1 (b_0.fThings.getD r0.toNat (⟨0,0,false,false,false,false,⟨#[]⟩,0⟩:SThing)) x_1).bind fun r1=>
 bif (!r1) then
  some (false,b_0)
 else
  bif ((decide (0≤r0)) && (decide (r0<(b_0.fThings.length:Int)))) then
  some (true,⟨b_0.fWord,b_0.fTries,(b_0.fThings.set r0.toNat x_1),b_0.fLast,b_0.fChain,b_0.fCount⟩)
  else none
 else none
 else
 bif (x_1.fId != (w64 (b_0.fLast+1))) then
  some (false,b_0)
 else
  bif (decide ((b_0.fThings.length:Int)≥8)) then
  some (false,b_0)
  else
  bif (decide (((b_0.fThings.length+1)*48)≤140737488355328)) then
  some (true,⟨b_0.fWord,b_0.fTries,(b_0.fThings++[x_1]),x_1.fId,b_0.fChain,b_0.fCount⟩)
  else none
noncomputable def Ti:Iu:=Ju Je Si
theorem OAB:Tells ctx PP 114 cv62 cv63 (fun a=>Ti a.1 a.2):=fn_ok0 (hc U4 (hc MAB hl_nil)) Tryd.func114 ((fun z0 z1 a=>by kernel_rfl:∀ z0 z1,EntryIs0 ctx PP 114 [0] [(115,V4 z0),(140,NAB z1)] cv62 cv63 fun a=>Ju z0 z1 a.1 a.2) Je Si)
noncomputable def PAB {γ:Type} (F:Iu):Hd ctx γ:=hdl cv62.dec (fun a=>F a.1 a.2) cv63.enc
abbrev Ku:=Option (List Int)
noncomputable def X4  : Option (List Int):=
 some [1779033703,3144134277,1013904242,2773480762,1359893119,2600822924,528734635,1541459225]
noncomputable def Qn:Ku:=X4
theorem QAB:Tells ctx PP 132 cv10 cv32 (fun _=>Qn):=fn_ok0 hl_nil Tryd.func132 (fun _=>by kernel_rfl:EntryIs0 ctx PP 132 [] [] cv10 cv32 fun _=>X4)
noncomputable def RAB {γ:Type} (F:Ku):Hd ctx γ:=hdl cv10.dec (fun _=>F) cv32.enc
abbrev Lu:=Int→Option ByteArray
noncomputable def Nu (n_0:Int):Option ByteArray:=
 bif ((((decide (0≤n_0)) && (decide (n_0≤n_0))) && (decide (n_0≤9223372036854775807))) && (decide ((n_0.toNat*1)≤140737488355328))) then
 some (ofBytes (List.replicate n_0.toNat (0:Int)))
 else none
noncomputable def Ui:Lu:=Nu
theorem SAB:Tells ctx PP 99 cv2 cv3 (fun a=>Ui a):=fn_ok0 hl_nil Tryd.func99 (fun a=>by kernel_rfl:EntryIs0 ctx PP 99 [] [] cv2 cv3 fun a=>Nu a)
noncomputable def TAB {γ:Type} (F:Lu):Hd ctx γ:=hdl cv2.dec (fun a=>F a) cv3.enc
abbrev Wi:=Int→Option ByteArray
noncomputable def Ou (n_0:Int):Option ByteArray:=
 some (ofBytes [(w8 (Int.fdiv n_0 (2 ^ (Min.min (24:Int).toNat (IntKind.bits IntKind.u32))))),(w8 (Int.fdiv n_0 (2 ^ (Min.min (16:Int).toNat (IntKind.bits IntKind.u32))))),(w8 (Int.fdiv n_0 (2 ^ (Min.min (8:Int).toNat (IntKind.bits IntKind.u32))))),(w8 n_0)])
noncomputable def Ja:Wi:=Ou
theorem Y4:Tells ctx PP 85 cv7 cv3 (fun a=>Ja a):=fn_ok0 hl_nil Tryd.func85 (fun a=>by kernel_rfl:EntryIs0 ctx PP 85 [] [] cv7 cv3 fun a=>Ou a)
noncomputable def Qu {γ:Type} (F:Wi):Hd ctx γ:=hdl cv7.dec (fun a=>F a) cv3.enc
abbrev Ru:=Int→Option ByteArray
noncomputable def Uu (z0:Wi) (n_0:Int):Option ByteArray:=
 (z0 (w32 (Int.fdiv n_0 (2 ^ (Min.min (32:Int).toNat (IntKind.bits IntKind.i64)))))).bind fun r0=>
 (z0 (w32 n_0)).bind fun r1=>
 bif (decide ((r0.size+r1.size)≤9223372036854775807)) then
 some (r0++r1)
 else none
noncomputable def Xi:Ru:=Uu Ja
theorem UAB:Tells ctx PP 155 cv2 cv3 (fun a=>Xi a):=fn_ok0 (hc Y4 hl_nil) Tryd.func155 ((fun z0 a=>by kernel_rfl:∀ z0,EntryIs0 ctx PP 155 [] [(85,Qu z0)] cv2 cv3 fun a=>Uu z0 a) Ja)
noncomputable def VAB {γ:Type} (F:Ru):Hd ctx γ:=hdl cv2.dec (fun a=>F a) cv3.enc
abbrev Vu:=Int→Option ByteArray
noncomputable def Wu (z0:Lu) (z1:Ru) (count_0:Int):Option ByteArray:=
 (z0 ((w64 (119 - (count_0.tmod 64))).tmod 64)).bind fun r0=>
 bif (decide (((⟨#[128]⟩:ByteArray).size+r0.size)≤9223372036854775807)) then
 (z1 (w64 (8*count_0))).bind fun r1=>
 bif (decide ((((⟨#[128]⟩:ByteArray)++r0).size+r1.size)≤9223372036854775807)) then
 some (((⟨#[128]⟩:ByteArray)++r0)++r1)
 else none
 else none
noncomputable def Yi:Vu:=Wu Ui Xi
theorem WAB:Tells ctx PP 133 cv2 cv3 (fun a=>Yi a):=fn_ok0 (hc SAB (hc UAB hl_nil)) Tryd.func133 ((fun z0 z1 a=>by kernel_rfl:∀ z0 z1,EntryIs0 ctx PP 133 [] [(99,TAB z0),(155,VAB z1)] cv2 cv3 fun a=>Wu z0 z1 a) Ui Xi)
noncomputable def XAB {γ:Type} (F:Vu):Hd ctx γ:=hdl cv2.dec (fun a=>F a) cv3.enc
abbrev Xu:=Int→Int→Option Int
noncomputable def Yu (x_0:Int) (k_1:Int):Option Int:=
 bif (decide (0≤(wu64 (32 - (wu64 (((BitVec.toNat ((BitVec.ofInt (IntKind.bits IntKind.u64) (wu64 k_1)) &&& (BitVec.ofInt (IntKind.bits IntKind.u64) 31))):Nat):Int)))))) then
 some (w32 (((BitVec.toNat ((BitVec.ofInt (IntKind.bits IntKind.u32) (w32 (x_0*(2 ^ (Min.min (wu64 (((BitVec.toNat ((BitVec.ofInt (IntKind.bits IntKind.u64) (wu64 k_1)) &&& (BitVec.ofInt (IntKind.bits IntKind.u64) 31))):Nat):Int)).toNat (IntKind.bits IntKind.u32)))))) ||| (BitVec.ofInt (IntKind.bits IntKind.u32) (Int.fdiv x_0 (2 ^ (Min.min (wu64 (32 - (wu64 (((BitVec.toNat ((BitVec.ofInt (IntKind.bits IntKind.u64) (wu64 k_1)) &&& (BitVec.ofInt (IntKind.bits IntKind.u64) 31))):Nat):Int)))).toNat (IntKind.bits IntKind.u32))))))):Nat):Int))
 else none
noncomputable def Zi:Xu:=Yu
theorem YAB:Tells ctx PP 161 cv33 cv7 (fun a=>Zi a.1 a.2):=fn_ok0 hl_nil Tryd.func161 (fun a=>by kernel_rfl:EntryIs0 ctx PP 161 [] [] cv33 cv7 fun a=>Yu a.1 a.2)
noncomputable def ZAB {γ:Type} (F:Xu):Hd ctx γ:=hdl cv33.dec (fun a=>F a.1 a.2) cv7.enc
abbrev Me:=Int→Int→Option Int
noncomputable def Zu (z0:Xu) (x_0:Int) (n_1:Int):Option Int:=
 (z0 x_0 (w64 (0 - n_1))).bind fun r0=>
 some r0
noncomputable def RX:Me:=Zu Zi
theorem Z4:Tells ctx PP 159 cv33 cv7 (fun a=>RX a.1 a.2):=fn_ok0 (hc YAB hl_nil) Tryd.func159 ((fun z0 a=>by kernel_rfl:∀ z0,EntryIs0 ctx PP 159 [] [(161,ZAB z0)] cv33 cv7 fun a=>Zu z0 a.1 a.2) Zi)
noncomputable def Rn {γ:Type} (F:Me):Hd ctx γ:=hdl cv33.dec (fun a=>F a.1 a.2) cv7.enc
abbrev Tn:=ByteArray→Option (List Int)
inductive Aj where
 | c0 (block_0:ByteArray) (v_11:Int) (v_2r0:(List Int)) (w_3r0:(List Int))
 | c1 (block_0:ByteArray) (i_4:Int) (v_11:Int) (v_14:Int) (v_2r0:(List Int)) (w_3r0:(List Int))
 | c2 (t_6:Int) (v_2r0:(List Int)) (w_3r0:(List Int))
noncomputable def D5:Aj→LI
 | .c0 block_0 v_11 v_2r0 w_3r0=>(tdo Tryd.f158 232,[(0,[.one (.str block_0)]),(2,[.one (.ptr 128 0)]),(3,[.one (.ptr 192 0)]),(11,[.one (.int .i64 v_11)])],[(128,.ar 119 v_2r0),(192,.ar 119 w_3r0)])
 | .c1 block_0 i_4 v_11 v_14 v_2r0 w_3r0=>(tdo Tryd.f158 59800,[(0,[.one (.str block_0)]),(2,[.one (.ptr 128 0)]),(3,[.one (.ptr 192 0)]),(4,[.one (.int .i64 i_4)]),(11,[.one (.int .i64 v_11)]),(14,[.one (.int .i64 v_14)])],[(128,.ar 119 v_2r0),(192,.ar 119 w_3r0)])
 | .c2 t_6 v_2r0 w_3r0=>(tdo Tryd.f158 976,[(2,[.one (.ptr 128 0)]),(3,[.one (.ptr 192 0)]),(6,[.one (.int .i64 t_6)])],[(128,.ar 119 v_2r0),(192,.ar 119 w_3r0)])
noncomputable def Bv (z0:Me) (k:Aj→Option (List Int)) (block_0:ByteArray):Option (List Int):=
 k (.c0 block_0 0 (List.replicate 64 (0:Int)) (List.replicate 64 (0:Int)))
noncomputable def Ya (z0:Me) (k:Aj→Option (List Int)):Aj→Option (List Int)
 | .c0 block_0 v_11 v_2r0 w_3r0=>
 bif (decide (v_11<16)) then
  k (.c1 block_0 v_11 v_11 0 v_2r0 w_3r0)
 else
  k (.c2 16 v_2r0 w_3r0)
 | .c1 block_0 i_4 v_11 v_14 v_2r0 w_3r0=>
 bif (decide (v_14<4)) then
  bif (Nat.beq 64 w_3r0.length) then
  bif ((decide (0≤i_4)) && (decide (i_4<(w_3r0.length:Int)))) then
  bif ((decide (0≤(w64 ((w64 (4*i_4))+v_14)))) && (decide ((w64 ((w64 (4*i_4))+v_14))<(block_0.size:Int)))) then
  bif (Nat.beq 64 w_3r0.length) then
  bif ((decide (0≤i_4)) && (decide (i_4<(w_3r0.length:Int)))) then
  k (.c1 block_0 i_4 v_11 (w64 (v_14+1)) v_2r0 (w_3r0.set i_4.toNat (w32 (((BitVec.toNat ((BitVec.ofInt (IntKind.bits IntKind.u32) (w32 ((w_3r0.getD i_4.toNat 0)*(2 ^ (Min.min (8:Int).toNat (IntKind.bits IntKind.u32)))))) ||| (BitVec.ofInt (IntKind.bits IntKind.u32) (w32 (bt block_0 (w64 ((w64 (4*i_4))+v_14))))))):Nat):Int))))
  else none
  else none
  else none
  else none
  else none
 else
  k (.c0 block_0 (w64 (v_11+1)) v_2r0 w_3r0)
 | .c2 t_6 v_2r0 w_3r0=>
 bif (decide (t_6<64)) then
  bif (Nat.beq 64 w_3r0.length) then
  bif ((decide (0≤(w64 (t_6 - 15)))) && (decide ((w64 (t_6 - 15))<(w_3r0.length:Int)))) then
  bif (Nat.beq 64 w_3r0.length) then
  bif ((decide (0≤(w64 (t_6 - 2)))) && (decide ((w64 (t_6 - 2))<(w_3r0.length:Int)))) then
  (z0 (w_3r0.getD (w64 (t_6 - 15)).toNat 0) 7).bind fun r0=>
  (z0 (w_3r0.getD (w64 (t_6 - 15)).toNat 0) 18).bind fun r1=>
  (z0 (w_3r0.getD (w64 (t_6 - 2)).toNat 0) 17).bind fun r2=>
  (z0 (w_3r0.getD (w64 (t_6 - 2)).toNat 0) 19).bind fun r3=>
  bif (Nat.beq 64 w_3r0.length) then
  bif ((decide (0≤(w64 (t_6 - 7)))) && (decide ((w64 (t_6 - 7))<(w_3r0.length:Int)))) then
  bif (Nat.beq 64 w_3r0.length) then
  bif ((decide (0≤(w64 (t_6 - 16)))) && (decide ((w64 (t_6 - 16))<(w_3r0.length:Int)))) then
  bif (Nat.beq 64 w_3r0.length) then
  bif ((decide (0≤t_6)) && (decide (t_6<(w_3r0.length:Int)))) then
  k (.c2 (w64 (t_6+1)) v_2r0 (w_3r0.set t_6.toNat (w32 ((w32 ((w32 ((w32 (((BitVec.toNat ((BitVec.ofInt (IntKind.bits IntKind.u32) (w32 (((BitVec.toNat ((BitVec.ofInt (IntKind.bits IntKind.u32) r2) ^^^ (BitVec.ofInt (IntKind.bits IntKind.u32) r3))):Nat):Int))) ^^^ (BitVec.ofInt (IntKind.bits IntKind.u32) (Int.fdiv (w_3r0.getD (w64 (t_6 - 2)).toNat 0) (2 ^ (Min.min (10:Int).toNat (IntKind.bits IntKind.u32))))))):Nat):Int))+(w_3r0.getD (w64 (t_6 - 7)).toNat 0)))+(w32 (((BitVec.toNat ((BitVec.ofInt (IntKind.bits IntKind.u32) (w32 (((BitVec.toNat ((BitVec.ofInt (IntKind.bits IntKind.u32) r0) ^^^ (BitVec.ofInt (IntKind.bits IntKind.u32) r1))):Nat):Int))) ^^^ (BitVec.ofInt (IntKind.bits IntKind.u32) (Int.fdiv (w_3r0.getD (w64 (t_6 - 15)).toNat 0) (2 ^ (Min.min (3:Int).toNat (IntKind.bits IntKind.u32))))))):Nat):Int))))+(w_3r0.getD (w64 (t_6 - 16)).toNat 0)))))
  else none
  else none
  else none
  else none
  else none
  else none
  else none
  else none
  else none
  else none
 else
  bif (Nat.beq 64 w_3r0.length) then
  bif ((Nat.beq w_3r0.length v_2r0.length) && (Nat.beq 64 w_3r0.length)) then
  bif ((Nat.beq 64 w_3r0.length) && true) then
  some w_3r0
  else none
  else none
  else none
noncomputable def VY:Nat→Aj→Option (List Int)
 | 0,_=>none
 | m+1,s=>Ya RX (VY m) s
noncomputable def Dc:Tn:=Bv RX (VY gas)
theorem AAC:Tells ctx PP 158 cv3 cv32 (fun a=>Dc a):=
 have b:∀ z0,CutIs ctx PP 158 Tryd.f158 [] [(159,Rn z0)] cv32 D5 (Ya z0):=fun z0 _ s=>by cases s <;> kernel_rfl
 have e:∀ z0,EntryIs ctx PP 158 [] [(159,Rn z0)] cv3 cv32 D5 (fun k a=>Bv z0 k a):=fun z0 _ a=>by kernel_rfl
 fn_ok (hc Z4 hl_nil) Tryd.func158 (fun s s' h=>by cases s <;> cases s' <;> first | (cases h;done) | (cases h;rfl) | exact (rg_ne h (by kernel_rfl)).elim) (fun _=>rfl) (fun _ _=>rfl) (b RX) (e RX) gas
noncomputable def E5 {γ:Type} (F:Tn):Hd ctx γ:=hdl cv3.dec (fun a=>F a) cv32.enc
abbrev Un:=(List Int)→ByteArray→Option (List Int)
inductive Bj where
 | c0 (a_6:Int) (b_7:Int) (c_8:Int) (d_9:Int) (e_10:Int) (f_11:Int) (g_12:Int) (h_13:Int) (v_37:Int) (state_2r0:(List Int)) (v_4r0:(List Int)) (w_5r0:(List Int))
 | c1 (v_109:Int) (state_2r0:(List Int)) (v_4r0:(List Int)) (out_17r0:(List Int))
noncomputable def F5:Bj→LI
 | .c0 a_6 b_7 c_8 d_9 e_10 f_11 g_12 h_13 v_37 state_2r0 v_4r0 w_5r0=>(tdo Tryd.f154 488,[(2,[.one (.ptr 128 0)]),(4,[.one (.ptr 256 0)]),(5,[.one (.ptr 320 0)]),(6,[.one (.int .u32 a_6)]),(7,[.one (.int .u32 b_7)]),(8,[.one (.int .u32 c_8)]),(9,[.one (.int .u32 d_9)]),(10,[.one (.int .u32 e_10)]),(11,[.one (.int .u32 f_11)]),(12,[.one (.int .u32 g_12)]),(13,[.one (.int .u32 h_13)]),(37,[.one (.int .i64 v_37)])],[(128,.ar 119 state_2r0),(256,.ar 119 v_4r0),(320,.ar 119 w_5r0)])
 | .c1 v_109 state_2r0 v_4r0 out_17r0=>(tdo Tryd.f154 2024,[(2,[.one (.ptr 128 0)]),(4,[.one (.ptr 256 0)]),(17,[.one (.ptr 1088 0)]),(109,[.one (.int .i64 v_109)])],[(128,.ar 119 state_2r0),(256,.ar 119 v_4r0),(1088,.ar 119 out_17r0)])
noncomputable def Dv (z0:Tn) (z1:Me) (k:Bj→Option (List Int)) (state_0:(List Int)) (block_1:ByteArray):Option (List Int):=
 (z0 block_1).bind fun r0=>
 bif ((Nat.beq r0.length (List.replicate 64 (0:Int)).length) && (Nat.beq 64 r0.length)) then
 bif (Nat.beq 8 state_0.length) then
 bif ((decide ((0:Int)≤(0:Int))) && (decide (0<(state_0.length:Int)))) then
 bif (Nat.beq 8 state_0.length) then
 bif ((decide ((0:Int)≤(1:Int))) && (decide (1<(state_0.length:Int)))) then
 bif (Nat.beq 8 state_0.length) then
 bif ((decide ((0:Int)≤(2:Int))) && (decide (2<(state_0.length:Int)))) then
 bif (Nat.beq 8 state_0.length) then
 bif ((decide ((0:Int)≤(3:Int))) && (decide (3<(state_0.length:Int)))) then
 bif (Nat.beq 8 state_0.length) then
 bif ((decide ((0:Int)≤(4:Int))) && (decide (4<(state_0.length:Int)))) then
 bif (Nat.beq 8 state_0.length) then
 bif ((decide ((0:Int)≤(5:Int))) && (decide (5<(state_0.length:Int)))) then
 bif (Nat.beq 8 state_0.length) then
 bif ((decide ((0:Int)≤(6:Int))) && (decide (6<(state_0.length:Int)))) then
 bif (Nat.beq 8 state_0.length) then
 bif ((decide ((0:Int)≤(7:Int))) && (decide (7<(state_0.length:Int)))) then
 k (.c0 (state_0.getD (0:Int).toNat 0) (state_0.getD (1:Int).toNat 0) (state_0.getD (2:Int).toNat 0) (state_0.getD (3:Int).toNat 0) (state_0.getD (4:Int).toNat 0) (state_0.getD (5:Int).toNat 0) (state_0.getD (6:Int).toNat 0) (state_0.getD (7:Int).toNat 0) 0 state_0 [0,0,0,0,0,0,0,0] r0)
 else none
 else none
 else none
 else none
 else none
 else none
 else none
 else none
 else none
 else none
 else none
 else none
 else none
 else none
 else none
 else none
 else none
noncomputable def Oe (z0:Tn) (z1:Me) (k:Bj→Option (List Int)):Bj→Option (List Int)
 | .c0 a_6 b_7 c_8 d_9 e_10 f_11 g_12 h_13 v_37 state_2r0 v_4r0 w_5r0=>
 bif (decide (v_37<64)) then
  (z1 e_10 6).bind fun r0=>
  (z1 e_10 11).bind fun r1=>
  (z1 e_10 25).bind fun r2=>
  bif ((decide (0≤v_37)) && (decide (v_37<((64:Nat):Int)))) then
  bif (Nat.blt v_37.toNat 64) then
  bif (Nat.beq 64 w_5r0.length) then
  bif ((decide (0≤v_37)) && (decide (v_37<(w_5r0.length:Int)))) then
  (z1 a_6 2).bind fun r3=>
  (z1 a_6 13).bind fun r4=>
  (z1 a_6 22).bind fun r5=>
  k (.c0 (w32 ((w32 ((w32 ((w32 ((w32 (h_13+(w32 (((BitVec.toNat ((BitVec.ofInt (IntKind.bits IntKind.u32) (w32 (((BitVec.toNat ((BitVec.ofInt (IntKind.bits IntKind.u32) r0) ^^^ (BitVec.ofInt (IntKind.bits IntKind.u32) r1))):Nat):Int))) ^^^ (BitVec.ofInt (IntKind.bits IntKind.u32) r2))):Nat):Int))))+(w32 (((BitVec.toNat ((BitVec.ofInt (IntKind.bits IntKind.u32) (w32 (((BitVec.toNat ((BitVec.ofInt (IntKind.bits IntKind.u32) e_10) &&& (BitVec.ofInt (IntKind.bits IntKind.u32) f_11))):Nat):Int))) ^^^ (BitVec.ofInt (IntKind.bits IntKind.u32) (w32 (((BitVec.toNat ((BitVec.ofInt (IntKind.bits IntKind.u32) (w32 (((BitVec.toNat ((BitVec.ofInt (IntKind.bits IntKind.u32) (ite ((IntKind.signed IntKind.u32)=true) (-(1:Int)) (IntKind.max IntKind.u32))) ^^^ (BitVec.ofInt (IntKind.bits IntKind.u32) e_10))):Nat):Int))) &&& (BitVec.ofInt (IntKind.bits IntKind.u32) g_12))):Nat):Int))))):Nat):Int))))+([(1116352408:Int),(1899447441:Int),(3049323471:Int),(3921009573:Int),(961987163:Int),(1508970993:Int),(2453635748:Int),(2870763221:Int),(3624381080:Int),(310598401:Int),(607225278:Int),(1426881987:Int),(1925078388:Int),(2162078206:Int),(2614888103:Int),(3248222580:Int),(3835390401:Int),(4022224774:Int),(264347078:Int),(604807628:Int),(770255983:Int),(1249150122:Int),(1555081692:Int),(1996064986:Int),(2554220882:Int),(2821834349:Int),(2952996808:Int),(3210313671:Int),(3336571891:Int),(3584528711:Int),(113926993:Int),(338241895:Int),(666307205:Int),(773529912:Int),(1294757372:Int),(1396182291:Int),(1695183700:Int),(1986661051:Int),(2177026350:Int),(2456956037:Int),(2730485921:Int),(2820302411:Int),(3259730800:Int),(3345764771:Int),(3516065817:Int),(3600352804:Int),(4094571909:Int),(275423344:Int),(430227734:Int),(506948616:Int),(659060556:Int),(883997877:Int),(958139571:Int),(1322822218:Int),(1537002063:Int),(1747873779:Int),(1955562222:Int),(2024104815:Int),(2227730452:Int),(2361852424:Int),(2428436474:Int),(2756734187:Int),(3204031479:Int),(3329325298:Int)].getD v_37.toNat 0)))+(w_5r0.getD v_37.toNat 0)))+(w32 ((w32 (((BitVec.toNat ((BitVec.ofInt (IntKind.bits IntKind.u32) (w32 (((BitVec.toNat ((BitVec.ofInt (IntKind.bits IntKind.u32) r3) ^^^ (BitVec.ofInt (IntKind.bits IntKind.u32) r4))):Nat):Int))) ^^^ (BitVec.ofInt (IntKind.bits IntKind.u32) r5))):Nat):Int))+(w32 (((BitVec.toNat ((BitVec.ofInt (IntKind.bits IntKind.u32) (w32 (((BitVec.toNat ((BitVec.ofInt (IntKind.bits IntKind.u32) (w32 (((BitVec.toNat ((BitVec.ofInt (IntKind.bits IntKind.u32) a_6) &&& (BitVec.ofInt (IntKind.bits IntKind.u32) b_7))):Nat):Int))) ^^^ (BitVec.ofInt (IntKind.bits IntKind.u32) (w32 (((BitVec.toNat ((BitVec.ofInt (IntKind.bits IntKind.u32) a_6) &&& (BitVec.ofInt (IntKind.bits IntKind.u32) c_8))):Nat):Int))))):Nat):Int))) ^^^ (BitVec.ofInt (IntKind.bits IntKind.u32) (w32 (((BitVec.toNat ((BitVec.ofInt (IntKind.bits IntKind.u32) b_7) &&& (BitVec.ofInt (IntKind.bits IntKind.u32) c_8))):Nat):Int))))):Nat):Int)))))) a_6 b_7 c_8 (w32 (d_9+(w32 ((w32 ((w32 ((w32 (h_13+(w32 (((BitVec.toNat ((BitVec.ofInt (IntKind.bits IntKind.u32) (w32 (((BitVec.toNat ((BitVec.ofInt (IntKind.bits IntKind.u32) r0) ^^^ (BitVec.ofInt (IntKind.bits IntKind.u32) r1))):Nat):Int))) ^^^ (BitVec.ofInt (IntKind.bits IntKind.u32) r2))):Nat):Int))))+(w32 (((BitVec.toNat ((BitVec.ofInt (IntKind.bits IntKind.u32) (w32 (((BitVec.toNat ((BitVec.ofInt (IntKind.bits IntKind.u32) e_10) &&& (BitVec.ofInt (IntKind.bits IntKind.u32) f_11))):Nat):Int))) ^^^ (BitVec.ofInt (IntKind.bits IntKind.u32) (w32 (((BitVec.toNat ((BitVec.ofInt (IntKind.bits IntKind.u32) (w32 (((BitVec.toNat ((BitVec.ofInt (IntKind.bits IntKind.u32) (ite ((IntKind.signed IntKind.u32)=true) (-(1:Int)) (IntKind.max IntKind.u32))) ^^^ (BitVec.ofInt (IntKind.bits IntKind.u32) e_10))):Nat):Int))) &&& (BitVec.ofInt (IntKind.bits IntKind.u32) g_12))):Nat):Int))))):Nat):Int))))+([(1116352408:Int),(1899447441:Int),(3049323471:Int),(3921009573:Int),(961987163:Int),(1508970993:Int),(2453635748:Int),(2870763221:Int),(3624381080:Int),(310598401:Int),(607225278:Int),(1426881987:Int),(1925078388:Int),(2162078206:Int),(2614888103:Int),(3248222580:Int),(3835390401:Int),(4022224774:Int),(264347078:Int),(604807628:Int),(770255983:Int),(1249150122:Int),(1555081692:Int),(1996064986:Int),(2554220882:Int),(2821834349:Int),(2952996808:Int),(3210313671:Int),(3336571891:Int),(3584528711:Int),(113926993:Int),(338241895:Int),(666307205:Int),(773529912:Int),(1294757372:Int),(1396182291:Int),(1695183700:Int),(1986661051:Int),(2177026350:Int),(2456956037:Int),(2730485921:Int),(2820302411:Int),(3259730800:Int),(3345764771:Int),(3516065817:Int),(3600352804:Int),(4094571909:Int),(275423344:Int),(430227734:Int),(506948616:Int),(659060556:Int),(883997877:Int),(958139571:Int),(1322822218:Int),(1537002063:Int),(1747873779:Int),(1955562222:Int),(2024104815:Int),(2227730452:Int),(2361852424:Int),(2428436474:Int),(2756734187:Int),(3204031479:Int),(3329325298:Int)].getD v_37.toNat 0)))+(w_5r0.getD v_37.toNat 0))))) e_10 f_11 g_12 (w64 (v_37+1)) state_2r0 v_4r0 w_5r0)
  else none
  else none
  else none
  else none
 else
  k (.c1 0 state_2r0 v_4r0 [a_6,b_7,c_8,d_9,e_10,f_11,g_12,h_13])
 | .c1 v_109 state_2r0 v_4r0 out_17r0=>
 bif (decide (v_109<8)) then
  bif (Nat.beq 8 out_17r0.length) then
  bif ((decide (0≤v_109)) && (decide (v_109<(out_17r0.length:Int)))) then
  bif (Nat.beq 8 state_2r0.length) then
  bif ((decide (0≤v_109)) && (decide (v_109<(state_2r0.length:Int)))) then
  bif (Nat.beq 8 out_17r0.length) then
  bif ((decide (0≤v_109)) && (decide (v_109<(out_17r0.length:Int)))) then
  k (.c1 (w64 (v_109+1)) state_2r0 v_4r0 (out_17r0.set v_109.toNat (w32 ((out_17r0.getD v_109.toNat 0)+(state_2r0.getD v_109.toNat 0)))))
  else none
  else none
  else none
  else none
  else none
  else none
 else
  bif (Nat.beq 8 out_17r0.length) then
  bif ((Nat.beq out_17r0.length v_4r0.length) && (Nat.beq 8 out_17r0.length)) then
  bif ((Nat.beq 8 out_17r0.length) && true) then
  some out_17r0
  else none
  else none
  else none
noncomputable def GZ:Nat→Bj→Option (List Int)
 | 0,_=>none
 | m+1,s=>Oe Dc RX (GZ m) s
noncomputable def Ic:Un:=Dv Dc RX (GZ gas)
theorem BAC:Tells ctx PP 154 cv34 cv32 (fun a=>Ic a.1 a.2):=
 have b:∀ z0 z1,CutIs ctx PP 154 Tryd.f154 [] [(158,E5 z0),(159,Rn z1)] cv32 F5 (Oe z0 z1):=fun z0 z1 _ s=>by cases s <;> kernel_rfl
 have e:∀ z0 z1,EntryIs ctx PP 154 [] [(158,E5 z0),(159,Rn z1)] cv34 cv32 F5 (fun k a=>Dv z0 z1 k a.1 a.2):=fun z0 z1 _ a=>by kernel_rfl
 fn_ok (hc AAC (hc Z4 hl_nil)) Tryd.func154 (fun s s' h=>by cases s <;> cases s' <;> first | (cases h;done) | (cases h;rfl) | exact (rg_ne h (by kernel_rfl)).elim) (fun _=>rfl) (fun _ _=>rfl) (b Dc RX) (e Dc RX) gas
noncomputable def G5 {γ:Type} (F:Un):Hd ctx γ:=hdl cv34.dec (fun a=>F a.1 a.2) cv32.enc
abbrev Fv:=(List Int)→ByteArray→Option ((List Int)×ByteArray)
inductive Cj where
 | c0 (s_1:ByteArray) (state_2r0:(List Int)) (v_4r0:(List Int))
noncomputable def I5:Cj→LI
 | .c0 s_1 state_2r0 v_4r0=>(tdo Tryd.f131 96,[(1,[.one (.str s_1)]),(2,[.one (.ptr 128 0)]),(4,[.one (.ptr 256 0)])],[(128,.ar 119 state_2r0),(256,.ar 119 v_4r0)])
noncomputable def Gv (z0:Un) (k:Cj→Option ((List Int)×ByteArray)) (state_0:(List Int)) (s_1:ByteArray):Option ((List Int)×ByteArray):=
 k (.c0 s_1 state_0 [0,0,0,0,0,0,0,0])
noncomputable def Wn (z0:Un) (k:Cj→Option ((List Int)×ByteArray)):Cj→Option ((List Int)×ByteArray)
 | .c0 s_1 state_2r0 v_4r0=>
 bif (decide ((s_1.size:Int)≥64)) then
  bif (Nat.beq 8 state_2r0.length) then
  bif ((decide ((0:Int)≤(64:Int))) && (decide (64≤(s_1.size:Int)))) then
  (z0 state_2r0 (s_1.extract 0 (64:Int).toNat)).bind fun r0=>
  bif ((Nat.beq r0.length state_2r0.length) && (Nat.beq 8 r0.length)) then
  bif ((decide ((0:Int)≤(64:Int))) && (decide (64≤(s_1.size:Int)))) then
  k (.c0 (s_1.extract (64:Int).toNat s_1.size) r0 v_4r0)
  else none
  else none
  else none
  else none
 else
  bif (Nat.beq 8 state_2r0.length) then
  bif ((Nat.beq state_2r0.length v_4r0.length) && (Nat.beq 8 state_2r0.length)) then
  bif ((Nat.beq 8 state_2r0.length) && true) then
  some (state_2r0,s_1)
  else none
  else none
  else none
noncomputable def Ej:Nat→Cj→Option ((List Int)×ByteArray)
 | 0,_=>none
 | m+1,s=>Wn Ic (Ej m) s
noncomputable def Fj:Fv:=Gv Ic (Ej gas)
theorem CAC:Tells ctx PP 131 cv34 cv34 (fun a=>Fj a.1 a.2):=
 have b:∀ z0,CutIs ctx PP 131 Tryd.f131 [] [(154,G5 z0)] cv34 I5 (Wn z0):=fun z0 _ s=>by cases s <;> kernel_rfl
 have e:∀ z0,EntryIs ctx PP 131 [] [(154,G5 z0)] cv34 cv34 I5 (fun k a=>Gv z0 k a.1 a.2):=fun z0 _ a=>by kernel_rfl
 fn_ok (hc BAC hl_nil) Tryd.func131 (fun s s' h=>by cases s;cases s';cases h;rfl) (fun _=>rfl) (fun _ _=>rfl) (b Ic) (e Ic) gas
noncomputable def DAC {γ:Type} (F:Fv):Hd ctx γ:=hdl cv34.dec (fun a=>F a.1 a.2) cv34.enc
abbrev Jv:=(List Int)→Option ByteArray
inductive Gj where
 | c0 (out_3:ByteArray) (v_6:(List Int)) (v_7:Int)
noncomputable def J5:Gj→LI
 | .c0 out_3 v_6 v_7=>(tdo Tryd.f134 232,[(3,[.one (.str out_3)]),(6,[.arr 119 v_6]),(7,[.one (.int .i64 v_7)])],[])
noncomputable def Kv (z0:Wi) (k:Gj→Option ByteArray) (state_0:(List Int)):Option ByteArray:=
 bif (Nat.beq 8 state_0.length) then
 k (.c0 ⟨#[]⟩ state_0 0)
 else none
noncomputable def Xn (z0:Wi) (k:Gj→Option ByteArray):Gj→Option ByteArray
 | .c0 out_3 v_6 v_7=>
 bif (decide (v_7<8)) then
  bif (Nat.beq 8 v_6.length) then
  bif ((decide (0≤v_7)) && (decide (v_7<(v_6.length:Int)))) then
  (z0 (v_6.getD v_7.toNat 0)).bind fun r0=>
  bif (decide ((out_3.size+r0.size)≤9223372036854775807)) then
  k (.c0 (out_3++r0) v_6 (w64 (v_7+1)))
  else none
  else none
  else none
 else
  some out_3
noncomputable def Ij:Nat→Gj→Option ByteArray
 | 0,_=>none
 | m+1,s=>Xn Ja (Ij m) s
noncomputable def Jj:Jv:=Kv Ja (Ij gas)
theorem EAC:Tells ctx PP 134 cv32 cv3 (fun a=>Jj a):=
 have b:∀ z0,CutIs ctx PP 134 Tryd.f134 [] [(85,Qu z0)] cv3 J5 (Xn z0):=fun z0 _ s=>by cases s <;> kernel_rfl
 have e:∀ z0,EntryIs ctx PP 134 [] [(85,Qu z0)] cv32 cv3 J5 (fun k a=>Kv z0 k a):=fun z0 _ a=>by kernel_rfl
 fn_ok (hc Y4 hl_nil) Tryd.func134 (fun s s' h=>by cases s;cases s';cases h;rfl) (fun _=>rfl) (fun _ _=>rfl) (b Ja) (e Ja) gas
noncomputable def FAC {γ:Type} (F:Jv):Hd ctx γ:=hdl cv32.dec (fun a=>F a) cv3.enc
abbrev Nv:=ByteArray→Option ByteArray
noncomputable def Ov (z0:Ku) (z1:Vu) (z2:Fv) (z3:Jv) (s_0:ByteArray):Option ByteArray:=
 z0.bind fun r0=>
 (z1 (s_0.size:Int)).bind fun r1=>
 bif (decide ((s_0.size+r1.size)≤9223372036854775807)) then
 (z2 r0 (s_0++r1)).bind fun r2=>
 bif ((Nat.beq r2.1.length 8) && (Nat.beq 8 r2.1.length)) then
 bif (Nat.beq 8 r2.1.length) then
 (z3 r2.1).bind fun r3=>
 some r3
 else none
 else none
 else none
noncomputable def Lj:Nv:=Ov Qn Yi Fj Jj
theorem GAC:Tells ctx PP 98 cv3 cv3 (fun a=>Lj a):=fn_ok0 (hc QAB (hc WAB (hc CAC (hc EAC hl_nil)))) Tryd.func98 ((fun z0 z1 z2 z3 a=>by kernel_rfl:∀ z0 z1 z2 z3,EntryIs0 ctx PP 98 [] [(132,RAB z0),(133,XAB z1),(131,DAC z2),(134,FAC z3)] cv3 cv3 fun a=>Ov z0 z1 z2 z3 a) Qn Yi Fj Jj)
noncomputable def HAC {γ:Type} (F:Nv):Hd ctx γ:=hdl cv3.dec (fun a=>F a) cv3.enc
abbrev Yn:=SBook→SRec→Option (SBook×Bool)
noncomputable def Pv (z0:Zt) (z1:Du) (z2:Xh) (z3:Iu) (z4:Gn) (z5:Nv) (b_0:SBook) (r_1:SRec):Option (SBook×Bool):=
 (z0 r_1).bind fun r0=>
 (z1 b_0).bind fun r1=>
 bif (!r1) then
 some (⟨⟨#[]⟩,0,[],0,⟨#[]⟩,0⟩,false)
 else
 bif (!r0.2) then
  some (⟨⟨#[]⟩,0,[],0,⟨#[]⟩,0⟩,false)
 else
  bif (decide (b_0.fCount≥10000)) then
  some (⟨⟨#[]⟩,0,[],0,⟨#[]⟩,0⟩,false)
  else
  (z2 b_0).bind fun r2=>
  bif (r_1.fKind == 1) then
   bif (decide ((b_0.fChain.size+r0.1.size)≤9223372036854775807)) then
   (z5 (b_0.fChain++r0.1)).bind fun r3=>
   some (⟨r_1.fText,0,r2.fThings,r2.fLast,r3,(w64 (r2.fCount+1))⟩,true)
   else none
  else
   bif (r_1.fKind == 2) then
   bif (decide ((b_0.fChain.size+r0.1.size)≤9223372036854775807)) then
   (z5 (b_0.fChain++r0.1)).bind fun r4=>
   some (⟨r2.fWord,r_1.fNum,r2.fThings,r2.fLast,r4,(w64 (r2.fCount+1))⟩,true)
   else none
   else
   bif (r_1.fKind == 3) then
    (z3 r2 r_1.fThing).bind fun r5=>
    bif (!r5.1) then
    some (⟨⟨#[]⟩,0,[],0,⟨#[]⟩,0⟩,false)
    else
    bif (decide ((b_0.fChain.size+r0.1.size)≤9223372036854775807)) then
    (z5 (b_0.fChain++r0.1)).bind fun r6=>
    some (⟨r5.2.fWord,r5.2.fTries,r5.2.fThings,r5.2.fLast,r6,(w64 (r5.2.fCount+1))⟩,true)
    else none
   else
    bif (r_1.fKind == 4) then
    (z4 b_0 r_1.fNum).bind fun r7=>
    bif (decide (r7<0)) then
     some (⟨⟨#[]⟩,0,[],0,⟨#[]⟩,0⟩,false)
    else
     bif ((decide (0≤r7)) && (decide (r7≤(b_0.fThings.length:Int)))) then
     bif (decide ((((b_0.fThings.take r7.toNat).drop 0).length*48)≤140737488355328)) then
     bif ((decide (0≤(w64 (r7+1)))) && (decide ((w64 (r7+1))≤(b_0.fThings.length:Int)))) then
     bif (decide (((((b_0.fThings.take r7.toNat).drop 0).length+((b_0.fThings.take b_0.fThings.length).drop (w64 (r7+1)).toNat).length)*48)≤140737488355328)) then
     bif (decide ((b_0.fChain.size+r0.1.size)≤9223372036854775807)) then
     (z5 (b_0.fChain++r0.1)).bind fun r8=>
     some (⟨r2.fWord,r2.fTries,(((b_0.fThings.take r7.toNat).drop 0)++((b_0.fThings.take b_0.fThings.length).drop (w64 (r7+1)).toNat)),r2.fLast,r8,(w64 (r2.fCount+1))⟩,true)
     else none
     else none
     else none
     else none
     else none
    else
    bif (decide ((b_0.fChain.size+r0.1.size)≤9223372036854775807)) then
    (z5 (b_0.fChain++r0.1)).bind fun r9=>
    some (⟨r2.fWord,r2.fTries,r2.fThings,r2.fLast,r9,(w64 (r2.fCount+1))⟩,true)
    else none
noncomputable def Jc:Yn:=Pv Ji Qi Fa Ti Je Lj
theorem IAC:Tells ctx PP 66 cv59 cv60 (fun a=>Jc a.1 a.2):=fn_ok0 (hc IAB (hc KAB (hc Y1 (hc OAB (hc U4 (hc GAC hl_nil)))))) Tryd.func66 ((fun z0 z1 z2 z3 z4 z5 a=>by kernel_rfl:∀ z0 z1 z2 z3 z4 z5,EntryIs0 ctx PP 66 [] [(91,JAB z0),(113,LAB z1),(65,Ws z2),(114,PAB z3),(115,V4 z4),(98,HAC z5)] cv59 cv60 fun a=>Pv z0 z1 z2 z3 z4 z5 a.1 a.2) Ji Qi Fa Ti Je Lj)
noncomputable def O5 {γ:Type} (F:Yn):Hd ctx γ:=hdl cv59.dec (fun a=>F a.1 a.2) cv60.enc
abbrev Qv:=SBook→(List SRec)→Option (SBook×Bool)
inductive Nj where
 | c0 (v_13:(List SRec)) (v_14:Int) (v_15:Int) (v_4c0:ByteArray) (v_4c1:Int) (v_4c3:Int) (v_4c4:ByteArray) (v_4c5:Int) (out_6c0:ByteArray) (out_6c1:Int) (out_6c3:Int) (out_6c4:ByteArray) (out_6c5:Int) (v_4r2:(List SThing)) (out_6r2:(List SThing))
noncomputable def P5:Nj→LI
 | .c0 v_13 v_14 v_15 v_4c0 v_4c1 v_4c3 v_4c4 v_4c5 out_6c0 out_6c1 out_6c3 out_6c4 out_6c5 v_4r2 out_6r2=>(tdo Tryd.f27 232,[(4,[.one (.ptr 256 0)]),(6,[.one (.ptr 384 0)]),(13,[.one (.rsl 73 v_13)]),(14,[.one (.int .i64 v_14)]),(15,[.one (.int .i64 v_15)])],[(256,.var [.str v_4c0,.int .i64 v_4c1,.own 1016386,.int .i64 v_4c3,.str v_4c4,.int .i64 v_4c5]),(384,.var [.str out_6c0,.int .i64 out_6c1,.own 1024578,.int .i64 out_6c3,.str out_6c4,.int .i64 out_6c5]),(1016386,.sl 71 v_4r2),(1024578,.sl 71 out_6r2)])
noncomputable def Sv (z0:Xh) (z1:Yn) (k:Nj→Option (SBook×Bool)) (b_0:SBook) (list_1:(List SRec)):Option (SBook×Bool):=
 (z0 b_0).bind fun r0=>
 k (.c0 list_1 (list_1.length:Int) 0 ⟨#[]⟩ 0 0 ⟨#[]⟩ 0 r0.fWord r0.fTries r0.fLast r0.fChain r0.fCount [] r0.fThings)
noncomputable def Zn (z0:Xh) (z1:Yn) (k:Nj→Option (SBook×Bool)):Nj→Option (SBook×Bool)
 | .c0 v_13 v_14 v_15 v_4c0 v_4c1 v_4c3 v_4c4 v_4c5 out_6c0 out_6c1 out_6c3 out_6c4 out_6c5 v_4r2 out_6r2=>
 bif (decide (v_15<v_14)) then
  bif ((decide (0≤v_15)) && (decide (v_15<(v_13.length:Int)))) then
  (z1 ⟨out_6c0,out_6c1,out_6r2,out_6c3,out_6c4,out_6c5⟩ (v_13.getD v_15.toNat (⟨0,⟨#[]⟩,0,⟨0,0,false,false,false,false,⟨#[]⟩,0⟩⟩:SRec))).bind fun r0=>
  bif (!r0.2) then
  some (⟨⟨#[]⟩,0,[],0,⟨#[]⟩,0⟩,false)
  else
  k (.c0 v_13 v_14 (w64 (v_15+1)) v_4c0 v_4c1 v_4c3 v_4c4 v_4c5 r0.1.fWord r0.1.fTries r0.1.fLast r0.1.fChain r0.1.fCount v_4r2 r0.1.fThings)
  else none
 else
  some (⟨out_6c0,out_6c1,out_6r2,out_6c3,out_6c4,out_6c5⟩,true)
noncomputable def Oj:Nat→Nj→Option (SBook×Bool)
 | 0,_=>none
 | m+1,s=>Zn Fa Jc (Oj m) s
noncomputable def Pj:Qv:=Sv Fa Jc (Oj gas)
theorem JAC:Tells ctx PP 27 cv61 cv60 (fun a=>Pj a.1 a.2):=
 have b:∀ z0 z1,CutIs ctx PP 27 Tryd.f27 [] [(65,Ws z0),(66,O5 z1)] cv60 P5 (Zn z0 z1):=fun z0 z1 _ s=>by cases s <;> kernel_rfl
 have e:∀ z0 z1,EntryIs ctx PP 27 [] [(65,Ws z0),(66,O5 z1)] cv61 cv60 P5 (fun k a=>Sv z0 z1 k a.1 a.2):=fun z0 z1 _ a=>by kernel_rfl
 fn_ok (hc Y1 (hc IAC hl_nil)) Tryd.func27 (fun s s' h=>by cases s;cases s';cases h;rfl) (fun _=>rfl) (fun _ _=>rfl) (b Fa Jc) (e Fa Jc) gas
noncomputable def KAC {γ:Type} (F:Qv):Hd ctx γ:=hdl cv61.dec (fun a=>F a.1 a.2) cv60.enc
abbrev Qj:=SThing→SThing→Option Bool
noncomputable def Tv (a_0:SThing) (b_1:SThing):Option Bool:=
 bif (a_0.fId != b_1.fId) then
 some false
 else
 bif (a_0.fKind != b_1.fKind) then
  some false
 else
  bif (!(a_0.fHidden == b_1.fHidden)) then
  some false
  else
  bif (!(a_0.fFixed == b_1.fFixed)) then
   some false
  else
   bif (!(a_0.fSigns == b_1.fSigns)) then
   some false
   else
   bif (!(a_0.fWraps == b_1.fWraps)) then
    some false
   else
    bif (!((ByteArray.toList a_0.fValue) == (ByteArray.toList b_1.fValue))) then
    some false
    else
    bif (a_0.fNext != b_1.fNext) then
     some false
    else
     some true
noncomputable def La:Qj:=Tv
theorem Q5:Tells ctx PP 93 cv39 cv1 (fun a=>La a.1 a.2):=fn_ok0 hl_nil Tryd.func93 (fun a=>by kernel_rfl:EntryIs0 ctx PP 93 [] [] cv39 cv1 fun a=>Tv a.1 a.2)
noncomputable def Wv {γ:Type} (F:Qj):Hd ctx γ:=hdl cv39.dec (fun a=>F a.1 a.2) cv1.enc
abbrev Xv:=(List SThing)→(List SThing)→Option Bool
inductive Rj where
 | c0 (a_0:(List SThing)) (b_1:(List SThing)) (i_5:Int)
noncomputable def U5:Rj→LI
 | .c0 a_0 b_1 i_5=>(tdo Tryd.f46 464,[(0,[.one (.rsl 71 a_0)]),(1,[.one (.rsl 71 b_1)]),(5,[.one (.int .i64 i_5)])],[])
noncomputable def Yv (z0:Qj) (k:Rj→Option Bool) (a_0:(List SThing)) (b_1:(List SThing)):Option Bool:=
 bif ((a_0.length:Int) != (b_1.length:Int)) then
 some false
 else
 k (.c0 a_0 b_1 0)
noncomputable def Bo (z0:Qj) (k:Rj→Option Bool):Rj→Option Bool
 | .c0 a_0 b_1 i_5=>
 bif (decide (i_5<(a_0.length:Int))) then
  bif ((decide (0≤i_5)) && (decide (i_5<(a_0.length:Int)))) then
  bif ((decide (0≤i_5)) && (decide (i_5<(b_1.length:Int)))) then
  (z0 (a_0.getD i_5.toNat (⟨0,0,false,false,false,false,⟨#[]⟩,0⟩:SThing)) (b_1.getD i_5.toNat (⟨0,0,false,false,false,false,⟨#[]⟩,0⟩:SThing))).bind fun r0=>
  bif (!r0) then
  some false
  else
  k (.c0 a_0 b_1 (w64 (i_5+1)))
  else none
  else none
 else
  some true
noncomputable def Qe:Nat→Rj→Option Bool
 | 0,_=>none
 | m+1,s=>Bo La (Qe m) s
noncomputable def Sj:Xv:=Yv La (Qe gas)
theorem LAC:Tells ctx PP 46 cv64 cv1 (fun a=>Sj a.1 a.2):=
 have b:∀ z0,CutIs ctx PP 46 Tryd.f46 [] [(93,Wv z0)] cv1 U5 (Bo z0):=fun z0 _ s=>by cases s <;> kernel_rfl
 have e:∀ z0,EntryIs ctx PP 46 [] [(93,Wv z0)] cv64 cv1 U5 (fun k a=>Yv z0 k a.1 a.2):=fun z0 _ a=>by kernel_rfl
 fn_ok (hc Q5 hl_nil) Tryd.func46 (fun s s' h=>by cases s;cases s';cases h;rfl) (fun _=>rfl) (fun _ _=>rfl) (b La) (e La) gas
noncomputable def NAC {γ:Type} (F:Xv):Hd ctx γ:=hdl cv64.dec (fun a=>F a.1 a.2) cv1.enc
abbrev Zv:=SBook→SBook→Option Bool
noncomputable def Aw (z0:Xv) (a_0:SBook) (b_1:SBook):Option Bool:=
 bif (!((ByteArray.toList a_0.fWord) == (ByteArray.toList b_1.fWord))) then
 some false
 else
 bif (a_0.fTries != b_1.fTries) then
  some false
 else
  (z0 a_0.fThings b_1.fThings).bind fun r0=>
  bif (!r0) then
  some false
  else
  bif (a_0.fLast != b_1.fLast) then
   some false
  else
   bif (!((ByteArray.toList a_0.fChain) == (ByteArray.toList b_1.fChain))) then
   some false
   else
   bif (a_0.fCount != b_1.fCount) then
    some false
   else
    some true
noncomputable def Tj:Zv:=Aw Sj
theorem OAC:Tells ctx PP 18 cv65 cv1 (fun a=>Tj a.1 a.2):=fn_ok0 (hc LAC hl_nil) Tryd.func18 ((fun z0 a=>by kernel_rfl:∀ z0,EntryIs0 ctx PP 18 [] [(46,NAC z0)] cv65 cv1 fun a=>Aw z0 a.1 a.2) Sj)
noncomputable def PAC {γ:Type} (F:Zv):Hd ctx γ:=hdl cv65.dec (fun a=>F a.1 a.2) cv1.enc
abbrev Eo:=SRec→SRec→Option Bool
noncomputable def Dw (z0:Qj) (a_0:SRec) (b_1:SRec):Option Bool:=
 bif (a_0.fKind != b_1.fKind) then
 some false
 else
 bif (!((ByteArray.toList a_0.fText) == (ByteArray.toList b_1.fText))) then
  some false
 else
  bif (a_0.fNum != b_1.fNum) then
  some false
  else
  (z0 a_0.fThing b_1.fThing).bind fun r0=>
  bif (!r0) then
   some false
  else
   some true
noncomputable def Lc:Eo:=Dw La
theorem QAC:Tells ctx PP 38 cv40 cv1 (fun a=>Lc a.1 a.2):=fn_ok0 (hc Q5 hl_nil) Tryd.func38 ((fun z0 a=>by kernel_rfl:∀ z0,EntryIs0 ctx PP 38 [] [(93,Wv z0)] cv40 cv1 fun a=>Dw z0 a.1 a.2) La)
noncomputable def V5 {γ:Type} (F:Eo):Hd ctx γ:=hdl cv40.dec (fun a=>F a.1 a.2) cv1.enc
abbrev Ew:=(List SRec)→(List SRec)→Option Bool
inductive Uj where
 | c0 (a_0:(List SRec)) (b_1:(List SRec)) (i_5:Int)
noncomputable def X5:Uj→LI
 | .c0 a_0 b_1 i_5=>(tdo Tryd.f9 464,[(0,[.one (.rsl 73 a_0)]),(1,[.one (.rsl 73 b_1)]),(5,[.one (.int .i64 i_5)])],[])
noncomputable def Gw (z0:Eo) (k:Uj→Option Bool) (a_0:(List SRec)) (b_1:(List SRec)):Option Bool:=
 bif ((a_0.length:Int) != (b_1.length:Int)) then
 some false
 else
 k (.c0 a_0 b_1 0)
noncomputable def Ho (z0:Eo) (k:Uj→Option Bool):Uj→Option Bool
 | .c0 a_0 b_1 i_5=>
 bif (decide (i_5<(a_0.length:Int))) then
  bif ((decide (0≤i_5)) && (decide (i_5<(a_0.length:Int)))) then
  bif ((decide (0≤i_5)) && (decide (i_5<(b_1.length:Int)))) then
  (z0 (a_0.getD i_5.toNat (⟨0,⟨#[]⟩,0,⟨0,0,false,false,false,false,⟨#[]⟩,0⟩⟩:SRec)) (b_1.getD i_5.toNat (⟨0,⟨#[]⟩,0,⟨0,0,false,false,false,false,⟨#[]⟩,0⟩⟩:SRec))).bind fun r0=>
  bif (!r0) then
  some false
  else
  k (.c0 a_0 b_1 (w64 (i_5+1)))
  else none
  else none
 else
  some true
noncomputable def Ue:Nat→Uj→Option Bool
 | 0,_=>none
 | m+1,s=>Ho Lc (Ue m) s
noncomputable def Vj:Ew:=Gw Lc (Ue gas)
theorem RAC:Tells ctx PP 9 cv41 cv1 (fun a=>Vj a.1 a.2):=
 have b:∀ z0,CutIs ctx PP 9 Tryd.f9 [] [(38,V5 z0)] cv1 X5 (Ho z0):=fun z0 _ s=>by cases s <;> kernel_rfl
 have e:∀ z0,EntryIs ctx PP 9 [] [(38,V5 z0)] cv41 cv1 X5 (fun k a=>Gw z0 k a.1 a.2):=fun z0 _ a=>by kernel_rfl
 fn_ok (hc QAC hl_nil) Tryd.func9 (fun s s' h=>by cases s;cases s';cases h;rfl) (fun _=>rfl) (fun _ _=>rfl) (b Lc) (e Lc) gas
noncomputable def SAC {γ:Type} (F:Ew):Hd ctx γ:=hdl cv41.dec (fun a=>F a.1 a.2) cv1.enc
abbrev Za:=Int→Option ByteArray
inductive Wj where
 | c0 (k_0:Int) (out_3:ByteArray)
noncomputable def Y5:Wj→LI
 | .c0 k_0 out_3=>(tdo Tryd.f39 480,[(0,[.one (.int .i64 k_0)]),(3,[.one (.str out_3)])],[])
noncomputable def Hw (k:Wj→Option ByteArray) (k_0:Int):Option ByteArray:=
 bif (decide (k_0≤0)) then
 some ⟨#[109,48]⟩
 else
 k (.c0 k_0 ⟨#[]⟩)
noncomputable def Io (k:Wj→Option ByteArray):Wj→Option ByteArray
 | .c0 k_0 out_3=>
 bif (decide (k_0 > 0)) then
  bif (decide (((ofBytes [(w8 (w64 (48+(k_0.tmod 10))))]).size+out_3.size)≤9223372036854775807)) then
  k (.c0 (w64 (k_0.tdiv 10)) ((ofBytes [(w8 (w64 (48+(k_0.tmod 10))))])++out_3))
  else none
 else
  bif (decide (((⟨#[109]⟩:ByteArray).size+out_3.size)≤9223372036854775807)) then
  some ((⟨#[109]⟩:ByteArray)++out_3)
  else none
noncomputable def Xj:Nat→Wj→Option ByteArray
 | 0,_=>none
 | m+1,s=>Io (Xj m) s
noncomputable def EY:Za:=Hw (Xj gas)
theorem Iw:Tells ctx PP 39 cv2 cv3 (fun a=>EY a):=
 have b:CutIs ctx PP 39 Tryd.f39 [] [] cv3 Y5 (Io):=fun _ s=>by cases s <;> kernel_rfl
 have e:EntryIs ctx PP 39 [] [] cv2 cv3 Y5 (fun k a=>Hw k a):=fun _ a=>by kernel_rfl
 fn_ok hl_nil Tryd.func39 (fun s s' h=>by cases s;cases s';cases h;rfl) (fun _=>rfl) (fun _ _=>rfl) b e gas
noncomputable def Ve {γ:Type} (F:Za):Hd ctx γ:=hdl cv2.dec (fun a=>F a) cv3.enc
abbrev Jw:=(List SThing)→Int→Option (Int×(List SThing))
inductive Yj where
 | c0 (k_1:Int) (i_5:Int) (a_0r1:(List SThing))
 | c1 (k_1:Int) (i_5:Int) (a_0r1:(List SThing))
 | c2 (k_1:Int) (i_5:Int) (a_0r1:(List SThing))
 | c3 (k_1:Int) (i_5:Int) (a_0r1:(List SThing))
 | c4 (k_1:Int) (i_5:Int) (a_0r1:(List SThing))
 | c5 (k_1:Int) (i_5:Int) (a_0r1:(List SThing))
 | c6 (k_1:Int) (i_5:Int) (a_0r1:(List SThing))
 | c7 (k_1:Int) (i_5:Int) (a_0r1:(List SThing))
noncomputable def Z5:Yj→LI
 | .c0 k_1 i_5 a_0r1=>(tdo Tryd.f67 208,[(0,[.one (.own 1)]),(1,[.one (.int .i64 k_1)]),(5,[.one (.int .i64 i_5)])],[(1,.io 71 a_0r1)])
 | .c1 k_1 i_5 a_0r1=>(tdo Tryd.f67 3366,[(0,[.one (.own 1)]),(1,[.one (.int .i64 k_1)]),(5,[.one (.int .i64 i_5)])],[(1,.io 71 a_0r1)])
 | .c2 k_1 i_5 a_0r1=>(tdo Tryd.f67 13470,[(0,[.one (.own 1)]),(1,[.one (.int .i64 k_1)]),(5,[.one (.int .i64 i_5)])],[(1,.io 71 a_0r1)])
 | .c3 k_1 i_5 a_0r1=>(tdo Tryd.f67 53886,[(0,[.one (.own 1)]),(1,[.one (.int .i64 k_1)]),(5,[.one (.int .i64 i_5)])],[(1,.io 71 a_0r1)])
 | .c4 k_1 i_5 a_0r1=>(tdo Tryd.f67 215550,[(0,[.one (.own 1)]),(1,[.one (.int .i64 k_1)]),(5,[.one (.int .i64 i_5)])],[(1,.io 71 a_0r1)])
 | .c5 k_1 i_5 a_0r1=>(tdo Tryd.f67 862206,[(0,[.one (.own 1)]),(1,[.one (.int .i64 k_1)]),(5,[.one (.int .i64 i_5)])],[(1,.io 71 a_0r1)])
 | .c6 k_1 i_5 a_0r1=>(tdo Tryd.f67 3448830,[(0,[.one (.own 1)]),(1,[.one (.int .i64 k_1)]),(5,[.one (.int .i64 i_5)])],[(1,.io 71 a_0r1)])
 | .c7 k_1 i_5 a_0r1=>(tdo Tryd.f67 13795326,[(0,[.one (.own 1)]),(1,[.one (.int .i64 k_1)]),(5,[.one (.int .i64 i_5)])],[(1,.io 71 a_0r1)])
noncomputable def Kw (z0:Za) (k:Yj→Option (Int×(List SThing))) (a_0:(List SThing)) (k_1:Int):Option (Int×(List SThing)):=
 k (.c0 k_1 0 a_0)
noncomputable def IZ (z0:Za) (k:Yj→Option (Int×(List SThing))):Yj→Option (Int×(List SThing))
 | .c0 k_1 i_5 a_0r1=>
 bif (decide (i_5<(a_0r1.length:Int))) then
  bif ((decide (0≤i_5)) && (decide (i_5<(a_0r1.length:Int)))) then
  k (.c1 (w64 (k_1+1)) i_5 (a_0r1.set i_5.toNat (⟨k_1,(a_0r1.getD i_5.toNat (⟨0,0,false,false,false,false,⟨#[]⟩,0⟩:SThing)).fKind,(a_0r1.getD i_5.toNat (⟨0,0,false,false,false,false,⟨#[]⟩,0⟩:SThing)).fHidden,(a_0r1.getD i_5.toNat (⟨0,0,false,false,false,false,⟨#[]⟩,0⟩:SThing)).fFixed,(a_0r1.getD i_5.toNat (⟨0,0,false,false,false,false,⟨#[]⟩,0⟩:SThing)).fSigns,(a_0r1.getD i_5.toNat (⟨0,0,false,false,false,false,⟨#[]⟩,0⟩:SThing)).fWraps,(a_0r1.getD i_5.toNat (⟨0,0,false,false,false,false,⟨#[]⟩,0⟩:SThing)).fValue,(a_0r1.getD i_5.toNat (⟨0,0,false,false,false,false,⟨#[]⟩,0⟩:SThing)).fNext⟩:SThing)))
  else none
 else
  some (k_1,a_0r1)
 | .c1 k_1 i_5 a_0r1=>
 bif ((decide (0≤i_5)) && (decide (i_5<(a_0r1.length:Int)))) then
 k (.c2 (w64 (k_1+1)) i_5 (a_0r1.set i_5.toNat (⟨(a_0r1.getD i_5.toNat (⟨0,0,false,false,false,false,⟨#[]⟩,0⟩:SThing)).fId,k_1,(a_0r1.getD i_5.toNat (⟨0,0,false,false,false,false,⟨#[]⟩,0⟩:SThing)).fHidden,(a_0r1.getD i_5.toNat (⟨0,0,false,false,false,false,⟨#[]⟩,0⟩:SThing)).fFixed,(a_0r1.getD i_5.toNat (⟨0,0,false,false,false,false,⟨#[]⟩,0⟩:SThing)).fSigns,(a_0r1.getD i_5.toNat (⟨0,0,false,false,false,false,⟨#[]⟩,0⟩:SThing)).fWraps,(a_0r1.getD i_5.toNat (⟨0,0,false,false,false,false,⟨#[]⟩,0⟩:SThing)).fValue,(a_0r1.getD i_5.toNat (⟨0,0,false,false,false,false,⟨#[]⟩,0⟩:SThing)).fNext⟩:SThing)))
 else none
 | .c2 k_1 i_5 a_0r1=>
 bif ((decide (0≤i_5)) && (decide (i_5<(a_0r1.length:Int)))) then
 k (.c3 (w64 (k_1+1)) i_5 (a_0r1.set i_5.toNat (⟨(a_0r1.getD i_5.toNat (⟨0,0,false,false,false,false,⟨#[]⟩,0⟩:SThing)).fId,(a_0r1.getD i_5.toNat (⟨0,0,false,false,false,false,⟨#[]⟩,0⟩:SThing)).fKind,((k_1.tmod 3) == 0),(a_0r1.getD i_5.toNat (⟨0,0,false,false,false,false,⟨#[]⟩,0⟩:SThing)).fFixed,(a_0r1.getD i_5.toNat (⟨0,0,false,false,false,false,⟨#[]⟩,0⟩:SThing)).fSigns,(a_0r1.getD i_5.toNat (⟨0,0,false,false,false,false,⟨#[]⟩,0⟩:SThing)).fWraps,(a_0r1.getD i_5.toNat (⟨0,0,false,false,false,false,⟨#[]⟩,0⟩:SThing)).fValue,(a_0r1.getD i_5.toNat (⟨0,0,false,false,false,false,⟨#[]⟩,0⟩:SThing)).fNext⟩:SThing)))
 else none
 | .c3 k_1 i_5 a_0r1=>
 bif ((decide (0≤i_5)) && (decide (i_5<(a_0r1.length:Int)))) then
 k (.c4 (w64 (k_1+1)) i_5 (a_0r1.set i_5.toNat (⟨(a_0r1.getD i_5.toNat (⟨0,0,false,false,false,false,⟨#[]⟩,0⟩:SThing)).fId,(a_0r1.getD i_5.toNat (⟨0,0,false,false,false,false,⟨#[]⟩,0⟩:SThing)).fKind,(a_0r1.getD i_5.toNat (⟨0,0,false,false,false,false,⟨#[]⟩,0⟩:SThing)).fHidden,((k_1.tmod 3) == 0),(a_0r1.getD i_5.toNat (⟨0,0,false,false,false,false,⟨#[]⟩,0⟩:SThing)).fSigns,(a_0r1.getD i_5.toNat (⟨0,0,false,false,false,false,⟨#[]⟩,0⟩:SThing)).fWraps,(a_0r1.getD i_5.toNat (⟨0,0,false,false,false,false,⟨#[]⟩,0⟩:SThing)).fValue,(a_0r1.getD i_5.toNat (⟨0,0,false,false,false,false,⟨#[]⟩,0⟩:SThing)).fNext⟩:SThing)))
 else none
 | .c4 k_1 i_5 a_0r1=>
 bif ((decide (0≤i_5)) && (decide (i_5<(a_0r1.length:Int)))) then
 k (.c5 (w64 (k_1+1)) i_5 (a_0r1.set i_5.toNat (⟨(a_0r1.getD i_5.toNat (⟨0,0,false,false,false,false,⟨#[]⟩,0⟩:SThing)).fId,(a_0r1.getD i_5.toNat (⟨0,0,false,false,false,false,⟨#[]⟩,0⟩:SThing)).fKind,(a_0r1.getD i_5.toNat (⟨0,0,false,false,false,false,⟨#[]⟩,0⟩:SThing)).fHidden,(a_0r1.getD i_5.toNat (⟨0,0,false,false,false,false,⟨#[]⟩,0⟩:SThing)).fFixed,((k_1.tmod 3) == 0),(a_0r1.getD i_5.toNat (⟨0,0,false,false,false,false,⟨#[]⟩,0⟩:SThing)).fWraps,(a_0r1.getD i_5.toNat (⟨0,0,false,false,false,false,⟨#[]⟩,0⟩:SThing)).fValue,(a_0r1.getD i_5.toNat (⟨0,0,false,false,false,false,⟨#[]⟩,0⟩:SThing)).fNext⟩:SThing)))
 else none
 | .c5 k_1 i_5 a_0r1=>
 bif ((decide (0≤i_5)) && (decide (i_5<(a_0r1.length:Int)))) then
 k (.c6 (w64 (k_1+1)) i_5 (a_0r1.set i_5.toNat (⟨(a_0r1.getD i_5.toNat (⟨0,0,false,false,false,false,⟨#[]⟩,0⟩:SThing)).fId,(a_0r1.getD i_5.toNat (⟨0,0,false,false,false,false,⟨#[]⟩,0⟩:SThing)).fKind,(a_0r1.getD i_5.toNat (⟨0,0,false,false,false,false,⟨#[]⟩,0⟩:SThing)).fHidden,(a_0r1.getD i_5.toNat (⟨0,0,false,false,false,false,⟨#[]⟩,0⟩:SThing)).fFixed,(a_0r1.getD i_5.toNat (⟨0,0,false,false,false,false,⟨#[]⟩,0⟩:SThing)).fSigns,((k_1.tmod 3) == 0),(a_0r1.getD i_5.toNat (⟨0,0,false,false,false,false,⟨#[]⟩,0⟩:SThing)).fValue,(a_0r1.getD i_5.toNat (⟨0,0,false,false,false,false,⟨#[]⟩,0⟩:SThing)).fNext⟩:SThing)))
 else none
 | .c6 k_1 i_5 a_0r1=>
 (z0 k_1).bind fun r0=>
 bif ((decide (0≤i_5)) && (decide (i_5<(a_0r1.length:Int)))) then
 k (.c7 (w64 (k_1+1)) i_5 (a_0r1.set i_5.toNat (⟨(a_0r1.getD i_5.toNat (⟨0,0,false,false,false,false,⟨#[]⟩,0⟩:SThing)).fId,(a_0r1.getD i_5.toNat (⟨0,0,false,false,false,false,⟨#[]⟩,0⟩:SThing)).fKind,(a_0r1.getD i_5.toNat (⟨0,0,false,false,false,false,⟨#[]⟩,0⟩:SThing)).fHidden,(a_0r1.getD i_5.toNat (⟨0,0,false,false,false,false,⟨#[]⟩,0⟩:SThing)).fFixed,(a_0r1.getD i_5.toNat (⟨0,0,false,false,false,false,⟨#[]⟩,0⟩:SThing)).fSigns,(a_0r1.getD i_5.toNat (⟨0,0,false,false,false,false,⟨#[]⟩,0⟩:SThing)).fWraps,r0,(a_0r1.getD i_5.toNat (⟨0,0,false,false,false,false,⟨#[]⟩,0⟩:SThing)).fNext⟩:SThing)))
 else none
 | .c7 k_1 i_5 a_0r1=>
 bif ((decide (0≤i_5)) && (decide (i_5<(a_0r1.length:Int)))) then
 k (.c0 (w64 (k_1+1)) (w64 (i_5+1)) (a_0r1.set i_5.toNat (⟨(a_0r1.getD i_5.toNat (⟨0,0,false,false,false,false,⟨#[]⟩,0⟩:SThing)).fId,(a_0r1.getD i_5.toNat (⟨0,0,false,false,false,false,⟨#[]⟩,0⟩:SThing)).fKind,(a_0r1.getD i_5.toNat (⟨0,0,false,false,false,false,⟨#[]⟩,0⟩:SThing)).fHidden,(a_0r1.getD i_5.toNat (⟨0,0,false,false,false,false,⟨#[]⟩,0⟩:SThing)).fFixed,(a_0r1.getD i_5.toNat (⟨0,0,false,false,false,false,⟨#[]⟩,0⟩:SThing)).fSigns,(a_0r1.getD i_5.toNat (⟨0,0,false,false,false,false,⟨#[]⟩,0⟩:SThing)).fWraps,(a_0r1.getD i_5.toNat (⟨0,0,false,false,false,false,⟨#[]⟩,0⟩:SThing)).fValue,k_1⟩:SThing)))
 else none
noncomputable def PY:Nat→Yj→Option (Int×(List SThing))
 | 0,_=>none
 | m+1,s=>IZ EY (PY m) s
noncomputable def Zj:Jw:=Kw EY (PY gas)
theorem UAC:Tells ctx PP 67 cv99 cv100 (fun a=>Zj a.1 a.2):=
 have b:∀ z0,CutIs ctx PP 67 Tryd.f67 [1] [(39,Ve z0)] cv100 Z5 (IZ z0):=fun z0 _ s=>by cases s <;> kernel_rfl
 have e:∀ z0,EntryIs ctx PP 67 [1] [(39,Ve z0)] cv99 cv100 Z5 (fun k a=>Kw z0 k a.1 a.2):=fun z0 _ a=>by kernel_rfl
 fn_ok (hc Iw hl_nil) Tryd.func67 (fun s s' h=>by cases s <;> cases s' <;> first | (cases h;done) | (cases h;rfl) | exact (rg_ne h (by kernel_rfl)).elim) (fun _=>rfl) (fun _ _=>rfl) (b EY) (e EY) gas
noncomputable def VAC {γ:Type} (F:Jw):Hd ctx γ:=hdl cv99.dec (fun a=>F a.1 a.2) cv100.enc
abbrev Nw:=SBook→Int→Option (Int×(List SThing))
noncomputable def Qw (z0:Jw) (a_0:SBook) (k_1:Int):Option (Int×(List SThing)):=
 (z0 a_0.fThings k_1).bind fun r0=>
 some (r0.1,r0.2)
noncomputable def Ak:Nw:=Qw Zj
theorem WAC:Tells ctx PP 28 cv101 cv102 (fun a=>Ak a.1 a.2):=fn_ok0 (hc UAC hl_nil) Tryd.func28 ((fun z0 a=>by kernel_rfl:∀ z0,EntryIs0 ctx PP 28 [1] [(67,VAC z0)] cv101 cv102 fun a=>Qw z0 a.1 a.2) Zj)
noncomputable def XAC {γ:Type} (F:Nw):Hd ctx γ:=hdl cv101.dec (fun a=>F a.1 a.2) cv102.enc
abbrev Rw:=(List SRec)→Int→Option (Int×(List SRec))
inductive Dk where
 | c0 (k_1:Int) (i_5:Int) (a_0r1:(List SRec))
 | c1 (k_1:Int) (i_5:Int) (a_0r1:(List SRec))
 | c2 (k_1:Int) (i_5:Int) (a_0r1:(List SRec))
 | c3 (k_1:Int) (i_5:Int) (a_0r1:(List SRec))
 | c4 (k_1:Int) (i_5:Int) (a_0r1:(List SRec))
 | c5 (k_1:Int) (i_5:Int) (a_0r1:(List SRec))
 | c6 (k_1:Int) (i_5:Int) (a_0r1:(List SRec))
 | c7 (k_1:Int) (i_5:Int) (a_0r1:(List SRec))
 | c8 (k_1:Int) (i_5:Int) (a_0r1:(List SRec))
 | c9 (k_1:Int) (i_5:Int) (a_0r1:(List SRec))
 | c10 (k_1:Int) (i_5:Int) (a_0r1:(List SRec))
noncomputable def D6:Dk→LI
 | .c0 k_1 i_5 a_0r1=>(tdo Tryd.f10 208,[(0,[.one (.own 1)]),(1,[.one (.int .i64 k_1)]),(5,[.one (.int .i64 i_5)])],[(1,.io 73 a_0r1)])
 | .c1 k_1 i_5 a_0r1=>(tdo Tryd.f10 3366,[(0,[.one (.own 1)]),(1,[.one (.int .i64 k_1)]),(5,[.one (.int .i64 i_5)])],[(1,.io 73 a_0r1)])
 | .c2 k_1 i_5 a_0r1=>(tdo Tryd.f10 13470,[(0,[.one (.own 1)]),(1,[.one (.int .i64 k_1)]),(5,[.one (.int .i64 i_5)])],[(1,.io 73 a_0r1)])
 | .c3 k_1 i_5 a_0r1=>(tdo Tryd.f10 53886,[(0,[.one (.own 1)]),(1,[.one (.int .i64 k_1)]),(5,[.one (.int .i64 i_5)])],[(1,.io 73 a_0r1)])
 | .c4 k_1 i_5 a_0r1=>(tdo Tryd.f10 215550,[(0,[.one (.own 1)]),(1,[.one (.int .i64 k_1)]),(5,[.one (.int .i64 i_5)])],[(1,.io 73 a_0r1)])
 | .c5 k_1 i_5 a_0r1=>(tdo Tryd.f10 862206,[(0,[.one (.own 1)]),(1,[.one (.int .i64 k_1)]),(5,[.one (.int .i64 i_5)])],[(1,.io 73 a_0r1)])
 | .c6 k_1 i_5 a_0r1=>(tdo Tryd.f10 3448830,[(0,[.one (.own 1)]),(1,[.one (.int .i64 k_1)]),(5,[.one (.int .i64 i_5)])],[(1,.io 73 a_0r1)])
 | .c7 k_1 i_5 a_0r1=>(tdo Tryd.f10 13795326,[(0,[.one (.own 1)]),(1,[.one (.int .i64 k_1)]),(5,[.one (.int .i64 i_5)])],[(1,.io 73 a_0r1)])
 | .c8 k_1 i_5 a_0r1=>(tdo Tryd.f10 55181310,[(0,[.one (.own 1)]),(1,[.one (.int .i64 k_1)]),(5,[.one (.int .i64 i_5)])],[(1,.io 73 a_0r1)])
 | .c9 k_1 i_5 a_0r1=>(tdo Tryd.f10 220725246,[(0,[.one (.own 1)]),(1,[.one (.int .i64 k_1)]),(5,[.one (.int .i64 i_5)])],[(1,.io 73 a_0r1)])
 | .c10 k_1 i_5 a_0r1=>(tdo Tryd.f10 882900990,[(0,[.one (.own 1)]),(1,[.one (.int .i64 k_1)]),(5,[.one (.int .i64 i_5)])],[(1,.io 73 a_0r1)])
noncomputable def Uw (z0:Za) (k:Dk→Option (Int×(List SRec))) (a_0:(List SRec)) (k_1:Int):Option (Int×(List SRec)):=
 k (.c0 k_1 0 a_0)
noncomputable def QY (z0:Za) (k:Dk→Option (Int×(List SRec))):Dk→Option (Int×(List SRec))
 | .c0 k_1 i_5 a_0r1=>
 bif (decide (i_5<(a_0r1.length:Int))) then
  bif ((decide (0≤i_5)) && (decide (i_5<(a_0r1.length:Int)))) then
  k (.c1 (w64 (k_1+1)) i_5 (a_0r1.set i_5.toNat (⟨k_1,(a_0r1.getD i_5.toNat (⟨0,⟨#[]⟩,0,⟨0,0,false,false,false,false,⟨#[]⟩,0⟩⟩:SRec)).fText,(a_0r1.getD i_5.toNat (⟨0,⟨#[]⟩,0,⟨0,0,false,false,false,false,⟨#[]⟩,0⟩⟩:SRec)).fNum,(a_0r1.getD i_5.toNat (⟨0,⟨#[]⟩,0,⟨0,0,false,false,false,false,⟨#[]⟩,0⟩⟩:SRec)).fThing⟩:SRec)))
  else none
 else
  some (k_1,a_0r1)
 | .c1 k_1 i_5 a_0r1=>
 (z0 k_1).bind fun r0=>
 bif ((decide (0≤i_5)) && (decide (i_5<(a_0r1.length:Int)))) then
 k (.c2 (w64 (k_1+1)) i_5 (a_0r1.set i_5.toNat (⟨(a_0r1.getD i_5.toNat (⟨0,⟨#[]⟩,0,⟨0,0,false,false,false,false,⟨#[]⟩,0⟩⟩:SRec)).fKind,r0,(a_0r1.getD i_5.toNat (⟨0,⟨#[]⟩,0,⟨0,0,false,false,false,false,⟨#[]⟩,0⟩⟩:SRec)).fNum,(a_0r1.getD i_5.toNat (⟨0,⟨#[]⟩,0,⟨0,0,false,false,false,false,⟨#[]⟩,0⟩⟩:SRec)).fThing⟩:SRec)))
 else none
 | .c2 k_1 i_5 a_0r1=>
 bif ((decide (0≤i_5)) && (decide (i_5<(a_0r1.length:Int)))) then
 k (.c3 (w64 (k_1+1)) i_5 (a_0r1.set i_5.toNat (⟨(a_0r1.getD i_5.toNat (⟨0,⟨#[]⟩,0,⟨0,0,false,false,false,false,⟨#[]⟩,0⟩⟩:SRec)).fKind,(a_0r1.getD i_5.toNat (⟨0,⟨#[]⟩,0,⟨0,0,false,false,false,false,⟨#[]⟩,0⟩⟩:SRec)).fText,k_1,(a_0r1.getD i_5.toNat (⟨0,⟨#[]⟩,0,⟨0,0,false,false,false,false,⟨#[]⟩,0⟩⟩:SRec)).fThing⟩:SRec)))
 else none
 | .c3 k_1 i_5 a_0r1=>
 bif ((decide (0≤i_5)) && (decide (i_5<(a_0r1.length:Int)))) then
 k (.c4 (w64 (k_1+1)) i_5 (a_0r1.set i_5.toNat (⟨(a_0r1.getD i_5.toNat (⟨0,⟨#[]⟩,0,⟨0,0,false,false,false,false,⟨#[]⟩,0⟩⟩:SRec)).fKind,(a_0r1.getD i_5.toNat (⟨0,⟨#[]⟩,0,⟨0,0,false,false,false,false,⟨#[]⟩,0⟩⟩:SRec)).fText,(a_0r1.getD i_5.toNat (⟨0,⟨#[]⟩,0,⟨0,0,false,false,false,false,⟨#[]⟩,0⟩⟩:SRec)).fNum,⟨k_1,(a_0r1.getD i_5.toNat (⟨0,⟨#[]⟩,0,⟨0,0,false,false,false,false,⟨#[]⟩,0⟩⟩:SRec)).fThing.fKind,(a_0r1.getD i_5.toNat (⟨0,⟨#[]⟩,0,⟨0,0,false,false,false,false,⟨#[]⟩,0⟩⟩:SRec)).fThing.fHidden,(a_0r1.getD i_5.toNat (⟨0,⟨#[]⟩,0,⟨0,0,false,false,false,false,⟨#[]⟩,0⟩⟩:SRec)).fThing.fFixed,(a_0r1.getD i_5.toNat (⟨0,⟨#[]⟩,0,⟨0,0,false,false,false,false,⟨#[]⟩,0⟩⟩:SRec)).fThing.fSigns,(a_0r1.getD i_5.toNat (⟨0,⟨#[]⟩,0,⟨0,0,false,false,false,false,⟨#[]⟩,0⟩⟩:SRec)).fThing.fWraps,(a_0r1.getD i_5.toNat (⟨0,⟨#[]⟩,0,⟨0,0,false,false,false,false,⟨#[]⟩,0⟩⟩:SRec)).fThing.fValue,(a_0r1.getD i_5.toNat (⟨0,⟨#[]⟩,0,⟨0,0,false,false,false,false,⟨#[]⟩,0⟩⟩:SRec)).fThing.fNext⟩⟩:SRec)))
 else none
 | .c4 k_1 i_5 a_0r1=>
 bif ((decide (0≤i_5)) && (decide (i_5<(a_0r1.length:Int)))) then
 k (.c5 (w64 (k_1+1)) i_5 (a_0r1.set i_5.toNat (⟨(a_0r1.getD i_5.toNat (⟨0,⟨#[]⟩,0,⟨0,0,false,false,false,false,⟨#[]⟩,0⟩⟩:SRec)).fKind,(a_0r1.getD i_5.toNat (⟨0,⟨#[]⟩,0,⟨0,0,false,false,false,false,⟨#[]⟩,0⟩⟩:SRec)).fText,(a_0r1.getD i_5.toNat (⟨0,⟨#[]⟩,0,⟨0,0,false,false,false,false,⟨#[]⟩,0⟩⟩:SRec)).fNum,⟨(a_0r1.getD i_5.toNat (⟨0,⟨#[]⟩,0,⟨0,0,false,false,false,false,⟨#[]⟩,0⟩⟩:SRec)).fThing.fId,k_1,(a_0r1.getD i_5.toNat (⟨0,⟨#[]⟩,0,⟨0,0,false,false,false,false,⟨#[]⟩,0⟩⟩:SRec)).fThing.fHidden,(a_0r1.getD i_5.toNat (⟨0,⟨#[]⟩,0,⟨0,0,false,false,false,false,⟨#[]⟩,0⟩⟩:SRec)).fThing.fFixed,(a_0r1.getD i_5.toNat (⟨0,⟨#[]⟩,0,⟨0,0,false,false,false,false,⟨#[]⟩,0⟩⟩:SRec)).fThing.fSigns,(a_0r1.getD i_5.toNat (⟨0,⟨#[]⟩,0,⟨0,0,false,false,false,false,⟨#[]⟩,0⟩⟩:SRec)).fThing.fWraps,(a_0r1.getD i_5.toNat (⟨0,⟨#[]⟩,0,⟨0,0,false,false,false,false,⟨#[]⟩,0⟩⟩:SRec)).fThing.fValue,(a_0r1.getD i_5.toNat (⟨0,⟨#[]⟩,0,⟨0,0,false,false,false,false,⟨#[]⟩,0⟩⟩:SRec)).fThing.fNext⟩⟩:SRec)))
 else none
 | .c5 k_1 i_5 a_0r1=>
 bif ((decide (0≤i_5)) && (decide (i_5<(a_0r1.length:Int)))) then
 k (.c6 (w64 (k_1+1)) i_5 (a_0r1.set i_5.toNat (⟨(a_0r1.getD i_5.toNat (⟨0,⟨#[]⟩,0,⟨0,0,false,false,false,false,⟨#[]⟩,0⟩⟩:SRec)).fKind,(a_0r1.getD i_5.toNat (⟨0,⟨#[]⟩,0,⟨0,0,false,false,false,false,⟨#[]⟩,0⟩⟩:SRec)).fText,(a_0r1.getD i_5.toNat (⟨0,⟨#[]⟩,0,⟨0,0,false,false,false,false,⟨#[]⟩,0⟩⟩:SRec)).fNum,⟨(a_0r1.getD i_5.toNat (⟨0,⟨#[]⟩,0,⟨0,0,false,false,false,false,⟨#[]⟩,0⟩⟩:SRec)).fThing.fId,(a_0r1.getD i_5.toNat (⟨0,⟨#[]⟩,0,⟨0,0,false,false,false,false,⟨#[]⟩,0⟩⟩:SRec)).fThing.fKind,((k_1.tmod 3) == 0),(a_0r1.getD i_5.toNat (⟨0,⟨#[]⟩,0,⟨0,0,false,false,false,false,⟨#[]⟩,0⟩⟩:SRec)).fThing.fFixed,(a_0r1.getD i_5.toNat (⟨0,⟨#[]⟩,0,⟨0,0,false,false,false,false,⟨#[]⟩,0⟩⟩:SRec)).fThing.fSigns,(a_0r1.getD i_5.toNat (⟨0,⟨#[]⟩,0,⟨0,0,false,false,false,false,⟨#[]⟩,0⟩⟩:SRec)).fThing.fWraps,(a_0r1.getD i_5.toNat (⟨0,⟨#[]⟩,0,⟨0,0,false,false,false,false,⟨#[]⟩,0⟩⟩:SRec)).fThing.fValue,(a_0r1.getD i_5.toNat (⟨0,⟨#[]⟩,0,⟨0,0,false,false,false,false,⟨#[]⟩,0⟩⟩:SRec)).fThing.fNext⟩⟩:SRec)))
 else none
 | .c6 k_1 i_5 a_0r1=>
 bif ((decide (0≤i_5)) && (decide (i_5<(a_0r1.length:Int)))) then
 k (.c7 (w64 (k_1+1)) i_5 (a_0r1.set i_5.toNat (⟨(a_0r1.getD i_5.toNat (⟨0,⟨#[]⟩,0,⟨0,0,false,false,false,false,⟨#[]⟩,0⟩⟩:SRec)).fKind,(a_0r1.getD i_5.toNat (⟨0,⟨#[]⟩,0,⟨0,0,false,false,false,false,⟨#[]⟩,0⟩⟩:SRec)).fText,(a_0r1.getD i_5.toNat (⟨0,⟨#[]⟩,0,⟨0,0,false,false,false,false,⟨#[]⟩,0⟩⟩:SRec)).fNum,⟨(a_0r1.getD i_5.toNat (⟨0,⟨#[]⟩,0,⟨0,0,false,false,false,false,⟨#[]⟩,0⟩⟩:SRec)).fThing.fId,(a_0r1.getD i_5.toNat (⟨0,⟨#[]⟩,0,⟨0,0,false,false,false,false,⟨#[]⟩,0⟩⟩:SRec)).fThing.fKind,(a_0r1.getD i_5.toNat (⟨0,⟨#[]⟩,0,⟨0,0,false,false,false,false,⟨#[]⟩,0⟩⟩:SRec)).fThing.fHidden,((k_1.tmod 3) == 0),(a_0r1.getD i_5.toNat (⟨0,⟨#[]⟩,0,⟨0,0,false,false,false,false,⟨#[]⟩,0⟩⟩:SRec)).fThing.fSigns,(a_0r1.getD i_5.toNat (⟨0,⟨#[]⟩,0,⟨0,0,false,false,false,false,⟨#[]⟩,0⟩⟩:SRec)).fThing.fWraps,(a_0r1.getD i_5.toNat (⟨0,⟨#[]⟩,0,⟨0,0,false,false,false,false,⟨#[]⟩,0⟩⟩:SRec)).fThing.fValue,(a_0r1.getD i_5.toNat (⟨0,⟨#[]⟩,0,⟨0,0,false,false,false,false,⟨#[]⟩,0⟩⟩:SRec)).fThing.fNext⟩⟩:SRec)))
 else none
 | .c7 k_1 i_5 a_0r1=>
 bif ((decide (0≤i_5)) && (decide (i_5<(a_0r1.length:Int)))) then
 k (.c8 (w64 (k_1+1)) i_5 (a_0r1.set i_5.toNat (⟨(a_0r1.getD i_5.toNat (⟨0,⟨#[]⟩,0,⟨0,0,false,false,false,false,⟨#[]⟩,0⟩⟩:SRec)).fKind,(a_0r1.getD i_5.toNat (⟨0,⟨#[]⟩,0,⟨0,0,false,false,false,false,⟨#[]⟩,0⟩⟩:SRec)).fText,(a_0r1.getD i_5.toNat (⟨0,⟨#[]⟩,0,⟨0,0,false,false,false,false,⟨#[]⟩,0⟩⟩:SRec)).fNum,⟨(a_0r1.getD i_5.toNat (⟨0,⟨#[]⟩,0,⟨0,0,false,false,false,false,⟨#[]⟩,0⟩⟩:SRec)).fThing.fId,(a_0r1.getD i_5.toNat (⟨0,⟨#[]⟩,0,⟨0,0,false,false,false,false,⟨#[]⟩,0⟩⟩:SRec)).fThing.fKind,(a_0r1.getD i_5.toNat (⟨0,⟨#[]⟩,0,⟨0,0,false,false,false,false,⟨#[]⟩,0⟩⟩:SRec)).fThing.fHidden,(a_0r1.getD i_5.toNat (⟨0,⟨#[]⟩,0,⟨0,0,false,false,false,false,⟨#[]⟩,0⟩⟩:SRec)).fThing.fFixed,((k_1.tmod 3) == 0),(a_0r1.getD i_5.toNat (⟨0,⟨#[]⟩,0,⟨0,0,false,false,false,false,⟨#[]⟩,0⟩⟩:SRec)).fThing.fWraps,(a_0r1.getD i_5.toNat (⟨0,⟨#[]⟩,0,⟨0,0,false,false,false,false,⟨#[]⟩,0⟩⟩:SRec)).fThing.fValue,(a_0r1.getD i_5.toNat (⟨0,⟨#[]⟩,0,⟨0,0,false,false,false,false,⟨#[]⟩,0⟩⟩:SRec)).fThing.fNext⟩⟩:SRec)))
 else none
 | .c8 k_1 i_5 a_0r1=>
 bif ((decide (0≤i_5)) && (decide (i_5<(a_0r1.length:Int)))) then
 k (.c9 (w64 (k_1+1)) i_5 (a_0r1.set i_5.toNat (⟨(a_0r1.getD i_5.toNat (⟨0,⟨#[]⟩,0,⟨0,0,false,false,false,false,⟨#[]⟩,0⟩⟩:SRec)).fKind,(a_0r1.getD i_5.toNat (⟨0,⟨#[]⟩,0,⟨0,0,false,false,false,false,⟨#[]⟩,0⟩⟩:SRec)).fText,(a_0r1.getD i_5.toNat (⟨0,⟨#[]⟩,0,⟨0,0,false,false,false,false,⟨#[]⟩,0⟩⟩:SRec)).fNum,⟨(a_0r1.getD i_5.toNat (⟨0,⟨#[]⟩,0,⟨0,0,false,false,false,false,⟨#[]⟩,0⟩⟩:SRec)).fThing.fId,(a_0r1.getD i_5.toNat (⟨0,⟨#[]⟩,0,⟨0,0,false,false,false,false,⟨#[]⟩,0⟩⟩:SRec)).fThing.fKind,(a_0r1.getD i_5.toNat (⟨0,⟨#[]⟩,0,⟨0,0,false,false,false,false,⟨#[]⟩,0⟩⟩:SRec)).fThing.fHidden,(a_0r1.getD i_5.toNat (⟨0,⟨#[]⟩,0,⟨0,0,false,false,false,false,⟨#[]⟩,0⟩⟩:SRec)).fThing.fFixed,(a_0r1.getD i_5.toNat (⟨0,⟨#[]⟩,0,⟨0,0,false,false,false,false,⟨#[]⟩,0⟩⟩:SRec)).fThing.fSigns,((k_1.tmod 3) == 0),(a_0r1.getD i_5.toNat (⟨0,⟨#[]⟩,0,⟨0,0,false,false,false,false,⟨#[]⟩,0⟩⟩:SRec)).fThing.fValue,(a_0r1.getD i_5.toNat (⟨0,⟨#[]⟩,0,⟨0,0,false,false,false,false,⟨#[]⟩,0⟩⟩:SRec)).fThing.fNext⟩⟩:SRec)))
 else none
 | .c9 k_1 i_5 a_0r1=>
 (z0 k_1).bind fun r0=>
 bif ((decide (0≤i_5)) && (decide (i_5<(a_0r1.length:Int)))) then
 k (.c10 (w64 (k_1+1)) i_5 (a_0r1.set i_5.toNat (⟨(a_0r1.getD i_5.toNat (⟨0,⟨#[]⟩,0,⟨0,0,false,false,false,false,⟨#[]⟩,0⟩⟩:SRec)).fKind,(a_0r1.getD i_5.toNat (⟨0,⟨#[]⟩,0,⟨0,0,false,false,false,false,⟨#[]⟩,0⟩⟩:SRec)).fText,(a_0r1.getD i_5.toNat (⟨0,⟨#[]⟩,0,⟨0,0,false,false,false,false,⟨#[]⟩,0⟩⟩:SRec)).fNum,⟨(a_0r1.getD i_5.toNat (⟨0,⟨#[]⟩,0,⟨0,0,false,false,false,false,⟨#[]⟩,0⟩⟩:SRec)).fThing.fId,(a_0r1.getD i_5.toNat (⟨0,⟨#[]⟩,0,⟨0,0,false,false,false,false,⟨#[]⟩,0⟩⟩:SRec)).fThing.fKind,(a_0r1.getD i_5.toNat (⟨0,⟨#[]⟩,0,⟨0,0,false,false,false,false,⟨#[]⟩,0⟩⟩:SRec)).fThing.fHidden,(a_0r1.getD i_5.toNat (⟨0,⟨#[]⟩,0,⟨0,0,false,false,false,false,⟨#[]⟩,0⟩⟩:SRec)).fThing.fFixed,(a_0r1.getD i_5.toNat (⟨0,⟨#[]⟩,0,⟨0,0,false,false,false,false,⟨#[]⟩,0⟩⟩:SRec)).fThing.fSigns,(a_0r1.getD i_5.toNat (⟨0,⟨#[]⟩,0,⟨0,0,false,false,false,false,⟨#[]⟩,0⟩⟩:SRec)).fThing.fWraps,r0,(a_0r1.getD i_5.toNat (⟨0,⟨#[]⟩,0,⟨0,0,false,false,false,false,⟨#[]⟩,0⟩⟩:SRec)).fThing.fNext⟩⟩:SRec)))
 else none
 | .c10 k_1 i_5 a_0r1=>
 bif ((decide (0≤i_5)) && (decide (i_5<(a_0r1.length:Int)))) then
 k (.c0 (w64 (k_1+1)) (w64 (i_5+1)) (a_0r1.set i_5.toNat (⟨(a_0r1.getD i_5.toNat (⟨0,⟨#[]⟩,0,⟨0,0,false,false,false,false,⟨#[]⟩,0⟩⟩:SRec)).fKind,(a_0r1.getD i_5.toNat (⟨0,⟨#[]⟩,0,⟨0,0,false,false,false,false,⟨#[]⟩,0⟩⟩:SRec)).fText,(a_0r1.getD i_5.toNat (⟨0,⟨#[]⟩,0,⟨0,0,false,false,false,false,⟨#[]⟩,0⟩⟩:SRec)).fNum,⟨(a_0r1.getD i_5.toNat (⟨0,⟨#[]⟩,0,⟨0,0,false,false,false,false,⟨#[]⟩,0⟩⟩:SRec)).fThing.fId,(a_0r1.getD i_5.toNat (⟨0,⟨#[]⟩,0,⟨0,0,false,false,false,false,⟨#[]⟩,0⟩⟩:SRec)).fThing.fKind,(a_0r1.getD i_5.toNat (⟨0,⟨#[]⟩,0,⟨0,0,false,false,false,false,⟨#[]⟩,0⟩⟩:SRec)).fThing.fHidden,(a_0r1.getD i_5.toNat (⟨0,⟨#[]⟩,0,⟨0,0,false,false,false,false,⟨#[]⟩,0⟩⟩:SRec)).fThing.fFixed,(a_0r1.getD i_5.toNat (⟨0,⟨#[]⟩,0,⟨0,0,false,false,false,false,⟨#[]⟩,0⟩⟩:SRec)).fThing.fSigns,(a_0r1.getD i_5.toNat (⟨0,⟨#[]⟩,0,⟨0,0,false,false,false,false,⟨#[]⟩,0⟩⟩:SRec)).fThing.fWraps,(a_0r1.getD i_5.toNat (⟨0,⟨#[]⟩,0,⟨0,0,false,false,false,false,⟨#[]⟩,0⟩⟩:SRec)).fThing.fValue,k_1⟩⟩:SRec)))
 else none
noncomputable def FY:Nat→Dk→Option (Int×(List SRec))
 | 0,_=>none
 | m+1,s=>QY EY (FY m) s
noncomputable def Ik:Rw:=Uw EY (FY gas)
theorem YAC:Tells ctx PP 10 cv31 cv42 (fun a=>Ik a.1 a.2):=
 have b:∀ z0,CutIs ctx PP 10 Tryd.f10 [1] [(39,Ve z0)] cv42 D6 (QY z0):=fun z0 _ s=>by cases s <;> kernel_rfl
 have e:∀ z0,EntryIs ctx PP 10 [1] [(39,Ve z0)] cv31 cv42 D6 (fun k a=>Uw z0 k a.1 a.2):=fun z0 _ a=>by kernel_rfl
 fn_ok (hc Iw hl_nil) Tryd.func10 (fun s s' h=>by cases s <;> cases s' <;> first | (cases h;done) | (cases h;rfl) | exact (rg_ne h (by kernel_rfl)).elim) (fun _=>rfl) (fun _ _=>rfl) (b EY) (e EY) gas
noncomputable def ZAC {γ:Type} (F:Rw):Hd ctx γ:=hdl cv31.dec (fun a=>F a.1 a.2) cv42.enc
abbrev Vw:=(List SThing)→Int→Option Int
inductive Jk where
 | c0 (a_0:(List SThing)) (k_1:Int) (i_5:Int)
noncomputable def F6:Jk→LI
 | .c0 a_0 k_1 i_5=>(tdo Tryd.f68 208,[(0,[.one (.rsl 71 a_0)]),(1,[.one (.int .i64 k_1)]),(5,[.one (.int .i64 i_5)])],[])
noncomputable def Xw (z0:Za) (k:Jk→Option Int) (a_0:(List SThing)) (k_1:Int):Option Int:=
 k (.c0 a_0 k_1 0)
noncomputable def Jo (z0:Za) (k:Jk→Option Int):Jk→Option Int
 | .c0 a_0 k_1 i_5=>
 bif (decide (i_5<(a_0.length:Int))) then
  bif ((decide (0≤i_5)) && (decide (i_5<(a_0.length:Int)))) then
  bif ((a_0.getD i_5.toNat (⟨0,0,false,false,false,false,⟨#[]⟩,0⟩:SThing)).fId != k_1) then
  some (-(1:Int))
  else
  bif ((decide (0≤i_5)) && (decide (i_5<(a_0.length:Int)))) then
  bif ((a_0.getD i_5.toNat (⟨0,0,false,false,false,false,⟨#[]⟩,0⟩:SThing)).fKind != (w64 (k_1+1))) then
   some (-(1:Int))
  else
   bif ((decide (0≤i_5)) && (decide (i_5<(a_0.length:Int)))) then
   bif (!((a_0.getD i_5.toNat (⟨0,0,false,false,false,false,⟨#[]⟩,0⟩:SThing)).fHidden == (((w64 ((w64 (k_1+1))+1)).tmod 3) == 0))) then
   some (-(1:Int))
   else
   bif ((decide (0≤i_5)) && (decide (i_5<(a_0.length:Int)))) then
   bif (!((a_0.getD i_5.toNat (⟨0,0,false,false,false,false,⟨#[]⟩,0⟩:SThing)).fFixed == (((w64 ((w64 ((w64 (k_1+1))+1))+1)).tmod 3) == 0))) then
    some (-(1:Int))
   else
    bif ((decide (0≤i_5)) && (decide (i_5<(a_0.length:Int)))) then
    bif (!((a_0.getD i_5.toNat (⟨0,0,false,false,false,false,⟨#[]⟩,0⟩:SThing)).fSigns == (((w64 ((w64 ((w64 ((w64 (k_1+1))+1))+1))+1)).tmod 3) == 0))) then
    some (-(1:Int))
    else
    bif ((decide (0≤i_5)) && (decide (i_5<(a_0.length:Int)))) then
    bif (!((a_0.getD i_5.toNat (⟨0,0,false,false,false,false,⟨#[]⟩,0⟩:SThing)).fWraps == (((w64 ((w64 ((w64 ((w64 ((w64 (k_1+1))+1))+1))+1))+1)).tmod 3) == 0))) then
     some (-(1:Int))
    else
     bif ((decide (0≤i_5)) && (decide (i_5<(a_0.length:Int)))) then
     (z0 (w64 ((w64 ((w64 ((w64 ((w64 ((w64 (k_1+1))+1))+1))+1))+1))+1))).bind fun r0=>
     bif (!((ByteArray.toList (a_0.getD i_5.toNat (⟨0,0,false,false,false,false,⟨#[]⟩,0⟩:SThing)).fValue) == (ByteArray.toList r0))) then
     some (-(1:Int))
     else
     bif ((decide (0≤i_5)) && (decide (i_5<(a_0.length:Int)))) then
     bif ((a_0.getD i_5.toNat (⟨0,0,false,false,false,false,⟨#[]⟩,0⟩:SThing)).fNext != (w64 ((w64 ((w64 ((w64 ((w64 ((w64 ((w64 (k_1+1))+1))+1))+1))+1))+1))+1))) then
      some (-(1:Int))
     else
      k (.c0 a_0 (w64 ((w64 ((w64 ((w64 ((w64 ((w64 ((w64 ((w64 (k_1+1))+1))+1))+1))+1))+1))+1))+1)) (w64 (i_5+1)))
     else none
     else none
    else none
    else none
   else none
   else none
  else none
  else none
 else
  some k_1
noncomputable def Mc:Nat→Jk→Option Int
 | 0,_=>none
 | m+1,s=>Jo EY (Mc m) s
noncomputable def Nk:Vw:=Xw EY (Mc gas)
theorem AAD:Tells ctx PP 68 cv111 cv2 (fun a=>Nk a.1 a.2):=
 have b:∀ z0,CutIs ctx PP 68 Tryd.f68 [] [(39,Ve z0)] cv2 F6 (Jo z0):=fun z0 _ s=>by cases s <;> kernel_rfl
 have e:∀ z0,EntryIs ctx PP 68 [] [(39,Ve z0)] cv111 cv2 F6 (fun k a=>Xw z0 k a.1 a.2):=fun z0 _ a=>by kernel_rfl
 fn_ok (hc Iw hl_nil) Tryd.func68 (fun s s' h=>by cases s;cases s';cases h;rfl) (fun _=>rfl) (fun _ _=>rfl) (b EY) (e EY) gas
noncomputable def CAD {γ:Type} (F:Vw):Hd ctx γ:=hdl cv111.dec (fun a=>F a.1 a.2) cv2.enc
abbrev Yw:=SBook→Int→Option Int
noncomputable def Zw (z0:Vw) (a_0:SBook) (k_1:Int):Option Int:=
 (z0 a_0.fThings k_1).bind fun r0=>
 bif (decide (r0<0)) then
 some (-(1:Int))
 else
 some r0
noncomputable def Qk:Yw:=Zw Nk
theorem DAD:Tells ctx PP 29 cv57 cv2 (fun a=>Qk a.1 a.2):=fn_ok0 (hc AAD hl_nil) Tryd.func29 ((fun z0 a=>by kernel_rfl:∀ z0,EntryIs0 ctx PP 29 [] [(68,CAD z0)] cv57 cv2 fun a=>Zw z0 a.1 a.2) Nk)
noncomputable def EAD {γ:Type} (F:Yw):Hd ctx γ:=hdl cv57.dec (fun a=>F a.1 a.2) cv2.enc
abbrev G6:=SBook→(List SRec)→Option Bool
noncomputable def Dx (z0:Jp) (z1:Vp) (z2:Dq) (z3:Hq) (z4:Qs) (z5:Qv) (z6:Zv) (z7:Ew) (z8:Nw) (z9:Rw) (z10:Yw) (aB_0:SBook) (aList_1:(List SRec)):Option Bool:=
 (z0 aB_0 1048576).bind fun r0=>
 bif (decide (r0<0)) then
 some true
 else
 (z1 aList_1 r0).bind fun r1=>
 bif (decide (r1<0)) then
  some true
 else
  (z2 aB_0).bind fun r2=>
  (z3 aList_1).bind fun r3=>
  (z4 r2 r3).bind fun r4=>
  (z2 aB_0).bind fun r5=>
  (z3 aList_1).bind fun r6=>
  (z5 r5 r6).bind fun r7=>
  (z6 r7.1 r4.1).bind fun r8=>
  bif (!r8) then
  some false
  else
  bif (!(r7.2 == r4.2)) then
   some false
  else
   (z2 aB_0).bind fun r9=>
   (z6 r5 r9).bind fun r10=>
   bif (!r10) then
   some false
   else
   (z3 aList_1).bind fun r11=>
   (z7 r6 r11).bind fun r12=>
   bif (!r12) then
    some false
   else
    (z8 r5 1).bind fun r13=>
    (z9 r6 r13.1).bind fun r14=>
    bif (decide (r14.1<0)) then
    some false
    else
    (z6 r7.1 r4.1).bind fun r15=>
    bif (!r15) then
     some false
    else
     bif (!(r7.2 == r4.2)) then
     some false
     else
     (z8 r7.1 1).bind fun r16=>
     (z10 ⟨r7.1.fWord,r7.1.fTries,r16.2,r7.1.fLast,r7.1.fChain,r7.1.fCount⟩ 1).bind fun r17=>
     bif (decide (r17<0)) then
      some false
     else
      bif (r17 != r16.1) then
      some false
      else
      (z2 aB_0).bind fun r18=>
      (z3 aList_1).bind fun r19=>
      (z5 r18 r19).bind fun r20=>
      (z6 r20.1 r4.1).bind fun r21=>
      bif (!r21) then
       some false
      else
       bif (!(r20.2 == r4.2)) then
       some false
       else
       (z10 ⟨r7.1.fWord,r7.1.fTries,r16.2,r7.1.fLast,r7.1.fChain,r7.1.fCount⟩ 1).bind fun r22=>
       bif (decide (r22<0)) then
        some false
       else
        bif (r22 != r16.1) then
        some false
        else
        some true
noncomputable def laws_FnExactEnterAll:G6:=Dx Tf Vf Ag Fg Wh Pj Tj Vj Ak Ik Qk
theorem ok_laws_FnExactEnterAll:Tells ctx PP 6 cv66 cv1 (fun a=>laws_FnExactEnterAll a.1 a.2):=fn_ok0 (hc I9 (hc N9 (hc S9 (hc W9 (hc ZAA (hc JAC (hc OAC (hc RAC (hc WAC (hc YAC (hc DAD hl_nil))))))))))) Tryd.func6 ((fun z0 z1 z2 z3 z4 z5 z6 z7 z8 z9 z10 a=>by kernel_rfl:∀ z0 z1 z2 z3 z4 z5 z6 z7 z8 z9 z10,EntryIs0 ctx PP 6 [] [(12,J9 z0),(13,O9 z1),(15,U9 z2),(16,X9 z3),(26,AAB z4),(27,KAC z5),(18,PAC z6),(9,SAC z7),(28,XAC z8),(10,ZAC z9),(29,EAD z10)] cv66 cv1 fun a=>Dx z0 z1 z2 z3 z4 z5 z6 z7 z8 z9 z10 a.1 a.2) Tf Vf Ag Fg Wh Pj Tj Vj Ak Ik Qk)
noncomputable def YAH {γ:Type} (F:G6):Hd ctx γ:=hdl cv66.dec (fun a=>F a.1 a.2) cv1.enc
end Go.Proofs.YthfpmhalgimbbaaDoor.G

/- Functions of the program, told by plain functions: part 1 of 1. -/
import Derived.Test.YthfpmhalgimbbaaDoorCtx
namespace Go.Proofs.YthfpmhalgimbbaaDoor.G
open Go Go.Ev
set_option linter.unusedVariables false
abbrev Ve:=SThing→Int→Option Int
noncomputable def Yw (a_0:SThing) (left_1:Int):Option Int:=
 bif (decide ((w64 (left_1 - (a_0.fValue.size:Int)))<0)) then
 some (-(1:Int))
 else
 some (w64 (left_1 - (a_0.fValue.size:Int)))
noncomputable def Fa:Ve:=Yw
theorem Zw:Tells ctx PP 94 cv44 cv2 (fun a=>Fa a.1 a.2):=fn_ok0 hl_nil Tryd.func94 (fun a=>by kernel_rfl:EntryIs0 ctx PP 94 [] [] cv44 cv2 fun a=>Yw a.1 a.2)
noncomputable def Jo {γ:Type} (F:Ve):Hd ctx γ:=hdl cv44.dec (fun a=>F a.1 a.2) cv2.enc
abbrev Ko:=(List SThing)→Int→Option Int
inductive Xe where
 | c0 (a_0:(List SThing)) (left_1:Int) (i_5:Int)
noncomputable def Dx:Xe→LI
 | .c0 a_0 left_1 i_5=>(tdo Tryd.f40 976,[(0,[.one (.rsl 81 a_0)]),(1,[.one (.int .i64 left_1)]),(5,[.one (.int .i64 i_5)])],[])
noncomputable def Oo (z0:Ve) (k:Xe→Option Int) (a_0:(List SThing)) (left_1:Int):Option Int:=
 bif (decide ((w64 (left_1 - (a_0.length:Int)))<0)) then
 some (-(1:Int))
 else
 k (.c0 a_0 (w64 (left_1 - (a_0.length:Int))) 0)
noncomputable def Po (z0:Ve) (k:Xe→Option Int):Xe→Option Int
 | .c0 a_0 left_1 i_5=>
 bif (decide (i_5<(a_0.length:Int))) then
  bif ((decide (0≤i_5)) && (decide (i_5<(a_0.length:Int)))) then
  (z0 (a_0.getD i_5.toNat (⟨0,0,false,false,false,false,⟨#[]⟩,0⟩:SThing)) left_1).bind fun r0=>
  bif (decide (r0<0)) then
  some (-(1:Int))
  else
  k (.c0 a_0 r0 (w64 (i_5+1)))
  else none
 else
  some left_1
noncomputable def Zj:Nat→Xe→Option Int
 | 0,_=>none
 | m+1,s=>Po Fa (Zj m) s
noncomputable def Ye:Ko:=Oo Fa (Zj gas)
theorem J8:Tells ctx PP 40 cv45 cv2 (fun a=>Ye a.1 a.2):=
 have b:∀ z0,CutIs ctx PP 40 Tryd.f40 [] [(94,Jo z0)] cv2 Dx (Po z0):=fun z0 _ s=>by cases s <;> kernel_rfl
 have e:∀ z0,EntryIs ctx PP 40 [] [(94,Jo z0)] cv45 cv2 Dx (fun k a=>Oo z0 k a.1 a.2):=fun z0 _ a=>by kernel_rfl
 fn_ok (hc Zw hl_nil) Tryd.func40 (fun s s' h=>by cases s;cases s';cases h;rfl) (fun _=>rfl) (fun _ _=>rfl) (b Fa) (e Fa) gas
noncomputable def L8 {γ:Type} (F:Ko):Hd ctx γ:=hdl cv45.dec (fun a=>F a.1 a.2) cv2.enc
abbrev Qo:=SBook→Int→Option Int
noncomputable def Ro (z0:Ko) (a_0:SBook) (left_1:Int):Option Int:=
 bif (decide ((w64 (left_1 - (a_0.fWord.size:Int)))<0)) then
 some (-(1:Int))
 else
 (z0 a_0.fThings (w64 (left_1 - (a_0.fWord.size:Int)))).bind fun r0=>
 bif (decide (r0<0)) then
  some (-(1:Int))
 else
  bif (decide ((w64 (r0 - (a_0.fChain.size:Int)))<0)) then
  some (-(1:Int))
  else
  some (w64 (r0 - (a_0.fChain.size:Int)))
noncomputable def Ze:Qo:=Ro Ye
theorem N8:Tells ctx PP 12 cv46 cv2 (fun a=>Ze a.1 a.2):=fn_ok0 (hc J8 hl_nil) Tryd.func12 ((fun z0 a=>by kernel_rfl:∀ z0,EntryIs0 ctx PP 12 [] [(40,L8 z0)] cv46 cv2 fun a=>Ro z0 a.1 a.2) Ye)
noncomputable def O8 {γ:Type} (F:Qo):Hd ctx γ:=hdl cv46.dec (fun a=>F a.1 a.2) cv2.enc
abbrev Ak:=SRec→Int→Option Int
noncomputable def Uo (z0:Ve) (a_0:SRec) (left_1:Int):Option Int:=
 bif (decide ((w64 (left_1 - (a_0.fText.size:Int)))<0)) then
 some (-(1:Int))
 else
 (z0 a_0.fThing (w64 (left_1 - (a_0.fText.size:Int)))).bind fun r0=>
 bif (decide (r0<0)) then
  some (-(1:Int))
 else
  some r0
noncomputable def Qa:Ak:=Uo Fa
theorem P8:Tells ctx PP 41 cv47 cv2 (fun a=>Qa a.1 a.2):=fn_ok0 (hc Zw hl_nil) Tryd.func41 ((fun z0 a=>by kernel_rfl:∀ z0,EntryIs0 ctx PP 41 [] [(94,Jo z0)] cv47 cv2 fun a=>Uo z0 a.1 a.2) Fa)
noncomputable def Gx {γ:Type} (F:Ak):Hd ctx γ:=hdl cv47.dec (fun a=>F a.1 a.2) cv2.enc
abbrev Vo:=(List SRec)→Int→Option Int
inductive Af where
 | c0 (a_0:(List SRec)) (left_1:Int) (i_5:Int)
noncomputable def Ox:Af→LI
 | .c0 a_0 left_1 i_5=>(tdo Tryd.f13 976,[(0,[.one (.rsl 83 a_0)]),(1,[.one (.int .i64 left_1)]),(5,[.one (.int .i64 i_5)])],[])
noncomputable def Xo (z0:Ak) (k:Af→Option Int) (a_0:(List SRec)) (left_1:Int):Option Int:=
 bif (decide ((w64 (left_1 - (a_0.length:Int)))<0)) then
 some (-(1:Int))
 else
 k (.c0 a_0 (w64 (left_1 - (a_0.length:Int))) 0)
noncomputable def Yo (z0:Ak) (k:Af→Option Int):Af→Option Int
 | .c0 a_0 left_1 i_5=>
 bif (decide (i_5<(a_0.length:Int))) then
  bif ((decide (0≤i_5)) && (decide (i_5<(a_0.length:Int)))) then
  (z0 (a_0.getD i_5.toNat (⟨0,⟨#[]⟩,0,⟨0,0,false,false,false,false,⟨#[]⟩,0⟩⟩:SRec)) left_1).bind fun r0=>
  bif (decide (r0<0)) then
  some (-(1:Int))
  else
  k (.c0 a_0 r0 (w64 (i_5+1)))
  else none
 else
  some left_1
noncomputable def Dk:Nat→Af→Option Int
 | 0,_=>none
 | m+1,s=>Yo Qa (Dk m) s
noncomputable def Bf:Vo:=Xo Qa (Dk gas)
theorem Q8:Tells ctx PP 13 cv48 cv2 (fun a=>Bf a.1 a.2):=
 have b:∀ z0,CutIs ctx PP 13 Tryd.f13 [] [(41,Gx z0)] cv2 Ox (Yo z0):=fun z0 _ s=>by cases s <;> kernel_rfl
 have e:∀ z0,EntryIs ctx PP 13 [] [(41,Gx z0)] cv48 cv2 Ox (fun k a=>Xo z0 k a.1 a.2):=fun z0 _ a=>by kernel_rfl
 fn_ok (hc P8 hl_nil) Tryd.func13 (fun s s' h=>by cases s;cases s';cases h;rfl) (fun _=>rfl) (fun _ _=>rfl) (b Qa) (e Qa) gas
noncomputable def U8 {γ:Type} (F:Vo):Hd ctx γ:=hdl cv48.dec (fun a=>F a.1 a.2) cv2.enc
abbrev Df:=SThing→Option SThing
noncomputable def Zo (a_0:SThing):Option SThing:=
 some a_0
noncomputable def QZ:Df:=Zo
theorem Px:Tells ctx PP 97 cv26 cv26 (fun a=>QZ a):=fn_ok0 hl_nil Tryd.func97 (fun a=>by kernel_rfl:EntryIs0 ctx PP 97 [] [] cv26 cv26 fun a=>Zo a)
noncomputable def Ap {γ:Type} (F:Df):Hd ctx γ:=hdl cv26.dec (fun a=>F a) cv26.enc
abbrev Dp:=(List SThing)→Option (List SThing)
inductive Ef where
 | c0 (a_0:(List SThing)) (i_4:Int) (out_3:(List SThing))
noncomputable def Qx:Ef→LI
 | .c0 a_0 i_4 out_3=>(tdo Tryd.f43 464,[(0,[.one (.rsl 81 a_0)]),(3,[.one (.own 240)]),(4,[.one (.int .i64 i_4)])],[(240,.sl 71 out_3)])
noncomputable def Ep (z0:Df) (k:Ef→Option (List SThing)) (a_0:(List SThing)):Option (List SThing):=
 bif ((((decide (0≤(a_0.length:Int))) && (decide ((a_0.length:Int)≤(a_0.length:Int)))) && (decide ((a_0.length:Int)≤9223372036854775807))) && (decide (((a_0.length:Int).toNat*48)≤140737488355328))) then
 k (.c0 a_0 0 (List.replicate (a_0.length:Int).toNat (⟨0,0,false,false,false,false,⟨#[]⟩,0⟩:SThing)))
 else none
noncomputable def Ik (z0:Df) (k:Ef→Option (List SThing)):Ef→Option (List SThing)
 | .c0 a_0 i_4 out_3=>
 bif (decide (i_4<(a_0.length:Int))) then
  bif ((decide (0≤i_4)) && (decide (i_4<(a_0.length:Int)))) then
  (z0 (a_0.getD i_4.toNat (⟨0,0,false,false,false,false,⟨#[]⟩,0⟩:SThing))).bind fun r0=>
  bif ((decide (0≤i_4)) && (decide (i_4<(out_3.length:Int)))) then
  k (.c0 a_0 (w64 (i_4+1)) (out_3.set i_4.toNat r0))
  else none
  else none
 else
  some out_3
noncomputable def Ua:Nat→Ef→Option (List SThing)
 | 0,_=>none
 | m+1,s=>Ik QZ (Ua m) s
noncomputable def Gf:Dp:=Ep QZ (Ua gas)
theorem V8:Tells ctx PP 43 cv49 cv50 (fun a=>Gf a):=
 have b:∀ z0,CutIs ctx PP 43 Tryd.f43 [] [(97,Ap z0)] cv50 Qx (Ik z0):=fun z0 _ s=>by cases s <;> kernel_rfl
 have e:∀ z0,EntryIs ctx PP 43 [] [(97,Ap z0)] cv49 cv50 Qx (fun k a=>Ep z0 k a):=fun z0 _ a=>by kernel_rfl
 fn_ok (hc Px hl_nil) Tryd.func43 (fun s s' h=>by cases s;cases s';cases h;rfl) (fun _=>rfl) (fun _ _=>rfl) (b QZ) (e QZ) gas
noncomputable def X8 {γ:Type} (F:Dp):Hd ctx γ:=hdl cv49.dec (fun a=>F a) cv50.enc
abbrev Fp:=SBook→Option SBook
noncomputable def Gp (z0:Dp) (a_0:SBook):Option SBook:=
 (z0 a_0.fThings).bind fun r0=>
 some ⟨a_0.fWord,a_0.fTries,r0,a_0.fLast,a_0.fChain,a_0.fCount⟩
noncomputable def Hf:Fp:=Gp Gf
theorem Y8:Tells ctx PP 15 cv51 cv52 (fun a=>Hf a):=fn_ok0 (hc V8 hl_nil) Tryd.func15 ((fun z0 a=>by kernel_rfl:∀ z0,EntryIs0 ctx PP 15 [] [(43,X8 z0)] cv51 cv52 fun a=>Gp z0 a) Gf)
noncomputable def Z8 {γ:Type} (F:Fp):Hd ctx γ:=hdl cv51.dec (fun a=>F a) cv52.enc
abbrev Jk:=SRec→Option SRec
noncomputable def Ip (z0:Df) (a_0:SRec):Option SRec:=
 (z0 a_0.fThing).bind fun r0=>
 some ⟨a_0.fKind,a_0.fText,a_0.fNum,r0⟩
noncomputable def Va:Jk:=Ip QZ
theorem C9:Tells ctx PP 44 cv29 cv29 (fun a=>Va a):=fn_ok0 (hc Px hl_nil) Tryd.func44 ((fun z0 a=>by kernel_rfl:∀ z0,EntryIs0 ctx PP 44 [] [(97,Ap z0)] cv29 cv29 fun a=>Ip z0 a) QZ)
noncomputable def Rx {γ:Type} (F:Jk):Hd ctx γ:=hdl cv29.dec (fun a=>F a) cv29.enc
abbrev Jp:=(List SRec)→Option (List SRec)
inductive Jf where
 | c0 (a_0:(List SRec)) (i_4:Int) (out_3:(List SRec))
noncomputable def Ux:Jf→LI
 | .c0 a_0 i_4 out_3=>(tdo Tryd.f16 464,[(0,[.one (.rsl 83 a_0)]),(3,[.one (.own 240)]),(4,[.one (.int .i64 i_4)])],[(240,.sl 73 out_3)])
noncomputable def Np (z0:Jk) (k:Jf→Option (List SRec)) (a_0:(List SRec)):Option (List SRec):=
 bif ((((decide (0≤(a_0.length:Int))) && (decide ((a_0.length:Int)≤(a_0.length:Int)))) && (decide ((a_0.length:Int)≤9223372036854775807))) && (decide (((a_0.length:Int).toNat*80)≤140737488355328))) then
 k (.c0 a_0 0 (List.replicate (a_0.length:Int).toNat (⟨0,⟨#[]⟩,0,⟨0,0,false,false,false,false,⟨#[]⟩,0⟩⟩:SRec)))
 else none
noncomputable def Nk (z0:Jk) (k:Jf→Option (List SRec)):Jf→Option (List SRec)
 | .c0 a_0 i_4 out_3=>
 bif (decide (i_4<(a_0.length:Int))) then
  bif ((decide (0≤i_4)) && (decide (i_4<(a_0.length:Int)))) then
  (z0 (a_0.getD i_4.toNat (⟨0,⟨#[]⟩,0,⟨0,0,false,false,false,false,⟨#[]⟩,0⟩⟩:SRec))).bind fun r0=>
  bif ((decide (0≤i_4)) && (decide (i_4<(out_3.length:Int)))) then
  k (.c0 a_0 (w64 (i_4+1)) (out_3.set i_4.toNat r0))
  else none
  else none
 else
  some out_3
noncomputable def Xa:Nat→Jf→Option (List SRec)
 | 0,_=>none
 | m+1,s=>Nk Va (Xa m) s
noncomputable def Rf:Jp:=Np Va (Xa gas)
theorem D9:Tells ctx PP 16 cv53 cv54 (fun a=>Rf a):=
 have b:∀ z0,CutIs ctx PP 16 Tryd.f16 [] [(44,Rx z0)] cv54 Ux (Nk z0):=fun z0 _ s=>by cases s <;> kernel_rfl
 have e:∀ z0,EntryIs ctx PP 16 [] [(44,Rx z0)] cv53 cv54 Ux (fun k a=>Np z0 k a):=fun z0 _ a=>by kernel_rfl
 fn_ok (hc C9 hl_nil) Tryd.func16 (fun s s' h=>by cases s;cases s';cases h;rfl) (fun _=>rfl) (fun _ _=>rfl) (b Va) (e Va) gas
noncomputable def F9 {γ:Type} (F:Jp):Hd ctx γ:=hdl cv53.dec (fun a=>F a) cv54.enc
abbrev Qp:=Option (List Int)
noncomputable def Vx  : Option (List Int):=
 some [1779033703,3144134277,1013904242,2773480762,1359893119,2600822924,528734635,1541459225]
noncomputable def Qk:Qp:=Vx
theorem G9:Tells ctx PP 153 cv10 cv11 (fun _=>Qk):=fn_ok0 hl_nil Tryd.func153 (fun _=>by kernel_rfl:EntryIs0 ctx PP 153 [] [] cv10 cv11 fun _=>Vx)
noncomputable def H9 {γ:Type} (F:Qp):Hd ctx γ:=hdl cv10.dec (fun _=>F) cv11.enc
abbrev Ya:=(List Int)→Option ByteArray
inductive Tf where
 | c0 (words_0:(List Int)) (i_4:Int) (out_3:(List Int))
noncomputable def Wx:Tf→LI
 | .c0 words_0 i_4 out_3=>(tdo Tryd.f152 464,[(0,[.one (.rsl 119 words_0)]),(3,[.one (.own 240)]),(4,[.one (.int .i64 i_4)])],[(240,.sl 5 out_3)])
noncomputable def Xx (k:Tf→Option ByteArray) (words_0:(List Int)):Option ByteArray:=
 k (.c0 words_0 0 [])
noncomputable def Rk (k:Tf→Option ByteArray):Tf→Option ByteArray
 | .c0 words_0 i_4 out_3=>
 bif (decide (i_4<(words_0.length:Int))) then
  bif ((decide (0≤i_4)) && (decide (i_4<(words_0.length:Int)))) then
  bif (decide (((out_3.length+4)*1)≤140737488355328)) then
  k (.c0 words_0 (w64 (i_4+1)) (out_3++[(w8 (w32 ((words_0.getD i_4.toNat 0).tdiv 16777216))),(w8 ((w32 ((words_0.getD i_4.toNat 0).tdiv 65536)).tmod 256)),(w8 ((w32 ((words_0.getD i_4.toNat 0).tdiv 256)).tmod 256)),(w8 ((words_0.getD i_4.toNat 0).tmod 256))]))
  else none
  else none
 else
  some (ofBytes out_3)
noncomputable def Uf:Nat→Tf→Option ByteArray
 | 0,_=>none
 | m+1,s=>Rk (Uf m) s
noncomputable def TY:Ya:=Xx (Uf gas)
theorem Vp:Tells ctx PP 152 cv12 cv3 (fun a=>TY a):=
 have b:CutIs ctx PP 152 Tryd.f152 [] [] cv3 Wx (Rk):=fun _ s=>by cases s <;> kernel_rfl
 have e:EntryIs ctx PP 152 [] [] cv12 cv3 Wx (fun k a=>Xx k a):=fun _ a=>by kernel_rfl
 fn_ok hl_nil Tryd.func152 (fun s s' h=>by cases s;cases s';cases h;rfl) (fun _=>rfl) (fun _ _=>rfl) b e gas
noncomputable def Vf {γ:Type} (F:Ya):Hd ctx γ:=hdl cv12.dec (fun a=>F a) cv3.enc
abbrev Wp:=Option SHasher
noncomputable def Xp (z0:Qp) (z1:Ya)  : Option SHasher:=
 z0.bind fun r0=>
 (z1 r0).bind fun r1=>
 some ⟨r1,⟨#[]⟩,0⟩
noncomputable def Xf:Wp:=Xp Qk TY
theorem I9:Tells ctx PP 130 cv10 cv13 (fun _=>Xf):=fn_ok0 (hc G9 (hc Vp hl_nil)) Tryd.func130 ((fun z0 z1 _=>by kernel_rfl:∀ z0 z1,EntryIs0 ctx PP 130 [] [(153,H9 z0),(152,Vf z1)] cv10 cv13 fun _=>Xp z0 z1) Qk TY)
noncomputable def J9 {γ:Type} (F:Wp):Hd ctx γ:=hdl cv10.dec (fun _=>F) cv13.enc
abbrev Za:=Int→Int→Int→Option Bool
noncomputable def Yx (x_0:Int) (least_1:Int) (most_2:Int):Option Bool:=
 bif (decide (x_0≥least_1)) then
 some (decide (x_0≤most_2))
 else
 some false
noncomputable def UY:Za:=Yx
theorem Uk:Tells ctx PP 79 cv0 cv1 (fun a=>UY a.1 a.2.1 a.2.2):=fn_ok0 hl_nil Tryd.func79 (fun a=>by kernel_rfl:EntryIs0 ctx PP 79 [] [] cv0 cv1 fun a=>Yx a.1 a.2.1 a.2.2)
noncomputable def Yf {γ:Type} (F:Za):Hd ctx γ:=hdl cv0.dec (fun a=>F a.1 a.2.1 a.2.2) cv1.enc
abbrev Ad:=SHasher→Option Bool
noncomputable def Yp (z0:Za) (h_0:SHasher):Option Bool:=
 bif ((h_0.fState.size:Int) == 32) then
 bif (decide ((h_0.fRest.size:Int)<64)) then
  (z0 h_0.fCount 0 1000000000).bind fun r0=>
  bif r0 then
  some ((h_0.fCount.tmod 64) == (h_0.fRest.size:Int))
  else
  some false
 else
  some false
 else
 some false
noncomputable def NY:Ad:=Yp UY
theorem Zx:Tells ctx PP 148 cv13 cv1 (fun a=>NY a):=fn_ok0 (hc Uk hl_nil) Tryd.func148 ((fun z0 a=>by kernel_rfl:∀ z0,EntryIs0 ctx PP 148 [] [(79,Yf z0)] cv13 cv1 fun a=>Yp z0 a) UY)
noncomputable def Vk {γ:Type} (F:Ad):Hd ctx γ:=hdl cv13.dec (fun a=>F a) cv1.enc
abbrev Xk:=ByteArray→Int→Option Int
noncomputable def Zp (s_0:ByteArray) (at_1:Int):Option Int:=
 bif ((decide (0≤at_1)) && (decide (at_1<(s_0.size:Int)))) then
 bif ((decide (0≤(w64 (at_1+1)))) && (decide ((w64 (at_1+1))<(s_0.size:Int)))) then
 bif ((decide (0≤(w64 (at_1+2)))) && (decide ((w64 (at_1+2))<(s_0.size:Int)))) then
 bif ((decide (0≤(w64 (at_1+3)))) && (decide ((w64 (at_1+3))<(s_0.size:Int)))) then
 some (w32 ((w32 ((w32 ((w32 ((w32 (bt s_0 at_1))*16777216))+(w32 ((w32 (bt s_0 (w64 (at_1+1))))*65536))))+(w32 ((w32 (bt s_0 (w64 (at_1+2))))*256))))+(w32 (bt s_0 (w64 (at_1+3))))))
 else none
 else none
 else none
 else none
noncomputable def Cb:Xk:=Zp
theorem L9:Tells ctx PP 156 cv4 cv7 (fun a=>Cb a.1 a.2):=fn_ok0 hl_nil Tryd.func156 (fun a=>by kernel_rfl:EntryIs0 ctx PP 156 [] [] cv4 cv7 fun a=>Zp a.1 a.2)
noncomputable def Dy {γ:Type} (F:Xk):Hd ctx γ:=hdl cv4.dec (fun a=>F a.1 a.2) cv7.enc
abbrev Ia:=ByteArray→Option (List Int)
inductive Zf where
 | c0 (s_0:ByteArray) (i_4:Int) (out_3:(List Int))
noncomputable def Ey:Zf→LI
 | .c0 s_0 i_4 out_3=>(tdo Tryd.f149 464,[(0,[.one (.str s_0)]),(3,[.one (.own 240)]),(4,[.one (.int .i64 i_4)])],[(240,.sl 119 out_3)])
noncomputable def Gy (z0:Xk) (k:Zf→Option (List Int)) (s_0:ByteArray):Option (List Int):=
 k (.c0 s_0 0 [])
noncomputable def Yk (z0:Xk) (k:Zf→Option (List Int)):Zf→Option (List Int)
 | .c0 s_0 i_4 out_3=>
 bif (decide ((w64 (i_4+4))≤(s_0.size:Int))) then
  (z0 s_0 i_4).bind fun r0=>
  bif (decide (((out_3.length+1)*4)≤140737488355328)) then
  k (.c0 s_0 (w64 (i_4+4)) (out_3++[r0]))
  else none
 else
  some out_3
noncomputable def Ag:Nat→Zf→Option (List Int)
 | 0,_=>none
 | m+1,s=>Yk Cb (Ag m) s
noncomputable def FY:Ia:=Gy Cb (Ag gas)
theorem Aq:Tells ctx PP 149 cv3 cv11 (fun a=>FY a):=
 have b:∀ z0,CutIs ctx PP 149 Tryd.f149 [] [(156,Dy z0)] cv11 Ey (Yk z0):=fun z0 _ s=>by cases s <;> kernel_rfl
 have e:∀ z0,EntryIs ctx PP 149 [] [(156,Dy z0)] cv3 cv11 Ey (fun k a=>Gy z0 k a):=fun z0 _ a=>by kernel_rfl
 fn_ok (hc L9 hl_nil) Tryd.func149 (fun s s' h=>by cases s;cases s';cases h;rfl) (fun _=>rfl) (fun _ _=>rfl) (b Cb) (e Cb) gas
noncomputable def Bd {γ:Type} (F:Ia):Hd ctx γ:=hdl cv3.dec (fun a=>F a) cv11.enc
abbrev Ed:=Option (List Int)
noncomputable def Hy  : Option (List Int):=
 some [1116352408,1899447441,3049323471,3921009573,961987163,1508970993,2453635748,2870763221,3624381080,310598401,607225278,1426881987,1925078388,2162078206,2614888103,3248222580,3835390401,4022224774,264347078,604807628,770255983,1249150122,1555081692,1996064986,2554220882,2821834349,2952996808,3210313671,3336571891,3584528711,113926993,338241895,666307205,773529912,1294757372,1396182291,1695183700,1986661051,2177026350,2456956037,2730485921,2820302411,3259730800,3345764771,3516065817,3600352804,4094571909,275423344,430227734,506948616,659060556,883997877,958139571,1322822218,1537002063,1747873779,1955562222,2024104815,2227730452,2361852424,2428436474,2756734187,3204031479,3329325298]
noncomputable def FZ:Ed:=Hy
theorem Iy:Tells ctx PP 150 cv10 cv11 (fun _=>FZ):=fn_ok0 hl_nil Tryd.func150 (fun _=>by kernel_rfl:EntryIs0 ctx PP 150 [] [] cv10 cv11 fun _=>Hy)
noncomputable def Zk {γ:Type} (F:Ed):Hd ctx γ:=hdl cv10.dec (fun _=>F) cv11.enc
abbrev Bq:=Int→Int→Int→Option Int
noncomputable def Dq (x_0:Int) (low_1:Int) (high_2:Int):Option Int:=
 bif (!(low_1 == 0)) then
 bif (!(low_1 == 0)) then
 some (w32 ((w32 (x_0.tdiv low_1))+(w32 ((x_0.tmod low_1)*high_2))))
 else none
 else none
noncomputable def Bg:Bq:=Dq
theorem N9:Tells ctx PP 160 cv14 cv7 (fun a=>Bg a.1 a.2.1 a.2.2):=fn_ok0 hl_nil Tryd.func160 (fun a=>by kernel_rfl:EntryIs0 ctx PP 160 [] [] cv14 cv7 fun a=>Dq a.1 a.2.1 a.2.2)
noncomputable def O9 {γ:Type} (F:Bq):Hd ctx γ:=hdl cv14.dec (fun a=>F a.1 a.2.1 a.2.2) cv7.enc
abbrev Bl:=Int→Int→Int→Int→Bool→Option Int
noncomputable def Jd (z0:Bq) (x_0:Int) (a_1:Int) (b_2:Int) (c_3:Int) (last_4:Bool):Option Int:=
 bif (!(a_1 == 0)) then
 (z0 x_0 a_1 (w32 ((w32 ((2147483648:Int).tdiv a_1))*2))).bind fun r0=>
 bif (!(b_2 == 0)) then
 (z0 x_0 b_2 (w32 ((w32 ((2147483648:Int).tdiv b_2))*2))).bind fun r1=>
 bif (!(c_3 == 0)) then
 bif (!last_4) then
 bif (!(c_3 == 0)) then
 (z0 x_0 c_3 (w32 ((w32 ((2147483648:Int).tdiv c_3))*2))).bind fun r2=>
 some (w32 (((BitVec.toNat ((BitVec.ofInt (IntKind.bits IntKind.u32) (w32 (((BitVec.toNat ((BitVec.ofInt (IntKind.bits IntKind.u32) r0) ^^^ (BitVec.ofInt (IntKind.bits IntKind.u32) r1))):Nat):Int))) ^^^ (BitVec.ofInt (IntKind.bits IntKind.u32) r2))):Nat):Int))
 else none
 else
 some (w32 (((BitVec.toNat ((BitVec.ofInt (IntKind.bits IntKind.u32) (w32 (((BitVec.toNat ((BitVec.ofInt (IntKind.bits IntKind.u32) r0) ^^^ (BitVec.ofInt (IntKind.bits IntKind.u32) r1))):Nat):Int))) ^^^ (BitVec.ofInt (IntKind.bits IntKind.u32) (w32 (x_0.tdiv c_3))))):Nat):Int))
 else none
 else none
 else none
noncomputable def OY:Bl:=Jd Bg
theorem P9:Tells ctx PP 157 cv15 cv7 (fun a=>OY a.1 a.2.1 a.2.2.1 a.2.2.2.1 a.2.2.2.2):=fn_ok0 (hc N9 hl_nil) Tryd.func157 ((fun z0 a=>by kernel_rfl:∀ z0,EntryIs0 ctx PP 157 [] [(160,O9 z0)] cv15 cv7 fun a=>Jd z0 a.1 a.2.1 a.2.2.1 a.2.2.2.1 a.2.2.2.2) Bg)
noncomputable def Jy {γ:Type} (F:Bl):Hd ctx γ:=hdl cv15.dec (fun a=>F a.1 a.2.1 a.2.2.1 a.2.2.2.1 a.2.2.2.2) cv7.enc
abbrev Ld:=(List Int)→(List Int)→ByteArray→Option (List Int)
inductive Fg where
 | c0 (t_0:(List Int)) (o_1:(List Int)) (v_8:Int) (v_7:(List Int))
 | c1 (t_0:(List Int)) (o_1:(List Int)) (v_10:Int) (v_7:(List Int)) (v_9:(List Int))
 | c2 (t_0:(List Int)) (o_1:(List Int)) (v_10:Int) (v_13:Int) (v_15:Int) (v_16:Int) (v_7:(List Int)) (v_9:(List Int))
 | c3 (t_0:(List Int)) (v_18:Int) (v_9:(List Int)) (v_17:(List Int))
noncomputable def Ky:Fg→LI
 | .c0 t_0 o_1 v_8 v_7=>(tdo Tryd.f151 464,[(0,[.one (.rsl 119 t_0)]),(1,[.one (.rsl 119 o_1)]),(7,[.one (.own 496)]),(8,[.one (.int .i64 v_8)])],[(496,.sl 119 v_7)])
 | .c1 t_0 o_1 v_10 v_7 v_9=>(tdo Tryd.f151 2000,[(0,[.one (.rsl 119 t_0)]),(1,[.one (.rsl 119 o_1)]),(7,[.one (.own 496)]),(9,[.one (.own 624)]),(10,[.one (.int .i64 v_10)])],[(496,.sl 119 v_7),(624,.sl 119 v_9)])
 | .c2 t_0 o_1 v_10 v_13 v_15 v_16 v_7 v_9=>(tdo Tryd.f151 8202192,[(0,[.one (.rsl 119 t_0)]),(1,[.one (.rsl 119 o_1)]),(7,[.one (.own 496)]),(9,[.one (.own 624)]),(10,[.one (.int .i64 v_10)]),(13,[.one (.int .u32 v_13)]),(15,[.one (.int .u32 v_15)]),(16,[.one (.int .i64 v_16)])],[(496,.sl 119 v_7),(624,.sl 119 v_9)])
 | .c3 t_0 v_18 v_9 v_17=>(tdo Tryd.f151 8144,[(0,[.one (.rsl 119 t_0)]),(9,[.one (.own 624)]),(17,[.one (.own 1136)]),(18,[.one (.int .i64 v_18)])],[(624,.sl 119 v_9),(1136,.sl 119 v_17)])
noncomputable def Fq (z0:Ia) (z1:Bl) (k:Fg→Option (List Int)) (t_0:(List Int)) (o_1:(List Int)) (A_2:ByteArray):Option (List Int):=
 (z0 A_2).bind fun r0=>
 k (.c0 t_0 o_1 16 r0)
noncomputable def GZ (z0:Ia) (z1:Bl) (k:Fg→Option (List Int)):Fg→Option (List Int)
 | .c0 t_0 o_1 v_8 v_7=>
 bif (decide (v_8<64)) then
  bif ((decide (0≤(w64 (v_8 - 2)))) && (decide ((w64 (v_8 - 2))<(v_7.length:Int)))) then
  (z1 (v_7.getD (w64 (v_8 - 2)).toNat 0) 131072 524288 1024 true).bind fun r0=>
  bif ((decide (0≤(w64 (v_8 - 7)))) && (decide ((w64 (v_8 - 7))<(v_7.length:Int)))) then
  bif ((decide (0≤(w64 (v_8 - 15)))) && (decide ((w64 (v_8 - 15))<(v_7.length:Int)))) then
  (z1 (v_7.getD (w64 (v_8 - 15)).toNat 0) 128 262144 8 true).bind fun r1=>
  bif ((decide (0≤(w64 (v_8 - 16)))) && (decide ((w64 (v_8 - 16))<(v_7.length:Int)))) then
  bif (decide (((v_7.length+1)*4)≤140737488355328)) then
  k (.c0 t_0 o_1 (w64 (v_8+1)) (v_7++[(w32 ((w32 ((w32 (r0+(v_7.getD (w64 (v_8 - 7)).toNat 0)))+r1))+(v_7.getD (w64 (v_8 - 16)).toNat 0)))]))
  else none
  else none
  else none
  else none
  else none
 else
  bif (decide (((0+t_0.length)*4)≤140737488355328)) then
  k (.c1 t_0 o_1 0 v_7 ([]++t_0))
  else none
 | .c1 t_0 o_1 v_10 v_7 v_9=>
 bif (decide (v_10<64)) then
  bif ((decide ((0:Int)≤(4:Int))) && (decide (4<(v_9.length:Int)))) then
  bif ((decide ((0:Int)≤(5:Int))) && (decide (5<(v_9.length:Int)))) then
  bif ((decide ((0:Int)≤(6:Int))) && (decide (6<(v_9.length:Int)))) then
  bif ((decide ((0:Int)≤(7:Int))) && (decide (7<(v_9.length:Int)))) then
  (z1 (v_9.getD (4:Int).toNat 0) 64 2048 33554432 false).bind fun r0=>
  bif ((decide (0≤v_10)) && (decide (v_10<(o_1.length:Int)))) then
  bif ((decide (0≤v_10)) && (decide (v_10<(v_7.length:Int)))) then
  bif ((decide ((0:Int)≤(0:Int))) && (decide (0<(v_9.length:Int)))) then
  bif ((decide ((0:Int)≤(1:Int))) && (decide (1<(v_9.length:Int)))) then
  bif ((decide ((0:Int)≤(0:Int))) && (decide (0<(v_9.length:Int)))) then
  bif ((decide ((0:Int)≤(2:Int))) && (decide (2<(v_9.length:Int)))) then
  bif ((decide ((0:Int)≤(1:Int))) && (decide (1<(v_9.length:Int)))) then
  bif ((decide ((0:Int)≤(2:Int))) && (decide (2<(v_9.length:Int)))) then
  bif ((decide ((0:Int)≤(0:Int))) && (decide (0<(v_9.length:Int)))) then
  (z1 (v_9.getD (0:Int).toNat 0) 4 8192 4194304 false).bind fun r1=>
  k (.c2 t_0 o_1 v_10 (w32 ((w32 ((w32 ((w32 ((v_9.getD (7:Int).toNat 0)+r0))+(w32 (((BitVec.toNat ((BitVec.ofInt (IntKind.bits IntKind.u32) (w32 (((BitVec.toNat ((BitVec.ofInt (IntKind.bits IntKind.u32) (v_9.getD (4:Int).toNat 0)) &&& (BitVec.ofInt (IntKind.bits IntKind.u32) (v_9.getD (5:Int).toNat 0)))):Nat):Int))) ^^^ (BitVec.ofInt (IntKind.bits IntKind.u32) (w32 (((BitVec.toNat ((BitVec.ofInt (IntKind.bits IntKind.u32) (w32 (4294967295 - (v_9.getD (4:Int).toNat 0)))) &&& (BitVec.ofInt (IntKind.bits IntKind.u32) (v_9.getD (6:Int).toNat 0)))):Nat):Int))))):Nat):Int))))+(o_1.getD v_10.toNat 0)))+(v_7.getD v_10.toNat 0))) (w32 (r1+(w32 (((BitVec.toNat ((BitVec.ofInt (IntKind.bits IntKind.u32) (w32 (((BitVec.toNat ((BitVec.ofInt (IntKind.bits IntKind.u32) (w32 (((BitVec.toNat ((BitVec.ofInt (IntKind.bits IntKind.u32) (v_9.getD (0:Int).toNat 0)) &&& (BitVec.ofInt (IntKind.bits IntKind.u32) (v_9.getD (1:Int).toNat 0)))):Nat):Int))) ^^^ (BitVec.ofInt (IntKind.bits IntKind.u32) (w32 (((BitVec.toNat ((BitVec.ofInt (IntKind.bits IntKind.u32) (v_9.getD (0:Int).toNat 0)) &&& (BitVec.ofInt (IntKind.bits IntKind.u32) (v_9.getD (2:Int).toNat 0)))):Nat):Int))))):Nat):Int))) ^^^ (BitVec.ofInt (IntKind.bits IntKind.u32) (w32 (((BitVec.toNat ((BitVec.ofInt (IntKind.bits IntKind.u32) (v_9.getD (1:Int).toNat 0)) &&& (BitVec.ofInt (IntKind.bits IntKind.u32) (v_9.getD (2:Int).toNat 0)))):Nat):Int))))):Nat):Int)))) 7 v_7 v_9)
  else none
  else none
  else none
  else none
  else none
  else none
  else none
  else none
  else none
  else none
  else none
  else none
  else none
 else
  k (.c3 t_0 0 v_9 [])
 | .c2 t_0 o_1 v_10 v_13 v_15 v_16 v_7 v_9=>
 bif (decide (v_16 > 0)) then
  bif ((decide (0≤(w64 (v_16 - 1)))) && (decide ((w64 (v_16 - 1))<(v_9.length:Int)))) then
  bif ((decide (0≤v_16)) && (decide (v_16<(v_9.length:Int)))) then
  k (.c2 t_0 o_1 v_10 v_13 v_15 (w64 (v_16 - 1)) v_7 (v_9.set v_16.toNat (v_9.getD (w64 (v_16 - 1)).toNat 0)))
  else none
  else none
 else
  bif ((decide ((0:Int)≤(4:Int))) && (decide (4<(v_9.length:Int)))) then
  bif ((decide ((0:Int)≤(4:Int))) && (decide (4<(v_9.length:Int)))) then
  bif ((decide ((0:Int)≤(0:Int))) && (decide (0<((v_9.set (4:Int).toNat (w32 ((v_9.getD (4:Int).toNat 0)+v_13))).length:Int)))) then
  k (.c1 t_0 o_1 (w64 (v_10+1)) v_7 ((v_9.set (4:Int).toNat (w32 ((v_9.getD (4:Int).toNat 0)+v_13))).set (0:Int).toNat (w32 (v_13+v_15))))
  else none
  else none
  else none
 | .c3 t_0 v_18 v_9 v_17=>
 bif (decide (v_18<8)) then
  bif ((decide (0≤v_18)) && (decide (v_18<(t_0.length:Int)))) then
  bif ((decide (0≤v_18)) && (decide (v_18<(v_9.length:Int)))) then
  bif (decide (((v_17.length+1)*4)≤140737488355328)) then
  k (.c3 t_0 (w64 (v_18+1)) v_9 (v_17++[(w32 ((t_0.getD v_18.toNat 0)+(v_9.getD v_18.toNat 0)))]))
  else none
  else none
  else none
 else
  some v_17
noncomputable def ZX:Nat→Fg→Option (List Int)
 | 0,_=>none
 | m+1,s=>GZ FY OY (ZX m) s
noncomputable def XY:Ld:=Fq FY OY (ZX gas)
theorem Ny:Tells ctx PP 151 cv16 cv11 (fun a=>XY a.1 a.2.1 a.2.2):=
 have b:∀ z0 z1,CutIs ctx PP 151 Tryd.f151 [] [(149,Bd z0),(157,Jy z1)] cv11 Ky (GZ z0 z1):=fun z0 z1 _ s=>by cases s <;> kernel_rfl
 have e:∀ z0 z1,EntryIs ctx PP 151 [] [(149,Bd z0),(157,Jy z1)] cv16 cv11 Ky (fun k a=>Fq z0 z1 k a.1 a.2.1 a.2.2):=fun z0 z1 _ a=>by kernel_rfl
 fn_ok (hc Aq (hc P9 hl_nil)) Tryd.func151 (fun s s' h=>by cases s <;> cases s' <;> first | (cases h;done) | (cases h;rfl) | exact (rg_ne h (by kernel_rfl)).elim) (fun _=>rfl) (fun _ _=>rfl) (b FY OY) (e FY OY) gas
noncomputable def Dl {γ:Type} (F:Ld):Hd ctx γ:=hdl cv16.dec (fun a=>F a.1 a.2.1 a.2.2) cv11.enc
abbrev Gq:=SHasher→ByteArray→Option SHasher
inductive Gg where
 | c0 (s_1:ByteArray) (buf_7:ByteArray) (at_8:Int) (h_2:SHasher) (v_4:SHasher) (state_5:(List Int)) (k_6:(List Int))
noncomputable def Oy:Gg→LI
 | .c0 s_1 buf_7 at_8 h_2 v_4 state_5 k_6=>(tdo Tryd.f129 4064,[(1,[.one (.str s_1)]),(2,[.one (.ptr 128 0)]),(4,[.one (.ptr 256 0)]),(5,[.one (.own 368)]),(6,[.one (.own 432)]),(7,[.one (.str buf_7)]),(8,[.one (.int .i64 at_8)])],[(128,.var [.str h_2.fState,.str h_2.fRest,.int .i64 h_2.fCount]),(256,.var [.str v_4.fState,.str v_4.fRest,.int .i64 v_4.fCount]),(368,.sl 119 state_5),(432,.sl 119 k_6)])
noncomputable def Hq (z0:Ad) (z1:Ia) (z2:Ed) (z3:Ld) (z4:Ya) (k:Gg→Option SHasher) (h_0:SHasher) (s_1:ByteArray):Option SHasher:=
 (z0 h_0).bind fun r0=>
 bif (!r0) then
 some h_0
 else
 bif (decide ((w64 (h_0.fCount+(s_1.size:Int))) > 1000000000)) then
  some h_0
 else
  (z1 h_0.fState).bind fun r1=>
  z2.bind fun r2=>
  bif (decide ((h_0.fRest.size+s_1.size)≤9223372036854775807)) then
  k (.c0 s_1 (h_0.fRest++s_1) 0 h_0 ⟨⟨#[]⟩,⟨#[]⟩,0⟩ r1 r2)
  else none
noncomputable def Gl (z0:Ad) (z1:Ia) (z2:Ed) (z3:Ld) (z4:Ya) (k:Gg→Option SHasher):Gg→Option SHasher
 | .c0 s_1 buf_7 at_8 h_2 v_4 state_5 k_6=>
 bif (decide ((w64 (at_8+64))≤(buf_7.size:Int))) then
  bif (((decide (0≤at_8)) && (decide (at_8≤(w64 (at_8+64))))) && (decide ((w64 (at_8+64))≤(buf_7.size:Int)))) then
  (z3 state_5 k_6 (buf_7.extract at_8.toNat (w64 (at_8+64)).toNat)).bind fun r0=>
  k (.c0 s_1 buf_7 (w64 (at_8+64)) h_2 v_4 r0 k_6)
  else none
 else
  (z4 state_5).bind fun r1=>
  bif ((decide (0≤at_8)) && (decide (at_8≤(buf_7.size:Int)))) then
  some ⟨r1,(buf_7.extract at_8.toNat buf_7.size),(w64 (h_2.fCount+(s_1.size:Int)))⟩
  else none
noncomputable def Hg:Nat→Gg→Option SHasher
 | 0,_=>none
 | m+1,s=>Gl NY FY FZ XY TY (Hg m) s
noncomputable def Ig:Gq:=Hq NY FY FZ XY TY (Hg gas)
theorem Q9:Tells ctx PP 129 cv17 cv13 (fun a=>Ig a.1 a.2):=
 have b:∀ z0 z1 z2 z3 z4,CutIs ctx PP 129 Tryd.f129 [] [(148,Vk z0),(149,Bd z1),(150,Zk z2),(151,Dl z3),(152,Vf z4)] cv13 Oy (Gl z0 z1 z2 z3 z4):=fun z0 z1 z2 z3 z4 _ s=>by cases s <;> kernel_rfl
 have e:∀ z0 z1 z2 z3 z4,EntryIs ctx PP 129 [] [(148,Vk z0),(149,Bd z1),(150,Zk z2),(151,Dl z3),(152,Vf z4)] cv17 cv13 Oy (fun k a=>Hq z0 z1 z2 z3 z4 k a.1 a.2):=fun z0 z1 z2 z3 z4 _ a=>by kernel_rfl
 fn_ok (hc Zx (hc Aq (hc Iy (hc Ny (hc Vp hl_nil))))) Tryd.func129 (fun s s' h=>by cases s;cases s';(repeat cases ‹SHasher›);cases h;rfl) (fun _=>rfl) (fun _ _=>rfl) (b NY FY FZ XY TY) (e NY FY FZ XY TY) gas
noncomputable def S9 {γ:Type} (F:Gq):Hd ctx γ:=hdl cv17.dec (fun a=>F a.1 a.2) cv13.enc
abbrev Iq:=SHasher→Option ByteArray
inductive Jg where
 | c0 (h_1:SHasher) (tail_3:(List Int))
 | c1 (bits_4:Int) (i_5:Int) (h_1:SHasher) (tail_3:(List Int))
 | c2 (bits_4:Int) (i_5:Int) (x_6:Int) (k_7:Int) (h_1:SHasher) (tail_3:(List Int))
 | c3 (at_10:Int) (tail_3:(List Int)) (state_8:(List Int)) (k_9:(List Int))
noncomputable def Py:Jg→LI
 | .c0 h_1 tail_3=>(tdo Tryd.f128 992,[(1,[.one (.ptr 64 0)]),(3,[.one (.own 240)])],[(64,.var [.str h_1.fState,.str h_1.fRest,.int .i64 h_1.fCount]),(240,.sl 5 tail_3)])
 | .c1 bits_4 i_5 h_1 tail_3=>(tdo Tryd.f128 8144,[(1,[.one (.ptr 64 0)]),(3,[.one (.own 240)]),(4,[.one (.int .i64 bits_4)]),(5,[.one (.int .i64 i_5)])],[(64,.var [.str h_1.fState,.str h_1.fRest,.int .i64 h_1.fCount]),(240,.sl 5 tail_3)])
 | .c2 bits_4 i_5 x_6 k_7 h_1 tail_3=>(tdo Tryd.f128 2085456,[(1,[.one (.ptr 64 0)]),(3,[.one (.own 240)]),(4,[.one (.int .i64 bits_4)]),(5,[.one (.int .i64 i_5)]),(6,[.one (.int .i64 x_6)]),(7,[.one (.int .i64 k_7)])],[(64,.var [.str h_1.fState,.str h_1.fRest,.int .i64 h_1.fCount]),(240,.sl 5 tail_3)])
 | .c3 at_10 tail_3 state_8 k_9=>(tdo Tryd.f128 65488,[(3,[.one (.own 240)]),(8,[.one (.own 560)]),(9,[.one (.own 624)]),(10,[.one (.int .i64 at_10)])],[(240,.sl 5 tail_3),(560,.sl 119 state_8),(624,.sl 119 k_9)])
noncomputable def Jq (z0:Ad) (z1:Ia) (z2:Ed) (z3:Ld) (z4:Ya) (k:Jg→Option ByteArray) (h_0:SHasher):Option ByteArray:=
 (z0 h_0).bind fun r0=>
 bif (!r0) then
 some ⟨#[]⟩
 else
 bif (decide (h_0.fRest.size≤9223372036854775807)) then
 bif (decide ((((bytesOf h_0.fRest).length+1)*1)≤140737488355328)) then
 k (.c0 h_0 ((bytesOf h_0.fRest)++[(128:Int)]))
 else none
 else none
noncomputable def IZ (z0:Ad) (z1:Ia) (z2:Ed) (z3:Ld) (z4:Ya) (k:Jg→Option ByteArray):Jg→Option ByteArray
 | .c0 h_1 tail_3=>
 bif (((tail_3.length:Int).tmod 64) != 56) then
  bif (decide (((tail_3.length+1)*1)≤140737488355328)) then
  k (.c0 h_1 (tail_3++[(0:Int)]))
  else none
 else
  k (.c1 (w64 (8*h_1.fCount)) 7 h_1 tail_3)
 | .c1 bits_4 i_5 h_1 tail_3=>
 bif (decide (i_5≥0)) then
  k (.c2 bits_4 i_5 bits_4 0 h_1 tail_3)
 else
  (z1 h_1.fState).bind fun r0=>
  z2.bind fun r1=>
  k (.c3 0 tail_3 r0 r1)
 | .c2 bits_4 i_5 x_6 k_7 h_1 tail_3=>
 bif (decide (k_7<i_5)) then
  k (.c2 bits_4 i_5 (w64 (x_6.tdiv 256)) (w64 (k_7+1)) h_1 tail_3)
 else
  bif (decide (((tail_3.length+1)*1)≤140737488355328)) then
  k (.c1 bits_4 (w64 (i_5 - 1)) h_1 (tail_3++[(w8 (x_6.tmod 256))]))
  else none
 | .c3 at_10 tail_3 state_8 k_9=>
 bif (decide (at_10<(tail_3.length:Int))) then
  bif (((decide (0≤at_10)) && (decide (at_10≤(w64 (at_10+64))))) && (decide ((w64 (at_10+64))≤(tail_3.length:Int)))) then
  (z3 state_8 k_9 (ofBytes ((tail_3.drop at_10.toNat).take ((w64 (at_10+64)).toNat - at_10.toNat)))).bind fun r0=>
  k (.c3 (w64 (at_10+64)) tail_3 r0 k_9)
  else none
 else
  (z4 state_8).bind fun r1=>
  some r1
noncomputable def AY:Nat→Jg→Option ByteArray
 | 0,_=>none
 | m+1,s=>IZ NY FY FZ XY TY (AY m) s
noncomputable def Og:Iq:=Jq NY FY FZ XY TY (AY gas)
theorem U9:Tells ctx PP 128 cv13 cv3 (fun a=>Og a):=
 have b:∀ z0 z1 z2 z3 z4,CutIs ctx PP 128 Tryd.f128 [] [(148,Vk z0),(149,Bd z1),(150,Zk z2),(151,Dl z3),(152,Vf z4)] cv3 Py (IZ z0 z1 z2 z3 z4):=fun z0 z1 z2 z3 z4 _ s=>by cases s <;> kernel_rfl
 have e:∀ z0 z1 z2 z3 z4,EntryIs ctx PP 128 [] [(148,Vk z0),(149,Bd z1),(150,Zk z2),(151,Dl z3),(152,Vf z4)] cv13 cv3 Py (fun k a=>Jq z0 z1 z2 z3 z4 k a):=fun z0 z1 z2 z3 z4 _ a=>by kernel_rfl
 fn_ok (hc Zx (hc Aq (hc Iy (hc Ny (hc Vp hl_nil))))) Tryd.func128 (fun s s' h=>by cases s <;> cases s' <;> first | ((repeat cases ‹SHasher›);cases h;done) | ((repeat cases ‹SHasher›);cases h;rfl) | exact (rg_ne h (by kernel_rfl)).elim) (fun _=>rfl) (fun _ _=>rfl) (b NY FY FZ XY TY) (e NY FY FZ XY TY) gas
noncomputable def V9 {γ:Type} (F:Iq):Hd ctx γ:=hdl cv13.dec (fun a=>F a) cv3.enc
abbrev Pg:=ByteArray→Option ByteArray
noncomputable def Kq (z0:Wp) (z1:Gq) (z2:Iq) (s_0:ByteArray):Option ByteArray:=
 z0.bind fun r0=>
 (z1 r0 s_0).bind fun r1=>
 (z2 r1).bind fun r2=>
 some r2
noncomputable def RZ:Pg:=Kq Xf Ig Og
theorem Qy:Tells ctx PP 95 cv3 cv3 (fun a=>RZ a):=fn_ok0 (hc I9 (hc Q9 (hc U9 hl_nil))) Tryd.func95 ((fun z0 z1 z2 a=>by kernel_rfl:∀ z0 z1 z2,EntryIs0 ctx PP 95 [] [(130,J9 z0),(129,S9 z1),(128,V9 z2)] cv3 cv3 fun a=>Kq z0 z1 z2 a) Xf Ig Og)
noncomputable def Nq {γ:Type} (F:Pg):Hd ctx γ:=hdl cv3.dec (fun a=>F a) cv3.enc
abbrev Oq:=Int→Int→Option ByteArray
inductive Qg where
 | c0 (n_0:Int) (x_1:Int) (i_6:Int) (out_5:(List Int))
noncomputable def Ry:Qg→LI
 | .c0 n_0 x_1 i_6 out_5=>(tdo Tryd.f96 464,[(0,[.one (.int .i64 n_0)]),(1,[.one (.int .u8 x_1)]),(5,[.one (.own 368)]),(6,[.one (.int .i64 i_6)])],[(368,.sl 5 out_5)])
noncomputable def Pq (k:Qg→Option ByteArray) (n_0:Int) (x_1:Int):Option ByteArray:=
 bif ((((decide (0≤n_0)) && (decide (n_0≤n_0))) && (decide (n_0≤9223372036854775807))) && (decide ((n_0.toNat*1)≤140737488355328))) then
 k (.c0 n_0 x_1 0 (List.replicate n_0.toNat (0:Int)))
 else none
noncomputable def Hl (k:Qg→Option ByteArray):Qg→Option ByteArray
 | .c0 n_0 x_1 i_6 out_5=>
 bif (decide (i_6<n_0)) then
  bif ((decide (0≤i_6)) && (decide (i_6<(out_5.length:Int)))) then
  k (.c0 n_0 x_1 (w64 (i_6+1)) (out_5.set i_6.toNat x_1))
  else none
 else
  some (ofBytes out_5)
noncomputable def Ug:Nat→Qg→Option ByteArray
 | 0,_=>none
 | m+1,s=>Hl (Ug m) s
noncomputable def Vg:Oq:=Pq (Ug gas)
theorem W9:Tells ctx PP 96 cv55 cv3 (fun a=>Vg a.1 a.2):=
 have b:CutIs ctx PP 96 Tryd.f96 [] [] cv3 Ry (Hl):=fun _ s=>by cases s <;> kernel_rfl
 have e:EntryIs ctx PP 96 [] [] cv55 cv3 Ry (fun k a=>Pq k a.1 a.2):=fun _ a=>by kernel_rfl
 fn_ok hl_nil Tryd.func96 (fun s s' h=>by cases s;cases s';cases h;rfl) (fun _=>rfl) (fun _ _=>rfl) b e gas
noncomputable def X9 {γ:Type} (F:Oq):Hd ctx γ:=hdl cv55.dec (fun a=>F a.1 a.2) cv3.enc
abbrev Qq:=Option SBook
noncomputable def Rq (z0:Pg) (z1:Oq)  : Option SBook:=
 (z0 ⟨#[]⟩).bind fun r0=>
 (z1 32 0).bind fun r1=>
 some ⟨r0,0,[],0,r1,0⟩
noncomputable def Xg:Qq:=Rq RZ Vg
theorem Y9:Tells ctx PP 42 cv10 cv52 (fun _=>Xg):=fn_ok0 (hc Qy (hc W9 hl_nil)) Tryd.func42 ((fun z0 z1 _=>by kernel_rfl:∀ z0 z1,EntryIs0 ctx PP 42 [] [(95,Nq z0),(96,X9 z1)] cv10 cv52 fun _=>Rq z0 z1) RZ Vg)
noncomputable def Z9 {γ:Type} (F:Qq):Hd ctx γ:=hdl cv10.dec (fun _=>F) cv52.enc
abbrev Md:=SBook→Option SBook
noncomputable def Tq (b_0:SBook):Option SBook:=
 bif (decide (((0+b_0.fThings.length)*48)≤140737488355328)) then
 some ⟨b_0.fWord,b_0.fTries,([]++b_0.fThings),b_0.fLast,b_0.fChain,b_0.fCount⟩
 else none
noncomputable def ZY:Md:=Tq
theorem Uy:Tells ctx PP 63 cv56 cv52 (fun a=>ZY a):=fn_ok0 hl_nil Tryd.func63 (fun a=>by kernel_rfl:EntryIs0 ctx PP 63 [] [] cv56 cv52 fun a=>Tq a)
noncomputable def Il {γ:Type} (F:Md):Hd ctx γ:=hdl cv56.dec (fun a=>F a) cv52.enc
abbrev Yg:=Int→Option ByteArray
inductive Zg where
 | c0 (n_0:Int) (out_3:(List Int))
noncomputable def Vy:Zg→LI
 | .c0 n_0 out_3=>(tdo Tryd.f80 224,[(0,[.one (.int .i64 n_0)]),(3,[.one (.own 240)])],[(240,.sl 5 out_3)])
noncomputable def Wy (k:Zg→Option ByteArray) (n_0:Int):Option ByteArray:=
 k (.c0 n_0 [])
noncomputable def Jl (k:Zg→Option ByteArray):Zg→Option ByteArray
 | .c0 n_0 out_3=>
 bif (decide (n_0 > 127)) then
  bif (decide (((out_3.length+1)*1)≤140737488355328)) then
  k (.c0 (w64 (n_0.tdiv 128)) (out_3++[(w8 (w64 ((n_0.tmod 128)+128)))]))
  else none
 else
  bif (decide (((out_3.length+1)*1)≤140737488355328)) then
  some (ofBytes (out_3++[(w8 n_0)]))
  else none
noncomputable def Ah:Nat→Zg→Option ByteArray
 | 0,_=>none
 | m+1,s=>Jl (Ah m) s
noncomputable def Ja:Yg:=Wy (Ah gas)
theorem Vq:Tells ctx PP 80 cv2 cv3 (fun a=>Ja a):=
 have b:CutIs ctx PP 80 Tryd.f80 [] [] cv3 Vy (Jl):=fun _ s=>by cases s <;> kernel_rfl
 have e:EntryIs ctx PP 80 [] [] cv2 cv3 Vy (fun k a=>Wy k a):=fun _ a=>by kernel_rfl
 fn_ok hl_nil Tryd.func80 (fun s s' h=>by cases s;cases s';cases h;rfl) (fun _=>rfl) (fun _ _=>rfl) b e gas
noncomputable def Wq {γ:Type} (F:Yg):Hd ctx γ:=hdl cv2.dec (fun a=>F a) cv3.enc
abbrev Bh:=SThing→Option Bool
noncomputable def Xq (z0:Za) (x_0:SThing):Option Bool:=
 (z0 x_0.fId 1 1000).bind fun r0=>
 bif (!r0) then
 some false
 else
 (z0 x_0.fKind 1 3).bind fun r1=>
 bif (!r1) then
  some false
 else
  (z0 x_0.fNext 0 16).bind fun r2=>
  bif (!r2) then
  some false
  else
  bif (x_0.fKind != 2) then
   bif (x_0.fNext != 0) then
   some false
   else
   bif x_0.fSigns then
    some false
   else
    bif (x_0.fKind != 1) then
    bif x_0.fWraps then
     some false
    else
     bif (x_0.fKind == 3) then
     some (decide ((x_0.fValue.size:Int)≤100))
     else
     some ((x_0.fValue.size:Int) == 32)
    else
    bif (x_0.fKind == 3) then
     some (decide ((x_0.fValue.size:Int)≤100))
    else
     some ((x_0.fValue.size:Int) == 32)
  else
   bif (x_0.fKind != 1) then
   bif x_0.fWraps then
    some false
   else
    bif (x_0.fKind == 3) then
    some (decide ((x_0.fValue.size:Int)≤100))
    else
    some ((x_0.fValue.size:Int) == 32)
   else
   bif (x_0.fKind == 3) then
    some (decide ((x_0.fValue.size:Int)≤100))
   else
    some ((x_0.fValue.size:Int) == 32)
noncomputable def UZ:Bh:=Xq UY
theorem Xy:Tells ctx PP 138 cv26 cv1 (fun a=>UZ a):=fn_ok0 (hc Uk hl_nil) Tryd.func138 ((fun z0 a=>by kernel_rfl:∀ z0,EntryIs0 ctx PP 138 [] [(79,Yf z0)] cv26 cv1 fun a=>Xq z0 a) UY)
noncomputable def Yq {γ:Type} (F:Bh):Hd ctx γ:=hdl cv26.dec (fun a=>F a) cv1.enc
abbrev Zq:=Bool→Int→Option Int
noncomputable def Yy (x_0:Bool) (n_1:Int):Option Int:=
 bif x_0 then
 some n_1
 else
 some 0
noncomputable def Ll:Zq:=Yy
theorem AAA:Tells ctx PP 142 cv27 cv2 (fun a=>Ll a.1 a.2):=fn_ok0 hl_nil Tryd.func142 (fun a=>by kernel_rfl:EntryIs0 ctx PP 142 [] [] cv27 cv2 fun a=>Yy a.1 a.2)
noncomputable def BAA {γ:Type} (F:Zq):Hd ctx γ:=hdl cv27.dec (fun a=>F a.1 a.2) cv2.enc
abbrev Ar:=Int→Option ByteArray
noncomputable def Hr (n_0:Int):Option ByteArray:=
 bif (decide ((n_0.tmod 256)<0)) then
 some (ofBytes [(w8 (w64 ((n_0.tmod 256)+256)))])
 else
 some (ofBytes [(w8 (n_0.tmod 256))])
noncomputable def Dh:Ar:=Hr
theorem CAA:Tells ctx PP 117 cv2 cv3 (fun a=>Dh a):=fn_ok0 hl_nil Tryd.func117 (fun a=>by kernel_rfl:EntryIs0 ctx PP 117 [] [] cv2 cv3 fun a=>Hr a)
noncomputable def DAA {γ:Type} (F:Ar):Hd ctx γ:=hdl cv2.dec (fun a=>F a) cv3.enc
abbrev Ir:=ByteArray→Option ByteArray
noncomputable def Jr (z0:Yg) (s_0:ByteArray):Option ByteArray:=
 (z0 (s_0.size:Int)).bind fun r0=>
 bif (decide ((r0.size+s_0.size)≤9223372036854775807)) then
 some (r0++s_0)
 else none
noncomputable def Eh:Ir:=Jr Ja
theorem EAA:Tells ctx PP 143 cv3 cv3 (fun a=>Eh a):=fn_ok0 (hc Vq hl_nil) Tryd.func143 ((fun z0 a=>by kernel_rfl:∀ z0,EntryIs0 ctx PP 143 [] [(80,Wq z0)] cv3 cv3 fun a=>Jr z0 a) Ja)
noncomputable def FAA {γ:Type} (F:Ir):Hd ctx γ:=hdl cv3.dec (fun a=>F a) cv3.enc
abbrev Kr:=SThing→Option (ByteArray×Bool)
noncomputable def Lr (z0:Bh) (z1:Zq) (z2:Yg) (z3:Ar) (z4:Ir) (x_0:SThing):Option (ByteArray×Bool):=
 (z0 x_0).bind fun r0=>
 bif (!r0) then
 some (⟨#[]⟩,false)
 else
 (z1 x_0.fHidden 1).bind fun r1=>
 (z1 x_0.fFixed 2).bind fun r2=>
 (z1 x_0.fSigns 4).bind fun r3=>
 (z1 x_0.fWraps 8).bind fun r4=>
 (z2 x_0.fId).bind fun r5=>
 (z3 x_0.fKind).bind fun r6=>
 bif (decide ((r5.size+r6.size)≤9223372036854775807)) then
 (z3 (w64 ((w64 ((w64 (r1+r2))+r3))+r4))).bind fun r7=>
 bif (decide (((r5++r6).size+r7.size)≤9223372036854775807)) then
 (z4 x_0.fValue).bind fun r8=>
 bif (decide ((((r5++r6)++r7).size+r8.size)≤9223372036854775807)) then
 (z2 x_0.fNext).bind fun r9=>
 bif (decide (((((r5++r6)++r7)++r8).size+r9.size)≤9223372036854775807)) then
 some (((((r5++r6)++r7)++r8)++r9),true)
 else none
 else none
 else none
 else none
noncomputable def Fh:Kr:=Lr UZ Ll Ja Dh Eh
theorem GAA:Tells ctx PP 119 cv26 cv8 (fun a=>Fh a):=fn_ok0 (hc Xy (hc AAA (hc Vq (hc CAA (hc EAA hl_nil))))) Tryd.func119 ((fun z0 z1 z2 z3 z4 a=>by kernel_rfl:∀ z0 z1 z2 z3 z4,EntryIs0 ctx PP 119 [] [(138,Yq z0),(142,BAA z1),(80,Wq z2),(117,DAA z3),(143,FAA z4)] cv26 cv8 fun a=>Lr z0 z1 z2 z3 z4 a) UZ Ll Ja Dh Eh)
noncomputable def HAA {γ:Type} (F:Kr):Hd ctx γ:=hdl cv26.dec (fun a=>F a) cv8.enc
abbrev Nl:=SRec→Option (ByteArray×Bool)
noncomputable def Nr (z0:Za) (z1:Yg) (z2:Kr) (r_0:SRec):Option (ByteArray×Bool):=
 bif (r_0.fKind == 1) then
 bif ((r_0.fText.size:Int) == 32) then
  bif (r_0.fNum == 0) then
  bif ((r_0.fThing.fId == 0) && ((r_0.fThing.fKind == 0) && ((r_0.fThing.fHidden == false) && ((r_0.fThing.fFixed == false) && ((r_0.fThing.fSigns == false) && ((r_0.fThing.fWraps == false) && (((ByteArray.toList r_0.fThing.fValue) == (ByteArray.toList ⟨#[]⟩)) && ((r_0.fThing.fNext == 0) && true)))))))) then
   bif (decide (((⟨#[1]⟩:ByteArray).size+r_0.fText.size)≤9223372036854775807)) then
   some (((⟨#[1]⟩:ByteArray)++r_0.fText),true)
   else none
  else
   some (⟨#[]⟩,false)
  else
  some (⟨#[]⟩,false)
 else
  some (⟨#[]⟩,false)
 else
 bif (r_0.fKind == 2) then
  bif ((ByteArray.toList r_0.fText) == (ByteArray.toList ⟨#[]⟩)) then
  bif ((r_0.fThing.fId == 0) && ((r_0.fThing.fKind == 0) && ((r_0.fThing.fHidden == false) && ((r_0.fThing.fFixed == false) && ((r_0.fThing.fSigns == false) && ((r_0.fThing.fWraps == false) && (((ByteArray.toList r_0.fThing.fValue) == (ByteArray.toList ⟨#[]⟩)) && ((r_0.fThing.fNext == 0) && true)))))))) then
   (z0 r_0.fNum 0 3).bind fun r0=>
   bif r0 then
   (z1 r_0.fNum).bind fun r1=>
   bif (decide (((⟨#[2]⟩:ByteArray).size+r1.size)≤9223372036854775807)) then
   some (((⟨#[2]⟩:ByteArray)++r1),true)
   else none
   else
   some (⟨#[]⟩,false)
  else
   some (⟨#[]⟩,false)
  else
  some (⟨#[]⟩,false)
 else
  bif (r_0.fKind == 3) then
  (z2 r_0.fThing).bind fun r2=>
  bif r2.2 then
   bif ((ByteArray.toList r_0.fText) == (ByteArray.toList ⟨#[]⟩)) then
   bif (r_0.fNum == 0) then
    bif (decide (((⟨#[3]⟩:ByteArray).size+r2.1.size)≤9223372036854775807)) then
    some (((⟨#[3]⟩:ByteArray)++r2.1),true)
    else none
   else
    some (⟨#[]⟩,false)
   else
   some (⟨#[]⟩,false)
  else
   some (⟨#[]⟩,false)
  else
  bif (r_0.fKind == 4) then
   bif ((ByteArray.toList r_0.fText) == (ByteArray.toList ⟨#[]⟩)) then
   bif ((r_0.fThing.fId == 0) && ((r_0.fThing.fKind == 0) && ((r_0.fThing.fHidden == false) && ((r_0.fThing.fFixed == false) && ((r_0.fThing.fSigns == false) && ((r_0.fThing.fWraps == false) && (((ByteArray.toList r_0.fThing.fValue) == (ByteArray.toList ⟨#[]⟩)) && ((r_0.fThing.fNext == 0) && true)))))))) then
    (z0 r_0.fNum 1 1000).bind fun r3=>
    bif r3 then
    (z1 r_0.fNum).bind fun r4=>
    bif (decide (((⟨#[4]⟩:ByteArray).size+r4.size)≤9223372036854775807)) then
    some (((⟨#[4]⟩:ByteArray)++r4),true)
    else none
    else
    some (⟨#[]⟩,false)
   else
    some (⟨#[]⟩,false)
   else
   some (⟨#[]⟩,false)
  else
   some (⟨#[]⟩,false)
noncomputable def Eb:Nl:=Nr UY Ja Fh
theorem IAA:Tells ctx PP 78 cv29 cv8 (fun a=>Eb a):=fn_ok0 (hc Uk (hc Vq (hc GAA hl_nil))) Tryd.func78 ((fun z0 z1 z2 a=>by kernel_rfl:∀ z0 z1 z2,EntryIs0 ctx PP 78 [] [(79,Yf z0),(80,Wq z1),(119,HAA z2)] cv29 cv8 fun a=>Nr z0 z1 z2 a) UY Ja Fh)
noncomputable def Zy {γ:Type} (F:Nl):Hd ctx γ:=hdl cv29.dec (fun a=>F a) cv8.enc
abbrev Ol:=SBook→Option Bool
inductive Gh where
 | c0 (i_3:Int) (b_1:SBook)
noncomputable def Az:Gh→LI
 | .c0 i_3 b_1=>(tdo Tryd.f109 464,[(1,[.one (.ptr 64 0)]),(3,[.one (.int .i64 i_3)])],[(64,.var [.str b_1.fWord,.int .i64 b_1.fTries,.rsl 71 b_1.fThings,.int .i64 b_1.fLast,.str b_1.fChain,.int .i64 b_1.fCount])])
noncomputable def Qr (z0:Za) (z1:Bh) (k:Gh→Option Bool) (b_0:SBook):Option Bool:=
 bif ((b_0.fWord.size:Int) != 32) then
 some false
 else
 bif ((b_0.fChain.size:Int) != 32) then
  some false
 else
  (z0 b_0.fTries 0 3).bind fun r0=>
  bif (!r0) then
  some false
  else
  bif (decide ((b_0.fThings.length:Int) > 8)) then
   some false
  else
   (z0 b_0.fLast 0 1000).bind fun r1=>
   bif (!r1) then
   some false
   else
   (z0 b_0.fCount 0 10000).bind fun r2=>
   bif (!r2) then
    some false
   else
    k (.c0 0 b_0)
noncomputable def Ql (z0:Za) (z1:Bh) (k:Gh→Option Bool):Gh→Option Bool
 | .c0 i_3 b_1=>
 bif (decide (i_3<(b_1.fThings.length:Int))) then
  bif ((decide (0≤i_3)) && (decide (i_3<(b_1.fThings.length:Int)))) then
  (z1 (b_1.fThings.getD i_3.toNat (⟨0,0,false,false,false,false,⟨#[]⟩,0⟩:SThing))).bind fun r0=>
  bif (!r0) then
  some false
  else
  bif ((decide (0≤i_3)) && (decide (i_3<(b_1.fThings.length:Int)))) then
  bif (decide ((b_1.fThings.getD i_3.toNat (⟨0,0,false,false,false,false,⟨#[]⟩,0⟩:SThing)).fId > b_1.fLast)) then
   some false
  else
   bif (decide (i_3 > 0)) then
   bif ((decide (0≤(w64 (i_3 - 1)))) && (decide ((w64 (i_3 - 1))<(b_1.fThings.length:Int)))) then
   bif ((decide (0≤i_3)) && (decide (i_3<(b_1.fThings.length:Int)))) then
   bif (decide ((b_1.fThings.getD (w64 (i_3 - 1)).toNat (⟨0,0,false,false,false,false,⟨#[]⟩,0⟩:SThing)).fId≥(b_1.fThings.getD i_3.toNat (⟨0,0,false,false,false,false,⟨#[]⟩,0⟩:SThing)).fId)) then
    some false
   else
    k (.c0 (w64 (i_3+1)) b_1)
   else none
   else none
   else
   k (.c0 (w64 (i_3+1)) b_1)
  else none
  else none
 else
  some true
noncomputable def Fb:Nat→Gh→Option Bool
 | 0,_=>none
 | m+1,s=>Ql UY UZ (Fb m) s
noncomputable def Ib:Ol:=Qr UY UZ (Fb gas)
theorem JAA:Tells ctx PP 109 cv56 cv1 (fun a=>Ib a):=
 have b:∀ z0 z1,CutIs ctx PP 109 Tryd.f109 [] [(79,Yf z0),(138,Yq z1)] cv1 Az (Ql z0 z1):=fun z0 z1 _ s=>by cases s <;> kernel_rfl
 have e:∀ z0 z1,EntryIs ctx PP 109 [] [(79,Yf z0),(138,Yq z1)] cv56 cv1 Az (fun k a=>Qr z0 z1 k a):=fun z0 z1 _ a=>by kernel_rfl
 fn_ok (hc Uk (hc Xy hl_nil)) Tryd.func109 (fun s s' h=>by cases s;cases s';(repeat cases ‹SBook›);cases h;rfl) (fun _=>rfl) (fun _ _=>rfl) (b UY UZ) (e UY UZ) gas
noncomputable def Bz {γ:Type} (F:Ol):Hd ctx γ:=hdl cv56.dec (fun a=>F a) cv1.enc
abbrev Rl:=SBook→Int→Option (SThing×Bool)
inductive Ih where
 | c0 (id_1:Int) (i_6:Int) (b_2:SBook) (v_4:SThing)
noncomputable def Dz:Ih→LI
 | .c0 id_1 i_6 b_2 v_4=>(tdo Tryd.f110 208,[(1,[.one (.int .i64 id_1)]),(2,[.one (.ptr 128 0)]),(4,[.one (.ptr 256 0)]),(6,[.one (.int .i64 i_6)])],[(128,.var [.str b_2.fWord,.int .i64 b_2.fTries,.rsl 71 b_2.fThings,.int .i64 b_2.fLast,.str b_2.fChain,.int .i64 b_2.fCount]),(256,.var [.int .i64 v_4.fId,.int .i64 v_4.fKind,.bool v_4.fHidden,.bool v_4.fFixed,.bool v_4.fSigns,.bool v_4.fWraps,.str v_4.fValue,.int .i64 v_4.fNext])])
noncomputable def Ez (k:Ih→Option (SThing×Bool)) (b_0:SBook) (id_1:Int):Option (SThing×Bool):=
 k (.c0 id_1 0 b_0 ⟨0,0,false,false,false,false,⟨#[]⟩,0⟩)
noncomputable def Sl (k:Ih→Option (SThing×Bool)):Ih→Option (SThing×Bool)
 | .c0 id_1 i_6 b_2 v_4=>
 bif (decide (i_6<(b_2.fThings.length:Int))) then
  bif ((decide (0≤i_6)) && (decide (i_6<(b_2.fThings.length:Int)))) then
  bif ((b_2.fThings.getD i_6.toNat (⟨0,0,false,false,false,false,⟨#[]⟩,0⟩:SThing)).fId == id_1) then
  bif ((decide (0≤i_6)) && (decide (i_6<(b_2.fThings.length:Int)))) then
  some ((b_2.fThings.getD i_6.toNat (⟨0,0,false,false,false,false,⟨#[]⟩,0⟩:SThing)),true)
  else none
  else
  k (.c0 id_1 (w64 (i_6+1)) b_2 v_4)
  else none
 else
  some (⟨0,0,false,false,false,false,⟨#[]⟩,0⟩,false)
noncomputable def Qd:Nat→Ih→Option (SThing×Bool)
 | 0,_=>none
 | m+1,s=>Sl (Qd m) s
noncomputable def Td:Rl:=Ez (Qd gas)
theorem KAA:Tells ctx PP 110 cv57 cv28 (fun a=>Td a.1 a.2):=
 have b:CutIs ctx PP 110 Tryd.f110 [] [] cv28 Dz (Sl):=fun _ s=>by cases s <;> kernel_rfl
 have e:EntryIs ctx PP 110 [] [] cv57 cv28 Dz (fun k a=>Ez k a.1 a.2):=fun _ a=>by kernel_rfl
 fn_ok hl_nil Tryd.func110 (fun s s' h=>by cases s;cases s';(repeat cases ‹SBook›);(repeat cases ‹SThing›);cases h;rfl) (fun _=>rfl) (fun _ _=>rfl) b e gas
noncomputable def Fz {γ:Type} (F:Rl):Hd ctx γ:=hdl cv57.dec (fun a=>F a.1 a.2) cv28.enc
abbrev Ul:=SThing→SThing→Option Bool
noncomputable def Sr (a_0:SThing) (b_1:SThing):Option Bool:=
 bif (a_0.fKind == b_1.fKind) then
 bif ((ByteArray.toList a_0.fValue) == (ByteArray.toList b_1.fValue)) then
  bif (a_0.fSigns == b_1.fSigns) then
  bif (a_0.fWraps == b_1.fWraps) then
   bif (decide (a_0.fNext≤b_1.fNext)) then
   bif b_1.fHidden then
    bif b_1.fFixed then
    some true
    else
    some (!a_0.fFixed)
   else
    bif (!a_0.fHidden) then
    bif b_1.fFixed then
     some true
    else
     some (!a_0.fFixed)
    else
    some false
   else
   some false
  else
   some false
  else
  some false
 else
  some false
 else
 some false
noncomputable def Jb:Ul:=Sr
theorem LAA:Tells ctx PP 111 cv39 cv1 (fun a=>Jb a.1 a.2):=fn_ok0 hl_nil Tryd.func111 (fun a=>by kernel_rfl:EntryIs0 ctx PP 111 [] [] cv39 cv1 fun a=>Sr a.1 a.2)
noncomputable def Gz {γ:Type} (F:Ul):Hd ctx γ:=hdl cv39.dec (fun a=>F a.1 a.2) cv1.enc
abbrev Vl:=(List SThing)→SThing→Option (List SThing)
inductive Jh where
 | c0 (list_0:(List SThing)) (i_6:Int) (x_3:SThing) (out_5:(List SThing))
 | c1 (list_0:(List SThing)) (i_7:Int) (x_3:SThing) (out_5:(List SThing))
noncomputable def Hz:Jh→LI
 | .c0 list_0 i_6 x_3 out_5=>(tdo Tryd.f112 464,[(0,[.one (.rsl 71 list_0)]),(3,[.one (.ptr 192 0)]),(5,[.one (.own 368)]),(6,[.one (.int .i64 i_6)])],[(192,.var [.int .i64 x_3.fId,.int .i64 x_3.fKind,.bool x_3.fHidden,.bool x_3.fFixed,.bool x_3.fSigns,.bool x_3.fWraps,.str x_3.fValue,.int .i64 x_3.fNext]),(368,.sl 71 out_5)])
 | .c1 list_0 i_7 x_3 out_5=>(tdo Tryd.f112 2000,[(0,[.one (.rsl 71 list_0)]),(3,[.one (.ptr 192 0)]),(5,[.one (.own 368)]),(7,[.one (.int .i64 i_7)])],[(192,.var [.int .i64 x_3.fId,.int .i64 x_3.fKind,.bool x_3.fHidden,.bool x_3.fFixed,.bool x_3.fSigns,.bool x_3.fWraps,.str x_3.fValue,.int .i64 x_3.fNext]),(368,.sl 71 out_5)])
noncomputable def Ur (k:Jh→Option (List SThing)) (list_0:(List SThing)) (x_1:SThing):Option (List SThing):=
 k (.c0 list_0 0 x_1 [])
noncomputable def Ud (k:Jh→Option (List SThing)):Jh→Option (List SThing)
 | .c0 list_0 i_6 x_3 out_5=>
 bif (decide (i_6<(list_0.length:Int))) then
  bif ((decide (0≤i_6)) && (decide (i_6<(list_0.length:Int)))) then
  bif (decide ((list_0.getD i_6.toNat (⟨0,0,false,false,false,false,⟨#[]⟩,0⟩:SThing)).fId<x_3.fId)) then
  bif ((decide (0≤i_6)) && (decide (i_6<(list_0.length:Int)))) then
  bif (decide (((out_5.length+1)*48)≤140737488355328)) then
  k (.c0 list_0 (w64 (i_6+1)) x_3 (out_5++[(list_0.getD i_6.toNat (⟨0,0,false,false,false,false,⟨#[]⟩,0⟩:SThing))]))
  else none
  else none
  else
  k (.c0 list_0 (w64 (i_6+1)) x_3 out_5)
  else none
 else
  bif (decide (((out_5.length+1)*48)≤140737488355328)) then
  k (.c1 list_0 0 x_3 (out_5++[x_3]))
  else none
 | .c1 list_0 i_7 x_3 out_5=>
 bif (decide (i_7<(list_0.length:Int))) then
  bif ((decide (0≤i_7)) && (decide (i_7<(list_0.length:Int)))) then
  bif (decide ((list_0.getD i_7.toNat (⟨0,0,false,false,false,false,⟨#[]⟩,0⟩:SThing)).fId > x_3.fId)) then
  bif ((decide (0≤i_7)) && (decide (i_7<(list_0.length:Int)))) then
  bif (decide (((out_5.length+1)*48)≤140737488355328)) then
  k (.c1 list_0 (w64 (i_7+1)) x_3 (out_5++[(list_0.getD i_7.toNat (⟨0,0,false,false,false,false,⟨#[]⟩,0⟩:SThing))]))
  else none
  else none
  else
  k (.c1 list_0 (w64 (i_7+1)) x_3 out_5)
  else none
 else
  some out_5
noncomputable def VZ:Nat→Jh→Option (List SThing)
 | 0,_=>none
 | m+1,s=>Ud (VZ m) s
noncomputable def Nb:Vl:=Ur (VZ gas)
theorem MAA:Tells ctx PP 112 cv58 cv50 (fun a=>Nb a.1 a.2):=
 have b:CutIs ctx PP 112 Tryd.f112 [] [] cv50 Hz (Ud):=fun _ s=>by cases s <;> kernel_rfl
 have e:EntryIs ctx PP 112 [] [] cv58 cv50 Hz (fun k a=>Ur k a.1 a.2):=fun _ a=>by kernel_rfl
 fn_ok hl_nil Tryd.func112 (fun s s' h=>by cases s <;> cases s' <;> first | ((repeat cases ‹SThing›);cases h;done) | ((repeat cases ‹SThing›);cases h;rfl) | exact (rg_ne h (by kernel_rfl)).elim) (fun _=>rfl) (fun _ _=>rfl) b e gas
noncomputable def Iz {γ:Type} (F:Vl):Hd ctx γ:=hdl cv58.dec (fun a=>F a.1 a.2) cv50.enc
abbrev Wl:=SBook→SRec→Option (SBook×Bool)
inductive Lh where
 | c0 (y_6:ByteArray) (v_14:Int) (A_2:SBook) (r_3:SRec) (r_4c0:ByteArray) (r_4c1:Int) (r_4c3:Int) (r_4c4:ByteArray) (r_4c5:Int) (v_8c0:ByteArray) (v_8c1:Int) (v_8c3:Int) (v_8c4:ByteArray) (v_8c5:Int) (v_13:(List SThing)) (r_4r2:(List SThing)) (v_8r2:(List SThing))
noncomputable def Jz:Lh→LI
 | .c0 y_6 v_14 A_2 r_3 r_4c0 r_4c1 r_4c3 r_4c4 r_4c5 v_8c0 v_8c1 v_8c3 v_8c4 v_8c5 v_13 r_4r2 v_8r2=>(tdo Tryd.f64 32898512,[(2,[.one (.ptr 128 0)]),(3,[.one (.ptr 192 0)]),(4,[.one (.ptr 256 0)]),(6,[.one (.str y_6)]),(8,[.one (.ptr 512 0)]),(13,[.one (.own 880)]),(14,[.one (.int .i64 v_14)])],[(128,.var [.str A_2.fWord,.int .i64 A_2.fTries,.rsl 71 A_2.fThings,.int .i64 A_2.fLast,.str A_2.fChain,.int .i64 A_2.fCount]),(192,.var [.int .i64 r_3.fKind,.str r_3.fText,.int .i64 r_3.fNum,.int .i64 r_3.fThing.fId,.int .i64 r_3.fThing.fKind,.bool r_3.fThing.fHidden,.bool r_3.fThing.fFixed,.bool r_3.fThing.fSigns,.bool r_3.fThing.fWraps,.str r_3.fThing.fValue,.int .i64 r_3.fThing.fNext]),(256,.var [.str r_4c0,.int .i64 r_4c1,.own 1016386,.int .i64 r_4c3,.str r_4c4,.int .i64 r_4c5]),(512,.var [.str v_8c0,.int .i64 v_8c1,.own 1032770,.int .i64 v_8c3,.str v_8c4,.int .i64 v_8c5]),(880,.sl 71 v_13),(1016386,.sl 71 r_4r2),(1032770,.sl 71 v_8r2)])
noncomputable def Vr (z0:Nl) (z1:Ol) (z2:Md) (z3:Rl) (z4:Ul) (z5:Vl) (z6:Pg) (k:Lh→Option (SBook×Bool)) (t_0:SBook) (o_1:SRec):Option (SBook×Bool):=
 (z0 o_1).bind fun r0=>
 (z1 t_0).bind fun r1=>
 bif (!r1) then
 some (⟨⟨#[]⟩,0,[],0,⟨#[]⟩,0⟩,false)
 else
 bif (!r0.2) then
  some (⟨⟨#[]⟩,0,[],0,⟨#[]⟩,0⟩,false)
 else
  bif (t_0.fCount == 10000) then
  some (⟨⟨#[]⟩,0,[],0,⟨#[]⟩,0⟩,false)
  else
  (z2 t_0).bind fun r2=>
  bif (o_1.fKind == 1) then
   bif (decide ((t_0.fChain.size+r0.1.size)≤9223372036854775807)) then
   (z6 (t_0.fChain++r0.1)).bind fun r3=>
   (z1 ⟨o_1.fText,0,r2.fThings,r2.fLast,r3,(w64 (t_0.fCount+1))⟩).bind fun r4=>
   bif (!r4) then
   some (⟨⟨#[]⟩,0,[],0,⟨#[]⟩,0⟩,false)
   else
   some (⟨o_1.fText,0,r2.fThings,r2.fLast,r3,(w64 (t_0.fCount+1))⟩,true)
   else none
  else
   bif (o_1.fKind == 2) then
   bif (decide ((t_0.fChain.size+r0.1.size)≤9223372036854775807)) then
   (z6 (t_0.fChain++r0.1)).bind fun r5=>
   (z1 ⟨r2.fWord,o_1.fNum,r2.fThings,r2.fLast,r5,(w64 (t_0.fCount+1))⟩).bind fun r6=>
   bif (!r6) then
    some (⟨⟨#[]⟩,0,[],0,⟨#[]⟩,0⟩,false)
   else
    some (⟨r2.fWord,o_1.fNum,r2.fThings,r2.fLast,r5,(w64 (t_0.fCount+1))⟩,true)
   else none
   else
   bif (o_1.fKind == 3) then
    (z3 t_0 o_1.fThing.fId).bind fun r7=>
    bif r7.2 then
    (z4 r7.1 o_1.fThing).bind fun r8=>
    bif (!r8) then
     some (⟨⟨#[]⟩,0,[],0,⟨#[]⟩,0⟩,false)
    else
     bif (!r7.2) then
     bif (o_1.fThing.fId != (w64 (t_0.fLast+1))) then
      some (⟨⟨#[]⟩,0,[],0,⟨#[]⟩,0⟩,false)
     else
      bif ((t_0.fThings.length:Int) == 8) then
      some (⟨⟨#[]⟩,0,[],0,⟨#[]⟩,0⟩,false)
      else
      bif (!r7.2) then
       (z5 t_0.fThings o_1.fThing).bind fun r9=>
       bif (decide ((t_0.fChain.size+r0.1.size)≤9223372036854775807)) then
       (z6 (t_0.fChain++r0.1)).bind fun r10=>
       (z1 ⟨r2.fWord,r2.fTries,r9,o_1.fThing.fId,r10,(w64 (t_0.fCount+1))⟩).bind fun r11=>
       bif (!r11) then
       some (⟨⟨#[]⟩,0,[],0,⟨#[]⟩,0⟩,false)
       else
       some (⟨r2.fWord,r2.fTries,r9,o_1.fThing.fId,r10,(w64 (t_0.fCount+1))⟩,true)
       else none
      else
       (z5 t_0.fThings o_1.fThing).bind fun r12=>
       bif (decide ((t_0.fChain.size+r0.1.size)≤9223372036854775807)) then
       (z6 (t_0.fChain++r0.1)).bind fun r13=>
       (z1 ⟨r2.fWord,r2.fTries,r12,r2.fLast,r13,(w64 (t_0.fCount+1))⟩).bind fun r14=>
       bif (!r14) then
       some (⟨⟨#[]⟩,0,[],0,⟨#[]⟩,0⟩,false)
       else
       some (⟨r2.fWord,r2.fTries,r12,r2.fLast,r13,(w64 (t_0.fCount+1))⟩,true)
       else none
     else
     bif (!r7.2) then
      (z5 t_0.fThings o_1.fThing).bind fun r15=>
      bif (decide ((t_0.fChain.size+r0.1.size)≤9223372036854775807)) then
      (z6 (t_0.fChain++r0.1)).bind fun r16=>
      (z1 ⟨r2.fWord,r2.fTries,r15,o_1.fThing.fId,r16,(w64 (t_0.fCount+1))⟩).bind fun r17=>
      bif (!r17) then
      some (⟨⟨#[]⟩,0,[],0,⟨#[]⟩,0⟩,false)
      else
      some (⟨r2.fWord,r2.fTries,r15,o_1.fThing.fId,r16,(w64 (t_0.fCount+1))⟩,true)
      else none
     else
      (z5 t_0.fThings o_1.fThing).bind fun r18=>
      bif (decide ((t_0.fChain.size+r0.1.size)≤9223372036854775807)) then
      (z6 (t_0.fChain++r0.1)).bind fun r19=>
      (z1 ⟨r2.fWord,r2.fTries,r18,r2.fLast,r19,(w64 (t_0.fCount+1))⟩).bind fun r20=>
      bif (!r20) then
      some (⟨⟨#[]⟩,0,[],0,⟨#[]⟩,0⟩,false)
      else
      some (⟨r2.fWord,r2.fTries,r18,r2.fLast,r19,(w64 (t_0.fCount+1))⟩,true)
      else none
    else
    bif (!r7.2) then
     bif (o_1.fThing.fId != (w64 (t_0.fLast+1))) then
     some (⟨⟨#[]⟩,0,[],0,⟨#[]⟩,0⟩,false)
     else
     bif ((t_0.fThings.length:Int) == 8) then
      some (⟨⟨#[]⟩,0,[],0,⟨#[]⟩,0⟩,false)
     else
      bif (!r7.2) then
      (z5 t_0.fThings o_1.fThing).bind fun r21=>
      bif (decide ((t_0.fChain.size+r0.1.size)≤9223372036854775807)) then
      (z6 (t_0.fChain++r0.1)).bind fun r22=>
      (z1 ⟨r2.fWord,r2.fTries,r21,o_1.fThing.fId,r22,(w64 (t_0.fCount+1))⟩).bind fun r23=>
      bif (!r23) then
       some (⟨⟨#[]⟩,0,[],0,⟨#[]⟩,0⟩,false)
      else
       some (⟨r2.fWord,r2.fTries,r21,o_1.fThing.fId,r22,(w64 (t_0.fCount+1))⟩,true)
      else none
      else
      (z5 t_0.fThings o_1.fThing).bind fun r24=>
      bif (decide ((t_0.fChain.size+r0.1.size)≤9223372036854775807)) then
      (z6 (t_0.fChain++r0.1)).bind fun r25=>
      (z1 ⟨r2.fWord,r2.fTries,r24,r2.fLast,r25,(w64 (t_0.fCount+1))⟩).bind fun r26=>
      bif (!r26) then
       some (⟨⟨#[]⟩,0,[],0,⟨#[]⟩,0⟩,false)
      else
       some (⟨r2.fWord,r2.fTries,r24,r2.fLast,r25,(w64 (t_0.fCount+1))⟩,true)
      else none
    else
     bif (!r7.2) then
     (z5 t_0.fThings o_1.fThing).bind fun r27=>
     bif (decide ((t_0.fChain.size+r0.1.size)≤9223372036854775807)) then
     (z6 (t_0.fChain++r0.1)).bind fun r28=>
     (z1 ⟨r2.fWord,r2.fTries,r27,o_1.fThing.fId,r28,(w64 (t_0.fCount+1))⟩).bind fun r29=>
     bif (!r29) then
      some (⟨⟨#[]⟩,0,[],0,⟨#[]⟩,0⟩,false)
     else
      some (⟨r2.fWord,r2.fTries,r27,o_1.fThing.fId,r28,(w64 (t_0.fCount+1))⟩,true)
     else none
     else
     (z5 t_0.fThings o_1.fThing).bind fun r30=>
     bif (decide ((t_0.fChain.size+r0.1.size)≤9223372036854775807)) then
     (z6 (t_0.fChain++r0.1)).bind fun r31=>
     (z1 ⟨r2.fWord,r2.fTries,r30,r2.fLast,r31,(w64 (t_0.fCount+1))⟩).bind fun r32=>
     bif (!r32) then
      some (⟨⟨#[]⟩,0,[],0,⟨#[]⟩,0⟩,false)
     else
      some (⟨r2.fWord,r2.fTries,r30,r2.fLast,r31,(w64 (t_0.fCount+1))⟩,true)
     else none
   else
    bif (o_1.fKind == 4) then
    (z3 t_0 o_1.fNum).bind fun r33=>
    bif (!r33.2) then
     some (⟨⟨#[]⟩,0,[],0,⟨#[]⟩,0⟩,false)
    else
     k (.c0 r0.1 0 t_0 o_1 ⟨#[]⟩ 0 0 ⟨#[]⟩ 0 r2.fWord r2.fTries r2.fLast r2.fChain r2.fCount [] [] r2.fThings)
    else
    bif (decide ((t_0.fChain.size+r0.1.size)≤9223372036854775807)) then
    (z6 (t_0.fChain++r0.1)).bind fun r34=>
    (z1 ⟨r2.fWord,r2.fTries,r2.fThings,r2.fLast,r34,(w64 (t_0.fCount+1))⟩).bind fun r35=>
    bif (!r35) then
     some (⟨⟨#[]⟩,0,[],0,⟨#[]⟩,0⟩,false)
    else
     some (⟨r2.fWord,r2.fTries,r2.fThings,r2.fLast,r34,(w64 (t_0.fCount+1))⟩,true)
    else none
noncomputable def Xl (z0:Nl) (z1:Ol) (z2:Md) (z3:Rl) (z4:Ul) (z5:Vl) (z6:Pg) (k:Lh→Option (SBook×Bool)):Lh→Option (SBook×Bool)
 | .c0 y_6 v_14 A_2 r_3 r_4c0 r_4c1 r_4c3 r_4c4 r_4c5 v_8c0 v_8c1 v_8c3 v_8c4 v_8c5 v_13 r_4r2 v_8r2=>
 bif (decide (v_14<(A_2.fThings.length:Int))) then
  bif ((decide (0≤v_14)) && (decide (v_14<(A_2.fThings.length:Int)))) then
  bif ((A_2.fThings.getD v_14.toNat (⟨0,0,false,false,false,false,⟨#[]⟩,0⟩:SThing)).fId != r_3.fNum) then
  bif ((decide (0≤v_14)) && (decide (v_14<(A_2.fThings.length:Int)))) then
  bif (decide (((v_13.length+1)*48)≤140737488355328)) then
  k (.c0 y_6 (w64 (v_14+1)) A_2 r_3 r_4c0 r_4c1 r_4c3 r_4c4 r_4c5 v_8c0 v_8c1 v_8c3 v_8c4 v_8c5 (v_13++[(A_2.fThings.getD v_14.toNat (⟨0,0,false,false,false,false,⟨#[]⟩,0⟩:SThing))]) r_4r2 v_8r2)
  else none
  else none
  else
  k (.c0 y_6 (w64 (v_14+1)) A_2 r_3 r_4c0 r_4c1 r_4c3 r_4c4 r_4c5 v_8c0 v_8c1 v_8c3 v_8c4 v_8c5 v_13 r_4r2 v_8r2)
  else none
 else
  bif (decide ((A_2.fChain.size+y_6.size)≤9223372036854775807)) then
  (z6 (A_2.fChain++y_6)).bind fun r0=>
  (z1 ⟨v_8c0,v_8c1,v_13,v_8c3,r0,(w64 (A_2.fCount+1))⟩).bind fun r1=>
  bif (!r1) then
  some (⟨⟨#[]⟩,0,[],0,⟨#[]⟩,0⟩,false)
  else
  some (⟨v_8c0,v_8c1,v_13,v_8c3,r0,(w64 (A_2.fCount+1))⟩,true)
  else none
noncomputable def Nh:Nat→Lh→Option (SBook×Bool)
 | 0,_=>none
 | m+1,s=>Xl Eb Ib ZY Td Jb Nb RZ (Nh m) s
noncomputable def Ob:Wl:=Vr Eb Ib ZY Td Jb Nb RZ (Nh gas)
theorem NAA:Tells ctx PP 64 cv59 cv60 (fun a=>Ob a.1 a.2):=
 have b:∀ z0 z1 z2 z3 z4 z5 z6,CutIs ctx PP 64 Tryd.f64 [] [(78,Zy z0),(109,Bz z1),(63,Il z2),(110,Fz z3),(111,Gz z4),(112,Iz z5),(95,Nq z6)] cv60 Jz (Xl z0 z1 z2 z3 z4 z5 z6):=fun z0 z1 z2 z3 z4 z5 z6 _ s=>by cases s <;> kernel_rfl
 have e:∀ z0 z1 z2 z3 z4 z5 z6,EntryIs ctx PP 64 [] [(78,Zy z0),(109,Bz z1),(63,Il z2),(110,Fz z3),(111,Gz z4),(112,Iz z5),(95,Nq z6)] cv59 cv60 Jz (fun k a=>Vr z0 z1 z2 z3 z4 z5 z6 k a.1 a.2):=fun z0 z1 z2 z3 z4 z5 z6 _ a=>by kernel_rfl
 fn_ok (hc IAA (hc JAA (hc Uy (hc KAA (hc LAA (hc MAA (hc Qy hl_nil))))))) Tryd.func64 (fun s s' h=>by cases s;cases s';(repeat cases ‹SBook›);(repeat cases ‹SRec›);(repeat cases ‹SThing›);cases h;rfl) (fun _=>rfl) (fun _ _=>rfl) (b Eb Ib ZY Td Jb Nb RZ) (e Eb Ib ZY Td Jb Nb RZ) gas
noncomputable def Kz {γ:Type} (F:Wl):Hd ctx γ:=hdl cv59.dec (fun a=>F a.1 a.2) cv60.enc
abbrev Xr:=SBook→(List SRec)→Option (SBook×Bool)
inductive Oh where
 | c0 (list_1:(List SRec)) (i_7:Int) (v_4c0:ByteArray) (v_4c1:Int) (v_4c3:Int) (v_4c4:ByteArray) (v_4c5:Int) (out_6c0:ByteArray) (out_6c1:Int) (out_6c3:Int) (out_6c4:ByteArray) (out_6c5:Int) (v_4r2:(List SThing)) (out_6r2:(List SThing))
noncomputable def Nz:Oh→LI
 | .c0 list_1 i_7 v_4c0 v_4c1 v_4c3 v_4c4 v_4c5 out_6c0 out_6c1 out_6c3 out_6c4 out_6c5 v_4r2 out_6r2=>(tdo Tryd.f26 464,[(1,[.one (.rsl 73 list_1)]),(4,[.one (.ptr 256 0)]),(6,[.one (.ptr 384 0)]),(7,[.one (.int .i64 i_7)])],[(256,.var [.str v_4c0,.int .i64 v_4c1,.own 1016386,.int .i64 v_4c3,.str v_4c4,.int .i64 v_4c5]),(384,.var [.str out_6c0,.int .i64 out_6c1,.own 1024578,.int .i64 out_6c3,.str out_6c4,.int .i64 out_6c5]),(1016386,.sl 71 v_4r2),(1024578,.sl 71 out_6r2)])
noncomputable def Yr (z0:Md) (z1:Wl) (k:Oh→Option (SBook×Bool)) (b_0:SBook) (list_1:(List SRec)):Option (SBook×Bool):=
 (z0 b_0).bind fun r0=>
 k (.c0 list_1 0 ⟨#[]⟩ 0 0 ⟨#[]⟩ 0 r0.fWord r0.fTries r0.fLast r0.fChain r0.fCount [] r0.fThings)
noncomputable def Yl (z0:Md) (z1:Wl) (k:Oh→Option (SBook×Bool)):Oh→Option (SBook×Bool)
 | .c0 list_1 i_7 v_4c0 v_4c1 v_4c3 v_4c4 v_4c5 out_6c0 out_6c1 out_6c3 out_6c4 out_6c5 v_4r2 out_6r2=>
 bif (decide (i_7<(list_1.length:Int))) then
  bif ((decide (0≤i_7)) && (decide (i_7<(list_1.length:Int)))) then
  (z1 ⟨out_6c0,out_6c1,out_6r2,out_6c3,out_6c4,out_6c5⟩ (list_1.getD i_7.toNat (⟨0,⟨#[]⟩,0,⟨0,0,false,false,false,false,⟨#[]⟩,0⟩⟩:SRec))).bind fun r0=>
  bif (!r0.2) then
  some (⟨⟨#[]⟩,0,[],0,⟨#[]⟩,0⟩,false)
  else
  k (.c0 list_1 (w64 (i_7+1)) v_4c0 v_4c1 v_4c3 v_4c4 v_4c5 r0.1.fWord r0.1.fTries r0.1.fLast r0.1.fChain r0.1.fCount v_4r2 r0.1.fThings)
  else none
 else
  some (⟨out_6c0,out_6c1,out_6r2,out_6c3,out_6c4,out_6c5⟩,true)
noncomputable def Ph:Nat→Oh→Option (SBook×Bool)
 | 0,_=>none
 | m+1,s=>Yl ZY Ob (Ph m) s
noncomputable def Qh:Xr:=Yr ZY Ob (Ph gas)
theorem OAA:Tells ctx PP 26 cv61 cv60 (fun a=>Qh a.1 a.2):=
 have b:∀ z0 z1,CutIs ctx PP 26 Tryd.f26 [] [(63,Il z0),(64,Kz z1)] cv60 Nz (Yl z0 z1):=fun z0 z1 _ s=>by cases s <;> kernel_rfl
 have e:∀ z0 z1,EntryIs ctx PP 26 [] [(63,Il z0),(64,Kz z1)] cv61 cv60 Nz (fun k a=>Yr z0 z1 k a.1 a.2):=fun z0 z1 _ a=>by kernel_rfl
 fn_ok (hc Uy (hc NAA hl_nil)) Tryd.func26 (fun s s' h=>by cases s;cases s';cases h;rfl) (fun _=>rfl) (fun _ _=>rfl) (b ZY Ob) (e ZY Ob) gas
noncomputable def PAA {γ:Type} (F:Xr):Hd ctx γ:=hdl cv61.dec (fun a=>F a.1 a.2) cv60.enc
abbrev Zr:=SBook→(List SRec)→Option Bool
noncomputable def Zl (z0:Qq) (z1:Xr) (b_0:SBook) (list_1:(List SRec)):Option Bool:=
 z0.bind fun r0=>
 (z1 r0 list_1).bind fun r1=>
 bif r1.2 then
 bif ((ByteArray.toList r1.1.fChain) == (ByteArray.toList b_0.fChain)) then
  some (r1.1.fCount == b_0.fCount)
 else
  some false
 else
 some false
noncomputable def Qb:Zr:=Zl Xg Qh
theorem QAA:Tells ctx PP 14 cv61 cv1 (fun a=>Qb a.1 a.2):=fn_ok0 (hc Y9 (hc OAA hl_nil)) Tryd.func14 ((fun z0 z1 a=>by kernel_rfl:∀ z0 z1,EntryIs0 ctx PP 14 [] [(42,Z9 z0),(26,PAA z1)] cv61 cv1 fun a=>Zl z0 z1 a.1 a.2) Xg Qh)
noncomputable def RAA {γ:Type} (F:Zr):Hd ctx γ:=hdl cv61.dec (fun a=>F a.1 a.2) cv1.enc
abbrev Es:=Option (List Int)
noncomputable def Oz  : Option (List Int):=
 some [1779033703,3144134277,1013904242,2773480762,1359893119,2600822924,528734635,1541459225]
noncomputable def Am:Es:=Oz
theorem SAA:Tells ctx PP 132 cv10 cv32 (fun _=>Am):=fn_ok0 hl_nil Tryd.func132 (fun _=>by kernel_rfl:EntryIs0 ctx PP 132 [] [] cv10 cv32 fun _=>Oz)
noncomputable def TAA {γ:Type} (F:Es):Hd ctx γ:=hdl cv10.dec (fun _=>F) cv32.enc
abbrev Cm:=Int→Option ByteArray
noncomputable def Gs (n_0:Int):Option ByteArray:=
 bif ((((decide (0≤n_0)) && (decide (n_0≤n_0))) && (decide (n_0≤9223372036854775807))) && (decide ((n_0.toNat*1)≤140737488355328))) then
 some (ofBytes (List.replicate n_0.toNat (0:Int)))
 else none
noncomputable def Ub:Cm:=Gs
theorem Pz:Tells ctx PP 99 cv2 cv3 (fun a=>Ub a):=fn_ok0 hl_nil Tryd.func99 (fun a=>by kernel_rfl:EntryIs0 ctx PP 99 [] [] cv2 cv3 fun a=>Gs a)
noncomputable def Qz {γ:Type} (F:Cm):Hd ctx γ:=hdl cv2.dec (fun a=>F a) cv3.enc
abbrev Rh:=Int→Option ByteArray
noncomputable def Js (n_0:Int):Option ByteArray:=
 some (ofBytes [(w8 (Int.fdiv n_0 (2 ^ (Min.min (24:Int).toNat (IntKind.bits IntKind.u32))))),(w8 (Int.fdiv n_0 (2 ^ (Min.min (16:Int).toNat (IntKind.bits IntKind.u32))))),(w8 (Int.fdiv n_0 (2 ^ (Min.min (8:Int).toNat (IntKind.bits IntKind.u32))))),(w8 n_0)])
noncomputable def WZ:Rh:=Js
theorem Rz:Tells ctx PP 85 cv7 cv3 (fun a=>WZ a):=fn_ok0 hl_nil Tryd.func85 (fun a=>by kernel_rfl:EntryIs0 ctx PP 85 [] [] cv7 cv3 fun a=>Js a)
noncomputable def Ls {γ:Type} (F:Rh):Hd ctx γ:=hdl cv7.dec (fun a=>F a) cv3.enc
abbrev Ns:=Int→Option ByteArray
noncomputable def Qs (z0:Rh) (n_0:Int):Option ByteArray:=
 (z0 (w32 (Int.fdiv n_0 (2 ^ (Min.min (32:Int).toNat (IntKind.bits IntKind.i64)))))).bind fun r0=>
 (z0 (w32 n_0)).bind fun r1=>
 bif (decide ((r0.size+r1.size)≤9223372036854775807)) then
 some (r0++r1)
 else none
noncomputable def Uh:Ns:=Qs WZ
theorem UAA:Tells ctx PP 155 cv2 cv3 (fun a=>Uh a):=fn_ok0 (hc Rz hl_nil) Tryd.func155 ((fun z0 a=>by kernel_rfl:∀ z0,EntryIs0 ctx PP 155 [] [(85,Ls z0)] cv2 cv3 fun a=>Qs z0 a) WZ)
noncomputable def VAA {γ:Type} (F:Ns):Hd ctx γ:=hdl cv2.dec (fun a=>F a) cv3.enc
abbrev Us:=Int→Option ByteArray
noncomputable def Vs (z0:Cm) (z1:Ns) (count_0:Int):Option ByteArray:=
 (z0 ((w64 (119 - (count_0.tmod 64))).tmod 64)).bind fun r0=>
 bif (decide (((⟨#[128]⟩:ByteArray).size+r0.size)≤9223372036854775807)) then
 (z1 (w64 (8*count_0))).bind fun r1=>
 bif (decide ((((⟨#[128]⟩:ByteArray)++r0).size+r1.size)≤9223372036854775807)) then
 some (((⟨#[128]⟩:ByteArray)++r0)++r1)
 else none
 else none
noncomputable def Vh:Us:=Vs Ub Uh
theorem WAA:Tells ctx PP 133 cv2 cv3 (fun a=>Vh a):=fn_ok0 (hc Pz (hc UAA hl_nil)) Tryd.func133 ((fun z0 z1 a=>by kernel_rfl:∀ z0 z1,EntryIs0 ctx PP 133 [] [(99,Qz z0),(155,VAA z1)] cv2 cv3 fun a=>Vs z0 z1 a) Ub Uh)
noncomputable def XAA {γ:Type} (F:Us):Hd ctx γ:=hdl cv2.dec (fun a=>F a) cv3.enc
abbrev Ws:=Int→Int→Option Int
noncomputable def Dt (x_0:Int) (k_1:Int):Option Int:=
 bif (decide (0≤(wu64 (32 - (wu64 (((BitVec.toNat ((BitVec.ofInt (IntKind.bits IntKind.u64) (wu64 k_1)) &&& (BitVec.ofInt (IntKind.bits IntKind.u64) 31))):Nat):Int)))))) then
 some (w32 (((BitVec.toNat ((BitVec.ofInt (IntKind.bits IntKind.u32) (w32 (x_0*(2 ^ (Min.min (wu64 (((BitVec.toNat ((BitVec.ofInt (IntKind.bits IntKind.u64) (wu64 k_1)) &&& (BitVec.ofInt (IntKind.bits IntKind.u64) 31))):Nat):Int)).toNat (IntKind.bits IntKind.u32)))))) ||| (BitVec.ofInt (IntKind.bits IntKind.u32) (Int.fdiv x_0 (2 ^ (Min.min (wu64 (32 - (wu64 (((BitVec.toNat ((BitVec.ofInt (IntKind.bits IntKind.u64) (wu64 k_1)) &&& (BitVec.ofInt (IntKind.bits IntKind.u64) 31))):Nat):Int)))).toNat (IntKind.bits IntKind.u32))))))):Nat):Int))
 else none
noncomputable def Wh:Ws:=Dt
theorem YAA:Tells ctx PP 161 cv33 cv7 (fun a=>Wh a.1 a.2):=fn_ok0 hl_nil Tryd.func161 (fun a=>by kernel_rfl:EntryIs0 ctx PP 161 [] [] cv33 cv7 fun a=>Dt a.1 a.2)
noncomputable def ZAA {γ:Type} (F:Ws):Hd ctx γ:=hdl cv33.dec (fun a=>F a.1 a.2) cv7.enc
abbrev Vd:=Int→Int→Option Int
noncomputable def Et (z0:Ws) (x_0:Int) (n_1:Int):Option Int:=
 (z0 x_0 (w64 (0 - n_1))).bind fun r0=>
 some r0
noncomputable def RX:Vd:=Et Wh
theorem Sz:Tells ctx PP 159 cv33 cv7 (fun a=>RX a.1 a.2):=fn_ok0 (hc YAA hl_nil) Tryd.func159 ((fun z0 a=>by kernel_rfl:∀ z0,EntryIs0 ctx PP 159 [] [(161,ZAA z0)] cv33 cv7 fun a=>Et z0 a.1 a.2) Wh)
noncomputable def Em {γ:Type} (F:Vd):Hd ctx γ:=hdl cv33.dec (fun a=>F a.1 a.2) cv7.enc
abbrev Gm:=ByteArray→Option (List Int)
inductive Xh where
 | c0 (block_0:ByteArray) (v_11:Int) (v_2r0:(List Int)) (w_3r0:(List Int))
 | c1 (block_0:ByteArray) (i_4:Int) (v_11:Int) (v_14:Int) (v_2r0:(List Int)) (w_3r0:(List Int))
 | c2 (t_6:Int) (v_2r0:(List Int)) (w_3r0:(List Int))
noncomputable def Tz:Xh→LI
 | .c0 block_0 v_11 v_2r0 w_3r0=>(tdo Tryd.f158 232,[(0,[.one (.str block_0)]),(2,[.one (.ptr 128 0)]),(3,[.one (.ptr 192 0)]),(11,[.one (.int .i64 v_11)])],[(128,.ar 119 v_2r0),(192,.ar 119 w_3r0)])
 | .c1 block_0 i_4 v_11 v_14 v_2r0 w_3r0=>(tdo Tryd.f158 59800,[(0,[.one (.str block_0)]),(2,[.one (.ptr 128 0)]),(3,[.one (.ptr 192 0)]),(4,[.one (.int .i64 i_4)]),(11,[.one (.int .i64 v_11)]),(14,[.one (.int .i64 v_14)])],[(128,.ar 119 v_2r0),(192,.ar 119 w_3r0)])
 | .c2 t_6 v_2r0 w_3r0=>(tdo Tryd.f158 976,[(2,[.one (.ptr 128 0)]),(3,[.one (.ptr 192 0)]),(6,[.one (.int .i64 t_6)])],[(128,.ar 119 v_2r0),(192,.ar 119 w_3r0)])
noncomputable def Gt (z0:Vd) (k:Xh→Option (List Int)) (block_0:ByteArray):Option (List Int):=
 k (.c0 block_0 0 (List.replicate 64 (0:Int)) (List.replicate 64 (0:Int)))
noncomputable def La (z0:Vd) (k:Xh→Option (List Int)):Xh→Option (List Int)
 | .c0 block_0 v_11 v_2r0 w_3r0=>
 bif (decide (v_11<16)) then
  k (.c1 block_0 v_11 v_11 0 v_2r0 w_3r0)
 else
  k (.c2 16 v_2r0 w_3r0)
 | .c1 block_0 i_4 v_11 v_14 v_2r0 w_3r0=>
 bif (decide (v_14<4)) then
  bif (Nat.beq 64 w_3r0.length) then
  bif ((decide (0≤i_4)) && (decide (i_4<(w_3r0.length:Int)))) then
  bif ((decide (0≤(w64 ((w64 (4*i_4))+v_14)))) && (decide ((w64 ((w64 (4*i_4))+v_14))<(block_0.size:Int)))) then
  bif (Nat.beq 64 w_3r0.length) then
  bif ((decide (0≤i_4)) && (decide (i_4<(w_3r0.length:Int)))) then
  k (.c1 block_0 i_4 v_11 (w64 (v_14+1)) v_2r0 (w_3r0.set i_4.toNat (w32 (((BitVec.toNat ((BitVec.ofInt (IntKind.bits IntKind.u32) (w32 ((w_3r0.getD i_4.toNat 0)*(2 ^ (Min.min (8:Int).toNat (IntKind.bits IntKind.u32)))))) ||| (BitVec.ofInt (IntKind.bits IntKind.u32) (w32 (bt block_0 (w64 ((w64 (4*i_4))+v_14))))))):Nat):Int))))
  else none
  else none
  else none
  else none
  else none
 else
  k (.c0 block_0 (w64 (v_11+1)) v_2r0 w_3r0)
 | .c2 t_6 v_2r0 w_3r0=>
 bif (decide (t_6<64)) then
  bif (Nat.beq 64 w_3r0.length) then
  bif ((decide (0≤(w64 (t_6 - 15)))) && (decide ((w64 (t_6 - 15))<(w_3r0.length:Int)))) then
  bif (Nat.beq 64 w_3r0.length) then
  bif ((decide (0≤(w64 (t_6 - 2)))) && (decide ((w64 (t_6 - 2))<(w_3r0.length:Int)))) then
  (z0 (w_3r0.getD (w64 (t_6 - 15)).toNat 0) 7).bind fun r0=>
  (z0 (w_3r0.getD (w64 (t_6 - 15)).toNat 0) 18).bind fun r1=>
  (z0 (w_3r0.getD (w64 (t_6 - 2)).toNat 0) 17).bind fun r2=>
  (z0 (w_3r0.getD (w64 (t_6 - 2)).toNat 0) 19).bind fun r3=>
  bif (Nat.beq 64 w_3r0.length) then
  bif ((decide (0≤(w64 (t_6 - 7)))) && (decide ((w64 (t_6 - 7))<(w_3r0.length:Int)))) then
  bif (Nat.beq 64 w_3r0.length) then
  bif ((decide (0≤(w64 (t_6 - 16)))) && (decide ((w64 (t_6 - 16))<(w_3r0.length:Int)))) then
  bif (Nat.beq 64 w_3r0.length) then
  bif ((decide (0≤t_6)) && (decide (t_6<(w_3r0.length:Int)))) then
  k (.c2 (w64 (t_6+1)) v_2r0 (w_3r0.set t_6.toNat (w32 ((w32 ((w32 ((w32 (((BitVec.toNat ((BitVec.ofInt (IntKind.bits IntKind.u32) (w32 (((BitVec.toNat ((BitVec.ofInt (IntKind.bits IntKind.u32) r2) ^^^ (BitVec.ofInt (IntKind.bits IntKind.u32) r3))):Nat):Int))) ^^^ (BitVec.ofInt (IntKind.bits IntKind.u32) (Int.fdiv (w_3r0.getD (w64 (t_6 - 2)).toNat 0) (2 ^ (Min.min (10:Int).toNat (IntKind.bits IntKind.u32))))))):Nat):Int))+(w_3r0.getD (w64 (t_6 - 7)).toNat 0)))+(w32 (((BitVec.toNat ((BitVec.ofInt (IntKind.bits IntKind.u32) (w32 (((BitVec.toNat ((BitVec.ofInt (IntKind.bits IntKind.u32) r0) ^^^ (BitVec.ofInt (IntKind.bits IntKind.u32) r1))):Nat):Int))) ^^^ (BitVec.ofInt (IntKind.bits IntKind.u32) (Int.fdiv (w_3r0.getD (w64 (t_6 - 15)).toNat 0) (2 ^ (Min.min (3:Int).toNat (IntKind.bits IntKind.u32))))))):Nat):Int))))+(w_3r0.getD (w64 (t_6 - 16)).toNat 0)))))
  else none
  else none
  else none
  else none
  else none
  else none
  else none
  else none
  else none
  else none
 else
  bif (Nat.beq 64 w_3r0.length) then
  bif ((Nat.beq w_3r0.length v_2r0.length) && (Nat.beq 64 w_3r0.length)) then
  bif ((Nat.beq 64 w_3r0.length) && true) then
  some w_3r0
  else none
  else none
  else none
noncomputable def PY:Nat→Xh→Option (List Int)
 | 0,_=>none
 | m+1,s=>La RX (PY m) s
noncomputable def Vb:Gm:=Gt RX (PY gas)
theorem AAB:Tells ctx PP 158 cv3 cv32 (fun a=>Vb a):=
 have b:∀ z0,CutIs ctx PP 158 Tryd.f158 [] [(159,Em z0)] cv32 Tz (La z0):=fun z0 _ s=>by cases s <;> kernel_rfl
 have e:∀ z0,EntryIs ctx PP 158 [] [(159,Em z0)] cv3 cv32 Tz (fun k a=>Gt z0 k a):=fun z0 _ a=>by kernel_rfl
 fn_ok (hc Sz hl_nil) Tryd.func158 (fun s s' h=>by cases s <;> cases s' <;> first | (cases h;done) | (cases h;rfl) | exact (rg_ne h (by kernel_rfl)).elim) (fun _=>rfl) (fun _ _=>rfl) (b RX) (e RX) gas
noncomputable def Uz {γ:Type} (F:Gm):Hd ctx γ:=hdl cv3.dec (fun a=>F a) cv32.enc
abbrev Jm:=(List Int)→ByteArray→Option (List Int)
inductive Yh where
 | c0 (a_6:Int) (b_7:Int) (c_8:Int) (d_9:Int) (e_10:Int) (f_11:Int) (g_12:Int) (h_13:Int) (v_37:Int) (state_2r0:(List Int)) (v_4r0:(List Int)) (w_5r0:(List Int))
 | c1 (v_109:Int) (state_2r0:(List Int)) (v_4r0:(List Int)) (out_17r0:(List Int))
noncomputable def Vz:Yh→LI
 | .c0 a_6 b_7 c_8 d_9 e_10 f_11 g_12 h_13 v_37 state_2r0 v_4r0 w_5r0=>(tdo Tryd.f154 488,[(2,[.one (.ptr 128 0)]),(4,[.one (.ptr 256 0)]),(5,[.one (.ptr 320 0)]),(6,[.one (.int .u32 a_6)]),(7,[.one (.int .u32 b_7)]),(8,[.one (.int .u32 c_8)]),(9,[.one (.int .u32 d_9)]),(10,[.one (.int .u32 e_10)]),(11,[.one (.int .u32 f_11)]),(12,[.one (.int .u32 g_12)]),(13,[.one (.int .u32 h_13)]),(37,[.one (.int .i64 v_37)])],[(128,.ar 119 state_2r0),(256,.ar 119 v_4r0),(320,.ar 119 w_5r0)])
 | .c1 v_109 state_2r0 v_4r0 out_17r0=>(tdo Tryd.f154 2024,[(2,[.one (.ptr 128 0)]),(4,[.one (.ptr 256 0)]),(17,[.one (.ptr 1088 0)]),(109,[.one (.int .i64 v_109)])],[(128,.ar 119 state_2r0),(256,.ar 119 v_4r0),(1088,.ar 119 out_17r0)])
noncomputable def Ht (z0:Gm) (z1:Vd) (k:Yh→Option (List Int)) (state_0:(List Int)) (block_1:ByteArray):Option (List Int):=
 (z0 block_1).bind fun r0=>
 bif ((Nat.beq r0.length (List.replicate 64 (0:Int)).length) && (Nat.beq 64 r0.length)) then
 bif (Nat.beq 8 state_0.length) then
 bif ((decide ((0:Int)≤(0:Int))) && (decide (0<(state_0.length:Int)))) then
 bif (Nat.beq 8 state_0.length) then
 bif ((decide ((0:Int)≤(1:Int))) && (decide (1<(state_0.length:Int)))) then
 bif (Nat.beq 8 state_0.length) then
 bif ((decide ((0:Int)≤(2:Int))) && (decide (2<(state_0.length:Int)))) then
 bif (Nat.beq 8 state_0.length) then
 bif ((decide ((0:Int)≤(3:Int))) && (decide (3<(state_0.length:Int)))) then
 bif (Nat.beq 8 state_0.length) then
 bif ((decide ((0:Int)≤(4:Int))) && (decide (4<(state_0.length:Int)))) then
 bif (Nat.beq 8 state_0.length) then
 bif ((decide ((0:Int)≤(5:Int))) && (decide (5<(state_0.length:Int)))) then
 bif (Nat.beq 8 state_0.length) then
 bif ((decide ((0:Int)≤(6:Int))) && (decide (6<(state_0.length:Int)))) then
 bif (Nat.beq 8 state_0.length) then
 bif ((decide ((0:Int)≤(7:Int))) && (decide (7<(state_0.length:Int)))) then
 k (.c0 (state_0.getD (0:Int).toNat 0) (state_0.getD (1:Int).toNat 0) (state_0.getD (2:Int).toNat 0) (state_0.getD (3:Int).toNat 0) (state_0.getD (4:Int).toNat 0) (state_0.getD (5:Int).toNat 0) (state_0.getD (6:Int).toNat 0) (state_0.getD (7:Int).toNat 0) 0 state_0 [0,0,0,0,0,0,0,0] r0)
 else none
 else none
 else none
 else none
 else none
 else none
 else none
 else none
 else none
 else none
 else none
 else none
 else none
 else none
 else none
 else none
 else none
noncomputable def Xd (z0:Gm) (z1:Vd) (k:Yh→Option (List Int)):Yh→Option (List Int)
 | .c0 a_6 b_7 c_8 d_9 e_10 f_11 g_12 h_13 v_37 state_2r0 v_4r0 w_5r0=>
 bif (decide (v_37<64)) then
  (z1 e_10 6).bind fun r0=>
  (z1 e_10 11).bind fun r1=>
  (z1 e_10 25).bind fun r2=>
  bif ((decide (0≤v_37)) && (decide (v_37<((64:Nat):Int)))) then
  bif (Nat.blt v_37.toNat 64) then
  bif (Nat.beq 64 w_5r0.length) then
  bif ((decide (0≤v_37)) && (decide (v_37<(w_5r0.length:Int)))) then
  (z1 a_6 2).bind fun r3=>
  (z1 a_6 13).bind fun r4=>
  (z1 a_6 22).bind fun r5=>
  k (.c0 (w32 ((w32 ((w32 ((w32 ((w32 (h_13+(w32 (((BitVec.toNat ((BitVec.ofInt (IntKind.bits IntKind.u32) (w32 (((BitVec.toNat ((BitVec.ofInt (IntKind.bits IntKind.u32) r0) ^^^ (BitVec.ofInt (IntKind.bits IntKind.u32) r1))):Nat):Int))) ^^^ (BitVec.ofInt (IntKind.bits IntKind.u32) r2))):Nat):Int))))+(w32 (((BitVec.toNat ((BitVec.ofInt (IntKind.bits IntKind.u32) (w32 (((BitVec.toNat ((BitVec.ofInt (IntKind.bits IntKind.u32) e_10) &&& (BitVec.ofInt (IntKind.bits IntKind.u32) f_11))):Nat):Int))) ^^^ (BitVec.ofInt (IntKind.bits IntKind.u32) (w32 (((BitVec.toNat ((BitVec.ofInt (IntKind.bits IntKind.u32) (w32 (((BitVec.toNat ((BitVec.ofInt (IntKind.bits IntKind.u32) (ite ((IntKind.signed IntKind.u32)=true) (-(1:Int)) (IntKind.max IntKind.u32))) ^^^ (BitVec.ofInt (IntKind.bits IntKind.u32) e_10))):Nat):Int))) &&& (BitVec.ofInt (IntKind.bits IntKind.u32) g_12))):Nat):Int))))):Nat):Int))))+([(1116352408:Int),(1899447441:Int),(3049323471:Int),(3921009573:Int),(961987163:Int),(1508970993:Int),(2453635748:Int),(2870763221:Int),(3624381080:Int),(310598401:Int),(607225278:Int),(1426881987:Int),(1925078388:Int),(2162078206:Int),(2614888103:Int),(3248222580:Int),(3835390401:Int),(4022224774:Int),(264347078:Int),(604807628:Int),(770255983:Int),(1249150122:Int),(1555081692:Int),(1996064986:Int),(2554220882:Int),(2821834349:Int),(2952996808:Int),(3210313671:Int),(3336571891:Int),(3584528711:Int),(113926993:Int),(338241895:Int),(666307205:Int),(773529912:Int),(1294757372:Int),(1396182291:Int),(1695183700:Int),(1986661051:Int),(2177026350:Int),(2456956037:Int),(2730485921:Int),(2820302411:Int),(3259730800:Int),(3345764771:Int),(3516065817:Int),(3600352804:Int),(4094571909:Int),(275423344:Int),(430227734:Int),(506948616:Int),(659060556:Int),(883997877:Int),(958139571:Int),(1322822218:Int),(1537002063:Int),(1747873779:Int),(1955562222:Int),(2024104815:Int),(2227730452:Int),(2361852424:Int),(2428436474:Int),(2756734187:Int),(3204031479:Int),(3329325298:Int)].getD v_37.toNat 0)))+(w_5r0.getD v_37.toNat 0)))+(w32 ((w32 (((BitVec.toNat ((BitVec.ofInt (IntKind.bits IntKind.u32) (w32 (((BitVec.toNat ((BitVec.ofInt (IntKind.bits IntKind.u32) r3) ^^^ (BitVec.ofInt (IntKind.bits IntKind.u32) r4))):Nat):Int))) ^^^ (BitVec.ofInt (IntKind.bits IntKind.u32) r5))):Nat):Int))+(w32 (((BitVec.toNat ((BitVec.ofInt (IntKind.bits IntKind.u32) (w32 (((BitVec.toNat ((BitVec.ofInt (IntKind.bits IntKind.u32) (w32 (((BitVec.toNat ((BitVec.ofInt (IntKind.bits IntKind.u32) a_6) &&& (BitVec.ofInt (IntKind.bits IntKind.u32) b_7))):Nat):Int))) ^^^ (BitVec.ofInt (IntKind.bits IntKind.u32) (w32 (((BitVec.toNat ((BitVec.ofInt (IntKind.bits IntKind.u32) a_6) &&& (BitVec.ofInt (IntKind.bits IntKind.u32) c_8))):Nat):Int))))):Nat):Int))) ^^^ (BitVec.ofInt (IntKind.bits IntKind.u32) (w32 (((BitVec.toNat ((BitVec.ofInt (IntKind.bits IntKind.u32) b_7) &&& (BitVec.ofInt (IntKind.bits IntKind.u32) c_8))):Nat):Int))))):Nat):Int)))))) a_6 b_7 c_8 (w32 (d_9+(w32 ((w32 ((w32 ((w32 (h_13+(w32 (((BitVec.toNat ((BitVec.ofInt (IntKind.bits IntKind.u32) (w32 (((BitVec.toNat ((BitVec.ofInt (IntKind.bits IntKind.u32) r0) ^^^ (BitVec.ofInt (IntKind.bits IntKind.u32) r1))):Nat):Int))) ^^^ (BitVec.ofInt (IntKind.bits IntKind.u32) r2))):Nat):Int))))+(w32 (((BitVec.toNat ((BitVec.ofInt (IntKind.bits IntKind.u32) (w32 (((BitVec.toNat ((BitVec.ofInt (IntKind.bits IntKind.u32) e_10) &&& (BitVec.ofInt (IntKind.bits IntKind.u32) f_11))):Nat):Int))) ^^^ (BitVec.ofInt (IntKind.bits IntKind.u32) (w32 (((BitVec.toNat ((BitVec.ofInt (IntKind.bits IntKind.u32) (w32 (((BitVec.toNat ((BitVec.ofInt (IntKind.bits IntKind.u32) (ite ((IntKind.signed IntKind.u32)=true) (-(1:Int)) (IntKind.max IntKind.u32))) ^^^ (BitVec.ofInt (IntKind.bits IntKind.u32) e_10))):Nat):Int))) &&& (BitVec.ofInt (IntKind.bits IntKind.u32) g_12))):Nat):Int))))):Nat):Int))))+([(1116352408:Int),(1899447441:Int),(3049323471:Int),(3921009573:Int),(961987163:Int),(1508970993:Int),(2453635748:Int),(2870763221:Int),(3624381080:Int),(310598401:Int),(607225278:Int),(1426881987:Int),(1925078388:Int),(2162078206:Int),(2614888103:Int),(3248222580:Int),(3835390401:Int),(4022224774:Int),(264347078:Int),(604807628:Int),(770255983:Int),(1249150122:Int),(1555081692:Int),(1996064986:Int),(2554220882:Int),(2821834349:Int),(2952996808:Int),(3210313671:Int),(3336571891:Int),(3584528711:Int),(113926993:Int),(338241895:Int),(666307205:Int),(773529912:Int),(1294757372:Int),(1396182291:Int),(1695183700:Int),(1986661051:Int),(2177026350:Int),(2456956037:Int),(2730485921:Int),(2820302411:Int),(3259730800:Int),(3345764771:Int),(3516065817:Int),(3600352804:Int),(4094571909:Int),(275423344:Int),(430227734:Int),(506948616:Int),(659060556:Int),(883997877:Int),(958139571:Int),(1322822218:Int),(1537002063:Int),(1747873779:Int),(1955562222:Int),(2024104815:Int),(2227730452:Int),(2361852424:Int),(2428436474:Int),(2756734187:Int),(3204031479:Int),(3329325298:Int)].getD v_37.toNat 0)))+(w_5r0.getD v_37.toNat 0))))) e_10 f_11 g_12 (w64 (v_37+1)) state_2r0 v_4r0 w_5r0)
  else none
  else none
  else none
  else none
 else
  k (.c1 0 state_2r0 v_4r0 [a_6,b_7,c_8,d_9,e_10,f_11,g_12,h_13])
 | .c1 v_109 state_2r0 v_4r0 out_17r0=>
 bif (decide (v_109<8)) then
  bif (Nat.beq 8 out_17r0.length) then
  bif ((decide (0≤v_109)) && (decide (v_109<(out_17r0.length:Int)))) then
  bif (Nat.beq 8 state_2r0.length) then
  bif ((decide (0≤v_109)) && (decide (v_109<(state_2r0.length:Int)))) then
  bif (Nat.beq 8 out_17r0.length) then
  bif ((decide (0≤v_109)) && (decide (v_109<(out_17r0.length:Int)))) then
  k (.c1 (w64 (v_109+1)) state_2r0 v_4r0 (out_17r0.set v_109.toNat (w32 ((out_17r0.getD v_109.toNat 0)+(state_2r0.getD v_109.toNat 0)))))
  else none
  else none
  else none
  else none
  else none
  else none
 else
  bif (Nat.beq 8 out_17r0.length) then
  bif ((Nat.beq out_17r0.length v_4r0.length) && (Nat.beq 8 out_17r0.length)) then
  bif ((Nat.beq 8 out_17r0.length) && true) then
  some out_17r0
  else none
  else none
  else none
noncomputable def AZ:Nat→Yh→Option (List Int)
 | 0,_=>none
 | m+1,s=>Xd Vb RX (AZ m) s
noncomputable def Xb:Jm:=Ht Vb RX (AZ gas)
theorem BAB:Tells ctx PP 154 cv34 cv32 (fun a=>Xb a.1 a.2):=
 have b:∀ z0 z1,CutIs ctx PP 154 Tryd.f154 [] [(158,Uz z0),(159,Em z1)] cv32 Vz (Xd z0 z1):=fun z0 z1 _ s=>by cases s <;> kernel_rfl
 have e:∀ z0 z1,EntryIs ctx PP 154 [] [(158,Uz z0),(159,Em z1)] cv34 cv32 Vz (fun k a=>Ht z0 z1 k a.1 a.2):=fun z0 z1 _ a=>by kernel_rfl
 fn_ok (hc AAB (hc Sz hl_nil)) Tryd.func154 (fun s s' h=>by cases s <;> cases s' <;> first | (cases h;done) | (cases h;rfl) | exact (rg_ne h (by kernel_rfl)).elim) (fun _=>rfl) (fun _ _=>rfl) (b Vb RX) (e Vb RX) gas
noncomputable def Xz {γ:Type} (F:Jm):Hd ctx γ:=hdl cv34.dec (fun a=>F a.1 a.2) cv32.enc
abbrev Jt:=(List Int)→ByteArray→Option ((List Int)×ByteArray)
inductive Zh where
 | c0 (s_1:ByteArray) (state_2r0:(List Int)) (v_4r0:(List Int))
noncomputable def Yz:Zh→LI
 | .c0 s_1 state_2r0 v_4r0=>(tdo Tryd.f131 96,[(1,[.one (.str s_1)]),(2,[.one (.ptr 128 0)]),(4,[.one (.ptr 256 0)])],[(128,.ar 119 state_2r0),(256,.ar 119 v_4r0)])
noncomputable def Kt (z0:Jm) (k:Zh→Option ((List Int)×ByteArray)) (state_0:(List Int)) (s_1:ByteArray):Option ((List Int)×ByteArray):=
 k (.c0 s_1 state_0 [0,0,0,0,0,0,0,0])
noncomputable def Lm (z0:Jm) (k:Zh→Option ((List Int)×ByteArray)):Zh→Option ((List Int)×ByteArray)
 | .c0 s_1 state_2r0 v_4r0=>
 bif (decide ((s_1.size:Int)≥64)) then
  bif (Nat.beq 8 state_2r0.length) then
  bif ((decide ((0:Int)≤(64:Int))) && (decide (64≤(s_1.size:Int)))) then
  (z0 state_2r0 (s_1.extract 0 (64:Int).toNat)).bind fun r0=>
  bif ((Nat.beq r0.length state_2r0.length) && (Nat.beq 8 r0.length)) then
  bif ((decide ((0:Int)≤(64:Int))) && (decide (64≤(s_1.size:Int)))) then
  k (.c0 (s_1.extract (64:Int).toNat s_1.size) r0 v_4r0)
  else none
  else none
  else none
  else none
 else
  bif (Nat.beq 8 state_2r0.length) then
  bif ((Nat.beq state_2r0.length v_4r0.length) && (Nat.beq 8 state_2r0.length)) then
  bif ((Nat.beq 8 state_2r0.length) && true) then
  some (state_2r0,s_1)
  else none
  else none
  else none
noncomputable def Ai:Nat→Zh→Option ((List Int)×ByteArray)
 | 0,_=>none
 | m+1,s=>Lm Xb (Ai m) s
noncomputable def Ci:Jt:=Kt Xb (Ai gas)
theorem CAB:Tells ctx PP 131 cv34 cv34 (fun a=>Ci a.1 a.2):=
 have b:∀ z0,CutIs ctx PP 131 Tryd.f131 [] [(154,Xz z0)] cv34 Yz (Lm z0):=fun z0 _ s=>by cases s <;> kernel_rfl
 have e:∀ z0,EntryIs ctx PP 131 [] [(154,Xz z0)] cv34 cv34 Yz (fun k a=>Kt z0 k a.1 a.2):=fun z0 _ a=>by kernel_rfl
 fn_ok (hc BAB hl_nil) Tryd.func131 (fun s s' h=>by cases s;cases s';cases h;rfl) (fun _=>rfl) (fun _ _=>rfl) (b Xb) (e Xb) gas
noncomputable def DAB {γ:Type} (F:Jt):Hd ctx γ:=hdl cv34.dec (fun a=>F a.1 a.2) cv34.enc
abbrev Ot:=(List Int)→Option ByteArray
inductive Di where
 | c0 (out_3:ByteArray) (v_6:(List Int)) (v_7:Int)
noncomputable def Zz:Di→LI
 | .c0 out_3 v_6 v_7=>(tdo Tryd.f134 232,[(3,[.one (.str out_3)]),(6,[.arr 119 v_6]),(7,[.one (.int .i64 v_7)])],[])
noncomputable def Rt (z0:Rh) (k:Di→Option ByteArray) (state_0:(List Int)):Option ByteArray:=
 bif (Nat.beq 8 state_0.length) then
 k (.c0 ⟨#[]⟩ state_0 0)
 else none
noncomputable def Om (z0:Rh) (k:Di→Option ByteArray):Di→Option ByteArray
 | .c0 out_3 v_6 v_7=>
 bif (decide (v_7<8)) then
  bif (Nat.beq 8 v_6.length) then
  bif ((decide (0≤v_7)) && (decide (v_7<(v_6.length:Int)))) then
  (z0 (v_6.getD v_7.toNat 0)).bind fun r0=>
  bif (decide ((out_3.size+r0.size)≤9223372036854775807)) then
  k (.c0 (out_3++r0) v_6 (w64 (v_7+1)))
  else none
  else none
  else none
 else
  some out_3
noncomputable def Ei:Nat→Di→Option ByteArray
 | 0,_=>none
 | m+1,s=>Om WZ (Ei m) s
noncomputable def Gi:Ot:=Rt WZ (Ei gas)
theorem EAB:Tells ctx PP 134 cv32 cv3 (fun a=>Gi a):=
 have b:∀ z0,CutIs ctx PP 134 Tryd.f134 [] [(85,Ls z0)] cv3 Zz (Om z0):=fun z0 _ s=>by cases s <;> kernel_rfl
 have e:∀ z0,EntryIs ctx PP 134 [] [(85,Ls z0)] cv32 cv3 Zz (fun k a=>Rt z0 k a):=fun z0 _ a=>by kernel_rfl
 fn_ok (hc Rz hl_nil) Tryd.func134 (fun s s' h=>by cases s;cases s';cases h;rfl) (fun _=>rfl) (fun _ _=>rfl) (b WZ) (e WZ) gas
noncomputable def FAB {γ:Type} (F:Ot):Hd ctx γ:=hdl cv32.dec (fun a=>F a) cv3.enc
abbrev Pm:=ByteArray→Option ByteArray
noncomputable def Tt (z0:Es) (z1:Us) (z2:Jt) (z3:Ot) (s_0:ByteArray):Option ByteArray:=
 z0.bind fun r0=>
 (z1 (s_0.size:Int)).bind fun r1=>
 bif (decide ((s_0.size+r1.size)≤9223372036854775807)) then
 (z2 r0 (s_0++r1)).bind fun r2=>
 bif ((Nat.beq r2.1.length 8) && (Nat.beq 8 r2.1.length)) then
 bif (Nat.beq 8 r2.1.length) then
 (z3 r2.1).bind fun r3=>
 some r3
 else none
 else none
 else none
noncomputable def Yb:Pm:=Tt Am Vh Ci Gi
theorem O0:Tells ctx PP 98 cv3 cv3 (fun a=>Yb a):=fn_ok0 (hc SAA (hc WAA (hc CAB (hc EAB hl_nil)))) Tryd.func98 ((fun z0 z1 z2 z3 a=>by kernel_rfl:∀ z0 z1 z2 z3,EntryIs0 ctx PP 98 [] [(132,TAA z0),(133,XAA z1),(131,DAB z2),(134,FAB z3)] cv3 cv3 fun a=>Tt z0 z1 z2 z3 a) Am Vh Ci Gi)
noncomputable def U0 {γ:Type} (F:Pm):Hd ctx γ:=hdl cv3.dec (fun a=>F a) cv3.enc
abbrev Ut:=Option SBook
noncomputable def Vt (z0:Pm) (z1:Cm)  : Option SBook:=
 (z0 ⟨#[]⟩).bind fun r0=>
 (z1 32).bind fun r1=>
 some ⟨r0,0,[],0,r1,0⟩
noncomputable def Ii:Ut:=Vt Yb Ub
theorem GAB:Tells ctx PP 45 cv10 cv52 (fun _=>Ii):=fn_ok0 (hc O0 (hc Pz hl_nil)) Tryd.func45 ((fun z0 z1 _=>by kernel_rfl:∀ z0 z1,EntryIs0 ctx PP 45 [] [(98,U0 z0),(99,Qz z1)] cv10 cv52 fun _=>Vt z0 z1) Yb Ub)
noncomputable def IAB {γ:Type} (F:Ut):Hd ctx γ:=hdl cv10.dec (fun _=>F) cv52.enc
abbrev Ji:=SBook→Option SBook
noncomputable def Xt (b_0:SBook):Option SBook:=
 bif (decide ((b_0.fThings.length*48)≤140737488355328)) then
 some b_0
 else none
noncomputable def XZ:Ji:=Xt
theorem X0:Tells ctx PP 65 cv56 cv52 (fun a=>XZ a):=fn_ok0 hl_nil Tryd.func65 (fun a=>by kernel_rfl:EntryIs0 ctx PP 65 [] [] cv56 cv52 fun a=>Xt a)
noncomputable def Yt {γ:Type} (F:Ji):Hd ctx γ:=hdl cv56.dec (fun a=>F a) cv52.enc
abbrev Oi:=Int→Option ByteArray
inductive Qi where
 | c0 (n_0:Int) (out_3:(List Int))
noncomputable def Y0:Qi→LI
 | .c0 n_0 out_3=>(tdo Tryd.f92 224,[(0,[.one (.int .i64 n_0)]),(3,[.one (.own 240)])],[(240,.sl 5 out_3)])
noncomputable def O1 (k:Qi→Option ByteArray) (n_0:Int):Option ByteArray:=
 k (.c0 n_0 [])
noncomputable def Qm (k:Qi→Option ByteArray):Qi→Option ByteArray
 | .c0 n_0 out_3=>
 bif (decide (n_0 > 127)) then
  bif (decide (((out_3.length+1)*1)≤140737488355328)) then
  k (.c0 (w64 (n_0.tdiv 128)) (out_3++[(w8 (w64 (128+(n_0.tmod 128))))]))
  else none
 else
  bif (decide (((out_3.length+1)*1)≤140737488355328)) then
  some (ofBytes (out_3++[(w8 n_0)]))
  else none
noncomputable def Ri:Nat→Qi→Option ByteArray
 | 0,_=>none
 | m+1,s=>Qm (Ri m) s
noncomputable def Na:Oi:=O1 (Ri gas)
theorem Zt:Tells ctx PP 92 cv2 cv3 (fun a=>Na a):=
 have b:CutIs ctx PP 92 Tryd.f92 [] [] cv3 Y0 (Qm):=fun _ s=>by cases s <;> kernel_rfl
 have e:EntryIs ctx PP 92 [] [] cv2 cv3 Y0 (fun k a=>O1 k a):=fun _ a=>by kernel_rfl
 fn_ok hl_nil Tryd.func92 (fun s s' h=>by cases s;cases s';cases h;rfl) (fun _=>rfl) (fun _ _=>rfl) b e gas
noncomputable def Au {γ:Type} (F:Oi):Hd ctx γ:=hdl cv2.dec (fun a=>F a) cv3.enc
abbrev Yd:=Int→Int→Int→Option Bool
noncomputable def U1 (n_0:Int) (low_1:Int) (high_2:Int):Option Bool:=
 bif (decide (n_0≥low_1)) then
 some (decide (n_0≤high_2))
 else
 some false
noncomputable def JZ:Yd:=U1
theorem Du:Tells ctx PP 84 cv0 cv1 (fun a=>JZ a.1 a.2.1 a.2.2):=fn_ok0 hl_nil Tryd.func84 (fun a=>by kernel_rfl:EntryIs0 ctx PP 84 [] [] cv0 cv1 fun a=>U1 a.1 a.2.1 a.2.2)
noncomputable def Sm {γ:Type} (F:Yd):Hd ctx γ:=hdl cv0.dec (fun a=>F a.1 a.2.1 a.2.2) cv1.enc
abbrev Si:=SThing→Option Bool
noncomputable def Eu (z0:Yd) (x_0:SThing):Option Bool:=
 (z0 x_0.fId 1 1000).bind fun r0=>
 bif (!r0) then
 some false
 else
 (z0 x_0.fNext 0 16).bind fun r1=>
 bif (!r1) then
  some false
 else
  bif (x_0.fKind != 2) then
  bif (x_0.fNext != 0) then
   some false
  else
   bif x_0.fSigns then
   some false
   else
   bif (x_0.fKind != 1) then
    bif x_0.fWraps then
    some false
    else
    bif (x_0.fKind == 1) then
     bif (x_0.fKind == 1) then
     some ((x_0.fValue.size:Int) == 32)
     else
     bif (x_0.fKind == 3) then
      some (decide ((x_0.fValue.size:Int)≤100))
     else
      some false
    else
     bif (x_0.fKind == 2) then
     some ((x_0.fValue.size:Int) == 32)
     else
     bif (x_0.fKind == 3) then
      some (decide ((x_0.fValue.size:Int)≤100))
     else
      some false
   else
    bif (x_0.fKind == 1) then
    bif (x_0.fKind == 1) then
     some ((x_0.fValue.size:Int) == 32)
    else
     bif (x_0.fKind == 3) then
     some (decide ((x_0.fValue.size:Int)≤100))
     else
     some false
    else
    bif (x_0.fKind == 2) then
     some ((x_0.fValue.size:Int) == 32)
    else
     bif (x_0.fKind == 3) then
     some (decide ((x_0.fValue.size:Int)≤100))
     else
     some false
  else
  bif (x_0.fKind != 1) then
   bif x_0.fWraps then
   some false
   else
   bif (x_0.fKind == 1) then
    bif (x_0.fKind == 1) then
    some ((x_0.fValue.size:Int) == 32)
    else
    bif (x_0.fKind == 3) then
     some (decide ((x_0.fValue.size:Int)≤100))
    else
     some false
   else
    bif (x_0.fKind == 2) then
    some ((x_0.fValue.size:Int) == 32)
    else
    bif (x_0.fKind == 3) then
     some (decide ((x_0.fValue.size:Int)≤100))
    else
     some false
  else
   bif (x_0.fKind == 1) then
   bif (x_0.fKind == 1) then
    some ((x_0.fValue.size:Int) == 32)
   else
    bif (x_0.fKind == 3) then
    some (decide ((x_0.fValue.size:Int)≤100))
    else
    some false
   else
   bif (x_0.fKind == 2) then
    some ((x_0.fValue.size:Int) == 32)
   else
    bif (x_0.fKind == 3) then
    some (decide ((x_0.fValue.size:Int)≤100))
    else
    some false
noncomputable def YZ:Si:=Eu JZ
theorem Y1:Tells ctx PP 139 cv26 cv1 (fun a=>YZ a):=fn_ok0 (hc Du hl_nil) Tryd.func139 ((fun z0 a=>by kernel_rfl:∀ z0,EntryIs0 ctx PP 139 [] [(84,Sm z0)] cv26 cv1 fun a=>Eu z0 a) JZ)
noncomputable def Gu {γ:Type} (F:Si):Hd ctx γ:=hdl cv26.dec (fun a=>F a) cv1.enc
abbrev Um:=Int→Option ByteArray
noncomputable def Hu (n_0:Int):Option ByteArray:=
 some (ofBytes [(w8 n_0)])
noncomputable def Zb:Um:=Hu
theorem U2:Tells ctx PP 124 cv2 cv3 (fun a=>Zb a):=fn_ok0 hl_nil Tryd.func124 (fun a=>by kernel_rfl:EntryIs0 ctx PP 124 [] [] cv2 cv3 fun a=>Hu a)
noncomputable def Y2 {γ:Type} (F:Um):Hd ctx γ:=hdl cv2.dec (fun a=>F a) cv3.enc
abbrev Iu:=SThing→Option Int
inductive Ti where
 | c0 (n_3:Int) (v_15:Int) (v_16:Int) (v_14:(List Bool))
noncomputable def J3:Ti→LI
 | .c0 n_3 v_15 v_16 v_14=>(tdo Tryd.f146 232,[(3,[.one (.int .i64 n_3)]),(14,[.one (.own 944)]),(15,[.one (.int .i64 v_15)]),(16,[.one (.int .i64 v_16)])],[(944,.sl 4 v_14)])
noncomputable def Ju (k:Ti→Option Int) (x_0:SThing):Option Int:=
 k (.c0 0 ((4:Nat):Int) 0 [x_0.fHidden,x_0.fFixed,x_0.fSigns,x_0.fWraps])
noncomputable def O3 (k:Ti→Option Int):Ti→Option Int
 | .c0 n_3 v_15 v_16 v_14=>
 bif (decide (v_16<v_15)) then
  bif ((decide (0≤v_16)) && (decide (v_16<(v_14.length:Int)))) then
  bif (v_14.getD v_16.toNat false) then
  bif (decide (0≤v_16)) then
  k (.c0 (w64 (((BitVec.toNat ((BitVec.ofInt (IntKind.bits IntKind.i64) n_3) ||| (BitVec.ofInt (IntKind.bits IntKind.i64) (w64 (1*(2 ^ (Min.min v_16.toNat (IntKind.bits IntKind.i64)))))))):Nat):Int)) v_15 (w64 (v_16+1)) v_14)
  else none
  else
  k (.c0 n_3 v_15 (w64 (v_16+1)) v_14)
  else none
 else
  some n_3
noncomputable def Ku:Nat→Ti→Option Int
 | 0,_=>none
 | m+1,s=>O3 (Ku m) s
noncomputable def Ui:Iu:=Ju (Ku gas)
theorem JAB:Tells ctx PP 146 cv26 cv2 (fun a=>Ui a):=
 have b:CutIs ctx PP 146 Tryd.f146 [] [] cv2 J3 (O3):=fun _ s=>by cases s <;> kernel_rfl
 have e:EntryIs ctx PP 146 [] [] cv26 cv2 J3 (fun k a=>Ju k a):=fun _ a=>by kernel_rfl
 fn_ok hl_nil Tryd.func146 (fun s s' h=>by cases s;cases s';cases h;rfl) (fun _=>rfl) (fun _ _=>rfl) b e gas
noncomputable def KAB {γ:Type} (F:Iu):Hd ctx γ:=hdl cv26.dec (fun a=>F a) cv2.enc
abbrev Lu:=ByteArray→Option ByteArray
noncomputable def Nu (z0:Oi) (s_0:ByteArray):Option ByteArray:=
 (z0 (s_0.size:Int)).bind fun r0=>
 bif (decide ((r0.size+s_0.size)≤9223372036854775807)) then
 some (r0++s_0)
 else none
noncomputable def Wi:Lu:=Nu Na
theorem LAB:Tells ctx PP 147 cv3 cv3 (fun a=>Wi a):=fn_ok0 (hc Zt hl_nil) Tryd.func147 ((fun z0 a=>by kernel_rfl:∀ z0,EntryIs0 ctx PP 147 [] [(92,Au z0)] cv3 cv3 fun a=>Nu z0 a) Na)
noncomputable def MAB {γ:Type} (F:Lu):Hd ctx γ:=hdl cv3.dec (fun a=>F a) cv3.enc
abbrev Ou:=SThing→Option (ByteArray×Bool)
noncomputable def Qu (z0:Si) (z1:Oi) (z2:Um) (z3:Iu) (z4:Lu) (x_0:SThing):Option (ByteArray×Bool):=
 (z0 x_0).bind fun r0=>
 bif (!r0) then
 some (⟨#[]⟩,false)
 else
 (z1 x_0.fId).bind fun r1=>
 (z2 x_0.fKind).bind fun r2=>
 bif (decide ((r1.size+r2.size)≤9223372036854775807)) then
 (z3 x_0).bind fun r3=>
 (z2 r3).bind fun r4=>
 bif (decide (((r1++r2).size+r4.size)≤9223372036854775807)) then
 (z4 x_0.fValue).bind fun r5=>
 bif (decide ((((r1++r2)++r4).size+r5.size)≤9223372036854775807)) then
 (z1 x_0.fNext).bind fun r6=>
 bif (decide (((((r1++r2)++r4)++r5).size+r6.size)≤9223372036854775807)) then
 some (((((r1++r2)++r4)++r5)++r6),true)
 else none
 else none
 else none
 else none
noncomputable def Xi:Ou:=Qu YZ Na Zb Ui Wi
theorem NAB:Tells ctx PP 127 cv26 cv8 (fun a=>Xi a):=fn_ok0 (hc Y1 (hc Zt (hc U2 (hc JAB (hc LAB hl_nil))))) Tryd.func127 ((fun z0 z1 z2 z3 z4 a=>by kernel_rfl:∀ z0 z1 z2 z3 z4,EntryIs0 ctx PP 127 [] [(139,Gu z0),(92,Au z1),(124,Y2 z2),(146,KAB z3),(147,MAB z4)] cv26 cv8 fun a=>Qu z0 z1 z2 z3 z4 a) YZ Na Zb Ui Wi)
noncomputable def OAB {γ:Type} (F:Ou):Hd ctx γ:=hdl cv26.dec (fun a=>F a) cv8.enc
abbrev Ru:=SRec→Option (ByteArray×Bool)
noncomputable def Uu (z0:Oi) (z1:Yd) (z2:Ou) (z3:Um) (r_0:SRec):Option (ByteArray×Bool):=
 bif (r_0.fKind == 1) then
 bif (!((r_0.fText.size:Int) == 32)) then
  some (⟨#[]⟩,false)
 else
  bif (!((r_0.fKind == r_0.fKind) && (((ByteArray.toList r_0.fText) == (ByteArray.toList r_0.fText)) && ((r_0.fNum == 0) && (((r_0.fThing.fId == 0) && ((r_0.fThing.fKind == 0) && ((r_0.fThing.fHidden == false) && ((r_0.fThing.fFixed == false) && ((r_0.fThing.fSigns == false) && ((r_0.fThing.fWraps == false) && (((ByteArray.toList r_0.fThing.fValue) == (ByteArray.toList ⟨#[]⟩)) && ((r_0.fThing.fNext == 0) && true)))))))) && true))))) then
  some (⟨#[]⟩,false)
  else
  (z3 r_0.fKind).bind fun r0=>
  bif (decide ((r0.size+r_0.fText.size)≤9223372036854775807)) then
  some ((r0++r_0.fText),true)
  else none
 else
 bif (r_0.fKind == 2) then
  (z0 r_0.fNum).bind fun r1=>
  (z1 r_0.fNum 0 3).bind fun r2=>
  bif (!r2) then
  some (⟨#[]⟩,false)
  else
  bif (!((r_0.fKind == r_0.fKind) && (((ByteArray.toList r_0.fText) == (ByteArray.toList ⟨#[]⟩)) && ((r_0.fNum == r_0.fNum) && (((r_0.fThing.fId == 0) && ((r_0.fThing.fKind == 0) && ((r_0.fThing.fHidden == false) && ((r_0.fThing.fFixed == false) && ((r_0.fThing.fSigns == false) && ((r_0.fThing.fWraps == false) && (((ByteArray.toList r_0.fThing.fValue) == (ByteArray.toList ⟨#[]⟩)) && ((r_0.fThing.fNext == 0) && true)))))))) && true))))) then
   some (⟨#[]⟩,false)
  else
   (z3 r_0.fKind).bind fun r3=>
   bif (decide ((r3.size+r1.size)≤9223372036854775807)) then
   some ((r3++r1),true)
   else none
 else
  bif (r_0.fKind == 3) then
  (z2 r_0.fThing).bind fun r4=>
  bif (!r4.2) then
   some (⟨#[]⟩,false)
  else
   bif (!((r_0.fKind == r_0.fKind) && (((ByteArray.toList r_0.fText) == (ByteArray.toList ⟨#[]⟩)) && ((r_0.fNum == 0) && (((r_0.fThing.fId == r_0.fThing.fId) && ((r_0.fThing.fKind == r_0.fThing.fKind) && ((r_0.fThing.fHidden == r_0.fThing.fHidden) && ((r_0.fThing.fFixed == r_0.fThing.fFixed) && ((r_0.fThing.fSigns == r_0.fThing.fSigns) && ((r_0.fThing.fWraps == r_0.fThing.fWraps) && (((ByteArray.toList r_0.fThing.fValue) == (ByteArray.toList r_0.fThing.fValue)) && ((r_0.fThing.fNext == r_0.fThing.fNext) && true)))))))) && true))))) then
   some (⟨#[]⟩,false)
   else
   (z3 r_0.fKind).bind fun r5=>
   bif (decide ((r5.size+r4.1.size)≤9223372036854775807)) then
   some ((r5++r4.1),true)
   else none
  else
  bif (r_0.fKind == 4) then
   (z0 r_0.fNum).bind fun r6=>
   (z1 r_0.fNum 1 1000).bind fun r7=>
   bif (!r7) then
   some (⟨#[]⟩,false)
   else
   bif (!((r_0.fKind == r_0.fKind) && (((ByteArray.toList r_0.fText) == (ByteArray.toList ⟨#[]⟩)) && ((r_0.fNum == r_0.fNum) && (((r_0.fThing.fId == 0) && ((r_0.fThing.fKind == 0) && ((r_0.fThing.fHidden == false) && ((r_0.fThing.fFixed == false) && ((r_0.fThing.fSigns == false) && ((r_0.fThing.fWraps == false) && (((ByteArray.toList r_0.fThing.fValue) == (ByteArray.toList ⟨#[]⟩)) && ((r_0.fThing.fNext == 0) && true)))))))) && true))))) then
    some (⟨#[]⟩,false)
   else
    (z3 r_0.fKind).bind fun r8=>
    bif (decide ((r8.size+r6.size)≤9223372036854775807)) then
    some ((r8++r6),true)
    else none
  else
   some (⟨#[]⟩,false)
noncomputable def Yi:Ru:=Uu Na JZ Xi Zb
theorem PAB:Tells ctx PP 91 cv29 cv8 (fun a=>Yi a):=fn_ok0 (hc Zt (hc Du (hc NAB (hc U2 hl_nil)))) Tryd.func91 ((fun z0 z1 z2 z3 a=>by kernel_rfl:∀ z0 z1 z2 z3,EntryIs0 ctx PP 91 [] [(92,Au z0),(84,Sm z1),(127,OAB z2),(124,Y2 z3)] cv29 cv8 fun a=>Uu z0 z1 z2 z3 a) Na JZ Xi Zb)
noncomputable def QAB {γ:Type} (F:Ru):Hd ctx γ:=hdl cv29.dec (fun a=>F a) cv8.enc
abbrev Vu:=SBook→Option Bool
inductive Zi where
 | c0 (v_6:(List SThing)) (v_7:Int) (v_8:Int) (b_1:SBook)
noncomputable def U3:Zi→LI
 | .c0 v_6 v_7 v_8 b_1=>(tdo Tryd.f113 104,[(1,[.one (.ptr 64 0)]),(6,[.one (.rsl 71 v_6)]),(7,[.one (.int .i64 v_7)]),(8,[.one (.int .i64 v_8)])],[(64,.var [.str b_1.fWord,.int .i64 b_1.fTries,.rsl 71 b_1.fThings,.int .i64 b_1.fLast,.str b_1.fChain,.int .i64 b_1.fCount])])
noncomputable def Wu (z0:Si) (z1:Yd) (k:Zi→Option Bool) (b_0:SBook):Option Bool:=
 k (.c0 b_0.fThings (b_0.fThings.length:Int) 0 b_0)
noncomputable def Vm (z0:Si) (z1:Yd) (k:Zi→Option Bool):Zi→Option Bool
 | .c0 v_6 v_7 v_8 b_1=>
 bif (decide (v_8<v_7)) then
  bif ((decide (0≤v_8)) && (decide (v_8<(v_6.length:Int)))) then
  (z0 (v_6.getD v_8.toNat (⟨0,0,false,false,false,false,⟨#[]⟩,0⟩:SThing))).bind fun r0=>
  bif (!r0) then
  some false
  else
  bif (decide ((v_6.getD v_8.toNat (⟨0,0,false,false,false,false,⟨#[]⟩,0⟩:SThing)).fId > b_1.fLast)) then
   some false
  else
   bif (decide (v_8 > 0)) then
   bif ((decide (0≤(w64 (v_8 - 1)))) && (decide ((w64 (v_8 - 1))<(b_1.fThings.length:Int)))) then
   bif (decide ((b_1.fThings.getD (w64 (v_8 - 1)).toNat (⟨0,0,false,false,false,false,⟨#[]⟩,0⟩:SThing)).fId≥(v_6.getD v_8.toNat (⟨0,0,false,false,false,false,⟨#[]⟩,0⟩:SThing)).fId)) then
    some false
   else
    k (.c0 v_6 v_7 (w64 (v_8+1)) b_1)
   else none
   else
   k (.c0 v_6 v_7 (w64 (v_8+1)) b_1)
  else none
 else
  bif ((b_1.fWord.size:Int) == 32) then
  bif ((b_1.fChain.size:Int) == 32) then
   (z1 b_1.fTries 0 3).bind fun r1=>
   bif r1 then
   bif (decide ((b_1.fThings.length:Int)≤8)) then
    (z1 b_1.fLast 0 1000).bind fun r2=>
    bif r2 then
    (z1 b_1.fCount 0 10000).bind fun r3=>
    some r3
    else
    some false
   else
    some false
   else
   some false
  else
   some false
  else
  some false
noncomputable def Zd:Nat→Zi→Option Bool
 | 0,_=>none
 | m+1,s=>Vm YZ JZ (Zd m) s
noncomputable def Aj:Vu:=Wu YZ JZ (Zd gas)
theorem RAB:Tells ctx PP 113 cv56 cv1 (fun a=>Aj a):=
 have b:∀ z0 z1,CutIs ctx PP 113 Tryd.f113 [] [(139,Gu z0),(84,Sm z1)] cv1 U3 (Vm z0 z1):=fun z0 z1 _ s=>by cases s <;> kernel_rfl
 have e:∀ z0 z1,EntryIs ctx PP 113 [] [(139,Gu z0),(84,Sm z1)] cv56 cv1 U3 (fun k a=>Wu z0 z1 k a):=fun z0 z1 _ a=>by kernel_rfl
 fn_ok (hc Y1 (hc Du hl_nil)) Tryd.func113 (fun s s' h=>by cases s;cases s';(repeat cases ‹SBook›);cases h;rfl) (fun _=>rfl) (fun _ _=>rfl) (b YZ JZ) (e YZ JZ) gas
noncomputable def SAB {γ:Type} (F:Vu):Hd ctx γ:=hdl cv56.dec (fun a=>F a) cv1.enc
abbrev Xm:=SBook→Int→Option Int
inductive Bj where
 | c0 (id_1:Int) (v_8:(List SThing)) (v_9:Int) (v_10:Int)
noncomputable def V3:Bj→LI
 | .c0 id_1 v_8 v_9 v_10=>(tdo Tryd.f115 104,[(1,[.one (.int .i64 id_1)]),(8,[.one (.rsl 71 v_8)]),(9,[.one (.int .i64 v_9)]),(10,[.one (.int .i64 v_10)])],[])
noncomputable def X3 (k:Bj→Option Int) (b_0:SBook) (id_1:Int):Option Int:=
 k (.c0 id_1 b_0.fThings (b_0.fThings.length:Int) 0)
noncomputable def Ym (k:Bj→Option Int):Bj→Option Int
 | .c0 id_1 v_8 v_9 v_10=>
 bif (decide (v_10<v_9)) then
  bif ((decide (0≤v_10)) && (decide (v_10<(v_8.length:Int)))) then
  bif ((v_8.getD v_10.toNat (⟨0,0,false,false,false,false,⟨#[]⟩,0⟩:SThing)).fId == id_1) then
  some v_10
  else
  k (.c0 id_1 v_8 v_9 (w64 (v_10+1)))
  else none
 else
  some (-(1:Int))
noncomputable def Ae:Nat→Bj→Option Int
 | 0,_=>none
 | m+1,s=>Ym (Ae m) s
noncomputable def Ce:Xm:=X3 (Ae gas)
theorem Y3:Tells ctx PP 115 cv57 cv2 (fun a=>Ce a.1 a.2):=
 have b:CutIs ctx PP 115 Tryd.f115 [] [] cv2 V3 (Ym):=fun _ s=>by cases s <;> kernel_rfl
 have e:EntryIs ctx PP 115 [] [] cv57 cv2 V3 (fun k a=>X3 k a.1 a.2):=fun _ a=>by kernel_rfl
 fn_ok hl_nil Tryd.func115 (fun s s' h=>by cases s;cases s';cases h;rfl) (fun _=>rfl) (fun _ _=>rfl) b e gas
noncomputable def I4 {γ:Type} (F:Xm):Hd ctx γ:=hdl cv57.dec (fun a=>F a.1 a.2) cv2.enc
abbrev Xu:=SThing→SThing→Option Bool
noncomputable def Yu (x_0:SThing) (y_1:SThing):Option Bool:=
 bif (y_1.fKind == x_0.fKind) then
 bif ((ByteArray.toList y_1.fValue) == (ByteArray.toList x_0.fValue)) then
  bif (y_1.fSigns == x_0.fSigns) then
  bif (y_1.fWraps == x_0.fWraps) then
   bif (decide (y_1.fNext≥x_0.fNext)) then
   bif y_1.fHidden then
    bif y_1.fFixed then
    some true
    else
    some (!x_0.fFixed)
   else
    bif (!x_0.fHidden) then
    bif y_1.fFixed then
     some true
    else
     some (!x_0.fFixed)
    else
    some false
   else
   some false
  else
   some false
  else
  some false
 else
  some false
 else
 some false
noncomputable def Cj:Xu:=Yu
theorem TAB:Tells ctx PP 140 cv39 cv1 (fun a=>Cj a.1 a.2):=fn_ok0 hl_nil Tryd.func140 (fun a=>by kernel_rfl:EntryIs0 ctx PP 140 [] [] cv39 cv1 fun a=>Yu a.1 a.2)
noncomputable def UAB {γ:Type} (F:Xu):Hd ctx γ:=hdl cv39.dec (fun a=>F a.1 a.2) cv1.enc
abbrev Zu:=SBook→SThing→Option (Bool×SBook)
noncomputable def Bv (z0:Xm) (z1:Xu) (b_0:SBook) (x_1:SThing):Option (Bool×SBook):=
 (z0 b_0 x_1.fId).bind fun r0=>
 bif (decide (r0≥0)) then
 bif ((decide (0≤r0)) && (decide (r0<(b_0.fThings.length:Int)))) then
 (z1 (b_0.fThings.getD r0.toNat (⟨0,0,false,false,false,false,⟨#[]⟩,0⟩:SThing)) x_1).bind fun r1=>
 bif (!r1) then
  some (false,b_0)
 else
  bif ((decide (0≤r0)) && (decide (r0<(b_0.fThings.length:Int)))) then
  some (true,⟨b_0.fWord,b_0.fTries,(b_0.fThings.set r0.toNat x_1),b_0.fLast,b_0.fChain,b_0.fCount⟩)
  else none
 else none
 else
 bif (x_1.fId != (w64 (b_0.fLast+1))) then
  some (false,b_0)
 else
  bif (decide ((b_0.fThings.length:Int)≥8)) then
  some (false,b_0)
  else
  bif (decide (((b_0.fThings.length+1)*48)≤140737488355328)) then
  some (true,⟨b_0.fWord,b_0.fTries,(b_0.fThings++[x_1]),x_1.fId,b_0.fChain,b_0.fCount⟩)
  else none
noncomputable def Ej:Zu:=Bv Ce Cj
theorem VAB:Tells ctx PP 114 cv62 cv63 (fun a=>Ej a.1 a.2):=fn_ok0 (hc Y3 (hc TAB hl_nil)) Tryd.func114 ((fun z0 z1 a=>by kernel_rfl:∀ z0 z1,EntryIs0 ctx PP 114 [0] [(115,I4 z0),(140,UAB z1)] cv62 cv63 fun a=>Bv z0 z1 a.1 a.2) Ce Cj)
noncomputable def WAB {γ:Type} (F:Zu):Hd ctx γ:=hdl cv62.dec (fun a=>F a.1 a.2) cv63.enc
abbrev Zm:=SBook→SRec→Option (SBook×Bool)
noncomputable def Dv (z0:Ru) (z1:Vu) (z2:Ji) (z3:Zu) (z4:Xm) (z5:Pm) (b_0:SBook) (r_1:SRec):Option (SBook×Bool):=
 (z0 r_1).bind fun r0=>
 (z1 b_0).bind fun r1=>
 bif (!r1) then
 some (⟨⟨#[]⟩,0,[],0,⟨#[]⟩,0⟩,false)
 else
 bif (!r0.2) then
  some (⟨⟨#[]⟩,0,[],0,⟨#[]⟩,0⟩,false)
 else
  bif (decide (b_0.fCount≥10000)) then
  some (⟨⟨#[]⟩,0,[],0,⟨#[]⟩,0⟩,false)
  else
  (z2 b_0).bind fun r2=>
  bif (r_1.fKind == 1) then
   bif (decide ((b_0.fChain.size+r0.1.size)≤9223372036854775807)) then
   (z5 (b_0.fChain++r0.1)).bind fun r3=>
   some (⟨r_1.fText,0,r2.fThings,r2.fLast,r3,(w64 (r2.fCount+1))⟩,true)
   else none
  else
   bif (r_1.fKind == 2) then
   bif (decide ((b_0.fChain.size+r0.1.size)≤9223372036854775807)) then
   (z5 (b_0.fChain++r0.1)).bind fun r4=>
   some (⟨r2.fWord,r_1.fNum,r2.fThings,r2.fLast,r4,(w64 (r2.fCount+1))⟩,true)
   else none
   else
   bif (r_1.fKind == 3) then
    (z3 r2 r_1.fThing).bind fun r5=>
    bif (!r5.1) then
    some (⟨⟨#[]⟩,0,[],0,⟨#[]⟩,0⟩,false)
    else
    bif (decide ((b_0.fChain.size+r0.1.size)≤9223372036854775807)) then
    (z5 (b_0.fChain++r0.1)).bind fun r6=>
    some (⟨r5.2.fWord,r5.2.fTries,r5.2.fThings,r5.2.fLast,r6,(w64 (r5.2.fCount+1))⟩,true)
    else none
   else
    bif (r_1.fKind == 4) then
    (z4 b_0 r_1.fNum).bind fun r7=>
    bif (decide (r7<0)) then
     some (⟨⟨#[]⟩,0,[],0,⟨#[]⟩,0⟩,false)
    else
     bif ((decide (0≤r7)) && (decide (r7≤(b_0.fThings.length:Int)))) then
     bif (decide ((((b_0.fThings.take r7.toNat).drop 0).length*48)≤140737488355328)) then
     bif ((decide (0≤(w64 (r7+1)))) && (decide ((w64 (r7+1))≤(b_0.fThings.length:Int)))) then
     bif (decide (((((b_0.fThings.take r7.toNat).drop 0).length+((b_0.fThings.take b_0.fThings.length).drop (w64 (r7+1)).toNat).length)*48)≤140737488355328)) then
     bif (decide ((b_0.fChain.size+r0.1.size)≤9223372036854775807)) then
     (z5 (b_0.fChain++r0.1)).bind fun r8=>
     some (⟨r2.fWord,r2.fTries,(((b_0.fThings.take r7.toNat).drop 0)++((b_0.fThings.take b_0.fThings.length).drop (w64 (r7+1)).toNat)),r2.fLast,r8,(w64 (r2.fCount+1))⟩,true)
     else none
     else none
     else none
     else none
     else none
    else
    bif (decide ((b_0.fChain.size+r0.1.size)≤9223372036854775807)) then
    (z5 (b_0.fChain++r0.1)).bind fun r9=>
    some (⟨r2.fWord,r2.fTries,r2.fThings,r2.fLast,r9,(w64 (r2.fCount+1))⟩,true)
    else none
noncomputable def Ac:Zm:=Dv Yi Aj XZ Ej Ce Yb
theorem XAB:Tells ctx PP 66 cv59 cv60 (fun a=>Ac a.1 a.2):=fn_ok0 (hc PAB (hc RAB (hc X0 (hc VAB (hc Y3 (hc O0 hl_nil)))))) Tryd.func66 ((fun z0 z1 z2 z3 z4 z5 a=>by kernel_rfl:∀ z0 z1 z2 z3 z4 z5,EntryIs0 ctx PP 66 [] [(91,QAB z0),(113,SAB z1),(65,Yt z2),(114,WAB z3),(115,I4 z4),(98,U0 z5)] cv59 cv60 fun a=>Dv z0 z1 z2 z3 z4 z5 a.1 a.2) Yi Aj XZ Ej Ce Yb)
noncomputable def J4 {γ:Type} (F:Zm):Hd ctx γ:=hdl cv59.dec (fun a=>F a.1 a.2) cv60.enc
abbrev Fv:=SBook→(List SRec)→Option (SBook×Bool)
inductive Fj where
 | c0 (v_13:(List SRec)) (v_14:Int) (v_15:Int) (v_4c0:ByteArray) (v_4c1:Int) (v_4c3:Int) (v_4c4:ByteArray) (v_4c5:Int) (out_6c0:ByteArray) (out_6c1:Int) (out_6c3:Int) (out_6c4:ByteArray) (out_6c5:Int) (v_4r2:(List SThing)) (out_6r2:(List SThing))
noncomputable def O4:Fj→LI
 | .c0 v_13 v_14 v_15 v_4c0 v_4c1 v_4c3 v_4c4 v_4c5 out_6c0 out_6c1 out_6c3 out_6c4 out_6c5 v_4r2 out_6r2=>(tdo Tryd.f27 232,[(4,[.one (.ptr 256 0)]),(6,[.one (.ptr 384 0)]),(13,[.one (.rsl 73 v_13)]),(14,[.one (.int .i64 v_14)]),(15,[.one (.int .i64 v_15)])],[(256,.var [.str v_4c0,.int .i64 v_4c1,.own 1016386,.int .i64 v_4c3,.str v_4c4,.int .i64 v_4c5]),(384,.var [.str out_6c0,.int .i64 out_6c1,.own 1024578,.int .i64 out_6c3,.str out_6c4,.int .i64 out_6c5]),(1016386,.sl 71 v_4r2),(1024578,.sl 71 out_6r2)])
noncomputable def Gv (z0:Ji) (z1:Zm) (k:Fj→Option (SBook×Bool)) (b_0:SBook) (list_1:(List SRec)):Option (SBook×Bool):=
 (z0 b_0).bind fun r0=>
 k (.c0 list_1 (list_1.length:Int) 0 ⟨#[]⟩ 0 0 ⟨#[]⟩ 0 r0.fWord r0.fTries r0.fLast r0.fChain r0.fCount [] r0.fThings)
noncomputable def Dn (z0:Ji) (z1:Zm) (k:Fj→Option (SBook×Bool)):Fj→Option (SBook×Bool)
 | .c0 v_13 v_14 v_15 v_4c0 v_4c1 v_4c3 v_4c4 v_4c5 out_6c0 out_6c1 out_6c3 out_6c4 out_6c5 v_4r2 out_6r2=>
 bif (decide (v_15<v_14)) then
  bif ((decide (0≤v_15)) && (decide (v_15<(v_13.length:Int)))) then
  (z1 ⟨out_6c0,out_6c1,out_6r2,out_6c3,out_6c4,out_6c5⟩ (v_13.getD v_15.toNat (⟨0,⟨#[]⟩,0,⟨0,0,false,false,false,false,⟨#[]⟩,0⟩⟩:SRec))).bind fun r0=>
  bif (!r0.2) then
  some (⟨⟨#[]⟩,0,[],0,⟨#[]⟩,0⟩,false)
  else
  k (.c0 v_13 v_14 (w64 (v_15+1)) v_4c0 v_4c1 v_4c3 v_4c4 v_4c5 r0.1.fWord r0.1.fTries r0.1.fLast r0.1.fChain r0.1.fCount v_4r2 r0.1.fThings)
  else none
 else
  some (⟨out_6c0,out_6c1,out_6r2,out_6c3,out_6c4,out_6c5⟩,true)
noncomputable def Gj:Nat→Fj→Option (SBook×Bool)
 | 0,_=>none
 | m+1,s=>Dn XZ Ac (Gj m) s
noncomputable def Ij:Fv:=Gv XZ Ac (Gj gas)
theorem YAB:Tells ctx PP 27 cv61 cv60 (fun a=>Ij a.1 a.2):=
 have b:∀ z0 z1,CutIs ctx PP 27 Tryd.f27 [] [(65,Yt z0),(66,J4 z1)] cv60 O4 (Dn z0 z1):=fun z0 z1 _ s=>by cases s <;> kernel_rfl
 have e:∀ z0 z1,EntryIs ctx PP 27 [] [(65,Yt z0),(66,J4 z1)] cv61 cv60 O4 (fun k a=>Gv z0 z1 k a.1 a.2):=fun z0 z1 _ a=>by kernel_rfl
 fn_ok (hc X0 (hc XAB hl_nil)) Tryd.func27 (fun s s' h=>by cases s;cases s';cases h;rfl) (fun _=>rfl) (fun _ _=>rfl) (b XZ Ac) (e XZ Ac) gas
noncomputable def ZAB {γ:Type} (F:Fv):Hd ctx γ:=hdl cv61.dec (fun a=>F a.1 a.2) cv60.enc
abbrev Jv:=SBook→(List SRec)→Option Bool
noncomputable def Kv (z0:Ut) (z1:Fv) (b_0:SBook) (list_1:(List SRec)):Option Bool:=
 z0.bind fun r0=>
 (z1 r0 list_1).bind fun r1=>
 bif r1.2 then
 bif ((ByteArray.toList r1.1.fChain) == (ByteArray.toList b_0.fChain)) then
  some (r1.1.fCount == b_0.fCount)
 else
  some false
 else
 some false
noncomputable def Jj:Jv:=Kv Ii Ij
theorem AAC:Tells ctx PP 17 cv61 cv1 (fun a=>Jj a.1 a.2):=fn_ok0 (hc GAB (hc YAB hl_nil)) Tryd.func17 ((fun z0 z1 a=>by kernel_rfl:∀ z0 z1,EntryIs0 ctx PP 17 [] [(45,IAB z0),(27,ZAB z1)] cv61 cv1 fun a=>Kv z0 z1 a.1 a.2) Ii Ij)
noncomputable def BAC {γ:Type} (F:Jv):Hd ctx γ:=hdl cv61.dec (fun a=>F a.1 a.2) cv1.enc
abbrev Lj:=SThing→SThing→Option Bool
noncomputable def Nv (a_0:SThing) (b_1:SThing):Option Bool:=
 bif (a_0.fId != b_1.fId) then
 some false
 else
 bif (a_0.fKind != b_1.fKind) then
  some false
 else
  bif (!(a_0.fHidden == b_1.fHidden)) then
  some false
  else
  bif (!(a_0.fFixed == b_1.fFixed)) then
   some false
  else
   bif (!(a_0.fSigns == b_1.fSigns)) then
   some false
   else
   bif (!(a_0.fWraps == b_1.fWraps)) then
    some false
   else
    bif (!((ByteArray.toList a_0.fValue) == (ByteArray.toList b_1.fValue))) then
    some false
    else
    bif (a_0.fNext != b_1.fNext) then
     some false
    else
     some true
noncomputable def Aa:Lj:=Nv
theorem U4:Tells ctx PP 93 cv39 cv1 (fun a=>Aa a.1 a.2):=fn_ok0 hl_nil Tryd.func93 (fun a=>by kernel_rfl:EntryIs0 ctx PP 93 [] [] cv39 cv1 fun a=>Nv a.1 a.2)
noncomputable def Ov {γ:Type} (F:Lj):Hd ctx γ:=hdl cv39.dec (fun a=>F a.1 a.2) cv1.enc
abbrev Pv:=(List SThing)→(List SThing)→Option Bool
inductive Nj where
 | c0 (a_0:(List SThing)) (b_1:(List SThing)) (i_5:Int)
noncomputable def V4:Nj→LI
 | .c0 a_0 b_1 i_5=>(tdo Tryd.f46 464,[(0,[.one (.rsl 71 a_0)]),(1,[.one (.rsl 71 b_1)]),(5,[.one (.int .i64 i_5)])],[])
noncomputable def Qv (z0:Lj) (k:Nj→Option Bool) (a_0:(List SThing)) (b_1:(List SThing)):Option Bool:=
 bif ((a_0.length:Int) != (b_1.length:Int)) then
 some false
 else
 k (.c0 a_0 b_1 0)
noncomputable def En (z0:Lj) (k:Nj→Option Bool):Nj→Option Bool
 | .c0 a_0 b_1 i_5=>
 bif (decide (i_5<(a_0.length:Int))) then
  bif ((decide (0≤i_5)) && (decide (i_5<(a_0.length:Int)))) then
  bif ((decide (0≤i_5)) && (decide (i_5<(b_1.length:Int)))) then
  (z0 (a_0.getD i_5.toNat (⟨0,0,false,false,false,false,⟨#[]⟩,0⟩:SThing)) (b_1.getD i_5.toNat (⟨0,0,false,false,false,false,⟨#[]⟩,0⟩:SThing))).bind fun r0=>
  bif (!r0) then
  some false
  else
  k (.c0 a_0 b_1 (w64 (i_5+1)))
  else none
  else none
 else
  some true
noncomputable def Ee:Nat→Nj→Option Bool
 | 0,_=>none
 | m+1,s=>En Aa (Ee m) s
noncomputable def Oj:Pv:=Qv Aa (Ee gas)
theorem CAC:Tells ctx PP 46 cv64 cv1 (fun a=>Oj a.1 a.2):=
 have b:∀ z0,CutIs ctx PP 46 Tryd.f46 [] [(93,Ov z0)] cv1 V4 (En z0):=fun z0 _ s=>by cases s <;> kernel_rfl
 have e:∀ z0,EntryIs ctx PP 46 [] [(93,Ov z0)] cv64 cv1 V4 (fun k a=>Qv z0 k a.1 a.2):=fun z0 _ a=>by kernel_rfl
 fn_ok (hc U4 hl_nil) Tryd.func46 (fun s s' h=>by cases s;cases s';cases h;rfl) (fun _=>rfl) (fun _ _=>rfl) (b Aa) (e Aa) gas
noncomputable def DAC {γ:Type} (F:Pv):Hd ctx γ:=hdl cv64.dec (fun a=>F a.1 a.2) cv1.enc
abbrev Sv:=SBook→SBook→Option Bool
noncomputable def Tv (z0:Pv) (a_0:SBook) (b_1:SBook):Option Bool:=
 bif (!((ByteArray.toList a_0.fWord) == (ByteArray.toList b_1.fWord))) then
 some false
 else
 bif (a_0.fTries != b_1.fTries) then
  some false
 else
  (z0 a_0.fThings b_1.fThings).bind fun r0=>
  bif (!r0) then
  some false
  else
  bif (a_0.fLast != b_1.fLast) then
   some false
  else
   bif (!((ByteArray.toList a_0.fChain) == (ByteArray.toList b_1.fChain))) then
   some false
   else
   bif (a_0.fCount != b_1.fCount) then
    some false
   else
    some true
noncomputable def Pj:Sv:=Tv Oj
theorem EAC:Tells ctx PP 18 cv65 cv1 (fun a=>Pj a.1 a.2):=fn_ok0 (hc CAC hl_nil) Tryd.func18 ((fun z0 a=>by kernel_rfl:∀ z0,EntryIs0 ctx PP 18 [] [(46,DAC z0)] cv65 cv1 fun a=>Tv z0 a.1 a.2) Oj)
noncomputable def FAC {γ:Type} (F:Sv):Hd ctx γ:=hdl cv65.dec (fun a=>F a.1 a.2) cv1.enc
abbrev Gn:=SRec→SRec→Option Bool
noncomputable def Wv (z0:Lj) (a_0:SRec) (b_1:SRec):Option Bool:=
 bif (a_0.fKind != b_1.fKind) then
 some false
 else
 bif (!((ByteArray.toList a_0.fText) == (ByteArray.toList b_1.fText))) then
  some false
 else
  bif (a_0.fNum != b_1.fNum) then
  some false
  else
  (z0 a_0.fThing b_1.fThing).bind fun r0=>
  bif (!r0) then
   some false
  else
   some true
noncomputable def Bc:Gn:=Wv Aa
theorem GAC:Tells ctx PP 38 cv40 cv1 (fun a=>Bc a.1 a.2):=fn_ok0 (hc U4 hl_nil) Tryd.func38 ((fun z0 a=>by kernel_rfl:∀ z0,EntryIs0 ctx PP 38 [] [(93,Ov z0)] cv40 cv1 fun a=>Wv z0 a.1 a.2) Aa)
noncomputable def X4 {γ:Type} (F:Gn):Hd ctx γ:=hdl cv40.dec (fun a=>F a.1 a.2) cv1.enc
abbrev Xv:=(List SRec)→(List SRec)→Option Bool
inductive Qj where
 | c0 (a_0:(List SRec)) (b_1:(List SRec)) (i_5:Int)
noncomputable def Y4:Qj→LI
 | .c0 a_0 b_1 i_5=>(tdo Tryd.f9 464,[(0,[.one (.rsl 73 a_0)]),(1,[.one (.rsl 73 b_1)]),(5,[.one (.int .i64 i_5)])],[])
noncomputable def Yv (z0:Gn) (k:Qj→Option Bool) (a_0:(List SRec)) (b_1:(List SRec)):Option Bool:=
 bif ((a_0.length:Int) != (b_1.length:Int)) then
 some false
 else
 k (.c0 a_0 b_1 0)
noncomputable def Pn (z0:Gn) (k:Qj→Option Bool):Qj→Option Bool
 | .c0 a_0 b_1 i_5=>
 bif (decide (i_5<(a_0.length:Int))) then
  bif ((decide (0≤i_5)) && (decide (i_5<(a_0.length:Int)))) then
  bif ((decide (0≤i_5)) && (decide (i_5<(b_1.length:Int)))) then
  (z0 (a_0.getD i_5.toNat (⟨0,⟨#[]⟩,0,⟨0,0,false,false,false,false,⟨#[]⟩,0⟩⟩:SRec)) (b_1.getD i_5.toNat (⟨0,⟨#[]⟩,0,⟨0,0,false,false,false,false,⟨#[]⟩,0⟩⟩:SRec))).bind fun r0=>
  bif (!r0) then
  some false
  else
  k (.c0 a_0 b_1 (w64 (i_5+1)))
  else none
  else none
 else
  some true
noncomputable def Fe:Nat→Qj→Option Bool
 | 0,_=>none
 | m+1,s=>Pn Bc (Fe m) s
noncomputable def Rj:Xv:=Yv Bc (Fe gas)
theorem HAC:Tells ctx PP 9 cv41 cv1 (fun a=>Rj a.1 a.2):=
 have b:∀ z0,CutIs ctx PP 9 Tryd.f9 [] [(38,X4 z0)] cv1 Y4 (Pn z0):=fun z0 _ s=>by cases s <;> kernel_rfl
 have e:∀ z0,EntryIs ctx PP 9 [] [(38,X4 z0)] cv41 cv1 Y4 (fun k a=>Yv z0 k a.1 a.2):=fun z0 _ a=>by kernel_rfl
 fn_ok (hc GAC hl_nil) Tryd.func9 (fun s s' h=>by cases s;cases s';cases h;rfl) (fun _=>rfl) (fun _ _=>rfl) (b Bc) (e Bc) gas
noncomputable def IAC {γ:Type} (F:Xv):Hd ctx γ:=hdl cv41.dec (fun a=>F a.1 a.2) cv1.enc
abbrev Z4:=SBook→(List SRec)→Option Bool
noncomputable def Zv (z0:Qo) (z1:Vo) (z2:Fp) (z3:Jp) (z4:Zr) (z5:Jv) (z6:Sv) (z7:Xv) (aB_0:SBook) (aList_1:(List SRec)):Option Bool:=
 (z0 aB_0 1048576).bind fun r0=>
 bif (decide (r0<0)) then
 some true
 else
 (z1 aList_1 r0).bind fun r1=>
 bif (decide (r1<0)) then
  some true
 else
  (z2 aB_0).bind fun r2=>
  (z3 aList_1).bind fun r3=>
  (z4 r2 r3).bind fun r4=>
  (z2 aB_0).bind fun r5=>
  (z3 aList_1).bind fun r6=>
  (z5 r5 r6).bind fun r7=>
  bif (!(r7 == r4)) then
  some false
  else
  (z2 aB_0).bind fun r8=>
  (z6 r5 r8).bind fun r9=>
  bif (!r9) then
   some false
  else
   (z3 aList_1).bind fun r10=>
   (z7 r6 r10).bind fun r11=>
   bif (!r11) then
   some false
   else
   some true
noncomputable def laws_FnExactChainOk:Z4:=Zv Ze Bf Hf Rf Qb Jj Pj Rj
theorem ok_laws_FnExactChainOk:Tells ctx PP 4 cv66 cv1 (fun a=>laws_FnExactChainOk a.1 a.2):=fn_ok0 (hc N8 (hc Q8 (hc Y8 (hc D9 (hc QAA (hc AAC (hc EAC (hc HAC hl_nil)))))))) Tryd.func4 ((fun z0 z1 z2 z3 z4 z5 z6 z7 a=>by kernel_rfl:∀ z0 z1 z2 z3 z4 z5 z6 z7,EntryIs0 ctx PP 4 [] [(12,O8 z0),(13,U8 z1),(15,Z8 z2),(16,F9 z3),(14,RAA z4),(17,BAC z5),(18,FAC z6),(9,IAC z7)] cv66 cv1 fun a=>Zv z0 z1 z2 z3 z4 z5 z6 z7 a.1 a.2) Ze Bf Hf Rf Qb Jj Pj Rj)
noncomputable def RAG {γ:Type} (F:Z4):Hd ctx γ:=hdl cv66.dec (fun a=>F a.1 a.2) cv1.enc
end Go.Proofs.YthfpmhalgimbbaaDoor.G

/- Functions of the program, told by plain functions: part 1 of 1. -/
import Derived.Test.YthfpmhalgimbbaaDoorCtx
namespace Go.Proofs.YthfpmhalgimbbaaDoor.G
open Go Go.Ev
set_option linter.unusedVariables false
abbrev Aj:=SFile→Int→Option Int
noncomputable def Cm (a_0:SFile) (left_1:Int):Option Int:=
 bif (decide ((w64 (left_1 - (a_0.fName.size:Int)))<0)) then
 some (-(1:Int))
 else
 bif (decide ((w64 ((w64 (left_1 - (a_0.fName.size:Int))) - (a_0.fText.size:Int)))<0)) then
  some (-(1:Int))
 else
  some (w64 ((w64 (left_1 - (a_0.fName.size:Int))) - (a_0.fText.size:Int)))
noncomputable def MZ:Aj:=Cm
theorem U1:Tells ctx PP 135 cv67 cv2 (fun a=>MZ a.1 a.2):=fn_ok0 hl_nil Tryd.func135 (fun a=>by kernel_rfl:EntryIs0 ctx PP 135 [] [] cv67 cv2 fun a=>Cm a.1 a.2)
noncomputable def Jv {γ:Type} (F:Aj):Hd ctx γ:=hdl cv67.dec (fun a=>F a.1 a.2) cv2.enc
abbrev Em:=(List SFile)→Int→Option Int
inductive Ed where
 | c0 (a_0:(List SFile)) (left_1:Int) (i_5:Int)
noncomputable def Kv:Ed→LI
 | .c0 a_0 left_1 i_5=>(tdo Tryd.f100 976,[(0,[.one (.rsl 167 a_0)]),(1,[.one (.int .i64 left_1)]),(5,[.one (.int .i64 i_5)])],[])
noncomputable def Gm (z0:Aj) (k:Ed→Option Int) (a_0:(List SFile)) (left_1:Int):Option Int:=
 bif (decide ((w64 (left_1 - (a_0.length:Int)))<0)) then
 some (-(1:Int))
 else
 k (.c0 a_0 (w64 (left_1 - (a_0.length:Int))) 0)
noncomputable def Jm (z0:Aj) (k:Ed→Option Int):Ed→Option Int
 | .c0 a_0 left_1 i_5=>
 bif (decide (i_5<(a_0.length:Int))) then
  bif ((decide (0≤i_5)) && (decide (i_5<(a_0.length:Int)))) then
  (z0 (a_0.getD i_5.toNat (⟨⟨#[]⟩,⟨#[]⟩,0⟩:SFile)) left_1).bind fun r0=>
  bif (decide (r0<0)) then
  some (-(1:Int))
  else
  k (.c0 a_0 r0 (w64 (i_5+1)))
  else none
 else
  some left_1
noncomputable def Bj:Nat→Ed→Option Int
 | 0,_=>none
 | m+1,s=>Jm MZ (Bj m) s
noncomputable def Jd:Em:=Gm MZ (Bj gas)
theorem Y1:Tells ctx PP 100 cv68 cv2 (fun a=>Jd a.1 a.2):=
 have b:∀ z0,CutIs ctx PP 100 Tryd.f100 [] [(135,Jv z0)] cv2 Kv (Jm z0):=fun z0 _ s=>by cases s <;> kernel_rfl
 have e:∀ z0,EntryIs ctx PP 100 [] [(135,Jv z0)] cv68 cv2 Kv (fun k a=>Gm z0 k a.1 a.2):=fun z0 _ a=>by kernel_rfl
 fn_ok (hc U1 hl_nil) Tryd.func100 (fun s s' h=>by cases s;cases s';cases h;rfl) (fun _=>rfl) (fun _ _=>rfl) (b MZ) (e MZ) gas
noncomputable def U2 {γ:Type} (F:Em):Hd ctx γ:=hdl cv68.dec (fun a=>F a.1 a.2) cv2.enc
abbrev Lm:=SDisk→Int→Option Int
noncomputable def Om (z0:Em) (a_0:SDisk) (left_1:Int):Option Int:=
 (z0 a_0.fFiles left_1).bind fun r0=>
 bif (decide (r0<0)) then
 some (-(1:Int))
 else
 some r0
noncomputable def Ld:Lm:=Om Jd
theorem Y2:Tells ctx PP 47 cv69 cv2 (fun a=>Ld a.1 a.2):=fn_ok0 (hc Y1 hl_nil) Tryd.func47 ((fun z0 a=>by kernel_rfl:∀ z0,EntryIs0 ctx PP 47 [] [(100,U2 z0)] cv69 cv2 fun a=>Om z0 a.1 a.2) Jd)
noncomputable def J3 {γ:Type} (F:Lm):Hd ctx γ:=hdl cv69.dec (fun a=>F a.1 a.2) cv2.enc
abbrev Cj:=SThing→Int→Option Int
noncomputable def Nv (a_0:SThing) (left_1:Int):Option Int:=
 bif (decide ((w64 (left_1 - (a_0.fValue.size:Int)))<0)) then
 some (-(1:Int))
 else
 some (w64 (left_1 - (a_0.fValue.size:Int)))
noncomputable def Qb:Cj:=Nv
theorem O3:Tells ctx PP 94 cv44 cv2 (fun a=>Qb a.1 a.2):=fn_ok0 hl_nil Tryd.func94 (fun a=>by kernel_rfl:EntryIs0 ctx PP 94 [] [] cv44 cv2 fun a=>Nv a.1 a.2)
noncomputable def Ov {γ:Type} (F:Cj):Hd ctx γ:=hdl cv44.dec (fun a=>F a.1 a.2) cv2.enc
abbrev Pm:=(List SThing)→Int→Option Int
inductive Md where
 | c0 (a_0:(List SThing)) (left_1:Int) (i_5:Int)
noncomputable def Pv:Md→LI
 | .c0 a_0 left_1 i_5=>(tdo Tryd.f40 976,[(0,[.one (.rsl 81 a_0)]),(1,[.one (.int .i64 left_1)]),(5,[.one (.int .i64 i_5)])],[])
noncomputable def Qm (z0:Cj) (k:Md→Option Int) (a_0:(List SThing)) (left_1:Int):Option Int:=
 bif (decide ((w64 (left_1 - (a_0.length:Int)))<0)) then
 some (-(1:Int))
 else
 k (.c0 a_0 (w64 (left_1 - (a_0.length:Int))) 0)
noncomputable def Sm (z0:Cj) (k:Md→Option Int):Md→Option Int
 | .c0 a_0 left_1 i_5=>
 bif (decide (i_5<(a_0.length:Int))) then
  bif ((decide (0≤i_5)) && (decide (i_5<(a_0.length:Int)))) then
  (z0 (a_0.getD i_5.toNat (⟨0,0,false,false,false,false,⟨#[]⟩,0⟩:SThing)) left_1).bind fun r0=>
  bif (decide (r0<0)) then
  some (-(1:Int))
  else
  k (.c0 a_0 r0 (w64 (i_5+1)))
  else none
 else
  some left_1
noncomputable def Ej:Nat→Md→Option Int
 | 0,_=>none
 | m+1,s=>Sm Qb (Ej m) s
noncomputable def Qd:Pm:=Qm Qb (Ej gas)
theorem U3:Tells ctx PP 40 cv45 cv2 (fun a=>Qd a.1 a.2):=
 have b:∀ z0,CutIs ctx PP 40 Tryd.f40 [] [(94,Ov z0)] cv2 Pv (Sm z0):=fun z0 _ s=>by cases s <;> kernel_rfl
 have e:∀ z0,EntryIs ctx PP 40 [] [(94,Ov z0)] cv45 cv2 Pv (fun k a=>Qm z0 k a.1 a.2):=fun z0 _ a=>by kernel_rfl
 fn_ok (hc O3 hl_nil) Tryd.func40 (fun s s' h=>by cases s;cases s';cases h;rfl) (fun _=>rfl) (fun _ _=>rfl) (b Qb) (e Qb) gas
noncomputable def V3 {γ:Type} (F:Pm):Hd ctx γ:=hdl cv45.dec (fun a=>F a.1 a.2) cv2.enc
abbrev Um:=SBook→Int→Option Int
noncomputable def Vm (z0:Pm) (a_0:SBook) (left_1:Int):Option Int:=
 bif (decide ((w64 (left_1 - (a_0.fWord.size:Int)))<0)) then
 some (-(1:Int))
 else
 (z0 a_0.fThings (w64 (left_1 - (a_0.fWord.size:Int)))).bind fun r0=>
 bif (decide (r0<0)) then
  some (-(1:Int))
 else
  bif (decide ((w64 (r0 - (a_0.fChain.size:Int)))<0)) then
  some (-(1:Int))
  else
  some (w64 (r0 - (a_0.fChain.size:Int)))
noncomputable def Td:Um:=Vm Qd
theorem X3:Tells ctx PP 12 cv46 cv2 (fun a=>Td a.1 a.2):=fn_ok0 (hc U3 hl_nil) Tryd.func12 ((fun z0 a=>by kernel_rfl:∀ z0,EntryIs0 ctx PP 12 [] [(40,V3 z0)] cv46 cv2 fun a=>Vm z0 a.1 a.2) Qd)
noncomputable def Y3 {γ:Type} (F:Um):Hd ctx γ:=hdl cv46.dec (fun a=>F a.1 a.2) cv2.enc
abbrev Xm:=(List SSession)→Int→Option Int
noncomputable def Qv (a_0:(List SSession)) (left_1:Int):Option Int:=
 bif (decide ((w64 (left_1 - (a_0.length:Int)))<0)) then
 some (-(1:Int))
 else
 some (w64 (left_1 - (a_0.length:Int)))
noncomputable def Fj:Xm:=Qv
theorem I4:Tells ctx PP 48 cv70 cv2 (fun a=>Fj a.1 a.2):=fn_ok0 hl_nil Tryd.func48 (fun a=>by kernel_rfl:EntryIs0 ctx PP 48 [] [] cv70 cv2 fun a=>Qv a.1 a.2)
noncomputable def J4 {γ:Type} (F:Xm):Hd ctx γ:=hdl cv70.dec (fun a=>F a.1 a.2) cv2.enc
abbrev Ym:=(List SLive)→Int→Option Int
noncomputable def Sv (a_0:(List SLive)) (left_1:Int):Option Int:=
 bif (decide ((w64 (left_1 - (a_0.length:Int)))<0)) then
 some (-(1:Int))
 else
 some (w64 (left_1 - (a_0.length:Int)))
noncomputable def Gj:Ym:=Sv
theorem O4:Tells ctx PP 49 cv71 cv2 (fun a=>Gj a.1 a.2):=fn_ok0 hl_nil Tryd.func49 (fun a=>by kernel_rfl:EntryIs0 ctx PP 49 [] [] cv71 cv2 fun a=>Sv a.1 a.2)
noncomputable def U4 {γ:Type} (F:Ym):Hd ctx γ:=hdl cv71.dec (fun a=>F a.1 a.2) cv2.enc
abbrev Zm:=SBox→Int→Option Int
noncomputable def Dn (z0:Lm) (z1:Um) (z2:Xm) (z3:Ym) (a_0:SBox) (left_1:Int):Option Int:=
 bif (decide ((w64 (left_1 - (a_0.fKey.size:Int)))<0)) then
 some (-(1:Int))
 else
 (z0 a_0.fDisk (w64 (left_1 - (a_0.fKey.size:Int)))).bind fun r0=>
 bif (decide (r0<0)) then
  some (-(1:Int))
 else
  (z1 a_0.fBook r0).bind fun r1=>
  bif (decide (r1<0)) then
  some (-(1:Int))
  else
  (z2 a_0.fSessions r1).bind fun r2=>
  bif (decide (r2<0)) then
   some (-(1:Int))
  else
   (z3 a_0.fLives r2).bind fun r3=>
   bif (decide (r3<0)) then
   some (-(1:Int))
   else
   some r3
noncomputable def Ud:Zm:=Dn Ld Td Fj Gj
theorem V4:Tells ctx PP 19 cv72 cv2 (fun a=>Ud a.1 a.2):=fn_ok0 (hc Y2 (hc X3 (hc I4 (hc O4 hl_nil)))) Tryd.func19 ((fun z0 z1 z2 z3 a=>by kernel_rfl:∀ z0 z1 z2 z3,EntryIs0 ctx PP 19 [] [(47,J3 z0),(12,Y3 z1),(48,J4 z2),(49,U4 z3)] cv72 cv2 fun a=>Dn z0 z1 z2 z3 a.1 a.2) Ld Td Fj Gj)
noncomputable def X4 {γ:Type} (F:Zm):Hd ctx γ:=hdl cv72.dec (fun a=>F a.1 a.2) cv2.enc
abbrev Ij:=SFile→Option SFile
noncomputable def En (a_0:SFile):Option SFile:=
 some a_0
noncomputable def NZ:Ij:=En
theorem Y4:Tells ctx PP 136 cv73 cv73 (fun a=>NZ a):=fn_ok0 hl_nil Tryd.func136 (fun a=>by kernel_rfl:EntryIs0 ctx PP 136 [] [] cv73 cv73 fun a=>En a)
noncomputable def Tv {γ:Type} (F:Ij):Hd ctx γ:=hdl cv73.dec (fun a=>F a) cv73.enc
abbrev Gn:=(List SFile)→Option (List SFile)
inductive Vd where
 | c0 (a_0:(List SFile)) (i_4:Int) (out_3:(List SFile))
noncomputable def Wv:Vd→LI
 | .c0 a_0 i_4 out_3=>(tdo Tryd.f101 464,[(0,[.one (.rsl 167 a_0)]),(3,[.one (.own 240)]),(4,[.one (.int .i64 i_4)])],[(240,.sl 168 out_3)])
noncomputable def Pn (z0:Ij) (k:Vd→Option (List SFile)) (a_0:(List SFile)):Option (List SFile):=
 bif ((((decide (0≤(a_0.length:Int))) && (decide ((a_0.length:Int)≤(a_0.length:Int)))) && (decide ((a_0.length:Int)≤9223372036854775807))) && (decide (((a_0.length:Int).toNat*40)≤140737488355328))) then
 k (.c0 a_0 0 (List.replicate (a_0.length:Int).toNat (⟨⟨#[]⟩,⟨#[]⟩,0⟩:SFile)))
 else none
noncomputable def Jj (z0:Ij) (k:Vd→Option (List SFile)):Vd→Option (List SFile)
 | .c0 a_0 i_4 out_3=>
 bif (decide (i_4<(a_0.length:Int))) then
  bif ((decide (0≤i_4)) && (decide (i_4<(a_0.length:Int)))) then
  (z0 (a_0.getD i_4.toNat (⟨⟨#[]⟩,⟨#[]⟩,0⟩:SFile))).bind fun r0=>
  bif ((decide (0≤i_4)) && (decide (i_4<(out_3.length:Int)))) then
  k (.c0 a_0 (w64 (i_4+1)) (out_3.set i_4.toNat r0))
  else none
  else none
 else
  some out_3
noncomputable def OZ:Nat→Vd→Option (List SFile)
 | 0,_=>none
 | m+1,s=>Jj NZ (OZ m) s
noncomputable def Xd:Gn:=Pn NZ (OZ gas)
theorem Z4:Tells ctx PP 101 cv74 cv75 (fun a=>Xd a):=
 have b:∀ z0,CutIs ctx PP 101 Tryd.f101 [] [(136,Tv z0)] cv75 Wv (Jj z0):=fun z0 _ s=>by cases s <;> kernel_rfl
 have e:∀ z0,EntryIs ctx PP 101 [] [(136,Tv z0)] cv74 cv75 Wv (fun k a=>Pn z0 k a):=fun z0 _ a=>by kernel_rfl
 fn_ok (hc Y4 hl_nil) Tryd.func101 (fun s s' h=>by cases s;cases s';cases h;rfl) (fun _=>rfl) (fun _ _=>rfl) (b NZ) (e NZ) gas
noncomputable def D5 {γ:Type} (F:Gn):Hd ctx γ:=hdl cv74.dec (fun a=>F a) cv75.enc
abbrev Qn:=SDisk→Option SDisk
noncomputable def Rn (z0:Gn) (a_0:SDisk):Option SDisk:=
 (z0 a_0.fFiles).bind fun r0=>
 some ⟨r0⟩
noncomputable def Yd:Qn:=Rn Xd
theorem E5:Tells ctx PP 50 cv76 cv77 (fun a=>Yd a):=fn_ok0 (hc Z4 hl_nil) Tryd.func50 ((fun z0 a=>by kernel_rfl:∀ z0,EntryIs0 ctx PP 50 [] [(101,D5 z0)] cv76 cv77 fun a=>Rn z0 a) Xd)
noncomputable def F5 {γ:Type} (F:Qn):Hd ctx γ:=hdl cv76.dec (fun a=>F a) cv77.enc
abbrev Lj:=SThing→Option SThing
noncomputable def Tn (a_0:SThing):Option SThing:=
 some a_0
noncomputable def PZ:Lj:=Tn
theorem G5:Tells ctx PP 97 cv26 cv26 (fun a=>PZ a):=fn_ok0 hl_nil Tryd.func97 (fun a=>by kernel_rfl:EntryIs0 ctx PP 97 [] [] cv26 cv26 fun a=>Tn a)
noncomputable def Xv {γ:Type} (F:Lj):Hd ctx γ:=hdl cv26.dec (fun a=>F a) cv26.enc
abbrev Un:=(List SThing)→Option (List SThing)
inductive Zd where
 | c0 (a_0:(List SThing)) (i_4:Int) (out_3:(List SThing))
noncomputable def Yv:Zd→LI
 | .c0 a_0 i_4 out_3=>(tdo Tryd.f43 464,[(0,[.one (.rsl 81 a_0)]),(3,[.one (.own 240)]),(4,[.one (.int .i64 i_4)])],[(240,.sl 71 out_3)])
noncomputable def Wn (z0:Lj) (k:Zd→Option (List SThing)) (a_0:(List SThing)):Option (List SThing):=
 bif ((((decide (0≤(a_0.length:Int))) && (decide ((a_0.length:Int)≤(a_0.length:Int)))) && (decide ((a_0.length:Int)≤9223372036854775807))) && (decide (((a_0.length:Int).toNat*48)≤140737488355328))) then
 k (.c0 a_0 0 (List.replicate (a_0.length:Int).toNat (⟨0,0,false,false,false,false,⟨#[]⟩,0⟩:SThing)))
 else none
noncomputable def Nj (z0:Lj) (k:Zd→Option (List SThing)):Zd→Option (List SThing)
 | .c0 a_0 i_4 out_3=>
 bif (decide (i_4<(a_0.length:Int))) then
  bif ((decide (0≤i_4)) && (decide (i_4<(a_0.length:Int)))) then
  (z0 (a_0.getD i_4.toNat (⟨0,0,false,false,false,false,⟨#[]⟩,0⟩:SThing))).bind fun r0=>
  bif ((decide (0≤i_4)) && (decide (i_4<(out_3.length:Int)))) then
  k (.c0 a_0 (w64 (i_4+1)) (out_3.set i_4.toNat r0))
  else none
  else none
 else
  some out_3
noncomputable def QZ:Nat→Zd→Option (List SThing)
 | 0,_=>none
 | m+1,s=>Nj PZ (QZ m) s
noncomputable def Ae:Un:=Wn PZ (QZ gas)
theorem I5:Tells ctx PP 43 cv49 cv50 (fun a=>Ae a):=
 have b:∀ z0,CutIs ctx PP 43 Tryd.f43 [] [(97,Xv z0)] cv50 Yv (Nj z0):=fun z0 _ s=>by cases s <;> kernel_rfl
 have e:∀ z0,EntryIs ctx PP 43 [] [(97,Xv z0)] cv49 cv50 Yv (fun k a=>Wn z0 k a):=fun z0 _ a=>by kernel_rfl
 fn_ok (hc G5 hl_nil) Tryd.func43 (fun s s' h=>by cases s;cases s';cases h;rfl) (fun _=>rfl) (fun _ _=>rfl) (b PZ) (e PZ) gas
noncomputable def J5 {γ:Type} (F:Un):Hd ctx γ:=hdl cv49.dec (fun a=>F a) cv50.enc
abbrev Xn:=SBook→Option SBook
noncomputable def Yn (z0:Un) (a_0:SBook):Option SBook:=
 (z0 a_0.fThings).bind fun r0=>
 some ⟨a_0.fWord,a_0.fTries,r0,a_0.fLast,a_0.fChain,a_0.fCount⟩
noncomputable def Ce:Xn:=Yn Ae
theorem O5:Tells ctx PP 15 cv51 cv52 (fun a=>Ce a):=fn_ok0 (hc I5 hl_nil) Tryd.func15 ((fun z0 a=>by kernel_rfl:∀ z0,EntryIs0 ctx PP 15 [] [(43,J5 z0)] cv51 cv52 fun a=>Yn z0 a) Ae)
noncomputable def P5 {γ:Type} (F:Xn):Hd ctx γ:=hdl cv51.dec (fun a=>F a) cv52.enc
abbrev Oj:=SSession→Option SSession
noncomputable def Zn (a_0:SSession):Option SSession:=
 some a_0
noncomputable def RZ:Oj:=Zn
theorem Q5:Tells ctx PP 102 cv78 cv78 (fun a=>RZ a):=fn_ok0 hl_nil Tryd.func102 (fun a=>by kernel_rfl:EntryIs0 ctx PP 102 [] [] cv78 cv78 fun a=>Zn a)
noncomputable def Zv {γ:Type} (F:Oj):Hd ctx γ:=hdl cv78.dec (fun a=>F a) cv78.enc
abbrev Bo:=(List SSession)→Option (List SSession)
inductive Ee where
 | c0 (a_0:(List SSession)) (i_4:Int) (out_3:(List SSession))
noncomputable def Aw:Ee→LI
 | .c0 a_0 i_4 out_3=>(tdo Tryd.f51 464,[(0,[.one (.rsl 132 a_0)]),(3,[.one (.own 240)]),(4,[.one (.int .i64 i_4)])],[(240,.sl 130 out_3)])
noncomputable def Eo (z0:Oj) (k:Ee→Option (List SSession)) (a_0:(List SSession)):Option (List SSession):=
 bif ((((decide (0≤(a_0.length:Int))) && (decide ((a_0.length:Int)≤(a_0.length:Int)))) && (decide ((a_0.length:Int)≤9223372036854775807))) && (decide (((a_0.length:Int).toNat*16)≤140737488355328))) then
 k (.c0 a_0 0 (List.replicate (a_0.length:Int).toNat (⟨0,false⟩:SSession)))
 else none
noncomputable def Pj (z0:Oj) (k:Ee→Option (List SSession)):Ee→Option (List SSession)
 | .c0 a_0 i_4 out_3=>
 bif (decide (i_4<(a_0.length:Int))) then
  bif ((decide (0≤i_4)) && (decide (i_4<(a_0.length:Int)))) then
  (z0 (a_0.getD i_4.toNat (⟨0,false⟩:SSession))).bind fun r0=>
  bif ((decide (0≤i_4)) && (decide (i_4<(out_3.length:Int)))) then
  k (.c0 a_0 (w64 (i_4+1)) (out_3.set i_4.toNat r0))
  else none
  else none
 else
  some out_3
noncomputable def UZ:Nat→Ee→Option (List SSession)
 | 0,_=>none
 | m+1,s=>Pj RZ (UZ m) s
noncomputable def Fe:Bo:=Eo RZ (UZ gas)
theorem U5:Tells ctx PP 51 cv79 cv80 (fun a=>Fe a):=
 have b:∀ z0,CutIs ctx PP 51 Tryd.f51 [] [(102,Zv z0)] cv80 Aw (Pj z0):=fun z0 _ s=>by cases s <;> kernel_rfl
 have e:∀ z0,EntryIs ctx PP 51 [] [(102,Zv z0)] cv79 cv80 Aw (fun k a=>Eo z0 k a):=fun z0 _ a=>by kernel_rfl
 fn_ok (hc Q5 hl_nil) Tryd.func51 (fun s s' h=>by cases s;cases s';cases h;rfl) (fun _=>rfl) (fun _ _=>rfl) (b RZ) (e RZ) gas
noncomputable def V5 {γ:Type} (F:Bo):Hd ctx γ:=hdl cv79.dec (fun a=>F a) cv80.enc
abbrev Qj:=SLive→Option SLive
noncomputable def Ho (a_0:SLive):Option SLive:=
 some a_0
noncomputable def VZ:Qj:=Ho
theorem X5:Tells ctx PP 103 cv81 cv81 (fun a=>VZ a):=fn_ok0 hl_nil Tryd.func103 (fun a=>by kernel_rfl:EntryIs0 ctx PP 103 [] [] cv81 cv81 fun a=>Ho a)
noncomputable def Dw {γ:Type} (F:Qj):Hd ctx γ:=hdl cv81.dec (fun a=>F a) cv81.enc
abbrev Io:=(List SLive)→Option (List SLive)
inductive He where
 | c0 (a_0:(List SLive)) (i_4:Int) (out_3:(List SLive))
noncomputable def Ew:He→LI
 | .c0 a_0 i_4 out_3=>(tdo Tryd.f52 464,[(0,[.one (.rsl 136 a_0)]),(3,[.one (.own 240)]),(4,[.one (.int .i64 i_4)])],[(240,.sl 134 out_3)])
noncomputable def Jo (z0:Qj) (k:He→Option (List SLive)) (a_0:(List SLive)):Option (List SLive):=
 bif ((((decide (0≤(a_0.length:Int))) && (decide ((a_0.length:Int)≤(a_0.length:Int)))) && (decide ((a_0.length:Int)≤9223372036854775807))) && (decide (((a_0.length:Int).toNat*16)≤140737488355328))) then
 k (.c0 a_0 0 (List.replicate (a_0.length:Int).toNat (⟨0,0⟩:SLive)))
 else none
noncomputable def Rj (z0:Qj) (k:He→Option (List SLive)):He→Option (List SLive)
 | .c0 a_0 i_4 out_3=>
 bif (decide (i_4<(a_0.length:Int))) then
  bif ((decide (0≤i_4)) && (decide (i_4<(a_0.length:Int)))) then
  (z0 (a_0.getD i_4.toNat (⟨0,0⟩:SLive))).bind fun r0=>
  bif ((decide (0≤i_4)) && (decide (i_4<(out_3.length:Int)))) then
  k (.c0 a_0 (w64 (i_4+1)) (out_3.set i_4.toNat r0))
  else none
  else none
 else
  some out_3
noncomputable def WZ:Nat→He→Option (List SLive)
 | 0,_=>none
 | m+1,s=>Rj VZ (WZ m) s
noncomputable def Ie:Io:=Jo VZ (WZ gas)
theorem Y5:Tells ctx PP 52 cv82 cv83 (fun a=>Ie a):=
 have b:∀ z0,CutIs ctx PP 52 Tryd.f52 [] [(103,Dw z0)] cv83 Ew (Rj z0):=fun z0 _ s=>by cases s <;> kernel_rfl
 have e:∀ z0,EntryIs ctx PP 52 [] [(103,Dw z0)] cv82 cv83 Ew (fun k a=>Jo z0 k a):=fun z0 _ a=>by kernel_rfl
 fn_ok (hc X5 hl_nil) Tryd.func52 (fun s s' h=>by cases s;cases s';cases h;rfl) (fun _=>rfl) (fun _ _=>rfl) (b VZ) (e VZ) gas
noncomputable def Z5 {γ:Type} (F:Io):Hd ctx γ:=hdl cv82.dec (fun a=>F a) cv83.enc
abbrev Ko:=SBox→Option SBox
noncomputable def Oo (z0:Qn) (z1:Xn) (z2:Bo) (z3:Io) (a_0:SBox):Option SBox:=
 (z0 a_0.fDisk).bind fun r0=>
 (z1 a_0.fBook).bind fun r1=>
 (z2 a_0.fSessions).bind fun r2=>
 (z3 a_0.fLives).bind fun r3=>
 some ⟨a_0.fKey,a_0.fUp,r0,r1,r2,r3,a_0.fOpened⟩
noncomputable def Je:Ko:=Oo Yd Ce Fe Ie
theorem D6:Tells ctx PP 21 cv84 cv85 (fun a=>Je a):=fn_ok0 (hc E5 (hc O5 (hc U5 (hc Y5 hl_nil)))) Tryd.func21 ((fun z0 z1 z2 z3 a=>by kernel_rfl:∀ z0 z1 z2 z3,EntryIs0 ctx PP 21 [] [(50,F5 z0),(15,P5 z1),(51,V5 z2),(52,Z5 z3)] cv84 cv85 fun a=>Oo z0 z1 z2 z3 a) Yd Ce Fe Ie)
noncomputable def F6 {γ:Type} (F:Ko):Hd ctx γ:=hdl cv84.dec (fun a=>F a) cv85.enc
abbrev Po:=Option (List Int)
noncomputable def Gw  : Option (List Int):=
 some [1779033703,3144134277,1013904242,2773480762,1359893119,2600822924,528734635,1541459225]
noncomputable def Sj:Po:=Gw
theorem G6:Tells ctx PP 153 cv10 cv11 (fun _=>Sj):=fn_ok0 hl_nil Tryd.func153 (fun _=>by kernel_rfl:EntryIs0 ctx PP 153 [] [] cv10 cv11 fun _=>Gw)
noncomputable def H6 {γ:Type} (F:Po):Hd ctx γ:=hdl cv10.dec (fun _=>F) cv11.enc
abbrev XZ:=(List Int)→Option ByteArray
inductive Me where
 | c0 (words_0:(List Int)) (i_4:Int) (out_3:(List Int))
noncomputable def Hw:Me→LI
 | .c0 words_0 i_4 out_3=>(tdo Tryd.f152 464,[(0,[.one (.rsl 119 words_0)]),(3,[.one (.own 240)]),(4,[.one (.int .i64 i_4)])],[(240,.sl 5 out_3)])
noncomputable def Iw (k:Me→Option ByteArray) (words_0:(List Int)):Option ByteArray:=
 k (.c0 words_0 0 [])
noncomputable def Tj (k:Me→Option ByteArray):Me→Option ByteArray
 | .c0 words_0 i_4 out_3=>
 bif (decide (i_4<(words_0.length:Int))) then
  bif ((decide (0≤i_4)) && (decide (i_4<(words_0.length:Int)))) then
  bif (decide (((out_3.length+4)*1)≤140737488355328)) then
  k (.c0 words_0 (w64 (i_4+1)) (out_3++[(w8 (w32 ((words_0.getD i_4.toNat 0).tdiv 16777216))),(w8 ((w32 ((words_0.getD i_4.toNat 0).tdiv 65536)).tmod 256)),(w8 ((w32 ((words_0.getD i_4.toNat 0).tdiv 256)).tmod 256)),(w8 ((words_0.getD i_4.toNat 0).tmod 256))]))
  else none
  else none
 else
  some (ofBytes out_3)
noncomputable def Oe:Nat→Me→Option ByteArray
 | 0,_=>none
 | m+1,s=>Tj (Oe m) s
noncomputable def LY:XZ:=Iw (Oe gas)
theorem Qo:Tells ctx PP 152 cv12 cv3 (fun a=>LY a):=
 have b:CutIs ctx PP 152 Tryd.f152 [] [] cv3 Hw (Tj):=fun _ s=>by cases s <;> kernel_rfl
 have e:EntryIs ctx PP 152 [] [] cv12 cv3 Hw (fun k a=>Iw k a):=fun _ a=>by kernel_rfl
 fn_ok hl_nil Tryd.func152 (fun s s' h=>by cases s;cases s';cases h;rfl) (fun _=>rfl) (fun _ _=>rfl) b e gas
noncomputable def Qe {γ:Type} (F:XZ):Hd ctx γ:=hdl cv12.dec (fun a=>F a) cv3.enc
abbrev Ro:=Option SHasher
noncomputable def Uo (z0:Po) (z1:XZ)  : Option SHasher:=
 z0.bind fun r0=>
 (z1 r0).bind fun r1=>
 some ⟨r1,⟨#[]⟩,0⟩
noncomputable def Ue:Ro:=Uo Sj LY
theorem J6:Tells ctx PP 130 cv10 cv13 (fun _=>Ue):=fn_ok0 (hc G6 (hc Qo hl_nil)) Tryd.func130 ((fun z0 z1 _=>by kernel_rfl:∀ z0 z1,EntryIs0 ctx PP 130 [] [(153,H6 z0),(152,Qe z1)] cv10 cv13 fun _=>Uo z0 z1) Sj LY)
noncomputable def L6 {γ:Type} (F:Ro):Hd ctx γ:=hdl cv10.dec (fun _=>F) cv13.enc
abbrev Vo:=Int→Int→Int→Option Bool
noncomputable def Jw (x_0:Int) (least_1:Int) (most_2:Int):Option Bool:=
 bif (decide (x_0≥least_1)) then
 some (decide (x_0≤most_2))
 else
 some false
noncomputable def Uj:Vo:=Jw
theorem O6:Tells ctx PP 79 cv0 cv1 (fun a=>Uj a.1 a.2.1 a.2.2):=fn_ok0 hl_nil Tryd.func79 (fun a=>by kernel_rfl:EntryIs0 ctx PP 79 [] [] cv0 cv1 fun a=>Jw a.1 a.2.1 a.2.2)
noncomputable def P6 {γ:Type} (F:Vo):Hd ctx γ:=hdl cv0.dec (fun a=>F a.1 a.2.1 a.2.2) cv1.enc
abbrev Ub:=SHasher→Option Bool
noncomputable def Xo (z0:Vo) (h_0:SHasher):Option Bool:=
 bif ((h_0.fState.size:Int) == 32) then
 bif (decide ((h_0.fRest.size:Int)<64)) then
  (z0 h_0.fCount 0 1000000000).bind fun r0=>
  bif r0 then
  some ((h_0.fCount.tmod 64) == (h_0.fRest.size:Int))
  else
  some false
 else
  some false
 else
 some false
noncomputable def FY:Ub:=Xo Uj
theorem Kw:Tells ctx PP 148 cv13 cv1 (fun a=>FY a):=fn_ok0 (hc O6 hl_nil) Tryd.func148 ((fun z0 a=>by kernel_rfl:∀ z0,EntryIs0 ctx PP 148 [] [(79,P6 z0)] cv13 cv1 fun a=>Xo z0 a) Uj)
noncomputable def Vj {γ:Type} (F:Ub):Hd ctx γ:=hdl cv13.dec (fun a=>F a) cv1.enc
abbrev Wj:=ByteArray→Int→Option Int
noncomputable def Yo (s_0:ByteArray) (at_1:Int):Option Int:=
 bif ((decide (0≤at_1)) && (decide (at_1<(s_0.size:Int)))) then
 bif ((decide (0≤(w64 (at_1+1)))) && (decide ((w64 (at_1+1))<(s_0.size:Int)))) then
 bif ((decide (0≤(w64 (at_1+2)))) && (decide ((w64 (at_1+2))<(s_0.size:Int)))) then
 bif ((decide (0≤(w64 (at_1+3)))) && (decide ((w64 (at_1+3))<(s_0.size:Int)))) then
 some (w32 ((w32 ((w32 ((w32 ((w32 (bt s_0 at_1))*16777216))+(w32 ((w32 (bt s_0 (w64 (at_1+1))))*65536))))+(w32 ((w32 (bt s_0 (w64 (at_1+2))))*256))))+(w32 (bt s_0 (w64 (at_1+3))))))
 else none
 else none
 else none
 else none
noncomputable def YZ:Wj:=Yo
theorem U6:Tells ctx PP 156 cv4 cv7 (fun a=>YZ a.1 a.2):=fn_ok0 hl_nil Tryd.func156 (fun a=>by kernel_rfl:EntryIs0 ctx PP 156 [] [] cv4 cv7 fun a=>Yo a.1 a.2)
noncomputable def Nw {γ:Type} (F:Wj):Hd ctx γ:=hdl cv4.dec (fun a=>F a.1 a.2) cv7.enc
abbrev FZ:=ByteArray→Option (List Int)
inductive Ve where
 | c0 (s_0:ByteArray) (i_4:Int) (out_3:(List Int))
noncomputable def Qw:Ve→LI
 | .c0 s_0 i_4 out_3=>(tdo Tryd.f149 464,[(0,[.one (.str s_0)]),(3,[.one (.own 240)]),(4,[.one (.int .i64 i_4)])],[(240,.sl 119 out_3)])
noncomputable def Rw (z0:Wj) (k:Ve→Option (List Int)) (s_0:ByteArray):Option (List Int):=
 k (.c0 s_0 0 [])
noncomputable def Xj (z0:Wj) (k:Ve→Option (List Int)):Ve→Option (List Int)
 | .c0 s_0 i_4 out_3=>
 bif (decide ((w64 (i_4+4))≤(s_0.size:Int))) then
  (z0 s_0 i_4).bind fun r0=>
  bif (decide (((out_3.length+1)*4)≤140737488355328)) then
  k (.c0 s_0 (w64 (i_4+4)) (out_3++[r0]))
  else none
 else
  some out_3
noncomputable def Xe:Nat→Ve→Option (List Int)
 | 0,_=>none
 | m+1,s=>Xj YZ (Xe m) s
noncomputable def YX:FZ:=Rw YZ (Xe gas)
theorem Zo:Tells ctx PP 149 cv3 cv11 (fun a=>YX a):=
 have b:∀ z0,CutIs ctx PP 149 Tryd.f149 [] [(156,Nw z0)] cv11 Qw (Xj z0):=fun z0 _ s=>by cases s <;> kernel_rfl
 have e:∀ z0,EntryIs ctx PP 149 [] [(156,Nw z0)] cv3 cv11 Qw (fun k a=>Rw z0 k a):=fun z0 _ a=>by kernel_rfl
 fn_ok (hc U6 hl_nil) Tryd.func149 (fun s s' h=>by cases s;cases s';cases h;rfl) (fun _=>rfl) (fun _ _=>rfl) (b YZ) (e YZ) gas
noncomputable def Vb {γ:Type} (F:FZ):Hd ctx γ:=hdl cv3.dec (fun a=>F a) cv11.enc
abbrev Xb:=Option (List Int)
noncomputable def Uw  : Option (List Int):=
 some [1116352408,1899447441,3049323471,3921009573,961987163,1508970993,2453635748,2870763221,3624381080,310598401,607225278,1426881987,1925078388,2162078206,2614888103,3248222580,3835390401,4022224774,264347078,604807628,770255983,1249150122,1555081692,1996064986,2554220882,2821834349,2952996808,3210313671,3336571891,3584528711,113926993,338241895,666307205,773529912,1294757372,1396182291,1695183700,1986661051,2177026350,2456956037,2730485921,2820302411,3259730800,3345764771,3516065817,3600352804,4094571909,275423344,430227734,506948616,659060556,883997877,958139571,1322822218,1537002063,1747873779,1955562222,2024104815,2227730452,2361852424,2428436474,2756734187,3204031479,3329325298]
noncomputable def UY:Xb:=Uw
theorem Vw:Tells ctx PP 150 cv10 cv11 (fun _=>UY):=fn_ok0 hl_nil Tryd.func150 (fun _=>by kernel_rfl:EntryIs0 ctx PP 150 [] [] cv10 cv11 fun _=>Uw)
noncomputable def Yj {γ:Type} (F:Xb):Hd ctx γ:=hdl cv10.dec (fun _=>F) cv11.enc
abbrev Ap:=Int→Int→Int→Option Int
noncomputable def Dp (x_0:Int) (low_1:Int) (high_2:Int):Option Int:=
 bif (!(low_1 == 0)) then
 bif (!(low_1 == 0)) then
 some (w32 ((w32 (x_0.tdiv low_1))+(w32 ((x_0.tmod low_1)*high_2))))
 else none
 else none
noncomputable def Ye:Ap:=Dp
theorem V6:Tells ctx PP 160 cv14 cv7 (fun a=>Ye a.1 a.2.1 a.2.2):=fn_ok0 hl_nil Tryd.func160 (fun a=>by kernel_rfl:EntryIs0 ctx PP 160 [] [] cv14 cv7 fun a=>Dp a.1 a.2.1 a.2.2)
noncomputable def X6 {γ:Type} (F:Ap):Hd ctx γ:=hdl cv14.dec (fun a=>F a.1 a.2.1 a.2.2) cv7.enc
abbrev Zj:=Int→Int→Int→Int→Bool→Option Int
noncomputable def Yb (z0:Ap) (x_0:Int) (a_1:Int) (b_2:Int) (c_3:Int) (last_4:Bool):Option Int:=
 bif (!(a_1 == 0)) then
 (z0 x_0 a_1 (w32 ((w32 ((2147483648:Int).tdiv a_1))*2))).bind fun r0=>
 bif (!(b_2 == 0)) then
 (z0 x_0 b_2 (w32 ((w32 ((2147483648:Int).tdiv b_2))*2))).bind fun r1=>
 bif (!(c_3 == 0)) then
 bif (!last_4) then
 bif (!(c_3 == 0)) then
 (z0 x_0 c_3 (w32 ((w32 ((2147483648:Int).tdiv c_3))*2))).bind fun r2=>
 some (w32 (((BitVec.toNat ((BitVec.ofInt (IntKind.bits IntKind.u32) (w32 (((BitVec.toNat ((BitVec.ofInt (IntKind.bits IntKind.u32) r0) ^^^ (BitVec.ofInt (IntKind.bits IntKind.u32) r1))):Nat):Int))) ^^^ (BitVec.ofInt (IntKind.bits IntKind.u32) r2))):Nat):Int))
 else none
 else
 some (w32 (((BitVec.toNat ((BitVec.ofInt (IntKind.bits IntKind.u32) (w32 (((BitVec.toNat ((BitVec.ofInt (IntKind.bits IntKind.u32) r0) ^^^ (BitVec.ofInt (IntKind.bits IntKind.u32) r1))):Nat):Int))) ^^^ (BitVec.ofInt (IntKind.bits IntKind.u32) (w32 (x_0.tdiv c_3))))):Nat):Int))
 else none
 else none
 else none
noncomputable def GY:Zj:=Yb Ye
theorem Y6:Tells ctx PP 157 cv15 cv7 (fun a=>GY a.1 a.2.1 a.2.2.1 a.2.2.2.1 a.2.2.2.2):=fn_ok0 (hc V6 hl_nil) Tryd.func157 ((fun z0 a=>by kernel_rfl:∀ z0,EntryIs0 ctx PP 157 [] [(160,X6 z0)] cv15 cv7 fun a=>Yb z0 a.1 a.2.1 a.2.2.1 a.2.2.2.1 a.2.2.2.2) Ye)
noncomputable def Xw {γ:Type} (F:Zj):Hd ctx γ:=hdl cv15.dec (fun a=>F a.1 a.2.1 a.2.2.1 a.2.2.2.1 a.2.2.2.2) cv7.enc
abbrev Zb:=(List Int)→(List Int)→ByteArray→Option (List Int)
inductive Ze where
 | c0 (t_0:(List Int)) (o_1:(List Int)) (v_8:Int) (v_7:(List Int))
 | c1 (t_0:(List Int)) (o_1:(List Int)) (v_10:Int) (v_7:(List Int)) (v_9:(List Int))
 | c2 (t_0:(List Int)) (o_1:(List Int)) (v_10:Int) (v_13:Int) (v_15:Int) (v_16:Int) (v_7:(List Int)) (v_9:(List Int))
 | c3 (t_0:(List Int)) (v_18:Int) (v_9:(List Int)) (v_17:(List Int))
noncomputable def Yw:Ze→LI
 | .c0 t_0 o_1 v_8 v_7=>(tdo Tryd.f151 464,[(0,[.one (.rsl 119 t_0)]),(1,[.one (.rsl 119 o_1)]),(7,[.one (.own 496)]),(8,[.one (.int .i64 v_8)])],[(496,.sl 119 v_7)])
 | .c1 t_0 o_1 v_10 v_7 v_9=>(tdo Tryd.f151 2000,[(0,[.one (.rsl 119 t_0)]),(1,[.one (.rsl 119 o_1)]),(7,[.one (.own 496)]),(9,[.one (.own 624)]),(10,[.one (.int .i64 v_10)])],[(496,.sl 119 v_7),(624,.sl 119 v_9)])
 | .c2 t_0 o_1 v_10 v_13 v_15 v_16 v_7 v_9=>(tdo Tryd.f151 8202192,[(0,[.one (.rsl 119 t_0)]),(1,[.one (.rsl 119 o_1)]),(7,[.one (.own 496)]),(9,[.one (.own 624)]),(10,[.one (.int .i64 v_10)]),(13,[.one (.int .u32 v_13)]),(15,[.one (.int .u32 v_15)]),(16,[.one (.int .i64 v_16)])],[(496,.sl 119 v_7),(624,.sl 119 v_9)])
 | .c3 t_0 v_18 v_9 v_17=>(tdo Tryd.f151 8144,[(0,[.one (.rsl 119 t_0)]),(9,[.one (.own 624)]),(17,[.one (.own 1136)]),(18,[.one (.int .i64 v_18)])],[(624,.sl 119 v_9),(1136,.sl 119 v_17)])
noncomputable def Ep (z0:FZ) (z1:Zj) (k:Ze→Option (List Int)) (t_0:(List Int)) (o_1:(List Int)) (A_2:ByteArray):Option (List Int):=
 (z0 A_2).bind fun r0=>
 k (.c0 t_0 o_1 16 r0)
noncomputable def VY (z0:FZ) (z1:Zj) (k:Ze→Option (List Int)):Ze→Option (List Int)
 | .c0 t_0 o_1 v_8 v_7=>
 bif (decide (v_8<64)) then
  bif ((decide (0≤(w64 (v_8 - 2)))) && (decide ((w64 (v_8 - 2))<(v_7.length:Int)))) then
  (z1 (v_7.getD (w64 (v_8 - 2)).toNat 0) 131072 524288 1024 true).bind fun r0=>
  bif ((decide (0≤(w64 (v_8 - 7)))) && (decide ((w64 (v_8 - 7))<(v_7.length:Int)))) then
  bif ((decide (0≤(w64 (v_8 - 15)))) && (decide ((w64 (v_8 - 15))<(v_7.length:Int)))) then
  (z1 (v_7.getD (w64 (v_8 - 15)).toNat 0) 128 262144 8 true).bind fun r1=>
  bif ((decide (0≤(w64 (v_8 - 16)))) && (decide ((w64 (v_8 - 16))<(v_7.length:Int)))) then
  bif (decide (((v_7.length+1)*4)≤140737488355328)) then
  k (.c0 t_0 o_1 (w64 (v_8+1)) (v_7++[(w32 ((w32 ((w32 (r0+(v_7.getD (w64 (v_8 - 7)).toNat 0)))+r1))+(v_7.getD (w64 (v_8 - 16)).toNat 0)))]))
  else none
  else none
  else none
  else none
  else none
 else
  bif (decide (((0+t_0.length)*4)≤140737488355328)) then
  k (.c1 t_0 o_1 0 v_7 ([]++t_0))
  else none
 | .c1 t_0 o_1 v_10 v_7 v_9=>
 bif (decide (v_10<64)) then
  bif ((decide ((0:Int)≤(4:Int))) && (decide (4<(v_9.length:Int)))) then
  bif ((decide ((0:Int)≤(5:Int))) && (decide (5<(v_9.length:Int)))) then
  bif ((decide ((0:Int)≤(6:Int))) && (decide (6<(v_9.length:Int)))) then
  bif ((decide ((0:Int)≤(7:Int))) && (decide (7<(v_9.length:Int)))) then
  (z1 (v_9.getD (4:Int).toNat 0) 64 2048 33554432 false).bind fun r0=>
  bif ((decide (0≤v_10)) && (decide (v_10<(o_1.length:Int)))) then
  bif ((decide (0≤v_10)) && (decide (v_10<(v_7.length:Int)))) then
  bif ((decide ((0:Int)≤(0:Int))) && (decide (0<(v_9.length:Int)))) then
  bif ((decide ((0:Int)≤(1:Int))) && (decide (1<(v_9.length:Int)))) then
  bif ((decide ((0:Int)≤(0:Int))) && (decide (0<(v_9.length:Int)))) then
  bif ((decide ((0:Int)≤(2:Int))) && (decide (2<(v_9.length:Int)))) then
  bif ((decide ((0:Int)≤(1:Int))) && (decide (1<(v_9.length:Int)))) then
  bif ((decide ((0:Int)≤(2:Int))) && (decide (2<(v_9.length:Int)))) then
  bif ((decide ((0:Int)≤(0:Int))) && (decide (0<(v_9.length:Int)))) then
  (z1 (v_9.getD (0:Int).toNat 0) 4 8192 4194304 false).bind fun r1=>
  k (.c2 t_0 o_1 v_10 (w32 ((w32 ((w32 ((w32 ((v_9.getD (7:Int).toNat 0)+r0))+(w32 (((BitVec.toNat ((BitVec.ofInt (IntKind.bits IntKind.u32) (w32 (((BitVec.toNat ((BitVec.ofInt (IntKind.bits IntKind.u32) (v_9.getD (4:Int).toNat 0)) &&& (BitVec.ofInt (IntKind.bits IntKind.u32) (v_9.getD (5:Int).toNat 0)))):Nat):Int))) ^^^ (BitVec.ofInt (IntKind.bits IntKind.u32) (w32 (((BitVec.toNat ((BitVec.ofInt (IntKind.bits IntKind.u32) (w32 (4294967295 - (v_9.getD (4:Int).toNat 0)))) &&& (BitVec.ofInt (IntKind.bits IntKind.u32) (v_9.getD (6:Int).toNat 0)))):Nat):Int))))):Nat):Int))))+(o_1.getD v_10.toNat 0)))+(v_7.getD v_10.toNat 0))) (w32 (r1+(w32 (((BitVec.toNat ((BitVec.ofInt (IntKind.bits IntKind.u32) (w32 (((BitVec.toNat ((BitVec.ofInt (IntKind.bits IntKind.u32) (w32 (((BitVec.toNat ((BitVec.ofInt (IntKind.bits IntKind.u32) (v_9.getD (0:Int).toNat 0)) &&& (BitVec.ofInt (IntKind.bits IntKind.u32) (v_9.getD (1:Int).toNat 0)))):Nat):Int))) ^^^ (BitVec.ofInt (IntKind.bits IntKind.u32) (w32 (((BitVec.toNat ((BitVec.ofInt (IntKind.bits IntKind.u32) (v_9.getD (0:Int).toNat 0)) &&& (BitVec.ofInt (IntKind.bits IntKind.u32) (v_9.getD (2:Int).toNat 0)))):Nat):Int))))):Nat):Int))) ^^^ (BitVec.ofInt (IntKind.bits IntKind.u32) (w32 (((BitVec.toNat ((BitVec.ofInt (IntKind.bits IntKind.u32) (v_9.getD (1:Int).toNat 0)) &&& (BitVec.ofInt (IntKind.bits IntKind.u32) (v_9.getD (2:Int).toNat 0)))):Nat):Int))))):Nat):Int)))) 7 v_7 v_9)
  else none
  else none
  else none
  else none
  else none
  else none
  else none
  else none
  else none
  else none
  else none
  else none
  else none
 else
  k (.c3 t_0 0 v_9 [])
 | .c2 t_0 o_1 v_10 v_13 v_15 v_16 v_7 v_9=>
 bif (decide (v_16 > 0)) then
  bif ((decide (0≤(w64 (v_16 - 1)))) && (decide ((w64 (v_16 - 1))<(v_9.length:Int)))) then
  bif ((decide (0≤v_16)) && (decide (v_16<(v_9.length:Int)))) then
  k (.c2 t_0 o_1 v_10 v_13 v_15 (w64 (v_16 - 1)) v_7 (v_9.set v_16.toNat (v_9.getD (w64 (v_16 - 1)).toNat 0)))
  else none
  else none
 else
  bif ((decide ((0:Int)≤(4:Int))) && (decide (4<(v_9.length:Int)))) then
  bif ((decide ((0:Int)≤(4:Int))) && (decide (4<(v_9.length:Int)))) then
  bif ((decide ((0:Int)≤(0:Int))) && (decide (0<((v_9.set (4:Int).toNat (w32 ((v_9.getD (4:Int).toNat 0)+v_13))).length:Int)))) then
  k (.c1 t_0 o_1 (w64 (v_10+1)) v_7 ((v_9.set (4:Int).toNat (w32 ((v_9.getD (4:Int).toNat 0)+v_13))).set (0:Int).toNat (w32 (v_13+v_15))))
  else none
  else none
  else none
 | .c3 t_0 v_18 v_9 v_17=>
 bif (decide (v_18<8)) then
  bif ((decide (0≤v_18)) && (decide (v_18<(t_0.length:Int)))) then
  bif ((decide (0≤v_18)) && (decide (v_18<(v_9.length:Int)))) then
  bif (decide (((v_17.length+1)*4)≤140737488355328)) then
  k (.c3 t_0 (w64 (v_18+1)) v_9 (v_17++[(w32 ((t_0.getD v_18.toNat 0)+(v_9.getD v_18.toNat 0)))]))
  else none
  else none
  else none
 else
  some v_17
noncomputable def QX:Nat→Ze→Option (List Int)
 | 0,_=>none
 | m+1,s=>VY YX GY (QX m) s
noncomputable def NY:Zb:=Ep YX GY (QX gas)
theorem Zw:Tells ctx PP 151 cv16 cv11 (fun a=>NY a.1 a.2.1 a.2.2):=
 have b:∀ z0 z1,CutIs ctx PP 151 Tryd.f151 [] [(149,Vb z0),(157,Xw z1)] cv11 Yw (VY z0 z1):=fun z0 z1 _ s=>by cases s <;> kernel_rfl
 have e:∀ z0 z1,EntryIs ctx PP 151 [] [(149,Vb z0),(157,Xw z1)] cv16 cv11 Yw (fun k a=>Ep z0 z1 k a.1 a.2.1 a.2.2):=fun z0 z1 _ a=>by kernel_rfl
 fn_ok (hc Zo (hc Y6 hl_nil)) Tryd.func151 (fun s s' h=>by cases s <;> cases s' <;> first | (cases h;done) | (cases h;rfl) | exact (rg_ne h (by kernel_rfl)).elim) (fun _=>rfl) (fun _ _=>rfl) (b YX GY) (e YX GY) gas
noncomputable def Ak {γ:Type} (F:Zb):Hd ctx γ:=hdl cv16.dec (fun a=>F a.1 a.2.1 a.2.2) cv11.enc
abbrev Fp:=SHasher→ByteArray→Option SHasher
inductive Af where
 | c0 (s_1:ByteArray) (buf_7:ByteArray) (at_8:Int) (h_2:SHasher) (v_4:SHasher) (state_5:(List Int)) (k_6:(List Int))
noncomputable def Dx:Af→LI
 | .c0 s_1 buf_7 at_8 h_2 v_4 state_5 k_6=>(tdo Tryd.f129 4064,[(1,[.one (.str s_1)]),(2,[.one (.ptr 128 0)]),(4,[.one (.ptr 256 0)]),(5,[.one (.own 368)]),(6,[.one (.own 432)]),(7,[.one (.str buf_7)]),(8,[.one (.int .i64 at_8)])],[(128,.var [.str h_2.fState,.str h_2.fRest,.int .i64 h_2.fCount]),(256,.var [.str v_4.fState,.str v_4.fRest,.int .i64 v_4.fCount]),(368,.sl 119 state_5),(432,.sl 119 k_6)])
noncomputable def Gp (z0:Ub) (z1:FZ) (z2:Xb) (z3:Zb) (z4:XZ) (k:Af→Option SHasher) (h_0:SHasher) (s_1:ByteArray):Option SHasher:=
 (z0 h_0).bind fun r0=>
 bif (!r0) then
 some h_0
 else
 bif (decide ((w64 (h_0.fCount+(s_1.size:Int))) > 1000000000)) then
  some h_0
 else
  (z1 h_0.fState).bind fun r1=>
  z2.bind fun r2=>
  bif (decide ((h_0.fRest.size+s_1.size)≤9223372036854775807)) then
  k (.c0 s_1 (h_0.fRest++s_1) 0 h_0 ⟨⟨#[]⟩,⟨#[]⟩,0⟩ r1 r2)
  else none
noncomputable def Dk (z0:Ub) (z1:FZ) (z2:Xb) (z3:Zb) (z4:XZ) (k:Af→Option SHasher):Af→Option SHasher
 | .c0 s_1 buf_7 at_8 h_2 v_4 state_5 k_6=>
 bif (decide ((w64 (at_8+64))≤(buf_7.size:Int))) then
  bif (((decide (0≤at_8)) && (decide (at_8≤(w64 (at_8+64))))) && (decide ((w64 (at_8+64))≤(buf_7.size:Int)))) then
  (z3 state_5 k_6 (buf_7.extract at_8.toNat (w64 (at_8+64)).toNat)).bind fun r0=>
  k (.c0 s_1 buf_7 (w64 (at_8+64)) h_2 v_4 r0 k_6)
  else none
 else
  (z4 state_5).bind fun r1=>
  bif ((decide (0≤at_8)) && (decide (at_8≤(buf_7.size:Int)))) then
  some ⟨r1,(buf_7.extract at_8.toNat buf_7.size),(w64 (h_2.fCount+(s_1.size:Int)))⟩
  else none
noncomputable def Bf:Nat→Af→Option SHasher
 | 0,_=>none
 | m+1,s=>Dk FY YX UY NY LY (Bf m) s
noncomputable def Df:Fp:=Gp FY YX UY NY LY (Bf gas)
theorem D7:Tells ctx PP 129 cv17 cv13 (fun a=>Df a.1 a.2):=
 have b:∀ z0 z1 z2 z3 z4,CutIs ctx PP 129 Tryd.f129 [] [(148,Vj z0),(149,Vb z1),(150,Yj z2),(151,Ak z3),(152,Qe z4)] cv13 Dx (Dk z0 z1 z2 z3 z4):=fun z0 z1 z2 z3 z4 _ s=>by cases s <;> kernel_rfl
 have e:∀ z0 z1 z2 z3 z4,EntryIs ctx PP 129 [] [(148,Vj z0),(149,Vb z1),(150,Yj z2),(151,Ak z3),(152,Qe z4)] cv17 cv13 Dx (fun k a=>Gp z0 z1 z2 z3 z4 k a.1 a.2):=fun z0 z1 z2 z3 z4 _ a=>by kernel_rfl
 fn_ok (hc Kw (hc Zo (hc Vw (hc Zw (hc Qo hl_nil))))) Tryd.func129 (fun s s' h=>by cases s;cases s';(repeat cases ‹SHasher›);cases h;rfl) (fun _=>rfl) (fun _ _=>rfl) (b FY YX UY NY LY) (e FY YX UY NY LY) gas
noncomputable def F7 {γ:Type} (F:Fp):Hd ctx γ:=hdl cv17.dec (fun a=>F a.1 a.2) cv13.enc
abbrev Ip:=SHasher→Option ByteArray
inductive Ef where
 | c0 (h_1:SHasher) (tail_3:(List Int))
 | c1 (bits_4:Int) (i_5:Int) (h_1:SHasher) (tail_3:(List Int))
 | c2 (bits_4:Int) (i_5:Int) (x_6:Int) (k_7:Int) (h_1:SHasher) (tail_3:(List Int))
 | c3 (at_10:Int) (tail_3:(List Int)) (state_8:(List Int)) (k_9:(List Int))
noncomputable def Gx:Ef→LI
 | .c0 h_1 tail_3=>(tdo Tryd.f128 992,[(1,[.one (.ptr 64 0)]),(3,[.one (.own 240)])],[(64,.var [.str h_1.fState,.str h_1.fRest,.int .i64 h_1.fCount]),(240,.sl 5 tail_3)])
 | .c1 bits_4 i_5 h_1 tail_3=>(tdo Tryd.f128 8144,[(1,[.one (.ptr 64 0)]),(3,[.one (.own 240)]),(4,[.one (.int .i64 bits_4)]),(5,[.one (.int .i64 i_5)])],[(64,.var [.str h_1.fState,.str h_1.fRest,.int .i64 h_1.fCount]),(240,.sl 5 tail_3)])
 | .c2 bits_4 i_5 x_6 k_7 h_1 tail_3=>(tdo Tryd.f128 2085456,[(1,[.one (.ptr 64 0)]),(3,[.one (.own 240)]),(4,[.one (.int .i64 bits_4)]),(5,[.one (.int .i64 i_5)]),(6,[.one (.int .i64 x_6)]),(7,[.one (.int .i64 k_7)])],[(64,.var [.str h_1.fState,.str h_1.fRest,.int .i64 h_1.fCount]),(240,.sl 5 tail_3)])
 | .c3 at_10 tail_3 state_8 k_9=>(tdo Tryd.f128 65488,[(3,[.one (.own 240)]),(8,[.one (.own 560)]),(9,[.one (.own 624)]),(10,[.one (.int .i64 at_10)])],[(240,.sl 5 tail_3),(560,.sl 119 state_8),(624,.sl 119 k_9)])
noncomputable def Jp (z0:Ub) (z1:FZ) (z2:Xb) (z3:Zb) (z4:XZ) (k:Ef→Option ByteArray) (h_0:SHasher):Option ByteArray:=
 (z0 h_0).bind fun r0=>
 bif (!r0) then
 some ⟨#[]⟩
 else
 bif (decide (h_0.fRest.size≤9223372036854775807)) then
 bif (decide ((((bytesOf h_0.fRest).length+1)*1)≤140737488355328)) then
 k (.c0 h_0 ((bytesOf h_0.fRest)++[(128:Int)]))
 else none
 else none
noncomputable def WY (z0:Ub) (z1:FZ) (z2:Xb) (z3:Zb) (z4:XZ) (k:Ef→Option ByteArray):Ef→Option ByteArray
 | .c0 h_1 tail_3=>
 bif (((tail_3.length:Int).tmod 64) != 56) then
  bif (decide (((tail_3.length+1)*1)≤140737488355328)) then
  k (.c0 h_1 (tail_3++[(0:Int)]))
  else none
 else
  k (.c1 (w64 (8*h_1.fCount)) 7 h_1 tail_3)
 | .c1 bits_4 i_5 h_1 tail_3=>
 bif (decide (i_5≥0)) then
  k (.c2 bits_4 i_5 bits_4 0 h_1 tail_3)
 else
  (z1 h_1.fState).bind fun r0=>
  z2.bind fun r1=>
  k (.c3 0 tail_3 r0 r1)
 | .c2 bits_4 i_5 x_6 k_7 h_1 tail_3=>
 bif (decide (k_7<i_5)) then
  k (.c2 bits_4 i_5 (w64 (x_6.tdiv 256)) (w64 (k_7+1)) h_1 tail_3)
 else
  bif (decide (((tail_3.length+1)*1)≤140737488355328)) then
  k (.c1 bits_4 (w64 (i_5 - 1)) h_1 (tail_3++[(w8 (x_6.tmod 256))]))
  else none
 | .c3 at_10 tail_3 state_8 k_9=>
 bif (decide (at_10<(tail_3.length:Int))) then
  bif (((decide (0≤at_10)) && (decide (at_10≤(w64 (at_10+64))))) && (decide ((w64 (at_10+64))≤(tail_3.length:Int)))) then
  (z3 state_8 k_9 (ofBytes ((tail_3.drop at_10.toNat).take ((w64 (at_10+64)).toNat - at_10.toNat)))).bind fun r0=>
  k (.c3 (w64 (at_10+64)) tail_3 r0 k_9)
  else none
 else
  (z4 state_8).bind fun r1=>
  some r1
noncomputable def RX:Nat→Ef→Option ByteArray
 | 0,_=>none
 | m+1,s=>WY FY YX UY NY LY (RX m) s
noncomputable def Gf:Ip:=Jp FY YX UY NY LY (RX gas)
theorem G7:Tells ctx PP 128 cv13 cv3 (fun a=>Gf a):=
 have b:∀ z0 z1 z2 z3 z4,CutIs ctx PP 128 Tryd.f128 [] [(148,Vj z0),(149,Vb z1),(150,Yj z2),(151,Ak z3),(152,Qe z4)] cv3 Gx (WY z0 z1 z2 z3 z4):=fun z0 z1 z2 z3 z4 _ s=>by cases s <;> kernel_rfl
 have e:∀ z0 z1 z2 z3 z4,EntryIs ctx PP 128 [] [(148,Vj z0),(149,Vb z1),(150,Yj z2),(151,Ak z3),(152,Qe z4)] cv13 cv3 Gx (fun k a=>Jp z0 z1 z2 z3 z4 k a):=fun z0 z1 z2 z3 z4 _ a=>by kernel_rfl
 fn_ok (hc Kw (hc Zo (hc Vw (hc Zw (hc Qo hl_nil))))) Tryd.func128 (fun s s' h=>by cases s <;> cases s' <;> first | ((repeat cases ‹SHasher›);cases h;done) | ((repeat cases ‹SHasher›);cases h;rfl) | exact (rg_ne h (by kernel_rfl)).elim) (fun _=>rfl) (fun _ _=>rfl) (b FY YX UY NY LY) (e FY YX UY NY LY) gas
noncomputable def H7 {γ:Type} (F:Ip):Hd ctx γ:=hdl cv13.dec (fun a=>F a) cv3.enc
abbrev Np:=ByteArray→Option ByteArray
noncomputable def Qp (z0:Ro) (z1:Fp) (z2:Ip) (s_0:ByteArray):Option ByteArray:=
 z0.bind fun r0=>
 (z1 r0 s_0).bind fun r1=>
 (z2 r1).bind fun r2=>
 some r2
noncomputable def Hf:Np:=Qp Ue Df Gf
theorem I7:Tells ctx PP 95 cv3 cv3 (fun a=>Hf a):=fn_ok0 (hc J6 (hc D7 (hc G7 hl_nil))) Tryd.func95 ((fun z0 z1 z2 a=>by kernel_rfl:∀ z0 z1 z2,EntryIs0 ctx PP 95 [] [(130,L6 z0),(129,F7 z1),(128,H7 z2)] cv3 cv3 fun a=>Qp z0 z1 z2 a) Ue Df Gf)
noncomputable def J7 {γ:Type} (F:Np):Hd ctx γ:=hdl cv3.dec (fun a=>F a) cv3.enc
abbrev Vp:=Int→Int→Option ByteArray
inductive Jf where
 | c0 (n_0:Int) (x_1:Int) (i_6:Int) (out_5:(List Int))
noncomputable def Ox:Jf→LI
 | .c0 n_0 x_1 i_6 out_5=>(tdo Tryd.f96 464,[(0,[.one (.int .i64 n_0)]),(1,[.one (.int .u8 x_1)]),(5,[.one (.own 368)]),(6,[.one (.int .i64 i_6)])],[(368,.sl 5 out_5)])
noncomputable def Wp (k:Jf→Option ByteArray) (n_0:Int) (x_1:Int):Option ByteArray:=
 bif ((((decide (0≤n_0)) && (decide (n_0≤n_0))) && (decide (n_0≤9223372036854775807))) && (decide ((n_0.toNat*1)≤140737488355328))) then
 k (.c0 n_0 x_1 0 (List.replicate n_0.toNat (0:Int)))
 else none
noncomputable def Ik (k:Jf→Option ByteArray):Jf→Option ByteArray
 | .c0 n_0 x_1 i_6 out_5=>
 bif (decide (i_6<n_0)) then
  bif ((decide (0≤i_6)) && (decide (i_6<(out_5.length:Int)))) then
  k (.c0 n_0 x_1 (w64 (i_6+1)) (out_5.set i_6.toNat x_1))
  else none
 else
  some (ofBytes out_5)
noncomputable def Rf:Nat→Jf→Option ByteArray
 | 0,_=>none
 | m+1,s=>Ik (Rf m) s
noncomputable def Tf:Vp:=Wp (Rf gas)
theorem N7:Tells ctx PP 96 cv55 cv3 (fun a=>Tf a.1 a.2):=
 have b:CutIs ctx PP 96 Tryd.f96 [] [] cv3 Ox (Ik):=fun _ s=>by cases s <;> kernel_rfl
 have e:EntryIs ctx PP 96 [] [] cv55 cv3 Ox (fun k a=>Wp k a.1 a.2):=fun _ a=>by kernel_rfl
 fn_ok hl_nil Tryd.func96 (fun s s' h=>by cases s;cases s';cases h;rfl) (fun _=>rfl) (fun _ _=>rfl) b e gas
noncomputable def O7 {γ:Type} (F:Vp):Hd ctx γ:=hdl cv55.dec (fun a=>F a.1 a.2) cv3.enc
abbrev Xp:=Option SBook
noncomputable def Yp (z0:Np) (z1:Vp)  : Option SBook:=
 (z0 ⟨#[]⟩).bind fun r0=>
 (z1 32 0).bind fun r1=>
 some ⟨r0,0,[],0,r1,0⟩
noncomputable def Uf:Xp:=Yp Hf Tf
theorem P7:Tells ctx PP 42 cv10 cv52 (fun _=>Uf):=fn_ok0 (hc I7 (hc N7 hl_nil)) Tryd.func42 ((fun z0 z1 _=>by kernel_rfl:∀ z0 z1,EntryIs0 ctx PP 42 [] [(95,J7 z0),(96,O7 z1)] cv10 cv52 fun _=>Yp z0 z1) Hf Tf)
noncomputable def Q7 {γ:Type} (F:Xp):Hd ctx γ:=hdl cv10.dec (fun _=>F) cv52.enc
abbrev Zp:=SBox→Option SBox
noncomputable def Aq (z0:Xp) (b_0:SBox):Option SBox:=
 bif (decide (((0+b_0.fDisk.fFiles.length)*40)≤140737488355328)) then
 z0.bind fun r0=>
 some ⟨b_0.fKey,false,⟨([]++b_0.fDisk.fFiles)⟩,r0,[],[],0⟩
 else none
noncomputable def Vf:Zp:=Aq Uf
theorem U7:Tells ctx PP 20 cv86 cv85 (fun a=>Vf a):=fn_ok0 (hc P7 hl_nil) Tryd.func20 ((fun z0 a=>by kernel_rfl:∀ z0,EntryIs0 ctx PP 20 [] [(42,Q7 z0)] cv86 cv85 fun a=>Aq z0 a) Uf)
noncomputable def V7 {γ:Type} (F:Zp):Hd ctx γ:=hdl cv86.dec (fun a=>F a) cv85.enc
abbrev Bq:=SDisk→Option SDisk
noncomputable def Dq (d_0:SDisk):Option SDisk:=
 bif (decide ((d_0.fFiles.length*40)≤140737488355328)) then
 some d_0
 else none
noncomputable def Xf:Bq:=Dq
theorem X7:Tells ctx PP 53 cv87 cv77 (fun a=>Xf a):=fn_ok0 hl_nil Tryd.func53 (fun a=>by kernel_rfl:EntryIs0 ctx PP 53 [] [] cv87 cv77 fun a=>Dq a)
noncomputable def Y7 {γ:Type} (F:Bq):Hd ctx γ:=hdl cv87.dec (fun a=>F a) cv77.enc
abbrev Fq:=Option (List Int)
noncomputable def Px  : Option (List Int):=
 some [1779033703,3144134277,1013904242,2773480762,1359893119,2600822924,528734635,1541459225]
noncomputable def Jk:Fq:=Px
theorem Z7:Tells ctx PP 132 cv10 cv32 (fun _=>Jk):=fn_ok0 hl_nil Tryd.func132 (fun _=>by kernel_rfl:EntryIs0 ctx PP 132 [] [] cv10 cv32 fun _=>Px)
noncomputable def A8 {γ:Type} (F:Fq):Hd ctx γ:=hdl cv10.dec (fun _=>F) cv32.enc
abbrev Nk:=Int→Option ByteArray
noncomputable def Gq (n_0:Int):Option ByteArray:=
 bif ((((decide (0≤n_0)) && (decide (n_0≤n_0))) && (decide (n_0≤9223372036854775807))) && (decide ((n_0.toNat*1)≤140737488355328))) then
 some (ofBytes (List.replicate n_0.toNat (0:Int)))
 else none
noncomputable def Aa:Nk:=Gq
theorem Qx:Tells ctx PP 99 cv2 cv3 (fun a=>Aa a):=fn_ok0 hl_nil Tryd.func99 (fun a=>by kernel_rfl:EntryIs0 ctx PP 99 [] [] cv2 cv3 fun a=>Gq a)
noncomputable def Rx {γ:Type} (F:Nk):Hd ctx γ:=hdl cv2.dec (fun a=>F a) cv3.enc
abbrev Yf:=Int→Option ByteArray
noncomputable def Hq (n_0:Int):Option ByteArray:=
 some (ofBytes [(w8 (Int.fdiv n_0 (2 ^ (Min.min (24:Int).toNat (IntKind.bits IntKind.u32))))),(w8 (Int.fdiv n_0 (2 ^ (Min.min (16:Int).toNat (IntKind.bits IntKind.u32))))),(w8 (Int.fdiv n_0 (2 ^ (Min.min (8:Int).toNat (IntKind.bits IntKind.u32))))),(w8 n_0)])
noncomputable def CZ:Yf:=Hq
theorem Ux:Tells ctx PP 85 cv7 cv3 (fun a=>CZ a):=fn_ok0 hl_nil Tryd.func85 (fun a=>by kernel_rfl:EntryIs0 ctx PP 85 [] [] cv7 cv3 fun a=>Hq a)
noncomputable def Iq {γ:Type} (F:Yf):Hd ctx γ:=hdl cv7.dec (fun a=>F a) cv3.enc
abbrev Jq:=Int→Option ByteArray
noncomputable def Kq (z0:Yf) (n_0:Int):Option ByteArray:=
 (z0 (w32 (Int.fdiv n_0 (2 ^ (Min.min (32:Int).toNat (IntKind.bits IntKind.i64)))))).bind fun r0=>
 (z0 (w32 n_0)).bind fun r1=>
 bif (decide ((r0.size+r1.size)≤9223372036854775807)) then
 some (r0++r1)
 else none
noncomputable def Zf:Jq:=Kq CZ
theorem D8:Tells ctx PP 155 cv2 cv3 (fun a=>Zf a):=fn_ok0 (hc Ux hl_nil) Tryd.func155 ((fun z0 a=>by kernel_rfl:∀ z0,EntryIs0 ctx PP 155 [] [(85,Iq z0)] cv2 cv3 fun a=>Kq z0 a) CZ)
noncomputable def E8 {γ:Type} (F:Jq):Hd ctx γ:=hdl cv2.dec (fun a=>F a) cv3.enc
abbrev Nq:=Int→Option ByteArray
noncomputable def Oq (z0:Nk) (z1:Jq) (count_0:Int):Option ByteArray:=
 (z0 ((w64 (119 - (count_0.tmod 64))).tmod 64)).bind fun r0=>
 bif (decide (((⟨#[128]⟩:ByteArray).size+r0.size)≤9223372036854775807)) then
 (z1 (w64 (8*count_0))).bind fun r1=>
 bif (decide ((((⟨#[128]⟩:ByteArray)++r0).size+r1.size)≤9223372036854775807)) then
 some (((⟨#[128]⟩:ByteArray)++r0)++r1)
 else none
 else none
noncomputable def Ag:Nq:=Oq Aa Zf
theorem F8:Tells ctx PP 133 cv2 cv3 (fun a=>Ag a):=fn_ok0 (hc Qx (hc D8 hl_nil)) Tryd.func133 ((fun z0 z1 a=>by kernel_rfl:∀ z0 z1,EntryIs0 ctx PP 133 [] [(99,Rx z0),(155,E8 z1)] cv2 cv3 fun a=>Oq z0 z1 a) Aa Zf)
noncomputable def G8 {γ:Type} (F:Nq):Hd ctx γ:=hdl cv2.dec (fun a=>F a) cv3.enc
abbrev Pq:=Int→Int→Option Int
noncomputable def Qq (x_0:Int) (k_1:Int):Option Int:=
 bif (decide (0≤(wu64 (32 - (wu64 (((BitVec.toNat ((BitVec.ofInt (IntKind.bits IntKind.u64) (wu64 k_1)) &&& (BitVec.ofInt (IntKind.bits IntKind.u64) 31))):Nat):Int)))))) then
 some (w32 (((BitVec.toNat ((BitVec.ofInt (IntKind.bits IntKind.u32) (w32 (x_0*(2 ^ (Min.min (wu64 (((BitVec.toNat ((BitVec.ofInt (IntKind.bits IntKind.u64) (wu64 k_1)) &&& (BitVec.ofInt (IntKind.bits IntKind.u64) 31))):Nat):Int)).toNat (IntKind.bits IntKind.u32)))))) ||| (BitVec.ofInt (IntKind.bits IntKind.u32) (Int.fdiv x_0 (2 ^ (Min.min (wu64 (32 - (wu64 (((BitVec.toNat ((BitVec.ofInt (IntKind.bits IntKind.u64) (wu64 k_1)) &&& (BitVec.ofInt (IntKind.bits IntKind.u64) 31))):Nat):Int)))).toNat (IntKind.bits IntKind.u32))))))):Nat):Int))
 else none
noncomputable def Bg:Pq:=Qq
theorem H8:Tells ctx PP 161 cv33 cv7 (fun a=>Bg a.1 a.2):=fn_ok0 hl_nil Tryd.func161 (fun a=>by kernel_rfl:EntryIs0 ctx PP 161 [] [] cv33 cv7 fun a=>Qq a.1 a.2)
noncomputable def I8 {γ:Type} (F:Pq):Hd ctx γ:=hdl cv33.dec (fun a=>F a.1 a.2) cv7.enc
abbrev Ac:=Int→Int→Option Int
noncomputable def Rq (z0:Pq) (x_0:Int) (n_1:Int):Option Int:=
 (z0 x_0 (w64 (0 - n_1))).bind fun r0=>
 some r0
noncomputable def CV:Ac:=Rq Bg
theorem Vx:Tells ctx PP 159 cv33 cv7 (fun a=>CV a.1 a.2):=fn_ok0 (hc H8 hl_nil) Tryd.func159 ((fun z0 a=>by kernel_rfl:∀ z0,EntryIs0 ctx PP 159 [] [(161,I8 z0)] cv33 cv7 fun a=>Rq z0 a.1 a.2) Bg)
noncomputable def Qk {γ:Type} (F:Ac):Hd ctx γ:=hdl cv33.dec (fun a=>F a.1 a.2) cv7.enc
abbrev Rk:=ByteArray→Option (List Int)
inductive Fg where
 | c0 (block_0:ByteArray) (v_11:Int) (v_2r0:(List Int)) (w_3r0:(List Int))
 | c1 (block_0:ByteArray) (i_4:Int) (v_11:Int) (v_14:Int) (v_2r0:(List Int)) (w_3r0:(List Int))
 | c2 (t_6:Int) (v_2r0:(List Int)) (w_3r0:(List Int))
noncomputable def Wx:Fg→LI
 | .c0 block_0 v_11 v_2r0 w_3r0=>(tdo Tryd.f158 232,[(0,[.one (.str block_0)]),(2,[.one (.ptr 128 0)]),(3,[.one (.ptr 192 0)]),(11,[.one (.int .i64 v_11)])],[(128,.ar 119 v_2r0),(192,.ar 119 w_3r0)])
 | .c1 block_0 i_4 v_11 v_14 v_2r0 w_3r0=>(tdo Tryd.f158 59800,[(0,[.one (.str block_0)]),(2,[.one (.ptr 128 0)]),(3,[.one (.ptr 192 0)]),(4,[.one (.int .i64 i_4)]),(11,[.one (.int .i64 v_11)]),(14,[.one (.int .i64 v_14)])],[(128,.ar 119 v_2r0),(192,.ar 119 w_3r0)])
 | .c2 t_6 v_2r0 w_3r0=>(tdo Tryd.f158 976,[(2,[.one (.ptr 128 0)]),(3,[.one (.ptr 192 0)]),(6,[.one (.int .i64 t_6)])],[(128,.ar 119 v_2r0),(192,.ar 119 w_3r0)])
noncomputable def Tq (z0:Ac) (k:Fg→Option (List Int)) (block_0:ByteArray):Option (List Int):=
 k (.c0 block_0 0 (List.replicate 64 (0:Int)) (List.replicate 64 (0:Int)))
noncomputable def GZ (z0:Ac) (k:Fg→Option (List Int)):Fg→Option (List Int)
 | .c0 block_0 v_11 v_2r0 w_3r0=>
 bif (decide (v_11<16)) then
  k (.c1 block_0 v_11 v_11 0 v_2r0 w_3r0)
 else
  k (.c2 16 v_2r0 w_3r0)
 | .c1 block_0 i_4 v_11 v_14 v_2r0 w_3r0=>
 bif (decide (v_14<4)) then
  bif (Nat.beq 64 w_3r0.length) then
  bif ((decide (0≤i_4)) && (decide (i_4<(w_3r0.length:Int)))) then
  bif ((decide (0≤(w64 ((w64 (4*i_4))+v_14)))) && (decide ((w64 ((w64 (4*i_4))+v_14))<(block_0.size:Int)))) then
  bif (Nat.beq 64 w_3r0.length) then
  bif ((decide (0≤i_4)) && (decide (i_4<(w_3r0.length:Int)))) then
  k (.c1 block_0 i_4 v_11 (w64 (v_14+1)) v_2r0 (w_3r0.set i_4.toNat (w32 (((BitVec.toNat ((BitVec.ofInt (IntKind.bits IntKind.u32) (w32 ((w_3r0.getD i_4.toNat 0)*(2 ^ (Min.min (8:Int).toNat (IntKind.bits IntKind.u32)))))) ||| (BitVec.ofInt (IntKind.bits IntKind.u32) (w32 (bt block_0 (w64 ((w64 (4*i_4))+v_14))))))):Nat):Int))))
  else none
  else none
  else none
  else none
  else none
 else
  k (.c0 block_0 (w64 (v_11+1)) v_2r0 w_3r0)
 | .c2 t_6 v_2r0 w_3r0=>
 bif (decide (t_6<64)) then
  bif (Nat.beq 64 w_3r0.length) then
  bif ((decide (0≤(w64 (t_6 - 15)))) && (decide ((w64 (t_6 - 15))<(w_3r0.length:Int)))) then
  bif (Nat.beq 64 w_3r0.length) then
  bif ((decide (0≤(w64 (t_6 - 2)))) && (decide ((w64 (t_6 - 2))<(w_3r0.length:Int)))) then
  (z0 (w_3r0.getD (w64 (t_6 - 15)).toNat 0) 7).bind fun r0=>
  (z0 (w_3r0.getD (w64 (t_6 - 15)).toNat 0) 18).bind fun r1=>
  (z0 (w_3r0.getD (w64 (t_6 - 2)).toNat 0) 17).bind fun r2=>
  (z0 (w_3r0.getD (w64 (t_6 - 2)).toNat 0) 19).bind fun r3=>
  bif (Nat.beq 64 w_3r0.length) then
  bif ((decide (0≤(w64 (t_6 - 7)))) && (decide ((w64 (t_6 - 7))<(w_3r0.length:Int)))) then
  bif (Nat.beq 64 w_3r0.length) then
  bif ((decide (0≤(w64 (t_6 - 16)))) && (decide ((w64 (t_6 - 16))<(w_3r0.length:Int)))) then
  bif (Nat.beq 64 w_3r0.length) then
  bif ((decide (0≤t_6)) && (decide (t_6<(w_3r0.length:Int)))) then
  k (.c2 (w64 (t_6+1)) v_2r0 (w_3r0.set t_6.toNat (w32 ((w32 ((w32 ((w32 (((BitVec.toNat ((BitVec.ofInt (IntKind.bits IntKind.u32) (w32 (((BitVec.toNat ((BitVec.ofInt (IntKind.bits IntKind.u32) r2) ^^^ (BitVec.ofInt (IntKind.bits IntKind.u32) r3))):Nat):Int))) ^^^ (BitVec.ofInt (IntKind.bits IntKind.u32) (Int.fdiv (w_3r0.getD (w64 (t_6 - 2)).toNat 0) (2 ^ (Min.min (10:Int).toNat (IntKind.bits IntKind.u32))))))):Nat):Int))+(w_3r0.getD (w64 (t_6 - 7)).toNat 0)))+(w32 (((BitVec.toNat ((BitVec.ofInt (IntKind.bits IntKind.u32) (w32 (((BitVec.toNat ((BitVec.ofInt (IntKind.bits IntKind.u32) r0) ^^^ (BitVec.ofInt (IntKind.bits IntKind.u32) r1))):Nat):Int))) ^^^ (BitVec.ofInt (IntKind.bits IntKind.u32) (Int.fdiv (w_3r0.getD (w64 (t_6 - 15)).toNat 0) (2 ^ (Min.min (3:Int).toNat (IntKind.bits IntKind.u32))))))):Nat):Int))))+(w_3r0.getD (w64 (t_6 - 16)).toNat 0)))))
  else none
  else none
  else none
  else none
  else none
  else none
  else none
  else none
  else none
  else none
 else
  bif (Nat.beq 64 w_3r0.length) then
  bif ((Nat.beq w_3r0.length v_2r0.length) && (Nat.beq 64 w_3r0.length)) then
  bif ((Nat.beq 64 w_3r0.length) && true) then
  some w_3r0
  else none
  else none
  else none
noncomputable def HY:Nat→Fg→Option (List Int)
 | 0,_=>none
 | m+1,s=>GZ CV (HY m) s
noncomputable def Ba:Rk:=Tq CV (HY gas)
theorem J8:Tells ctx PP 158 cv3 cv32 (fun a=>Ba a):=
 have b:∀ z0,CutIs ctx PP 158 Tryd.f158 [] [(159,Qk z0)] cv32 Wx (GZ z0):=fun z0 _ s=>by cases s <;> kernel_rfl
 have e:∀ z0,EntryIs ctx PP 158 [] [(159,Qk z0)] cv3 cv32 Wx (fun k a=>Tq z0 k a):=fun z0 _ a=>by kernel_rfl
 fn_ok (hc Vx hl_nil) Tryd.func158 (fun s s' h=>by cases s <;> cases s' <;> first | (cases h;done) | (cases h;rfl) | exact (rg_ne h (by kernel_rfl)).elim) (fun _=>rfl) (fun _ _=>rfl) (b CV) (e CV) gas
noncomputable def Xx {γ:Type} (F:Rk):Hd ctx γ:=hdl cv3.dec (fun a=>F a) cv32.enc
abbrev Uk:=(List Int)→ByteArray→Option (List Int)
inductive Gg where
 | c0 (a_6:Int) (b_7:Int) (c_8:Int) (d_9:Int) (e_10:Int) (f_11:Int) (g_12:Int) (h_13:Int) (v_37:Int) (state_2r0:(List Int)) (v_4r0:(List Int)) (w_5r0:(List Int))
 | c1 (v_109:Int) (state_2r0:(List Int)) (v_4r0:(List Int)) (out_17r0:(List Int))
noncomputable def Yx:Gg→LI
 | .c0 a_6 b_7 c_8 d_9 e_10 f_11 g_12 h_13 v_37 state_2r0 v_4r0 w_5r0=>(tdo Tryd.f154 488,[(2,[.one (.ptr 128 0)]),(4,[.one (.ptr 256 0)]),(5,[.one (.ptr 320 0)]),(6,[.one (.int .u32 a_6)]),(7,[.one (.int .u32 b_7)]),(8,[.one (.int .u32 c_8)]),(9,[.one (.int .u32 d_9)]),(10,[.one (.int .u32 e_10)]),(11,[.one (.int .u32 f_11)]),(12,[.one (.int .u32 g_12)]),(13,[.one (.int .u32 h_13)]),(37,[.one (.int .i64 v_37)])],[(128,.ar 119 state_2r0),(256,.ar 119 v_4r0),(320,.ar 119 w_5r0)])
 | .c1 v_109 state_2r0 v_4r0 out_17r0=>(tdo Tryd.f154 2024,[(2,[.one (.ptr 128 0)]),(4,[.one (.ptr 256 0)]),(17,[.one (.ptr 1088 0)]),(109,[.one (.int .i64 v_109)])],[(128,.ar 119 state_2r0),(256,.ar 119 v_4r0),(1088,.ar 119 out_17r0)])
noncomputable def Vq (z0:Rk) (z1:Ac) (k:Gg→Option (List Int)) (state_0:(List Int)) (block_1:ByteArray):Option (List Int):=
 (z0 block_1).bind fun r0=>
 bif ((Nat.beq r0.length (List.replicate 64 (0:Int)).length) && (Nat.beq 64 r0.length)) then
 bif (Nat.beq 8 state_0.length) then
 bif ((decide ((0:Int)≤(0:Int))) && (decide (0<(state_0.length:Int)))) then
 bif (Nat.beq 8 state_0.length) then
 bif ((decide ((0:Int)≤(1:Int))) && (decide (1<(state_0.length:Int)))) then
 bif (Nat.beq 8 state_0.length) then
 bif ((decide ((0:Int)≤(2:Int))) && (decide (2<(state_0.length:Int)))) then
 bif (Nat.beq 8 state_0.length) then
 bif ((decide ((0:Int)≤(3:Int))) && (decide (3<(state_0.length:Int)))) then
 bif (Nat.beq 8 state_0.length) then
 bif ((decide ((0:Int)≤(4:Int))) && (decide (4<(state_0.length:Int)))) then
 bif (Nat.beq 8 state_0.length) then
 bif ((decide ((0:Int)≤(5:Int))) && (decide (5<(state_0.length:Int)))) then
 bif (Nat.beq 8 state_0.length) then
 bif ((decide ((0:Int)≤(6:Int))) && (decide (6<(state_0.length:Int)))) then
 bif (Nat.beq 8 state_0.length) then
 bif ((decide ((0:Int)≤(7:Int))) && (decide (7<(state_0.length:Int)))) then
 k (.c0 (state_0.getD (0:Int).toNat 0) (state_0.getD (1:Int).toNat 0) (state_0.getD (2:Int).toNat 0) (state_0.getD (3:Int).toNat 0) (state_0.getD (4:Int).toNat 0) (state_0.getD (5:Int).toNat 0) (state_0.getD (6:Int).toNat 0) (state_0.getD (7:Int).toNat 0) 0 state_0 [0,0,0,0,0,0,0,0] r0)
 else none
 else none
 else none
 else none
 else none
 else none
 else none
 else none
 else none
 else none
 else none
 else none
 else none
 else none
 else none
 else none
 else none
noncomputable def Bc (z0:Rk) (z1:Ac) (k:Gg→Option (List Int)):Gg→Option (List Int)
 | .c0 a_6 b_7 c_8 d_9 e_10 f_11 g_12 h_13 v_37 state_2r0 v_4r0 w_5r0=>
 bif (decide (v_37<64)) then
  (z1 e_10 6).bind fun r0=>
  (z1 e_10 11).bind fun r1=>
  (z1 e_10 25).bind fun r2=>
  bif ((decide (0≤v_37)) && (decide (v_37<((64:Nat):Int)))) then
  bif (Nat.blt v_37.toNat 64) then
  bif (Nat.beq 64 w_5r0.length) then
  bif ((decide (0≤v_37)) && (decide (v_37<(w_5r0.length:Int)))) then
  (z1 a_6 2).bind fun r3=>
  (z1 a_6 13).bind fun r4=>
  (z1 a_6 22).bind fun r5=>
  k (.c0 (w32 ((w32 ((w32 ((w32 ((w32 (h_13+(w32 (((BitVec.toNat ((BitVec.ofInt (IntKind.bits IntKind.u32) (w32 (((BitVec.toNat ((BitVec.ofInt (IntKind.bits IntKind.u32) r0) ^^^ (BitVec.ofInt (IntKind.bits IntKind.u32) r1))):Nat):Int))) ^^^ (BitVec.ofInt (IntKind.bits IntKind.u32) r2))):Nat):Int))))+(w32 (((BitVec.toNat ((BitVec.ofInt (IntKind.bits IntKind.u32) (w32 (((BitVec.toNat ((BitVec.ofInt (IntKind.bits IntKind.u32) e_10) &&& (BitVec.ofInt (IntKind.bits IntKind.u32) f_11))):Nat):Int))) ^^^ (BitVec.ofInt (IntKind.bits IntKind.u32) (w32 (((BitVec.toNat ((BitVec.ofInt (IntKind.bits IntKind.u32) (w32 (((BitVec.toNat ((BitVec.ofInt (IntKind.bits IntKind.u32) (ite ((IntKind.signed IntKind.u32)=true) (-(1:Int)) (IntKind.max IntKind.u32))) ^^^ (BitVec.ofInt (IntKind.bits IntKind.u32) e_10))):Nat):Int))) &&& (BitVec.ofInt (IntKind.bits IntKind.u32) g_12))):Nat):Int))))):Nat):Int))))+([(1116352408:Int),(1899447441:Int),(3049323471:Int),(3921009573:Int),(961987163:Int),(1508970993:Int),(2453635748:Int),(2870763221:Int),(3624381080:Int),(310598401:Int),(607225278:Int),(1426881987:Int),(1925078388:Int),(2162078206:Int),(2614888103:Int),(3248222580:Int),(3835390401:Int),(4022224774:Int),(264347078:Int),(604807628:Int),(770255983:Int),(1249150122:Int),(1555081692:Int),(1996064986:Int),(2554220882:Int),(2821834349:Int),(2952996808:Int),(3210313671:Int),(3336571891:Int),(3584528711:Int),(113926993:Int),(338241895:Int),(666307205:Int),(773529912:Int),(1294757372:Int),(1396182291:Int),(1695183700:Int),(1986661051:Int),(2177026350:Int),(2456956037:Int),(2730485921:Int),(2820302411:Int),(3259730800:Int),(3345764771:Int),(3516065817:Int),(3600352804:Int),(4094571909:Int),(275423344:Int),(430227734:Int),(506948616:Int),(659060556:Int),(883997877:Int),(958139571:Int),(1322822218:Int),(1537002063:Int),(1747873779:Int),(1955562222:Int),(2024104815:Int),(2227730452:Int),(2361852424:Int),(2428436474:Int),(2756734187:Int),(3204031479:Int),(3329325298:Int)].getD v_37.toNat 0)))+(w_5r0.getD v_37.toNat 0)))+(w32 ((w32 (((BitVec.toNat ((BitVec.ofInt (IntKind.bits IntKind.u32) (w32 (((BitVec.toNat ((BitVec.ofInt (IntKind.bits IntKind.u32) r3) ^^^ (BitVec.ofInt (IntKind.bits IntKind.u32) r4))):Nat):Int))) ^^^ (BitVec.ofInt (IntKind.bits IntKind.u32) r5))):Nat):Int))+(w32 (((BitVec.toNat ((BitVec.ofInt (IntKind.bits IntKind.u32) (w32 (((BitVec.toNat ((BitVec.ofInt (IntKind.bits IntKind.u32) (w32 (((BitVec.toNat ((BitVec.ofInt (IntKind.bits IntKind.u32) a_6) &&& (BitVec.ofInt (IntKind.bits IntKind.u32) b_7))):Nat):Int))) ^^^ (BitVec.ofInt (IntKind.bits IntKind.u32) (w32 (((BitVec.toNat ((BitVec.ofInt (IntKind.bits IntKind.u32) a_6) &&& (BitVec.ofInt (IntKind.bits IntKind.u32) c_8))):Nat):Int))))):Nat):Int))) ^^^ (BitVec.ofInt (IntKind.bits IntKind.u32) (w32 (((BitVec.toNat ((BitVec.ofInt (IntKind.bits IntKind.u32) b_7) &&& (BitVec.ofInt (IntKind.bits IntKind.u32) c_8))):Nat):Int))))):Nat):Int)))))) a_6 b_7 c_8 (w32 (d_9+(w32 ((w32 ((w32 ((w32 (h_13+(w32 (((BitVec.toNat ((BitVec.ofInt (IntKind.bits IntKind.u32) (w32 (((BitVec.toNat ((BitVec.ofInt (IntKind.bits IntKind.u32) r0) ^^^ (BitVec.ofInt (IntKind.bits IntKind.u32) r1))):Nat):Int))) ^^^ (BitVec.ofInt (IntKind.bits IntKind.u32) r2))):Nat):Int))))+(w32 (((BitVec.toNat ((BitVec.ofInt (IntKind.bits IntKind.u32) (w32 (((BitVec.toNat ((BitVec.ofInt (IntKind.bits IntKind.u32) e_10) &&& (BitVec.ofInt (IntKind.bits IntKind.u32) f_11))):Nat):Int))) ^^^ (BitVec.ofInt (IntKind.bits IntKind.u32) (w32 (((BitVec.toNat ((BitVec.ofInt (IntKind.bits IntKind.u32) (w32 (((BitVec.toNat ((BitVec.ofInt (IntKind.bits IntKind.u32) (ite ((IntKind.signed IntKind.u32)=true) (-(1:Int)) (IntKind.max IntKind.u32))) ^^^ (BitVec.ofInt (IntKind.bits IntKind.u32) e_10))):Nat):Int))) &&& (BitVec.ofInt (IntKind.bits IntKind.u32) g_12))):Nat):Int))))):Nat):Int))))+([(1116352408:Int),(1899447441:Int),(3049323471:Int),(3921009573:Int),(961987163:Int),(1508970993:Int),(2453635748:Int),(2870763221:Int),(3624381080:Int),(310598401:Int),(607225278:Int),(1426881987:Int),(1925078388:Int),(2162078206:Int),(2614888103:Int),(3248222580:Int),(3835390401:Int),(4022224774:Int),(264347078:Int),(604807628:Int),(770255983:Int),(1249150122:Int),(1555081692:Int),(1996064986:Int),(2554220882:Int),(2821834349:Int),(2952996808:Int),(3210313671:Int),(3336571891:Int),(3584528711:Int),(113926993:Int),(338241895:Int),(666307205:Int),(773529912:Int),(1294757372:Int),(1396182291:Int),(1695183700:Int),(1986661051:Int),(2177026350:Int),(2456956037:Int),(2730485921:Int),(2820302411:Int),(3259730800:Int),(3345764771:Int),(3516065817:Int),(3600352804:Int),(4094571909:Int),(275423344:Int),(430227734:Int),(506948616:Int),(659060556:Int),(883997877:Int),(958139571:Int),(1322822218:Int),(1537002063:Int),(1747873779:Int),(1955562222:Int),(2024104815:Int),(2227730452:Int),(2361852424:Int),(2428436474:Int),(2756734187:Int),(3204031479:Int),(3329325298:Int)].getD v_37.toNat 0)))+(w_5r0.getD v_37.toNat 0))))) e_10 f_11 g_12 (w64 (v_37+1)) state_2r0 v_4r0 w_5r0)
  else none
  else none
  else none
  else none
 else
  k (.c1 0 state_2r0 v_4r0 [a_6,b_7,c_8,d_9,e_10,f_11,g_12,h_13])
 | .c1 v_109 state_2r0 v_4r0 out_17r0=>
 bif (decide (v_109<8)) then
  bif (Nat.beq 8 out_17r0.length) then
  bif ((decide (0≤v_109)) && (decide (v_109<(out_17r0.length:Int)))) then
  bif (Nat.beq 8 state_2r0.length) then
  bif ((decide (0≤v_109)) && (decide (v_109<(state_2r0.length:Int)))) then
  bif (Nat.beq 8 out_17r0.length) then
  bif ((decide (0≤v_109)) && (decide (v_109<(out_17r0.length:Int)))) then
  k (.c1 (w64 (v_109+1)) state_2r0 v_4r0 (out_17r0.set v_109.toNat (w32 ((out_17r0.getD v_109.toNat 0)+(state_2r0.getD v_109.toNat 0)))))
  else none
  else none
  else none
  else none
  else none
  else none
 else
  bif (Nat.beq 8 out_17r0.length) then
  bif ((Nat.beq out_17r0.length v_4r0.length) && (Nat.beq 8 out_17r0.length)) then
  bif ((Nat.beq 8 out_17r0.length) && true) then
  some out_17r0
  else none
  else none
  else none
noncomputable def OY:Nat→Gg→Option (List Int)
 | 0,_=>none
 | m+1,s=>Bc Ba CV (OY m) s
noncomputable def Ea:Uk:=Vq Ba CV (OY gas)
theorem L8:Tells ctx PP 154 cv34 cv32 (fun a=>Ea a.1 a.2):=
 have b:∀ z0 z1,CutIs ctx PP 154 Tryd.f154 [] [(158,Xx z0),(159,Qk z1)] cv32 Yx (Bc z0 z1):=fun z0 z1 _ s=>by cases s <;> kernel_rfl
 have e:∀ z0 z1,EntryIs ctx PP 154 [] [(158,Xx z0),(159,Qk z1)] cv34 cv32 Yx (fun k a=>Vq z0 z1 k a.1 a.2):=fun z0 z1 _ a=>by kernel_rfl
 fn_ok (hc J8 (hc Vx hl_nil)) Tryd.func154 (fun s s' h=>by cases s <;> cases s' <;> first | (cases h;done) | (cases h;rfl) | exact (rg_ne h (by kernel_rfl)).elim) (fun _=>rfl) (fun _ _=>rfl) (b Ba CV) (e Ba CV) gas
noncomputable def Zx {γ:Type} (F:Uk):Hd ctx γ:=hdl cv34.dec (fun a=>F a.1 a.2) cv32.enc
abbrev Wq:=(List Int)→ByteArray→Option ((List Int)×ByteArray)
inductive Hg where
 | c0 (s_1:ByteArray) (state_2r0:(List Int)) (v_4r0:(List Int))
noncomputable def Dy:Hg→LI
 | .c0 s_1 state_2r0 v_4r0=>(tdo Tryd.f131 96,[(1,[.one (.str s_1)]),(2,[.one (.ptr 128 0)]),(4,[.one (.ptr 256 0)])],[(128,.ar 119 state_2r0),(256,.ar 119 v_4r0)])
noncomputable def Xq (z0:Uk) (k:Hg→Option ((List Int)×ByteArray)) (state_0:(List Int)) (s_1:ByteArray):Option ((List Int)×ByteArray):=
 k (.c0 s_1 state_0 [0,0,0,0,0,0,0,0])
noncomputable def Vk (z0:Uk) (k:Hg→Option ((List Int)×ByteArray)):Hg→Option ((List Int)×ByteArray)
 | .c0 s_1 state_2r0 v_4r0=>
 bif (decide ((s_1.size:Int)≥64)) then
  bif (Nat.beq 8 state_2r0.length) then
  bif ((decide ((0:Int)≤(64:Int))) && (decide (64≤(s_1.size:Int)))) then
  (z0 state_2r0 (s_1.extract 0 (64:Int).toNat)).bind fun r0=>
  bif ((Nat.beq r0.length state_2r0.length) && (Nat.beq 8 r0.length)) then
  bif ((decide ((0:Int)≤(64:Int))) && (decide (64≤(s_1.size:Int)))) then
  k (.c0 (s_1.extract (64:Int).toNat s_1.size) r0 v_4r0)
  else none
  else none
  else none
  else none
 else
  bif (Nat.beq 8 state_2r0.length) then
  bif ((Nat.beq state_2r0.length v_4r0.length) && (Nat.beq 8 state_2r0.length)) then
  bif ((Nat.beq 8 state_2r0.length) && true) then
  some (state_2r0,s_1)
  else none
  else none
  else none
noncomputable def Ig:Nat→Hg→Option ((List Int)×ByteArray)
 | 0,_=>none
 | m+1,s=>Vk Ea (Ig m) s
noncomputable def Jg:Wq:=Xq Ea (Ig gas)
theorem N8:Tells ctx PP 131 cv34 cv34 (fun a=>Jg a.1 a.2):=
 have b:∀ z0,CutIs ctx PP 131 Tryd.f131 [] [(154,Zx z0)] cv34 Dy (Vk z0):=fun z0 _ s=>by cases s <;> kernel_rfl
 have e:∀ z0,EntryIs ctx PP 131 [] [(154,Zx z0)] cv34 cv34 Dy (fun k a=>Xq z0 k a.1 a.2):=fun z0 _ a=>by kernel_rfl
 fn_ok (hc L8 hl_nil) Tryd.func131 (fun s s' h=>by cases s;cases s';cases h;rfl) (fun _=>rfl) (fun _ _=>rfl) (b Ea) (e Ea) gas
noncomputable def O8 {γ:Type} (F:Wq):Hd ctx γ:=hdl cv34.dec (fun a=>F a.1 a.2) cv34.enc
abbrev Yq:=(List Int)→Option ByteArray
inductive Og where
 | c0 (out_3:ByteArray) (v_6:(List Int)) (v_7:Int)
noncomputable def Ey:Og→LI
 | .c0 out_3 v_6 v_7=>(tdo Tryd.f134 232,[(3,[.one (.str out_3)]),(6,[.arr 119 v_6]),(7,[.one (.int .i64 v_7)])],[])
noncomputable def Zq (z0:Yf) (k:Og→Option ByteArray) (state_0:(List Int)):Option ByteArray:=
 bif (Nat.beq 8 state_0.length) then
 k (.c0 ⟨#[]⟩ state_0 0)
 else none
noncomputable def Xk (z0:Yf) (k:Og→Option ByteArray):Og→Option ByteArray
 | .c0 out_3 v_6 v_7=>
 bif (decide (v_7<8)) then
  bif (Nat.beq 8 v_6.length) then
  bif ((decide (0≤v_7)) && (decide (v_7<(v_6.length:Int)))) then
  (z0 (v_6.getD v_7.toNat 0)).bind fun r0=>
  bif (decide ((out_3.size+r0.size)≤9223372036854775807)) then
  k (.c0 (out_3++r0) v_6 (w64 (v_7+1)))
  else none
  else none
  else none
 else
  some out_3
noncomputable def Pg:Nat→Og→Option ByteArray
 | 0,_=>none
 | m+1,s=>Xk CZ (Pg m) s
noncomputable def Qg:Yq:=Zq CZ (Pg gas)
theorem P8:Tells ctx PP 134 cv32 cv3 (fun a=>Qg a):=
 have b:∀ z0,CutIs ctx PP 134 Tryd.f134 [] [(85,Iq z0)] cv3 Ey (Xk z0):=fun z0 _ s=>by cases s <;> kernel_rfl
 have e:∀ z0,EntryIs ctx PP 134 [] [(85,Iq z0)] cv32 cv3 Ey (fun k a=>Zq z0 k a):=fun z0 _ a=>by kernel_rfl
 fn_ok (hc Ux hl_nil) Tryd.func134 (fun s s' h=>by cases s;cases s';cases h;rfl) (fun _=>rfl) (fun _ _=>rfl) (b CZ) (e CZ) gas
noncomputable def Q8 {γ:Type} (F:Yq):Hd ctx γ:=hdl cv32.dec (fun a=>F a) cv3.enc
abbrev Ar:=ByteArray→Option ByteArray
noncomputable def Hr (z0:Fq) (z1:Nq) (z2:Wq) (z3:Yq) (s_0:ByteArray):Option ByteArray:=
 z0.bind fun r0=>
 (z1 (s_0.size:Int)).bind fun r1=>
 bif (decide ((s_0.size+r1.size)≤9223372036854775807)) then
 (z2 r0 (s_0++r1)).bind fun r2=>
 bif ((Nat.beq r2.1.length 8) && (Nat.beq 8 r2.1.length)) then
 bif (Nat.beq 8 r2.1.length) then
 (z3 r2.1).bind fun r3=>
 some r3
 else none
 else none
 else none
noncomputable def Ug:Ar:=Hr Jk Ag Jg Qg
theorem U8:Tells ctx PP 98 cv3 cv3 (fun a=>Ug a):=fn_ok0 (hc Z7 (hc F8 (hc N8 (hc P8 hl_nil)))) Tryd.func98 ((fun z0 z1 z2 z3 a=>by kernel_rfl:∀ z0 z1 z2 z3,EntryIs0 ctx PP 98 [] [(132,A8 z0),(133,G8 z1),(131,O8 z2),(134,Q8 z3)] cv3 cv3 fun a=>Hr z0 z1 z2 z3 a) Jk Ag Jg Qg)
noncomputable def V8 {γ:Type} (F:Ar):Hd ctx γ:=hdl cv3.dec (fun a=>F a) cv3.enc
abbrev Ir:=Option SBook
noncomputable def Jr (z0:Ar) (z1:Nk)  : Option SBook:=
 (z0 ⟨#[]⟩).bind fun r0=>
 (z1 32).bind fun r1=>
 some ⟨r0,0,[],0,r1,0⟩
noncomputable def Vg:Ir:=Jr Ug Aa
theorem X8:Tells ctx PP 45 cv10 cv52 (fun _=>Vg):=fn_ok0 (hc U8 (hc Qx hl_nil)) Tryd.func45 ((fun z0 z1 _=>by kernel_rfl:∀ z0 z1,EntryIs0 ctx PP 45 [] [(98,V8 z0),(99,Rx z1)] cv10 cv52 fun _=>Jr z0 z1) Ug Aa)
noncomputable def Y8 {γ:Type} (F:Ir):Hd ctx γ:=hdl cv10.dec (fun _=>F) cv52.enc
abbrev Kr:=SBox→Option SBox
noncomputable def Lr (z0:Bq) (z1:Ir) (b_0:SBox):Option SBox:=
 (z0 b_0.fDisk).bind fun r0=>
 z1.bind fun r1=>
 some ⟨b_0.fKey,false,r0,r1,[],[],0⟩
noncomputable def Xg:Kr:=Lr Xf Vg
theorem Z8:Tells ctx PP 22 cv86 cv85 (fun a=>Xg a):=fn_ok0 (hc X7 (hc X8 hl_nil)) Tryd.func22 ((fun z0 z1 a=>by kernel_rfl:∀ z0 z1,EntryIs0 ctx PP 22 [] [(53,Y7 z0),(45,Y8 z1)] cv86 cv85 fun a=>Lr z0 z1 a) Xf Vg)
noncomputable def C9 {γ:Type} (F:Kr):Hd ctx γ:=hdl cv86.dec (fun a=>F a) cv85.enc
abbrev Yk:=SFile→SFile→Option Bool
noncomputable def Nr (a_0:SFile) (b_1:SFile):Option Bool:=
 bif (!((ByteArray.toList a_0.fName) == (ByteArray.toList b_1.fName))) then
 some false
 else
 bif (!((ByteArray.toList a_0.fText) == (ByteArray.toList b_1.fText))) then
  some false
 else
  bif (a_0.fKept != b_1.fKept) then
  some false
  else
  some true
noncomputable def Fa:Yk:=Nr
theorem D9:Tells ctx PP 137 cv88 cv1 (fun a=>Fa a.1 a.2):=fn_ok0 hl_nil Tryd.func137 (fun a=>by kernel_rfl:EntryIs0 ctx PP 137 [] [] cv88 cv1 fun a=>Nr a.1 a.2)
noncomputable def Gy {γ:Type} (F:Yk):Hd ctx γ:=hdl cv88.dec (fun a=>F a.1 a.2) cv1.enc
abbrev Qr:=(List SFile)→(List SFile)→Option Bool
inductive Yg where
 | c0 (a_0:(List SFile)) (b_1:(List SFile)) (i_5:Int)
noncomputable def Hy:Yg→LI
 | .c0 a_0 b_1 i_5=>(tdo Tryd.f104 464,[(0,[.one (.rsl 168 a_0)]),(1,[.one (.rsl 168 b_1)]),(5,[.one (.int .i64 i_5)])],[])
noncomputable def Sr (z0:Yk) (k:Yg→Option Bool) (a_0:(List SFile)) (b_1:(List SFile)):Option Bool:=
 bif ((a_0.length:Int) != (b_1.length:Int)) then
 some false
 else
 k (.c0 a_0 b_1 0)
noncomputable def Zk (z0:Yk) (k:Yg→Option Bool):Yg→Option Bool
 | .c0 a_0 b_1 i_5=>
 bif (decide (i_5<(a_0.length:Int))) then
  bif ((decide (0≤i_5)) && (decide (i_5<(a_0.length:Int)))) then
  bif ((decide (0≤i_5)) && (decide (i_5<(b_1.length:Int)))) then
  (z0 (a_0.getD i_5.toNat (⟨⟨#[]⟩,⟨#[]⟩,0⟩:SFile)) (b_1.getD i_5.toNat (⟨⟨#[]⟩,⟨#[]⟩,0⟩:SFile))).bind fun r0=>
  bif (!r0) then
  some false
  else
  k (.c0 a_0 b_1 (w64 (i_5+1)))
  else none
  else none
 else
  some true
noncomputable def Cc:Nat→Yg→Option Bool
 | 0,_=>none
 | m+1,s=>Zk Fa (Cc m) s
noncomputable def Zg:Qr:=Sr Fa (Cc gas)
theorem F9:Tells ctx PP 104 cv89 cv1 (fun a=>Zg a.1 a.2):=
 have b:∀ z0,CutIs ctx PP 104 Tryd.f104 [] [(137,Gy z0)] cv1 Hy (Zk z0):=fun z0 _ s=>by cases s <;> kernel_rfl
 have e:∀ z0,EntryIs ctx PP 104 [] [(137,Gy z0)] cv89 cv1 Hy (fun k a=>Sr z0 k a.1 a.2):=fun z0 _ a=>by kernel_rfl
 fn_ok (hc D9 hl_nil) Tryd.func104 (fun s s' h=>by cases s;cases s';cases h;rfl) (fun _=>rfl) (fun _ _=>rfl) (b Fa) (e Fa) gas
noncomputable def G9 {γ:Type} (F:Qr):Hd ctx γ:=hdl cv89.dec (fun a=>F a.1 a.2) cv1.enc
abbrev Ur:=SDisk→SDisk→Option Bool
noncomputable def Vr (z0:Qr) (a_0:SDisk) (b_1:SDisk):Option Bool:=
 (z0 a_0.fFiles b_1.fFiles).bind fun r0=>
 bif (!r0) then
 some false
 else
 some true
noncomputable def Ah:Ur:=Vr Zg
theorem H9:Tells ctx PP 54 cv90 cv1 (fun a=>Ah a.1 a.2):=fn_ok0 (hc F9 hl_nil) Tryd.func54 ((fun z0 a=>by kernel_rfl:∀ z0,EntryIs0 ctx PP 54 [] [(104,G9 z0)] cv90 cv1 fun a=>Vr z0 a.1 a.2) Zg)
noncomputable def I9 {γ:Type} (F:Ur):Hd ctx γ:=hdl cv90.dec (fun a=>F a.1 a.2) cv1.enc
abbrev Bl:=SThing→SThing→Option Bool
noncomputable def Xr (a_0:SThing) (b_1:SThing):Option Bool:=
 bif (a_0.fId != b_1.fId) then
 some false
 else
 bif (a_0.fKind != b_1.fKind) then
  some false
 else
  bif (!(a_0.fHidden == b_1.fHidden)) then
  some false
  else
  bif (!(a_0.fFixed == b_1.fFixed)) then
   some false
  else
   bif (!(a_0.fSigns == b_1.fSigns)) then
   some false
   else
   bif (!(a_0.fWraps == b_1.fWraps)) then
    some false
   else
    bif (!((ByteArray.toList a_0.fValue) == (ByteArray.toList b_1.fValue))) then
    some false
    else
    bif (a_0.fNext != b_1.fNext) then
     some false
    else
     some true
noncomputable def Ia:Bl:=Xr
theorem J9:Tells ctx PP 93 cv39 cv1 (fun a=>Ia a.1 a.2):=fn_ok0 hl_nil Tryd.func93 (fun a=>by kernel_rfl:EntryIs0 ctx PP 93 [] [] cv39 cv1 fun a=>Xr a.1 a.2)
noncomputable def Iy {γ:Type} (F:Bl):Hd ctx γ:=hdl cv39.dec (fun a=>F a.1 a.2) cv1.enc
abbrev Yr:=(List SThing)→(List SThing)→Option Bool
inductive Bh where
 | c0 (a_0:(List SThing)) (b_1:(List SThing)) (i_5:Int)
noncomputable def Jy:Bh→LI
 | .c0 a_0 b_1 i_5=>(tdo Tryd.f46 464,[(0,[.one (.rsl 71 a_0)]),(1,[.one (.rsl 71 b_1)]),(5,[.one (.int .i64 i_5)])],[])
noncomputable def Zr (z0:Bl) (k:Bh→Option Bool) (a_0:(List SThing)) (b_1:(List SThing)):Option Bool:=
 bif ((a_0.length:Int) != (b_1.length:Int)) then
 some false
 else
 k (.c0 a_0 b_1 0)
noncomputable def Dl (z0:Bl) (k:Bh→Option Bool):Bh→Option Bool
 | .c0 a_0 b_1 i_5=>
 bif (decide (i_5<(a_0.length:Int))) then
  bif ((decide (0≤i_5)) && (decide (i_5<(a_0.length:Int)))) then
  bif ((decide (0≤i_5)) && (decide (i_5<(b_1.length:Int)))) then
  (z0 (a_0.getD i_5.toNat (⟨0,0,false,false,false,false,⟨#[]⟩,0⟩:SThing)) (b_1.getD i_5.toNat (⟨0,0,false,false,false,false,⟨#[]⟩,0⟩:SThing))).bind fun r0=>
  bif (!r0) then
  some false
  else
  k (.c0 a_0 b_1 (w64 (i_5+1)))
  else none
  else none
 else
  some true
noncomputable def Dc:Nat→Bh→Option Bool
 | 0,_=>none
 | m+1,s=>Dl Ia (Dc m) s
noncomputable def Dh:Yr:=Zr Ia (Dc gas)
theorem L9:Tells ctx PP 46 cv64 cv1 (fun a=>Dh a.1 a.2):=
 have b:∀ z0,CutIs ctx PP 46 Tryd.f46 [] [(93,Iy z0)] cv1 Jy (Dl z0):=fun z0 _ s=>by cases s <;> kernel_rfl
 have e:∀ z0,EntryIs ctx PP 46 [] [(93,Iy z0)] cv64 cv1 Jy (fun k a=>Zr z0 k a.1 a.2):=fun z0 _ a=>by kernel_rfl
 fn_ok (hc J9 hl_nil) Tryd.func46 (fun s s' h=>by cases s;cases s';cases h;rfl) (fun _=>rfl) (fun _ _=>rfl) (b Ia) (e Ia) gas
noncomputable def N9 {γ:Type} (F:Yr):Hd ctx γ:=hdl cv64.dec (fun a=>F a.1 a.2) cv1.enc
abbrev Es:=SBook→SBook→Option Bool
noncomputable def Gs (z0:Yr) (a_0:SBook) (b_1:SBook):Option Bool:=
 bif (!((ByteArray.toList a_0.fWord) == (ByteArray.toList b_1.fWord))) then
 some false
 else
 bif (a_0.fTries != b_1.fTries) then
  some false
 else
  (z0 a_0.fThings b_1.fThings).bind fun r0=>
  bif (!r0) then
  some false
  else
  bif (a_0.fLast != b_1.fLast) then
   some false
  else
   bif (!((ByteArray.toList a_0.fChain) == (ByteArray.toList b_1.fChain))) then
   some false
   else
   bif (a_0.fCount != b_1.fCount) then
    some false
   else
    some true
noncomputable def Eh:Es:=Gs Dh
theorem O9:Tells ctx PP 18 cv65 cv1 (fun a=>Eh a.1 a.2):=fn_ok0 (hc L9 hl_nil) Tryd.func18 ((fun z0 a=>by kernel_rfl:∀ z0,EntryIs0 ctx PP 18 [] [(46,N9 z0)] cv65 cv1 fun a=>Gs z0 a.1 a.2) Dh)
noncomputable def P9 {γ:Type} (F:Es):Hd ctx γ:=hdl cv65.dec (fun a=>F a.1 a.2) cv1.enc
abbrev Gl:=SSession→SSession→Option Bool
noncomputable def Js (a_0:SSession) (b_1:SSession):Option Bool:=
 bif (a_0.fId != b_1.fId) then
 some false
 else
 bif (!(a_0.fIn == b_1.fIn)) then
  some false
 else
  some true
noncomputable def Ja:Gl:=Js
theorem Q9:Tells ctx PP 105 cv91 cv1 (fun a=>Ja a.1 a.2):=fn_ok0 hl_nil Tryd.func105 (fun a=>by kernel_rfl:EntryIs0 ctx PP 105 [] [] cv91 cv1 fun a=>Js a.1 a.2)
noncomputable def Ky {γ:Type} (F:Gl):Hd ctx γ:=hdl cv91.dec (fun a=>F a.1 a.2) cv1.enc
abbrev Ls:=(List SSession)→(List SSession)→Option Bool
inductive Fh where
 | c0 (a_0:(List SSession)) (b_1:(List SSession)) (i_5:Int)
noncomputable def Ny:Fh→LI
 | .c0 a_0 b_1 i_5=>(tdo Tryd.f55 464,[(0,[.one (.rsl 130 a_0)]),(1,[.one (.rsl 130 b_1)]),(5,[.one (.int .i64 i_5)])],[])
noncomputable def Ns (z0:Gl) (k:Fh→Option Bool) (a_0:(List SSession)) (b_1:(List SSession)):Option Bool:=
 bif ((a_0.length:Int) != (b_1.length:Int)) then
 some false
 else
 k (.c0 a_0 b_1 0)
noncomputable def Hl (z0:Gl) (k:Fh→Option Bool):Fh→Option Bool
 | .c0 a_0 b_1 i_5=>
 bif (decide (i_5<(a_0.length:Int))) then
  bif ((decide (0≤i_5)) && (decide (i_5<(a_0.length:Int)))) then
  bif ((decide (0≤i_5)) && (decide (i_5<(b_1.length:Int)))) then
  (z0 (a_0.getD i_5.toNat (⟨0,false⟩:SSession)) (b_1.getD i_5.toNat (⟨0,false⟩:SSession))).bind fun r0=>
  bif (!r0) then
  some false
  else
  k (.c0 a_0 b_1 (w64 (i_5+1)))
  else none
  else none
 else
  some true
noncomputable def Ic:Nat→Fh→Option Bool
 | 0,_=>none
 | m+1,s=>Hl Ja (Ic m) s
noncomputable def Gh:Ls:=Ns Ja (Ic gas)
theorem S9:Tells ctx PP 55 cv92 cv1 (fun a=>Gh a.1 a.2):=
 have b:∀ z0,CutIs ctx PP 55 Tryd.f55 [] [(105,Ky z0)] cv1 Ny (Hl z0):=fun z0 _ s=>by cases s <;> kernel_rfl
 have e:∀ z0,EntryIs ctx PP 55 [] [(105,Ky z0)] cv92 cv1 Ny (fun k a=>Ns z0 k a.1 a.2):=fun z0 _ a=>by kernel_rfl
 fn_ok (hc Q9 hl_nil) Tryd.func55 (fun s s' h=>by cases s;cases s';cases h;rfl) (fun _=>rfl) (fun _ _=>rfl) (b Ja) (e Ja) gas
noncomputable def U9 {γ:Type} (F:Ls):Hd ctx γ:=hdl cv92.dec (fun a=>F a.1 a.2) cv1.enc
abbrev Il:=SLive→SLive→Option Bool
noncomputable def Qs (a_0:SLive) (b_1:SLive):Option Bool:=
 bif (a_0.fId != b_1.fId) then
 some false
 else
 bif (a_0.fNext != b_1.fNext) then
  some false
 else
  some true
noncomputable def La:Il:=Qs
theorem V9:Tells ctx PP 106 cv93 cv1 (fun a=>La a.1 a.2):=fn_ok0 hl_nil Tryd.func106 (fun a=>by kernel_rfl:EntryIs0 ctx PP 106 [] [] cv93 cv1 fun a=>Qs a.1 a.2)
noncomputable def Oy {γ:Type} (F:Il):Hd ctx γ:=hdl cv93.dec (fun a=>F a.1 a.2) cv1.enc
abbrev Us:=(List SLive)→(List SLive)→Option Bool
inductive Ih where
 | c0 (a_0:(List SLive)) (b_1:(List SLive)) (i_5:Int)
noncomputable def Py:Ih→LI
 | .c0 a_0 b_1 i_5=>(tdo Tryd.f56 464,[(0,[.one (.rsl 134 a_0)]),(1,[.one (.rsl 134 b_1)]),(5,[.one (.int .i64 i_5)])],[])
noncomputable def Vs (z0:Il) (k:Ih→Option Bool) (a_0:(List SLive)) (b_1:(List SLive)):Option Bool:=
 bif ((a_0.length:Int) != (b_1.length:Int)) then
 some false
 else
 k (.c0 a_0 b_1 0)
noncomputable def Jl (z0:Il) (k:Ih→Option Bool):Ih→Option Bool
 | .c0 a_0 b_1 i_5=>
 bif (decide (i_5<(a_0.length:Int))) then
  bif ((decide (0≤i_5)) && (decide (i_5<(a_0.length:Int)))) then
  bif ((decide (0≤i_5)) && (decide (i_5<(b_1.length:Int)))) then
  (z0 (a_0.getD i_5.toNat (⟨0,0⟩:SLive)) (b_1.getD i_5.toNat (⟨0,0⟩:SLive))).bind fun r0=>
  bif (!r0) then
  some false
  else
  k (.c0 a_0 b_1 (w64 (i_5+1)))
  else none
  else none
 else
  some true
noncomputable def Jc:Nat→Ih→Option Bool
 | 0,_=>none
 | m+1,s=>Jl La (Jc m) s
noncomputable def Jh:Us:=Vs La (Jc gas)
theorem W9:Tells ctx PP 56 cv94 cv1 (fun a=>Jh a.1 a.2):=
 have b:∀ z0,CutIs ctx PP 56 Tryd.f56 [] [(106,Oy z0)] cv1 Py (Jl z0):=fun z0 _ s=>by cases s <;> kernel_rfl
 have e:∀ z0,EntryIs ctx PP 56 [] [(106,Oy z0)] cv94 cv1 Py (fun k a=>Vs z0 k a.1 a.2):=fun z0 _ a=>by kernel_rfl
 fn_ok (hc V9 hl_nil) Tryd.func56 (fun s s' h=>by cases s;cases s';cases h;rfl) (fun _=>rfl) (fun _ _=>rfl) (b La) (e La) gas
noncomputable def X9 {γ:Type} (F:Us):Hd ctx γ:=hdl cv94.dec (fun a=>F a.1 a.2) cv1.enc
abbrev Ws:=SBox→SBox→Option Bool
noncomputable def Dt (z0:Ur) (z1:Es) (z2:Ls) (z3:Us) (a_0:SBox) (b_1:SBox):Option Bool:=
 bif (!((ByteArray.toList a_0.fKey) == (ByteArray.toList b_1.fKey))) then
 some false
 else
 bif (!(a_0.fUp == b_1.fUp)) then
  some false
 else
  (z0 a_0.fDisk b_1.fDisk).bind fun r0=>
  bif (!r0) then
  some false
  else
  (z1 a_0.fBook b_1.fBook).bind fun r1=>
  bif (!r1) then
   some false
  else
   (z2 a_0.fSessions b_1.fSessions).bind fun r2=>
   bif (!r2) then
   some false
   else
   (z3 a_0.fLives b_1.fLives).bind fun r3=>
   bif (!r3) then
    some false
   else
    bif (a_0.fOpened != b_1.fOpened) then
    some false
    else
    some true
noncomputable def Lh:Ws:=Dt Ah Eh Gh Jh
theorem Y9:Tells ctx PP 23 cv95 cv1 (fun a=>Lh a.1 a.2):=fn_ok0 (hc H9 (hc O9 (hc S9 (hc W9 hl_nil)))) Tryd.func23 ((fun z0 z1 z2 z3 a=>by kernel_rfl:∀ z0 z1 z2 z3,EntryIs0 ctx PP 23 [] [(54,I9 z0),(18,P9 z1),(55,U9 z2),(56,X9 z3)] cv95 cv1 fun a=>Dt z0 z1 z2 z3 a.1 a.2) Ah Eh Gh Jh)
noncomputable def Z9 {γ:Type} (F:Ws):Hd ctx γ:=hdl cv95.dec (fun a=>F a.1 a.2) cv1.enc
abbrev XY:=Int→Option ByteArray
inductive Nh where
 | c0 (k_0:Int) (out_3:ByteArray)
noncomputable def Qy:Nh→LI
 | .c0 k_0 out_3=>(tdo Tryd.f39 480,[(0,[.one (.int .i64 k_0)]),(3,[.one (.str out_3)])],[])
noncomputable def Et (k:Nh→Option ByteArray) (k_0:Int):Option ByteArray:=
 bif (decide (k_0≤0)) then
 some ⟨#[109,48]⟩
 else
 k (.c0 k_0 ⟨#[]⟩)
noncomputable def Ll (k:Nh→Option ByteArray):Nh→Option ByteArray
 | .c0 k_0 out_3=>
 bif (decide (k_0 > 0)) then
  bif (decide (((ofBytes [(w8 (w64 (48+(k_0.tmod 10))))]).size+out_3.size)≤9223372036854775807)) then
  k (.c0 (w64 (k_0.tdiv 10)) ((ofBytes [(w8 (w64 (48+(k_0.tmod 10))))])++out_3))
  else none
 else
  bif (decide (((⟨#[109]⟩:ByteArray).size+out_3.size)≤9223372036854775807)) then
  some ((⟨#[109]⟩:ByteArray)++out_3)
  else none
noncomputable def Oh:Nat→Nh→Option ByteArray
 | 0,_=>none
 | m+1,s=>Ll (Oh m) s
noncomputable def RV:XY:=Et (Oh gas)
theorem Nl:Tells ctx PP 39 cv2 cv3 (fun a=>RV a):=
 have b:CutIs ctx PP 39 Tryd.f39 [] [] cv3 Qy (Ll):=fun _ s=>by cases s <;> kernel_rfl
 have e:EntryIs ctx PP 39 [] [] cv2 cv3 Qy (fun k a=>Et k a):=fun _ a=>by kernel_rfl
 fn_ok hl_nil Tryd.func39 (fun s s' h=>by cases s;cases s';cases h;rfl) (fun _=>rfl) (fun _ _=>rfl) b e gas
noncomputable def IZ {γ:Type} (F:XY):Hd ctx γ:=hdl cv2.dec (fun a=>F a) cv3.enc
abbrev Gt:=(List SFile)→Int→Option (Int×(List SFile))
inductive Ph where
 | c0 (k_1:Int) (i_5:Int) (a_0r1:(List SFile))
noncomputable def Ry:Ph→LI
 | .c0 k_1 i_5 a_0r1=>(tdo Tryd.f107 208,[(0,[.one (.own 1)]),(1,[.one (.int .i64 k_1)]),(5,[.one (.int .i64 i_5)])],[(1,.io 168 a_0r1)])
noncomputable def Ht (z0:XY) (k:Ph→Option (Int×(List SFile))) (a_0:(List SFile)) (k_1:Int):Option (Int×(List SFile)):=
 k (.c0 k_1 0 a_0)
noncomputable def Ol (z0:XY) (k:Ph→Option (Int×(List SFile))):Ph→Option (Int×(List SFile))
 | .c0 k_1 i_5 a_0r1=>
 bif (decide (i_5<(a_0r1.length:Int))) then
  (z0 k_1).bind fun r0=>
  bif ((decide (0≤i_5)) && (decide (i_5<(a_0r1.length:Int)))) then
  (z0 (w64 (k_1+1))).bind fun r1=>
  bif ((decide (0≤i_5)) && (decide (i_5<((a_0r1.set i_5.toNat (⟨r0,(a_0r1.getD i_5.toNat (⟨⟨#[]⟩,⟨#[]⟩,0⟩:SFile)).fText,(a_0r1.getD i_5.toNat (⟨⟨#[]⟩,⟨#[]⟩,0⟩:SFile)).fKept⟩:SFile)).length:Int)))) then
  bif ((decide (0≤i_5)) && (decide (i_5<(((a_0r1.set i_5.toNat (⟨r0,(a_0r1.getD i_5.toNat (⟨⟨#[]⟩,⟨#[]⟩,0⟩:SFile)).fText,(a_0r1.getD i_5.toNat (⟨⟨#[]⟩,⟨#[]⟩,0⟩:SFile)).fKept⟩:SFile)).set i_5.toNat (⟨((a_0r1.set i_5.toNat (⟨r0,(a_0r1.getD i_5.toNat (⟨⟨#[]⟩,⟨#[]⟩,0⟩:SFile)).fText,(a_0r1.getD i_5.toNat (⟨⟨#[]⟩,⟨#[]⟩,0⟩:SFile)).fKept⟩:SFile)).getD i_5.toNat (⟨⟨#[]⟩,⟨#[]⟩,0⟩:SFile)).fName,r1,((a_0r1.set i_5.toNat (⟨r0,(a_0r1.getD i_5.toNat (⟨⟨#[]⟩,⟨#[]⟩,0⟩:SFile)).fText,(a_0r1.getD i_5.toNat (⟨⟨#[]⟩,⟨#[]⟩,0⟩:SFile)).fKept⟩:SFile)).getD i_5.toNat (⟨⟨#[]⟩,⟨#[]⟩,0⟩:SFile)).fKept⟩:SFile)).length:Int)))) then
  k (.c0 (w64 ((w64 ((w64 (k_1+1))+1))+1)) (w64 (i_5+1)) (((a_0r1.set i_5.toNat (⟨r0,(a_0r1.getD i_5.toNat (⟨⟨#[]⟩,⟨#[]⟩,0⟩:SFile)).fText,(a_0r1.getD i_5.toNat (⟨⟨#[]⟩,⟨#[]⟩,0⟩:SFile)).fKept⟩:SFile)).set i_5.toNat (⟨((a_0r1.set i_5.toNat (⟨r0,(a_0r1.getD i_5.toNat (⟨⟨#[]⟩,⟨#[]⟩,0⟩:SFile)).fText,(a_0r1.getD i_5.toNat (⟨⟨#[]⟩,⟨#[]⟩,0⟩:SFile)).fKept⟩:SFile)).getD i_5.toNat (⟨⟨#[]⟩,⟨#[]⟩,0⟩:SFile)).fName,r1,((a_0r1.set i_5.toNat (⟨r0,(a_0r1.getD i_5.toNat (⟨⟨#[]⟩,⟨#[]⟩,0⟩:SFile)).fText,(a_0r1.getD i_5.toNat (⟨⟨#[]⟩,⟨#[]⟩,0⟩:SFile)).fKept⟩:SFile)).getD i_5.toNat (⟨⟨#[]⟩,⟨#[]⟩,0⟩:SFile)).fKept⟩:SFile)).set i_5.toNat (⟨(((a_0r1.set i_5.toNat (⟨r0,(a_0r1.getD i_5.toNat (⟨⟨#[]⟩,⟨#[]⟩,0⟩:SFile)).fText,(a_0r1.getD i_5.toNat (⟨⟨#[]⟩,⟨#[]⟩,0⟩:SFile)).fKept⟩:SFile)).set i_5.toNat (⟨((a_0r1.set i_5.toNat (⟨r0,(a_0r1.getD i_5.toNat (⟨⟨#[]⟩,⟨#[]⟩,0⟩:SFile)).fText,(a_0r1.getD i_5.toNat (⟨⟨#[]⟩,⟨#[]⟩,0⟩:SFile)).fKept⟩:SFile)).getD i_5.toNat (⟨⟨#[]⟩,⟨#[]⟩,0⟩:SFile)).fName,r1,((a_0r1.set i_5.toNat (⟨r0,(a_0r1.getD i_5.toNat (⟨⟨#[]⟩,⟨#[]⟩,0⟩:SFile)).fText,(a_0r1.getD i_5.toNat (⟨⟨#[]⟩,⟨#[]⟩,0⟩:SFile)).fKept⟩:SFile)).getD i_5.toNat (⟨⟨#[]⟩,⟨#[]⟩,0⟩:SFile)).fKept⟩:SFile)).getD i_5.toNat (⟨⟨#[]⟩,⟨#[]⟩,0⟩:SFile)).fName,(((a_0r1.set i_5.toNat (⟨r0,(a_0r1.getD i_5.toNat (⟨⟨#[]⟩,⟨#[]⟩,0⟩:SFile)).fText,(a_0r1.getD i_5.toNat (⟨⟨#[]⟩,⟨#[]⟩,0⟩:SFile)).fKept⟩:SFile)).set i_5.toNat (⟨((a_0r1.set i_5.toNat (⟨r0,(a_0r1.getD i_5.toNat (⟨⟨#[]⟩,⟨#[]⟩,0⟩:SFile)).fText,(a_0r1.getD i_5.toNat (⟨⟨#[]⟩,⟨#[]⟩,0⟩:SFile)).fKept⟩:SFile)).getD i_5.toNat (⟨⟨#[]⟩,⟨#[]⟩,0⟩:SFile)).fName,r1,((a_0r1.set i_5.toNat (⟨r0,(a_0r1.getD i_5.toNat (⟨⟨#[]⟩,⟨#[]⟩,0⟩:SFile)).fText,(a_0r1.getD i_5.toNat (⟨⟨#[]⟩,⟨#[]⟩,0⟩:SFile)).fKept⟩:SFile)).getD i_5.toNat (⟨⟨#[]⟩,⟨#[]⟩,0⟩:SFile)).fKept⟩:SFile)).getD i_5.toNat (⟨⟨#[]⟩,⟨#[]⟩,0⟩:SFile)).fText,(w64 ((w64 (k_1+1))+1))⟩:SFile)))
  else none
  else none
  else none
 else
  some (k_1,a_0r1)
noncomputable def Na:Nat→Ph→Option (Int×(List SFile))
 | 0,_=>none
 | m+1,s=>Ol RV (Na m) s
noncomputable def Qh:Gt:=Ht RV (Na gas)
theorem AAA:Tells ctx PP 107 cv96 cv97 (fun a=>Qh a.1 a.2):=
 have b:∀ z0,CutIs ctx PP 107 Tryd.f107 [1] [(39,IZ z0)] cv97 Ry (Ol z0):=fun z0 _ s=>by cases s <;> kernel_rfl
 have e:∀ z0,EntryIs ctx PP 107 [1] [(39,IZ z0)] cv96 cv97 Ry (fun k a=>Ht z0 k a.1 a.2):=fun z0 _ a=>by kernel_rfl
 fn_ok (hc Nl hl_nil) Tryd.func107 (fun s s' h=>by cases s;cases s';cases h;rfl) (fun _=>rfl) (fun _ _=>rfl) (b RV) (e RV) gas
noncomputable def BAA {γ:Type} (F:Gt):Hd ctx γ:=hdl cv96.dec (fun a=>F a.1 a.2) cv97.enc
abbrev Jt:=SDisk→Int→Option (Int×(List SFile))
noncomputable def Kt (z0:Gt) (a_0:SDisk) (k_1:Int):Option (Int×(List SFile)):=
 (z0 a_0.fFiles k_1).bind fun r0=>
 some (r0.1,r0.2)
noncomputable def Rh:Jt:=Kt Qh
theorem CAA:Tells ctx PP 57 cv98 cv97 (fun a=>Rh a.1 a.2):=fn_ok0 (hc AAA hl_nil) Tryd.func57 ((fun z0 a=>by kernel_rfl:∀ z0,EntryIs0 ctx PP 57 [1] [(107,BAA z0)] cv98 cv97 fun a=>Kt z0 a.1 a.2) Qh)
noncomputable def DAA {γ:Type} (F:Jt):Hd ctx γ:=hdl cv98.dec (fun a=>F a.1 a.2) cv97.enc
abbrev Ot:=(List SThing)→Int→Option (Int×(List SThing))
inductive Uh where
 | c0 (k_1:Int) (i_5:Int) (a_0r1:(List SThing))
 | c1 (k_1:Int) (i_5:Int) (a_0r1:(List SThing))
 | c2 (k_1:Int) (i_5:Int) (a_0r1:(List SThing))
 | c3 (k_1:Int) (i_5:Int) (a_0r1:(List SThing))
 | c4 (k_1:Int) (i_5:Int) (a_0r1:(List SThing))
 | c5 (k_1:Int) (i_5:Int) (a_0r1:(List SThing))
 | c6 (k_1:Int) (i_5:Int) (a_0r1:(List SThing))
 | c7 (k_1:Int) (i_5:Int) (a_0r1:(List SThing))
noncomputable def Uy:Uh→LI
 | .c0 k_1 i_5 a_0r1=>(tdo Tryd.f67 208,[(0,[.one (.own 1)]),(1,[.one (.int .i64 k_1)]),(5,[.one (.int .i64 i_5)])],[(1,.io 71 a_0r1)])
 | .c1 k_1 i_5 a_0r1=>(tdo Tryd.f67 3366,[(0,[.one (.own 1)]),(1,[.one (.int .i64 k_1)]),(5,[.one (.int .i64 i_5)])],[(1,.io 71 a_0r1)])
 | .c2 k_1 i_5 a_0r1=>(tdo Tryd.f67 13470,[(0,[.one (.own 1)]),(1,[.one (.int .i64 k_1)]),(5,[.one (.int .i64 i_5)])],[(1,.io 71 a_0r1)])
 | .c3 k_1 i_5 a_0r1=>(tdo Tryd.f67 53886,[(0,[.one (.own 1)]),(1,[.one (.int .i64 k_1)]),(5,[.one (.int .i64 i_5)])],[(1,.io 71 a_0r1)])
 | .c4 k_1 i_5 a_0r1=>(tdo Tryd.f67 215550,[(0,[.one (.own 1)]),(1,[.one (.int .i64 k_1)]),(5,[.one (.int .i64 i_5)])],[(1,.io 71 a_0r1)])
 | .c5 k_1 i_5 a_0r1=>(tdo Tryd.f67 862206,[(0,[.one (.own 1)]),(1,[.one (.int .i64 k_1)]),(5,[.one (.int .i64 i_5)])],[(1,.io 71 a_0r1)])
 | .c6 k_1 i_5 a_0r1=>(tdo Tryd.f67 3448830,[(0,[.one (.own 1)]),(1,[.one (.int .i64 k_1)]),(5,[.one (.int .i64 i_5)])],[(1,.io 71 a_0r1)])
 | .c7 k_1 i_5 a_0r1=>(tdo Tryd.f67 13795326,[(0,[.one (.own 1)]),(1,[.one (.int .i64 k_1)]),(5,[.one (.int .i64 i_5)])],[(1,.io 71 a_0r1)])
noncomputable def Rt (z0:XY) (k:Uh→Option (Int×(List SThing))) (a_0:(List SThing)) (k_1:Int):Option (Int×(List SThing)):=
 k (.c0 k_1 0 a_0)
noncomputable def PY (z0:XY) (k:Uh→Option (Int×(List SThing))):Uh→Option (Int×(List SThing))
 | .c0 k_1 i_5 a_0r1=>
 bif (decide (i_5<(a_0r1.length:Int))) then
  bif ((decide (0≤i_5)) && (decide (i_5<(a_0r1.length:Int)))) then
  k (.c1 (w64 (k_1+1)) i_5 (a_0r1.set i_5.toNat (⟨k_1,(a_0r1.getD i_5.toNat (⟨0,0,false,false,false,false,⟨#[]⟩,0⟩:SThing)).fKind,(a_0r1.getD i_5.toNat (⟨0,0,false,false,false,false,⟨#[]⟩,0⟩:SThing)).fHidden,(a_0r1.getD i_5.toNat (⟨0,0,false,false,false,false,⟨#[]⟩,0⟩:SThing)).fFixed,(a_0r1.getD i_5.toNat (⟨0,0,false,false,false,false,⟨#[]⟩,0⟩:SThing)).fSigns,(a_0r1.getD i_5.toNat (⟨0,0,false,false,false,false,⟨#[]⟩,0⟩:SThing)).fWraps,(a_0r1.getD i_5.toNat (⟨0,0,false,false,false,false,⟨#[]⟩,0⟩:SThing)).fValue,(a_0r1.getD i_5.toNat (⟨0,0,false,false,false,false,⟨#[]⟩,0⟩:SThing)).fNext⟩:SThing)))
  else none
 else
  some (k_1,a_0r1)
 | .c1 k_1 i_5 a_0r1=>
 bif ((decide (0≤i_5)) && (decide (i_5<(a_0r1.length:Int)))) then
 k (.c2 (w64 (k_1+1)) i_5 (a_0r1.set i_5.toNat (⟨(a_0r1.getD i_5.toNat (⟨0,0,false,false,false,false,⟨#[]⟩,0⟩:SThing)).fId,k_1,(a_0r1.getD i_5.toNat (⟨0,0,false,false,false,false,⟨#[]⟩,0⟩:SThing)).fHidden,(a_0r1.getD i_5.toNat (⟨0,0,false,false,false,false,⟨#[]⟩,0⟩:SThing)).fFixed,(a_0r1.getD i_5.toNat (⟨0,0,false,false,false,false,⟨#[]⟩,0⟩:SThing)).fSigns,(a_0r1.getD i_5.toNat (⟨0,0,false,false,false,false,⟨#[]⟩,0⟩:SThing)).fWraps,(a_0r1.getD i_5.toNat (⟨0,0,false,false,false,false,⟨#[]⟩,0⟩:SThing)).fValue,(a_0r1.getD i_5.toNat (⟨0,0,false,false,false,false,⟨#[]⟩,0⟩:SThing)).fNext⟩:SThing)))
 else none
 | .c2 k_1 i_5 a_0r1=>
 bif ((decide (0≤i_5)) && (decide (i_5<(a_0r1.length:Int)))) then
 k (.c3 (w64 (k_1+1)) i_5 (a_0r1.set i_5.toNat (⟨(a_0r1.getD i_5.toNat (⟨0,0,false,false,false,false,⟨#[]⟩,0⟩:SThing)).fId,(a_0r1.getD i_5.toNat (⟨0,0,false,false,false,false,⟨#[]⟩,0⟩:SThing)).fKind,((k_1.tmod 3) == 0),(a_0r1.getD i_5.toNat (⟨0,0,false,false,false,false,⟨#[]⟩,0⟩:SThing)).fFixed,(a_0r1.getD i_5.toNat (⟨0,0,false,false,false,false,⟨#[]⟩,0⟩:SThing)).fSigns,(a_0r1.getD i_5.toNat (⟨0,0,false,false,false,false,⟨#[]⟩,0⟩:SThing)).fWraps,(a_0r1.getD i_5.toNat (⟨0,0,false,false,false,false,⟨#[]⟩,0⟩:SThing)).fValue,(a_0r1.getD i_5.toNat (⟨0,0,false,false,false,false,⟨#[]⟩,0⟩:SThing)).fNext⟩:SThing)))
 else none
 | .c3 k_1 i_5 a_0r1=>
 bif ((decide (0≤i_5)) && (decide (i_5<(a_0r1.length:Int)))) then
 k (.c4 (w64 (k_1+1)) i_5 (a_0r1.set i_5.toNat (⟨(a_0r1.getD i_5.toNat (⟨0,0,false,false,false,false,⟨#[]⟩,0⟩:SThing)).fId,(a_0r1.getD i_5.toNat (⟨0,0,false,false,false,false,⟨#[]⟩,0⟩:SThing)).fKind,(a_0r1.getD i_5.toNat (⟨0,0,false,false,false,false,⟨#[]⟩,0⟩:SThing)).fHidden,((k_1.tmod 3) == 0),(a_0r1.getD i_5.toNat (⟨0,0,false,false,false,false,⟨#[]⟩,0⟩:SThing)).fSigns,(a_0r1.getD i_5.toNat (⟨0,0,false,false,false,false,⟨#[]⟩,0⟩:SThing)).fWraps,(a_0r1.getD i_5.toNat (⟨0,0,false,false,false,false,⟨#[]⟩,0⟩:SThing)).fValue,(a_0r1.getD i_5.toNat (⟨0,0,false,false,false,false,⟨#[]⟩,0⟩:SThing)).fNext⟩:SThing)))
 else none
 | .c4 k_1 i_5 a_0r1=>
 bif ((decide (0≤i_5)) && (decide (i_5<(a_0r1.length:Int)))) then
 k (.c5 (w64 (k_1+1)) i_5 (a_0r1.set i_5.toNat (⟨(a_0r1.getD i_5.toNat (⟨0,0,false,false,false,false,⟨#[]⟩,0⟩:SThing)).fId,(a_0r1.getD i_5.toNat (⟨0,0,false,false,false,false,⟨#[]⟩,0⟩:SThing)).fKind,(a_0r1.getD i_5.toNat (⟨0,0,false,false,false,false,⟨#[]⟩,0⟩:SThing)).fHidden,(a_0r1.getD i_5.toNat (⟨0,0,false,false,false,false,⟨#[]⟩,0⟩:SThing)).fFixed,((k_1.tmod 3) == 0),(a_0r1.getD i_5.toNat (⟨0,0,false,false,false,false,⟨#[]⟩,0⟩:SThing)).fWraps,(a_0r1.getD i_5.toNat (⟨0,0,false,false,false,false,⟨#[]⟩,0⟩:SThing)).fValue,(a_0r1.getD i_5.toNat (⟨0,0,false,false,false,false,⟨#[]⟩,0⟩:SThing)).fNext⟩:SThing)))
 else none
 | .c5 k_1 i_5 a_0r1=>
 bif ((decide (0≤i_5)) && (decide (i_5<(a_0r1.length:Int)))) then
 k (.c6 (w64 (k_1+1)) i_5 (a_0r1.set i_5.toNat (⟨(a_0r1.getD i_5.toNat (⟨0,0,false,false,false,false,⟨#[]⟩,0⟩:SThing)).fId,(a_0r1.getD i_5.toNat (⟨0,0,false,false,false,false,⟨#[]⟩,0⟩:SThing)).fKind,(a_0r1.getD i_5.toNat (⟨0,0,false,false,false,false,⟨#[]⟩,0⟩:SThing)).fHidden,(a_0r1.getD i_5.toNat (⟨0,0,false,false,false,false,⟨#[]⟩,0⟩:SThing)).fFixed,(a_0r1.getD i_5.toNat (⟨0,0,false,false,false,false,⟨#[]⟩,0⟩:SThing)).fSigns,((k_1.tmod 3) == 0),(a_0r1.getD i_5.toNat (⟨0,0,false,false,false,false,⟨#[]⟩,0⟩:SThing)).fValue,(a_0r1.getD i_5.toNat (⟨0,0,false,false,false,false,⟨#[]⟩,0⟩:SThing)).fNext⟩:SThing)))
 else none
 | .c6 k_1 i_5 a_0r1=>
 (z0 k_1).bind fun r0=>
 bif ((decide (0≤i_5)) && (decide (i_5<(a_0r1.length:Int)))) then
 k (.c7 (w64 (k_1+1)) i_5 (a_0r1.set i_5.toNat (⟨(a_0r1.getD i_5.toNat (⟨0,0,false,false,false,false,⟨#[]⟩,0⟩:SThing)).fId,(a_0r1.getD i_5.toNat (⟨0,0,false,false,false,false,⟨#[]⟩,0⟩:SThing)).fKind,(a_0r1.getD i_5.toNat (⟨0,0,false,false,false,false,⟨#[]⟩,0⟩:SThing)).fHidden,(a_0r1.getD i_5.toNat (⟨0,0,false,false,false,false,⟨#[]⟩,0⟩:SThing)).fFixed,(a_0r1.getD i_5.toNat (⟨0,0,false,false,false,false,⟨#[]⟩,0⟩:SThing)).fSigns,(a_0r1.getD i_5.toNat (⟨0,0,false,false,false,false,⟨#[]⟩,0⟩:SThing)).fWraps,r0,(a_0r1.getD i_5.toNat (⟨0,0,false,false,false,false,⟨#[]⟩,0⟩:SThing)).fNext⟩:SThing)))
 else none
 | .c7 k_1 i_5 a_0r1=>
 bif ((decide (0≤i_5)) && (decide (i_5<(a_0r1.length:Int)))) then
 k (.c0 (w64 (k_1+1)) (w64 (i_5+1)) (a_0r1.set i_5.toNat (⟨(a_0r1.getD i_5.toNat (⟨0,0,false,false,false,false,⟨#[]⟩,0⟩:SThing)).fId,(a_0r1.getD i_5.toNat (⟨0,0,false,false,false,false,⟨#[]⟩,0⟩:SThing)).fKind,(a_0r1.getD i_5.toNat (⟨0,0,false,false,false,false,⟨#[]⟩,0⟩:SThing)).fHidden,(a_0r1.getD i_5.toNat (⟨0,0,false,false,false,false,⟨#[]⟩,0⟩:SThing)).fFixed,(a_0r1.getD i_5.toNat (⟨0,0,false,false,false,false,⟨#[]⟩,0⟩:SThing)).fSigns,(a_0r1.getD i_5.toNat (⟨0,0,false,false,false,false,⟨#[]⟩,0⟩:SThing)).fWraps,(a_0r1.getD i_5.toNat (⟨0,0,false,false,false,false,⟨#[]⟩,0⟩:SThing)).fValue,k_1⟩:SThing)))
 else none
noncomputable def EY:Nat→Uh→Option (Int×(List SThing))
 | 0,_=>none
 | m+1,s=>PY RV (EY m) s
noncomputable def Vh:Ot:=Rt RV (EY gas)
theorem EAA:Tells ctx PP 67 cv99 cv100 (fun a=>Vh a.1 a.2):=
 have b:∀ z0,CutIs ctx PP 67 Tryd.f67 [1] [(39,IZ z0)] cv100 Uy (PY z0):=fun z0 _ s=>by cases s <;> kernel_rfl
 have e:∀ z0,EntryIs ctx PP 67 [1] [(39,IZ z0)] cv99 cv100 Uy (fun k a=>Rt z0 k a.1 a.2):=fun z0 _ a=>by kernel_rfl
 fn_ok (hc Nl hl_nil) Tryd.func67 (fun s s' h=>by cases s <;> cases s' <;> first | (cases h;done) | (cases h;rfl) | exact (rg_ne h (by kernel_rfl)).elim) (fun _=>rfl) (fun _ _=>rfl) (b RV) (e RV) gas
noncomputable def FAA {γ:Type} (F:Ot):Hd ctx γ:=hdl cv99.dec (fun a=>F a.1 a.2) cv100.enc
abbrev Tt:=SBook→Int→Option (Int×(List SThing))
noncomputable def Ut (z0:Ot) (a_0:SBook) (k_1:Int):Option (Int×(List SThing)):=
 (z0 a_0.fThings k_1).bind fun r0=>
 some (r0.1,r0.2)
noncomputable def Wh:Tt:=Ut Vh
theorem GAA:Tells ctx PP 28 cv101 cv102 (fun a=>Wh a.1 a.2):=fn_ok0 (hc EAA hl_nil) Tryd.func28 ((fun z0 a=>by kernel_rfl:∀ z0,EntryIs0 ctx PP 28 [1] [(67,FAA z0)] cv101 cv102 fun a=>Ut z0 a.1 a.2) Vh)
noncomputable def HAA {γ:Type} (F:Tt):Hd ctx γ:=hdl cv101.dec (fun a=>F a.1 a.2) cv102.enc
abbrev Vt:=(List SSession)→Int→Option (Int×(List SSession))
inductive Xh where
 | c0 (k_1:Int) (i_5:Int) (a_0r1:(List SSession))
noncomputable def Vy:Xh→LI
 | .c0 k_1 i_5 a_0r1=>(tdo Tryd.f58 208,[(0,[.one (.own 1)]),(1,[.one (.int .i64 k_1)]),(5,[.one (.int .i64 i_5)])],[(1,.io 130 a_0r1)])
noncomputable def Xt (k:Xh→Option (Int×(List SSession))) (a_0:(List SSession)) (k_1:Int):Option (Int×(List SSession)):=
 k (.c0 k_1 0 a_0)
noncomputable def Ql (k:Xh→Option (Int×(List SSession))):Xh→Option (Int×(List SSession))
 | .c0 k_1 i_5 a_0r1=>
 bif (decide (i_5<(a_0r1.length:Int))) then
  bif ((decide (0≤i_5)) && (decide (i_5<(a_0r1.length:Int)))) then
  bif ((decide (0≤i_5)) && (decide (i_5<((a_0r1.set i_5.toNat (⟨k_1,(a_0r1.getD i_5.toNat (⟨0,false⟩:SSession)).fIn⟩:SSession)).length:Int)))) then
  k (.c0 (w64 ((w64 (k_1+1))+1)) (w64 (i_5+1)) ((a_0r1.set i_5.toNat (⟨k_1,(a_0r1.getD i_5.toNat (⟨0,false⟩:SSession)).fIn⟩:SSession)).set i_5.toNat (⟨((a_0r1.set i_5.toNat (⟨k_1,(a_0r1.getD i_5.toNat (⟨0,false⟩:SSession)).fIn⟩:SSession)).getD i_5.toNat (⟨0,false⟩:SSession)).fId,(((w64 (k_1+1)).tmod 3) == 0)⟩:SSession)))
  else none
  else none
 else
  some (k_1,a_0r1)
noncomputable def Oa:Nat→Xh→Option (Int×(List SSession))
 | 0,_=>none
 | m+1,s=>Ql (Oa m) s
noncomputable def Yh:Vt:=Xt (Oa gas)
theorem IAA:Tells ctx PP 58 cv103 cv104 (fun a=>Yh a.1 a.2):=
 have b:CutIs ctx PP 58 Tryd.f58 [1] [] cv104 Vy (Ql):=fun _ s=>by cases s <;> kernel_rfl
 have e:EntryIs ctx PP 58 [1] [] cv103 cv104 Vy (fun k a=>Xt k a.1 a.2):=fun _ a=>by kernel_rfl
 fn_ok hl_nil Tryd.func58 (fun s s' h=>by cases s;cases s';cases h;rfl) (fun _=>rfl) (fun _ _=>rfl) b e gas
noncomputable def JAA {γ:Type} (F:Vt):Hd ctx γ:=hdl cv103.dec (fun a=>F a.1 a.2) cv104.enc
abbrev Yt:=(List SLive)→Int→Option (Int×(List SLive))
inductive Zh where
 | c0 (k_1:Int) (i_5:Int) (a_0r1:(List SLive))
noncomputable def Wy:Zh→LI
 | .c0 k_1 i_5 a_0r1=>(tdo Tryd.f59 208,[(0,[.one (.own 1)]),(1,[.one (.int .i64 k_1)]),(5,[.one (.int .i64 i_5)])],[(1,.io 134 a_0r1)])
noncomputable def Zt (k:Zh→Option (Int×(List SLive))) (a_0:(List SLive)) (k_1:Int):Option (Int×(List SLive)):=
 k (.c0 k_1 0 a_0)
noncomputable def Rl (k:Zh→Option (Int×(List SLive))):Zh→Option (Int×(List SLive))
 | .c0 k_1 i_5 a_0r1=>
 bif (decide (i_5<(a_0r1.length:Int))) then
  bif ((decide (0≤i_5)) && (decide (i_5<(a_0r1.length:Int)))) then
  bif ((decide (0≤i_5)) && (decide (i_5<((a_0r1.set i_5.toNat (⟨k_1,(a_0r1.getD i_5.toNat (⟨0,0⟩:SLive)).fNext⟩:SLive)).length:Int)))) then
  k (.c0 (w64 ((w64 (k_1+1))+1)) (w64 (i_5+1)) ((a_0r1.set i_5.toNat (⟨k_1,(a_0r1.getD i_5.toNat (⟨0,0⟩:SLive)).fNext⟩:SLive)).set i_5.toNat (⟨((a_0r1.set i_5.toNat (⟨k_1,(a_0r1.getD i_5.toNat (⟨0,0⟩:SLive)).fNext⟩:SLive)).getD i_5.toNat (⟨0,0⟩:SLive)).fId,(w64 (k_1+1))⟩:SLive)))
  else none
  else none
 else
  some (k_1,a_0r1)
noncomputable def Qa:Nat→Zh→Option (Int×(List SLive))
 | 0,_=>none
 | m+1,s=>Rl (Qa m) s
noncomputable def Ai:Yt:=Zt (Qa gas)
theorem KAA:Tells ctx PP 59 cv105 cv106 (fun a=>Ai a.1 a.2):=
 have b:CutIs ctx PP 59 Tryd.f59 [1] [] cv106 Wy (Rl):=fun _ s=>by cases s <;> kernel_rfl
 have e:EntryIs ctx PP 59 [1] [] cv105 cv106 Wy (fun k a=>Zt k a.1 a.2):=fun _ a=>by kernel_rfl
 fn_ok hl_nil Tryd.func59 (fun s s' h=>by cases s;cases s';cases h;rfl) (fun _=>rfl) (fun _ _=>rfl) b e gas
noncomputable def LAA {γ:Type} (F:Yt):Hd ctx γ:=hdl cv105.dec (fun a=>F a.1 a.2) cv106.enc
abbrev Au:=SBox→Int→Option (Int×((List SFile)×(List SThing)×(List SSession)×(List SLive)))
noncomputable def Du (z0:Jt) (z1:Tt) (z2:Vt) (z3:Yt) (a_0:SBox) (k_1:Int):Option (Int×((List SFile)×(List SThing)×(List SSession)×(List SLive))):=
 (z0 a_0.fDisk k_1).bind fun r0=>
 (z1 a_0.fBook r0.1).bind fun r1=>
 (z2 a_0.fSessions r1.1).bind fun r2=>
 (z3 a_0.fLives r2.1).bind fun r3=>
 some (r3.1,(r0.2,(r1.2,(r2.2,r3.2))))
noncomputable def Ci:Au:=Du Rh Wh Yh Ai
theorem MAA:Tells ctx PP 24 cv107 cv108 (fun a=>Ci a.1 a.2):=fn_ok0 (hc CAA (hc GAA (hc IAA (hc KAA hl_nil)))) Tryd.func24 ((fun z0 z1 z2 z3 a=>by kernel_rfl:∀ z0 z1 z2 z3,EntryIs0 ctx PP 24 [1,2,3,4] [(57,DAA z0),(28,HAA z1),(58,JAA z2),(59,LAA z3)] cv107 cv108 fun a=>Du z0 z1 z2 z3 a.1 a.2) Rh Wh Yh Ai)
noncomputable def NAA {γ:Type} (F:Au):Hd ctx γ:=hdl cv107.dec (fun a=>F a.1 a.2) cv108.enc
abbrev Eu:=(List SFile)→Int→Option Int
inductive Di where
 | c0 (a_0:(List SFile)) (k_1:Int) (i_5:Int)
noncomputable def Xy:Di→LI
 | .c0 a_0 k_1 i_5=>(tdo Tryd.f108 208,[(0,[.one (.rsl 168 a_0)]),(1,[.one (.int .i64 k_1)]),(5,[.one (.int .i64 i_5)])],[])
noncomputable def Gu (z0:XY) (k:Di→Option Int) (a_0:(List SFile)) (k_1:Int):Option Int:=
 k (.c0 a_0 k_1 0)
noncomputable def Sl (z0:XY) (k:Di→Option Int):Di→Option Int
 | .c0 a_0 k_1 i_5=>
 bif (decide (i_5<(a_0.length:Int))) then
  bif ((decide (0≤i_5)) && (decide (i_5<(a_0.length:Int)))) then
  (z0 k_1).bind fun r0=>
  bif (!((ByteArray.toList (a_0.getD i_5.toNat (⟨⟨#[]⟩,⟨#[]⟩,0⟩:SFile)).fName) == (ByteArray.toList r0))) then
  some (-(1:Int))
  else
  bif ((decide (0≤i_5)) && (decide (i_5<(a_0.length:Int)))) then
  (z0 (w64 (k_1+1))).bind fun r1=>
  bif (!((ByteArray.toList (a_0.getD i_5.toNat (⟨⟨#[]⟩,⟨#[]⟩,0⟩:SFile)).fText) == (ByteArray.toList r1))) then
   some (-(1:Int))
  else
   bif ((decide (0≤i_5)) && (decide (i_5<(a_0.length:Int)))) then
   bif ((a_0.getD i_5.toNat (⟨⟨#[]⟩,⟨#[]⟩,0⟩:SFile)).fKept != (w64 ((w64 (k_1+1))+1))) then
   some (-(1:Int))
   else
   k (.c0 a_0 (w64 ((w64 ((w64 (k_1+1))+1))+1)) (w64 (i_5+1)))
   else none
  else none
  else none
 else
  some k_1
noncomputable def Ua:Nat→Di→Option Int
 | 0,_=>none
 | m+1,s=>Sl RV (Ua m) s
noncomputable def Ei:Eu:=Gu RV (Ua gas)
theorem OAA:Tells ctx PP 108 cv109 cv2 (fun a=>Ei a.1 a.2):=
 have b:∀ z0,CutIs ctx PP 108 Tryd.f108 [] [(39,IZ z0)] cv2 Xy (Sl z0):=fun z0 _ s=>by cases s <;> kernel_rfl
 have e:∀ z0,EntryIs ctx PP 108 [] [(39,IZ z0)] cv109 cv2 Xy (fun k a=>Gu z0 k a.1 a.2):=fun z0 _ a=>by kernel_rfl
 fn_ok (hc Nl hl_nil) Tryd.func108 (fun s s' h=>by cases s;cases s';cases h;rfl) (fun _=>rfl) (fun _ _=>rfl) (b RV) (e RV) gas
noncomputable def PAA {γ:Type} (F:Eu):Hd ctx γ:=hdl cv109.dec (fun a=>F a.1 a.2) cv2.enc
abbrev Hu:=SDisk→Int→Option Int
noncomputable def Iu (z0:Eu) (a_0:SDisk) (k_1:Int):Option Int:=
 (z0 a_0.fFiles k_1).bind fun r0=>
 bif (decide (r0<0)) then
 some (-(1:Int))
 else
 some r0
noncomputable def Gi:Hu:=Iu Ei
theorem QAA:Tells ctx PP 60 cv110 cv2 (fun a=>Gi a.1 a.2):=fn_ok0 (hc OAA hl_nil) Tryd.func60 ((fun z0 a=>by kernel_rfl:∀ z0,EntryIs0 ctx PP 60 [] [(108,PAA z0)] cv110 cv2 fun a=>Iu z0 a.1 a.2) Ei)
noncomputable def RAA {γ:Type} (F:Hu):Hd ctx γ:=hdl cv110.dec (fun a=>F a.1 a.2) cv2.enc
abbrev Ju:=(List SThing)→Int→Option Int
inductive Ii where
 | c0 (a_0:(List SThing)) (k_1:Int) (i_5:Int)
noncomputable def Yy:Ii→LI
 | .c0 a_0 k_1 i_5=>(tdo Tryd.f68 208,[(0,[.one (.rsl 71 a_0)]),(1,[.one (.int .i64 k_1)]),(5,[.one (.int .i64 i_5)])],[])
noncomputable def Ku (z0:XY) (k:Ii→Option Int) (a_0:(List SThing)) (k_1:Int):Option Int:=
 k (.c0 a_0 k_1 0)
noncomputable def Ul (z0:XY) (k:Ii→Option Int):Ii→Option Int
 | .c0 a_0 k_1 i_5=>
 bif (decide (i_5<(a_0.length:Int))) then
  bif ((decide (0≤i_5)) && (decide (i_5<(a_0.length:Int)))) then
  bif ((a_0.getD i_5.toNat (⟨0,0,false,false,false,false,⟨#[]⟩,0⟩:SThing)).fId != k_1) then
  some (-(1:Int))
  else
  bif ((decide (0≤i_5)) && (decide (i_5<(a_0.length:Int)))) then
  bif ((a_0.getD i_5.toNat (⟨0,0,false,false,false,false,⟨#[]⟩,0⟩:SThing)).fKind != (w64 (k_1+1))) then
   some (-(1:Int))
  else
   bif ((decide (0≤i_5)) && (decide (i_5<(a_0.length:Int)))) then
   bif (!((a_0.getD i_5.toNat (⟨0,0,false,false,false,false,⟨#[]⟩,0⟩:SThing)).fHidden == (((w64 ((w64 (k_1+1))+1)).tmod 3) == 0))) then
   some (-(1:Int))
   else
   bif ((decide (0≤i_5)) && (decide (i_5<(a_0.length:Int)))) then
   bif (!((a_0.getD i_5.toNat (⟨0,0,false,false,false,false,⟨#[]⟩,0⟩:SThing)).fFixed == (((w64 ((w64 ((w64 (k_1+1))+1))+1)).tmod 3) == 0))) then
    some (-(1:Int))
   else
    bif ((decide (0≤i_5)) && (decide (i_5<(a_0.length:Int)))) then
    bif (!((a_0.getD i_5.toNat (⟨0,0,false,false,false,false,⟨#[]⟩,0⟩:SThing)).fSigns == (((w64 ((w64 ((w64 ((w64 (k_1+1))+1))+1))+1)).tmod 3) == 0))) then
    some (-(1:Int))
    else
    bif ((decide (0≤i_5)) && (decide (i_5<(a_0.length:Int)))) then
    bif (!((a_0.getD i_5.toNat (⟨0,0,false,false,false,false,⟨#[]⟩,0⟩:SThing)).fWraps == (((w64 ((w64 ((w64 ((w64 ((w64 (k_1+1))+1))+1))+1))+1)).tmod 3) == 0))) then
     some (-(1:Int))
    else
     bif ((decide (0≤i_5)) && (decide (i_5<(a_0.length:Int)))) then
     (z0 (w64 ((w64 ((w64 ((w64 ((w64 ((w64 (k_1+1))+1))+1))+1))+1))+1))).bind fun r0=>
     bif (!((ByteArray.toList (a_0.getD i_5.toNat (⟨0,0,false,false,false,false,⟨#[]⟩,0⟩:SThing)).fValue) == (ByteArray.toList r0))) then
     some (-(1:Int))
     else
     bif ((decide (0≤i_5)) && (decide (i_5<(a_0.length:Int)))) then
     bif ((a_0.getD i_5.toNat (⟨0,0,false,false,false,false,⟨#[]⟩,0⟩:SThing)).fNext != (w64 ((w64 ((w64 ((w64 ((w64 ((w64 ((w64 (k_1+1))+1))+1))+1))+1))+1))+1))) then
      some (-(1:Int))
     else
      k (.c0 a_0 (w64 ((w64 ((w64 ((w64 ((w64 ((w64 ((w64 ((w64 (k_1+1))+1))+1))+1))+1))+1))+1))+1)) (w64 (i_5+1)))
     else none
     else none
    else none
    else none
   else none
   else none
  else none
  else none
 else
  some k_1
noncomputable def Va:Nat→Ii→Option Int
 | 0,_=>none
 | m+1,s=>Ul RV (Va m) s
noncomputable def Ji:Ju:=Ku RV (Va gas)
theorem SAA:Tells ctx PP 68 cv111 cv2 (fun a=>Ji a.1 a.2):=
 have b:∀ z0,CutIs ctx PP 68 Tryd.f68 [] [(39,IZ z0)] cv2 Yy (Ul z0):=fun z0 _ s=>by cases s <;> kernel_rfl
 have e:∀ z0,EntryIs ctx PP 68 [] [(39,IZ z0)] cv111 cv2 Yy (fun k a=>Ku z0 k a.1 a.2):=fun z0 _ a=>by kernel_rfl
 fn_ok (hc Nl hl_nil) Tryd.func68 (fun s s' h=>by cases s;cases s';cases h;rfl) (fun _=>rfl) (fun _ _=>rfl) (b RV) (e RV) gas
noncomputable def TAA {γ:Type} (F:Ju):Hd ctx γ:=hdl cv111.dec (fun a=>F a.1 a.2) cv2.enc
abbrev Lu:=SBook→Int→Option Int
noncomputable def Nu (z0:Ju) (a_0:SBook) (k_1:Int):Option Int:=
 (z0 a_0.fThings k_1).bind fun r0=>
 bif (decide (r0<0)) then
 some (-(1:Int))
 else
 some r0
noncomputable def Oi:Lu:=Nu Ji
theorem UAA:Tells ctx PP 29 cv57 cv2 (fun a=>Oi a.1 a.2):=fn_ok0 (hc SAA hl_nil) Tryd.func29 ((fun z0 a=>by kernel_rfl:∀ z0,EntryIs0 ctx PP 29 [] [(68,TAA z0)] cv57 cv2 fun a=>Nu z0 a.1 a.2) Ji)
noncomputable def VAA {γ:Type} (F:Lu):Hd ctx γ:=hdl cv57.dec (fun a=>F a.1 a.2) cv2.enc
abbrev Ou:=(List SSession)→Int→Option Int
inductive Qi where
 | c0 (a_0:(List SSession)) (k_1:Int) (i_5:Int)
noncomputable def Zy:Qi→LI
 | .c0 a_0 k_1 i_5=>(tdo Tryd.f61 208,[(0,[.one (.rsl 130 a_0)]),(1,[.one (.int .i64 k_1)]),(5,[.one (.int .i64 i_5)])],[])
noncomputable def Qu (k:Qi→Option Int) (a_0:(List SSession)) (k_1:Int):Option Int:=
 k (.c0 a_0 k_1 0)
noncomputable def Vl (k:Qi→Option Int):Qi→Option Int
 | .c0 a_0 k_1 i_5=>
 bif (decide (i_5<(a_0.length:Int))) then
  bif ((decide (0≤i_5)) && (decide (i_5<(a_0.length:Int)))) then
  bif ((a_0.getD i_5.toNat (⟨0,false⟩:SSession)).fId != k_1) then
  some (-(1:Int))
  else
  bif ((decide (0≤i_5)) && (decide (i_5<(a_0.length:Int)))) then
  bif (!((a_0.getD i_5.toNat (⟨0,false⟩:SSession)).fIn == (((w64 (k_1+1)).tmod 3) == 0))) then
   some (-(1:Int))
  else
   k (.c0 a_0 (w64 ((w64 (k_1+1))+1)) (w64 (i_5+1)))
  else none
  else none
 else
  some k_1
noncomputable def Xa:Nat→Qi→Option Int
 | 0,_=>none
 | m+1,s=>Vl (Xa m) s
noncomputable def Ri:Ou:=Qu (Xa gas)
theorem WAA:Tells ctx PP 61 cv112 cv2 (fun a=>Ri a.1 a.2):=
 have b:CutIs ctx PP 61 Tryd.f61 [] [] cv2 Zy (Vl):=fun _ s=>by cases s <;> kernel_rfl
 have e:EntryIs ctx PP 61 [] [] cv112 cv2 Zy (fun k a=>Qu k a.1 a.2):=fun _ a=>by kernel_rfl
 fn_ok hl_nil Tryd.func61 (fun s s' h=>by cases s;cases s';cases h;rfl) (fun _=>rfl) (fun _ _=>rfl) b e gas
noncomputable def XAA {γ:Type} (F:Ou):Hd ctx γ:=hdl cv112.dec (fun a=>F a.1 a.2) cv2.enc
abbrev Ru:=(List SLive)→Int→Option Int
inductive Si where
 | c0 (a_0:(List SLive)) (k_1:Int) (i_5:Int)
noncomputable def Az:Si→LI
 | .c0 a_0 k_1 i_5=>(tdo Tryd.f62 208,[(0,[.one (.rsl 134 a_0)]),(1,[.one (.int .i64 k_1)]),(5,[.one (.int .i64 i_5)])],[])
noncomputable def Uu (k:Si→Option Int) (a_0:(List SLive)) (k_1:Int):Option Int:=
 k (.c0 a_0 k_1 0)
noncomputable def Wl (k:Si→Option Int):Si→Option Int
 | .c0 a_0 k_1 i_5=>
 bif (decide (i_5<(a_0.length:Int))) then
  bif ((decide (0≤i_5)) && (decide (i_5<(a_0.length:Int)))) then
  bif ((a_0.getD i_5.toNat (⟨0,0⟩:SLive)).fId != k_1) then
  some (-(1:Int))
  else
  bif ((decide (0≤i_5)) && (decide (i_5<(a_0.length:Int)))) then
  bif ((a_0.getD i_5.toNat (⟨0,0⟩:SLive)).fNext != (w64 (k_1+1))) then
   some (-(1:Int))
  else
   k (.c0 a_0 (w64 ((w64 (k_1+1))+1)) (w64 (i_5+1)))
  else none
  else none
 else
  some k_1
noncomputable def Ya:Nat→Si→Option Int
 | 0,_=>none
 | m+1,s=>Wl (Ya m) s
noncomputable def Ti:Ru:=Uu (Ya gas)
theorem YAA:Tells ctx PP 62 cv113 cv2 (fun a=>Ti a.1 a.2):=
 have b:CutIs ctx PP 62 Tryd.f62 [] [] cv2 Az (Wl):=fun _ s=>by cases s <;> kernel_rfl
 have e:EntryIs ctx PP 62 [] [] cv113 cv2 Az (fun k a=>Uu k a.1 a.2):=fun _ a=>by kernel_rfl
 fn_ok hl_nil Tryd.func62 (fun s s' h=>by cases s;cases s';cases h;rfl) (fun _=>rfl) (fun _ _=>rfl) b e gas
noncomputable def ZAA {γ:Type} (F:Ru):Hd ctx γ:=hdl cv113.dec (fun a=>F a.1 a.2) cv2.enc
abbrev Vu:=SBox→Int→Option Int
noncomputable def Wu (z0:Hu) (z1:Lu) (z2:Ou) (z3:Ru) (a_0:SBox) (k_1:Int):Option Int:=
 (z0 a_0.fDisk k_1).bind fun r0=>
 bif (decide (r0<0)) then
 some (-(1:Int))
 else
 (z1 a_0.fBook r0).bind fun r1=>
 bif (decide (r1<0)) then
  some (-(1:Int))
 else
  (z2 a_0.fSessions r1).bind fun r2=>
  bif (decide (r2<0)) then
  some (-(1:Int))
  else
  (z3 a_0.fLives r2).bind fun r3=>
  bif (decide (r3<0)) then
   some (-(1:Int))
  else
   some r3
noncomputable def Ui:Vu:=Wu Gi Oi Ri Ti
theorem AAB:Tells ctx PP 25 cv114 cv2 (fun a=>Ui a.1 a.2):=fn_ok0 (hc QAA (hc UAA (hc WAA (hc YAA hl_nil)))) Tryd.func25 ((fun z0 z1 z2 z3 a=>by kernel_rfl:∀ z0 z1 z2 z3,EntryIs0 ctx PP 25 [] [(60,RAA z0),(29,VAA z1),(61,XAA z2),(62,ZAA z3)] cv114 cv2 fun a=>Wu z0 z1 z2 z3 a.1 a.2) Gi Oi Ri Ti)
noncomputable def BAB {γ:Type} (F:Vu):Hd ctx γ:=hdl cv114.dec (fun a=>F a.1 a.2) cv2.enc
abbrev Bz:=SBox→Option Bool
noncomputable def Xu (z0:Zm) (z1:Ko) (z2:Zp) (z3:Kr) (z4:Ws) (z5:Au) (z6:Vu) (aB_0:SBox):Option Bool:=
 (z0 aB_0 1048576).bind fun r0=>
 bif (decide (r0<0)) then
 some true
 else
 (z1 aB_0).bind fun r1=>
 (z2 r1).bind fun r2=>
 (z1 aB_0).bind fun r3=>
 (z3 r3).bind fun r4=>
 (z4 r4 r2).bind fun r5=>
 bif (!r5) then
  some false
 else
  (z1 aB_0).bind fun r6=>
  (z4 r3 r6).bind fun r7=>
  bif (!r7) then
  some false
  else
  (z5 r3 1).bind fun r8=>
  bif (decide (r8.1<0)) then
   some false
  else
   (z4 r4 r2).bind fun r9=>
   bif (!r9) then
   some false
   else
   (z5 r4 1).bind fun r10=>
   (z6 ⟨r4.fKey,r4.fUp,⟨r10.2.1⟩,⟨r4.fBook.fWord,r4.fBook.fTries,r10.2.2.1,r4.fBook.fLast,r4.fBook.fChain,r4.fBook.fCount⟩,r10.2.2.2.1,r10.2.2.2.2,r4.fOpened⟩ 1).bind fun r11=>
   bif (decide (r11<0)) then
    some false
   else
    bif (r11 != r10.1) then
    some false
    else
    (z1 aB_0).bind fun r12=>
    (z3 r12).bind fun r13=>
    (z4 r13 r2).bind fun r14=>
    bif (!r14) then
     some false
    else
     (z6 ⟨r4.fKey,r4.fUp,⟨r10.2.1⟩,⟨r4.fBook.fWord,r4.fBook.fTries,r10.2.2.1,r4.fBook.fLast,r4.fBook.fChain,r4.fBook.fCount⟩,r10.2.2.2.1,r10.2.2.2.2,r4.fOpened⟩ 1).bind fun r15=>
     bif (decide (r15<0)) then
     some false
     else
     bif (r15 != r10.1) then
      some false
     else
      some true
noncomputable def laws_FnExactFallen:Bz:=Xu Ud Je Vf Xg Lh Ci Ui
theorem ok_laws_FnExactFallen:Tells ctx PP 5 cv84 cv1 (fun a=>laws_FnExactFallen a):=fn_ok0 (hc V4 (hc D6 (hc U7 (hc Z8 (hc Y9 (hc MAA (hc AAB hl_nil))))))) Tryd.func5 ((fun z0 z1 z2 z3 z4 z5 z6 a=>by kernel_rfl:∀ z0 z1 z2 z3 z4 z5 z6,EntryIs0 ctx PP 5 [] [(19,X4 z0),(21,F6 z1),(20,V7 z2),(22,C9 z3),(23,Z9 z4),(24,NAA z5),(25,BAB z6)] cv84 cv1 fun a=>Xu z0 z1 z2 z3 z4 z5 z6 a) Ud Je Vf Xg Lh Ci Ui)
noncomputable def OAG {γ:Type} (F:Bz):Hd ctx γ:=hdl cv84.dec (fun a=>F a) cv1.enc
end Go.Proofs.YthfpmhalgimbbaaDoor.G

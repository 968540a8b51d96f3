/- Functions of the program, told by plain functions: part 2 of 2. -/
import Derived.Test.YtjfkbidckphneaaGreatDoorFFnMountsa
namespace Go.Proofs.YtjfkbidckphneaaGreatDoor.G
open Go Go.Ev
set_option linter.unusedVariables false
set_option linter.unusedSectionVars false
variable [PC]
abbrev Ej:=SDisk→Option Bool
inductive Uc where
 | c0 (i_3:Int) (d_1:SDisk)
noncomputable def Wv:Uc→LI
 | .c0 i_3 d_1=>(tdo Tryz.f18 464,[(1,[.one (.ptr 64 0)]),(3,[.one (.int .i64 i_3)])],[(64,.var [.rsl 81 d_1.fFiles])])
noncomputable def Bo (z0:Aa) (k:Uc→Option Bool) (d_0:SDisk):Option Bool:=
 (z0 d_0).bind fun r0=>
 bif (!r0) then
 some false
 else
 k (.c0 0 d_0)
noncomputable def Fj (z0:Aa) (k:Uc→Option Bool):Uc→Option Bool
 | .c0 i_3 d_1=>
 bif (decide (i_3<(d_1.fFiles.length:Int))) then
  bif ((decide (0≤i_3)) && (decide (i_3<(d_1.fFiles.length:Int)))) then
  bif ((decide (0≤i_3)) && (decide (i_3<(d_1.fFiles.length:Int)))) then
  bif (decide ((d_1.fFiles.getD i_3.toNat (⟨⟨#[]⟩,⟨#[]⟩,0⟩:SFile)).fKept<((d_1.fFiles.getD i_3.toNat (⟨⟨#[]⟩,⟨#[]⟩,0⟩:SFile)).fText.size:Int))) then
  some false
  else
  k (.c0 (w64 (i_3+1)) d_1)
  else none
  else none
 else
  some true
noncomputable def Gj:Nat→Uc→Option Bool
 | 0,_=>none
 | m+1,s=>Fj WY (Gj m) s
noncomputable def Ba:Ej:=Bo WY (Gj gas)
theorem H9:Tells ctx PP 18 cv66 cv1 (fun a=>Ba a):=
 have b:∀ z0,CutIs ctx PP 18 Tryz.f18 [] [(49,Xc z0)] cv1 Wv (Fj z0):=fun z0 _ s=>by cases s <;> kernel_rfl
 have e:∀ z0,EntryIs ctx PP 18 [] [(49,Xc z0)] cv66 cv1 Wv (fun k a=>Bo z0 k a):=fun z0 _ a=>by kernel_rfl
 fn_ok (hc Eo hl_nil) Tryz.func18 (fun s s' h=>by cases s;cases s';(repeat cases ‹SDisk›);cases h;rfl) (fun _=>rfl) (fun _ _=>rfl) (b WY) (e WY) gas
noncomputable def Xv {γ:Type} (F:Ej):Hd ctx γ:=hdl cv66.dec (fun a=>F a) cv1.enc
abbrev Ij:=Unit→Option (List Int)
inductive Yc where
 | c0 (i_5:Int) (v_7c1:Int) (v_7c2:Int) (out_4:(List Int))
noncomputable def Yv:Yc→LI
 | .c0 i_5 v_7c1 v_7c2 out_4=>(tdo Tryz.f9 2000,[(3,[.one (.ptr 448 0)]),(4,[.one (.own 304)]),(5,[.one (.int .i64 i_5)])],[(448,.var [.csl,.int .i64 v_7c1,.int .i64 v_7c2]),(304,.sl 3 out_4)])
noncomputable def E_spec_DrawPlaces (z0:Ad) (z1:Ea) (z2:AZ) (k:Yc→Option (List Int)) (code_0:Unit):Option (List Int):=
 (z0 ()).bind fun r0=>
 (z1 ⟨(),r0.fI,r0.fH⟩).bind fun r1=>
 k (.c0 0 r1.2.fI r1.2.fH [])
noncomputable def B_spec_DrawPlaces (z0:Ad) (z1:Ea) (z2:AZ) (k:Yc→Option (List Int)):Yc→Option (List Int)
 | .c0 i_5 v_7c1 v_7c2 out_4=>
 bif (decide (i_5<12)) then
  (z2 ⟨(),v_7c1,v_7c2⟩ 10000).bind fun r0=>
  bif (decide (((out_4.length+1)*8)≤140737488355328)) then
  k (.c0 (w64 (i_5+1)) r0.2.fI r0.2.fH (out_4++[r0.1]))
  else none
 else
  some out_4
noncomputable def L_spec_DrawPlaces:Nat→Yc→Option (List Int)
 | 0,_=>none
 | m+1,s=>B_spec_DrawPlaces spec_l01New spec_l01Byte spec_l01Below (L_spec_DrawPlaces m) s
noncomputable def spec_DrawPlaces:Ij:=E_spec_DrawPlaces spec_l01New spec_l01Byte spec_l01Below (L_spec_DrawPlaces gas)
theorem I9:Tells ctx PP 9 cv0 cv60 (fun a=>spec_DrawPlaces a):=
 have b:∀ z0 z1 z2,CutIs ctx PP 9 Tryz.f9 [] [(22,Ho z0),(31,Bd z1),(32,LZ z2)] cv60 Yv (B_spec_DrawPlaces z0 z1 z2):=fun z0 z1 z2 _ s=>by cases s <;> kernel_rfl
 have e:∀ z0 z1 z2,EntryIs ctx PP 9 [] [(22,Ho z0),(31,Bd z1),(32,LZ z2)] cv0 cv60 Yv (fun k a=>E_spec_DrawPlaces z0 z1 z2 k a):=fun z0 z1 z2 _ a=>by kernel_rfl
 fn_ok (hc Zv (hc Io (hc Fa hl_nil))) Tryz.func9 (fun s s' h=>by cases s;cases s';cases h;rfl) (fun _=>rfl) (fun _ _=>rfl) (b spec_l01New spec_l01Byte spec_l01Below) (e spec_l01New spec_l01Byte spec_l01Below) gas
noncomputable def Aw {γ:Type} (F:Ij):Hd ctx γ:=hdl cv0.dec (fun a=>F a) cv60.enc
abbrev Jj:=SDisk→ByteArray→Option (ByteArray×Bool)
noncomputable def Jo (z0:Lj) (d_0:SDisk) (name_1:ByteArray):Option (ByteArray×Bool):=
 (z0 d_0 name_1).bind fun r0=>
 bif (decide (r0<0)) then
 some (⟨#[]⟩,false)
 else
 bif ((decide (0≤r0)) && (decide (r0<(d_0.fFiles.length:Int)))) then
 some ((d_0.fFiles.getD r0.toNat (⟨⟨#[]⟩,⟨#[]⟩,0⟩:SFile)).fText,true)
 else none
noncomputable def Ia:Jj:=Jo Ja
theorem J9:Tells ctx PP 19 cv67 cv30 (fun a=>Ia a.1 a.2):=fn_ok0 (hc Dw hl_nil) Tryz.func19 ((fun z0 a=>by kernel_rfl:∀ z0,EntryIs0 ctx PP 19 [] [(50,Ew z0)] cv67 cv30 fun a=>Jo z0 a.1 a.2) Ja)
noncomputable def Gw {γ:Type} (F:Jj):Hd ctx γ:=hdl cv67.dec (fun a=>F a.1 a.2) cv30.enc
abbrev Ko:=SDisk→(List Int)→Option (SDisk×Bool)
inductive Ed where
 | c0 (left_1:(List Int)) (i_7:Int) (d_2:SDisk) (v_4r0:(List SFile)) (out_6r0:(List SFile))
noncomputable def Hw:Ed→LI
 | .c0 left_1 i_7 d_2 v_4r0 out_6r0=>(tdo Tryz.f51 976,[(1,[.one (.rsl 3 left_1)]),(2,[.one (.ptr 128 0)]),(4,[.one (.ptr 256 0)]),(6,[.one (.ptr 384 0)]),(7,[.one (.int .i64 i_7)])],[(128,.var [.rsl 81 d_2.fFiles]),(256,.var [.own 1016384]),(384,.var [.own 1024576]),(1016384,.sl 81 v_4r0),(1024576,.sl 81 out_6r0)])
noncomputable def Nj (z0:Aa) (k:Ed→Option (SDisk×Bool)) (d_0:SDisk) (left_1:(List Int)):Option (SDisk×Bool):=
 (z0 d_0).bind fun r0=>
 bif (!r0) then
 some (⟨[]⟩,false)
 else
 k (.c0 left_1 0 d_0 [] [])
noncomputable def Oo (z0:Aa) (k:Ed→Option (SDisk×Bool)):Ed→Option (SDisk×Bool)
 | .c0 left_1 i_7 d_2 v_4r0 out_6r0=>
 bif (decide (i_7<(d_2.fFiles.length:Int))) then
  bif ((decide (0≤i_7)) && (decide (i_7<(d_2.fFiles.length:Int)))) then
  bif (decide (i_7<(left_1.length:Int))) then
  bif ((decide (0≤i_7)) && (decide (i_7<(left_1.length:Int)))) then
  bif (decide ((left_1.getD i_7.toNat 0) > ((d_2.fFiles.getD i_7.toNat (⟨⟨#[]⟩,⟨#[]⟩,0⟩:SFile)).fText.size:Int))) then
   bif (decide (((d_2.fFiles.getD i_7.toNat (⟨⟨#[]⟩,⟨#[]⟩,0⟩:SFile)).fText.size:Int)<(d_2.fFiles.getD i_7.toNat (⟨⟨#[]⟩,⟨#[]⟩,0⟩:SFile)).fKept)) then
   bif ((decide (0≤(d_2.fFiles.getD i_7.toNat (⟨⟨#[]⟩,⟨#[]⟩,0⟩:SFile)).fKept)) && (decide ((d_2.fFiles.getD i_7.toNat (⟨⟨#[]⟩,⟨#[]⟩,0⟩:SFile)).fKept≤((d_2.fFiles.getD i_7.toNat (⟨⟨#[]⟩,⟨#[]⟩,0⟩:SFile)).fText.size:Int)))) then
   bif (decide (((out_6r0.length+1)*40)≤140737488355328)) then
   k (.c0 left_1 (w64 (i_7+1)) d_2 v_4r0 (out_6r0++[(⟨(d_2.fFiles.getD i_7.toNat (⟨⟨#[]⟩,⟨#[]⟩,0⟩:SFile)).fName,((d_2.fFiles.getD i_7.toNat (⟨⟨#[]⟩,⟨#[]⟩,0⟩:SFile)).fText.extract 0 (d_2.fFiles.getD i_7.toNat (⟨⟨#[]⟩,⟨#[]⟩,0⟩:SFile)).fKept.toNat),(d_2.fFiles.getD i_7.toNat (⟨⟨#[]⟩,⟨#[]⟩,0⟩:SFile)).fKept⟩:SFile)]))
   else none
   else none
   else
   bif ((decide (0≤((d_2.fFiles.getD i_7.toNat (⟨⟨#[]⟩,⟨#[]⟩,0⟩:SFile)).fText.size:Int))) && (decide (((d_2.fFiles.getD i_7.toNat (⟨⟨#[]⟩,⟨#[]⟩,0⟩:SFile)).fText.size:Int)≤((d_2.fFiles.getD i_7.toNat (⟨⟨#[]⟩,⟨#[]⟩,0⟩:SFile)).fText.size:Int)))) then
   bif (decide (((out_6r0.length+1)*40)≤140737488355328)) then
   k (.c0 left_1 (w64 (i_7+1)) d_2 v_4r0 (out_6r0++[(⟨(d_2.fFiles.getD i_7.toNat (⟨⟨#[]⟩,⟨#[]⟩,0⟩:SFile)).fName,((d_2.fFiles.getD i_7.toNat (⟨⟨#[]⟩,⟨#[]⟩,0⟩:SFile)).fText.extract 0 ((d_2.fFiles.getD i_7.toNat (⟨⟨#[]⟩,⟨#[]⟩,0⟩:SFile)).fText.size:Int).toNat),((d_2.fFiles.getD i_7.toNat (⟨⟨#[]⟩,⟨#[]⟩,0⟩:SFile)).fText.size:Int)⟩:SFile)]))
   else none
   else none
  else
   bif (decide ((left_1.getD i_7.toNat 0)<(d_2.fFiles.getD i_7.toNat (⟨⟨#[]⟩,⟨#[]⟩,0⟩:SFile)).fKept)) then
   bif ((decide (0≤(d_2.fFiles.getD i_7.toNat (⟨⟨#[]⟩,⟨#[]⟩,0⟩:SFile)).fKept)) && (decide ((d_2.fFiles.getD i_7.toNat (⟨⟨#[]⟩,⟨#[]⟩,0⟩:SFile)).fKept≤((d_2.fFiles.getD i_7.toNat (⟨⟨#[]⟩,⟨#[]⟩,0⟩:SFile)).fText.size:Int)))) then
   bif (decide (((out_6r0.length+1)*40)≤140737488355328)) then
   k (.c0 left_1 (w64 (i_7+1)) d_2 v_4r0 (out_6r0++[(⟨(d_2.fFiles.getD i_7.toNat (⟨⟨#[]⟩,⟨#[]⟩,0⟩:SFile)).fName,((d_2.fFiles.getD i_7.toNat (⟨⟨#[]⟩,⟨#[]⟩,0⟩:SFile)).fText.extract 0 (d_2.fFiles.getD i_7.toNat (⟨⟨#[]⟩,⟨#[]⟩,0⟩:SFile)).fKept.toNat),(d_2.fFiles.getD i_7.toNat (⟨⟨#[]⟩,⟨#[]⟩,0⟩:SFile)).fKept⟩:SFile)]))
   else none
   else none
   else
   bif ((decide (0≤(left_1.getD i_7.toNat 0))) && (decide ((left_1.getD i_7.toNat 0)≤((d_2.fFiles.getD i_7.toNat (⟨⟨#[]⟩,⟨#[]⟩,0⟩:SFile)).fText.size:Int)))) then
   bif (decide (((out_6r0.length+1)*40)≤140737488355328)) then
   k (.c0 left_1 (w64 (i_7+1)) d_2 v_4r0 (out_6r0++[(⟨(d_2.fFiles.getD i_7.toNat (⟨⟨#[]⟩,⟨#[]⟩,0⟩:SFile)).fName,((d_2.fFiles.getD i_7.toNat (⟨⟨#[]⟩,⟨#[]⟩,0⟩:SFile)).fText.extract 0 (left_1.getD i_7.toNat 0).toNat),(left_1.getD i_7.toNat 0)⟩:SFile)]))
   else none
   else none
  else none
  else
  bif (decide (0<(d_2.fFiles.getD i_7.toNat (⟨⟨#[]⟩,⟨#[]⟩,0⟩:SFile)).fKept)) then
   bif ((decide (0≤(d_2.fFiles.getD i_7.toNat (⟨⟨#[]⟩,⟨#[]⟩,0⟩:SFile)).fKept)) && (decide ((d_2.fFiles.getD i_7.toNat (⟨⟨#[]⟩,⟨#[]⟩,0⟩:SFile)).fKept≤((d_2.fFiles.getD i_7.toNat (⟨⟨#[]⟩,⟨#[]⟩,0⟩:SFile)).fText.size:Int)))) then
   bif (decide (((out_6r0.length+1)*40)≤140737488355328)) then
   k (.c0 left_1 (w64 (i_7+1)) d_2 v_4r0 (out_6r0++[(⟨(d_2.fFiles.getD i_7.toNat (⟨⟨#[]⟩,⟨#[]⟩,0⟩:SFile)).fName,((d_2.fFiles.getD i_7.toNat (⟨⟨#[]⟩,⟨#[]⟩,0⟩:SFile)).fText.extract 0 (d_2.fFiles.getD i_7.toNat (⟨⟨#[]⟩,⟨#[]⟩,0⟩:SFile)).fKept.toNat),(d_2.fFiles.getD i_7.toNat (⟨⟨#[]⟩,⟨#[]⟩,0⟩:SFile)).fKept⟩:SFile)]))
   else none
   else none
  else
   bif (decide (((out_6r0.length+1)*40)≤140737488355328)) then
   k (.c0 left_1 (w64 (i_7+1)) d_2 v_4r0 (out_6r0++[(⟨(d_2.fFiles.getD i_7.toNat (⟨⟨#[]⟩,⟨#[]⟩,0⟩:SFile)).fName,((d_2.fFiles.getD i_7.toNat (⟨⟨#[]⟩,⟨#[]⟩,0⟩:SFile)).fText.extract 0 (0:Int).toNat),0⟩:SFile)]))
   else none
  else none
 else
  some (⟨out_6r0⟩,true)
noncomputable def Jd:Nat→Ed→Option (SDisk×Bool)
 | 0,_=>none
 | m+1,s=>Oo WY (Jd m) s
noncomputable def BZ:Ko:=Nj WY (Jd gas)
theorem L9:Tells ctx PP 51 cv80 cv71 (fun a=>BZ a.1 a.2):=
 have b:∀ z0,CutIs ctx PP 51 Tryz.f51 [] [(49,Xc z0)] cv71 Hw (Oo z0):=fun z0 _ s=>by cases s <;> kernel_rfl
 have e:∀ z0,EntryIs ctx PP 51 [] [(49,Xc z0)] cv80 cv71 Hw (fun k a=>Nj z0 k a.1 a.2):=fun z0 _ a=>by kernel_rfl
 fn_ok (hc Eo hl_nil) Tryz.func51 (fun s s' h=>by cases s;cases s';(repeat cases ‹SDisk›);cases h;rfl) (fun _=>rfl) (fun _ _=>rfl) (b WY) (e WY) gas
noncomputable def N9 {γ:Type} (F:Ko):Hd ctx γ:=hdl cv80.dec (fun a=>F a.1 a.2) cv71.enc
abbrev Oj:=SDisk→(List SAct)→Int→(List Int)→Option (SDisk×Bool)
noncomputable def Ld (z0:NY) (z1:Md) (z2:Ko) (d_0:SDisk) (list_1:(List SAct)) (whole_2:Int) (left_3:(List Int)):Option (SDisk×Bool):=
 (z0 whole_2 0 (list_1.length:Int)).bind fun r0=>
 bif (!r0) then
 some (⟨[]⟩,false)
 else
 bif ((decide (0≤whole_2)) && (decide (whole_2≤(list_1.length:Int)))) then
 (z1 d_0 ((list_1.take whole_2.toNat).drop 0)).bind fun r1=>
 bif (decide (r1.2<whole_2)) then
  some (⟨[]⟩,false)
 else
  (z2 r1.1 left_3).bind fun r2=>
  some (r2.1,r2.2)
 else none
noncomputable def XY:Oj:=Ld spec_l01In EZ BZ
theorem O9:Tells ctx PP 20 cv81 cv71 (fun a=>XY a.1 a.2.1 a.2.2.1 a.2.2.2):=fn_ok0 (hc CZ (hc Iw (hc L9 hl_nil))) Tryz.func20 ((fun z0 z1 z2 a=>by kernel_rfl:∀ z0 z1 z2,EntryIs0 ctx PP 20 [] [(24,TY z0),(12,Po z1),(51,N9 z2)] cv81 cv71 fun a=>Ld z0 z1 z2 a.1 a.2.1 a.2.2.1 a.2.2.2) spec_l01In EZ BZ)
noncomputable def Jw {γ:Type} (F:Oj):Hd ctx γ:=hdl cv81.dec (fun a=>F a.1 a.2.1 a.2.2.1 a.2.2.2) cv71.enc
abbrev Kw:=Unit→Option Bool
inductive Qd where
 | c0 (r_4:ByteArray) (y_6:Int) (r_3:(List SRec)) (a_5r0:(List SFile))
noncomputable def Nw:Qd→LI
 | .c0 r_4 y_6 r_3 a_5r0=>(tdo Tryz.f4 4048,[(0,[.one (.csl)]),(3,[.one (.own 240)]),(4,[.one (.str r_4)]),(5,[.one (.ptr 320 0)]),(6,[.one (.int .i64 y_6)])],[(320,.var [.own 1020480]),(240,.sl 32 r_3),(1020480,.sl 81 a_5r0)])
noncomputable def Qo (z0:Pj) (z1:Qj) (z2:Rj) (z3:Md) (z4:Sj) (z5:Fb) (z6:Tj) (z7:Uj) (z8:Vj) (z9:Ej) (z10:Ij) (z11:Jj) (z12:Oj) (k:Qd→Option Bool) (t_0:Unit):Option Bool:=
 (z0 ()).bind fun r0=>
 bif r0 then
 some true
 else
 (z1 ()).bind fun r1=>
 k (.c0 ⟨#[107,101,121]⟩ 0 r1 [])
noncomputable def Td (z0:Pj) (z1:Qj) (z2:Rj) (z3:Md) (z4:Sj) (z5:Fb) (z6:Tj) (z7:Uj) (z8:Vj) (z9:Ej) (z10:Ij) (z11:Jj) (z12:Oj) (k:Qd→Option Bool):Qd→Option Bool
 | .c0 r_4 y_6 r_3 a_5r0=>
 bif (decide ((w64 (y_6+1))<(r_3.length:Int))) then
  bif ((decide (0≤y_6)) && (decide (y_6<(r_3.length:Int)))) then
  (z2 r_4 y_6 (r_3.getD y_6.toNat (⟨0,⟨#[]⟩,0,⟨0,0,false,false,false,false,⟨#[]⟩,0⟩⟩:SRec))).bind fun r0=>
  (z3 ⟨a_5r0⟩ r0.1).bind fun r1=>
  k (.c0 r_4 (w64 (y_6+1)) r_3 r1.1.fFiles)
  else none
 else
  bif ((r_3.length:Int) == 0) then
  (z4 r_4 ⟨a_5r0⟩).bind fun r2=>
  bif r2.2.2 then
   bif ((r2.2.1.length:Int) == 0) then
   z5.bind fun r3=>
   (z6 r2.1 r3).bind fun r4=>
   some r4
   else
   some false
  else
   some false
  else
  bif ((decide (0≤(w64 ((r_3.length:Int) - 1)))) && (decide ((w64 ((r_3.length:Int) - 1))<(r_3.length:Int)))) then
  (z7 r_4 (w64 ((r_3.length:Int) - 1)) (r_3.getD (w64 ((r_3.length:Int) - 1)).toNat (⟨0,⟨#[]⟩,0,⟨0,0,false,false,false,false,⟨#[]⟩,0⟩⟩:SRec))).bind fun r5=>
  (z3 ⟨a_5r0⟩ r5.1).bind fun r6=>
  (z4 r_4 r6.1).bind fun r7=>
  z5.bind fun r8=>
  (z8 r8 r_3).bind fun r9=>
  (z4 r_4 ⟨a_5r0⟩).bind fun r10=>
  bif (!r5.2) then
   some false
  else
   bif (!r7.2.2) then
   some false
   else
   bif ((r7.2.1.length:Int) != 0) then
    some false
   else
    (z6 r7.1 r9.1).bind fun r11=>
    bif (!r11) then
    some false
    else
    (z9 r6.1).bind fun r12=>
    bif (!r12) then
     some false
    else
     (z10 ()).bind fun r13=>
     (z11 ⟨a_5r0⟩ ⟨#[98,111,111,107]⟩).bind fun r14=>
     bif ((decide ((0:Int)≤(0:Int))) && (decide (0<(r13.length:Int)))) then
     bif ((decide ((0:Int)≤(1:Int))) && (decide (1<(r13.length:Int)))) then
     (z12 ⟨a_5r0⟩ r5.1 ((r13.getD (0:Int).toNat 0).tmod 3) [(w64 ((r14.1.size:Int)+((r13.getD (1:Int).toNat 0).tmod 200)))]).bind fun r15=>
     (z4 r_4 r15.1).bind fun r16=>
     (z3 r15.1 r16.2.1).bind fun r17=>
     (z4 r_4 r17.1).bind fun r18=>
     bif r15.2 then
     bif r16.2.2 then
      bif r18.2.2 then
      bif (r17.2 == (r16.2.1.length:Int)) then
       bif ((r18.2.1.length:Int) == 0) then
       (z6 r16.1 r18.1).bind fun r19=>
       bif r19 then
        (z6 r16.1 r7.1).bind fun r20=>
        bif r20 then
        some true
        else
        (z6 r16.1 r10.1).bind fun r21=>
        some r21
       else
        some false
       else
       some false
      else
       some false
      else
      some false
     else
      some false
     else
     some false
     else none
     else none
  else none
noncomputable def FZ:Nat→Qd→Option Bool
 | 0,_=>none
 | m+1,s=>Td laws_big spec_DrawRecords spec_BookActs EZ RZ spec_BookNew La Na Oa Ba spec_DrawPlaces Ia XY (FZ m) s
noncomputable def laws_FnMounts:Kw:=Qo laws_big spec_DrawRecords spec_BookActs EZ RZ spec_BookNew La Na Oa Ba spec_DrawPlaces Ia XY (FZ gas)
theorem ok_laws_FnMounts:Tells ctx PP 4 cv0 cv1 (fun a=>laws_FnMounts a):=
 have b:∀ z0 z1 z2 z3 z4 z5 z6 z7 z8 z9 z10 z11 z12,CutIs ctx PP 4 Tryz.f4 [] [(5,Qw z0),(6,Rw z1),(7,Uw z2),(12,Po z3),(13,Vw z4),(15,Wj z5),(14,Xw z6),(16,Yw z7),(17,Zw z8),(18,Xv z9),(9,Aw z10),(19,Gw z11),(20,Jw z12)] cv1 Nw (Td z0 z1 z2 z3 z4 z5 z6 z7 z8 z9 z10 z11 z12):=fun z0 z1 z2 z3 z4 z5 z6 z7 z8 z9 z10 z11 z12 _ s=>by cases s <;> kernel_rfl
 have e:∀ z0 z1 z2 z3 z4 z5 z6 z7 z8 z9 z10 z11 z12,EntryIs ctx PP 4 [] [(5,Qw z0),(6,Rw z1),(7,Uw z2),(12,Po z3),(13,Vw z4),(15,Wj z5),(14,Xw z6),(16,Yw z7),(17,Zw z8),(18,Xv z9),(9,Aw z10),(19,Gw z11),(20,Jw z12)] cv0 cv1 Nw (fun k a=>Qo z0 z1 z2 z3 z4 z5 z6 z7 z8 z9 z10 z11 z12 k a):=fun z0 z1 z2 z3 z4 z5 z6 z7 z8 z9 z10 z11 z12 _ a=>by kernel_rfl
 fn_ok (hc P9 (hc Q9 (hc S9 (hc Iw (hc U9 (hc Dx (hc V9 (hc W9 (hc X9 (hc H9 (hc I9 (hc J9 (hc O9 hl_nil))))))))))))) Tryz.func4 (fun s s' h=>by cases s;cases s';cases h;rfl) (fun _=>rfl) (fun _ _=>rfl) (b laws_big spec_DrawRecords spec_BookActs EZ RZ spec_BookNew La Na Oa Ba spec_DrawPlaces Ia XY) (e laws_big spec_DrawRecords spec_BookActs EZ RZ spec_BookNew La Na Oa Ba spec_DrawPlaces Ia XY) gas
noncomputable def NAG {γ:Type} (F:Kw):Hd ctx γ:=hdl cv0.dec (fun a=>F a) cv1.enc
end Go.Proofs.YtjfkbidckphneaaGreatDoor.G

/- Functions of the program, told by plain functions: part 2 of 2. -/
import Derived.Test.YtefdenlloeedkaaGreatDoorFFnLocksOuta
namespace Go.Proofs.YtefdenlloeedkaaGreatDoor.G
open Go Go.Ev
set_option linter.unusedVariables false
set_option maxRecDepth 100000
set_option linter.unusedSectionVars false
variable [PC]
abbrev Ig:=SBox→Option Bool
inductive La where
 | c0 (v_44:(List SSession)) (v_45:Int) (v_46:Int) (b_1:SBox)
noncomputable def Ht:La→LI
 | .c0 v_44 v_45 v_46 b_1=>(tdo Tryz.f15 488,[(1,[.one (.ptr 64 0)]),(44,[.one (.rsl 88 v_44)]),(45,[.one (.int .i64 v_45)]),(46,[.one (.int .i64 v_46)])],[(64,.var [.str b_1.fKey,.bool b_1.fUp,.rsl 148 b_1.fDisk.fFiles,.str b_1.fBook.fWord,.int .i64 b_1.fBook.fTries,.rsl 71 b_1.fBook.fThings,.int .i64 b_1.fBook.fLast,.str b_1.fBook.fChain,.int .i64 b_1.fBook.fCount,.rsl 88 b_1.fSessions,.rsl 159 b_1.fLives,.int .i64 b_1.fOpened])])
noncomputable def E_impl_BoxOk (z0:FZ) (z1:TB) (z2:VY) (z3:Jg) (z4:Og) (z5:Na) (z6:Pg) (k:La→Option Bool) (b_0:SBox):Option Bool:=
 bif ((b_0.fKey.size:Int) != 32) then
 some false
 else
 (z0 b_0.fDisk).bind fun r0=>
 bif (!r0) then
  some false
 else
  (z1 b_0.fOpened 0 1000).bind fun r1=>
  bif (!r1) then
  some false
  else
  bif (!b_0.fUp) then
   bif ((b_0.fSessions.length:Int) == 0) then
   bif ((b_0.fLives.length:Int) == 0) then
    z2.bind fun r2=>
    (z3 b_0.fBook r2).bind fun r3=>
    some r3
   else
    some false
   else
   some false
  else
   k (.c0 b_0.fSessions (b_0.fSessions.length:Int) 0 b_0)
noncomputable def B_impl_BoxOk (z0:FZ) (z1:TB) (z2:VY) (z3:Jg) (z4:Og) (z5:Na) (z6:Pg) (k:La→Option Bool):La→Option Bool
 | .c0 v_44 v_45 v_46 b_1=>
 bif (decide (v_46<v_45)) then
  bif ((decide (0≤v_46)) && (decide (v_46<(v_44.length:Int)))) then
  bif (decide (v_46≥3)) then
  some false
  else
  (z1 (v_44.getD v_46.toNat (⟨0,false⟩:SSession)).fId 1 b_1.fOpened).bind fun r0=>
  bif (!r0) then
   some false
  else
   bif (decide (v_46 > 0)) then
   bif ((decide (0≤(w64 (v_46 - 1)))) && (decide ((w64 (v_46 - 1))<(b_1.fSessions.length:Int)))) then
   bif (decide ((b_1.fSessions.getD (w64 (v_46 - 1)).toNat (⟨0,false⟩:SSession)).fId≥(v_44.getD v_46.toNat (⟨0,false⟩:SSession)).fId)) then
    some false
   else
    k (.c0 v_44 v_45 (w64 (v_46+1)) b_1)
   else none
   else
   k (.c0 v_44 v_45 (w64 (v_46+1)) b_1)
  else none
 else
  (z4 b_1.fKey b_1.fDisk).bind fun r1=>
  (z5 b_1.fBook).bind fun r2=>
  bif r2 then
  bif r1.2.2 then
   bif ((r1.2.1.length:Int) == 0) then
   (z3 r1.1 b_1.fBook).bind fun r3=>
   bif r3 then
    (z6 b_1).bind fun r4=>
    some r4
   else
    some false
   else
   some false
  else
   some false
  else
  some false
noncomputable def L_impl_BoxOk:Nat→La→Option Bool
 | 0,_=>none
 | m+1,s=>B_impl_BoxOk impl_DiskOk impl_in impl_BookNew impl_sameBook impl_Mount impl_BookOk impl_livesOk (L_impl_BoxOk m) s
noncomputable def impl_BoxOk:Ig:=E_impl_BoxOk impl_DiskOk impl_in impl_BookNew impl_sameBook impl_Mount impl_BookOk impl_livesOk (L_impl_BoxOk gas)
theorem Jt:Tells ctx PP 15 cv70 cv1 (fun a=>impl_BoxOk a):=
 have b:∀ z0 z1 z2 z3 z4 z5 z6,CutIs ctx PP 15 Tryz.f15 [] [(46,Qg z0),(47,IK z1),(32,Oa z2),(48,Kt z3),(49,Ot z4),(50,Ij z5),(51,Rt z6)] cv1 Ht (B_impl_BoxOk z0 z1 z2 z3 z4 z5 z6):=fun z0 z1 z2 z3 z4 z5 z6 _ s=>by cases s <;> kernel_rfl
 have e:∀ z0 z1 z2 z3 z4 z5 z6,EntryIs ctx PP 15 [] [(46,Qg z0),(47,IK z1),(32,Oa z2),(48,Kt z3),(49,Ot z4),(50,Ij z5),(51,Rt z6)] cv70 cv1 Ht (fun k a=>E_impl_BoxOk z0 z1 z2 z3 z4 z5 z6 k a):=fun z0 z1 z2 z3 z4 z5 z6 _ a=>by kernel_rfl
 fn_ok (hc Jj (hc FN (hc Ug (hc U3 (hc V3 (hc Tt (hc X3 hl_nil))))))) Tryz.func15 (fun s s' h=>by cases s;cases s';(repeat cases ‹SBox›);(repeat cases ‹SDisk›);(repeat cases ‹SBook›);cases h;rfl) (fun _=>rfl) (fun _ _=>rfl) (b impl_DiskOk impl_in impl_BookNew impl_sameBook impl_Mount impl_BookOk impl_livesOk) (e impl_DiskOk impl_in impl_BookNew impl_sameBook impl_Mount impl_BookOk impl_livesOk) gas
noncomputable def Ut {γ:Type} (F:Ig):Hd ctx γ:=hdl cv70.dec (fun a=>F a) cv1.enc
abbrev Lj:=SCall→Option Bool
noncomputable def E_impl_CallOk (z0:TB) (c_0:SCall):Option Bool:=
 (z0 c_0.fOp 1 13).bind fun r0=>
 bif r0 then
 (z0 c_0.fSession 0 1000).bind fun r1=>
 bif r1 then
  (z0 c_0.fThing 0 1000).bind fun r2=>
  bif r2 then
  (z0 c_0.fKind 0 3).bind fun r3=>
  bif r3 then
   some (decide ((c_0.fText.size:Int)≤1000))
  else
   some false
  else
  some false
 else
  some false
 else
 some false
noncomputable def impl_CallOk:Lj:=E_impl_CallOk impl_in
theorem Y3:Tells ctx PP 37 cv54 cv1 (fun a=>impl_CallOk a):=fn_ok0 (hc FN hl_nil) Tryz.func37 ((fun z0 a=>by kernel_rfl:∀ z0,EntryIs0 ctx PP 37 [] [(47,IK z0)] cv54 cv1 fun a=>E_impl_CallOk z0 a) impl_in)
noncomputable def I4 {γ:Type} (F:Lj):Hd ctx γ:=hdl cv54.dec (fun a=>F a) cv1.enc
abbrev Vg:=Int→Option ((List SRec)×Int×ByteArray)
noncomputable def E_impl_refused (code_0:Int):Option ((List SRec)×Int×ByteArray):=
 bif ((decide (0≤code_0)) && (decide (code_0<((10:Nat):Int)))) then
 some ([],(code_0,([(⟨#[]⟩:ByteArray),(⟨#[102,117,108,108]⟩:ByteArray),(⟨#[115,101,115,115,105,111,110]⟩:ByteArray),(⟨#[108,111,99,107,101,100]⟩:ByteArray),(⟨#[119,111,114,100]⟩:ByteArray),(⟨#[111,117,116]⟩:ByteArray),(⟨#[119,114,111,110,103]⟩:ByteArray),(⟨#[110,111,110,101]⟩:ByteArray),(⟨#[112,111,108,105,99,121]⟩:ByteArray),(⟨#[100,111,119,110]⟩:ByteArray)].getD code_0.toNat (⟨#[]⟩:ByteArray))))
 else none
noncomputable def impl_refused:Vg:=E_impl_refused
theorem Vt:Tells ctx PP 38 cv7 cv73 (fun a=>impl_refused a):=fn_ok0 hl_nil Tryz.func38 (fun a=>by kernel_rfl:EntryIs0 ctx PP 38 [] [] cv7 cv73 fun a=>E_impl_refused a)
noncomputable def Xt {γ:Type} (F:Vg):Hd ctx γ:=hdl cv7.dec (fun a=>F a) cv73.enc
abbrev Nj:=Int→Option ByteArray
noncomputable def E_internal_strconv_small (i_0:Int):Option ByteArray:=
 bif (decide (i_0<10)) then
 bif (((decide (0≤i_0)) && (decide (i_0≤(w64 (i_0+1))))) && (decide ((w64 (i_0+1))≤((⟨#[48,49,50,51,52,53,54,55,56,57,97,98,99,100,101,102,103,104,105,106,107,108,109,110,111,112,113,114,115,116,117,118,119,120,121,122]⟩:ByteArray).size:Int)))) then
 some ((⟨#[48,49,50,51,52,53,54,55,56,57,97,98,99,100,101,102,103,104,105,106,107,108,109,110,111,112,113,114,115,116,117,118,119,120,121,122]⟩:ByteArray).extract i_0.toNat (w64 (i_0+1)).toNat)
 else none
 else
 bif (((decide (0≤(w64 (i_0*2)))) && (decide ((w64 (i_0*2))≤(w64 ((w64 (i_0*2))+2))))) && (decide ((w64 ((w64 (i_0*2))+2))≤((⟨#[48,48,48,49,48,50,48,51,48,52,48,53,48,54,48,55,48,56,48,57,49,48,49,49,49,50,49,51,49,52,49,53,49,54,49,55,49,56,49,57,50,48,50,49,50,50,50,51,50,52,50,53,50,54,50,55,50,56,50,57,51,48,51,49,51,50,51,51,51,52,51,53,51,54,51,55,51,56,51,57,52,48,52,49,52,50,52,51,52,52,52,53,52,54,52,55,52,56,52,57,53,48,53,49,53,50,53,51,53,52,53,53,53,54,53,55,53,56,53,57,54,48,54,49,54,50,54,51,54,52,54,53,54,54,54,55,54,56,54,57,55,48,55,49,55,50,55,51,55,52,55,53,55,54,55,55,55,56,55,57,56,48,56,49,56,50,56,51,56,52,56,53,56,54,56,55,56,56,56,57,57,48,57,49,57,50,57,51,57,52,57,53,57,54,57,55,57,56,57,57]⟩:ByteArray).size:Int)))) then
 some ((⟨#[48,48,48,49,48,50,48,51,48,52,48,53,48,54,48,55,48,56,48,57,49,48,49,49,49,50,49,51,49,52,49,53,49,54,49,55,49,56,49,57,50,48,50,49,50,50,50,51,50,52,50,53,50,54,50,55,50,56,50,57,51,48,51,49,51,50,51,51,51,52,51,53,51,54,51,55,51,56,51,57,52,48,52,49,52,50,52,51,52,52,52,53,52,54,52,55,52,56,52,57,53,48,53,49,53,50,53,51,53,52,53,53,53,54,53,55,53,56,53,57,54,48,54,49,54,50,54,51,54,52,54,53,54,54,54,55,54,56,54,57,55,48,55,49,55,50,55,51,55,52,55,53,55,54,55,55,55,56,55,57,56,48,56,49,56,50,56,51,56,52,56,53,56,54,56,55,56,56,56,57,57,48,57,49,57,50,57,51,57,52,57,53,57,54,57,55,57,56,57,57]⟩:ByteArray).extract (w64 (i_0*2)).toNat (w64 ((w64 (i_0*2))+2)).toNat)
 else none
noncomputable def internal_strconv_small:Nj:=E_internal_strconv_small
theorem J4:Tells ctx PP 193 cv7 cv9 (fun a=>internal_strconv_small a):=fn_ok0 hl_nil Tryz.func193 (fun a=>by kernel_rfl:EntryIs0 ctx PP 193 [] [] cv7 cv9 fun a=>E_internal_strconv_small a)
noncomputable def O4 {γ:Type} (F:Nj):Hd ctx γ:=hdl cv7.dec (fun a=>F a) cv9.enc
abbrev Oj:=Int→Option Int
noncomputable def internal_strconv_numDigits:Oj:=fun _=>none
theorem U4:Tells ctx PP 194 cv74 cv7 (fun a=>internal_strconv_numDigits a):=fun _ r h=>by
 have h:none=some r:=h
 cases h
noncomputable def V4 {γ:Type} (F:Oj):Hd ctx γ:=hdl cv74.dec (fun a=>F a) cv7.enc
abbrev Pj:=(List Int)→Int→Option (List Int)
noncomputable def internal_strconv_formatBase10:Pj:=fun _ _=>none
theorem X4:Tells ctx PP 195 cv75 cv76 (fun a=>internal_strconv_formatBase10 a.1 a.2):=fun _ r h=>by
 have h:none=some r:=h
 cases h
noncomputable def Y4 {γ:Type} (F:Pj):Hd ctx γ:=hdl cv75.dec (fun a=>F a.1 a.2) cv76.enc
abbrev Qj:=(List Int)→Int→Int→Bool→Bool→Option ((List Int)×ByteArray)
noncomputable def Rj:Qj:=fun _ _ _ _ _=>none
theorem Z4:Tells ctx PP 196 cv77 cv78 (fun a=>Rj a.1 a.2.1 a.2.2.1 a.2.2.2.1 a.2.2.2.2):=fun _ r h=>by
 have h:none=some r:=h
 cases h
noncomputable def D5 {γ:Type} (F:Qj):Hd ctx γ:=hdl cv77.dec (fun a=>F a.1 a.2.1 a.2.2.1 a.2.2.2.1 a.2.2.2.2) cv78.enc
abbrev Sj:=Int→Int→Option ByteArray
noncomputable def E_internal_strconv_FormatInt (z0:Nj) (z1:Oj) (z2:Pj) (z3:Qj) (i_0:Int) (base_1:Int):Option ByteArray:=
 bif (base_1 == 10) then
 bif (decide (0≤i_0)) then
  bif (decide (i_0<100)) then
  (z0 i_0).bind fun r0=>
  some r0
  else
  bif (decide (i_0<0)) then
   (z1 (wu64 (0 - (wu64 i_0)))).bind fun r1=>
   none
  else
   (z1 (wu64 i_0)).bind fun r2=>
   none
 else
  bif (decide (i_0<0)) then
  (z1 (wu64 (0 - (wu64 i_0)))).bind fun r3=>
  none
  else
  (z1 (wu64 i_0)).bind fun r4=>
  none
 else
 (z3 [] (wu64 i_0) base_1 (decide (i_0<0)) false).bind fun r5=>
 some r5.2
noncomputable def internal_strconv_FormatInt:Sj:=E_internal_strconv_FormatInt internal_strconv_small internal_strconv_numDigits internal_strconv_formatBase10 Rj
theorem E5:Tells ctx PP 171 cv79 cv9 (fun a=>internal_strconv_FormatInt a.1 a.2):=fn_ok0 (hc J4 (hc U4 (hc X4 (hc Z4 hl_nil)))) Tryz.func171 ((fun z0 z1 z2 z3 a=>by kernel_rfl:∀ z0 z1 z2 z3,EntryIs0 ctx PP 171 [] [(193,O4 z0),(194,V4 z1),(195,Y4 z2),(196,D5 z3)] cv79 cv9 fun a=>E_internal_strconv_FormatInt z0 z1 z2 z3 a.1 a.2) internal_strconv_small internal_strconv_numDigits internal_strconv_formatBase10 Rj)
noncomputable def F5 {γ:Type} (F:Sj):Hd ctx γ:=hdl cv79.dec (fun a=>F a.1 a.2) cv9.enc
abbrev Tj:=Int→Option ByteArray
noncomputable def E_internal_strconv_Itoa (z0:Sj) (i_0:Int):Option ByteArray:=
 (z0 i_0 10).bind fun r0=>
 some r0
noncomputable def internal_strconv_Itoa:Tj:=E_internal_strconv_Itoa internal_strconv_FormatInt
theorem G5:Tells ctx PP 124 cv7 cv9 (fun a=>internal_strconv_Itoa a):=fn_ok0 (hc E5 hl_nil) Tryz.func124 ((fun z0 a=>by kernel_rfl:∀ z0,EntryIs0 ctx PP 124 [] [(171,F5 z0)] cv7 cv9 fun a=>E_internal_strconv_Itoa z0 a) internal_strconv_FormatInt)
noncomputable def I5 {γ:Type} (F:Tj):Hd ctx γ:=hdl cv7.dec (fun a=>F a) cv9.enc
abbrev Uj:=Int→Option ByteArray
noncomputable def E_strconv_Itoa (z0:Tj) (i_0:Int):Option ByteArray:=
 (z0 i_0).bind fun r0=>
 some r0
noncomputable def strconv_Itoa:Uj:=E_strconv_Itoa internal_strconv_Itoa
theorem J5:Tells ctx PP 80 cv7 cv9 (fun a=>strconv_Itoa a):=fn_ok0 (hc G5 hl_nil) Tryz.func80 ((fun z0 a=>by kernel_rfl:∀ z0,EntryIs0 ctx PP 80 [] [(124,I5 z0)] cv7 cv9 fun a=>E_strconv_Itoa z0 a) internal_strconv_Itoa)
noncomputable def O5 {γ:Type} (F:Uj):Hd ctx γ:=hdl cv7.dec (fun a=>F a) cv9.enc
abbrev Vj:=Int→Option ByteArray
noncomputable def E_impl_Decimal (z0:Uj) (n_0:Int):Option ByteArray:=
 (z0 n_0).bind fun r0=>
 some r0
noncomputable def impl_Decimal:Vj:=E_impl_Decimal strconv_Itoa
theorem P5:Tells ctx PP 39 cv7 cv9 (fun a=>impl_Decimal a):=fn_ok0 (hc J5 hl_nil) Tryz.func39 ((fun z0 a=>by kernel_rfl:∀ z0,EntryIs0 ctx PP 39 [] [(80,O5 z0)] cv7 cv9 fun a=>E_impl_Decimal z0 a) strconv_Itoa)
noncomputable def Q5 {γ:Type} (F:Vj):Hd ctx γ:=hdl cv7.dec (fun a=>F a) cv9.enc
abbrev Wj:=SBox→Int→Option Int
inductive Qa where
 | c0 (id_1:Int) (v_8:(List SSession)) (v_9:Int) (v_10:Int)
noncomputable def Yt:Qa→LI
 | .c0 id_1 v_8 v_9 v_10=>(tdo Tryz.f40 104,[(1,[.one (.int .i64 id_1)]),(8,[.one (.rsl 88 v_8)]),(9,[.one (.int .i64 v_9)]),(10,[.one (.int .i64 v_10)])],[])
noncomputable def E_impl_sessionAt (k:Qa→Option Int) (b_0:SBox) (id_1:Int):Option Int:=
 k (.c0 id_1 b_0.fSessions (b_0.fSessions.length:Int) 0)
noncomputable def B_impl_sessionAt (k:Qa→Option Int):Qa→Option Int
 | .c0 id_1 v_8 v_9 v_10=>
 bif (decide (v_10<v_9)) then
  bif ((decide (0≤v_10)) && (decide (v_10<(v_8.length:Int)))) then
  bif ((v_8.getD v_10.toNat (⟨0,false⟩:SSession)).fId == id_1) then
  some v_10
  else
  k (.c0 id_1 v_8 v_9 (w64 (v_10+1)))
  else none
 else
  some (-(1:Int))
noncomputable def L_impl_sessionAt:Nat→Qa→Option Int
 | 0,_=>none
 | m+1,s=>B_impl_sessionAt (L_impl_sessionAt m) s
noncomputable def impl_sessionAt:Wj:=E_impl_sessionAt (L_impl_sessionAt gas)
theorem U5:Tells ctx PP 40 cv80 cv7 (fun a=>impl_sessionAt a.1 a.2):=
 have b:CutIs ctx PP 40 Tryz.f40 [] [] cv7 Yt (B_impl_sessionAt):=fun _ s=>by cases s <;> kernel_rfl
 have e:EntryIs ctx PP 40 [] [] cv80 cv7 Yt (fun k a=>E_impl_sessionAt k a.1 a.2):=fun _ a=>by kernel_rfl
 fn_ok hl_nil Tryz.func40 (fun s s' h=>by cases s;cases s';cases h;rfl) (fun _=>rfl) (fun _ _=>rfl) b e gas
noncomputable def V5 {γ:Type} (F:Wj):Hd ctx γ:=hdl cv80.dec (fun a=>F a.1 a.2) cv7.enc
abbrev Xj:=SBox→SCall→Option ((List SRec)×Int×ByteArray)
noncomputable def E_impl_planWord (z0:Vg) (z1:PY) (b_0:SBox) (c_1:SCall):Option ((List SRec)×Int×ByteArray):=
 bif (decide (b_0.fBook.fTries≥3)) then
 (z0 3).bind fun r0=>
 some (r0.1,(r0.2.1,r0.2.2))
 else
 (z1 c_1.fText).bind fun r1=>
 bif (!((ByteArray.toList r1) == (ByteArray.toList b_0.fBook.fWord))) then
  (z0 4).bind fun r2=>
  some ([⟨2,⟨#[]⟩,(w64 (b_0.fBook.fTries+1)),⟨0,0,false,false,false,false,⟨#[]⟩,0⟩⟩],(r2.2.1,r2.2.2))
 else
  bif (b_0.fBook.fTries == 0) then
  some ([],(0,⟨#[]⟩))
  else
  some ([⟨2,⟨#[]⟩,0,⟨0,0,false,false,false,false,⟨#[]⟩,0⟩⟩],(0,⟨#[]⟩))
noncomputable def impl_planWord:Xj:=E_impl_planWord impl_refused impl_DigestOf
theorem X5:Tells ctx PP 41 cv81 cv73 (fun a=>impl_planWord a.1 a.2):=fn_ok0 (hc Vt (hc GZ hl_nil)) Tryz.func41 ((fun z0 z1 a=>by kernel_rfl:∀ z0 z1,EntryIs0 ctx PP 41 [] [(38,Xt z0),(25,IZ z1)] cv81 cv73 fun a=>E_impl_planWord z0 z1 a.1 a.2) impl_refused impl_DigestOf)
noncomputable def Y5 {γ:Type} (F:Xj):Hd ctx γ:=hdl cv81.dec (fun a=>F a.1 a.2) cv73.enc
abbrev Yj:=SBox→SCall→Option ((List SRec)×Int×ByteArray)
noncomputable def Zj:Yj:=fun _ _=>none
theorem Z5:Tells ctx PP 42 cv81 cv73 (fun a=>Zj a.1 a.2):=fun _ r h=>by
 have h:none=some r:=h
 cases h
noncomputable def D6 {γ:Type} (F:Yj):Hd ctx γ:=hdl cv81.dec (fun a=>F a.1 a.2) cv73.enc
abbrev Ak:=SBox→SCall→Option ((List SRec)×Int×ByteArray)
noncomputable def Ik:Ak:=fun _ _=>none
theorem F6:Tells ctx PP 43 cv81 cv73 (fun a=>Ik a.1 a.2):=fun _ r h=>by
 have h:none=some r:=h
 cases h
noncomputable def G6 {γ:Type} (F:Ak):Hd ctx γ:=hdl cv81.dec (fun a=>F a.1 a.2) cv73.enc
abbrev Jk:=SBox→SCall→SThing→Option ((List SRec)×Int×ByteArray)
noncomputable def Nk:Jk:=fun _ _ _=>none
theorem H6:Tells ctx PP 45 cv82 cv73 (fun a=>Nk a.1 a.2.1 a.2.2):=fun _ r h=>by
 have h:none=some r:=h
 cases h
noncomputable def J6 {γ:Type} (F:Jk):Hd ctx γ:=hdl cv82.dec (fun a=>F a.1 a.2.1 a.2.2) cv73.enc
abbrev Qk:=SBox→SCall→Option ((List SRec)×Int×ByteArray)
noncomputable def Ua (z0:Ig) (z1:Lj) (z2:Vg) (z3:Vj) (z4:Wj) (z5:Xj) (z6:PY) (z7:Yj) (z8:Ak) (z9:Va) (z10:Jk) (t_0:SBox) (o_1:SCall):Option ((List SRec)×Int×ByteArray):=
 (z0 t_0).bind fun r0=>
 bif (!r0) then
 (z2 9).bind fun r1=>
 some (r1.1,(r1.2.1,r1.2.2))
 else
 bif (!t_0.fUp) then
  (z2 9).bind fun r2=>
  some (r2.1,(r2.2.1,r2.2.2))
 else
  (z1 o_1).bind fun r3=>
  bif (!r3) then
  (z2 9).bind fun r4=>
  some (r4.1,(r4.2.1,r4.2.2))
  else
  bif (decide (t_0.fBook.fCount≥10000)) then
   (z2 9).bind fun r5=>
   some (r5.1,(r5.2.1,r5.2.2))
  else
   bif (o_1.fOp == 1) then
   bif (decide ((t_0.fSessions.length:Int)≥3)) then
    (z2 1).bind fun r6=>
    some (r6.1,(r6.2.1,r6.2.2))
   else
    bif (decide (t_0.fOpened≥1000)) then
    (z2 1).bind fun r7=>
    some (r7.1,(r7.2.1,r7.2.2))
    else
    (z3 (w64 (t_0.fOpened+1))).bind fun r8=>
    some ([],(0,r8))
   else
   (z4 t_0 o_1.fSession).bind fun r9=>
   bif (decide (r9<0)) then
    (z2 2).bind fun r10=>
    some (r10.1,(r10.2.1,r10.2.2))
   else
    bif (o_1.fOp == 13) then
    some ([],(0,⟨#[]⟩))
    else
    bif (o_1.fOp == 2) then
     (z5 t_0 o_1).bind fun r11=>
     some (r11.1,(r11.2.1,r11.2.2))
    else
     bif ((decide (0≤r9)) && (decide (r9<(t_0.fSessions.length:Int)))) then
     bif (!(t_0.fSessions.getD r9.toNat (⟨0,false⟩:SSession)).fIn) then
     (z2 5).bind fun r12=>
     some (r12.1,(r12.2.1,r12.2.2))
     else
     bif (o_1.fOp == 3) then
      bif (decide ((o_1.fText.size:Int) > 20)) then
      (z2 6).bind fun r13=>
      some (r13.1,(r13.2.1,r13.2.2))
      else
      (z6 o_1.fText).bind fun r14=>
      some ([⟨1,r14,0,⟨0,0,false,false,false,false,⟨#[]⟩,0⟩⟩],(0,⟨#[]⟩))
     else
      bif (o_1.fOp == 4) then
      (z7 t_0 o_1).bind fun r15=>
      some (r15.1,(r15.2.1,r15.2.2))
      else
      bif (o_1.fOp == 11) then
       (z8 t_0 o_1).bind fun r16=>
       some (r16.1,(r16.2.1,r16.2.2))
      else
       (z9 t_0.fBook o_1.fThing).bind fun r17=>
       bif (!r17.2) then
       (z2 7).bind fun r18=>
       some (r18.1,(r18.2.1,r18.2.2))
       else
       (z10 t_0 o_1 r17.1).bind fun r19=>
       some (r19.1,(r19.2.1,r19.2.2))
     else none
noncomputable def TT:Qk:=Ua impl_BoxOk impl_CallOk impl_refused impl_Decimal impl_sessionAt impl_planWord impl_DigestOf Zj Ik impl_ThingOf Nk
theorem L6:Tells ctx PP 14 cv81 cv73 (fun a=>TT a.1 a.2):=fn_ok0 (hc Jt (hc Y3 (hc Vt (hc P5 (hc U5 (hc X5 (hc GZ (hc Z5 (hc F6 (hc Zt (hc H6 hl_nil))))))))))) Tryz.func14 ((fun z0 z1 z2 z3 z4 z5 z6 z7 z8 z9 z10 a=>by kernel_rfl:∀ z0 z1 z2 z3 z4 z5 z6 z7 z8 z9 z10,EntryIs0 ctx PP 14 [] [(15,Ut z0),(37,I4 z1),(38,Xt z2),(39,Q5 z3),(40,V5 z4),(41,Y5 z5),(25,IZ z6),(42,D6 z7),(43,G6 z8),(44,Rk z9),(45,J6 z10)] cv81 cv73 fun a=>Ua z0 z1 z2 z3 z4 z5 z6 z7 z8 z9 z10 a.1 a.2) impl_BoxOk impl_CallOk impl_refused impl_Decimal impl_sessionAt impl_planWord impl_DigestOf Zj Ik impl_ThingOf Nk)
noncomputable def O6 {γ:Type} (F:Qk):Hd ctx γ:=hdl cv81.dec (fun a=>F a.1 a.2) cv73.enc
abbrev Uk:=SBox→Option SBox
noncomputable def E_impl_Fallen (z0:JZ) (z1:VY) (b_0:SBox):Option SBox:=
 (z0 b_0.fDisk).bind fun r0=>
 z1.bind fun r1=>
 some ⟨b_0.fKey,false,r0,r1,[],[],0⟩
noncomputable def impl_Fallen:Uk:=E_impl_Fallen impl_copyDisk impl_BookNew
theorem P6:Tells ctx PP 16 cv70 cv85 (fun a=>impl_Fallen a):=fn_ok0 (hc Vk (hc Ug hl_nil)) Tryz.func16 ((fun z0 z1 a=>by kernel_rfl:∀ z0 z1,EntryIs0 ctx PP 16 [] [(52,Xg z0),(32,Oa z1)] cv70 cv85 fun a=>E_impl_Fallen z0 z1 a) impl_copyDisk impl_BookNew)
noncomputable def U6 {γ:Type} (F:Uk):Hd ctx γ:=hdl cv70.dec (fun a=>F a) cv85.enc
abbrev Au:=Unit→Option Bool
noncomputable def Xk (z0:Yk) (z1:Zk) (z2:Bl) (z3:Dl) (z4:Qk) (z5:Ig) (z6:Uk) (code_0:Unit):Option Bool:=
 (z0 ()).bind fun r0=>
 bif r0 then
 some true
 else
 (z1 ()).bind fun r1=>
 (z2 r1.1 r1.2).bind fun r2=>
 (z3 r1.1 r1.2).bind fun r3=>
 bif (!(r2.2 == r3.2)) then
  some false
 else
  bif (!r2.2) then
  some ((ByteArray.toList r2.1.fKey) == (ByteArray.toList ⟨#[]⟩))
  else
  (z4 r2.1 ⟨2,1,0,0,r1.2,false,false⟩).bind fun r4=>
  (z5 r2.1).bind fun r5=>
  bif r5 then
   bif (r4.2.1 == 2) then
   bif ((r4.1.length:Int) == 0) then
    (z6 r2.1).bind fun r6=>
    (z5 r6).bind fun r7=>
    some r7
   else
    some false
   else
   some false
  else
   some false
noncomputable def laws_FnLocksOut:Au:=Xk Yg Xa impl_BoxNew Ya TT impl_BoxOk impl_Fallen
theorem ok_laws_FnLocksOut:Tells ctx PP 4 cv0 cv1 (fun a=>laws_FnLocksOut a):=fn_ok0 (hc V6 (hc X6 (hc Y6 (hc D7 (hc L6 (hc Jt (hc P6 hl_nil))))))) Tryz.func4 ((fun z0 z1 z2 z3 z4 z5 z6 a=>by kernel_rfl:∀ z0 z1 z2 z3 z4 z5 z6,EntryIs0 ctx PP 4 [] [(5,F7 z0),(11,G7 z1),(12,H7 z2),(13,I7 z3),(14,O6 z4),(15,Ut z5),(16,U6 z6)] cv0 cv1 fun a=>Xk z0 z1 z2 z3 z4 z5 z6 a) Yg Xa impl_BoxNew Ya TT impl_BoxOk impl_Fallen)
noncomputable def MAE {γ:Type} (F:Au):Hd ctx γ:=hdl cv0.dec (fun a=>F a) cv1.enc
end Go.Proofs.YtefdenlloeedkaaGreatDoor.G

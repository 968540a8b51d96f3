/- Functions of the program, told by plain functions: part 2 of 2. -/
import Derived.Test.YteabefphhanlfaaGreatDoorFFnExactMounta
namespace Go.Proofs.YteabefphhanlfaaGreatDoor.G
open Go Go.Ev
noncomputable def E_impl_RecText (impl_varText : Int → Option ByteArray) (impl_in : Int → Int → Int → Option Bool) (impl_ThingText : SThing → Option (ByteArray × Bool)) (impl_oneByte : Int → Option ByteArray) (r_0 : SRec) : Option (ByteArray × Bool) :=
  bif (r_0.fKind == 1) then
    bif (!((r_0.fText.size : Int) == 32)) then
      some ((⟨#[]⟩ : ByteArray), false)
    else
      bif (!((r_0.fKind == r_0.fKind) && (((ByteArray.toList r_0.fText) == (ByteArray.toList r_0.fText)) && ((r_0.fNum == 0) && (((r_0.fThing.fId == 0) && ((r_0.fThing.fKind == 0) && ((r_0.fThing.fHidden == false) && ((r_0.fThing.fFixed == false) && ((r_0.fThing.fSigns == false) && ((r_0.fThing.fWraps == false) && (((ByteArray.toList r_0.fThing.fValue) == (ByteArray.toList (⟨#[]⟩ : ByteArray))) && ((r_0.fThing.fNext == 0) && true)))))))) && true))))) then
        some ((⟨#[]⟩ : ByteArray), false)
      else
        (impl_oneByte r_0.fKind).bind fun r0 =>
        bif (decide ((r0.size + r_0.fText.size) ≤ 9223372036854775807)) then
        some ((r0 ++ r_0.fText), true)
        else none
  else
    bif (r_0.fKind == 2) then
      (impl_varText r_0.fNum).bind fun r1 =>
      (impl_in r_0.fNum (0 : Int) (3 : Int)).bind fun r2 =>
      bif (!r2) then
        some ((⟨#[]⟩ : ByteArray), false)
      else
        bif (!((r_0.fKind == r_0.fKind) && (((ByteArray.toList r_0.fText) == (ByteArray.toList (⟨#[]⟩ : ByteArray))) && ((r_0.fNum == r_0.fNum) && (((r_0.fThing.fId == 0) && ((r_0.fThing.fKind == 0) && ((r_0.fThing.fHidden == false) && ((r_0.fThing.fFixed == false) && ((r_0.fThing.fSigns == false) && ((r_0.fThing.fWraps == false) && (((ByteArray.toList r_0.fThing.fValue) == (ByteArray.toList (⟨#[]⟩ : ByteArray))) && ((r_0.fThing.fNext == 0) && true)))))))) && true))))) then
          some ((⟨#[]⟩ : ByteArray), false)
        else
          (impl_oneByte r_0.fKind).bind fun r3 =>
          bif (decide ((r3.size + r1.size) ≤ 9223372036854775807)) then
          some ((r3 ++ r1), true)
          else none
    else
      bif (r_0.fKind == 3) then
        (impl_ThingText r_0.fThing).bind fun r4 =>
        bif (!r4.2) then
          some ((⟨#[]⟩ : ByteArray), false)
        else
          bif (!((r_0.fKind == r_0.fKind) && (((ByteArray.toList r_0.fText) == (ByteArray.toList (⟨#[]⟩ : ByteArray))) && ((r_0.fNum == 0) && (((r_0.fThing.fId == r_0.fThing.fId) && ((r_0.fThing.fKind == r_0.fThing.fKind) && ((r_0.fThing.fHidden == r_0.fThing.fHidden) && ((r_0.fThing.fFixed == r_0.fThing.fFixed) && ((r_0.fThing.fSigns == r_0.fThing.fSigns) && ((r_0.fThing.fWraps == r_0.fThing.fWraps) && (((ByteArray.toList r_0.fThing.fValue) == (ByteArray.toList r_0.fThing.fValue)) && ((r_0.fThing.fNext == r_0.fThing.fNext) && true)))))))) && true))))) then
            some ((⟨#[]⟩ : ByteArray), false)
          else
            (impl_oneByte r_0.fKind).bind fun r5 =>
            bif (decide ((r5.size + r4.1.size) ≤ 9223372036854775807)) then
            some ((r5 ++ r4.1), true)
            else none
      else
        bif (r_0.fKind == 4) then
          (impl_varText r_0.fNum).bind fun r6 =>
          (impl_in r_0.fNum (1 : Int) (1000 : Int)).bind fun r7 =>
          bif (!r7) then
            some ((⟨#[]⟩ : ByteArray), false)
          else
            bif (!((r_0.fKind == r_0.fKind) && (((ByteArray.toList r_0.fText) == (ByteArray.toList (⟨#[]⟩ : ByteArray))) && ((r_0.fNum == r_0.fNum) && (((r_0.fThing.fId == 0) && ((r_0.fThing.fKind == 0) && ((r_0.fThing.fHidden == false) && ((r_0.fThing.fFixed == false) && ((r_0.fThing.fSigns == false) && ((r_0.fThing.fWraps == false) && (((ByteArray.toList r_0.fThing.fValue) == (ByteArray.toList (⟨#[]⟩ : ByteArray))) && ((r_0.fThing.fNext == 0) && true)))))))) && true))))) then
              some ((⟨#[]⟩ : ByteArray), false)
            else
              (impl_oneByte r_0.fKind).bind fun r8 =>
              bif (decide ((r8.size + r6.size) ≤ 9223372036854775807)) then
              some ((r8 ++ r6), true)
              else none
        else
          some ((⟨#[]⟩ : ByteArray), false)
noncomputable def impl_RecText (r_0 : SRec) : Option (ByteArray × Bool) := E_impl_RecText impl_varText impl_in impl_ThingText impl_oneByte r_0
theorem e_impl_RecText (impl_varText : Int → Option ByteArray) (impl_in : Int → Int → Int → Option Bool) (impl_ThingText : SThing → Option (ByteArray × Bool)) (impl_oneByte : Int → Option ByteArray) : EntryIs0 ctx PP 167 [] [(168, H_impl_varText impl_varText), (67, H_impl_in impl_in), (198, H_impl_ThingText impl_ThingText), (195, H_impl_oneByte impl_oneByte)] cv39 cv14 (fun a => E_impl_RecText impl_varText impl_in impl_ThingText impl_oneByte a) := fun a => by kernel_rfl
theorem ok_impl_RecText : Tells ctx PP 167 cv39 cv14 (fun a => impl_RecText a) := fn_ok0 (hl_cons h_impl_varText (hl_cons h_impl_in (hl_cons h_impl_ThingText (hl_cons h_impl_oneByte hl_nil)))) Tryz.func167 (e_impl_RecText impl_varText impl_in impl_ThingText impl_oneByte)
noncomputable def H_impl_RecText {γ : Type} (F : SRec → Option (ByteArray × Bool)) : Hd ctx γ := hdl cv39.dec (fun a => F a) cv14.enc
theorem h_impl_RecText {γ : Type} : HdOk (γ := γ) PP 167 (H_impl_RecText impl_RecText) := hd_ok ok_impl_RecText
noncomputable def E_impl_ReadRec (impl_ReadThing : ByteArray → Option (SThing × Bool)) (impl_ReadVar : ByteArray → Int → Option (Int × Int × Bool)) (impl_RecText : SRec → Option (ByteArray × Bool)) (text_0 : ByteArray) : Option (SRec × Bool) :=
  bif ((ByteArray.toList text_0) == (ByteArray.toList (⟨#[]⟩ : ByteArray))) then
    some ((⟨(0 : Int), (⟨#[]⟩ : ByteArray), (0 : Int), (⟨(0 : Int), (0 : Int), false, false, false, false, (⟨#[]⟩ : ByteArray), (0 : Int)⟩ : SThing)⟩ : SRec), false)
  else
    bif ((decide ((0 : Int) ≤ (0 : Int))) && (decide (0 < (text_0.size : Int)))) then
    bif ((w64 (bt text_0 (0 : Int))) == 1) then
      bif ((decide ((0 : Int) ≤ (1 : Int))) && (decide (1 ≤ (text_0.size : Int)))) then
      (impl_RecText (⟨(w64 (bt text_0 (0 : Int))), (text_0.extract (1 : Int).toNat text_0.size), (0 : Int), (⟨(0 : Int), (0 : Int), false, false, false, false, (⟨#[]⟩ : ByteArray), (0 : Int)⟩ : SThing)⟩ : SRec)).bind fun r0 =>
      bif (!r0.2) then
        some ((⟨(0 : Int), (⟨#[]⟩ : ByteArray), (0 : Int), (⟨(0 : Int), (0 : Int), false, false, false, false, (⟨#[]⟩ : ByteArray), (0 : Int)⟩ : SThing)⟩ : SRec), false)
      else
        bif (!((ByteArray.toList r0.1) == (ByteArray.toList text_0))) then
          some ((⟨(0 : Int), (⟨#[]⟩ : ByteArray), (0 : Int), (⟨(0 : Int), (0 : Int), false, false, false, false, (⟨#[]⟩ : ByteArray), (0 : Int)⟩ : SThing)⟩ : SRec), false)
        else
          some ((⟨(w64 (bt text_0 (0 : Int))), (text_0.extract (1 : Int).toNat text_0.size), (0 : Int), (⟨(0 : Int), (0 : Int), false, false, false, false, (⟨#[]⟩ : ByteArray), (0 : Int)⟩ : SThing)⟩ : SRec), true)
      else none
    else
      bif ((w64 (bt text_0 (0 : Int))) == 3) then
        bif ((decide ((0 : Int) ≤ (1 : Int))) && (decide (1 ≤ (text_0.size : Int)))) then
        (impl_ReadThing (text_0.extract (1 : Int).toNat text_0.size)).bind fun r1 =>
        (impl_RecText (⟨(w64 (bt text_0 (0 : Int))), (⟨#[]⟩ : ByteArray), (0 : Int), r1.1⟩ : SRec)).bind fun r2 =>
        bif (!r2.2) then
          some ((⟨(0 : Int), (⟨#[]⟩ : ByteArray), (0 : Int), (⟨(0 : Int), (0 : Int), false, false, false, false, (⟨#[]⟩ : ByteArray), (0 : Int)⟩ : SThing)⟩ : SRec), false)
        else
          bif (!((ByteArray.toList r2.1) == (ByteArray.toList text_0))) then
            some ((⟨(0 : Int), (⟨#[]⟩ : ByteArray), (0 : Int), (⟨(0 : Int), (0 : Int), false, false, false, false, (⟨#[]⟩ : ByteArray), (0 : Int)⟩ : SThing)⟩ : SRec), false)
          else
            some ((⟨(w64 (bt text_0 (0 : Int))), (⟨#[]⟩ : ByteArray), (0 : Int), r1.1⟩ : SRec), true)
        else none
      else
        (impl_ReadVar text_0 (1 : Int)).bind fun r3 =>
        (impl_RecText (⟨(w64 (bt text_0 (0 : Int))), (⟨#[]⟩ : ByteArray), r3.1, (⟨(0 : Int), (0 : Int), false, false, false, false, (⟨#[]⟩ : ByteArray), (0 : Int)⟩ : SThing)⟩ : SRec)).bind fun r4 =>
        bif (!r4.2) then
          some ((⟨(0 : Int), (⟨#[]⟩ : ByteArray), (0 : Int), (⟨(0 : Int), (0 : Int), false, false, false, false, (⟨#[]⟩ : ByteArray), (0 : Int)⟩ : SThing)⟩ : SRec), false)
        else
          bif (!((ByteArray.toList r4.1) == (ByteArray.toList text_0))) then
            some ((⟨(0 : Int), (⟨#[]⟩ : ByteArray), (0 : Int), (⟨(0 : Int), (0 : Int), false, false, false, false, (⟨#[]⟩ : ByteArray), (0 : Int)⟩ : SThing)⟩ : SRec), false)
          else
            some ((⟨(w64 (bt text_0 (0 : Int))), (⟨#[]⟩ : ByteArray), r3.1, (⟨(0 : Int), (0 : Int), false, false, false, false, (⟨#[]⟩ : ByteArray), (0 : Int)⟩ : SThing)⟩ : SRec), true)
    else none
noncomputable def impl_ReadRec (text_0 : ByteArray) : Option (SRec × Bool) := E_impl_ReadRec impl_ReadThing impl_ReadVar impl_RecText text_0
theorem e_impl_ReadRec (impl_ReadThing : ByteArray → Option (SThing × Bool)) (impl_ReadVar : ByteArray → Int → Option (Int × Int × Bool)) (impl_RecText : SRec → Option (ByteArray × Bool)) : EntryIs0 ctx PP 113 [] [(166, H_impl_ReadThing impl_ReadThing), (160, H_impl_ReadVar impl_ReadVar), (167, H_impl_RecText impl_RecText)] cv11 cv40 (fun a => E_impl_ReadRec impl_ReadThing impl_ReadVar impl_RecText a) := fun a => by kernel_rfl
theorem ok_impl_ReadRec : Tells ctx PP 113 cv11 cv40 (fun a => impl_ReadRec a) := fn_ok0 (hl_cons h_impl_ReadThing (hl_cons h_impl_ReadVar (hl_cons h_impl_RecText hl_nil))) Tryz.func113 (e_impl_ReadRec impl_ReadThing impl_ReadVar impl_RecText)
noncomputable def H_impl_ReadRec {γ : Type} (F : ByteArray → Option (SRec × Bool)) : Hd ctx γ := hdl cv11.dec (fun a => F a) cv40.enc
theorem h_impl_ReadRec {γ : Type} : HdOk (γ := γ) PP 113 (H_impl_ReadRec impl_ReadRec) := hd_ok ok_impl_ReadRec
noncomputable def E_impl_Frame (impl_in : Int → Int → Int → Option Bool) (impl_varText : Int → Option ByteArray) (impl_SumOf : ByteArray → Option Int) (impl_fourBytes : Int → Option ByteArray) (text_0 : ByteArray) : Option (ByteArray × Bool) :=
  (impl_in (text_0.size : Int) (1 : Int) (9000 : Int)).bind fun r0 =>
  bif (!r0) then
    some ((⟨#[]⟩ : ByteArray), false)
  else
    (impl_varText (text_0.size : Int)).bind fun r1 =>
    (impl_SumOf text_0).bind fun r2 =>
    (impl_fourBytes r2).bind fun r3 =>
    bif (decide ((r1.size + r3.size) ≤ 9223372036854775807)) then
    bif (decide (((r1 ++ r3).size + text_0.size) ≤ 9223372036854775807)) then
    some (((r1 ++ r3) ++ text_0), true)
    else none
    else none
noncomputable def impl_Frame (text_0 : ByteArray) : Option (ByteArray × Bool) := E_impl_Frame impl_in impl_varText impl_SumOf impl_fourBytes text_0
theorem e_impl_Frame (impl_in : Int → Int → Int → Option Bool) (impl_varText : Int → Option ByteArray) (impl_SumOf : ByteArray → Option Int) (impl_fourBytes : Int → Option ByteArray) : EntryIs0 ctx PP 114 [] [(67, H_impl_in impl_in), (168, H_impl_varText impl_varText), (162, H_impl_SumOf impl_SumOf), (161, H_impl_fourBytes impl_fourBytes)] cv11 cv14 (fun a => E_impl_Frame impl_in impl_varText impl_SumOf impl_fourBytes a) := fun a => by kernel_rfl
theorem ok_impl_Frame : Tells ctx PP 114 cv11 cv14 (fun a => impl_Frame a) := fn_ok0 (hl_cons h_impl_in (hl_cons h_impl_varText (hl_cons h_impl_SumOf (hl_cons h_impl_fourBytes hl_nil)))) Tryz.func114 (e_impl_Frame impl_in impl_varText impl_SumOf impl_fourBytes)
noncomputable def H_impl_Frame {γ : Type} (F : ByteArray → Option (ByteArray × Bool)) : Hd ctx γ := hdl cv11.dec (fun a => F a) cv14.enc
theorem h_impl_Frame {γ : Type} : HdOk (γ := γ) PP 114 (H_impl_Frame impl_Frame) := hd_ok ok_impl_Frame
noncomputable def todo_impl_ReadBook_0 : List Go.Item := [.code (cAt (bodyOf Tryz.f45) [1, 1, 1, 1, 0, 1, 0, 0, 0]), .code (cAt (bodyOf Tryz.f45) [1, 1, 1, 1, 0, 1, 0, 0, 1]), .inLoop (cAt (bodyOf Tryz.f45) [1, 1, 1, 1, 0, 1, 0, 0]), .inBlock 0, .code (cAt (bodyOf Tryz.f45) [1, 1, 1, 1, 1])]
inductive St_impl_ReadBook where
  | c0 (key_0 : ByteArray) (at_9 : Int) (v_24 : Int) (v_25 : Int) (out_8 : (List SRec)) (v_23 : (List ByteArray))
noncomputable def at_impl_ReadBook : St_impl_ReadBook → LI
  | .c0 key_0 at_9 v_24 v_25 out_8 v_23 => (todo_impl_ReadBook_0, [(0, [.one (.str key_0)]), (8, [.one (.own 560)]), (9, [.one (.int .i64 at_9)]), (23, [.one (.own 1520)]), (24, [.one (.int .i64 v_24)]), (25, [.one (.int .i64 v_25)])], [(560, .sl 140 out_8), (1520, .sl 9 v_23)])
noncomputable def E_impl_ReadBook (impl_Unframe : ByteArray → Option ((List ByteArray) × Int)) (impl_OpenText : ByteArray → Int → ByteArray → Option (ByteArray × Bool)) (impl_ReadRec : ByteArray → Option (SRec × Bool)) (impl_Frame : ByteArray → Option (ByteArray × Bool)) (k : St_impl_ReadBook → Option ((List SRec) × Int)) (key_0 : ByteArray) (file_1 : ByteArray) : Option ((List SRec) × Int) :=
  (impl_Unframe file_1).bind fun r0 =>
  k (.c0 key_0 (0 : Int) (r0.1.length : Int) (0 : Int) [] r0.1)
noncomputable def B_impl_ReadBook (impl_Unframe : ByteArray → Option ((List ByteArray) × Int)) (impl_OpenText : ByteArray → Int → ByteArray → Option (ByteArray × Bool)) (impl_ReadRec : ByteArray → Option (SRec × Bool)) (impl_Frame : ByteArray → Option (ByteArray × Bool)) (k : St_impl_ReadBook → Option ((List SRec) × Int)) : St_impl_ReadBook → Option ((List SRec) × Int)
  | .c0 key_0 at_9 v_24 v_25 out_8 v_23 =>
    bif (decide (v_25 < v_24)) then
      bif ((decide (0 ≤ v_25)) && (decide (v_25 < (v_23.length : Int)))) then
      (impl_OpenText key_0 (w64 (v_25 + 1)) (v_23.getD v_25.toNat (⟨#[]⟩ : ByteArray))).bind fun r0 =>
      (impl_ReadRec r0.1).bind fun r1 =>
      bif (!r0.2) then
        some (out_8, at_9)
      else
        bif (!r1.2) then
          some (out_8, at_9)
        else
          bif (decide (((out_8.length + 1) * 80) ≤ 140737488355328)) then
          (impl_Frame (v_23.getD v_25.toNat (⟨#[]⟩ : ByteArray))).bind fun r2 =>
          k (.c0 key_0 (w64 (at_9 + (r2.1.size : Int))) v_24 (w64 (v_25 + 1)) (out_8 ++ [r1.1]) v_23)
          else none
      else none
    else
      some (out_8, at_9)
noncomputable def L_impl_ReadBook : Nat → St_impl_ReadBook → Option ((List SRec) × Int)
  | 0, _ => none
  | m + 1, s => B_impl_ReadBook impl_Unframe impl_OpenText impl_ReadRec impl_Frame (L_impl_ReadBook m) s
noncomputable def impl_ReadBook (key_0 : ByteArray) (file_1 : ByteArray) : Option ((List SRec) × Int) := E_impl_ReadBook impl_Unframe impl_OpenText impl_ReadRec impl_Frame (L_impl_ReadBook gas) key_0 file_1
theorem e_impl_ReadBook (impl_Unframe : ByteArray → Option ((List ByteArray) × Int)) (impl_OpenText : ByteArray → Int → ByteArray → Option (ByteArray × Bool)) (impl_ReadRec : ByteArray → Option (SRec × Bool)) (impl_Frame : ByteArray → Option (ByteArray × Bool)) : EntryIs ctx PP 45 [] [(111, H_impl_Unframe impl_Unframe), (112, H_impl_OpenText impl_OpenText), (113, H_impl_ReadRec impl_ReadRec), (114, H_impl_Frame impl_Frame)] cv29 cv41 at_impl_ReadBook (fun k a => E_impl_ReadBook impl_Unframe impl_OpenText impl_ReadRec impl_Frame k a.1 a.2) := fun stop a => by kernel_rfl
theorem b_impl_ReadBook (impl_Unframe : ByteArray → Option ((List ByteArray) × Int)) (impl_OpenText : ByteArray → Int → ByteArray → Option (ByteArray × Bool)) (impl_ReadRec : ByteArray → Option (SRec × Bool)) (impl_Frame : ByteArray → Option (ByteArray × Bool)) : CutIs ctx PP 45 Tryz.f45 [] [(111, H_impl_Unframe impl_Unframe), (112, H_impl_OpenText impl_OpenText), (113, H_impl_ReadRec impl_ReadRec), (114, H_impl_Frame impl_Frame)] cv41 at_impl_ReadBook (B_impl_ReadBook impl_Unframe impl_OpenText impl_ReadRec impl_Frame) := fun stop s => by cases s <;> kernel_rfl
theorem i_impl_ReadBook : ∀ s s', at_impl_ReadBook s = at_impl_ReadBook s' → s = s' := by
  intro s s' h
  cases s with
  | c0 v0 v1 v2 v3 v4 v5 => cases s' with
    | c0 w0 w1 w2 w3 w4 w5 => cases h; rfl
theorem ok_impl_ReadBook : Tells ctx PP 45 cv29 cv41 (fun a => impl_ReadBook a.1 a.2) := fn_ok (hl_cons h_impl_Unframe (hl_cons h_impl_OpenText (hl_cons h_impl_ReadRec (hl_cons h_impl_Frame hl_nil)))) Tryz.func45 i_impl_ReadBook (fun _ => rfl) (fun _ _ => rfl) (b_impl_ReadBook impl_Unframe impl_OpenText impl_ReadRec impl_Frame) (e_impl_ReadBook impl_Unframe impl_OpenText impl_ReadRec impl_Frame) gas
noncomputable def H_impl_ReadBook {γ : Type} (F : ByteArray → ByteArray → Option ((List SRec) × Int)) : Hd ctx γ := hdl cv29.dec (fun a => F a.1 a.2) cv41.enc
theorem h_impl_ReadBook {γ : Type} : HdOk (γ := γ) PP 45 (H_impl_ReadBook impl_ReadBook) := hd_ok ok_impl_ReadBook
noncomputable def E_impl_BookNew (impl_DigestOf : ByteArray → Option ByteArray) (impl_zeros : Int → Option ByteArray)  : Option SBook :=
  (impl_DigestOf (⟨#[]⟩ : ByteArray)).bind fun r0 =>
  (impl_zeros (32 : Int)).bind fun r1 =>
  some (⟨r0, (0 : Int), [], (0 : Int), r1, (0 : Int)⟩ : SBook)
noncomputable def impl_BookNew  : Option SBook := E_impl_BookNew impl_DigestOf impl_zeros 
theorem e_impl_BookNew (impl_DigestOf : ByteArray → Option ByteArray) (impl_zeros : Int → Option ByteArray) : EntryIs0 ctx PP 47 [] [(117, H_impl_DigestOf impl_DigestOf), (118, H_impl_zeros impl_zeros)] cv20 cv43 (fun _ => E_impl_BookNew impl_DigestOf impl_zeros ) := fun a => by kernel_rfl
theorem ok_impl_BookNew : Tells ctx PP 47 cv20 cv43 (fun _ => impl_BookNew ) := fn_ok0 (hl_cons h_impl_DigestOf (hl_cons h_impl_zeros hl_nil)) Tryz.func47 (e_impl_BookNew impl_DigestOf impl_zeros)
noncomputable def H_impl_BookNew {γ : Type} (F : Option SBook) : Hd ctx γ := hdl cv20.dec (fun _ => F ) cv43.enc
theorem h_impl_BookNew {γ : Type} : HdOk (γ := γ) PP 47 (H_impl_BookNew impl_BookNew) := hd_ok ok_impl_BookNew
noncomputable def E_impl_copyBook  (b_0 : SBook) : Option SBook :=
  bif (decide ((b_0.fThings.length * 48) ≤ 140737488355328)) then
  some b_0
  else none
noncomputable def impl_copyBook (b_0 : SBook) : Option SBook := E_impl_copyBook  b_0
theorem e_impl_copyBook  : EntryIs0 ctx PP 115 [] [] cv44 cv43 (fun a => E_impl_copyBook  a) := fun a => by kernel_rfl
theorem ok_impl_copyBook : Tells ctx PP 115 cv44 cv43 (fun a => impl_copyBook a) := fn_ok0 hl_nil Tryz.func115 (e_impl_copyBook )
noncomputable def H_impl_copyBook {γ : Type} (F : SBook → Option SBook) : Hd ctx γ := hdl cv44.dec (fun a => F a) cv43.enc
theorem h_impl_copyBook {γ : Type} : HdOk (γ := γ) PP 115 (H_impl_copyBook impl_copyBook) := hd_ok ok_impl_copyBook
noncomputable def todo_impl_BookOk_0 : List Go.Item := [.code (cAt (bodyOf Tryz.f69) [1, 0, 1, 0, 0, 0]), .code (cAt (bodyOf Tryz.f69) [1, 0, 1, 0, 0, 1]), .inLoop (cAt (bodyOf Tryz.f69) [1, 0, 1, 0, 0]), .inBlock 0, .code (cAt (bodyOf Tryz.f69) [1, 1])]
inductive St_impl_BookOk where
  | c0 (v_6 : (List SThing)) (v_7 : Int) (v_8 : Int) (b_1 : SBook)
noncomputable def at_impl_BookOk : St_impl_BookOk → LI
  | .c0 v_6 v_7 v_8 b_1 => (todo_impl_BookOk_0, [(1, [.one (.ptr 64 0)]), (6, [.one (.rsl 138 v_6)]), (7, [.one (.int .i64 v_7)]), (8, [.one (.int .i64 v_8)])], [(64, .var [.str b_1.fWord, .int .i64 b_1.fTries, .rsl 138 b_1.fThings, .int .i64 b_1.fLast, .str b_1.fChain, .int .i64 b_1.fCount])])
noncomputable def E_impl_BookOk (impl_ThingOk : SThing → Option Bool) (impl_in : Int → Int → Int → Option Bool) (k : St_impl_BookOk → Option Bool) (b_0 : SBook) : Option Bool :=
  k (.c0 b_0.fThings (b_0.fThings.length : Int) (0 : Int) b_0)
noncomputable def B_impl_BookOk (impl_ThingOk : SThing → Option Bool) (impl_in : Int → Int → Int → Option Bool) (k : St_impl_BookOk → Option Bool) : St_impl_BookOk → Option Bool
  | .c0 v_6 v_7 v_8 b_1 =>
    bif (decide (v_8 < v_7)) then
      bif ((decide (0 ≤ v_8)) && (decide (v_8 < (v_6.length : Int)))) then
      (impl_ThingOk (v_6.getD v_8.toNat (⟨(0 : Int), (0 : Int), false, false, false, false, (⟨#[]⟩ : ByteArray), (0 : Int)⟩ : SThing))).bind fun r0 =>
      bif (!r0) then
        some false
      else
        bif (decide ((v_6.getD v_8.toNat (⟨(0 : Int), (0 : Int), false, false, false, false, (⟨#[]⟩ : ByteArray), (0 : Int)⟩ : SThing)).fId > b_1.fLast)) then
          some false
        else
          bif (decide (v_8 > 0)) then
            bif ((decide (0 ≤ (w64 (v_8 - 1)))) && (decide ((w64 (v_8 - 1)) < (b_1.fThings.length : Int)))) then
            bif (decide ((b_1.fThings.getD (w64 (v_8 - 1)).toNat (⟨(0 : Int), (0 : Int), false, false, false, false, (⟨#[]⟩ : ByteArray), (0 : Int)⟩ : SThing)).fId ≥ (v_6.getD v_8.toNat (⟨(0 : Int), (0 : Int), false, false, false, false, (⟨#[]⟩ : ByteArray), (0 : Int)⟩ : SThing)).fId)) then
              some false
            else
              k (.c0 v_6 v_7 (w64 (v_8 + 1)) b_1)
            else none
          else
            k (.c0 v_6 v_7 (w64 (v_8 + 1)) b_1)
      else none
    else
      bif ((b_1.fWord.size : Int) == 32) then
        bif ((b_1.fChain.size : Int) == 32) then
          (impl_in b_1.fTries (0 : Int) (3 : Int)).bind fun r1 =>
          bif r1 then
            bif (decide ((b_1.fThings.length : Int) ≤ 8)) then
              (impl_in b_1.fLast (0 : Int) (1000 : Int)).bind fun r2 =>
              bif r2 then
                (impl_in b_1.fCount (0 : Int) (10000 : Int)).bind fun r3 =>
                some r3
              else
                some false
            else
              some false
          else
            some false
        else
          some false
      else
        some false
noncomputable def L_impl_BookOk : Nat → St_impl_BookOk → Option Bool
  | 0, _ => none
  | m + 1, s => B_impl_BookOk impl_ThingOk impl_in (L_impl_BookOk m) s
noncomputable def impl_BookOk (b_0 : SBook) : Option Bool := E_impl_BookOk impl_ThingOk impl_in (L_impl_BookOk gas) b_0
theorem e_impl_BookOk (impl_ThingOk : SThing → Option Bool) (impl_in : Int → Int → Int → Option Bool) : EntryIs ctx PP 69 [] [(128, H_impl_ThingOk impl_ThingOk), (67, H_impl_in impl_in)] cv44 cv10 at_impl_BookOk (fun k a => E_impl_BookOk impl_ThingOk impl_in k a) := fun stop a => by kernel_rfl
theorem b_impl_BookOk (impl_ThingOk : SThing → Option Bool) (impl_in : Int → Int → Int → Option Bool) : CutIs ctx PP 69 Tryz.f69 [] [(128, H_impl_ThingOk impl_ThingOk), (67, H_impl_in impl_in)] cv10 at_impl_BookOk (B_impl_BookOk impl_ThingOk impl_in) := fun stop s => by cases s <;> kernel_rfl
theorem i_impl_BookOk : ∀ s s', at_impl_BookOk s = at_impl_BookOk s' → s = s' := by
  intro s s' h
  cases s with
  | c0 v0 v1 v2 v3 => cases s' with
    | c0 w0 w1 w2 w3 => obtain ⟨_, _, _, _, _, _⟩ := v3; obtain ⟨_, _, _, _, _, _⟩ := w3; cases h; rfl
theorem ok_impl_BookOk : Tells ctx PP 69 cv44 cv10 (fun a => impl_BookOk a) := fn_ok (hl_cons h_impl_ThingOk (hl_cons h_impl_in hl_nil)) Tryz.func69 i_impl_BookOk (fun _ => rfl) (fun _ _ => rfl) (b_impl_BookOk impl_ThingOk impl_in) (e_impl_BookOk impl_ThingOk impl_in) gas
noncomputable def H_impl_BookOk {γ : Type} (F : SBook → Option Bool) : Hd ctx γ := hdl cv44.dec (fun a => F a) cv10.enc
theorem h_impl_BookOk {γ : Type} : HdOk (γ := γ) PP 69 (H_impl_BookOk impl_BookOk) := hd_ok ok_impl_BookOk
noncomputable def todo_impl_thingAt_0 : List Go.Item := [.code (cAt (bodyOf Tryz.f170) [1, 0, 1, 0, 0, 0]), .code (cAt (bodyOf Tryz.f170) [1, 0, 1, 0, 0, 1]), .inLoop (cAt (bodyOf Tryz.f170) [1, 0, 1, 0, 0]), .inBlock 0, .code (cAt (bodyOf Tryz.f170) [1, 1])]
inductive St_impl_thingAt where
  | c0 (id_1 : Int) (v_8 : (List SThing)) (v_9 : Int) (v_10 : Int)
noncomputable def at_impl_thingAt : St_impl_thingAt → LI
  | .c0 id_1 v_8 v_9 v_10 => (todo_impl_thingAt_0, [(1, [.one (.int .i64 id_1)]), (8, [.one (.rsl 138 v_8)]), (9, [.one (.int .i64 v_9)]), (10, [.one (.int .i64 v_10)])], [])
noncomputable def E_impl_thingAt  (k : St_impl_thingAt → Option Int) (b_0 : SBook) (id_1 : Int) : Option Int :=
  k (.c0 id_1 b_0.fThings (b_0.fThings.length : Int) (0 : Int))
noncomputable def B_impl_thingAt  (k : St_impl_thingAt → Option Int) : St_impl_thingAt → Option Int
  | .c0 id_1 v_8 v_9 v_10 =>
    bif (decide (v_10 < v_9)) then
      bif ((decide (0 ≤ v_10)) && (decide (v_10 < (v_8.length : Int)))) then
      bif ((v_8.getD v_10.toNat (⟨(0 : Int), (0 : Int), false, false, false, false, (⟨#[]⟩ : ByteArray), (0 : Int)⟩ : SThing)).fId == id_1) then
        some v_10
      else
        k (.c0 id_1 v_8 v_9 (w64 (v_10 + 1)))
      else none
    else
      some (-(1 : Int))
noncomputable def L_impl_thingAt : Nat → St_impl_thingAt → Option Int
  | 0, _ => none
  | m + 1, s => B_impl_thingAt  (L_impl_thingAt m) s
noncomputable def impl_thingAt (b_0 : SBook) (id_1 : Int) : Option Int := E_impl_thingAt  (L_impl_thingAt gas) b_0 id_1
theorem e_impl_thingAt  : EntryIs ctx PP 170 [] [] cv45 cv1 at_impl_thingAt (fun k a => E_impl_thingAt  k a.1 a.2) := fun stop a => by kernel_rfl
theorem b_impl_thingAt  : CutIs ctx PP 170 Tryz.f170 [] [] cv1 at_impl_thingAt (B_impl_thingAt ) := fun stop s => by cases s <;> kernel_rfl
theorem i_impl_thingAt : ∀ s s', at_impl_thingAt s = at_impl_thingAt s' → s = s' := by
  intro s s' h
  cases s with
  | c0 v0 v1 v2 v3 => cases s' with
    | c0 w0 w1 w2 w3 => cases h; rfl
theorem ok_impl_thingAt : Tells ctx PP 170 cv45 cv1 (fun a => impl_thingAt a.1 a.2) := fn_ok hl_nil Tryz.func170 i_impl_thingAt (fun _ => rfl) (fun _ _ => rfl) (b_impl_thingAt ) (e_impl_thingAt ) gas
noncomputable def H_impl_thingAt {γ : Type} (F : SBook → Int → Option Int) : Hd ctx γ := hdl cv45.dec (fun a => F a.1 a.2) cv1.enc
theorem h_impl_thingAt {γ : Type} : HdOk (γ := γ) PP 170 (H_impl_thingAt impl_thingAt) := hd_ok ok_impl_thingAt
noncomputable def E_impl_follows  (x_0 : SThing) (y_1 : SThing) : Option Bool :=
  bif (y_1.fKind == x_0.fKind) then
    bif ((ByteArray.toList y_1.fValue) == (ByteArray.toList x_0.fValue)) then
      bif (y_1.fSigns == x_0.fSigns) then
        bif (y_1.fWraps == x_0.fWraps) then
          bif (decide (y_1.fNext ≥ x_0.fNext)) then
            bif y_1.fHidden then
              bif y_1.fFixed then
                some true
              else
                some (!x_0.fFixed)
            else
              bif (!x_0.fHidden) then
                bif y_1.fFixed then
                  some true
                else
                  some (!x_0.fFixed)
              else
                some false
          else
            some false
        else
          some false
      else
        some false
    else
      some false
  else
    some false
noncomputable def impl_follows (x_0 : SThing) (y_1 : SThing) : Option Bool := E_impl_follows  x_0 y_1
theorem e_impl_follows  : EntryIs0 ctx PP 199 [] [] cv46 cv10 (fun a => E_impl_follows  a.1 a.2) := fun a => by kernel_rfl
theorem ok_impl_follows : Tells ctx PP 199 cv46 cv10 (fun a => impl_follows a.1 a.2) := fn_ok0 hl_nil Tryz.func199 (e_impl_follows )
noncomputable def H_impl_follows {γ : Type} (F : SThing → SThing → Option Bool) : Hd ctx γ := hdl cv46.dec (fun a => F a.1 a.2) cv10.enc
theorem h_impl_follows {γ : Type} : HdOk (γ := γ) PP 199 (H_impl_follows impl_follows) := hd_ok ok_impl_follows
noncomputable def E_impl_Book_thing (impl_thingAt : SBook → Int → Option Int) (impl_follows : SThing → SThing → Option Bool) (b_0 : SBook) (x_1 : SThing) : Option (Bool × SBook) :=
  (impl_thingAt b_0 x_1.fId).bind fun r0 =>
  bif (decide (r0 ≥ 0)) then
    bif ((decide (0 ≤ r0)) && (decide (r0 < (b_0.fThings.length : Int)))) then
    (impl_follows (b_0.fThings.getD r0.toNat (⟨(0 : Int), (0 : Int), false, false, false, false, (⟨#[]⟩ : ByteArray), (0 : Int)⟩ : SThing)) x_1).bind fun r1 =>
    bif (!r1) then
      some (false, b_0)
    else
      bif ((decide (0 ≤ r0)) && (decide (r0 < (b_0.fThings.length : Int)))) then
      some (true, (⟨b_0.fWord, b_0.fTries, (b_0.fThings.set r0.toNat x_1), b_0.fLast, b_0.fChain, b_0.fCount⟩ : SBook))
      else none
    else none
  else
    bif (x_1.fId != (w64 (b_0.fLast + 1))) then
      some (false, b_0)
    else
      bif (decide ((b_0.fThings.length : Int) ≥ 8)) then
        some (false, b_0)
      else
        bif (decide (((b_0.fThings.length + 1) * 48) ≤ 140737488355328)) then
        some (true, (⟨b_0.fWord, b_0.fTries, (b_0.fThings ++ [x_1]), x_1.fId, b_0.fChain, b_0.fCount⟩ : SBook))
        else none
noncomputable def impl_Book_thing (b_0 : SBook) (x_1 : SThing) : Option (Bool × SBook) := E_impl_Book_thing impl_thingAt impl_follows b_0 x_1
theorem e_impl_Book_thing (impl_thingAt : SBook → Int → Option Int) (impl_follows : SThing → SThing → Option Bool) : EntryIs0 ctx PP 169 [0] [(170, H_impl_thingAt impl_thingAt), (199, H_impl_follows impl_follows)] cv61 cv62 (fun a => E_impl_Book_thing impl_thingAt impl_follows a.1 a.2) := fun a => by kernel_rfl
theorem ok_impl_Book_thing : Tells ctx PP 169 cv61 cv62 (fun a => impl_Book_thing a.1 a.2) := fn_ok0 (hl_cons h_impl_thingAt (hl_cons h_impl_follows hl_nil)) Tryz.func169 (e_impl_Book_thing impl_thingAt impl_follows)
noncomputable def H_impl_Book_thing {γ : Type} (F : SBook → SThing → Option (Bool × SBook)) : Hd ctx γ := hdl cv61.dec (fun a => F a.1 a.2) cv62.enc
theorem h_impl_Book_thing {γ : Type} : HdOk (γ := γ) PP 169 (H_impl_Book_thing impl_Book_thing) := hd_ok ok_impl_Book_thing
noncomputable def E_impl_Enter (impl_RecText : SRec → Option (ByteArray × Bool)) (impl_BookOk : SBook → Option Bool) (impl_copyBook : SBook → Option SBook) (impl_Book_thing : SBook → SThing → Option (Bool × SBook)) (impl_thingAt : SBook → Int → Option Int) (impl_DigestOf : ByteArray → Option ByteArray) (b_0 : SBook) (r_1 : SRec) : Option (SBook × Bool) :=
  (impl_RecText r_1).bind fun r0 =>
  (impl_BookOk b_0).bind fun r1 =>
  bif (!r1) then
    some ((⟨(⟨#[]⟩ : ByteArray), (0 : Int), [], (0 : Int), (⟨#[]⟩ : ByteArray), (0 : Int)⟩ : SBook), false)
  else
    bif (!r0.2) then
      some ((⟨(⟨#[]⟩ : ByteArray), (0 : Int), [], (0 : Int), (⟨#[]⟩ : ByteArray), (0 : Int)⟩ : SBook), false)
    else
      bif (decide (b_0.fCount ≥ 10000)) then
        some ((⟨(⟨#[]⟩ : ByteArray), (0 : Int), [], (0 : Int), (⟨#[]⟩ : ByteArray), (0 : Int)⟩ : SBook), false)
      else
        (impl_copyBook b_0).bind fun r2 =>
        bif (r_1.fKind == 1) then
          bif (decide ((b_0.fChain.size + r0.1.size) ≤ 9223372036854775807)) then
          (impl_DigestOf (b_0.fChain ++ r0.1)).bind fun r3 =>
          some ((⟨r_1.fText, (0 : Int), r2.fThings, r2.fLast, r3, (w64 (r2.fCount + 1))⟩ : SBook), true)
          else none
        else
          bif (r_1.fKind == 2) then
            bif (decide ((b_0.fChain.size + r0.1.size) ≤ 9223372036854775807)) then
            (impl_DigestOf (b_0.fChain ++ r0.1)).bind fun r4 =>
            some ((⟨r2.fWord, r_1.fNum, r2.fThings, r2.fLast, r4, (w64 (r2.fCount + 1))⟩ : SBook), true)
            else none
          else
            bif (r_1.fKind == 3) then
              (impl_Book_thing r2 r_1.fThing).bind fun r5 =>
              bif (!r5.1) then
                some ((⟨(⟨#[]⟩ : ByteArray), (0 : Int), [], (0 : Int), (⟨#[]⟩ : ByteArray), (0 : Int)⟩ : SBook), false)
              else
                bif (decide ((b_0.fChain.size + r0.1.size) ≤ 9223372036854775807)) then
                (impl_DigestOf (b_0.fChain ++ r0.1)).bind fun r6 =>
                some ((⟨r5.2.fWord, r5.2.fTries, r5.2.fThings, r5.2.fLast, r6, (w64 (r5.2.fCount + 1))⟩ : SBook), true)
                else none
            else
              bif (r_1.fKind == 4) then
                (impl_thingAt b_0 r_1.fNum).bind fun r7 =>
                bif (decide (r7 < 0)) then
                  some ((⟨(⟨#[]⟩ : ByteArray), (0 : Int), [], (0 : Int), (⟨#[]⟩ : ByteArray), (0 : Int)⟩ : SBook), false)
                else
                  bif ((decide (0 ≤ r7)) && (decide (r7 ≤ (b_0.fThings.length : Int)))) then
                  bif (decide ((((b_0.fThings.take r7.toNat).drop 0).length * 48) ≤ 140737488355328)) then
                  bif ((decide (0 ≤ (w64 (r7 + 1)))) && (decide ((w64 (r7 + 1)) ≤ (b_0.fThings.length : Int)))) then
                  bif (decide (((((b_0.fThings.take r7.toNat).drop 0).length + ((b_0.fThings.take b_0.fThings.length).drop (w64 (r7 + 1)).toNat).length) * 48) ≤ 140737488355328)) then
                  bif (decide ((b_0.fChain.size + r0.1.size) ≤ 9223372036854775807)) then
                  (impl_DigestOf (b_0.fChain ++ r0.1)).bind fun r8 =>
                  some ((⟨r2.fWord, r2.fTries, (((b_0.fThings.take r7.toNat).drop 0) ++ ((b_0.fThings.take b_0.fThings.length).drop (w64 (r7 + 1)).toNat)), r2.fLast, r8, (w64 (r2.fCount + 1))⟩ : SBook), true)
                  else none
                  else none
                  else none
                  else none
                  else none
              else
                bif (decide ((b_0.fChain.size + r0.1.size) ≤ 9223372036854775807)) then
                (impl_DigestOf (b_0.fChain ++ r0.1)).bind fun r9 =>
                some ((⟨r2.fWord, r2.fTries, r2.fThings, r2.fLast, r9, (w64 (r2.fCount + 1))⟩ : SBook), true)
                else none
noncomputable def impl_Enter (b_0 : SBook) (r_1 : SRec) : Option (SBook × Bool) := E_impl_Enter impl_RecText impl_BookOk impl_copyBook impl_Book_thing impl_thingAt impl_DigestOf b_0 r_1
theorem e_impl_Enter (impl_RecText : SRec → Option (ByteArray × Bool)) (impl_BookOk : SBook → Option Bool) (impl_copyBook : SBook → Option SBook) (impl_Book_thing : SBook → SThing → Option (Bool × SBook)) (impl_thingAt : SBook → Int → Option Int) (impl_DigestOf : ByteArray → Option ByteArray) : EntryIs0 ctx PP 116 [] [(167, H_impl_RecText impl_RecText), (69, H_impl_BookOk impl_BookOk), (115, H_impl_copyBook impl_copyBook), (169, H_impl_Book_thing impl_Book_thing), (170, H_impl_thingAt impl_thingAt), (117, H_impl_DigestOf impl_DigestOf)] cv49 cv50 (fun a => E_impl_Enter impl_RecText impl_BookOk impl_copyBook impl_Book_thing impl_thingAt impl_DigestOf a.1 a.2) := fun a => by kernel_rfl
theorem ok_impl_Enter : Tells ctx PP 116 cv49 cv50 (fun a => impl_Enter a.1 a.2) := fn_ok0 (hl_cons h_impl_RecText (hl_cons h_impl_BookOk (hl_cons h_impl_copyBook (hl_cons h_impl_Book_thing (hl_cons h_impl_thingAt (hl_cons h_impl_DigestOf hl_nil)))))) Tryz.func116 (e_impl_Enter impl_RecText impl_BookOk impl_copyBook impl_Book_thing impl_thingAt impl_DigestOf)
noncomputable def H_impl_Enter {γ : Type} (F : SBook → SRec → Option (SBook × Bool)) : Hd ctx γ := hdl cv49.dec (fun a => F a.1 a.2) cv50.enc
theorem h_impl_Enter {γ : Type} : HdOk (γ := γ) PP 116 (H_impl_Enter impl_Enter) := hd_ok ok_impl_Enter
noncomputable def todo_impl_EnterAll_0 : List Go.Item := [.code (cAt (bodyOf Tryz.f46) [1, 1, 0, 1, 0, 0, 0]), .code (cAt (bodyOf Tryz.f46) [1, 1, 0, 1, 0, 0, 1]), .inLoop (cAt (bodyOf Tryz.f46) [1, 1, 0, 1, 0, 0]), .inBlock 0, .code (cAt (bodyOf Tryz.f46) [1, 1, 1])]
inductive St_impl_EnterAll where
  | c0 (v_13 : (List SRec)) (v_14 : Int) (v_15 : Int) (v_4c0 : ByteArray) (v_4c1 : Int) (v_4c3 : Int) (v_4c4 : ByteArray) (v_4c5 : Int) (out_6c0 : ByteArray) (out_6c1 : Int) (out_6c3 : Int) (out_6c4 : ByteArray) (out_6c5 : Int) (v_4r2 : (List SThing)) (out_6r2 : (List SThing))
noncomputable def at_impl_EnterAll : St_impl_EnterAll → LI
  | .c0 v_13 v_14 v_15 v_4c0 v_4c1 v_4c3 v_4c4 v_4c5 out_6c0 out_6c1 out_6c3 out_6c4 out_6c5 v_4r2 out_6r2 => (todo_impl_EnterAll_0, [(4, [.one (.ptr 256 0)]), (6, [.one (.ptr 384 0)]), (13, [.one (.rsl 140 v_13)]), (14, [.one (.int .i64 v_14)]), (15, [.one (.int .i64 v_15)])], [(256, .var [.str v_4c0, .int .i64 v_4c1, .own 1016386, .int .i64 v_4c3, .str v_4c4, .int .i64 v_4c5]), (384, .var [.str out_6c0, .int .i64 out_6c1, .own 1024578, .int .i64 out_6c3, .str out_6c4, .int .i64 out_6c5]), (1016386, .sl 138 v_4r2), (1024578, .sl 138 out_6r2)])
noncomputable def E_impl_EnterAll (impl_copyBook : SBook → Option SBook) (impl_Enter : SBook → SRec → Option (SBook × Bool)) (k : St_impl_EnterAll → Option (SBook × Bool)) (b_0 : SBook) (list_1 : (List SRec)) : Option (SBook × Bool) :=
  (impl_copyBook b_0).bind fun r0 =>
  k (.c0 list_1 (list_1.length : Int) (0 : Int) (⟨#[]⟩ : ByteArray) (0 : Int) (0 : Int) (⟨#[]⟩ : ByteArray) (0 : Int) r0.fWord r0.fTries r0.fLast r0.fChain r0.fCount [] r0.fThings)
noncomputable def B_impl_EnterAll (impl_copyBook : SBook → Option SBook) (impl_Enter : SBook → SRec → Option (SBook × Bool)) (k : St_impl_EnterAll → Option (SBook × Bool)) : St_impl_EnterAll → Option (SBook × Bool)
  | .c0 v_13 v_14 v_15 v_4c0 v_4c1 v_4c3 v_4c4 v_4c5 out_6c0 out_6c1 out_6c3 out_6c4 out_6c5 v_4r2 out_6r2 =>
    bif (decide (v_15 < v_14)) then
      bif ((decide (0 ≤ v_15)) && (decide (v_15 < (v_13.length : Int)))) then
      (impl_Enter (⟨out_6c0, out_6c1, out_6r2, out_6c3, out_6c4, out_6c5⟩ : SBook) (v_13.getD v_15.toNat (⟨(0 : Int), (⟨#[]⟩ : ByteArray), (0 : Int), (⟨(0 : Int), (0 : Int), false, false, false, false, (⟨#[]⟩ : ByteArray), (0 : Int)⟩ : SThing)⟩ : SRec))).bind fun r0 =>
      bif (!r0.2) then
        some ((⟨(⟨#[]⟩ : ByteArray), (0 : Int), [], (0 : Int), (⟨#[]⟩ : ByteArray), (0 : Int)⟩ : SBook), false)
      else
        k (.c0 v_13 v_14 (w64 (v_15 + 1)) v_4c0 v_4c1 v_4c3 v_4c4 v_4c5 r0.1.fWord r0.1.fTries r0.1.fLast r0.1.fChain r0.1.fCount v_4r2 r0.1.fThings)
      else none
    else
      some ((⟨out_6c0, out_6c1, out_6r2, out_6c3, out_6c4, out_6c5⟩ : SBook), true)
noncomputable def L_impl_EnterAll : Nat → St_impl_EnterAll → Option (SBook × Bool)
  | 0, _ => none
  | m + 1, s => B_impl_EnterAll impl_copyBook impl_Enter (L_impl_EnterAll m) s
noncomputable def impl_EnterAll (b_0 : SBook) (list_1 : (List SRec)) : Option (SBook × Bool) := E_impl_EnterAll impl_copyBook impl_Enter (L_impl_EnterAll gas) b_0 list_1
theorem e_impl_EnterAll (impl_copyBook : SBook → Option SBook) (impl_Enter : SBook → SRec → Option (SBook × Bool)) : EntryIs ctx PP 46 [] [(115, H_impl_copyBook impl_copyBook), (116, H_impl_Enter impl_Enter)] cv51 cv50 at_impl_EnterAll (fun k a => E_impl_EnterAll impl_copyBook impl_Enter k a.1 a.2) := fun stop a => by kernel_rfl
theorem b_impl_EnterAll (impl_copyBook : SBook → Option SBook) (impl_Enter : SBook → SRec → Option (SBook × Bool)) : CutIs ctx PP 46 Tryz.f46 [] [(115, H_impl_copyBook impl_copyBook), (116, H_impl_Enter impl_Enter)] cv50 at_impl_EnterAll (B_impl_EnterAll impl_copyBook impl_Enter) := fun stop s => by cases s <;> kernel_rfl
theorem i_impl_EnterAll : ∀ s s', at_impl_EnterAll s = at_impl_EnterAll s' → s = s' := by
  intro s s' h
  cases s with
  | c0 v0 v1 v2 v3 v4 v5 v6 v7 v8 v9 v10 v11 v12 v13 v14 => cases s' with
    | c0 w0 w1 w2 w3 w4 w5 w6 w7 w8 w9 w10 w11 w12 w13 w14 => cases h; rfl
theorem ok_impl_EnterAll : Tells ctx PP 46 cv51 cv50 (fun a => impl_EnterAll a.1 a.2) := fn_ok (hl_cons h_impl_copyBook (hl_cons h_impl_Enter hl_nil)) Tryz.func46 i_impl_EnterAll (fun _ => rfl) (fun _ _ => rfl) (b_impl_EnterAll impl_copyBook impl_Enter) (e_impl_EnterAll impl_copyBook impl_Enter) gas
noncomputable def H_impl_EnterAll {γ : Type} (F : SBook → (List SRec) → Option (SBook × Bool)) : Hd ctx γ := hdl cv51.dec (fun a => F a.1 a.2) cv50.enc
theorem h_impl_EnterAll {γ : Type} : HdOk (γ := γ) PP 46 (H_impl_EnterAll impl_EnterAll) := hd_ok ok_impl_EnterAll
noncomputable def todo_impl_DiskOk_0 : List Go.Item := [.code (cAt (bodyOf Tryz.f48) [1, 0, 1, 0, 0, 0]), .code (cAt (bodyOf Tryz.f48) [1, 0, 1, 0, 0, 1]), .inLoop (cAt (bodyOf Tryz.f48) [1, 0, 1, 0, 0]), .inBlock 0, .code (cAt (bodyOf Tryz.f48) [1, 1])]
inductive St_impl_DiskOk where
  | c0 (v_6 : (List SFile)) (v_7 : Int) (v_8 : Int) (d_1 : SDisk)
noncomputable def at_impl_DiskOk : St_impl_DiskOk → LI
  | .c0 v_6 v_7 v_8 d_1 => (todo_impl_DiskOk_0, [(1, [.one (.ptr 64 0)]), (6, [.one (.rsl 132 v_6)]), (7, [.one (.int .i64 v_7)]), (8, [.one (.int .i64 v_8)])], [(64, .var [.rsl 132 d_1.fFiles])])
noncomputable def E_impl_DiskOk (impl_in : Int → Int → Int → Option Bool) (k : St_impl_DiskOk → Option Bool) (d_0 : SDisk) : Option Bool :=
  k (.c0 d_0.fFiles (d_0.fFiles.length : Int) (0 : Int) d_0)
noncomputable def B_impl_DiskOk (impl_in : Int → Int → Int → Option Bool) (k : St_impl_DiskOk → Option Bool) : St_impl_DiskOk → Option Bool
  | .c0 v_6 v_7 v_8 d_1 =>
    bif (decide (v_8 < v_7)) then
      bif ((decide (0 ≤ v_8)) && (decide (v_8 < (v_6.length : Int)))) then
      (impl_in ((v_6.getD v_8.toNat (⟨(⟨#[]⟩ : ByteArray), (⟨#[]⟩ : ByteArray), (0 : Int)⟩ : SFile)).fName.size : Int) (1 : Int) (8 : Int)).bind fun r0 =>
      bif (!r0) then
        some false
      else
        bif (decide (((v_6.getD v_8.toNat (⟨(⟨#[]⟩ : ByteArray), (⟨#[]⟩ : ByteArray), (0 : Int)⟩ : SFile)).fText.size : Int) > 20000)) then
          some false
        else
          (impl_in (v_6.getD v_8.toNat (⟨(⟨#[]⟩ : ByteArray), (⟨#[]⟩ : ByteArray), (0 : Int)⟩ : SFile)).fKept (0 : Int) ((v_6.getD v_8.toNat (⟨(⟨#[]⟩ : ByteArray), (⟨#[]⟩ : ByteArray), (0 : Int)⟩ : SFile)).fText.size : Int)).bind fun r1 =>
          bif (!r1) then
            some false
          else
            bif (decide (v_8 > 0)) then
              bif ((decide (0 ≤ (w64 (v_8 - 1)))) && (decide ((w64 (v_8 - 1)) < (d_1.fFiles.length : Int)))) then
              bif (!(Op.bytesLess (ByteArray.toList (d_1.fFiles.getD (w64 (v_8 - 1)).toNat (⟨(⟨#[]⟩ : ByteArray), (⟨#[]⟩ : ByteArray), (0 : Int)⟩ : SFile)).fName) (ByteArray.toList (v_6.getD v_8.toNat (⟨(⟨#[]⟩ : ByteArray), (⟨#[]⟩ : ByteArray), (0 : Int)⟩ : SFile)).fName))) then
                some false
              else
                k (.c0 v_6 v_7 (w64 (v_8 + 1)) d_1)
              else none
            else
              k (.c0 v_6 v_7 (w64 (v_8 + 1)) d_1)
      else none
    else
      some (decide ((d_1.fFiles.length : Int) ≤ 30))
noncomputable def L_impl_DiskOk : Nat → St_impl_DiskOk → Option Bool
  | 0, _ => none
  | m + 1, s => B_impl_DiskOk impl_in (L_impl_DiskOk m) s
noncomputable def impl_DiskOk (d_0 : SDisk) : Option Bool := E_impl_DiskOk impl_in (L_impl_DiskOk gas) d_0
theorem e_impl_DiskOk (impl_in : Int → Int → Int → Option Bool) : EntryIs ctx PP 48 [] [(67, H_impl_in impl_in)] cv12 cv10 at_impl_DiskOk (fun k a => E_impl_DiskOk impl_in k a) := fun stop a => by kernel_rfl
theorem b_impl_DiskOk (impl_in : Int → Int → Int → Option Bool) : CutIs ctx PP 48 Tryz.f48 [] [(67, H_impl_in impl_in)] cv10 at_impl_DiskOk (B_impl_DiskOk impl_in) := fun stop s => by cases s <;> kernel_rfl
theorem i_impl_DiskOk : ∀ s s', at_impl_DiskOk s = at_impl_DiskOk s' → s = s' := by
  intro s s' h
  cases s with
  | c0 v0 v1 v2 v3 => cases s' with
    | c0 w0 w1 w2 w3 => obtain ⟨_⟩ := v3; obtain ⟨_⟩ := w3; cases h; rfl
theorem ok_impl_DiskOk : Tells ctx PP 48 cv12 cv10 (fun a => impl_DiskOk a) := fn_ok (hl_cons h_impl_in hl_nil) Tryz.func48 i_impl_DiskOk (fun _ => rfl) (fun _ _ => rfl) (b_impl_DiskOk impl_in) (e_impl_DiskOk impl_in) gas
noncomputable def H_impl_DiskOk {γ : Type} (F : SDisk → Option Bool) : Hd ctx γ := hdl cv12.dec (fun a => F a) cv10.enc
theorem h_impl_DiskOk {γ : Type} : HdOk (γ := γ) PP 48 (H_impl_DiskOk impl_DiskOk) := hd_ok ok_impl_DiskOk
noncomputable def E_impl_Mount (impl_FileAt : SDisk → ByteArray → Option (ByteArray × Bool)) (impl_ReadBook : ByteArray → ByteArray → Option ((List SRec) × Int)) (impl_BookNew : Option SBook) (impl_EnterAll : SBook → (List SRec) → Option (SBook × Bool)) (impl_DiskOk : SDisk → Option Bool) (impl_fileAt : SDisk → ByteArray → Option Int) (key_0 : ByteArray) (d_1 : SDisk) : Option (SBook × (List SAct) × Bool) :=
  (impl_FileAt d_1 (⟨#[98, 111, 111, 107]⟩ : ByteArray)).bind fun r0 =>
  (impl_ReadBook key_0 r0.1).bind fun r1 =>
  impl_BookNew.bind fun r2 =>
  (impl_EnterAll r2 r1.1).bind fun r3 =>
  (impl_DiskOk d_1).bind fun r4 =>
  bif (!r4) then
    some ((⟨(⟨#[]⟩ : ByteArray), (0 : Int), [], (0 : Int), (⟨#[]⟩ : ByteArray), (0 : Int)⟩ : SBook), ([], false))
  else
    bif (!r3.2) then
      some ((⟨(⟨#[]⟩ : ByteArray), (0 : Int), [], (0 : Int), (⟨#[]⟩ : ByteArray), (0 : Int)⟩ : SBook), ([], false))
    else
      (impl_fileAt d_1 (⟨#[98, 111, 111, 107, 43]⟩ : ByteArray)).bind fun r5 =>
      bif (decide (r5 ≥ 0)) then
        bif (r1.2 == (r0.1.size : Int)) then
          some (r3.1, ([(⟨(4 : Int), (⟨#[98, 111, 111, 107, 43]⟩ : ByteArray), (⟨#[]⟩ : ByteArray), (⟨#[]⟩ : ByteArray)⟩ : SAct)], true))
        else
          bif ((decide (0 ≤ r1.2)) && (decide (r1.2 ≤ (r0.1.size : Int)))) then
          some (r3.1, (([(⟨(4 : Int), (⟨#[98, 111, 111, 107, 43]⟩ : ByteArray), (⟨#[]⟩ : ByteArray), (⟨#[]⟩ : ByteArray)⟩ : SAct)] ++ [(⟨(1 : Int), (⟨#[98, 111, 111, 107, 43]⟩ : ByteArray), (r0.1.extract 0 r1.2.toNat), (⟨#[]⟩ : ByteArray)⟩ : SAct), (⟨(2 : Int), (⟨#[98, 111, 111, 107, 43]⟩ : ByteArray), (⟨#[]⟩ : ByteArray), (⟨#[]⟩ : ByteArray)⟩ : SAct), (⟨(3 : Int), (⟨#[98, 111, 111, 107, 43]⟩ : ByteArray), (⟨#[]⟩ : ByteArray), (⟨#[98, 111, 111, 107]⟩ : ByteArray)⟩ : SAct)]), true))
          else none
      else
        bif (r1.2 == (r0.1.size : Int)) then
          some (r3.1, ([], true))
        else
          bif ((decide (0 ≤ r1.2)) && (decide (r1.2 ≤ (r0.1.size : Int)))) then
          some (r3.1, ([(⟨(1 : Int), (⟨#[98, 111, 111, 107, 43]⟩ : ByteArray), (r0.1.extract 0 r1.2.toNat), (⟨#[]⟩ : ByteArray)⟩ : SAct), (⟨(2 : Int), (⟨#[98, 111, 111, 107, 43]⟩ : ByteArray), (⟨#[]⟩ : ByteArray), (⟨#[]⟩ : ByteArray)⟩ : SAct), (⟨(3 : Int), (⟨#[98, 111, 111, 107, 43]⟩ : ByteArray), (⟨#[]⟩ : ByteArray), (⟨#[98, 111, 111, 107]⟩ : ByteArray)⟩ : SAct)], true))
          else none
noncomputable def impl_Mount (key_0 : ByteArray) (d_1 : SDisk) : Option (SBook × (List SAct) × Bool) := E_impl_Mount impl_FileAt impl_ReadBook impl_BookNew impl_EnterAll impl_DiskOk impl_fileAt key_0 d_1
theorem e_impl_Mount (impl_FileAt : SDisk → ByteArray → Option (ByteArray × Bool)) (impl_ReadBook : ByteArray → ByteArray → Option ((List SRec) × Int)) (impl_BookNew : Option SBook) (impl_EnterAll : SBook → (List SRec) → Option (SBook × Bool)) (impl_DiskOk : SDisk → Option Bool) (impl_fileAt : SDisk → ByteArray → Option Int) : EntryIs0 ctx PP 11 [] [(44, H_impl_FileAt impl_FileAt), (45, H_impl_ReadBook impl_ReadBook), (47, H_impl_BookNew impl_BookNew), (46, H_impl_EnterAll impl_EnterAll), (48, H_impl_DiskOk impl_DiskOk), (49, H_impl_fileAt impl_fileAt)] cv52 cv53 (fun a => E_impl_Mount impl_FileAt impl_ReadBook impl_BookNew impl_EnterAll impl_DiskOk impl_fileAt a.1 a.2) := fun a => by kernel_rfl
theorem ok_impl_Mount : Tells ctx PP 11 cv52 cv53 (fun a => impl_Mount a.1 a.2) := fn_ok0 (hl_cons h_impl_FileAt (hl_cons h_impl_ReadBook (hl_cons h_impl_BookNew (hl_cons h_impl_EnterAll (hl_cons h_impl_DiskOk (hl_cons h_impl_fileAt hl_nil)))))) Tryz.func11 (e_impl_Mount impl_FileAt impl_ReadBook impl_BookNew impl_EnterAll impl_DiskOk impl_fileAt)
noncomputable def H_impl_Mount {γ : Type} (F : ByteArray → SDisk → Option (SBook × (List SAct) × Bool)) : Hd ctx γ := hdl cv52.dec (fun a => F a.1 a.2) cv53.enc
theorem h_impl_Mount {γ : Type} : HdOk (γ := γ) PP 11 (H_impl_Mount impl_Mount) := hd_ok ok_impl_Mount
noncomputable def E_laws_eqThing  (a_0 : SThing) (b_1 : SThing) : Option Bool :=
  bif (a_0.fId != b_1.fId) then
    some false
  else
    bif (a_0.fKind != b_1.fKind) then
      some false
    else
      bif (!(a_0.fHidden == b_1.fHidden)) then
        some false
      else
        bif (!(a_0.fFixed == b_1.fFixed)) then
          some false
        else
          bif (!(a_0.fSigns == b_1.fSigns)) then
            some false
          else
            bif (!(a_0.fWraps == b_1.fWraps)) then
              some false
            else
              bif (!((ByteArray.toList a_0.fValue) == (ByteArray.toList b_1.fValue))) then
                some false
              else
                bif (a_0.fNext != b_1.fNext) then
                  some false
                else
                  some true
noncomputable def laws_eqThing (a_0 : SThing) (b_1 : SThing) : Option Bool := E_laws_eqThing  a_0 b_1
theorem e_laws_eqThing  : EntryIs0 ctx PP 119 [] [] cv46 cv10 (fun a => E_laws_eqThing  a.1 a.2) := fun a => by kernel_rfl
theorem ok_laws_eqThing : Tells ctx PP 119 cv46 cv10 (fun a => laws_eqThing a.1 a.2) := fn_ok0 hl_nil Tryz.func119 (e_laws_eqThing )
noncomputable def H_laws_eqThing {γ : Type} (F : SThing → SThing → Option Bool) : Hd ctx γ := hdl cv46.dec (fun a => F a.1 a.2) cv10.enc
theorem h_laws_eqThing {γ : Type} : HdOk (γ := γ) PP 119 (H_laws_eqThing laws_eqThing) := hd_ok ok_laws_eqThing
noncomputable def todo_laws_eqThingS_0 : List Go.Item := [.code (cAt (bodyOf Tryz.f50) [1, 1, 0, 1, 0, 0, 0, 0]), .code (cAt (bodyOf Tryz.f50) [1, 1, 0, 1, 0, 0, 0, 1]), .code (cAt (bodyOf Tryz.f50) [1, 1, 0, 1, 0, 0, 1]), .inLoop (cAt (bodyOf Tryz.f50) [1, 1, 0, 1, 0, 0]), .inBlock 0, .code (cAt (bodyOf Tryz.f50) [1, 1, 1])]
inductive St_laws_eqThingS where
  | c0 (a_0 : (List SThing)) (b_1 : (List SThing)) (i_5 : Int)
noncomputable def at_laws_eqThingS : St_laws_eqThingS → LI
  | .c0 a_0 b_1 i_5 => (todo_laws_eqThingS_0, [(0, [.one (.rsl 138 a_0)]), (1, [.one (.rsl 138 b_1)]), (5, [.one (.int .i64 i_5)])], [])
noncomputable def E_laws_eqThingS (laws_eqThing : SThing → SThing → Option Bool) (k : St_laws_eqThingS → Option Bool) (a_0 : (List SThing)) (b_1 : (List SThing)) : Option Bool :=
  bif ((a_0.length : Int) != (b_1.length : Int)) then
    some false
  else
    k (.c0 a_0 b_1 (0 : Int))
noncomputable def B_laws_eqThingS (laws_eqThing : SThing → SThing → Option Bool) (k : St_laws_eqThingS → Option Bool) : St_laws_eqThingS → Option Bool
  | .c0 a_0 b_1 i_5 =>
    bif (decide (i_5 < (a_0.length : Int))) then
      bif ((decide (0 ≤ i_5)) && (decide (i_5 < (a_0.length : Int)))) then
      bif ((decide (0 ≤ i_5)) && (decide (i_5 < (b_1.length : Int)))) then
      (laws_eqThing (a_0.getD i_5.toNat (⟨(0 : Int), (0 : Int), false, false, false, false, (⟨#[]⟩ : ByteArray), (0 : Int)⟩ : SThing)) (b_1.getD i_5.toNat (⟨(0 : Int), (0 : Int), false, false, false, false, (⟨#[]⟩ : ByteArray), (0 : Int)⟩ : SThing))).bind fun r0 =>
      bif (!r0) then
        some false
      else
        k (.c0 a_0 b_1 (w64 (i_5 + 1)))
      else none
      else none
    else
      some true
noncomputable def L_laws_eqThingS : Nat → St_laws_eqThingS → Option Bool
  | 0, _ => none
  | m + 1, s => B_laws_eqThingS laws_eqThing (L_laws_eqThingS m) s
noncomputable def laws_eqThingS (a_0 : (List SThing)) (b_1 : (List SThing)) : Option Bool := E_laws_eqThingS laws_eqThing (L_laws_eqThingS gas) a_0 b_1
theorem e_laws_eqThingS (laws_eqThing : SThing → SThing → Option Bool) : EntryIs ctx PP 50 [] [(119, H_laws_eqThing laws_eqThing)] cv63 cv10 at_laws_eqThingS (fun k a => E_laws_eqThingS laws_eqThing k a.1 a.2) := fun stop a => by kernel_rfl
theorem b_laws_eqThingS (laws_eqThing : SThing → SThing → Option Bool) : CutIs ctx PP 50 Tryz.f50 [] [(119, H_laws_eqThing laws_eqThing)] cv10 at_laws_eqThingS (B_laws_eqThingS laws_eqThing) := fun stop s => by cases s <;> kernel_rfl
theorem i_laws_eqThingS : ∀ s s', at_laws_eqThingS s = at_laws_eqThingS s' → s = s' := by
  intro s s' h
  cases s with
  | c0 v0 v1 v2 => cases s' with
    | c0 w0 w1 w2 => cases h; rfl
theorem ok_laws_eqThingS : Tells ctx PP 50 cv63 cv10 (fun a => laws_eqThingS a.1 a.2) := fn_ok (hl_cons h_laws_eqThing hl_nil) Tryz.func50 i_laws_eqThingS (fun _ => rfl) (fun _ _ => rfl) (b_laws_eqThingS laws_eqThing) (e_laws_eqThingS laws_eqThing) gas
noncomputable def H_laws_eqThingS {γ : Type} (F : (List SThing) → (List SThing) → Option Bool) : Hd ctx γ := hdl cv63.dec (fun a => F a.1 a.2) cv10.enc
theorem h_laws_eqThingS {γ : Type} : HdOk (γ := γ) PP 50 (H_laws_eqThingS laws_eqThingS) := hd_ok ok_laws_eqThingS
noncomputable def E_laws_eqBook (laws_eqThingS : (List SThing) → (List SThing) → Option Bool) (a_0 : SBook) (b_1 : SBook) : Option Bool :=
  bif (!((ByteArray.toList a_0.fWord) == (ByteArray.toList b_1.fWord))) then
    some false
  else
    bif (a_0.fTries != b_1.fTries) then
      some false
    else
      (laws_eqThingS a_0.fThings b_1.fThings).bind fun r0 =>
      bif (!r0) then
        some false
      else
        bif (a_0.fLast != b_1.fLast) then
          some false
        else
          bif (!((ByteArray.toList a_0.fChain) == (ByteArray.toList b_1.fChain))) then
            some false
          else
            bif (a_0.fCount != b_1.fCount) then
              some false
            else
              some true
noncomputable def laws_eqBook (a_0 : SBook) (b_1 : SBook) : Option Bool := E_laws_eqBook laws_eqThingS a_0 b_1
theorem e_laws_eqBook (laws_eqThingS : (List SThing) → (List SThing) → Option Bool) : EntryIs0 ctx PP 12 [] [(50, H_laws_eqThingS laws_eqThingS)] cv64 cv10 (fun a => E_laws_eqBook laws_eqThingS a.1 a.2) := fun a => by kernel_rfl
theorem ok_laws_eqBook : Tells ctx PP 12 cv64 cv10 (fun a => laws_eqBook a.1 a.2) := fn_ok0 (hl_cons h_laws_eqThingS hl_nil) Tryz.func12 (e_laws_eqBook laws_eqThingS)
noncomputable def H_laws_eqBook {γ : Type} (F : SBook → SBook → Option Bool) : Hd ctx γ := hdl cv64.dec (fun a => F a.1 a.2) cv10.enc
theorem h_laws_eqBook {γ : Type} : HdOk (γ := γ) PP 12 (H_laws_eqBook laws_eqBook) := hd_ok ok_laws_eqBook
noncomputable def E_laws_eqAct  (a_0 : SAct) (b_1 : SAct) : Option Bool :=
  bif (a_0.fKind != b_1.fKind) then
    some false
  else
    bif (!((ByteArray.toList a_0.fName) == (ByteArray.toList b_1.fName))) then
      some false
    else
      bif (!((ByteArray.toList a_0.fText) == (ByteArray.toList b_1.fText))) then
        some false
      else
        bif (!((ByteArray.toList a_0.fTo) == (ByteArray.toList b_1.fTo))) then
          some false
        else
          some true
noncomputable def laws_eqAct (a_0 : SAct) (b_1 : SAct) : Option Bool := E_laws_eqAct  a_0 b_1
theorem e_laws_eqAct  : EntryIs0 ctx PP 51 [] [] cv65 cv10 (fun a => E_laws_eqAct  a.1 a.2) := fun a => by kernel_rfl
theorem ok_laws_eqAct : Tells ctx PP 51 cv65 cv10 (fun a => laws_eqAct a.1 a.2) := fn_ok0 hl_nil Tryz.func51 (e_laws_eqAct )
noncomputable def H_laws_eqAct {γ : Type} (F : SAct → SAct → Option Bool) : Hd ctx γ := hdl cv65.dec (fun a => F a.1 a.2) cv10.enc
theorem h_laws_eqAct {γ : Type} : HdOk (γ := γ) PP 51 (H_laws_eqAct laws_eqAct) := hd_ok ok_laws_eqAct
noncomputable def todo_laws_eqActS_0 : List Go.Item := [.code (cAt (bodyOf Tryz.f13) [1, 1, 0, 1, 0, 0, 0, 0]), .code (cAt (bodyOf Tryz.f13) [1, 1, 0, 1, 0, 0, 0, 1]), .code (cAt (bodyOf Tryz.f13) [1, 1, 0, 1, 0, 0, 1]), .inLoop (cAt (bodyOf Tryz.f13) [1, 1, 0, 1, 0, 0]), .inBlock 0, .code (cAt (bodyOf Tryz.f13) [1, 1, 1])]
inductive St_laws_eqActS where
  | c0 (a_0 : (List SAct)) (b_1 : (List SAct)) (i_5 : Int)
noncomputable def at_laws_eqActS : St_laws_eqActS → LI
  | .c0 a_0 b_1 i_5 => (todo_laws_eqActS_0, [(0, [.one (.rsl 88 a_0)]), (1, [.one (.rsl 88 b_1)]), (5, [.one (.int .i64 i_5)])], [])
noncomputable def E_laws_eqActS (laws_eqAct : SAct → SAct → Option Bool) (k : St_laws_eqActS → Option Bool) (a_0 : (List SAct)) (b_1 : (List SAct)) : Option Bool :=
  bif ((a_0.length : Int) != (b_1.length : Int)) then
    some false
  else
    k (.c0 a_0 b_1 (0 : Int))
noncomputable def B_laws_eqActS (laws_eqAct : SAct → SAct → Option Bool) (k : St_laws_eqActS → Option Bool) : St_laws_eqActS → Option Bool
  | .c0 a_0 b_1 i_5 =>
    bif (decide (i_5 < (a_0.length : Int))) then
      bif ((decide (0 ≤ i_5)) && (decide (i_5 < (a_0.length : Int)))) then
      bif ((decide (0 ≤ i_5)) && (decide (i_5 < (b_1.length : Int)))) then
      (laws_eqAct (a_0.getD i_5.toNat (⟨(0 : Int), (⟨#[]⟩ : ByteArray), (⟨#[]⟩ : ByteArray), (⟨#[]⟩ : ByteArray)⟩ : SAct)) (b_1.getD i_5.toNat (⟨(0 : Int), (⟨#[]⟩ : ByteArray), (⟨#[]⟩ : ByteArray), (⟨#[]⟩ : ByteArray)⟩ : SAct))).bind fun r0 =>
      bif (!r0) then
        some false
      else
        k (.c0 a_0 b_1 (w64 (i_5 + 1)))
      else none
      else none
    else
      some true
noncomputable def L_laws_eqActS : Nat → St_laws_eqActS → Option Bool
  | 0, _ => none
  | m + 1, s => B_laws_eqActS laws_eqAct (L_laws_eqActS m) s
noncomputable def laws_eqActS (a_0 : (List SAct)) (b_1 : (List SAct)) : Option Bool := E_laws_eqActS laws_eqAct (L_laws_eqActS gas) a_0 b_1
theorem e_laws_eqActS (laws_eqAct : SAct → SAct → Option Bool) : EntryIs ctx PP 13 [] [(51, H_laws_eqAct laws_eqAct)] cv66 cv10 at_laws_eqActS (fun k a => E_laws_eqActS laws_eqAct k a.1 a.2) := fun stop a => by kernel_rfl
theorem b_laws_eqActS (laws_eqAct : SAct → SAct → Option Bool) : CutIs ctx PP 13 Tryz.f13 [] [(51, H_laws_eqAct laws_eqAct)] cv10 at_laws_eqActS (B_laws_eqActS laws_eqAct) := fun stop s => by cases s <;> kernel_rfl
theorem i_laws_eqActS : ∀ s s', at_laws_eqActS s = at_laws_eqActS s' → s = s' := by
  intro s s' h
  cases s with
  | c0 v0 v1 v2 => cases s' with
    | c0 w0 w1 w2 => cases h; rfl
theorem ok_laws_eqActS : Tells ctx PP 13 cv66 cv10 (fun a => laws_eqActS a.1 a.2) := fn_ok (hl_cons h_laws_eqAct hl_nil) Tryz.func13 i_laws_eqActS (fun _ => rfl) (fun _ _ => rfl) (b_laws_eqActS laws_eqAct) (e_laws_eqActS laws_eqAct) gas
noncomputable def H_laws_eqActS {γ : Type} (F : (List SAct) → (List SAct) → Option Bool) : Hd ctx γ := hdl cv66.dec (fun a => F a.1 a.2) cv10.enc
theorem h_laws_eqActS {γ : Type} : HdOk (γ := γ) PP 13 (H_laws_eqActS laws_eqActS) := hd_ok ok_laws_eqActS
noncomputable def E_laws_eqFile  (a_0 : SFile) (b_1 : SFile) : Option Bool :=
  bif (!((ByteArray.toList a_0.fName) == (ByteArray.toList b_1.fName))) then
    some false
  else
    bif (!((ByteArray.toList a_0.fText) == (ByteArray.toList b_1.fText))) then
      some false
    else
      bif (a_0.fKept != b_1.fKept) then
        some false
      else
        some true
noncomputable def laws_eqFile (a_0 : SFile) (b_1 : SFile) : Option Bool := E_laws_eqFile  a_0 b_1
theorem e_laws_eqFile  : EntryIs0 ctx PP 120 [] [] cv67 cv10 (fun a => E_laws_eqFile  a.1 a.2) := fun a => by kernel_rfl
theorem ok_laws_eqFile : Tells ctx PP 120 cv67 cv10 (fun a => laws_eqFile a.1 a.2) := fn_ok0 hl_nil Tryz.func120 (e_laws_eqFile )
noncomputable def H_laws_eqFile {γ : Type} (F : SFile → SFile → Option Bool) : Hd ctx γ := hdl cv67.dec (fun a => F a.1 a.2) cv10.enc
theorem h_laws_eqFile {γ : Type} : HdOk (γ := γ) PP 120 (H_laws_eqFile laws_eqFile) := hd_ok ok_laws_eqFile
noncomputable def todo_laws_eqFileS_0 : List Go.Item := [.code (cAt (bodyOf Tryz.f52) [1, 1, 0, 1, 0, 0, 0, 0]), .code (cAt (bodyOf Tryz.f52) [1, 1, 0, 1, 0, 0, 0, 1]), .code (cAt (bodyOf Tryz.f52) [1, 1, 0, 1, 0, 0, 1]), .inLoop (cAt (bodyOf Tryz.f52) [1, 1, 0, 1, 0, 0]), .inBlock 0, .code (cAt (bodyOf Tryz.f52) [1, 1, 1])]
inductive St_laws_eqFileS where
  | c0 (a_0 : (List SFile)) (b_1 : (List SFile)) (i_5 : Int)
noncomputable def at_laws_eqFileS : St_laws_eqFileS → LI
  | .c0 a_0 b_1 i_5 => (todo_laws_eqFileS_0, [(0, [.one (.rsl 132 a_0)]), (1, [.one (.rsl 132 b_1)]), (5, [.one (.int .i64 i_5)])], [])
noncomputable def E_laws_eqFileS (laws_eqFile : SFile → SFile → Option Bool) (k : St_laws_eqFileS → Option Bool) (a_0 : (List SFile)) (b_1 : (List SFile)) : Option Bool :=
  bif ((a_0.length : Int) != (b_1.length : Int)) then
    some false
  else
    k (.c0 a_0 b_1 (0 : Int))
noncomputable def B_laws_eqFileS (laws_eqFile : SFile → SFile → Option Bool) (k : St_laws_eqFileS → Option Bool) : St_laws_eqFileS → Option Bool
  | .c0 a_0 b_1 i_5 =>
    bif (decide (i_5 < (a_0.length : Int))) then
      bif ((decide (0 ≤ i_5)) && (decide (i_5 < (a_0.length : Int)))) then
      bif ((decide (0 ≤ i_5)) && (decide (i_5 < (b_1.length : Int)))) then
      (laws_eqFile (a_0.getD i_5.toNat (⟨(⟨#[]⟩ : ByteArray), (⟨#[]⟩ : ByteArray), (0 : Int)⟩ : SFile)) (b_1.getD i_5.toNat (⟨(⟨#[]⟩ : ByteArray), (⟨#[]⟩ : ByteArray), (0 : Int)⟩ : SFile))).bind fun r0 =>
      bif (!r0) then
        some false
      else
        k (.c0 a_0 b_1 (w64 (i_5 + 1)))
      else none
      else none
    else
      some true
noncomputable def L_laws_eqFileS : Nat → St_laws_eqFileS → Option Bool
  | 0, _ => none
  | m + 1, s => B_laws_eqFileS laws_eqFile (L_laws_eqFileS m) s
noncomputable def laws_eqFileS (a_0 : (List SFile)) (b_1 : (List SFile)) : Option Bool := E_laws_eqFileS laws_eqFile (L_laws_eqFileS gas) a_0 b_1
theorem e_laws_eqFileS (laws_eqFile : SFile → SFile → Option Bool) : EntryIs ctx PP 52 [] [(120, H_laws_eqFile laws_eqFile)] cv68 cv10 at_laws_eqFileS (fun k a => E_laws_eqFileS laws_eqFile k a.1 a.2) := fun stop a => by kernel_rfl
theorem b_laws_eqFileS (laws_eqFile : SFile → SFile → Option Bool) : CutIs ctx PP 52 Tryz.f52 [] [(120, H_laws_eqFile laws_eqFile)] cv10 at_laws_eqFileS (B_laws_eqFileS laws_eqFile) := fun stop s => by cases s <;> kernel_rfl
theorem i_laws_eqFileS : ∀ s s', at_laws_eqFileS s = at_laws_eqFileS s' → s = s' := by
  intro s s' h
  cases s with
  | c0 v0 v1 v2 => cases s' with
    | c0 w0 w1 w2 => cases h; rfl
theorem ok_laws_eqFileS : Tells ctx PP 52 cv68 cv10 (fun a => laws_eqFileS a.1 a.2) := fn_ok (hl_cons h_laws_eqFile hl_nil) Tryz.func52 i_laws_eqFileS (fun _ => rfl) (fun _ _ => rfl) (b_laws_eqFileS laws_eqFile) (e_laws_eqFileS laws_eqFile) gas
noncomputable def H_laws_eqFileS {γ : Type} (F : (List SFile) → (List SFile) → Option Bool) : Hd ctx γ := hdl cv68.dec (fun a => F a.1 a.2) cv10.enc
theorem h_laws_eqFileS {γ : Type} : HdOk (γ := γ) PP 52 (H_laws_eqFileS laws_eqFileS) := hd_ok ok_laws_eqFileS
noncomputable def E_laws_eqDisk (laws_eqFileS : (List SFile) → (List SFile) → Option Bool) (a_0 : SDisk) (b_1 : SDisk) : Option Bool :=
  (laws_eqFileS a_0.fFiles b_1.fFiles).bind fun r0 =>
  bif (!r0) then
    some false
  else
    some true
noncomputable def laws_eqDisk (a_0 : SDisk) (b_1 : SDisk) : Option Bool := E_laws_eqDisk laws_eqFileS a_0 b_1
theorem e_laws_eqDisk (laws_eqFileS : (List SFile) → (List SFile) → Option Bool) : EntryIs0 ctx PP 14 [] [(52, H_laws_eqFileS laws_eqFileS)] cv69 cv10 (fun a => E_laws_eqDisk laws_eqFileS a.1 a.2) := fun a => by kernel_rfl
theorem ok_laws_eqDisk : Tells ctx PP 14 cv69 cv10 (fun a => laws_eqDisk a.1 a.2) := fn_ok0 (hl_cons h_laws_eqFileS hl_nil) Tryz.func14 (e_laws_eqDisk laws_eqFileS)
noncomputable def H_laws_eqDisk {γ : Type} (F : SDisk → SDisk → Option Bool) : Hd ctx γ := hdl cv69.dec (fun a => F a.1 a.2) cv10.enc
theorem h_laws_eqDisk {γ : Type} : HdOk (γ := γ) PP 14 (H_laws_eqDisk laws_eqDisk) := hd_ok ok_laws_eqDisk
noncomputable def todo_laws_markText_0 : List Go.Item := [.code (cAt (bodyOf Tryz.f55) [1, 1, 1, 0, 0, 0, 0, 0]), .code (cAt (bodyOf Tryz.f55) [1, 1, 1, 0, 0, 0, 0, 1]), .code (cAt (bodyOf Tryz.f55) [1, 1, 1, 0, 0, 0, 1]), .inLoop (cAt (bodyOf Tryz.f55) [1, 1, 1, 0, 0, 0]), .inBlock 0, .code (cAt (bodyOf Tryz.f55) [1, 1, 1, 1])]
inductive St_laws_markText where
  | c0 (k_0 : Int) (out_3 : ByteArray)
noncomputable def at_laws_markText : St_laws_markText → LI
  | .c0 k_0 out_3 => (todo_laws_markText_0, [(0, [.one (.int .i64 k_0)]), (3, [.one (.str out_3)])], [])
noncomputable def E_laws_markText  (k : St_laws_markText → Option ByteArray) (k_0 : Int) : Option ByteArray :=
  bif (decide (k_0 ≤ 0)) then
    some (⟨#[109, 48]⟩ : ByteArray)
  else
    k (.c0 k_0 (⟨#[]⟩ : ByteArray))
noncomputable def B_laws_markText  (k : St_laws_markText → Option ByteArray) : St_laws_markText → Option ByteArray
  | .c0 k_0 out_3 =>
    bif (decide (k_0 > 0)) then
      bif (decide (((ofBytes [(w8 (w64 (48 + (k_0.tmod 10))))]).size + out_3.size) ≤ 9223372036854775807)) then
      k (.c0 (w64 (k_0.tdiv 10)) ((ofBytes [(w8 (w64 (48 + (k_0.tmod 10))))]) ++ out_3))
      else none
    else
      bif (decide (((⟨#[109]⟩ : ByteArray).size + out_3.size) ≤ 9223372036854775807)) then
      some ((⟨#[109]⟩ : ByteArray) ++ out_3)
      else none
noncomputable def L_laws_markText : Nat → St_laws_markText → Option ByteArray
  | 0, _ => none
  | m + 1, s => B_laws_markText  (L_laws_markText m) s
noncomputable def laws_markText (k_0 : Int) : Option ByteArray := E_laws_markText  (L_laws_markText gas) k_0
theorem e_laws_markText  : EntryIs ctx PP 55 [] [] cv1 cv11 at_laws_markText (fun k a => E_laws_markText  k a) := fun stop a => by kernel_rfl
theorem b_laws_markText  : CutIs ctx PP 55 Tryz.f55 [] [] cv11 at_laws_markText (B_laws_markText ) := fun stop s => by cases s <;> kernel_rfl
theorem i_laws_markText : ∀ s s', at_laws_markText s = at_laws_markText s' → s = s' := by
  intro s s' h
  cases s with
  | c0 v0 v1 => cases s' with
    | c0 w0 w1 => cases h; rfl
theorem ok_laws_markText : Tells ctx PP 55 cv1 cv11 (fun a => laws_markText a) := fn_ok hl_nil Tryz.func55 i_laws_markText (fun _ => rfl) (fun _ _ => rfl) (b_laws_markText ) (e_laws_markText ) gas
noncomputable def H_laws_markText {γ : Type} (F : Int → Option ByteArray) : Hd ctx γ := hdl cv1.dec (fun a => F a) cv11.enc
theorem h_laws_markText {γ : Type} : HdOk (γ := γ) PP 55 (H_laws_markText laws_markText) := hd_ok ok_laws_markText
noncomputable def todo_laws_markFileS_0 : List Go.Item := [.code (cAt (bodyOf Tryz.f53) [1, 0, 1, 0, 0, 0, 0]), .code (cAt (bodyOf Tryz.f53) [1, 0, 1, 0, 0, 0, 1]), .code (cAt (bodyOf Tryz.f53) [1, 0, 1, 0, 0, 1]), .inLoop (cAt (bodyOf Tryz.f53) [1, 0, 1, 0, 0]), .inBlock 0, .code (cAt (bodyOf Tryz.f53) [1, 1])]
inductive St_laws_markFileS where
  | c0 (k_1 : Int) (i_5 : Int) (a_0r1 : (List SFile))
noncomputable def at_laws_markFileS : St_laws_markFileS → LI
  | .c0 k_1 i_5 a_0r1 => (todo_laws_markFileS_0, [(0, [.one (.own 1)]), (1, [.one (.int .i64 k_1)]), (5, [.one (.int .i64 i_5)])], [(1, .io 132 a_0r1)])
noncomputable def E_laws_markFileS (laws_markText : Int → Option ByteArray) (k : St_laws_markFileS → Option (Int × (List SFile))) (a_0 : (List SFile)) (k_1 : Int) : Option (Int × (List SFile)) :=
  k (.c0 k_1 (0 : Int) a_0)
noncomputable def B_laws_markFileS (laws_markText : Int → Option ByteArray) (k : St_laws_markFileS → Option (Int × (List SFile))) : St_laws_markFileS → Option (Int × (List SFile))
  | .c0 k_1 i_5 a_0r1 =>
    bif (decide (i_5 < (a_0r1.length : Int))) then
      (laws_markText k_1).bind fun r0 =>
      bif ((decide (0 ≤ i_5)) && (decide (i_5 < (a_0r1.length : Int)))) then
      (laws_markText (w64 (k_1 + 1))).bind fun r1 =>
      bif ((decide (0 ≤ i_5)) && (decide (i_5 < ((a_0r1.set i_5.toNat (⟨r0, (a_0r1.getD i_5.toNat (⟨(⟨#[]⟩ : ByteArray), (⟨#[]⟩ : ByteArray), (0 : Int)⟩ : SFile)).fText, (a_0r1.getD i_5.toNat (⟨(⟨#[]⟩ : ByteArray), (⟨#[]⟩ : ByteArray), (0 : Int)⟩ : SFile)).fKept⟩ : SFile)).length : Int)))) then
      bif ((decide (0 ≤ i_5)) && (decide (i_5 < (((a_0r1.set i_5.toNat (⟨r0, (a_0r1.getD i_5.toNat (⟨(⟨#[]⟩ : ByteArray), (⟨#[]⟩ : ByteArray), (0 : Int)⟩ : SFile)).fText, (a_0r1.getD i_5.toNat (⟨(⟨#[]⟩ : ByteArray), (⟨#[]⟩ : ByteArray), (0 : Int)⟩ : SFile)).fKept⟩ : SFile)).set i_5.toNat (⟨((a_0r1.set i_5.toNat (⟨r0, (a_0r1.getD i_5.toNat (⟨(⟨#[]⟩ : ByteArray), (⟨#[]⟩ : ByteArray), (0 : Int)⟩ : SFile)).fText, (a_0r1.getD i_5.toNat (⟨(⟨#[]⟩ : ByteArray), (⟨#[]⟩ : ByteArray), (0 : Int)⟩ : SFile)).fKept⟩ : SFile)).getD i_5.toNat (⟨(⟨#[]⟩ : ByteArray), (⟨#[]⟩ : ByteArray), (0 : Int)⟩ : SFile)).fName, r1, ((a_0r1.set i_5.toNat (⟨r0, (a_0r1.getD i_5.toNat (⟨(⟨#[]⟩ : ByteArray), (⟨#[]⟩ : ByteArray), (0 : Int)⟩ : SFile)).fText, (a_0r1.getD i_5.toNat (⟨(⟨#[]⟩ : ByteArray), (⟨#[]⟩ : ByteArray), (0 : Int)⟩ : SFile)).fKept⟩ : SFile)).getD i_5.toNat (⟨(⟨#[]⟩ : ByteArray), (⟨#[]⟩ : ByteArray), (0 : Int)⟩ : SFile)).fKept⟩ : SFile)).length : Int)))) then
      k (.c0 (w64 ((w64 ((w64 (k_1 + 1)) + 1)) + 1)) (w64 (i_5 + 1)) (((a_0r1.set i_5.toNat (⟨r0, (a_0r1.getD i_5.toNat (⟨(⟨#[]⟩ : ByteArray), (⟨#[]⟩ : ByteArray), (0 : Int)⟩ : SFile)).fText, (a_0r1.getD i_5.toNat (⟨(⟨#[]⟩ : ByteArray), (⟨#[]⟩ : ByteArray), (0 : Int)⟩ : SFile)).fKept⟩ : SFile)).set i_5.toNat (⟨((a_0r1.set i_5.toNat (⟨r0, (a_0r1.getD i_5.toNat (⟨(⟨#[]⟩ : ByteArray), (⟨#[]⟩ : ByteArray), (0 : Int)⟩ : SFile)).fText, (a_0r1.getD i_5.toNat (⟨(⟨#[]⟩ : ByteArray), (⟨#[]⟩ : ByteArray), (0 : Int)⟩ : SFile)).fKept⟩ : SFile)).getD i_5.toNat (⟨(⟨#[]⟩ : ByteArray), (⟨#[]⟩ : ByteArray), (0 : Int)⟩ : SFile)).fName, r1, ((a_0r1.set i_5.toNat (⟨r0, (a_0r1.getD i_5.toNat (⟨(⟨#[]⟩ : ByteArray), (⟨#[]⟩ : ByteArray), (0 : Int)⟩ : SFile)).fText, (a_0r1.getD i_5.toNat (⟨(⟨#[]⟩ : ByteArray), (⟨#[]⟩ : ByteArray), (0 : Int)⟩ : SFile)).fKept⟩ : SFile)).getD i_5.toNat (⟨(⟨#[]⟩ : ByteArray), (⟨#[]⟩ : ByteArray), (0 : Int)⟩ : SFile)).fKept⟩ : SFile)).set i_5.toNat (⟨(((a_0r1.set i_5.toNat (⟨r0, (a_0r1.getD i_5.toNat (⟨(⟨#[]⟩ : ByteArray), (⟨#[]⟩ : ByteArray), (0 : Int)⟩ : SFile)).fText, (a_0r1.getD i_5.toNat (⟨(⟨#[]⟩ : ByteArray), (⟨#[]⟩ : ByteArray), (0 : Int)⟩ : SFile)).fKept⟩ : SFile)).set i_5.toNat (⟨((a_0r1.set i_5.toNat (⟨r0, (a_0r1.getD i_5.toNat (⟨(⟨#[]⟩ : ByteArray), (⟨#[]⟩ : ByteArray), (0 : Int)⟩ : SFile)).fText, (a_0r1.getD i_5.toNat (⟨(⟨#[]⟩ : ByteArray), (⟨#[]⟩ : ByteArray), (0 : Int)⟩ : SFile)).fKept⟩ : SFile)).getD i_5.toNat (⟨(⟨#[]⟩ : ByteArray), (⟨#[]⟩ : ByteArray), (0 : Int)⟩ : SFile)).fName, r1, ((a_0r1.set i_5.toNat (⟨r0, (a_0r1.getD i_5.toNat (⟨(⟨#[]⟩ : ByteArray), (⟨#[]⟩ : ByteArray), (0 : Int)⟩ : SFile)).fText, (a_0r1.getD i_5.toNat (⟨(⟨#[]⟩ : ByteArray), (⟨#[]⟩ : ByteArray), (0 : Int)⟩ : SFile)).fKept⟩ : SFile)).getD i_5.toNat (⟨(⟨#[]⟩ : ByteArray), (⟨#[]⟩ : ByteArray), (0 : Int)⟩ : SFile)).fKept⟩ : SFile)).getD i_5.toNat (⟨(⟨#[]⟩ : ByteArray), (⟨#[]⟩ : ByteArray), (0 : Int)⟩ : SFile)).fName, (((a_0r1.set i_5.toNat (⟨r0, (a_0r1.getD i_5.toNat (⟨(⟨#[]⟩ : ByteArray), (⟨#[]⟩ : ByteArray), (0 : Int)⟩ : SFile)).fText, (a_0r1.getD i_5.toNat (⟨(⟨#[]⟩ : ByteArray), (⟨#[]⟩ : ByteArray), (0 : Int)⟩ : SFile)).fKept⟩ : SFile)).set i_5.toNat (⟨((a_0r1.set i_5.toNat (⟨r0, (a_0r1.getD i_5.toNat (⟨(⟨#[]⟩ : ByteArray), (⟨#[]⟩ : ByteArray), (0 : Int)⟩ : SFile)).fText, (a_0r1.getD i_5.toNat (⟨(⟨#[]⟩ : ByteArray), (⟨#[]⟩ : ByteArray), (0 : Int)⟩ : SFile)).fKept⟩ : SFile)).getD i_5.toNat (⟨(⟨#[]⟩ : ByteArray), (⟨#[]⟩ : ByteArray), (0 : Int)⟩ : SFile)).fName, r1, ((a_0r1.set i_5.toNat (⟨r0, (a_0r1.getD i_5.toNat (⟨(⟨#[]⟩ : ByteArray), (⟨#[]⟩ : ByteArray), (0 : Int)⟩ : SFile)).fText, (a_0r1.getD i_5.toNat (⟨(⟨#[]⟩ : ByteArray), (⟨#[]⟩ : ByteArray), (0 : Int)⟩ : SFile)).fKept⟩ : SFile)).getD i_5.toNat (⟨(⟨#[]⟩ : ByteArray), (⟨#[]⟩ : ByteArray), (0 : Int)⟩ : SFile)).fKept⟩ : SFile)).getD i_5.toNat (⟨(⟨#[]⟩ : ByteArray), (⟨#[]⟩ : ByteArray), (0 : Int)⟩ : SFile)).fText, (w64 ((w64 (k_1 + 1)) + 1))⟩ : SFile)))
      else none
      else none
      else none
    else
      some (k_1, a_0r1)
noncomputable def L_laws_markFileS : Nat → St_laws_markFileS → Option (Int × (List SFile))
  | 0, _ => none
  | m + 1, s => B_laws_markFileS laws_markText (L_laws_markFileS m) s
noncomputable def laws_markFileS (a_0 : (List SFile)) (k_1 : Int) : Option (Int × (List SFile)) := E_laws_markFileS laws_markText (L_laws_markFileS gas) a_0 k_1
theorem e_laws_markFileS (laws_markText : Int → Option ByteArray) : EntryIs ctx PP 53 [1] [(55, H_laws_markText laws_markText)] cv70 cv71 at_laws_markFileS (fun k a => E_laws_markFileS laws_markText k a.1 a.2) := fun stop a => by kernel_rfl
theorem b_laws_markFileS (laws_markText : Int → Option ByteArray) : CutIs ctx PP 53 Tryz.f53 [1] [(55, H_laws_markText laws_markText)] cv71 at_laws_markFileS (B_laws_markFileS laws_markText) := fun stop s => by cases s <;> kernel_rfl
theorem i_laws_markFileS : ∀ s s', at_laws_markFileS s = at_laws_markFileS s' → s = s' := by
  intro s s' h
  cases s with
  | c0 v0 v1 v2 => cases s' with
    | c0 w0 w1 w2 => cases h; rfl
theorem ok_laws_markFileS : Tells ctx PP 53 cv70 cv71 (fun a => laws_markFileS a.1 a.2) := fn_ok (hl_cons h_laws_markText hl_nil) Tryz.func53 i_laws_markFileS (fun _ => rfl) (fun _ _ => rfl) (b_laws_markFileS laws_markText) (e_laws_markFileS laws_markText) gas
noncomputable def H_laws_markFileS {γ : Type} (F : (List SFile) → Int → Option (Int × (List SFile))) : Hd ctx γ := hdl cv70.dec (fun a => F a.1 a.2) cv71.enc
theorem h_laws_markFileS {γ : Type} : HdOk (γ := γ) PP 53 (H_laws_markFileS laws_markFileS) := hd_ok ok_laws_markFileS
noncomputable def E_laws_markDisk (laws_markFileS : (List SFile) → Int → Option (Int × (List SFile))) (a_0 : SDisk) (k_1 : Int) : Option (Int × (List SFile)) :=
  (laws_markFileS a_0.fFiles k_1).bind fun r0 =>
  some (r0.1, r0.2)
noncomputable def laws_markDisk (a_0 : SDisk) (k_1 : Int) : Option (Int × (List SFile)) := E_laws_markDisk laws_markFileS a_0 k_1
theorem e_laws_markDisk (laws_markFileS : (List SFile) → Int → Option (Int × (List SFile))) : EntryIs0 ctx PP 15 [1] [(53, H_laws_markFileS laws_markFileS)] cv72 cv71 (fun a => E_laws_markDisk laws_markFileS a.1 a.2) := fun a => by kernel_rfl
theorem ok_laws_markDisk : Tells ctx PP 15 cv72 cv71 (fun a => laws_markDisk a.1 a.2) := fn_ok0 (hl_cons h_laws_markFileS hl_nil) Tryz.func15 (e_laws_markDisk laws_markFileS)
noncomputable def H_laws_markDisk {γ : Type} (F : SDisk → Int → Option (Int × (List SFile))) : Hd ctx γ := hdl cv72.dec (fun a => F a.1 a.2) cv71.enc
theorem h_laws_markDisk {γ : Type} : HdOk (γ := γ) PP 15 (H_laws_markDisk laws_markDisk) := hd_ok ok_laws_markDisk
noncomputable def todo_laws_markThingS_0 : List Go.Item := [.code (cAt (bodyOf Tryz.f54) [1, 0, 1, 0, 0, 0, 0]), .code (cAt (bodyOf Tryz.f54) [1, 0, 1, 0, 0, 0, 1]), .code (cAt (bodyOf Tryz.f54) [1, 0, 1, 0, 0, 1]), .inLoop (cAt (bodyOf Tryz.f54) [1, 0, 1, 0, 0]), .inBlock 0, .code (cAt (bodyOf Tryz.f54) [1, 1])]
noncomputable def todo_laws_markThingS_1 : List Go.Item := [.code (cAt (bodyOf Tryz.f54) [1, 0, 1, 0, 0, 1, 0, 0, 1, 1, 0]), .code (cAt (bodyOf Tryz.f54) [1, 0, 1, 0, 0, 1, 0, 0, 1, 1, 1]), .inBlock 1, .code (cAt (bodyOf Tryz.f54) [1, 0, 1, 0, 0, 1, 1]), .inLoop (cAt (bodyOf Tryz.f54) [1, 0, 1, 0, 0]), .inBlock 0, .code (cAt (bodyOf Tryz.f54) [1, 1])]
noncomputable def todo_laws_markThingS_2 : List Go.Item := [.code (cAt (bodyOf Tryz.f54) [1, 0, 1, 0, 0, 1, 0, 0, 1, 1, 1, 1, 0]), .code (cAt (bodyOf Tryz.f54) [1, 0, 1, 0, 0, 1, 0, 0, 1, 1, 1, 1, 1]), .inBlock 1, .code (cAt (bodyOf Tryz.f54) [1, 0, 1, 0, 0, 1, 1]), .inLoop (cAt (bodyOf Tryz.f54) [1, 0, 1, 0, 0]), .inBlock 0, .code (cAt (bodyOf Tryz.f54) [1, 1])]
noncomputable def todo_laws_markThingS_3 : List Go.Item := [.code (cAt (bodyOf Tryz.f54) [1, 0, 1, 0, 0, 1, 0, 0, 1, 1, 1, 1, 1, 1, 0]), .code (cAt (bodyOf Tryz.f54) [1, 0, 1, 0, 0, 1, 0, 0, 1, 1, 1, 1, 1, 1, 1]), .inBlock 1, .code (cAt (bodyOf Tryz.f54) [1, 0, 1, 0, 0, 1, 1]), .inLoop (cAt (bodyOf Tryz.f54) [1, 0, 1, 0, 0]), .inBlock 0, .code (cAt (bodyOf Tryz.f54) [1, 1])]
noncomputable def todo_laws_markThingS_4 : List Go.Item := [.code (cAt (bodyOf Tryz.f54) [1, 0, 1, 0, 0, 1, 0, 0, 1, 1, 1, 1, 1, 1, 1, 1, 0]), .code (cAt (bodyOf Tryz.f54) [1, 0, 1, 0, 0, 1, 0, 0, 1, 1, 1, 1, 1, 1, 1, 1, 1]), .inBlock 1, .code (cAt (bodyOf Tryz.f54) [1, 0, 1, 0, 0, 1, 1]), .inLoop (cAt (bodyOf Tryz.f54) [1, 0, 1, 0, 0]), .inBlock 0, .code (cAt (bodyOf Tryz.f54) [1, 1])]
noncomputable def todo_laws_markThingS_5 : List Go.Item := [.code (cAt (bodyOf Tryz.f54) [1, 0, 1, 0, 0, 1, 0, 0, 1, 1, 1, 1, 1, 1, 1, 1, 1, 1, 0]), .code (cAt (bodyOf Tryz.f54) [1, 0, 1, 0, 0, 1, 0, 0, 1, 1, 1, 1, 1, 1, 1, 1, 1, 1, 1]), .inBlock 1, .code (cAt (bodyOf Tryz.f54) [1, 0, 1, 0, 0, 1, 1]), .inLoop (cAt (bodyOf Tryz.f54) [1, 0, 1, 0, 0]), .inBlock 0, .code (cAt (bodyOf Tryz.f54) [1, 1])]
noncomputable def todo_laws_markThingS_6 : List Go.Item := [.code (cAt (bodyOf Tryz.f54) [1, 0, 1, 0, 0, 1, 0, 0, 1, 1, 1, 1, 1, 1, 1, 1, 1, 1, 1, 1, 0]), .code (cAt (bodyOf Tryz.f54) [1, 0, 1, 0, 0, 1, 0, 0, 1, 1, 1, 1, 1, 1, 1, 1, 1, 1, 1, 1, 1]), .inBlock 1, .code (cAt (bodyOf Tryz.f54) [1, 0, 1, 0, 0, 1, 1]), .inLoop (cAt (bodyOf Tryz.f54) [1, 0, 1, 0, 0]), .inBlock 0, .code (cAt (bodyOf Tryz.f54) [1, 1])]
noncomputable def todo_laws_markThingS_7 : List Go.Item := [.code (cAt (bodyOf Tryz.f54) [1, 0, 1, 0, 0, 1, 0, 0, 1, 1, 1, 1, 1, 1, 1, 1, 1, 1, 1, 1, 1, 1, 0]), .code (cAt (bodyOf Tryz.f54) [1, 0, 1, 0, 0, 1, 0, 0, 1, 1, 1, 1, 1, 1, 1, 1, 1, 1, 1, 1, 1, 1, 1]), .inBlock 1, .code (cAt (bodyOf Tryz.f54) [1, 0, 1, 0, 0, 1, 1]), .inLoop (cAt (bodyOf Tryz.f54) [1, 0, 1, 0, 0]), .inBlock 0, .code (cAt (bodyOf Tryz.f54) [1, 1])]
inductive St_laws_markThingS where
  | c0 (k_1 : Int) (i_5 : Int) (a_0r1 : (List SThing))
  | c1 (k_1 : Int) (i_5 : Int) (a_0r1 : (List SThing))
  | c2 (k_1 : Int) (i_5 : Int) (a_0r1 : (List SThing))
  | c3 (k_1 : Int) (i_5 : Int) (a_0r1 : (List SThing))
  | c4 (k_1 : Int) (i_5 : Int) (a_0r1 : (List SThing))
  | c5 (k_1 : Int) (i_5 : Int) (a_0r1 : (List SThing))
  | c6 (k_1 : Int) (i_5 : Int) (a_0r1 : (List SThing))
  | c7 (k_1 : Int) (i_5 : Int) (a_0r1 : (List SThing))
noncomputable def at_laws_markThingS : St_laws_markThingS → LI
  | .c0 k_1 i_5 a_0r1 => (todo_laws_markThingS_0, [(0, [.one (.own 1)]), (1, [.one (.int .i64 k_1)]), (5, [.one (.int .i64 i_5)])], [(1, .io 138 a_0r1)])
  | .c1 k_1 i_5 a_0r1 => (todo_laws_markThingS_1, [(0, [.one (.own 1)]), (1, [.one (.int .i64 k_1)]), (5, [.one (.int .i64 i_5)])], [(1, .io 138 a_0r1)])
  | .c2 k_1 i_5 a_0r1 => (todo_laws_markThingS_2, [(0, [.one (.own 1)]), (1, [.one (.int .i64 k_1)]), (5, [.one (.int .i64 i_5)])], [(1, .io 138 a_0r1)])
  | .c3 k_1 i_5 a_0r1 => (todo_laws_markThingS_3, [(0, [.one (.own 1)]), (1, [.one (.int .i64 k_1)]), (5, [.one (.int .i64 i_5)])], [(1, .io 138 a_0r1)])
  | .c4 k_1 i_5 a_0r1 => (todo_laws_markThingS_4, [(0, [.one (.own 1)]), (1, [.one (.int .i64 k_1)]), (5, [.one (.int .i64 i_5)])], [(1, .io 138 a_0r1)])
  | .c5 k_1 i_5 a_0r1 => (todo_laws_markThingS_5, [(0, [.one (.own 1)]), (1, [.one (.int .i64 k_1)]), (5, [.one (.int .i64 i_5)])], [(1, .io 138 a_0r1)])
  | .c6 k_1 i_5 a_0r1 => (todo_laws_markThingS_6, [(0, [.one (.own 1)]), (1, [.one (.int .i64 k_1)]), (5, [.one (.int .i64 i_5)])], [(1, .io 138 a_0r1)])
  | .c7 k_1 i_5 a_0r1 => (todo_laws_markThingS_7, [(0, [.one (.own 1)]), (1, [.one (.int .i64 k_1)]), (5, [.one (.int .i64 i_5)])], [(1, .io 138 a_0r1)])
noncomputable def E_laws_markThingS (laws_markText : Int → Option ByteArray) (k : St_laws_markThingS → Option (Int × (List SThing))) (a_0 : (List SThing)) (k_1 : Int) : Option (Int × (List SThing)) :=
  k (.c0 k_1 (0 : Int) a_0)
noncomputable def B_laws_markThingS (laws_markText : Int → Option ByteArray) (k : St_laws_markThingS → Option (Int × (List SThing))) : St_laws_markThingS → Option (Int × (List SThing))
  | .c0 k_1 i_5 a_0r1 =>
    bif (decide (i_5 < (a_0r1.length : Int))) then
      bif ((decide (0 ≤ i_5)) && (decide (i_5 < (a_0r1.length : Int)))) then
      k (.c1 (w64 (k_1 + 1)) i_5 (a_0r1.set i_5.toNat (⟨k_1, (a_0r1.getD i_5.toNat (⟨(0 : Int), (0 : Int), false, false, false, false, (⟨#[]⟩ : ByteArray), (0 : Int)⟩ : SThing)).fKind, (a_0r1.getD i_5.toNat (⟨(0 : Int), (0 : Int), false, false, false, false, (⟨#[]⟩ : ByteArray), (0 : Int)⟩ : SThing)).fHidden, (a_0r1.getD i_5.toNat (⟨(0 : Int), (0 : Int), false, false, false, false, (⟨#[]⟩ : ByteArray), (0 : Int)⟩ : SThing)).fFixed, (a_0r1.getD i_5.toNat (⟨(0 : Int), (0 : Int), false, false, false, false, (⟨#[]⟩ : ByteArray), (0 : Int)⟩ : SThing)).fSigns, (a_0r1.getD i_5.toNat (⟨(0 : Int), (0 : Int), false, false, false, false, (⟨#[]⟩ : ByteArray), (0 : Int)⟩ : SThing)).fWraps, (a_0r1.getD i_5.toNat (⟨(0 : Int), (0 : Int), false, false, false, false, (⟨#[]⟩ : ByteArray), (0 : Int)⟩ : SThing)).fValue, (a_0r1.getD i_5.toNat (⟨(0 : Int), (0 : Int), false, false, false, false, (⟨#[]⟩ : ByteArray), (0 : Int)⟩ : SThing)).fNext⟩ : SThing)))
      else none
    else
      some (k_1, a_0r1)
  | .c1 k_1 i_5 a_0r1 =>
    bif ((decide (0 ≤ i_5)) && (decide (i_5 < (a_0r1.length : Int)))) then
    k (.c2 (w64 (k_1 + 1)) i_5 (a_0r1.set i_5.toNat (⟨(a_0r1.getD i_5.toNat (⟨(0 : Int), (0 : Int), false, false, false, false, (⟨#[]⟩ : ByteArray), (0 : Int)⟩ : SThing)).fId, k_1, (a_0r1.getD i_5.toNat (⟨(0 : Int), (0 : Int), false, false, false, false, (⟨#[]⟩ : ByteArray), (0 : Int)⟩ : SThing)).fHidden, (a_0r1.getD i_5.toNat (⟨(0 : Int), (0 : Int), false, false, false, false, (⟨#[]⟩ : ByteArray), (0 : Int)⟩ : SThing)).fFixed, (a_0r1.getD i_5.toNat (⟨(0 : Int), (0 : Int), false, false, false, false, (⟨#[]⟩ : ByteArray), (0 : Int)⟩ : SThing)).fSigns, (a_0r1.getD i_5.toNat (⟨(0 : Int), (0 : Int), false, false, false, false, (⟨#[]⟩ : ByteArray), (0 : Int)⟩ : SThing)).fWraps, (a_0r1.getD i_5.toNat (⟨(0 : Int), (0 : Int), false, false, false, false, (⟨#[]⟩ : ByteArray), (0 : Int)⟩ : SThing)).fValue, (a_0r1.getD i_5.toNat (⟨(0 : Int), (0 : Int), false, false, false, false, (⟨#[]⟩ : ByteArray), (0 : Int)⟩ : SThing)).fNext⟩ : SThing)))
    else none
  | .c2 k_1 i_5 a_0r1 =>
    bif ((decide (0 ≤ i_5)) && (decide (i_5 < (a_0r1.length : Int)))) then
    k (.c3 (w64 (k_1 + 1)) i_5 (a_0r1.set i_5.toNat (⟨(a_0r1.getD i_5.toNat (⟨(0 : Int), (0 : Int), false, false, false, false, (⟨#[]⟩ : ByteArray), (0 : Int)⟩ : SThing)).fId, (a_0r1.getD i_5.toNat (⟨(0 : Int), (0 : Int), false, false, false, false, (⟨#[]⟩ : ByteArray), (0 : Int)⟩ : SThing)).fKind, ((k_1.tmod 3) == 0), (a_0r1.getD i_5.toNat (⟨(0 : Int), (0 : Int), false, false, false, false, (⟨#[]⟩ : ByteArray), (0 : Int)⟩ : SThing)).fFixed, (a_0r1.getD i_5.toNat (⟨(0 : Int), (0 : Int), false, false, false, false, (⟨#[]⟩ : ByteArray), (0 : Int)⟩ : SThing)).fSigns, (a_0r1.getD i_5.toNat (⟨(0 : Int), (0 : Int), false, false, false, false, (⟨#[]⟩ : ByteArray), (0 : Int)⟩ : SThing)).fWraps, (a_0r1.getD i_5.toNat (⟨(0 : Int), (0 : Int), false, false, false, false, (⟨#[]⟩ : ByteArray), (0 : Int)⟩ : SThing)).fValue, (a_0r1.getD i_5.toNat (⟨(0 : Int), (0 : Int), false, false, false, false, (⟨#[]⟩ : ByteArray), (0 : Int)⟩ : SThing)).fNext⟩ : SThing)))
    else none
  | .c3 k_1 i_5 a_0r1 =>
    bif ((decide (0 ≤ i_5)) && (decide (i_5 < (a_0r1.length : Int)))) then
    k (.c4 (w64 (k_1 + 1)) i_5 (a_0r1.set i_5.toNat (⟨(a_0r1.getD i_5.toNat (⟨(0 : Int), (0 : Int), false, false, false, false, (⟨#[]⟩ : ByteArray), (0 : Int)⟩ : SThing)).fId, (a_0r1.getD i_5.toNat (⟨(0 : Int), (0 : Int), false, false, false, false, (⟨#[]⟩ : ByteArray), (0 : Int)⟩ : SThing)).fKind, (a_0r1.getD i_5.toNat (⟨(0 : Int), (0 : Int), false, false, false, false, (⟨#[]⟩ : ByteArray), (0 : Int)⟩ : SThing)).fHidden, ((k_1.tmod 3) == 0), (a_0r1.getD i_5.toNat (⟨(0 : Int), (0 : Int), false, false, false, false, (⟨#[]⟩ : ByteArray), (0 : Int)⟩ : SThing)).fSigns, (a_0r1.getD i_5.toNat (⟨(0 : Int), (0 : Int), false, false, false, false, (⟨#[]⟩ : ByteArray), (0 : Int)⟩ : SThing)).fWraps, (a_0r1.getD i_5.toNat (⟨(0 : Int), (0 : Int), false, false, false, false, (⟨#[]⟩ : ByteArray), (0 : Int)⟩ : SThing)).fValue, (a_0r1.getD i_5.toNat (⟨(0 : Int), (0 : Int), false, false, false, false, (⟨#[]⟩ : ByteArray), (0 : Int)⟩ : SThing)).fNext⟩ : SThing)))
    else none
  | .c4 k_1 i_5 a_0r1 =>
    bif ((decide (0 ≤ i_5)) && (decide (i_5 < (a_0r1.length : Int)))) then
    k (.c5 (w64 (k_1 + 1)) i_5 (a_0r1.set i_5.toNat (⟨(a_0r1.getD i_5.toNat (⟨(0 : Int), (0 : Int), false, false, false, false, (⟨#[]⟩ : ByteArray), (0 : Int)⟩ : SThing)).fId, (a_0r1.getD i_5.toNat (⟨(0 : Int), (0 : Int), false, false, false, false, (⟨#[]⟩ : ByteArray), (0 : Int)⟩ : SThing)).fKind, (a_0r1.getD i_5.toNat (⟨(0 : Int), (0 : Int), false, false, false, false, (⟨#[]⟩ : ByteArray), (0 : Int)⟩ : SThing)).fHidden, (a_0r1.getD i_5.toNat (⟨(0 : Int), (0 : Int), false, false, false, false, (⟨#[]⟩ : ByteArray), (0 : Int)⟩ : SThing)).fFixed, ((k_1.tmod 3) == 0), (a_0r1.getD i_5.toNat (⟨(0 : Int), (0 : Int), false, false, false, false, (⟨#[]⟩ : ByteArray), (0 : Int)⟩ : SThing)).fWraps, (a_0r1.getD i_5.toNat (⟨(0 : Int), (0 : Int), false, false, false, false, (⟨#[]⟩ : ByteArray), (0 : Int)⟩ : SThing)).fValue, (a_0r1.getD i_5.toNat (⟨(0 : Int), (0 : Int), false, false, false, false, (⟨#[]⟩ : ByteArray), (0 : Int)⟩ : SThing)).fNext⟩ : SThing)))
    else none
  | .c5 k_1 i_5 a_0r1 =>
    bif ((decide (0 ≤ i_5)) && (decide (i_5 < (a_0r1.length : Int)))) then
    k (.c6 (w64 (k_1 + 1)) i_5 (a_0r1.set i_5.toNat (⟨(a_0r1.getD i_5.toNat (⟨(0 : Int), (0 : Int), false, false, false, false, (⟨#[]⟩ : ByteArray), (0 : Int)⟩ : SThing)).fId, (a_0r1.getD i_5.toNat (⟨(0 : Int), (0 : Int), false, false, false, false, (⟨#[]⟩ : ByteArray), (0 : Int)⟩ : SThing)).fKind, (a_0r1.getD i_5.toNat (⟨(0 : Int), (0 : Int), false, false, false, false, (⟨#[]⟩ : ByteArray), (0 : Int)⟩ : SThing)).fHidden, (a_0r1.getD i_5.toNat (⟨(0 : Int), (0 : Int), false, false, false, false, (⟨#[]⟩ : ByteArray), (0 : Int)⟩ : SThing)).fFixed, (a_0r1.getD i_5.toNat (⟨(0 : Int), (0 : Int), false, false, false, false, (⟨#[]⟩ : ByteArray), (0 : Int)⟩ : SThing)).fSigns, ((k_1.tmod 3) == 0), (a_0r1.getD i_5.toNat (⟨(0 : Int), (0 : Int), false, false, false, false, (⟨#[]⟩ : ByteArray), (0 : Int)⟩ : SThing)).fValue, (a_0r1.getD i_5.toNat (⟨(0 : Int), (0 : Int), false, false, false, false, (⟨#[]⟩ : ByteArray), (0 : Int)⟩ : SThing)).fNext⟩ : SThing)))
    else none
  | .c6 k_1 i_5 a_0r1 =>
    (laws_markText k_1).bind fun r0 =>
    bif ((decide (0 ≤ i_5)) && (decide (i_5 < (a_0r1.length : Int)))) then
    k (.c7 (w64 (k_1 + 1)) i_5 (a_0r1.set i_5.toNat (⟨(a_0r1.getD i_5.toNat (⟨(0 : Int), (0 : Int), false, false, false, false, (⟨#[]⟩ : ByteArray), (0 : Int)⟩ : SThing)).fId, (a_0r1.getD i_5.toNat (⟨(0 : Int), (0 : Int), false, false, false, false, (⟨#[]⟩ : ByteArray), (0 : Int)⟩ : SThing)).fKind, (a_0r1.getD i_5.toNat (⟨(0 : Int), (0 : Int), false, false, false, false, (⟨#[]⟩ : ByteArray), (0 : Int)⟩ : SThing)).fHidden, (a_0r1.getD i_5.toNat (⟨(0 : Int), (0 : Int), false, false, false, false, (⟨#[]⟩ : ByteArray), (0 : Int)⟩ : SThing)).fFixed, (a_0r1.getD i_5.toNat (⟨(0 : Int), (0 : Int), false, false, false, false, (⟨#[]⟩ : ByteArray), (0 : Int)⟩ : SThing)).fSigns, (a_0r1.getD i_5.toNat (⟨(0 : Int), (0 : Int), false, false, false, false, (⟨#[]⟩ : ByteArray), (0 : Int)⟩ : SThing)).fWraps, r0, (a_0r1.getD i_5.toNat (⟨(0 : Int), (0 : Int), false, false, false, false, (⟨#[]⟩ : ByteArray), (0 : Int)⟩ : SThing)).fNext⟩ : SThing)))
    else none
  | .c7 k_1 i_5 a_0r1 =>
    bif ((decide (0 ≤ i_5)) && (decide (i_5 < (a_0r1.length : Int)))) then
    k (.c0 (w64 (k_1 + 1)) (w64 (i_5 + 1)) (a_0r1.set i_5.toNat (⟨(a_0r1.getD i_5.toNat (⟨(0 : Int), (0 : Int), false, false, false, false, (⟨#[]⟩ : ByteArray), (0 : Int)⟩ : SThing)).fId, (a_0r1.getD i_5.toNat (⟨(0 : Int), (0 : Int), false, false, false, false, (⟨#[]⟩ : ByteArray), (0 : Int)⟩ : SThing)).fKind, (a_0r1.getD i_5.toNat (⟨(0 : Int), (0 : Int), false, false, false, false, (⟨#[]⟩ : ByteArray), (0 : Int)⟩ : SThing)).fHidden, (a_0r1.getD i_5.toNat (⟨(0 : Int), (0 : Int), false, false, false, false, (⟨#[]⟩ : ByteArray), (0 : Int)⟩ : SThing)).fFixed, (a_0r1.getD i_5.toNat (⟨(0 : Int), (0 : Int), false, false, false, false, (⟨#[]⟩ : ByteArray), (0 : Int)⟩ : SThing)).fSigns, (a_0r1.getD i_5.toNat (⟨(0 : Int), (0 : Int), false, false, false, false, (⟨#[]⟩ : ByteArray), (0 : Int)⟩ : SThing)).fWraps, (a_0r1.getD i_5.toNat (⟨(0 : Int), (0 : Int), false, false, false, false, (⟨#[]⟩ : ByteArray), (0 : Int)⟩ : SThing)).fValue, k_1⟩ : SThing)))
    else none
noncomputable def L_laws_markThingS : Nat → St_laws_markThingS → Option (Int × (List SThing))
  | 0, _ => none
  | m + 1, s => B_laws_markThingS laws_markText (L_laws_markThingS m) s
noncomputable def laws_markThingS (a_0 : (List SThing)) (k_1 : Int) : Option (Int × (List SThing)) := E_laws_markThingS laws_markText (L_laws_markThingS gas) a_0 k_1
theorem e_laws_markThingS (laws_markText : Int → Option ByteArray) : EntryIs ctx PP 54 [1] [(55, H_laws_markText laws_markText)] cv73 cv74 at_laws_markThingS (fun k a => E_laws_markThingS laws_markText k a.1 a.2) := fun stop a => by kernel_rfl
theorem b_laws_markThingS (laws_markText : Int → Option ByteArray) : CutIs ctx PP 54 Tryz.f54 [1] [(55, H_laws_markText laws_markText)] cv74 at_laws_markThingS (B_laws_markThingS laws_markText) := fun stop s => by cases s <;> kernel_rfl
theorem i_laws_markThingS : ∀ s s', at_laws_markThingS s = at_laws_markThingS s' → s = s' := by
  intro s s' h
  cases s with
  | c0 v0 v1 v2 => cases s' with
    | c0 w0 w1 w2 => cases h; rfl
    | c1 w0 w1 w2 => exact (region_ne 2 6 h (by kernel_rfl) (by kernel_rfl) rfl).elim
    | c2 w0 w1 w2 => exact (region_ne 2 8 h (by kernel_rfl) (by kernel_rfl) rfl).elim
    | c3 w0 w1 w2 => exact (region_ne 2 10 h (by kernel_rfl) (by kernel_rfl) rfl).elim
    | c4 w0 w1 w2 => exact (region_ne 2 12 h (by kernel_rfl) (by kernel_rfl) rfl).elim
    | c5 w0 w1 w2 => exact (region_ne 2 14 h (by kernel_rfl) (by kernel_rfl) rfl).elim
    | c6 w0 w1 w2 => exact (region_ne 2 16 h (by kernel_rfl) (by kernel_rfl) rfl).elim
    | c7 w0 w1 w2 => exact (region_ne 2 18 h (by kernel_rfl) (by kernel_rfl) rfl).elim
  | c1 v0 v1 v2 => cases s' with
    | c0 w0 w1 w2 => exact (region_ne 6 2 h (by kernel_rfl) (by kernel_rfl) rfl).elim
    | c1 w0 w1 w2 => cases h; rfl
    | c2 w0 w1 w2 => exact (region_ne 6 8 h (by kernel_rfl) (by kernel_rfl) rfl).elim
    | c3 w0 w1 w2 => exact (region_ne 6 10 h (by kernel_rfl) (by kernel_rfl) rfl).elim
    | c4 w0 w1 w2 => exact (region_ne 6 12 h (by kernel_rfl) (by kernel_rfl) rfl).elim
    | c5 w0 w1 w2 => exact (region_ne 6 14 h (by kernel_rfl) (by kernel_rfl) rfl).elim
    | c6 w0 w1 w2 => exact (region_ne 6 16 h (by kernel_rfl) (by kernel_rfl) rfl).elim
    | c7 w0 w1 w2 => exact (region_ne 6 18 h (by kernel_rfl) (by kernel_rfl) rfl).elim
  | c2 v0 v1 v2 => cases s' with
    | c0 w0 w1 w2 => exact (region_ne 8 2 h (by kernel_rfl) (by kernel_rfl) rfl).elim
    | c1 w0 w1 w2 => exact (region_ne 8 6 h (by kernel_rfl) (by kernel_rfl) rfl).elim
    | c2 w0 w1 w2 => cases h; rfl
    | c3 w0 w1 w2 => exact (region_ne 8 10 h (by kernel_rfl) (by kernel_rfl) rfl).elim
    | c4 w0 w1 w2 => exact (region_ne 8 12 h (by kernel_rfl) (by kernel_rfl) rfl).elim
    | c5 w0 w1 w2 => exact (region_ne 8 14 h (by kernel_rfl) (by kernel_rfl) rfl).elim
    | c6 w0 w1 w2 => exact (region_ne 8 16 h (by kernel_rfl) (by kernel_rfl) rfl).elim
    | c7 w0 w1 w2 => exact (region_ne 8 18 h (by kernel_rfl) (by kernel_rfl) rfl).elim
  | c3 v0 v1 v2 => cases s' with
    | c0 w0 w1 w2 => exact (region_ne 10 2 h (by kernel_rfl) (by kernel_rfl) rfl).elim
    | c1 w0 w1 w2 => exact (region_ne 10 6 h (by kernel_rfl) (by kernel_rfl) rfl).elim
    | c2 w0 w1 w2 => exact (region_ne 10 8 h (by kernel_rfl) (by kernel_rfl) rfl).elim
    | c3 w0 w1 w2 => cases h; rfl
    | c4 w0 w1 w2 => exact (region_ne 10 12 h (by kernel_rfl) (by kernel_rfl) rfl).elim
    | c5 w0 w1 w2 => exact (region_ne 10 14 h (by kernel_rfl) (by kernel_rfl) rfl).elim
    | c6 w0 w1 w2 => exact (region_ne 10 16 h (by kernel_rfl) (by kernel_rfl) rfl).elim
    | c7 w0 w1 w2 => exact (region_ne 10 18 h (by kernel_rfl) (by kernel_rfl) rfl).elim
  | c4 v0 v1 v2 => cases s' with
    | c0 w0 w1 w2 => exact (region_ne 12 2 h (by kernel_rfl) (by kernel_rfl) rfl).elim
    | c1 w0 w1 w2 => exact (region_ne 12 6 h (by kernel_rfl) (by kernel_rfl) rfl).elim
    | c2 w0 w1 w2 => exact (region_ne 12 8 h (by kernel_rfl) (by kernel_rfl) rfl).elim
    | c3 w0 w1 w2 => exact (region_ne 12 10 h (by kernel_rfl) (by kernel_rfl) rfl).elim
    | c4 w0 w1 w2 => cases h; rfl
    | c5 w0 w1 w2 => exact (region_ne 12 14 h (by kernel_rfl) (by kernel_rfl) rfl).elim
    | c6 w0 w1 w2 => exact (region_ne 12 16 h (by kernel_rfl) (by kernel_rfl) rfl).elim
    | c7 w0 w1 w2 => exact (region_ne 12 18 h (by kernel_rfl) (by kernel_rfl) rfl).elim
  | c5 v0 v1 v2 => cases s' with
    | c0 w0 w1 w2 => exact (region_ne 14 2 h (by kernel_rfl) (by kernel_rfl) rfl).elim
    | c1 w0 w1 w2 => exact (region_ne 14 6 h (by kernel_rfl) (by kernel_rfl) rfl).elim
    | c2 w0 w1 w2 => exact (region_ne 14 8 h (by kernel_rfl) (by kernel_rfl) rfl).elim
    | c3 w0 w1 w2 => exact (region_ne 14 10 h (by kernel_rfl) (by kernel_rfl) rfl).elim
    | c4 w0 w1 w2 => exact (region_ne 14 12 h (by kernel_rfl) (by kernel_rfl) rfl).elim
    | c5 w0 w1 w2 => cases h; rfl
    | c6 w0 w1 w2 => exact (region_ne 14 16 h (by kernel_rfl) (by kernel_rfl) rfl).elim
    | c7 w0 w1 w2 => exact (region_ne 14 18 h (by kernel_rfl) (by kernel_rfl) rfl).elim
  | c6 v0 v1 v2 => cases s' with
    | c0 w0 w1 w2 => exact (region_ne 16 2 h (by kernel_rfl) (by kernel_rfl) rfl).elim
    | c1 w0 w1 w2 => exact (region_ne 16 6 h (by kernel_rfl) (by kernel_rfl) rfl).elim
    | c2 w0 w1 w2 => exact (region_ne 16 8 h (by kernel_rfl) (by kernel_rfl) rfl).elim
    | c3 w0 w1 w2 => exact (region_ne 16 10 h (by kernel_rfl) (by kernel_rfl) rfl).elim
    | c4 w0 w1 w2 => exact (region_ne 16 12 h (by kernel_rfl) (by kernel_rfl) rfl).elim
    | c5 w0 w1 w2 => exact (region_ne 16 14 h (by kernel_rfl) (by kernel_rfl) rfl).elim
    | c6 w0 w1 w2 => cases h; rfl
    | c7 w0 w1 w2 => exact (region_ne 16 18 h (by kernel_rfl) (by kernel_rfl) rfl).elim
  | c7 v0 v1 v2 => cases s' with
    | c0 w0 w1 w2 => exact (region_ne 18 2 h (by kernel_rfl) (by kernel_rfl) rfl).elim
    | c1 w0 w1 w2 => exact (region_ne 18 6 h (by kernel_rfl) (by kernel_rfl) rfl).elim
    | c2 w0 w1 w2 => exact (region_ne 18 8 h (by kernel_rfl) (by kernel_rfl) rfl).elim
    | c3 w0 w1 w2 => exact (region_ne 18 10 h (by kernel_rfl) (by kernel_rfl) rfl).elim
    | c4 w0 w1 w2 => exact (region_ne 18 12 h (by kernel_rfl) (by kernel_rfl) rfl).elim
    | c5 w0 w1 w2 => exact (region_ne 18 14 h (by kernel_rfl) (by kernel_rfl) rfl).elim
    | c6 w0 w1 w2 => exact (region_ne 18 16 h (by kernel_rfl) (by kernel_rfl) rfl).elim
    | c7 w0 w1 w2 => cases h; rfl
theorem ok_laws_markThingS : Tells ctx PP 54 cv73 cv74 (fun a => laws_markThingS a.1 a.2) := fn_ok (hl_cons h_laws_markText hl_nil) Tryz.func54 i_laws_markThingS (fun _ => rfl) (fun _ _ => rfl) (b_laws_markThingS laws_markText) (e_laws_markThingS laws_markText) gas
noncomputable def H_laws_markThingS {γ : Type} (F : (List SThing) → Int → Option (Int × (List SThing))) : Hd ctx γ := hdl cv73.dec (fun a => F a.1 a.2) cv74.enc
theorem h_laws_markThingS {γ : Type} : HdOk (γ := γ) PP 54 (H_laws_markThingS laws_markThingS) := hd_ok ok_laws_markThingS
noncomputable def E_laws_markBook (laws_markThingS : (List SThing) → Int → Option (Int × (List SThing))) (a_0 : SBook) (k_1 : Int) : Option (Int × (List SThing)) :=
  (laws_markThingS a_0.fThings k_1).bind fun r0 =>
  some (r0.1, r0.2)
noncomputable def laws_markBook (a_0 : SBook) (k_1 : Int) : Option (Int × (List SThing)) := E_laws_markBook laws_markThingS a_0 k_1
theorem e_laws_markBook (laws_markThingS : (List SThing) → Int → Option (Int × (List SThing))) : EntryIs0 ctx PP 16 [1] [(54, H_laws_markThingS laws_markThingS)] cv75 cv76 (fun a => E_laws_markBook laws_markThingS a.1 a.2) := fun a => by kernel_rfl
theorem ok_laws_markBook : Tells ctx PP 16 cv75 cv76 (fun a => laws_markBook a.1 a.2) := fn_ok0 (hl_cons h_laws_markThingS hl_nil) Tryz.func16 (e_laws_markBook laws_markThingS)
noncomputable def H_laws_markBook {γ : Type} (F : SBook → Int → Option (Int × (List SThing))) : Hd ctx γ := hdl cv75.dec (fun a => F a.1 a.2) cv76.enc
theorem h_laws_markBook {γ : Type} : HdOk (γ := γ) PP 16 (H_laws_markBook laws_markBook) := hd_ok ok_laws_markBook
noncomputable def todo_laws_markActS_0 : List Go.Item := [.code (cAt (bodyOf Tryz.f17) [1, 0, 1, 0, 0, 0, 0]), .code (cAt (bodyOf Tryz.f17) [1, 0, 1, 0, 0, 0, 1]), .code (cAt (bodyOf Tryz.f17) [1, 0, 1, 0, 0, 1]), .inLoop (cAt (bodyOf Tryz.f17) [1, 0, 1, 0, 0]), .inBlock 0, .code (cAt (bodyOf Tryz.f17) [1, 1])]
noncomputable def todo_laws_markActS_1 : List Go.Item := [.code (cAt (bodyOf Tryz.f17) [1, 0, 1, 0, 0, 1, 0, 0, 1, 1, 0]), .code (cAt (bodyOf Tryz.f17) [1, 0, 1, 0, 0, 1, 0, 0, 1, 1, 1]), .inBlock 1, .code (cAt (bodyOf Tryz.f17) [1, 0, 1, 0, 0, 1, 1]), .inLoop (cAt (bodyOf Tryz.f17) [1, 0, 1, 0, 0]), .inBlock 0, .code (cAt (bodyOf Tryz.f17) [1, 1])]
noncomputable def todo_laws_markActS_2 : List Go.Item := [.code (cAt (bodyOf Tryz.f17) [1, 0, 1, 0, 0, 1, 0, 0, 1, 1, 1, 1, 0]), .code (cAt (bodyOf Tryz.f17) [1, 0, 1, 0, 0, 1, 0, 0, 1, 1, 1, 1, 1]), .inBlock 1, .code (cAt (bodyOf Tryz.f17) [1, 0, 1, 0, 0, 1, 1]), .inLoop (cAt (bodyOf Tryz.f17) [1, 0, 1, 0, 0]), .inBlock 0, .code (cAt (bodyOf Tryz.f17) [1, 1])]
noncomputable def todo_laws_markActS_3 : List Go.Item := [.code (cAt (bodyOf Tryz.f17) [1, 0, 1, 0, 0, 1, 0, 0, 1, 1, 1, 1, 1, 1, 0]), .code (cAt (bodyOf Tryz.f17) [1, 0, 1, 0, 0, 1, 0, 0, 1, 1, 1, 1, 1, 1, 1]), .inBlock 1, .code (cAt (bodyOf Tryz.f17) [1, 0, 1, 0, 0, 1, 1]), .inLoop (cAt (bodyOf Tryz.f17) [1, 0, 1, 0, 0]), .inBlock 0, .code (cAt (bodyOf Tryz.f17) [1, 1])]
inductive St_laws_markActS where
  | c0 (k_1 : Int) (i_5 : Int) (a_0r1 : (List SAct))
  | c1 (k_1 : Int) (i_5 : Int) (a_0r1 : (List SAct))
  | c2 (k_1 : Int) (i_5 : Int) (a_0r1 : (List SAct))
  | c3 (k_1 : Int) (i_5 : Int) (a_0r1 : (List SAct))
noncomputable def at_laws_markActS : St_laws_markActS → LI
  | .c0 k_1 i_5 a_0r1 => (todo_laws_markActS_0, [(0, [.one (.own 1)]), (1, [.one (.int .i64 k_1)]), (5, [.one (.int .i64 i_5)])], [(1, .io 88 a_0r1)])
  | .c1 k_1 i_5 a_0r1 => (todo_laws_markActS_1, [(0, [.one (.own 1)]), (1, [.one (.int .i64 k_1)]), (5, [.one (.int .i64 i_5)])], [(1, .io 88 a_0r1)])
  | .c2 k_1 i_5 a_0r1 => (todo_laws_markActS_2, [(0, [.one (.own 1)]), (1, [.one (.int .i64 k_1)]), (5, [.one (.int .i64 i_5)])], [(1, .io 88 a_0r1)])
  | .c3 k_1 i_5 a_0r1 => (todo_laws_markActS_3, [(0, [.one (.own 1)]), (1, [.one (.int .i64 k_1)]), (5, [.one (.int .i64 i_5)])], [(1, .io 88 a_0r1)])
noncomputable def E_laws_markActS (laws_markText : Int → Option ByteArray) (k : St_laws_markActS → Option (Int × (List SAct))) (a_0 : (List SAct)) (k_1 : Int) : Option (Int × (List SAct)) :=
  k (.c0 k_1 (0 : Int) a_0)
noncomputable def B_laws_markActS (laws_markText : Int → Option ByteArray) (k : St_laws_markActS → Option (Int × (List SAct))) : St_laws_markActS → Option (Int × (List SAct))
  | .c0 k_1 i_5 a_0r1 =>
    bif (decide (i_5 < (a_0r1.length : Int))) then
      bif ((decide (0 ≤ i_5)) && (decide (i_5 < (a_0r1.length : Int)))) then
      k (.c1 (w64 (k_1 + 1)) i_5 (a_0r1.set i_5.toNat (⟨k_1, (a_0r1.getD i_5.toNat (⟨(0 : Int), (⟨#[]⟩ : ByteArray), (⟨#[]⟩ : ByteArray), (⟨#[]⟩ : ByteArray)⟩ : SAct)).fName, (a_0r1.getD i_5.toNat (⟨(0 : Int), (⟨#[]⟩ : ByteArray), (⟨#[]⟩ : ByteArray), (⟨#[]⟩ : ByteArray)⟩ : SAct)).fText, (a_0r1.getD i_5.toNat (⟨(0 : Int), (⟨#[]⟩ : ByteArray), (⟨#[]⟩ : ByteArray), (⟨#[]⟩ : ByteArray)⟩ : SAct)).fTo⟩ : SAct)))
      else none
    else
      some (k_1, a_0r1)
  | .c1 k_1 i_5 a_0r1 =>
    (laws_markText k_1).bind fun r0 =>
    bif ((decide (0 ≤ i_5)) && (decide (i_5 < (a_0r1.length : Int)))) then
    k (.c2 (w64 (k_1 + 1)) i_5 (a_0r1.set i_5.toNat (⟨(a_0r1.getD i_5.toNat (⟨(0 : Int), (⟨#[]⟩ : ByteArray), (⟨#[]⟩ : ByteArray), (⟨#[]⟩ : ByteArray)⟩ : SAct)).fKind, r0, (a_0r1.getD i_5.toNat (⟨(0 : Int), (⟨#[]⟩ : ByteArray), (⟨#[]⟩ : ByteArray), (⟨#[]⟩ : ByteArray)⟩ : SAct)).fText, (a_0r1.getD i_5.toNat (⟨(0 : Int), (⟨#[]⟩ : ByteArray), (⟨#[]⟩ : ByteArray), (⟨#[]⟩ : ByteArray)⟩ : SAct)).fTo⟩ : SAct)))
    else none
  | .c2 k_1 i_5 a_0r1 =>
    (laws_markText k_1).bind fun r0 =>
    bif ((decide (0 ≤ i_5)) && (decide (i_5 < (a_0r1.length : Int)))) then
    k (.c3 (w64 (k_1 + 1)) i_5 (a_0r1.set i_5.toNat (⟨(a_0r1.getD i_5.toNat (⟨(0 : Int), (⟨#[]⟩ : ByteArray), (⟨#[]⟩ : ByteArray), (⟨#[]⟩ : ByteArray)⟩ : SAct)).fKind, (a_0r1.getD i_5.toNat (⟨(0 : Int), (⟨#[]⟩ : ByteArray), (⟨#[]⟩ : ByteArray), (⟨#[]⟩ : ByteArray)⟩ : SAct)).fName, r0, (a_0r1.getD i_5.toNat (⟨(0 : Int), (⟨#[]⟩ : ByteArray), (⟨#[]⟩ : ByteArray), (⟨#[]⟩ : ByteArray)⟩ : SAct)).fTo⟩ : SAct)))
    else none
  | .c3 k_1 i_5 a_0r1 =>
    (laws_markText k_1).bind fun r0 =>
    bif ((decide (0 ≤ i_5)) && (decide (i_5 < (a_0r1.length : Int)))) then
    k (.c0 (w64 (k_1 + 1)) (w64 (i_5 + 1)) (a_0r1.set i_5.toNat (⟨(a_0r1.getD i_5.toNat (⟨(0 : Int), (⟨#[]⟩ : ByteArray), (⟨#[]⟩ : ByteArray), (⟨#[]⟩ : ByteArray)⟩ : SAct)).fKind, (a_0r1.getD i_5.toNat (⟨(0 : Int), (⟨#[]⟩ : ByteArray), (⟨#[]⟩ : ByteArray), (⟨#[]⟩ : ByteArray)⟩ : SAct)).fName, (a_0r1.getD i_5.toNat (⟨(0 : Int), (⟨#[]⟩ : ByteArray), (⟨#[]⟩ : ByteArray), (⟨#[]⟩ : ByteArray)⟩ : SAct)).fText, r0⟩ : SAct)))
    else none
noncomputable def L_laws_markActS : Nat → St_laws_markActS → Option (Int × (List SAct))
  | 0, _ => none
  | m + 1, s => B_laws_markActS laws_markText (L_laws_markActS m) s
noncomputable def laws_markActS (a_0 : (List SAct)) (k_1 : Int) : Option (Int × (List SAct)) := E_laws_markActS laws_markText (L_laws_markActS gas) a_0 k_1
theorem e_laws_markActS (laws_markText : Int → Option ByteArray) : EntryIs ctx PP 17 [1] [(55, H_laws_markText laws_markText)] cv77 cv78 at_laws_markActS (fun k a => E_laws_markActS laws_markText k a.1 a.2) := fun stop a => by kernel_rfl
theorem b_laws_markActS (laws_markText : Int → Option ByteArray) : CutIs ctx PP 17 Tryz.f17 [1] [(55, H_laws_markText laws_markText)] cv78 at_laws_markActS (B_laws_markActS laws_markText) := fun stop s => by cases s <;> kernel_rfl
theorem i_laws_markActS : ∀ s s', at_laws_markActS s = at_laws_markActS s' → s = s' := by
  intro s s' h
  cases s with
  | c0 v0 v1 v2 => cases s' with
    | c0 w0 w1 w2 => cases h; rfl
    | c1 w0 w1 w2 => exact (region_ne 2 6 h (by kernel_rfl) (by kernel_rfl) rfl).elim
    | c2 w0 w1 w2 => exact (region_ne 2 8 h (by kernel_rfl) (by kernel_rfl) rfl).elim
    | c3 w0 w1 w2 => exact (region_ne 2 10 h (by kernel_rfl) (by kernel_rfl) rfl).elim
  | c1 v0 v1 v2 => cases s' with
    | c0 w0 w1 w2 => exact (region_ne 6 2 h (by kernel_rfl) (by kernel_rfl) rfl).elim
    | c1 w0 w1 w2 => cases h; rfl
    | c2 w0 w1 w2 => exact (region_ne 6 8 h (by kernel_rfl) (by kernel_rfl) rfl).elim
    | c3 w0 w1 w2 => exact (region_ne 6 10 h (by kernel_rfl) (by kernel_rfl) rfl).elim
  | c2 v0 v1 v2 => cases s' with
    | c0 w0 w1 w2 => exact (region_ne 8 2 h (by kernel_rfl) (by kernel_rfl) rfl).elim
    | c1 w0 w1 w2 => exact (region_ne 8 6 h (by kernel_rfl) (by kernel_rfl) rfl).elim
    | c2 w0 w1 w2 => cases h; rfl
    | c3 w0 w1 w2 => exact (region_ne 8 10 h (by kernel_rfl) (by kernel_rfl) rfl).elim
  | c3 v0 v1 v2 => cases s' with
    | c0 w0 w1 w2 => exact (region_ne 10 2 h (by kernel_rfl) (by kernel_rfl) rfl).elim
    | c1 w0 w1 w2 => exact (region_ne 10 6 h (by kernel_rfl) (by kernel_rfl) rfl).elim
    | c2 w0 w1 w2 => exact (region_ne 10 8 h (by kernel_rfl) (by kernel_rfl) rfl).elim
    | c3 w0 w1 w2 => cases h; rfl
theorem ok_laws_markActS : Tells ctx PP 17 cv77 cv78 (fun a => laws_markActS a.1 a.2) := fn_ok (hl_cons h_laws_markText hl_nil) Tryz.func17 i_laws_markActS (fun _ => rfl) (fun _ _ => rfl) (b_laws_markActS laws_markText) (e_laws_markActS laws_markText) gas
noncomputable def H_laws_markActS {γ : Type} (F : (List SAct) → Int → Option (Int × (List SAct))) : Hd ctx γ := hdl cv77.dec (fun a => F a.1 a.2) cv78.enc
theorem h_laws_markActS {γ : Type} : HdOk (γ := γ) PP 17 (H_laws_markActS laws_markActS) := hd_ok ok_laws_markActS
noncomputable def todo_laws_heldThingS_0 : List Go.Item := [.code (cAt (bodyOf Tryz.f56) [1, 0, 1, 0, 0, 0, 0]), .code (cAt (bodyOf Tryz.f56) [1, 0, 1, 0, 0, 0, 1]), .code (cAt (bodyOf Tryz.f56) [1, 0, 1, 0, 0, 1]), .inLoop (cAt (bodyOf Tryz.f56) [1, 0, 1, 0, 0]), .inBlock 0, .code (cAt (bodyOf Tryz.f56) [1, 1])]
inductive St_laws_heldThingS where
  | c0 (a_0 : (List SThing)) (k_1 : Int) (i_5 : Int)
noncomputable def at_laws_heldThingS : St_laws_heldThingS → LI
  | .c0 a_0 k_1 i_5 => (todo_laws_heldThingS_0, [(0, [.one (.rsl 138 a_0)]), (1, [.one (.int .i64 k_1)]), (5, [.one (.int .i64 i_5)])], [])
noncomputable def E_laws_heldThingS (laws_markText : Int → Option ByteArray) (k : St_laws_heldThingS → Option Int) (a_0 : (List SThing)) (k_1 : Int) : Option Int :=
  k (.c0 a_0 k_1 (0 : Int))
noncomputable def B_laws_heldThingS (laws_markText : Int → Option ByteArray) (k : St_laws_heldThingS → Option Int) : St_laws_heldThingS → Option Int
  | .c0 a_0 k_1 i_5 =>
    bif (decide (i_5 < (a_0.length : Int))) then
      bif ((decide (0 ≤ i_5)) && (decide (i_5 < (a_0.length : Int)))) then
      bif ((a_0.getD i_5.toNat (⟨(0 : Int), (0 : Int), false, false, false, false, (⟨#[]⟩ : ByteArray), (0 : Int)⟩ : SThing)).fId != k_1) then
        some (-(1 : Int))
      else
        bif ((decide (0 ≤ i_5)) && (decide (i_5 < (a_0.length : Int)))) then
        bif ((a_0.getD i_5.toNat (⟨(0 : Int), (0 : Int), false, false, false, false, (⟨#[]⟩ : ByteArray), (0 : Int)⟩ : SThing)).fKind != (w64 (k_1 + 1))) then
          some (-(1 : Int))
        else
          bif ((decide (0 ≤ i_5)) && (decide (i_5 < (a_0.length : Int)))) then
          bif (!((a_0.getD i_5.toNat (⟨(0 : Int), (0 : Int), false, false, false, false, (⟨#[]⟩ : ByteArray), (0 : Int)⟩ : SThing)).fHidden == (((w64 ((w64 (k_1 + 1)) + 1)).tmod 3) == 0))) then
            some (-(1 : Int))
          else
            bif ((decide (0 ≤ i_5)) && (decide (i_5 < (a_0.length : Int)))) then
            bif (!((a_0.getD i_5.toNat (⟨(0 : Int), (0 : Int), false, false, false, false, (⟨#[]⟩ : ByteArray), (0 : Int)⟩ : SThing)).fFixed == (((w64 ((w64 ((w64 (k_1 + 1)) + 1)) + 1)).tmod 3) == 0))) then
              some (-(1 : Int))
            else
              bif ((decide (0 ≤ i_5)) && (decide (i_5 < (a_0.length : Int)))) then
              bif (!((a_0.getD i_5.toNat (⟨(0 : Int), (0 : Int), false, false, false, false, (⟨#[]⟩ : ByteArray), (0 : Int)⟩ : SThing)).fSigns == (((w64 ((w64 ((w64 ((w64 (k_1 + 1)) + 1)) + 1)) + 1)).tmod 3) == 0))) then
                some (-(1 : Int))
              else
                bif ((decide (0 ≤ i_5)) && (decide (i_5 < (a_0.length : Int)))) then
                bif (!((a_0.getD i_5.toNat (⟨(0 : Int), (0 : Int), false, false, false, false, (⟨#[]⟩ : ByteArray), (0 : Int)⟩ : SThing)).fWraps == (((w64 ((w64 ((w64 ((w64 ((w64 (k_1 + 1)) + 1)) + 1)) + 1)) + 1)).tmod 3) == 0))) then
                  some (-(1 : Int))
                else
                  bif ((decide (0 ≤ i_5)) && (decide (i_5 < (a_0.length : Int)))) then
                  (laws_markText (w64 ((w64 ((w64 ((w64 ((w64 ((w64 (k_1 + 1)) + 1)) + 1)) + 1)) + 1)) + 1))).bind fun r0 =>
                  bif (!((ByteArray.toList (a_0.getD i_5.toNat (⟨(0 : Int), (0 : Int), false, false, false, false, (⟨#[]⟩ : ByteArray), (0 : Int)⟩ : SThing)).fValue) == (ByteArray.toList r0))) then
                    some (-(1 : Int))
                  else
                    bif ((decide (0 ≤ i_5)) && (decide (i_5 < (a_0.length : Int)))) then
                    bif ((a_0.getD i_5.toNat (⟨(0 : Int), (0 : Int), false, false, false, false, (⟨#[]⟩ : ByteArray), (0 : Int)⟩ : SThing)).fNext != (w64 ((w64 ((w64 ((w64 ((w64 ((w64 ((w64 (k_1 + 1)) + 1)) + 1)) + 1)) + 1)) + 1)) + 1))) then
                      some (-(1 : Int))
                    else
                      k (.c0 a_0 (w64 ((w64 ((w64 ((w64 ((w64 ((w64 ((w64 ((w64 (k_1 + 1)) + 1)) + 1)) + 1)) + 1)) + 1)) + 1)) + 1)) (w64 (i_5 + 1)))
                    else none
                  else none
                else none
              else none
            else none
          else none
        else none
      else none
    else
      some k_1
noncomputable def L_laws_heldThingS : Nat → St_laws_heldThingS → Option Int
  | 0, _ => none
  | m + 1, s => B_laws_heldThingS laws_markText (L_laws_heldThingS m) s
noncomputable def laws_heldThingS (a_0 : (List SThing)) (k_1 : Int) : Option Int := E_laws_heldThingS laws_markText (L_laws_heldThingS gas) a_0 k_1
theorem e_laws_heldThingS (laws_markText : Int → Option ByteArray) : EntryIs ctx PP 56 [] [(55, H_laws_markText laws_markText)] cv79 cv1 at_laws_heldThingS (fun k a => E_laws_heldThingS laws_markText k a.1 a.2) := fun stop a => by kernel_rfl
theorem b_laws_heldThingS (laws_markText : Int → Option ByteArray) : CutIs ctx PP 56 Tryz.f56 [] [(55, H_laws_markText laws_markText)] cv1 at_laws_heldThingS (B_laws_heldThingS laws_markText) := fun stop s => by cases s <;> kernel_rfl
theorem i_laws_heldThingS : ∀ s s', at_laws_heldThingS s = at_laws_heldThingS s' → s = s' := by
  intro s s' h
  cases s with
  | c0 v0 v1 v2 => cases s' with
    | c0 w0 w1 w2 => cases h; rfl
theorem ok_laws_heldThingS : Tells ctx PP 56 cv79 cv1 (fun a => laws_heldThingS a.1 a.2) := fn_ok (hl_cons h_laws_markText hl_nil) Tryz.func56 i_laws_heldThingS (fun _ => rfl) (fun _ _ => rfl) (b_laws_heldThingS laws_markText) (e_laws_heldThingS laws_markText) gas
noncomputable def H_laws_heldThingS {γ : Type} (F : (List SThing) → Int → Option Int) : Hd ctx γ := hdl cv79.dec (fun a => F a.1 a.2) cv1.enc
theorem h_laws_heldThingS {γ : Type} : HdOk (γ := γ) PP 56 (H_laws_heldThingS laws_heldThingS) := hd_ok ok_laws_heldThingS
noncomputable def E_laws_heldBook (laws_heldThingS : (List SThing) → Int → Option Int) (a_0 : SBook) (k_1 : Int) : Option Int :=
  (laws_heldThingS a_0.fThings k_1).bind fun r0 =>
  bif (decide (r0 < 0)) then
    some (-(1 : Int))
  else
    some r0
noncomputable def laws_heldBook (a_0 : SBook) (k_1 : Int) : Option Int := E_laws_heldBook laws_heldThingS a_0 k_1
theorem e_laws_heldBook (laws_heldThingS : (List SThing) → Int → Option Int) : EntryIs0 ctx PP 18 [] [(56, H_laws_heldThingS laws_heldThingS)] cv45 cv1 (fun a => E_laws_heldBook laws_heldThingS a.1 a.2) := fun a => by kernel_rfl
theorem ok_laws_heldBook : Tells ctx PP 18 cv45 cv1 (fun a => laws_heldBook a.1 a.2) := fn_ok0 (hl_cons h_laws_heldThingS hl_nil) Tryz.func18 (e_laws_heldBook laws_heldThingS)
noncomputable def H_laws_heldBook {γ : Type} (F : SBook → Int → Option Int) : Hd ctx γ := hdl cv45.dec (fun a => F a.1 a.2) cv1.enc
theorem h_laws_heldBook {γ : Type} : HdOk (γ := γ) PP 18 (H_laws_heldBook laws_heldBook) := hd_ok ok_laws_heldBook
noncomputable def todo_laws_heldActS_0 : List Go.Item := [.code (cAt (bodyOf Tryz.f19) [1, 0, 1, 0, 0, 0, 0]), .code (cAt (bodyOf Tryz.f19) [1, 0, 1, 0, 0, 0, 1]), .code (cAt (bodyOf Tryz.f19) [1, 0, 1, 0, 0, 1]), .inLoop (cAt (bodyOf Tryz.f19) [1, 0, 1, 0, 0]), .inBlock 0, .code (cAt (bodyOf Tryz.f19) [1, 1])]
inductive St_laws_heldActS where
  | c0 (a_0 : (List SAct)) (k_1 : Int) (i_5 : Int)
noncomputable def at_laws_heldActS : St_laws_heldActS → LI
  | .c0 a_0 k_1 i_5 => (todo_laws_heldActS_0, [(0, [.one (.rsl 88 a_0)]), (1, [.one (.int .i64 k_1)]), (5, [.one (.int .i64 i_5)])], [])
noncomputable def E_laws_heldActS (laws_markText : Int → Option ByteArray) (k : St_laws_heldActS → Option Int) (a_0 : (List SAct)) (k_1 : Int) : Option Int :=
  k (.c0 a_0 k_1 (0 : Int))
noncomputable def B_laws_heldActS (laws_markText : Int → Option ByteArray) (k : St_laws_heldActS → Option Int) : St_laws_heldActS → Option Int
  | .c0 a_0 k_1 i_5 =>
    bif (decide (i_5 < (a_0.length : Int))) then
      bif ((decide (0 ≤ i_5)) && (decide (i_5 < (a_0.length : Int)))) then
      bif ((a_0.getD i_5.toNat (⟨(0 : Int), (⟨#[]⟩ : ByteArray), (⟨#[]⟩ : ByteArray), (⟨#[]⟩ : ByteArray)⟩ : SAct)).fKind != k_1) then
        some (-(1 : Int))
      else
        bif ((decide (0 ≤ i_5)) && (decide (i_5 < (a_0.length : Int)))) then
        (laws_markText (w64 (k_1 + 1))).bind fun r0 =>
        bif (!((ByteArray.toList (a_0.getD i_5.toNat (⟨(0 : Int), (⟨#[]⟩ : ByteArray), (⟨#[]⟩ : ByteArray), (⟨#[]⟩ : ByteArray)⟩ : SAct)).fName) == (ByteArray.toList r0))) then
          some (-(1 : Int))
        else
          bif ((decide (0 ≤ i_5)) && (decide (i_5 < (a_0.length : Int)))) then
          (laws_markText (w64 ((w64 (k_1 + 1)) + 1))).bind fun r1 =>
          bif (!((ByteArray.toList (a_0.getD i_5.toNat (⟨(0 : Int), (⟨#[]⟩ : ByteArray), (⟨#[]⟩ : ByteArray), (⟨#[]⟩ : ByteArray)⟩ : SAct)).fText) == (ByteArray.toList r1))) then
            some (-(1 : Int))
          else
            bif ((decide (0 ≤ i_5)) && (decide (i_5 < (a_0.length : Int)))) then
            (laws_markText (w64 ((w64 ((w64 (k_1 + 1)) + 1)) + 1))).bind fun r2 =>
            bif (!((ByteArray.toList (a_0.getD i_5.toNat (⟨(0 : Int), (⟨#[]⟩ : ByteArray), (⟨#[]⟩ : ByteArray), (⟨#[]⟩ : ByteArray)⟩ : SAct)).fTo) == (ByteArray.toList r2))) then
              some (-(1 : Int))
            else
              k (.c0 a_0 (w64 ((w64 ((w64 ((w64 (k_1 + 1)) + 1)) + 1)) + 1)) (w64 (i_5 + 1)))
            else none
          else none
        else none
      else none
    else
      some k_1
noncomputable def L_laws_heldActS : Nat → St_laws_heldActS → Option Int
  | 0, _ => none
  | m + 1, s => B_laws_heldActS laws_markText (L_laws_heldActS m) s
noncomputable def laws_heldActS (a_0 : (List SAct)) (k_1 : Int) : Option Int := E_laws_heldActS laws_markText (L_laws_heldActS gas) a_0 k_1
theorem e_laws_heldActS (laws_markText : Int → Option ByteArray) : EntryIs ctx PP 19 [] [(55, H_laws_markText laws_markText)] cv80 cv1 at_laws_heldActS (fun k a => E_laws_heldActS laws_markText k a.1 a.2) := fun stop a => by kernel_rfl
theorem b_laws_heldActS (laws_markText : Int → Option ByteArray) : CutIs ctx PP 19 Tryz.f19 [] [(55, H_laws_markText laws_markText)] cv1 at_laws_heldActS (B_laws_heldActS laws_markText) := fun stop s => by cases s <;> kernel_rfl
theorem i_laws_heldActS : ∀ s s', at_laws_heldActS s = at_laws_heldActS s' → s = s' := by
  intro s s' h
  cases s with
  | c0 v0 v1 v2 => cases s' with
    | c0 w0 w1 w2 => cases h; rfl
theorem ok_laws_heldActS : Tells ctx PP 19 cv80 cv1 (fun a => laws_heldActS a.1 a.2) := fn_ok (hl_cons h_laws_markText hl_nil) Tryz.func19 i_laws_heldActS (fun _ => rfl) (fun _ _ => rfl) (b_laws_heldActS laws_markText) (e_laws_heldActS laws_markText) gas
noncomputable def H_laws_heldActS {γ : Type} (F : (List SAct) → Int → Option Int) : Hd ctx γ := hdl cv80.dec (fun a => F a.1 a.2) cv1.enc
theorem h_laws_heldActS {γ : Type} : HdOk (γ := γ) PP 19 (H_laws_heldActS laws_heldActS) := hd_ok ok_laws_heldActS
noncomputable def E_laws_FnExactMount (laws_szDisk : SDisk → Int → Option Int) (laws_toDisk : SDisk → Option SDisk) (spec_Mount : ByteArray → SDisk → Option (SBook × (List SAct) × Bool)) (impl_Mount : ByteArray → SDisk → Option (SBook × (List SAct) × Bool)) (laws_eqBook : SBook → SBook → Option Bool) (laws_eqActS : (List SAct) → (List SAct) → Option Bool) (laws_eqDisk : SDisk → SDisk → Option Bool) (laws_markDisk : SDisk → Int → Option (Int × (List SFile))) (laws_markBook : SBook → Int → Option (Int × (List SThing))) (laws_markActS : (List SAct) → Int → Option (Int × (List SAct))) (laws_heldBook : SBook → Int → Option Int) (laws_heldActS : (List SAct) → Int → Option Int) (t_0 : ByteArray) (o_1 : SDisk) : Option Bool :=
  bif (decide ((t_0.size : Int) > 1048576)) then
    some true
  else
    (laws_szDisk o_1 (1048576 : Int)).bind fun r0 =>
    bif (decide (r0 < 0)) then
      some true
    else
      (laws_toDisk o_1).bind fun r1 =>
      (spec_Mount t_0 r1).bind fun r2 =>
      (laws_toDisk o_1).bind fun r3 =>
      (impl_Mount t_0 r3).bind fun r4 =>
      (laws_eqBook r4.1 r2.1).bind fun r5 =>
      bif (!r5) then
        some false
      else
        (laws_eqActS r4.2.1 r2.2.1).bind fun r6 =>
        bif (!r6) then
          some false
        else
          bif (!(r4.2.2 == r2.2.2)) then
            some false
          else
            (laws_toDisk o_1).bind fun r7 =>
            (laws_eqDisk r3 r7).bind fun r8 =>
            bif (!r8) then
              some false
            else
              (laws_markDisk r3 (1 : Int)).bind fun r9 =>
              bif (decide (r9.1 < 0)) then
                some false
              else
                (laws_eqBook r4.1 r2.1).bind fun r10 =>
                bif (!r10) then
                  some false
                else
                  (laws_eqActS r4.2.1 r2.2.1).bind fun r11 =>
                  bif (!r11) then
                    some false
                  else
                    bif (!(r4.2.2 == r2.2.2)) then
                      some false
                    else
                      (laws_markBook r4.1 (1 : Int)).bind fun r12 =>
                      (laws_markActS r4.2.1 r12.1).bind fun r13 =>
                      (laws_heldBook (⟨r4.1.fWord, r4.1.fTries, r12.2, r4.1.fLast, r4.1.fChain, r4.1.fCount⟩ : SBook) (1 : Int)).bind fun r14 =>
                      bif (decide (r14 < 0)) then
                        some false
                      else
                        (laws_heldActS r13.2 r14).bind fun r15 =>
                        bif (decide (r15 < 0)) then
                          some false
                        else
                          bif (r15 != r13.1) then
                            some false
                          else
                            (laws_toDisk o_1).bind fun r16 =>
                            (impl_Mount t_0 r16).bind fun r17 =>
                            (laws_eqBook r17.1 r2.1).bind fun r18 =>
                            bif (!r18) then
                              some false
                            else
                              (laws_eqActS r17.2.1 r2.2.1).bind fun r19 =>
                              bif (!r19) then
                                some false
                              else
                                bif (!(r17.2.2 == r2.2.2)) then
                                  some false
                                else
                                  (laws_heldBook (⟨r4.1.fWord, r4.1.fTries, r12.2, r4.1.fLast, r4.1.fChain, r4.1.fCount⟩ : SBook) (1 : Int)).bind fun r20 =>
                                  bif (decide (r20 < 0)) then
                                    some false
                                  else
                                    (laws_heldActS r13.2 r20).bind fun r21 =>
                                    bif (decide (r21 < 0)) then
                                      some false
                                    else
                                      bif (r21 != r13.1) then
                                        some false
                                      else
                                        some true
noncomputable def laws_FnExactMount (t_0 : ByteArray) (o_1 : SDisk) : Option Bool := E_laws_FnExactMount laws_szDisk laws_toDisk spec_Mount impl_Mount laws_eqBook laws_eqActS laws_eqDisk laws_markDisk laws_markBook laws_markActS laws_heldBook laws_heldActS t_0 o_1
theorem e_laws_FnExactMount (laws_szDisk : SDisk → Int → Option Int) (laws_toDisk : SDisk → Option SDisk) (spec_Mount : ByteArray → SDisk → Option (SBook × (List SAct) × Bool)) (impl_Mount : ByteArray → SDisk → Option (SBook × (List SAct) × Bool)) (laws_eqBook : SBook → SBook → Option Bool) (laws_eqActS : (List SAct) → (List SAct) → Option Bool) (laws_eqDisk : SDisk → SDisk → Option Bool) (laws_markDisk : SDisk → Int → Option (Int × (List SFile))) (laws_markBook : SBook → Int → Option (Int × (List SThing))) (laws_markActS : (List SAct) → Int → Option (Int × (List SAct))) (laws_heldBook : SBook → Int → Option Int) (laws_heldActS : (List SAct) → Int → Option Int) : EntryIs0 ctx PP 3 [] [(8, H_laws_szDisk laws_szDisk), (10, H_laws_toDisk laws_toDisk), (9, H_spec_Mount spec_Mount), (11, H_impl_Mount impl_Mount), (12, H_laws_eqBook laws_eqBook), (13, H_laws_eqActS laws_eqActS), (14, H_laws_eqDisk laws_eqDisk), (15, H_laws_markDisk laws_markDisk), (16, H_laws_markBook laws_markBook), (17, H_laws_markActS laws_markActS), (18, H_laws_heldBook laws_heldBook), (19, H_laws_heldActS laws_heldActS)] cv81 cv10 (fun a => E_laws_FnExactMount laws_szDisk laws_toDisk spec_Mount impl_Mount laws_eqBook laws_eqActS laws_eqDisk laws_markDisk laws_markBook laws_markActS laws_heldBook laws_heldActS a.1 a.2) := fun a => by kernel_rfl
theorem ok_laws_FnExactMount : Tells ctx PP 3 cv81 cv10 (fun a => laws_FnExactMount a.1 a.2) := fn_ok0 (hl_cons h_laws_szDisk (hl_cons h_laws_toDisk (hl_cons h_spec_Mount (hl_cons h_impl_Mount (hl_cons h_laws_eqBook (hl_cons h_laws_eqActS (hl_cons h_laws_eqDisk (hl_cons h_laws_markDisk (hl_cons h_laws_markBook (hl_cons h_laws_markActS (hl_cons h_laws_heldBook (hl_cons h_laws_heldActS hl_nil)))))))))))) Tryz.func3 (e_laws_FnExactMount laws_szDisk laws_toDisk spec_Mount impl_Mount laws_eqBook laws_eqActS laws_eqDisk laws_markDisk laws_markBook laws_markActS laws_heldBook laws_heldActS)
noncomputable def H_laws_FnExactMount {γ : Type} (F : ByteArray → SDisk → Option Bool) : Hd ctx γ := hdl cv81.dec (fun a => F a.1 a.2) cv10.enc
theorem h_laws_FnExactMount {γ : Type} : HdOk (γ := γ) PP 3 (H_laws_FnExactMount laws_FnExactMount) := hd_ok ok_laws_FnExactMount
end Go.Proofs.YteabefphhanlfaaGreatDoor.G

/- Functions of the program, told by plain functions: part 2 of 2. -/
import Derived.Test.YtldjkjjfoofccaaDoorFFnExactReadBooka
namespace Go.Proofs.YtldjkjjfoofccaaDoor.G
open Go Go.Ev
noncomputable def todo_laws_heldRecS_0 : List Go.Item := [.code (cAt (bodyOf Tryd.f49) [1, 0, 1, 0, 0, 0, 0]), .code (cAt (bodyOf Tryd.f49) [1, 0, 1, 0, 0, 0, 1]), .code (cAt (bodyOf Tryd.f49) [1, 0, 1, 0, 0, 1]), .inLoop (cAt (bodyOf Tryd.f49) [1, 0, 1, 0, 0]), .inBlock 0, .code (cAt (bodyOf Tryd.f49) [1, 1])]
inductive St_laws_heldRecS where
  | c0 (t_0 : (List SRec)) (o_1 : Int) (a_5 : Int)
noncomputable def at_laws_heldRecS : St_laws_heldRecS → LI
  | .c0 t_0 o_1 a_5 => (todo_laws_heldRecS_0, [(0, [.one (.rsl 35 t_0)]), (1, [.one (.int .i64 o_1)]), (5, [.one (.int .i64 a_5)])], [])
noncomputable def E_laws_heldRecS (laws_markText : Int → Option ByteArray) (k : St_laws_heldRecS → Option Int) (t_0 : (List SRec)) (o_1 : Int) : Option Int :=
  k (.c0 t_0 o_1 (0 : Int))
noncomputable def B_laws_heldRecS (laws_markText : Int → Option ByteArray) (k : St_laws_heldRecS → Option Int) : St_laws_heldRecS → Option Int
  | .c0 t_0 o_1 a_5 =>
    bif (decide (a_5 < (t_0.length : Int))) then
      bif ((decide (0 ≤ a_5)) && (decide (a_5 < (t_0.length : Int)))) then
      bif ((t_0.getD a_5.toNat (⟨(0 : Int), (⟨#[]⟩ : ByteArray), (0 : Int), (⟨(0 : Int), (0 : Int), false, false, false, false, (⟨#[]⟩ : ByteArray), (0 : Int)⟩ : SThing)⟩ : SRec)).fKind != o_1) then
        some (-(1 : Int))
      else
        bif ((decide (0 ≤ a_5)) && (decide (a_5 < (t_0.length : Int)))) then
        (laws_markText (w64 (o_1 + 1))).bind fun r0 =>
        bif (!((ByteArray.toList (t_0.getD a_5.toNat (⟨(0 : Int), (⟨#[]⟩ : ByteArray), (0 : Int), (⟨(0 : Int), (0 : Int), false, false, false, false, (⟨#[]⟩ : ByteArray), (0 : Int)⟩ : SThing)⟩ : SRec)).fText) == (ByteArray.toList r0))) then
          some (-(1 : Int))
        else
          bif ((decide (0 ≤ a_5)) && (decide (a_5 < (t_0.length : Int)))) then
          bif ((t_0.getD a_5.toNat (⟨(0 : Int), (⟨#[]⟩ : ByteArray), (0 : Int), (⟨(0 : Int), (0 : Int), false, false, false, false, (⟨#[]⟩ : ByteArray), (0 : Int)⟩ : SThing)⟩ : SRec)).fNum != (w64 ((w64 (o_1 + 1)) + 1))) then
            some (-(1 : Int))
          else
            bif ((decide (0 ≤ a_5)) && (decide (a_5 < (t_0.length : Int)))) then
            bif ((t_0.getD a_5.toNat (⟨(0 : Int), (⟨#[]⟩ : ByteArray), (0 : Int), (⟨(0 : Int), (0 : Int), false, false, false, false, (⟨#[]⟩ : ByteArray), (0 : Int)⟩ : SThing)⟩ : SRec)).fThing.fId != (w64 ((w64 ((w64 (o_1 + 1)) + 1)) + 1))) then
              some (-(1 : Int))
            else
              bif ((decide (0 ≤ a_5)) && (decide (a_5 < (t_0.length : Int)))) then
              bif ((t_0.getD a_5.toNat (⟨(0 : Int), (⟨#[]⟩ : ByteArray), (0 : Int), (⟨(0 : Int), (0 : Int), false, false, false, false, (⟨#[]⟩ : ByteArray), (0 : Int)⟩ : SThing)⟩ : SRec)).fThing.fKind != (w64 ((w64 ((w64 ((w64 (o_1 + 1)) + 1)) + 1)) + 1))) then
                some (-(1 : Int))
              else
                bif ((decide (0 ≤ a_5)) && (decide (a_5 < (t_0.length : Int)))) then
                bif (!((t_0.getD a_5.toNat (⟨(0 : Int), (⟨#[]⟩ : ByteArray), (0 : Int), (⟨(0 : Int), (0 : Int), false, false, false, false, (⟨#[]⟩ : ByteArray), (0 : Int)⟩ : SThing)⟩ : SRec)).fThing.fHidden == (((w64 ((w64 ((w64 ((w64 ((w64 (o_1 + 1)) + 1)) + 1)) + 1)) + 1)).tmod 3) == 0))) then
                  some (-(1 : Int))
                else
                  bif ((decide (0 ≤ a_5)) && (decide (a_5 < (t_0.length : Int)))) then
                  bif (!((t_0.getD a_5.toNat (⟨(0 : Int), (⟨#[]⟩ : ByteArray), (0 : Int), (⟨(0 : Int), (0 : Int), false, false, false, false, (⟨#[]⟩ : ByteArray), (0 : Int)⟩ : SThing)⟩ : SRec)).fThing.fFixed == (((w64 ((w64 ((w64 ((w64 ((w64 ((w64 (o_1 + 1)) + 1)) + 1)) + 1)) + 1)) + 1)).tmod 3) == 0))) then
                    some (-(1 : Int))
                  else
                    bif ((decide (0 ≤ a_5)) && (decide (a_5 < (t_0.length : Int)))) then
                    bif (!((t_0.getD a_5.toNat (⟨(0 : Int), (⟨#[]⟩ : ByteArray), (0 : Int), (⟨(0 : Int), (0 : Int), false, false, false, false, (⟨#[]⟩ : ByteArray), (0 : Int)⟩ : SThing)⟩ : SRec)).fThing.fSigns == (((w64 ((w64 ((w64 ((w64 ((w64 ((w64 ((w64 (o_1 + 1)) + 1)) + 1)) + 1)) + 1)) + 1)) + 1)).tmod 3) == 0))) then
                      some (-(1 : Int))
                    else
                      bif ((decide (0 ≤ a_5)) && (decide (a_5 < (t_0.length : Int)))) then
                      bif (!((t_0.getD a_5.toNat (⟨(0 : Int), (⟨#[]⟩ : ByteArray), (0 : Int), (⟨(0 : Int), (0 : Int), false, false, false, false, (⟨#[]⟩ : ByteArray), (0 : Int)⟩ : SThing)⟩ : SRec)).fThing.fWraps == (((w64 ((w64 ((w64 ((w64 ((w64 ((w64 ((w64 ((w64 (o_1 + 1)) + 1)) + 1)) + 1)) + 1)) + 1)) + 1)) + 1)).tmod 3) == 0))) then
                        some (-(1 : Int))
                      else
                        bif ((decide (0 ≤ a_5)) && (decide (a_5 < (t_0.length : Int)))) then
                        (laws_markText (w64 ((w64 ((w64 ((w64 ((w64 ((w64 ((w64 ((w64 ((w64 (o_1 + 1)) + 1)) + 1)) + 1)) + 1)) + 1)) + 1)) + 1)) + 1))).bind fun r1 =>
                        bif (!((ByteArray.toList (t_0.getD a_5.toNat (⟨(0 : Int), (⟨#[]⟩ : ByteArray), (0 : Int), (⟨(0 : Int), (0 : Int), false, false, false, false, (⟨#[]⟩ : ByteArray), (0 : Int)⟩ : SThing)⟩ : SRec)).fThing.fValue) == (ByteArray.toList r1))) then
                          some (-(1 : Int))
                        else
                          bif ((decide (0 ≤ a_5)) && (decide (a_5 < (t_0.length : Int)))) then
                          bif ((t_0.getD a_5.toNat (⟨(0 : Int), (⟨#[]⟩ : ByteArray), (0 : Int), (⟨(0 : Int), (0 : Int), false, false, false, false, (⟨#[]⟩ : ByteArray), (0 : Int)⟩ : SThing)⟩ : SRec)).fThing.fNext != (w64 ((w64 ((w64 ((w64 ((w64 ((w64 ((w64 ((w64 ((w64 ((w64 (o_1 + 1)) + 1)) + 1)) + 1)) + 1)) + 1)) + 1)) + 1)) + 1)) + 1))) then
                            some (-(1 : Int))
                          else
                            k (.c0 t_0 (w64 ((w64 ((w64 ((w64 ((w64 ((w64 ((w64 ((w64 ((w64 ((w64 ((w64 (o_1 + 1)) + 1)) + 1)) + 1)) + 1)) + 1)) + 1)) + 1)) + 1)) + 1)) + 1)) (w64 (a_5 + 1)))
                          else none
                        else none
                      else none
                    else none
                  else none
                else none
              else none
            else none
          else none
        else none
      else none
    else
      some o_1
noncomputable def L_laws_heldRecS : Nat → St_laws_heldRecS → Option Int
  | 0, _ => none
  | m + 1, s => B_laws_heldRecS laws_markText (L_laws_heldRecS m) s
noncomputable def laws_heldRecS (t_0 : (List SRec)) (o_1 : Int) : Option Int := E_laws_heldRecS laws_markText (L_laws_heldRecS gas) t_0 o_1
theorem e_laws_heldRecS (laws_markText : Int → Option ByteArray) : EntryIs ctx PP 49 [] [(67, H_laws_markText laws_markText)] cv123 cv0 at_laws_heldRecS (fun k a => E_laws_heldRecS laws_markText k a.1 a.2) := fun stop a => by kernel_rfl
theorem b_laws_heldRecS (laws_markText : Int → Option ByteArray) : CutIs ctx PP 49 Tryd.f49 [] [(67, H_laws_markText laws_markText)] cv0 at_laws_heldRecS (B_laws_heldRecS laws_markText) := fun stop s => by cases s <;> kernel_rfl
theorem i_laws_heldRecS : ∀ s s', at_laws_heldRecS s = at_laws_heldRecS s' → s = s' := by
  intro s s' h
  cases s with
  | c0 v0 v1 v2 => cases s' with
    | c0 w0 w1 w2 => cases h; rfl
theorem ok_laws_heldRecS : Tells ctx PP 49 cv123 cv0 (fun a => laws_heldRecS a.1 a.2) := fn_ok (hl_cons h_laws_markText hl_nil) Tryd.func49 i_laws_heldRecS (fun _ => rfl) (fun _ _ => rfl) (b_laws_heldRecS laws_markText) (e_laws_heldRecS laws_markText) gas
noncomputable def H_laws_heldRecS {γ : Type} (F : (List SRec) → Int → Option Int) : Hd ctx γ := hdl cv123.dec (fun a => F a.1 a.2) cv0.enc
theorem h_laws_heldRecS {γ : Type} : HdOk (γ := γ) PP 49 (H_laws_heldRecS laws_heldRecS) := hd_ok ok_laws_heldRecS
noncomputable def E_laws_FnExactReadBook (spec_ReadBook : ByteArray → ByteArray → Option ((List SRec) × Int)) (impl_ReadBook : ByteArray → ByteArray → Option ((List SRec) × Int)) (laws_eqRecS : (List SRec) → (List SRec) → Option Bool) (laws_markRecS : (List SRec) → Int → Option (Int × (List SRec))) (laws_heldRecS : (List SRec) → Int → Option Int) (aKey_0 : ByteArray) (aFile_1 : ByteArray) : Option Bool :=
  bif (decide ((aKey_0.size : Int) > 1048576)) then
    some true
  else
    bif (decide ((aFile_1.size : Int) > 1048576)) then
      some true
    else
      (spec_ReadBook aKey_0 aFile_1).bind fun r0 =>
      (impl_ReadBook aKey_0 aFile_1).bind fun r1 =>
      (laws_eqRecS r1.1 r0.1).bind fun r2 =>
      bif (!r2) then
        some false
      else
        bif (r1.2 != r0.2) then
          some false
        else
          (laws_markRecS r1.1 (1 : Int)).bind fun r3 =>
          (laws_heldRecS r3.2 (1 : Int)).bind fun r4 =>
          bif (decide (r4 < 0)) then
            some false
          else
            bif (r4 != r3.1) then
              some false
            else
              (impl_ReadBook aKey_0 aFile_1).bind fun r5 =>
              (laws_eqRecS r5.1 r0.1).bind fun r6 =>
              bif (!r6) then
                some false
              else
                bif (r5.2 != r0.2) then
                  some false
                else
                  (laws_heldRecS r3.2 (1 : Int)).bind fun r7 =>
                  bif (decide (r7 < 0)) then
                    some false
                  else
                    bif (r7 != r3.1) then
                      some false
                    else
                      some true
noncomputable def laws_FnExactReadBook (aKey_0 : ByteArray) (aFile_1 : ByteArray) : Option Bool := E_laws_FnExactReadBook spec_ReadBook impl_ReadBook laws_eqRecS laws_markRecS laws_heldRecS aKey_0 aFile_1
theorem e_laws_FnExactReadBook (spec_ReadBook : ByteArray → ByteArray → Option ((List SRec) × Int)) (impl_ReadBook : ByteArray → ByteArray → Option ((List SRec) × Int)) (laws_eqRecS : (List SRec) → (List SRec) → Option Bool) (laws_markRecS : (List SRec) → Int → Option (Int × (List SRec))) (laws_heldRecS : (List SRec) → Int → Option Int) : EntryIs0 ctx PP 11 [] [(47, H_spec_ReadBook spec_ReadBook), (48, H_impl_ReadBook impl_ReadBook), (27, H_laws_eqRecS laws_eqRecS), (46, H_laws_markRecS laws_markRecS), (49, H_laws_heldRecS laws_heldRecS)] cv15 cv3 (fun a => E_laws_FnExactReadBook spec_ReadBook impl_ReadBook laws_eqRecS laws_markRecS laws_heldRecS a.1 a.2) := fun a => by kernel_rfl
theorem ok_laws_FnExactReadBook : Tells ctx PP 11 cv15 cv3 (fun a => laws_FnExactReadBook a.1 a.2) := fn_ok0 (hl_cons h_spec_ReadBook (hl_cons h_impl_ReadBook (hl_cons h_laws_eqRecS (hl_cons h_laws_markRecS (hl_cons h_laws_heldRecS hl_nil))))) Tryd.func11 (e_laws_FnExactReadBook spec_ReadBook impl_ReadBook laws_eqRecS laws_markRecS laws_heldRecS)
noncomputable def H_laws_FnExactReadBook {γ : Type} (F : ByteArray → ByteArray → Option Bool) : Hd ctx γ := hdl cv15.dec (fun a => F a.1 a.2) cv3.enc
theorem h_laws_FnExactReadBook {γ : Type} : HdOk (γ := γ) PP 11 (H_laws_FnExactReadBook laws_FnExactReadBook) := hd_ok ok_laws_FnExactReadBook
end Go.Proofs.YtldjkjjfoofccaaDoor.G

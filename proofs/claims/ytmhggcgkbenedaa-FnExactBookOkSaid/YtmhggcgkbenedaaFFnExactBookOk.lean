/- Functions of the program, told by plain functions: part 1 of 1. -/
import Derived.Test.YtmhggcgkbenedaaCtx
namespace Go.Proofs.Ytmhggcgkbenedaa.G
open Go Go.Ev
noncomputable def E_laws_szThing  (a_0 : SThing) (left_1 : Int) : Option Int :=
  bif (decide ((w64 (left_1 - (a_0.fValue.size : Int))) < 0)) then
    some (-(1 : Int))
  else
    some (w64 (left_1 - (a_0.fValue.size : Int)))
noncomputable def laws_szThing (a_0 : SThing) (left_1 : Int) : Option Int := E_laws_szThing  a_0 left_1
theorem e_laws_szThing  : EntryIs0 ctx PP 11 [] [] cv0 cv1 (fun a => E_laws_szThing  a.1 a.2) := fun a => by kernel_rfl
theorem ok_laws_szThing : Tells ctx PP 11 cv0 cv1 (fun a => laws_szThing a.1 a.2) := fn_ok0 hl_nil Try.func11 (e_laws_szThing )
noncomputable def H_laws_szThing {γ : Type} (F : SThing → Int → Option Int) : Hd ctx γ := hdl cv0.dec (fun a => F a.1 a.2) cv1.enc
theorem h_laws_szThing {γ : Type} : HdOk (γ := γ) PP 11 (H_laws_szThing laws_szThing) := hd_ok ok_laws_szThing
noncomputable def todo_laws_szThingS_0 : List Go.Item := [.code (cAt (bodyOf Try.f66) [1, 1, 1, 0, 1, 0, 0, 0, 0]), .code (cAt (bodyOf Try.f66) [1, 1, 1, 0, 1, 0, 0, 0, 1]), .code (cAt (bodyOf Try.f66) [1, 1, 1, 0, 1, 0, 0, 1]), .inLoop (cAt (bodyOf Try.f66) [1, 1, 1, 0, 1, 0, 0]), .inBlock 0, .code (cAt (bodyOf Try.f66) [1, 1, 1, 1])]
inductive St_laws_szThingS where
  | c0 (a_0 : (List SThing)) (left_1 : Int) (i_5 : Int)
noncomputable def at_laws_szThingS : St_laws_szThingS → LI
  | .c0 a_0 left_1 i_5 => (todo_laws_szThingS_0, [(0, [.one (.rsl 23 a_0)]), (1, [.one (.int .i64 left_1)]), (5, [.one (.int .i64 i_5)])], [])
noncomputable def E_laws_szThingS (laws_szThing : SThing → Int → Option Int) (k : St_laws_szThingS → Option Int) (a_0 : (List SThing)) (left_1 : Int) : Option Int :=
  bif (decide ((w64 (left_1 - (a_0.length : Int))) < 0)) then
    some (-(1 : Int))
  else
    k (.c0 a_0 (w64 (left_1 - (a_0.length : Int))) (0 : Int))
noncomputable def B_laws_szThingS (laws_szThing : SThing → Int → Option Int) (k : St_laws_szThingS → Option Int) : St_laws_szThingS → Option Int
  | .c0 a_0 left_1 i_5 =>
    bif (decide (i_5 < (a_0.length : Int))) then
      bif ((decide (0 ≤ i_5)) && (decide (i_5 < (a_0.length : Int)))) then
      (laws_szThing (a_0.getD i_5.toNat (⟨(0 : Int), (0 : Int), false, false, false, false, (⟨#[]⟩ : ByteArray), (0 : Int)⟩ : SThing)) left_1).bind fun r0 =>
      bif (decide (r0 < 0)) then
        some (-(1 : Int))
      else
        k (.c0 a_0 r0 (w64 (i_5 + 1)))
      else none
    else
      some left_1
noncomputable def L_laws_szThingS : Nat → St_laws_szThingS → Option Int
  | 0, _ => none
  | m + 1, s => B_laws_szThingS laws_szThing (L_laws_szThingS m) s
noncomputable def laws_szThingS (a_0 : (List SThing)) (left_1 : Int) : Option Int := E_laws_szThingS laws_szThing (L_laws_szThingS gas) a_0 left_1
theorem e_laws_szThingS (laws_szThing : SThing → Int → Option Int) : EntryIs ctx PP 66 [] [(11, H_laws_szThing laws_szThing)] cv31 cv1 at_laws_szThingS (fun k a => E_laws_szThingS laws_szThing k a.1 a.2) := fun stop a => by kernel_rfl
theorem b_laws_szThingS (laws_szThing : SThing → Int → Option Int) : CutIs ctx PP 66 Try.f66 [] [(11, H_laws_szThing laws_szThing)] cv1 at_laws_szThingS (B_laws_szThingS laws_szThing) := fun stop s => by cases s <;> kernel_rfl
theorem i_laws_szThingS : ∀ s s', at_laws_szThingS s = at_laws_szThingS s' → s = s' := by
  intro s s' h
  cases s with
  | c0 v0 v1 v2 => cases s' with
    | c0 w0 w1 w2 => cases h; rfl
theorem ok_laws_szThingS : Tells ctx PP 66 cv31 cv1 (fun a => laws_szThingS a.1 a.2) := fn_ok (hl_cons h_laws_szThing hl_nil) Try.func66 i_laws_szThingS (fun _ => rfl) (fun _ _ => rfl) (b_laws_szThingS laws_szThing) (e_laws_szThingS laws_szThing) gas
noncomputable def H_laws_szThingS {γ : Type} (F : (List SThing) → Int → Option Int) : Hd ctx γ := hdl cv31.dec (fun a => F a.1 a.2) cv1.enc
theorem h_laws_szThingS {γ : Type} : HdOk (γ := γ) PP 66 (H_laws_szThingS laws_szThingS) := hd_ok ok_laws_szThingS
noncomputable def E_laws_szBook (laws_szThingS : (List SThing) → Int → Option Int) (a_0 : SBook) (left_1 : Int) : Option Int :=
  bif (decide ((w64 (left_1 - (a_0.fWord.size : Int))) < 0)) then
    some (-(1 : Int))
  else
    (laws_szThingS a_0.fThings (w64 (left_1 - (a_0.fWord.size : Int)))).bind fun r0 =>
    bif (decide (r0 < 0)) then
      some (-(1 : Int))
    else
      bif (decide ((w64 (r0 - (a_0.fChain.size : Int))) < 0)) then
        some (-(1 : Int))
      else
        some (w64 (r0 - (a_0.fChain.size : Int)))
noncomputable def laws_szBook (a_0 : SBook) (left_1 : Int) : Option Int := E_laws_szBook laws_szThingS a_0 left_1
theorem e_laws_szBook (laws_szThingS : (List SThing) → Int → Option Int) : EntryIs0 ctx PP 29 [] [(66, H_laws_szThingS laws_szThingS)] cv32 cv1 (fun a => E_laws_szBook laws_szThingS a.1 a.2) := fun a => by kernel_rfl
theorem ok_laws_szBook : Tells ctx PP 29 cv32 cv1 (fun a => laws_szBook a.1 a.2) := fn_ok0 (hl_cons h_laws_szThingS hl_nil) Try.func29 (e_laws_szBook laws_szThingS)
noncomputable def H_laws_szBook {γ : Type} (F : SBook → Int → Option Int) : Hd ctx γ := hdl cv32.dec (fun a => F a.1 a.2) cv1.enc
theorem h_laws_szBook {γ : Type} : HdOk (γ := γ) PP 29 (H_laws_szBook laws_szBook) := hd_ok ok_laws_szBook
noncomputable def E_laws_toThing  (a_0 : SThing) : Option SThing :=
  some a_0
noncomputable def laws_toThing (a_0 : SThing) : Option SThing := E_laws_toThing  a_0
theorem e_laws_toThing  : EntryIs0 ctx PP 13 [] [] cv2 cv2 (fun a => E_laws_toThing  a) := fun a => by kernel_rfl
theorem ok_laws_toThing : Tells ctx PP 13 cv2 cv2 (fun a => laws_toThing a) := fn_ok0 hl_nil Try.func13 (e_laws_toThing )
noncomputable def H_laws_toThing {γ : Type} (F : SThing → Option SThing) : Hd ctx γ := hdl cv2.dec (fun a => F a) cv2.enc
theorem h_laws_toThing {γ : Type} : HdOk (γ := γ) PP 13 (H_laws_toThing laws_toThing) := hd_ok ok_laws_toThing
noncomputable def todo_laws_toThingS_0 : List Go.Item := [.code (cAt (bodyOf Try.f67) [1, 1, 0, 1, 0, 0, 0, 0]), .code (cAt (bodyOf Try.f67) [1, 1, 0, 1, 0, 0, 0, 1]), .code (cAt (bodyOf Try.f67) [1, 1, 0, 1, 0, 0, 1]), .inLoop (cAt (bodyOf Try.f67) [1, 1, 0, 1, 0, 0]), .inBlock 0, .code (cAt (bodyOf Try.f67) [1, 1, 1])]
inductive St_laws_toThingS where
  | c0 (a_0 : (List SThing)) (i_4 : Int) (out_3 : (List SThing))
noncomputable def at_laws_toThingS : St_laws_toThingS → LI
  | .c0 a_0 i_4 out_3 => (todo_laws_toThingS_0, [(0, [.one (.rsl 23 a_0)]), (3, [.one (.own 240)]), (4, [.one (.int .i64 i_4)])], [(240, .sl 27 out_3)])
noncomputable def E_laws_toThingS (laws_toThing : SThing → Option SThing) (k : St_laws_toThingS → Option (List SThing)) (a_0 : (List SThing)) : Option (List SThing) :=
  bif ((((decide (0 ≤ (a_0.length : Int))) && (decide ((a_0.length : Int) ≤ (a_0.length : Int)))) && (decide ((a_0.length : Int) ≤ 9223372036854775807))) && (decide (((a_0.length : Int).toNat * 48) ≤ 140737488355328))) then
  k (.c0 a_0 (0 : Int) (List.replicate (a_0.length : Int).toNat (⟨(0 : Int), (0 : Int), false, false, false, false, (⟨#[]⟩ : ByteArray), (0 : Int)⟩ : SThing)))
  else none
noncomputable def B_laws_toThingS (laws_toThing : SThing → Option SThing) (k : St_laws_toThingS → Option (List SThing)) : St_laws_toThingS → Option (List SThing)
  | .c0 a_0 i_4 out_3 =>
    bif (decide (i_4 < (a_0.length : Int))) then
      bif ((decide (0 ≤ i_4)) && (decide (i_4 < (a_0.length : Int)))) then
      (laws_toThing (a_0.getD i_4.toNat (⟨(0 : Int), (0 : Int), false, false, false, false, (⟨#[]⟩ : ByteArray), (0 : Int)⟩ : SThing))).bind fun r0 =>
      bif ((decide (0 ≤ i_4)) && (decide (i_4 < (out_3.length : Int)))) then
      k (.c0 a_0 (w64 (i_4 + 1)) (out_3.set i_4.toNat r0))
      else none
      else none
    else
      some out_3
noncomputable def L_laws_toThingS : Nat → St_laws_toThingS → Option (List SThing)
  | 0, _ => none
  | m + 1, s => B_laws_toThingS laws_toThing (L_laws_toThingS m) s
noncomputable def laws_toThingS (a_0 : (List SThing)) : Option (List SThing) := E_laws_toThingS laws_toThing (L_laws_toThingS gas) a_0
theorem e_laws_toThingS (laws_toThing : SThing → Option SThing) : EntryIs ctx PP 67 [] [(13, H_laws_toThing laws_toThing)] cv33 cv34 at_laws_toThingS (fun k a => E_laws_toThingS laws_toThing k a) := fun stop a => by kernel_rfl
theorem b_laws_toThingS (laws_toThing : SThing → Option SThing) : CutIs ctx PP 67 Try.f67 [] [(13, H_laws_toThing laws_toThing)] cv34 at_laws_toThingS (B_laws_toThingS laws_toThing) := fun stop s => by cases s <;> kernel_rfl
theorem i_laws_toThingS : ∀ s s', at_laws_toThingS s = at_laws_toThingS s' → s = s' := by
  intro s s' h
  cases s with
  | c0 v0 v1 v2 => cases s' with
    | c0 w0 w1 w2 => cases h; rfl
theorem ok_laws_toThingS : Tells ctx PP 67 cv33 cv34 (fun a => laws_toThingS a) := fn_ok (hl_cons h_laws_toThing hl_nil) Try.func67 i_laws_toThingS (fun _ => rfl) (fun _ _ => rfl) (b_laws_toThingS laws_toThing) (e_laws_toThingS laws_toThing) gas
noncomputable def H_laws_toThingS {γ : Type} (F : (List SThing) → Option (List SThing)) : Hd ctx γ := hdl cv33.dec (fun a => F a) cv34.enc
theorem h_laws_toThingS {γ : Type} : HdOk (γ := γ) PP 67 (H_laws_toThingS laws_toThingS) := hd_ok ok_laws_toThingS
noncomputable def E_laws_toBook (laws_toThingS : (List SThing) → Option (List SThing)) (a_0 : SBook) : Option SBook :=
  (laws_toThingS a_0.fThings).bind fun r0 =>
  some (⟨a_0.fWord, a_0.fTries, r0, a_0.fLast, a_0.fChain, a_0.fCount⟩ : SBook)
noncomputable def laws_toBook (a_0 : SBook) : Option SBook := E_laws_toBook laws_toThingS a_0
theorem e_laws_toBook (laws_toThingS : (List SThing) → Option (List SThing)) : EntryIs0 ctx PP 31 [] [(67, H_laws_toThingS laws_toThingS)] cv35 cv36 (fun a => E_laws_toBook laws_toThingS a) := fun a => by kernel_rfl
theorem ok_laws_toBook : Tells ctx PP 31 cv35 cv36 (fun a => laws_toBook a) := fn_ok0 (hl_cons h_laws_toThingS hl_nil) Try.func31 (e_laws_toBook laws_toThingS)
noncomputable def H_laws_toBook {γ : Type} (F : SBook → Option SBook) : Hd ctx γ := hdl cv35.dec (fun a => F a) cv36.enc
theorem h_laws_toBook {γ : Type} : HdOk (γ := γ) PP 31 (H_laws_toBook laws_toBook) := hd_ok ok_laws_toBook
noncomputable def E_spec_l01In  (x_0 : Int) (least_1 : Int) (most_2 : Int) : Option Bool :=
  bif (decide (x_0 ≥ least_1)) then
    some (decide (x_0 ≤ most_2))
  else
    some false
noncomputable def spec_l01In (x_0 : Int) (least_1 : Int) (most_2 : Int) : Option Bool := E_spec_l01In  x_0 least_1 most_2
theorem e_spec_l01In  : EntryIs0 ctx PP 70 [] [] cv3 cv4 (fun a => E_spec_l01In  a.1 a.2.1 a.2.2) := fun a => by kernel_rfl
theorem ok_spec_l01In : Tells ctx PP 70 cv3 cv4 (fun a => spec_l01In a.1 a.2.1 a.2.2) := fn_ok0 hl_nil Try.func70 (e_spec_l01In )
noncomputable def H_spec_l01In {γ : Type} (F : Int → Int → Int → Option Bool) : Hd ctx γ := hdl cv3.dec (fun a => F a.1 a.2.1 a.2.2) cv4.enc
theorem h_spec_l01In {γ : Type} : HdOk (γ := γ) PP 70 (H_spec_l01In spec_l01In) := hd_ok ok_spec_l01In
noncomputable def E_spec_ThingOk (spec_l01In : Int → Int → Int → Option Bool) (x_0 : SThing) : Option Bool :=
  (spec_l01In x_0.fId (1 : Int) (1000 : Int)).bind fun r0 =>
  bif (!r0) then
    some false
  else
    (spec_l01In x_0.fKind (1 : Int) (3 : Int)).bind fun r1 =>
    bif (!r1) then
      some false
    else
      (spec_l01In x_0.fNext (0 : Int) (16 : Int)).bind fun r2 =>
      bif (!r2) then
        some false
      else
        bif (x_0.fKind != 2) then
          bif (x_0.fNext != 0) then
            some false
          else
            bif x_0.fSigns then
              some false
            else
              bif (x_0.fKind != 1) then
                bif x_0.fWraps then
                  some false
                else
                  bif (x_0.fKind == 3) then
                    some (decide ((x_0.fValue.size : Int) ≤ 100))
                  else
                    some ((x_0.fValue.size : Int) == 32)
              else
                bif (x_0.fKind == 3) then
                  some (decide ((x_0.fValue.size : Int) ≤ 100))
                else
                  some ((x_0.fValue.size : Int) == 32)
        else
          bif (x_0.fKind != 1) then
            bif x_0.fWraps then
              some false
            else
              bif (x_0.fKind == 3) then
                some (decide ((x_0.fValue.size : Int) ≤ 100))
              else
                some ((x_0.fValue.size : Int) == 32)
          else
            bif (x_0.fKind == 3) then
              some (decide ((x_0.fValue.size : Int) ≤ 100))
            else
              some ((x_0.fValue.size : Int) == 32)
noncomputable def spec_ThingOk (x_0 : SThing) : Option Bool := E_spec_ThingOk spec_l01In x_0
theorem e_spec_ThingOk (spec_l01In : Int → Int → Int → Option Bool) : EntryIs0 ctx PP 46 [] [(70, H_spec_l01In spec_l01In)] cv2 cv4 (fun a => E_spec_ThingOk spec_l01In a) := fun a => by kernel_rfl
theorem ok_spec_ThingOk : Tells ctx PP 46 cv2 cv4 (fun a => spec_ThingOk a) := fn_ok0 (hl_cons h_spec_l01In hl_nil) Try.func46 (e_spec_ThingOk spec_l01In)
noncomputable def H_spec_ThingOk {γ : Type} (F : SThing → Option Bool) : Hd ctx γ := hdl cv2.dec (fun a => F a) cv4.enc
theorem h_spec_ThingOk {γ : Type} : HdOk (γ := γ) PP 46 (H_spec_ThingOk spec_ThingOk) := hd_ok ok_spec_ThingOk
noncomputable def todo_spec_BookOk_0 : List Go.Item := [.code (cAt (bodyOf Try.f39) [1, 1, 0, 1, 0, 0, 0, 0]), .code (cAt (bodyOf Try.f39) [1, 1, 0, 1, 0, 0, 0, 1]), .code (cAt (bodyOf Try.f39) [1, 1, 0, 1, 0, 0, 1]), .inLoop (cAt (bodyOf Try.f39) [1, 1, 0, 1, 0, 0]), .inBlock 0, .code (cAt (bodyOf Try.f39) [1, 1, 1])]
inductive St_spec_BookOk where
  | c0 (i_3 : Int) (b_1 : SBook)
noncomputable def at_spec_BookOk : St_spec_BookOk → LI
  | .c0 i_3 b_1 => (todo_spec_BookOk_0, [(1, [.one (.ptr 64 0)]), (3, [.one (.int .i64 i_3)])], [(64, .var [.str b_1.fWord, .int .i64 b_1.fTries, .rsl 27 b_1.fThings, .int .i64 b_1.fLast, .str b_1.fChain, .int .i64 b_1.fCount])])
noncomputable def E_spec_BookOk (spec_l01In : Int → Int → Int → Option Bool) (spec_ThingOk : SThing → Option Bool) (k : St_spec_BookOk → Option Bool) (b_0 : SBook) : Option Bool :=
  bif ((b_0.fWord.size : Int) != 32) then
    some false
  else
    bif ((b_0.fChain.size : Int) != 32) then
      some false
    else
      (spec_l01In b_0.fTries (0 : Int) (3 : Int)).bind fun r0 =>
      bif (!r0) then
        some false
      else
        bif (decide ((b_0.fThings.length : Int) > 8)) then
          some false
        else
          (spec_l01In b_0.fLast (0 : Int) (1000 : Int)).bind fun r1 =>
          bif (!r1) then
            some false
          else
            (spec_l01In b_0.fCount (0 : Int) (10000 : Int)).bind fun r2 =>
            bif (!r2) then
              some false
            else
              k (.c0 (0 : Int) b_0)
noncomputable def B_spec_BookOk (spec_l01In : Int → Int → Int → Option Bool) (spec_ThingOk : SThing → Option Bool) (k : St_spec_BookOk → Option Bool) : St_spec_BookOk → Option Bool
  | .c0 i_3 b_1 =>
    bif (decide (i_3 < (b_1.fThings.length : Int))) then
      bif ((decide (0 ≤ i_3)) && (decide (i_3 < (b_1.fThings.length : Int)))) then
      (spec_ThingOk (b_1.fThings.getD i_3.toNat (⟨(0 : Int), (0 : Int), false, false, false, false, (⟨#[]⟩ : ByteArray), (0 : Int)⟩ : SThing))).bind fun r0 =>
      bif (!r0) then
        some false
      else
        bif ((decide (0 ≤ i_3)) && (decide (i_3 < (b_1.fThings.length : Int)))) then
        bif (decide ((b_1.fThings.getD i_3.toNat (⟨(0 : Int), (0 : Int), false, false, false, false, (⟨#[]⟩ : ByteArray), (0 : Int)⟩ : SThing)).fId > b_1.fLast)) then
          some false
        else
          bif (decide (i_3 > 0)) then
            bif ((decide (0 ≤ (w64 (i_3 - 1)))) && (decide ((w64 (i_3 - 1)) < (b_1.fThings.length : Int)))) then
            bif ((decide (0 ≤ i_3)) && (decide (i_3 < (b_1.fThings.length : Int)))) then
            bif (decide ((b_1.fThings.getD (w64 (i_3 - 1)).toNat (⟨(0 : Int), (0 : Int), false, false, false, false, (⟨#[]⟩ : ByteArray), (0 : Int)⟩ : SThing)).fId ≥ (b_1.fThings.getD i_3.toNat (⟨(0 : Int), (0 : Int), false, false, false, false, (⟨#[]⟩ : ByteArray), (0 : Int)⟩ : SThing)).fId)) then
              some false
            else
              k (.c0 (w64 (i_3 + 1)) b_1)
            else none
            else none
          else
            k (.c0 (w64 (i_3 + 1)) b_1)
        else none
      else none
    else
      some true
noncomputable def L_spec_BookOk : Nat → St_spec_BookOk → Option Bool
  | 0, _ => none
  | m + 1, s => B_spec_BookOk spec_l01In spec_ThingOk (L_spec_BookOk m) s
noncomputable def spec_BookOk (b_0 : SBook) : Option Bool := E_spec_BookOk spec_l01In spec_ThingOk (L_spec_BookOk gas) b_0
theorem e_spec_BookOk (spec_l01In : Int → Int → Int → Option Bool) (spec_ThingOk : SThing → Option Bool) : EntryIs ctx PP 39 [] [(70, H_spec_l01In spec_l01In), (46, H_spec_ThingOk spec_ThingOk)] cv44 cv4 at_spec_BookOk (fun k a => E_spec_BookOk spec_l01In spec_ThingOk k a) := fun stop a => by kernel_rfl
theorem b_spec_BookOk (spec_l01In : Int → Int → Int → Option Bool) (spec_ThingOk : SThing → Option Bool) : CutIs ctx PP 39 Try.f39 [] [(70, H_spec_l01In spec_l01In), (46, H_spec_ThingOk spec_ThingOk)] cv4 at_spec_BookOk (B_spec_BookOk spec_l01In spec_ThingOk) := fun stop s => by cases s <;> kernel_rfl
theorem i_spec_BookOk : ∀ s s', at_spec_BookOk s = at_spec_BookOk s' → s = s' := by
  intro s s' h
  cases s with
  | c0 v0 v1 => cases s' with
    | c0 w0 w1 => obtain ⟨_, _, _, _, _, _⟩ := v1; obtain ⟨_, _, _, _, _, _⟩ := w1; cases h; rfl
theorem ok_spec_BookOk : Tells ctx PP 39 cv44 cv4 (fun a => spec_BookOk a) := fn_ok (hl_cons h_spec_l01In (hl_cons h_spec_ThingOk hl_nil)) Try.func39 i_spec_BookOk (fun _ => rfl) (fun _ _ => rfl) (b_spec_BookOk spec_l01In spec_ThingOk) (e_spec_BookOk spec_l01In spec_ThingOk) gas
noncomputable def H_spec_BookOk {γ : Type} (F : SBook → Option Bool) : Hd ctx γ := hdl cv44.dec (fun a => F a) cv4.enc
theorem h_spec_BookOk {γ : Type} : HdOk (γ := γ) PP 39 (H_spec_BookOk spec_BookOk) := hd_ok ok_spec_BookOk
noncomputable def E_impl_in  (n_0 : Int) (low_1 : Int) (high_2 : Int) : Option Bool :=
  bif (decide (n_0 ≥ low_1)) then
    some (decide (n_0 ≤ high_2))
  else
    some false
noncomputable def impl_in (n_0 : Int) (low_1 : Int) (high_2 : Int) : Option Bool := E_impl_in  n_0 low_1 high_2
theorem e_impl_in  : EntryIs0 ctx PP 71 [] [] cv3 cv4 (fun a => E_impl_in  a.1 a.2.1 a.2.2) := fun a => by kernel_rfl
theorem ok_impl_in : Tells ctx PP 71 cv3 cv4 (fun a => impl_in a.1 a.2.1 a.2.2) := fn_ok0 hl_nil Try.func71 (e_impl_in )
noncomputable def H_impl_in {γ : Type} (F : Int → Int → Int → Option Bool) : Hd ctx γ := hdl cv3.dec (fun a => F a.1 a.2.1 a.2.2) cv4.enc
theorem h_impl_in {γ : Type} : HdOk (γ := γ) PP 71 (H_impl_in impl_in) := hd_ok ok_impl_in
noncomputable def E_impl_ThingOk (impl_in : Int → Int → Int → Option Bool) (x_0 : SThing) : Option Bool :=
  (impl_in x_0.fId (1 : Int) (1000 : Int)).bind fun r0 =>
  bif (!r0) then
    some false
  else
    (impl_in x_0.fNext (0 : Int) (16 : Int)).bind fun r1 =>
    bif (!r1) then
      some false
    else
      bif (x_0.fKind != 2) then
        bif (x_0.fNext != 0) then
          some false
        else
          bif x_0.fSigns then
            some false
          else
            bif (x_0.fKind != 1) then
              bif x_0.fWraps then
                some false
              else
                bif (x_0.fKind == 1) then
                  bif (x_0.fKind == 1) then
                    some ((x_0.fValue.size : Int) == 32)
                  else
                    bif (x_0.fKind == 3) then
                      some (decide ((x_0.fValue.size : Int) ≤ 100))
                    else
                      some false
                else
                  bif (x_0.fKind == 2) then
                    some ((x_0.fValue.size : Int) == 32)
                  else
                    bif (x_0.fKind == 3) then
                      some (decide ((x_0.fValue.size : Int) ≤ 100))
                    else
                      some false
            else
              bif (x_0.fKind == 1) then
                bif (x_0.fKind == 1) then
                  some ((x_0.fValue.size : Int) == 32)
                else
                  bif (x_0.fKind == 3) then
                    some (decide ((x_0.fValue.size : Int) ≤ 100))
                  else
                    some false
              else
                bif (x_0.fKind == 2) then
                  some ((x_0.fValue.size : Int) == 32)
                else
                  bif (x_0.fKind == 3) then
                    some (decide ((x_0.fValue.size : Int) ≤ 100))
                  else
                    some false
      else
        bif (x_0.fKind != 1) then
          bif x_0.fWraps then
            some false
          else
            bif (x_0.fKind == 1) then
              bif (x_0.fKind == 1) then
                some ((x_0.fValue.size : Int) == 32)
              else
                bif (x_0.fKind == 3) then
                  some (decide ((x_0.fValue.size : Int) ≤ 100))
                else
                  some false
            else
              bif (x_0.fKind == 2) then
                some ((x_0.fValue.size : Int) == 32)
              else
                bif (x_0.fKind == 3) then
                  some (decide ((x_0.fValue.size : Int) ≤ 100))
                else
                  some false
        else
          bif (x_0.fKind == 1) then
            bif (x_0.fKind == 1) then
              some ((x_0.fValue.size : Int) == 32)
            else
              bif (x_0.fKind == 3) then
                some (decide ((x_0.fValue.size : Int) ≤ 100))
              else
                some false
          else
            bif (x_0.fKind == 2) then
              some ((x_0.fValue.size : Int) == 32)
            else
              bif (x_0.fKind == 3) then
                some (decide ((x_0.fValue.size : Int) ≤ 100))
              else
                some false
noncomputable def impl_ThingOk (x_0 : SThing) : Option Bool := E_impl_ThingOk impl_in x_0
theorem e_impl_ThingOk (impl_in : Int → Int → Int → Option Bool) : EntryIs0 ctx PP 51 [] [(71, H_impl_in impl_in)] cv2 cv4 (fun a => E_impl_ThingOk impl_in a) := fun a => by kernel_rfl
theorem ok_impl_ThingOk : Tells ctx PP 51 cv2 cv4 (fun a => impl_ThingOk a) := fn_ok0 (hl_cons h_impl_in hl_nil) Try.func51 (e_impl_ThingOk impl_in)
noncomputable def H_impl_ThingOk {γ : Type} (F : SThing → Option Bool) : Hd ctx γ := hdl cv2.dec (fun a => F a) cv4.enc
theorem h_impl_ThingOk {γ : Type} : HdOk (γ := γ) PP 51 (H_impl_ThingOk impl_ThingOk) := hd_ok ok_impl_ThingOk
noncomputable def todo_impl_BookOk_0 : List Go.Item := [.code (cAt (bodyOf Try.f40) [1, 0, 1, 0, 0, 0]), .code (cAt (bodyOf Try.f40) [1, 0, 1, 0, 0, 1]), .inLoop (cAt (bodyOf Try.f40) [1, 0, 1, 0, 0]), .inBlock 0, .code (cAt (bodyOf Try.f40) [1, 1])]
inductive St_impl_BookOk where
  | c0 (v_6 : (List SThing)) (v_7 : Int) (v_8 : Int) (b_1 : SBook)
noncomputable def at_impl_BookOk : St_impl_BookOk → LI
  | .c0 v_6 v_7 v_8 b_1 => (todo_impl_BookOk_0, [(1, [.one (.ptr 64 0)]), (6, [.one (.rsl 27 v_6)]), (7, [.one (.int .i64 v_7)]), (8, [.one (.int .i64 v_8)])], [(64, .var [.str b_1.fWord, .int .i64 b_1.fTries, .rsl 27 b_1.fThings, .int .i64 b_1.fLast, .str b_1.fChain, .int .i64 b_1.fCount])])
noncomputable def E_impl_BookOk (impl_ThingOk : SThing → Option Bool) (impl_in : Int → Int → Int → Option Bool) (k : St_impl_BookOk → Option Bool) (b_0 : SBook) : Option Bool :=
  k (.c0 b_0.fThings (b_0.fThings.length : Int) (0 : Int) b_0)
noncomputable def B_impl_BookOk (impl_ThingOk : SThing → Option Bool) (impl_in : Int → Int → Int → Option Bool) (k : St_impl_BookOk → Option Bool) : St_impl_BookOk → Option Bool
  | .c0 v_6 v_7 v_8 b_1 =>
    bif (decide (v_8 < v_7)) then
      bif ((decide (0 ≤ v_8)) && (decide (v_8 < (v_6.length : Int)))) then
      (impl_ThingOk (v_6.getD v_8.toNat (⟨(0 : Int), (0 : Int), false, false, false, false, (⟨#[]⟩ : ByteArray), (0 : Int)⟩ : SThing))).bind fun r0 =>
      bif (!r0) then
        some false
      else
        bif (decide ((v_6.getD v_8.toNat (⟨(0 : Int), (0 : Int), false, false, false, false, (⟨#[]⟩ : ByteArray), (0 : Int)⟩ : SThing)).fId > b_1.fLast)) then
          some false
        else
          bif (decide (v_8 > 0)) then
            bif ((decide (0 ≤ (w64 (v_8 - 1)))) && (decide ((w64 (v_8 - 1)) < (b_1.fThings.length : Int)))) then
            bif (decide ((b_1.fThings.getD (w64 (v_8 - 1)).toNat (⟨(0 : Int), (0 : Int), false, false, false, false, (⟨#[]⟩ : ByteArray), (0 : Int)⟩ : SThing)).fId ≥ (v_6.getD v_8.toNat (⟨(0 : Int), (0 : Int), false, false, false, false, (⟨#[]⟩ : ByteArray), (0 : Int)⟩ : SThing)).fId)) then
              some false
            else
              k (.c0 v_6 v_7 (w64 (v_8 + 1)) b_1)
            else none
          else
            k (.c0 v_6 v_7 (w64 (v_8 + 1)) b_1)
      else none
    else
      bif ((b_1.fWord.size : Int) == 32) then
        bif ((b_1.fChain.size : Int) == 32) then
          (impl_in b_1.fTries (0 : Int) (3 : Int)).bind fun r1 =>
          bif r1 then
            bif (decide ((b_1.fThings.length : Int) ≤ 8)) then
              (impl_in b_1.fLast (0 : Int) (1000 : Int)).bind fun r2 =>
              bif r2 then
                (impl_in b_1.fCount (0 : Int) (10000 : Int)).bind fun r3 =>
                some r3
              else
                some false
            else
              some false
          else
            some false
        else
          some false
      else
        some false
noncomputable def L_impl_BookOk : Nat → St_impl_BookOk → Option Bool
  | 0, _ => none
  | m + 1, s => B_impl_BookOk impl_ThingOk impl_in (L_impl_BookOk m) s
noncomputable def impl_BookOk (b_0 : SBook) : Option Bool := E_impl_BookOk impl_ThingOk impl_in (L_impl_BookOk gas) b_0
theorem e_impl_BookOk (impl_ThingOk : SThing → Option Bool) (impl_in : Int → Int → Int → Option Bool) : EntryIs ctx PP 40 [] [(51, H_impl_ThingOk impl_ThingOk), (71, H_impl_in impl_in)] cv44 cv4 at_impl_BookOk (fun k a => E_impl_BookOk impl_ThingOk impl_in k a) := fun stop a => by kernel_rfl
theorem b_impl_BookOk (impl_ThingOk : SThing → Option Bool) (impl_in : Int → Int → Int → Option Bool) : CutIs ctx PP 40 Try.f40 [] [(51, H_impl_ThingOk impl_ThingOk), (71, H_impl_in impl_in)] cv4 at_impl_BookOk (B_impl_BookOk impl_ThingOk impl_in) := fun stop s => by cases s <;> kernel_rfl
theorem i_impl_BookOk : ∀ s s', at_impl_BookOk s = at_impl_BookOk s' → s = s' := by
  intro s s' h
  cases s with
  | c0 v0 v1 v2 v3 => cases s' with
    | c0 w0 w1 w2 w3 => obtain ⟨_, _, _, _, _, _⟩ := v3; obtain ⟨_, _, _, _, _, _⟩ := w3; cases h; rfl
theorem ok_impl_BookOk : Tells ctx PP 40 cv44 cv4 (fun a => impl_BookOk a) := fn_ok (hl_cons h_impl_ThingOk (hl_cons h_impl_in hl_nil)) Try.func40 i_impl_BookOk (fun _ => rfl) (fun _ _ => rfl) (b_impl_BookOk impl_ThingOk impl_in) (e_impl_BookOk impl_ThingOk impl_in) gas
noncomputable def H_impl_BookOk {γ : Type} (F : SBook → Option Bool) : Hd ctx γ := hdl cv44.dec (fun a => F a) cv4.enc
theorem h_impl_BookOk {γ : Type} : HdOk (γ := γ) PP 40 (H_impl_BookOk impl_BookOk) := hd_ok ok_impl_BookOk
noncomputable def E_laws_eqThing  (a_0 : SThing) (b_1 : SThing) : Option Bool :=
  bif (a_0.fId != b_1.fId) then
    some false
  else
    bif (a_0.fKind != b_1.fKind) then
      some false
    else
      bif (!(a_0.fHidden == b_1.fHidden)) then
        some false
      else
        bif (!(a_0.fFixed == b_1.fFixed)) then
          some false
        else
          bif (!(a_0.fSigns == b_1.fSigns)) then
            some false
          else
            bif (!(a_0.fWraps == b_1.fWraps)) then
              some false
            else
              bif (!((ByteArray.toList a_0.fValue) == (ByteArray.toList b_1.fValue))) then
                some false
              else
                bif (a_0.fNext != b_1.fNext) then
                  some false
                else
                  some true
noncomputable def laws_eqThing (a_0 : SThing) (b_1 : SThing) : Option Bool := E_laws_eqThing  a_0 b_1
theorem e_laws_eqThing  : EntryIs0 ctx PP 33 [] [] cv39 cv4 (fun a => E_laws_eqThing  a.1 a.2) := fun a => by kernel_rfl
theorem ok_laws_eqThing : Tells ctx PP 33 cv39 cv4 (fun a => laws_eqThing a.1 a.2) := fn_ok0 hl_nil Try.func33 (e_laws_eqThing )
noncomputable def H_laws_eqThing {γ : Type} (F : SThing → SThing → Option Bool) : Hd ctx γ := hdl cv39.dec (fun a => F a.1 a.2) cv4.enc
theorem h_laws_eqThing {γ : Type} : HdOk (γ := γ) PP 33 (H_laws_eqThing laws_eqThing) := hd_ok ok_laws_eqThing
noncomputable def todo_laws_eqThingS_0 : List Go.Item := [.code (cAt (bodyOf Try.f69) [1, 1, 0, 1, 0, 0, 0, 0]), .code (cAt (bodyOf Try.f69) [1, 1, 0, 1, 0, 0, 0, 1]), .code (cAt (bodyOf Try.f69) [1, 1, 0, 1, 0, 0, 1]), .inLoop (cAt (bodyOf Try.f69) [1, 1, 0, 1, 0, 0]), .inBlock 0, .code (cAt (bodyOf Try.f69) [1, 1, 1])]
inductive St_laws_eqThingS where
  | c0 (a_0 : (List SThing)) (b_1 : (List SThing)) (i_5 : Int)
noncomputable def at_laws_eqThingS : St_laws_eqThingS → LI
  | .c0 a_0 b_1 i_5 => (todo_laws_eqThingS_0, [(0, [.one (.rsl 27 a_0)]), (1, [.one (.rsl 27 b_1)]), (5, [.one (.int .i64 i_5)])], [])
noncomputable def E_laws_eqThingS (laws_eqThing : SThing → SThing → Option Bool) (k : St_laws_eqThingS → Option Bool) (a_0 : (List SThing)) (b_1 : (List SThing)) : Option Bool :=
  bif ((a_0.length : Int) != (b_1.length : Int)) then
    some false
  else
    k (.c0 a_0 b_1 (0 : Int))
noncomputable def B_laws_eqThingS (laws_eqThing : SThing → SThing → Option Bool) (k : St_laws_eqThingS → Option Bool) : St_laws_eqThingS → Option Bool
  | .c0 a_0 b_1 i_5 =>
    bif (decide (i_5 < (a_0.length : Int))) then
      bif ((decide (0 ≤ i_5)) && (decide (i_5 < (a_0.length : Int)))) then
      bif ((decide (0 ≤ i_5)) && (decide (i_5 < (b_1.length : Int)))) then
      (laws_eqThing (a_0.getD i_5.toNat (⟨(0 : Int), (0 : Int), false, false, false, false, (⟨#[]⟩ : ByteArray), (0 : Int)⟩ : SThing)) (b_1.getD i_5.toNat (⟨(0 : Int), (0 : Int), false, false, false, false, (⟨#[]⟩ : ByteArray), (0 : Int)⟩ : SThing))).bind fun r0 =>
      bif (!r0) then
        some false
      else
        k (.c0 a_0 b_1 (w64 (i_5 + 1)))
      else none
      else none
    else
      some true
noncomputable def L_laws_eqThingS : Nat → St_laws_eqThingS → Option Bool
  | 0, _ => none
  | m + 1, s => B_laws_eqThingS laws_eqThing (L_laws_eqThingS m) s
noncomputable def laws_eqThingS (a_0 : (List SThing)) (b_1 : (List SThing)) : Option Bool := E_laws_eqThingS laws_eqThing (L_laws_eqThingS gas) a_0 b_1
theorem e_laws_eqThingS (laws_eqThing : SThing → SThing → Option Bool) : EntryIs ctx PP 69 [] [(33, H_laws_eqThing laws_eqThing)] cv40 cv4 at_laws_eqThingS (fun k a => E_laws_eqThingS laws_eqThing k a.1 a.2) := fun stop a => by kernel_rfl
theorem b_laws_eqThingS (laws_eqThing : SThing → SThing → Option Bool) : CutIs ctx PP 69 Try.f69 [] [(33, H_laws_eqThing laws_eqThing)] cv4 at_laws_eqThingS (B_laws_eqThingS laws_eqThing) := fun stop s => by cases s <;> kernel_rfl
theorem i_laws_eqThingS : ∀ s s', at_laws_eqThingS s = at_laws_eqThingS s' → s = s' := by
  intro s s' h
  cases s with
  | c0 v0 v1 v2 => cases s' with
    | c0 w0 w1 w2 => cases h; rfl
theorem ok_laws_eqThingS : Tells ctx PP 69 cv40 cv4 (fun a => laws_eqThingS a.1 a.2) := fn_ok (hl_cons h_laws_eqThing hl_nil) Try.func69 i_laws_eqThingS (fun _ => rfl) (fun _ _ => rfl) (b_laws_eqThingS laws_eqThing) (e_laws_eqThingS laws_eqThing) gas
noncomputable def H_laws_eqThingS {γ : Type} (F : (List SThing) → (List SThing) → Option Bool) : Hd ctx γ := hdl cv40.dec (fun a => F a.1 a.2) cv4.enc
theorem h_laws_eqThingS {γ : Type} : HdOk (γ := γ) PP 69 (H_laws_eqThingS laws_eqThingS) := hd_ok ok_laws_eqThingS
noncomputable def E_laws_eqBook (laws_eqThingS : (List SThing) → (List SThing) → Option Bool) (a_0 : SBook) (b_1 : SBook) : Option Bool :=
  bif (!((ByteArray.toList a_0.fWord) == (ByteArray.toList b_1.fWord))) then
    some false
  else
    bif (a_0.fTries != b_1.fTries) then
      some false
    else
      (laws_eqThingS a_0.fThings b_1.fThings).bind fun r0 =>
      bif (!r0) then
        some false
      else
        bif (a_0.fLast != b_1.fLast) then
          some false
        else
          bif (!((ByteArray.toList a_0.fChain) == (ByteArray.toList b_1.fChain))) then
            some false
          else
            bif (a_0.fCount != b_1.fCount) then
              some false
            else
              some true
noncomputable def laws_eqBook (a_0 : SBook) (b_1 : SBook) : Option Bool := E_laws_eqBook laws_eqThingS a_0 b_1
theorem e_laws_eqBook (laws_eqThingS : (List SThing) → (List SThing) → Option Bool) : EntryIs0 ctx PP 34 [] [(69, H_laws_eqThingS laws_eqThingS)] cv41 cv4 (fun a => E_laws_eqBook laws_eqThingS a.1 a.2) := fun a => by kernel_rfl
theorem ok_laws_eqBook : Tells ctx PP 34 cv41 cv4 (fun a => laws_eqBook a.1 a.2) := fn_ok0 (hl_cons h_laws_eqThingS hl_nil) Try.func34 (e_laws_eqBook laws_eqThingS)
noncomputable def H_laws_eqBook {γ : Type} (F : SBook → SBook → Option Bool) : Hd ctx γ := hdl cv41.dec (fun a => F a.1 a.2) cv4.enc
theorem h_laws_eqBook {γ : Type} : HdOk (γ := γ) PP 34 (H_laws_eqBook laws_eqBook) := hd_ok ok_laws_eqBook
noncomputable def E_laws_FnExactBookOk (laws_szBook : SBook → Int → Option Int) (laws_toBook : SBook → Option SBook) (spec_BookOk : SBook → Option Bool) (impl_BookOk : SBook → Option Bool) (laws_eqBook : SBook → SBook → Option Bool) (aB_0 : SBook) : Option Bool :=
  (laws_szBook aB_0 (1048576 : Int)).bind fun r0 =>
  bif (decide (r0 < 0)) then
    some true
  else
    (laws_toBook aB_0).bind fun r1 =>
    (spec_BookOk r1).bind fun r2 =>
    (laws_toBook aB_0).bind fun r3 =>
    (impl_BookOk r3).bind fun r4 =>
    bif (!(r4 == r2)) then
      some false
    else
      (laws_toBook aB_0).bind fun r5 =>
      (laws_eqBook r3 r5).bind fun r6 =>
      bif (!r6) then
        some false
      else
        some true
noncomputable def laws_FnExactBookOk (aB_0 : SBook) : Option Bool := E_laws_FnExactBookOk laws_szBook laws_toBook spec_BookOk impl_BookOk laws_eqBook aB_0
theorem e_laws_FnExactBookOk (laws_szBook : SBook → Int → Option Int) (laws_toBook : SBook → Option SBook) (spec_BookOk : SBook → Option Bool) (impl_BookOk : SBook → Option Bool) (laws_eqBook : SBook → SBook → Option Bool) : EntryIs0 ctx PP 8 [] [(29, H_laws_szBook laws_szBook), (31, H_laws_toBook laws_toBook), (39, H_spec_BookOk spec_BookOk), (40, H_impl_BookOk impl_BookOk), (34, H_laws_eqBook laws_eqBook)] cv35 cv4 (fun a => E_laws_FnExactBookOk laws_szBook laws_toBook spec_BookOk impl_BookOk laws_eqBook a) := fun a => by kernel_rfl
theorem ok_laws_FnExactBookOk : Tells ctx PP 8 cv35 cv4 (fun a => laws_FnExactBookOk a) := fn_ok0 (hl_cons h_laws_szBook (hl_cons h_laws_toBook (hl_cons h_spec_BookOk (hl_cons h_impl_BookOk (hl_cons h_laws_eqBook hl_nil))))) Try.func8 (e_laws_FnExactBookOk laws_szBook laws_toBook spec_BookOk impl_BookOk laws_eqBook)
noncomputable def H_laws_FnExactBookOk {γ : Type} (F : SBook → Option Bool) : Hd ctx γ := hdl cv35.dec (fun a => F a) cv4.enc
theorem h_laws_FnExactBookOk {γ : Type} : HdOk (γ := γ) PP 8 (H_laws_FnExactBookOk laws_FnExactBookOk) := hd_ok ok_laws_FnExactBookOk
end Go.Proofs.Ytmhggcgkbenedaa.G

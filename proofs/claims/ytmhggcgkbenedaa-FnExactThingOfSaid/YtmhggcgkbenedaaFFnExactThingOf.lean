/- Functions of the program, told by plain functions: part 1 of 1. -/
import Derived.Test.YtmhggcgkbenedaaCtx
namespace Go.Proofs.Ytmhggcgkbenedaa.G
open Go Go.Ev
noncomputable def E_laws_szThing  (a_0 : SThing) (left_1 : Int) : Option Int :=
  bif (decide ((w64 (left_1 - (a_0.fValue.size : Int))) < 0)) then
    some (-(1 : Int))
  else
    some (w64 (left_1 - (a_0.fValue.size : Int)))
noncomputable def laws_szThing (a_0 : SThing) (left_1 : Int) : Option Int := E_laws_szThing  a_0 left_1
theorem e_laws_szThing  : EntryIs0 ctx PP 11 [] [] cv0 cv1 (fun a => E_laws_szThing  a.1 a.2) := fun a => by kernel_rfl
theorem ok_laws_szThing : Tells ctx PP 11 cv0 cv1 (fun a => laws_szThing a.1 a.2) := fn_ok0 hl_nil Try.func11 (e_laws_szThing )
noncomputable def H_laws_szThing {γ : Type} (F : SThing → Int → Option Int) : Hd ctx γ := hdl cv0.dec (fun a => F a.1 a.2) cv1.enc
theorem h_laws_szThing {γ : Type} : HdOk (γ := γ) PP 11 (H_laws_szThing laws_szThing) := hd_ok ok_laws_szThing
noncomputable def todo_laws_szThingS_0 : List Go.Item := [.code (cAt (bodyOf Try.f66) [1, 1, 1, 0, 1, 0, 0, 0, 0]), .code (cAt (bodyOf Try.f66) [1, 1, 1, 0, 1, 0, 0, 0, 1]), .code (cAt (bodyOf Try.f66) [1, 1, 1, 0, 1, 0, 0, 1]), .inLoop (cAt (bodyOf Try.f66) [1, 1, 1, 0, 1, 0, 0]), .inBlock 0, .code (cAt (bodyOf Try.f66) [1, 1, 1, 1])]
inductive St_laws_szThingS where
  | c0 (a_0 : (List SThing)) (left_1 : Int) (i_5 : Int)
noncomputable def at_laws_szThingS : St_laws_szThingS → LI
  | .c0 a_0 left_1 i_5 => (todo_laws_szThingS_0, [(0, [.one (.rsl 23 a_0)]), (1, [.one (.int .i64 left_1)]), (5, [.one (.int .i64 i_5)])], [])
noncomputable def E_laws_szThingS (laws_szThing : SThing → Int → Option Int) (k : St_laws_szThingS → Option Int) (a_0 : (List SThing)) (left_1 : Int) : Option Int :=
  bif (decide ((w64 (left_1 - (a_0.length : Int))) < 0)) then
    some (-(1 : Int))
  else
    k (.c0 a_0 (w64 (left_1 - (a_0.length : Int))) (0 : Int))
noncomputable def B_laws_szThingS (laws_szThing : SThing → Int → Option Int) (k : St_laws_szThingS → Option Int) : St_laws_szThingS → Option Int
  | .c0 a_0 left_1 i_5 =>
    bif (decide (i_5 < (a_0.length : Int))) then
      bif ((decide (0 ≤ i_5)) && (decide (i_5 < (a_0.length : Int)))) then
      (laws_szThing (a_0.getD i_5.toNat (⟨(0 : Int), (0 : Int), false, false, false, false, (⟨#[]⟩ : ByteArray), (0 : Int)⟩ : SThing)) left_1).bind fun r0 =>
      bif (decide (r0 < 0)) then
        some (-(1 : Int))
      else
        k (.c0 a_0 r0 (w64 (i_5 + 1)))
      else none
    else
      some left_1
noncomputable def L_laws_szThingS : Nat → St_laws_szThingS → Option Int
  | 0, _ => none
  | m + 1, s => B_laws_szThingS laws_szThing (L_laws_szThingS m) s
noncomputable def laws_szThingS (a_0 : (List SThing)) (left_1 : Int) : Option Int := E_laws_szThingS laws_szThing (L_laws_szThingS gas) a_0 left_1
theorem e_laws_szThingS (laws_szThing : SThing → Int → Option Int) : EntryIs ctx PP 66 [] [(11, H_laws_szThing laws_szThing)] cv31 cv1 at_laws_szThingS (fun k a => E_laws_szThingS laws_szThing k a.1 a.2) := fun stop a => by kernel_rfl
theorem b_laws_szThingS (laws_szThing : SThing → Int → Option Int) : CutIs ctx PP 66 Try.f66 [] [(11, H_laws_szThing laws_szThing)] cv1 at_laws_szThingS (B_laws_szThingS laws_szThing) := fun stop s => by cases s <;> kernel_rfl
theorem i_laws_szThingS : ∀ s s', at_laws_szThingS s = at_laws_szThingS s' → s = s' := by
  intro s s' h
  cases s with
  | c0 v0 v1 v2 => cases s' with
    | c0 w0 w1 w2 => cases h; rfl
theorem ok_laws_szThingS : Tells ctx PP 66 cv31 cv1 (fun a => laws_szThingS a.1 a.2) := fn_ok (hl_cons h_laws_szThing hl_nil) Try.func66 i_laws_szThingS (fun _ => rfl) (fun _ _ => rfl) (b_laws_szThingS laws_szThing) (e_laws_szThingS laws_szThing) gas
noncomputable def H_laws_szThingS {γ : Type} (F : (List SThing) → Int → Option Int) : Hd ctx γ := hdl cv31.dec (fun a => F a.1 a.2) cv1.enc
theorem h_laws_szThingS {γ : Type} : HdOk (γ := γ) PP 66 (H_laws_szThingS laws_szThingS) := hd_ok ok_laws_szThingS
noncomputable def E_laws_szBook (laws_szThingS : (List SThing) → Int → Option Int) (a_0 : SBook) (left_1 : Int) : Option Int :=
  bif (decide ((w64 (left_1 - (a_0.fWord.size : Int))) < 0)) then
    some (-(1 : Int))
  else
    (laws_szThingS a_0.fThings (w64 (left_1 - (a_0.fWord.size : Int)))).bind fun r0 =>
    bif (decide (r0 < 0)) then
      some (-(1 : Int))
    else
      bif (decide ((w64 (r0 - (a_0.fChain.size : Int))) < 0)) then
        some (-(1 : Int))
      else
        some (w64 (r0 - (a_0.fChain.size : Int)))
noncomputable def laws_szBook (a_0 : SBook) (left_1 : Int) : Option Int := E_laws_szBook laws_szThingS a_0 left_1
theorem e_laws_szBook (laws_szThingS : (List SThing) → Int → Option Int) : EntryIs0 ctx PP 29 [] [(66, H_laws_szThingS laws_szThingS)] cv32 cv1 (fun a => E_laws_szBook laws_szThingS a.1 a.2) := fun a => by kernel_rfl
theorem ok_laws_szBook : Tells ctx PP 29 cv32 cv1 (fun a => laws_szBook a.1 a.2) := fn_ok0 (hl_cons h_laws_szThingS hl_nil) Try.func29 (e_laws_szBook laws_szThingS)
noncomputable def H_laws_szBook {γ : Type} (F : SBook → Int → Option Int) : Hd ctx γ := hdl cv32.dec (fun a => F a.1 a.2) cv1.enc
theorem h_laws_szBook {γ : Type} : HdOk (γ := γ) PP 29 (H_laws_szBook laws_szBook) := hd_ok ok_laws_szBook
noncomputable def E_laws_toThing  (a_0 : SThing) : Option SThing :=
  some a_0
noncomputable def laws_toThing (a_0 : SThing) : Option SThing := E_laws_toThing  a_0
theorem e_laws_toThing  : EntryIs0 ctx PP 13 [] [] cv2 cv2 (fun a => E_laws_toThing  a) := fun a => by kernel_rfl
theorem ok_laws_toThing : Tells ctx PP 13 cv2 cv2 (fun a => laws_toThing a) := fn_ok0 hl_nil Try.func13 (e_laws_toThing )
noncomputable def H_laws_toThing {γ : Type} (F : SThing → Option SThing) : Hd ctx γ := hdl cv2.dec (fun a => F a) cv2.enc
theorem h_laws_toThing {γ : Type} : HdOk (γ := γ) PP 13 (H_laws_toThing laws_toThing) := hd_ok ok_laws_toThing
noncomputable def todo_laws_toThingS_0 : List Go.Item := [.code (cAt (bodyOf Try.f67) [1, 1, 0, 1, 0, 0, 0, 0]), .code (cAt (bodyOf Try.f67) [1, 1, 0, 1, 0, 0, 0, 1]), .code (cAt (bodyOf Try.f67) [1, 1, 0, 1, 0, 0, 1]), .inLoop (cAt (bodyOf Try.f67) [1, 1, 0, 1, 0, 0]), .inBlock 0, .code (cAt (bodyOf Try.f67) [1, 1, 1])]
inductive St_laws_toThingS where
  | c0 (a_0 : (List SThing)) (i_4 : Int) (out_3 : (List SThing))
noncomputable def at_laws_toThingS : St_laws_toThingS → LI
  | .c0 a_0 i_4 out_3 => (todo_laws_toThingS_0, [(0, [.one (.rsl 23 a_0)]), (3, [.one (.own 240)]), (4, [.one (.int .i64 i_4)])], [(240, .sl 27 out_3)])
noncomputable def E_laws_toThingS (laws_toThing : SThing → Option SThing) (k : St_laws_toThingS → Option (List SThing)) (a_0 : (List SThing)) : Option (List SThing) :=
  bif ((((decide (0 ≤ (a_0.length : Int))) && (decide ((a_0.length : Int) ≤ (a_0.length : Int)))) && (decide ((a_0.length : Int) ≤ 9223372036854775807))) && (decide (((a_0.length : Int).toNat * 48) ≤ 140737488355328))) then
  k (.c0 a_0 (0 : Int) (List.replicate (a_0.length : Int).toNat (⟨(0 : Int), (0 : Int), false, false, false, false, (⟨#[]⟩ : ByteArray), (0 : Int)⟩ : SThing)))
  else none
noncomputable def B_laws_toThingS (laws_toThing : SThing → Option SThing) (k : St_laws_toThingS → Option (List SThing)) : St_laws_toThingS → Option (List SThing)
  | .c0 a_0 i_4 out_3 =>
    bif (decide (i_4 < (a_0.length : Int))) then
      bif ((decide (0 ≤ i_4)) && (decide (i_4 < (a_0.length : Int)))) then
      (laws_toThing (a_0.getD i_4.toNat (⟨(0 : Int), (0 : Int), false, false, false, false, (⟨#[]⟩ : ByteArray), (0 : Int)⟩ : SThing))).bind fun r0 =>
      bif ((decide (0 ≤ i_4)) && (decide (i_4 < (out_3.length : Int)))) then
      k (.c0 a_0 (w64 (i_4 + 1)) (out_3.set i_4.toNat r0))
      else none
      else none
    else
      some out_3
noncomputable def L_laws_toThingS : Nat → St_laws_toThingS → Option (List SThing)
  | 0, _ => none
  | m + 1, s => B_laws_toThingS laws_toThing (L_laws_toThingS m) s
noncomputable def laws_toThingS (a_0 : (List SThing)) : Option (List SThing) := E_laws_toThingS laws_toThing (L_laws_toThingS gas) a_0
theorem e_laws_toThingS (laws_toThing : SThing → Option SThing) : EntryIs ctx PP 67 [] [(13, H_laws_toThing laws_toThing)] cv33 cv34 at_laws_toThingS (fun k a => E_laws_toThingS laws_toThing k a) := fun stop a => by kernel_rfl
theorem b_laws_toThingS (laws_toThing : SThing → Option SThing) : CutIs ctx PP 67 Try.f67 [] [(13, H_laws_toThing laws_toThing)] cv34 at_laws_toThingS (B_laws_toThingS laws_toThing) := fun stop s => by cases s <;> kernel_rfl
theorem i_laws_toThingS : ∀ s s', at_laws_toThingS s = at_laws_toThingS s' → s = s' := by
  intro s s' h
  cases s with
  | c0 v0 v1 v2 => cases s' with
    | c0 w0 w1 w2 => cases h; rfl
theorem ok_laws_toThingS : Tells ctx PP 67 cv33 cv34 (fun a => laws_toThingS a) := fn_ok (hl_cons h_laws_toThing hl_nil) Try.func67 i_laws_toThingS (fun _ => rfl) (fun _ _ => rfl) (b_laws_toThingS laws_toThing) (e_laws_toThingS laws_toThing) gas
noncomputable def H_laws_toThingS {γ : Type} (F : (List SThing) → Option (List SThing)) : Hd ctx γ := hdl cv33.dec (fun a => F a) cv34.enc
theorem h_laws_toThingS {γ : Type} : HdOk (γ := γ) PP 67 (H_laws_toThingS laws_toThingS) := hd_ok ok_laws_toThingS
noncomputable def E_laws_toBook (laws_toThingS : (List SThing) → Option (List SThing)) (a_0 : SBook) : Option SBook :=
  (laws_toThingS a_0.fThings).bind fun r0 =>
  some (⟨a_0.fWord, a_0.fTries, r0, a_0.fLast, a_0.fChain, a_0.fCount⟩ : SBook)
noncomputable def laws_toBook (a_0 : SBook) : Option SBook := E_laws_toBook laws_toThingS a_0
theorem e_laws_toBook (laws_toThingS : (List SThing) → Option (List SThing)) : EntryIs0 ctx PP 31 [] [(67, H_laws_toThingS laws_toThingS)] cv35 cv36 (fun a => E_laws_toBook laws_toThingS a) := fun a => by kernel_rfl
theorem ok_laws_toBook : Tells ctx PP 31 cv35 cv36 (fun a => laws_toBook a) := fn_ok0 (hl_cons h_laws_toThingS hl_nil) Try.func31 (e_laws_toBook laws_toThingS)
noncomputable def H_laws_toBook {γ : Type} (F : SBook → Option SBook) : Hd ctx γ := hdl cv35.dec (fun a => F a) cv36.enc
theorem h_laws_toBook {γ : Type} : HdOk (γ := γ) PP 31 (H_laws_toBook laws_toBook) := hd_ok ok_laws_toBook
noncomputable def todo_spec_ThingOf_0 : List Go.Item := [.code (cAt (bodyOf Try.f30) [1, 0, 1, 0, 0, 0, 0]), .code (cAt (bodyOf Try.f30) [1, 0, 1, 0, 0, 0, 1]), .code (cAt (bodyOf Try.f30) [1, 0, 1, 0, 0, 1]), .inLoop (cAt (bodyOf Try.f30) [1, 0, 1, 0, 0]), .inBlock 0, .code (cAt (bodyOf Try.f30) [1, 1])]
inductive St_spec_ThingOf where
  | c0 (id_1 : Int) (i_6 : Int) (b_2 : SBook) (v_4 : SThing)
noncomputable def at_spec_ThingOf : St_spec_ThingOf → LI
  | .c0 id_1 i_6 b_2 v_4 => (todo_spec_ThingOf_0, [(1, [.one (.int .i64 id_1)]), (2, [.one (.ptr 128 0)]), (4, [.one (.ptr 256 0)]), (6, [.one (.int .i64 i_6)])], [(128, .var [.str b_2.fWord, .int .i64 b_2.fTries, .rsl 27 b_2.fThings, .int .i64 b_2.fLast, .str b_2.fChain, .int .i64 b_2.fCount]), (256, .var [.int .i64 v_4.fId, .int .i64 v_4.fKind, .bool v_4.fHidden, .bool v_4.fFixed, .bool v_4.fSigns, .bool v_4.fWraps, .str v_4.fValue, .int .i64 v_4.fNext])])
noncomputable def E_spec_ThingOf  (k : St_spec_ThingOf → Option (SThing × Bool)) (b_0 : SBook) (id_1 : Int) : Option (SThing × Bool) :=
  k (.c0 id_1 (0 : Int) b_0 (⟨(0 : Int), (0 : Int), false, false, false, false, (⟨#[]⟩ : ByteArray), (0 : Int)⟩ : SThing))
noncomputable def B_spec_ThingOf  (k : St_spec_ThingOf → Option (SThing × Bool)) : St_spec_ThingOf → Option (SThing × Bool)
  | .c0 id_1 i_6 b_2 v_4 =>
    bif (decide (i_6 < (b_2.fThings.length : Int))) then
      bif ((decide (0 ≤ i_6)) && (decide (i_6 < (b_2.fThings.length : Int)))) then
      bif ((b_2.fThings.getD i_6.toNat (⟨(0 : Int), (0 : Int), false, false, false, false, (⟨#[]⟩ : ByteArray), (0 : Int)⟩ : SThing)).fId == id_1) then
        bif ((decide (0 ≤ i_6)) && (decide (i_6 < (b_2.fThings.length : Int)))) then
        some ((b_2.fThings.getD i_6.toNat (⟨(0 : Int), (0 : Int), false, false, false, false, (⟨#[]⟩ : ByteArray), (0 : Int)⟩ : SThing)), true)
        else none
      else
        k (.c0 id_1 (w64 (i_6 + 1)) b_2 v_4)
      else none
    else
      some ((⟨(0 : Int), (0 : Int), false, false, false, false, (⟨#[]⟩ : ByteArray), (0 : Int)⟩ : SThing), false)
noncomputable def L_spec_ThingOf : Nat → St_spec_ThingOf → Option (SThing × Bool)
  | 0, _ => none
  | m + 1, s => B_spec_ThingOf  (L_spec_ThingOf m) s
noncomputable def spec_ThingOf (b_0 : SBook) (id_1 : Int) : Option (SThing × Bool) := E_spec_ThingOf  (L_spec_ThingOf gas) b_0 id_1
theorem e_spec_ThingOf  : EntryIs ctx PP 30 [] [] cv37 cv38 at_spec_ThingOf (fun k a => E_spec_ThingOf  k a.1 a.2) := fun stop a => by kernel_rfl
theorem b_spec_ThingOf  : CutIs ctx PP 30 Try.f30 [] [] cv38 at_spec_ThingOf (B_spec_ThingOf ) := fun stop s => by cases s <;> kernel_rfl
theorem i_spec_ThingOf : ∀ s s', at_spec_ThingOf s = at_spec_ThingOf s' → s = s' := by
  intro s s' h
  cases s with
  | c0 v0 v1 v2 v3 => cases s' with
    | c0 w0 w1 w2 w3 => obtain ⟨_, _, _, _, _, _⟩ := v2; obtain ⟨_, _, _, _, _, _⟩ := w2; obtain ⟨_, _, _, _, _, _, _, _⟩ := v3; obtain ⟨_, _, _, _, _, _, _, _⟩ := w3; cases h; rfl
theorem ok_spec_ThingOf : Tells ctx PP 30 cv37 cv38 (fun a => spec_ThingOf a.1 a.2) := fn_ok hl_nil Try.func30 i_spec_ThingOf (fun _ => rfl) (fun _ _ => rfl) (b_spec_ThingOf ) (e_spec_ThingOf ) gas
noncomputable def H_spec_ThingOf {γ : Type} (F : SBook → Int → Option (SThing × Bool)) : Hd ctx γ := hdl cv37.dec (fun a => F a.1 a.2) cv38.enc
theorem h_spec_ThingOf {γ : Type} : HdOk (γ := γ) PP 30 (H_spec_ThingOf spec_ThingOf) := hd_ok ok_spec_ThingOf
noncomputable def todo_impl_thingAt_0 : List Go.Item := [.code (cAt (bodyOf Try.f68) [1, 0, 1, 0, 0, 0]), .code (cAt (bodyOf Try.f68) [1, 0, 1, 0, 0, 1]), .inLoop (cAt (bodyOf Try.f68) [1, 0, 1, 0, 0]), .inBlock 0, .code (cAt (bodyOf Try.f68) [1, 1])]
inductive St_impl_thingAt where
  | c0 (id_1 : Int) (v_8 : (List SThing)) (v_9 : Int) (v_10 : Int)
noncomputable def at_impl_thingAt : St_impl_thingAt → LI
  | .c0 id_1 v_8 v_9 v_10 => (todo_impl_thingAt_0, [(1, [.one (.int .i64 id_1)]), (8, [.one (.rsl 27 v_8)]), (9, [.one (.int .i64 v_9)]), (10, [.one (.int .i64 v_10)])], [])
noncomputable def E_impl_thingAt  (k : St_impl_thingAt → Option Int) (b_0 : SBook) (id_1 : Int) : Option Int :=
  k (.c0 id_1 b_0.fThings (b_0.fThings.length : Int) (0 : Int))
noncomputable def B_impl_thingAt  (k : St_impl_thingAt → Option Int) : St_impl_thingAt → Option Int
  | .c0 id_1 v_8 v_9 v_10 =>
    bif (decide (v_10 < v_9)) then
      bif ((decide (0 ≤ v_10)) && (decide (v_10 < (v_8.length : Int)))) then
      bif ((v_8.getD v_10.toNat (⟨(0 : Int), (0 : Int), false, false, false, false, (⟨#[]⟩ : ByteArray), (0 : Int)⟩ : SThing)).fId == id_1) then
        some v_10
      else
        k (.c0 id_1 v_8 v_9 (w64 (v_10 + 1)))
      else none
    else
      some (-(1 : Int))
noncomputable def L_impl_thingAt : Nat → St_impl_thingAt → Option Int
  | 0, _ => none
  | m + 1, s => B_impl_thingAt  (L_impl_thingAt m) s
noncomputable def impl_thingAt (b_0 : SBook) (id_1 : Int) : Option Int := E_impl_thingAt  (L_impl_thingAt gas) b_0 id_1
theorem e_impl_thingAt  : EntryIs ctx PP 68 [] [] cv37 cv1 at_impl_thingAt (fun k a => E_impl_thingAt  k a.1 a.2) := fun stop a => by kernel_rfl
theorem b_impl_thingAt  : CutIs ctx PP 68 Try.f68 [] [] cv1 at_impl_thingAt (B_impl_thingAt ) := fun stop s => by cases s <;> kernel_rfl
theorem i_impl_thingAt : ∀ s s', at_impl_thingAt s = at_impl_thingAt s' → s = s' := by
  intro s s' h
  cases s with
  | c0 v0 v1 v2 v3 => cases s' with
    | c0 w0 w1 w2 w3 => cases h; rfl
theorem ok_impl_thingAt : Tells ctx PP 68 cv37 cv1 (fun a => impl_thingAt a.1 a.2) := fn_ok hl_nil Try.func68 i_impl_thingAt (fun _ => rfl) (fun _ _ => rfl) (b_impl_thingAt ) (e_impl_thingAt ) gas
noncomputable def H_impl_thingAt {γ : Type} (F : SBook → Int → Option Int) : Hd ctx γ := hdl cv37.dec (fun a => F a.1 a.2) cv1.enc
theorem h_impl_thingAt {γ : Type} : HdOk (γ := γ) PP 68 (H_impl_thingAt impl_thingAt) := hd_ok ok_impl_thingAt
noncomputable def E_impl_ThingOf (impl_thingAt : SBook → Int → Option Int) (b_0 : SBook) (id_1 : Int) : Option (SThing × Bool) :=
  (impl_thingAt b_0 id_1).bind fun r0 =>
  bif (decide (r0 < 0)) then
    some ((⟨(0 : Int), (0 : Int), false, false, false, false, (⟨#[]⟩ : ByteArray), (0 : Int)⟩ : SThing), false)
  else
    bif ((decide (0 ≤ r0)) && (decide (r0 < (b_0.fThings.length : Int)))) then
    some ((b_0.fThings.getD r0.toNat (⟨(0 : Int), (0 : Int), false, false, false, false, (⟨#[]⟩ : ByteArray), (0 : Int)⟩ : SThing)), true)
    else none
noncomputable def impl_ThingOf (b_0 : SBook) (id_1 : Int) : Option (SThing × Bool) := E_impl_ThingOf impl_thingAt b_0 id_1
theorem e_impl_ThingOf (impl_thingAt : SBook → Int → Option Int) : EntryIs0 ctx PP 32 [] [(68, H_impl_thingAt impl_thingAt)] cv37 cv38 (fun a => E_impl_ThingOf impl_thingAt a.1 a.2) := fun a => by kernel_rfl
theorem ok_impl_ThingOf : Tells ctx PP 32 cv37 cv38 (fun a => impl_ThingOf a.1 a.2) := fn_ok0 (hl_cons h_impl_thingAt hl_nil) Try.func32 (e_impl_ThingOf impl_thingAt)
noncomputable def H_impl_ThingOf {γ : Type} (F : SBook → Int → Option (SThing × Bool)) : Hd ctx γ := hdl cv37.dec (fun a => F a.1 a.2) cv38.enc
theorem h_impl_ThingOf {γ : Type} : HdOk (γ := γ) PP 32 (H_impl_ThingOf impl_ThingOf) := hd_ok ok_impl_ThingOf
noncomputable def E_laws_eqThing  (a_0 : SThing) (b_1 : SThing) : Option Bool :=
  bif (a_0.fId != b_1.fId) then
    some false
  else
    bif (a_0.fKind != b_1.fKind) then
      some false
    else
      bif (!(a_0.fHidden == b_1.fHidden)) then
        some false
      else
        bif (!(a_0.fFixed == b_1.fFixed)) then
          some false
        else
          bif (!(a_0.fSigns == b_1.fSigns)) then
            some false
          else
            bif (!(a_0.fWraps == b_1.fWraps)) then
              some false
            else
              bif (!((ByteArray.toList a_0.fValue) == (ByteArray.toList b_1.fValue))) then
                some false
              else
                bif (a_0.fNext != b_1.fNext) then
                  some false
                else
                  some true
noncomputable def laws_eqThing (a_0 : SThing) (b_1 : SThing) : Option Bool := E_laws_eqThing  a_0 b_1
theorem e_laws_eqThing  : EntryIs0 ctx PP 33 [] [] cv39 cv4 (fun a => E_laws_eqThing  a.1 a.2) := fun a => by kernel_rfl
theorem ok_laws_eqThing : Tells ctx PP 33 cv39 cv4 (fun a => laws_eqThing a.1 a.2) := fn_ok0 hl_nil Try.func33 (e_laws_eqThing )
noncomputable def H_laws_eqThing {γ : Type} (F : SThing → SThing → Option Bool) : Hd ctx γ := hdl cv39.dec (fun a => F a.1 a.2) cv4.enc
theorem h_laws_eqThing {γ : Type} : HdOk (γ := γ) PP 33 (H_laws_eqThing laws_eqThing) := hd_ok ok_laws_eqThing
noncomputable def todo_laws_eqThingS_0 : List Go.Item := [.code (cAt (bodyOf Try.f69) [1, 1, 0, 1, 0, 0, 0, 0]), .code (cAt (bodyOf Try.f69) [1, 1, 0, 1, 0, 0, 0, 1]), .code (cAt (bodyOf Try.f69) [1, 1, 0, 1, 0, 0, 1]), .inLoop (cAt (bodyOf Try.f69) [1, 1, 0, 1, 0, 0]), .inBlock 0, .code (cAt (bodyOf Try.f69) [1, 1, 1])]
inductive St_laws_eqThingS where
  | c0 (a_0 : (List SThing)) (b_1 : (List SThing)) (i_5 : Int)
noncomputable def at_laws_eqThingS : St_laws_eqThingS → LI
  | .c0 a_0 b_1 i_5 => (todo_laws_eqThingS_0, [(0, [.one (.rsl 27 a_0)]), (1, [.one (.rsl 27 b_1)]), (5, [.one (.int .i64 i_5)])], [])
noncomputable def E_laws_eqThingS (laws_eqThing : SThing → SThing → Option Bool) (k : St_laws_eqThingS → Option Bool) (a_0 : (List SThing)) (b_1 : (List SThing)) : Option Bool :=
  bif ((a_0.length : Int) != (b_1.length : Int)) then
    some false
  else
    k (.c0 a_0 b_1 (0 : Int))
noncomputable def B_laws_eqThingS (laws_eqThing : SThing → SThing → Option Bool) (k : St_laws_eqThingS → Option Bool) : St_laws_eqThingS → Option Bool
  | .c0 a_0 b_1 i_5 =>
    bif (decide (i_5 < (a_0.length : Int))) then
      bif ((decide (0 ≤ i_5)) && (decide (i_5 < (a_0.length : Int)))) then
      bif ((decide (0 ≤ i_5)) && (decide (i_5 < (b_1.length : Int)))) then
      (laws_eqThing (a_0.getD i_5.toNat (⟨(0 : Int), (0 : Int), false, false, false, false, (⟨#[]⟩ : ByteArray), (0 : Int)⟩ : SThing)) (b_1.getD i_5.toNat (⟨(0 : Int), (0 : Int), false, false, false, false, (⟨#[]⟩ : ByteArray), (0 : Int)⟩ : SThing))).bind fun r0 =>
      bif (!r0) then
        some false
      else
        k (.c0 a_0 b_1 (w64 (i_5 + 1)))
      else none
      else none
    else
      some true
noncomputable def L_laws_eqThingS : Nat → St_laws_eqThingS → Option Bool
  | 0, _ => none
  | m + 1, s => B_laws_eqThingS laws_eqThing (L_laws_eqThingS m) s
noncomputable def laws_eqThingS (a_0 : (List SThing)) (b_1 : (List SThing)) : Option Bool := E_laws_eqThingS laws_eqThing (L_laws_eqThingS gas) a_0 b_1
theorem e_laws_eqThingS (laws_eqThing : SThing → SThing → Option Bool) : EntryIs ctx PP 69 [] [(33, H_laws_eqThing laws_eqThing)] cv40 cv4 at_laws_eqThingS (fun k a => E_laws_eqThingS laws_eqThing k a.1 a.2) := fun stop a => by kernel_rfl
theorem b_laws_eqThingS (laws_eqThing : SThing → SThing → Option Bool) : CutIs ctx PP 69 Try.f69 [] [(33, H_laws_eqThing laws_eqThing)] cv4 at_laws_eqThingS (B_laws_eqThingS laws_eqThing) := fun stop s => by cases s <;> kernel_rfl
theorem i_laws_eqThingS : ∀ s s', at_laws_eqThingS s = at_laws_eqThingS s' → s = s' := by
  intro s s' h
  cases s with
  | c0 v0 v1 v2 => cases s' with
    | c0 w0 w1 w2 => cases h; rfl
theorem ok_laws_eqThingS : Tells ctx PP 69 cv40 cv4 (fun a => laws_eqThingS a.1 a.2) := fn_ok (hl_cons h_laws_eqThing hl_nil) Try.func69 i_laws_eqThingS (fun _ => rfl) (fun _ _ => rfl) (b_laws_eqThingS laws_eqThing) (e_laws_eqThingS laws_eqThing) gas
noncomputable def H_laws_eqThingS {γ : Type} (F : (List SThing) → (List SThing) → Option Bool) : Hd ctx γ := hdl cv40.dec (fun a => F a.1 a.2) cv4.enc
theorem h_laws_eqThingS {γ : Type} : HdOk (γ := γ) PP 69 (H_laws_eqThingS laws_eqThingS) := hd_ok ok_laws_eqThingS
noncomputable def E_laws_eqBook (laws_eqThingS : (List SThing) → (List SThing) → Option Bool) (a_0 : SBook) (b_1 : SBook) : Option Bool :=
  bif (!((ByteArray.toList a_0.fWord) == (ByteArray.toList b_1.fWord))) then
    some false
  else
    bif (a_0.fTries != b_1.fTries) then
      some false
    else
      (laws_eqThingS a_0.fThings b_1.fThings).bind fun r0 =>
      bif (!r0) then
        some false
      else
        bif (a_0.fLast != b_1.fLast) then
          some false
        else
          bif (!((ByteArray.toList a_0.fChain) == (ByteArray.toList b_1.fChain))) then
            some false
          else
            bif (a_0.fCount != b_1.fCount) then
              some false
            else
              some true
noncomputable def laws_eqBook (a_0 : SBook) (b_1 : SBook) : Option Bool := E_laws_eqBook laws_eqThingS a_0 b_1
theorem e_laws_eqBook (laws_eqThingS : (List SThing) → (List SThing) → Option Bool) : EntryIs0 ctx PP 34 [] [(69, H_laws_eqThingS laws_eqThingS)] cv41 cv4 (fun a => E_laws_eqBook laws_eqThingS a.1 a.2) := fun a => by kernel_rfl
theorem ok_laws_eqBook : Tells ctx PP 34 cv41 cv4 (fun a => laws_eqBook a.1 a.2) := fn_ok0 (hl_cons h_laws_eqThingS hl_nil) Try.func34 (e_laws_eqBook laws_eqThingS)
noncomputable def H_laws_eqBook {γ : Type} (F : SBook → SBook → Option Bool) : Hd ctx γ := hdl cv41.dec (fun a => F a.1 a.2) cv4.enc
theorem h_laws_eqBook {γ : Type} : HdOk (γ := γ) PP 34 (H_laws_eqBook laws_eqBook) := hd_ok ok_laws_eqBook
noncomputable def E_laws_FnExactThingOf (laws_szBook : SBook → Int → Option Int) (laws_toBook : SBook → Option SBook) (spec_ThingOf : SBook → Int → Option (SThing × Bool)) (impl_ThingOf : SBook → Int → Option (SThing × Bool)) (laws_eqThing : SThing → SThing → Option Bool) (laws_eqBook : SBook → SBook → Option Bool) (aB_0 : SBook) (aId_1 : Int) : Option Bool :=
  (laws_szBook aB_0 (1048576 : Int)).bind fun r0 =>
  bif (decide (r0 < 0)) then
    some true
  else
    (laws_toBook aB_0).bind fun r1 =>
    (spec_ThingOf r1 aId_1).bind fun r2 =>
    (laws_toBook aB_0).bind fun r3 =>
    (impl_ThingOf r3 aId_1).bind fun r4 =>
    (laws_eqThing r4.1 r2.1).bind fun r5 =>
    bif (!r5) then
      some false
    else
      bif (!(r4.2 == r2.2)) then
        some false
      else
        (laws_toBook aB_0).bind fun r6 =>
        (laws_eqBook r3 r6).bind fun r7 =>
        bif (!r7) then
          some false
        else
          some true
noncomputable def laws_FnExactThingOf (aB_0 : SBook) (aId_1 : Int) : Option Bool := E_laws_FnExactThingOf laws_szBook laws_toBook spec_ThingOf impl_ThingOf laws_eqThing laws_eqBook aB_0 aId_1
theorem e_laws_FnExactThingOf (laws_szBook : SBook → Int → Option Int) (laws_toBook : SBook → Option SBook) (spec_ThingOf : SBook → Int → Option (SThing × Bool)) (impl_ThingOf : SBook → Int → Option (SThing × Bool)) (laws_eqThing : SThing → SThing → Option Bool) (laws_eqBook : SBook → SBook → Option Bool) : EntryIs0 ctx PP 6 [] [(29, H_laws_szBook laws_szBook), (31, H_laws_toBook laws_toBook), (30, H_spec_ThingOf spec_ThingOf), (32, H_impl_ThingOf impl_ThingOf), (33, H_laws_eqThing laws_eqThing), (34, H_laws_eqBook laws_eqBook)] cv32 cv4 (fun a => E_laws_FnExactThingOf laws_szBook laws_toBook spec_ThingOf impl_ThingOf laws_eqThing laws_eqBook a.1 a.2) := fun a => by kernel_rfl
theorem ok_laws_FnExactThingOf : Tells ctx PP 6 cv32 cv4 (fun a => laws_FnExactThingOf a.1 a.2) := fn_ok0 (hl_cons h_laws_szBook (hl_cons h_laws_toBook (hl_cons h_spec_ThingOf (hl_cons h_impl_ThingOf (hl_cons h_laws_eqThing (hl_cons h_laws_eqBook hl_nil)))))) Try.func6 (e_laws_FnExactThingOf laws_szBook laws_toBook spec_ThingOf impl_ThingOf laws_eqThing laws_eqBook)
noncomputable def H_laws_FnExactThingOf {γ : Type} (F : SBook → Int → Option Bool) : Hd ctx γ := hdl cv32.dec (fun a => F a.1 a.2) cv4.enc
theorem h_laws_FnExactThingOf {γ : Type} : HdOk (γ := γ) PP 6 (H_laws_FnExactThingOf laws_FnExactThingOf) := hd_ok ok_laws_FnExactThingOf
end Go.Proofs.Ytmhggcgkbenedaa.G

/- The plain law of FnExactThingOf: whatever the arguments, it answers true. Conditions: what is read is in reach. -/
import Derived.Test.YtmhggcgkbenedaaFFnExactThingOf
import Derived.Test.YtmhggcgkbenedaaOpens
import Derived.Test.YtmhggcgkbenedaaPBase
namespace Go.Proofs.Ytmhggcgkbenedaa.G
open Go Go.Ev
theorem p_laws_szThing {a : SThing} (g : GSThing a) (n : Int) : ∃ r, laws_szThing a n = some r := ⟨_, cond_some _ _ _⟩
theorem p_laws_szThingS {a : (List SThing)} (g : (GList 48 GSThing) a) (n : Int) : ∃ r, laws_szThingS a n = some r := by
  have h := g.1
  have key : ∀ m i l, i ≤ a.length → a.length - i < m → ∃ r, L_laws_szThingS m (.c0 a l i) = some r := by
    intro m
    induction m with
    | zero => intro i l _ h; omega
    | succ m ih =>
      intro i l h1 h2
      simp only [L_laws_szThingS, B_laws_szThingS]
      by_cases hi : i < a.length
      · have hw : w64 ((i : Int) + 1) = ((i + 1 : Nat) : Int) := by rw [w64_id (by omega) (by omega)]; rfl
        obtain ⟨r, hr⟩ := p_laws_szThing (g.2 _ (List.getElem_mem hi)) l
        simp only [Int.toNat_natCast, getD_at hi, hr, Option.bind_some, hw]
        rw [show (decide ((i : Int) < (a.length : Int))) = true from decide_eq_true (by omega), show (decide ((0 : Int) ≤ (i : Int))) = true from decide_eq_true (by omega)]
        simp only [Bool.and_self, cond_true]
        cases decide (r < 0)
        · exact ih (i + 1) r hi (by omega)
        · exact ⟨_, rfl⟩
      · rw [show (decide ((i : Int) < (a.length : Int))) = false from decide_eq_false (by omega)]
        exact ⟨_, rfl⟩
  unfold laws_szThingS E_laws_szThingS
  cases decide (w64 (n - (a.length : Int)) < 0)
  · exact key gas 0 _ (Nat.zero_le _) (gas_lt (by omega))
  · exact ⟨_, rfl⟩
theorem p_laws_szBook {a : SBook} (g : GSBook a) (n : Int) : ∃ r, laws_szBook a n = some r := by
  unfold laws_szBook E_laws_szBook
  cases decide ((w64 (n - (a.fWord.size : Int))) < 0)
  rotate_left
  · exact ⟨_, rfl⟩
  simp only [cond_false]
  obtain ⟨r0, hr0⟩ := p_laws_szThingS (g.2.2.1) ((w64 (n - (a.fWord.size : Int))))
  simp only [hr0, Option.bind_some]
  cases decide (r0 < 0)
  rotate_left
  · exact ⟨_, rfl⟩
  simp only [cond_false]
  cases decide ((w64 (r0 - (a.fChain.size : Int))) < 0)
  rotate_left
  · exact ⟨_, rfl⟩
  simp only [cond_false]
  exact ⟨_, rfl⟩
theorem p_laws_toThing {a : SThing} (g : GSThing a) : laws_toThing a = some a := by
  simp only [laws_toThing, E_laws_toThing, Option.bind_some]
theorem p_laws_toThingS {a : (List SThing)} (g : (GList 48 GSThing) a) : laws_toThingS a = some a := by
  have h := g.1
  have key : ∀ m i, i ≤ a.length → a.length - i < m → L_laws_toThingS m (.c0 a i (a.take i ++ List.replicate (a.length - i) (⟨(0 : Int), (0 : Int), false, false, false, false, (⟨#[]⟩ : ByteArray), (0 : Int)⟩ : SThing))) = some a := fun m i h1 h2 =>
    loopN (A := Unit) (n := a.length) (Lp := L_laws_toThingS) (st := fun i _ => .c0 a i (a.take i ++ List.replicate (a.length - i) (⟨(0 : Int), (0 : Int), false, false, false, false, (⟨#[]⟩ : ByteArray), (0 : Int)⟩ : SThing))) (Inv := fun _ _ => True) (out := fun _ _ => some a)
      (fun m _ _ => by simp [L_laws_toThingS, B_laws_toThingS])
      (fun m i _ hi _ => .inr ⟨(), by
        have hw : w64 ((i : Int) + 1) = ((i + 1 : Nat) : Int) := by rw [w64_id (by omega) (by omega)]; rfl
        have hc := copied_len (Nat.le_of_lt hi) (⟨(0 : Int), (0 : Int), false, false, false, false, (⟨#[]⟩ : ByteArray), (0 : Int)⟩ : SThing)
        simp only [L_laws_toThingS, B_laws_toThingS, Int.toNat_natCast, getD_at hi, p_laws_toThing (g.2 _ (List.getElem_mem hi)), Option.bind_some, hw, copied hi, hc]
        simp [hi], trivial, rfl⟩) m i () h1 h2 trivial
  have h0 : L_laws_toThingS gas (.c0 a 0 (List.replicate a.length (⟨(0 : Int), (0 : Int), false, false, false, false, (⟨#[]⟩ : ByteArray), (0 : Int)⟩ : SThing))) = some a := by
    have := key gas 0 (Nat.zero_le _) (gas_lt (by omega))
    simpa using this
  unfold laws_toThingS E_laws_toThingS
  simp only [Int.toNat_natCast, h0]
  simp [show a.length * 48 ≤ 140737488355328 from by omega, show ((a.length : Int) ≤ 9223372036854775807) from by omega]
  try omega
theorem p_laws_toBook {a : SBook} (g : GSBook a) : laws_toBook a = some a := by
  simp only [laws_toBook, E_laws_toBook, p_laws_toThingS (g.2.2.1), Option.bind_some]
def thingIn (xs : List SThing) (t : Int) : Option SThing := xs.find? fun x => x.fId == t
def zThing : SThing := ⟨0, 0, false, false, false, false, ⟨#[]⟩, 0⟩
theorem p_spec_ThingOf {b : SBook} {t : Int} (h : b.fThings.length ≤ 140737488351232) : spec_ThingOf b t = some (match thingIn b.fThings t with | some x => (x, true) | none => (zThing, false)) := by
  have key : ∀ m i, i ≤ b.fThings.length → b.fThings.length - i < m → L_spec_ThingOf m (.c0 t i b zThing) = some (match thingIn (b.fThings.drop i) t with | some x => (x, true) | none => (zThing, false)) := fun m i h1 h2 =>
    loopN (A := Unit) (n := b.fThings.length) (Lp := L_spec_ThingOf) (st := fun i _ => .c0 t i b zThing) (Inv := fun _ _ => True) (out := fun i _ => some (match thingIn (b.fThings.drop i) t with | some x => (x, true) | none => (zThing, false)))
      (fun m _ _ => by simp [L_spec_ThingOf, B_spec_ThingOf, thingIn, zThing])
      (fun m i _ hi _ => by
        have hw : w64 ((i : Int) + 1) = ((i + 1 : Nat) : Int) := by rw [w64_id (by omega) (by omega)]; rfl
        simp only [L_spec_ThingOf, B_spec_ThingOf, Int.toNat_natCast, getD_at hi, hw, drop_at hi, thingIn, List.find?_cons]
        cases hq : b.fThings[i].fId == t
        · exact .inr ⟨(), by simp [hi], trivial, by simp⟩
        · exact .inl (by simp [hi])) m i () h1 h2 trivial
  have h0 := key gas 0 (Nat.zero_le _) (gas_lt (by omega))
  exact h0
def placeIn : List SThing → Int → Nat → Option Nat
  | [], _, _ => none
  | x :: xs, t, i => if x.fId == t then some i else placeIn xs t (i + 1)
theorem placeIn_find (t : Int) : ∀ (xs : List SThing) (i : Nat), match placeIn xs t i with | some j => i ≤ j ∧ j < i + xs.length ∧ thingIn xs t = xs[j - i]? | none => thingIn xs t = none := by
  intro xs
  induction xs with
  | nil => intro i; rfl
  | cons x xs ih =>
    intro i
    simp only [placeIn, thingIn, List.find?_cons]
    cases hq : x.fId == t
    · have := ih (i + 1)
      simp only [Bool.false_eq_true, if_false]
      split at this
      · rename_i j hj
        obtain ⟨h1, h2, h3⟩ := this
        refine ⟨by omega, by simp; omega, ?_⟩
        rw [show j - i = (j - (i + 1)) + 1 by omega, List.getElem?_cons_succ]
        exact h3
      · exact this
    · simp
theorem p_impl_thingAt {b : SBook} {t : Int} (h : b.fThings.length ≤ 140737488351232) : impl_thingAt b t = some (match placeIn b.fThings t 0 with | some j => (j : Int) | none => -1) := by
  have key : ∀ m i, i ≤ b.fThings.length → b.fThings.length - i < m → L_impl_thingAt m (.c0 t b.fThings b.fThings.length i) = some (match placeIn (b.fThings.drop i) t i with | some j => (j : Int) | none => -1) := fun m i h1 h2 =>
    loopN (A := Unit) (n := b.fThings.length) (Lp := L_impl_thingAt) (st := fun i _ => .c0 t b.fThings b.fThings.length i) (Inv := fun _ _ => True) (out := fun i _ => some (match placeIn (b.fThings.drop i) t i with | some j => (j : Int) | none => -1))
      (fun m _ _ => by simp [L_impl_thingAt, B_impl_thingAt, placeIn])
      (fun m i _ hi _ => by
        have hw : w64 ((i : Int) + 1) = ((i + 1 : Nat) : Int) := by rw [w64_id (by omega) (by omega)]; rfl
        simp only [L_impl_thingAt, B_impl_thingAt, Int.toNat_natCast, getD_at hi, hw, drop_at hi, placeIn]
        cases hq : b.fThings[i].fId == t
        · exact .inr ⟨(), by simp [hi], trivial, by simp⟩
        · exact .inl (by simp [hi])) m i () h1 h2 trivial
  have h0 := key gas 0 (Nat.zero_le _) (gas_lt (by omega))
  exact h0
theorem p_impl_ThingOf {b : SBook} {t : Int} (h : b.fThings.length ≤ 140737488351232) : impl_ThingOf b t = some (match thingIn b.fThings t with | some x => (x, true) | none => (zThing, false)) := by
  have hp := placeIn_find t b.fThings 0
  simp only [impl_ThingOf, E_impl_ThingOf, p_impl_thingAt h, Option.bind_some]
  cases hq : placeIn b.fThings t 0 with
  | none => rw [hq] at hp; simp only at hp ⊢; rw [hp]; rfl
  | some j =>
    rw [hq] at hp
    simp only [Nat.sub_zero, Nat.zero_add] at hp ⊢
    obtain ⟨_, h1, h2⟩ := hp
    rw [h2, List.getElem?_eq_getElem h1]
    simp only [Int.toNat_natCast, getD_at h1]
    rw [show (decide ((j : Int) < 0)) = false from decide_eq_false (by omega), show (decide ((0 : Int) ≤ (j : Int))) = true from decide_eq_true (by omega), show (decide ((j : Int) < (b.fThings.length : Int))) = true from decide_eq_true (by omega)]
    rfl
theorem p_laws_eqThing (a : SThing)  : laws_eqThing a a = some true := by
  simp [laws_eqThing, E_laws_eqThing]
theorem p_laws_eqThingS {a : (List SThing)} (h : a.length ≤ 140737488351232) : laws_eqThingS a a = some true := by
  have h0 : a.length ≤ 140737488351232 := h
  have key : ∀ m i, i ≤ a.length → a.length - i < m → L_laws_eqThingS m (.c0 a a i) = some true := fun m i h1 h2 =>
    loopN (A := Unit) (n := a.length) (Lp := L_laws_eqThingS) (st := fun i _ => .c0 a a i) (Inv := fun _ _ => True) (out := fun _ _ => some true)
      (fun m _ _ => by simp [L_laws_eqThingS, B_laws_eqThingS])
      (fun m i _ hi _ => .inr ⟨(), by
        have hw : w64 ((i : Int) + 1) = ((i + 1 : Nat) : Int) := by rw [w64_id (by omega) (by omega)]; rfl
        simp only [L_laws_eqThingS, B_laws_eqThingS, Int.toNat_natCast, hw, p_laws_eqThing _, getD_at hi, Option.bind_some]
        simp [hi], trivial, rfl⟩) m i () h1 h2 trivial
  have h0 := key gas 0 (Nat.zero_le _) (gas_lt (by omega))
  unfold laws_eqThingS E_laws_eqThingS
  simp only [bne_self_eq_false, cond_false]
  exact h0
theorem p_laws_eqBook {a : SBook} (h : a.fThings.length ≤ 140737488351232) : laws_eqBook a a = some true := by
  simp [laws_eqBook, E_laws_eqBook, p_laws_eqThingS h]
theorem law_FnExactThingOf (x0 : SBook) (x1 : Int) (g0 : GSBook x0) (g1 : (GInt .i64) x1) : laws_FnExactThingOf x0 x1 = some true := by
  have h : x0.fThings.length ≤ 140737488351232 := by have := g0.2.2.1.1; simp only at this; omega
  obtain ⟨r, hr⟩ := p_laws_szBook g0 1048576
  simp only [laws_FnExactThingOf, E_laws_FnExactThingOf, hr, Option.bind_some, p_laws_toBook g0, p_spec_ThingOf h, p_impl_ThingOf h, p_laws_eqThing, p_laws_eqBook h]
  simp
end Go.Proofs.Ytmhggcgkbenedaa.G

/- The plain law of FnExactBookOk: whatever the arguments, it answers true. Conditions: what is read is in reach. -/
import Derived.Test.YtmhggcgkbenedaaFFnExactBookOk
import Derived.Test.YtmhggcgkbenedaaOpens
import Derived.Test.YtmhggcgkbenedaaPBase
namespace Go.Proofs.Ytmhggcgkbenedaa.G
open Go Go.Ev
theorem p_laws_szThing {a : SThing} (g : GSThing a) (n : Int) : ∃ r, laws_szThing a n = some r := ⟨_, cond_some _ _ _⟩
theorem p_laws_szThingS {a : (List SThing)} (g : (GList 48 GSThing) a) (n : Int) : ∃ r, laws_szThingS a n = some r := by
  have h := g.1
  have key : ∀ m i l, i ≤ a.length → a.length - i < m → ∃ r, L_laws_szThingS m (.c0 a l i) = some r := by
    intro m
    induction m with
    | zero => intro i l _ h; omega
    | succ m ih =>
      intro i l h1 h2
      simp only [L_laws_szThingS, B_laws_szThingS]
      by_cases hi : i < a.length
      · have hw : w64 ((i : Int) + 1) = ((i + 1 : Nat) : Int) := by rw [w64_id (by omega) (by omega)]; rfl
        obtain ⟨r, hr⟩ := p_laws_szThing (g.2 _ (List.getElem_mem hi)) l
        simp only [Int.toNat_natCast, getD_at hi, hr, Option.bind_some, hw]
        rw [show (decide ((i : Int) < (a.length : Int))) = true from decide_eq_true (by omega), show (decide ((0 : Int) ≤ (i : Int))) = true from decide_eq_true (by omega)]
        simp only [Bool.and_self, cond_true]
        cases decide (r < 0)
        · exact ih (i + 1) r hi (by omega)
        · exact ⟨_, rfl⟩
      · rw [show (decide ((i : Int) < (a.length : Int))) = false from decide_eq_false (by omega)]
        exact ⟨_, rfl⟩
  unfold laws_szThingS E_laws_szThingS
  cases decide (w64 (n - (a.length : Int)) < 0)
  · exact key gas 0 _ (Nat.zero_le _) (gas_lt (by omega))
  · exact ⟨_, rfl⟩
theorem p_laws_szBook {a : SBook} (g : GSBook a) (n : Int) : ∃ r, laws_szBook a n = some r := by
  unfold laws_szBook E_laws_szBook
  cases decide ((w64 (n - (a.fWord.size : Int))) < 0)
  rotate_left
  · exact ⟨_, rfl⟩
  simp only [cond_false]
  obtain ⟨r0, hr0⟩ := p_laws_szThingS (g.2.2.1) ((w64 (n - (a.fWord.size : Int))))
  simp only [hr0, Option.bind_some]
  cases decide (r0 < 0)
  rotate_left
  · exact ⟨_, rfl⟩
  simp only [cond_false]
  cases decide ((w64 (r0 - (a.fChain.size : Int))) < 0)
  rotate_left
  · exact ⟨_, rfl⟩
  simp only [cond_false]
  exact ⟨_, rfl⟩
theorem p_laws_toThing {a : SThing} (g : GSThing a) : laws_toThing a = some a := by
  simp only [laws_toThing, E_laws_toThing, Option.bind_some]
theorem p_laws_toThingS {a : (List SThing)} (g : (GList 48 GSThing) a) : laws_toThingS a = some a := by
  have h := g.1
  have key : ∀ m i, i ≤ a.length → a.length - i < m → L_laws_toThingS m (.c0 a i (a.take i ++ List.replicate (a.length - i) (⟨(0 : Int), (0 : Int), false, false, false, false, (⟨#[]⟩ : ByteArray), (0 : Int)⟩ : SThing))) = some a := fun m i h1 h2 =>
    loopN (A := Unit) (n := a.length) (Lp := L_laws_toThingS) (st := fun i _ => .c0 a i (a.take i ++ List.replicate (a.length - i) (⟨(0 : Int), (0 : Int), false, false, false, false, (⟨#[]⟩ : ByteArray), (0 : Int)⟩ : SThing))) (Inv := fun _ _ => True) (out := fun _ _ => some a)
      (fun m _ _ => by simp [L_laws_toThingS, B_laws_toThingS])
      (fun m i _ hi _ => .inr ⟨(), by
        have hw : w64 ((i : Int) + 1) = ((i + 1 : Nat) : Int) := by rw [w64_id (by omega) (by omega)]; rfl
        have hc := copied_len (Nat.le_of_lt hi) (⟨(0 : Int), (0 : Int), false, false, false, false, (⟨#[]⟩ : ByteArray), (0 : Int)⟩ : SThing)
        simp only [L_laws_toThingS, B_laws_toThingS, Int.toNat_natCast, getD_at hi, p_laws_toThing (g.2 _ (List.getElem_mem hi)), Option.bind_some, hw, copied hi, hc]
        simp [hi], trivial, rfl⟩) m i () h1 h2 trivial
  have h0 : L_laws_toThingS gas (.c0 a 0 (List.replicate a.length (⟨(0 : Int), (0 : Int), false, false, false, false, (⟨#[]⟩ : ByteArray), (0 : Int)⟩ : SThing))) = some a := by
    have := key gas 0 (Nat.zero_le _) (gas_lt (by omega))
    simpa using this
  unfold laws_toThingS E_laws_toThingS
  simp only [Int.toNat_natCast, h0]
  simp [show a.length * 48 ≤ 140737488355328 from by omega, show ((a.length : Int) ≤ 9223372036854775807) from by omega]
  try omega
theorem p_laws_toBook {a : SBook} (g : GSBook a) : laws_toBook a = some a := by
  simp only [laws_toBook, E_laws_toBook, p_laws_toThingS (g.2.2.1), Option.bind_some]
def inR (x a b : Int) : Bool := decide (a ≤ x) && decide (x ≤ b)
theorem inR_iff {x a b : Int} : inR x a b = true ↔ a ≤ x ∧ x ≤ b := by simp [inR]
theorem p_spec_l01In (x a b : Int) : spec_l01In x a b = some (inR x a b) := by
  show (bif decide (a ≤ x) then some (decide (x ≤ b)) else some false) = some (inR x a b)
  unfold inR; cases decide (a ≤ x) <;> rfl
def thingOk (x : SThing) : Bool := inR x.fId 1 1000 && inR x.fKind 1 3 && inR x.fNext 0 16 && ((x.fKind == 2) || ((x.fNext == 0) && !x.fSigns)) && ((x.fKind == 1) || !x.fWraps) && (bif x.fKind == 3 then decide ((x.fValue.size : Int) ≤ 100) else (x.fValue.size : Int) == 32)
theorem p_spec_ThingOk (x : SThing) : spec_ThingOk x = some (thingOk x) := by
  simp only [spec_ThingOk, E_spec_ThingOk, p_spec_l01In, Option.bind_some, thingOk, bne]
  cases inR x.fId 1 1000 <;> cases inR x.fKind 1 3 <;> cases inR x.fNext 0 16 <;> cases (x.fKind == 2) <;> cases (x.fKind == 1) <;> cases (x.fKind == 3) <;> cases (x.fNext == 0) <;> cases x.fSigns <;> cases x.fWraps <;> rfl
theorem thingOk_kind {x : SThing} (h : thingOk x = true) : 1 ≤ x.fKind ∧ x.fKind ≤ 3 ∧ 1 ≤ x.fId ∧ x.fId ≤ 1000 ∧ 0 ≤ x.fNext ∧ x.fNext ≤ 16 ∧ x.fValue.size ≤ 100 := by
  unfold thingOk at h
  simp only [Bool.and_eq_true] at h
  obtain ⟨⟨⟨⟨⟨h1, h2⟩, h3⟩, _⟩, _⟩, h4⟩ := h
  rw [inR_iff] at h1 h2 h3
  refine ⟨h2.1, h2.2, h1.1, h1.2, h3.1, h3.2, ?_⟩
  cases hk : x.fKind == 3
  · rw [hk] at h4; simp at h4; omega
  · rw [hk] at h4; simp at h4; omega
def rise (last : Int) : Int → List SThing → Bool
  | _, [] => true
  | p, x :: xs => thingOk x && (!decide (x.fId > last) && (!decide (p ≥ x.fId) && rise last x.fId xs))
def prevId (l : List SThing) : Nat → Int
  | 0 => 0
  | i + 1 => ((l[i]?).map (·.fId)).getD 0
theorem prevId_at {l : List SThing} {i : Nat} (hi : i < l.length) : prevId l (i + 1) = l[i].fId := by simp [prevId, hi]
theorem rise_at {l : List SThing} {last : Int} {i : Nat} (hi : i < l.length) : rise last (prevId l i) (l.drop i) = (thingOk l[i] && (!decide (l[i].fId > last) && (!decide (prevId l i ≥ l[i].fId) && rise last (prevId l (i + 1)) (l.drop (i + 1))))) := by
  rw [drop_at hi, rise, prevId_at hi]
def bookOk (b : SBook) : Bool := (b.fWord.size : Int) == 32 && ((b.fChain.size : Int) == 32 && (inR b.fTries 0 3 && (decide ((b.fThings.length : Int) ≤ 8) && (inR b.fLast 0 1000 && (inR b.fCount 0 10000 && rise b.fLast 0 b.fThings)))))
theorem bookOk_loop {b : SBook} (hb : b.fThings.length ≤ 140737488351232) : ∀ m i, i ≤ b.fThings.length → b.fThings.length - i < m → L_spec_BookOk m (.c0 i b) = some (rise b.fLast (prevId b.fThings i) (b.fThings.drop i)) := fun m i h1 h2 =>
  loopN (A := Unit) (n := b.fThings.length) (Lp := L_spec_BookOk) (st := fun i _ => .c0 i b) (Inv := fun _ _ => True) (out := fun i _ => some (rise b.fLast (prevId b.fThings i) (b.fThings.drop i)))
    (fun m _ _ => by
      simp only [L_spec_BookOk, B_spec_BookOk]
      rw [show decide ((b.fThings.length : Int) < (b.fThings.length : Int)) = false from decide_eq_false (by omega), List.drop_of_length_le (Nat.le_refl _)]
      rfl)
    (fun m i _ hi _ => by
      have hw : w64 ((i : Int) + 1) = ((i + 1 : Nat) : Int) := by rw [w64_id (by omega) (by omega)]; rfl
      simp only [rise_at hi]
      simp only [L_spec_BookOk, B_spec_BookOk, Int.toNat_natCast, getD_at hi, p_spec_ThingOk, Option.bind_some, hw]
      rw [show decide ((i : Int) < (b.fThings.length : Int)) = true from decide_eq_true (by omega), show decide ((0 : Int) ≤ (i : Int)) = true from decide_eq_true (by omega)]
      simp only [Bool.and_self, cond_true]
      cases h1 : thingOk b.fThings[i]
      · exact .inl rfl
      · cases h2 : decide (b.fThings[i].fId > b.fLast)
        · by_cases h0 : i = 0
          · subst h0
            refine .inr ⟨(), rfl, trivial, ?_⟩
            rw [show decide (prevId b.fThings 0 ≥ b.fThings[0].fId) = false from decide_eq_false (by have := (thingOk_kind h1).2.2.1; simp only [prevId]; omega)]
            rfl
          · obtain ⟨j, rfl⟩ : ∃ j, i = j + 1 := ⟨i - 1, by omega⟩
            have hj : w64 (((j + 1 : Nat) : Int) - 1) = (j : Int) := by rw [w64_id (by omega) (by omega)]; omega
            have hjl : j < b.fThings.length := by omega
            rw [prevId_at hjl]
            simp only [hj, Int.toNat_natCast, getD_at hjl, Bool.not_true, Bool.not_false, cond_false, Bool.true_and]
            rw [show decide (((j + 1 : Nat) : Int) > 0) = true from decide_eq_true (by omega), show decide ((0 : Int) ≤ (j : Int)) = true from decide_eq_true (by omega), show decide ((j : Int) < (b.fThings.length : Int)) = true from decide_eq_true (by omega)]
            simp only [Bool.and_self, cond_true]
            cases h3 : decide (b.fThings[j].fId ≥ b.fThings[j + 1].fId)
            · exact .inr ⟨(), rfl, trivial, rfl⟩
            · exact .inl rfl
        · exact .inl rfl) m i () h1 h2 trivial
theorem p_spec_BookOk {b : SBook} (hb : b.fThings.length ≤ 140737488351232) : spec_BookOk b = some (bookOk b) := by
  have h0 : L_spec_BookOk gas (.c0 0 b) = some (rise b.fLast 0 b.fThings) := bookOk_loop hb gas 0 (Nat.zero_le _) (gas_lt (by omega))
  simp only [spec_BookOk, E_spec_BookOk, p_spec_l01In, Option.bind_some, bookOk, bne, h0]
  rw [show decide ((b.fThings.length : Int) ≤ 8) = !decide ((b.fThings.length : Int) > 8) by rw [← decide_not]; simp]
  cases (b.fWord.size : Int) == 32 <;> cases (b.fChain.size : Int) == 32 <;> cases inR b.fTries 0 3 <;> cases decide ((b.fThings.length : Int) > 8) <;> cases inR b.fLast 0 1000 <;> cases inR b.fCount 0 10000 <;> rfl
theorem p_impl_in (x a b : Int) : impl_in x a b = some (inR x a b) := by
  show (bif decide (a ≤ x) then some (decide (x ≤ b)) else some false) = some (inR x a b)
  unfold inR; cases decide (a ≤ x) <;> rfl
theorem p_impl_ThingOk (x : SThing) : impl_ThingOk x = some (thingOk x) := by
  simp only [impl_ThingOk, E_impl_ThingOk, p_impl_in, Option.bind_some, thingOk, bne]
  by_cases k1 : x.fKind = 1
  · rw [k1]
    cases inR x.fId 1 1000 <;> cases inR x.fNext 0 16 <;> cases (x.fNext == 0) <;> cases x.fSigns <;> cases x.fWraps <;> simp [inR]
  · by_cases k2 : x.fKind = 2
    · rw [k2]
      cases inR x.fId 1 1000 <;> cases inR x.fNext 0 16 <;> cases (x.fNext == 0) <;> cases x.fSigns <;> cases x.fWraps <;> simp [inR]
    · by_cases k3 : x.fKind = 3
      · rw [k3]
        cases inR x.fId 1 1000 <;> cases inR x.fNext 0 16 <;> cases (x.fNext == 0) <;> cases x.fSigns <;> cases x.fWraps <;> simp [inR]
      · have hr : inR x.fKind 1 3 = false := by
          cases h : inR x.fKind 1 3
          · rfl
          · rw [inR_iff] at h; omega
        have e1 : (x.fKind == 1) = false := by simpa using k1
        have e2 : (x.fKind == 2) = false := by simpa using k2
        have e3 : (x.fKind == 3) = false := by simpa using k3
        rw [hr, e1, e2, e3]
        cases inR x.fId 1 1000 <;> cases inR x.fNext 0 16 <;> cases (x.fNext == 0) <;> cases x.fSigns <;> cases x.fWraps <;> rfl
def bookOk1 (b : SBook) : Bool := (b.fWord.size : Int) == 32 && ((b.fChain.size : Int) == 32 && (inR b.fTries 0 3 && (decide ((b.fThings.length : Int) ≤ 8) && (inR b.fLast 0 1000 && inR b.fCount 0 10000))))
theorem bookOk_loop2 {b : SBook} (hb : b.fThings.length ≤ 140737488351232) : ∀ m i, i ≤ b.fThings.length → b.fThings.length - i < m → L_impl_BookOk m (.c0 b.fThings b.fThings.length i b) = some (rise b.fLast (prevId b.fThings i) (b.fThings.drop i) && bookOk1 b) := fun m i h1 h2 =>
  loopN (A := Unit) (n := b.fThings.length) (Lp := L_impl_BookOk) (st := fun i _ => .c0 b.fThings b.fThings.length i b) (Inv := fun _ _ => True) (out := fun i _ => some (rise b.fLast (prevId b.fThings i) (b.fThings.drop i) && bookOk1 b))
    (fun m _ _ => by
      simp only [L_impl_BookOk, B_impl_BookOk, p_impl_in, Option.bind_some, bookOk1]
      rw [show decide ((b.fThings.length : Int) < (b.fThings.length : Int)) = false from decide_eq_false (by omega), List.drop_of_length_le (Nat.le_refl _)]
      cases (b.fWord.size : Int) == 32 <;> cases (b.fChain.size : Int) == 32 <;> cases inR b.fTries 0 3 <;> cases decide ((b.fThings.length : Int) ≤ 8) <;> cases inR b.fLast 0 1000 <;> rfl)
    (fun m i _ hi _ => by
      have hw : w64 ((i : Int) + 1) = ((i + 1 : Nat) : Int) := by rw [w64_id (by omega) (by omega)]; rfl
      simp only [rise_at hi]
      simp only [L_impl_BookOk, B_impl_BookOk, Int.toNat_natCast, getD_at hi, p_impl_ThingOk, Option.bind_some, hw]
      rw [show decide ((i : Int) < (b.fThings.length : Int)) = true from decide_eq_true (by omega), show decide ((0 : Int) ≤ (i : Int)) = true from decide_eq_true (by omega)]
      simp only [Bool.and_self, cond_true]
      cases h1 : thingOk b.fThings[i]
      · exact .inl rfl
      · cases h2 : decide (b.fThings[i].fId > b.fLast)
        · by_cases h0 : i = 0
          · subst h0
            refine .inr ⟨(), rfl, trivial, ?_⟩
            rw [show decide (prevId b.fThings 0 ≥ b.fThings[0].fId) = false from decide_eq_false (by have := (thingOk_kind h1).2.2.1; simp only [prevId]; omega)]
            rfl
          · obtain ⟨j, rfl⟩ : ∃ j, i = j + 1 := ⟨i - 1, by omega⟩
            have hj : w64 (((j + 1 : Nat) : Int) - 1) = (j : Int) := by rw [w64_id (by omega) (by omega)]; omega
            have hjl : j < b.fThings.length := by omega
            rw [prevId_at hjl]
            simp only [hj, Int.toNat_natCast, getD_at hjl, Bool.not_true, Bool.not_false, cond_false, Bool.true_and]
            rw [show decide (((j + 1 : Nat) : Int) > 0) = true from decide_eq_true (by omega), show decide ((0 : Int) ≤ (j : Int)) = true from decide_eq_true (by omega), show decide ((j : Int) < (b.fThings.length : Int)) = true from decide_eq_true (by omega)]
            simp only [Bool.and_self, cond_true]
            cases h3 : decide (b.fThings[j].fId ≥ b.fThings[j + 1].fId)
            · exact .inr ⟨(), rfl, trivial, rfl⟩
            · exact .inl rfl
        · exact .inl rfl) m i () h1 h2 trivial
theorem p_impl_BookOk {b : SBook} (hb : b.fThings.length ≤ 140737488351232) : impl_BookOk b = some (bookOk b) := by
  have h0 := bookOk_loop2 hb gas 0 (Nat.zero_le _) (gas_lt (by omega))
  simp only [impl_BookOk, E_impl_BookOk]
  refine h0.trans (congrArg some ?_)
  simp only [bookOk, bookOk1, List.drop_zero, prevId]
  cases rise b.fLast 0 b.fThings <;> simp
theorem p_laws_eqThing (a : SThing)  : laws_eqThing a a = some true := by
  simp [laws_eqThing, E_laws_eqThing]
theorem p_laws_eqThingS {a : (List SThing)} (h : a.length ≤ 140737488351232) : laws_eqThingS a a = some true := by
  have h0 : a.length ≤ 140737488351232 := h
  have key : ∀ m i, i ≤ a.length → a.length - i < m → L_laws_eqThingS m (.c0 a a i) = some true := fun m i h1 h2 =>
    loopN (A := Unit) (n := a.length) (Lp := L_laws_eqThingS) (st := fun i _ => .c0 a a i) (Inv := fun _ _ => True) (out := fun _ _ => some true)
      (fun m _ _ => by simp [L_laws_eqThingS, B_laws_eqThingS])
      (fun m i _ hi _ => .inr ⟨(), by
        have hw : w64 ((i : Int) + 1) = ((i + 1 : Nat) : Int) := by rw [w64_id (by omega) (by omega)]; rfl
        simp only [L_laws_eqThingS, B_laws_eqThingS, Int.toNat_natCast, hw, p_laws_eqThing _, getD_at hi, Option.bind_some]
        simp [hi], trivial, rfl⟩) m i () h1 h2 trivial
  have h0 := key gas 0 (Nat.zero_le _) (gas_lt (by omega))
  unfold laws_eqThingS E_laws_eqThingS
  simp only [bne_self_eq_false, cond_false]
  exact h0
theorem p_laws_eqBook {a : SBook} (h : a.fThings.length ≤ 140737488351232) : laws_eqBook a a = some true := by
  simp [laws_eqBook, E_laws_eqBook, p_laws_eqThingS h]
theorem law_FnExactBookOk (x0 : SBook) (g0 : GSBook x0) : laws_FnExactBookOk x0 = some true := by
  obtain ⟨r, hr⟩ := p_laws_szBook g0 1048576
  have h : x0.fThings.length ≤ 140737488351232 := by have := g0.2.2.1.1; simp only at this; omega
  simp only [laws_FnExactBookOk, E_laws_FnExactBookOk, hr, Option.bind_some, p_laws_toBook g0, p_spec_BookOk h, p_impl_BookOk h, p_laws_eqBook h]
  simp
end Go.Proofs.Ytmhggcgkbenedaa.G

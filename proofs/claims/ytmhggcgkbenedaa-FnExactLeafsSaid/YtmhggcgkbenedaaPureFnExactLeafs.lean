/- The plain law of FnExactLeafs: whatever the arguments, it answers true. Conditions: what is read is in reach. -/
import Derived.Test.YtmhggcgkbenedaaFFnExactLeafs
import Derived.Test.YtmhggcgkbenedaaOpens
import Derived.Test.YtmhggcgkbenedaaPBase
namespace Go.Proofs.Ytmhggcgkbenedaa.G
open Go Go.Ev
theorem p_laws_szGivenS {a : (List SGiven)} (_ : (GList 24 GSGiven) a) (n : Int) : ∃ r, laws_szGivenS a n = some r := ⟨_, cond_some _ _ _⟩
theorem p_laws_toGiven {a : SGiven} (g : GSGiven a) : laws_toGiven a = some a := by
  simp only [laws_toGiven, E_laws_toGiven, Option.bind_some]
theorem p_laws_toGivenS {a : (List SGiven)} (g : (GList 24 GSGiven) a) : laws_toGivenS a = some a := by
  have h := g.1
  have key : ∀ m i, i ≤ a.length → a.length - i < m → L_laws_toGivenS m (.c0 a i (a.take i ++ List.replicate (a.length - i) (⟨(0 : Int), (0 : Int), (0 : Int)⟩ : SGiven))) = some a := fun m i h1 h2 =>
    loopN (A := Unit) (n := a.length) (Lp := L_laws_toGivenS) (st := fun i _ => .c0 a i (a.take i ++ List.replicate (a.length - i) (⟨(0 : Int), (0 : Int), (0 : Int)⟩ : SGiven))) (Inv := fun _ _ => True) (out := fun _ _ => some a)
      (fun m _ _ => by simp [L_laws_toGivenS, B_laws_toGivenS])
      (fun m i _ hi _ => .inr ⟨(), by
        have hw : w64 ((i : Int) + 1) = ((i + 1 : Nat) : Int) := by rw [w64_id (by omega) (by omega)]; rfl
        have hc := copied_len (Nat.le_of_lt hi) (⟨(0 : Int), (0 : Int), (0 : Int)⟩ : SGiven)
        simp only [L_laws_toGivenS, B_laws_toGivenS, Int.toNat_natCast, getD_at hi, p_laws_toGiven (g.2 _ (List.getElem_mem hi)), Option.bind_some, hw, copied hi, hc]
        simp [hi], trivial, rfl⟩) m i () h1 h2 trivial
  have h0 : L_laws_toGivenS gas (.c0 a 0 (List.replicate a.length (⟨(0 : Int), (0 : Int), (0 : Int)⟩ : SGiven))) = some a := by
    have := key gas 0 (Nat.zero_le _) (gas_lt (by omega))
    simpa using this
  unfold laws_toGivenS E_laws_toGivenS
  simp only [Int.toNat_natCast, h0]
  simp [show a.length * 24 ≤ 140737488355328 from by omega, show ((a.length : Int) ≤ 9223372036854775807) from by omega]
  try omega
def leafs (xs : List SGiven) (t : Int) : List Int := (xs.filter fun g => g.fThing == t).map (·.fLeaf)
theorem leafs_cons (x : SGiven) (xs : List SGiven) (t : Int) : leafs (x :: xs) t = (if (x.fThing == t) = true then [x.fLeaf] else []) ++ leafs xs t := by
  unfold leafs; rw [List.filter_cons]; split <;> simp
theorem p_spec_Leafs {a : List SGiven} {t : Int} (h : a.length * 24 ≤ 140737488355328) : spec_Leafs a t = some (leafs a t) := by
  have key : ∀ m i out, i ≤ a.length → a.length - i < m → out.length ≤ i → L_spec_Leafs m (.c0 a t i out) = some (out ++ leafs (a.drop i) t) := fun m i out h1 h2 h3 =>
    loopN (A := List Int) (n := a.length) (Lp := L_spec_Leafs) (st := fun i out => .c0 a t i out) (Inv := fun i out => out.length ≤ i) (out := fun i out => some (out ++ leafs (a.drop i) t))
      (fun m out _ => by simp [L_spec_Leafs, B_spec_Leafs, leafs])
      (fun m i out hi ho => by
        have hw : w64 ((i : Int) + 1) = ((i + 1 : Nat) : Int) := by rw [w64_id (by omega) (by omega)]; rfl
        have hb : (out.length + 1) * 8 ≤ 140737488355328 := by omega
        simp only [L_spec_Leafs, B_spec_Leafs, Int.toNat_natCast, getD_at hi, hw, drop_at hi, leafs_cons]
        cases a[i].fThing == t
        · exact .inr ⟨out, by simp [hi], by omega, by simp⟩
        · exact .inr ⟨out ++ [a[i].fLeaf], by simp [hi, hb], by simp; omega, by simp⟩) m i out h1 h2 h3
  have h0 := key gas 0 [] (Nat.zero_le _) (gas_lt (by omega)) (Nat.le_refl _)
  exact h0
theorem p_impl_Leafs {a : List SGiven} {t : Int} (h : a.length * 24 ≤ 140737488355328) : impl_Leafs a t = some (leafs a t) := by
  have key : ∀ m i out, i ≤ a.length → a.length - i < m → out.length ≤ i → L_impl_Leafs m (.c0 t a a.length i out) = some (out ++ leafs (a.drop i) t) := fun m i out h1 h2 h3 =>
    loopN (A := List Int) (n := a.length) (Lp := L_impl_Leafs) (st := fun i out => .c0 t a a.length i out) (Inv := fun i out => out.length ≤ i) (out := fun i out => some (out ++ leafs (a.drop i) t))
      (fun m out _ => by simp [L_impl_Leafs, B_impl_Leafs, leafs])
      (fun m i out hi ho => by
        have hw : w64 ((i : Int) + 1) = ((i + 1 : Nat) : Int) := by rw [w64_id (by omega) (by omega)]; rfl
        have hb : (out.length + 1) * 8 ≤ 140737488355328 := by omega
        simp only [L_impl_Leafs, B_impl_Leafs, Int.toNat_natCast, getD_at hi, hw, drop_at hi, leafs_cons]
        cases a[i].fThing == t
        · exact .inr ⟨out, by simp [hi], by omega, by simp⟩
        · exact .inr ⟨out ++ [a[i].fLeaf], by simp [hi, hb], by simp; omega, by simp⟩) m i out h1 h2 h3
  have h0 := key gas 0 [] (Nat.zero_le _) (gas_lt (by omega)) (Nat.le_refl _)
  exact h0
theorem p_laws_eqIntS {a : (List Int)} (h : a.length ≤ 140737488351232) : laws_eqIntS a a = some true := by
  have h0 : a.length ≤ 140737488351232 := h
  have key : ∀ m i, i ≤ a.length → a.length - i < m → L_laws_eqIntS m (.c0 a a i) = some true := fun m i h1 h2 =>
    loopN (A := Unit) (n := a.length) (Lp := L_laws_eqIntS) (st := fun i _ => .c0 a a i) (Inv := fun _ _ => True) (out := fun _ _ => some true)
      (fun m _ _ => by simp [L_laws_eqIntS, B_laws_eqIntS])
      (fun m i _ hi _ => .inr ⟨(), by
        have hw : w64 ((i : Int) + 1) = ((i + 1 : Nat) : Int) := by rw [w64_id (by omega) (by omega)]; rfl
        simp only [L_laws_eqIntS, B_laws_eqIntS, Int.toNat_natCast, hw]
        simp [hi], trivial, rfl⟩) m i () h1 h2 trivial
  have h0 := key gas 0 (Nat.zero_le _) (gas_lt (by omega))
  unfold laws_eqIntS E_laws_eqIntS
  simp only [bne_self_eq_false, cond_false]
  exact h0
theorem p_laws_eqGiven (a : SGiven)  : laws_eqGiven a a = some true := by
  simp [laws_eqGiven, E_laws_eqGiven]
theorem p_laws_eqGivenS {a : (List SGiven)} (h : a.length ≤ 140737488351232) : laws_eqGivenS a a = some true := by
  have h0 : a.length ≤ 140737488351232 := h
  have key : ∀ m i, i ≤ a.length → a.length - i < m → L_laws_eqGivenS m (.c0 a a i) = some true := fun m i h1 h2 =>
    loopN (A := Unit) (n := a.length) (Lp := L_laws_eqGivenS) (st := fun i _ => .c0 a a i) (Inv := fun _ _ => True) (out := fun _ _ => some true)
      (fun m _ _ => by simp [L_laws_eqGivenS, B_laws_eqGivenS])
      (fun m i _ hi _ => .inr ⟨(), by
        have hw : w64 ((i : Int) + 1) = ((i + 1 : Nat) : Int) := by rw [w64_id (by omega) (by omega)]; rfl
        simp only [L_laws_eqGivenS, B_laws_eqGivenS, Int.toNat_natCast, hw, p_laws_eqGiven _, getD_at hi, Option.bind_some]
        simp [hi], trivial, rfl⟩) m i () h1 h2 trivial
  have h0 := key gas 0 (Nat.zero_le _) (gas_lt (by omega))
  unfold laws_eqGivenS E_laws_eqGivenS
  simp only [bne_self_eq_false, cond_false]
  exact h0
theorem p_laws_markGivenS {a : List SGiven} (h : a.length ≤ 140737488355328) : ∃ xs, laws_markGivenS a 1 = some ((1 : Int) + 3 * a.length, xs) := by
  have key : ∀ m i xs, i ≤ a.length → a.length - i < m → xs.length = a.length → ∃ ys, L_laws_markGivenS m (.c0 (1 + 3 * i) i xs) = some ((1 : Int) + 3 * a.length, ys) := by
    intro m
    induction m with
    | zero => intro i xs _ h; omega
    | succ m ih =>
      intro i xs h1 h2 h3
      simp only [L_laws_markGivenS, B_laws_markGivenS]
      by_cases hi : i = a.length
      · subst hi; exact ⟨xs, by simp [h3]⟩
      · have hw : w64 ((i : Int) + 1) = ((i + 1 : Nat) : Int) := by rw [w64_id (by omega) (by omega)]; rfl
        have hw2 : w64 ((w64 ((w64 ((1 + 3 * (i : Int)) + 1)) + 1)) + 1) = 1 + 3 * ((i + 1 : Nat) : Int) := by
          rw [w64_id (n := (1 + 3 * (i : Int)) + 1) (by omega) (by omega), w64_id (n := (1 + 3 * (i : Int)) + 1 + 1) (by omega) (by omega), w64_id (by omega) (by omega)]; omega
        simp only [hw, hw2, List.length_set, h3]
        have hlt : i < a.length := by omega
        simp only [show (decide ((i : Int) < (a.length : Int))) = true from decide_eq_true (by omega), show (decide ((0 : Int) ≤ (i : Int))) = true from decide_eq_true (by omega), Bool.and_self, cond_true]
        exact ih (i + 1) _ hlt (by omega) (by simp [h3])
  exact key gas 0 a (Nat.zero_le _) (gas_lt (by omega)) rfl
def marks (k : Int) : Nat → List Int
  | 0 => []
  | n + 1 => k :: marks (k + 1) n
theorem marks_len (n : Nat) : ∀ k, (marks k n).length = n := by
  induction n with
  | zero => intro k; rfl
  | succ n ih => intro k; simp [marks, ih]
theorem marks_at : ∀ (n : Nat) (k : Int) (i : Nat), i < n → (marks k n)[i]? = some (k + i) := by
  intro n
  induction n with
  | zero => intro k i h; omega
  | succ n ih =>
    intro k i h
    cases i with
    | zero => simp [marks]
    | succ i => simp only [marks, List.getElem?_cons_succ]; rw [ih (k + 1) i (by omega)]; congr 1; omega
theorem marked {α : Type} {xs : List Int} {i : Nat} (h : i < xs.length) (k : Int) : ((marks k i ++ xs.drop i).set i (k + i)) = marks k (i + 1) ++ xs.drop (i + 1) := by
  have hl := marks_len i k
  rw [List.set_append_right _ _ (by omega), hl, Nat.sub_self, drop_at h, List.set_cons_zero]
  have : marks k (i + 1) = marks k i ++ [k + i] := by
    clear hl h
    induction i generalizing k with
    | zero => simp [marks]
    | succ i ih =>
      rw [marks, ih (k + 1), marks]
      simp
      omega
  rw [this]; simp
theorem p_laws_markIntS {a : List Int} (h : a.length ≤ 140737488355328) : laws_markIntS a 1 = some ((1 : Int) + a.length, marks 1 a.length) := by
  have key : ∀ m i, i ≤ a.length → a.length - i < m → L_laws_markIntS m (.c0 (1 + i) i (marks 1 i ++ a.drop i)) = some ((1 : Int) + a.length, marks 1 a.length) := fun m i h1 h2 =>
    loopN (A := Unit) (n := a.length) (Lp := L_laws_markIntS) (st := fun i _ => .c0 (1 + i) i (marks 1 i ++ a.drop i)) (Inv := fun _ _ => True) (out := fun _ _ => some ((1 : Int) + a.length, marks 1 a.length))
      (fun m _ _ => by simp [L_laws_markIntS, B_laws_markIntS, marks_len])
      (fun m i _ hi _ => .inr ⟨(), by
        have hw : w64 ((i : Int) + 1) = ((i + 1 : Nat) : Int) := by rw [w64_id (by omega) (by omega)]; rfl
        have hw2 : w64 ((1 + (i : Int)) + 1) = 1 + ((i + 1 : Nat) : Int) := by rw [w64_id (by omega) (by omega)]; omega
        have hl : (marks 1 i ++ a.drop i).length = a.length := by simp [marks_len]; omega
        simp only [L_laws_markIntS, B_laws_markIntS, hw, hw2, hl, Int.toNat_natCast, marked (α := Int) hi]
        simp [hi], trivial, rfl⟩) m i () h1 h2 trivial
  have h0 := key gas 0 (Nat.zero_le _) (gas_lt (by omega))
  exact h0
theorem p_laws_heldIntS {n : Nat} (h : n ≤ 140737488355328) : laws_heldIntS (marks 1 n) 1 = some ((1 : Int) + n) := by
  have hl := marks_len n 1
  have key : ∀ m i, i ≤ n → n - i < m → L_laws_heldIntS m (.c0 (marks 1 n) (1 + i) i) = some (1 + n : Int) := fun m i h1 h2 =>
    loopN (A := Unit) (n := n) (Lp := L_laws_heldIntS) (st := fun i _ => .c0 (marks 1 n) (1 + i) i) (Inv := fun _ _ => True) (out := fun _ _ => some (1 + n : Int))
      (fun m _ _ => by simp [L_laws_heldIntS, B_laws_heldIntS, hl])
      (fun m i _ hi _ => .inr ⟨(), by
        have hw : w64 ((i : Int) + 1) = ((i + 1 : Nat) : Int) := by rw [w64_id (by omega) (by omega)]; rfl
        have hw2 : w64 ((1 + (i : Int)) + 1) = 1 + ((i + 1 : Nat) : Int) := by rw [w64_id (by omega) (by omega)]; omega
        have hg : (marks 1 n).getD i 0 = 1 + i := by simp [List.getD, marks_at n 1 i hi]
        simp only [L_laws_heldIntS, B_laws_heldIntS, hw, hw2, hl, Int.toNat_natCast, hg]
        simp [hi], trivial, rfl⟩) m i () h1 h2 trivial
  have h0 := key gas 0 (Nat.zero_le _) (gas_lt (by omega))
  exact h0
theorem law_FnExactLeafs (x0 : (List SGiven)) (x1 : Int) (g0 : (GList 24 GSGiven) x0) (g1 : (GInt .i64) x1) : laws_FnExactLeafs x0 x1 = some true := by
  have g := g0
  obtain ⟨g0, _⟩ := g0
  have hl : (leafs x0 x1).length ≤ 140737488351232 := by
    unfold leafs; rw [List.length_map]; have := List.length_filter_le (fun g : SGiven => g.fThing == x1) x0; omega
  obtain ⟨r, hr⟩ := p_laws_szGivenS g 1048576
  obtain ⟨ys, hm⟩ := p_laws_markGivenS (a := x0) (by omega)
  simp only [laws_FnExactLeafs, E_laws_FnExactLeafs, hr, Option.bind_some, p_laws_toGivenS g, p_spec_Leafs (a := x0) (by omega), p_impl_Leafs (a := x0) (by omega), p_laws_eqIntS (a := leafs x0 x1) (by omega),
    p_laws_eqGivenS (a := x0) (by omega), hm, p_laws_markIntS (a := leafs x0 x1) (by omega), p_laws_heldIntS (n := (leafs x0 x1).length) (by omega)]
  have e1 : decide ((1 : Int) + 3 * (x0.length : Int) < 0) = false := decide_eq_false (by omega)
  have e2 : decide ((1 : Int) + ((leafs x0 x1).length : Int) < 0) = false := decide_eq_false (by omega)
  simp only [e1, e2, Bool.not_true, cond_false, bne_self_eq_false]
  cases decide (r < 0) <;> rfl
end Go.Proofs.Ytmhggcgkbenedaa.G

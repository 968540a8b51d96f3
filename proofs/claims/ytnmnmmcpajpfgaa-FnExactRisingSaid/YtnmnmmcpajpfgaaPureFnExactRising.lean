/- Rising of the program and of the reference answer alike for every list. -/
import Derived.Test.YtnmnmmcpajpfgaaOpen
import Derived.Test.YtnmnmmcpajpfgaaPFnExactRisingx0
import Derived.Test.YtnmnmmcpajpfgaaPFnExactRisingx2
namespace Go.Proofs.Ytnmnmmcpajpfgaa.Pure
open Go.RowKit Go.Proofs.YtnmnmmcpajpfgaaW.PrintWords Go.Proofs.YtnmnmmcpajpfgaaW.PrintLast Go.Proofs.Ytnmnmmcpajpfgaa.Open Go.Proofs.Ytnmnmmcpajpfgaa.PFnExactRising

set_option linter.unusedVariables false
set_option linter.unusedSimpArgs false

theorem Ev.shift {α : Type} {g : Nat → Option α} {r : α} (h : Ev (fun k => g (k + 1)) r) : Ev g r := Ev.step (fun _ => rfl) h
theorem wrap_nat {i n : Nat} (h : i < n) (hn : n ≤ 9223372036854775807) : wrap64 ((i : Int) + 1) = ((i + 1 : Nat) : Int) := by
  unfold wrap64; omega
theorem wrap_up {i : Int} {n : Nat} (h0 : 0 ≤ i) (h : i < (n : Int)) (hn : n ≤ 9223372036854775807) : wrap64 (i + 1) = i + 1 := by
  unfold wrap64; omega
theorem wrap_down {i : Int} {n : Nat} (h0 : 1 ≤ i) (h : i ≤ (n : Int)) (hn : n ≤ 9223372036854775807) : wrap64 (i - 1) = i - 1 := by
  unfold wrap64; omega
theorem wrap_in {i : Int} (h0 : -9223372036854775808 ≤ i) (h : i ≤ 9223372036854775807) : wrap64 i = i := by
  unfold wrap64; omega
/-- A loop that fills a list made ahead, place by place. -/
theorem fillLoop {α β : Type} (g : Nat → List α → List β → Int → Option (List β)) (z : α) (conv : α → β)
    (hs : ∀ k xs ys (i : Int), 0 ≤ i → i < (xs.length : Int) → ys.length = xs.length → g (k + 1) xs ys i = g k xs (ys.set i.toNat (conv (xs.getD i.toNat z))) (wrap64 (i + 1)))
    (he : ∀ k xs ys (i : Int), ¬ i < (xs.length : Int) → g (k + 1) xs ys i = some ys) (xs : List α) (hn : xs.length ≤ 9223372036854775807) :
    ∀ (d : Nat) (ys : List β) (i : Nat), ys.length = xs.length → i + d = xs.length → Ev (fun k => g k xs ys i) (ys.take i ++ (xs.drop i).map conv) := by
  intro d
  induction d with
  | zero =>
    intro ys i hl hi
    refine Ev.shift (Ev.congr (fun k => he k xs ys i (by omega)) ?_)
    rw [List.drop_of_length_le (by omega), List.map_nil, List.append_nil, List.take_of_length_le (by omega)]
    exact Ev.now _
  | succ d ih =>
    intro ys i hl hi
    refine Ev.shift (Ev.congr (fun k => hs k xs ys i (by omega) (by omega) hl) ?_)
    have hi' : i < xs.length := by omega
    rw [wrap_nat hi' hn]
    have h := ih (ys.set i (conv (xs.getD i z))) (i + 1) (by simpa using hl) (by omega)
    have e : (ys.set i (conv (xs.getD i z))).take (i + 1) ++ (xs.drop (i + 1)).map conv = ys.take i ++ (xs.drop i).map conv := by
      rw [List.drop_eq_getElem_cons hi', List.map_cons, List.take_succ_eq_append_getElem (by simpa using (by omega : i < ys.length)), List.take_set_of_le (by omega)]
      simp [List.getD, List.getElem?_eq_getElem hi']
    rw [e] at h
    simpa only [Int.toNat_natCast] using h
/-- A loop that holds two lists against each other. -/
theorem sameLoop {α : Type} (g : Nat → List α → List α → Int → Option Bool)
    (hs : ∀ k xs (i : Int), 0 ≤ i → i < (xs.length : Int) → g (k + 1) xs xs i = g k xs xs (wrap64 (i + 1)))
    (he : ∀ k xs (i : Int), ¬ i < (xs.length : Int) → g (k + 1) xs xs i = some true) (xs : List α) (hn : xs.length ≤ 9223372036854775807) :
    ∀ (d i : Nat), i + d = xs.length → Ev (fun k => g k xs xs i) true := by
  intro d
  induction d with
  | zero => intro i hi; exact Ev.shift (Ev.congr (fun k => he k xs i (by omega)) (Ev.now _))
  | succ d ih =>
    intro i hi
    refine Ev.shift (Ev.congr (fun k => hs k xs i (by omega) (by omega)) ?_)
    rw [wrap_nat (n := xs.length) (by omega) hn]
    exact ih (i + 1) (by omega)

def toGiven (x : S54) : S52 := ⟨x.f0, x.f1, x.f2⟩
theorem toGivenS_ev (l : List S54) (hn : l.length * 24 ≤ 140737488351232) : Ev (fun k => laws_toGivenS.f k l) (l.map toGiven) := by
  unfold laws_toGivenS.f
  simp only [if_pos (show (0 : Int) ≤ (l.length : Int) by omega), Int.toNat_natCast, if_pos (show l.length ≤ 11728124029610 by omega)]
  have h := fillLoop laws_toGivenS.l0 z54 toGiven (fun k xs ys i h0 h1 hl => by
    simp only [laws_toGivenS.l0, laws_toGiven.f, Option.bind_some, if_pos h0, if_pos h1, if_pos (show i < (ys.length : Int) by omega)]; rfl) (fun k xs ys i h => by
    simp only [laws_toGivenS.l0, if_neg h]) l (by omega) l.length (List.replicate l.length z52) 0 (by simp) (by omega)
  simpa using h
theorem eqGivenS_ev (l : List S52) (hn : l.length ≤ 9223372036854775807) : Ev (fun k => laws_eqGivenS.f k l l) true := by
  unfold laws_eqGivenS.f
  simp only [if_true]
  exact sameLoop laws_eqGivenS.l0 (fun k xs i h0 h1 => by
    simp only [laws_eqGivenS.l0, laws_eqGiven.f, Option.bind_some, if_pos h0, if_pos h1, if_true]) (fun k xs i h => by
    simp only [laws_eqGivenS.l0, if_neg h]) l hn l.length 0 (by omega)

def leafs (x : List S52) (t : Int) : List Int := (x.filter fun g => g.f0 == t).map fun g => g.f1
theorem leafs_ev (x : List S52) (hn : x.length * 24 ≤ 140737488351232) (t : Int) : ∀ (d i : Nat) (out : List Int), i + d = x.length → out.length ≤ i →
    Ev (fun k => impl_Leafs.l0 k t out x (x.length : Int) i) (out ++ leafs (x.drop i) t) := by
  intro d
  induction d with
  | zero =>
    intro i out hi _
    refine Ev.shift ?_
    simp only [impl_Leafs.l0, if_neg (show ¬ ((i : Int) < x.length) by omega), List.drop_of_length_le (show x.length ≤ i by omega)]
    simp only [leafs, List.filter_nil, List.map_nil, List.append_nil]
    exact Ev.now _
  | succ d ih =>
    intro i out hi ho
    have hl : i < x.length := by omega
    have hr : rd_T52 x i = x[i] := by simp [rd_T52, List.getD, List.getElem?_eq_getElem hl]
    have hw := wrap_nat (i := i) (n := x.length) (by omega) (by omega)
    refine Ev.shift ?_
    simp only [impl_Leafs.l0, if_pos (show (i : Int) < x.length by omega), if_pos (show (0 : Int) ≤ i by omega), hw, hr, if_pos (show out.length < 17592186044416 by omega)]
    rw [List.drop_eq_getElem_cons hl]
    by_cases e : x[i].f0 = t
    · simp only [if_pos e]
      have h := ih (i + 1) (out ++ [x[i].f1]) (by omega) (by simp; omega)
      have e2 : out ++ [x[i].f1] ++ leafs (x.drop (i + 1)) t = out ++ leafs (x[i] :: x.drop (i + 1)) t := by
        unfold leafs
        rw [List.filter_cons_of_pos (by simpa using e), List.map_cons, List.append_assoc, List.singleton_append]
      rw [e2] at h
      exact h
    · simp only [if_neg e]
      have h := ih (i + 1) out (by omega) (by omega)
      have e2 : leafs (x[i] :: x.drop (i + 1)) t = leafs (x.drop (i + 1)) t := by
        unfold leafs
        rw [List.filter_cons_of_neg (by simpa using e)]
      rw [e2]
      exact h
def okTwo (x : List S52) (i j : Nat) : Prop := (rd_T52 x i).f0 = (rd_T52 x j).f0 → (rd_T52 x j).f1 < (rd_T52 x i).f1
theorem spec_in (x : List S52) (hn : x.length ≤ 9223372036854775807) (i : Nat) (hi : i < x.length) {Q : Prop}
    (next : ∃ r, Ev (fun k => spec_Rising.l0 k x ((i + 1 : Nat) : Int)) r ∧ (r = true ↔ Q)) :
    ∀ (d j : Nat), j + d = i → ∃ r, Ev (fun k => spec_Rising.l1 k x i j) r ∧ (r = true ↔ ((∀ m, j ≤ m → m < i → okTwo x i m) ∧ Q)) := by
  have hw := wrap_nat (i := i) (n := x.length) (by omega) hn
  intro d
  induction d with
  | zero =>
    intro j hj
    obtain ⟨r, h1, h2⟩ := next
    refine ⟨r, Ev.shift ?_, h2.trans ⟨fun h => ⟨fun m _ _ => (by omega), h⟩, fun h => h.2⟩⟩
    simp only [spec_Rising.l1, if_neg (show ¬ ((j : Int) < i) by omega), hw]; exact h1
  | succ d ih =>
    intro j hj
    have hwj := wrap_nat (i := j) (n := x.length) (by omega) hn
    by_cases e : okTwo x i j
    · obtain ⟨r, h1, h2⟩ := ih (j + 1) (by omega)
      refine ⟨r, Ev.shift ?_, h2.trans ⟨fun h => ⟨fun m hm hi => ?_, h.2⟩, fun h => ⟨fun m hm hi => h.1 m (by omega) hi, h.2⟩⟩⟩
      · simp only [spec_Rising.l1, if_pos (show (j : Int) < i by omega), if_pos (show (0 : Int) ≤ i by omega), if_pos (show (i : Int) < x.length by omega), if_pos (show (0 : Int) ≤ j by omega), if_pos (show (j : Int) < x.length by omega), hwj]
        by_cases e1 : (rd_T52 x i).f0 = (rd_T52 x j).f0
        · have := e e1
          simp only [if_pos e1, if_neg (show ¬ ((rd_T52 x i).f1 ≤ (rd_T52 x j).f1) by omega)]; exact h1
        · simp only [if_neg e1]; exact h1
      · rcases Nat.eq_or_lt_of_le hm with rfl | hm
        · exact e
        · exact h.1 m hm hi
    · refine ⟨false, Ev.shift ?_, ⟨fun h => (by cases h), fun h => absurd (h.1 j (by omega) (by omega)) e⟩⟩
      have e1 : (rd_T52 x i).f0 = (rd_T52 x j).f0 := Classical.byContradiction fun h => e (fun h' => absurd h' h)
      have e2 : (rd_T52 x i).f1 ≤ (rd_T52 x j).f1 := Classical.byContradiction fun h => e (fun _ => by omega)
      simp only [spec_Rising.l1, if_pos (show (j : Int) < i by omega), if_pos (show (0 : Int) ≤ i by omega), if_pos (show (i : Int) < x.length by omega), if_pos (show (0 : Int) ≤ j by omega), if_pos (show (j : Int) < x.length by omega), if_pos e1, if_pos e2]
      exact Ev.now _
theorem spec_out (x : List S52) (hn : x.length ≤ 9223372036854775807) : ∀ (d i : Nat), i + d = x.length → ∃ r, Ev (fun k => spec_Rising.l0 k x i) r ∧ (r = true ↔ ∀ i', i ≤ i' → i' < x.length → ∀ m, m < i' → okTwo x i' m) := by
  intro d
  induction d with
  | zero =>
    intro i hi
    refine ⟨true, Ev.shift ?_, ⟨fun _ i' h1 h2 => (by omega), fun _ => rfl⟩⟩
    simp only [spec_Rising.l0, if_neg (show ¬ ((i : Int) < x.length) by omega)]; exact Ev.now _
  | succ d ih =>
    intro i hi
    obtain ⟨r, h1, h2⟩ := spec_in x hn i (by omega) (ih (i + 1) (by omega)) i 0 (by omega)
    refine ⟨r, Ev.shift ?_, h2.trans ⟨fun h i' ha hb m hm => ?_, fun h => ⟨fun m _ hm => h i (by omega) (by omega) m hm, fun i' ha => h i' (by omega)⟩⟩⟩
    · simp only [spec_Rising.l0, if_pos (show (i : Int) < x.length by omega)]; exact h1
    · rcases Nat.eq_or_lt_of_le ha with rfl | ha
      · exact h.1 m (by omega) hm
      · exact h.2 i' (by omega) hb m hm
def chain (l : List Int) : Prop := ∀ m, 1 ≤ m → m < l.length → rd l ((m : Int) - 1) < rd l m
theorem impl_in (x : List S52) (hn : x.length ≤ 9223372036854775807) (i : Nat) (hi : i < x.length) {Q : Prop} (l : List Int) (hl : l.length ≤ 9223372036854775807)
    (next : ∃ r, Ev (fun k => impl_Rising.l0 k x x (x.length : Int) ((i + 1 : Nat) : Int)) r ∧ (r = true ↔ Q)) :
    ∀ (d j : Nat), j + d = l.length → 1 ≤ j → ∃ r, Ev (fun k => impl_Rising.l1 k x l j x (x.length : Int) i) r ∧ (r = true ↔ ((∀ m, j ≤ m → m < l.length → rd l ((m : Int) - 1) < rd l m) ∧ Q)) := by
  have hw := wrap_nat (i := i) (n := x.length) (by omega) hn
  intro d
  induction d with
  | zero =>
    intro j hj _
    obtain ⟨r, h1, h2⟩ := next
    refine ⟨r, Ev.shift ?_, h2.trans ⟨fun h => ⟨fun m _ _ => (by omega), h⟩, fun h => h.2⟩⟩
    simp only [impl_Rising.l1, if_neg (show ¬ ((j : Int) < l.length) by omega), hw]; exact h1
  | succ d ih =>
    intro j hj hj1
    have hwj := wrap_nat (i := j) (n := l.length) (by omega) hl
    have hwd := wrap_down (i := (j : Int)) (n := l.length) (by omega) (by omega) hl
    have hstep : ∀ {r}, Ev (fun k => if rd l ((j : Int) - 1) ≥ rd l j then some false else impl_Rising.l1 k x l ((j + 1 : Nat) : Int) x (x.length : Int) i) r → Ev (fun k => impl_Rising.l1 k x l j x (x.length : Int) i) r := fun h => Ev.shift (by
      simp only [impl_Rising.l1, hwd, hwj, if_pos (show (j : Int) < l.length by omega), if_pos (show (0 : Int) ≤ (j : Int) - 1 by omega), if_pos (show (j : Int) - 1 < l.length by omega), if_pos (show (0 : Int) ≤ j by omega)]
      exact h)
    by_cases e : rd l ((j : Int) - 1) < rd l j
    · obtain ⟨r, h1, h2⟩ := ih (j + 1) (by omega) (by omega)
      refine ⟨r, hstep ?_, h2.trans ⟨fun h => ⟨fun m hm hi => ?_, h.2⟩, fun h => ⟨fun m hm hi => h.1 m (by omega) hi, h.2⟩⟩⟩
      · simp only [if_neg (show ¬ (rd l ((j : Int) - 1) ≥ rd l j) by omega)]; exact h1
      · rcases Nat.eq_or_lt_of_le hm with rfl | hm
        · exact e
        · exact h.1 m hm hi
    · refine ⟨false, hstep ?_, ⟨fun h => (by cases h), fun h => absurd (h.1 j (by omega) (by omega)) e⟩⟩
      simp only [if_pos (show rd l ((j : Int) - 1) ≥ rd l j by omega)]
      exact Ev.now _
theorem leafs_len (x : List S52) (t : Int) : (leafs x t).length ≤ x.length := by
  unfold leafs; rw [List.length_map]; exact List.length_filter_le _ _
theorem impl_out (x : List S52) (hn : x.length * 24 ≤ 140737488351232) : ∀ (d i : Nat), i + d = x.length → ∃ r, Ev (fun k => impl_Rising.l0 k x x (x.length : Int) i) r ∧ (r = true ↔ ∀ i', i ≤ i' → i' < x.length → chain (leafs x (rd_T52 x i').f0)) := by
  intro d
  induction d with
  | zero =>
    intro i hi
    refine ⟨true, Ev.shift ?_, ⟨fun _ i' h1 h2 => (by omega), fun _ => rfl⟩⟩
    simp only [impl_Rising.l0, if_neg (show ¬ ((i : Int) < x.length) by omega)]; exact Ev.now _
  | succ d ih =>
    intro i hi
    have hle := leafs_len x (rd_T52 x i).f0
    have hLf := leafs_ev x hn (rd_T52 x i).f0 x.length 0 [] (by omega) (by simp)
    simp only [List.nil_append, List.drop_zero] at hLf
    have key : ∃ r, Ev (fun k => impl_Rising.l1 k x (leafs x (rd_T52 x i).f0) 1 x (x.length : Int) i) r ∧ (r = true ↔ (chain (leafs x (rd_T52 x i).f0) ∧ ∀ i', i + 1 ≤ i' → i' < x.length → chain (leafs x (rd_T52 x i').f0))) := by
      rcases Nat.eq_zero_or_pos (leafs x (rd_T52 x i).f0).length with h0 | h0
      · obtain ⟨r, h1, h2⟩ := ih (i + 1) (by omega)
        refine ⟨r, Ev.shift ?_, h2.trans ⟨fun h => ⟨fun m _ hm => (by omega), h⟩, fun h => h.2⟩⟩
        simp only [impl_Rising.l1, h0, if_neg (show ¬ ((1 : Int) < ((0 : Nat) : Int)) by omega), wrap_nat (i := i) (n := x.length) (by omega) (by omega)]
        exact h1
      · obtain ⟨r, h1, h2⟩ := impl_in x (by omega) i (by omega) (leafs x (rd_T52 x i).f0) (by omega) (ih (i + 1) (by omega)) ((leafs x (rd_T52 x i).f0).length - 1) 1 (by omega) (by omega)
        exact ⟨r, h1, h2⟩
    obtain ⟨r, h1, h2⟩ := key
    refine ⟨r, Ev.shift ?_, h2.trans ⟨fun h i' ha hb => ?_, fun h => ⟨h i (by omega) (by omega), fun i' ha => h i' (by omega)⟩⟩⟩
    · simp only [impl_Rising.l0, if_pos (show (i : Int) < x.length by omega), if_pos (show (0 : Int) ≤ i by omega), impl_Leafs.f]
      exact Ev.bind hLf h1
    · rcases Nat.eq_or_lt_of_le ha with rfl | ha
      · exact h.1
      · exact h.2 i' (by omega) hb
theorem rd_nat (l : List Int) (i : Nat) (h : i < l.length) : rd l i = l[i] := by
  simp [rd, List.getD, List.getElem?_eq_getElem h]
theorem chain_iff (l : List Int) : chain l ↔ l.Pairwise (· < ·) := by
  rw [List.pairwise_iff_getElem]
  unfold chain
  constructor
  · intro h i j hi hj hij
    obtain ⟨d, rfl⟩ : ∃ d, j = i + 1 + d := ⟨j - i - 1, by omega⟩
    clear hij
    induction d with
    | zero =>
      have := h (i + 1) (by omega) hj
      rw [show (((i + 1 : Nat) : Int) - 1) = (i : Int) by omega, rd_nat _ _ hi, rd_nat _ _ hj] at this
      exact this
    | succ d ih =>
      have h1 := ih (by omega)
      have h2 := h (i + 1 + (d + 1)) (by omega) hj
      rw [show (((i + 1 + (d + 1) : Nat) : Int) - 1) = ((i + 1 + d : Nat) : Int) by omega, rd_nat _ _ (show i + 1 + d < l.length by omega), rd_nat _ _ hj] at h2
      omega
  · intro h m h1 h2
    obtain ⟨i, rfl⟩ : ∃ i, m = i + 1 := ⟨m - 1, by omega⟩
    have := h i (i + 1) (by omega) h2 (by omega)
    rw [show (((i + 1 : Nat) : Int) - 1) = (i : Int) by omega, rd_nat _ _ (show i < l.length by omega), rd_nat _ _ h2]
    exact this
theorem rising_iff (x : List S52) : (∀ i', 0 ≤ i' → i' < x.length → ∀ m, m < i' → okTwo x i' m) ↔ ∀ i', 0 ≤ i' → i' < x.length → chain (leafs x (rd_T52 x i').f0) := by
  have hr : ∀ i (h : i < x.length), rd_T52 x i = x[i] := fun i h => by simp [rd_T52, List.getD, List.getElem?_eq_getElem h]
  have e1 : (∀ i', 0 ≤ i' → i' < x.length → ∀ m, m < i' → okTwo x i' m) ↔ x.Pairwise (fun a b => b.f0 = a.f0 → a.f1 < b.f1) := by
    rw [List.pairwise_iff_getElem]
    constructor
    · intro h i j hi hj hij
      have := h j (by omega) hj i hij
      unfold okTwo at this
      rwa [hr i hi, hr j hj] at this
    · intro h i _ hi m hm
      have := h m i (by omega) hi hm
      unfold okTwo
      rwa [hr i hi, hr m (by omega)]
  have e2 : ∀ t, chain (leafs x t) ↔ x.Pairwise (fun a b => a.f0 = t → b.f0 = t → a.f1 < b.f1) := by
    intro t
    rw [chain_iff, leafs, List.pairwise_map, List.pairwise_filter]
    simp
  rw [e1]
  constructor
  · intro h i _ hi
    rw [e2]
    exact h.imp (fun h a b => h (by rw [a, b]))
  · intro h
    rw [List.pairwise_iff_getElem]
    intro i j hi hj hij e
    have := (e2 _).1 (h i (by omega) hi)
    rw [List.pairwise_iff_getElem] at this
    exact this i j hi hj hij (by rw [hr i hi]) (by rw [hr i hi]; exact e)
theorem FnExactRising' (l0 : List S54) (g : l0.length * 24 ≤ 140737488351232) : ∃ k, laws_FnExactRising.f k l0 = some true := by
  refine Ev.rounds ?_
  unfold laws_FnExactRising.f laws_szGivenS.f
  by_cases h : wrap64 (1048576 - (l0.length : Int)) < 0
  · simp only [if_pos h, Option.bind_some]; exact Ev.now _
  · simp only [if_neg h, Option.bind_some]
    have hl : (l0.map toGiven).length * 24 ≤ 140737488351232 := by simp; omega
    obtain ⟨r, h1, h2⟩ := spec_out (l0.map toGiven) (by omega) (l0.map toGiven).length 0 (by omega)
    obtain ⟨r', h3, h4⟩ := impl_out (l0.map toGiven) hl (l0.map toGiven).length 0 (by omega)
    have e : r = r' := by rw [Bool.eq_iff_iff, h2, h4]; exact rising_iff _
    subst e
    have ht := toGivenS_ev l0 g
    refine Ev.bind ht (Ev.bind (a := r) h1 (Ev.bind ht (Ev.bind (a := r) h3 ?_)))
    simp only [bne_self_eq_false, Bool.false_eq_true, if_false]
    refine Ev.bind ht (Ev.bind (a := true) (eqGivenS_ev _ (by omega)) ?_)
    simp only [if_true]
    exact Ev.now _

theorem FnExactRising : ∀ (l0 : List (S54)), (GList 24 (GIso (GPair (GInt .i64) (GPair (GInt .i64) (GInt .i64))) (fun x : S54 => (x.f0, x.f1, x.f2)))) l0 → ∃ k, laws_FnExactRising.f k l0 = some true := fun l0 g => FnExactRising' l0 g.1

end Go.Proofs.Ytnmnmmcpajpfgaa.Pure

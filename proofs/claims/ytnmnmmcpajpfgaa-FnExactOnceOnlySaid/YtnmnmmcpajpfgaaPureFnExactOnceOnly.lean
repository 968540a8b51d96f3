/- OnceOnly of the program and of the reference answer alike for every list. -/
import Derived.Test.YtnmnmmcpajpfgaaOpen
import Derived.Test.YtnmnmmcpajpfgaaPFnExactOnceOnlyx0
import Derived.Test.YtnmnmmcpajpfgaaPFnExactOnceOnlyx2
namespace Go.Proofs.Ytnmnmmcpajpfgaa.Pure
open Go.RowKit Go.Proofs.YtnmnmmcpajpfgaaW.PrintWords Go.Proofs.YtnmnmmcpajpfgaaW.PrintLast Go.Proofs.Ytnmnmmcpajpfgaa.Open Go.Proofs.Ytnmnmmcpajpfgaa.PFnExactOnceOnly

set_option linter.unusedVariables false
set_option linter.unusedSimpArgs false

theorem Ev.shift {α : Type} {g : Nat → Option α} {r : α} (h : Ev (fun k => g (k + 1)) r) : Ev g r := Ev.step (fun _ => rfl) h
theorem wrap_nat {i n : Nat} (h : i < n) (hn : n ≤ 9223372036854775807) : wrap64 ((i : Int) + 1) = ((i + 1 : Nat) : Int) := by
  unfold wrap64; omega
theorem wrap_up {i : Int} {n : Nat} (h0 : 0 ≤ i) (h : i < (n : Int)) (hn : n ≤ 9223372036854775807) : wrap64 (i + 1) = i + 1 := by
  unfold wrap64; omega
theorem wrap_down {i : Int} {n : Nat} (h0 : 1 ≤ i) (h : i ≤ (n : Int)) (hn : n ≤ 9223372036854775807) : wrap64 (i - 1) = i - 1 := by
  unfold wrap64; omega
theorem wrap_in {i : Int} (h0 : -9223372036854775808 ≤ i) (h : i ≤ 9223372036854775807) : wrap64 i = i := by
  unfold wrap64; omega
/-- A loop that fills a list made ahead, place by place. -/
theorem fillLoop {α β : Type} (g : Nat → List α → List β → Int → Option (List β)) (z : α) (conv : α → β)
    (hs : ∀ k xs ys (i : Int), 0 ≤ i → i < (xs.length : Int) → ys.length = xs.length → g (k + 1) xs ys i = g k xs (ys.set i.toNat (conv (xs.getD i.toNat z))) (wrap64 (i + 1)))
    (he : ∀ k xs ys (i : Int), ¬ i < (xs.length : Int) → g (k + 1) xs ys i = some ys) (xs : List α) (hn : xs.length ≤ 9223372036854775807) :
    ∀ (d : Nat) (ys : List β) (i : Nat), ys.length = xs.length → i + d = xs.length → Ev (fun k => g k xs ys i) (ys.take i ++ (xs.drop i).map conv) := by
  intro d
  induction d with
  | zero =>
    intro ys i hl hi
    refine Ev.shift (Ev.congr (fun k => he k xs ys i (by omega)) ?_)
    rw [List.drop_of_length_le (by omega), List.map_nil, List.append_nil, List.take_of_length_le (by omega)]
    exact Ev.now _
  | succ d ih =>
    intro ys i hl hi
    refine Ev.shift (Ev.congr (fun k => hs k xs ys i (by omega) (by omega) hl) ?_)
    have hi' : i < xs.length := by omega
    rw [wrap_nat hi' hn]
    have h := ih (ys.set i (conv (xs.getD i z))) (i + 1) (by simpa using hl) (by omega)
    have e : (ys.set i (conv (xs.getD i z))).take (i + 1) ++ (xs.drop (i + 1)).map conv = ys.take i ++ (xs.drop i).map conv := by
      rw [List.drop_eq_getElem_cons hi', List.map_cons, List.take_succ_eq_append_getElem (by simpa using (by omega : i < ys.length)), List.take_set_of_le (by omega)]
      simp [List.getD, List.getElem?_eq_getElem hi']
    rw [e] at h
    simpa only [Int.toNat_natCast] using h
/-- A loop that holds two lists against each other. -/
theorem sameLoop {α : Type} (g : Nat → List α → List α → Int → Option Bool)
    (hs : ∀ k xs (i : Int), 0 ≤ i → i < (xs.length : Int) → g (k + 1) xs xs i = g k xs xs (wrap64 (i + 1)))
    (he : ∀ k xs (i : Int), ¬ i < (xs.length : Int) → g (k + 1) xs xs i = some true) (xs : List α) (hn : xs.length ≤ 9223372036854775807) :
    ∀ (d i : Nat), i + d = xs.length → Ev (fun k => g k xs xs i) true := by
  intro d
  induction d with
  | zero => intro i hi; exact Ev.shift (Ev.congr (fun k => he k xs i (by omega)) (Ev.now _))
  | succ d ih =>
    intro i hi
    refine Ev.shift (Ev.congr (fun k => hs k xs i (by omega) (by omega)) ?_)
    rw [wrap_nat (n := xs.length) (by omega) hn]
    exact ih (i + 1) (by omega)

def toGiven (x : S54) : S52 := ⟨x.f0, x.f1, x.f2⟩
theorem toGivenS_ev (l : List S54) (hn : l.length * 24 ≤ 140737488351232) : Ev (fun k => laws_toGivenS.f k l) (l.map toGiven) := by
  unfold laws_toGivenS.f
  simp only [if_pos (show (0 : Int) ≤ (l.length : Int) by omega), Int.toNat_natCast, if_pos (show l.length ≤ 11728124029610 by omega)]
  have h := fillLoop laws_toGivenS.l0 z54 toGiven (fun k xs ys i h0 h1 hl => by
    simp only [laws_toGivenS.l0, laws_toGiven.f, Option.bind_some, if_pos h0, if_pos h1, if_pos (show i < (ys.length : Int) by omega)]; rfl) (fun k xs ys i h => by
    simp only [laws_toGivenS.l0, if_neg h]) l (by omega) l.length (List.replicate l.length z52) 0 (by simp) (by omega)
  simpa using h
theorem eqGivenS_ev (l : List S52) (hn : l.length ≤ 9223372036854775807) : Ev (fun k => laws_eqGivenS.f k l l) true := by
  unfold laws_eqGivenS.f
  simp only [if_true]
  exact sameLoop laws_eqGivenS.l0 (fun k xs i h0 h1 => by
    simp only [laws_eqGivenS.l0, laws_eqGiven.f, Option.bind_some, if_pos h0, if_pos h1, if_true]) (fun k xs i h => by
    simp only [laws_eqGivenS.l0, if_neg h]) l hn l.length 0 (by omega)

theorem rd_take (x : List S52) (i j : Nat) (h : j < i) : rd_T52 (x.take i) j = rd_T52 x j := by
  simp [rd_T52, List.getElem?_take, h]
theorem once_in (x : List S52) (hn : x.length ≤ 9223372036854775807) (i : Nat) (hi : i < x.length)
    (next : ∃ r, Ev (fun k => spec_OnceOnly.l0 k x ((i : Int) + 1)) r ∧ Ev (fun k => impl_OnceOnly.l0 k x x (x.length : Int) ((i : Int) + 1)) r) :
    ∀ (d j : Nat), j + d = i → ∃ r, Ev (fun k => spec_OnceOnly.l1 k x i j) r ∧ Ev (fun k => impl_OnceOnly.l1 k x x (x.length : Int) i (x.take i) i j ((rd_T52 x i).f0) ((rd_T52 x i).f1) ((rd_T52 x i).f2)) r := by
  have hl : ((x.take i).length : Int) = i := by rw [List.length_take]; omega
  have hw := wrap_up (i := (i : Int)) (n := x.length) (by omega) (by omega) hn
  intro d
  induction d with
  | zero =>
    intro j hj
    obtain ⟨r, h1, h2⟩ := next
    refine ⟨r, Ev.shift ?_, Ev.shift ?_⟩
    · simp only [spec_OnceOnly.l1, if_neg (show ¬ ((j : Int) < i) by omega), hw]; exact h1
    · simp only [impl_OnceOnly.l1, if_neg (show ¬ ((j : Int) < i) by omega), hw]; exact h2
  | succ d ih =>
    intro j hj
    have hwj := wrap_up (i := (j : Int)) (n := x.length) (by omega) (by omega) hn
    by_cases e0 : (rd_T52 x i).f0 = (rd_T52 x j).f0 ∧ (rd_T52 x i).f1 = (rd_T52 x j).f1
    · refine ⟨false, Ev.shift ?_, Ev.shift ?_⟩
      · simp only [spec_OnceOnly.l1, if_pos (show (j : Int) < i by omega), if_pos (show (0 : Int) ≤ i by omega), if_pos (show (i : Int) < x.length by omega), if_pos (show (0 : Int) ≤ j by omega), if_pos (show (j : Int) < x.length by omega), if_pos e0.1, if_pos e0.2]
        exact Ev.now _
      · simp only [impl_OnceOnly.l1, hl, rd_take x i j (by omega), if_pos (show (j : Int) < i by omega), if_pos (show (0 : Int) ≤ j by omega), if_pos e0.1, if_pos e0.2]
        exact Ev.now _
    · obtain ⟨r, h1, h2⟩ := ih (j + 1) (by omega)
      refine ⟨r, Ev.shift ?_, Ev.shift ?_⟩
      · simp only [spec_OnceOnly.l1, if_pos (show (j : Int) < i by omega), if_pos (show (0 : Int) ≤ i by omega), if_pos (show (i : Int) < x.length by omega), if_pos (show (0 : Int) ≤ j by omega), if_pos (show (j : Int) < x.length by omega), hwj]
        by_cases e1 : (rd_T52 x i).f0 = (rd_T52 x j).f0
        · simp only [if_pos e1, if_neg (fun h => e0 ⟨e1, h⟩)]; exact h1
        · simp only [if_neg e1]; exact h1
      · simp only [impl_OnceOnly.l1, hl, rd_take x i j (by omega), if_pos (show (j : Int) < i by omega), if_pos (show (0 : Int) ≤ j by omega), hwj]
        by_cases e1 : (rd_T52 x i).f0 = (rd_T52 x j).f0
        · simp only [if_pos e1, if_neg (fun h => e0 ⟨e1, h⟩)]; exact h2
        · simp only [if_neg e1]; exact h2
theorem once_out (x : List S52) (hn : x.length ≤ 9223372036854775807) : ∀ (d i : Nat), i + d = x.length → ∃ r, Ev (fun k => spec_OnceOnly.l0 k x i) r ∧ Ev (fun k => impl_OnceOnly.l0 k x x (x.length : Int) i) r := by
  intro d
  induction d with
  | zero =>
    intro i hi
    refine ⟨true, Ev.shift ?_, Ev.shift ?_⟩
    · simp only [spec_OnceOnly.l0, if_neg (show ¬ ((i : Int) < x.length) by omega)]; exact Ev.now _
    · simp only [impl_OnceOnly.l0, if_neg (show ¬ ((i : Int) < x.length) by omega)]; exact Ev.now _
  | succ d ih =>
    intro i hi
    obtain ⟨r, h1, h2⟩ := once_in x hn i (by omega) (by simpa using ih (i + 1) (by omega)) i 0 (by omega)
    refine ⟨r, Ev.shift ?_, Ev.shift ?_⟩
    · simp only [spec_OnceOnly.l0, if_pos (show (i : Int) < x.length by omega)]; exact h1
    · have hl : ((x.take i).length : Int) = i := by rw [List.length_take]; omega
      simp only [impl_OnceOnly.l0, if_pos (show (i : Int) < x.length by omega), if_pos (show (0 : Int) ≤ i by omega), if_pos (show (i : Int) ≤ x.length by omega), Option.bind_some, Int.toNat_natCast, hl]; exact h2
theorem FnExactOnceOnly' (l0 : List S54) (g : l0.length * 24 ≤ 140737488351232) : ∃ k, laws_FnExactOnceOnly.f k l0 = some true := by
  refine Ev.rounds ?_
  unfold laws_FnExactOnceOnly.f laws_szGivenS.f
  by_cases h : wrap64 (1048576 - (l0.length : Int)) < 0
  · simp only [if_pos h, Option.bind_some]; exact Ev.now _
  · simp only [if_neg h, Option.bind_some]
    have hl : (l0.map toGiven).length ≤ 9223372036854775807 := by simp; omega
    obtain ⟨r, h1, h2⟩ := once_out (l0.map toGiven) hl (l0.map toGiven).length 0 (by omega)
    have ht := toGivenS_ev l0 g
    refine Ev.bind ht (Ev.bind (a := r) h1 (Ev.bind ht (Ev.bind (a := r) h2 ?_)))
    simp only [bne_self_eq_false, Bool.false_eq_true, if_false]
    refine Ev.bind ht (Ev.bind (a := true) (eqGivenS_ev _ hl) ?_)
    simp only [if_true]
    exact Ev.now _

theorem FnExactOnceOnly : ∀ (l0 : List (S54)), (GList 24 (GIso (GPair (GInt .i64) (GPair (GInt .i64) (GInt .i64))) (fun x : S54 => (x.f0, x.f1, x.f2)))) l0 → ∃ k, laws_FnExactOnceOnly.f k l0 = some true := fun l0 g => FnExactOnceOnly' l0 g.1

end Go.Proofs.Ytnmnmmcpajpfgaa.Pure

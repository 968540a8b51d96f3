/- Plain facts: numbers of 64 bits, loops by counting, lists and bytes. -/
import Derived.Test.YtkbbicgglblfiaaGreatDoorSnd39
namespace Go.Ev
open Go

theorem A8 {n : Int} (h1 : -9223372036854775808 <= n) (h2 : n <= 9223372036854775807) : AV n = n := by simp only [AV, IntKind.wrap, IntKind.signed, IntKind.bits];simp;omega
theorem Nq {n : Int} (h1 : 0 <= n) (h2 : n <= 255) : w8 n = n := by simp only [w8, IntKind.wrap, IntKind.signed, IntKind.bits];simp;omega
theorem bJ {n : Int} : w8 n = n % 256 := by simp only [w8, IntKind.wrap, IntKind.signed, IntKind.bits];simp
theorem AvR {n : Int} (h : jm .i64 n) : -9223372036854775808 <= n /\ n <= 9223372036854775807 := by simp only [jm, Lit.wf, Bool.and_eq_true, decide_eq_true_eq, IntKind.min, IntKind.max, IntKind.signed, IntKind.bits] at h;simp at h;omega
theorem wL {n : Nat} (h : n < 1000000000000000000000000000000000000000) : n < AY := h
theorem FM {n : Nat} (h : n < 9223372036854775807) : n < AY := wL (by omega)

/-- A loop, by what is still to be done. -/
theorem AvQ {S R : Type} {Lp : Nat -> S -> Option R} {Inv : S -> Prop} {out : S -> Option R} (μ : S -> Nat)
    (step : ∀ m s, Inv s -> Lp (m + 1) s = out s \/ ∃ s', Lp (m + 1) s = Lp m s' /\ Inv s' /\ μ s' < μ s /\ out s = out s') : ∀ m s, μ s < m -> Inv s -> Lp m s = out s := by
  intro m;induction m with
  | zero => intro s h; omega
  | succ m ih =>
    intro s h hI;rcases step m s hI with h1 | ⟨s', h1, h2, h3, h4⟩
    · exact h1
    · rw [h1, h4]; exact ih s' (by omega) h2
/-- A loop over 0 .. n - 1. -/
theorem PV {S R A : Type} {Lp : Nat -> S -> Option R} {st : Nat -> A -> S} {n : Nat} {Inv : Nat -> A -> Prop} {out : Nat -> A -> Option R} (stop : ∀ m a, Inv n a -> Lp (m + 1) (st n a) = out n a)
    (step : ∀ m i a, i < n -> Inv i a -> Lp (m + 1) (st i a) = out i a \/ ∃ a', Lp (m + 1) (st i a) = Lp m (st (i + 1) a') /\ Inv (i + 1) a' /\ out i a = out (i + 1) a') : ∀ m i a, i <= n -> n - i < m -> Inv i a -> Lp m (st i a) = out i a := by
  intro m;induction m with
  | zero => intro i a _ h; omega
  | succ m ih =>
    intro i a hi h hI;by_cases e : i = n;· subst e; exact stop m a hI
    · rcases step m i a (by omega) hI with h1 | ⟨a', h1, h2, h3⟩
      · exact h1
      · rw [h1, h3]; exact ih (i + 1) a' (by omega) (by omega) h2

theorem Ep {α : Type} {p : Prop} {i : Decidable p} {a b : α} (h : p) : (bif decide p then a else b) = a := by rw [Ba h]; rfl
theorem Jh {α : Type} {p : Prop} {i : Decidable p} {a b : α} (h : ¬ p) : (bif decide p then a else b) = b := by rw [D6 h]; rfl
theorem GX {α : Type} {p q : Prop} {i : Decidable p} {j : Decidable q} {a b : α} (h : p /\ q) : (bif decide p && decide q then a else b) = a := by rw [Ba h.1, Ba h.2]; rfl
theorem Fq {i : Nat} (h : i <= 1000000000000000000) : AV ((i : Int) + 1) = ((i + 1 : Nat) : Int) := by rw [A8 (by omega) (by omega)]; rfl
theorem AwB (m j : Nat) : m + (j + 1) + 1 = (m + j + 1) + 1 := rfl
theorem gm {n : Nat} (h : n <= 1000000000000000000) : ∃ m, AY = m + n + 1 := ⟨AY - (n + 1), by have := FM (n := n + 1) (by omega); omega⟩
/-- A loop that is counted through. -/
theorem Wj {S α : Type} {L : Nat -> S -> Option α} {r : Option α} (f : Nat -> S) (n c : Nat) (hn : n + c <= 1000000000000000000) (stop : ∀ m, L (m + c + 1) (f n) = r) (step : ∀ i, i < n -> ∀ m, L (m + 1) (f i) = L m (f (i + 1))) : L AY (f 0) = r := by
  have key : ∀ (j i m : Nat), i + j = n -> L (m + c + j + 1) (f i) = r := by
    intro j;induction j with
    | zero => intro i m h; rw [show i = n by omega]; exact stop m
    | succ j ih => intro i m h; rw [show m + c + (j + 1) + 1 = (m + c + j + 1) + 1 from rfl, step i (by omega)]; exact ih (i + 1) m (by omega)
  obtain ⟨m, hm⟩ : ∃ m, AY = m + c + n + 1 := ⟨AY - (c + n + 1), by have := FM (n := c + n + 1) (by omega); omega⟩
  rw [hm]; exact key n 0 m (by omega)
/-- A loop that is counted through, behind another. -/
theorem AKj {S α : Type} {L : Nat -> S -> Option α} {r : Option α} (f : Nat -> S) (n : Nat) (stop : ∀ m, L (m + 1) (f n) = r) (step : ∀ i, i < n -> ∀ m, L (m + 1) (f i) = L m (f (i + 1))) (m : Nat) : L (m + n + 1) (f 0) = r := by
  have key : ∀ (j i m : Nat), i + j = n -> L (m + j + 1) (f i) = r := by
    intro j;induction j with
    | zero => intro i m h; rw [show i = n by omega]; exact stop m
    | succ j ih => intro i m h; rw [show m + (j + 1) + 1 = (m + j + 1) + 1 from rfl, step i (by omega)]; exact ih (i + 1) m (by omega)
  exact key n 0 m (by omega)
theorem AvM {α : Type} (c : Bool) (a b : α) : (bif c then some a else some b) = some (bif c then a else b) := by cases c <;> rfl
theorem toList_inj {s t : AA} : (s.toList == t.toList) = decide (s = t) := by
  rw [Bool.eq_iff_iff, beq_iff_eq, decide_eq_true_eq];constructor
  · intro h
    rw [ByteArray.toList_eq, ByteArray.toList_eq] at h;cases s; cases t; simp at h; rw [h]
  · intro h; rw [h]
theorem Oe (s : AA) : (s.toList == s.toList) = true := by simp
theorem getD_at {α : Type} {xs : List α} {i : Nat} (h : i < xs.length) (d : α) : xs.getD i d = xs[i] := by simp [List.getD, h]
theorem drop_at {α : Type} {xs : List α} {i : Nat} (h : i < xs.length) : xs.drop i = xs[i] :: xs.drop (i + 1) := List.drop_eq_getElem_cons h
theorem take_at {α : Type} {xs : List α} {i : Nat} (h : i < xs.length) : xs.take (i + 1) = xs.take i ++ [xs[i]] := by rw [List.take_succ_eq_append_getElem h]
theorem Dj (l : List Int) : (ofBytes l).size = l.length := by simp [ofBytes, ByteArray.size]
theorem AEY (a b : AA) : (a ++ b).size = a.size + b.size := ByteArray.size_append
/-- Rows that are copied place by place. -/
theorem copied {α : Type} {xs : List α} {i : Nat} (h : i < xs.length) (z : α) : ((xs.take i ++ List.replicate (xs.length - i) z).set i xs[i]) = xs.take (i + 1) ++ List.replicate (xs.length - (i + 1)) z := by
  have hl : (xs.take i).length = i := by simp; omega
  rw [List.set_append_right _ _ (by omega), hl, Nat.sub_self, take_at h, List.append_assoc];congr 1;rw [show xs.length - i = (xs.length - (i + 1)) + 1 by omega, List.replicate_succ];rfl
theorem AvK {α : Type} {xs : List α} {i : Nat} (h : i <= xs.length) (z : α) : (xs.take i ++ List.replicate (xs.length - i) z).length = xs.length := by simp; omega
end Go.Ev

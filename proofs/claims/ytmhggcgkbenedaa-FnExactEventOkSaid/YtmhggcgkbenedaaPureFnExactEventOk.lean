/- The plain law of FnExactEventOk: whatever the arguments, it answers true. Conditions: what is read is in reach. -/
import Derived.Test.YtmhggcgkbenedaaFFnExactEventOk
import Derived.Test.YtmhggcgkbenedaaOpens
import Derived.Test.YtmhggcgkbenedaaPBase
namespace Go.Proofs.Ytmhggcgkbenedaa.G
open Go Go.Ev
theorem p_laws_szCall {a : SCall} (g : GSCall a) (n : Int) : ∃ r, laws_szCall a n = some r := ⟨_, cond_some _ _ _⟩
theorem p_laws_szIntS {a : (List Int)} (_ : (GList 8 (GInt .i64)) a) (n : Int) : ∃ r, laws_szIntS a n = some r := ⟨_, cond_some _ _ _⟩
theorem p_laws_szEvent {a : SEvent} (g : GSEvent a) (n : Int) : ∃ r, laws_szEvent a n = some r := by
  unfold laws_szEvent E_laws_szEvent
  obtain ⟨r0, hr0⟩ := p_laws_szCall (g.1) (n)
  simp only [hr0, Option.bind_some]
  cases decide (r0 < 0)
  rotate_left
  · exact ⟨_, rfl⟩
  simp only [cond_false]
  obtain ⟨r1, hr1⟩ := p_laws_szIntS (g.2.2.1) (r0)
  simp only [hr1, Option.bind_some]
  cases decide (r1 < 0)
  rotate_left
  · exact ⟨_, rfl⟩
  simp only [cond_false]
  exact ⟨_, rfl⟩
theorem p_laws_toCall {a : SCall} (g : GSCall a) : laws_toCall a = some a := by
  simp only [laws_toCall, E_laws_toCall, Option.bind_some]
theorem p_laws_toIntS {a : (List Int)} (g : (GList 8 (GInt .i64)) a) : laws_toIntS a = some a := by
  have h := g.1
  have key : ∀ m i, i ≤ a.length → a.length - i < m → L_laws_toIntS m (.c0 a i (a.take i ++ List.replicate (a.length - i) (0 : Int))) = some a := fun m i h1 h2 =>
    loopN (A := Unit) (n := a.length) (Lp := L_laws_toIntS) (st := fun i _ => .c0 a i (a.take i ++ List.replicate (a.length - i) (0 : Int))) (Inv := fun _ _ => True) (out := fun _ _ => some a)
      (fun m _ _ => by simp [L_laws_toIntS, B_laws_toIntS])
      (fun m i _ hi _ => .inr ⟨(), by
        have hw : w64 ((i : Int) + 1) = ((i + 1 : Nat) : Int) := by rw [w64_id (by omega) (by omega)]; rfl
        have hc := copied_len (Nat.le_of_lt hi) (0 : Int)
        simp only [L_laws_toIntS, B_laws_toIntS, Int.toNat_natCast, getD_at hi, Option.bind_some, hw, copied hi, hc]
        simp [hi], trivial, rfl⟩) m i () h1 h2 trivial
  have h0 : L_laws_toIntS gas (.c0 a 0 (List.replicate a.length (0 : Int))) = some a := by
    have := key gas 0 (Nat.zero_le _) (gas_lt (by omega))
    simpa using this
  unfold laws_toIntS E_laws_toIntS
  simp only [Int.toNat_natCast, h0]
  simp [show a.length * 8 ≤ 140737488355328 from by omega, show ((a.length : Int) ≤ 9223372036854775807) from by omega]
  try omega
theorem p_laws_toEvent {a : SEvent} (g : GSEvent a) : laws_toEvent a = some a := by
  simp only [laws_toEvent, E_laws_toEvent, p_laws_toCall (g.1), p_laws_toIntS (g.2.2.1), Option.bind_some]
def inR (x a b : Int) : Bool := decide (a ≤ x) && decide (x ≤ b)
theorem inR_iff {x a b : Int} : inR x a b = true ↔ a ≤ x ∧ x ≤ b := by simp [inR]
theorem p_spec_l01In (x a b : Int) : spec_l01In x a b = some (inR x a b) := by
  show (bif decide (a ≤ x) then some (decide (x ≤ b)) else some false) = some (inR x a b)
  unfold inR; cases decide (a ≤ x) <;> rfl
def callOk (c : SCall) : Bool := inR c.fOp 1 13 && inR c.fSession 0 1000 && inR c.fThing 0 1000 && inR c.fKind 0 3 && decide ((c.fText.size : Int) ≤ 1000)
theorem p_spec_CallOk (c : SCall) : spec_CallOk c = some (callOk c) := by
  simp only [spec_CallOk, E_spec_CallOk, p_spec_l01In, Option.bind_some, callOk]
  cases inR c.fOp 1 13 <;> cases inR c.fSession 0 1000 <;> cases inR c.fThing 0 1000 <;> cases inR c.fKind 0 3 <;> rfl
def noCall (c : SCall) : Bool := (c.fOp == 0) && ((c.fSession == 0) && ((c.fThing == 0) && ((c.fKind == 0) && (((ByteArray.toList c.fText) == (ByteArray.toList (⟨#[]⟩ : ByteArray))) && ((c.fHidden == false) && ((c.fFixed == false) && true))))))
theorem p_spec_l24NoCall (c : SCall) : spec_l24NoCall c = some (noCall c) := rfl
def eventOk (e : SEvent) : Bool := decide ((e.fLeft.length : Int) ≤ 30) && (callOk e.fCall || (e.fRise && noCall e.fCall))
theorem p_spec_EventOk (e : SEvent) : spec_EventOk e = some (eventOk e) := by
  simp only [spec_EventOk, E_spec_EventOk, p_spec_CallOk, p_spec_l24NoCall, Option.bind_some, eventOk]
  cases decide ((e.fLeft.length : Int) ≤ 30) <;> cases callOk e.fCall <;> cases e.fRise <;> rfl
theorem p_impl_in (x a b : Int) : impl_in x a b = some (inR x a b) := by
  show (bif decide (a ≤ x) then some (decide (x ≤ b)) else some false) = some (inR x a b)
  unfold inR; cases decide (a ≤ x) <;> rfl
theorem p_impl_CallOk (c : SCall) : impl_CallOk c = some (callOk c) := by
  simp only [impl_CallOk, E_impl_CallOk, p_impl_in, Option.bind_some, callOk]
  cases inR c.fOp 1 13 <;> cases inR c.fSession 0 1000 <;> cases inR c.fThing 0 1000 <;> cases inR c.fKind 0 3 <;> rfl
theorem p_impl_EventOk (e : SEvent) : impl_EventOk e = some (eventOk e) := by
  simp only [impl_EventOk, E_impl_EventOk, p_impl_CallOk, Option.bind_some, eventOk]
  show (bif callOk e.fCall then _ else bif e.fRise then bif noCall e.fCall then _ else _ else _) = _
  cases decide ((e.fLeft.length : Int) ≤ 30) <;> cases callOk e.fCall <;> cases e.fRise <;> cases noCall e.fCall <;> rfl
theorem p_laws_eqCall (a : SCall)  : laws_eqCall a a = some true := by
  simp [laws_eqCall, E_laws_eqCall]
theorem p_laws_eqIntS {a : (List Int)} (h : a.length ≤ 140737488351232) : laws_eqIntS a a = some true := by
  have h0 : a.length ≤ 140737488351232 := h
  have key : ∀ m i, i ≤ a.length → a.length - i < m → L_laws_eqIntS m (.c0 a a i) = some true := fun m i h1 h2 =>
    loopN (A := Unit) (n := a.length) (Lp := L_laws_eqIntS) (st := fun i _ => .c0 a a i) (Inv := fun _ _ => True) (out := fun _ _ => some true)
      (fun m _ _ => by simp [L_laws_eqIntS, B_laws_eqIntS])
      (fun m i _ hi _ => .inr ⟨(), by
        have hw : w64 ((i : Int) + 1) = ((i + 1 : Nat) : Int) := by rw [w64_id (by omega) (by omega)]; rfl
        simp only [L_laws_eqIntS, B_laws_eqIntS, Int.toNat_natCast, hw]
        simp [hi], trivial, rfl⟩) m i () h1 h2 trivial
  have h0 := key gas 0 (Nat.zero_le _) (gas_lt (by omega))
  unfold laws_eqIntS E_laws_eqIntS
  simp only [bne_self_eq_false, cond_false]
  exact h0
theorem p_laws_eqEvent {a : SEvent} (h : a.fLeft.length ≤ 140737488351232) : laws_eqEvent a a = some true := by
  simp [laws_eqEvent, E_laws_eqEvent, p_laws_eqCall _, p_laws_eqIntS h]
theorem law_FnExactEventOk (x0 : SEvent) (g0 : GSEvent x0) : laws_FnExactEventOk x0 = some true := by
  have h : x0.fLeft.length ≤ 140737488351232 := by have := g0.2.2.1.1; simp only at this; omega
  obtain ⟨r, hr⟩ := p_laws_szEvent g0 1048576
  simp only [laws_FnExactEventOk, E_laws_FnExactEventOk, hr, Option.bind_some, p_laws_toEvent g0, p_spec_EventOk, p_impl_EventOk, p_laws_eqEvent h]
  simp
end Go.Proofs.Ytmhggcgkbenedaa.G

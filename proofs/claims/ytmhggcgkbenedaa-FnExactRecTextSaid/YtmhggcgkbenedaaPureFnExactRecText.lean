/- The plain law of FnExactRecText: whatever the arguments, it answers true. Conditions: what is read is in reach. -/
import Derived.Test.YtmhggcgkbenedaaFFnExactRecText
import Derived.Test.YtmhggcgkbenedaaOpens
import Derived.Test.YtmhggcgkbenedaaPBase
namespace Go.Proofs.Ytmhggcgkbenedaa.G
open Go Go.Ev
theorem p_laws_szThing {a : SThing} (g : GSThing a) (n : Int) : ∃ r, laws_szThing a n = some r := ⟨_, cond_some _ _ _⟩
theorem p_laws_szRec {a : SRec} (g : GSRec a) (n : Int) : ∃ r, laws_szRec a n = some r := by
  unfold laws_szRec E_laws_szRec
  cases decide ((w64 (n - (a.fText.size : Int))) < 0)
  rotate_left
  · exact ⟨_, rfl⟩
  simp only [cond_false]
  obtain ⟨r0, hr0⟩ := p_laws_szThing (g.2.2.2) ((w64 (n - (a.fText.size : Int))))
  simp only [hr0, Option.bind_some]
  cases decide (r0 < 0)
  rotate_left
  · exact ⟨_, rfl⟩
  simp only [cond_false]
  exact ⟨_, rfl⟩
theorem p_laws_toThing {a : SThing} (g : GSThing a) : laws_toThing a = some a := by
  simp only [laws_toThing, E_laws_toThing, Option.bind_some]
theorem p_laws_toRec {a : SRec} (g : GSRec a) : laws_toRec a = some a := by
  simp only [laws_toRec, E_laws_toRec, p_laws_toThing (g.2.2.2), Option.bind_some]
def inR (x a b : Int) : Bool := decide (a ≤ x) && decide (x ≤ b)
theorem inR_iff {x a b : Int} : inR x a b = true ↔ a ≤ x ∧ x ≤ b := by simp [inR]
theorem p_spec_l01In (x a b : Int) : spec_l01In x a b = some (inR x a b) := by
  show (bif decide (a ≤ x) then some (decide (x ≤ b)) else some false) = some (inR x a b)
  unfold inR; cases decide (a ≤ x) <;> rfl
/-- A number's bytes, by sevens of bits. -/
def varL (n : Int) : List Int := if n > 127 then (128 + n % 128) :: varL (n / 128) else [w8 n]
termination_by n.toNat
decreasing_by omega
theorem varL_len : ∀ (k : Nat) (n : Int), n < 128 ^ k → (varL n).length ≤ max k 1 := by
  intro k
  induction k with
  | zero => intro n h; rw [varL, if_neg (by omega)]; simp
  | succ k ih =>
    intro n h
    rw [varL]
    split
    · rename_i hn
      have h2 : n / 128 < 128 ^ k := by
        rw [Int.pow_succ] at h
        exact Int.ediv_lt_of_lt_mul (by omega) h
      have := ih _ h2
      simp only [List.length_cons]
      by_cases hk : k = 0
      · subst hk; simp at h2; try omega
      · omega
    · simp; try omega
theorem varL_len10 {n : Int} (h : n ≤ 9223372036854775807) : (varL n).length ≤ 10 := by
  have := varL_len 10 n (by have : (128 : Int) ^ 10 = 1180591620717411303424 := by decide
                            omega)
  omega
theorem varL_pos (n : Int) : 1 ≤ (varL n).length := by rw [varL]; split <;> simp
theorem varL_step {n : Int} (h : n > 127) (h2 : n ≤ 9223372036854775807) : w64 (n.tdiv 128) = n / 128 ∧ w8 (w64 (n.tmod 128 + 128)) = 128 + n % 128 ∧ w8 (w64 (128 + n.tmod 128)) = 128 + n % 128 := by
  have e1 : n.tdiv 128 = n / 128 := Int.tdiv_eq_ediv_of_nonneg (by omega)
  have e2 : n.tmod 128 = n % 128 := Int.tmod_eq_emod_of_nonneg (by omega)
  refine ⟨by rw [e1, w64_id (by omega) (by omega)], ?_, ?_⟩
  · rw [e2, w64_id (by omega) (by omega), w8_id (by omega) (by omega)]; omega
  · rw [e2, w64_id (by omega) (by omega), w8_id (by omega) (by omega)]
theorem p_spec_l01Var {n : Int} (h : n ≤ 9223372036854775807) : spec_l01Var n = some (ofBytes (varL n)) := by
  have key : ∀ (n : Int) (m : Nat) (out : List Int), n ≤ 9223372036854775807 → (varL n).length ≤ m → out.length + (varL n).length ≤ 1000 → L_spec_l01Var m (.c0 n out) = some (ofBytes (out ++ varL n)) := by
    intro n
    induction n using varL.induct with
    | case1 n hn ih =>
      intro m out h1 h2 h3
      rw [varL, if_pos hn] at h2 h3 ⊢
      simp only [List.length_cons] at h2 h3
      obtain ⟨m, rfl⟩ : ∃ k, m = k + 1 := ⟨m - 1, by omega⟩
      obtain ⟨e1, e2, _⟩ := varL_step hn h1
      simp only [L_spec_l01Var, B_spec_l01Var, e1, e2]
      rw [show decide (n > 127) = true from decide_eq_true hn, show decide ((out.length + 1) * 1 ≤ 140737488355328) = true from decide_eq_true (by omega)]
      simp only [cond_true]
      rw [ih m _ (by omega) (by omega) (by simp; omega)]
      simp
    | case2 n hn =>
      intro m out h1 h2 h3
      rw [varL, if_neg hn] at h2 h3 ⊢
      simp at h2 h3
      obtain ⟨m, rfl⟩ : ∃ k, m = k + 1 := ⟨m - 1, by omega⟩
      simp only [L_spec_l01Var, B_spec_l01Var]
      rw [show decide (n > 127) = false from decide_eq_false hn, show decide ((out.length + 1) * 1 ≤ 140737488355328) = true from decide_eq_true (by omega)]
      rfl
  have hl := varL_len10 h
  exact key n gas [] h (Nat.le_of_lt (gas_lt (by omega))) (by simp; omega)
def thingOk (x : SThing) : Bool := inR x.fId 1 1000 && inR x.fKind 1 3 && inR x.fNext 0 16 && ((x.fKind == 2) || ((x.fNext == 0) && !x.fSigns)) && ((x.fKind == 1) || !x.fWraps) && (bif x.fKind == 3 then decide ((x.fValue.size : Int) ≤ 100) else (x.fValue.size : Int) == 32)
theorem p_spec_ThingOk (x : SThing) : spec_ThingOk x = some (thingOk x) := by
  simp only [spec_ThingOk, E_spec_ThingOk, p_spec_l01In, Option.bind_some, thingOk, bne]
  cases inR x.fId 1 1000 <;> cases inR x.fKind 1 3 <;> cases inR x.fNext 0 16 <;> cases (x.fKind == 2) <;> cases (x.fKind == 1) <;> cases (x.fKind == 3) <;> cases (x.fNext == 0) <;> cases x.fSigns <;> cases x.fWraps <;> rfl
theorem thingOk_kind {x : SThing} (h : thingOk x = true) : 1 ≤ x.fKind ∧ x.fKind ≤ 3 ∧ 1 ≤ x.fId ∧ x.fId ≤ 1000 ∧ 0 ≤ x.fNext ∧ x.fNext ≤ 16 ∧ x.fValue.size ≤ 100 := by
  unfold thingOk at h
  simp only [Bool.and_eq_true] at h
  obtain ⟨⟨⟨⟨⟨h1, h2⟩, h3⟩, _⟩, _⟩, h4⟩ := h
  rw [inR_iff] at h1 h2 h3
  refine ⟨h2.1, h2.2, h1.1, h1.2, h3.1, h3.2, ?_⟩
  cases hk : x.fKind == 3
  · rw [hk] at h4; simp at h4; omega
  · rw [hk] at h4; simp at h4; omega
theorem p_spec_l19Flag (b : Bool) (n : Int) : spec_l19Flag b n = some (bif b then n else 0) := by cases b <;> rfl
theorem p_spec_l06Byte {n : Int} (h : 0 ≤ n) (h2 : n ≤ 255) : spec_l06Byte n = some (ofBytes [n]) := by
  have e : n.tmod 256 = n := by rw [Int.tmod_eq_emod_of_nonneg h]; omega
  simp only [spec_l06Byte, E_spec_l06Byte, e]
  rw [show decide (n < 0) = false from decide_eq_false (by omega), w8_id h h2]
  rfl
def shortT (s : ByteArray) : ByteArray := ofBytes (varL (s.size : Int)) ++ s
theorem shortT_size {s : ByteArray} (h : s.size ≤ 140737488351232) : (shortT s).size ≤ s.size + 10 := by
  unfold shortT; rw [ba_append_size, ofBytes_size]; have := varL_len10 (n := (s.size : Int)) (by omega); omega
theorem p_spec_l19Short {s : ByteArray} (h : s.size ≤ 140737488351232) : spec_l19Short s = some (shortT s) := by
  simp only [spec_l19Short, E_spec_l19Short, p_spec_l01Var (n := (s.size : Int)) (by omega), Option.bind_some]
  have := varL_len10 (n := (s.size : Int)) (by omega)
  rw [show decide ((ofBytes (varL (s.size : Int))).size + s.size ≤ 9223372036854775807) = true from decide_eq_true (by rw [ofBytes_size]; omega)]
  rfl
def flagN (x : SThing) : Int := (bif x.fHidden then 1 else 0) + (bif x.fFixed then 2 else 0) + (bif x.fSigns then 4 else 0) + (bif x.fWraps then 8 else 0)
theorem flagN_lt (x : SThing) : 0 ≤ flagN x ∧ flagN x ≤ 15 := by
  unfold flagN; cases x.fHidden <;> cases x.fFixed <;> cases x.fSigns <;> cases x.fWraps <;> decide
theorem flags5 (m : Nat) (a b c d : Bool) : L_impl_flags (m + 5) (.c0 0 4 0 [a, b, c, d]) = some ((bif a then 1 else 0) + (bif b then 2 else 0) + (bif c then 4 else 0) + (bif d then 8 else 0)) := by
  cases a <;> cases b <;> cases c <;> cases d <;> kernel_rfl
theorem p_impl_flags (x : SThing) : impl_flags x = some (flagN x) := by
  have : gas = 9223372036854775802 + 5 := rfl
  unfold impl_flags E_impl_flags
  rw [this]
  exact flags5 _ _ _ _ _
def thingT (x : SThing) : ByteArray := ofBytes (varL x.fId) ++ ofBytes [x.fKind] ++ ofBytes [flagN x] ++ shortT x.fValue ++ ofBytes (varL x.fNext)
def thingText (x : SThing) : ByteArray × Bool := bif thingOk x then (thingT x, true) else (⟨#[]⟩, false)
theorem thing_sizes {x : SThing} (h : thingOk x = true) : (ofBytes (varL x.fId)).size ≤ 10 ∧ (shortT x.fValue).size ≤ 110 ∧ (ofBytes (varL x.fNext)).size ≤ 10 := by
  obtain ⟨_, _, _, h1, _, h2, h3⟩ := thingOk_kind h
  rw [ofBytes_size, ofBytes_size]
  have := varL_len10 (n := x.fId) (by omega)
  have := varL_len10 (n := x.fNext) (by omega)
  have := shortT_size (s := x.fValue) (by omega)
  omega
theorem thingT_size {x : SThing} (h : thingOk x = true) : (thingT x).size ≤ 200 := by
  obtain ⟨h1, h2, h3⟩ := thing_sizes h
  unfold thingT
  simp only [ba_append_size]
  have e1 : ∀ n : Int, (ofBytes [n]).size = 1 := fun n => ofBytes_size _
  rw [e1, e1]; omega
theorem p_spec_ThingText (x : SThing) : spec_ThingText x = some (thingText x) := by
  simp only [spec_ThingText, E_spec_ThingText, p_spec_ThingOk, Option.bind_some, thingText]
  cases h : thingOk x
  · rfl
  · obtain ⟨k1, k2, k3, k4, k5, k6, k7⟩ := thingOk_kind h
    obtain ⟨z1, z2, z3⟩ := thing_sizes h
    have hf := flagN_lt x
    have e1 : ∀ n : Int, (ofBytes [n]).size = 1 := fun n => ofBytes_size _
    have ef : w64 (w64 (w64 ((bif x.fHidden then (1 : Int) else 0) + (bif x.fFixed then 2 else 0)) + (bif x.fSigns then 4 else 0)) + (bif x.fWraps then 8 else 0)) = flagN x := by
      unfold flagN; cases x.fHidden <;> cases x.fFixed <;> cases x.fSigns <;> cases x.fWraps <;> rfl
    simp only [p_spec_l19Flag, Option.bind_some, ef, p_spec_l01Var (n := x.fId) (by omega), p_spec_l06Byte (n := x.fKind) (by omega) (by omega), p_spec_l06Byte hf.1 (by omega), p_spec_l19Short (s := x.fValue) (by omega), p_spec_l01Var (n := x.fNext) (by omega), ba_append_size, e1]
    simp only [Bool.not_true, cond_false, cond_true]
    rw [show decide ((ofBytes (varL x.fId)).size + 1 ≤ 9223372036854775807) = true from decide_eq_true (by omega), show decide ((ofBytes (varL x.fId)).size + 1 + 1 ≤ 9223372036854775807) = true from decide_eq_true (by omega),
      show decide ((ofBytes (varL x.fId)).size + 1 + 1 + (shortT x.fValue).size ≤ 9223372036854775807) = true from decide_eq_true (by omega), show decide ((ofBytes (varL x.fId)).size + 1 + 1 + (shortT x.fValue).size + (ofBytes (varL x.fNext)).size ≤ 9223372036854775807) = true from decide_eq_true (by omega)]
    rfl
def isZ (x : SThing) : Bool := (x.fId == 0) && ((x.fKind == 0) && ((x.fHidden == false) && ((x.fFixed == false) && ((x.fSigns == false) && ((x.fWraps == false) && (((ByteArray.toList x.fValue) == (ByteArray.toList (⟨#[]⟩ : ByteArray))) && ((x.fNext == 0) && true)))))))
theorem isZ_e (x : SThing) : ((x.fId == 0) && ((x.fKind == 0) && ((x.fHidden == false) && ((x.fFixed == false) && ((x.fSigns == false) && ((x.fWraps == false) && (((ByteArray.toList x.fValue) == (ByteArray.toList (⟨#[]⟩ : ByteArray))) && ((x.fNext == 0) && true)))))))) = isZ x := rfl
def isE (s : ByteArray) : Bool := (ByteArray.toList s) == (ByteArray.toList (⟨#[]⟩ : ByteArray))
theorem isE_e (s : ByteArray) : ((ByteArray.toList s) == (ByteArray.toList (⟨#[]⟩ : ByteArray))) = isE s := rfl
def noT : ByteArray × Bool := ((⟨#[]⟩ : ByteArray), false)
def recText (r : SRec) : ByteArray × Bool :=
  bif r.fKind == 1 then (bif (r.fText.size : Int) == 32 && r.fNum == 0 && isZ r.fThing then (ofBytes [1] ++ r.fText, true) else noT)
  else bif r.fKind == 2 then (bif isE r.fText && isZ r.fThing && inR r.fNum 0 3 then (ofBytes [2] ++ ofBytes (varL r.fNum), true) else noT)
  else bif r.fKind == 3 then (bif (thingText r.fThing).2 && isE r.fText && r.fNum == 0 then (ofBytes [3] ++ (thingText r.fThing).1, true) else noT)
  else bif r.fKind == 4 then (bif isE r.fText && isZ r.fThing && inR r.fNum 1 1000 then (ofBytes [4] ++ ofBytes (varL r.fNum), true) else noT)
  else noT
theorem rec_var {n a b : Int} (hb : b ≤ 1000) (h : inR n a b = true) (k : Int) : (ofBytes [k]).size + (ofBytes (varL n)).size ≤ 9223372036854775807 := by
  rw [inR_iff] at h
  have := varL_len10 (n := n) (by omega)
  rw [ofBytes_size, ofBytes_size]; simp only [List.length_singleton]; omega
theorem rec_thing {x : SThing} (h : (thingText x).2 = true) (k : Int) : (ofBytes [k]).size + (thingText x).1.size ≤ 9223372036854775807 := by
  unfold thingText at h ⊢
  cases ho : thingOk x
  · rw [ho] at h; cases h
  · have := thingT_size ho
    rw [ofBytes_size]; simp only [List.length_singleton, cond_true]; omega
theorem p_spec_RecText (r : SRec) : spec_RecText r = some (recText r) := by
  have h1 : (⟨#[1]⟩ : ByteArray) = ofBytes [1] := rfl
  have h2 : (⟨#[2]⟩ : ByteArray) = ofBytes [2] := rfl
  have h3 : (⟨#[3]⟩ : ByteArray) = ofBytes [3] := rfl
  have h4 : (⟨#[4]⟩ : ByteArray) = ofBytes [4] := rfl
  simp only [spec_RecText, E_spec_RecText, p_spec_l01In, p_spec_ThingText, Option.bind_some, isZ_e, h1, h2, h3, h4]
  simp only [isE_e, recText]
  cases r.fKind == 1
  · simp only [cond_false]
    cases r.fKind == 2
    · simp only [cond_false]
      cases r.fKind == 3
      · simp only [cond_false]
        cases r.fKind == 4
        · rfl
        · cases isE r.fText <;> cases isZ r.fThing <;> (try rfl)
          cases h : inR r.fNum 1 1000
          · rfl
          · have h' := h
            rw [inR_iff] at h'
            simp only [cond_true, p_spec_l01Var (n := r.fNum) (by omega), Option.bind_some, Bool.and_self, decide_eq_true (rec_var (by omega) h 4)]
      · cases h : (thingText r.fThing).2
        · rfl
        · cases isE r.fText <;> cases r.fNum == 0 <;> (try rfl)
          simp only [cond_true, Bool.and_self, decide_eq_true (rec_thing h 3)]
    · cases isE r.fText <;> cases isZ r.fThing <;> (try rfl)
      cases h : inR r.fNum 0 3
      · rfl
      · have h' := h
        rw [inR_iff] at h'
        simp only [cond_true, p_spec_l01Var (n := r.fNum) (by omega), Option.bind_some, Bool.and_self, decide_eq_true (rec_var (by omega) h 2)]
  · cases h : (r.fText.size : Int) == 32 <;> cases r.fNum == 0 <;> cases isZ r.fThing <;> (try rfl)
    have h' : r.fText.size = 32 := by have := beq_iff_eq.1 h; omega
    have e : (ofBytes [1]).size + r.fText.size ≤ 9223372036854775807 := by rw [ofBytes_size]; simp only [List.length_singleton]; omega
    simp only [cond_true, Bool.and_self, decide_eq_true e]
theorem p_impl_varText {n : Int} (h : n ≤ 9223372036854775807) : impl_varText n = some (ofBytes (varL n)) := by
  have key : ∀ (n : Int) (m : Nat) (out : List Int), n ≤ 9223372036854775807 → (varL n).length ≤ m → out.length + (varL n).length ≤ 1000 → L_impl_varText m (.c0 n out) = some (ofBytes (out ++ varL n)) := by
    intro n
    induction n using varL.induct with
    | case1 n hn ih =>
      intro m out h1 h2 h3
      rw [varL, if_pos hn] at h2 h3 ⊢
      simp only [List.length_cons] at h2 h3
      obtain ⟨m, rfl⟩ : ∃ k, m = k + 1 := ⟨m - 1, by omega⟩
      obtain ⟨e1, _, e2⟩ := varL_step hn h1
      simp only [L_impl_varText, B_impl_varText, e1, e2]
      rw [show decide (n > 127) = true from decide_eq_true hn, show decide ((out.length + 1) * 1 ≤ 140737488355328) = true from decide_eq_true (by omega)]
      simp only [cond_true]
      rw [ih m _ (by omega) (by omega) (by simp; omega)]
      simp
    | case2 n hn =>
      intro m out h1 h2 h3
      rw [varL, if_neg hn] at h2 h3 ⊢
      simp at h2 h3
      obtain ⟨m, rfl⟩ : ∃ k, m = k + 1 := ⟨m - 1, by omega⟩
      simp only [L_impl_varText, B_impl_varText]
      rw [show decide (n > 127) = false from decide_eq_false hn, show decide ((out.length + 1) * 1 ≤ 140737488355328) = true from decide_eq_true (by omega)]
      rfl
  have hl := varL_len10 h
  exact key n gas [] h (Nat.le_of_lt (gas_lt (by omega))) (by simp; omega)
theorem p_impl_in (x a b : Int) : impl_in x a b = some (inR x a b) := by
  show (bif decide (a ≤ x) then some (decide (x ≤ b)) else some false) = some (inR x a b)
  unfold inR; cases decide (a ≤ x) <;> rfl
theorem p_impl_ThingOk (x : SThing) : impl_ThingOk x = some (thingOk x) := by
  simp only [impl_ThingOk, E_impl_ThingOk, p_impl_in, Option.bind_some, thingOk, bne]
  by_cases k1 : x.fKind = 1
  · rw [k1]
    cases inR x.fId 1 1000 <;> cases inR x.fNext 0 16 <;> cases (x.fNext == 0) <;> cases x.fSigns <;> cases x.fWraps <;> simp [inR]
  · by_cases k2 : x.fKind = 2
    · rw [k2]
      cases inR x.fId 1 1000 <;> cases inR x.fNext 0 16 <;> cases (x.fNext == 0) <;> cases x.fSigns <;> cases x.fWraps <;> simp [inR]
    · by_cases k3 : x.fKind = 3
      · rw [k3]
        cases inR x.fId 1 1000 <;> cases inR x.fNext 0 16 <;> cases (x.fNext == 0) <;> cases x.fSigns <;> cases x.fWraps <;> simp [inR]
      · have hr : inR x.fKind 1 3 = false := by
          cases h : inR x.fKind 1 3
          · rfl
          · rw [inR_iff] at h; omega
        have e1 : (x.fKind == 1) = false := by simpa using k1
        have e2 : (x.fKind == 2) = false := by simpa using k2
        have e3 : (x.fKind == 3) = false := by simpa using k3
        rw [hr, e1, e2, e3]
        cases inR x.fId 1 1000 <;> cases inR x.fNext 0 16 <;> cases (x.fNext == 0) <;> cases x.fSigns <;> cases x.fWraps <;> rfl
theorem p_impl_oneByte {n : Int} (h : 0 ≤ n) (h2 : n ≤ 255) : impl_oneByte n = some (ofBytes [n]) := by
  simp only [impl_oneByte, E_impl_oneByte, w8_id h h2]
theorem p_impl_shortText {s : ByteArray} (h : s.size ≤ 140737488351232) : impl_shortText s = some (shortT s) := by
  simp only [impl_shortText, E_impl_shortText, p_impl_varText (n := (s.size : Int)) (by omega), Option.bind_some]
  have := varL_len10 (n := (s.size : Int)) (by omega)
  rw [show decide ((ofBytes (varL (s.size : Int))).size + s.size ≤ 9223372036854775807) = true from decide_eq_true (by rw [ofBytes_size]; omega)]
  rfl
theorem p_impl_ThingText (x : SThing) : impl_ThingText x = some (thingText x) := by
  simp only [impl_ThingText, E_impl_ThingText, p_impl_ThingOk, Option.bind_some, thingText]
  cases h : thingOk x
  · rfl
  · obtain ⟨k1, k2, k3, k4, k5, k6, k7⟩ := thingOk_kind h
    obtain ⟨z1, z2, z3⟩ := thing_sizes h
    have hf := flagN_lt x
    have e1 : ∀ n : Int, (ofBytes [n]).size = 1 := fun n => ofBytes_size _
    simp only [p_impl_flags, Option.bind_some, p_impl_varText (n := x.fId) (by omega), p_impl_oneByte (n := x.fKind) (by omega) (by omega), p_impl_oneByte hf.1 (by omega), p_impl_shortText (s := x.fValue) (by omega), p_impl_varText (n := x.fNext) (by omega), ba_append_size, e1]
    simp only [Bool.not_true, cond_false, cond_true]
    rw [show decide ((ofBytes (varL x.fId)).size + 1 ≤ 9223372036854775807) = true from decide_eq_true (by omega), show decide ((ofBytes (varL x.fId)).size + 1 + 1 ≤ 9223372036854775807) = true from decide_eq_true (by omega),
      show decide ((ofBytes (varL x.fId)).size + 1 + 1 + (shortT x.fValue).size ≤ 9223372036854775807) = true from decide_eq_true (by omega), show decide ((ofBytes (varL x.fId)).size + 1 + 1 + (shortT x.fValue).size + (ofBytes (varL x.fNext)).size ≤ 9223372036854775807) = true from decide_eq_true (by omega)]
    rfl
theorem p_impl_RecText {r : SRec} (g : r.fNum ≤ 9223372036854775807) : impl_RecText r = some (recText r) := by
  simp only [impl_RecText, E_impl_RecText, p_impl_in, p_impl_ThingText, p_impl_varText g, Option.bind_some, isZ_e]
  simp only [isE_e, recText]
  cases k1 : r.fKind == 1
  · simp only [cond_false]
    cases k2 : r.fKind == 2
    · simp only [cond_false]
      cases k3 : r.fKind == 3
      · simp only [cond_false]
        cases k4 : r.fKind == 4
        · rfl
        · have k : r.fKind = 4 := by simpa using k4
          rw [k]
          simp only [beq_self_eq_true, p_impl_oneByte (n := 4) (by omega) (by omega), Option.bind_some, Bool.true_and, cond_true]
          cases h : inR r.fNum 1 1000
          · cases isE r.fText <;> cases isZ r.fThing <;> rfl
          · cases isE r.fText <;> cases isZ r.fThing <;> (try rfl)
            simp only [Bool.not_true, cond_false, cond_true, Bool.and_self, decide_eq_true (rec_var (by omega) h 4)]
      · have k : r.fKind = 3 := by simpa using k3
        rw [k]
        simp only [beq_self_eq_true, p_impl_oneByte (n := 3) (by omega) (by omega), Option.bind_some, Bool.true_and, cond_true, Bool.and_true]
        cases h : (thingText r.fThing).2
        · cases isE r.fText <;> cases r.fNum == 0 <;> rfl
        · cases isE r.fText <;> cases r.fNum == 0 <;> (try rfl)
          simp only [Bool.not_true, cond_false, cond_true, Bool.and_self, decide_eq_true (rec_thing h 3)]
    · have k : r.fKind = 2 := by simpa using k2
      rw [k]
      simp only [beq_self_eq_true, p_impl_oneByte (n := 2) (by omega) (by omega), Option.bind_some, Bool.true_and, cond_true]
      cases h : inR r.fNum 0 3
      · cases isE r.fText <;> cases isZ r.fThing <;> rfl
      · cases isE r.fText <;> cases isZ r.fThing <;> (try rfl)
        simp only [Bool.not_true, cond_false, cond_true, Bool.and_self, decide_eq_true (rec_var (by omega) h 2)]
  · have k : r.fKind = 1 := by simpa using k1
    rw [k]
    simp only [beq_self_eq_true, p_impl_oneByte (n := 1) (by omega) (by omega), Option.bind_some, Bool.true_and, cond_true]
    cases h : (r.fText.size : Int) == 32 <;> cases r.fNum == 0 <;> cases isZ r.fThing <;> (try rfl)
    have h' : r.fText.size = 32 := by have := beq_iff_eq.1 h; omega
    have e : (ofBytes [1]).size + r.fText.size ≤ 9223372036854775807 := by rw [ofBytes_size]; simp only [List.length_singleton]; omega
    simp only [Bool.not_true, cond_false, cond_true, Bool.and_self, decide_eq_true e]
theorem law_FnExactRecText (x0 : SRec) (g0 : GSRec x0) : laws_FnExactRecText x0 = some true := by
  obtain ⟨r, hr⟩ := p_laws_szRec g0 1048576
  have h := (gint g0.2.2.1).2
  simp only [laws_FnExactRecText, E_laws_FnExactRecText, hr, Option.bind_some, p_laws_toRec g0, p_spec_RecText, p_impl_RecText h]
  simp
end Go.Proofs.Ytmhggcgkbenedaa.G

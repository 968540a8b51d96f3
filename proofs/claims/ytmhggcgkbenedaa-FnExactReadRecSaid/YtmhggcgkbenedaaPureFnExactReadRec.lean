/- The plain law of FnExactReadRec: whatever the arguments, it answers true. Conditions: what is read is in reach. -/
import Derived.Test.YtmhggcgkbenedaaFFnExactReadRec
import Derived.Test.YtmhggcgkbenedaaOpens
import Derived.Test.YtmhggcgkbenedaaPBase
namespace Go.Proofs.Ytmhggcgkbenedaa.G
open Go Go.Ev
def inR (x a b : Int) : Bool := decide (a ≤ x) && decide (x ≤ b)
theorem inR_iff {x a b : Int} : inR x a b = true ↔ a ≤ x ∧ x ≤ b := by simp [inR]
theorem p_spec_l01In (x a b : Int) : spec_l01In x a b = some (inR x a b) := by
  show (bif decide (a ≤ x) then some (decide (x ≤ b)) else some false) = some (inR x a b)
  unfold inR; cases decide (a ≤ x) <;> rfl
/-- A number's bytes, by sevens of bits. -/
def varL (n : Int) : List Int := if n > 127 then (128 + n % 128) :: varL (n / 128) else [w8 n]
termination_by n.toNat
decreasing_by omega
theorem varL_len : ∀ (k : Nat) (n : Int), n < 128 ^ k → (varL n).length ≤ max k 1 := by
  intro k
  induction k with
  | zero => intro n h; rw [varL, if_neg (by omega)]; simp
  | succ k ih =>
    intro n h
    rw [varL]
    split
    · rename_i hn
      have h2 : n / 128 < 128 ^ k := by
        rw [Int.pow_succ] at h
        exact Int.ediv_lt_of_lt_mul (by omega) h
      have := ih _ h2
      simp only [List.length_cons]
      by_cases hk : k = 0
      · subst hk; simp at h2; try omega
      · omega
    · simp; try omega
theorem varL_len10 {n : Int} (h : n ≤ 9223372036854775807) : (varL n).length ≤ 10 := by
  have := varL_len 10 n (by have : (128 : Int) ^ 10 = 1180591620717411303424 := by decide
                            omega)
  omega
theorem varL_pos (n : Int) : 1 ≤ (varL n).length := by rw [varL]; split <;> simp
theorem varL_step {n : Int} (h : n > 127) (h2 : n ≤ 9223372036854775807) : w64 (n.tdiv 128) = n / 128 ∧ w8 (w64 (n.tmod 128 + 128)) = 128 + n % 128 ∧ w8 (w64 (128 + n.tmod 128)) = 128 + n % 128 := by
  have e1 : n.tdiv 128 = n / 128 := Int.tdiv_eq_ediv_of_nonneg (by omega)
  have e2 : n.tmod 128 = n % 128 := Int.tmod_eq_emod_of_nonneg (by omega)
  refine ⟨by rw [e1, w64_id (by omega) (by omega)], ?_, ?_⟩
  · rw [e2, w64_id (by omega) (by omega), w8_id (by omega) (by omega)]; omega
  · rw [e2, w64_id (by omega) (by omega), w8_id (by omega) (by omega)]
theorem p_spec_l01Var {n : Int} (h : n ≤ 9223372036854775807) : spec_l01Var n = some (ofBytes (varL n)) := by
  have key : ∀ (n : Int) (m : Nat) (out : List Int), n ≤ 9223372036854775807 → (varL n).length ≤ m → out.length + (varL n).length ≤ 1000 → L_spec_l01Var m (.c0 n out) = some (ofBytes (out ++ varL n)) := by
    intro n
    induction n using varL.induct with
    | case1 n hn ih =>
      intro m out h1 h2 h3
      rw [varL, if_pos hn] at h2 h3 ⊢
      simp only [List.length_cons] at h2 h3
      obtain ⟨m, rfl⟩ : ∃ k, m = k + 1 := ⟨m - 1, by omega⟩
      obtain ⟨e1, e2, _⟩ := varL_step hn h1
      simp only [L_spec_l01Var, B_spec_l01Var, e1, e2]
      rw [show decide (n > 127) = true from decide_eq_true hn, show decide ((out.length + 1) * 1 ≤ 140737488355328) = true from decide_eq_true (by omega)]
      simp only [cond_true]
      rw [ih m _ (by omega) (by omega) (by simp; omega)]
      simp
    | case2 n hn =>
      intro m out h1 h2 h3
      rw [varL, if_neg hn] at h2 h3 ⊢
      simp at h2 h3
      obtain ⟨m, rfl⟩ : ∃ k, m = k + 1 := ⟨m - 1, by omega⟩
      simp only [L_spec_l01Var, B_spec_l01Var]
      rw [show decide (n > 127) = false from decide_eq_false hn, show decide ((out.length + 1) * 1 ≤ 140737488355328) = true from decide_eq_true (by omega)]
      rfl
  have hl := varL_len10 h
  exact key n gas [] h (Nat.le_of_lt (gas_lt (by omega))) (by simp; omega)
/-- The bytes of a text, as numbers. -/
def bs (s : ByteArray) : List Int := s.data.toList.map fun b => (b.toNat : Int)
theorem bs_len (s : ByteArray) : (bs s).length = s.size := by unfold bs; rw [List.length_map]; rfl
theorem bs_byte {s : ByteArray} {n : Int} (h : n ∈ bs s) : 0 ≤ n ∧ n ≤ 255 := by
  unfold bs at h; rw [List.mem_map] at h; obtain ⟨b, _, rfl⟩ := h
  have := b.toNat_lt; omega
theorem bs_append (a b : ByteArray) : bs (a ++ b) = bs a ++ bs b := by simp [bs]
theorem ofBytes_bs (s : ByteArray) : ofBytes (bs s) = s := by
  cases s; simp [ofBytes, bs, Function.comp_def]
theorem bs_inj {s t : ByteArray} (h : bs s = bs t) : s = t := by rw [← ofBytes_bs s, h, ofBytes_bs]
theorem bs_ofBytes {l : List Int} (h : ∀ n, n ∈ l → 0 ≤ n ∧ n ≤ 255) : bs (ofBytes l) = l := by
  simp only [bs, ofBytes, List.map_map]
  conv => rhs; rw [← List.map_id l]
  apply List.map_congr_left
  intro n hn
  obtain ⟨h1, h2⟩ := h n hn
  simp only [Function.comp, UInt8.toNat_ofNat', id]
  omega
theorem bt_eq {s : ByteArray} {i : Nat} (h : i < s.size) : bt s (i : Int) = (bs s)[i]'(by rw [bs_len]; exact h) := by
  simp only [bt, Int.toNat_natCast, h, dite_true, bs, List.getElem_map]
  rfl
theorem bt_byte (s : ByteArray) (i : Int) : 0 ≤ bt s i ∧ bt s i ≤ 255 := by
  unfold bt; split
  · have := (s[i.toNat]).toNat_lt; omega
  · omega
theorem bs_extract (s : ByteArray) (i j : Nat) : bs (s.extract i j) = ((bs s).take j).drop i := by
  simp only [bs, ByteArray.data_extract, Array.toList_extract, List.extract_eq_take_drop, List.map_take, List.map_drop]
  rw [List.drop_take]
def pw (k : Nat) : Int := 128 ^ k
theorem pw_zero : pw 0 = 1 := rfl
theorem pw_succ (k : Nat) : pw (k + 1) = pw k * 128 := Int.pow_succ ..
theorem pw_cases {k : Nat} (h : k < 5) : pw k = 1 ∨ pw k = 128 ∨ pw k = 16384 ∨ pw k = 2097152 ∨ pw k = 268435456 := by
  rcases (by omega : k = 0 ∨ k = 1 ∨ k = 2 ∨ k = 3 ∨ k = 4) with rfl | rfl | rfl | rfl | rfl
  · exact .inl rfl
  · exact .inr (.inl rfl)
  · exact .inr (.inr (.inl rfl))
  · exact .inr (.inr (.inr (.inl rfl)))
  · exact .inr (.inr (.inr (.inr rfl)))
def no3 : Int × Int × Bool := (0, 0, false)
/-- A number that was read: it is small, and the place behind it lies in the text. -/
def RV (text : ByteArray) (a : Nat) (r : Int × Int × Bool) : Prop := r = no3 ∨ ∃ v : Int, ∃ q : Nat, r = (v, ((q : Nat) : Int), true) ∧ 0 ≤ v ∧ v ≤ 1000000000 ∧ a < q ∧ q ≤ text.size
/-- At place p of the text there stands l. -/
def At (text : ByteArray) (p : Nat) (l : List Int) : Prop := ∃ rest, (bs text).drop p = l ++ rest
theorem At.left {text : ByteArray} {p : Nat} {l m : List Int} (h : At text p (l ++ m)) : At text p l := by
  obtain ⟨r, hr⟩ := h; exact ⟨m ++ r, by rw [hr, List.append_assoc]⟩
theorem At.right {text : ByteArray} {p : Nat} {l m : List Int} (h : At text p (l ++ m)) : At text (p + l.length) m := by
  obtain ⟨r, hr⟩ := h; exact ⟨r, by rw [← List.drop_drop, hr, List.append_assoc, List.drop_left]⟩
theorem At.size {text : ByteArray} {p : Nat} {l : List Int} (h : At text p l) : l = [] ∨ p + l.length ≤ text.size := by
  obtain ⟨r, hr⟩ := h
  have := congrArg List.length hr
  rw [List.length_drop, bs_len, List.length_append] at this
  cases l with
  | nil => exact .inl rfl
  | cons x xs => right; simp only [List.length_cons] at this ⊢; omega
theorem At.head {text : ByteArray} {p : Nat} {x : Int} {l : List Int} (h : At text p (x :: l)) : p < text.size ∧ bt text (p : Int) = x := by
  have hs : p + (x :: l).length ≤ text.size := by rcases h.size with h | h; exact absurd h (by simp); exact h
  simp only [List.length_cons] at hs
  have hp : p < text.size := by omega
  refine ⟨hp, ?_⟩
  rw [bt_eq hp]
  obtain ⟨r, hr⟩ := h
  have hl : p < (bs text).length := by rw [bs_len]; exact hp
  rw [List.drop_eq_getElem_cons hl] at hr
  injection hr
theorem At.tail {text : ByteArray} {p : Nat} {x : Int} {l : List Int} (h : At text p (x :: l)) : At text (p + 1) l := At.right (l := [x]) h
theorem At.extract {text : ByteArray} {p : Nat} {l : List Int} (h : At text p l) (hl : ∀ n, n ∈ l → 0 ≤ n ∧ n ≤ 255) : text.extract p (p + l.length) = ofBytes l := by
  apply bs_inj
  rw [bs_extract, bs_ofBytes hl]
  obtain ⟨r, hr⟩ := h
  rw [List.drop_take, hr]
  simp
theorem varL_byte : ∀ (n : Int), 0 ≤ n → ∀ x, x ∈ varL n → 0 ≤ x ∧ x ≤ 255 := by
  intro n
  induction n using varL.induct with
  | case1 n hn ih =>
    intro h x hx
    rw [varL, if_pos hn] at hx
    rcases List.mem_cons.1 hx with rfl | hx
    · omega
    · exact ih (by omega) x hx
  | case2 n hn =>
    intro h x hx
    rw [varL, if_neg hn, w8_id h (by omega)] at hx
    rw [List.mem_singleton] at hx
    omega
theorem varL_one {n : Int} (h : 0 ≤ n) (h2 : n ≤ 127) : varL n = [n] := by
  rw [varL, if_neg (by omega), w8_id h (by omega)]
theorem varL_len5 {n : Int} (h : n ≤ 1000000000) : (varL n).length ≤ 5 := by
  have := varL_len 5 n (by have : (128 : Int) ^ 5 = 34359738368 := by decide
                           omega)
  omega
theorem rvS_stop {text : ByteArray} {a k m : Nat} {n s : Int} (hs : text.size ≤ 140737488351232) (ha : a ≤ text.size) (hi : text.size ≤ a + k ∨ 5 ≤ k) : L_spec_ReadVar (m + 1) (.c0 text a n s ((a + k : Nat) : Int)) = some no3 := by
  simp only [L_spec_ReadVar, B_spec_ReadVar]
  by_cases h : a + k < text.size
  · rw [show decide (((a + k : Nat) : Int) < (text.size : Int)) = true from decide_eq_true (by omega), w64_id (n := (a : Int) + 5) (by omega) (by omega), show decide (((a + k : Nat) : Int) < (a : Int) + 5) = false from decide_eq_false (by omega)]
    rfl
  · rw [show decide (((a + k : Nat) : Int) < (text.size : Int)) = false from decide_eq_false (by omega)]
    rfl
theorem rv_nums {k : Nat} {n b : Int} (hk : k < 5) (h0 : 0 ≤ n) (h1 : n < pw k) (hb : 0 ≤ b ∧ b ≤ 255) :
    (b < 128 → b.tmod 128 = b ∧ w64 (b * pw k) = b * pw k ∧ w64 (n + b * pw k) = n + b * pw k ∧ 0 ≤ n + b * pw k ∧ n + b * pw k < pw (k + 1)) ∧
    (¬ b < 128 → b.tmod 128 = b - 128 ∧ w64 ((b - 128) * pw k) = (b - 128) * pw k ∧ w64 (n + (b - 128) * pw k) = n + (b - 128) * pw k ∧ 0 ≤ n + (b - 128) * pw k ∧ n + (b - 128) * pw k < pw (k + 1)) ∧ w64 (pw k * 128) = pw (k + 1) := by
  rw [pw_succ]
  have e : b.tmod 128 = b % 128 := Int.tmod_eq_emod_of_nonneg hb.1
  refine ⟨fun h => ?_, fun h => ?_, ?_⟩
  · have hc : 0 ≤ b * pw k ∧ b * pw k ≤ 34091302912 ∧ b * pw k ≤ 127 * pw k := by rcases pw_cases hk with e | e | e | e | e <;> rw [e] <;> omega
    have hp : pw k ≤ 268435456 := by rcases pw_cases hk with e | e | e | e | e <;> rw [e] <;> omega
    exact ⟨by rw [e]; omega, w64_id (by omega) (by omega), w64_id (by omega) (by omega), by omega, by omega⟩
  · have hc : 0 ≤ (b - 128) * pw k ∧ (b - 128) * pw k ≤ 34091302912 ∧ (b - 128) * pw k ≤ 127 * pw k := by rcases pw_cases hk with e | e | e | e | e <;> rw [e] <;> omega
    have hp : pw k ≤ 268435456 := by rcases pw_cases hk with e | e | e | e | e <;> rw [e] <;> omega
    exact ⟨by rw [e]; omega, w64_id (by omega) (by omega), w64_id (by omega) (by omega), by omega, by omega⟩
  · rcases pw_cases hk with e | e | e | e | e <;> rw [e, w64_id (by omega) (by omega)]
theorem rvS_step {text : ByteArray} {a k m : Nat} {n b : Int} (hs : text.size ≤ 140737488351232) (hk : k < 5) (hi : a + k < text.size) (h0 : 0 ≤ n) (h1 : n < pw k) (hb : bt text ((a + k : Nat) : Int) = b) :
    L_spec_ReadVar (m + 1) (.c0 text a n (pw k) ((a + k : Nat) : Int)) = if b < 128 then (if n + b * pw k > 1000000000 then some no3 else if ofBytes (varL (n + b * pw k)) = text.extract a (a + k + 1) then some (n + b * pw k, ((a + k + 1 : Nat) : Int), true) else some no3) else L_spec_ReadVar m (.c0 text a (n + (b - 128) * pw k) (pw (k + 1)) ((a + k + 1 : Nat) : Int)) := by
  have hb' := bt_byte text ((a + k : Nat) : Int)
  rw [hb] at hb'
  obtain ⟨n1, n2, n3⟩ := rv_nums hk h0 h1 hb'
  have hw : w64 (((a + k : Nat) : Int) + 1) = ((a + k + 1 : Nat) : Int) := by rw [w64_id (by omega) (by omega)]; omega
  simp only [L_spec_ReadVar, B_spec_ReadVar, hb, w64_id (n := b) (by omega) (by omega), n3, hw, Int.toNat_natCast]
  rw [show decide (((a + k : Nat) : Int) < (text.size : Int)) = true from decide_eq_true (by omega), w64_id (n := (a : Int) + 5) (by omega) (by omega), show decide (((a + k : Nat) : Int) < (a : Int) + 5) = true from decide_eq_true (by omega),
    show decide ((0 : Int) ≤ ((a + k : Nat) : Int)) = true from decide_eq_true (by omega)]
  simp only [Bool.and_self, cond_true]
  by_cases h : b < 128
  · obtain ⟨e1, e2, e3, e4, _⟩ := n1 h
    rw [if_pos h, e1, e2, e3, show decide (b < 128) = true from decide_eq_true h]
    by_cases h2 : n + b * pw k > 1000000000
    · rw [if_pos h2, show decide (n + b * pw k > 1000000000) = true from decide_eq_true h2]; rfl
    · rw [if_neg h2, show decide (n + b * pw k > 1000000000) = false from decide_eq_false h2, p_spec_l01Var (by omega)]
      simp only [cond_true, cond_false, Option.bind_some]
      rw [show decide ((0 : Int) ≤ (a : Int)) = true from decide_eq_true (by omega), show decide ((a : Int) ≤ ((a + k + 1 : Nat) : Int)) = true from decide_eq_true (by omega), show decide (((a + k + 1 : Nat) : Int) ≤ (text.size : Int)) = true from decide_eq_true (by omega), toList_inj]
      by_cases h3 : ofBytes (varL (n + b * pw k)) = text.extract a (a + k + 1)
      · rw [if_pos h3, decide_eq_true h3]; rfl
      · rw [if_neg h3, decide_eq_false h3]; rfl
  · obtain ⟨e1, e2, e3, _, _⟩ := n2 h
    rw [if_neg h, e1, e2, e3, show decide (b < 128) = false from decide_eq_false h]
    rfl
theorem rvS_any {text : ByteArray} {a : Nat} (hs : text.size ≤ 140737488351232) (ha : a ≤ text.size) : ∀ j k m n, k + j = 5 → j < m → 0 ≤ n → n < pw k → ∃ r, L_spec_ReadVar m (.c0 text a n (pw k) ((a + k : Nat) : Int)) = some r ∧ RV text a r := by
  intro j
  induction j with
  | zero =>
    intro k m n hk hm _ _
    obtain ⟨m, rfl⟩ : ∃ q, m = q + 1 := ⟨m - 1, by omega⟩
    exact ⟨_, rvS_stop hs ha (.inr (by omega)), .inl rfl⟩
  | succ j ih =>
    intro k m n hk hm h0 h1
    obtain ⟨m, rfl⟩ : ∃ q, m = q + 1 := ⟨m - 1, by omega⟩
    by_cases hi : a + k < text.size
    · have hb := bt_byte text ((a + k : Nat) : Int)
      generalize hbe : bt text ((a + k : Nat) : Int) = b at hb
      obtain ⟨n1, n2, _⟩ := rv_nums (b := b) (by omega : k < 5) h0 h1 hb
      rw [rvS_step hs (by omega) hi h0 h1 hbe]
      split
      · rename_i h
        split
        · exact ⟨_, rfl, .inl rfl⟩
        · split
          · exact ⟨_, rfl, .inr ⟨_, _, rfl, (n1 h).2.2.2.1, by omega, by omega, by omega⟩⟩
          · exact ⟨_, rfl, .inl rfl⟩
      · rename_i h
        obtain ⟨_, _, _, e4, e5⟩ := n2 h
        exact ih (k + 1) m _ (by omega) (by omega) e4 e5
    · exact ⟨_, rvS_stop hs ha (.inl (by omega)), .inl rfl⟩
theorem rvS_is {text : ByteArray} {a : Nat} {V : Int} (hs : text.size ≤ 140737488351232) (hV0 : 0 ≤ V) (hV : V ≤ 1000000000) (hA : At text a (varL V)) : ∀ U k m n, varL U = (varL V).drop k → 0 ≤ U → n + pw k * U = V → 0 ≤ n → n < pw k → 5 < m + k → L_spec_ReadVar m (.c0 text a n (pw k) ((a + k : Nat) : Int)) = some (V, ((a + (varL V).length : Nat) : Int), true) := by
  have h5 := varL_len5 hV
  intro U
  induction U using varL.induct with
  | case1 U hU ih =>
    intro k m n e1 u0 e2 h0 h1 hm
    have hl := congrArg List.length e1
    rw [List.length_drop] at hl
    have hp := varL_pos U
    have hk : k < 5 := by omega
    obtain ⟨m, rfl⟩ : ∃ q, m = q + 1 := ⟨m - 1, by omega⟩
    have hA' : At text (a + k) (varL U) := by
      have : At text a ((varL V).take k ++ (varL V).drop k) := by rw [List.take_append_drop]; exact hA
      have := this.right
      rw [List.length_take, Nat.min_eq_left (by omega), ← e1] at this
      exact this
    have e3 := e1
    rw [varL, if_pos hU] at hA' e3
    obtain ⟨hi, hb⟩ := hA'.head
    obtain ⟨n1, n2, _⟩ := rv_nums (b := 128 + U % 128) hk h0 h1 (by omega)
    obtain ⟨_, _, _, e4, e5⟩ := n2 (by omega)
    rw [rvS_step hs hk hi h0 h1 hb, if_neg (by omega)]
    refine ih (k + 1) m _ ?_ (by omega) ?_ e4 e5 (by omega)
    · rw [← List.drop_drop, ← e3]; rfl
    · rw [pw_succ]
      rcases pw_cases hk with e | e | e | e | e <;> rw [e] at e2 ⊢ <;> omega
  | case2 U hU =>
    intro k m n e1 u0 e2 h0 h1 hm
    have hl := congrArg List.length e1
    rw [List.length_drop] at hl
    have hp := varL_pos U
    have hk : k < 5 := by omega
    obtain ⟨m, rfl⟩ : ∃ q, m = q + 1 := ⟨m - 1, by omega⟩
    have hA' : At text (a + k) (varL U) := by
      have : At text a ((varL V).take k ++ (varL V).drop k) := by rw [List.take_append_drop]; exact hA
      have := this.right
      rw [List.length_take, Nat.min_eq_left (by omega), ← e1] at this
      exact this
    rw [varL_one u0 (by omega)] at hA' hl
    simp only [List.length_singleton] at hl
    obtain ⟨hi, hb⟩ := hA'.head
    have e3 : n + U * pw k = V := by rw [Int.mul_comm]; exact e2
    have e4 : a + k + 1 = a + (varL V).length := by omega
    rw [rvS_step hs hk hi h0 h1 hb, if_pos (by omega), e3, if_neg (by omega), e4, if_pos (hA.extract (varL_byte V hV0)).symm]
theorem p_spec_ReadVar {text : ByteArray} {a : Nat} (hs : text.size ≤ 140737488351232) (ha : a ≤ text.size) : ∃ r, spec_ReadVar text a = some r ∧ RV text a r := by
  simp only [spec_ReadVar, E_spec_ReadVar, p_spec_l01In, Option.bind_some]
  rw [show inR (a : Int) 0 (text.size : Int) = true from inR_iff.2 ⟨by omega, by omega⟩]
  exact rvS_any hs ha 5 0 gas 0 rfl (gas_lt (by omega)) (by omega) (by rw [pw_zero]; omega)
theorem p_spec_ReadVar_is {text : ByteArray} {a : Nat} {V : Int} (hs : text.size ≤ 140737488351232) (hV0 : 0 ≤ V) (hV : V ≤ 1000000000) (hA : At text a (varL V)) : spec_ReadVar text a = some (V, ((a + (varL V).length : Nat) : Int), true) := by
  have ha : a + (varL V).length ≤ text.size := by
    rcases hA.size with h | h
    · have := varL_pos V; rw [h] at this; simp at this
    · exact h
  simp only [spec_ReadVar, E_spec_ReadVar, p_spec_l01In, Option.bind_some]
  rw [show inR (a : Int) 0 (text.size : Int) = true from inR_iff.2 ⟨by omega, by omega⟩]
  exact rvS_is hs hV0 hV hA V 0 gas 0 (by simp) hV0 (by rw [pw_zero]; omega) (by omega) (by rw [pw_zero]; omega) (by have := gas_lt (n := 5) (by omega); omega)
/-- A place in the text to read on from. -/
def CurOk (text : ByteArray) (c : SL19Cur) : Prop := ∃ p : Nat, ∃ b : Bool, c = ⟨text, (p : Int), b⟩ ∧ p ≤ text.size
theorem p_spec_l19Var {text : ByteArray} {c : SL19Cur} (hs : text.size ≤ 140737488351232) (h : CurOk text c) : ∃ v c', spec_l19Var c = some (v, c') ∧ CurOk text c' ∧ 0 ≤ v ∧ v ≤ 1000000000 := by
  obtain ⟨p, b, rfl, hp⟩ := h
  obtain ⟨r, hr, hR⟩ := p_spec_ReadVar hs hp
  simp only [spec_l19Var, E_spec_l19Var, hr, Option.bind_some]
  cases b
  · rcases hR with rfl | ⟨v, q, rfl, h0, h1, _, h3⟩
    · exact ⟨_, _, rfl, ⟨p, true, rfl, hp⟩, by omega, by omega⟩
    · exact ⟨_, _, rfl, ⟨q, false, rfl, h3⟩, h0, h1⟩
  · exact ⟨_, _, rfl, ⟨p, true, rfl, hp⟩, by omega, by omega⟩
theorem p_spec_l19Var_is {text : ByteArray} {a : Nat} {V : Int} (hs : text.size ≤ 140737488351232) (hV0 : 0 ≤ V) (hV : V ≤ 1000000000) (hA : At text a (varL V)) : spec_l19Var ⟨text, (a : Int), false⟩ = some (V, ⟨text, ((a + (varL V).length : Nat) : Int), false⟩) := by
  simp only [spec_l19Var, E_spec_l19Var, p_spec_ReadVar_is hs hV0 hV hA, Option.bind_some]
  rfl
theorem p_spec_l19Take {text : ByteArray} {c : SL19Cur} {n : Int} (hs : text.size ≤ 140737488351232) (h : CurOk text c) (h0 : 0 ≤ n) (h1 : n ≤ 1000000000) : ∃ s c', spec_l19Take c n = some (s, c') ∧ CurOk text c' ∧ s.size ≤ 1000000000 ∧ (c'.fBad = false → (s.size : Int) = n ∧ c.fAt + n ≤ (text.size : Int)) := by
  obtain ⟨p, b, rfl, hp⟩ := h
  simp only [spec_l19Take, E_spec_l19Take]
  have e1 : w64 ((text.size : Int) - (p : Int)) = (text.size : Int) - p := w64_id (by omega) (by omega)
  have e2 : w64 ((p : Int) + n) = p + n := w64_id (by omega) (by omega)
  have e3 : w64 ((p : Int) + n - n) = p := by rw [w64_id (by omega) (by omega)]; omega
  rw [e1, e2, e3]
  cases b
  · by_cases hn : n > (text.size : Int) - p
    · rw [show decide (n > (text.size : Int) - p) = true from decide_eq_true hn]
      exact ⟨_, _, rfl, ⟨p, true, rfl, hp⟩, by show 0 ≤ _; omega, fun h => by cases h⟩
    · rw [show decide (n > (text.size : Int) - p) = false from decide_eq_false hn, show decide ((0 : Int) ≤ (p : Int)) = true from decide_eq_true (by omega), show decide ((p : Int) ≤ p + n) = true from decide_eq_true (by omega), show decide ((p : Int) + n ≤ (text.size : Int)) = true from decide_eq_true (by omega)]
      have hz : (text.extract (p : Int).toNat ((p : Int) + n).toNat).size = n.toNat := by rw [ByteArray.size_extract]; omega
      refine ⟨_, _, rfl, ⟨((p : Int) + n).toNat, false, ?_, by omega⟩, by rw [hz]; omega, fun _ => ⟨by rw [hz]; omega, by show (p : Int) + n ≤ _; omega⟩⟩
      rw [Int.toNat_of_nonneg (by omega)]
  · exact ⟨_, _, rfl, ⟨p, true, rfl, hp⟩, by show 0 ≤ _; omega, fun h => by cases h⟩
theorem p_spec_l19Take_is {text : ByteArray} {p : Nat} {s : ByteArray} (hs : text.size ≤ 140737488351232) (hA : At text p (bs s)) (hp : p ≤ text.size) : spec_l19Take ⟨text, (p : Int), false⟩ (s.size : Int) = some (s, ⟨text, ((p + s.size : Nat) : Int), false⟩) := by
  have hz : p + s.size ≤ text.size := by
    rcases hA.size with h | h
    · have := congrArg List.length h; rw [bs_len, List.length_nil] at this; omega
    · rw [bs_len] at h; exact h
  have e1 : w64 ((text.size : Int) - (p : Int)) = (text.size : Int) - p := w64_id (by omega) (by omega)
  have e2 : w64 ((p : Int) + (s.size : Int)) = ((p + s.size : Nat) : Int) := by rw [w64_id (by omega) (by omega)]; omega
  have e3 : w64 (((p + s.size : Nat) : Int) - (s.size : Int)) = p := by rw [w64_id (by omega) (by omega)]; omega
  simp only [spec_l19Take, E_spec_l19Take, e1, e2, e3, Int.toNat_natCast]
  have hx := hA.extract (fun n hn => bs_byte hn)
  rw [bs_len, ofBytes_bs] at hx
  rw [show decide ((s.size : Int) > (text.size : Int) - p) = false from decide_eq_false (by omega), show decide ((0 : Int) ≤ (p : Int)) = true from decide_eq_true (by omega), show decide ((p : Int) ≤ ((p + s.size : Nat) : Int)) = true from decide_eq_true (by omega), show decide (((p + s.size : Nat) : Int) ≤ (text.size : Int)) = true from decide_eq_true (by omega), hx]
  rfl
theorem p_spec_l19One {text : ByteArray} {c : SL19Cur} (hs : text.size ≤ 140737488351232) (h : CurOk text c) : ∃ v c', spec_l19One c = some (v, c') ∧ CurOk text c' ∧ 0 ≤ v ∧ v ≤ 255 ∧ (c'.fBad = true → v = 0) ∧ (c'.fBad = false → c.fAt + 1 ≤ (text.size : Int)) := by
  obtain ⟨s, c', e, hc, _, hn⟩ := p_spec_l19Take (n := 1) hs h (by omega) (by omega)
  simp only [spec_l19One, E_spec_l19One, e, Option.bind_some]
  cases hb : c'.fBad
  · obtain ⟨h1, h2⟩ := hn hb
    rw [show decide ((0 : Int) ≤ (0 : Int)) = true from rfl, show decide ((0 : Int) < (s.size : Int)) = true from decide_eq_true (by omega)]
    have := bt_byte s 0
    rw [w64_id (n := bt s 0) (by omega) (by omega)]
    exact ⟨_, _, rfl, hc, this.1, this.2, fun h => (by rw [hb] at h; cases h), fun _ => h2⟩
  · exact ⟨_, _, rfl, hc, by omega, by omega, fun _ => rfl, fun h => (by rw [hb] at h; cases h)⟩
theorem p_spec_l19One_is {text : ByteArray} {p : Nat} {b : Int} (hs : text.size ≤ 140737488351232) (hA : At text p [b]) : spec_l19One ⟨text, (p : Int), false⟩ = some (b, ⟨text, ((p + 1 : Nat) : Int), false⟩) := by
  obtain ⟨h1, h2⟩ := hA.head
  have hb := bt_byte text p
  rw [h2] at hb
  have hB : bs (ofBytes [b]) = [b] := bs_ofBytes (by simpa using hb)
  have e := p_spec_l19Take_is (s := ofBytes [b]) hs (by rw [hB]; exact hA) (Nat.le_of_lt h1)
  have h0 : bt (ofBytes [b]) 0 = b := by
    have := bt_eq (s := ofBytes [b]) (i := 0) (by rw [ofBytes_size]; simp)
    simp only [hB] at this
    exact this
  simp only [spec_l19One, E_spec_l19One]
  rw [show spec_l19Take ⟨text, (p : Int), false⟩ 1 = _ from e]
  simp only [Option.bind_some, h0, w64_id (n := b) (by omega) (by omega)]
  rfl
theorem p_spec_l19ReadShort {text : ByteArray} {c : SL19Cur} (hs : text.size ≤ 140737488351232) (h : CurOk text c) : ∃ s c', spec_l19ReadShort c = some (s, c') ∧ CurOk text c' ∧ s.size ≤ 1000000000 := by
  obtain ⟨v, c1, e1, h1, h2, h3⟩ := p_spec_l19Var hs h
  obtain ⟨s, c2, e2, h4, h5, _⟩ := p_spec_l19Take hs h1 h2 h3
  simp only [spec_l19ReadShort, E_spec_l19ReadShort, e1, e2, Option.bind_some]
  exact ⟨_, _, rfl, h4, h5⟩
theorem p_spec_l19ReadShort_is {text : ByteArray} {p : Nat} {s : ByteArray} (hs : text.size ≤ 140737488351232) (hz : s.size ≤ 1000000000) (hA : At text p (varL (s.size : Int) ++ bs s)) : spec_l19ReadShort ⟨text, (p : Int), false⟩ = some (s, ⟨text, ((p + (varL (s.size : Int)).length + s.size : Nat) : Int), false⟩) := by
  have hp : p + (varL (s.size : Int)).length ≤ text.size := by
    rcases hA.left.size with h | h
    · have := varL_pos (s.size : Int); rw [h] at this; simp at this
    · exact h
  simp only [spec_l19ReadShort, E_spec_l19ReadShort, p_spec_l19Var_is hs (by omega) (by omega) hA.left, p_spec_l19Take_is hs hA.right hp, Option.bind_some]
def thingOk (x : SThing) : Bool := inR x.fId 1 1000 && inR x.fKind 1 3 && inR x.fNext 0 16 && ((x.fKind == 2) || ((x.fNext == 0) && !x.fSigns)) && ((x.fKind == 1) || !x.fWraps) && (bif x.fKind == 3 then decide ((x.fValue.size : Int) ≤ 100) else (x.fValue.size : Int) == 32)
theorem p_spec_ThingOk (x : SThing) : spec_ThingOk x = some (thingOk x) := by
  simp only [spec_ThingOk, E_spec_ThingOk, p_spec_l01In, Option.bind_some, thingOk, bne]
  cases inR x.fId 1 1000 <;> cases inR x.fKind 1 3 <;> cases inR x.fNext 0 16 <;> cases (x.fKind == 2) <;> cases (x.fKind == 1) <;> cases (x.fKind == 3) <;> cases (x.fNext == 0) <;> cases x.fSigns <;> cases x.fWraps <;> rfl
theorem thingOk_kind {x : SThing} (h : thingOk x = true) : 1 ≤ x.fKind ∧ x.fKind ≤ 3 ∧ 1 ≤ x.fId ∧ x.fId ≤ 1000 ∧ 0 ≤ x.fNext ∧ x.fNext ≤ 16 ∧ x.fValue.size ≤ 100 := by
  unfold thingOk at h
  simp only [Bool.and_eq_true] at h
  obtain ⟨⟨⟨⟨⟨h1, h2⟩, h3⟩, _⟩, _⟩, h4⟩ := h
  rw [inR_iff] at h1 h2 h3
  refine ⟨h2.1, h2.2, h1.1, h1.2, h3.1, h3.2, ?_⟩
  cases hk : x.fKind == 3
  · rw [hk] at h4; simp at h4; omega
  · rw [hk] at h4; simp at h4; omega
theorem p_spec_l19Flag (b : Bool) (n : Int) : spec_l19Flag b n = some (bif b then n else 0) := by cases b <;> rfl
theorem p_spec_l06Byte {n : Int} (h : 0 ≤ n) (h2 : n ≤ 255) : spec_l06Byte n = some (ofBytes [n]) := by
  have e : n.tmod 256 = n := by rw [Int.tmod_eq_emod_of_nonneg h]; omega
  simp only [spec_l06Byte, E_spec_l06Byte, e]
  rw [show decide (n < 0) = false from decide_eq_false (by omega), w8_id h h2]
  rfl
def shortT (s : ByteArray) : ByteArray := ofBytes (varL (s.size : Int)) ++ s
theorem shortT_size {s : ByteArray} (h : s.size ≤ 140737488351232) : (shortT s).size ≤ s.size + 10 := by
  unfold shortT; rw [ba_append_size, ofBytes_size]; have := varL_len10 (n := (s.size : Int)) (by omega); omega
theorem p_spec_l19Short {s : ByteArray} (h : s.size ≤ 140737488351232) : spec_l19Short s = some (shortT s) := by
  simp only [spec_l19Short, E_spec_l19Short, p_spec_l01Var (n := (s.size : Int)) (by omega), Option.bind_some]
  have := varL_len10 (n := (s.size : Int)) (by omega)
  rw [show decide ((ofBytes (varL (s.size : Int))).size + s.size ≤ 9223372036854775807) = true from decide_eq_true (by rw [ofBytes_size]; omega)]
  rfl
def flagN (x : SThing) : Int := (bif x.fHidden then 1 else 0) + (bif x.fFixed then 2 else 0) + (bif x.fSigns then 4 else 0) + (bif x.fWraps then 8 else 0)
theorem flagN_lt (x : SThing) : 0 ≤ flagN x ∧ flagN x ≤ 15 := by
  unfold flagN; cases x.fHidden <;> cases x.fFixed <;> cases x.fSigns <;> cases x.fWraps <;> decide
theorem flags5 (m : Nat) (a b c d : Bool) : L_impl_flags (m + 5) (.c0 0 4 0 [a, b, c, d]) = some ((bif a then 1 else 0) + (bif b then 2 else 0) + (bif c then 4 else 0) + (bif d then 8 else 0)) := by
  cases a <;> cases b <;> cases c <;> cases d <;> kernel_rfl
theorem p_impl_flags (x : SThing) : impl_flags x = some (flagN x) := by
  have : gas = 9223372036854775802 + 5 := rfl
  unfold impl_flags E_impl_flags
  rw [this]
  exact flags5 _ _ _ _ _
def thingT (x : SThing) : ByteArray := ofBytes (varL x.fId) ++ ofBytes [x.fKind] ++ ofBytes [flagN x] ++ shortT x.fValue ++ ofBytes (varL x.fNext)
def thingText (x : SThing) : ByteArray × Bool := bif thingOk x then (thingT x, true) else (⟨#[]⟩, false)
theorem thing_sizes {x : SThing} (h : thingOk x = true) : (ofBytes (varL x.fId)).size ≤ 10 ∧ (shortT x.fValue).size ≤ 110 ∧ (ofBytes (varL x.fNext)).size ≤ 10 := by
  obtain ⟨_, _, _, h1, _, h2, h3⟩ := thingOk_kind h
  rw [ofBytes_size, ofBytes_size]
  have := varL_len10 (n := x.fId) (by omega)
  have := varL_len10 (n := x.fNext) (by omega)
  have := shortT_size (s := x.fValue) (by omega)
  omega
theorem thingT_size {x : SThing} (h : thingOk x = true) : (thingT x).size ≤ 200 := by
  obtain ⟨h1, h2, h3⟩ := thing_sizes h
  unfold thingT
  simp only [ba_append_size]
  have e1 : ∀ n : Int, (ofBytes [n]).size = 1 := fun n => ofBytes_size _
  rw [e1, e1]; omega
theorem p_spec_ThingText (x : SThing) : spec_ThingText x = some (thingText x) := by
  simp only [spec_ThingText, E_spec_ThingText, p_spec_ThingOk, Option.bind_some, thingText]
  cases h : thingOk x
  · rfl
  · obtain ⟨k1, k2, k3, k4, k5, k6, k7⟩ := thingOk_kind h
    obtain ⟨z1, z2, z3⟩ := thing_sizes h
    have hf := flagN_lt x
    have e1 : ∀ n : Int, (ofBytes [n]).size = 1 := fun n => ofBytes_size _
    have ef : w64 (w64 (w64 ((bif x.fHidden then (1 : Int) else 0) + (bif x.fFixed then 2 else 0)) + (bif x.fSigns then 4 else 0)) + (bif x.fWraps then 8 else 0)) = flagN x := by
      unfold flagN; cases x.fHidden <;> cases x.fFixed <;> cases x.fSigns <;> cases x.fWraps <;> rfl
    simp only [p_spec_l19Flag, Option.bind_some, ef, p_spec_l01Var (n := x.fId) (by omega), p_spec_l06Byte (n := x.fKind) (by omega) (by omega), p_spec_l06Byte hf.1 (by omega), p_spec_l19Short (s := x.fValue) (by omega), p_spec_l01Var (n := x.fNext) (by omega), ba_append_size, e1]
    simp only [Bool.not_true, cond_false, cond_true]
    rw [show decide ((ofBytes (varL x.fId)).size + 1 ≤ 9223372036854775807) = true from decide_eq_true (by omega), show decide ((ofBytes (varL x.fId)).size + 1 + 1 ≤ 9223372036854775807) = true from decide_eq_true (by omega),
      show decide ((ofBytes (varL x.fId)).size + 1 + 1 + (shortT x.fValue).size ≤ 9223372036854775807) = true from decide_eq_true (by omega), show decide ((ofBytes (varL x.fId)).size + 1 + 1 + (shortT x.fValue).size + (ofBytes (varL x.fNext)).size ≤ 9223372036854775807) = true from decide_eq_true (by omega)]
    rfl
def flagBits (f : Int) (h a b c : Bool) : Prop := f = (bif h then 1 else 0) + (bif a then 2 else 0) + (bif b then 4 else 0) + (bif c then 8 else 0)
theorem flag_bits (x : SThing) : (((flagN x).tmod 2 == 1) = x.fHidden) ∧ (((w64 ((flagN x).tdiv 2)).tmod 2 == 1) = x.fFixed) ∧ (((w64 ((flagN x).tdiv 4)).tmod 2 == 1) = x.fSigns) ∧ (((w64 ((flagN x).tdiv 8)).tmod 2 == 1) = x.fWraps) := by
  unfold flagN
  cases x.fHidden <;> cases x.fFixed <;> cases x.fSigns <;> cases x.fWraps <;> decide
theorem bs_thingT {x : SThing} (h : thingOk x = true) : bs (thingT x) = varL x.fId ++ ([x.fKind] ++ ([flagN x] ++ ((varL (x.fValue.size : Int) ++ bs x.fValue) ++ varL x.fNext))) := by
  obtain ⟨k1, k2, k3, k4, k5, k6, k7⟩ := thingOk_kind h
  have hf := flagN_lt x
  unfold thingT shortT
  simp only [bs_append, bs_ofBytes (varL_byte x.fId (by omega)), bs_ofBytes (varL_byte x.fNext (by omega)), bs_ofBytes (varL_byte (x.fValue.size : Int) (by omega)), bs_ofBytes (l := [x.fKind]) (by simp; omega), bs_ofBytes (l := [flagN x]) (by simp; omega), List.append_assoc]
/-- What a reader of things may answer. -/
def ReadsThing (text : ByteArray) (r : SThing × Bool) : Prop := (r.2 = true ∧ thingText r.1 = (text, true)) ∨ r = (⟨(0 : Int), (0 : Int), false, false, false, false, (⟨#[]⟩ : ByteArray), (0 : Int)⟩, false)
theorem p_spec_ReadThing {text : ByteArray} (hs : text.size ≤ 140737488351232) : ∃ r, spec_ReadThing text = some r ∧ ReadsThing text r := by
  obtain ⟨v0, c0, e0, h0, _⟩ := p_spec_l19Var hs (c := ⟨text, (0 : Int), false⟩) ⟨0, false, rfl, by omega⟩
  obtain ⟨v1, c1, e1, h1, _⟩ := p_spec_l19One hs h0
  obtain ⟨v2, c2, e2, h2, _⟩ := p_spec_l19One hs h1
  obtain ⟨v3, c3, e3, h3, _⟩ := p_spec_l19ReadShort hs h2
  obtain ⟨v4, c4, e4, h4, _⟩ := p_spec_l19Var hs h3
  simp only [spec_ReadThing, E_spec_ReadThing, e0, e1, e2, e3, e4, p_spec_ThingText, Option.bind_some]
  cases c4.fBad
  · cases h5 : (thingText (⟨v0, v1, v2.tmod 2 == 1, (w64 (v2.tdiv 2)).tmod 2 == 1, (w64 (v2.tdiv 4)).tmod 2 == 1, (w64 (v2.tdiv 8)).tmod 2 == 1, v3, v4⟩ : SThing)).2
    · exact ⟨_, rfl, .inr rfl⟩
    · rw [toList_inj]
      by_cases h6 : (thingText (⟨v0, v1, v2.tmod 2 == 1, (w64 (v2.tdiv 2)).tmod 2 == 1, (w64 (v2.tdiv 4)).tmod 2 == 1, (w64 (v2.tdiv 8)).tmod 2 == 1, v3, v4⟩ : SThing)).1 = text
      · rw [decide_eq_true h6]; exact ⟨_, rfl, .inl ⟨rfl, Prod.ext h6 h5⟩⟩
      · rw [decide_eq_false h6]; exact ⟨_, rfl, .inr rfl⟩
  · exact ⟨_, rfl, .inr rfl⟩
theorem thing_parts {text : ByteArray} {x : SThing} (h : thingText x = (text, true)) : thingOk x = true ∧ text = thingT x := by
  unfold thingText at h
  cases ho : thingOk x <;> rw [ho] at h
  · simp at h
  · exact ⟨rfl, (congrArg Prod.fst h).symm⟩
theorem p_spec_ReadThing_is {text : ByteArray} {x : SThing} (hs : text.size ≤ 140737488351232) (h : thingText x = (text, true)) : spec_ReadThing text = some (x, true) := by
  obtain ⟨ho, rfl⟩ := thing_parts h
  obtain ⟨k1, k2, k3, k4, k5, k6, k7⟩ := thingOk_kind ho
  have hf := flagN_lt x
  have hA : At (thingT x) 0 _ := ⟨[], by rw [List.drop_zero, bs_thingT ho, List.append_nil]⟩
  have a1 := hA.right
  have a2 := a1.right
  have a3 := a2.right
  have a4 := a3.right
  have e0 := p_spec_l19Var_is hs (by omega) (by omega) hA.left
  have e1 := p_spec_l19One_is hs a1.left
  have e2 := p_spec_l19One_is hs a2.left
  have e3 := p_spec_l19ReadShort_is hs (by omega) a3.left
  have e4 := p_spec_l19Var_is hs (by omega) (by omega) a4
  simp only [List.length_append, bs_len, List.length_singleton, Nat.zero_add, ← Nat.add_assoc] at e0 e1 e2 e3 e4
  obtain ⟨b1, b2, b3, b4⟩ := flag_bits x
  simp only [spec_ReadThing, E_spec_ReadThing]
  rw [show ((0 : Int)) = ((0 : Nat) : Int) from rfl, e0]
  simp only [e1, e2, e3, e4, Option.bind_some, b1, b2, b3, b4, p_spec_ThingText, h, toList_self]
  rfl
def isZ (x : SThing) : Bool := (x.fId == 0) && ((x.fKind == 0) && ((x.fHidden == false) && ((x.fFixed == false) && ((x.fSigns == false) && ((x.fWraps == false) && (((ByteArray.toList x.fValue) == (ByteArray.toList (⟨#[]⟩ : ByteArray))) && ((x.fNext == 0) && true)))))))
theorem isZ_e (x : SThing) : ((x.fId == 0) && ((x.fKind == 0) && ((x.fHidden == false) && ((x.fFixed == false) && ((x.fSigns == false) && ((x.fWraps == false) && (((ByteArray.toList x.fValue) == (ByteArray.toList (⟨#[]⟩ : ByteArray))) && ((x.fNext == 0) && true)))))))) = isZ x := rfl
def isE (s : ByteArray) : Bool := (ByteArray.toList s) == (ByteArray.toList (⟨#[]⟩ : ByteArray))
theorem isE_e (s : ByteArray) : ((ByteArray.toList s) == (ByteArray.toList (⟨#[]⟩ : ByteArray))) = isE s := rfl
def noT : ByteArray × Bool := ((⟨#[]⟩ : ByteArray), false)
def recText (r : SRec) : ByteArray × Bool :=
  bif r.fKind == 1 then (bif (r.fText.size : Int) == 32 && r.fNum == 0 && isZ r.fThing then (ofBytes [1] ++ r.fText, true) else noT)
  else bif r.fKind == 2 then (bif isE r.fText && isZ r.fThing && inR r.fNum 0 3 then (ofBytes [2] ++ ofBytes (varL r.fNum), true) else noT)
  else bif r.fKind == 3 then (bif (thingText r.fThing).2 && isE r.fText && r.fNum == 0 then (ofBytes [3] ++ (thingText r.fThing).1, true) else noT)
  else bif r.fKind == 4 then (bif isE r.fText && isZ r.fThing && inR r.fNum 1 1000 then (ofBytes [4] ++ ofBytes (varL r.fNum), true) else noT)
  else noT
theorem rec_var {n a b : Int} (hb : b ≤ 1000) (h : inR n a b = true) (k : Int) : (ofBytes [k]).size + (ofBytes (varL n)).size ≤ 9223372036854775807 := by
  rw [inR_iff] at h
  have := varL_len10 (n := n) (by omega)
  rw [ofBytes_size, ofBytes_size]; simp only [List.length_singleton]; omega
theorem rec_thing {x : SThing} (h : (thingText x).2 = true) (k : Int) : (ofBytes [k]).size + (thingText x).1.size ≤ 9223372036854775807 := by
  unfold thingText at h ⊢
  cases ho : thingOk x
  · rw [ho] at h; cases h
  · have := thingT_size ho
    rw [ofBytes_size]; simp only [List.length_singleton, cond_true]; omega
theorem p_spec_RecText (r : SRec) : spec_RecText r = some (recText r) := by
  have h1 : (⟨#[1]⟩ : ByteArray) = ofBytes [1] := rfl
  have h2 : (⟨#[2]⟩ : ByteArray) = ofBytes [2] := rfl
  have h3 : (⟨#[3]⟩ : ByteArray) = ofBytes [3] := rfl
  have h4 : (⟨#[4]⟩ : ByteArray) = ofBytes [4] := rfl
  simp only [spec_RecText, E_spec_RecText, p_spec_l01In, p_spec_ThingText, Option.bind_some, isZ_e, h1, h2, h3, h4]
  simp only [isE_e, recText]
  cases r.fKind == 1
  · simp only [cond_false]
    cases r.fKind == 2
    · simp only [cond_false]
      cases r.fKind == 3
      · simp only [cond_false]
        cases r.fKind == 4
        · rfl
        · cases isE r.fText <;> cases isZ r.fThing <;> (try rfl)
          cases h : inR r.fNum 1 1000
          · rfl
          · have h' := h
            rw [inR_iff] at h'
            simp only [cond_true, p_spec_l01Var (n := r.fNum) (by omega), Option.bind_some, Bool.and_self, decide_eq_true (rec_var (by omega) h 4)]
      · cases h : (thingText r.fThing).2
        · rfl
        · cases isE r.fText <;> cases r.fNum == 0 <;> (try rfl)
          simp only [cond_true, Bool.and_self, decide_eq_true (rec_thing h 3)]
    · cases isE r.fText <;> cases isZ r.fThing <;> (try rfl)
      cases h : inR r.fNum 0 3
      · rfl
      · have h' := h
        rw [inR_iff] at h'
        simp only [cond_true, p_spec_l01Var (n := r.fNum) (by omega), Option.bind_some, Bool.and_self, decide_eq_true (rec_var (by omega) h 2)]
  · cases h : (r.fText.size : Int) == 32 <;> cases r.fNum == 0 <;> cases isZ r.fThing <;> (try rfl)
    have h' : r.fText.size = 32 := by have := beq_iff_eq.1 h; omega
    have e : (ofBytes [1]).size + r.fText.size ≤ 9223372036854775807 := by rw [ofBytes_size]; simp only [List.length_singleton]; omega
    simp only [cond_true, Bool.and_self, decide_eq_true e]
def zRec : SRec := ⟨(0 : Int), (⟨#[]⟩ : ByteArray), (0 : Int), (⟨(0 : Int), (0 : Int), false, false, false, false, (⟨#[]⟩ : ByteArray), (0 : Int)⟩ : SThing)⟩
def ReadsRec (text : ByteArray) (r : SRec × Bool) : Prop := (r.2 = true ∧ recText r.1 = (text, true)) ∨ r = (zRec, false)
theorem rec_end {text : ByteArray} (x : SRec) (bad : Bool) : ∃ r, (bif bad then some (zRec, false) else bif !(recText x).2 then some (zRec, false) else bif !((ByteArray.toList (recText x).1) == (ByteArray.toList text)) then some (zRec, false) else some (x, true)) = some r ∧ ReadsRec text r := by
  cases bad
  · cases h5 : (recText x).2
    · exact ⟨_, rfl, .inr rfl⟩
    · rw [toList_inj]
      by_cases h6 : (recText x).1 = text
      · rw [decide_eq_true h6]; exact ⟨_, rfl, .inl ⟨rfl, Prod.ext h6 h5⟩⟩
      · rw [decide_eq_false h6]; exact ⟨_, rfl, .inr rfl⟩
  · exact ⟨_, rfl, .inr rfl⟩
theorem p_spec_ReadRec {text : ByteArray} (hs : text.size ≤ 140737488351232) : ∃ r, spec_ReadRec text = some r ∧ ReadsRec text r := by
  obtain ⟨v0, c0, e0, h0, _, _, hz, hn⟩ := p_spec_l19One hs (c := ⟨text, (0 : Int), false⟩) ⟨0, false, rfl, by omega⟩
  obtain ⟨v1, c1, e1, h1, _⟩ := p_spec_l19Take (n := 32) hs h0 (by omega) (by omega)
  obtain ⟨v3, c3, e3, h3, _⟩ := p_spec_l19Var hs h0
  simp only [spec_ReadRec, E_spec_ReadRec, e0, e1, e3, p_spec_RecText, Option.bind_some]
  cases v0 == 1
  · simp only [cond_false]
    cases v0 == 2
    · simp only [cond_false]
      cases v0 == 4
      · simp only [cond_false]
        cases h : v0 == 3
        · exact rec_end _ _
        · have hv : v0 = 3 := beq_iff_eq.1 h
          have hsz : (0 : Int) + 1 ≤ (text.size : Int) := by
            cases hb : c0.fBad
            · exact hn hb
            · have := hz hb; omega
          obtain ⟨r, e5, _⟩ := p_spec_ReadThing (text := text.extract (1 : Int).toNat text.size) (by rw [ByteArray.size_extract]; omega)
          rw [show decide ((1 : Int) ≤ (text.size : Int)) = true from decide_eq_true (by omega), e5]
          exact rec_end _ _
      · exact rec_end _ _
    · exact rec_end _ _
  · exact rec_end _ _
/-- A right record's kind, and its text. -/
theorem rec_parts {text : ByteArray} {x : SRec} (h : recText x = (text, true)) :
    (∃ s : ByteArray, x = ⟨1, s, 0, zRec.fThing⟩ ∧ s.size = 32 ∧ text = ofBytes [1] ++ s) ∨ (∃ n : Int, x = ⟨2, zRec.fText, n, zRec.fThing⟩ ∧ 0 ≤ n ∧ n ≤ 3 ∧ text = ofBytes [2] ++ ofBytes (varL n)) ∨
    (∃ t : SThing, ∃ s : ByteArray, x = ⟨3, zRec.fText, 0, t⟩ ∧ thingText t = (s, true) ∧ text = ofBytes [3] ++ s) ∨ (∃ n : Int, x = ⟨4, zRec.fText, n, zRec.fThing⟩ ∧ 1 ≤ n ∧ n ≤ 1000 ∧ text = ofBytes [4] ++ ofBytes (varL n)) := by
  have hE : ∀ s : ByteArray, isE s = true → s = ⟨#[]⟩ := fun s h => by unfold isE at h; rw [toList_inj] at h; exact of_decide_eq_true h
  have hZ : ∀ t : SThing, isZ t = true → t = zRec.fThing := fun t h => by
    unfold isZ at h
    simp only [isE_e] at h
    obtain ⟨t1, t2, t3, t4, t5, t6, t7, t8⟩ := t
    simp only [Bool.and_eq_true, beq_iff_eq] at h
    obtain ⟨rfl, rfl, rfl, rfl, rfl, rfl, h7, rfl, _⟩ := h
    rw [hE _ h7]; rfl
  obtain ⟨k, s, n, t⟩ := x
  unfold recText at h
  simp only at h
  cases k1 : k == 1 <;> rw [k1] at h
  · cases k2 : k == 2 <;> rw [k2] at h
    · cases k3 : k == 3 <;> rw [k3] at h
      · cases k4 : k == 4 <;> rw [k4] at h
        · exact Bool.noConfusion (congrArg Prod.snd h)
        · simp only [cond_false, cond_true] at h
          cases hc : isE s && isZ t && inR n 1 1000 <;> rw [hc] at h
          · exact Bool.noConfusion (congrArg Prod.snd h)
          · simp only [Bool.and_eq_true, inR_iff] at hc
            refine .inr (.inr (.inr ⟨n, ?_, hc.2.1, hc.2.2, (congrArg Prod.fst h).symm⟩))
            rw [beq_iff_eq.1 k4, hE _ hc.1.1, hZ _ hc.1.2]; rfl
      · simp only [cond_false, cond_true] at h
        cases hc : (thingText t).2 && isE s && n == 0 <;> rw [hc] at h
        · exact Bool.noConfusion (congrArg Prod.snd h)
        · simp only [Bool.and_eq_true, beq_iff_eq] at hc
          refine .inr (.inr (.inl ⟨t, (thingText t).1, ?_, Prod.ext rfl hc.1.1, (congrArg Prod.fst h).symm⟩))
          rw [beq_iff_eq.1 k3, hE _ hc.1.2, hc.2]; rfl
    · simp only [cond_false, cond_true] at h
      cases hc : isE s && isZ t && inR n 0 3 <;> rw [hc] at h
      · exact Bool.noConfusion (congrArg Prod.snd h)
      · simp only [Bool.and_eq_true, inR_iff] at hc
        refine .inr (.inl ⟨n, ?_, hc.2.1, hc.2.2, (congrArg Prod.fst h).symm⟩)
        rw [beq_iff_eq.1 k2, hE _ hc.1.1, hZ _ hc.1.2]; rfl
  · simp only [cond_false, cond_true] at h
    cases hc : (s.size : Int) == 32 && n == 0 && isZ t <;> rw [hc] at h
    · exact Bool.noConfusion (congrArg Prod.snd h)
    · simp only [Bool.and_eq_true, beq_iff_eq] at hc
      refine .inl ⟨s, ?_, by omega, (congrArg Prod.fst h).symm⟩
      rw [beq_iff_eq.1 k1, hZ _ hc.2, hc.1.2]
theorem rec_at {k : Int} {s : ByteArray} (h0 : 0 ≤ k) (h1 : k ≤ 255) : At (ofBytes [k] ++ s) 0 ([k] ++ bs s) := ⟨[], by rw [List.drop_zero, bs_append, bs_ofBytes (by simp; omega), List.append_nil]⟩
theorem rec_tail {k : Int} {s : ByteArray} : (ofBytes [k] ++ s).extract (1 : Int).toNat (ofBytes [k] ++ s).size = s := by
  apply bs_inj
  rw [bs_extract, ← bs_len, List.take_length, bs_append]
  rfl
theorem p_spec_ReadRec_is {text : ByteArray} {x : SRec} (hs : text.size ≤ 140737488351232) (h : recText x = (text, true)) : spec_ReadRec text = some (x, true) := by
  rcases rec_parts h with ⟨s, rfl, hz, rfl⟩ | ⟨n, rfl, h0, h1, rfl⟩ | ⟨t, s, rfl, ht, rfl⟩ | ⟨n, rfl, h0, h1, rfl⟩
  · have hA := rec_at (k := 1) (s := s) (by omega) (by omega)
    have e0 := p_spec_l19One_is hs hA.left
    have e1 := p_spec_l19Take_is hs hA.right (by rw [ba_append_size, ofBytes_size]; simp)
    simp only [List.length_singleton, Nat.zero_add, hz] at e0 e1
    simp only [spec_ReadRec, E_spec_ReadRec]
    rw [show spec_l19One ⟨ofBytes [1] ++ s, (0 : Int), false⟩ = _ from e0]
    simp only [Option.bind_some]
    rw [show spec_l19Take ⟨ofBytes [1] ++ s, ((1 : Nat) : Int), false⟩ 32 = _ from e1]
    have h' : recText ⟨1, s, 0, ⟨(0 : Int), (0 : Int), false, false, false, false, (⟨#[]⟩ : ByteArray), (0 : Int)⟩⟩ = _ := h
    simp only [Option.bind_some, p_spec_RecText, h', toList_self]
    rfl
  · have hA := rec_at (k := 2) (s := ofBytes (varL n)) (by omega) (by omega)
    rw [bs_ofBytes (varL_byte n h0)] at hA
    have e0 := p_spec_l19One_is hs hA.left
    have e1 := p_spec_l19Var_is hs (by omega) (by omega) hA.right
    simp only [List.length_singleton, Nat.zero_add] at e0 e1
    simp only [spec_ReadRec, E_spec_ReadRec]
    rw [show spec_l19One ⟨ofBytes [2] ++ ofBytes (varL n), (0 : Int), false⟩ = _ from e0]
    have h' : recText ⟨2, ⟨#[]⟩, n, ⟨(0 : Int), (0 : Int), false, false, false, false, (⟨#[]⟩ : ByteArray), (0 : Int)⟩⟩ = _ := h
    simp only [Option.bind_some, e1, p_spec_RecText, h', toList_self]
    rfl
  · have hA := rec_at (k := 3) (s := s) (by omega) (by omega)
    have e0 := p_spec_l19One_is hs hA.left
    have hsz : s.size ≤ 140737488351232 := by rw [ba_append_size] at hs; omega
    have e1 := p_spec_ReadThing_is hsz ht
    simp only [List.length_singleton, Nat.zero_add] at e0
    simp only [spec_ReadRec, E_spec_ReadRec]
    rw [show spec_l19One ⟨ofBytes [3] ++ s, (0 : Int), false⟩ = _ from e0]
    have h' : recText ⟨3, ⟨#[]⟩, 0, t⟩ = _ := h
    have hd : decide ((1 : Int) ≤ ((ofBytes [3] ++ s).size : Int)) = true := decide_eq_true (by rw [ba_append_size, ofBytes_size]; simp only [List.length_singleton]; omega)
    simp only [Option.bind_some, rec_tail, e1, p_spec_RecText, h', toList_self, hd]
    rfl
  · have hA := rec_at (k := 4) (s := ofBytes (varL n)) (by omega) (by omega)
    rw [bs_ofBytes (varL_byte n (by omega))] at hA
    have e0 := p_spec_l19One_is hs hA.left
    have e1 := p_spec_l19Var_is hs (by omega) (by omega) hA.right
    simp only [List.length_singleton, Nat.zero_add] at e0 e1
    simp only [spec_ReadRec, E_spec_ReadRec]
    rw [show spec_l19One ⟨ofBytes [4] ++ ofBytes (varL n), (0 : Int), false⟩ = _ from e0]
    have h' : recText ⟨4, ⟨#[]⟩, n, ⟨(0 : Int), (0 : Int), false, false, false, false, (⟨#[]⟩ : ByteArray), (0 : Int)⟩⟩ = _ := h
    simp only [Option.bind_some, e1, p_spec_RecText, h', toList_self]
    rfl
theorem p_impl_in (x a b : Int) : impl_in x a b = some (inR x a b) := by
  show (bif decide (a ≤ x) then some (decide (x ≤ b)) else some false) = some (inR x a b)
  unfold inR; cases decide (a ≤ x) <;> rfl
theorem pow7 {k : Nat} (h : k < 5) : (2 : Int) ^ (Min.min (w64 (7 * (k : Int))).toNat (IntKind.bits IntKind.i64)) = pw k ∧ w64 (7 * (k : Int)) = 7 * (k : Int) := by
  refine ⟨?_, w64_id (by omega) (by omega)⟩
  rcases (by omega : k = 0 ∨ k = 1 ∨ k = 2 ∨ k = 3 ∨ k = 4) with rfl | rfl | rfl | rfl | rfl <;> kernel_rfl
theorem rvI_stop {text : ByteArray} {a k m : Nat} {n : Int} (hs : text.size ≤ 140737488351232) (ha : a ≤ text.size) (hk : k ≤ 5) (hi : text.size ≤ a + k ∨ 5 ≤ k) : L_impl_ReadVar (m + 1) (.c0 text a n k) = some no3 := by
  simp only [L_impl_ReadVar, B_impl_ReadVar]
  by_cases h : k < 5
  · rw [show decide ((k : Int) < 5) = true from decide_eq_true (by omega), w64_id (n := (a : Int) + k) (by omega) (by omega), show decide ((a : Int) + k < (text.size : Int)) = false from decide_eq_false (by omega)]
    rfl
  · rw [show decide ((k : Int) < 5) = false from decide_eq_false (by omega)]
    rfl
theorem rvI_step {text : ByteArray} {a k m : Nat} {n b : Int} (hs : text.size ≤ 140737488351232) (hk : k < 5) (hi : a + k < text.size) (h0 : 0 ≤ n) (h1 : n < pw k) (hb : bt text ((a + k : Nat) : Int) = b) :
    L_impl_ReadVar (m + 1) (.c0 text a n k) = if b < 128 then (if b = 0 ∧ 0 < k ∨ n + b * pw k > 1000000000 then some no3 else some (n + b * pw k, ((a + k + 1 : Nat) : Int), true)) else L_impl_ReadVar m (.c0 text a (n + (b - 128) * pw k) ((k + 1 : Nat) : Int)) := by
  have hb' := bt_byte text ((a + k : Nat) : Int)
  rw [hb] at hb'
  obtain ⟨n1, n2, n3⟩ := rv_nums hk h0 h1 hb'
  obtain ⟨p1, p2⟩ := pow7 hk
  rw [p2] at p1
  have ha : w64 ((a : Int) + (k : Int)) = ((a + k : Nat) : Int) := by rw [w64_id (by omega) (by omega)]; omega
  have hw : w64 (((a + k : Nat) : Int) + 1) = ((a + k + 1 : Nat) : Int) := by rw [w64_id (by omega) (by omega)]; omega
  have hw2 : w64 ((k : Int) + 1) = ((k + 1 : Nat) : Int) := by rw [w64_id (by omega) (by omega)]; omega
  simp only [L_impl_ReadVar, B_impl_ReadVar, ha, hb, w64_id (n := b) (by omega) (by omega), p2, p1, hw, hw2]
  rw [show decide (((a + k : Nat) : Int) < (text.size : Int)) = true from decide_eq_true (by omega), show decide ((k : Int) < 5) = true from decide_eq_true (by omega), show decide ((0 : Int) ≤ 7 * (k : Int)) = true from decide_eq_true (by omega),
    show decide ((0 : Int) ≤ ((a + k : Nat) : Int)) = true from decide_eq_true (by omega)]
  simp only [Bool.and_self, cond_true]
  by_cases h : b < 128
  · obtain ⟨e1, e2, e3, e4, _⟩ := n1 h
    rw [if_pos h, e1, e2, e3, show decide (b < 128) = true from decide_eq_true h]
    simp only [cond_true]
    by_cases hz : b = 0
    · rw [show (b == 0) = true from beq_iff_eq.2 hz]
      by_cases hk0 : 0 < k
      · rw [if_pos (.inl ⟨hz, hk0⟩), show decide ((k : Int) > 0) = true from decide_eq_true (by omega)]; rfl
      · rw [show decide ((k : Int) > 0) = false from decide_eq_false (by omega)]
        by_cases h2 : n + b * pw k > 1000000000
        · rw [if_pos (.inr h2), show decide (n + b * pw k > 1000000000) = true from decide_eq_true h2]; rfl
        · rw [if_neg (by omega), show decide (n + b * pw k > 1000000000) = false from decide_eq_false h2]; rfl
    · rw [show (b == 0) = false from beq_eq_false_iff_ne.2 hz]
      by_cases h2 : n + b * pw k > 1000000000
      · rw [if_pos (.inr h2), show decide (n + b * pw k > 1000000000) = true from decide_eq_true h2]; rfl
      · rw [if_neg (by omega), show decide (n + b * pw k > 1000000000) = false from decide_eq_false h2]; rfl
  · obtain ⟨e1, e2, e3, _, _⟩ := n2 h
    rw [if_neg h, e1, e2, e3, show decide (b < 128) = false from decide_eq_false h]
    rfl
theorem rvI_any {text : ByteArray} {a : Nat} (hs : text.size ≤ 140737488351232) (ha : a ≤ text.size) : ∀ j k m n, k + j = 5 → j < m → 0 ≤ n → n < pw k → ∃ r, L_impl_ReadVar m (.c0 text a n k) = some r ∧ RV text a r := by
  intro j
  induction j with
  | zero =>
    intro k m n hk hm _ _
    obtain ⟨m, rfl⟩ : ∃ q, m = q + 1 := ⟨m - 1, by omega⟩
    exact ⟨_, rvI_stop hs ha (by omega) (.inr (by omega)), .inl rfl⟩
  | succ j ih =>
    intro k m n hk hm h0 h1
    obtain ⟨m, rfl⟩ : ∃ q, m = q + 1 := ⟨m - 1, by omega⟩
    by_cases hi : a + k < text.size
    · have hb := bt_byte text ((a + k : Nat) : Int)
      generalize hbe : bt text ((a + k : Nat) : Int) = b at hb
      obtain ⟨n1, n2, _⟩ := rv_nums (b := b) (by omega : k < 5) h0 h1 hb
      rw [rvI_step hs (by omega) hi h0 h1 hbe]
      split
      · rename_i h
        split
        · exact ⟨_, rfl, .inl rfl⟩
        · exact ⟨_, rfl, .inr ⟨_, _, rfl, (n1 h).2.2.2.1, by omega, by omega, by omega⟩⟩
      · rename_i h
        obtain ⟨_, _, _, e4, e5⟩ := n2 h
        exact ih (k + 1) m _ (by omega) (by omega) e4 e5
    · exact ⟨_, rvI_stop hs ha (by omega) (.inl (by omega)), .inl rfl⟩
theorem rvI_is {text : ByteArray} {a : Nat} {V : Int} (hs : text.size ≤ 140737488351232) (hV : V ≤ 1000000000) (hA : At text a (varL V)) : ∀ U k m n, varL U = (varL V).drop k → 0 ≤ U → (0 < k → 0 < U) → n + pw k * U = V → 0 ≤ n → n < pw k → 5 < m + k → L_impl_ReadVar m (.c0 text a n k) = some (V, ((a + (varL V).length : Nat) : Int), true) := by
  have h5 := varL_len5 hV
  intro U
  induction U using varL.induct with
  | case1 U hU ih =>
    intro k m n e1 u0 uz e2 h0 h1 hm
    have hl := congrArg List.length e1
    rw [List.length_drop] at hl
    have hp := varL_pos U
    have hk : k < 5 := by omega
    obtain ⟨m, rfl⟩ : ∃ q, m = q + 1 := ⟨m - 1, by omega⟩
    have hA' : At text (a + k) (varL U) := by
      have : At text a ((varL V).take k ++ (varL V).drop k) := by rw [List.take_append_drop]; exact hA
      have := this.right
      rw [List.length_take, Nat.min_eq_left (by omega), ← e1] at this
      exact this
    have e3 := e1
    rw [varL, if_pos hU] at hA' e3
    obtain ⟨hi, hb⟩ := hA'.head
    obtain ⟨n1, n2, _⟩ := rv_nums (b := 128 + U % 128) hk h0 h1 (by omega)
    obtain ⟨_, _, _, e4, e5⟩ := n2 (by omega)
    rw [rvI_step hs hk hi h0 h1 hb, if_neg (by omega)]
    refine ih (k + 1) m _ ?_ (by omega) (fun _ => by omega) ?_ e4 e5 (by omega)
    · rw [← List.drop_drop, ← e3]; rfl
    · rw [pw_succ]
      rcases pw_cases hk with e | e | e | e | e <;> rw [e] at e2 ⊢ <;> omega
  | case2 U hU =>
    intro k m n e1 u0 uz e2 h0 h1 hm
    have hl := congrArg List.length e1
    rw [List.length_drop] at hl
    have hp := varL_pos U
    have hk : k < 5 := by omega
    obtain ⟨m, rfl⟩ : ∃ q, m = q + 1 := ⟨m - 1, by omega⟩
    have hA' : At text (a + k) (varL U) := by
      have : At text a ((varL V).take k ++ (varL V).drop k) := by rw [List.take_append_drop]; exact hA
      have := this.right
      rw [List.length_take, Nat.min_eq_left (by omega), ← e1] at this
      exact this
    rw [varL_one u0 (by omega)] at hA' hl
    simp only [List.length_singleton] at hl
    obtain ⟨hi, hb⟩ := hA'.head
    have e3 : n + U * pw k = V := by rw [Int.mul_comm]; exact e2
    have e4 : a + k + 1 = a + (varL V).length := by omega
    rw [rvI_step hs hk hi h0 h1 hb, if_pos (by omega), e3, if_neg (by omega), e4]
theorem p_impl_ReadVar {text : ByteArray} {a : Nat} (hs : text.size ≤ 140737488351232) (ha : a ≤ text.size) : ∃ r, impl_ReadVar text a = some r ∧ RV text a r := by
  simp only [impl_ReadVar, E_impl_ReadVar, p_impl_in, Option.bind_some]
  rw [show inR (a : Int) 0 (text.size : Int) = true from inR_iff.2 ⟨by omega, by omega⟩]
  exact rvI_any hs ha 5 0 gas 0 rfl (gas_lt (by omega)) (by omega) (by rw [pw_zero]; omega)
theorem p_impl_ReadVar_is {text : ByteArray} {a : Nat} {V : Int} (hs : text.size ≤ 140737488351232) (hV0 : 0 ≤ V) (hV : V ≤ 1000000000) (hA : At text a (varL V)) : impl_ReadVar text a = some (V, ((a + (varL V).length : Nat) : Int), true) := by
  have ha : a + (varL V).length ≤ text.size := by
    rcases hA.size with h | h
    · have := varL_pos V; rw [h] at this; simp at this
    · exact h
  simp only [impl_ReadVar, E_impl_ReadVar, p_impl_in, Option.bind_some]
  rw [show inR (a : Int) 0 (text.size : Int) = true from inR_iff.2 ⟨by omega, by omega⟩]
  exact rvI_is hs hV hA V 0 gas 0 (by simp) hV0 (fun h => absurd h (Nat.lt_irrefl 0)) (by rw [pw_zero]; omega) (by omega) (by rw [pw_zero]; omega) (by have := gas_lt (n := 5) (by omega); omega)
def FldOk (text : ByteArray) (c : SFields) : Prop := ∃ p : Nat, ∃ b : Bool, c = ⟨text, (p : Int), b⟩ ∧ p ≤ text.size
theorem p_impl_fields_num {text : ByteArray} {c : SFields} (hs : text.size ≤ 140737488351232) (h : FldOk text c) : ∃ v c', impl_fields_num c = some (v, c') ∧ FldOk text c' := by
  obtain ⟨p, b, rfl, hp⟩ := h
  obtain ⟨r, hr, hR⟩ := p_impl_ReadVar hs hp
  simp only [impl_fields_num, E_impl_fields_num, hr, Option.bind_some]
  rcases hR with rfl | ⟨v, q, rfl, h0, h1, _, h3⟩
  · exact ⟨_, _, rfl, ⟨p, true, rfl, hp⟩⟩
  · exact ⟨_, _, rfl, ⟨q, b, rfl, h3⟩⟩
theorem p_impl_fields_num_is {text : ByteArray} {a : Nat} {V : Int} (hs : text.size ≤ 140737488351232) (hV0 : 0 ≤ V) (hV : V ≤ 1000000000) (hA : At text a (varL V)) : impl_fields_num ⟨text, (a : Int), false⟩ = some (V, ⟨text, ((a + (varL V).length : Nat) : Int), false⟩) := by
  simp only [impl_fields_num, E_impl_fields_num, p_impl_ReadVar_is hs hV0 hV hA, Option.bind_some]
  rfl
theorem p_impl_ReadShort {text : ByteArray} {a : Nat} (hs : text.size ≤ 140737488351232) (ha : a ≤ text.size) : ∃ s q ok, impl_ReadShort text a = some (s, q, ok) ∧ (ok = true → ∃ p : Nat, q = (p : Int) ∧ p ≤ text.size) := by
  obtain ⟨r, hr, hR⟩ := p_impl_ReadVar hs ha
  simp only [impl_ReadShort, E_impl_ReadShort, hr, Option.bind_some]
  rcases hR with rfl | ⟨v, q, rfl, h0, h1, h2, h3⟩
  · exact ⟨_, _, _, rfl, fun h => by cases h⟩
  · rw [w64_id (n := (text.size : Int) - (q : Int)) (by omega) (by omega), w64_id (n := (q : Int) + v) (by omega) (by omega)]
    simp only [Bool.not_true, cond_false]
    cases decide (v > 20000)
    · by_cases hv : v > (text.size : Int) - (q : Int)
      · rw [decide_eq_true hv]; exact ⟨_, _, _, rfl, fun h => by cases h⟩
      · rw [decide_eq_false hv, show decide ((0 : Int) ≤ (q : Int)) = true from decide_eq_true (by omega), show decide ((q : Int) ≤ q + v) = true from decide_eq_true (by omega), show decide ((q : Int) + v ≤ (text.size : Int)) = true from decide_eq_true (by omega)]
        exact ⟨_, _, _, rfl, fun _ => ⟨((q : Int) + v).toNat, by omega, by omega⟩⟩
    · exact ⟨_, _, _, rfl, fun h => by cases h⟩
theorem p_impl_ReadShort_is {text : ByteArray} {p : Nat} {s : ByteArray} (hs : text.size ≤ 140737488351232) (hz : s.size ≤ 20000) (hA : At text p (varL (s.size : Int) ++ bs s)) : impl_ReadShort text p = some (s, ((p + (varL (s.size : Int)).length + s.size : Nat) : Int), true) := by
  have hp : p + (varL (s.size : Int)).length ≤ text.size := by
    rcases hA.left.size with h | h
    · have := varL_pos (s.size : Int); rw [h] at this; simp at this
    · exact h
  have hA2 := hA.right
  have hx := hA2.extract (fun n hn => bs_byte hn)
  rw [bs_len, ofBytes_bs] at hx
  simp only [impl_ReadShort, E_impl_ReadShort, p_impl_ReadVar_is hs (by omega) (by omega) hA.left, Option.bind_some]
  generalize p + (varL (s.size : Int)).length = q at *
  have hz : q + s.size ≤ text.size := by
    rcases hA2.size with h | h
    · have := congrArg List.length h; rw [bs_len, List.length_nil] at this; omega
    · rw [bs_len] at h; exact h
  have e2 : w64 ((q : Int) + (s.size : Int)) = ((q + s.size : Nat) : Int) := by rw [w64_id (by omega) (by omega)]; omega
  rw [w64_id (n := (text.size : Int) - (q : Int)) (by omega) (by omega), e2, Int.toNat_natCast, Int.toNat_natCast, hx,
    show decide ((s.size : Int) > 20000) = false from decide_eq_false (by omega), show decide ((s.size : Int) > (text.size : Int) - (q : Int)) = false from decide_eq_false (by omega), show decide ((0 : Int) ≤ (q : Int)) = true from decide_eq_true (by omega), show decide ((q : Int) ≤ ((q + s.size : Nat) : Int)) = true from decide_eq_true (by omega), show decide (((q + s.size : Nat) : Int) ≤ (text.size : Int)) = true from decide_eq_true (by omega)]
  rfl
theorem p_impl_fields_short {text : ByteArray} {c : SFields} (hs : text.size ≤ 140737488351232) (h : FldOk text c) : ∃ v c', impl_fields_short c = some (v, c') ∧ FldOk text c' := by
  obtain ⟨p, b, rfl, hp⟩ := h
  obtain ⟨s, q, ok, hr, hR⟩ := p_impl_ReadShort hs hp
  simp only [impl_fields_short, E_impl_fields_short, hr, Option.bind_some]
  cases ok
  · exact ⟨_, _, rfl, ⟨p, true, rfl, hp⟩⟩
  · obtain ⟨q, rfl, h3⟩ := hR rfl
    exact ⟨_, _, rfl, ⟨q, b, rfl, h3⟩⟩
theorem p_impl_fields_short_is {text : ByteArray} {p : Nat} {s : ByteArray} (hs : text.size ≤ 140737488351232) (hz : s.size ≤ 20000) (hA : At text p (varL (s.size : Int) ++ bs s)) : impl_fields_short ⟨text, (p : Int), false⟩ = some (s, ⟨text, ((p + (varL (s.size : Int)).length + s.size : Nat) : Int), false⟩) := by
  simp only [impl_fields_short, E_impl_fields_short, p_impl_ReadShort_is hs hz hA, Option.bind_some]
  rfl
theorem p_impl_ThingOk (x : SThing) : impl_ThingOk x = some (thingOk x) := by
  simp only [impl_ThingOk, E_impl_ThingOk, p_impl_in, Option.bind_some, thingOk, bne]
  by_cases k1 : x.fKind = 1
  · rw [k1]
    cases inR x.fId 1 1000 <;> cases inR x.fNext 0 16 <;> cases (x.fNext == 0) <;> cases x.fSigns <;> cases x.fWraps <;> simp [inR]
  · by_cases k2 : x.fKind = 2
    · rw [k2]
      cases inR x.fId 1 1000 <;> cases inR x.fNext 0 16 <;> cases (x.fNext == 0) <;> cases x.fSigns <;> cases x.fWraps <;> simp [inR]
    · by_cases k3 : x.fKind = 3
      · rw [k3]
        cases inR x.fId 1 1000 <;> cases inR x.fNext 0 16 <;> cases (x.fNext == 0) <;> cases x.fSigns <;> cases x.fWraps <;> simp [inR]
      · have hr : inR x.fKind 1 3 = false := by
          cases h : inR x.fKind 1 3
          · rfl
          · rw [inR_iff] at h; omega
        have e1 : (x.fKind == 1) = false := by simpa using k1
        have e2 : (x.fKind == 2) = false := by simpa using k2
        have e3 : (x.fKind == 3) = false := by simpa using k3
        rw [hr, e1, e2, e3]
        cases inR x.fId 1 1000 <;> cases inR x.fNext 0 16 <;> cases (x.fNext == 0) <;> cases x.fSigns <;> cases x.fWraps <;> rfl
theorem p_impl_varText {n : Int} (h : n ≤ 9223372036854775807) : impl_varText n = some (ofBytes (varL n)) := by
  have key : ∀ (n : Int) (m : Nat) (out : List Int), n ≤ 9223372036854775807 → (varL n).length ≤ m → out.length + (varL n).length ≤ 1000 → L_impl_varText m (.c0 n out) = some (ofBytes (out ++ varL n)) := by
    intro n
    induction n using varL.induct with
    | case1 n hn ih =>
      intro m out h1 h2 h3
      rw [varL, if_pos hn] at h2 h3 ⊢
      simp only [List.length_cons] at h2 h3
      obtain ⟨m, rfl⟩ : ∃ k, m = k + 1 := ⟨m - 1, by omega⟩
      obtain ⟨e1, _, e2⟩ := varL_step hn h1
      simp only [L_impl_varText, B_impl_varText, e1, e2]
      rw [show decide (n > 127) = true from decide_eq_true hn, show decide ((out.length + 1) * 1 ≤ 140737488355328) = true from decide_eq_true (by omega)]
      simp only [cond_true]
      rw [ih m _ (by omega) (by omega) (by simp; omega)]
      simp
    | case2 n hn =>
      intro m out h1 h2 h3
      rw [varL, if_neg hn] at h2 h3 ⊢
      simp at h2 h3
      obtain ⟨m, rfl⟩ : ∃ k, m = k + 1 := ⟨m - 1, by omega⟩
      simp only [L_impl_varText, B_impl_varText]
      rw [show decide (n > 127) = false from decide_eq_false hn, show decide ((out.length + 1) * 1 ≤ 140737488355328) = true from decide_eq_true (by omega)]
      rfl
  have hl := varL_len10 h
  exact key n gas [] h (Nat.le_of_lt (gas_lt (by omega))) (by simp; omega)
theorem p_impl_oneByte {n : Int} (h : 0 ≤ n) (h2 : n ≤ 255) : impl_oneByte n = some (ofBytes [n]) := by
  simp only [impl_oneByte, E_impl_oneByte, w8_id h h2]
theorem p_impl_shortText {s : ByteArray} (h : s.size ≤ 140737488351232) : impl_shortText s = some (shortT s) := by
  simp only [impl_shortText, E_impl_shortText, p_impl_varText (n := (s.size : Int)) (by omega), Option.bind_some]
  have := varL_len10 (n := (s.size : Int)) (by omega)
  rw [show decide ((ofBytes (varL (s.size : Int))).size + s.size ≤ 9223372036854775807) = true from decide_eq_true (by rw [ofBytes_size]; omega)]
  rfl
theorem p_impl_ThingText (x : SThing) : impl_ThingText x = some (thingText x) := by
  simp only [impl_ThingText, E_impl_ThingText, p_impl_ThingOk, Option.bind_some, thingText]
  cases h : thingOk x
  · rfl
  · obtain ⟨k1, k2, k3, k4, k5, k6, k7⟩ := thingOk_kind h
    obtain ⟨z1, z2, z3⟩ := thing_sizes h
    have hf := flagN_lt x
    have e1 : ∀ n : Int, (ofBytes [n]).size = 1 := fun n => ofBytes_size _
    simp only [p_impl_flags, Option.bind_some, p_impl_varText (n := x.fId) (by omega), p_impl_oneByte (n := x.fKind) (by omega) (by omega), p_impl_oneByte hf.1 (by omega), p_impl_shortText (s := x.fValue) (by omega), p_impl_varText (n := x.fNext) (by omega), ba_append_size, e1]
    simp only [Bool.not_true, cond_false, cond_true]
    rw [show decide ((ofBytes (varL x.fId)).size + 1 ≤ 9223372036854775807) = true from decide_eq_true (by omega), show decide ((ofBytes (varL x.fId)).size + 1 + 1 ≤ 9223372036854775807) = true from decide_eq_true (by omega),
      show decide ((ofBytes (varL x.fId)).size + 1 + 1 + (shortT x.fValue).size ≤ 9223372036854775807) = true from decide_eq_true (by omega), show decide ((ofBytes (varL x.fId)).size + 1 + 1 + (shortT x.fValue).size + (ofBytes (varL x.fNext)).size ≤ 9223372036854775807) = true from decide_eq_true (by omega)]
    rfl
theorem flag_bits2 (x : SThing) : ((w64 (((BitVec.toNat ((BitVec.ofInt (IntKind.bits IntKind.i64) (flagN x)) &&& (BitVec.ofInt (IntKind.bits IntKind.i64) (1 : Int)))) : Nat) : Int) != 0) = x.fHidden) ∧ ((w64 (((BitVec.toNat ((BitVec.ofInt (IntKind.bits IntKind.i64) (flagN x)) &&& (BitVec.ofInt (IntKind.bits IntKind.i64) (2 : Int)))) : Nat) : Int) != 0) = x.fFixed) ∧ ((w64 (((BitVec.toNat ((BitVec.ofInt (IntKind.bits IntKind.i64) (flagN x)) &&& (BitVec.ofInt (IntKind.bits IntKind.i64) (4 : Int)))) : Nat) : Int) != 0) = x.fSigns) ∧ ((w64 (((BitVec.toNat ((BitVec.ofInt (IntKind.bits IntKind.i64) (flagN x)) &&& (BitVec.ofInt (IntKind.bits IntKind.i64) (8 : Int)))) : Nat) : Int) != 0) = x.fWraps) := by
  unfold flagN
  cases x.fHidden <;> cases x.fFixed <;> cases x.fSigns <;> cases x.fWraps <;> refine ⟨?_, ?_, ?_, ?_⟩ <;> kernel_rfl
theorem p_impl_ReadThing {text : ByteArray} (hs : text.size ≤ 140737488351232) : ∃ r, impl_ReadThing text = some r ∧ ReadsThing text r := by
  obtain ⟨v0, c0, e0, h0⟩ := p_impl_fields_num hs (c := ⟨text, (0 : Int), false⟩) ⟨0, false, rfl, by omega⟩
  obtain ⟨v1, c1, e1, h1⟩ := p_impl_fields_num hs h0
  obtain ⟨v2, c2, e2, h2⟩ := p_impl_fields_num hs h1
  obtain ⟨v3, c3, e3, h3⟩ := p_impl_fields_short hs h2
  obtain ⟨v4, c4, e4, h4⟩ := p_impl_fields_num hs h3
  simp only [impl_ReadThing, E_impl_ReadThing, e0, e1, e2, e3, e4, p_impl_ThingText, Option.bind_some]
  generalize (w64 (((BitVec.toNat ((BitVec.ofInt (IntKind.bits IntKind.i64) v2) &&& (BitVec.ofInt (IntKind.bits IntKind.i64) (1 : Int)))) : Nat) : Int) != 0) = b1
  generalize (w64 (((BitVec.toNat ((BitVec.ofInt (IntKind.bits IntKind.i64) v2) &&& (BitVec.ofInt (IntKind.bits IntKind.i64) (2 : Int)))) : Nat) : Int) != 0) = b2
  generalize (w64 (((BitVec.toNat ((BitVec.ofInt (IntKind.bits IntKind.i64) v2) &&& (BitVec.ofInt (IntKind.bits IntKind.i64) (4 : Int)))) : Nat) : Int) != 0) = b3
  generalize (w64 (((BitVec.toNat ((BitVec.ofInt (IntKind.bits IntKind.i64) v2) &&& (BitVec.ofInt (IntKind.bits IntKind.i64) (8 : Int)))) : Nat) : Int) != 0) = b4
  cases c4.fBad
  · cases h5 : (thingText (⟨v0, v1, b1, b2, b3, b4, v3, v4⟩ : SThing)).2
    · exact ⟨_, rfl, .inr rfl⟩
    · rw [toList_inj]
      by_cases h6 : (thingText (⟨v0, v1, b1, b2, b3, b4, v3, v4⟩ : SThing)).1 = text
      · rw [decide_eq_true h6]; exact ⟨_, rfl, .inl ⟨rfl, Prod.ext h6 h5⟩⟩
      · rw [decide_eq_false h6]; exact ⟨_, rfl, .inr rfl⟩
  · exact ⟨_, rfl, .inr rfl⟩
theorem p_impl_ReadThing_is {text : ByteArray} {x : SThing} (hs : text.size ≤ 140737488351232) (h : thingText x = (text, true)) : impl_ReadThing text = some (x, true) := by
  obtain ⟨ho, rfl⟩ := thing_parts h
  obtain ⟨k1, k2, k3, k4, k5, k6, k7⟩ := thingOk_kind ho
  have hf := flagN_lt x
  have hA : At (thingT x) 0 _ := ⟨[], by rw [List.drop_zero, bs_thingT ho, List.append_nil]⟩
  rw [← varL_one (n := x.fKind) (by omega) (by omega), ← varL_one (n := flagN x) (by omega) (by omega)] at hA
  have a1 := hA.right
  have a2 := a1.right
  have a3 := a2.right
  have a4 := a3.right
  have e0 := p_impl_fields_num_is hs (by omega) (by omega) hA.left
  have e1 := p_impl_fields_num_is hs (by omega) (by omega) a1.left
  have e2 := p_impl_fields_num_is hs (by omega) (by omega) a2.left
  have e3 := p_impl_fields_short_is hs (by omega) a3.left
  have e4 := p_impl_fields_num_is hs (by omega) (by omega) a4
  simp only [List.length_append, bs_len, Nat.zero_add, ← Nat.add_assoc] at e0 e1 e2 e3 e4
  obtain ⟨b1, b2, b3, b4⟩ := flag_bits2 x
  simp only [impl_ReadThing, E_impl_ReadThing]
  rw [show impl_fields_num ⟨thingT x, (0 : Int), false⟩ = _ from e0]
  simp only [e1, e2, e3, e4, Option.bind_some, b1, b2, b3, b4, p_impl_ThingText, h, toList_self]
  rfl
/-- Two that read things answer alike. -/
theorem reads_same {text : ByteArray} (hs : text.size ≤ 140737488351232) : ∃ r, spec_ReadThing text = some r ∧ impl_ReadThing text = some r ∧ ReadsThing text r := by
  obtain ⟨r, hr, h⟩ := p_spec_ReadThing hs
  obtain ⟨q, hq, h'⟩ := p_impl_ReadThing hs
  rcases h with ⟨h1, h2⟩ | h
  · have := p_impl_ReadThing_is hs h2
    refine ⟨r, hr, ?_, .inl ⟨h1, h2⟩⟩
    rw [this]; congr 1; exact Prod.ext rfl h1.symm
  · rcases h' with ⟨h1, h2⟩ | h'
    · have := p_spec_ReadThing_is hs h2
      rw [hr] at this
      injection this with this
      rw [h] at this
      exact Bool.noConfusion (congrArg Prod.snd this)
    · exact ⟨r, hr, by rw [hq, h', h], .inr h⟩
theorem p_impl_RecText {r : SRec} (g : r.fNum ≤ 9223372036854775807) : impl_RecText r = some (recText r) := by
  simp only [impl_RecText, E_impl_RecText, p_impl_in, p_impl_ThingText, p_impl_varText g, Option.bind_some, isZ_e]
  simp only [isE_e, recText]
  cases k1 : r.fKind == 1
  · simp only [cond_false]
    cases k2 : r.fKind == 2
    · simp only [cond_false]
      cases k3 : r.fKind == 3
      · simp only [cond_false]
        cases k4 : r.fKind == 4
        · rfl
        · have k : r.fKind = 4 := by simpa using k4
          rw [k]
          simp only [beq_self_eq_true, p_impl_oneByte (n := 4) (by omega) (by omega), Option.bind_some, Bool.true_and, cond_true]
          cases h : inR r.fNum 1 1000
          · cases isE r.fText <;> cases isZ r.fThing <;> rfl
          · cases isE r.fText <;> cases isZ r.fThing <;> (try rfl)
            simp only [Bool.not_true, cond_false, cond_true, Bool.and_self, decide_eq_true (rec_var (by omega) h 4)]
      · have k : r.fKind = 3 := by simpa using k3
        rw [k]
        simp only [beq_self_eq_true, p_impl_oneByte (n := 3) (by omega) (by omega), Option.bind_some, Bool.true_and, cond_true, Bool.and_true]
        cases h : (thingText r.fThing).2
        · cases isE r.fText <;> cases r.fNum == 0 <;> rfl
        · cases isE r.fText <;> cases r.fNum == 0 <;> (try rfl)
          simp only [Bool.not_true, cond_false, cond_true, Bool.and_self, decide_eq_true (rec_thing h 3)]
    · have k : r.fKind = 2 := by simpa using k2
      rw [k]
      simp only [beq_self_eq_true, p_impl_oneByte (n := 2) (by omega) (by omega), Option.bind_some, Bool.true_and, cond_true]
      cases h : inR r.fNum 0 3
      · cases isE r.fText <;> cases isZ r.fThing <;> rfl
      · cases isE r.fText <;> cases isZ r.fThing <;> (try rfl)
        simp only [Bool.not_true, cond_false, cond_true, Bool.and_self, decide_eq_true (rec_var (by omega) h 2)]
  · have k : r.fKind = 1 := by simpa using k1
    rw [k]
    simp only [beq_self_eq_true, p_impl_oneByte (n := 1) (by omega) (by omega), Option.bind_some, Bool.true_and, cond_true]
    cases h : (r.fText.size : Int) == 32 <;> cases r.fNum == 0 <;> cases isZ r.fThing <;> (try rfl)
    have h' : r.fText.size = 32 := by have := beq_iff_eq.1 h; omega
    have e : (ofBytes [1]).size + r.fText.size ≤ 9223372036854775807 := by rw [ofBytes_size]; simp only [List.length_singleton]; omega
    simp only [Bool.not_true, cond_false, cond_true, Bool.and_self, decide_eq_true e]
theorem rec_end2 {text : ByteArray} (x : SRec) : ∃ r, (bif !(recText x).2 then some (zRec, false) else bif !((ByteArray.toList (recText x).1) == (ByteArray.toList text)) then some (zRec, false) else some (x, true)) = some r ∧ ReadsRec text r := rec_end x false
theorem p_impl_ReadRec {text : ByteArray} (hs : text.size ≤ 140737488351232) : ∃ r, impl_ReadRec text = some r ∧ ReadsRec text r := by
  simp only [impl_ReadRec, E_impl_ReadRec]
  rw [toList_inj]
  by_cases he : text = ⟨#[]⟩
  · rw [decide_eq_true he]; exact ⟨_, rfl, .inr rfl⟩
  · have hz : 0 < text.size := by
      rcases Nat.eq_zero_or_pos text.size with h | h
      · exact absurd (bs_inj (List.eq_nil_of_length_eq_zero (by rw [bs_len]; exact h)) : text = ⟨#[]⟩) he
      · exact h
    rw [decide_eq_false he, show decide ((0 : Int) < (text.size : Int)) = true from decide_eq_true (by omega), show decide ((1 : Int) ≤ (text.size : Int)) = true from decide_eq_true (by omega)]
    have hb := bt_byte text 0
    rw [w64_id (n := bt text 0) (by omega) (by omega)]
    obtain ⟨⟨t, tb⟩, e1, _⟩ := p_impl_ReadThing (text := text.extract (1 : Int).toNat text.size) (by rw [ByteArray.size_extract]; omega)
    obtain ⟨⟨v, q, ok⟩, e2, hR⟩ := p_impl_ReadVar (a := 1) hs hz
    have hv : v ≤ 1000000000 := by
      rcases hR with h | ⟨v', _, h, _, h1, _⟩
      · have := congrArg Prod.fst h; simp only [no3] at this; omega
      · have := congrArg Prod.fst h; simp only at this; omega
    rw [e1, show impl_ReadVar text (1 : Int) = _ from e2]
    simp only [Option.bind_some, cond_false, cond_true, Bool.and_self]
    cases bt text 0 == 1
    · simp only [cond_false]
      cases bt text 0 == 3
      · simp only [cond_false]
        rw [p_impl_RecText (by simp only; omega)]
        exact rec_end2 _
      · simp only [cond_true]
        rw [p_impl_RecText (by simp only; omega)]
        exact rec_end2 _
    · simp only [cond_true]
      rw [p_impl_RecText (by simp only; omega)]
      exact rec_end2 _
theorem p_impl_ReadRec_is {text : ByteArray} {x : SRec} (hs : text.size ≤ 140737488351232) (h : recText x = (text, true)) : impl_ReadRec text = some (x, true) := by
  have hne : ∀ (k : Int) (s : ByteArray), (decide (ofBytes [k] ++ s = ⟨#[]⟩)) = false := fun k s => decide_eq_false fun h => by
    have := congrArg ByteArray.size h
    rw [ba_append_size, ofBytes_size] at this
    simp only [List.length_singleton] at this
    have h0 : (⟨#[]⟩ : ByteArray).size = 0 := rfl
    omega
  have hd : ∀ (k : Int) (s : ByteArray), decide ((0 : Int) < ((ofBytes [k] ++ s).size : Int)) = true ∧ decide ((1 : Int) ≤ ((ofBytes [k] ++ s).size : Int)) = true := fun k s => by
    rw [ba_append_size, ofBytes_size]; simp only [List.length_singleton]
    exact ⟨decide_eq_true (by omega), decide_eq_true (by omega)⟩
  have hk : ∀ (k : Int) (s : ByteArray), 0 ≤ k → k ≤ 255 → w64 (bt (ofBytes [k] ++ s) 0) = k := fun k s h0 h1 => by
    rw [(rec_at (k := k) (s := s) h0 h1).left.head.2 |> fun e => (show bt (ofBytes [k] ++ s) 0 = k from e), w64_id (by omega) (by omega)]
  rcases rec_parts h with ⟨s, rfl, hz, rfl⟩ | ⟨n, rfl, h0, h1, rfl⟩ | ⟨t, s, rfl, ht, rfl⟩ | ⟨n, rfl, h0, h1, rfl⟩
  · have h' : recText ⟨1, s, 0, ⟨(0 : Int), (0 : Int), false, false, false, false, (⟨#[]⟩ : ByteArray), (0 : Int)⟩⟩ = _ := h
    simp only [impl_ReadRec, E_impl_ReadRec, hk 1 s (by omega) (by omega), hd, rec_tail, p_impl_RecText (r := ⟨1, s, 0, ⟨(0 : Int), (0 : Int), false, false, false, false, (⟨#[]⟩ : ByteArray), (0 : Int)⟩⟩) (by simp only; omega), h', Option.bind_some, toList_inj, hne]
    simp [zRec]
  · have hA := rec_at (k := 2) (s := ofBytes (varL n)) (by omega) (by omega)
    rw [bs_ofBytes (varL_byte n h0)] at hA
    have e1 := p_impl_ReadVar_is hs (by omega) (by omega) hA.right
    simp only [List.length_singleton, Nat.zero_add] at e1
    have e2 : impl_ReadVar (ofBytes [2] ++ ofBytes (varL n)) (1 : Int) = _ := e1
    have h' : recText ⟨2, ⟨#[]⟩, n, ⟨(0 : Int), (0 : Int), false, false, false, false, (⟨#[]⟩ : ByteArray), (0 : Int)⟩⟩ = _ := h
    simp only [impl_ReadRec, E_impl_ReadRec, hk 2 _ (by omega) (by omega), hd, e2, Option.bind_some, p_impl_RecText (r := ⟨2, ⟨#[]⟩, n, ⟨(0 : Int), (0 : Int), false, false, false, false, (⟨#[]⟩ : ByteArray), (0 : Int)⟩⟩) (by simp only; omega), h', toList_inj, hne]
    simp [zRec]
  · have hsz : s.size ≤ 140737488351232 := by rw [ba_append_size] at hs; omega
    have e1 := p_impl_ReadThing_is hsz ht
    have h' : recText ⟨3, ⟨#[]⟩, 0, t⟩ = _ := h
    simp only [impl_ReadRec, E_impl_ReadRec, hk 3 s (by omega) (by omega), hd, rec_tail, e1, Option.bind_some, p_impl_RecText (r := ⟨3, ⟨#[]⟩, 0, t⟩) (by simp only; omega), h', toList_inj, hne]
    simp [zRec]
  · have hA := rec_at (k := 4) (s := ofBytes (varL n)) (by omega) (by omega)
    rw [bs_ofBytes (varL_byte n (by omega))] at hA
    have e1 := p_impl_ReadVar_is hs (by omega) (by omega) hA.right
    simp only [List.length_singleton, Nat.zero_add] at e1
    have e2 : impl_ReadVar (ofBytes [4] ++ ofBytes (varL n)) (1 : Int) = _ := e1
    have h' : recText ⟨4, ⟨#[]⟩, n, ⟨(0 : Int), (0 : Int), false, false, false, false, (⟨#[]⟩ : ByteArray), (0 : Int)⟩⟩ = _ := h
    simp only [impl_ReadRec, E_impl_ReadRec, hk 4 _ (by omega) (by omega), hd, e2, Option.bind_some, p_impl_RecText (r := ⟨4, ⟨#[]⟩, n, ⟨(0 : Int), (0 : Int), false, false, false, false, (⟨#[]⟩ : ByteArray), (0 : Int)⟩⟩) (by simp only; omega), h', toList_inj, hne]
    simp [zRec]
theorem recs_same {text : ByteArray} (hs : text.size ≤ 140737488351232) : ∃ r, spec_ReadRec text = some r ∧ impl_ReadRec text = some r ∧ ReadsRec text r := by
  obtain ⟨r, hr, h⟩ := p_spec_ReadRec hs
  obtain ⟨q, hq, h'⟩ := p_impl_ReadRec hs
  rcases h with ⟨h1, h2⟩ | h
  · have := p_impl_ReadRec_is hs h2
    refine ⟨r, hr, ?_, .inl ⟨h1, h2⟩⟩
    rw [this]; congr 1; exact Prod.ext rfl h1.symm
  · rcases h' with ⟨h1, h2⟩ | h'
    · have := p_spec_ReadRec_is hs h2
      rw [hr] at this
      injection this with this
      rw [h] at this
      exact Bool.noConfusion (congrArg Prod.snd this)
    · exact ⟨r, hr, by rw [hq, h', h], .inr h⟩
theorem p_laws_eqThing (a : SThing)  : laws_eqThing a a = some true := by
  simp [laws_eqThing, E_laws_eqThing]
theorem p_laws_eqRec (a : SRec)  : laws_eqRec a a = some true := by
  simp [laws_eqRec, E_laws_eqRec, p_laws_eqThing _]
theorem law_FnExactReadRec (x0 : ByteArray) (g0 : GStr x0) : laws_FnExactReadRec x0 = some true := by
  obtain ⟨r, h1, h2, _⟩ := recs_same (text := x0) (by have := g0; unfold GStr at this; omega)
  simp only [laws_FnExactReadRec, E_laws_FnExactReadRec, h1, h2, Option.bind_some, p_laws_eqRec]
  simp
end Go.Proofs.Ytmhggcgkbenedaa.G

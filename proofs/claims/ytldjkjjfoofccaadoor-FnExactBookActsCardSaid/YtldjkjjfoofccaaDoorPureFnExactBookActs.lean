/- The plain law of FnExactBookActs: whatever the arguments, it answers true. Conditions: what is read is in reach. -/
import Derived.Test.YtldjkjjfoofccaaDoorFFnExactBookActs
import Derived.Test.YtldjkjjfoofccaaDoorOpens
import Derived.Test.YtldjkjjfoofccaaDoorPBase
namespace Go.Proofs.YtldjkjjfoofccaaDoor.G
open Go Go.Ev
theorem p_laws_szThing {a : SThing} (g : GSThing a) (n : Int) : ∃ r, laws_szThing a n = some r := ⟨_, cond_some _ _ _⟩
theorem p_laws_szRec {a : SRec} (g : GSRec a) (n : Int) : ∃ r, laws_szRec a n = some r := by
  unfold laws_szRec E_laws_szRec
  cases decide ((w64 (n - (a.fText.size : Int))) < 0)
  rotate_left
  · exact ⟨_, rfl⟩
  simp only [cond_false]
  obtain ⟨r0, hr0⟩ := p_laws_szThing (g.2.2.2) ((w64 (n - (a.fText.size : Int))))
  simp only [hr0, Option.bind_some]
  cases decide (r0 < 0)
  rotate_left
  · exact ⟨_, rfl⟩
  simp only [cond_false]
  exact ⟨_, rfl⟩
theorem p_laws_toThing {a : SThing} (g : GSThing a) : laws_toThing a = some a := by
  simp only [laws_toThing, E_laws_toThing, Option.bind_some]
theorem p_laws_toRec {a : SRec} (g : GSRec a) : laws_toRec a = some a := by
  simp only [laws_toRec, E_laws_toRec, p_laws_toThing (g.2.2.2), Option.bind_some]
def inR (x a b : Int) : Bool := decide (a ≤ x) && decide (x ≤ b)
theorem inR_iff {x a b : Int} : inR x a b = true ↔ a ≤ x ∧ x ≤ b := by simp [inR]
theorem p_spec_l01In (x a b : Int) : spec_l01In x a b = some (inR x a b) := by
  show (bif decide (a ≤ x) then some (decide (x ≤ b)) else some false) = some (inR x a b)
  unfold inR; cases decide (a ≤ x) <;> rfl
/-- A number's bytes, by sevens of bits. -/
def varL (n : Int) : List Int := if n > 127 then (128 + n % 128) :: varL (n / 128) else [w8 n]
termination_by n.toNat
decreasing_by omega
theorem varL_len : ∀ (k : Nat) (n : Int), n < 128 ^ k → (varL n).length ≤ max k 1 := by
  intro k
  induction k with
  | zero => intro n h; rw [varL, if_neg (by omega)]; simp
  | succ k ih =>
    intro n h
    rw [varL]
    split
    · rename_i hn
      have h2 : n / 128 < 128 ^ k := by
        rw [Int.pow_succ] at h
        exact Int.ediv_lt_of_lt_mul (by omega) h
      have := ih _ h2
      simp only [List.length_cons]
      by_cases hk : k = 0
      · subst hk; simp at h2; try omega
      · omega
    · simp; try omega
theorem varL_len10 {n : Int} (h : n ≤ 9223372036854775807) : (varL n).length ≤ 10 := by
  have := varL_len 10 n (by have : (128 : Int) ^ 10 = 1180591620717411303424 := by decide
                            omega)
  omega
theorem varL_pos (n : Int) : 1 ≤ (varL n).length := by rw [varL]; split <;> simp
theorem varL_step {n : Int} (h : n > 127) (h2 : n ≤ 9223372036854775807) : w64 (n.tdiv 128) = n / 128 ∧ w8 (w64 (n.tmod 128 + 128)) = 128 + n % 128 ∧ w8 (w64 (128 + n.tmod 128)) = 128 + n % 128 := by
  have e1 : n.tdiv 128 = n / 128 := Int.tdiv_eq_ediv_of_nonneg (by omega)
  have e2 : n.tmod 128 = n % 128 := Int.tmod_eq_emod_of_nonneg (by omega)
  refine ⟨by rw [e1, w64_id (by omega) (by omega)], ?_, ?_⟩
  · rw [e2, w64_id (by omega) (by omega), w8_id (by omega) (by omega)]; omega
  · rw [e2, w64_id (by omega) (by omega), w8_id (by omega) (by omega)]
theorem p_spec_l01Var {n : Int} (h : n ≤ 9223372036854775807) : spec_l01Var n = some (ofBytes (varL n)) := by
  have key : ∀ (n : Int) (m : Nat) (out : List Int), n ≤ 9223372036854775807 → (varL n).length ≤ m → out.length + (varL n).length ≤ 1000 → L_spec_l01Var m (.c0 n out) = some (ofBytes (out ++ varL n)) := by
    intro n
    induction n using varL.induct with
    | case1 n hn ih =>
      intro m out h1 h2 h3
      rw [varL, if_pos hn] at h2 h3 ⊢
      simp only [List.length_cons] at h2 h3
      obtain ⟨m, rfl⟩ : ∃ k, m = k + 1 := ⟨m - 1, by omega⟩
      obtain ⟨e1, e2, _⟩ := varL_step hn h1
      simp only [L_spec_l01Var, B_spec_l01Var, e1, e2]
      rw [show decide (n > 127) = true from decide_eq_true hn, show decide ((out.length + 1) * 1 ≤ 140737488355328) = true from decide_eq_true (by omega)]
      simp only [cond_true]
      rw [ih m _ (by omega) (by omega) (by simp; omega)]
      simp
    | case2 n hn =>
      intro m out h1 h2 h3
      rw [varL, if_neg hn] at h2 h3 ⊢
      simp at h2 h3
      obtain ⟨m, rfl⟩ : ∃ k, m = k + 1 := ⟨m - 1, by omega⟩
      simp only [L_spec_l01Var, B_spec_l01Var]
      rw [show decide (n > 127) = false from decide_eq_false hn, show decide ((out.length + 1) * 1 ≤ 140737488355328) = true from decide_eq_true (by omega)]
      rfl
  have hl := varL_len10 h
  exact key n gas [] h (Nat.le_of_lt (gas_lt (by omega))) (by simp; omega)
def thingOk (x : SThing) : Bool := inR x.fId 1 1000 && inR x.fKind 1 3 && inR x.fNext 0 16 && ((x.fKind == 2) || ((x.fNext == 0) && !x.fSigns)) && ((x.fKind == 1) || !x.fWraps) && (bif x.fKind == 3 then decide ((x.fValue.size : Int) ≤ 100) else (x.fValue.size : Int) == 32)
theorem p_spec_ThingOk (x : SThing) : spec_ThingOk x = some (thingOk x) := by
  simp only [spec_ThingOk, E_spec_ThingOk, p_spec_l01In, Option.bind_some, thingOk, bne]
  cases inR x.fId 1 1000 <;> cases inR x.fKind 1 3 <;> cases inR x.fNext 0 16 <;> cases (x.fKind == 2) <;> cases (x.fKind == 1) <;> cases (x.fKind == 3) <;> cases (x.fNext == 0) <;> cases x.fSigns <;> cases x.fWraps <;> rfl
theorem thingOk_kind {x : SThing} (h : thingOk x = true) : 1 ≤ x.fKind ∧ x.fKind ≤ 3 ∧ 1 ≤ x.fId ∧ x.fId ≤ 1000 ∧ 0 ≤ x.fNext ∧ x.fNext ≤ 16 ∧ x.fValue.size ≤ 100 := by
  unfold thingOk at h
  simp only [Bool.and_eq_true] at h
  obtain ⟨⟨⟨⟨⟨h1, h2⟩, h3⟩, _⟩, _⟩, h4⟩ := h
  rw [inR_iff] at h1 h2 h3
  refine ⟨h2.1, h2.2, h1.1, h1.2, h3.1, h3.2, ?_⟩
  cases hk : x.fKind == 3
  · rw [hk] at h4; simp at h4; omega
  · rw [hk] at h4; simp at h4; omega
theorem p_spec_l19Flag (b : Bool) (n : Int) : spec_l19Flag b n = some (bif b then n else 0) := by cases b <;> rfl
theorem p_spec_l06Byte {n : Int} (h : 0 ≤ n) (h2 : n ≤ 255) : spec_l06Byte n = some (ofBytes [n]) := by
  have e : n.tmod 256 = n := by rw [Int.tmod_eq_emod_of_nonneg h]; omega
  simp only [spec_l06Byte, E_spec_l06Byte, e]
  rw [show decide (n < 0) = false from decide_eq_false (by omega), w8_id h h2]
  rfl
def shortT (s : ByteArray) : ByteArray := ofBytes (varL (s.size : Int)) ++ s
theorem shortT_size {s : ByteArray} (h : s.size ≤ 140737488351232) : (shortT s).size ≤ s.size + 10 := by
  unfold shortT; rw [ba_append_size, ofBytes_size]; have := varL_len10 (n := (s.size : Int)) (by omega); omega
theorem p_spec_l19Short {s : ByteArray} (h : s.size ≤ 140737488351232) : spec_l19Short s = some (shortT s) := by
  simp only [spec_l19Short, E_spec_l19Short, p_spec_l01Var (n := (s.size : Int)) (by omega), Option.bind_some]
  have := varL_len10 (n := (s.size : Int)) (by omega)
  rw [show decide ((ofBytes (varL (s.size : Int))).size + s.size ≤ 9223372036854775807) = true from decide_eq_true (by rw [ofBytes_size]; omega)]
  rfl
def flagN (x : SThing) : Int := (bif x.fHidden then 1 else 0) + (bif x.fFixed then 2 else 0) + (bif x.fSigns then 4 else 0) + (bif x.fWraps then 8 else 0)
theorem flagN_lt (x : SThing) : 0 ≤ flagN x ∧ flagN x ≤ 15 := by
  unfold flagN; cases x.fHidden <;> cases x.fFixed <;> cases x.fSigns <;> cases x.fWraps <;> decide
theorem flags5 (m : Nat) (a b c d : Bool) : L_impl_flags (m + 5) (.c0 0 4 0 [a, b, c, d]) = some ((bif a then 1 else 0) + (bif b then 2 else 0) + (bif c then 4 else 0) + (bif d then 8 else 0)) := by
  cases a <;> cases b <;> cases c <;> cases d <;> kernel_rfl
theorem p_impl_flags (x : SThing) : impl_flags x = some (flagN x) := by
  have : gas = 9223372036854775802 + 5 := rfl
  unfold impl_flags E_impl_flags
  rw [this]
  exact flags5 _ _ _ _ _
def thingT (x : SThing) : ByteArray := ofBytes (varL x.fId) ++ ofBytes [x.fKind] ++ ofBytes [flagN x] ++ shortT x.fValue ++ ofBytes (varL x.fNext)
def thingText (x : SThing) : ByteArray × Bool := bif thingOk x then (thingT x, true) else (⟨#[]⟩, false)
theorem thing_sizes {x : SThing} (h : thingOk x = true) : (ofBytes (varL x.fId)).size ≤ 10 ∧ (shortT x.fValue).size ≤ 110 ∧ (ofBytes (varL x.fNext)).size ≤ 10 := by
  obtain ⟨_, _, _, h1, _, h2, h3⟩ := thingOk_kind h
  rw [ofBytes_size, ofBytes_size]
  have := varL_len10 (n := x.fId) (by omega)
  have := varL_len10 (n := x.fNext) (by omega)
  have := shortT_size (s := x.fValue) (by omega)
  omega
theorem thingT_size {x : SThing} (h : thingOk x = true) : (thingT x).size ≤ 200 := by
  obtain ⟨h1, h2, h3⟩ := thing_sizes h
  unfold thingT
  simp only [ba_append_size]
  have e1 : ∀ n : Int, (ofBytes [n]).size = 1 := fun n => ofBytes_size _
  rw [e1, e1]; omega
theorem p_spec_ThingText (x : SThing) : spec_ThingText x = some (thingText x) := by
  simp only [spec_ThingText, E_spec_ThingText, p_spec_ThingOk, Option.bind_some, thingText]
  cases h : thingOk x
  · rfl
  · obtain ⟨k1, k2, k3, k4, k5, k6, k7⟩ := thingOk_kind h
    obtain ⟨z1, z2, z3⟩ := thing_sizes h
    have hf := flagN_lt x
    have e1 : ∀ n : Int, (ofBytes [n]).size = 1 := fun n => ofBytes_size _
    have ef : w64 (w64 (w64 ((bif x.fHidden then (1 : Int) else 0) + (bif x.fFixed then 2 else 0)) + (bif x.fSigns then 4 else 0)) + (bif x.fWraps then 8 else 0)) = flagN x := by
      unfold flagN; cases x.fHidden <;> cases x.fFixed <;> cases x.fSigns <;> cases x.fWraps <;> rfl
    simp only [p_spec_l19Flag, Option.bind_some, ef, p_spec_l01Var (n := x.fId) (by omega), p_spec_l06Byte (n := x.fKind) (by omega) (by omega), p_spec_l06Byte hf.1 (by omega), p_spec_l19Short (s := x.fValue) (by omega), p_spec_l01Var (n := x.fNext) (by omega), ba_append_size, e1]
    simp only [Bool.not_true, cond_false, cond_true]
    rw [show decide ((ofBytes (varL x.fId)).size + 1 ≤ 9223372036854775807) = true from decide_eq_true (by omega), show decide ((ofBytes (varL x.fId)).size + 1 + 1 ≤ 9223372036854775807) = true from decide_eq_true (by omega),
      show decide ((ofBytes (varL x.fId)).size + 1 + 1 + (shortT x.fValue).size ≤ 9223372036854775807) = true from decide_eq_true (by omega), show decide ((ofBytes (varL x.fId)).size + 1 + 1 + (shortT x.fValue).size + (ofBytes (varL x.fNext)).size ≤ 9223372036854775807) = true from decide_eq_true (by omega)]
    rfl
def isZ (x : SThing) : Bool := (x.fId == 0) && ((x.fKind == 0) && ((x.fHidden == false) && ((x.fFixed == false) && ((x.fSigns == false) && ((x.fWraps == false) && (((ByteArray.toList x.fValue) == (ByteArray.toList (⟨#[]⟩ : ByteArray))) && ((x.fNext == 0) && true)))))))
theorem isZ_e (x : SThing) : ((x.fId == 0) && ((x.fKind == 0) && ((x.fHidden == false) && ((x.fFixed == false) && ((x.fSigns == false) && ((x.fWraps == false) && (((ByteArray.toList x.fValue) == (ByteArray.toList (⟨#[]⟩ : ByteArray))) && ((x.fNext == 0) && true)))))))) = isZ x := rfl
def isE (s : ByteArray) : Bool := (ByteArray.toList s) == (ByteArray.toList (⟨#[]⟩ : ByteArray))
theorem isE_e (s : ByteArray) : ((ByteArray.toList s) == (ByteArray.toList (⟨#[]⟩ : ByteArray))) = isE s := rfl
def noT : ByteArray × Bool := ((⟨#[]⟩ : ByteArray), false)
def recText (r : SRec) : ByteArray × Bool :=
  bif r.fKind == 1 then (bif (r.fText.size : Int) == 32 && r.fNum == 0 && isZ r.fThing then (ofBytes [1] ++ r.fText, true) else noT)
  else bif r.fKind == 2 then (bif isE r.fText && isZ r.fThing && inR r.fNum 0 3 then (ofBytes [2] ++ ofBytes (varL r.fNum), true) else noT)
  else bif r.fKind == 3 then (bif (thingText r.fThing).2 && isE r.fText && r.fNum == 0 then (ofBytes [3] ++ (thingText r.fThing).1, true) else noT)
  else bif r.fKind == 4 then (bif isE r.fText && isZ r.fThing && inR r.fNum 1 1000 then (ofBytes [4] ++ ofBytes (varL r.fNum), true) else noT)
  else noT
theorem rec_var {n a b : Int} (hb : b ≤ 1000) (h : inR n a b = true) (k : Int) : (ofBytes [k]).size + (ofBytes (varL n)).size ≤ 9223372036854775807 := by
  rw [inR_iff] at h
  have := varL_len10 (n := n) (by omega)
  rw [ofBytes_size, ofBytes_size]; simp only [List.length_singleton]; omega
theorem rec_thing {x : SThing} (h : (thingText x).2 = true) (k : Int) : (ofBytes [k]).size + (thingText x).1.size ≤ 9223372036854775807 := by
  unfold thingText at h ⊢
  cases ho : thingOk x
  · rw [ho] at h; cases h
  · have := thingT_size ho
    rw [ofBytes_size]; simp only [List.length_singleton, cond_true]; omega
theorem p_spec_RecText (r : SRec) : spec_RecText r = some (recText r) := by
  have h1 : (⟨#[1]⟩ : ByteArray) = ofBytes [1] := rfl
  have h2 : (⟨#[2]⟩ : ByteArray) = ofBytes [2] := rfl
  have h3 : (⟨#[3]⟩ : ByteArray) = ofBytes [3] := rfl
  have h4 : (⟨#[4]⟩ : ByteArray) = ofBytes [4] := rfl
  simp only [spec_RecText, E_spec_RecText, p_spec_l01In, p_spec_ThingText, Option.bind_some, isZ_e, h1, h2, h3, h4]
  simp only [isE_e, recText]
  cases r.fKind == 1
  · simp only [cond_false]
    cases r.fKind == 2
    · simp only [cond_false]
      cases r.fKind == 3
      · simp only [cond_false]
        cases r.fKind == 4
        · rfl
        · cases isE r.fText <;> cases isZ r.fThing <;> (try rfl)
          cases h : inR r.fNum 1 1000
          · rfl
          · have h' := h
            rw [inR_iff] at h'
            simp only [cond_true, p_spec_l01Var (n := r.fNum) (by omega), Option.bind_some, Bool.and_self, decide_eq_true (rec_var (by omega) h 4)]
      · cases h : (thingText r.fThing).2
        · rfl
        · cases isE r.fText <;> cases r.fNum == 0 <;> (try rfl)
          simp only [cond_true, Bool.and_self, decide_eq_true (rec_thing h 3)]
    · cases isE r.fText <;> cases isZ r.fThing <;> (try rfl)
      cases h : inR r.fNum 0 3
      · rfl
      · have h' := h
        rw [inR_iff] at h'
        simp only [cond_true, p_spec_l01Var (n := r.fNum) (by omega), Option.bind_some, Bool.and_self, decide_eq_true (rec_var (by omega) h 2)]
  · cases h : (r.fText.size : Int) == 32 <;> cases r.fNum == 0 <;> cases isZ r.fThing <;> (try rfl)
    have h' : r.fText.size = 32 := by have := beq_iff_eq.1 h; omega
    have e : (ofBytes [1]).size + r.fText.size ≤ 9223372036854775807 := by rw [ofBytes_size]; simp only [List.length_singleton]; omega
    simp only [cond_true, Bool.and_self, decide_eq_true e]
/-- Numbers of 32 bits. -/
theorem w32_mod {n : Int} : w32 n = n % 4294967296 := by
  simp only [w32, IntKind.wrap, IntKind.signed, IntKind.bits]
  simp
theorem w32_id {n : Int} (h1 : 0 ≤ n) (h2 : n < 4294967296) : w32 n = n := by rw [w32_mod]; omega
def R32 (n : Int) : Prop := 0 ≤ n ∧ n < 4294967296
theorem r32_w (n : Int) : R32 (w32 n) := by unfold R32; rw [w32_mod]; omega
theorem r32_byte {n : Int} (h : 0 ≤ n ∧ n ≤ 255) : R32 n := by unfold R32; omega
def xr (x y : Int) : Int := w32 (((BitVec.toNat ((BitVec.ofInt (IntKind.bits IntKind.u32) x) ^^^ (BitVec.ofInt (IntKind.bits IntKind.u32) y))) : Nat) : Int)
def an (x y : Int) : Int := w32 (((BitVec.toNat ((BitVec.ofInt (IntKind.bits IntKind.u32) x) &&& (BitVec.ofInt (IntKind.bits IntKind.u32) y))) : Nat) : Int)
def ort (x y : Int) : Int := w32 (((BitVec.toNat ((BitVec.ofInt (IntKind.bits IntKind.u32) x) ||| (BitVec.ofInt (IntKind.bits IntKind.u32) y))) : Nat) : Int)
theorem xr_e (x y : Int) : w32 (((BitVec.toNat ((BitVec.ofInt (IntKind.bits IntKind.u32) x) ^^^ (BitVec.ofInt (IntKind.bits IntKind.u32) y))) : Nat) : Int) = xr x y := rfl
theorem an_e (x y : Int) : w32 (((BitVec.toNat ((BitVec.ofInt (IntKind.bits IntKind.u32) x) &&& (BitVec.ofInt (IntKind.bits IntKind.u32) y))) : Nat) : Int) = an x y := rfl
theorem ort_e (x y : Int) : w32 (((BitVec.toNat ((BitVec.ofInt (IntKind.bits IntKind.u32) x) ||| (BitVec.ofInt (IntKind.bits IntKind.u32) y))) : Nat) : Int) = ort x y := rfl
theorem r32_xr (x y : Int) : R32 (xr x y) := r32_w _
theorem r32_an (x y : Int) : R32 (an x y) := r32_w _
/-- Bits that do not meet. -/
theorem ort_add {a b : Nat} {s : Nat} (hb : b < 2 ^ s) (ha : a * 2 ^ s < 4294967296) (hs : b < 4294967296) : ort ((a * 2 ^ s : Nat) : Int) (b : Int) = ((a * 2 ^ s + b : Nat) : Int) := by
  have e : a * 2 ^ s ||| b = a * 2 ^ s + b := by
    have := Nat.shiftLeft_add_eq_or_of_lt hb a
    rw [Nat.shiftLeft_eq] at this
    exact this.symm
  unfold ort
  have h3 : a * 2 ^ s ||| b < 2 ^ 32 := Nat.or_lt_two_pow (by omega) (by omega)
  rw [BitVec.toNat_or]
  show w32 (((BitVec.ofInt 32 _).toNat ||| (BitVec.ofInt 32 _).toNat : Nat) : Int) = _
  rw [BitVec.ofInt_natCast, BitVec.ofInt_natCast, BitVec.toNat_ofNat, BitVec.toNat_ofNat, Nat.mod_eq_of_lt (by omega), Nat.mod_eq_of_lt (by omega), e]
  rw [e] at h3
  exact w32_id (by omega) (by omega)
/-- The complement. -/
theorem xr_max {e : Int} (h : R32 e) : xr (ite ((IntKind.signed IntKind.u32) = true) (-(1 : Int)) (IntKind.max IntKind.u32)) e = w32 (4294967295 - e) := by
  obtain ⟨h1, h2⟩ := h
  obtain ⟨n, rfl⟩ : ∃ n : Nat, e = (n : Int) := ⟨e.toNat, by omega⟩
  have hn : n < 4294967296 := by omega
  have e1 : (ite ((IntKind.signed IntKind.u32) = true) (-(1 : Int)) (IntKind.max IntKind.u32)) = 4294967295 := by decide
  rw [e1]
  unfold xr
  show w32 (((BitVec.ofInt 32 4294967295 ^^^ BitVec.ofInt 32 (n : Int)).toNat : Nat) : Int) = _
  have e2 : BitVec.ofInt 32 4294967295 = BitVec.allOnes 32 := by decide
  rw [e2, BitVec.ofInt_natCast, BitVec.allOnes_xor, BitVec.toNat_not, BitVec.toNat_ofNat]
  rw [w32_mod, w32_mod]
  omega
/-- A number turned. -/
def rt (low high x : Int) : Int := x / low + x % low * high
theorem r32_rt {low high x : Int} (h : R32 x) (hl : 0 < low) (hh : 0 < high) (hlh : low * high = 4294967296) : R32 (rt low high x) := by
  unfold R32 rt at *
  have h1 : 0 ≤ x / low := Int.ediv_nonneg h.1 (by omega)
  have h2 : 0 ≤ x % low := Int.emod_nonneg _ (by omega)
  have h3 : x % low < low := Int.emod_lt_of_pos _ hl
  have h4 : x / low < high := Int.ediv_lt_of_lt_mul hl (by rw [Int.mul_comm, hlh]; exact h.2)
  have h5 : 0 ≤ x % low * high := Int.mul_nonneg h2 (by omega)
  have h6 : x % low * high ≤ (low - 1) * high := Int.mul_le_mul_of_nonneg_right (by omega) (by omega)
  have h7 : (low - 1) * high = low * high - high := by rw [Int.sub_mul, Int.one_mul]
  omega
theorem rt_or {x : Int} (h : R32 x) (n : Nat) (hn : 0 < n) (hn2 : n < 32) : ort (w32 (x * 2 ^ (32 - n))) (x / 2 ^ n) = rt (2 ^ n) (2 ^ (32 - n)) x := by
  obtain ⟨h1, h2⟩ := h
  obtain ⟨y, rfl⟩ : ∃ y : Nat, x = (y : Int) := ⟨x.toNat, by omega⟩
  have hy : y < 4294967296 := by omega
  have e0 : (4294967296 : Nat) = 2 ^ n * 2 ^ (32 - n) := by rw [← Nat.pow_add, show n + (32 - n) = 32 by omega]
  have e1 : w32 ((y : Int) * 2 ^ (32 - n)) = ((y % 2 ^ n * 2 ^ (32 - n) : Nat) : Int) := by
    rw [w32_mod]
    have h5 : ((y : Int) * 2 ^ (32 - n)) = ((y * 2 ^ (32 - n) : Nat) : Int) := by push_cast; rfl
    have h6 : y * 2 ^ (32 - n) % 4294967296 = y % 2 ^ n * 2 ^ (32 - n) := by rw [e0, Nat.mul_mod_mul_right]
    rw [h5, ← h6]
    omega
  have e2 : ((y : Int) / 2 ^ n) = ((y / 2 ^ n : Nat) : Int) := by push_cast; rfl
  have hp : 0 < 2 ^ n := Nat.two_pow_pos n
  have hp2 : 0 < 2 ^ (32 - n) := Nat.two_pow_pos _
  have hm : y % 2 ^ n < 2 ^ n := Nat.mod_lt _ hp
  have hd : y / 2 ^ n < 2 ^ (32 - n) := Nat.div_lt_of_lt_mul (by rw [← e0]; exact hy)
  rw [e1, e2, ort_add hd (by rw [e0]; exact Nat.mul_lt_mul_of_pos_right hm hp2) (Nat.lt_of_le_of_lt (Nat.div_le_self _ _) hy)]
  unfold rt
  push_cast
  omega
/-- The bytes of a text, as numbers. -/
def bs (s : ByteArray) : List Int := s.data.toList.map fun b => (b.toNat : Int)
theorem bs_len (s : ByteArray) : (bs s).length = s.size := by unfold bs; rw [List.length_map]; rfl
theorem bs_byte {s : ByteArray} {n : Int} (h : n ∈ bs s) : 0 ≤ n ∧ n ≤ 255 := by
  unfold bs at h; rw [List.mem_map] at h; obtain ⟨b, _, rfl⟩ := h
  have := b.toNat_lt; omega
theorem bs_append (a b : ByteArray) : bs (a ++ b) = bs a ++ bs b := by simp [bs]
theorem ofBytes_bs (s : ByteArray) : ofBytes (bs s) = s := by
  cases s; simp [ofBytes, bs, Function.comp_def]
theorem bs_inj {s t : ByteArray} (h : bs s = bs t) : s = t := by rw [← ofBytes_bs s, h, ofBytes_bs]
theorem bs_ofBytes {l : List Int} (h : ∀ n, n ∈ l → 0 ≤ n ∧ n ≤ 255) : bs (ofBytes l) = l := by
  simp only [bs, ofBytes, List.map_map]
  conv => rhs; rw [← List.map_id l]
  apply List.map_congr_left
  intro n hn
  obtain ⟨h1, h2⟩ := h n hn
  simp only [Function.comp, UInt8.toNat_ofNat', id]
  omega
theorem bt_eq {s : ByteArray} {i : Nat} (h : i < s.size) : bt s (i : Int) = (bs s)[i]'(by rw [bs_len]; exact h) := by
  simp only [bt, Int.toNat_natCast, h, dite_true, bs, List.getElem_map]
  rfl
theorem bt_byte (s : ByteArray) (i : Int) : 0 ≤ bt s i ∧ bt s i ≤ 255 := by
  unfold bt; split
  · have := (s[i.toNat]).toNat_lt; omega
  · omega
theorem bs_extract (s : ByteArray) (i j : Nat) : bs (s.extract i j) = ((bs s).take j).drop i := by
  simp only [bs, ByteArray.data_extract, Array.toList_extract, List.extract_eq_take_drop, List.map_take, List.map_drop]
  rw [List.drop_take]
theorem cond_t {α : Type} {c : Bool} {a b : α} (h : c = true) : (bif c then a else b) = a := by rw [h]; rfl
theorem cond_f {α : Type} {c : Bool} {a b : α} (h : c = false) : (bif c then a else b) = b := by rw [h]; rfl
theorem bt_getD {s : ByteArray} {i : Nat} (h : i < s.size) : bt s (i : Int) = (bs s).getD i 0 := by rw [bt_eq h, getD_at]
theorem bt_at {s : ByteArray} {i : Int} {j : Nat} (e : i = (j : Int)) (h : j < s.size) : bt s i = (bs s).getD j 0 := by rw [e, bt_getD h]
theorem getD_app1 {α : Type} {a b : List α} {i : Nat} (h : i < a.length) (d : α) : (a ++ b).getD i d = a.getD i d := by simp [List.getD, List.getElem?_append_left h]
theorem getD_app2 {α : Type} {a b : List α} {i : Nat} (h : a.length ≤ i) (d : α) : (a ++ b).getD i d = b.getD (i - a.length) d := by simp [List.getD, List.getElem?_append_right h]
theorem set_app {α : Type} {a b : List α} {x y : α} {i : Nat} (h : a.length = i) : (a ++ x :: b).set i y = a ++ y :: b := by
  rw [List.set_append_right _ _ (by omega), h, Nat.sub_self]; rfl
theorem beq_t {a b : Nat} (h : a = b) : Nat.beq a b = true := by subst h; exact Nat.beq_refl _
theorem int_ex {P : Int → Prop} (n : Int) (h : 0 ≤ n) (k : ∀ m : Nat, n = (m : Int) → P (m : Int)) : P n := by
  have := k n.toNat (by omega)
  rwa [show ((n.toNat : Nat) : Int) = n by omega] at this
theorem bs_nil : bs (⟨#[]⟩ : ByteArray) = [] := rfl
def Byt (l : List Int) : Prop := ∀ n, n ∈ l → 0 ≤ n ∧ n ≤ 255
theorem byt_getD {l : List Int} (h : Byt l) (i : Nat) : 0 ≤ l.getD i 0 ∧ l.getD i 0 ≤ 255 := by
  by_cases hi : i < l.length
  · rw [getD_at hi]; exact h _ (List.getElem_mem hi)
  · have : l.getD i 0 = 0 := by simp [List.getD, List.getElem?_eq_none (Nat.le_of_not_lt hi)]
    omega
theorem byt_bs (s : ByteArray) : Byt (bs s) := fun _ h => bs_byte h
theorem bytesOf_bs (s : ByteArray) : bytesOf s = bs s := rfl
theorem getD_set {α : Type} {l : List α} {i : Nat} (h : i < l.length) (y d : α) : (l.set i y).getD i d = y := by simp [List.getD, h]
/-! The digest, told in plain lists. -/
def sg0 (x : Int) : Int := xr (xr (rt 128 33554432 x) (rt 262144 16384 x)) (x / 8)
def sg1 (x : Int) : Int := xr (xr (rt 131072 32768 x) (rt 524288 8192 x)) (x / 1024)
def ep1 (x : Int) : Int := xr (xr (rt 64 67108864 x) (rt 2048 2097152 x)) (rt 33554432 128 x)
def ep0 (x : Int) : Int := xr (xr (rt 4 1073741824 x) (rt 8192 524288 x)) (rt 4194304 1024 x)
/-- The next word. -/
def nextW (w : List Int) (t : Nat) : Int := w32 (w32 (w32 (sg1 (w.getD (t - 2) 0) + w.getD (t - 7) 0) + sg0 (w.getD (t - 15) 0)) + w.getD (t - 16) 0)
def sched (w : List Int) : Nat → List Int
  | 0 => w
  | n + 1 => sched w n ++ [nextW (sched w n) (16 + n)]
theorem sched_len {w : List Int} (h : w.length = 16) (n : Nat) : (sched w n).length = 16 + n := by
  induction n with
  | zero => exact h
  | succ n ih => simp [sched, ih]; omega
theorem sched_r {w : List Int} (h : ∀ x ∈ w, R32 x) (n : Nat) : ∀ x ∈ sched w n, R32 x := by
  induction n with
  | zero => exact h
  | succ n ih =>
    intro x hx
    rw [sched, List.mem_append, List.mem_singleton] at hx
    rcases hx with hx | rfl
    · exact ih x hx
    · exact r32_w _
theorem r_getD {l : List Int} (h : ∀ x ∈ l, R32 x) (i : Nat) : R32 (l.getD i 0) := by
  by_cases hi : i < l.length
  · rw [getD_at hi]; exact h _ (List.getElem_mem hi)
  · have : l.getD i 0 = 0 := by simp [List.getD, List.getElem?_eq_none (Nat.le_of_not_lt hi)]
    rw [this]; unfold R32; omega
structure Reg where
  a : Int
  b : Int
  c : Int
  d : Int
  e : Int
  f : Int
  g : Int
  h : Int
def Reg.ok (r : Reg) : Prop := R32 r.a ∧ R32 r.b ∧ R32 r.c ∧ R32 r.d ∧ R32 r.e ∧ R32 r.f ∧ R32 r.g ∧ R32 r.h
def Reg.l (r : Reg) : List Int := [r.a, r.b, r.c, r.d, r.e, r.f, r.g, r.h]
theorem Reg.l_len (r : Reg) : r.l.length = 8 := rfl
def t1 (r : Reg) (k w : Int) : Int := w32 (w32 (w32 (w32 (r.h + ep1 r.e) + xr (an r.e r.f) (an (w32 (4294967295 - r.e)) r.g)) + k) + w)
def t2 (r : Reg) : Int := w32 (ep0 r.a + xr (xr (an r.a r.b) (an r.a r.c)) (an r.b r.c))
def rnd (r : Reg) (k w : Int) : Reg := ⟨w32 (t1 r k w + t2 r), r.a, r.b, r.c, w32 (r.d + t1 r k w), r.e, r.f, r.g⟩
theorem rnd_ok {r : Reg} (h : r.ok) (k w : Int) : (rnd r k w).ok := ⟨r32_w _, h.1, h.2.1, h.2.2.1, r32_w _, h.2.2.2.2.1, h.2.2.2.2.2.1, h.2.2.2.2.2.2.1⟩
def rnds (K W : List Int) (r : Reg) : Nat → Reg
  | 0 => r
  | n + 1 => rnd (rnds K W r n) (K.getD n 0) (W.getD n 0)
theorem rnds_ok (K W : List Int) {r : Reg} (h : r.ok) (n : Nat) : (rnds K W r n).ok := by
  induction n with
  | zero => exact h
  | succ n ih => exact rnd_ok ih _ _
def regAdd (s r : Reg) : Reg := ⟨w32 (s.a + r.a), w32 (s.b + r.b), w32 (s.c + r.c), w32 (s.d + r.d), w32 (s.e + r.e), w32 (s.f + r.f), w32 (s.g + r.g), w32 (s.h + r.h)⟩
theorem regAdd_ok (s r : Reg) : (regAdd s r).ok := ⟨r32_w _, r32_w _, r32_w _, r32_w _, r32_w _, r32_w _, r32_w _, r32_w _⟩
def keysL : List Int := [1116352408, 1899447441, 3049323471, 3921009573, 961987163, 1508970993, 2453635748, 2870763221, 3624381080, 310598401, 607225278, 1426881987, 1925078388, 2162078206, 2614888103, 3248222580, 3835390401, 4022224774, 264347078, 604807628, 770255983, 1249150122, 1555081692, 1996064986, 2554220882, 2821834349, 2952996808, 3210313671, 3336571891, 3584528711, 113926993, 338241895, 666307205, 773529912, 1294757372, 1396182291, 1695183700, 1986661051, 2177026350, 2456956037, 2730485921, 2820302411, 3259730800, 3345764771, 3516065817, 3600352804, 4094571909, 275423344, 430227734, 506948616, 659060556, 883997877, 958139571, 1322822218, 1537002063, 1747873779, 1955562222, 2024104815, 2227730452, 2361852424, 2428436474, 2756734187, 3204031479, 3329325298]
/-- Words of four bytes. -/
def be4 (a b c d : Int) : Int := a * 16777216 + b * 65536 + c * 256 + d
def wordAt (l : List Int) (i : Nat) : Int := be4 (l.getD (4 * i) 0) (l.getD (4 * i + 1) 0) (l.getD (4 * i + 2) 0) (l.getD (4 * i + 3) 0)
def wordsN (l : List Int) (n : Nat) : List Int := (List.range n).map (wordAt l)
theorem wordsN_len (l : List Int) (n : Nat) : (wordsN l n).length = n := by simp [wordsN]
theorem wordsN_succ (l : List Int) (n : Nat) : wordsN l (n + 1) = wordsN l n ++ [wordAt l n] := by simp [wordsN, List.range_succ]
theorem be4_r {a b c d : Int} (ha : 0 ≤ a ∧ a ≤ 255) (hb : 0 ≤ b ∧ b ≤ 255) (hc : 0 ≤ c ∧ c ≤ 255) (hd : 0 ≤ d ∧ d ≤ 255) : R32 (be4 a b c d) := by unfold R32 be4; omega
theorem wordAt_r {l : List Int} (h : Byt l) (i : Nat) : R32 (wordAt l i) := be4_r (byt_getD h _) (byt_getD h _) (byt_getD h _) (byt_getD h _)
theorem wordsN_r {l : List Int} (h : Byt l) (n : Nat) : ∀ x ∈ wordsN l n, R32 x := by
  intro x hx
  simp only [wordsN, List.mem_map] at hx
  obtain ⟨i, _, rfl⟩ := hx
  exact wordAt_r h i
/-- A block. -/
def comp (s : Reg) (b : List Int) : Reg := regAdd s (rnds keysL (sched (wordsN b 16) 48) s 64)
theorem comp_ok (s : Reg) (b : List Int) : (comp s b).ok := regAdd_ok _ _
/-- Blocks. -/
def comps : Nat → Reg → List Int → Reg
  | 0, s, _ => s
  | n + 1, s, b => comps n (comp s (b.take 64)) (b.drop 64)
theorem comps_ok {s : Reg} (h : s.ok) : ∀ (n : Nat) (b : List Int), (comps n s b).ok := by
  intro n
  induction n generalizing s with
  | zero => intro b; exact h
  | succ n ih => intro b; exact ih (comp_ok _ _) _
theorem comps_add (n m : Nat) : ∀ (s : Reg) (b : List Int), comps (n + m) s b = comps m (comps n s b) (b.drop (64 * n)) := by
  induction n with
  | zero => intro s b; simp [comps]
  | succ n ih =>
    intro s b
    rw [Nat.add_right_comm, comps, comps, ih, List.drop_drop]
    congr 2
    omega
theorem comps_app (n : Nat) : ∀ (s : Reg) (b c : List Int), 64 * n ≤ b.length → comps n s (b ++ c) = comps n s b := by
  induction n with
  | zero => intro s b c _; rfl
  | succ n ih =>
    intro s b c h
    rw [comps, comps, List.take_append_of_le_length (by omega), List.drop_append_of_le_length (by omega), ih _ _ _ (by simp; omega)]
def four (x : Int) : List Int := [x / 16777216, x / 65536 % 256, x / 256 % 256, x % 256]
theorem four_byt {x : Int} (h : R32 x) : Byt (four x) := by
  intro n hn
  unfold R32 at h
  simp only [four, List.mem_cons, List.not_mem_nil, or_false] at hn
  rcases hn with rfl | rfl | rfl | rfl <;> omega
def bytesL (ws : List Int) : List Int := ws.flatMap four
theorem bytesL_len (ws : List Int) : (bytesL ws).length = 4 * ws.length := by
  induction ws with
  | nil => rfl
  | cons w ws ih =>
    rw [show bytesL (w :: ws) = four w ++ bytesL ws from rfl, List.length_append, ih]
    simp only [four, List.length_cons, List.length_nil]; omega
theorem bytesL_byt {ws : List Int} (h : ∀ x ∈ ws, R32 x) : Byt (bytesL ws) := by
  intro n hn
  simp only [bytesL, List.mem_flatMap] at hn
  obtain ⟨x, hx, hn⟩ := hn
  exact four_byt (h x hx) n hn
theorem bytesL_app (a b : List Int) : bytesL (a ++ b) = bytesL a ++ bytesL b := by simp [bytesL]
theorem be4_four {x : Int} (h : R32 x) : be4 (x / 16777216) (x / 65536 % 256) (x / 256 % 256) (x % 256) = x := by unfold R32 at h; unfold be4; omega
theorem wordAt_bytesL : ∀ {ws : List Int} (_ : ∀ x ∈ ws, R32 x) {i : Nat} (hi : i < ws.length), wordAt (bytesL ws) i = ws[i]
  | w :: ws, h, 0, _ => by
    have := be4_four (h w (List.mem_cons_self ..))
    simpa [wordAt, bytesL, four] using this
  | w :: ws, h, i + 1, hi => by
    have ih := wordAt_bytesL (ws := ws) (fun x hx => h x (List.mem_cons_of_mem _ hx)) (i := i) (by simpa using hi)
    rw [List.getElem_cons_succ, ← ih]
    have e : ∀ j, (bytesL (w :: ws)).getD (j + 4) 0 = (bytesL ws).getD j 0 := fun j => by simp [bytesL, four, List.getD]
    unfold wordAt
    rw [show 4 * (i + 1) = 4 * i + 4 by omega, show 4 * i + 4 + 1 = (4 * i + 1) + 4 by omega, show 4 * i + 4 + 2 = (4 * i + 2) + 4 by omega, show 4 * i + 4 + 3 = (4 * i + 3) + 4 by omega, e, e, e, e]
theorem wordsN_bytesL {ws : List Int} (h : ∀ x ∈ ws, R32 x) : wordsN (bytesL ws) ws.length = ws := by
  apply List.ext_getElem
  · rw [wordsN_len]
  · intro i h1 h2
    simp only [wordsN, List.getElem_map, List.getElem_range]
    exact wordAt_bytesL h h2
theorem Reg.l_r {r : Reg} (h : r.ok) : ∀ x ∈ r.l, R32 x := by
  intro x hx
  simp only [Reg.l, List.mem_cons, List.not_mem_nil, or_false] at hx
  obtain ⟨h1, h2, h3, h4, h5, h6, h7, h8⟩ := h
  rcases hx with rfl | rfl | rfl | rfl | rfl | rfl | rfl | rfl <;> assumption
def reg0 : Reg := ⟨1779033703, 3144134277, 1013904242, 2773480762, 1359893119, 2600822924, 528734635, 1541459225⟩
theorem reg0_ok : reg0.ok := by unfold Reg.ok R32 reg0; decide
/-- What fills the last block. -/
def big8 (n : Int) : List Int := [0, 0, 0, n / 4294967296 % 256, n / 16777216 % 256, n / 65536 % 256, n / 256 % 256, n % 256]
def endL (n : Nat) : List Int := 128 :: (List.replicate ((119 - n % 64) % 64) 0 ++ big8 (8 * (n : Int)))
theorem endL_len (n : Nat) : (endL n).length = 9 + (119 - n % 64) % 64 := by simp [endL, big8]; omega
theorem end_whole (n : Nat) : (n + (endL n).length) % 64 = 0 := by rw [endL_len]; omega
theorem endL_byt (n : Nat) : Byt (endL n) := by
  intro x hx
  simp only [endL, big8, List.mem_cons, List.mem_append, List.mem_replicate, List.not_mem_nil, or_false] at hx
  omega
def digL (b : List Int) : List Int := bytesL (comps ((b.length + (endL b.length).length) / 64) reg0 (b ++ endL b.length)).l
def dig (s : ByteArray) : ByteArray := ofBytes (digL (bs s))
theorem digL_len (b : List Int) : (digL b).length = 32 := by rw [digL, bytesL_len]; rfl
theorem digL_byt (b : List Int) : Byt (digL b) := bytesL_byt (Reg.l_r (comps_ok reg0_ok _ _))
theorem dig_size (s : ByteArray) : (dig s).size = 32 := by rw [dig, ofBytes_size, digL_len]
theorem bs_dig (s : ByteArray) : bs (dig s) = digL (bs s) := bs_ofBytes (digL_byt _)
theorem four_e {x : Int} (h : R32 x) : [w8 (w32 (x.tdiv 16777216)), w8 ((w32 (x.tdiv 65536)).tmod 256), w8 ((w32 (x.tdiv 256)).tmod 256), w8 (x.tmod 256)] = four x := by
  obtain ⟨h1, h2⟩ := h
  rw [Int.tdiv_eq_ediv_of_nonneg h1, Int.tdiv_eq_ediv_of_nonneg h1, Int.tdiv_eq_ediv_of_nonneg h1, Int.tmod_eq_emod_of_nonneg h1]
  rw [w32_id (n := x / 16777216) (by omega) (by omega), w32_id (n := x / 65536) (by omega) (by omega), w32_id (n := x / 256) (by omega) (by omega)]
  rw [Int.tmod_eq_emod_of_nonneg (by omega), Int.tmod_eq_emod_of_nonneg (by omega)]
  simp only [four, w8_mod, List.cons.injEq, and_true]
  omega
theorem p_spec_l05Bytes {ws : List Int} (h : ∀ x ∈ ws, R32 x) (hl : ws.length ≤ 1000000000000) : spec_l05Bytes ws = some (ofBytes (bytesL ws)) := by
  have key := loopN (A := Unit) (n := ws.length) (Lp := L_spec_l05Bytes) (st := fun i _ => .c0 ws (i : Int) (bytesL (ws.take i))) (Inv := fun _ _ => True) (out := fun _ _ => some (ofBytes (bytesL ws)))
    (fun m _ _ => by
      simp only [L_spec_l05Bytes, B_spec_l05Bytes]
      rw [cond_f (by simp), List.take_length])
    (fun m i _ hi _ => .inr ⟨(), by
      have e : w64 ((i : Int) + 1) = ((i + 1 : Nat) : Int) := by rw [w64_id (by omega) (by omega)]; rfl
      simp only [L_spec_l05Bytes, B_spec_l05Bytes, e, Int.toNat_natCast]
      rw [cond_t (by simp; omega), cond_t (by simp; omega), cond_t (by rw [bytesL_len, List.length_take]; simp; omega)]
      rw [getD_at hi, four_e (h _ (List.getElem_mem hi)), take_at hi, bytesL_app]
      simp [bytesL], trivial, rfl⟩)
  exact key gas 0 () (Nat.zero_le _) (gas_lt (by omega)) trivial
def hash0 : SHasher := ⟨ofBytes (bytesL reg0.l), ⟨#[]⟩, 0⟩
theorem p_spec_HasherNew : spec_HasherNew = some hash0 := by
  have h := p_spec_l05Bytes (ws := reg0.l) (Reg.l_r reg0_ok) (by decide)
  have e : spec_l05First = some reg0.l := rfl
  simp only [spec_HasherNew, E_spec_HasherNew, e, h, Option.bind_some]
  rfl
theorem p_spec_HasherOk {h : SHasher} (h1 : h.fState.size = 32) (h2 : h.fRest.size < 64) (h3 : 0 ≤ h.fCount ∧ h.fCount ≤ 1000000000) (h4 : h.fCount % 64 = (h.fRest.size : Int)) : spec_HasherOk h = some true := by
  have e : inR h.fCount 0 1000000000 = true := by rw [inR_iff]; omega
  simp only [spec_HasherOk, E_spec_HasherOk, p_spec_l01In, Option.bind_some, e]
  rw [cond_t (by simp; omega), cond_t (by simp; omega), cond_true, Int.tmod_eq_emod_of_nonneg h3.1, h4]
  simp
theorem p_spec_l05Word {s : ByteArray} {i : Nat} (h : 4 * i + 4 ≤ s.size) (hs : s.size ≤ 9000000000000000000) : spec_l05Word s ((4 * i : Nat) : Int) = some (wordAt (bs s) i) := by
  have hb := byt_bs s
  have e1 : w64 (((4 * i : Nat) : Int) + 1) = ((4 * i + 1 : Nat) : Int) := by rw [w64_id (by omega) (by omega)]; rfl
  have e2 : w64 (((4 * i : Nat) : Int) + 2) = ((4 * i + 2 : Nat) : Int) := by rw [w64_id (by omega) (by omega)]; rfl
  have e3 : w64 (((4 * i : Nat) : Int) + 3) = ((4 * i + 3 : Nat) : Int) := by rw [w64_id (by omega) (by omega)]; rfl
  simp only [spec_l05Word, E_spec_l05Word, e1, e2, e3]
  rw [cond_t (by simp; omega), cond_t (by simp; omega), cond_t (by simp; omega), cond_t (by simp; omega)]
  rw [bt_getD (by omega), bt_getD (by omega), bt_getD (by omega), bt_getD (by omega)]
  have b0 := byt_getD hb (4 * i)
  have b1 := byt_getD hb (4 * i + 1)
  have b2 := byt_getD hb (4 * i + 2)
  have b3 := byt_getD hb (4 * i + 3)
  unfold wordAt be4
  simp only [w32_mod]
  congr 1
  omega
theorem p_spec_l05Words {s : ByteArray} (hs : s.size ≤ 1000000000000) : spec_l05Words s = some (wordsN (bs s) (s.size / 4)) := by
  have key := loopN (A := Unit) (n := s.size / 4) (Lp := L_spec_l05Words) (st := fun i _ => .c0 s ((4 * i : Nat) : Int) (wordsN (bs s) i)) (Inv := fun _ _ => True) (out := fun _ _ => some (wordsN (bs s) (s.size / 4)))
    (fun m _ _ => by
      simp only [L_spec_l05Words, B_spec_l05Words]
      rw [w64_id (by omega) (by omega), cond_f (by simp; omega)])
    (fun m i _ hi _ => .inr ⟨(), by
      have e : w64 (((4 * i : Nat) : Int) + 4) = ((4 * (i + 1) : Nat) : Int) := by rw [w64_id (by omega) (by omega)]; omega
      simp only [L_spec_l05Words, B_spec_l05Words, e, p_spec_l05Word (s := s) (i := i) (by omega) (by omega), Option.bind_some, wordsN_len, wordsN_succ]
      rw [cond_t (by simp; omega), cond_t (by simp; omega)], trivial, rfl⟩)
  exact key gas 0 () (Nat.zero_le _) (gas_lt (by omega)) trivial
theorem p_spec_l05Right {x low high : Int} (h : R32 x) (hl : 0 < low) (hh : 0 < high) (hlh : low * high = 4294967296) : spec_l05Right x low high = some (rt low high x) := by
  have hr := r32_rt h hl hh hlh
  obtain ⟨h1, h2⟩ := h
  have e0 : (!(low == 0)) = true := by simp; omega
  have d1 : 0 ≤ x / low := Int.ediv_nonneg h1 (by omega)
  have d2 : 0 ≤ x % low * high := Int.mul_nonneg (Int.emod_nonneg _ (by omega)) (by omega)
  unfold R32 rt at hr
  simp only [spec_l05Right, E_spec_l05Right, e0, cond_true, Int.tdiv_eq_ediv_of_nonneg h1, Int.tmod_eq_emod_of_nonneg h1]
  rw [w32_id d1 (by omega), w32_id d2 (by omega), w32_id (by omega) (by omega)]
  rfl
theorem p_spec_sg1 {x : Int} (h : R32 x) : spec_l05S x 131072 524288 1024 true = some (sg1 x) := by
  have e1 : w32 (w32 ((2147483648 : Int).tdiv 131072) * 2) = 32768 := by decide
  have e2 : w32 (w32 ((2147483648 : Int).tdiv 524288) * 2) = 8192 := by decide
  have e3 : w32 (x.tdiv 1024) = x / 1024 := by
    obtain ⟨h1, h2⟩ := h
    rw [Int.tdiv_eq_ediv_of_nonneg h1, w32_id (by omega) (by omega)]
  simp only [spec_l05S, E_spec_l05S, e1, e2, e3, p_spec_l05Right h (low := 131072) (high := 32768) (by omega) (by omega) (by omega), p_spec_l05Right h (low := 524288) (high := 8192) (by omega) (by omega) (by omega), Option.bind_some, xr_e]
  rfl
theorem p_spec_sg0 {x : Int} (h : R32 x) : spec_l05S x 128 262144 8 true = some (sg0 x) := by
  have e1 : w32 (w32 ((2147483648 : Int).tdiv 128) * 2) = 33554432 := by decide
  have e2 : w32 (w32 ((2147483648 : Int).tdiv 262144) * 2) = 16384 := by decide
  have e3 : w32 (x.tdiv 8) = x / 8 := by
    obtain ⟨h1, h2⟩ := h
    rw [Int.tdiv_eq_ediv_of_nonneg h1, w32_id (by omega) (by omega)]
  simp only [spec_l05S, E_spec_l05S, e1, e2, e3, p_spec_l05Right h (low := 128) (high := 33554432) (by omega) (by omega) (by omega), p_spec_l05Right h (low := 262144) (high := 16384) (by omega) (by omega) (by omega), Option.bind_some, xr_e]
  rfl
theorem p_spec_ep1 {x : Int} (h : R32 x) : spec_l05S x 64 2048 33554432 false = some (ep1 x) := by
  have e1 : w32 (w32 ((2147483648 : Int).tdiv 64) * 2) = 67108864 := by decide
  have e2 : w32 (w32 ((2147483648 : Int).tdiv 2048) * 2) = 2097152 := by decide
  have e3 : w32 (w32 ((2147483648 : Int).tdiv 33554432) * 2) = 128 := by decide
  simp only [spec_l05S, E_spec_l05S, e1, e2, e3, p_spec_l05Right h (low := 64) (high := 67108864) (by omega) (by omega) (by omega), p_spec_l05Right h (low := 2048) (high := 2097152) (by omega) (by omega) (by omega), p_spec_l05Right h (low := 33554432) (high := 128) (by omega) (by omega) (by omega), Option.bind_some, xr_e]
  rfl
theorem p_spec_ep0 {x : Int} (h : R32 x) : spec_l05S x 4 8192 4194304 false = some (ep0 x) := by
  have e1 : w32 (w32 ((2147483648 : Int).tdiv 4) * 2) = 1073741824 := by decide
  have e2 : w32 (w32 ((2147483648 : Int).tdiv 8192) * 2) = 524288 := by decide
  have e3 : w32 (w32 ((2147483648 : Int).tdiv 4194304) * 2) = 1024 := by decide
  simp only [spec_l05S, E_spec_l05S, e1, e2, e3, p_spec_l05Right h (low := 4) (high := 1073741824) (by omega) (by omega) (by omega), p_spec_l05Right h (low := 8192) (high := 524288) (by omega) (by omega) (by omega), p_spec_l05Right h (low := 4194304) (high := 1024) (by omega) (by omega) (by omega), Option.bind_some, xr_e]
  rfl
theorem regAdd_at (s r : Reg) : ∀ i, i < 8 → (regAdd s r).l.getD i 0 = w32 (s.l.getD i 0 + r.l.getD i 0)
  | 0, _ => rfl | 1, _ => rfl | 2, _ => rfl | 3, _ => rfl | 4, _ => rfl | 5, _ => rfl | 6, _ => rfl | 7, _ => rfl
  | n + 8, h => by omega
theorem gas_add (n : Nat) (h : n < 9223372036854775807) : ∃ m, gas = m + n := ⟨gas - n, by have := gas_lt h; omega⟩
theorem l05Round3 (s r : Reg) : ∀ (j i m : Nat), i + j = 8 → L_spec_l05Round (m + j + 1) (.c3 s.l (i : Int) r.l ((regAdd s r).l.take i)) = some (regAdd s r).l := by
  intro j
  induction j with
  | zero =>
    intro i m h
    obtain rfl : i = 8 := by omega
    simp only [L_spec_l05Round, B_spec_l05Round]
    rfl
  | succ j ih =>
    intro i m h
    have e : w64 ((i : Int) + 1) = ((i + 1 : Nat) : Int) := by rw [w64_id (by omega) (by omega)]; rfl
    have hl : ∀ q : Reg, q.l.length = 8 := fun _ => rfl
    rw [show m + (j + 1) + 1 = (m + j + 1) + 1 by omega]
    simp only [L_spec_l05Round, B_spec_l05Round, e, Int.toNat_natCast]
    rw [cond_t (by simp; omega), cond_t (by simp [hl]; omega), cond_t (by simp [hl]; omega), cond_t (by simp [hl]; omega)]
    have h3 := ih (i + 1) m (by omega)
    rw [take_at (by rw [hl]; omega), ← getD_at (by rw [hl]; omega) 0, regAdd_at _ _ _ (by omega)] at h3
    exact h3
def shL : Nat → List Int → List Int
  | 0, v => v
  | i + 1, v => shL i (v.set (i + 1) (v.getD i 0))
theorem l05Round2 (t o W : List Int) (k T1 T2 : Int) (hk : 0 ≤ k ∧ k < 64) : ∀ (i m : Nat) (v : List Int), i < 8 → v.length = 8 → L_spec_l05Round (m + i + 1) (.c2 t o k T1 T2 (i : Int) W v) = L_spec_l05Round m (.c1 t o (k + 1) W (((shL i v).set 4 (w32 ((shL i v).getD 4 0 + T1))).set 0 (w32 (T1 + T2)))) := by
  intro i
  induction i with
  | zero =>
    intro m v _ hl
    have e : w64 (k + 1) = k + 1 := w64_id (by omega) (by omega)
    simp only [L_spec_l05Round, B_spec_l05Round, e]
    rw [cond_f (by simp), cond_t (by simp [hl]), cond_t (by simp [hl]), cond_t (by simp [hl])]
    rfl
  | succ i ih =>
    intro m v hi hl
    have e : w64 (((i + 1 : Nat) : Int) - 1) = (i : Int) := by rw [w64_id (by omega) (by omega)]; omega
    rw [show m + (i + 1) + 1 = (m + i + 1) + 1 by omega]
    rw [L_spec_l05Round]
    simp only [B_spec_l05Round, e, Int.toNat_natCast]
    rw [cond_t (by simp; try omega), cond_t (by simp [hl]; try omega), cond_t (by simp [hl]; try omega), ih m _ (by omega) (by simp [hl])]
    rfl
theorem l05Round1 (t W : List Int) (r : Reg) (hr : r.ok) (hW : ∀ x ∈ W, R32 x) (hWl : W.length = 64) (i m : Nat) (hi : i < 64) :
    L_spec_l05Round (m + 9) (.c1 t keysL (i : Int) W r.l) = L_spec_l05Round m (.c1 t keysL ((i : Int) + 1) W (rnd r (keysL.getD i 0) (W.getD i 0)).l) := by
  obtain ⟨h1, h2, h3, h4, h5, h6, h7, h8⟩ := hr
  have hk : keysL.length = 64 := rfl
  have g (q : Reg) : q.l.getD 0 0 = q.a ∧ q.l.getD 1 0 = q.b ∧ q.l.getD 2 0 = q.c ∧ q.l.getD 4 0 = q.e ∧ q.l.getD 5 0 = q.f ∧ q.l.getD 6 0 = q.g ∧ q.l.getD 7 0 = q.h := ⟨rfl, rfl, rfl, rfl, rfl, rfl, rfl⟩
  obtain ⟨g0, g1, g2, g4, g5, g6, g7⟩ := g r
  have hl : r.l.length = 8 := rfl
  have z4 : (4 : Int).toNat = 4 := rfl
  have z5 : (5 : Int).toNat = 5 := rfl
  have z6 : (6 : Int).toNat = 6 := rfl
  have z7 : (7 : Int).toNat = 7 := rfl
  have z0 : (0 : Int).toNat = 0 := rfl
  have z1 : (1 : Int).toNat = 1 := rfl
  have z2 : (2 : Int).toNat = 2 := rfl
  rw [show m + 9 = (m + 7 + 1) + 1 by omega, L_spec_l05Round]
  simp only [B_spec_l05Round, z0, z1, z2, z4, z5, z6, z7, g0, g1, g2, g4, g5, g6, g7, hl, hk, hWl, p_spec_ep1 h5, p_spec_ep0 h1, Option.bind_some, xr_e, an_e, Int.toNat_natCast]
  rw [cond_t (by simp; omega), cond_t (by simp), cond_t (by simp), cond_t (by simp), cond_t (by simp), cond_t (by simp; omega), cond_t (by simp; omega), cond_t (by simp), cond_t (by simp), cond_t (by simp), cond_t (by simp), cond_t (by simp), cond_t (by simp), cond_t (by simp)]
  exact l05Round2 t keysL W (i : Int) (t1 r (keysL.getD i 0) (W.getD i 0)) (t2 r) (by omega) 7 m r.l (by omega) rfl
theorem l05Round1s (s : Reg) (hs : s.ok) (W : List Int) (hW : ∀ x ∈ W, R32 x) (hWl : W.length = 64) : ∀ (j i m : Nat), i + j = 64 → L_spec_l05Round (m + 9 * j + 10) (.c1 s.l keysL (i : Int) W (rnds keysL W s i).l) = some (regAdd s (rnds keysL W s 64)).l := by
  intro j
  induction j with
  | zero =>
    intro i m h
    obtain rfl : i = 64 := by omega
    rw [show m + 9 * 0 + 10 = (m + 8 + 1) + 1 by omega, L_spec_l05Round]
    simp only [B_spec_l05Round]
    rw [cond_f (by simp)]
    exact l05Round3 s _ 8 0 m (by omega)
  | succ j ih =>
    intro i m h
    rw [show m + 9 * (j + 1) + 10 = (m + 9 * j + 10) + 9 by omega, l05Round1 s.l W _ (rnds_ok keysL W hs i) hW hWl i _ (by omega)]
    exact ih (i + 1) m (by omega)
theorem l05Round0 (s : Reg) (hs : s.ok) (w : List Int) (hw : ∀ x ∈ w, R32 x) (hwl : w.length = 16) : ∀ (j i m : Nat), i + j = 48 → L_spec_l05Round (m + 9 * 64 + 10 + 1 + j) (.c0 s.l keysL ((16 + i : Nat) : Int) (sched w i)) = some (regAdd s (rnds keysL (sched w 48) s 64)).l := by
  intro j
  induction j with
  | zero =>
    intro i m h
    obtain rfl : i = 48 := by omega
    rw [show m + 9 * 64 + 10 + 1 + 0 = (m + 9 * 64 + 10) + 1 by omega, L_spec_l05Round]
    simp only [B_spec_l05Round]
    rw [cond_f (by simp), cond_t (by simp [Reg.l])]
    exact l05Round1s s hs _ (sched_r hw 48) (sched_len hwl 48) 64 0 m (by omega)
  | succ j ih =>
    intro i m h
    have hl := sched_len hwl i
    have hr := sched_r hw i
    have e2 : w64 (((16 + i : Nat) : Int) - 2) = ((16 + i - 2 : Nat) : Int) := by rw [w64_id (by omega) (by omega)]; omega
    have e7 : w64 (((16 + i : Nat) : Int) - 7) = ((16 + i - 7 : Nat) : Int) := by rw [w64_id (by omega) (by omega)]; omega
    have e15 : w64 (((16 + i : Nat) : Int) - 15) = ((16 + i - 15 : Nat) : Int) := by rw [w64_id (by omega) (by omega)]; omega
    have e16 : w64 (((16 + i : Nat) : Int) - 16) = ((16 + i - 16 : Nat) : Int) := by rw [w64_id (by omega) (by omega)]; omega
    have e1 : w64 (((16 + i : Nat) : Int) + 1) = ((16 + (i + 1) : Nat) : Int) := by rw [w64_id (by omega) (by omega)]; omega
    rw [show m + 9 * 64 + 10 + 1 + (j + 1) = (m + 9 * 64 + 10 + 1 + j) + 1 by omega, L_spec_l05Round]
    simp only [B_spec_l05Round, e1, e2, e7, e15, e16, Int.toNat_natCast, hl, p_spec_sg1 (r_getD hr _), p_spec_sg0 (r_getD hr _), Option.bind_some]
    rw [cond_t (by simp; omega), cond_t (by simp; omega), cond_t (by simp; omega), cond_t (by simp; omega), cond_t (by simp; omega), cond_t (by simp; omega)]
    exact ih (i + 1) m (by omega)
theorem p_spec_l05Round {s : Reg} (hs : s.ok) {b : ByteArray} (hb : b.size = 64) : spec_l05Round s.l keysL b = some (comp s (bs b)).l := by
  have hr := wordsN_r (byt_bs b) 16
  obtain ⟨m, hm⟩ : ∃ m, gas = m + 9 * 64 + 10 + 1 + 48 := ⟨gas - 635, by have := gas_lt (n := 635) (by omega); omega⟩
  have h := l05Round0 s hs _ hr (wordsN_len _ 16) 48 0 m (by omega)
  have e0 : ((16 + 0 : Nat) : Int) = 16 := rfl
  rw [e0, show sched (wordsN (bs b) 16) 0 = wordsN (bs b) 16 from rfl] at h
  rw [spec_l05Round, E_spec_l05Round, p_spec_l05Words (s := b) (by omega), Option.bind_some, hb, hm]
  exact h
theorem keys_e : spec_l05K = some keysL := rfl
theorem blk_e (b : List Int) (i : Nat) : (b.take (64 * i + 64)).drop (64 * i) = (b.drop (64 * i)).take 64 := by
  rw [List.drop_take]; congr 1; omega
theorem comps_last (i : Nat) (s : Reg) (b : List Int) : comps (i + 1) s b = comp (comps i s b) ((b.drop (64 * i)).take 64) := by
  rw [comps_add i 1]; rfl
theorem words_state {r : Reg} (h : r.ok) : spec_l05Words (ofBytes (bytesL r.l)) = some r.l := by
  have hs : (ofBytes (bytesL r.l)).size = 32 := by rw [ofBytes_size, bytesL_len]; rfl
  rw [p_spec_l05Words (by omega), hs, bs_ofBytes (bytesL_byt (Reg.l_r h))]
  exact congrArg some (wordsN_bytesL (Reg.l_r h))
theorem p_spec_HashMore0 {s : ByteArray} (hs : s.size ≤ 1000000000) : spec_HashMore hash0 s = some ⟨ofBytes (bytesL (comps (s.size / 64) reg0 (bs s)).l), s.extract (64 * (s.size / 64)) s.size, (s.size : Int)⟩ := by
  have e0 : spec_HasherOk hash0 = some true := p_spec_HasherOk (by rw [hash0, ofBytes_size, bytesL_len]; rfl) (by decide) (by decide) (by decide)
  have e1 : ((⟨#[]⟩ : ByteArray) ++ s) = s := bs_inj (by rw [bs_append]; rfl)
  have key := loopN (A := Unit) (n := s.size / 64) (Lp := L_spec_HashMore) (st := fun i _ => .c0 s s ((64 * i : Nat) : Int) hash0 (⟨(⟨#[]⟩ : ByteArray), (⟨#[]⟩ : ByteArray), (0 : Int)⟩ : SHasher) (comps i reg0 (bs s)).l keysL) (Inv := fun _ _ => True)
    (out := fun _ _ => some ⟨ofBytes (bytesL (comps (s.size / 64) reg0 (bs s)).l), s.extract (64 * (s.size / 64)) s.size, (s.size : Int)⟩)
    (fun m _ _ => by
      have hw : w64 (hash0.fCount + (s.size : Int)) = (s.size : Int) := by
        show w64 ((0 : Int) + (s.size : Int)) = _
        rw [Int.zero_add, w64_id (by omega) (by omega)]
      rw [L_spec_HashMore]
      simp only [B_spec_HashMore, hw, Int.toNat_natCast]
      rw [w64_id (by omega) (by omega), cond_f (by simp; omega), p_spec_l05Bytes (Reg.l_r (comps_ok reg0_ok _ _)) (by simp [Reg.l]), Option.bind_some, cond_t (by simp; omega)])
    (fun m i _ hi _ => .inr ⟨(), by
      have e : w64 (((64 * i : Nat) : Int) + 64) = ((64 * (i + 1) : Nat) : Int) := by rw [w64_id (by omega) (by omega)]; omega
      rw [L_spec_HashMore]
      simp only [B_spec_HashMore, e, Int.toNat_natCast]
      rw [cond_t (by simp; omega), cond_t (by simp; omega), p_spec_l05Round (comps_ok reg0_ok _ _) (by simp; omega), Option.bind_some, bs_extract, show 64 * (i + 1) = 64 * i + 64 by omega, blk_e, ← comps_last], trivial, rfl⟩)
  rw [spec_HashMore, E_spec_HashMore, e0, Option.bind_some, cond_f (by rfl)]
  have hw : w64 (hash0.fCount + (s.size : Int)) = (s.size : Int) := by
    show w64 ((0 : Int) + (s.size : Int)) = _
    rw [Int.zero_add, w64_id (by omega) (by omega)]
  rw [hw, cond_f (by simp; omega), show hash0.fState = ofBytes (bytesL reg0.l) from rfl, words_state reg0_ok, Option.bind_some, keys_e, Option.bind_some, show hash0.fRest = ⟨#[]⟩ from rfl, e1]
  rw [cond_t (by have : (⟨#[]⟩ : ByteArray).size = 0 := rfl
                 simp only [this, decide_eq_true_eq]; omega)]
  exact key gas 0 () (Nat.zero_le _) (gas_lt (by omega)) trivial
def bigL (b : Int) : Nat → List Int
  | 0 => []
  | i + 1 => (b / 256 ^ i % 256) :: bigL b i
def bigCost : Nat → Nat
  | 0 => 0
  | i + 1 => bigCost i + (i + 2)
theorem div_step (x : Int) (j : Nat) : x / 256 / 256 ^ j = x / 256 ^ (j + 1) := by
  rw [Int.ediv_ediv_of_nonneg (by omega)]
  congr 1
  rw [Int.pow_succ, Int.mul_comm]
theorem hend2 (h : SHasher) (b : Int) : ∀ (j k i m : Nat) (x : Int) (t : List Int), k + j = i → i ≤ 7 → 0 ≤ x → x ≤ 9223372036854775807 → t.length ≤ 1000 →
    L_spec_HashEnd (m + j + 1) (.c2 b (i : Int) x (k : Int) h t) = L_spec_HashEnd m (.c1 b ((i : Int) - 1) h (t ++ [x / 256 ^ j % 256])) := by
  intro j
  induction j with
  | zero =>
    intro k i m x t hk hi hx hx2 ht
    have e : w64 ((i : Int) - 1) = (i : Int) - 1 := w64_id (by omega) (by omega)
    have e2 : w8 (x.tmod 256) = x % 256 := by rw [Int.tmod_eq_emod_of_nonneg hx, w8_id (by omega) (by omega)]
    rw [L_spec_HashEnd]
    simp only [B_spec_HashEnd, e, e2]
    rw [cond_f (by simp; omega), cond_t (by simp; omega), Int.pow_zero, Int.ediv_one]
  | succ j ih =>
    intro k i m x t hk hi hx hx2 ht
    have e : w64 ((k : Int) + 1) = ((k + 1 : Nat) : Int) := by rw [w64_id (by omega) (by omega)]; rfl
    have e2 : w64 (x.tdiv 256) = x / 256 := by rw [Int.tdiv_eq_ediv_of_nonneg hx, w64_id (by omega) (by omega)]
    rw [show m + (j + 1) + 1 = (m + j + 1) + 1 by omega, L_spec_HashEnd]
    simp only [B_spec_HashEnd, e, e2]
    rw [cond_t (by simp; omega), ih (k + 1) i m (x / 256) t (by omega) hi (by omega) (by omega) ht, div_step]
theorem hend1 (h : SHasher) (b : Int) (hb : 0 ≤ b) (hb2 : b ≤ 9223372036854775807) : ∀ (i m : Nat) (t : List Int), i ≤ 8 → t.length + i ≤ 900 → L_spec_HashEnd (m + bigCost i) (.c1 b ((i : Int) - 1) h t) = L_spec_HashEnd m (.c1 b (-1) h (t ++ bigL b i)) := by
  intro i
  induction i with
  | zero => intro m t _ _; simp [bigCost, bigL]
  | succ i ih =>
    intro m t hi ht
    rw [bigCost, show m + (bigCost i + (i + 2)) = (m + bigCost i) + i + 1 + 1 by omega, L_spec_HashEnd, show ((i + 1 : Nat) : Int) - 1 = (i : Int) by omega]
    simp only [B_spec_HashEnd]
    rw [cond_t (by simp), show (0 : Int) = ((0 : Nat) : Int) from rfl, hend2 h b i 0 i _ b t (by omega) (by omega) hb hb2 (by omega), ih m _ (by omega) (by simp; omega)]
    simp [bigL]
theorem bigL_big8 {b : Int} (h : 0 ≤ b) (h2 : b < 1099511627776) : bigL b 8 = big8 b := by
  simp only [bigL, big8, List.cons.injEq, and_true]
  omega
theorem hend3 (r : Reg) (hr : r.ok) (t : List Int) (ht : Byt t) (n : Nat) (hn : t.length = 64 * n) (hn2 : n ≤ 100) : ∀ (j i m : Nat), i + j = n → L_spec_HashEnd (m + j + 1) (.c3 ((64 * i : Nat) : Int) t (comps i r t).l keysL) = some (ofBytes (bytesL (comps n r t).l)) := by
  intro j
  induction j with
  | zero =>
    intro i m h
    obtain rfl : i = n := by omega
    rw [L_spec_HashEnd]
    simp only [B_spec_HashEnd]
    rw [cond_f (by simp; omega), p_spec_l05Bytes (Reg.l_r (comps_ok hr _ _)) (by simp [Reg.l]), Option.bind_some]
  | succ j ih =>
    intro i m h
    have e : w64 (((64 * i : Nat) : Int) + 64) = ((64 * (i + 1) : Nat) : Int) := by rw [w64_id (by omega) (by omega)]; omega
    have hl : ((t.drop (64 * i)).take (64 * (i + 1) - 64 * i)).length = 64 := by rw [List.length_take, List.length_drop]; omega
    have hby : Byt ((t.drop (64 * i)).take (64 * (i + 1) - 64 * i)) := fun x hx => ht x (List.mem_of_mem_drop (List.mem_of_mem_take hx))
    rw [show m + (j + 1) + 1 = (m + j + 1) + 1 by omega, L_spec_HashEnd]
    simp only [B_spec_HashEnd, e, Int.toNat_natCast]
    rw [cond_t (by simp; omega), cond_t (by simp; omega), p_spec_l05Round (comps_ok hr _ _) (by rw [ofBytes_size, hl]), Option.bind_some, bs_ofBytes hby, show 64 * (i + 1) - 64 * i = 64 by omega, ← comps_last]
    exact ih (i + 1) m (by omega)
theorem hend0 (h : SHasher) (r : List Int) (hr : r.length < 64) : ∀ (j i m : Nat), i + j = (119 - r.length) % 64 → L_spec_HashEnd (m + j + 1) (.c0 h (r ++ 128 :: List.replicate i 0)) = L_spec_HashEnd m (.c1 (w64 (8 * h.fCount)) 7 h (r ++ 128 :: List.replicate ((119 - r.length) % 64) 0)) := by
  intro j
  induction j with
  | zero =>
    intro i m hi
    rw [L_spec_HashEnd]
    simp only [B_spec_HashEnd]
    rw [cond_f (by rw [Int.tmod_eq_emod_of_nonneg (by omega)]; simp; omega), show i = (119 - r.length) % 64 by omega]
  | succ j ih =>
    intro i m hi
    rw [show m + (j + 1) + 1 = (m + j + 1) + 1 by omega, L_spec_HashEnd]
    simp only [B_spec_HashEnd]
    rw [cond_t (by rw [Int.tmod_eq_emod_of_nonneg (by omega)]; simp; omega), cond_t (by simp; omega)]
    have e : (r ++ 128 :: List.replicate i (0 : Int)) ++ [0] = r ++ 128 :: List.replicate (i + 1) 0 := by
      rw [List.replicate_succ']; simp
    rw [e]
    exact ih (i + 1) m (by omega)
theorem p_spec_HashEnd {r : Reg} (hr : r.ok) {s : ByteArray} {n : Nat} (hs : s.size = n % 64) (hn : n ≤ 1000000000) : spec_HashEnd ⟨ofBytes (bytesL r.l), s, (n : Int)⟩ = some (ofBytes (bytesL (comps ((s.size + (endL n).length) / 64) r (bs s ++ endL n)).l)) := by
  have e0 : spec_HasherOk ⟨ofBytes (bytesL r.l), s, (n : Int)⟩ = some true := p_spec_HasherOk (by rw [ofBytes_size, bytesL_len]; rfl) (by simp only; omega) (by simp only; omega) (by simp only; omega)
  have hl := bs_len s
  obtain ⟨m, hm⟩ : ∃ m, gas = ((m + ((s.size + (endL n).length) / 64) + 1 + 1 + bigCost 8) + ((119 - (bs s).length) % 64) + 1) := ⟨gas - (((s.size + (endL n).length) / 64) + 1 + 1 + bigCost 8 + ((119 - (bs s).length) % 64) + 1), by
    have := gas_lt (n := 1000) (by omega)
    have h2 := endL_len n
    have h3 : bigCost 8 = 44 := rfl
    omega⟩
  have hw : w64 (8 * (n : Int)) = 8 * (n : Int) := w64_id (by omega) (by omega)
  have hrep : (bs s ++ 128 :: List.replicate ((119 - (bs s).length) % 64) 0) ++ bigL (8 * (n : Int)) 8 = bs s ++ endL n := by
    rw [bigL_big8 (by omega) (by omega), endL, hl, hs, show (119 - n % 64) % 64 = (119 - n % 64) % 64 from rfl]
    simp
  rw [spec_HashEnd, E_spec_HashEnd, e0, Option.bind_some, cond_f (by rfl), cond_t (by simp; omega), bytesOf_bs, cond_t (by rw [hl]; simp; omega), hm]
  have h0 := hend0 ⟨ofBytes (bytesL r.l), s, (n : Int)⟩ (bs s) (by omega) ((119 - (bs s).length) % 64) 0 (m + ((s.size + (endL n).length) / 64) + 1 + 1 + bigCost 8) (by omega)
  rw [List.replicate_zero] at h0
  rw [h0, show (7 : Int) = ((8 : Nat) : Int) - 1 from rfl]
  simp only [hw]
  rw [hend1 _ _ (by omega) (by omega) 8 _ _ (by omega) (by simp; omega), hrep, L_spec_HashEnd]
  simp only [B_spec_HashEnd]
  rw [cond_f (by simp), words_state hr, Option.bind_some, keys_e, Option.bind_some]
  have hb : Byt (bs s ++ endL n) := fun x hx => by
    rcases List.mem_append.1 hx with hx | hx
    · exact byt_bs s x hx
    · exact endL_byt n x hx
  have hlen : (bs s ++ endL n).length = 64 * ((s.size + (endL n).length) / 64) := by
    have := end_whole n
    rw [List.length_append, hl]
    omega
  exact hend3 r hr _ hb _ hlen (by have := endL_len n; omega) ((s.size + (endL n).length) / 64) 0 m (by omega)
theorem dig_split (b : List Int) : comps ((b.length + (endL b.length).length) / 64) reg0 (b ++ endL b.length) = comps ((b.length % 64 + (endL b.length).length) / 64) (comps (b.length / 64) reg0 b) (b.drop (64 * (b.length / 64)) ++ endL b.length) := by
  rw [show (b.length + (endL b.length).length) / 64 = b.length / 64 + (b.length % 64 + (endL b.length).length) / 64 by omega, comps_add, comps_app _ _ _ _ (by omega), List.drop_append_of_le_length (by omega)]
theorem p_spec_DigestOf {s : ByteArray} (hs : s.size ≤ 1000000000) : spec_DigestOf s = some (dig s) := by
  have h1 : (s.extract (64 * (s.size / 64)) s.size).size = s.size % 64 := by simp; omega
  have h := p_spec_HashEnd (comps_ok reg0_ok (s.size / 64) (bs s)) (s := s.extract (64 * (s.size / 64)) s.size) h1 hs
  rw [bs_extract, h1, List.take_of_length_le (by rw [bs_len]; omega)] at h
  rw [spec_DigestOf, E_spec_DigestOf, p_spec_HasherNew, Option.bind_some, p_spec_HashMore0 hs, Option.bind_some, h, Option.bind_some, dig, digL, dig_split, bs_len]
def xb (x y : Int) : Int := w8 (((BitVec.toNat ((BitVec.ofInt (IntKind.bits IntKind.u8) x) ^^^ (BitVec.ofInt (IntKind.bits IntKind.u8) y))) : Nat) : Int)
theorem xb_e (x y : Int) : w8 (((BitVec.toNat ((BitVec.ofInt (IntKind.bits IntKind.u8) x) ^^^ (BitVec.ofInt (IntKind.bits IntKind.u8) y))) : Nat) : Int) = xb x y := rfl
theorem xb_byte (x y : Int) : 0 ≤ xb x y ∧ xb x y ≤ 255 := by unfold xb; rw [w8_mod]; omega
theorem xb_xb {x : Int} (h : 0 ≤ x ∧ x ≤ 255) (y : Int) : xb (xb x y) y = x := by
  have e : ∀ (a b : BitVec 8), BitVec.ofInt 8 (((a ^^^ b).toNat : Nat) : Int) ^^^ b = a := by
    intro a b
    rw [BitVec.ofInt_natCast, BitVec.ofNat_toNat, BitVec.setWidth_eq, BitVec.xor_assoc, BitVec.xor_self, BitVec.xor_zero]
  have h8 : ∀ (a b : BitVec 8), w8 (((a ^^^ b).toNat : Nat) : Int) = (((a ^^^ b).toNat : Nat) : Int) := fun a b => by
    have := (a ^^^ b).isLt; rw [w8_id (by omega) (by omega)]
  unfold xb
  show w8 (((BitVec.ofInt 8 (w8 (((BitVec.ofInt 8 x ^^^ BitVec.ofInt 8 y).toNat : Nat) : Int)) ^^^ BitVec.ofInt 8 y).toNat : Nat) : Int) = x
  rw [h8 (BitVec.ofInt 8 x), e, BitVec.toNat_ofInt, w8_mod]
  omega
def xorB (x : Int) (l : List Int) : List Int := l.map fun b => xb b x
theorem xorB_len (x : Int) (l : List Int) : (xorB x l).length = l.length := by simp [xorB]
theorem xorB_byt (x : Int) (l : List Int) : Byt (xorB x l) := fun n hn => by
  simp only [xorB, List.mem_map] at hn
  obtain ⟨b, _, rfl⟩ := hn
  exact xb_byte _ _
def keyL (k : List Int) : List Int := k ++ List.replicate (64 - k.length) 0
def key64 (k : List Int) : List Int := if 64 < k.length then keyL (digL k) else keyL k
theorem key64_len (k : List Int) : (key64 k).length = 64 := by
  unfold key64 keyL
  split
  · rw [List.length_append, List.length_replicate, digL_len]
  · rw [List.length_append, List.length_replicate]; omega
def macL (k s : List Int) : List Int := digL (xorB 92 (key64 k) ++ digL (xorB 54 (key64 k) ++ s))
def mac (k s : ByteArray) : ByteArray := ofBytes (macL (bs k) (bs s))
theorem macL_len (k s : List Int) : (macL k s).length = 32 := digL_len _
theorem macL_byt (k s : List Int) : Byt (macL k s) := digL_byt _
theorem bs_mac (k s : ByteArray) : bs (mac k s) = macL (bs k) (bs s) := bs_ofBytes (macL_byt _ _)
theorem mac_size (k s : ByteArray) : (mac k s).size = 32 := by rw [mac, ofBytes_size, macL_len]
/-- A row that is turned place by place. -/
theorem map_step {α : Type} (f : α → α) {l : List α} {i : Nat} (h : i < l.length) : ((l.take i).map f ++ l.drop i).set i (f l[i]) = (l.take (i + 1)).map f ++ l.drop (i + 1) := by
  rw [drop_at h, set_app (by simp; omega), take_at h, List.map_append, List.append_assoc]
  rfl
theorem map_at {f : Int → Int} {l : List Int} {i : Nat} (h : i < l.length) : ((l.take i).map f ++ l.drop i).getD i 0 = l[i] := by
  rw [getD_app2 (by simp; omega)]
  simp [List.getD, Nat.min_eq_left (Nat.le_of_lt h), h]
theorem keyL_at (k : List Int) {i : Nat} : (keyL k).getD i 0 = k.getD i 0 := by
  by_cases h : i < k.length
  · rw [keyL, getD_app1 h]
  · rw [keyL, getD_app2 (by omega)]
    simp only [List.getD]
    rw [List.getElem?_eq_none (by omega : k.length ≤ i)]
    by_cases h2 : i - k.length < 64 - k.length
    · rw [List.getElem?_replicate, if_pos h2]; rfl
    · rw [List.getElem?_replicate, if_neg h2]
theorem mask_step (f : Int → Int) {l : List Int} (hl : l.length = 64) {i : Nat} (h : i < 64) (y : Int) (hy : y = f (l.getD i 0)) : ((l.take i).map f ++ List.replicate (64 - i) 0).set i y = (l.take (i + 1)).map f ++ List.replicate (64 - (i + 1)) 0 := by
  rw [show 64 - i = (64 - (i + 1)) + 1 by omega, List.replicate_succ, set_app (by simp; omega), take_at (by omega), hy, getD_at (by omega), List.map_append, List.append_assoc]
  rfl
theorem p_spec_l06Mask0 {k : ByteArray} (hk : k.size ≤ 64) (x : Int) : L_spec_l06Mask gas (.c0 k x (0 : Int) (List.replicate (64 : Int).toNat (0 : Int))) = some (ofBytes (xorB x (keyL (bs k)))) := by
  have hl : (keyL (bs k)).length = 64 := by rw [keyL, List.length_append, List.length_replicate, bs_len]; omega
  have key := loopN (A := Unit) (n := 64) (Lp := L_spec_l06Mask) (st := fun i _ => .c0 k x (i : Int) (((keyL (bs k)).take i).map (fun b => xb b x) ++ List.replicate (64 - i) 0)) (Inv := fun _ _ => True) (out := fun _ _ => some (ofBytes (xorB x (keyL (bs k)))))
    (fun m _ _ => by
      rw [L_spec_l06Mask]
      simp only [B_spec_l06Mask]
      rw [cond_f (by simp), List.take_of_length_le (by omega), Nat.sub_self, List.replicate_zero, List.append_nil]; rfl)
    (fun m i _ hi _ => .inr ⟨(), by
      have e : w64 ((i : Int) + 1) = ((i + 1 : Nat) : Int) := by rw [w64_id (by omega) (by omega)]; rfl
      have hlen : (((keyL (bs k)).take i).map (fun b => xb b x) ++ List.replicate (64 - i) 0).length = 64 := by simp [hl]; omega
      have hm : (((keyL (bs k)).take i).map (fun b => xb b x)).length = i := by simp [hl]; omega
      rw [L_spec_l06Mask]
      simp only [B_spec_l06Mask, e, Int.toNat_natCast, List.length_set, hlen, xb_e]
      rw [cond_t (by simp; omega)]
      by_cases h : i < k.size
      · rw [cond_t (by simp; omega), cond_t (by simp; omega), cond_t (by simp; omega), cond_t (by simp; omega), cond_t (by simp; omega), bt_getD h]
        rw [List.set_set, getD_set (by omega)]
        rw [mask_step (fun b => xb b x) hl hi _ (by rw [keyL_at])]
      · rw [cond_f (by simp; omega), cond_t (by simp; omega), cond_t (by simp; omega)]
        rw [getD_app2 (by omega), hm, Nat.sub_self]
        rw [mask_step (fun b => xb b x) hl hi _ (by
          rw [keyL_at, show (bs k).getD i 0 = 0 by simp [List.getD, List.getElem?_eq_none (show (bs k).length ≤ i by rw [bs_len]; omega)]]
          rw [show 64 - i = (63 - i) + 1 by omega, List.replicate_succ]; rfl)], trivial, rfl⟩)
  exact key gas 0 () (Nat.zero_le _) (gas_lt (by omega)) trivial
theorem p_spec_l06Mask {k : ByteArray} (hk : k.size ≤ 1000000000) (x : Int) : spec_l06Mask k x = some (ofBytes (xorB x (key64 (bs k)))) := by
  rw [spec_l06Mask, E_spec_l06Mask]
  by_cases h : 64 < k.size
  · rw [cond_t (by simp; omega), p_spec_DigestOf hk, Option.bind_some, p_spec_l06Mask0 (by rw [dig_size]; omega), key64, if_pos (by rw [bs_len]; omega), bs_dig]
  · rw [cond_f (by simp; omega), p_spec_l06Mask0 (by omega), key64, if_neg (by rw [bs_len]; omega)]
theorem p_spec_MacOf {k s : ByteArray} (hk : k.size ≤ 900000000) (hs : s.size ≤ 900000000) : spec_MacOf k s = some (mac k s) := by
  have x1 := xorB_len 92 (key64 (bs k))
  have x2 := xorB_len 54 (key64 (bs k))
  have x3 := key64_len (bs k)
  rw [spec_MacOf, E_spec_MacOf, p_spec_l06Mask (by omega), Option.bind_some, p_spec_l06Mask (by omega), Option.bind_some, cond_t (by rw [ofBytes_size, decide_eq_true_eq]; omega)]
  rw [p_spec_DigestOf (by rw [ByteArray.size_append, ofBytes_size]; omega), Option.bind_some, cond_t (by rw [ofBytes_size, dig_size, decide_eq_true_eq]; omega), p_spec_DigestOf (by rw [ByteArray.size_append, ofBytes_size, dig_size]; omega), Option.bind_some]
  rw [dig, bs_append, bs_dig, bs_append, bs_ofBytes (xorB_byt _ _), bs_ofBytes (xorB_byt _ _), mac, macL]
/-- Many bytes of a key and a number. -/
def maskM (k v : List Int) : Nat → List Int
  | 0 => []
  | i + 1 => maskM k v i ++ macL k (109 :: (v ++ [(i : Int)]))
theorem maskM_len (k v : List Int) (i : Nat) : (maskM k v i).length = 32 * i := by
  induction i with
  | zero => rfl
  | succ i ih => rw [maskM, List.length_append, ih, macL_len]; omega
theorem maskM_byt (k v : List Int) (i : Nat) : Byt (maskM k v i) := by
  induction i with
  | zero => intro n hn; cases hn
  | succ i ih =>
    intro n hn
    rcases List.mem_append.1 hn with hn | hn
    · exact ih n hn
    · exact macL_byt _ _ n hn
def maskL (k v : List Int) (n : Nat) : List Int := (maskM k v ((n + 31) / 32)).take n
theorem maskL_len (k v : List Int) (n : Nat) : (maskL k v n).length = n := by rw [maskL, List.length_take, maskM_len]; omega
theorem maskL_byt (k v : List Int) (n : Nat) : Byt (maskL k v n) := fun x hx => maskM_byt _ _ _ x (List.mem_of_mem_take hx)
def maskOk (num : Int) (n : Int) : Bool := inR num 0 1000000000 && inR n 0 8000
def maskT (k : ByteArray) (num : Int) (n : Int) : ByteArray × Bool := bif maskOk num n then (ofBytes (maskL (bs k) (varL num) n.toNat), true) else (⟨#[]⟩, false)
theorem varL_byt : ∀ {n : Int}, 0 ≤ n → Byt (varL n) := by
  intro n
  induction n using varL.induct with
  | case1 n hn ih =>
    intro h x hx
    rw [varL, if_pos hn] at hx
    rcases List.mem_cons.1 hx with rfl | hx
    · omega
    · exact ih (by omega) x hx
  | case2 n hn =>
    intro h x hx
    rw [varL, if_neg hn] at hx
    rw [List.mem_singleton] at hx
    subst hx
    rw [w8_mod]; omega
theorem mask_in (k : ByteArray) {num : Int} (hn : 0 ≤ num) (hn2 : num ≤ 1000000000) (i : Nat) (hi : i ≤ 255) :
    mac k (((⟨#[109]⟩ : ByteArray) ++ ofBytes (varL num)) ++ ofBytes [(i : Int)]) = ofBytes (macL (bs k) (109 :: (varL num ++ [(i : Int)]))) := by
  have e : bs (⟨#[109]⟩ : ByteArray) = [109] := rfl
  rw [mac, bs_append, bs_append, bs_ofBytes (varL_byt hn), e, bs_ofBytes (fun x hx => by rw [List.mem_singleton] at hx; omega)]
  rfl
def xorL (a b : List Int) : List Int := List.zipWith xb a b
theorem xorL_len {a b : List Int} (h : a.length ≤ b.length) : (xorL a b).length = a.length := by rw [xorL, List.length_zipWith]; omega
theorem xorL_byt (a b : List Int) : Byt (xorL a b) := by
  intro n hn
  rw [xorL, List.mem_iff_getElem] at hn
  obtain ⟨i, hi, rfl⟩ := hn
  rw [List.getElem_zipWith]
  exact xb_byte _ _
theorem zip_take {α : Type} (f : α → α → α) : ∀ (a b : List α), List.zipWith f a (b.take a.length) = List.zipWith f a b
  | [], _ => rfl
  | _ :: _, [] => rfl
  | x :: a, y :: b => by rw [List.length_cons, List.take_succ_cons, List.zipWith_cons_cons, List.zipWith_cons_cons, zip_take f a b]
theorem xor_step {a b : List Int} {i : Nat} (h : i < a.length) (h2 : i < b.length) : (List.zipWith xb (a.take i) (b.take i) ++ a.drop i).set i (xb a[i] (b.getD i 0)) = List.zipWith xb (a.take (i + 1)) (b.take (i + 1)) ++ a.drop (i + 1) := by
  rw [drop_at h, set_app (by simp; omega), take_at h, take_at h2, getD_at h2, List.zipWith_append (by simp; omega), List.append_assoc]
  rfl
theorem xor_at {a b : List Int} {i : Nat} (h : i < a.length) (h2 : i < b.length) : (List.zipWith xb (a.take i) (b.take i) ++ a.drop i).getD i 0 = a[i] := by
  rw [getD_app2 (by simp; omega)]
  simp [List.getD, Nat.min_eq_left (Nat.le_of_lt h), Nat.min_eq_left (Nat.le_of_lt h2), h]
def tagL (k : List Int) (num : Int) (s : List Int) : List Int := (macL k (116 :: (varL num ++ s))).take 16
theorem tagL_len (k : List Int) (num : Int) (s : List Int) : (tagL k num s).length = 16 := by rw [tagL, List.length_take, macL_len]; rfl
theorem tagL_byt (k : List Int) (num : Int) (s : List Int) : Byt (tagL k num s) := fun x hx => macL_byt _ _ x (List.mem_of_mem_take hx)
def sealL (k : List Int) (num : Int) (s : List Int) : List Int := xorL s (maskL k (varL num) s.length) ++ tagL k num (xorL s (maskL k (varL num) s.length))
def lockT (k : ByteArray) (num : Int) (s : ByteArray) : ByteArray × Bool := bif maskOk num s.size then (ofBytes (sealL (bs k) num (bs s)), true) else (⟨#[]⟩, false)
def openT (k : ByteArray) (num : Int) (t : ByteArray) : ByteArray × Bool :=
  bif decide ((t.size : Int) < 16) || !(maskOk num ((t.size : Int) - 16)) then (⟨#[]⟩, false)
  else bif tagL (bs k) num ((bs t).take (t.size - 16)) == (bs t).drop (t.size - 16) then (ofBytes (xorL ((bs t).take (t.size - 16)) (maskL (bs k) (varL num) (t.size - 16))), true)
  else (⟨#[]⟩, false)
theorem maskOk_iff {num n : Int} : maskOk num n = true ↔ (0 ≤ num ∧ num ≤ 1000000000) ∧ 0 ≤ n ∧ n ≤ 8000 := by rw [maskOk, Bool.and_eq_true, inR_iff, inR_iff]
theorem p_spec_Mask {k : ByteArray} {num n : Int} (hk : k.size ≤ 900000000) : spec_Mask k num n = some (maskT k num n) := by
  rw [spec_Mask, E_spec_Mask, p_spec_l01In, Option.bind_some, maskT, maskOk]
  cases h : inR num 0 1000000000
  · rfl
  · rw [inR_iff] at h
    rw [cond_f (by rfl), p_spec_l01In, Option.bind_some]
    cases h2 : inR n 0 8000
    · rfl
    · rw [inR_iff] at h2
      rw [cond_f (by rfl), Bool.and_self, cond_true]
      have hv := varL_len10 (n := num) (by omega)
      have hvb := varL_byt h.1
      have key := loopN (A := Unit) (n := (n.toNat + 31) / 32) (Lp := L_spec_Mask) (st := fun i _ => .c0 k num n (i : Int) (maskM (bs k) (varL num) i)) (Inv := fun _ _ => True) (out := fun _ _ => some (ofBytes (maskL (bs k) (varL num) n.toNat), true))
        (fun m _ _ => by
          rw [L_spec_Mask]
          simp only [B_spec_Mask]
          rw [cond_f (by rw [maskM_len, decide_eq_false_iff_not]; omega), cond_t (by rw [maskM_len]; simp; omega)]
          rfl)
        (fun m i _ hi _ => .inr ⟨(), by
          have e : w64 ((i : Int) + 1) = ((i + 1 : Nat) : Int) := by rw [w64_id (by omega) (by omega)]; rfl
          have h9 : (⟨#[109]⟩ : ByteArray).size = 1 := rfl
          rw [L_spec_Mask]
          simp only [B_spec_Mask, e]
          rw [cond_t (by rw [maskM_len, decide_eq_true_eq]; omega), p_spec_l01Var (by omega), Option.bind_some, cond_t (by rw [ofBytes_size, h9, decide_eq_true_eq]; omega), p_spec_l06Byte (by omega) (by omega), Option.bind_some, cond_t (by rw [ByteArray.size_append, ofBytes_size, ofBytes_size, h9, decide_eq_true_eq, List.length_singleton]; omega)]
          rw [p_spec_MacOf hk (by rw [ByteArray.size_append, ByteArray.size_append, ofBytes_size, ofBytes_size, h9, List.length_singleton]; omega), Option.bind_some, mask_in k h.1 h.2 i (by omega), bytesOf_bs, bs_ofBytes (macL_byt _ _), cond_t (by rw [ofBytes_size, macL_len]; rfl), cond_t (by rw [maskM_len, macL_len, decide_eq_true_eq]; omega)]
          rfl, trivial, rfl⟩)
      exact key gas 0 () (Nat.zero_le _) (gas_lt (by omega)) trivial
theorem p_spec_l18Xor {a b : ByteArray} (ha : a.size ≤ 140737488351232) (h : a.size ≤ b.size) : spec_l18Xor a b = some (ofBytes (xorL (bs a) (bs b))) := by
  have hl := bs_len a
  have hl2 := bs_len b
  have key := loopN (A := Unit) (n := (bs a).length) (Lp := L_spec_l18Xor) (st := fun i _ => .c0 b (i : Int) (List.zipWith xb ((bs a).take i) ((bs b).take i) ++ (bs a).drop i)) (Inv := fun _ _ => True) (out := fun _ _ => some (ofBytes (xorL (bs a) (bs b))))
    (fun m _ _ => by
      rw [L_spec_l18Xor]
      simp only [B_spec_l18Xor]
      rw [cond_f (by simp; omega), List.take_length, List.drop_length, List.append_nil, xorL, zip_take])
    (fun m i _ hi _ => .inr ⟨(), by
      have e : w64 ((i : Int) + 1) = ((i + 1 : Nat) : Int) := by rw [w64_id (by omega) (by omega)]; rfl
      have hlen : (List.zipWith xb ((bs a).take i) ((bs b).take i) ++ (bs a).drop i).length = (bs a).length := by simp; omega
      rw [L_spec_l18Xor]
      simp only [B_spec_l18Xor, e, Int.toNat_natCast, hlen, xb_e, xor_at hi (show i < (bs b).length by omega)]
      rw [cond_t (by simp; omega), cond_t (by simp; omega), cond_t (by simp; omega), cond_t (by simp; omega), bt_getD (by omega), xor_step hi (by omega)], trivial, rfl⟩)
  rw [spec_l18Xor, E_spec_l18Xor, cond_t (by simp; omega), bytesOf_bs]
  exact key gas 0 () (Nat.zero_le _) (gas_lt (by omega)) trivial
theorem p_spec_l18Tag {k s : ByteArray} {num : Int} (hk : k.size ≤ 900000000) (hn : 0 ≤ num ∧ num ≤ 1000000000) (hs : s.size ≤ 800000000) : spec_l18Tag k num s = some (ofBytes (tagL (bs k) num (bs s))) := by
  have hv := varL_len10 (n := num) (by omega)
  have h9 : (⟨#[116]⟩ : ByteArray).size = 1 := rfl
  have e : bs (⟨#[116]⟩ : ByteArray) = [116] := rfl
  have h16 : (16 : Int).toNat = 16 := rfl
  rw [spec_l18Tag, E_spec_l18Tag, p_spec_l01Var (by omega), Option.bind_some, cond_t (by rw [ofBytes_size, h9, decide_eq_true_eq]; omega), cond_t (by rw [ByteArray.size_append, ofBytes_size, h9, decide_eq_true_eq]; omega)]
  rw [p_spec_MacOf hk (by rw [ByteArray.size_append, ByteArray.size_append, ofBytes_size, h9]; omega), Option.bind_some, cond_t (by rw [mac_size]; decide)]
  refine congrArg some (bs_inj ?_)
  rw [bs_extract, bs_mac, h16, bs_ofBytes (tagL_byt _ _ _), bs_append, bs_append, e, bs_ofBytes (varL_byt hn.1), tagL, List.drop_zero, List.append_assoc]
  rfl
theorem p_spec_LockText {k s : ByteArray} {num : Int} (hk : k.size ≤ 900000000) (hs : s.size ≤ 800000000) : spec_LockText k num s = some (lockT k num s) := by
  rw [spec_LockText, E_spec_LockText, p_spec_Mask hk, Option.bind_some, maskT, lockT]
  cases h : maskOk num s.size
  · rfl
  · have h' := maskOk_iff.1 h
    have hm := maskL_len (bs k) (varL num) ((s.size : Int).toNat)
    have hl := bs_len s
    rw [cond_true, cond_true, cond_f (by rfl), p_spec_l18Xor (by omega) (by rw [ofBytes_size, hm]; omega), Option.bind_some, bs_ofBytes (maskL_byt _ _ _)]
    have hx : (xorL (bs s) (maskL (bs k) (varL num) (s.size : Int).toNat)).length = s.size := by rw [xorL_len (by omega), hl]
    rw [p_spec_l18Tag hk h'.1 (by rw [ofBytes_size, hx]; omega), Option.bind_some, bs_ofBytes (xorL_byt _ _), cond_t (by rw [ofBytes_size, ofBytes_size, hx, tagL_len, decide_eq_true_eq]; omega)]
    refine congrArg (fun x => some (x, true)) (bs_inj ?_)
    rw [bs_append, bs_ofBytes (xorL_byt _ _), bs_ofBytes (tagL_byt _ _ _), bs_ofBytes (fun x hx => by
      rcases List.mem_append.1 hx with hx | hx
      · exact xorL_byt _ _ x hx
      · exact tagL_byt _ _ _ x hx), sealL, hl]
    rfl
def crc1 (s : Int) : Int := if s % 2 = 1 then xr (s / 2) 3558460437 else s / 2
def crcN : Nat → Int → Int
  | 0, s => s
  | n + 1, s => crcN n (crc1 s)
def crcL (s : Int) (l : List Int) : Int := l.foldl (fun s b => crcN 8 (xr s b)) s
theorem r32_crc1 {s : Int} (h : R32 s) : R32 (crc1 s) := by
  unfold crc1; split
  · exact r32_xr _ _
  · unfold R32 at *; omega
theorem r32_crcN : ∀ (n : Nat) {s : Int}, R32 s → R32 (crcN n s)
  | 0, _, h => h
  | n + 1, _, h => r32_crcN n (r32_crc1 h)
theorem r32_crcL : ∀ (l : List Int) {s : Int}, R32 s → R32 (crcL s l)
  | [], _, h => h
  | b :: l, s, _ => r32_crcL l (r32_crcN 8 (r32_xr s b))
def sumL (l : List Int) : Int := crcL 4294967295 l
theorem sumL_r (l : List Int) : R32 (sumL l) := r32_crcL l (by unfold R32; omega)
theorem sumS_in (t : ByteArray) (i : Nat) (hi : i < t.size) (ht : t.size ≤ 140737488351232) : ∀ (j k m : Nat) (s : Int), k + j = 8 → R32 s → L_spec_SumMore (m + j + 1) (.c1 s t (i : Int) (k : Int)) = L_spec_SumMore m (.c0 (crcN j s) t ((i + 1 : Nat) : Int)) := by
  intro j
  induction j with
  | zero =>
    intro k m s hk hs
    have e : w64 ((i : Int) + 1) = ((i + 1 : Nat) : Int) := by rw [w64_id (by omega) (by omega)]; rfl
    rw [L_spec_SumMore]
    simp only [B_spec_SumMore, e]
    rw [cond_f (by simp; omega)]
    rfl
  | succ j ih =>
    intro k m s hk hs
    have e : w64 ((k : Int) + 1) = ((k + 1 : Nat) : Int) := by rw [w64_id (by omega) (by omega)]; rfl
    have h2 : w32 (s.tdiv 2) = s / 2 := by
      obtain ⟨h1, h2⟩ := hs
      rw [Int.tdiv_eq_ediv_of_nonneg h1, w32_id (by omega) (by omega)]
    have h3 : s.tmod 2 = s % 2 := Int.tmod_eq_emod_of_nonneg hs.1
    rw [show m + (j + 1) + 1 = (m + j + 1) + 1 by omega, L_spec_SumMore]
    simp only [B_spec_SumMore, e, h2, h3, xr_e]
    rw [cond_t (by simp; omega), crcN]
    by_cases h : s % 2 = 1
    · rw [cond_t (by simp [h]), ih (k + 1) m _ (by omega) (r32_xr _ _), crc1, if_pos h]
    · rw [cond_f (by simp [h]), ih (k + 1) m _ (by omega) (by unfold R32 at *; omega), crc1, if_neg h]
theorem p_spec_SumMore {t : ByteArray} {s : Int} (ht : t.size ≤ 140737488351232) : spec_SumMore s t = some (crcL s (bs t)) := by
  have hl := bs_len t
  have key : ∀ (j i m : Nat) (s : Int), i + j = t.size → L_spec_SumMore (m + 10 * j + 1) (.c0 s t (i : Int)) = some (crcL s ((bs t).drop i)) := by
    intro j
    induction j with
    | zero =>
      intro i m s h
      rw [L_spec_SumMore]
      simp only [B_spec_SumMore]
      rw [cond_f (by simp; omega), List.drop_of_length_le (by omega)]; rfl
    | succ j ih =>
      intro i m s h
      have hb := byt_getD (byt_bs t) i
      rw [show m + 10 * (j + 1) + 1 = (m + 10 * j + 1) + 8 + 1 + 1 by omega, L_spec_SumMore]
      simp only [B_spec_SumMore, xr_e]
      rw [cond_t (by simp; omega), cond_t (by simp; omega), bt_getD (by omega), w32_id (by omega) (by omega)]
      have h1 := sumS_in t i (by omega) ht 8 0 (m + 10 * j + 1) (xr s ((bs t).getD i 0)) (by omega) (r32_xr _ _)
      rw [show ((0 : Nat) : Int) = 0 from rfl] at h1
      rw [h1, ih (i + 1) m _ (by omega), drop_at (by omega : i < (bs t).length), getD_at (by omega)]
      rfl
  obtain ⟨m, hm⟩ : ∃ m, gas = m + 10 * t.size + 1 := ⟨gas - (10 * t.size + 1), by have := gas_lt (n := 10 * t.size + 1) (by omega); omega⟩
  rw [spec_SumMore, E_spec_SumMore, hm]
  have := key t.size 0 m s (by omega)
  rw [List.drop_zero] at this
  exact this
theorem p_spec_SumOf {t : ByteArray} (ht : t.size ≤ 140737488351232) : spec_SumOf t = some (sumL (bs t)) := by
  rw [spec_SumOf, E_spec_SumOf, p_spec_SumMore ht]; rfl
theorem p_spec_l02Four {x : Int} (h : R32 x) : spec_l02Four x = some (ofBytes (four x)) := by
  obtain ⟨h1, h2⟩ := h
  have e1 : Int.fdiv x (2 ^ (Min.min (24 : Int).toNat (IntKind.bits IntKind.u32))) = x / 16777216 := Int.fdiv_eq_ediv_of_nonneg _ (by decide)
  have e2 : Int.fdiv x (2 ^ (Min.min (16 : Int).toNat (IntKind.bits IntKind.u32))) = x / 65536 := Int.fdiv_eq_ediv_of_nonneg _ (by decide)
  have e3 : Int.fdiv x (2 ^ (Min.min (8 : Int).toNat (IntKind.bits IntKind.u32))) = x / 256 := Int.fdiv_eq_ediv_of_nonneg _ (by decide)
  simp only [spec_l02Four, E_spec_l02Four, e1, e2, e3, w8_mod, four]
  rw [show x / 16777216 % 256 = x / 16777216 by omega]
theorem tl_bs (a b : ByteArray) : (a.toList == b.toList) = (bs a == bs b) := by
  rw [toList_inj, Bool.eq_iff_iff, decide_eq_true_eq, beq_iff_eq]
  exact ⟨fun h => by rw [h], bs_inj⟩
def frameL (l : List Int) : List Int := varL (l.length : Int) ++ (four (sumL l) ++ l)
def frameT (t : ByteArray) : ByteArray × Bool := bif inR (t.size : Int) 1 9000 then (ofBytes (frameL (bs t)), true) else (⟨#[]⟩, false)
theorem frameL_byt {l : List Int} (h : Byt l) : Byt (frameL l) := by
  intro x hx
  rcases List.mem_append.1 hx with hx | hx
  · exact varL_byt (by omega) x hx
  · rcases List.mem_append.1 hx with hx | hx
    · exact four_byt (sumL_r l) x hx
    · exact h x hx
theorem frame_cat (t : ByteArray) : (ofBytes (varL (t.size : Int)) ++ ofBytes (four (sumL (bs t)))) ++ t = ofBytes (frameL (bs t)) := by
  apply bs_inj
  rw [bs_append, bs_append, bs_ofBytes (varL_byt (by omega)), bs_ofBytes (four_byt (sumL_r _)), bs_ofBytes (frameL_byt (byt_bs t)), frameL, bs_len, List.append_assoc]
theorem frameT_size {t : ByteArray} (h : t.size ≤ 140737488351232) : (frameT t).1.size ≤ t.size + 14 := by
  rw [frameT]
  cases inR (t.size : Int) 1 9000
  · exact Nat.zero_le _
  · rw [cond_true, ofBytes_size, frameL, List.length_append, List.length_append, bs_len]
    have : (four (sumL (bs t))).length = 4 := rfl
    have := varL_len10 (n := (t.size : Int)) (by omega)
    omega
theorem p_spec_Frame {t : ByteArray} (h : t.size ≤ 140737488351232) : spec_Frame t = some (frameT t) := by
  rw [spec_Frame, E_spec_Frame, p_spec_l01In, Option.bind_some, frameT]
  cases h1 : inR (t.size : Int) 1 9000
  · rfl
  · rw [inR_iff] at h1
    have := varL_len10 (n := (t.size : Int)) (by omega)
    rw [cond_f (by rfl), p_spec_l01Var (by omega), Option.bind_some, p_spec_SumOf h, Option.bind_some, p_spec_l02Four (sumL_r _), Option.bind_some, cond_t (by rw [ofBytes_size, ofBytes_size, decide_eq_true_eq]; have : (four (sumL (bs t))).length = 4 := rfl; omega)]
    rw [cond_t (by rw [ByteArray.size_append, ofBytes_size, ofBytes_size, decide_eq_true_eq]; have : (four (sumL (bs t))).length = 4 := rfl; omega), frame_cat, cond_true]
/-- What a right record is. -/
theorem recText_cases {r : SRec} (h : (recText r).2 = true) : (r.fKind = 1 ∧ r.fText.size = 32) ∨ (r.fKind = 2 ∧ 0 ≤ r.fNum ∧ r.fNum ≤ 3) ∨ (r.fKind = 3 ∧ thingOk r.fThing = true) ∨ (r.fKind = 4 ∧ 1 ≤ r.fNum ∧ r.fNum ≤ 1000) := by
  rw [recText] at h
  by_cases h1 : r.fKind = 1
  · rw [show (r.fKind == 1) = true by rw [beq_iff_eq]; exact h1, cond_true] at h
    cases hc : ((r.fText.size : Int) == 32 && r.fNum == 0 && isZ r.fThing)
    · rw [hc] at h; cases h
    · rw [Bool.and_eq_true, Bool.and_eq_true, beq_iff_eq] at hc
      exact .inl ⟨h1, by omega⟩
  rw [show (r.fKind == 1) = false by rw [beq_eq_false_iff_ne]; exact h1, cond_false] at h
  by_cases h2 : r.fKind = 2
  · rw [show (r.fKind == 2) = true by rw [beq_iff_eq]; exact h2, cond_true] at h
    cases hc : (isE r.fText && isZ r.fThing && inR r.fNum 0 3)
    · rw [hc] at h; cases h
    · rw [Bool.and_eq_true, inR_iff] at hc
      exact .inr (.inl ⟨h2, hc.2⟩)
  rw [show (r.fKind == 2) = false by rw [beq_eq_false_iff_ne]; exact h2, cond_false] at h
  by_cases h3 : r.fKind = 3
  · rw [show (r.fKind == 3) = true by rw [beq_iff_eq]; exact h3, cond_true] at h
    cases hc : ((thingText r.fThing).2 && isE r.fText && r.fNum == 0)
    · rw [hc] at h; cases h
    · rw [Bool.and_eq_true, Bool.and_eq_true] at hc
      refine .inr (.inr (.inl ⟨h3, ?_⟩))
      have h4 := hc.1.1
      rw [thingText] at h4
      cases ho : thingOk r.fThing
      · rw [ho] at h4; cases h4
      · rfl
  rw [show (r.fKind == 3) = false by rw [beq_eq_false_iff_ne]; exact h3, cond_false] at h
  by_cases h4 : r.fKind = 4
  · rw [show (r.fKind == 4) = true by rw [beq_iff_eq]; exact h4, cond_true] at h
    cases hc : (isE r.fText && isZ r.fThing && inR r.fNum 1 1000)
    · rw [hc] at h; cases h
    · rw [Bool.and_eq_true, inR_iff] at hc
      exact .inr (.inr (.inr ⟨h4, hc.2⟩))
  rw [show (r.fKind == 4) = false by rw [beq_eq_false_iff_ne]; exact h4] at h
  cases h
theorem recText_size (r : SRec) : (recText r).1.size ≤ 300 := by
  rw [recText]
  have one : ∀ n : Int, (ofBytes [n]).size = 1 := fun n => by rw [ofBytes_size]; rfl
  cases hk1 : (r.fKind == 1)
  · rw [cond_false]
    cases hk2 : (r.fKind == 2)
    · rw [cond_false]
      cases hk3 : (r.fKind == 3)
      · rw [cond_false]
        cases hk4 : (r.fKind == 4)
        · exact Nat.zero_le _
        · rw [cond_true]
          cases hc : (isE r.fText && isZ r.fThing && inR r.fNum 1 1000)
          · exact Nat.zero_le _
          · rw [Bool.and_eq_true, inR_iff] at hc
            have := varL_len10 (n := r.fNum) (by omega)
            rw [cond_true, ByteArray.size_append, one, ofBytes_size]; omega
      · rw [cond_true]
        cases hc : ((thingText r.fThing).2 && isE r.fText && r.fNum == 0)
        · exact Nat.zero_le _
        · rw [cond_true, ByteArray.size_append, one, thingText]
          cases ho : thingOk r.fThing
          · exact Nat.le_of_ble_eq_true rfl
          · have := thingT_size ho
            show 1 + (thingT r.fThing).size ≤ 300; omega
    · rw [cond_true]
      cases hc : (isE r.fText && isZ r.fThing && inR r.fNum 0 3)
      · exact Nat.zero_le _
      · rw [Bool.and_eq_true, inR_iff] at hc
        have := varL_len10 (n := r.fNum) (by omega)
        rw [cond_true, ByteArray.size_append, one, ofBytes_size]; omega
  · rw [cond_true]
    cases hc : ((r.fText.size : Int) == 32 && r.fNum == 0 && isZ r.fThing)
    · exact Nat.zero_le _
    · rw [Bool.and_eq_true, Bool.and_eq_true, beq_iff_eq] at hc
      rw [cond_true, ByteArray.size_append, one]; omega
def bookName : ByteArray := ⟨#[98, 111, 111, 107]⟩
def bookActs (k : ByteArray) (count : Int) (r : SRec) : List SAct × Bool :=
  bif (recText r).2 && inR count 0 10000 then ([⟨1, bookName, (frameT (lockT k (count + 1) (recText r).1).1).1, ⟨#[]⟩⟩, ⟨2, bookName, ⟨#[]⟩, ⟨#[]⟩⟩], true) else ([], false)
theorem lock_ok {k s : ByteArray} {num : Int} (h : 0 ≤ num ∧ num ≤ 1000000000) (hs : s.size ≤ 8000) : (lockT k num s).2 = true ∧ (lockT k num s).1 = ofBytes (sealL (bs k) num (bs s)) ∧ (lockT k num s).1.size = s.size + 16 := by
  have hm : maskOk num s.size = true := maskOk_iff.2 ⟨h, by omega, by omega⟩
  rw [lockT, hm]
  refine ⟨rfl, rfl, ?_⟩
  rw [cond_true, ofBytes_size, sealL, List.length_append, xorL_len (by rw [maskL_len]; omega), tagL_len, bs_len]
theorem frame_ok {t : ByteArray} (h : 1 ≤ t.size ∧ t.size ≤ 9000) : (frameT t).2 = true ∧ (frameT t).1 = ofBytes (frameL (bs t)) := by
  have hm : inR (t.size : Int) 1 9000 = true := inR_iff.2 (by omega)
  rw [frameT, hm]; exact ⟨rfl, rfl⟩
theorem p_spec_BookActs {k : ByteArray} {count : Int} {r : SRec} (hk : k.size ≤ 900000000) : spec_BookActs k count r = some (bookActs k count r) := by
  have hz := recText_size r
  rw [spec_BookActs, E_spec_BookActs, p_spec_RecText, Option.bind_some, bookActs]
  cases h1 : (recText r).2
  · rfl
  rw [cond_f (by rfl), p_spec_l01In, Option.bind_some, Bool.true_and]
  cases h2 : inR count 0 10000
  · rfl
  rw [inR_iff] at h2
  obtain ⟨l1, l2, l3⟩ := lock_ok (k := k) (s := (recText r).1) (num := count + 1) (by omega) (by omega)
  rw [cond_f (by rfl), w64_id (by omega) (by omega), p_spec_LockText hk (by omega), Option.bind_some, p_spec_Frame (by omega)]
  rfl
theorem p_impl_varText {n : Int} (h : n ≤ 9223372036854775807) : impl_varText n = some (ofBytes (varL n)) := by
  have key : ∀ (n : Int) (m : Nat) (out : List Int), n ≤ 9223372036854775807 → (varL n).length ≤ m → out.length + (varL n).length ≤ 1000 → L_impl_varText m (.c0 n out) = some (ofBytes (out ++ varL n)) := by
    intro n
    induction n using varL.induct with
    | case1 n hn ih =>
      intro m out h1 h2 h3
      rw [varL, if_pos hn] at h2 h3 ⊢
      simp only [List.length_cons] at h2 h3
      obtain ⟨m, rfl⟩ : ∃ k, m = k + 1 := ⟨m - 1, by omega⟩
      obtain ⟨e1, _, e2⟩ := varL_step hn h1
      simp only [L_impl_varText, B_impl_varText, e1, e2]
      rw [show decide (n > 127) = true from decide_eq_true hn, show decide ((out.length + 1) * 1 ≤ 140737488355328) = true from decide_eq_true (by omega)]
      simp only [cond_true]
      rw [ih m _ (by omega) (by omega) (by simp; omega)]
      simp
    | case2 n hn =>
      intro m out h1 h2 h3
      rw [varL, if_neg hn] at h2 h3 ⊢
      simp at h2 h3
      obtain ⟨m, rfl⟩ : ∃ k, m = k + 1 := ⟨m - 1, by omega⟩
      simp only [L_impl_varText, B_impl_varText]
      rw [show decide (n > 127) = false from decide_eq_false hn, show decide ((out.length + 1) * 1 ≤ 140737488355328) = true from decide_eq_true (by omega)]
      rfl
  have hl := varL_len10 h
  exact key n gas [] h (Nat.le_of_lt (gas_lt (by omega))) (by simp; omega)
theorem p_impl_in (x a b : Int) : impl_in x a b = some (inR x a b) := by
  show (bif decide (a ≤ x) then some (decide (x ≤ b)) else some false) = some (inR x a b)
  unfold inR; cases decide (a ≤ x) <;> rfl
theorem p_impl_ThingOk (x : SThing) : impl_ThingOk x = some (thingOk x) := by
  simp only [impl_ThingOk, E_impl_ThingOk, p_impl_in, Option.bind_some, thingOk, bne]
  by_cases k1 : x.fKind = 1
  · rw [k1]
    cases inR x.fId 1 1000 <;> cases inR x.fNext 0 16 <;> cases (x.fNext == 0) <;> cases x.fSigns <;> cases x.fWraps <;> simp [inR]
  · by_cases k2 : x.fKind = 2
    · rw [k2]
      cases inR x.fId 1 1000 <;> cases inR x.fNext 0 16 <;> cases (x.fNext == 0) <;> cases x.fSigns <;> cases x.fWraps <;> simp [inR]
    · by_cases k3 : x.fKind = 3
      · rw [k3]
        cases inR x.fId 1 1000 <;> cases inR x.fNext 0 16 <;> cases (x.fNext == 0) <;> cases x.fSigns <;> cases x.fWraps <;> simp [inR]
      · have hr : inR x.fKind 1 3 = false := by
          cases h : inR x.fKind 1 3
          · rfl
          · rw [inR_iff] at h; omega
        have e1 : (x.fKind == 1) = false := by simpa using k1
        have e2 : (x.fKind == 2) = false := by simpa using k2
        have e3 : (x.fKind == 3) = false := by simpa using k3
        rw [hr, e1, e2, e3]
        cases inR x.fId 1 1000 <;> cases inR x.fNext 0 16 <;> cases (x.fNext == 0) <;> cases x.fSigns <;> cases x.fWraps <;> rfl
theorem p_impl_oneByte {n : Int} (h : 0 ≤ n) (h2 : n ≤ 255) : impl_oneByte n = some (ofBytes [n]) := by
  simp only [impl_oneByte, E_impl_oneByte, w8_id h h2]
theorem p_impl_shortText {s : ByteArray} (h : s.size ≤ 140737488351232) : impl_shortText s = some (shortT s) := by
  simp only [impl_shortText, E_impl_shortText, p_impl_varText (n := (s.size : Int)) (by omega), Option.bind_some]
  have := varL_len10 (n := (s.size : Int)) (by omega)
  rw [show decide ((ofBytes (varL (s.size : Int))).size + s.size ≤ 9223372036854775807) = true from decide_eq_true (by rw [ofBytes_size]; omega)]
  rfl
theorem p_impl_ThingText (x : SThing) : impl_ThingText x = some (thingText x) := by
  simp only [impl_ThingText, E_impl_ThingText, p_impl_ThingOk, Option.bind_some, thingText]
  cases h : thingOk x
  · rfl
  · obtain ⟨k1, k2, k3, k4, k5, k6, k7⟩ := thingOk_kind h
    obtain ⟨z1, z2, z3⟩ := thing_sizes h
    have hf := flagN_lt x
    have e1 : ∀ n : Int, (ofBytes [n]).size = 1 := fun n => ofBytes_size _
    simp only [p_impl_flags, Option.bind_some, p_impl_varText (n := x.fId) (by omega), p_impl_oneByte (n := x.fKind) (by omega) (by omega), p_impl_oneByte hf.1 (by omega), p_impl_shortText (s := x.fValue) (by omega), p_impl_varText (n := x.fNext) (by omega), ba_append_size, e1]
    simp only [Bool.not_true, cond_false, cond_true]
    rw [show decide ((ofBytes (varL x.fId)).size + 1 ≤ 9223372036854775807) = true from decide_eq_true (by omega), show decide ((ofBytes (varL x.fId)).size + 1 + 1 ≤ 9223372036854775807) = true from decide_eq_true (by omega),
      show decide ((ofBytes (varL x.fId)).size + 1 + 1 + (shortT x.fValue).size ≤ 9223372036854775807) = true from decide_eq_true (by omega), show decide ((ofBytes (varL x.fId)).size + 1 + 1 + (shortT x.fValue).size + (ofBytes (varL x.fNext)).size ≤ 9223372036854775807) = true from decide_eq_true (by omega)]
    rfl
theorem p_impl_RecText {r : SRec} (g : r.fNum ≤ 9223372036854775807) : impl_RecText r = some (recText r) := by
  simp only [impl_RecText, E_impl_RecText, p_impl_in, p_impl_ThingText, p_impl_varText g, Option.bind_some, isZ_e]
  simp only [isE_e, recText]
  cases k1 : r.fKind == 1
  · simp only [cond_false]
    cases k2 : r.fKind == 2
    · simp only [cond_false]
      cases k3 : r.fKind == 3
      · simp only [cond_false]
        cases k4 : r.fKind == 4
        · rfl
        · have k : r.fKind = 4 := by simpa using k4
          rw [k]
          simp only [beq_self_eq_true, p_impl_oneByte (n := 4) (by omega) (by omega), Option.bind_some, Bool.true_and, cond_true]
          cases h : inR r.fNum 1 1000
          · cases isE r.fText <;> cases isZ r.fThing <;> rfl
          · cases isE r.fText <;> cases isZ r.fThing <;> (try rfl)
            simp only [Bool.not_true, cond_false, cond_true, Bool.and_self, decide_eq_true (rec_var (by omega) h 4)]
      · have k : r.fKind = 3 := by simpa using k3
        rw [k]
        simp only [beq_self_eq_true, p_impl_oneByte (n := 3) (by omega) (by omega), Option.bind_some, Bool.true_and, cond_true, Bool.and_true]
        cases h : (thingText r.fThing).2
        · cases isE r.fText <;> cases r.fNum == 0 <;> rfl
        · cases isE r.fText <;> cases r.fNum == 0 <;> (try rfl)
          simp only [Bool.not_true, cond_false, cond_true, Bool.and_self, decide_eq_true (rec_thing h 3)]
    · have k : r.fKind = 2 := by simpa using k2
      rw [k]
      simp only [beq_self_eq_true, p_impl_oneByte (n := 2) (by omega) (by omega), Option.bind_some, Bool.true_and, cond_true]
      cases h : inR r.fNum 0 3
      · cases isE r.fText <;> cases isZ r.fThing <;> rfl
      · cases isE r.fText <;> cases isZ r.fThing <;> (try rfl)
        simp only [Bool.not_true, cond_false, cond_true, Bool.and_self, decide_eq_true (rec_var (by omega) h 2)]
  · have k : r.fKind = 1 := by simpa using k1
    rw [k]
    simp only [beq_self_eq_true, p_impl_oneByte (n := 1) (by omega) (by omega), Option.bind_some, Bool.true_and, cond_true]
    cases h : (r.fText.size : Int) == 32 <;> cases r.fNum == 0 <;> cases isZ r.fThing <;> (try rfl)
    have h' : r.fText.size = 32 := by have := beq_iff_eq.1 h; omega
    have e : (ofBytes [1]).size + r.fText.size ≤ 9223372036854775807 := by rw [ofBytes_size]; simp only [List.length_singleton]; omega
    simp only [Bool.not_true, cond_false, cond_true, Bool.and_self, decide_eq_true e]
theorem p_impl_VarText {n : Int} : impl_VarText n = some (bif inR n 0 1000000000 then (ofBytes (varL n), true) else (⟨#[]⟩, false)) := by
  simp only [impl_VarText, E_impl_VarText, p_impl_in, Option.bind_some]
  cases h : inR n 0 1000000000
  · rfl
  · rw [inR_iff] at h
    rw [Bool.not_true, cond_false, p_impl_varText (by omega), Option.bind_some, cond_true]
theorem p_impl_zeros {n : Nat} (h : n ≤ 1000000000) : impl_zeros (n : Int) = some (ofBytes (List.replicate n 0)) := by
  simp only [impl_zeros, E_impl_zeros, Int.toNat_natCast]
  rw [cond_t (by simp; omega)]
theorem p_impl_fourBytes {x : Int} (h : R32 x) : impl_fourBytes x = some (ofBytes (four x)) := by
  obtain ⟨h1, h2⟩ := h
  have e1 : Int.fdiv x (2 ^ (Min.min (24 : Int).toNat (IntKind.bits IntKind.u32))) = x / 16777216 := Int.fdiv_eq_ediv_of_nonneg _ (by decide)
  have e2 : Int.fdiv x (2 ^ (Min.min (16 : Int).toNat (IntKind.bits IntKind.u32))) = x / 65536 := Int.fdiv_eq_ediv_of_nonneg _ (by decide)
  have e3 : Int.fdiv x (2 ^ (Min.min (8 : Int).toNat (IntKind.bits IntKind.u32))) = x / 256 := Int.fdiv_eq_ediv_of_nonneg _ (by decide)
  simp only [impl_fourBytes, E_impl_fourBytes, e1, e2, e3, w8_mod, four]
  rw [show x / 16777216 % 256 = x / 16777216 by omega]
theorem p_impl_eightBytes {n : Nat} (h : n < 1099511627776) : impl_eightBytes (n : Int) = some (ofBytes (big8 (n : Int))) := by
  have e1 : Int.fdiv (n : Int) (2 ^ (Min.min (32 : Int).toNat (IntKind.bits IntKind.i64))) = (n : Int) / 4294967296 := Int.fdiv_eq_ediv_of_nonneg _ (by decide)
  simp only [impl_eightBytes, E_impl_eightBytes, e1, p_impl_fourBytes (r32_w _), Option.bind_some]
  rw [cond_t (by rw [ofBytes_size, ofBytes_size]; simp [four])]
  congr 1
  apply bs_inj
  rw [bs_append, bs_ofBytes (four_byt (r32_w _)), bs_ofBytes (four_byt (r32_w _)), bs_ofBytes (fun x hx => by
    simp only [big8, List.mem_cons, List.not_mem_nil, or_false] at hx
    omega)]
  simp only [four, big8, w32_mod, List.cons_append, List.nil_append, List.cons.injEq, and_true]
  omega
theorem p_impl_ending {n : Nat} (h : n ≤ 100000000000) : impl_ending (n : Int) = some (ofBytes (endL n)) := by
  have e1 : (w64 (119 - ((n : Int).tmod 64))).tmod 64 = (((119 - n % 64) % 64 : Nat) : Int) := by
    have a : (n : Int).tmod 64 = (n : Int) % 64 := Int.tmod_eq_emod_of_nonneg (by omega)
    rw [a, w64_id (by omega) (by omega), Int.tmod_eq_emod_of_nonneg (by omega)]
    omega
  have e2 : w64 (8 * (n : Int)) = ((8 * n : Nat) : Int) := by rw [w64_id (by omega) (by omega)]; omega
  have h0 : (⟨#[128]⟩ : ByteArray).size = 1 := rfl
  simp only [impl_ending, E_impl_ending, e1, e2, p_impl_zeros (n := (119 - n % 64) % 64) (by omega), p_impl_eightBytes (n := 8 * n) (by omega), Option.bind_some]
  rw [cond_t (by rw [ofBytes_size]; simp [h0]; omega), cond_t (by rw [ByteArray.size_append, ofBytes_size, ofBytes_size]; simp [h0, big8]; omega)]
  congr 1
  apply bs_inj
  have hb : Byt (List.replicate ((119 - n % 64) % 64) (0 : Int)) := fun x hx => by
    have := List.eq_of_mem_replicate hx; omega
  have hb2 : Byt (big8 ((8 * n : Nat) : Int)) := fun x hx => by
    simp only [big8, List.mem_cons, List.not_mem_nil, or_false] at hx
    omega
  rw [bs_append, bs_append, bs_ofBytes hb, bs_ofBytes hb2, bs_ofBytes (endL_byt n), endL]
  have e3 : bs (⟨#[128]⟩ : ByteArray) = [128] := rfl
  rw [e3]
  simp
theorem rot_gen {x : Int} (h : R32 x) (n : Nat) (hn : 0 < n) (hn2 : n < 32) (k : Int) (hk : wu64 (((BitVec.toNat ((BitVec.ofInt (IntKind.bits IntKind.u64) (wu64 k)) &&& (BitVec.ofInt (IntKind.bits IntKind.u64) (31 : Int)))) : Nat) : Int) = ((32 - n : Nat) : Int))
    (hk2 : wu64 (32 - ((32 - n : Nat) : Int)) = (n : Int)) : math_bits_RotateLeft32 x k = some (rt (2 ^ n) (2 ^ (32 - n)) x) := by
  have e1 : Min.min ((32 - n : Nat) : Int).toNat (IntKind.bits IntKind.u32) = 32 - n := by
    show Min.min ((32 - n : Nat) : Int).toNat 32 = _
    omega
  have e2 : Min.min (n : Int).toNat (IntKind.bits IntKind.u32) = n := by
    show Min.min (n : Int).toNat 32 = _
    omega
  have e3 : Int.fdiv x (2 ^ n) = x / 2 ^ n := Int.fdiv_eq_ediv_of_nonneg _ (Int.le_of_lt (Int.pow_pos (by omega)))
  simp only [math_bits_RotateLeft32, E_math_bits_RotateLeft32, hk, hk2, e1, e2, e3]
  rw [show decide ((0 : Int) ≤ (n : Int)) = true from decide_eq_true (by omega)]
  simp only [cond_true, ort_e]
  rw [rt_or h n hn hn2]
theorem right_gen {x : Int} (h : R32 x) (n : Nat) (hn : 0 < n) (hn2 : n < 32) (hk : wu64 (((BitVec.toNat ((BitVec.ofInt (IntKind.bits IntKind.u64) (wu64 (w64 (0 - (n : Int))))) &&& (BitVec.ofInt (IntKind.bits IntKind.u64) (31 : Int)))) : Nat) : Int) = ((32 - n : Nat) : Int))
    (hk2 : wu64 (32 - ((32 - n : Nat) : Int)) = (n : Int)) : impl_right x (n : Int) = some (rt (2 ^ n) (2 ^ (32 - n)) x) := by
  simp only [impl_right, E_impl_right, rot_gen h n hn hn2 _ hk hk2, Option.bind_some]
theorem right2 {x : Int} (h : R32 x) : impl_right x 2 = some (rt 4 1073741824 x) := right_gen h 2 (by decide) (by decide) (by decide) (by decide)
theorem right13 {x : Int} (h : R32 x) : impl_right x 13 = some (rt 8192 524288 x) := right_gen h 13 (by decide) (by decide) (by decide) (by decide)
theorem right22 {x : Int} (h : R32 x) : impl_right x 22 = some (rt 4194304 1024 x) := right_gen h 22 (by decide) (by decide) (by decide) (by decide)
theorem right6 {x : Int} (h : R32 x) : impl_right x 6 = some (rt 64 67108864 x) := right_gen h 6 (by decide) (by decide) (by decide) (by decide)
theorem right11 {x : Int} (h : R32 x) : impl_right x 11 = some (rt 2048 2097152 x) := right_gen h 11 (by decide) (by decide) (by decide) (by decide)
theorem right25 {x : Int} (h : R32 x) : impl_right x 25 = some (rt 33554432 128 x) := right_gen h 25 (by decide) (by decide) (by decide) (by decide)
theorem right7 {x : Int} (h : R32 x) : impl_right x 7 = some (rt 128 33554432 x) := right_gen h 7 (by decide) (by decide) (by decide) (by decide)
theorem right18 {x : Int} (h : R32 x) : impl_right x 18 = some (rt 262144 16384 x) := right_gen h 18 (by decide) (by decide) (by decide) (by decide)
theorem right17 {x : Int} (h : R32 x) : impl_right x 17 = some (rt 131072 32768 x) := right_gen h 17 (by decide) (by decide) (by decide) (by decide)
theorem right19 {x : Int} (h : R32 x) : impl_right x 19 = some (rt 524288 8192 x) := right_gen h 19 (by decide) (by decide) (by decide) (by decide)
theorem ort_step {a b : Int} (ha : 0 ≤ a ∧ a < 16777216) (hb : 0 ≤ b ∧ b ≤ 255) : ort (w32 (a * 256)) (w32 b) = a * 256 + b := by
  obtain ⟨x, rfl⟩ : ∃ x : Nat, a = (x : Int) := ⟨a.toNat, by omega⟩
  obtain ⟨y, rfl⟩ : ∃ y : Nat, b = (y : Int) := ⟨b.toNat, by omega⟩
  rw [w32_id (by omega) (by omega), w32_id (by omega) (by omega)]
  have := ort_add (a := x) (b := y) (s := 8) (by omega) (by omega) (by omega)
  have e : ((x * 2 ^ 8 : Nat) : Int) = (x : Int) * 256 := by omega
  rw [Int.natCast_add, e] at this
  exact this
/-- A word, as far as its bytes have come. -/
def wpart (l : List Int) (i : Nat) : Nat → Int
  | 0 => 0
  | k + 1 => wpart l i k * 256 + l.getD (4 * i + k) 0
theorem wpart4 (l : List Int) (i : Nat) : wpart l i 4 = wordAt l i := by
  simp only [wpart, wordAt, be4, Nat.add_zero]
  omega
theorem wpart_r {l : List Int} (h : Byt l) (i : Nat) : ∀ k, k < 4 → 0 ≤ wpart l i k ∧ wpart l i k < 16777216
  | 0, _ => by simp [wpart]
  | 1, _ => by have := byt_getD h (4 * i + 0); simp only [wpart]; omega
  | 2, _ => by have := byt_getD h (4 * i + 0); have := byt_getD h (4 * i + 1); simp only [wpart]; omega
  | 3, _ => by have := byt_getD h (4 * i + 0); have := byt_getD h (4 * i + 1); have := byt_getD h (4 * i + 2); simp only [wpart]; omega
theorem wordsOf1 {b : ByteArray} (hb : b.size = 64) (v : List Int) (i : Nat) (hi : i < 16) : ∀ (j k m : Nat), k + j = 4 →
    L_impl_wordsOf (m + j + 1) (.c1 b (i : Int) (i : Int) (k : Int) v (wordsN (bs b) i ++ wpart (bs b) i k :: List.replicate (63 - i) 0)) = L_impl_wordsOf m (.c0 b ((i + 1 : Nat) : Int) v (wordsN (bs b) (i + 1) ++ List.replicate (63 - i) 0)) := by
  have hby := byt_bs b
  intro j
  induction j with
  | zero =>
    intro k m h
    obtain rfl : k = 4 := by omega
    have e : w64 ((i : Int) + 1) = ((i + 1 : Nat) : Int) := by rw [w64_id (by omega) (by omega)]; rfl
    rw [L_impl_wordsOf]
    simp only [B_impl_wordsOf, e]
    rw [cond_f (by simp), wpart4, wordsN_succ]
    simp
  | succ j ih =>
    intro k m h
    have hk : k < 4 := by omega
    have hlen : (wordsN (bs b) i ++ wpart (bs b) i k :: List.replicate (63 - i) 0).length = 64 := by
      simp only [List.length_append, List.length_cons, List.length_replicate, wordsN_len]; omega
    have e : w64 ((k : Int) + 1) = ((k + 1 : Nat) : Int) := by rw [w64_id (by omega) (by omega)]; rfl
    have e4 : w64 (4 * (i : Int)) = ((4 * i : Nat) : Int) := by rw [w64_id (by omega) (by omega)]; omega
    have e5 : w64 (((4 * i : Nat) : Int) + (k : Int)) = ((4 * i + k : Nat) : Int) := by rw [w64_id (by omega) (by omega)]; omega
    have e8 : (2 : Int) ^ (Min.min (8 : Int).toNat (IntKind.bits IntKind.u32)) = 256 := by decide
    have hg : (wordsN (bs b) i ++ wpart (bs b) i k :: List.replicate (63 - i) 0).getD i 0 = wpart (bs b) i k := by
      rw [getD_app2 (by rw [wordsN_len]; omega), wordsN_len, Nat.sub_self]; rfl
    rw [show m + (j + 1) + 1 = (m + j + 1) + 1 by omega, L_impl_wordsOf]
    simp only [B_impl_wordsOf, e, e4, e5, e8, Int.toNat_natCast, hlen, hg, ort_e]
    rw [cond_t (by simp; omega), cond_t (by rfl), cond_t (by simp; omega), cond_t (by simp; omega), cond_t (by rfl), cond_t (by simp; omega)]
    rw [bt_getD (by omega), ort_step (wpart_r hby i k hk) (byt_getD hby _), set_app (wordsN_len _ i)]
    exact ih (k + 1) m (by omega)
theorem wordsOf0 {b : ByteArray} (hb : b.size = 64) (v : List Int) : ∀ (j i m : Nat), i + j = 16 → L_impl_wordsOf (m + 6 * j + 1) (.c0 b (i : Int) v (wordsN (bs b) i ++ List.replicate (64 - i) 0)) = L_impl_wordsOf m (.c2 16 v (wordsN (bs b) 16 ++ List.replicate 48 0)) := by
  intro j
  induction j with
  | zero =>
    intro i m h
    obtain rfl : i = 16 := by omega
    rw [L_impl_wordsOf]
    simp only [B_impl_wordsOf]
    rw [cond_f (by simp)]
  | succ j ih =>
    intro i m h
    rw [show m + 6 * (j + 1) + 1 = (m + 6 * j + 1) + 4 + 1 + 1 by omega, L_impl_wordsOf]
    simp only [B_impl_wordsOf]
    rw [cond_t (by simp; omega)]
    have h1 := wordsOf1 hb v i (by omega) 4 0 (m + 6 * j + 1) (by omega)
    rw [show 64 - i = (63 - i) + 1 by omega, List.replicate_succ]
    have h2 := ih (i + 1) m (by omega)
    rw [show 64 - (i + 1) = 63 - i by omega] at h2
    exact h1.trans h2
theorem wordsOf2 {w v : List Int} (hw : ∀ x ∈ w, R32 x) (hwl : w.length = 16) (hv : v.length = 64) : ∀ (j i m : Nat), i + j = 48 → L_impl_wordsOf (m + j + 1) (.c2 ((16 + i : Nat) : Int) v (sched w i ++ List.replicate (48 - i) 0)) = some (sched w 48) := by
  intro j
  induction j with
  | zero =>
    intro i m h
    obtain rfl : i = 48 := by omega
    have hl := sched_len hwl 48
    rw [L_impl_wordsOf]
    simp only [B_impl_wordsOf, Nat.sub_self, List.replicate_zero, List.append_nil, hl, hv]
    rfl
  | succ j ih =>
    intro i m h
    have hl := sched_len hwl i
    have hr := sched_r hw i
    have hlen : (sched w i ++ List.replicate (48 - i) 0).length = 64 := by
      simp only [List.length_append, List.length_replicate, hl]; omega
    have e2 : w64 (((16 + i : Nat) : Int) - 2) = ((16 + i - 2 : Nat) : Int) := by rw [w64_id (by omega) (by omega)]; omega
    have e7 : w64 (((16 + i : Nat) : Int) - 7) = ((16 + i - 7 : Nat) : Int) := by rw [w64_id (by omega) (by omega)]; omega
    have e15 : w64 (((16 + i : Nat) : Int) - 15) = ((16 + i - 15 : Nat) : Int) := by rw [w64_id (by omega) (by omega)]; omega
    have e16 : w64 (((16 + i : Nat) : Int) - 16) = ((16 + i - 16 : Nat) : Int) := by rw [w64_id (by omega) (by omega)]; omega
    have e1 : w64 (((16 + i : Nat) : Int) + 1) = ((16 + (i + 1) : Nat) : Int) := by rw [w64_id (by omega) (by omega)]; omega
    have g2 : (sched w i ++ List.replicate (48 - i) 0).getD (16 + i - 2) 0 = (sched w i).getD (16 + i - 2) 0 := getD_app1 (by omega) 0
    have g7 : (sched w i ++ List.replicate (48 - i) 0).getD (16 + i - 7) 0 = (sched w i).getD (16 + i - 7) 0 := getD_app1 (by omega) 0
    have g15 : (sched w i ++ List.replicate (48 - i) 0).getD (16 + i - 15) 0 = (sched w i).getD (16 + i - 15) 0 := getD_app1 (by omega) 0
    have g16 : (sched w i ++ List.replicate (48 - i) 0).getD (16 + i - 16) 0 = (sched w i).getD (16 + i - 16) 0 := getD_app1 (by omega) 0
    have f10 : ∀ x : Int, Int.fdiv x (2 ^ (Min.min (10 : Int).toNat (IntKind.bits IntKind.u32))) = x / 1024 := fun x => Int.fdiv_eq_ediv_of_nonneg _ (by decide)
    have f3 : ∀ x : Int, Int.fdiv x (2 ^ (Min.min (3 : Int).toNat (IntKind.bits IntKind.u32))) = x / 8 := fun x => Int.fdiv_eq_ediv_of_nonneg _ (by decide)
    have r15 := r_getD hr (16 + i - 15)
    have r2 := r_getD hr (16 + i - 2)
    rw [show m + (j + 1) + 1 = (m + j + 1) + 1 by omega, L_impl_wordsOf]
    simp only [B_impl_wordsOf, e1, e2, e7, e15, e16, Int.toNat_natCast, hlen, g2, g7, g15, g16, right7 r15, right18 r15, right17 r2, right19 r2, Option.bind_some, f10, f3, xr_e]
    rw [cond_t (by simp; omega), cond_t (by rfl), cond_t (by simp; omega), cond_t (by rfl), cond_t (by simp; omega), cond_t (by rfl), cond_t (by simp; omega), cond_t (by rfl), cond_t (by simp; omega), cond_t (by rfl), cond_t (by simp; omega)]
    rw [show 48 - i = (48 - (i + 1)) + 1 by omega, List.replicate_succ, set_app (by omega)]
    have h2 := ih (i + 1) m (by omega)
    rw [sched, List.append_assoc] at h2
    exact h2
theorem p_impl_wordsOf {b : ByteArray} (hb : b.size = 64) : impl_wordsOf b = some (sched (wordsN (bs b) 16) 48) := by
  obtain ⟨m, hm⟩ : ∃ m, gas = (m + 48 + 1) + 6 * 16 + 1 := ⟨gas - 146, by have := gas_lt (n := 146) (by omega); omega⟩
  rw [impl_wordsOf, E_impl_wordsOf, hm]
  have h0 := wordsOf0 hb (List.replicate 64 0) 16 0 (m + 48 + 1) (by omega)
  have h2 := wordsOf2 (w := wordsN (bs b) 16) (v := List.replicate 64 0) (wordsN_r (byt_bs b) 16) (wordsN_len _ 16) (List.length_replicate ..) 48 0 m (by omega)
  rw [show wordsN (bs b) 0 ++ List.replicate (64 - 0) 0 = List.replicate 64 (0 : Int) from rfl, show ((0 : Nat) : Int) = 0 from rfl] at h0
  rw [show ((16 + 0 : Nat) : Int) = 16 from rfl, show sched (wordsN (bs b) 16) 0 = wordsN (bs b) 16 from rfl, show 48 - 0 = 48 from rfl] at h2
  rw [h0, h2]
theorem oneBlock1 (s r v : List Int) (hs : s.length = 8) (hv : v.length = 8) (f : Nat → Int) (hf : ∀ i, i < 8 → f i = w32 (r.getD i 0 + s.getD i 0)) (hr : r.length = 8) : ∀ (j i m : Nat), i + j = 8 → L_impl_oneBlock (m + j + 1) (.c1 (i : Int) s v ((List.range i).map f ++ r.drop i)) = some ((List.range 8).map f) := by
  intro j
  induction j with
  | zero =>
    intro i m h
    obtain rfl : i = 8 := by omega
    rw [L_impl_oneBlock]
    simp only [B_impl_oneBlock]
    rw [cond_f (by simp), List.drop_of_length_le (by omega), List.append_nil, cond_t (by simp), cond_t (by simp [hv]), cond_t (by simp)]
  | succ j ih =>
    intro i m h
    have e : w64 ((i : Int) + 1) = ((i + 1 : Nat) : Int) := by rw [w64_id (by omega) (by omega)]; rfl
    have hl : ((List.range i).map f ++ r.drop i).length = 8 := by simp [hr]; omega
    have hm : ((List.range i).map f).length = i := by simp
    have hg : ((List.range i).map f ++ r.drop i).getD i 0 = r.getD i 0 := by
      rw [getD_app2 (by omega), hm, Nat.sub_self]
      simp [List.getD]
    rw [show m + (j + 1) + 1 = (m + j + 1) + 1 by omega, L_impl_oneBlock]
    simp only [B_impl_oneBlock, e, Int.toNat_natCast, hl, hs, hg]
    rw [cond_t (by simp; omega), cond_t (by rfl), cond_t (by simp; omega), cond_t (by rfl), cond_t (by simp; omega), cond_t (by rfl), cond_t (by simp; omega)]
    rw [drop_at (by omega : i < r.length), set_app hm, ← hf i (by omega)]
    have h2 := ih (i + 1) m (by omega)
    rw [List.range_succ, List.map_append, List.append_assoc] at h2
    exact h2
theorem oneBlock0 (s v W : List Int) (hW : ∀ x ∈ W, R32 x) (hWl : W.length = 64) (r : Reg) (hr : r.ok) (i m : Nat) (hi : i < 64) :
    L_impl_oneBlock (m + 1) (.c0 r.a r.b r.c r.d r.e r.f r.g r.h (i : Int) s v W) = L_impl_oneBlock m (.c0 (rnd r (keysL.getD i 0) (W.getD i 0)).a (rnd r (keysL.getD i 0) (W.getD i 0)).b (rnd r (keysL.getD i 0) (W.getD i 0)).c (rnd r (keysL.getD i 0) (W.getD i 0)).d (rnd r (keysL.getD i 0) (W.getD i 0)).e (rnd r (keysL.getD i 0) (W.getD i 0)).f (rnd r (keysL.getD i 0) (W.getD i 0)).g (rnd r (keysL.getD i 0) (W.getD i 0)).h ((i + 1 : Nat) : Int) s v W) := by
  obtain ⟨h1, h2, h3, h4, h5, h6, h7, h8⟩ := hr
  have e : w64 ((i : Int) + 1) = ((i + 1 : Nat) : Int) := by rw [w64_id (by omega) (by omega)]; rfl
  rw [L_impl_oneBlock]
  simp only [B_impl_oneBlock, e, Int.toNat_natCast, hWl, right6 h5, right11 h5, right25 h5, right2 h1, right13 h1, right22 h1, Option.bind_some, xr_e, an_e, xr_max h5]
  rw [cond_t (by simp; omega), cond_t (by simp; omega), cond_t (by rw [Nat.blt_eq]; omega), cond_t (by rfl), cond_t (by simp; omega)]
  rfl
theorem oneBlock0s (s v W : List Int) (hW : ∀ x ∈ W, R32 x) (hWl : W.length = 64) (r : Reg) (hr : r.ok) : ∀ (j i m : Nat), i + j = 64 →
    L_impl_oneBlock (m + j + 1) (.c0 (rnds keysL W r i).a (rnds keysL W r i).b (rnds keysL W r i).c (rnds keysL W r i).d (rnds keysL W r i).e (rnds keysL W r i).f (rnds keysL W r i).g (rnds keysL W r i).h (i : Int) s v W) = L_impl_oneBlock m (.c1 0 s v (rnds keysL W r 64).l) := by
  intro j
  induction j with
  | zero =>
    intro i m h
    obtain rfl : i = 64 := by omega
    rw [L_impl_oneBlock]
    simp only [B_impl_oneBlock]
    rw [cond_f (by simp)]
    rfl
  | succ j ih =>
    intro i m h
    rw [show m + (j + 1) + 1 = (m + j + 1) + 1 by omega, oneBlock0 s v W hW hWl _ (rnds_ok keysL W hr i) i _ (by omega)]
    exact ih (i + 1) m (by omega)
theorem p_impl_oneBlock {s : Reg} (hs : s.ok) {b : ByteArray} (hb : b.size = 64) : impl_oneBlock s.l b = some (comp s (bs b)).l := by
  obtain ⟨m, hm⟩ : ∃ m, gas = (m + 8 + 1) + 64 + 1 := ⟨gas - 74, by have := gas_lt (n := 74) (by omega); omega⟩
  have hr := sched_r (wordsN_r (byt_bs b) 16) 48
  have hl := sched_len (wordsN_len (bs b) 16) 48
  have hsl : s.l.length = 8 := rfl
  have z0 : (0 : Int).toNat = 0 := rfl
  have z1 : (1 : Int).toNat = 1 := rfl
  have z2 : (2 : Int).toNat = 2 := rfl
  have z3 : (3 : Int).toNat = 3 := rfl
  have z4 : (4 : Int).toNat = 4 := rfl
  have z5 : (5 : Int).toNat = 5 := rfl
  have z6 : (6 : Int).toNat = 6 := rfl
  have z7 : (7 : Int).toNat = 7 := rfl
  rw [impl_oneBlock, E_impl_oneBlock, p_impl_wordsOf hb, Option.bind_some, hm]
  simp only [hl, hsl, List.length_replicate, z0, z1, z2, z3, z4, z5, z6, z7]
  rw [cond_t (by rfl), cond_t (by rfl), cond_t (by rfl), cond_t (by rfl), cond_t (by rfl), cond_t (by rfl), cond_t (by rfl), cond_t (by rfl), cond_t (by rfl), cond_t (by rfl), cond_t (by rfl), cond_t (by rfl), cond_t (by rfl), cond_t (by rfl), cond_t (by rfl), cond_t (by rfl), cond_t (by rfl)]
  have h0 := oneBlock0s s.l [0, 0, 0, 0, 0, 0, 0, 0] _ hr hl s hs 64 0 (m + 8 + 1) (by omega)
  rw [show ((0 : Nat) : Int) = 0 from rfl] at h0
  have hf : ∀ i, i < 8 → (fun i => w32 ((rnds keysL (sched (wordsN (bs b) 16) 48) s 64).l.getD i 0 + s.l.getD i 0)) i = w32 ((rnds keysL (sched (wordsN (bs b) 16) 48) s 64).l.getD i 0 + s.l.getD i 0) := fun _ _ => rfl
  have h1 := oneBlock1 s.l (rnds keysL (sched (wordsN (bs b) 16) 48) s 64).l [0, 0, 0, 0, 0, 0, 0, 0] rfl rfl _ hf rfl 8 0 m (by omega)
  rw [show ((0 : Nat) : Int) = 0 from rfl, List.range_zero, List.map_nil, List.nil_append, List.drop_zero] at h1
  have e : (List.range 8).map (fun i => w32 ((rnds keysL (sched (wordsN (bs b) 16) 48) s 64).l.getD i 0 + s.l.getD i 0)) = (comp s (bs b)).l := by
    apply List.ext_getElem
    · rw [Reg.l_len, List.length_map, List.length_range]
    · intro i h1 h2
      have hi : i < 8 := by simpa using h1
      rw [List.getElem_map, List.getElem_range, ← getD_at h2 0]
      rw [comp, regAdd_at _ _ i hi, Int.add_comm]
  rw [e] at h1
  exact h0.trans h1
theorem p_impl_blocks {s : Reg} (hs : s.ok) {t : ByteArray} (ht : t.size ≤ 1000000000000) : impl_blocks s.l t = some ((comps (t.size / 64) s (bs t)).l, t.extract (64 * (t.size / 64)) t.size) := by
  have key : ∀ (j : Nat) (s : Reg) (t : ByteArray) (m : Nat), s.ok → t.size / 64 = j → t.size ≤ 1000000000000 → L_impl_blocks (m + j + 1) (.c0 t s.l [0, 0, 0, 0, 0, 0, 0, 0]) = some ((comps j s (bs t)).l, t.extract (64 * j) t.size) := by
    intro j
    induction j with
    | zero =>
      intro s t m hs hj ht
      rw [L_impl_blocks]
      simp only [B_impl_blocks, Reg.l_len]
      rw [cond_f (by simp; omega), cond_t (by rfl), cond_t (by rfl), cond_t (by rfl)]
      congr 2
      apply bs_inj
      rw [bs_extract, List.take_of_length_le (by rw [bs_len]; omega)]
      rfl
    | succ j ih =>
      intro s t m hs hj ht
      have h64 : (64 : Int).toNat = 64 := rfl
      have e1 : bs (t.extract 0 64) = (bs t).take 64 := by rw [bs_extract]; rfl
      have e2 : bs (t.extract 64 t.size) = (bs t).drop 64 := by rw [bs_extract, List.take_of_length_le (by rw [bs_len]; omega)]
      rw [show m + (j + 1) + 1 = (m + j + 1) + 1 by omega, L_impl_blocks]
      simp only [B_impl_blocks, h64, Reg.l_len]
      rw [cond_t (by simp; omega), cond_t (by rfl), cond_t (by simp; omega)]
      rw [p_impl_oneBlock hs (b := t.extract 0 64) (by simp; omega), Option.bind_some]
      rw [Reg.l_len]
      rw [cond_t (by rfl)]
      rw [cond_t (by simp; omega)]
      rw [ih (comp s (bs (t.extract 0 64))) (t.extract 64 t.size) m (comp_ok _ _) (by simp; omega) (by simp; omega), e1, e2]
      have e3 : (t.extract 64 t.size).extract (64 * j) (t.extract 64 t.size).size = t.extract (64 * (j + 1)) t.size := by
        apply bs_inj
        rw [bs_extract, e2, bs_extract, List.take_of_length_le (by simp [bs_len]), List.take_of_length_le (by rw [bs_len]; omega), List.drop_drop]
        congr 1
        omega
      rw [e3, comps]
  obtain ⟨m, hm⟩ : ∃ m, gas = m + t.size / 64 + 1 := ⟨gas - (t.size / 64 + 1), by have := gas_lt (n := t.size / 64 + 1) (by omega); omega⟩
  rw [impl_blocks, E_impl_blocks, hm]
  exact key _ s t m hs rfl ht
theorem p_impl_stateText {r : Reg} (hr : r.ok) : impl_stateText r.l = some (ofBytes (bytesL r.l)) := by
  have hl : r.l.length = 8 := rfl
  have hrl := Reg.l_r hr
  have hby : ∀ i, Byt (bytesL (r.l.take i)) := fun i => bytesL_byt (fun x hx => hrl x (List.mem_of_mem_take hx))
  have key := loopN (A := Unit) (n := 8) (Lp := L_impl_stateText) (st := fun i _ => .c0 (ofBytes (bytesL (r.l.take i))) r.l (i : Int)) (Inv := fun _ _ => True) (out := fun _ _ => some (ofBytes (bytesL r.l)))
    (fun m _ _ => by
      rw [L_impl_stateText]
      simp only [B_impl_stateText]
      rw [cond_f (by simp)]
      rfl)
    (fun m i _ hi _ => .inr ⟨(), by
      have e : w64 ((i : Int) + 1) = ((i + 1 : Nat) : Int) := by rw [w64_id (by omega) (by omega)]; rfl
      have hg : r.l.getD i 0 = r.l[i]'(by omega) := getD_at (by omega) 0
      have hx : R32 (r.l.getD i 0) := r_getD hrl i
      rw [L_impl_stateText]
      simp only [B_impl_stateText, e, Int.toNat_natCast, p_impl_fourBytes hx, Option.bind_some, hl]
      rw [cond_t (by simp; omega), cond_t (by rfl), cond_t (by simp; omega), cond_t (by rw [ofBytes_size, ofBytes_size, bytesL_len]; simp [four]; omega)]
      congr 2
      apply bs_inj
      rw [bs_append, bs_ofBytes (hby i), bs_ofBytes (hby (i + 1)), bs_ofBytes (four_byt hx), take_at (by omega), bytesL_app, hg]
      simp [bytesL], trivial, rfl⟩)
  rw [impl_stateText, E_impl_stateText, hl, cond_t (by rfl)]
  exact key gas 0 () (Nat.zero_le _) (gas_lt (by omega)) trivial
theorem first_e : impl_firstState = some reg0.l := rfl
theorem p_impl_DigestOf {s : ByteArray} (hs : s.size ≤ 1000000000) : impl_DigestOf s = some (dig s) := by
  have h1 := endL_len s.size
  have hsz : (s ++ ofBytes (endL s.size)).size = s.size + (endL s.size).length := by rw [ByteArray.size_append, ofBytes_size]
  rw [impl_DigestOf, E_impl_DigestOf, first_e, Option.bind_some, p_impl_ending (n := s.size) (by omega), Option.bind_some, cond_t (by rw [ofBytes_size]; simp; omega), p_impl_blocks reg0_ok (by omega), Option.bind_some]
  simp only [Reg.l_len]
  rw [cond_t (by rfl), cond_t (by rfl), p_impl_stateText (comps_ok reg0_ok _ _), Option.bind_some, hsz, bs_append, bs_ofBytes (endL_byt _), dig, digL, bs_len]
theorem p_impl_xored {s : ByteArray} {x : Int} (hs : s.size ≤ 140737488351232) : impl_xored s x = some (ofBytes (xorB x (bs s))) := by
  have hl := bs_len s
  have key := loopN (A := Unit) (n := (bs s).length) (Lp := L_impl_xored) (st := fun i _ => .c0 x ((bs s).length : Int) (i : Int) (((bs s).take i).map (fun b => xb b x) ++ (bs s).drop i)) (Inv := fun _ _ => True) (out := fun _ _ => some (ofBytes (xorB x (bs s))))
    (fun m _ _ => by
      rw [L_impl_xored]
      simp only [B_impl_xored]
      rw [cond_f (by simp), List.take_length, List.drop_length, List.append_nil]; rfl)
    (fun m i _ hi _ => .inr ⟨(), by
      have e : w64 ((i : Int) + 1) = ((i + 1 : Nat) : Int) := by rw [w64_id (by omega) (by omega)]; rfl
      have hlen : (((bs s).take i).map (fun b => xb b x) ++ (bs s).drop i).length = (bs s).length := by simp; omega
      rw [L_impl_xored]
      simp only [B_impl_xored, e, Int.toNat_natCast, hlen, xb_e, map_at hi]
      rw [cond_t (by simp; omega), cond_t (by simp; omega), cond_t (by simp; omega), map_step (fun b => xb b x) hi], trivial, rfl⟩)
  rw [impl_xored, E_impl_xored, cond_t (by simp; omega), bytesOf_bs]
  exact key gas 0 () (Nat.zero_le _) (gas_lt (by omega)) trivial
theorem keyL_byt {l : List Int} (h : Byt l) : Byt (keyL l) := fun x hx => by
  simp only [keyL, List.mem_append, List.mem_replicate] at hx
  rcases hx with hx | hx
  · exact h x hx
  · omega
theorem bs_pad {k : ByteArray} (h : k.size ≤ 64) : bs (k ++ ofBytes (List.replicate (64 - k.size) 0)) = keyL (bs k) := by
  rw [bs_append, bs_ofBytes (fun x hx => by have := List.eq_of_mem_replicate hx; omega), keyL, bs_len]
theorem mac_fin {K : ByteArray} (h : K.size = 64) {s : ByteArray} : dig (ofBytes (xorB 92 (bs K)) ++ dig (ofBytes (xorB 54 (bs K)) ++ s)) = ofBytes (digL (xorB 92 (bs K) ++ digL (xorB 54 (bs K) ++ bs s))) := by
  rw [dig, bs_append, bs_dig, bs_append, bs_ofBytes (xorB_byt _ _), bs_ofBytes (xorB_byt _ _)]
theorem p_impl_MacOf {k s : ByteArray} (hk : k.size ≤ 900000000) (hs : s.size ≤ 900000000) : impl_MacOf k s = some (mac k s) := by
  have fin : ∀ {K : ByteArray} {m : Int}, K.size ≤ 64 → m = ((64 - K.size : Nat) : Int) → ∀ (f : Option ByteArray), f = some (ofBytes (digL (xorB 92 (keyL (bs K)) ++ digL (xorB 54 (keyL (bs K)) ++ bs s)))) →
      ((impl_zeros m).bind fun r1 => bif decide (K.size + r1.size ≤ 9223372036854775807) then (impl_xored (K ++ r1) 92).bind fun r2 => (impl_xored (K ++ r1) 54).bind fun r3 => bif decide (r3.size + s.size ≤ 9223372036854775807) then (impl_DigestOf (r3 ++ s)).bind fun r4 => bif decide (r2.size + r4.size ≤ 9223372036854775807) then (impl_DigestOf (r2 ++ r4)).bind fun r5 => some r5 else none else none else none) = f := by
    intro K m hK hm f hf
    have h64 : (K ++ ofBytes (List.replicate (64 - K.size) 0)).size = 64 := by rw [ByteArray.size_append, ofBytes_size, List.length_replicate]; omega
    subst hm
    have x1 := xorB_len 92 (keyL (bs K))
    have x2 := xorB_len 54 (keyL (bs K))
    have x3 : (keyL (bs K)).length = 64 := by rw [keyL, List.length_append, List.length_replicate, bs_len]; omega
    have hb := bs_pad hK
    have hf2 := mac_fin h64 (s := s)
    rw [hb] at hf2
    rw [p_impl_zeros (by omega), Option.bind_some, cond_t (by rw [ofBytes_size, List.length_replicate, decide_eq_true_eq]; omega), p_impl_xored (by omega), Option.bind_some, p_impl_xored (by omega), Option.bind_some, hb]
    rw [cond_t (by rw [ofBytes_size, decide_eq_true_eq]; omega), p_impl_DigestOf (by rw [ByteArray.size_append, ofBytes_size]; omega), Option.bind_some, cond_t (by rw [ofBytes_size, dig_size, decide_eq_true_eq]; omega)]
    rw [p_impl_DigestOf (by rw [ByteArray.size_append, ofBytes_size, dig_size]; omega), Option.bind_some, hf, hf2]
  rw [impl_MacOf, E_impl_MacOf]
  by_cases h : 64 < k.size
  · rw [cond_t (by simp; omega), p_impl_DigestOf (by omega), Option.bind_some]
    apply fin (by rw [dig_size]; omega) (by rw [dig_size]; decide)
    rw [mac, macL, key64, if_pos (by rw [bs_len]; omega), bs_dig]
  · rw [cond_f (by simp; omega)]
    apply fin (by omega) (by rw [w64_id (by omega) (by omega)]; omega)
    rw [mac, macL, key64, if_neg (by rw [bs_len]; omega)]
theorem p_impl_Mask {k : ByteArray} {num n : Int} (hk : k.size ≤ 900000000) : impl_Mask k num n = some (maskT k num n) := by
  rw [impl_Mask, E_impl_Mask, p_impl_VarText, Option.bind_some, maskT, maskOk]
  cases h : inR num 0 1000000000
  · rfl
  · rw [inR_iff] at h
    rw [cond_true, cond_f (by rfl), p_impl_in, Option.bind_some]
    cases h2 : inR n 0 8000
    · rfl
    · rw [inR_iff] at h2
      rw [cond_f (by rfl), Bool.and_self, cond_true]
      have hv := varL_len10 (n := num) (by omega)
      have hvb := varL_byt h.1
      have key := loopN (A := Unit) (n := (n.toNat + 31) / 32) (Lp := L_impl_Mask) (st := fun i _ => .c0 k n (ofBytes (varL num)) (ofBytes (maskM (bs k) (varL num) i)) (i : Int)) (Inv := fun _ _ => True) (out := fun _ _ => some (ofBytes (maskL (bs k) (varL num) n.toNat), true))
        (fun m _ _ => by
          rw [L_impl_Mask]
          simp only [B_impl_Mask]
          rw [cond_f (by rw [ofBytes_size, maskM_len, decide_eq_false_iff_not]; omega), cond_t (by rw [ofBytes_size, maskM_len]; simp; omega)]
          refine congrArg (fun x => some (x, true)) (bs_inj ?_)
          rw [bs_extract, bs_ofBytes (maskM_byt _ _ _), bs_ofBytes (maskL_byt _ _ _), maskL, List.drop_zero])
        (fun m i _ hi _ => .inr ⟨(), by
          have e : w64 ((i : Int) + 1) = ((i + 1 : Nat) : Int) := by rw [w64_id (by omega) (by omega)]; rfl
          have h9 : (⟨#[109]⟩ : ByteArray).size = 1 := rfl
          rw [L_impl_Mask]
          simp only [B_impl_Mask, e]
          rw [cond_t (by rw [ofBytes_size, maskM_len, decide_eq_true_eq]; omega), cond_t (by rw [ofBytes_size, h9, decide_eq_true_eq]; omega), p_impl_oneByte (by omega) (by omega), Option.bind_some, cond_t (by rw [ByteArray.size_append, ofBytes_size, ofBytes_size, h9, decide_eq_true_eq, List.length_singleton]; omega)]
          rw [p_impl_MacOf hk (by rw [ByteArray.size_append, ByteArray.size_append, ofBytes_size, ofBytes_size, h9, List.length_singleton]; omega), Option.bind_some, mask_in k h.1 h.2 i (by omega), cond_t (by rw [ofBytes_size, ofBytes_size, maskM_len, macL_len, decide_eq_true_eq]; omega)]
          rw [show ofBytes (maskM (bs k) (varL num) i) ++ ofBytes (macL (bs k) (109 :: (varL num ++ [(i : Int)]))) = ofBytes (maskM (bs k) (varL num) (i + 1)) from bs_inj (by
            rw [bs_append, bs_ofBytes (maskM_byt _ _ _), bs_ofBytes (maskM_byt _ _ _), bs_ofBytes (macL_byt _ _), maskM])], trivial, rfl⟩)
      exact key gas 0 () (Nat.zero_le _) (gas_lt (by omega)) trivial
theorem p_impl_both {a b : ByteArray} (ha : a.size ≤ 140737488351232) (h : a.size ≤ b.size) : impl_both a b = some (ofBytes (xorL (bs a) (bs b))) := by
  have hl := bs_len a
  have hl2 := bs_len b
  have key := loopN (A := Unit) (n := (bs a).length) (Lp := L_impl_both) (st := fun i _ => .c0 b ((bs a).length : Int) (i : Int) (List.zipWith xb ((bs a).take i) ((bs b).take i) ++ (bs a).drop i)) (Inv := fun _ _ => True) (out := fun _ _ => some (ofBytes (xorL (bs a) (bs b))))
    (fun m _ _ => by
      rw [L_impl_both]
      simp only [B_impl_both]
      rw [cond_f (by simp), List.take_length, List.drop_length, List.append_nil, xorL, zip_take])
    (fun m i _ hi _ => .inr ⟨(), by
      have e : w64 ((i : Int) + 1) = ((i + 1 : Nat) : Int) := by rw [w64_id (by omega) (by omega)]; rfl
      have hlen : (List.zipWith xb ((bs a).take i) ((bs b).take i) ++ (bs a).drop i).length = (bs a).length := by simp; omega
      rw [L_impl_both]
      simp only [B_impl_both, e, Int.toNat_natCast, hlen, xb_e, xor_at hi (show i < (bs b).length by omega)]
      rw [cond_t (by simp; omega), cond_t (by simp; omega), cond_t (by simp; omega), cond_t (by simp; omega), bt_getD (by omega), xor_step hi (by omega)], trivial, rfl⟩)
  rw [impl_both, E_impl_both, cond_t (by simp; omega), bytesOf_bs]
  exact key gas 0 () (Nat.zero_le _) (gas_lt (by omega)) trivial
theorem p_impl_tag {k s : ByteArray} {num : Int} (hk : k.size ≤ 900000000) (hn : 0 ≤ num ∧ num ≤ 1000000000) (hs : s.size ≤ 800000000) : impl_tag k num s = some (ofBytes (tagL (bs k) num (bs s))) := by
  have hv := varL_len10 (n := num) (by omega)
  have h9 : (⟨#[116]⟩ : ByteArray).size = 1 := rfl
  have e : bs (⟨#[116]⟩ : ByteArray) = [116] := rfl
  have h16 : (16 : Int).toNat = 16 := rfl
  rw [impl_tag, E_impl_tag, p_impl_varText (by omega), Option.bind_some, cond_t (by rw [ofBytes_size, h9, decide_eq_true_eq]; omega), cond_t (by rw [ByteArray.size_append, ofBytes_size, h9, decide_eq_true_eq]; omega)]
  rw [p_impl_MacOf hk (by rw [ByteArray.size_append, ByteArray.size_append, ofBytes_size, h9]; omega), Option.bind_some, cond_t (by rw [mac_size]; decide)]
  refine congrArg some (bs_inj ?_)
  rw [bs_extract, bs_mac, h16, bs_ofBytes (tagL_byt _ _ _), bs_append, bs_append, e, bs_ofBytes (varL_byt hn.1), tagL, List.drop_zero, List.append_assoc]
  rfl
theorem p_impl_LockText {k s : ByteArray} {num : Int} (hk : k.size ≤ 900000000) (hs : s.size ≤ 800000000) : impl_LockText k num s = some (lockT k num s) := by
  rw [impl_LockText, E_impl_LockText, p_impl_Mask hk, Option.bind_some, maskT, lockT]
  cases h : maskOk num s.size
  · rfl
  · have h' := maskOk_iff.1 h
    have hm := maskL_len (bs k) (varL num) ((s.size : Int).toNat)
    have hl := bs_len s
    rw [cond_true, cond_true, cond_f (by rfl), p_impl_both (by omega) (by rw [ofBytes_size, hm]; omega), Option.bind_some, bs_ofBytes (maskL_byt _ _ _)]
    have hx : (xorL (bs s) (maskL (bs k) (varL num) (s.size : Int).toNat)).length = s.size := by rw [xorL_len (by omega), hl]
    rw [p_impl_tag hk h'.1 (by rw [ofBytes_size, hx]; omega), Option.bind_some, bs_ofBytes (xorL_byt _ _), cond_t (by rw [ofBytes_size, ofBytes_size, hx, tagL_len, decide_eq_true_eq]; omega)]
    refine congrArg (fun x => some (x, true)) (bs_inj ?_)
    rw [bs_append, bs_ofBytes (xorL_byt _ _), bs_ofBytes (tagL_byt _ _ _), bs_ofBytes (fun x hx => by
      rcases List.mem_append.1 hx with hx | hx
      · exact xorL_byt _ _ x hx
      · exact tagL_byt _ _ _ x hx), sealL, hl]
    rfl
theorem an_one {s : Int} (h : R32 s) : an s 1 = s % 2 := by
  obtain ⟨h1, h2⟩ := h
  obtain ⟨n, rfl⟩ : ∃ n : Nat, s = (n : Int) := ⟨s.toNat, by omega⟩
  unfold an
  show w32 (((BitVec.ofInt 32 (n : Int) &&& BitVec.ofInt 32 1).toNat : Nat) : Int) = _
  rw [BitVec.ofInt_natCast, show BitVec.ofInt 32 1 = BitVec.ofNat 32 1 from rfl, BitVec.toNat_and, BitVec.toNat_ofNat, BitVec.toNat_ofNat, Nat.mod_eq_of_lt (by omega : n < 2 ^ 32), show 1 % 2 ^ 32 = 1 from rfl, Nat.and_one_is_mod, w32_id (by omega) (by omega)]
  omega
theorem sumI_in (t : ByteArray) (i : Nat) (hi : i < t.size) (ht : t.size ≤ 140737488351232) : ∀ (j k m : Nat) (s : Int), k + j = 8 → R32 s → L_impl_SumMore (m + j + 1) (.c1 s t (i : Int) (k : Int)) = L_impl_SumMore m (.c0 (crcN j s) t ((i + 1 : Nat) : Int)) := by
  intro j
  induction j with
  | zero =>
    intro k m s hk hs
    have e : w64 ((i : Int) + 1) = ((i + 1 : Nat) : Int) := by rw [w64_id (by omega) (by omega)]; rfl
    rw [L_impl_SumMore]
    simp only [B_impl_SumMore, e]
    rw [cond_f (by simp; omega)]
    rfl
  | succ j ih =>
    intro k m s hk hs
    have e : w64 ((k : Int) + 1) = ((k + 1 : Nat) : Int) := by rw [w64_id (by omega) (by omega)]; rfl
    have h2 : Int.fdiv s (2 ^ (Min.min (1 : Int).toNat (IntKind.bits IntKind.u32))) = s / 2 := Int.fdiv_eq_ediv_of_nonneg _ (by decide)
    rw [show m + (j + 1) + 1 = (m + j + 1) + 1 by omega, L_impl_SumMore]
    simp only [B_impl_SumMore, e, h2, an_e, an_one hs, xr_e]
    rw [cond_t (by simp; omega), crcN]
    by_cases h : s % 2 = 1
    · rw [cond_t (by simp [h]), ih (k + 1) m _ (by omega) (r32_xr _ _), crc1, if_pos h]
    · rw [cond_f (by simp [h]), ih (k + 1) m _ (by omega) (by unfold R32 at *; omega), crc1, if_neg h]
theorem p_impl_SumMore {t : ByteArray} {s : Int} (ht : t.size ≤ 140737488351232) : impl_SumMore s t = some (crcL s (bs t)) := by
  have hl := bs_len t
  have key : ∀ (j i m : Nat) (s : Int), i + j = t.size → L_impl_SumMore (m + 10 * j + 1) (.c0 s t (i : Int)) = some (crcL s ((bs t).drop i)) := by
    intro j
    induction j with
    | zero =>
      intro i m s h
      rw [L_impl_SumMore]
      simp only [B_impl_SumMore]
      rw [cond_f (by simp; omega), List.drop_of_length_le (by omega)]; rfl
    | succ j ih =>
      intro i m s h
      have hb := byt_getD (byt_bs t) i
      rw [show m + 10 * (j + 1) + 1 = (m + 10 * j + 1) + 8 + 1 + 1 by omega, L_impl_SumMore]
      simp only [B_impl_SumMore, xr_e]
      rw [cond_t (by simp; omega), cond_t (by simp; omega), bt_getD (by omega), w32_id (by omega) (by omega)]
      have h1 := sumI_in t i (by omega) ht 8 0 (m + 10 * j + 1) (xr s ((bs t).getD i 0)) (by omega) (r32_xr _ _)
      rw [show ((0 : Nat) : Int) = 0 from rfl] at h1
      rw [h1, ih (i + 1) m _ (by omega), drop_at (by omega : i < (bs t).length), getD_at (by omega)]
      rfl
  obtain ⟨m, hm⟩ : ∃ m, gas = m + 10 * t.size + 1 := ⟨gas - (10 * t.size + 1), by have := gas_lt (n := 10 * t.size + 1) (by omega); omega⟩
  rw [impl_SumMore, E_impl_SumMore, hm]
  have := key t.size 0 m s (by omega)
  rw [List.drop_zero] at this
  exact this
theorem p_impl_SumOf {t : ByteArray} (ht : t.size ≤ 140737488351232) : impl_SumOf t = some (sumL (bs t)) := by
  rw [impl_SumOf, E_impl_SumOf, p_impl_SumMore ht]; rfl
theorem p_impl_Frame {t : ByteArray} (h : t.size ≤ 140737488351232) : impl_Frame t = some (frameT t) := by
  rw [impl_Frame, E_impl_Frame, p_impl_in, Option.bind_some, frameT]
  cases h1 : inR (t.size : Int) 1 9000
  · rfl
  · rw [inR_iff] at h1
    have := varL_len10 (n := (t.size : Int)) (by omega)
    rw [cond_f (by rfl), p_impl_varText (by omega), Option.bind_some, p_impl_SumOf h, Option.bind_some, p_impl_fourBytes (sumL_r _), Option.bind_some, cond_t (by rw [ofBytes_size, ofBytes_size, decide_eq_true_eq]; have : (four (sumL (bs t))).length = 4 := rfl; omega)]
    rw [cond_t (by rw [ByteArray.size_append, ofBytes_size, ofBytes_size, decide_eq_true_eq]; have : (four (sumL (bs t))).length = 4 := rfl; omega), frame_cat, cond_true]
theorem p_impl_BookActs {k : ByteArray} {count : Int} {r : SRec} (hk : k.size ≤ 900000000) (hr : r.fNum ≤ 9223372036854775807) : impl_BookActs k count r = some (bookActs k count r) := by
  have hz := recText_size r
  rw [impl_BookActs, E_impl_BookActs, p_impl_RecText hr, Option.bind_some, bookActs]
  cases h1 : (recText r).2
  · rfl
  rw [cond_f (by rfl), p_impl_in, Option.bind_some, Bool.true_and]
  cases h2 : inR count 0 10000
  · rfl
  rw [inR_iff] at h2
  obtain ⟨l1, l2, l3⟩ := lock_ok (k := k) (s := (recText r).1) (num := count + 1) (by omega) (by omega)
  obtain ⟨f1, f2⟩ := frame_ok (t := (lockT k (count + 1) (recText r).1).1) (by omega)
  rw [cond_f (by rfl), w64_id (by omega) (by omega), p_impl_LockText hk (by omega), Option.bind_some, p_impl_Frame (by omega), Option.bind_some, l1, f1]
  rfl
theorem p_laws_eqAct (a : SAct)  : laws_eqAct a a = some true := by
  simp [laws_eqAct, E_laws_eqAct]
theorem p_laws_eqActS {a : (List SAct)} (h : a.length ≤ 140737488351232) : laws_eqActS a a = some true := by
  have h0 : a.length ≤ 140737488351232 := h
  have key : ∀ m i, i ≤ a.length → a.length - i < m → L_laws_eqActS m (.c0 a a i) = some true := fun m i h1 h2 =>
    loopN (A := Unit) (n := a.length) (Lp := L_laws_eqActS) (st := fun i _ => .c0 a a i) (Inv := fun _ _ => True) (out := fun _ _ => some true)
      (fun m _ _ => by simp [L_laws_eqActS, B_laws_eqActS])
      (fun m i _ hi _ => .inr ⟨(), by
        have hw : w64 ((i : Int) + 1) = ((i + 1 : Nat) : Int) := by rw [w64_id (by omega) (by omega)]; rfl
        simp only [L_laws_eqActS, B_laws_eqActS, Int.toNat_natCast, hw, p_laws_eqAct _, getD_at hi, Option.bind_some]
        simp [hi], trivial, rfl⟩) m i () h1 h2 trivial
  have h0 := key gas 0 (Nat.zero_le _) (gas_lt (by omega))
  unfold laws_eqActS E_laws_eqActS
  simp only [bne_self_eq_false, cond_false]
  exact h0
theorem markText_ex : ∀ (j : Nat) (k : Int) (m : Nat) (out : ByteArray), 0 ≤ k → k ≤ 9223372036854775807 → k < 10 ^ j → out.size + j ≤ 1000 → ∃ s, L_laws_markText (m + j + 1) (.c0 k out) = some s := by
  intro j
  induction j with
  | zero =>
    intro k m out hk _ hk2 ho
    have : k = 0 := by rw [Int.pow_zero] at hk2; omega
    subst this
    rw [L_laws_markText]
    simp only [B_laws_markText]
    have h9 : (⟨#[109]⟩ : ByteArray).size = 1 := rfl
    rw [cond_f (by simp), cond_t (by rw [h9, decide_eq_true_eq]; omega)]
    exact ⟨_, rfl⟩
  | succ j ih =>
    intro k m out hk h64 hk2 ho
    rw [show m + (j + 1) + 1 = (m + j + 1) + 1 by omega, L_laws_markText]
    simp only [B_laws_markText]
    by_cases h : 0 < k
    · have e1 : w64 (k.tdiv 10) = k / 10 := by rw [Int.tdiv_eq_ediv_of_nonneg hk, w64_id (by omega) (by omega)]
      have h3 : k / 10 < 10 ^ j := Int.ediv_lt_of_lt_mul (by omega) (by rw [← Int.pow_succ]; exact hk2)
      rw [cond_t (by simp; omega), cond_t (by rw [ofBytes_size, decide_eq_true_eq, List.length_singleton]; omega), e1]
      exact ih _ m _ (by omega) (by omega) h3 (by rw [ByteArray.size_append, ofBytes_size, List.length_singleton]; omega)
    · have : k = 0 := by omega
      subst this
      have h9 : (⟨#[109]⟩ : ByteArray).size = 1 := rfl
      rw [cond_f (by simp), cond_t (by rw [h9, decide_eq_true_eq]; omega)]
      exact ⟨_, rfl⟩
noncomputable def markT (k : Int) : ByteArray := (laws_markText k).getD ⟨#[]⟩
theorem p_laws_markText {k : Int} (h : k ≤ 1000000000000000000) : laws_markText k = some (markT k) := by
  have : ∃ s, laws_markText k = some s := by
    rw [laws_markText, E_laws_markText]
    by_cases hk : k ≤ 0
    · rw [cond_t (by simp; omega)]; exact ⟨_, rfl⟩
    · rw [cond_f (by simp; omega)]
      obtain ⟨m, hm⟩ : ∃ m, gas = m + 19 + 1 := ⟨gas - 20, by have := gas_lt (n := 20) (by omega); omega⟩
      rw [hm]
      exact markText_ex 19 k m _ (by omega) (by omega) (by have : (10 : Int) ^ 19 = 10000000000000000000 := by decide
                                                           omega) (by show 0 + 19 ≤ 1000; omega)
  obtain ⟨s, hs⟩ := this
  rw [markT, hs]; rfl
noncomputable def mkActS (k : Int) : SAct := ⟨k, markT (k + 1), markT (k + 1 + 1), markT (k + 1 + 1 + 1)⟩
noncomputable def mkActSs (k : Int) : Nat → List SAct
  | 0 => []
  | n + 1 => mkActS k :: mkActSs (k + 1 + 1 + 1 + 1) n
theorem mkActSs_len (n : Nat) : ∀ k, (mkActSs k n).length = n := by
  induction n with
  | zero => intro k; rfl
  | succ n ih => intro k; rw [mkActSs, List.length_cons, ih]
theorem mkActS_step {a : List SAct} {k : Int} {i m : Nat} (hi : i < a.length) (hk : 0 < k) (hk2 : k ≤ 100000000000000000) (hl : a.length ≤ 100000000000000000) :
    L_laws_markActS (m + 4) (.c0 k (i : Int) a) = L_laws_markActS m (.c0 (k + 1 + 1 + 1 + 1) ((i + 1 : Nat) : Int) (a.set i (mkActS k))) := by
  have hwi : w64 ((i : Int) + 1) = ((i + 1 : Nat) : Int) := by rw [w64_id (by omega) (by omega)]; rfl
  have hlt : decide ((i : Int) < (a.length : Int)) = true := decide_eq_true (by omega)
  have hle : decide ((0 : Int) ≤ (i : Int)) = true := decide_eq_true (by omega)
  have hw1 : w64 (k + 1) = k + 1 := w64_id (by omega) (by omega)
  have hw2 : w64 (k + 1 + 1) = k + 1 + 1 := w64_id (by omega) (by omega)
  have hw3 : w64 (k + 1 + 1 + 1) = k + 1 + 1 + 1 := w64_id (by omega) (by omega)
  have hw4 : w64 (k + 1 + 1 + 1 + 1) = k + 1 + 1 + 1 + 1 := w64_id (by omega) (by omega)
  have hm1 := p_laws_markText (k := k + 1) (by omega)
  have hm2 := p_laws_markText (k := k + 1 + 1) (by omega)
  have hm3 := p_laws_markText (k := k + 1 + 1 + 1) (by omega)
  rw [show m + 4 = m + 1 + 1 + 1 + 1 from rfl]
  rw [L_laws_markActS]
  simp only [B_laws_markActS, Int.toNat_natCast, List.length_set, getD_set hi, List.set_set, hwi, hw1, hw2, hw3, hw4, hm1, hm2, hm3, Option.bind_some, hlt, hle, Bool.and_self, cond_true]
  rw [L_laws_markActS]
  simp only [B_laws_markActS, Int.toNat_natCast, List.length_set, getD_set hi, List.set_set, hwi, hw1, hw2, hw3, hw4, hm1, hm2, hm3, Option.bind_some, hlt, hle, Bool.and_self, cond_true]
  rw [L_laws_markActS]
  simp only [B_laws_markActS, Int.toNat_natCast, List.length_set, getD_set hi, List.set_set, hwi, hw1, hw2, hw3, hw4, hm1, hm2, hm3, Option.bind_some, hlt, hle, Bool.and_self, cond_true]
  rw [L_laws_markActS]
  simp only [B_laws_markActS, Int.toNat_natCast, List.length_set, getD_set hi, List.set_set, hwi, hw1, hw2, hw3, hw4, hm1, hm2, hm3, Option.bind_some, hlt, hle, Bool.and_self, cond_true]
  rfl
theorem pm_laws_markActS {a : List SAct} {k : Int} (hk : 0 < k) (hb : k + 4 * a.length ≤ 100000000000000000) : laws_markActS a k = some (k + 4 * a.length, mkActSs k a.length) := by
  have key : ∀ (j i m : Nat) (k : Int) (b d : List SAct), i + j = a.length → d.length = i → b.length = j → 0 < k → k + 4 * j ≤ 100000000000000000 → L_laws_markActS (m + 4 * j + 1) (.c0 k (i : Int) (d ++ b)) = some (k + 4 * j, d ++ mkActSs k j) := by
    intro j
    induction j with
    | zero =>
      intro i m k b d h1 h2 h3 h4 h5
      have hb0 : b = [] := List.length_eq_zero_iff.1 h3
      subst hb0
      rw [L_laws_markActS]
      simp only [B_laws_markActS, List.append_nil, h2, mkActSs]
      rw [cond_f (by simp)]
      simp
    | succ j ih =>
      intro i m k b d h1 h2 h3 h4 h5
      obtain ⟨x, b, rfl⟩ : ∃ x c, b = x :: c := by cases b with
        | nil => cases h3
        | cons x c => exact ⟨x, c, rfl⟩
      rw [List.length_cons] at h3
      have hlen : (d ++ x :: b).length = a.length := by rw [List.length_append, List.length_cons]; omega
      rw [show m + 4 * (j + 1) + 1 = (m + 4 * j + 1) + 4 by omega, mkActS_step (by omega) h4 (by omega) (by omega), set_app h2]
      have h6 := ih (i + 1) m (k + 1 + 1 + 1 + 1) b (d ++ [mkActS k]) (by omega) (by rw [List.length_append, List.length_singleton]; omega) (by omega) (by omega) (by omega)
      rw [List.append_assoc, List.append_assoc, List.singleton_append, List.singleton_append] at h6
      rw [h6, mkActSs]
      congr 2
      omega
  obtain ⟨m, hm⟩ : ∃ m, gas = m + 4 * a.length + 1 := ⟨gas - (4 * a.length + 1), by have := gas_lt (n := 4 * a.length + 1) (by omega); omega⟩
  rw [laws_markActS, E_laws_markActS, hm]
  exact key a.length 0 m k a [] (by omega) rfl rfl hk hb
theorem mkActS_held {a : List SAct} {k : Int} {i m : Nat} (hi : i < a.length) (hg : ∀ z, a.getD i z = mkActS k) (hk : 0 < k) (hk2 : k ≤ 100000000000000000) (hl : a.length ≤ 100000000000000000) :
    L_laws_heldActS (m + 1) (.c0 a k (i : Int)) = L_laws_heldActS m (.c0 a (k + 1 + 1 + 1 + 1) ((i + 1 : Nat) : Int)) := by
  have hwi : w64 ((i : Int) + 1) = ((i + 1 : Nat) : Int) := by rw [w64_id (by omega) (by omega)]; rfl
  have hlt : decide ((i : Int) < (a.length : Int)) = true := decide_eq_true (by omega)
  have hle : decide ((0 : Int) ≤ (i : Int)) = true := decide_eq_true (by omega)
  have hw1 : w64 (k + 1) = k + 1 := w64_id (by omega) (by omega)
  have hw2 : w64 (k + 1 + 1) = k + 1 + 1 := w64_id (by omega) (by omega)
  have hw3 : w64 (k + 1 + 1 + 1) = k + 1 + 1 + 1 := w64_id (by omega) (by omega)
  have hw4 : w64 (k + 1 + 1 + 1 + 1) = k + 1 + 1 + 1 + 1 := w64_id (by omega) (by omega)
  have hm1 := p_laws_markText (k := k + 1) (by omega)
  have hm2 := p_laws_markText (k := k + 1 + 1) (by omega)
  have hm3 := p_laws_markText (k := k + 1 + 1 + 1) (by omega)
  rw [L_laws_heldActS]
  simp only [B_laws_heldActS, Int.toNat_natCast, hwi, hw1, hw2, hw3, hw4, hm1, hm2, hm3, Option.bind_some, hlt, hle, Bool.and_self, cond_true, hg, mkActS, bne_self_eq_false, cond_false, toList_self, beq_self_eq_true, Bool.not_true]
theorem mkActSs_at : ∀ (n : Nat) (k : Int) (i : Nat), i < n → ∀ z, (mkActSs k n).getD i z = mkActS (k + 4 * i) := by
  intro n
  induction n with
  | zero => intro k i h; omega
  | succ n ih =>
    intro k i h z
    cases i with
    | zero => rw [mkActSs, show k + 4 * ((0 : Nat) : Int) = k by omega]; rfl
    | succ i =>
      have h2 := ih (k + 1 + 1 + 1 + 1) i (by omega) z
      rw [show k + 1 + 1 + 1 + 1 + 4 * (i : Int) = k + 4 * ((i + 1 : Nat) : Int) by omega] at h2
      rw [← h2, mkActSs]; rfl
theorem ph_laws_heldActS {n : Nat} {k : Int} (hk : 0 < k) (hb : k + 4 * n ≤ 100000000000000000) : laws_heldActS (mkActSs k n) k = some (k + 4 * n) := by
  have hl := mkActSs_len n k
  have key : ∀ (j i m : Nat), i + j = n → L_laws_heldActS (m + j + 1) (.c0 (mkActSs k n) (k + 4 * i) (i : Int)) = some (k + 4 * n) := by
    intro j
    induction j with
    | zero =>
      intro i m h1
      obtain rfl : i = n := by omega
      rw [L_laws_heldActS]
      simp only [B_laws_heldActS, hl]
      rw [cond_f (by simp)]
    | succ j ih =>
      intro i m h1
      rw [show m + (j + 1) + 1 = (m + j + 1) + 1 by omega, mkActS_held (by omega) (mkActSs_at n k i (by omega)) (by omega) (by omega) (by omega)]
      have h2 := ih (i + 1) m (by omega)
      rw [show k + 4 * ((i + 1 : Nat) : Int) = k + 4 * (i : Int) + 1 + 1 + 1 + 1 by omega] at h2
      exact h2
  obtain ⟨m, hm⟩ : ∃ m, gas = m + n + 1 := ⟨gas - (n + 1), by have := gas_lt (n := n + 1) (by omega); omega⟩
  have h0 := key n 0 m (by omega)
  rw [show k + 4 * ((0 : Nat) : Int) = k by omega] at h0
  rw [laws_heldActS, E_laws_heldActS, hm]
  exact h0
theorem law_FnExactBookActs (x0 : ByteArray) (x1 : Int) (x2 : SRec) (g0 : GStr x0) (g1 : GInt .i64 x1) (g2 : GSRec x2) : laws_FnExactBookActs x0 x1 x2 = some true := by
  obtain ⟨r, hr⟩ := p_laws_szRec g2 1048576
  rw [laws_FnExactBookActs, E_laws_FnExactBookActs]
  by_cases h : 1048576 < x0.size
  · rw [cond_t (by simp; omega)]
  have hn := (gint g2.2.2.1).2
  have hl : (bookActs x0 x1 x2).1.length ≤ 2 := by
    rw [bookActs]
    cases ((recText x2).2 && inR x1 0 10000)
    · exact Nat.zero_le _
    · exact Nat.le_refl _
  have m1 := pm_laws_markActS (a := (bookActs x0 x1 x2).1) (k := 1) (by omega) (by omega)
  have h1 := ph_laws_heldActS (n := (bookActs x0 x1 x2).1.length) (k := 1) (by omega) (by omega)
  have d1 : decide ((1 : Int) + 4 * ((bookActs x0 x1 x2).1.length : Int) < 0) = false := by rw [decide_eq_false_iff_not]; omega
  rw [cond_f (by simp; omega)]
  simp only [hr, p_laws_toRec g2, p_spec_BookActs (k := x0) (count := x1) (r := x2) (by omega), p_impl_BookActs (k := x0) (count := x1) (r := x2) (by omega) hn, Option.bind_some, p_laws_eqActS (show (bookActs x0 x1 x2).1.length ≤ 140737488351232 by omega), m1, h1, d1, beq_self_eq_true, Bool.not_true, cond_false, bne_self_eq_false]
  cases decide (r < 0) <;> rfl
end Go.Proofs.YtldjkjjfoofccaaDoor.G

/- The plain law of FnExactEnter: whatever the arguments, it answers true. Conditions: what is read is in reach. Part 1 of 1. -/
import Derived.Test.YtldjkjjfoofccaaDoorFFnExactEnter
import Derived.Test.YtldjkjjfoofccaaDoorOpens
import Derived.Test.YtldjkjjfoofccaaDoorPBase
namespace Go.Proofs.YtldjkjjfoofccaaDoor.G
open Go Go.Ev
set_option linter.unusedVariables false
set_option linter.unusedSimpArgs false
theorem p_laws_szThing {a : SThing} (g : GSThing a) (n : Int) : ∃ r, laws_szThing a n = some r := ⟨_, cond_some _ _ _⟩
theorem p_laws_szThingS {a : (List SThing)} (g : (GList 48 GSThing) a) (n : Int) : ∃ r, laws_szThingS a n = some r := by
  have h := g.1
  have key : ∀ m i l, i ≤ a.length → a.length - i < m → ∃ r, L_laws_szThingS m (.c0 a l i) = some r := by
    intro m
    induction m with
    | zero => intro i l _ h; omega
    | succ m ih =>
      intro i l h1 h2
      simp only [L_laws_szThingS, B_laws_szThingS]
      by_cases hi : i < a.length
      · have hw : w64 ((i : Int) + 1) = ((i + 1 : Nat) : Int) := by rw [w64_id (by omega) (by omega)]; rfl
        obtain ⟨r, hr⟩ := p_laws_szThing (g.2 _ (List.getElem_mem hi)) l
        simp only [Int.toNat_natCast, getD_at hi, hr, Option.bind_some, hw]
        rw [show (decide ((i : Int) < (a.length : Int))) = true from decide_eq_true (by omega), show (decide ((0 : Int) ≤ (i : Int))) = true from decide_eq_true (by omega)]
        simp only [Bool.and_self, cond_true]
        cases decide (r < 0)
        · exact ih (i + 1) r hi (by omega)
        · exact ⟨_, rfl⟩
      · rw [show (decide ((i : Int) < (a.length : Int))) = false from decide_eq_false (by omega)]
        exact ⟨_, rfl⟩
  unfold laws_szThingS E_laws_szThingS
  cases decide (w64 (n - (a.length : Int)) < 0)
  · exact key gas 0 _ (Nat.zero_le _) (gas_lt (by omega))
  · exact ⟨_, rfl⟩
theorem p_laws_szBook {a : SBook} (g : GSBook a) (n : Int) : ∃ r, laws_szBook a n = some r := by
  unfold laws_szBook E_laws_szBook
  cases decide ((w64 (n - (a.fWord.size : Int))) < 0)
  rotate_left
  · exact ⟨_, rfl⟩
  simp only [cond_false]
  obtain ⟨r0, hr0⟩ := p_laws_szThingS (g.2.2.1) ((w64 (n - (a.fWord.size : Int))))
  simp only [hr0, Option.bind_some]
  cases decide (r0 < 0)
  rotate_left
  · exact ⟨_, rfl⟩
  simp only [cond_false]
  cases decide ((w64 (r0 - (a.fChain.size : Int))) < 0)
  rotate_left
  · exact ⟨_, rfl⟩
  simp only [cond_false]
  exact ⟨_, rfl⟩
theorem p_laws_szRec {a : SRec} (g : GSRec a) (n : Int) : ∃ r, laws_szRec a n = some r := by
  unfold laws_szRec E_laws_szRec
  cases decide ((w64 (n - (a.fText.size : Int))) < 0)
  rotate_left
  · exact ⟨_, rfl⟩
  simp only [cond_false]
  obtain ⟨r0, hr0⟩ := p_laws_szThing (g.2.2.2) ((w64 (n - (a.fText.size : Int))))
  simp only [hr0, Option.bind_some]
  cases decide (r0 < 0)
  rotate_left
  · exact ⟨_, rfl⟩
  simp only [cond_false]
  exact ⟨_, rfl⟩
theorem p_laws_toThing {a : SThing} (g : GSThing a) : laws_toThing a = some a := by
  simp only [laws_toThing, E_laws_toThing, Option.bind_some]
theorem p_laws_toThingS {a : (List SThing)} (g : (GList 48 GSThing) a) : laws_toThingS a = some a := by
  have h := g.1
  have key : ∀ m i, i ≤ a.length → a.length - i < m → L_laws_toThingS m (.c0 a i (a.take i ++ List.replicate (a.length - i) (⟨(0 : Int), (0 : Int), false, false, false, false, (⟨#[]⟩ : ByteArray), (0 : Int)⟩ : SThing))) = some a := fun m i h1 h2 =>
    loopN (A := Unit) (n := a.length) (Lp := L_laws_toThingS) (st := fun i _ => .c0 a i (a.take i ++ List.replicate (a.length - i) (⟨(0 : Int), (0 : Int), false, false, false, false, (⟨#[]⟩ : ByteArray), (0 : Int)⟩ : SThing))) (Inv := fun _ _ => True) (out := fun _ _ => some a)
      (fun m _ _ => by simp [L_laws_toThingS, B_laws_toThingS])
      (fun m i _ hi _ => .inr ⟨(), by
        have hw : w64 ((i : Int) + 1) = ((i + 1 : Nat) : Int) := by rw [w64_id (by omega) (by omega)]; rfl
        have hc := copied_len (Nat.le_of_lt hi) (⟨(0 : Int), (0 : Int), false, false, false, false, (⟨#[]⟩ : ByteArray), (0 : Int)⟩ : SThing)
        simp only [L_laws_toThingS, B_laws_toThingS, Int.toNat_natCast, getD_at hi, p_laws_toThing (g.2 _ (List.getElem_mem hi)), Option.bind_some, hw, copied hi, hc]
        simp [hi], trivial, rfl⟩) m i () h1 h2 trivial
  have h0 : L_laws_toThingS gas (.c0 a 0 (List.replicate a.length (⟨(0 : Int), (0 : Int), false, false, false, false, (⟨#[]⟩ : ByteArray), (0 : Int)⟩ : SThing))) = some a := by
    have := key gas 0 (Nat.zero_le _) (gas_lt (by omega))
    simpa using this
  unfold laws_toThingS E_laws_toThingS
  simp only [Int.toNat_natCast, h0]
  simp [show a.length * 48 ≤ 140737488355328 from by omega, show ((a.length : Int) ≤ 9223372036854775807) from by omega]
  try omega
theorem p_laws_toBook {a : SBook} (g : GSBook a) : laws_toBook a = some a := by
  simp only [laws_toBook, E_laws_toBook, p_laws_toThingS (g.2.2.1), Option.bind_some]
theorem p_laws_toRec {a : SRec} (g : GSRec a) : laws_toRec a = some a := by
  simp only [laws_toRec, E_laws_toRec, p_laws_toThing (g.2.2.2), Option.bind_some]
def inR (x a b : Int) : Bool := decide (a ≤ x) && decide (x ≤ b)
theorem inR_iff {x a b : Int} : inR x a b = true ↔ a ≤ x ∧ x ≤ b := by simp [inR]
theorem p_spec_l01In (x a b : Int) : spec_l01In x a b = some (inR x a b) := by
  show (bif decide (a ≤ x) then some (decide (x ≤ b)) else some false) = some (inR x a b)
  unfold inR; cases decide (a ≤ x) <;> rfl
/-- A number's bytes, by sevens of bits. -/
def varL (n : Int) : List Int := if n > 127 then (128 + n % 128) :: varL (n / 128) else [w8 n]
termination_by n.toNat
decreasing_by omega
theorem varL_len : ∀ (k : Nat) (n : Int), n < 128 ^ k → (varL n).length ≤ max k 1 := by
  intro k
  induction k with
  | zero => intro n h; rw [varL, if_neg (by omega)]; simp
  | succ k ih =>
    intro n h
    rw [varL]
    split
    · rename_i hn
      have h2 : n / 128 < 128 ^ k := by
        rw [Int.pow_succ] at h
        exact Int.ediv_lt_of_lt_mul (by omega) h
      have := ih _ h2
      simp only [List.length_cons]
      by_cases hk : k = 0
      · subst hk; simp at h2; try omega
      · omega
    · simp; try omega
theorem varL_len10 {n : Int} (h : n ≤ 9223372036854775807) : (varL n).length ≤ 10 := by
  have := varL_len 10 n (by have : (128 : Int) ^ 10 = 1180591620717411303424 := by decide
                            omega)
  omega
theorem varL_pos (n : Int) : 1 ≤ (varL n).length := by rw [varL]; split <;> simp
theorem varL_step {n : Int} (h : n > 127) (h2 : n ≤ 9223372036854775807) : w64 (n.tdiv 128) = n / 128 ∧ w8 (w64 (n.tmod 128 + 128)) = 128 + n % 128 ∧ w8 (w64 (128 + n.tmod 128)) = 128 + n % 128 := by
  have e1 : n.tdiv 128 = n / 128 := Int.tdiv_eq_ediv_of_nonneg (by omega)
  have e2 : n.tmod 128 = n % 128 := Int.tmod_eq_emod_of_nonneg (by omega)
  refine ⟨by rw [e1, w64_id (by omega) (by omega)], ?_, ?_⟩
  · rw [e2, w64_id (by omega) (by omega), w8_id (by omega) (by omega)]; omega
  · rw [e2, w64_id (by omega) (by omega), w8_id (by omega) (by omega)]
theorem p_spec_l01Var {n : Int} (h : n ≤ 9223372036854775807) : spec_l01Var n = some (ofBytes (varL n)) := by
  have key : ∀ (n : Int) (m : Nat) (out : List Int), n ≤ 9223372036854775807 → (varL n).length ≤ m → out.length + (varL n).length ≤ 1000 → L_spec_l01Var m (.c0 n out) = some (ofBytes (out ++ varL n)) := by
    intro n
    induction n using varL.induct with
    | case1 n hn ih =>
      intro m out h1 h2 h3
      rw [varL, if_pos hn] at h2 h3 ⊢
      simp only [List.length_cons] at h2 h3
      obtain ⟨m, rfl⟩ : ∃ k, m = k + 1 := ⟨m - 1, by omega⟩
      obtain ⟨e1, e2, _⟩ := varL_step hn h1
      simp only [L_spec_l01Var, B_spec_l01Var, e1, e2]
      rw [show decide (n > 127) = true from decide_eq_true hn, show decide ((out.length + 1) * 1 ≤ 140737488355328) = true from decide_eq_true (by omega)]
      simp only [cond_true]
      rw [ih m _ (by omega) (by omega) (by simp; omega)]
      simp
    | case2 n hn =>
      intro m out h1 h2 h3
      rw [varL, if_neg hn] at h2 h3 ⊢
      simp at h2 h3
      obtain ⟨m, rfl⟩ : ∃ k, m = k + 1 := ⟨m - 1, by omega⟩
      simp only [L_spec_l01Var, B_spec_l01Var]
      rw [show decide (n > 127) = false from decide_eq_false hn, show decide ((out.length + 1) * 1 ≤ 140737488355328) = true from decide_eq_true (by omega)]
      rfl
  have hl := varL_len10 h
  exact key n gas [] h (Nat.le_of_lt (gas_lt (by omega))) (by simp; omega)
def thingOk (x : SThing) : Bool := inR x.fId 1 1000 && inR x.fKind 1 3 && inR x.fNext 0 16 && ((x.fKind == 2) || ((x.fNext == 0) && !x.fSigns)) && ((x.fKind == 1) || !x.fWraps) && (bif x.fKind == 3 then decide ((x.fValue.size : Int) ≤ 100) else (x.fValue.size : Int) == 32)
theorem p_spec_ThingOk (x : SThing) : spec_ThingOk x = some (thingOk x) := by
  simp only [spec_ThingOk, E_spec_ThingOk, p_spec_l01In, Option.bind_some, thingOk, bne]
  cases inR x.fId 1 1000 <;> cases inR x.fKind 1 3 <;> cases inR x.fNext 0 16 <;> cases (x.fKind == 2) <;> cases (x.fKind == 1) <;> cases (x.fKind == 3) <;> cases (x.fNext == 0) <;> cases x.fSigns <;> cases x.fWraps <;> rfl
theorem thingOk_kind {x : SThing} (h : thingOk x = true) : 1 ≤ x.fKind ∧ x.fKind ≤ 3 ∧ 1 ≤ x.fId ∧ x.fId ≤ 1000 ∧ 0 ≤ x.fNext ∧ x.fNext ≤ 16 ∧ x.fValue.size ≤ 100 := by
  unfold thingOk at h
  simp only [Bool.and_eq_true] at h
  obtain ⟨⟨⟨⟨⟨h1, h2⟩, h3⟩, _⟩, _⟩, h4⟩ := h
  rw [inR_iff] at h1 h2 h3
  refine ⟨h2.1, h2.2, h1.1, h1.2, h3.1, h3.2, ?_⟩
  cases hk : x.fKind == 3
  · rw [hk] at h4; simp at h4; omega
  · rw [hk] at h4; simp at h4; omega
theorem p_spec_l19Flag (b : Bool) (n : Int) : spec_l19Flag b n = some (bif b then n else 0) := by cases b <;> rfl
theorem p_spec_l06Byte {n : Int} (h : 0 ≤ n) (h2 : n ≤ 255) : spec_l06Byte n = some (ofBytes [n]) := by
  have e : n.tmod 256 = n := by rw [Int.tmod_eq_emod_of_nonneg h]; omega
  simp only [spec_l06Byte, E_spec_l06Byte, e]
  rw [show decide (n < 0) = false from decide_eq_false (by omega), w8_id h h2]
  rfl
def shortT (s : ByteArray) : ByteArray := ofBytes (varL (s.size : Int)) ++ s
theorem shortT_size {s : ByteArray} (h : s.size ≤ 140737488351232) : (shortT s).size ≤ s.size + 10 := by
  unfold shortT; rw [ba_append_size, ofBytes_size]; have := varL_len10 (n := (s.size : Int)) (by omega); omega
theorem p_spec_l19Short {s : ByteArray} (h : s.size ≤ 140737488351232) : spec_l19Short s = some (shortT s) := by
  simp only [spec_l19Short, E_spec_l19Short, p_spec_l01Var (n := (s.size : Int)) (by omega), Option.bind_some]
  have := varL_len10 (n := (s.size : Int)) (by omega)
  rw [show decide ((ofBytes (varL (s.size : Int))).size + s.size ≤ 9223372036854775807) = true from decide_eq_true (by rw [ofBytes_size]; omega)]
  rfl
def flagN (x : SThing) : Int := (bif x.fHidden then 1 else 0) + (bif x.fFixed then 2 else 0) + (bif x.fSigns then 4 else 0) + (bif x.fWraps then 8 else 0)
theorem flagN_lt (x : SThing) : 0 ≤ flagN x ∧ flagN x ≤ 15 := by
  unfold flagN; cases x.fHidden <;> cases x.fFixed <;> cases x.fSigns <;> cases x.fWraps <;> decide
theorem flags5 (m : Nat) (a b c d : Bool) : L_impl_flags (m + 5) (.c0 0 4 0 [a, b, c, d]) = some ((bif a then 1 else 0) + (bif b then 2 else 0) + (bif c then 4 else 0) + (bif d then 8 else 0)) := by
  cases a <;> cases b <;> cases c <;> cases d <;> kernel_rfl
theorem p_impl_flags (x : SThing) : impl_flags x = some (flagN x) := by
  have : gas = 9223372036854775802 + 5 := rfl
  unfold impl_flags E_impl_flags
  rw [this]
  exact flags5 _ _ _ _ _
def thingT (x : SThing) : ByteArray := ofBytes (varL x.fId) ++ ofBytes [x.fKind] ++ ofBytes [flagN x] ++ shortT x.fValue ++ ofBytes (varL x.fNext)
def thingText (x : SThing) : ByteArray × Bool := bif thingOk x then (thingT x, true) else (⟨#[]⟩, false)
theorem thing_sizes {x : SThing} (h : thingOk x = true) : (ofBytes (varL x.fId)).size ≤ 10 ∧ (shortT x.fValue).size ≤ 110 ∧ (ofBytes (varL x.fNext)).size ≤ 10 := by
  obtain ⟨_, _, _, h1, _, h2, h3⟩ := thingOk_kind h
  rw [ofBytes_size, ofBytes_size]
  have := varL_len10 (n := x.fId) (by omega)
  have := varL_len10 (n := x.fNext) (by omega)
  have := shortT_size (s := x.fValue) (by omega)
  omega
theorem thingT_size {x : SThing} (h : thingOk x = true) : (thingT x).size ≤ 200 := by
  obtain ⟨h1, h2, h3⟩ := thing_sizes h
  unfold thingT
  simp only [ba_append_size]
  have e1 : ∀ n : Int, (ofBytes [n]).size = 1 := fun n => ofBytes_size _
  rw [e1, e1]; omega
theorem p_spec_ThingText (x : SThing) : spec_ThingText x = some (thingText x) := by
  simp only [spec_ThingText, E_spec_ThingText, p_spec_ThingOk, Option.bind_some, thingText]
  cases h : thingOk x
  · rfl
  · obtain ⟨k1, k2, k3, k4, k5, k6, k7⟩ := thingOk_kind h
    obtain ⟨z1, z2, z3⟩ := thing_sizes h
    have hf := flagN_lt x
    have e1 : ∀ n : Int, (ofBytes [n]).size = 1 := fun n => ofBytes_size _
    have ef : w64 (w64 (w64 ((bif x.fHidden then (1 : Int) else 0) + (bif x.fFixed then 2 else 0)) + (bif x.fSigns then 4 else 0)) + (bif x.fWraps then 8 else 0)) = flagN x := by
      unfold flagN; cases x.fHidden <;> cases x.fFixed <;> cases x.fSigns <;> cases x.fWraps <;> rfl
    simp only [p_spec_l19Flag, Option.bind_some, ef, p_spec_l01Var (n := x.fId) (by omega), p_spec_l06Byte (n := x.fKind) (by omega) (by omega), p_spec_l06Byte hf.1 (by omega), p_spec_l19Short (s := x.fValue) (by omega), p_spec_l01Var (n := x.fNext) (by omega), ba_append_size, e1]
    simp only [Bool.not_true, cond_false, cond_true]
    rw [show decide ((ofBytes (varL x.fId)).size + 1 ≤ 9223372036854775807) = true from decide_eq_true (by omega), show decide ((ofBytes (varL x.fId)).size + 1 + 1 ≤ 9223372036854775807) = true from decide_eq_true (by omega),
      show decide ((ofBytes (varL x.fId)).size + 1 + 1 + (shortT x.fValue).size ≤ 9223372036854775807) = true from decide_eq_true (by omega), show decide ((ofBytes (varL x.fId)).size + 1 + 1 + (shortT x.fValue).size + (ofBytes (varL x.fNext)).size ≤ 9223372036854775807) = true from decide_eq_true (by omega)]
    rfl
def isZ (x : SThing) : Bool := (x.fId == 0) && ((x.fKind == 0) && ((x.fHidden == false) && ((x.fFixed == false) && ((x.fSigns == false) && ((x.fWraps == false) && (((ByteArray.toList x.fValue) == (ByteArray.toList (⟨#[]⟩ : ByteArray))) && ((x.fNext == 0) && true)))))))
theorem isZ_e (x : SThing) : ((x.fId == 0) && ((x.fKind == 0) && ((x.fHidden == false) && ((x.fFixed == false) && ((x.fSigns == false) && ((x.fWraps == false) && (((ByteArray.toList x.fValue) == (ByteArray.toList (⟨#[]⟩ : ByteArray))) && ((x.fNext == 0) && true)))))))) = isZ x := rfl
def isE (s : ByteArray) : Bool := (ByteArray.toList s) == (ByteArray.toList (⟨#[]⟩ : ByteArray))
theorem isE_e (s : ByteArray) : ((ByteArray.toList s) == (ByteArray.toList (⟨#[]⟩ : ByteArray))) = isE s := rfl
def noT : ByteArray × Bool := ((⟨#[]⟩ : ByteArray), false)
def recText (r : SRec) : ByteArray × Bool :=
  bif r.fKind == 1 then (bif (r.fText.size : Int) == 32 && r.fNum == 0 && isZ r.fThing then (ofBytes [1] ++ r.fText, true) else noT)
  else bif r.fKind == 2 then (bif isE r.fText && isZ r.fThing && inR r.fNum 0 3 then (ofBytes [2] ++ ofBytes (varL r.fNum), true) else noT)
  else bif r.fKind == 3 then (bif (thingText r.fThing).2 && isE r.fText && r.fNum == 0 then (ofBytes [3] ++ (thingText r.fThing).1, true) else noT)
  else bif r.fKind == 4 then (bif isE r.fText && isZ r.fThing && inR r.fNum 1 1000 then (ofBytes [4] ++ ofBytes (varL r.fNum), true) else noT)
  else noT
theorem rec_var {n a b : Int} (hb : b ≤ 1000) (h : inR n a b = true) (k : Int) : (ofBytes [k]).size + (ofBytes (varL n)).size ≤ 9223372036854775807 := by
  rw [inR_iff] at h
  have := varL_len10 (n := n) (by omega)
  rw [ofBytes_size, ofBytes_size]; simp only [List.length_singleton]; omega
theorem rec_thing {x : SThing} (h : (thingText x).2 = true) (k : Int) : (ofBytes [k]).size + (thingText x).1.size ≤ 9223372036854775807 := by
  unfold thingText at h ⊢
  cases ho : thingOk x
  · rw [ho] at h; cases h
  · have := thingT_size ho
    rw [ofBytes_size]; simp only [List.length_singleton, cond_true]; omega
theorem p_spec_RecText (r : SRec) : spec_RecText r = some (recText r) := by
  have h1 : (⟨#[1]⟩ : ByteArray) = ofBytes [1] := rfl
  have h2 : (⟨#[2]⟩ : ByteArray) = ofBytes [2] := rfl
  have h3 : (⟨#[3]⟩ : ByteArray) = ofBytes [3] := rfl
  have h4 : (⟨#[4]⟩ : ByteArray) = ofBytes [4] := rfl
  simp only [spec_RecText, E_spec_RecText, p_spec_l01In, p_spec_ThingText, Option.bind_some, isZ_e, h1, h2, h3, h4]
  simp only [isE_e, recText]
  cases r.fKind == 1
  · simp only [cond_false]
    cases r.fKind == 2
    · simp only [cond_false]
      cases r.fKind == 3
      · simp only [cond_false]
        cases r.fKind == 4
        · rfl
        · cases isE r.fText <;> cases isZ r.fThing <;> (try rfl)
          cases h : inR r.fNum 1 1000
          · rfl
          · have h' := h
            rw [inR_iff] at h'
            simp only [cond_true, p_spec_l01Var (n := r.fNum) (by omega), Option.bind_some, Bool.and_self, decide_eq_true (rec_var (by omega) h 4)]
      · cases h : (thingText r.fThing).2
        · rfl
        · cases isE r.fText <;> cases r.fNum == 0 <;> (try rfl)
          simp only [cond_true, Bool.and_self, decide_eq_true (rec_thing h 3)]
    · cases isE r.fText <;> cases isZ r.fThing <;> (try rfl)
      cases h : inR r.fNum 0 3
      · rfl
      · have h' := h
        rw [inR_iff] at h'
        simp only [cond_true, p_spec_l01Var (n := r.fNum) (by omega), Option.bind_some, Bool.and_self, decide_eq_true (rec_var (by omega) h 2)]
  · cases h : (r.fText.size : Int) == 32 <;> cases r.fNum == 0 <;> cases isZ r.fThing <;> (try rfl)
    have h' : r.fText.size = 32 := by have := beq_iff_eq.1 h; omega
    have e : (ofBytes [1]).size + r.fText.size ≤ 9223372036854775807 := by rw [ofBytes_size]; simp only [List.length_singleton]; omega
    simp only [cond_true, Bool.and_self, decide_eq_true e]
def rise (last : Int) : Int → List SThing → Bool
  | _, [] => true
  | p, x :: xs => thingOk x && (!decide (x.fId > last) && (!decide (p ≥ x.fId) && rise last x.fId xs))
def prevId (l : List SThing) : Nat → Int
  | 0 => 0
  | i + 1 => ((l[i]?).map (·.fId)).getD 0
theorem prevId_at {l : List SThing} {i : Nat} (hi : i < l.length) : prevId l (i + 1) = l[i].fId := by simp [prevId, hi]
theorem rise_at {l : List SThing} {last : Int} {i : Nat} (hi : i < l.length) : rise last (prevId l i) (l.drop i) = (thingOk l[i] && (!decide (l[i].fId > last) && (!decide (prevId l i ≥ l[i].fId) && rise last (prevId l (i + 1)) (l.drop (i + 1))))) := by
  rw [drop_at hi, rise, prevId_at hi]
def bookOk (b : SBook) : Bool := (b.fWord.size : Int) == 32 && ((b.fChain.size : Int) == 32 && (inR b.fTries 0 3 && (decide ((b.fThings.length : Int) ≤ 8) && (inR b.fLast 0 1000 && (inR b.fCount 0 10000 && rise b.fLast 0 b.fThings)))))
theorem bookOk_loop {b : SBook} (hb : b.fThings.length ≤ 140737488351232) : ∀ m i, i ≤ b.fThings.length → b.fThings.length - i < m → L_spec_BookOk m (.c0 i b) = some (rise b.fLast (prevId b.fThings i) (b.fThings.drop i)) := fun m i h1 h2 =>
  loopN (A := Unit) (n := b.fThings.length) (Lp := L_spec_BookOk) (st := fun i _ => .c0 i b) (Inv := fun _ _ => True) (out := fun i _ => some (rise b.fLast (prevId b.fThings i) (b.fThings.drop i)))
    (fun m _ _ => by
      simp only [L_spec_BookOk, B_spec_BookOk]
      rw [show decide ((b.fThings.length : Int) < (b.fThings.length : Int)) = false from decide_eq_false (by omega), List.drop_of_length_le (Nat.le_refl _)]
      rfl)
    (fun m i _ hi _ => by
      have hw : w64 ((i : Int) + 1) = ((i + 1 : Nat) : Int) := by rw [w64_id (by omega) (by omega)]; rfl
      simp only [rise_at hi]
      simp only [L_spec_BookOk, B_spec_BookOk, Int.toNat_natCast, getD_at hi, p_spec_ThingOk, Option.bind_some, hw]
      rw [show decide ((i : Int) < (b.fThings.length : Int)) = true from decide_eq_true (by omega), show decide ((0 : Int) ≤ (i : Int)) = true from decide_eq_true (by omega)]
      simp only [Bool.and_self, cond_true]
      cases h1 : thingOk b.fThings[i]
      · exact .inl rfl
      · cases h2 : decide (b.fThings[i].fId > b.fLast)
        · by_cases h0 : i = 0
          · subst h0
            refine .inr ⟨(), rfl, trivial, ?_⟩
            rw [show decide (prevId b.fThings 0 ≥ b.fThings[0].fId) = false from decide_eq_false (by have := (thingOk_kind h1).2.2.1; simp only [prevId]; omega)]
            rfl
          · obtain ⟨j, rfl⟩ : ∃ j, i = j + 1 := ⟨i - 1, by omega⟩
            have hj : w64 (((j + 1 : Nat) : Int) - 1) = (j : Int) := by rw [w64_id (by omega) (by omega)]; omega
            have hjl : j < b.fThings.length := by omega
            rw [prevId_at hjl]
            simp only [hj, Int.toNat_natCast, getD_at hjl, Bool.not_true, Bool.not_false, cond_false, Bool.true_and]
            rw [show decide (((j + 1 : Nat) : Int) > 0) = true from decide_eq_true (by omega), show decide ((0 : Int) ≤ (j : Int)) = true from decide_eq_true (by omega), show decide ((j : Int) < (b.fThings.length : Int)) = true from decide_eq_true (by omega)]
            simp only [Bool.and_self, cond_true]
            cases h3 : decide (b.fThings[j].fId ≥ b.fThings[j + 1].fId)
            · exact .inr ⟨(), rfl, trivial, rfl⟩
            · exact .inl rfl
        · exact .inl rfl) m i () h1 h2 trivial
theorem p_spec_BookOk {b : SBook} (hb : b.fThings.length ≤ 140737488351232) : spec_BookOk b = some (bookOk b) := by
  have h0 : L_spec_BookOk gas (.c0 0 b) = some (rise b.fLast 0 b.fThings) := bookOk_loop hb gas 0 (Nat.zero_le _) (gas_lt (by omega))
  simp only [spec_BookOk, E_spec_BookOk, p_spec_l01In, Option.bind_some, bookOk, bne, h0]
  rw [show decide ((b.fThings.length : Int) ≤ 8) = !decide ((b.fThings.length : Int) > 8) by rw [← decide_not]; simp]
  cases (b.fWord.size : Int) == 32 <;> cases (b.fChain.size : Int) == 32 <;> cases inR b.fTries 0 3 <;> cases decide ((b.fThings.length : Int) > 8) <;> cases inR b.fLast 0 1000 <;> cases inR b.fCount 0 10000 <;> rfl
/-- The bytes of a text, as numbers. -/
def bs (s : ByteArray) : List Int := s.data.toList.map fun b => (b.toNat : Int)
theorem bs_len (s : ByteArray) : (bs s).length = s.size := by unfold bs; rw [List.length_map]; rfl
theorem bs_byte {s : ByteArray} {n : Int} (h : n ∈ bs s) : 0 ≤ n ∧ n ≤ 255 := by
  unfold bs at h; rw [List.mem_map] at h; obtain ⟨b, _, rfl⟩ := h
  have := b.toNat_lt; omega
theorem bs_append (a b : ByteArray) : bs (a ++ b) = bs a ++ bs b := by simp [bs]
theorem ofBytes_bs (s : ByteArray) : ofBytes (bs s) = s := by
  cases s; simp [ofBytes, bs, Function.comp_def]
theorem bs_inj {s t : ByteArray} (h : bs s = bs t) : s = t := by rw [← ofBytes_bs s, h, ofBytes_bs]
theorem bs_ofBytes {l : List Int} (h : ∀ n, n ∈ l → 0 ≤ n ∧ n ≤ 255) : bs (ofBytes l) = l := by
  simp only [bs, ofBytes, List.map_map]
  conv => rhs; rw [← List.map_id l]
  apply List.map_congr_left
  intro n hn
  obtain ⟨h1, h2⟩ := h n hn
  simp only [Function.comp, UInt8.toNat_ofNat', id]
  omega
theorem bt_eq {s : ByteArray} {i : Nat} (h : i < s.size) : bt s (i : Int) = (bs s)[i]'(by rw [bs_len]; exact h) := by
  simp only [bt, Int.toNat_natCast, h, dite_true, bs, List.getElem_map]
  rfl
theorem bt_byte (s : ByteArray) (i : Int) : 0 ≤ bt s i ∧ bt s i ≤ 255 := by
  unfold bt; split
  · have := (s[i.toNat]).toNat_lt; omega
  · omega
theorem bs_extract (s : ByteArray) (i j : Nat) : bs (s.extract i j) = ((bs s).take j).drop i := by
  simp only [bs, ByteArray.data_extract, Array.toList_extract, List.extract_eq_take_drop, List.map_take, List.map_drop]
  rw [List.drop_take]
theorem cond_t {α : Type} {c : Bool} {a b : α} (h : c = true) : (bif c then a else b) = a := by rw [h]; rfl
theorem cond_f {α : Type} {c : Bool} {a b : α} (h : c = false) : (bif c then a else b) = b := by rw [h]; rfl
theorem bt_getD {s : ByteArray} {i : Nat} (h : i < s.size) : bt s (i : Int) = (bs s).getD i 0 := by rw [bt_eq h, getD_at]
theorem bt_at {s : ByteArray} {i : Int} {j : Nat} (e : i = (j : Int)) (h : j < s.size) : bt s i = (bs s).getD j 0 := by rw [e, bt_getD h]
theorem getD_app1 {α : Type} {a b : List α} {i : Nat} (h : i < a.length) (d : α) : (a ++ b).getD i d = a.getD i d := by simp [List.getD, List.getElem?_append_left h]
theorem getD_app2 {α : Type} {a b : List α} {i : Nat} (h : a.length ≤ i) (d : α) : (a ++ b).getD i d = b.getD (i - a.length) d := by simp [List.getD, List.getElem?_append_right h]
theorem set_app {α : Type} {a b : List α} {x y : α} {i : Nat} (h : a.length = i) : (a ++ x :: b).set i y = a ++ y :: b := by
  rw [List.set_append_right _ _ (by omega), h, Nat.sub_self]; rfl
theorem beq_t {a b : Nat} (h : a = b) : Nat.beq a b = true := by subst h; exact Nat.beq_refl _
theorem int_ex {P : Int → Prop} (n : Int) (h : 0 ≤ n) (k : ∀ m : Nat, n = (m : Int) → P (m : Int)) : P n := by
  have := k n.toNat (by omega)
  rwa [show ((n.toNat : Nat) : Int) = n by omega] at this
theorem bs_nil : bs (⟨#[]⟩ : ByteArray) = [] := rfl
def Byt (l : List Int) : Prop := ∀ n, n ∈ l → 0 ≤ n ∧ n ≤ 255
theorem byt_getD {l : List Int} (h : Byt l) (i : Nat) : 0 ≤ l.getD i 0 ∧ l.getD i 0 ≤ 255 := by
  by_cases hi : i < l.length
  · rw [getD_at hi]; exact h _ (List.getElem_mem hi)
  · have : l.getD i 0 = 0 := by simp [List.getD, List.getElem?_eq_none (Nat.le_of_not_lt hi)]
    omega
theorem byt_bs (s : ByteArray) : Byt (bs s) := fun _ h => bs_byte h
theorem bytesOf_bs (s : ByteArray) : bytesOf s = bs s := rfl
theorem getD_set {α : Type} {l : List α} {i : Nat} (h : i < l.length) (y d : α) : (l.set i y).getD i d = y := by simp [List.getD, h]
theorem p_spec_l21Copy {b : SBook} (h : b.fThings.length ≤ 2932031007317) : spec_l21Copy b = some b := by
  rw [spec_l21Copy, E_spec_l21Copy, cond_t (by simp; omega)]; rfl
def thingIn (xs : List SThing) (t : Int) : Option SThing := xs.find? fun x => x.fId == t
def zThing : SThing := ⟨0, 0, false, false, false, false, ⟨#[]⟩, 0⟩
theorem p_spec_ThingOf {b : SBook} {t : Int} (h : b.fThings.length ≤ 140737488351232) : spec_ThingOf b t = some (match thingIn b.fThings t with | some x => (x, true) | none => (zThing, false)) := by
  have key : ∀ m i, i ≤ b.fThings.length → b.fThings.length - i < m → L_spec_ThingOf m (.c0 t i b zThing) = some (match thingIn (b.fThings.drop i) t with | some x => (x, true) | none => (zThing, false)) := fun m i h1 h2 =>
    loopN (A := Unit) (n := b.fThings.length) (Lp := L_spec_ThingOf) (st := fun i _ => .c0 t i b zThing) (Inv := fun _ _ => True) (out := fun i _ => some (match thingIn (b.fThings.drop i) t with | some x => (x, true) | none => (zThing, false)))
      (fun m _ _ => by simp [L_spec_ThingOf, B_spec_ThingOf, thingIn, zThing])
      (fun m i _ hi _ => by
        have hw : w64 ((i : Int) + 1) = ((i + 1 : Nat) : Int) := by rw [w64_id (by omega) (by omega)]; rfl
        simp only [L_spec_ThingOf, B_spec_ThingOf, Int.toNat_natCast, getD_at hi, hw, drop_at hi, thingIn, List.find?_cons]
        cases hq : b.fThings[i].fId == t
        · exact .inr ⟨(), by simp [hi], trivial, by simp⟩
        · exact .inl (by simp [hi])) m i () h1 h2 trivial
  have h0 := key gas 0 (Nat.zero_le _) (gas_lt (by omega))
  exact h0
/-- What a right record is. -/
theorem recText_cases {r : SRec} (h : (recText r).2 = true) : (r.fKind = 1 ∧ r.fText.size = 32) ∨ (r.fKind = 2 ∧ 0 ≤ r.fNum ∧ r.fNum ≤ 3) ∨ (r.fKind = 3 ∧ thingOk r.fThing = true) ∨ (r.fKind = 4 ∧ 1 ≤ r.fNum ∧ r.fNum ≤ 1000) := by
  rw [recText] at h
  by_cases h1 : r.fKind = 1
  · rw [show (r.fKind == 1) = true by rw [beq_iff_eq]; exact h1, cond_true] at h
    cases hc : ((r.fText.size : Int) == 32 && r.fNum == 0 && isZ r.fThing)
    · rw [hc] at h; cases h
    · rw [Bool.and_eq_true, Bool.and_eq_true, beq_iff_eq] at hc
      exact .inl ⟨h1, by omega⟩
  rw [show (r.fKind == 1) = false by rw [beq_eq_false_iff_ne]; exact h1, cond_false] at h
  by_cases h2 : r.fKind = 2
  · rw [show (r.fKind == 2) = true by rw [beq_iff_eq]; exact h2, cond_true] at h
    cases hc : (isE r.fText && isZ r.fThing && inR r.fNum 0 3)
    · rw [hc] at h; cases h
    · rw [Bool.and_eq_true, inR_iff] at hc
      exact .inr (.inl ⟨h2, hc.2⟩)
  rw [show (r.fKind == 2) = false by rw [beq_eq_false_iff_ne]; exact h2, cond_false] at h
  by_cases h3 : r.fKind = 3
  · rw [show (r.fKind == 3) = true by rw [beq_iff_eq]; exact h3, cond_true] at h
    cases hc : ((thingText r.fThing).2 && isE r.fText && r.fNum == 0)
    · rw [hc] at h; cases h
    · rw [Bool.and_eq_true, Bool.and_eq_true] at hc
      refine .inr (.inr (.inl ⟨h3, ?_⟩))
      have h4 := hc.1.1
      rw [thingText] at h4
      cases ho : thingOk r.fThing
      · rw [ho] at h4; cases h4
      · rfl
  rw [show (r.fKind == 3) = false by rw [beq_eq_false_iff_ne]; exact h3, cond_false] at h
  by_cases h4 : r.fKind = 4
  · rw [show (r.fKind == 4) = true by rw [beq_iff_eq]; exact h4, cond_true] at h
    cases hc : (isE r.fText && isZ r.fThing && inR r.fNum 1 1000)
    · rw [hc] at h; cases h
    · rw [Bool.and_eq_true, inR_iff] at hc
      exact .inr (.inr (.inr ⟨h4, hc.2⟩))
  rw [show (r.fKind == 4) = false by rw [beq_eq_false_iff_ne]; exact h4] at h
  cases h
theorem recText_size (r : SRec) : (recText r).1.size ≤ 300 := by
  rw [recText]
  have one : ∀ n : Int, (ofBytes [n]).size = 1 := fun n => by rw [ofBytes_size]; rfl
  cases hk1 : (r.fKind == 1)
  · rw [cond_false]
    cases hk2 : (r.fKind == 2)
    · rw [cond_false]
      cases hk3 : (r.fKind == 3)
      · rw [cond_false]
        cases hk4 : (r.fKind == 4)
        · exact Nat.zero_le _
        · rw [cond_true]
          cases hc : (isE r.fText && isZ r.fThing && inR r.fNum 1 1000)
          · exact Nat.zero_le _
          · rw [Bool.and_eq_true, inR_iff] at hc
            have := varL_len10 (n := r.fNum) (by omega)
            rw [cond_true, ByteArray.size_append, one, ofBytes_size]; omega
      · rw [cond_true]
        cases hc : ((thingText r.fThing).2 && isE r.fText && r.fNum == 0)
        · exact Nat.zero_le _
        · rw [cond_true, ByteArray.size_append, one, thingText]
          cases ho : thingOk r.fThing
          · exact Nat.le_of_ble_eq_true rfl
          · have := thingT_size ho
            show 1 + (thingT r.fThing).size ≤ 300; omega
    · rw [cond_true]
      cases hc : (isE r.fText && isZ r.fThing && inR r.fNum 0 3)
      · exact Nat.zero_le _
      · rw [Bool.and_eq_true, inR_iff] at hc
        have := varL_len10 (n := r.fNum) (by omega)
        rw [cond_true, ByteArray.size_append, one, ofBytes_size]; omega
  · rw [cond_true]
    cases hc : ((r.fText.size : Int) == 32 && r.fNum == 0 && isZ r.fThing)
    · exact Nat.zero_le _
    · rw [Bool.and_eq_true, Bool.and_eq_true, beq_iff_eq] at hc
      rw [cond_true, ByteArray.size_append, one]; omega
def placeIn : List SThing → Int → Nat → Option Nat
  | [], _, _ => none
  | x :: xs, t, i => if x.fId == t then some i else placeIn xs t (i + 1)
theorem placeIn_find (t : Int) : ∀ (xs : List SThing) (i : Nat), match placeIn xs t i with | some j => i ≤ j ∧ j < i + xs.length ∧ thingIn xs t = xs[j - i]? | none => thingIn xs t = none := by
  intro xs
  induction xs with
  | nil => intro i; rfl
  | cons x xs ih =>
    intro i
    simp only [placeIn, thingIn, List.find?_cons]
    cases hq : x.fId == t
    · have := ih (i + 1)
      simp only [Bool.false_eq_true, if_false]
      split at this
      · rename_i j hj
        obtain ⟨h1, h2, h3⟩ := this
        refine ⟨by omega, by simp; omega, ?_⟩
        rw [show j - i = (j - (i + 1)) + 1 by omega, List.getElem?_cons_succ]
        exact h3
      · exact this
    · simp
theorem p_impl_thingAt {b : SBook} {t : Int} (h : b.fThings.length ≤ 140737488351232) : impl_thingAt b t = some (match placeIn b.fThings t 0 with | some j => (j : Int) | none => -1) := by
  have key : ∀ m i, i ≤ b.fThings.length → b.fThings.length - i < m → L_impl_thingAt m (.c0 t b.fThings b.fThings.length i) = some (match placeIn (b.fThings.drop i) t i with | some j => (j : Int) | none => -1) := fun m i h1 h2 =>
    loopN (A := Unit) (n := b.fThings.length) (Lp := L_impl_thingAt) (st := fun i _ => .c0 t b.fThings b.fThings.length i) (Inv := fun _ _ => True) (out := fun i _ => some (match placeIn (b.fThings.drop i) t i with | some j => (j : Int) | none => -1))
      (fun m _ _ => by simp [L_impl_thingAt, B_impl_thingAt, placeIn])
      (fun m i _ hi _ => by
        have hw : w64 ((i : Int) + 1) = ((i + 1 : Nat) : Int) := by rw [w64_id (by omega) (by omega)]; rfl
        simp only [L_impl_thingAt, B_impl_thingAt, Int.toNat_natCast, getD_at hi, hw, drop_at hi, placeIn]
        cases hq : b.fThings[i].fId == t
        · exact .inr ⟨(), by simp [hi], trivial, by simp⟩
        · exact .inl (by simp [hi])) m i () h1 h2 trivial
  have h0 := key gas 0 (Nat.zero_le _) (gas_lt (by omega))
  exact h0
/-- Numbers of 32 bits. -/
theorem w32_mod {n : Int} : w32 n = n % 4294967296 := by
  simp only [w32, IntKind.wrap, IntKind.signed, IntKind.bits]
  simp
theorem w32_id {n : Int} (h1 : 0 ≤ n) (h2 : n < 4294967296) : w32 n = n := by rw [w32_mod]; omega
def R32 (n : Int) : Prop := 0 ≤ n ∧ n < 4294967296
theorem r32_w (n : Int) : R32 (w32 n) := by unfold R32; rw [w32_mod]; omega
theorem r32_byte {n : Int} (h : 0 ≤ n ∧ n ≤ 255) : R32 n := by unfold R32; omega
def xr (x y : Int) : Int := w32 (((BitVec.toNat ((BitVec.ofInt (IntKind.bits IntKind.u32) x) ^^^ (BitVec.ofInt (IntKind.bits IntKind.u32) y))) : Nat) : Int)
def an (x y : Int) : Int := w32 (((BitVec.toNat ((BitVec.ofInt (IntKind.bits IntKind.u32) x) &&& (BitVec.ofInt (IntKind.bits IntKind.u32) y))) : Nat) : Int)
def ort (x y : Int) : Int := w32 (((BitVec.toNat ((BitVec.ofInt (IntKind.bits IntKind.u32) x) ||| (BitVec.ofInt (IntKind.bits IntKind.u32) y))) : Nat) : Int)
theorem xr_e (x y : Int) : w32 (((BitVec.toNat ((BitVec.ofInt (IntKind.bits IntKind.u32) x) ^^^ (BitVec.ofInt (IntKind.bits IntKind.u32) y))) : Nat) : Int) = xr x y := rfl
theorem an_e (x y : Int) : w32 (((BitVec.toNat ((BitVec.ofInt (IntKind.bits IntKind.u32) x) &&& (BitVec.ofInt (IntKind.bits IntKind.u32) y))) : Nat) : Int) = an x y := rfl
theorem ort_e (x y : Int) : w32 (((BitVec.toNat ((BitVec.ofInt (IntKind.bits IntKind.u32) x) ||| (BitVec.ofInt (IntKind.bits IntKind.u32) y))) : Nat) : Int) = ort x y := rfl
theorem r32_xr (x y : Int) : R32 (xr x y) := r32_w _
theorem r32_an (x y : Int) : R32 (an x y) := r32_w _
/-- Bits that do not meet. -/
theorem ort_add {a b : Nat} {s : Nat} (hb : b < 2 ^ s) (ha : a * 2 ^ s < 4294967296) (hs : b < 4294967296) : ort ((a * 2 ^ s : Nat) : Int) (b : Int) = ((a * 2 ^ s + b : Nat) : Int) := by
  have e : a * 2 ^ s ||| b = a * 2 ^ s + b := by
    have := Nat.shiftLeft_add_eq_or_of_lt hb a
    rw [Nat.shiftLeft_eq] at this
    exact this.symm
  unfold ort
  have h3 : a * 2 ^ s ||| b < 2 ^ 32 := Nat.or_lt_two_pow (by omega) (by omega)
  rw [BitVec.toNat_or]
  show w32 (((BitVec.ofInt 32 _).toNat ||| (BitVec.ofInt 32 _).toNat : Nat) : Int) = _
  rw [BitVec.ofInt_natCast, BitVec.ofInt_natCast, BitVec.toNat_ofNat, BitVec.toNat_ofNat, Nat.mod_eq_of_lt (by omega), Nat.mod_eq_of_lt (by omega), e]
  rw [e] at h3
  exact w32_id (by omega) (by omega)
/-- The complement. -/
theorem xr_max {e : Int} (h : R32 e) : xr (ite ((IntKind.signed IntKind.u32) = true) (-(1 : Int)) (IntKind.max IntKind.u32)) e = w32 (4294967295 - e) := by
  obtain ⟨h1, h2⟩ := h
  obtain ⟨n, rfl⟩ : ∃ n : Nat, e = (n : Int) := ⟨e.toNat, by omega⟩
  have hn : n < 4294967296 := by omega
  have e1 : (ite ((IntKind.signed IntKind.u32) = true) (-(1 : Int)) (IntKind.max IntKind.u32)) = 4294967295 := by decide
  rw [e1]
  unfold xr
  show w32 (((BitVec.ofInt 32 4294967295 ^^^ BitVec.ofInt 32 (n : Int)).toNat : Nat) : Int) = _
  have e2 : BitVec.ofInt 32 4294967295 = BitVec.allOnes 32 := by decide
  rw [e2, BitVec.ofInt_natCast, BitVec.allOnes_xor, BitVec.toNat_not, BitVec.toNat_ofNat]
  rw [w32_mod, w32_mod]
  omega
/-- A number turned. -/
def rt (low high x : Int) : Int := x / low + x % low * high
theorem r32_rt {low high x : Int} (h : R32 x) (hl : 0 < low) (hh : 0 < high) (hlh : low * high = 4294967296) : R32 (rt low high x) := by
  unfold R32 rt at *
  have h1 : 0 ≤ x / low := Int.ediv_nonneg h.1 (by omega)
  have h2 : 0 ≤ x % low := Int.emod_nonneg _ (by omega)
  have h3 : x % low < low := Int.emod_lt_of_pos _ hl
  have h4 : x / low < high := Int.ediv_lt_of_lt_mul hl (by rw [Int.mul_comm, hlh]; exact h.2)
  have h5 : 0 ≤ x % low * high := Int.mul_nonneg h2 (by omega)
  have h6 : x % low * high ≤ (low - 1) * high := Int.mul_le_mul_of_nonneg_right (by omega) (by omega)
  have h7 : (low - 1) * high = low * high - high := by rw [Int.sub_mul, Int.one_mul]
  omega
theorem rt_or {x : Int} (h : R32 x) (n : Nat) (hn : 0 < n) (hn2 : n < 32) : ort (w32 (x * 2 ^ (32 - n))) (x / 2 ^ n) = rt (2 ^ n) (2 ^ (32 - n)) x := by
  obtain ⟨h1, h2⟩ := h
  obtain ⟨y, rfl⟩ : ∃ y : Nat, x = (y : Int) := ⟨x.toNat, by omega⟩
  have hy : y < 4294967296 := by omega
  have e0 : (4294967296 : Nat) = 2 ^ n * 2 ^ (32 - n) := by rw [← Nat.pow_add, show n + (32 - n) = 32 by omega]
  have e1 : w32 ((y : Int) * 2 ^ (32 - n)) = ((y % 2 ^ n * 2 ^ (32 - n) : Nat) : Int) := by
    rw [w32_mod]
    have h5 : ((y : Int) * 2 ^ (32 - n)) = ((y * 2 ^ (32 - n) : Nat) : Int) := by push_cast; rfl
    have h6 : y * 2 ^ (32 - n) % 4294967296 = y % 2 ^ n * 2 ^ (32 - n) := by rw [e0, Nat.mul_mod_mul_right]
    rw [h5, ← h6]
    omega
  have e2 : ((y : Int) / 2 ^ n) = ((y / 2 ^ n : Nat) : Int) := by push_cast; rfl
  have hp : 0 < 2 ^ n := Nat.two_pow_pos n
  have hp2 : 0 < 2 ^ (32 - n) := Nat.two_pow_pos _
  have hm : y % 2 ^ n < 2 ^ n := Nat.mod_lt _ hp
  have hd : y / 2 ^ n < 2 ^ (32 - n) := Nat.div_lt_of_lt_mul (by rw [← e0]; exact hy)
  rw [e1, e2, ort_add hd (by rw [e0]; exact Nat.mul_lt_mul_of_pos_right hm hp2) (Nat.lt_of_le_of_lt (Nat.div_le_self _ _) hy)]
  unfold rt
  push_cast
  omega
/-! The digest, told in plain lists. -/
def sg0 (x : Int) : Int := xr (xr (rt 128 33554432 x) (rt 262144 16384 x)) (x / 8)
def sg1 (x : Int) : Int := xr (xr (rt 131072 32768 x) (rt 524288 8192 x)) (x / 1024)
def ep1 (x : Int) : Int := xr (xr (rt 64 67108864 x) (rt 2048 2097152 x)) (rt 33554432 128 x)
def ep0 (x : Int) : Int := xr (xr (rt 4 1073741824 x) (rt 8192 524288 x)) (rt 4194304 1024 x)
/-- The next word. -/
def nextW (w : List Int) (t : Nat) : Int := w32 (w32 (w32 (sg1 (w.getD (t - 2) 0) + w.getD (t - 7) 0) + sg0 (w.getD (t - 15) 0)) + w.getD (t - 16) 0)
def sched (w : List Int) : Nat → List Int
  | 0 => w
  | n + 1 => sched w n ++ [nextW (sched w n) (16 + n)]
theorem sched_len {w : List Int} (h : w.length = 16) (n : Nat) : (sched w n).length = 16 + n := by
  induction n with
  | zero => exact h
  | succ n ih => simp [sched, ih]; omega
theorem sched_r {w : List Int} (h : ∀ x ∈ w, R32 x) (n : Nat) : ∀ x ∈ sched w n, R32 x := by
  induction n with
  | zero => exact h
  | succ n ih =>
    intro x hx
    rw [sched, List.mem_append, List.mem_singleton] at hx
    rcases hx with hx | rfl
    · exact ih x hx
    · exact r32_w _
theorem r_getD {l : List Int} (h : ∀ x ∈ l, R32 x) (i : Nat) : R32 (l.getD i 0) := by
  by_cases hi : i < l.length
  · rw [getD_at hi]; exact h _ (List.getElem_mem hi)
  · have : l.getD i 0 = 0 := by simp [List.getD, List.getElem?_eq_none (Nat.le_of_not_lt hi)]
    rw [this]; unfold R32; omega
structure Reg where
  a : Int
  b : Int
  c : Int
  d : Int
  e : Int
  f : Int
  g : Int
  h : Int
def Reg.ok (r : Reg) : Prop := R32 r.a ∧ R32 r.b ∧ R32 r.c ∧ R32 r.d ∧ R32 r.e ∧ R32 r.f ∧ R32 r.g ∧ R32 r.h
def Reg.l (r : Reg) : List Int := [r.a, r.b, r.c, r.d, r.e, r.f, r.g, r.h]
theorem Reg.l_len (r : Reg) : r.l.length = 8 := rfl
def t1 (r : Reg) (k w : Int) : Int := w32 (w32 (w32 (w32 (r.h + ep1 r.e) + xr (an r.e r.f) (an (w32 (4294967295 - r.e)) r.g)) + k) + w)
def t2 (r : Reg) : Int := w32 (ep0 r.a + xr (xr (an r.a r.b) (an r.a r.c)) (an r.b r.c))
def rnd (r : Reg) (k w : Int) : Reg := ⟨w32 (t1 r k w + t2 r), r.a, r.b, r.c, w32 (r.d + t1 r k w), r.e, r.f, r.g⟩
theorem rnd_ok {r : Reg} (h : r.ok) (k w : Int) : (rnd r k w).ok := ⟨r32_w _, h.1, h.2.1, h.2.2.1, r32_w _, h.2.2.2.2.1, h.2.2.2.2.2.1, h.2.2.2.2.2.2.1⟩
def rnds (K W : List Int) (r : Reg) : Nat → Reg
  | 0 => r
  | n + 1 => rnd (rnds K W r n) (K.getD n 0) (W.getD n 0)
theorem rnds_ok (K W : List Int) {r : Reg} (h : r.ok) (n : Nat) : (rnds K W r n).ok := by
  induction n with
  | zero => exact h
  | succ n ih => exact rnd_ok ih _ _
def regAdd (s r : Reg) : Reg := ⟨w32 (s.a + r.a), w32 (s.b + r.b), w32 (s.c + r.c), w32 (s.d + r.d), w32 (s.e + r.e), w32 (s.f + r.f), w32 (s.g + r.g), w32 (s.h + r.h)⟩
theorem regAdd_ok (s r : Reg) : (regAdd s r).ok := ⟨r32_w _, r32_w _, r32_w _, r32_w _, r32_w _, r32_w _, r32_w _, r32_w _⟩
def keysL : List Int := [1116352408, 1899447441, 3049323471, 3921009573, 961987163, 1508970993, 2453635748, 2870763221, 3624381080, 310598401, 607225278, 1426881987, 1925078388, 2162078206, 2614888103, 3248222580, 3835390401, 4022224774, 264347078, 604807628, 770255983, 1249150122, 1555081692, 1996064986, 2554220882, 2821834349, 2952996808, 3210313671, 3336571891, 3584528711, 113926993, 338241895, 666307205, 773529912, 1294757372, 1396182291, 1695183700, 1986661051, 2177026350, 2456956037, 2730485921, 2820302411, 3259730800, 3345764771, 3516065817, 3600352804, 4094571909, 275423344, 430227734, 506948616, 659060556, 883997877, 958139571, 1322822218, 1537002063, 1747873779, 1955562222, 2024104815, 2227730452, 2361852424, 2428436474, 2756734187, 3204031479, 3329325298]
/-- Words of four bytes. -/
def be4 (a b c d : Int) : Int := a * 16777216 + b * 65536 + c * 256 + d
def wordAt (l : List Int) (i : Nat) : Int := be4 (l.getD (4 * i) 0) (l.getD (4 * i + 1) 0) (l.getD (4 * i + 2) 0) (l.getD (4 * i + 3) 0)
def wordsN (l : List Int) (n : Nat) : List Int := (List.range n).map (wordAt l)
theorem wordsN_len (l : List Int) (n : Nat) : (wordsN l n).length = n := by simp [wordsN]
theorem wordsN_succ (l : List Int) (n : Nat) : wordsN l (n + 1) = wordsN l n ++ [wordAt l n] := by simp [wordsN, List.range_succ]
theorem be4_r {a b c d : Int} (ha : 0 ≤ a ∧ a ≤ 255) (hb : 0 ≤ b ∧ b ≤ 255) (hc : 0 ≤ c ∧ c ≤ 255) (hd : 0 ≤ d ∧ d ≤ 255) : R32 (be4 a b c d) := by unfold R32 be4; omega
theorem wordAt_r {l : List Int} (h : Byt l) (i : Nat) : R32 (wordAt l i) := be4_r (byt_getD h _) (byt_getD h _) (byt_getD h _) (byt_getD h _)
theorem wordsN_r {l : List Int} (h : Byt l) (n : Nat) : ∀ x ∈ wordsN l n, R32 x := by
  intro x hx
  simp only [wordsN, List.mem_map] at hx
  obtain ⟨i, _, rfl⟩ := hx
  exact wordAt_r h i
/-- A block. -/
def comp (s : Reg) (b : List Int) : Reg := regAdd s (rnds keysL (sched (wordsN b 16) 48) s 64)
theorem comp_ok (s : Reg) (b : List Int) : (comp s b).ok := regAdd_ok _ _
/-- Blocks. -/
def comps : Nat → Reg → List Int → Reg
  | 0, s, _ => s
  | n + 1, s, b => comps n (comp s (b.take 64)) (b.drop 64)
theorem comps_ok {s : Reg} (h : s.ok) : ∀ (n : Nat) (b : List Int), (comps n s b).ok := by
  intro n
  induction n generalizing s with
  | zero => intro b; exact h
  | succ n ih => intro b; exact ih (comp_ok _ _) _
theorem comps_add (n m : Nat) : ∀ (s : Reg) (b : List Int), comps (n + m) s b = comps m (comps n s b) (b.drop (64 * n)) := by
  induction n with
  | zero => intro s b; simp [comps]
  | succ n ih =>
    intro s b
    rw [Nat.add_right_comm, comps, comps, ih, List.drop_drop]
    congr 2
    omega
theorem comps_app (n : Nat) : ∀ (s : Reg) (b c : List Int), 64 * n ≤ b.length → comps n s (b ++ c) = comps n s b := by
  induction n with
  | zero => intro s b c _; rfl
  | succ n ih =>
    intro s b c h
    rw [comps, comps, List.take_append_of_le_length (by omega), List.drop_append_of_le_length (by omega), ih _ _ _ (by simp; omega)]
def four (x : Int) : List Int := [x / 16777216, x / 65536 % 256, x / 256 % 256, x % 256]
theorem four_byt {x : Int} (h : R32 x) : Byt (four x) := by
  intro n hn
  unfold R32 at h
  simp only [four, List.mem_cons, List.not_mem_nil, or_false] at hn
  rcases hn with rfl | rfl | rfl | rfl <;> omega
def bytesL (ws : List Int) : List Int := ws.flatMap four
theorem bytesL_len (ws : List Int) : (bytesL ws).length = 4 * ws.length := by
  induction ws with
  | nil => rfl
  | cons w ws ih =>
    rw [show bytesL (w :: ws) = four w ++ bytesL ws from rfl, List.length_append, ih]
    simp only [four, List.length_cons, List.length_nil]; omega
theorem bytesL_byt {ws : List Int} (h : ∀ x ∈ ws, R32 x) : Byt (bytesL ws) := by
  intro n hn
  simp only [bytesL, List.mem_flatMap] at hn
  obtain ⟨x, hx, hn⟩ := hn
  exact four_byt (h x hx) n hn
theorem bytesL_app (a b : List Int) : bytesL (a ++ b) = bytesL a ++ bytesL b := by simp [bytesL]
theorem be4_four {x : Int} (h : R32 x) : be4 (x / 16777216) (x / 65536 % 256) (x / 256 % 256) (x % 256) = x := by unfold R32 at h; unfold be4; omega
theorem wordAt_bytesL : ∀ {ws : List Int} (_ : ∀ x ∈ ws, R32 x) {i : Nat} (hi : i < ws.length), wordAt (bytesL ws) i = ws[i]
  | w :: ws, h, 0, _ => by
    have := be4_four (h w (List.mem_cons_self ..))
    simpa [wordAt, bytesL, four] using this
  | w :: ws, h, i + 1, hi => by
    have ih := wordAt_bytesL (ws := ws) (fun x hx => h x (List.mem_cons_of_mem _ hx)) (i := i) (by simpa using hi)
    rw [List.getElem_cons_succ, ← ih]
    have e : ∀ j, (bytesL (w :: ws)).getD (j + 4) 0 = (bytesL ws).getD j 0 := fun j => by simp [bytesL, four, List.getD]
    unfold wordAt
    rw [show 4 * (i + 1) = 4 * i + 4 by omega, show 4 * i + 4 + 1 = (4 * i + 1) + 4 by omega, show 4 * i + 4 + 2 = (4 * i + 2) + 4 by omega, show 4 * i + 4 + 3 = (4 * i + 3) + 4 by omega, e, e, e, e]
theorem wordsN_bytesL {ws : List Int} (h : ∀ x ∈ ws, R32 x) : wordsN (bytesL ws) ws.length = ws := by
  apply List.ext_getElem
  · rw [wordsN_len]
  · intro i h1 h2
    simp only [wordsN, List.getElem_map, List.getElem_range]
    exact wordAt_bytesL h h2
theorem Reg.l_r {r : Reg} (h : r.ok) : ∀ x ∈ r.l, R32 x := by
  intro x hx
  simp only [Reg.l, List.mem_cons, List.not_mem_nil, or_false] at hx
  obtain ⟨h1, h2, h3, h4, h5, h6, h7, h8⟩ := h
  rcases hx with rfl | rfl | rfl | rfl | rfl | rfl | rfl | rfl <;> assumption
def reg0 : Reg := ⟨1779033703, 3144134277, 1013904242, 2773480762, 1359893119, 2600822924, 528734635, 1541459225⟩
theorem reg0_ok : reg0.ok := by unfold Reg.ok R32 reg0; decide
/-- What fills the last block. -/
def big8 (n : Int) : List Int := [0, 0, 0, n / 4294967296 % 256, n / 16777216 % 256, n / 65536 % 256, n / 256 % 256, n % 256]
def endL (n : Nat) : List Int := 128 :: (List.replicate ((119 - n % 64) % 64) 0 ++ big8 (8 * (n : Int)))
theorem endL_len (n : Nat) : (endL n).length = 9 + (119 - n % 64) % 64 := by simp [endL, big8]; omega
theorem end_whole (n : Nat) : (n + (endL n).length) % 64 = 0 := by rw [endL_len]; omega
theorem endL_byt (n : Nat) : Byt (endL n) := by
  intro x hx
  simp only [endL, big8, List.mem_cons, List.mem_append, List.mem_replicate, List.not_mem_nil, or_false] at hx
  omega
def digL (b : List Int) : List Int := bytesL (comps ((b.length + (endL b.length).length) / 64) reg0 (b ++ endL b.length)).l
def dig (s : ByteArray) : ByteArray := ofBytes (digL (bs s))
theorem digL_len (b : List Int) : (digL b).length = 32 := by rw [digL, bytesL_len]; rfl
theorem digL_byt (b : List Int) : Byt (digL b) := bytesL_byt (Reg.l_r (comps_ok reg0_ok _ _))
theorem dig_size (s : ByteArray) : (dig s).size = 32 := by rw [dig, ofBytes_size, digL_len]
theorem bs_dig (s : ByteArray) : bs (dig s) = digL (bs s) := bs_ofBytes (digL_byt _)
theorem four_e {x : Int} (h : R32 x) : [w8 (w32 (x.tdiv 16777216)), w8 ((w32 (x.tdiv 65536)).tmod 256), w8 ((w32 (x.tdiv 256)).tmod 256), w8 (x.tmod 256)] = four x := by
  obtain ⟨h1, h2⟩ := h
  rw [Int.tdiv_eq_ediv_of_nonneg h1, Int.tdiv_eq_ediv_of_nonneg h1, Int.tdiv_eq_ediv_of_nonneg h1, Int.tmod_eq_emod_of_nonneg h1]
  rw [w32_id (n := x / 16777216) (by omega) (by omega), w32_id (n := x / 65536) (by omega) (by omega), w32_id (n := x / 256) (by omega) (by omega)]
  rw [Int.tmod_eq_emod_of_nonneg (by omega), Int.tmod_eq_emod_of_nonneg (by omega)]
  simp only [four, w8_mod, List.cons.injEq, and_true]
  omega
theorem p_spec_l05Bytes {ws : List Int} (h : ∀ x ∈ ws, R32 x) (hl : ws.length ≤ 1000000000000) : spec_l05Bytes ws = some (ofBytes (bytesL ws)) := by
  have key := loopN (A := Unit) (n := ws.length) (Lp := L_spec_l05Bytes) (st := fun i _ => .c0 ws (i : Int) (bytesL (ws.take i))) (Inv := fun _ _ => True) (out := fun _ _ => some (ofBytes (bytesL ws)))
    (fun m _ _ => by
      simp only [L_spec_l05Bytes, B_spec_l05Bytes]
      rw [cond_f (by simp), List.take_length])
    (fun m i _ hi _ => .inr ⟨(), by
      have e : w64 ((i : Int) + 1) = ((i + 1 : Nat) : Int) := by rw [w64_id (by omega) (by omega)]; rfl
      simp only [L_spec_l05Bytes, B_spec_l05Bytes, e, Int.toNat_natCast]
      rw [cond_t (by simp; omega), cond_t (by simp; omega), cond_t (by rw [bytesL_len, List.length_take]; simp; omega)]
      rw [getD_at hi, four_e (h _ (List.getElem_mem hi)), take_at hi, bytesL_app]
      simp [bytesL], trivial, rfl⟩)
  exact key gas 0 () (Nat.zero_le _) (gas_lt (by omega)) trivial
def hash0 : SHasher := ⟨ofBytes (bytesL reg0.l), ⟨#[]⟩, 0⟩
theorem p_spec_HasherNew : spec_HasherNew = some hash0 := by
  have h := p_spec_l05Bytes (ws := reg0.l) (Reg.l_r reg0_ok) (by decide)
  have e : spec_l05First = some reg0.l := rfl
  simp only [spec_HasherNew, E_spec_HasherNew, e, h, Option.bind_some]
  rfl
theorem p_spec_HasherOk {h : SHasher} (h1 : h.fState.size = 32) (h2 : h.fRest.size < 64) (h3 : 0 ≤ h.fCount ∧ h.fCount ≤ 1000000000) (h4 : h.fCount % 64 = (h.fRest.size : Int)) : spec_HasherOk h = some true := by
  have e : inR h.fCount 0 1000000000 = true := by rw [inR_iff]; omega
  simp only [spec_HasherOk, E_spec_HasherOk, p_spec_l01In, Option.bind_some, e]
  rw [cond_t (by simp; omega), cond_t (by simp; omega), cond_true, Int.tmod_eq_emod_of_nonneg h3.1, h4]
  simp
theorem p_spec_l05Word {s : ByteArray} {i : Nat} (h : 4 * i + 4 ≤ s.size) (hs : s.size ≤ 9000000000000000000) : spec_l05Word s ((4 * i : Nat) : Int) = some (wordAt (bs s) i) := by
  have hb := byt_bs s
  have e1 : w64 (((4 * i : Nat) : Int) + 1) = ((4 * i + 1 : Nat) : Int) := by rw [w64_id (by omega) (by omega)]; rfl
  have e2 : w64 (((4 * i : Nat) : Int) + 2) = ((4 * i + 2 : Nat) : Int) := by rw [w64_id (by omega) (by omega)]; rfl
  have e3 : w64 (((4 * i : Nat) : Int) + 3) = ((4 * i + 3 : Nat) : Int) := by rw [w64_id (by omega) (by omega)]; rfl
  simp only [spec_l05Word, E_spec_l05Word, e1, e2, e3]
  rw [cond_t (by simp; omega), cond_t (by simp; omega), cond_t (by simp; omega), cond_t (by simp; omega)]
  rw [bt_getD (by omega), bt_getD (by omega), bt_getD (by omega), bt_getD (by omega)]
  have b0 := byt_getD hb (4 * i)
  have b1 := byt_getD hb (4 * i + 1)
  have b2 := byt_getD hb (4 * i + 2)
  have b3 := byt_getD hb (4 * i + 3)
  unfold wordAt be4
  simp only [w32_mod]
  congr 1
  omega
theorem p_spec_l05Words {s : ByteArray} (hs : s.size ≤ 1000000000000) : spec_l05Words s = some (wordsN (bs s) (s.size / 4)) := by
  have key := loopN (A := Unit) (n := s.size / 4) (Lp := L_spec_l05Words) (st := fun i _ => .c0 s ((4 * i : Nat) : Int) (wordsN (bs s) i)) (Inv := fun _ _ => True) (out := fun _ _ => some (wordsN (bs s) (s.size / 4)))
    (fun m _ _ => by
      simp only [L_spec_l05Words, B_spec_l05Words]
      rw [w64_id (by omega) (by omega), cond_f (by simp; omega)])
    (fun m i _ hi _ => .inr ⟨(), by
      have e : w64 (((4 * i : Nat) : Int) + 4) = ((4 * (i + 1) : Nat) : Int) := by rw [w64_id (by omega) (by omega)]; omega
      simp only [L_spec_l05Words, B_spec_l05Words, e, p_spec_l05Word (s := s) (i := i) (by omega) (by omega), Option.bind_some, wordsN_len, wordsN_succ]
      rw [cond_t (by simp; omega), cond_t (by simp; omega)], trivial, rfl⟩)
  exact key gas 0 () (Nat.zero_le _) (gas_lt (by omega)) trivial
theorem p_spec_l05Right {x low high : Int} (h : R32 x) (hl : 0 < low) (hh : 0 < high) (hlh : low * high = 4294967296) : spec_l05Right x low high = some (rt low high x) := by
  have hr := r32_rt h hl hh hlh
  obtain ⟨h1, h2⟩ := h
  have e0 : (!(low == 0)) = true := by simp; omega
  have d1 : 0 ≤ x / low := Int.ediv_nonneg h1 (by omega)
  have d2 : 0 ≤ x % low * high := Int.mul_nonneg (Int.emod_nonneg _ (by omega)) (by omega)
  unfold R32 rt at hr
  simp only [spec_l05Right, E_spec_l05Right, e0, cond_true, Int.tdiv_eq_ediv_of_nonneg h1, Int.tmod_eq_emod_of_nonneg h1]
  rw [w32_id d1 (by omega), w32_id d2 (by omega), w32_id (by omega) (by omega)]
  rfl
theorem p_spec_sg1 {x : Int} (h : R32 x) : spec_l05S x 131072 524288 1024 true = some (sg1 x) := by
  have e1 : w32 (w32 ((2147483648 : Int).tdiv 131072) * 2) = 32768 := by decide
  have e2 : w32 (w32 ((2147483648 : Int).tdiv 524288) * 2) = 8192 := by decide
  have e3 : w32 (x.tdiv 1024) = x / 1024 := by
    obtain ⟨h1, h2⟩ := h
    rw [Int.tdiv_eq_ediv_of_nonneg h1, w32_id (by omega) (by omega)]
  simp only [spec_l05S, E_spec_l05S, e1, e2, e3, p_spec_l05Right h (low := 131072) (high := 32768) (by omega) (by omega) (by omega), p_spec_l05Right h (low := 524288) (high := 8192) (by omega) (by omega) (by omega), Option.bind_some, xr_e]
  rfl
theorem p_spec_sg0 {x : Int} (h : R32 x) : spec_l05S x 128 262144 8 true = some (sg0 x) := by
  have e1 : w32 (w32 ((2147483648 : Int).tdiv 128) * 2) = 33554432 := by decide
  have e2 : w32 (w32 ((2147483648 : Int).tdiv 262144) * 2) = 16384 := by decide
  have e3 : w32 (x.tdiv 8) = x / 8 := by
    obtain ⟨h1, h2⟩ := h
    rw [Int.tdiv_eq_ediv_of_nonneg h1, w32_id (by omega) (by omega)]
  simp only [spec_l05S, E_spec_l05S, e1, e2, e3, p_spec_l05Right h (low := 128) (high := 33554432) (by omega) (by omega) (by omega), p_spec_l05Right h (low := 262144) (high := 16384) (by omega) (by omega) (by omega), Option.bind_some, xr_e]
  rfl
theorem p_spec_ep1 {x : Int} (h : R32 x) : spec_l05S x 64 2048 33554432 false = some (ep1 x) := by
  have e1 : w32 (w32 ((2147483648 : Int).tdiv 64) * 2) = 67108864 := by decide
  have e2 : w32 (w32 ((2147483648 : Int).tdiv 2048) * 2) = 2097152 := by decide
  have e3 : w32 (w32 ((2147483648 : Int).tdiv 33554432) * 2) = 128 := by decide
  simp only [spec_l05S, E_spec_l05S, e1, e2, e3, p_spec_l05Right h (low := 64) (high := 67108864) (by omega) (by omega) (by omega), p_spec_l05Right h (low := 2048) (high := 2097152) (by omega) (by omega) (by omega), p_spec_l05Right h (low := 33554432) (high := 128) (by omega) (by omega) (by omega), Option.bind_some, xr_e]
  rfl
theorem p_spec_ep0 {x : Int} (h : R32 x) : spec_l05S x 4 8192 4194304 false = some (ep0 x) := by
  have e1 : w32 (w32 ((2147483648 : Int).tdiv 4) * 2) = 1073741824 := by decide
  have e2 : w32 (w32 ((2147483648 : Int).tdiv 8192) * 2) = 524288 := by decide
  have e3 : w32 (w32 ((2147483648 : Int).tdiv 4194304) * 2) = 1024 := by decide
  simp only [spec_l05S, E_spec_l05S, e1, e2, e3, p_spec_l05Right h (low := 4) (high := 1073741824) (by omega) (by omega) (by omega), p_spec_l05Right h (low := 8192) (high := 524288) (by omega) (by omega) (by omega), p_spec_l05Right h (low := 4194304) (high := 1024) (by omega) (by omega) (by omega), Option.bind_some, xr_e]
  rfl
theorem regAdd_at (s r : Reg) : ∀ i, i < 8 → (regAdd s r).l.getD i 0 = w32 (s.l.getD i 0 + r.l.getD i 0)
  | 0, _ => rfl | 1, _ => rfl | 2, _ => rfl | 3, _ => rfl | 4, _ => rfl | 5, _ => rfl | 6, _ => rfl | 7, _ => rfl
  | n + 8, h => by omega
theorem gas_add (n : Nat) (h : n < 9223372036854775807) : ∃ m, gas = m + n := ⟨gas - n, by have := gas_lt h; omega⟩
theorem l05Round3 (s r : Reg) : ∀ (j i m : Nat), i + j = 8 → L_spec_l05Round (m + j + 1) (.c3 s.l (i : Int) r.l ((regAdd s r).l.take i)) = some (regAdd s r).l := by
  intro j
  induction j with
  | zero =>
    intro i m h
    obtain rfl : i = 8 := by omega
    simp only [L_spec_l05Round, B_spec_l05Round]
    rfl
  | succ j ih =>
    intro i m h
    have e : w64 ((i : Int) + 1) = ((i + 1 : Nat) : Int) := by rw [w64_id (by omega) (by omega)]; rfl
    have hl : ∀ q : Reg, q.l.length = 8 := fun _ => rfl
    rw [show m + (j + 1) + 1 = (m + j + 1) + 1 by omega]
    simp only [L_spec_l05Round, B_spec_l05Round, e, Int.toNat_natCast]
    rw [cond_t (by simp; omega), cond_t (by simp [hl]; omega), cond_t (by simp [hl]; omega), cond_t (by simp [hl]; omega)]
    have h3 := ih (i + 1) m (by omega)
    rw [take_at (by rw [hl]; omega), ← getD_at (by rw [hl]; omega) 0, regAdd_at _ _ _ (by omega)] at h3
    exact h3
def shL : Nat → List Int → List Int
  | 0, v => v
  | i + 1, v => shL i (v.set (i + 1) (v.getD i 0))
theorem l05Round2 (t o W : List Int) (k T1 T2 : Int) (hk : 0 ≤ k ∧ k < 64) : ∀ (i m : Nat) (v : List Int), i < 8 → v.length = 8 → L_spec_l05Round (m + i + 1) (.c2 t o k T1 T2 (i : Int) W v) = L_spec_l05Round m (.c1 t o (k + 1) W (((shL i v).set 4 (w32 ((shL i v).getD 4 0 + T1))).set 0 (w32 (T1 + T2)))) := by
  intro i
  induction i with
  | zero =>
    intro m v _ hl
    have e : w64 (k + 1) = k + 1 := w64_id (by omega) (by omega)
    simp only [L_spec_l05Round, B_spec_l05Round, e]
    rw [cond_f (by simp), cond_t (by simp [hl]), cond_t (by simp [hl]), cond_t (by simp [hl])]
    rfl
  | succ i ih =>
    intro m v hi hl
    have e : w64 (((i + 1 : Nat) : Int) - 1) = (i : Int) := by rw [w64_id (by omega) (by omega)]; omega
    rw [show m + (i + 1) + 1 = (m + i + 1) + 1 by omega]
    rw [L_spec_l05Round]
    simp only [B_spec_l05Round, e, Int.toNat_natCast]
    rw [cond_t (by simp; try omega), cond_t (by simp [hl]; try omega), cond_t (by simp [hl]; try omega), ih m _ (by omega) (by simp [hl])]
    rfl
theorem l05Round1 (t W : List Int) (r : Reg) (hr : r.ok) (hW : ∀ x ∈ W, R32 x) (hWl : W.length = 64) (i m : Nat) (hi : i < 64) :
    L_spec_l05Round (m + 9) (.c1 t keysL (i : Int) W r.l) = L_spec_l05Round m (.c1 t keysL ((i : Int) + 1) W (rnd r (keysL.getD i 0) (W.getD i 0)).l) := by
  obtain ⟨h1, h2, h3, h4, h5, h6, h7, h8⟩ := hr
  have hk : keysL.length = 64 := rfl
  have g (q : Reg) : q.l.getD 0 0 = q.a ∧ q.l.getD 1 0 = q.b ∧ q.l.getD 2 0 = q.c ∧ q.l.getD 4 0 = q.e ∧ q.l.getD 5 0 = q.f ∧ q.l.getD 6 0 = q.g ∧ q.l.getD 7 0 = q.h := ⟨rfl, rfl, rfl, rfl, rfl, rfl, rfl⟩
  obtain ⟨g0, g1, g2, g4, g5, g6, g7⟩ := g r
  have hl : r.l.length = 8 := rfl
  have z4 : (4 : Int).toNat = 4 := rfl
  have z5 : (5 : Int).toNat = 5 := rfl
  have z6 : (6 : Int).toNat = 6 := rfl
  have z7 : (7 : Int).toNat = 7 := rfl
  have z0 : (0 : Int).toNat = 0 := rfl
  have z1 : (1 : Int).toNat = 1 := rfl
  have z2 : (2 : Int).toNat = 2 := rfl
  rw [show m + 9 = (m + 7 + 1) + 1 by omega, L_spec_l05Round]
  simp only [B_spec_l05Round, z0, z1, z2, z4, z5, z6, z7, g0, g1, g2, g4, g5, g6, g7, hl, hk, hWl, p_spec_ep1 h5, p_spec_ep0 h1, Option.bind_some, xr_e, an_e, Int.toNat_natCast]
  rw [cond_t (by simp; omega), cond_t (by simp), cond_t (by simp), cond_t (by simp), cond_t (by simp), cond_t (by simp; omega), cond_t (by simp; omega), cond_t (by simp), cond_t (by simp), cond_t (by simp), cond_t (by simp), cond_t (by simp), cond_t (by simp), cond_t (by simp)]
  exact l05Round2 t keysL W (i : Int) (t1 r (keysL.getD i 0) (W.getD i 0)) (t2 r) (by omega) 7 m r.l (by omega) rfl
theorem l05Round1s (s : Reg) (hs : s.ok) (W : List Int) (hW : ∀ x ∈ W, R32 x) (hWl : W.length = 64) : ∀ (j i m : Nat), i + j = 64 → L_spec_l05Round (m + 9 * j + 10) (.c1 s.l keysL (i : Int) W (rnds keysL W s i).l) = some (regAdd s (rnds keysL W s 64)).l := by
  intro j
  induction j with
  | zero =>
    intro i m h
    obtain rfl : i = 64 := by omega
    rw [show m + 9 * 0 + 10 = (m + 8 + 1) + 1 by omega, L_spec_l05Round]
    simp only [B_spec_l05Round]
    rw [cond_f (by simp)]
    exact l05Round3 s _ 8 0 m (by omega)
  | succ j ih =>
    intro i m h
    rw [show m + 9 * (j + 1) + 10 = (m + 9 * j + 10) + 9 by omega, l05Round1 s.l W _ (rnds_ok keysL W hs i) hW hWl i _ (by omega)]
    exact ih (i + 1) m (by omega)
theorem l05Round0 (s : Reg) (hs : s.ok) (w : List Int) (hw : ∀ x ∈ w, R32 x) (hwl : w.length = 16) : ∀ (j i m : Nat), i + j = 48 → L_spec_l05Round (m + 9 * 64 + 10 + 1 + j) (.c0 s.l keysL ((16 + i : Nat) : Int) (sched w i)) = some (regAdd s (rnds keysL (sched w 48) s 64)).l := by
  intro j
  induction j with
  | zero =>
    intro i m h
    obtain rfl : i = 48 := by omega
    rw [show m + 9 * 64 + 10 + 1 + 0 = (m + 9 * 64 + 10) + 1 by omega, L_spec_l05Round]
    simp only [B_spec_l05Round]
    rw [cond_f (by simp), cond_t (by simp [Reg.l])]
    exact l05Round1s s hs _ (sched_r hw 48) (sched_len hwl 48) 64 0 m (by omega)
  | succ j ih =>
    intro i m h
    have hl := sched_len hwl i
    have hr := sched_r hw i
    have e2 : w64 (((16 + i : Nat) : Int) - 2) = ((16 + i - 2 : Nat) : Int) := by rw [w64_id (by omega) (by omega)]; omega
    have e7 : w64 (((16 + i : Nat) : Int) - 7) = ((16 + i - 7 : Nat) : Int) := by rw [w64_id (by omega) (by omega)]; omega
    have e15 : w64 (((16 + i : Nat) : Int) - 15) = ((16 + i - 15 : Nat) : Int) := by rw [w64_id (by omega) (by omega)]; omega
    have e16 : w64 (((16 + i : Nat) : Int) - 16) = ((16 + i - 16 : Nat) : Int) := by rw [w64_id (by omega) (by omega)]; omega
    have e1 : w64 (((16 + i : Nat) : Int) + 1) = ((16 + (i + 1) : Nat) : Int) := by rw [w64_id (by omega) (by omega)]; omega
    rw [show m + 9 * 64 + 10 + 1 + (j + 1) = (m + 9 * 64 + 10 + 1 + j) + 1 by omega, L_spec_l05Round]
    simp only [B_spec_l05Round, e1, e2, e7, e15, e16, Int.toNat_natCast, hl, p_spec_sg1 (r_getD hr _), p_spec_sg0 (r_getD hr _), Option.bind_some]
    rw [cond_t (by simp; omega), cond_t (by simp; omega), cond_t (by simp; omega), cond_t (by simp; omega), cond_t (by simp; omega), cond_t (by simp; omega)]
    exact ih (i + 1) m (by omega)
theorem p_spec_l05Round {s : Reg} (hs : s.ok) {b : ByteArray} (hb : b.size = 64) : spec_l05Round s.l keysL b = some (comp s (bs b)).l := by
  have hr := wordsN_r (byt_bs b) 16
  obtain ⟨m, hm⟩ : ∃ m, gas = m + 9 * 64 + 10 + 1 + 48 := ⟨gas - 635, by have := gas_lt (n := 635) (by omega); omega⟩
  have h := l05Round0 s hs _ hr (wordsN_len _ 16) 48 0 m (by omega)
  have e0 : ((16 + 0 : Nat) : Int) = 16 := rfl
  rw [e0, show sched (wordsN (bs b) 16) 0 = wordsN (bs b) 16 from rfl] at h
  rw [spec_l05Round, E_spec_l05Round, p_spec_l05Words (s := b) (by omega), Option.bind_some, hb, hm]
  exact h
theorem keys_e : spec_l05K = some keysL := rfl
theorem blk_e (b : List Int) (i : Nat) : (b.take (64 * i + 64)).drop (64 * i) = (b.drop (64 * i)).take 64 := by
  rw [List.drop_take]; congr 1; omega
theorem comps_last (i : Nat) (s : Reg) (b : List Int) : comps (i + 1) s b = comp (comps i s b) ((b.drop (64 * i)).take 64) := by
  rw [comps_add i 1]; rfl
theorem words_state {r : Reg} (h : r.ok) : spec_l05Words (ofBytes (bytesL r.l)) = some r.l := by
  have hs : (ofBytes (bytesL r.l)).size = 32 := by rw [ofBytes_size, bytesL_len]; rfl
  rw [p_spec_l05Words (by omega), hs, bs_ofBytes (bytesL_byt (Reg.l_r h))]
  exact congrArg some (wordsN_bytesL (Reg.l_r h))
theorem p_spec_HashMore0 {s : ByteArray} (hs : s.size ≤ 1000000000) : spec_HashMore hash0 s = some ⟨ofBytes (bytesL (comps (s.size / 64) reg0 (bs s)).l), s.extract (64 * (s.size / 64)) s.size, (s.size : Int)⟩ := by
  have e0 : spec_HasherOk hash0 = some true := p_spec_HasherOk (by rw [hash0, ofBytes_size, bytesL_len]; rfl) (by decide) (by decide) (by decide)
  have e1 : ((⟨#[]⟩ : ByteArray) ++ s) = s := bs_inj (by rw [bs_append]; rfl)
  have key := loopN (A := Unit) (n := s.size / 64) (Lp := L_spec_HashMore) (st := fun i _ => .c0 s s ((64 * i : Nat) : Int) hash0 (⟨(⟨#[]⟩ : ByteArray), (⟨#[]⟩ : ByteArray), (0 : Int)⟩ : SHasher) (comps i reg0 (bs s)).l keysL) (Inv := fun _ _ => True)
    (out := fun _ _ => some ⟨ofBytes (bytesL (comps (s.size / 64) reg0 (bs s)).l), s.extract (64 * (s.size / 64)) s.size, (s.size : Int)⟩)
    (fun m _ _ => by
      have hw : w64 (hash0.fCount + (s.size : Int)) = (s.size : Int) := by
        show w64 ((0 : Int) + (s.size : Int)) = _
        rw [Int.zero_add, w64_id (by omega) (by omega)]
      rw [L_spec_HashMore]
      simp only [B_spec_HashMore, hw, Int.toNat_natCast]
      rw [w64_id (by omega) (by omega), cond_f (by simp; omega), p_spec_l05Bytes (Reg.l_r (comps_ok reg0_ok _ _)) (by simp [Reg.l]), Option.bind_some, cond_t (by simp; omega)])
    (fun m i _ hi _ => .inr ⟨(), by
      have e : w64 (((64 * i : Nat) : Int) + 64) = ((64 * (i + 1) : Nat) : Int) := by rw [w64_id (by omega) (by omega)]; omega
      rw [L_spec_HashMore]
      simp only [B_spec_HashMore, e, Int.toNat_natCast]
      rw [cond_t (by simp; omega), cond_t (by simp; omega), p_spec_l05Round (comps_ok reg0_ok _ _) (by simp; omega), Option.bind_some, bs_extract, show 64 * (i + 1) = 64 * i + 64 by omega, blk_e, ← comps_last], trivial, rfl⟩)
  rw [spec_HashMore, E_spec_HashMore, e0, Option.bind_some, cond_f (by rfl)]
  have hw : w64 (hash0.fCount + (s.size : Int)) = (s.size : Int) := by
    show w64 ((0 : Int) + (s.size : Int)) = _
    rw [Int.zero_add, w64_id (by omega) (by omega)]
  rw [hw, cond_f (by simp; omega), show hash0.fState = ofBytes (bytesL reg0.l) from rfl, words_state reg0_ok, Option.bind_some, keys_e, Option.bind_some, show hash0.fRest = ⟨#[]⟩ from rfl, e1]
  rw [cond_t (by have : (⟨#[]⟩ : ByteArray).size = 0 := rfl
                 simp only [this, decide_eq_true_eq]; omega)]
  exact key gas 0 () (Nat.zero_le _) (gas_lt (by omega)) trivial
def bigL (b : Int) : Nat → List Int
  | 0 => []
  | i + 1 => (b / 256 ^ i % 256) :: bigL b i
def bigCost : Nat → Nat
  | 0 => 0
  | i + 1 => bigCost i + (i + 2)
theorem div_step (x : Int) (j : Nat) : x / 256 / 256 ^ j = x / 256 ^ (j + 1) := by
  rw [Int.ediv_ediv_of_nonneg (by omega)]
  congr 1
  rw [Int.pow_succ, Int.mul_comm]
theorem hend2 (h : SHasher) (b : Int) : ∀ (j k i m : Nat) (x : Int) (t : List Int), k + j = i → i ≤ 7 → 0 ≤ x → x ≤ 9223372036854775807 → t.length ≤ 1000 →
    L_spec_HashEnd (m + j + 1) (.c2 b (i : Int) x (k : Int) h t) = L_spec_HashEnd m (.c1 b ((i : Int) - 1) h (t ++ [x / 256 ^ j % 256])) := by
  intro j
  induction j with
  | zero =>
    intro k i m x t hk hi hx hx2 ht
    have e : w64 ((i : Int) - 1) = (i : Int) - 1 := w64_id (by omega) (by omega)
    have e2 : w8 (x.tmod 256) = x % 256 := by rw [Int.tmod_eq_emod_of_nonneg hx, w8_id (by omega) (by omega)]
    rw [L_spec_HashEnd]
    simp only [B_spec_HashEnd, e, e2]
    rw [cond_f (by simp; omega), cond_t (by simp; omega), Int.pow_zero, Int.ediv_one]
  | succ j ih =>
    intro k i m x t hk hi hx hx2 ht
    have e : w64 ((k : Int) + 1) = ((k + 1 : Nat) : Int) := by rw [w64_id (by omega) (by omega)]; rfl
    have e2 : w64 (x.tdiv 256) = x / 256 := by rw [Int.tdiv_eq_ediv_of_nonneg hx, w64_id (by omega) (by omega)]
    rw [show m + (j + 1) + 1 = (m + j + 1) + 1 by omega, L_spec_HashEnd]
    simp only [B_spec_HashEnd, e, e2]
    rw [cond_t (by simp; omega), ih (k + 1) i m (x / 256) t (by omega) hi (by omega) (by omega) ht, div_step]
theorem hend1 (h : SHasher) (b : Int) (hb : 0 ≤ b) (hb2 : b ≤ 9223372036854775807) : ∀ (i m : Nat) (t : List Int), i ≤ 8 → t.length + i ≤ 900 → L_spec_HashEnd (m + bigCost i) (.c1 b ((i : Int) - 1) h t) = L_spec_HashEnd m (.c1 b (-1) h (t ++ bigL b i)) := by
  intro i
  induction i with
  | zero => intro m t _ _; simp [bigCost, bigL]
  | succ i ih =>
    intro m t hi ht
    rw [bigCost, show m + (bigCost i + (i + 2)) = (m + bigCost i) + i + 1 + 1 by omega, L_spec_HashEnd, show ((i + 1 : Nat) : Int) - 1 = (i : Int) by omega]
    simp only [B_spec_HashEnd]
    rw [cond_t (by simp), show (0 : Int) = ((0 : Nat) : Int) from rfl, hend2 h b i 0 i _ b t (by omega) (by omega) hb hb2 (by omega), ih m _ (by omega) (by simp; omega)]
    simp [bigL]
theorem bigL_big8 {b : Int} (h : 0 ≤ b) (h2 : b < 1099511627776) : bigL b 8 = big8 b := by
  simp only [bigL, big8, List.cons.injEq, and_true]
  omega
theorem hend3 (r : Reg) (hr : r.ok) (t : List Int) (ht : Byt t) (n : Nat) (hn : t.length = 64 * n) (hn2 : n ≤ 100) : ∀ (j i m : Nat), i + j = n → L_spec_HashEnd (m + j + 1) (.c3 ((64 * i : Nat) : Int) t (comps i r t).l keysL) = some (ofBytes (bytesL (comps n r t).l)) := by
  intro j
  induction j with
  | zero =>
    intro i m h
    obtain rfl : i = n := by omega
    rw [L_spec_HashEnd]
    simp only [B_spec_HashEnd]
    rw [cond_f (by simp; omega), p_spec_l05Bytes (Reg.l_r (comps_ok hr _ _)) (by simp [Reg.l]), Option.bind_some]
  | succ j ih =>
    intro i m h
    have e : w64 (((64 * i : Nat) : Int) + 64) = ((64 * (i + 1) : Nat) : Int) := by rw [w64_id (by omega) (by omega)]; omega
    have hl : ((t.drop (64 * i)).take (64 * (i + 1) - 64 * i)).length = 64 := by rw [List.length_take, List.length_drop]; omega
    have hby : Byt ((t.drop (64 * i)).take (64 * (i + 1) - 64 * i)) := fun x hx => ht x (List.mem_of_mem_drop (List.mem_of_mem_take hx))
    rw [show m + (j + 1) + 1 = (m + j + 1) + 1 by omega, L_spec_HashEnd]
    simp only [B_spec_HashEnd, e, Int.toNat_natCast]
    rw [cond_t (by simp; omega), cond_t (by simp; omega), p_spec_l05Round (comps_ok hr _ _) (by rw [ofBytes_size, hl]), Option.bind_some, bs_ofBytes hby, show 64 * (i + 1) - 64 * i = 64 by omega, ← comps_last]
    exact ih (i + 1) m (by omega)
theorem hend0 (h : SHasher) (r : List Int) (hr : r.length < 64) : ∀ (j i m : Nat), i + j = (119 - r.length) % 64 → L_spec_HashEnd (m + j + 1) (.c0 h (r ++ 128 :: List.replicate i 0)) = L_spec_HashEnd m (.c1 (w64 (8 * h.fCount)) 7 h (r ++ 128 :: List.replicate ((119 - r.length) % 64) 0)) := by
  intro j
  induction j with
  | zero =>
    intro i m hi
    rw [L_spec_HashEnd]
    simp only [B_spec_HashEnd]
    rw [cond_f (by rw [Int.tmod_eq_emod_of_nonneg (by omega)]; simp; omega), show i = (119 - r.length) % 64 by omega]
  | succ j ih =>
    intro i m hi
    rw [show m + (j + 1) + 1 = (m + j + 1) + 1 by omega, L_spec_HashEnd]
    simp only [B_spec_HashEnd]
    rw [cond_t (by rw [Int.tmod_eq_emod_of_nonneg (by omega)]; simp; omega), cond_t (by simp; omega)]
    have e : (r ++ 128 :: List.replicate i (0 : Int)) ++ [0] = r ++ 128 :: List.replicate (i + 1) 0 := by
      rw [List.replicate_succ']; simp
    rw [e]
    exact ih (i + 1) m (by omega)
theorem p_spec_HashEnd {r : Reg} (hr : r.ok) {s : ByteArray} {n : Nat} (hs : s.size = n % 64) (hn : n ≤ 1000000000) : spec_HashEnd ⟨ofBytes (bytesL r.l), s, (n : Int)⟩ = some (ofBytes (bytesL (comps ((s.size + (endL n).length) / 64) r (bs s ++ endL n)).l)) := by
  have e0 : spec_HasherOk ⟨ofBytes (bytesL r.l), s, (n : Int)⟩ = some true := p_spec_HasherOk (by rw [ofBytes_size, bytesL_len]; rfl) (by simp only; omega) (by simp only; omega) (by simp only; omega)
  have hl := bs_len s
  obtain ⟨m, hm⟩ : ∃ m, gas = ((m + ((s.size + (endL n).length) / 64) + 1 + 1 + bigCost 8) + ((119 - (bs s).length) % 64) + 1) := ⟨gas - (((s.size + (endL n).length) / 64) + 1 + 1 + bigCost 8 + ((119 - (bs s).length) % 64) + 1), by
    have := gas_lt (n := 1000) (by omega)
    have h2 := endL_len n
    have h3 : bigCost 8 = 44 := rfl
    omega⟩
  have hw : w64 (8 * (n : Int)) = 8 * (n : Int) := w64_id (by omega) (by omega)
  have hrep : (bs s ++ 128 :: List.replicate ((119 - (bs s).length) % 64) 0) ++ bigL (8 * (n : Int)) 8 = bs s ++ endL n := by
    rw [bigL_big8 (by omega) (by omega), endL, hl, hs, show (119 - n % 64) % 64 = (119 - n % 64) % 64 from rfl]
    simp
  rw [spec_HashEnd, E_spec_HashEnd, e0, Option.bind_some, cond_f (by rfl), cond_t (by simp; omega), bytesOf_bs, cond_t (by rw [hl]; simp; omega), hm]
  have h0 := hend0 ⟨ofBytes (bytesL r.l), s, (n : Int)⟩ (bs s) (by omega) ((119 - (bs s).length) % 64) 0 (m + ((s.size + (endL n).length) / 64) + 1 + 1 + bigCost 8) (by omega)
  rw [List.replicate_zero] at h0
  rw [h0, show (7 : Int) = ((8 : Nat) : Int) - 1 from rfl]
  simp only [hw]
  rw [hend1 _ _ (by omega) (by omega) 8 _ _ (by omega) (by simp; omega), hrep, L_spec_HashEnd]
  simp only [B_spec_HashEnd]
  rw [cond_f (by simp), words_state hr, Option.bind_some, keys_e, Option.bind_some]
  have hb : Byt (bs s ++ endL n) := fun x hx => by
    rcases List.mem_append.1 hx with hx | hx
    · exact byt_bs s x hx
    · exact endL_byt n x hx
  have hlen : (bs s ++ endL n).length = 64 * ((s.size + (endL n).length) / 64) := by
    have := end_whole n
    rw [List.length_append, hl]
    omega
  exact hend3 r hr _ hb _ hlen (by have := endL_len n; omega) ((s.size + (endL n).length) / 64) 0 m (by omega)
theorem dig_split (b : List Int) : comps ((b.length + (endL b.length).length) / 64) reg0 (b ++ endL b.length) = comps ((b.length % 64 + (endL b.length).length) / 64) (comps (b.length / 64) reg0 b) (b.drop (64 * (b.length / 64)) ++ endL b.length) := by
  rw [show (b.length + (endL b.length).length) / 64 = b.length / 64 + (b.length % 64 + (endL b.length).length) / 64 by omega, comps_add, comps_app _ _ _ _ (by omega), List.drop_append_of_le_length (by omega)]
theorem p_spec_DigestOf {s : ByteArray} (hs : s.size ≤ 1000000000) : spec_DigestOf s = some (dig s) := by
  have h1 : (s.extract (64 * (s.size / 64)) s.size).size = s.size % 64 := by simp; omega
  have h := p_spec_HashEnd (comps_ok reg0_ok (s.size / 64) (bs s)) (s := s.extract (64 * (s.size / 64)) s.size) h1 hs
  rw [bs_extract, h1, List.take_of_length_le (by rw [bs_len]; omega)] at h
  rw [spec_DigestOf, E_spec_DigestOf, p_spec_HasherNew, Option.bind_some, p_spec_HashMore0 hs, Option.bind_some, h, Option.bind_some, dig, digL, dig_split, bs_len]
theorem bookOk_iff {b : SBook} : bookOk b = true ↔ b.fWord.size = 32 ∧ b.fChain.size = 32 ∧ (0 ≤ b.fTries ∧ b.fTries ≤ 3) ∧ b.fThings.length ≤ 8 ∧ (0 ≤ b.fLast ∧ b.fLast ≤ 1000) ∧ (0 ≤ b.fCount ∧ b.fCount ≤ 10000) ∧ rise b.fLast 0 b.fThings = true := by
  simp only [bookOk, Bool.and_eq_true, beq_iff_eq, inR_iff, decide_eq_true_eq]
  exact ⟨fun ⟨h1, h2, h3, h4, h5, h6, h7⟩ => ⟨by omega, by omega, h3, by omega, h5, h6, h7⟩, fun ⟨h1, h2, h3, h4, h5, h6, h7⟩ => ⟨by omega, by omega, h3, by omega, h5, h6, h7⟩⟩
theorem rise_cons {last p : Int} {x : SThing} {xs : List SThing} : rise last p (x :: xs) = true ↔ thingOk x = true ∧ x.fId ≤ last ∧ p < x.fId ∧ rise last x.fId xs = true := by
  simp only [rise, Bool.and_eq_true, Bool.not_eq_true', decide_eq_false_iff_not]
  exact ⟨fun ⟨h1, h2, h3, h4⟩ => ⟨h1, by omega, by omega, h4⟩, fun ⟨h1, h2, h3, h4⟩ => ⟨h1, by omega, by omega, h4⟩⟩
theorem rise_all {last : Int} : ∀ {xs : List SThing} {p : Int}, rise last p xs = true → ∀ x ∈ xs, p < x.fId ∧ x.fId ≤ last ∧ thingOk x = true
  | [], _, _, x, hx => by cases hx
  | y :: ys, p, h, x, hx => by
    obtain ⟨h1, h2, h3, h4⟩ := rise_cons.1 h
    rcases List.mem_cons.1 hx with rfl | hx
    · exact ⟨h3, h2, h1⟩
    · have := rise_all h4 x hx
      exact ⟨by omega, this.2.1, this.2.2⟩
theorem rise_mono {last last2 : Int} (hl : last ≤ last2) : ∀ {xs : List SThing} {p p2 : Int}, p2 ≤ p → rise last p xs = true → rise last2 p2 xs = true
  | [], _, _, _, _ => rfl
  | y :: ys, p, p2, hp, h => by
    obtain ⟨h1, h2, h3, h4⟩ := rise_cons.1 h
    exact rise_cons.2 ⟨h1, by omega, by omega, rise_mono hl (Int.le_refl _) h4⟩
def ltF (x : SThing) (ts : List SThing) : List SThing := ts.filter fun t => decide (t.fId < x.fId)
def gtF (x : SThing) (ts : List SThing) : List SThing := ts.filter fun t => decide (t.fId > x.fId)
def putAt (ts : List SThing) (x : SThing) : List SThing := ltF x ts ++ x :: gtF x ts
def without (ts : List SThing) (id : Int) : List SThing := ts.filter fun t => t.fId != id
theorem ltF_none {last : Int} {x : SThing} : ∀ {xs : List SThing} {p : Int}, x.fId ≤ p → rise last p xs = true → ltF x xs = [] ∧ gtF x xs = xs ∧ without xs x.fId = xs := by
  intro xs p hp h
  have ha := rise_all h
  refine ⟨List.filter_eq_nil_iff.2 fun t ht => ?_, List.filter_eq_self.2 fun t ht => ?_, List.filter_eq_self.2 fun t ht => ?_⟩
  · have := ha t ht; rw [decide_eq_true_eq]; omega
  · have := ha t ht; rw [decide_eq_true_eq]; omega
  · have := ha t ht; rw [bne_iff_ne]; omega
theorem place_ge {id : Int} : ∀ {xs : List SThing} {i j : Nat}, placeIn xs id i = some j → i ≤ j ∧ ∃ x ∈ xs, x.fId = id := by
  intro xs
  induction xs with
  | nil => intro i j h; cases h
  | cons y ys ih =>
    intro i j h
    rw [placeIn] at h
    split at h
    · rename_i hy; cases h; exact ⟨Nat.le_refl _, y, List.mem_cons_self .., beq_iff_eq.1 hy⟩
    · obtain ⟨h1, x, h2, h3⟩ := ih h; exact ⟨by omega, x, List.mem_cons_of_mem _ h2, h3⟩
/-- A thing that is put in its elder one's place. -/
theorem set_put {last : Int} {x : SThing} : ∀ {xs : List SThing} {p : Int} {i j : Nat}, rise last p xs = true → placeIn xs x.fId i = some j → xs.set (j - i) x = putAt xs x ∧ (xs.take (j - i) ++ xs.drop (j - i + 1)) = without xs x.fId := by
  intro xs
  induction xs with
  | nil => intro p i j _ h; cases h
  | cons y ys ih =>
    intro p i j hr h
    obtain ⟨h1, h2, h3, h4⟩ := rise_cons.1 hr
    rw [placeIn] at h
    split at h
    · rename_i hy
      have hy := beq_iff_eq.1 hy
      cases h
      obtain ⟨f1, f2, f3⟩ := ltF_none (x := x) (by omega) h4
      rw [Nat.sub_self]
      simp only [putAt, ltF, gtF, without, List.filter_cons] at f1 f2 f3 ⊢
      rw [decide_eq_false (by omega), decide_eq_false (by omega), show (y.fId != x.fId) = false by rw [bne_eq_false_iff_eq]; exact hy]
      simp [f1, f2, f3]
    · rename_i hy
      obtain ⟨h5, z, h6, h7⟩ := place_ge h
      have h8 := rise_all h4 z h6
      obtain ⟨i1, i2⟩ := ih h4 h
      have e : j - i = (j - (i + 1)) + 1 := by omega
      rw [e, List.set_cons_succ, i1, List.take_succ_cons, List.drop_succ_cons, List.cons_append, i2]
      simp only [putAt, ltF, gtF, without, List.filter_cons]
      rw [decide_eq_true (by omega), decide_eq_false (by omega), show (y.fId != x.fId) = true by rw [bne_iff_ne]; omega]
      simp
theorem put_new {last : Int} {x : SThing} {xs : List SThing} {p : Int} (h : rise last p xs = true) (hx : last < x.fId) : putAt xs x = xs ++ [x] ∧ thingIn xs x.fId = none := by
  have ha := rise_all h
  constructor
  · rw [putAt, ltF, gtF, List.filter_eq_self.2 fun t ht => by have := ha t ht; rw [decide_eq_true_eq]; omega, List.filter_eq_nil_iff.2 fun t ht => by have := ha t ht; rw [decide_eq_true_eq]; omega]
  · rw [thingIn, List.find?_eq_none]
    intro t ht
    have := ha t ht
    rw [beq_iff_eq]; omega
theorem rise_app {last : Int} {x : SThing} (hx : thingOk x = true) (hl : last < x.fId) : ∀ {xs : List SThing} {p : Int}, p < x.fId → rise last p xs = true → rise x.fId p (xs ++ [x]) = true := by
  intro xs
  induction xs with
  | nil => intro p hp _; exact rise_cons.2 ⟨hx, Int.le_refl _, hp, rfl⟩
  | cons y ys ih =>
    intro p hp h
    obtain ⟨h1, h2, h3, h4⟩ := rise_cons.1 h
    exact rise_cons.2 ⟨h1, by omega, h3, ih (by omega) h4⟩
theorem rise_set {last : Int} {x : SThing} (hx : thingOk x = true) : ∀ {xs : List SThing} {p : Int} {i j : Nat}, rise last p xs = true → placeIn xs x.fId i = some j → rise last p (xs.set (j - i) x) = true := by
  intro xs
  induction xs with
  | nil => intro p i j _ h; cases h
  | cons y ys ih =>
    intro p i j hr h
    obtain ⟨h1, h2, h3, h4⟩ := rise_cons.1 hr
    rw [placeIn] at h
    split at h
    · rename_i hy
      have hy := beq_iff_eq.1 hy
      cases h
      rw [Nat.sub_self, List.set_cons_zero]
      exact rise_cons.2 ⟨hx, by omega, by omega, rise_mono (Int.le_refl _) (by omega) h4⟩
    · have h5 := (place_ge h).1
      have e : j - i = (j - (i + 1)) + 1 := by omega
      rw [e, List.set_cons_succ]
      exact rise_cons.2 ⟨h1, h2, h3, ih h4 h⟩
theorem rise_without {last : Int} (id : Int) : ∀ {xs : List SThing} {p : Int}, rise last p xs = true → rise last p (without xs id) = true := by
  intro xs
  induction xs with
  | nil => intro p _; rfl
  | cons y ys ih =>
    intro p h
    obtain ⟨h1, h2, h3, h4⟩ := rise_cons.1 h
    rw [without, List.filter_cons]
    split
    · exact rise_cons.2 ⟨h1, h2, h3, ih h4⟩
    · exact rise_mono (Int.le_refl _) (by omega) (ih h4)
def grown (x y : SThing) : Bool := y.fKind == x.fKind && ((bs y.fValue == bs x.fValue) && (y.fSigns == x.fSigns && (y.fWraps == x.fWraps && (decide (x.fNext ≤ y.fNext) && ((y.fHidden || !x.fHidden) && (y.fFixed || !x.fFixed))))))
def zBook : SBook := ⟨⟨#[]⟩, 0, [], 0, ⟨#[]⟩, 0⟩
def putThing (b : SBook) (x : SThing) : Option (List SThing × Int) := match thingIn b.fThings x.fId with
  | some old => bif grown old x then some (putAt b.fThings x, b.fLast) else none
  | none => bif x.fId != b.fLast + 1 || decide ((b.fThings.length : Int) ≥ 8) then none else some (b.fThings ++ [x], x.fId)
def enterB (b : SBook) (r : SRec) : SBook × Bool :=
  bif !(bookOk b) || (!(recText r).2 || decide (b.fCount ≥ 10000)) then (zBook, false)
  else bif r.fKind == 1 then (⟨r.fText, 0, b.fThings, b.fLast, dig (b.fChain ++ (recText r).1), b.fCount + 1⟩, true)
  else bif r.fKind == 2 then (⟨b.fWord, r.fNum, b.fThings, b.fLast, dig (b.fChain ++ (recText r).1), b.fCount + 1⟩, true)
  else bif r.fKind == 3 then (match putThing b r.fThing with
    | some p => (⟨b.fWord, b.fTries, p.1, p.2, dig (b.fChain ++ (recText r).1), b.fCount + 1⟩, true)
    | none => (zBook, false))
  else (match thingIn b.fThings r.fNum with
    | some _ => (⟨b.fWord, b.fTries, without b.fThings r.fNum, b.fLast, dig (b.fChain ++ (recText r).1), b.fCount + 1⟩, true)
    | none => (zBook, false))
theorem thing_place {xs : List SThing} {id : Int} : (∃ x j, thingIn xs id = some x ∧ placeIn xs id 0 = some j ∧ j < xs.length ∧ xs[j]? = some x ∧ x.fId = id) ∨ (thingIn xs id = none ∧ placeIn xs id 0 = none) := by
  have h := placeIn_find id xs 0
  cases hp : placeIn xs id 0 with
  | none => rw [hp] at h; exact .inr ⟨h, rfl⟩
  | some j =>
    rw [hp] at h
    obtain ⟨_, h2, h3⟩ := h
    rw [Nat.sub_zero] at h3
    rw [Nat.zero_add] at h2
    refine .inl ⟨xs[j], j, ?_, rfl, h2, List.getElem?_eq_getElem h2, ?_⟩
    · rw [h3, List.getElem?_eq_getElem h2]
    · have h4 : thingIn xs id = some xs[j] := by rw [h3, List.getElem?_eq_getElem h2]
      have := List.find?_some h4
      exact beq_iff_eq.1 this
/-- What is entered leaves a right book. -/
theorem enterB_ok {b : SBook} {r : SRec} (h : (enterB b r).2 = true) : bookOk b = true ∧ (recText r).2 = true ∧ b.fCount < 10000 ∧ bookOk (enterB b r).1 = true ∧ (enterB b r).1.fCount = b.fCount + 1 ∧ (enterB b r).1.fChain = dig (b.fChain ++ (recText r).1) := by
  rw [enterB] at h ⊢
  cases h1 : bookOk b
  · rw [h1] at h; cases h
  cases h2 : (recText r).2
  · rw [h1, h2] at h; cases h
  by_cases h3 : b.fCount ≥ 10000
  · rw [h1, h2, decide_eq_true h3] at h; cases h
  rw [h1, h2, decide_eq_false h3] at h
  rw [decide_eq_false h3]
  simp only [Bool.not_true, Bool.or_false, cond_false] at h ⊢
  obtain ⟨b1, b2, b3, b4, b5, b6, b7⟩ := bookOk_iff.1 h1
  refine ⟨trivial, trivial, by omega, ?_⟩
  have hd : ∀ s, (dig s).size = 32 := dig_size
  rcases recText_cases h2 with ⟨hk, hz⟩ | ⟨hk, hz⟩ | ⟨hk, hz⟩ | ⟨hk, hz⟩
  · rw [hk]
    exact ⟨bookOk_iff.2 ⟨hz, hd _, (by decide : (0 : Int) ≤ 0 ∧ (0 : Int) ≤ 3), b4, b5, by show 0 ≤ b.fCount + 1 ∧ b.fCount + 1 ≤ 10000; omega, b7⟩, rfl, rfl⟩
  · rw [hk]
    exact ⟨bookOk_iff.2 ⟨b1, hd _, hz, b4, b5, by show 0 ≤ b.fCount + 1 ∧ b.fCount + 1 ≤ 10000; omega, b7⟩, rfl, rfl⟩
  · rw [hk] at h ⊢
    simp only [show ((3 : Int) == 1) = false from rfl, show ((3 : Int) == 2) = false from rfl, show ((3 : Int) == 3) = true from rfl, cond_true, cond_false] at h ⊢
    rw [putThing] at h ⊢
    rcases thing_place (xs := b.fThings) (id := r.fThing.fId) with ⟨x, j, t1, t2, t3, t4, t5⟩ | ⟨t1, t2⟩
    · rw [t1] at h ⊢
      simp only at h ⊢
      cases hg : grown x r.fThing
      · rw [hg] at h; cases h
      · have e := (set_put b7 t2).1
        rw [Nat.sub_zero] at e
        have hrs := rise_set hz b7 t2
        rw [Nat.sub_zero, e] at hrs
        exact ⟨bookOk_iff.2 ⟨b1, hd _, b3, by show (putAt b.fThings r.fThing).length ≤ 8; rw [← e, List.length_set]; exact b4, b5, by show 0 ≤ b.fCount + 1 ∧ b.fCount + 1 ≤ 10000; omega, hrs⟩, rfl, rfl⟩
    · rw [t1] at h ⊢
      simp only at h ⊢
      cases hg : (r.fThing.fId != b.fLast + 1 || decide ((b.fThings.length : Int) ≥ 8))
      · rw [Bool.or_eq_false_iff, bne_eq_false_iff_eq, decide_eq_false_iff_not] at hg
        have hid : r.fThing.fId ≤ 1000 := by
          have := hz
          simp only [thingOk, Bool.and_eq_true, inR_iff] at this
          omega
        exact ⟨bookOk_iff.2 ⟨b1, hd _, b3, by show (b.fThings ++ [r.fThing]).length ≤ 8; rw [List.length_append, List.length_singleton]; omega, by show 0 ≤ r.fThing.fId ∧ r.fThing.fId ≤ 1000; omega, by show 0 ≤ b.fCount + 1 ∧ b.fCount + 1 ≤ 10000; omega, rise_app hz (by omega) (by omega) b7⟩, rfl, rfl⟩
      · rw [hg] at h; cases h
  · rw [hk] at h ⊢
    simp only [show ((4 : Int) == 1) = false from rfl, show ((4 : Int) == 2) = false from rfl, show ((4 : Int) == 3) = false from rfl, cond_false] at h ⊢
    cases ht : thingIn b.fThings r.fNum with
    | none => rw [ht] at h; cases h
    | some x => exact ⟨bookOk_iff.2 ⟨b1, hd _, b3, by show (without b.fThings r.fNum).length ≤ 8; exact Nat.le_trans (List.length_filter_le ..) b4, b5, by show 0 ≤ b.fCount + 1 ∧ b.fCount + 1 ≤ 10000; omega, rise_without _ b7⟩, rfl, rfl⟩
theorem tl_bs (a b : ByteArray) : (a.toList == b.toList) = (bs a == bs b) := by
  rw [toList_inj, Bool.eq_iff_iff, decide_eq_true_eq, beq_iff_eq]
  exact ⟨fun h => by rw [h], bs_inj⟩
theorem p_spec_l21Grown (x y : SThing) : spec_l21Grown x y = some (grown x y) := by
  rw [spec_l21Grown, E_spec_l21Grown, grown, tl_bs, show (bs x.fValue == bs y.fValue) = (bs y.fValue == bs x.fValue) by rw [Bool.eq_iff_iff, beq_iff_eq, beq_iff_eq]; exact ⟨Eq.symm, Eq.symm⟩,
    show (x.fKind == y.fKind) = (y.fKind == x.fKind) by rw [Bool.eq_iff_iff, beq_iff_eq, beq_iff_eq]; exact ⟨Eq.symm, Eq.symm⟩]
  cases (y.fKind == x.fKind) <;> cases (bs y.fValue == bs x.fValue) <;> cases y.fSigns <;> cases x.fSigns <;> cases y.fWraps <;> cases x.fWraps <;> cases decide (x.fNext ≤ y.fNext) <;> cases y.fHidden <;> cases x.fHidden <;> cases y.fFixed <;> cases x.fFixed <;> rfl
theorem filt_step {f : SThing → Bool} {l : List SThing} {i : Nat} (h : i < l.length) : (l.take (i + 1)).filter f = (l.take i).filter f ++ (bif f l[i] then [l[i]] else []) := by
  rw [take_at h, List.filter_append]
  congr 1
theorem p_spec_l21Put {l : List SThing} {x : SThing} (hl : l.length ≤ 1000000000) : spec_l21Put l x = some (putAt l x) := by
  have k1 : ∀ (j i m : Nat), i + j = l.length → L_spec_l21Put (m + j) (.c1 l (i : Int) x (ltF x l ++ [x] ++ (l.take i).filter (fun t => decide (t.fId > x.fId)))) = L_spec_l21Put m (.c1 l (l.length : Int) x (ltF x l ++ [x] ++ gtF x l)) := by
    intro j
    induction j with
    | zero => intro i m h; obtain rfl : i = l.length := by omega
              rw [List.take_length]; rfl
    | succ j ih =>
      intro i m h
      have hi : i < l.length := by omega
      have e : w64 ((i : Int) + 1) = ((i + 1 : Nat) : Int) := by rw [w64_id (by omega) (by omega)]; rfl
      have h2 := ih (i + 1) m (by omega)
      rw [filt_step hi] at h2
      have hf1 : (ltF x l).length ≤ l.length := List.length_filter_le ..
      have hf2 : ((l.take i).filter (fun t => decide (t.fId > x.fId))).length ≤ i := Nat.le_trans (List.length_filter_le ..) (by simp; omega)
      rw [show m + (j + 1) = (m + j) + 1 by omega, L_spec_l21Put]
      simp only [B_spec_l21Put, e, Int.toNat_natCast, getD_at hi]
      rw [cond_t (by simp; omega), cond_t (by simp; omega)]
      by_cases h3 : l[i].fId > x.fId
      · rw [decide_eq_true h3] at h2 ⊢
        rw [cond_true, cond_t (by simp; omega), cond_t (by simp only [List.length_append, List.length_singleton, decide_eq_true_eq]; omega), ← h2]
        simp
      · rw [decide_eq_false h3] at h2 ⊢
        rw [cond_false, ← h2]
        simp
  have k0 : ∀ (j i m : Nat), i + j = l.length → L_spec_l21Put (m + 1 + l.length + 1 + j) (.c0 l (i : Int) x ((l.take i).filter (fun t => decide (t.fId < x.fId)))) = some (putAt l x) := by
    intro j
    induction j with
    | zero =>
      intro i m h
      obtain rfl : i = l.length := by omega
      have hf1 : (ltF x l).length ≤ l.length := List.length_filter_le ..
      rw [List.take_length, show l.filter (fun t => decide (t.fId < x.fId)) = ltF x l from rfl, Nat.add_zero, L_spec_l21Put]
      simp only [B_spec_l21Put]
      rw [cond_f (by simp), cond_t (by simp; omega)]
      have h2 := k1 l.length 0 (m + 1) (by omega)
      rw [List.take_zero, List.filter_nil, List.append_nil, show ((0 : Nat) : Int) = 0 from rfl] at h2
      rw [h2, L_spec_l21Put]
      simp only [B_spec_l21Put]
      rw [cond_f (by simp), putAt, List.append_assoc]; rfl
    | succ j ih =>
      intro i m h
      have hi : i < l.length := by omega
      have e : w64 ((i : Int) + 1) = ((i + 1 : Nat) : Int) := by rw [w64_id (by omega) (by omega)]; rfl
      have h2 := ih (i + 1) m (by omega)
      rw [filt_step hi] at h2
      have hf2 : ((l.take i).filter (fun t => decide (t.fId < x.fId))).length ≤ i := Nat.le_trans (List.length_filter_le ..) (by simp; omega)
      rw [show m + 1 + l.length + 1 + (j + 1) = (m + 1 + l.length + 1 + j) + 1 by omega, L_spec_l21Put]
      simp only [B_spec_l21Put, e, Int.toNat_natCast, getD_at hi]
      rw [cond_t (by simp; omega), cond_t (by simp; omega)]
      by_cases h3 : l[i].fId < x.fId
      · rw [decide_eq_true h3] at h2 ⊢
        rw [cond_true, cond_t (by simp; omega), cond_t (by simp only [decide_eq_true_eq]; omega), ← h2]
        simp
      · rw [decide_eq_false h3] at h2 ⊢
        rw [cond_false, ← h2]
        simp
  obtain ⟨m, hm⟩ : ∃ m, gas = m + 1 + l.length + 1 + l.length := ⟨gas - (2 * l.length + 2), by have := gas_lt (n := 2 * l.length + 2) (by omega); omega⟩
  rw [spec_l21Put, E_spec_l21Put, hm]
  have h := k0 l.length 0 m (by omega)
  rw [List.take_zero, List.filter_nil] at h
  exact h
theorem p_spec_Enter {b : SBook} {r : SRec} (hb : b.fThings.length ≤ 140737488351232) : spec_Enter b r = some (enterB b r) := by
  have hok := @enterB_ok b r
  rw [spec_Enter, E_spec_Enter, p_spec_RecText, Option.bind_some, p_spec_BookOk hb, Option.bind_some]
  rw [enterB] at hok ⊢
  cases h1 : bookOk b
  · rfl
  cases h2 : (recText r).2
  · rfl
  obtain ⟨b1, b2, b3, b4, b5, b6, b7⟩ := bookOk_iff.1 h1
  by_cases h3 : b.fCount ≥ 10000
  · have h3' : (b.fCount == 10000) = true := by rw [beq_iff_eq]; omega
    simp only [decide_eq_true h3, h3', Bool.not_true, Bool.or_true, Bool.false_or, cond_false, cond_true]
    rfl
  have hz := recText_size r
  have hw : w64 (b.fCount + 1) = b.fCount + 1 := w64_id (by omega) (by omega)
  have hdig := p_spec_DigestOf (s := b.fChain ++ (recText r).1) (by rw [ByteArray.size_append]; omega)
  have hsz : decide (b.fChain.size + (recText r).1.size ≤ 9223372036854775807) = true := by rw [decide_eq_true_eq]; omega
  have h3' : (b.fCount == 10000) = false := by rw [beq_eq_false_iff_ne]; omega
  rw [h1, h2, decide_eq_false h3] at hok
  simp only [Bool.not_true, Bool.or_self, cond_false] at hok
  simp only [decide_eq_false h3, h3', Bool.not_true, Bool.or_self, cond_false, p_spec_l21Copy (show b.fThings.length ≤ 2932031007317 by omega), hdig, hsz, hw, Option.bind_some, cond_true]
  rcases recText_cases h2 with ⟨hk, hc⟩ | ⟨hk, hc⟩ | ⟨hk, hc⟩ | ⟨hk, hc⟩
  · rw [hk] at hok ⊢
    simp only [show ((1 : Int) == 1) = true from rfl, cond_true] at hok ⊢
    have h5 := (hok trivial).2.2.2.1
    rw [p_spec_BookOk (by simp only; omega), Option.bind_some, h5]; rfl
  · rw [hk] at hok ⊢
    simp only [show ((2 : Int) == 1) = false from rfl, show ((2 : Int) == 2) = true from rfl, cond_true, cond_false] at hok ⊢
    have h5 := (hok trivial).2.2.2.1
    rw [p_spec_BookOk (by simp only; omega), Option.bind_some, h5]; rfl
  · rw [hk] at hok ⊢
    simp only [show ((3 : Int) == 1) = false from rfl, show ((3 : Int) == 2) = false from rfl, show ((3 : Int) == 3) = true from rfl, cond_true, cond_false] at hok ⊢
    have hid := (thingOk_kind hc)
    have hpl : (putAt b.fThings r.fThing).length ≤ 1000 := by
      have f1 : (ltF r.fThing b.fThings).length ≤ b.fThings.length := List.length_filter_le ..
      have f2 : (gtF r.fThing b.fThings).length ≤ b.fThings.length := List.length_filter_le ..
      rw [putAt, List.length_append, List.length_cons]; omega
    rw [p_spec_ThingOf hb, Option.bind_some]
    rw [putThing] at hok ⊢
    cases ht : thingIn b.fThings r.fThing.fId with
    | some o =>
      rw [ht] at hok
      simp only [cond_true, p_spec_l21Grown, Option.bind_some, Bool.not_true, cond_false, p_spec_l21Put (show b.fThings.length ≤ 1000000000 by omega)] at hok ⊢
      cases hg : grown o r.fThing
      · rfl
      · rw [hg] at hok
        simp only [cond_true] at hok
        have h5 := (hok trivial).2.2.2.1
        simp only [Bool.not_true, cond_false, cond_true]
        rw [p_spec_BookOk (by simp only; omega), Option.bind_some, h5]; rfl
    | none =>
      rw [ht] at hok
      have hw2 : w64 (b.fLast + 1) = b.fLast + 1 := w64_id (by omega) (by omega)
      simp only [cond_false, Bool.not_false, cond_true, hw2, p_spec_l21Put (show b.fThings.length ≤ 1000000000 by omega), Option.bind_some] at hok ⊢
      cases hg : (r.fThing.fId != b.fLast + 1)
      · rw [hg] at hok
        rw [bne_eq_false_iff_eq] at hg
        have hpn := (put_new b7 (show b.fLast < r.fThing.fId by omega)).1
        by_cases h8 : (b.fThings.length : Int) ≥ 8
        · rw [decide_eq_true h8, cond_false, cond_t (by rw [beq_iff_eq]; omega)]; rfl
        · rw [decide_eq_false h8] at hok ⊢
          simp only [Bool.or_false, cond_false] at hok
          have h5 := (hok trivial).2.2.2.1
          rw [hpn] at hpl ⊢
          rw [cond_false, cond_f (by rw [beq_eq_false_iff_ne]; omega), p_spec_BookOk (by simp only; omega), Option.bind_some, h5]; rfl
      · rfl
  · rw [hk] at hok ⊢
    simp only [show ((4 : Int) == 1) = false from rfl, show ((4 : Int) == 2) = false from rfl, show ((4 : Int) == 3) = false from rfl, show ((4 : Int) == 4) = true from rfl, cond_true, cond_false] at hok ⊢
    rw [p_spec_ThingOf hb, Option.bind_some]
    cases ht : thingIn b.fThings r.fNum with
    | none => rfl
    | some o =>
      rw [ht] at hok
      simp only [Bool.not_true, cond_false] at hok ⊢
      have h5 := (hok trivial).2.2.2.1
      have key : ∀ (j i m : Nat), i + j = b.fThings.length → L_spec_Enter (m + j + 1) (.c0 (recText r).1 (i : Int) b r ⟨#[]⟩ 0 0 ⟨#[]⟩ 0 b.fWord b.fTries b.fLast b.fChain b.fCount ((b.fThings.take i).filter (fun t => t.fId != r.fNum)) [] b.fThings) = some (⟨b.fWord, b.fTries, without b.fThings r.fNum, b.fLast, dig (b.fChain ++ (recText r).1), b.fCount + 1⟩, true) := by
        intro j
        induction j with
        | zero =>
          intro i m hi
          obtain rfl : i = b.fThings.length := by omega
          have hf1 : (without b.fThings r.fNum).length ≤ b.fThings.length := List.length_filter_le ..
          rw [List.take_length, show b.fThings.filter (fun t => t.fId != r.fNum) = without b.fThings r.fNum from rfl, L_spec_Enter]
          simp only [B_spec_Enter, hdig, hsz, hw, Option.bind_some, cond_true]
          rw [cond_f (by simp), p_spec_BookOk (by simp only; omega), Option.bind_some, h5]; rfl
        | succ j ih =>
          intro i m hi
          have hil : i < b.fThings.length := by omega
          have e : w64 ((i : Int) + 1) = ((i + 1 : Nat) : Int) := by rw [w64_id (by omega) (by omega)]; rfl
          have h6 := ih (i + 1) m (by omega)
          rw [filt_step hil] at h6
          have hf2 : ((b.fThings.take i).filter (fun t => t.fId != r.fNum)).length ≤ i := Nat.le_trans (List.length_filter_le ..) (by simp; omega)
          rw [show m + (j + 1) + 1 = (m + j + 1) + 1 by omega, L_spec_Enter]
          simp only [B_spec_Enter, e, Int.toNat_natCast, getD_at hil]
          rw [cond_t (by simp; omega), cond_t (by simp; omega)]
          cases h7 : (b.fThings[i].fId != r.fNum)
          · rw [h7] at h6
            rw [cond_false, ← h6]; simp
          · rw [h7] at h6
            rw [cond_true, cond_t (by simp; omega), cond_t (by simp only [decide_eq_true_eq]; omega), ← h6]; simp
      obtain ⟨m, hm⟩ : ∃ m, gas = m + b.fThings.length + 1 := ⟨gas - (b.fThings.length + 1), by have := gas_lt (n := b.fThings.length + 1) (by omega); omega⟩
      have h0 := key b.fThings.length 0 m (by omega)
      rw [List.take_zero, List.filter_nil] at h0
      rw [hm]
      exact h0
theorem p_impl_varText {n : Int} (h : n ≤ 9223372036854775807) : impl_varText n = some (ofBytes (varL n)) := by
  have key : ∀ (n : Int) (m : Nat) (out : List Int), n ≤ 9223372036854775807 → (varL n).length ≤ m → out.length + (varL n).length ≤ 1000 → L_impl_varText m (.c0 n out) = some (ofBytes (out ++ varL n)) := by
    intro n
    induction n using varL.induct with
    | case1 n hn ih =>
      intro m out h1 h2 h3
      rw [varL, if_pos hn] at h2 h3 ⊢
      simp only [List.length_cons] at h2 h3
      obtain ⟨m, rfl⟩ : ∃ k, m = k + 1 := ⟨m - 1, by omega⟩
      obtain ⟨e1, _, e2⟩ := varL_step hn h1
      simp only [L_impl_varText, B_impl_varText, e1, e2]
      rw [show decide (n > 127) = true from decide_eq_true hn, show decide ((out.length + 1) * 1 ≤ 140737488355328) = true from decide_eq_true (by omega)]
      simp only [cond_true]
      rw [ih m _ (by omega) (by omega) (by simp; omega)]
      simp
    | case2 n hn =>
      intro m out h1 h2 h3
      rw [varL, if_neg hn] at h2 h3 ⊢
      simp at h2 h3
      obtain ⟨m, rfl⟩ : ∃ k, m = k + 1 := ⟨m - 1, by omega⟩
      simp only [L_impl_varText, B_impl_varText]
      rw [show decide (n > 127) = false from decide_eq_false hn, show decide ((out.length + 1) * 1 ≤ 140737488355328) = true from decide_eq_true (by omega)]
      rfl
  have hl := varL_len10 h
  exact key n gas [] h (Nat.le_of_lt (gas_lt (by omega))) (by simp; omega)
theorem p_impl_in (x a b : Int) : impl_in x a b = some (inR x a b) := by
  show (bif decide (a ≤ x) then some (decide (x ≤ b)) else some false) = some (inR x a b)
  unfold inR; cases decide (a ≤ x) <;> rfl
theorem p_impl_ThingOk (x : SThing) : impl_ThingOk x = some (thingOk x) := by
  simp only [impl_ThingOk, E_impl_ThingOk, p_impl_in, Option.bind_some, thingOk, bne]
  by_cases k1 : x.fKind = 1
  · rw [k1]
    cases inR x.fId 1 1000 <;> cases inR x.fNext 0 16 <;> cases (x.fNext == 0) <;> cases x.fSigns <;> cases x.fWraps <;> simp [inR]
  · by_cases k2 : x.fKind = 2
    · rw [k2]
      cases inR x.fId 1 1000 <;> cases inR x.fNext 0 16 <;> cases (x.fNext == 0) <;> cases x.fSigns <;> cases x.fWraps <;> simp [inR]
    · by_cases k3 : x.fKind = 3
      · rw [k3]
        cases inR x.fId 1 1000 <;> cases inR x.fNext 0 16 <;> cases (x.fNext == 0) <;> cases x.fSigns <;> cases x.fWraps <;> simp [inR]
      · have hr : inR x.fKind 1 3 = false := by
          cases h : inR x.fKind 1 3
          · rfl
          · rw [inR_iff] at h; omega
        have e1 : (x.fKind == 1) = false := by simpa using k1
        have e2 : (x.fKind == 2) = false := by simpa using k2
        have e3 : (x.fKind == 3) = false := by simpa using k3
        rw [hr, e1, e2, e3]
        cases inR x.fId 1 1000 <;> cases inR x.fNext 0 16 <;> cases (x.fNext == 0) <;> cases x.fSigns <;> cases x.fWraps <;> rfl
theorem p_impl_oneByte {n : Int} (h : 0 ≤ n) (h2 : n ≤ 255) : impl_oneByte n = some (ofBytes [n]) := by
  simp only [impl_oneByte, E_impl_oneByte, w8_id h h2]
theorem p_impl_shortText {s : ByteArray} (h : s.size ≤ 140737488351232) : impl_shortText s = some (shortT s) := by
  simp only [impl_shortText, E_impl_shortText, p_impl_varText (n := (s.size : Int)) (by omega), Option.bind_some]
  have := varL_len10 (n := (s.size : Int)) (by omega)
  rw [show decide ((ofBytes (varL (s.size : Int))).size + s.size ≤ 9223372036854775807) = true from decide_eq_true (by rw [ofBytes_size]; omega)]
  rfl
theorem p_impl_ThingText (x : SThing) : impl_ThingText x = some (thingText x) := by
  simp only [impl_ThingText, E_impl_ThingText, p_impl_ThingOk, Option.bind_some, thingText]
  cases h : thingOk x
  · rfl
  · obtain ⟨k1, k2, k3, k4, k5, k6, k7⟩ := thingOk_kind h
    obtain ⟨z1, z2, z3⟩ := thing_sizes h
    have hf := flagN_lt x
    have e1 : ∀ n : Int, (ofBytes [n]).size = 1 := fun n => ofBytes_size _
    simp only [p_impl_flags, Option.bind_some, p_impl_varText (n := x.fId) (by omega), p_impl_oneByte (n := x.fKind) (by omega) (by omega), p_impl_oneByte hf.1 (by omega), p_impl_shortText (s := x.fValue) (by omega), p_impl_varText (n := x.fNext) (by omega), ba_append_size, e1]
    simp only [Bool.not_true, cond_false, cond_true]
    rw [show decide ((ofBytes (varL x.fId)).size + 1 ≤ 9223372036854775807) = true from decide_eq_true (by omega), show decide ((ofBytes (varL x.fId)).size + 1 + 1 ≤ 9223372036854775807) = true from decide_eq_true (by omega),
      show decide ((ofBytes (varL x.fId)).size + 1 + 1 + (shortT x.fValue).size ≤ 9223372036854775807) = true from decide_eq_true (by omega), show decide ((ofBytes (varL x.fId)).size + 1 + 1 + (shortT x.fValue).size + (ofBytes (varL x.fNext)).size ≤ 9223372036854775807) = true from decide_eq_true (by omega)]
    rfl
theorem p_impl_RecText {r : SRec} (g : r.fNum ≤ 9223372036854775807) : impl_RecText r = some (recText r) := by
  simp only [impl_RecText, E_impl_RecText, p_impl_in, p_impl_ThingText, p_impl_varText g, Option.bind_some, isZ_e]
  simp only [isE_e, recText]
  cases k1 : r.fKind == 1
  · simp only [cond_false]
    cases k2 : r.fKind == 2
    · simp only [cond_false]
      cases k3 : r.fKind == 3
      · simp only [cond_false]
        cases k4 : r.fKind == 4
        · rfl
        · have k : r.fKind = 4 := by simpa using k4
          rw [k]
          simp only [beq_self_eq_true, p_impl_oneByte (n := 4) (by omega) (by omega), Option.bind_some, Bool.true_and, cond_true]
          cases h : inR r.fNum 1 1000
          · cases isE r.fText <;> cases isZ r.fThing <;> rfl
          · cases isE r.fText <;> cases isZ r.fThing <;> (try rfl)
            simp only [Bool.not_true, cond_false, cond_true, Bool.and_self, decide_eq_true (rec_var (by omega) h 4)]
      · have k : r.fKind = 3 := by simpa using k3
        rw [k]
        simp only [beq_self_eq_true, p_impl_oneByte (n := 3) (by omega) (by omega), Option.bind_some, Bool.true_and, cond_true, Bool.and_true]
        cases h : (thingText r.fThing).2
        · cases isE r.fText <;> cases r.fNum == 0 <;> rfl
        · cases isE r.fText <;> cases r.fNum == 0 <;> (try rfl)
          simp only [Bool.not_true, cond_false, cond_true, Bool.and_self, decide_eq_true (rec_thing h 3)]
    · have k : r.fKind = 2 := by simpa using k2
      rw [k]
      simp only [beq_self_eq_true, p_impl_oneByte (n := 2) (by omega) (by omega), Option.bind_some, Bool.true_and, cond_true]
      cases h : inR r.fNum 0 3
      · cases isE r.fText <;> cases isZ r.fThing <;> rfl
      · cases isE r.fText <;> cases isZ r.fThing <;> (try rfl)
        simp only [Bool.not_true, cond_false, cond_true, Bool.and_self, decide_eq_true (rec_var (by omega) h 2)]
  · have k : r.fKind = 1 := by simpa using k1
    rw [k]
    simp only [beq_self_eq_true, p_impl_oneByte (n := 1) (by omega) (by omega), Option.bind_some, Bool.true_and, cond_true]
    cases h : (r.fText.size : Int) == 32 <;> cases r.fNum == 0 <;> cases isZ r.fThing <;> (try rfl)
    have h' : r.fText.size = 32 := by have := beq_iff_eq.1 h; omega
    have e : (ofBytes [1]).size + r.fText.size ≤ 9223372036854775807 := by rw [ofBytes_size]; simp only [List.length_singleton]; omega
    simp only [Bool.not_true, cond_false, cond_true, Bool.and_self, decide_eq_true e]
def bookOk1 (b : SBook) : Bool := (b.fWord.size : Int) == 32 && ((b.fChain.size : Int) == 32 && (inR b.fTries 0 3 && (decide ((b.fThings.length : Int) ≤ 8) && (inR b.fLast 0 1000 && inR b.fCount 0 10000))))
theorem bookOk_loop2 {b : SBook} (hb : b.fThings.length ≤ 140737488351232) : ∀ m i, i ≤ b.fThings.length → b.fThings.length - i < m → L_impl_BookOk m (.c0 b.fThings b.fThings.length i b) = some (rise b.fLast (prevId b.fThings i) (b.fThings.drop i) && bookOk1 b) := fun m i h1 h2 =>
  loopN (A := Unit) (n := b.fThings.length) (Lp := L_impl_BookOk) (st := fun i _ => .c0 b.fThings b.fThings.length i b) (Inv := fun _ _ => True) (out := fun i _ => some (rise b.fLast (prevId b.fThings i) (b.fThings.drop i) && bookOk1 b))
    (fun m _ _ => by
      simp only [L_impl_BookOk, B_impl_BookOk, p_impl_in, Option.bind_some, bookOk1]
      rw [show decide ((b.fThings.length : Int) < (b.fThings.length : Int)) = false from decide_eq_false (by omega), List.drop_of_length_le (Nat.le_refl _)]
      cases (b.fWord.size : Int) == 32 <;> cases (b.fChain.size : Int) == 32 <;> cases inR b.fTries 0 3 <;> cases decide ((b.fThings.length : Int) ≤ 8) <;> cases inR b.fLast 0 1000 <;> rfl)
    (fun m i _ hi _ => by
      have hw : w64 ((i : Int) + 1) = ((i + 1 : Nat) : Int) := by rw [w64_id (by omega) (by omega)]; rfl
      simp only [rise_at hi]
      simp only [L_impl_BookOk, B_impl_BookOk, Int.toNat_natCast, getD_at hi, p_impl_ThingOk, Option.bind_some, hw]
      rw [show decide ((i : Int) < (b.fThings.length : Int)) = true from decide_eq_true (by omega), show decide ((0 : Int) ≤ (i : Int)) = true from decide_eq_true (by omega)]
      simp only [Bool.and_self, cond_true]
      cases h1 : thingOk b.fThings[i]
      · exact .inl rfl
      · cases h2 : decide (b.fThings[i].fId > b.fLast)
        · by_cases h0 : i = 0
          · subst h0
            refine .inr ⟨(), rfl, trivial, ?_⟩
            rw [show decide (prevId b.fThings 0 ≥ b.fThings[0].fId) = false from decide_eq_false (by have := (thingOk_kind h1).2.2.1; simp only [prevId]; omega)]
            rfl
          · obtain ⟨j, rfl⟩ : ∃ j, i = j + 1 := ⟨i - 1, by omega⟩
            have hj : w64 (((j + 1 : Nat) : Int) - 1) = (j : Int) := by rw [w64_id (by omega) (by omega)]; omega
            have hjl : j < b.fThings.length := by omega
            rw [prevId_at hjl]
            simp only [hj, Int.toNat_natCast, getD_at hjl, Bool.not_true, Bool.not_false, cond_false, Bool.true_and]
            rw [show decide (((j + 1 : Nat) : Int) > 0) = true from decide_eq_true (by omega), show decide ((0 : Int) ≤ (j : Int)) = true from decide_eq_true (by omega), show decide ((j : Int) < (b.fThings.length : Int)) = true from decide_eq_true (by omega)]
            simp only [Bool.and_self, cond_true]
            cases h3 : decide (b.fThings[j].fId ≥ b.fThings[j + 1].fId)
            · exact .inr ⟨(), rfl, trivial, rfl⟩
            · exact .inl rfl
        · exact .inl rfl) m i () h1 h2 trivial
theorem p_impl_BookOk {b : SBook} (hb : b.fThings.length ≤ 140737488351232) : impl_BookOk b = some (bookOk b) := by
  have h0 := bookOk_loop2 hb gas 0 (Nat.zero_le _) (gas_lt (by omega))
  simp only [impl_BookOk, E_impl_BookOk]
  refine h0.trans (congrArg some ?_)
  simp only [bookOk, bookOk1, List.drop_zero, prevId]
  cases rise b.fLast 0 b.fThings <;> simp
theorem p_impl_copyBook {b : SBook} (h : b.fThings.length ≤ 2932031007317) : impl_copyBook b = some b := by
  rw [impl_copyBook, E_impl_copyBook, cond_t (by simp; omega)]
theorem p_impl_follows (x y : SThing) : impl_follows x y = some (grown x y) := by
  rw [impl_follows, E_impl_follows, grown, tl_bs, show decide (y.fNext ≥ x.fNext) = decide (x.fNext ≤ y.fNext) from rfl]
  cases (y.fKind == x.fKind) <;> cases (bs y.fValue == bs x.fValue) <;> cases y.fSigns <;> cases x.fSigns <;> cases y.fWraps <;> cases x.fWraps <;> cases decide (x.fNext ≤ y.fNext) <;> cases y.fHidden <;> cases x.fHidden <;> cases y.fFixed <;> cases x.fFixed <;> rfl
theorem p_impl_Book_thing {b : SBook} {x : SThing} (hb : bookOk b = true) (hx : x.fId ≤ 1000) : impl_Book_thing b x = some (match putThing b x with
  | some p => (true, ⟨b.fWord, b.fTries, p.1, p.2, b.fChain, b.fCount⟩)
  | none => (false, b)) := by
  obtain ⟨b1, b2, b3, b4, b5, b6, b7⟩ := bookOk_iff.1 hb
  rw [impl_Book_thing, E_impl_Book_thing, p_impl_thingAt (by omega), Option.bind_some, putThing]
  rcases thing_place (xs := b.fThings) (id := x.fId) with ⟨o, j, t1, t2, t3, t4, t5⟩ | ⟨t1, t2⟩
  · have hg : ∀ z, b.fThings.getD j z = o := fun z => by rw [List.getD, t4]; rfl
    have hs := (set_put b7 t2).1
    rw [Nat.sub_zero] at hs
    rw [t1, t2]
    simp only [Int.toNat_natCast, hg, p_impl_follows, Option.bind_some, hs]
    rw [cond_t (by simp), cond_t (by simp; omega)]
    cases grown o x
    · rfl
    · rw [cond_f (by rfl), cond_t (by simp; omega)]; rfl
  · rw [t1, t2]
    simp only
    have hw : w64 (b.fLast + 1) = b.fLast + 1 := w64_id (by omega) (by omega)
    rw [cond_f (by rfl), hw]
    cases h1 : (x.fId != b.fLast + 1)
    · by_cases h2 : (b.fThings.length : Int) ≥ 8
      · rw [decide_eq_true h2]; rfl
      · rw [decide_eq_false h2, cond_false, cond_false, cond_t (by simp; omega)]; rfl
    · rfl
theorem p_impl_zeros {n : Nat} (h : n ≤ 1000000000) : impl_zeros (n : Int) = some (ofBytes (List.replicate n 0)) := by
  simp only [impl_zeros, E_impl_zeros, Int.toNat_natCast]
  rw [cond_t (by simp; omega)]
theorem p_impl_fourBytes {x : Int} (h : R32 x) : impl_fourBytes x = some (ofBytes (four x)) := by
  obtain ⟨h1, h2⟩ := h
  have e1 : Int.fdiv x (2 ^ (Min.min (24 : Int).toNat (IntKind.bits IntKind.u32))) = x / 16777216 := Int.fdiv_eq_ediv_of_nonneg _ (by decide)
  have e2 : Int.fdiv x (2 ^ (Min.min (16 : Int).toNat (IntKind.bits IntKind.u32))) = x / 65536 := Int.fdiv_eq_ediv_of_nonneg _ (by decide)
  have e3 : Int.fdiv x (2 ^ (Min.min (8 : Int).toNat (IntKind.bits IntKind.u32))) = x / 256 := Int.fdiv_eq_ediv_of_nonneg _ (by decide)
  simp only [impl_fourBytes, E_impl_fourBytes, e1, e2, e3, w8_mod, four]
  rw [show x / 16777216 % 256 = x / 16777216 by omega]
theorem p_impl_eightBytes {n : Nat} (h : n < 1099511627776) : impl_eightBytes (n : Int) = some (ofBytes (big8 (n : Int))) := by
  have e1 : Int.fdiv (n : Int) (2 ^ (Min.min (32 : Int).toNat (IntKind.bits IntKind.i64))) = (n : Int) / 4294967296 := Int.fdiv_eq_ediv_of_nonneg _ (by decide)
  simp only [impl_eightBytes, E_impl_eightBytes, e1, p_impl_fourBytes (r32_w _), Option.bind_some]
  rw [cond_t (by rw [ofBytes_size, ofBytes_size]; simp [four])]
  congr 1
  apply bs_inj
  rw [bs_append, bs_ofBytes (four_byt (r32_w _)), bs_ofBytes (four_byt (r32_w _)), bs_ofBytes (fun x hx => by
    simp only [big8, List.mem_cons, List.not_mem_nil, or_false] at hx
    omega)]
  simp only [four, big8, w32_mod, List.cons_append, List.nil_append, List.cons.injEq, and_true]
  omega
theorem p_impl_ending {n : Nat} (h : n ≤ 100000000000) : impl_ending (n : Int) = some (ofBytes (endL n)) := by
  have e1 : (w64 (119 - ((n : Int).tmod 64))).tmod 64 = (((119 - n % 64) % 64 : Nat) : Int) := by
    have a : (n : Int).tmod 64 = (n : Int) % 64 := Int.tmod_eq_emod_of_nonneg (by omega)
    rw [a, w64_id (by omega) (by omega), Int.tmod_eq_emod_of_nonneg (by omega)]
    omega
  have e2 : w64 (8 * (n : Int)) = ((8 * n : Nat) : Int) := by rw [w64_id (by omega) (by omega)]; omega
  have h0 : (⟨#[128]⟩ : ByteArray).size = 1 := rfl
  simp only [impl_ending, E_impl_ending, e1, e2, p_impl_zeros (n := (119 - n % 64) % 64) (by omega), p_impl_eightBytes (n := 8 * n) (by omega), Option.bind_some]
  rw [cond_t (by rw [ofBytes_size]; simp [h0]; omega), cond_t (by rw [ByteArray.size_append, ofBytes_size, ofBytes_size]; simp [h0, big8]; omega)]
  congr 1
  apply bs_inj
  have hb : Byt (List.replicate ((119 - n % 64) % 64) (0 : Int)) := fun x hx => by
    have := List.eq_of_mem_replicate hx; omega
  have hb2 : Byt (big8 ((8 * n : Nat) : Int)) := fun x hx => by
    simp only [big8, List.mem_cons, List.not_mem_nil, or_false] at hx
    omega
  rw [bs_append, bs_append, bs_ofBytes hb, bs_ofBytes hb2, bs_ofBytes (endL_byt n), endL]
  have e3 : bs (⟨#[128]⟩ : ByteArray) = [128] := rfl
  rw [e3]
  simp
theorem rot_gen {x : Int} (h : R32 x) (n : Nat) (hn : 0 < n) (hn2 : n < 32) (k : Int) (hk : wu64 (((BitVec.toNat ((BitVec.ofInt (IntKind.bits IntKind.u64) (wu64 k)) &&& (BitVec.ofInt (IntKind.bits IntKind.u64) (31 : Int)))) : Nat) : Int) = ((32 - n : Nat) : Int))
    (hk2 : wu64 (32 - ((32 - n : Nat) : Int)) = (n : Int)) : math_bits_RotateLeft32 x k = some (rt (2 ^ n) (2 ^ (32 - n)) x) := by
  have e1 : Min.min ((32 - n : Nat) : Int).toNat (IntKind.bits IntKind.u32) = 32 - n := by
    show Min.min ((32 - n : Nat) : Int).toNat 32 = _
    omega
  have e2 : Min.min (n : Int).toNat (IntKind.bits IntKind.u32) = n := by
    show Min.min (n : Int).toNat 32 = _
    omega
  have e3 : Int.fdiv x (2 ^ n) = x / 2 ^ n := Int.fdiv_eq_ediv_of_nonneg _ (Int.le_of_lt (Int.pow_pos (by omega)))
  simp only [math_bits_RotateLeft32, E_math_bits_RotateLeft32, hk, hk2, e1, e2, e3]
  rw [show decide ((0 : Int) ≤ (n : Int)) = true from decide_eq_true (by omega)]
  simp only [cond_true, ort_e]
  rw [rt_or h n hn hn2]
theorem right_gen {x : Int} (h : R32 x) (n : Nat) (hn : 0 < n) (hn2 : n < 32) (hk : wu64 (((BitVec.toNat ((BitVec.ofInt (IntKind.bits IntKind.u64) (wu64 (w64 (0 - (n : Int))))) &&& (BitVec.ofInt (IntKind.bits IntKind.u64) (31 : Int)))) : Nat) : Int) = ((32 - n : Nat) : Int))
    (hk2 : wu64 (32 - ((32 - n : Nat) : Int)) = (n : Int)) : impl_right x (n : Int) = some (rt (2 ^ n) (2 ^ (32 - n)) x) := by
  simp only [impl_right, E_impl_right, rot_gen h n hn hn2 _ hk hk2, Option.bind_some]
theorem right2 {x : Int} (h : R32 x) : impl_right x 2 = some (rt 4 1073741824 x) := right_gen h 2 (by decide) (by decide) (by decide) (by decide)
theorem right13 {x : Int} (h : R32 x) : impl_right x 13 = some (rt 8192 524288 x) := right_gen h 13 (by decide) (by decide) (by decide) (by decide)
theorem right22 {x : Int} (h : R32 x) : impl_right x 22 = some (rt 4194304 1024 x) := right_gen h 22 (by decide) (by decide) (by decide) (by decide)
theorem right6 {x : Int} (h : R32 x) : impl_right x 6 = some (rt 64 67108864 x) := right_gen h 6 (by decide) (by decide) (by decide) (by decide)
theorem right11 {x : Int} (h : R32 x) : impl_right x 11 = some (rt 2048 2097152 x) := right_gen h 11 (by decide) (by decide) (by decide) (by decide)
theorem right25 {x : Int} (h : R32 x) : impl_right x 25 = some (rt 33554432 128 x) := right_gen h 25 (by decide) (by decide) (by decide) (by decide)
theorem right7 {x : Int} (h : R32 x) : impl_right x 7 = some (rt 128 33554432 x) := right_gen h 7 (by decide) (by decide) (by decide) (by decide)
theorem right18 {x : Int} (h : R32 x) : impl_right x 18 = some (rt 262144 16384 x) := right_gen h 18 (by decide) (by decide) (by decide) (by decide)
theorem right17 {x : Int} (h : R32 x) : impl_right x 17 = some (rt 131072 32768 x) := right_gen h 17 (by decide) (by decide) (by decide) (by decide)
theorem right19 {x : Int} (h : R32 x) : impl_right x 19 = some (rt 524288 8192 x) := right_gen h 19 (by decide) (by decide) (by decide) (by decide)
theorem ort_step {a b : Int} (ha : 0 ≤ a ∧ a < 16777216) (hb : 0 ≤ b ∧ b ≤ 255) : ort (w32 (a * 256)) (w32 b) = a * 256 + b := by
  obtain ⟨x, rfl⟩ : ∃ x : Nat, a = (x : Int) := ⟨a.toNat, by omega⟩
  obtain ⟨y, rfl⟩ : ∃ y : Nat, b = (y : Int) := ⟨b.toNat, by omega⟩
  rw [w32_id (by omega) (by omega), w32_id (by omega) (by omega)]
  have := ort_add (a := x) (b := y) (s := 8) (by omega) (by omega) (by omega)
  have e : ((x * 2 ^ 8 : Nat) : Int) = (x : Int) * 256 := by omega
  rw [Int.natCast_add, e] at this
  exact this
/-- A word, as far as its bytes have come. -/
def wpart (l : List Int) (i : Nat) : Nat → Int
  | 0 => 0
  | k + 1 => wpart l i k * 256 + l.getD (4 * i + k) 0
theorem wpart4 (l : List Int) (i : Nat) : wpart l i 4 = wordAt l i := by
  simp only [wpart, wordAt, be4, Nat.add_zero]
  omega
theorem wpart_r {l : List Int} (h : Byt l) (i : Nat) : ∀ k, k < 4 → 0 ≤ wpart l i k ∧ wpart l i k < 16777216
  | 0, _ => by simp [wpart]
  | 1, _ => by have := byt_getD h (4 * i + 0); simp only [wpart]; omega
  | 2, _ => by have := byt_getD h (4 * i + 0); have := byt_getD h (4 * i + 1); simp only [wpart]; omega
  | 3, _ => by have := byt_getD h (4 * i + 0); have := byt_getD h (4 * i + 1); have := byt_getD h (4 * i + 2); simp only [wpart]; omega
theorem wordsOf1 {b : ByteArray} (hb : b.size = 64) (v : List Int) (i : Nat) (hi : i < 16) : ∀ (j k m : Nat), k + j = 4 →
    L_impl_wordsOf (m + j + 1) (.c1 b (i : Int) (i : Int) (k : Int) v (wordsN (bs b) i ++ wpart (bs b) i k :: List.replicate (63 - i) 0)) = L_impl_wordsOf m (.c0 b ((i + 1 : Nat) : Int) v (wordsN (bs b) (i + 1) ++ List.replicate (63 - i) 0)) := by
  have hby := byt_bs b
  intro j
  induction j with
  | zero =>
    intro k m h
    obtain rfl : k = 4 := by omega
    have e : w64 ((i : Int) + 1) = ((i + 1 : Nat) : Int) := by rw [w64_id (by omega) (by omega)]; rfl
    rw [L_impl_wordsOf]
    simp only [B_impl_wordsOf, e]
    rw [cond_f (by simp), wpart4, wordsN_succ]
    simp
  | succ j ih =>
    intro k m h
    have hk : k < 4 := by omega
    have hlen : (wordsN (bs b) i ++ wpart (bs b) i k :: List.replicate (63 - i) 0).length = 64 := by
      simp only [List.length_append, List.length_cons, List.length_replicate, wordsN_len]; omega
    have e : w64 ((k : Int) + 1) = ((k + 1 : Nat) : Int) := by rw [w64_id (by omega) (by omega)]; rfl
    have e4 : w64 (4 * (i : Int)) = ((4 * i : Nat) : Int) := by rw [w64_id (by omega) (by omega)]; omega
    have e5 : w64 (((4 * i : Nat) : Int) + (k : Int)) = ((4 * i + k : Nat) : Int) := by rw [w64_id (by omega) (by omega)]; omega
    have e8 : (2 : Int) ^ (Min.min (8 : Int).toNat (IntKind.bits IntKind.u32)) = 256 := by decide
    have hg : (wordsN (bs b) i ++ wpart (bs b) i k :: List.replicate (63 - i) 0).getD i 0 = wpart (bs b) i k := by
      rw [getD_app2 (by rw [wordsN_len]; omega), wordsN_len, Nat.sub_self]; rfl
    rw [show m + (j + 1) + 1 = (m + j + 1) + 1 by omega, L_impl_wordsOf]
    simp only [B_impl_wordsOf, e, e4, e5, e8, Int.toNat_natCast, hlen, hg, ort_e]
    rw [cond_t (by simp; omega), cond_t (by rfl), cond_t (by simp; omega), cond_t (by simp; omega), cond_t (by rfl), cond_t (by simp; omega)]
    rw [bt_getD (by omega), ort_step (wpart_r hby i k hk) (byt_getD hby _), set_app (wordsN_len _ i)]
    exact ih (k + 1) m (by omega)
theorem wordsOf0 {b : ByteArray} (hb : b.size = 64) (v : List Int) : ∀ (j i m : Nat), i + j = 16 → L_impl_wordsOf (m + 6 * j + 1) (.c0 b (i : Int) v (wordsN (bs b) i ++ List.replicate (64 - i) 0)) = L_impl_wordsOf m (.c2 16 v (wordsN (bs b) 16 ++ List.replicate 48 0)) := by
  intro j
  induction j with
  | zero =>
    intro i m h
    obtain rfl : i = 16 := by omega
    rw [L_impl_wordsOf]
    simp only [B_impl_wordsOf]
    rw [cond_f (by simp)]
  | succ j ih =>
    intro i m h
    rw [show m + 6 * (j + 1) + 1 = (m + 6 * j + 1) + 4 + 1 + 1 by omega, L_impl_wordsOf]
    simp only [B_impl_wordsOf]
    rw [cond_t (by simp; omega)]
    have h1 := wordsOf1 hb v i (by omega) 4 0 (m + 6 * j + 1) (by omega)
    rw [show 64 - i = (63 - i) + 1 by omega, List.replicate_succ]
    have h2 := ih (i + 1) m (by omega)
    rw [show 64 - (i + 1) = 63 - i by omega] at h2
    exact h1.trans h2
theorem wordsOf2 {w v : List Int} (hw : ∀ x ∈ w, R32 x) (hwl : w.length = 16) (hv : v.length = 64) : ∀ (j i m : Nat), i + j = 48 → L_impl_wordsOf (m + j + 1) (.c2 ((16 + i : Nat) : Int) v (sched w i ++ List.replicate (48 - i) 0)) = some (sched w 48) := by
  intro j
  induction j with
  | zero =>
    intro i m h
    obtain rfl : i = 48 := by omega
    have hl := sched_len hwl 48
    rw [L_impl_wordsOf]
    simp only [B_impl_wordsOf, Nat.sub_self, List.replicate_zero, List.append_nil, hl, hv]
    rfl
  | succ j ih =>
    intro i m h
    have hl := sched_len hwl i
    have hr := sched_r hw i
    have hlen : (sched w i ++ List.replicate (48 - i) 0).length = 64 := by
      simp only [List.length_append, List.length_replicate, hl]; omega
    have e2 : w64 (((16 + i : Nat) : Int) - 2) = ((16 + i - 2 : Nat) : Int) := by rw [w64_id (by omega) (by omega)]; omega
    have e7 : w64 (((16 + i : Nat) : Int) - 7) = ((16 + i - 7 : Nat) : Int) := by rw [w64_id (by omega) (by omega)]; omega
    have e15 : w64 (((16 + i : Nat) : Int) - 15) = ((16 + i - 15 : Nat) : Int) := by rw [w64_id (by omega) (by omega)]; omega
    have e16 : w64 (((16 + i : Nat) : Int) - 16) = ((16 + i - 16 : Nat) : Int) := by rw [w64_id (by omega) (by omega)]; omega
    have e1 : w64 (((16 + i : Nat) : Int) + 1) = ((16 + (i + 1) : Nat) : Int) := by rw [w64_id (by omega) (by omega)]; omega
    have g2 : (sched w i ++ List.replicate (48 - i) 0).getD (16 + i - 2) 0 = (sched w i).getD (16 + i - 2) 0 := getD_app1 (by omega) 0
    have g7 : (sched w i ++ List.replicate (48 - i) 0).getD (16 + i - 7) 0 = (sched w i).getD (16 + i - 7) 0 := getD_app1 (by omega) 0
    have g15 : (sched w i ++ List.replicate (48 - i) 0).getD (16 + i - 15) 0 = (sched w i).getD (16 + i - 15) 0 := getD_app1 (by omega) 0
    have g16 : (sched w i ++ List.replicate (48 - i) 0).getD (16 + i - 16) 0 = (sched w i).getD (16 + i - 16) 0 := getD_app1 (by omega) 0
    have f10 : ∀ x : Int, Int.fdiv x (2 ^ (Min.min (10 : Int).toNat (IntKind.bits IntKind.u32))) = x / 1024 := fun x => Int.fdiv_eq_ediv_of_nonneg _ (by decide)
    have f3 : ∀ x : Int, Int.fdiv x (2 ^ (Min.min (3 : Int).toNat (IntKind.bits IntKind.u32))) = x / 8 := fun x => Int.fdiv_eq_ediv_of_nonneg _ (by decide)
    have r15 := r_getD hr (16 + i - 15)
    have r2 := r_getD hr (16 + i - 2)
    rw [show m + (j + 1) + 1 = (m + j + 1) + 1 by omega, L_impl_wordsOf]
    simp only [B_impl_wordsOf, e1, e2, e7, e15, e16, Int.toNat_natCast, hlen, g2, g7, g15, g16, right7 r15, right18 r15, right17 r2, right19 r2, Option.bind_some, f10, f3, xr_e]
    rw [cond_t (by simp; omega), cond_t (by rfl), cond_t (by simp; omega), cond_t (by rfl), cond_t (by simp; omega), cond_t (by rfl), cond_t (by simp; omega), cond_t (by rfl), cond_t (by simp; omega), cond_t (by rfl), cond_t (by simp; omega)]
    rw [show 48 - i = (48 - (i + 1)) + 1 by omega, List.replicate_succ, set_app (by omega)]
    have h2 := ih (i + 1) m (by omega)
    rw [sched, List.append_assoc] at h2
    exact h2
theorem p_impl_wordsOf {b : ByteArray} (hb : b.size = 64) : impl_wordsOf b = some (sched (wordsN (bs b) 16) 48) := by
  obtain ⟨m, hm⟩ : ∃ m, gas = (m + 48 + 1) + 6 * 16 + 1 := ⟨gas - 146, by have := gas_lt (n := 146) (by omega); omega⟩
  rw [impl_wordsOf, E_impl_wordsOf, hm]
  have h0 := wordsOf0 hb (List.replicate 64 0) 16 0 (m + 48 + 1) (by omega)
  have h2 := wordsOf2 (w := wordsN (bs b) 16) (v := List.replicate 64 0) (wordsN_r (byt_bs b) 16) (wordsN_len _ 16) (List.length_replicate ..) 48 0 m (by omega)
  rw [show wordsN (bs b) 0 ++ List.replicate (64 - 0) 0 = List.replicate 64 (0 : Int) from rfl, show ((0 : Nat) : Int) = 0 from rfl] at h0
  rw [show ((16 + 0 : Nat) : Int) = 16 from rfl, show sched (wordsN (bs b) 16) 0 = wordsN (bs b) 16 from rfl, show 48 - 0 = 48 from rfl] at h2
  rw [h0, h2]
theorem oneBlock1 (s r v : List Int) (hs : s.length = 8) (hv : v.length = 8) (f : Nat → Int) (hf : ∀ i, i < 8 → f i = w32 (r.getD i 0 + s.getD i 0)) (hr : r.length = 8) : ∀ (j i m : Nat), i + j = 8 → L_impl_oneBlock (m + j + 1) (.c1 (i : Int) s v ((List.range i).map f ++ r.drop i)) = some ((List.range 8).map f) := by
  intro j
  induction j with
  | zero =>
    intro i m h
    obtain rfl : i = 8 := by omega
    rw [L_impl_oneBlock]
    simp only [B_impl_oneBlock]
    rw [cond_f (by simp), List.drop_of_length_le (by omega), List.append_nil, cond_t (by simp), cond_t (by simp [hv]), cond_t (by simp)]
  | succ j ih =>
    intro i m h
    have e : w64 ((i : Int) + 1) = ((i + 1 : Nat) : Int) := by rw [w64_id (by omega) (by omega)]; rfl
    have hl : ((List.range i).map f ++ r.drop i).length = 8 := by simp [hr]; omega
    have hm : ((List.range i).map f).length = i := by simp
    have hg : ((List.range i).map f ++ r.drop i).getD i 0 = r.getD i 0 := by
      rw [getD_app2 (by omega), hm, Nat.sub_self]
      simp [List.getD]
    rw [show m + (j + 1) + 1 = (m + j + 1) + 1 by omega, L_impl_oneBlock]
    simp only [B_impl_oneBlock, e, Int.toNat_natCast, hl, hs, hg]
    rw [cond_t (by simp; omega), cond_t (by rfl), cond_t (by simp; omega), cond_t (by rfl), cond_t (by simp; omega), cond_t (by rfl), cond_t (by simp; omega)]
    rw [drop_at (by omega : i < r.length), set_app hm, ← hf i (by omega)]
    have h2 := ih (i + 1) m (by omega)
    rw [List.range_succ, List.map_append, List.append_assoc] at h2
    exact h2
theorem oneBlock0 (s v W : List Int) (hW : ∀ x ∈ W, R32 x) (hWl : W.length = 64) (r : Reg) (hr : r.ok) (i m : Nat) (hi : i < 64) :
    L_impl_oneBlock (m + 1) (.c0 r.a r.b r.c r.d r.e r.f r.g r.h (i : Int) s v W) = L_impl_oneBlock m (.c0 (rnd r (keysL.getD i 0) (W.getD i 0)).a (rnd r (keysL.getD i 0) (W.getD i 0)).b (rnd r (keysL.getD i 0) (W.getD i 0)).c (rnd r (keysL.getD i 0) (W.getD i 0)).d (rnd r (keysL.getD i 0) (W.getD i 0)).e (rnd r (keysL.getD i 0) (W.getD i 0)).f (rnd r (keysL.getD i 0) (W.getD i 0)).g (rnd r (keysL.getD i 0) (W.getD i 0)).h ((i + 1 : Nat) : Int) s v W) := by
  obtain ⟨h1, h2, h3, h4, h5, h6, h7, h8⟩ := hr
  have e : w64 ((i : Int) + 1) = ((i + 1 : Nat) : Int) := by rw [w64_id (by omega) (by omega)]; rfl
  rw [L_impl_oneBlock]
  simp only [B_impl_oneBlock, e, Int.toNat_natCast, hWl, right6 h5, right11 h5, right25 h5, right2 h1, right13 h1, right22 h1, Option.bind_some, xr_e, an_e, xr_max h5]
  rw [cond_t (by simp; omega), cond_t (by simp; omega), cond_t (by rw [Nat.blt_eq]; omega), cond_t (by rfl), cond_t (by simp; omega)]
  rfl
theorem oneBlock0s (s v W : List Int) (hW : ∀ x ∈ W, R32 x) (hWl : W.length = 64) (r : Reg) (hr : r.ok) : ∀ (j i m : Nat), i + j = 64 →
    L_impl_oneBlock (m + j + 1) (.c0 (rnds keysL W r i).a (rnds keysL W r i).b (rnds keysL W r i).c (rnds keysL W r i).d (rnds keysL W r i).e (rnds keysL W r i).f (rnds keysL W r i).g (rnds keysL W r i).h (i : Int) s v W) = L_impl_oneBlock m (.c1 0 s v (rnds keysL W r 64).l) := by
  intro j
  induction j with
  | zero =>
    intro i m h
    obtain rfl : i = 64 := by omega
    rw [L_impl_oneBlock]
    simp only [B_impl_oneBlock]
    rw [cond_f (by simp)]
    rfl
  | succ j ih =>
    intro i m h
    rw [show m + (j + 1) + 1 = (m + j + 1) + 1 by omega, oneBlock0 s v W hW hWl _ (rnds_ok keysL W hr i) i _ (by omega)]
    exact ih (i + 1) m (by omega)
theorem p_impl_oneBlock {s : Reg} (hs : s.ok) {b : ByteArray} (hb : b.size = 64) : impl_oneBlock s.l b = some (comp s (bs b)).l := by
  obtain ⟨m, hm⟩ : ∃ m, gas = (m + 8 + 1) + 64 + 1 := ⟨gas - 74, by have := gas_lt (n := 74) (by omega); omega⟩
  have hr := sched_r (wordsN_r (byt_bs b) 16) 48
  have hl := sched_len (wordsN_len (bs b) 16) 48
  have hsl : s.l.length = 8 := rfl
  have z0 : (0 : Int).toNat = 0 := rfl
  have z1 : (1 : Int).toNat = 1 := rfl
  have z2 : (2 : Int).toNat = 2 := rfl
  have z3 : (3 : Int).toNat = 3 := rfl
  have z4 : (4 : Int).toNat = 4 := rfl
  have z5 : (5 : Int).toNat = 5 := rfl
  have z6 : (6 : Int).toNat = 6 := rfl
  have z7 : (7 : Int).toNat = 7 := rfl
  rw [impl_oneBlock, E_impl_oneBlock, p_impl_wordsOf hb, Option.bind_some, hm]
  simp only [hl, hsl, List.length_replicate, z0, z1, z2, z3, z4, z5, z6, z7]
  rw [cond_t (by rfl), cond_t (by rfl), cond_t (by rfl), cond_t (by rfl), cond_t (by rfl), cond_t (by rfl), cond_t (by rfl), cond_t (by rfl), cond_t (by rfl), cond_t (by rfl), cond_t (by rfl), cond_t (by rfl), cond_t (by rfl), cond_t (by rfl), cond_t (by rfl), cond_t (by rfl), cond_t (by rfl)]
  have h0 := oneBlock0s s.l [0, 0, 0, 0, 0, 0, 0, 0] _ hr hl s hs 64 0 (m + 8 + 1) (by omega)
  rw [show ((0 : Nat) : Int) = 0 from rfl] at h0
  have hf : ∀ i, i < 8 → (fun i => w32 ((rnds keysL (sched (wordsN (bs b) 16) 48) s 64).l.getD i 0 + s.l.getD i 0)) i = w32 ((rnds keysL (sched (wordsN (bs b) 16) 48) s 64).l.getD i 0 + s.l.getD i 0) := fun _ _ => rfl
  have h1 := oneBlock1 s.l (rnds keysL (sched (wordsN (bs b) 16) 48) s 64).l [0, 0, 0, 0, 0, 0, 0, 0] rfl rfl _ hf rfl 8 0 m (by omega)
  rw [show ((0 : Nat) : Int) = 0 from rfl, List.range_zero, List.map_nil, List.nil_append, List.drop_zero] at h1
  have e : (List.range 8).map (fun i => w32 ((rnds keysL (sched (wordsN (bs b) 16) 48) s 64).l.getD i 0 + s.l.getD i 0)) = (comp s (bs b)).l := by
    apply List.ext_getElem
    · rw [Reg.l_len, List.length_map, List.length_range]
    · intro i h1 h2
      have hi : i < 8 := by simpa using h1
      rw [List.getElem_map, List.getElem_range, ← getD_at h2 0]
      rw [comp, regAdd_at _ _ i hi, Int.add_comm]
  rw [e] at h1
  exact h0.trans h1
theorem p_impl_blocks {s : Reg} (hs : s.ok) {t : ByteArray} (ht : t.size ≤ 1000000000000) : impl_blocks s.l t = some ((comps (t.size / 64) s (bs t)).l, t.extract (64 * (t.size / 64)) t.size) := by
  have key : ∀ (j : Nat) (s : Reg) (t : ByteArray) (m : Nat), s.ok → t.size / 64 = j → t.size ≤ 1000000000000 → L_impl_blocks (m + j + 1) (.c0 t s.l [0, 0, 0, 0, 0, 0, 0, 0]) = some ((comps j s (bs t)).l, t.extract (64 * j) t.size) := by
    intro j
    induction j with
    | zero =>
      intro s t m hs hj ht
      rw [L_impl_blocks]
      simp only [B_impl_blocks, Reg.l_len]
      rw [cond_f (by simp; omega), cond_t (by rfl), cond_t (by rfl), cond_t (by rfl)]
      congr 2
      apply bs_inj
      rw [bs_extract, List.take_of_length_le (by rw [bs_len]; omega)]
      rfl
    | succ j ih =>
      intro s t m hs hj ht
      have h64 : (64 : Int).toNat = 64 := rfl
      have e1 : bs (t.extract 0 64) = (bs t).take 64 := by rw [bs_extract]; rfl
      have e2 : bs (t.extract 64 t.size) = (bs t).drop 64 := by rw [bs_extract, List.take_of_length_le (by rw [bs_len]; omega)]
      rw [show m + (j + 1) + 1 = (m + j + 1) + 1 by omega, L_impl_blocks]
      simp only [B_impl_blocks, h64, Reg.l_len]
      rw [cond_t (by simp; omega), cond_t (by rfl), cond_t (by simp; omega)]
      rw [p_impl_oneBlock hs (b := t.extract 0 64) (by simp; omega), Option.bind_some]
      rw [Reg.l_len]
      rw [cond_t (by rfl)]
      rw [cond_t (by simp; omega)]
      rw [ih (comp s (bs (t.extract 0 64))) (t.extract 64 t.size) m (comp_ok _ _) (by simp; omega) (by simp; omega), e1, e2]
      have e3 : (t.extract 64 t.size).extract (64 * j) (t.extract 64 t.size).size = t.extract (64 * (j + 1)) t.size := by
        apply bs_inj
        rw [bs_extract, e2, bs_extract, List.take_of_length_le (by simp [bs_len]), List.take_of_length_le (by rw [bs_len]; omega), List.drop_drop]
        congr 1
        omega
      rw [e3, comps]
  obtain ⟨m, hm⟩ : ∃ m, gas = m + t.size / 64 + 1 := ⟨gas - (t.size / 64 + 1), by have := gas_lt (n := t.size / 64 + 1) (by omega); omega⟩
  rw [impl_blocks, E_impl_blocks, hm]
  exact key _ s t m hs rfl ht
theorem p_impl_stateText {r : Reg} (hr : r.ok) : impl_stateText r.l = some (ofBytes (bytesL r.l)) := by
  have hl : r.l.length = 8 := rfl
  have hrl := Reg.l_r hr
  have hby : ∀ i, Byt (bytesL (r.l.take i)) := fun i => bytesL_byt (fun x hx => hrl x (List.mem_of_mem_take hx))
  have key := loopN (A := Unit) (n := 8) (Lp := L_impl_stateText) (st := fun i _ => .c0 (ofBytes (bytesL (r.l.take i))) r.l (i : Int)) (Inv := fun _ _ => True) (out := fun _ _ => some (ofBytes (bytesL r.l)))
    (fun m _ _ => by
      rw [L_impl_stateText]
      simp only [B_impl_stateText]
      rw [cond_f (by simp)]
      rfl)
    (fun m i _ hi _ => .inr ⟨(), by
      have e : w64 ((i : Int) + 1) = ((i + 1 : Nat) : Int) := by rw [w64_id (by omega) (by omega)]; rfl
      have hg : r.l.getD i 0 = r.l[i]'(by omega) := getD_at (by omega) 0
      have hx : R32 (r.l.getD i 0) := r_getD hrl i
      rw [L_impl_stateText]
      simp only [B_impl_stateText, e, Int.toNat_natCast, p_impl_fourBytes hx, Option.bind_some, hl]
      rw [cond_t (by simp; omega), cond_t (by rfl), cond_t (by simp; omega), cond_t (by rw [ofBytes_size, ofBytes_size, bytesL_len]; simp [four]; omega)]
      congr 2
      apply bs_inj
      rw [bs_append, bs_ofBytes (hby i), bs_ofBytes (hby (i + 1)), bs_ofBytes (four_byt hx), take_at (by omega), bytesL_app, hg]
      simp [bytesL], trivial, rfl⟩)
  rw [impl_stateText, E_impl_stateText, hl, cond_t (by rfl)]
  exact key gas 0 () (Nat.zero_le _) (gas_lt (by omega)) trivial
theorem first_e : impl_firstState = some reg0.l := rfl
theorem p_impl_DigestOf {s : ByteArray} (hs : s.size ≤ 1000000000) : impl_DigestOf s = some (dig s) := by
  have h1 := endL_len s.size
  have hsz : (s ++ ofBytes (endL s.size)).size = s.size + (endL s.size).length := by rw [ByteArray.size_append, ofBytes_size]
  rw [impl_DigestOf, E_impl_DigestOf, first_e, Option.bind_some, p_impl_ending (n := s.size) (by omega), Option.bind_some, cond_t (by rw [ofBytes_size]; simp; omega), p_impl_blocks reg0_ok (by omega), Option.bind_some]
  simp only [Reg.l_len]
  rw [cond_t (by rfl), cond_t (by rfl), p_impl_stateText (comps_ok reg0_ok _ _), Option.bind_some, hsz, bs_append, bs_ofBytes (endL_byt _), dig, digL, bs_len]
theorem p_impl_Enter {b : SBook} {r : SRec} (hb : b.fThings.length ≤ 140737488351232) (hr : r.fNum ≤ 9223372036854775807) : impl_Enter b r = some (enterB b r) := by
  rw [impl_Enter, E_impl_Enter, p_impl_RecText hr, Option.bind_some, p_impl_BookOk hb, Option.bind_some, enterB]
  cases h1 : bookOk b
  · rfl
  cases h2 : (recText r).2
  · rfl
  by_cases h3 : b.fCount ≥ 10000
  · rw [decide_eq_true h3]; rfl
  obtain ⟨b1, b2, b3, b4, b5, b6, b7⟩ := bookOk_iff.1 h1
  have hz := recText_size r
  have hw : w64 (b.fCount + 1) = b.fCount + 1 := w64_id (by omega) (by omega)
  have hdig := p_impl_DigestOf (s := b.fChain ++ (recText r).1) (by rw [ByteArray.size_append]; omega)
  have hsz : decide (b.fChain.size + (recText r).1.size ≤ 9223372036854775807) = true := by rw [decide_eq_true_eq]; omega
  simp only [decide_eq_false h3, Bool.not_true, Bool.or_self, cond_false, p_impl_copyBook (show b.fThings.length ≤ 2932031007317 by omega), hdig, hsz, hw, Option.bind_some, cond_true]
  rcases recText_cases h2 with ⟨hk, hc⟩ | ⟨hk, hc⟩ | ⟨hk, hc⟩ | ⟨hk, hc⟩
  · rw [hk]; rfl
  · rw [hk]; rfl
  · rw [hk]
    simp only [show ((3 : Int) == 1) = false from rfl, show ((3 : Int) == 2) = false from rfl, show ((3 : Int) == 3) = true from rfl, cond_true, cond_false]
    rw [p_impl_Book_thing h1 (thingOk_kind hc).2.2.2.1, Option.bind_some]
    cases putThing b r.fThing with
    | none => rfl
    | some p => simp only [Bool.not_true, cond_false, hw]
  · rw [hk]
    simp only [show ((4 : Int) == 1) = false from rfl, show ((4 : Int) == 2) = false from rfl, show ((4 : Int) == 3) = false from rfl, show ((4 : Int) == 4) = true from rfl, cond_true, cond_false]
    rw [p_impl_thingAt hb, Option.bind_some]
    rcases thing_place (xs := b.fThings) (id := r.fNum) with ⟨o, j, t1, t2, t3, t4, t5⟩ | ⟨t1, t2⟩
    · have hs := (set_put (x := ⟨r.fNum, 0, false, false, false, false, ⟨#[]⟩, 0⟩) b7 t2).2
      rw [Nat.sub_zero] at hs
      simp only at hs
      rw [t1, t2]
      simp only [Int.toNat_natCast]
      have e : w64 ((j : Int) + 1) = ((j + 1 : Nat) : Int) := by rw [w64_id (by omega) (by omega)]; rfl
      simp only [e, Int.toNat_natCast, List.drop_zero, List.take_length, hs]
      rw [cond_f (by simp), cond_t (by simp; omega), cond_t (by rw [List.length_take, decide_eq_true_eq]; omega), cond_t (by simp; omega), cond_t (by rw [List.length_take, List.length_drop, decide_eq_true_eq]; omega)]
    · rw [t1, t2]; rfl
theorem p_laws_eqThing (a : SThing)  : laws_eqThing a a = some true := by
  simp [laws_eqThing, E_laws_eqThing]
theorem p_laws_eqThingS {a : (List SThing)} (h : a.length ≤ 140737488351232) : laws_eqThingS a a = some true := by
  have h0 : a.length ≤ 140737488351232 := h
  have key : ∀ m i, i ≤ a.length → a.length - i < m → L_laws_eqThingS m (.c0 a a i) = some true := fun m i h1 h2 =>
    loopN (A := Unit) (n := a.length) (Lp := L_laws_eqThingS) (st := fun i _ => .c0 a a i) (Inv := fun _ _ => True) (out := fun _ _ => some true)
      (fun m _ _ => by simp [L_laws_eqThingS, B_laws_eqThingS])
      (fun m i _ hi _ => .inr ⟨(), by
        have hw : w64 ((i : Int) + 1) = ((i + 1 : Nat) : Int) := by rw [w64_id (by omega) (by omega)]; rfl
        simp only [L_laws_eqThingS, B_laws_eqThingS, Int.toNat_natCast, hw, p_laws_eqThing _, getD_at hi, Option.bind_some]
        simp [hi], trivial, rfl⟩) m i () h1 h2 trivial
  have h0 := key gas 0 (Nat.zero_le _) (gas_lt (by omega))
  unfold laws_eqThingS E_laws_eqThingS
  simp only [bne_self_eq_false, cond_false]
  exact h0
theorem p_laws_eqBook {a : SBook} (h : a.fThings.length ≤ 140737488351232) : laws_eqBook a a = some true := by
  simp [laws_eqBook, E_laws_eqBook, p_laws_eqThingS h]
theorem markText_ex : ∀ (j : Nat) (k : Int) (m : Nat) (out : ByteArray), 0 ≤ k → k ≤ 9223372036854775807 → k < 10 ^ j → out.size + j ≤ 1000 → ∃ s, L_laws_markText (m + j + 1) (.c0 k out) = some s := by
  intro j
  induction j with
  | zero =>
    intro k m out hk _ hk2 ho
    have : k = 0 := by rw [Int.pow_zero] at hk2; omega
    subst this
    rw [L_laws_markText]
    simp only [B_laws_markText]
    have h9 : (⟨#[109]⟩ : ByteArray).size = 1 := rfl
    rw [cond_f (by simp), cond_t (by rw [h9, decide_eq_true_eq]; omega)]
    exact ⟨_, rfl⟩
  | succ j ih =>
    intro k m out hk h64 hk2 ho
    rw [show m + (j + 1) + 1 = (m + j + 1) + 1 by omega, L_laws_markText]
    simp only [B_laws_markText]
    by_cases h : 0 < k
    · have e1 : w64 (k.tdiv 10) = k / 10 := by rw [Int.tdiv_eq_ediv_of_nonneg hk, w64_id (by omega) (by omega)]
      have h3 : k / 10 < 10 ^ j := Int.ediv_lt_of_lt_mul (by omega) (by rw [← Int.pow_succ]; exact hk2)
      rw [cond_t (by simp; omega), cond_t (by rw [ofBytes_size, decide_eq_true_eq, List.length_singleton]; omega), e1]
      exact ih _ m _ (by omega) (by omega) h3 (by rw [ByteArray.size_append, ofBytes_size, List.length_singleton]; omega)
    · have : k = 0 := by omega
      subst this
      have h9 : (⟨#[109]⟩ : ByteArray).size = 1 := rfl
      rw [cond_f (by simp), cond_t (by rw [h9, decide_eq_true_eq]; omega)]
      exact ⟨_, rfl⟩
noncomputable def markT (k : Int) : ByteArray := (laws_markText k).getD ⟨#[]⟩
theorem p_laws_markText {k : Int} (h : k ≤ 1000000000000000000) : laws_markText k = some (markT k) := by
  have : ∃ s, laws_markText k = some s := by
    rw [laws_markText, E_laws_markText]
    by_cases hk : k ≤ 0
    · rw [cond_t (by simp; omega)]; exact ⟨_, rfl⟩
    · rw [cond_f (by simp; omega)]
      obtain ⟨m, hm⟩ : ∃ m, gas = m + 19 + 1 := ⟨gas - 20, by have := gas_lt (n := 20) (by omega); omega⟩
      rw [hm]
      exact markText_ex 19 k m _ (by omega) (by omega) (by have : (10 : Int) ^ 19 = 10000000000000000000 := by decide
                                                           omega) (by show 0 + 19 ≤ 1000; omega)
  obtain ⟨s, hs⟩ := this
  rw [markT, hs]; rfl
noncomputable def mkThingS (k : Int) : SThing := ⟨k, k + 1, ((k + 1 + 1).tmod 3 == 0), ((k + 1 + 1 + 1).tmod 3 == 0), ((k + 1 + 1 + 1 + 1).tmod 3 == 0), ((k + 1 + 1 + 1 + 1 + 1).tmod 3 == 0), markT (k + 1 + 1 + 1 + 1 + 1 + 1), k + 1 + 1 + 1 + 1 + 1 + 1 + 1⟩
noncomputable def mkThingSs (k : Int) : Nat → List SThing
  | 0 => []
  | n + 1 => mkThingS k :: mkThingSs (k + 1 + 1 + 1 + 1 + 1 + 1 + 1 + 1) n
theorem mkThingSs_len (n : Nat) : ∀ k, (mkThingSs k n).length = n := by
  induction n with
  | zero => intro k; rfl
  | succ n ih => intro k; rw [mkThingSs, List.length_cons, ih]
theorem mkThingS_step {a : List SThing} {k : Int} {i m : Nat} (hi : i < a.length) (hk : 0 < k) (hk2 : k ≤ 100000000000000000) (hl : a.length ≤ 100000000000000000) :
    L_laws_markThingS (m + 8) (.c0 k (i : Int) a) = L_laws_markThingS m (.c0 (k + 1 + 1 + 1 + 1 + 1 + 1 + 1 + 1) ((i + 1 : Nat) : Int) (a.set i (mkThingS k))) := by
  have hwi : w64 ((i : Int) + 1) = ((i + 1 : Nat) : Int) := by rw [w64_id (by omega) (by omega)]; rfl
  have hlt : decide ((i : Int) < (a.length : Int)) = true := decide_eq_true (by omega)
  have hle : decide ((0 : Int) ≤ (i : Int)) = true := decide_eq_true (by omega)
  have hw1 : w64 (k + 1) = k + 1 := w64_id (by omega) (by omega)
  have hw2 : w64 (k + 1 + 1) = k + 1 + 1 := w64_id (by omega) (by omega)
  have hw3 : w64 (k + 1 + 1 + 1) = k + 1 + 1 + 1 := w64_id (by omega) (by omega)
  have hw4 : w64 (k + 1 + 1 + 1 + 1) = k + 1 + 1 + 1 + 1 := w64_id (by omega) (by omega)
  have hw5 : w64 (k + 1 + 1 + 1 + 1 + 1) = k + 1 + 1 + 1 + 1 + 1 := w64_id (by omega) (by omega)
  have hw6 : w64 (k + 1 + 1 + 1 + 1 + 1 + 1) = k + 1 + 1 + 1 + 1 + 1 + 1 := w64_id (by omega) (by omega)
  have hw7 : w64 (k + 1 + 1 + 1 + 1 + 1 + 1 + 1) = k + 1 + 1 + 1 + 1 + 1 + 1 + 1 := w64_id (by omega) (by omega)
  have hw8 : w64 (k + 1 + 1 + 1 + 1 + 1 + 1 + 1 + 1) = k + 1 + 1 + 1 + 1 + 1 + 1 + 1 + 1 := w64_id (by omega) (by omega)
  have hm6 := p_laws_markText (k := k + 1 + 1 + 1 + 1 + 1 + 1) (by omega)
  rw [show m + 8 = m + 1 + 1 + 1 + 1 + 1 + 1 + 1 + 1 from rfl]
  rw [L_laws_markThingS]
  simp only [B_laws_markThingS, Int.toNat_natCast, List.length_set, getD_set hi, List.set_set, hwi, hw1, hw2, hw3, hw4, hw5, hw6, hw7, hw8, hm6, Option.bind_some, hlt, hle, Bool.and_self, cond_true]
  rw [L_laws_markThingS]
  simp only [B_laws_markThingS, Int.toNat_natCast, List.length_set, getD_set hi, List.set_set, hwi, hw1, hw2, hw3, hw4, hw5, hw6, hw7, hw8, hm6, Option.bind_some, hlt, hle, Bool.and_self, cond_true]
  rw [L_laws_markThingS]
  simp only [B_laws_markThingS, Int.toNat_natCast, List.length_set, getD_set hi, List.set_set, hwi, hw1, hw2, hw3, hw4, hw5, hw6, hw7, hw8, hm6, Option.bind_some, hlt, hle, Bool.and_self, cond_true]
  rw [L_laws_markThingS]
  simp only [B_laws_markThingS, Int.toNat_natCast, List.length_set, getD_set hi, List.set_set, hwi, hw1, hw2, hw3, hw4, hw5, hw6, hw7, hw8, hm6, Option.bind_some, hlt, hle, Bool.and_self, cond_true]
  rw [L_laws_markThingS]
  simp only [B_laws_markThingS, Int.toNat_natCast, List.length_set, getD_set hi, List.set_set, hwi, hw1, hw2, hw3, hw4, hw5, hw6, hw7, hw8, hm6, Option.bind_some, hlt, hle, Bool.and_self, cond_true]
  rw [L_laws_markThingS]
  simp only [B_laws_markThingS, Int.toNat_natCast, List.length_set, getD_set hi, List.set_set, hwi, hw1, hw2, hw3, hw4, hw5, hw6, hw7, hw8, hm6, Option.bind_some, hlt, hle, Bool.and_self, cond_true]
  rw [L_laws_markThingS]
  simp only [B_laws_markThingS, Int.toNat_natCast, List.length_set, getD_set hi, List.set_set, hwi, hw1, hw2, hw3, hw4, hw5, hw6, hw7, hw8, hm6, Option.bind_some, hlt, hle, Bool.and_self, cond_true]
  rw [L_laws_markThingS]
  simp only [B_laws_markThingS, Int.toNat_natCast, List.length_set, getD_set hi, List.set_set, hwi, hw1, hw2, hw3, hw4, hw5, hw6, hw7, hw8, hm6, Option.bind_some, hlt, hle, Bool.and_self, cond_true]
  rfl
theorem pm_laws_markThingS {a : List SThing} {k : Int} (hk : 0 < k) (hb : k + 8 * a.length ≤ 100000000000000000) : laws_markThingS a k = some (k + 8 * a.length, mkThingSs k a.length) := by
  have key : ∀ (j i m : Nat) (k : Int) (b d : List SThing), i + j = a.length → d.length = i → b.length = j → 0 < k → k + 8 * j ≤ 100000000000000000 → L_laws_markThingS (m + 8 * j + 1) (.c0 k (i : Int) (d ++ b)) = some (k + 8 * j, d ++ mkThingSs k j) := by
    intro j
    induction j with
    | zero =>
      intro i m k b d h1 h2 h3 h4 h5
      have hb0 : b = [] := List.length_eq_zero_iff.1 h3
      subst hb0
      rw [L_laws_markThingS]
      simp only [B_laws_markThingS, List.append_nil, h2, mkThingSs]
      rw [cond_f (by simp)]
      simp
    | succ j ih =>
      intro i m k b d h1 h2 h3 h4 h5
      obtain ⟨x, b, rfl⟩ : ∃ x c, b = x :: c := by cases b with
        | nil => cases h3
        | cons x c => exact ⟨x, c, rfl⟩
      rw [List.length_cons] at h3
      have hlen : (d ++ x :: b).length = a.length := by rw [List.length_append, List.length_cons]; omega
      rw [show m + 8 * (j + 1) + 1 = (m + 8 * j + 1) + 8 by omega, mkThingS_step (by omega) h4 (by omega) (by omega), set_app h2]
      have h6 := ih (i + 1) m (k + 1 + 1 + 1 + 1 + 1 + 1 + 1 + 1) b (d ++ [mkThingS k]) (by omega) (by rw [List.length_append, List.length_singleton]; omega) (by omega) (by omega) (by omega)
      rw [List.append_assoc, List.append_assoc, List.singleton_append, List.singleton_append] at h6
      rw [h6, mkThingSs]
      congr 2
      omega
  obtain ⟨m, hm⟩ : ∃ m, gas = m + 8 * a.length + 1 := ⟨gas - (8 * a.length + 1), by have := gas_lt (n := 8 * a.length + 1) (by omega); omega⟩
  rw [laws_markThingS, E_laws_markThingS, hm]
  exact key a.length 0 m k a [] (by omega) rfl rfl hk hb
theorem pm_laws_markBook {a : SBook} {k : Int} (hk : 0 < k) (hb : k + 8 * a.fThings.length ≤ 100000000000000000) : laws_markBook a k = some (k + 8 * a.fThings.length, mkThingSs k a.fThings.length) := by
  rw [laws_markBook, E_laws_markBook, pm_laws_markThingS hk hb]; rfl
theorem mkThingS_held {a : List SThing} {k : Int} {i m : Nat} (hi : i < a.length) (hg : ∀ z, a.getD i z = mkThingS k) (hk : 0 < k) (hk2 : k ≤ 100000000000000000) (hl : a.length ≤ 100000000000000000) :
    L_laws_heldThingS (m + 1) (.c0 a k (i : Int)) = L_laws_heldThingS m (.c0 a (k + 1 + 1 + 1 + 1 + 1 + 1 + 1 + 1) ((i + 1 : Nat) : Int)) := by
  have hwi : w64 ((i : Int) + 1) = ((i + 1 : Nat) : Int) := by rw [w64_id (by omega) (by omega)]; rfl
  have hlt : decide ((i : Int) < (a.length : Int)) = true := decide_eq_true (by omega)
  have hle : decide ((0 : Int) ≤ (i : Int)) = true := decide_eq_true (by omega)
  have hw1 : w64 (k + 1) = k + 1 := w64_id (by omega) (by omega)
  have hw2 : w64 (k + 1 + 1) = k + 1 + 1 := w64_id (by omega) (by omega)
  have hw3 : w64 (k + 1 + 1 + 1) = k + 1 + 1 + 1 := w64_id (by omega) (by omega)
  have hw4 : w64 (k + 1 + 1 + 1 + 1) = k + 1 + 1 + 1 + 1 := w64_id (by omega) (by omega)
  have hw5 : w64 (k + 1 + 1 + 1 + 1 + 1) = k + 1 + 1 + 1 + 1 + 1 := w64_id (by omega) (by omega)
  have hw6 : w64 (k + 1 + 1 + 1 + 1 + 1 + 1) = k + 1 + 1 + 1 + 1 + 1 + 1 := w64_id (by omega) (by omega)
  have hw7 : w64 (k + 1 + 1 + 1 + 1 + 1 + 1 + 1) = k + 1 + 1 + 1 + 1 + 1 + 1 + 1 := w64_id (by omega) (by omega)
  have hw8 : w64 (k + 1 + 1 + 1 + 1 + 1 + 1 + 1 + 1) = k + 1 + 1 + 1 + 1 + 1 + 1 + 1 + 1 := w64_id (by omega) (by omega)
  have hm6 := p_laws_markText (k := k + 1 + 1 + 1 + 1 + 1 + 1) (by omega)
  rw [L_laws_heldThingS]
  simp only [B_laws_heldThingS, Int.toNat_natCast, hwi, hw1, hw2, hw3, hw4, hw5, hw6, hw7, hw8, hm6, Option.bind_some, hlt, hle, Bool.and_self, cond_true, hg, mkThingS, bne_self_eq_false, cond_false, toList_self, beq_self_eq_true, Bool.not_true]
theorem mkThingSs_at : ∀ (n : Nat) (k : Int) (i : Nat), i < n → ∀ z, (mkThingSs k n).getD i z = mkThingS (k + 8 * i) := by
  intro n
  induction n with
  | zero => intro k i h; omega
  | succ n ih =>
    intro k i h z
    cases i with
    | zero => rw [mkThingSs, show k + 8 * ((0 : Nat) : Int) = k by omega]; rfl
    | succ i =>
      have h2 := ih (k + 1 + 1 + 1 + 1 + 1 + 1 + 1 + 1) i (by omega) z
      rw [show k + 1 + 1 + 1 + 1 + 1 + 1 + 1 + 1 + 8 * (i : Int) = k + 8 * ((i + 1 : Nat) : Int) by omega] at h2
      rw [← h2, mkThingSs]; rfl
theorem ph_laws_heldThingS {n : Nat} {k : Int} (hk : 0 < k) (hb : k + 8 * n ≤ 100000000000000000) : laws_heldThingS (mkThingSs k n) k = some (k + 8 * n) := by
  have hl := mkThingSs_len n k
  have key : ∀ (j i m : Nat), i + j = n → L_laws_heldThingS (m + j + 1) (.c0 (mkThingSs k n) (k + 8 * i) (i : Int)) = some (k + 8 * n) := by
    intro j
    induction j with
    | zero =>
      intro i m h1
      obtain rfl : i = n := by omega
      rw [L_laws_heldThingS]
      simp only [B_laws_heldThingS, hl]
      rw [cond_f (by simp)]
    | succ j ih =>
      intro i m h1
      rw [show m + (j + 1) + 1 = (m + j + 1) + 1 by omega, mkThingS_held (by omega) (mkThingSs_at n k i (by omega)) (by omega) (by omega) (by omega)]
      have h2 := ih (i + 1) m (by omega)
      rw [show k + 8 * ((i + 1 : Nat) : Int) = k + 8 * (i : Int) + 1 + 1 + 1 + 1 + 1 + 1 + 1 + 1 by omega] at h2
      exact h2
  obtain ⟨m, hm⟩ : ∃ m, gas = m + n + 1 := ⟨gas - (n + 1), by have := gas_lt (n := n + 1) (by omega); omega⟩
  have h0 := key n 0 m (by omega)
  rw [show k + 8 * ((0 : Nat) : Int) = k by omega] at h0
  rw [laws_heldThingS, E_laws_heldThingS, hm]
  exact h0
theorem ph_laws_heldBook {a : SBook} {n : Nat} {k : Int} (h : a.fThings = mkThingSs k n) (hk : 0 < k) (hb : k + 8 * n ≤ 100000000000000000) : laws_heldBook a k = some (k + 8 * n) := by
  rw [laws_heldBook, E_laws_heldBook, h, ph_laws_heldThingS hk hb, Option.bind_some, cond_f (by simp; omega)]
def enterAllB (b : SBook) : List SRec → SBook × Bool
  | [] => (b, true)
  | r :: rs => bif (enterB b r).2 then enterAllB (enterB b r).1 rs else (zBook, false)
theorem enterB_len {b : SBook} {r : SRec} (h : (enterB b r).2 = true) : (enterB b r).1.fThings.length ≤ 8 := (bookOk_iff.1 (enterB_ok h).2.2.2.1).2.2.2.1
theorem enterAll_ok {rs : List SRec} : ∀ {b : SBook}, bookOk b = true → (enterAllB b rs).2 = true → bookOk (enterAllB b rs).1 = true := by
  induction rs with
  | nil => intro b h _; exact h
  | cons r rs ih =>
    intro b h h2
    rw [enterAllB] at h2 ⊢
    cases h3 : (enterB b r).2
    · rw [h3] at h2; cases h2
    · rw [h3, cond_true] at h2
      rw [cond_true]
      exact ih (enterB_ok h3).2.2.2.1 h2
theorem enterB_len2 (b : SBook) (r : SRec) : (enterB b r).1.fThings.length ≤ 8 := by
  cases h : (enterB b r).2
  · have : (enterB b r).1 = zBook := by
      rw [enterB] at h ⊢
      cases hc : (!(bookOk b) || (!(recText r).2 || decide (b.fCount ≥ 10000)))
      · rw [hc] at h
        simp only [cond_false] at h ⊢
        cases h1 : r.fKind == 1
        · rw [h1] at h
          simp only [cond_false] at h ⊢
          cases h2 : r.fKind == 2
          · rw [h2] at h
            simp only [cond_false] at h ⊢
            cases h3 : r.fKind == 3
            · rw [h3] at h
              simp only [cond_false] at h ⊢
              cases ht : thingIn b.fThings r.fNum with
              | none => rfl
              | some x => rw [ht] at h; cases h
            · rw [h3] at h
              simp only [cond_true] at h ⊢
              cases ht : putThing b r.fThing with
              | none => rfl
              | some x => rw [ht] at h; cases h
          · rw [h2] at h; cases h
        · rw [h1] at h; cases h
      · rfl
    rw [this]; exact Nat.zero_le _
  · exact enterB_len h
theorem enterAll_len {b : SBook} {l : List SRec} (h : b.fThings.length ≤ 2932031007317) : (enterAllB b l).1.fThings.length ≤ 2932031007317 := by
  induction l generalizing b with
  | nil => exact h
  | cons r rs ih =>
    rw [enterAllB]
    cases h3 : (enterB b r).2
    · exact Nat.zero_le _
    · have := enterB_len h3
      exact ih (by omega)
theorem law_FnExactEnter (x0 : SBook) (x1 : SRec) (g0 : GSBook x0) (g1 : GSRec x1) : laws_FnExactEnter x0 x1 = some true := by
  obtain ⟨r, hr⟩ := p_laws_szBook g0 1048576
  obtain ⟨s, hs⟩ := p_laws_szRec g1 r
  have hl : x0.fThings.length * 48 ≤ 140737488351232 := g0.2.2.1.1
  have hn := (gint g1.2.2.1).2
  have hl2 := enterB_len2 x0 x1
  have hE := p_impl_Enter (b := x0) (r := x1) (by omega) hn
  have hS := p_spec_Enter (b := x0) (r := x1) (by omega)
  have m0 := pm_laws_markBook (a := x0) (k := 1) (by omega) (by omega)
  have m1 := pm_laws_markBook (a := (enterB x0 x1).1) (k := 1) (by omega) (by omega)
  have h1 := ph_laws_heldBook (a := ⟨(enterB x0 x1).1.fWord, (enterB x0 x1).1.fTries, mkThingSs 1 (enterB x0 x1).1.fThings.length, (enterB x0 x1).1.fLast, (enterB x0 x1).1.fChain, (enterB x0 x1).1.fCount⟩) rfl (k := 1) (by omega) (by omega)
  have d0 : decide ((1 : Int) + 8 * (x0.fThings.length : Int) < 0) = false := by rw [decide_eq_false_iff_not]; omega
  have d1 : decide ((1 : Int) + 8 * ((enterB x0 x1).1.fThings.length : Int) < 0) = false := by rw [decide_eq_false_iff_not]; omega
  simp only [laws_FnExactEnter, E_laws_FnExactEnter, hr, hs, Option.bind_some, p_laws_toBook g0, p_laws_toRec g1, hE, hS, p_laws_eqBook (show x0.fThings.length ≤ 140737488351232 by omega), p_laws_eqBook (show (enterB x0 x1).1.fThings.length ≤ 140737488351232 by omega), m0, m1, h1, d0, d1, beq_self_eq_true, Bool.not_true, cond_false, bne_self_eq_false]
  cases decide (r < 0) <;> cases decide (s < 0) <;> rfl
end Go.Proofs.YtldjkjjfoofccaaDoor.G

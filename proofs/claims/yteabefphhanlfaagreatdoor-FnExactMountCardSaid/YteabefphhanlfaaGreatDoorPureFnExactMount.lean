/- The plain law of FnExactMount: whatever the arguments, it answers true. Conditions: what is read is in reach. Part 2 of 2. -/
import Derived.Test.YteabefphhanlfaaGreatDoorPureFnExactMounta
namespace Go.Proofs.YteabefphhanlfaaGreatDoor.G
open Go Go.Ev
set_option linter.unusedVariables false
set_option linter.unusedSimpArgs false
theorem p_impl_Book_thing {b : SBook} {x : SThing} (hb : bookOk b = true) (hx : x.fId ≤ 1000) : impl_Book_thing b x = some (match putThing b x with
  | some p => (true, ⟨b.fWord, b.fTries, p.1, p.2, b.fChain, b.fCount⟩)
  | none => (false, b)) := by
  obtain ⟨b1, b2, b3, b4, b5, b6, b7⟩ := bookOk_iff.1 hb
  rw [impl_Book_thing, E_impl_Book_thing, p_impl_thingAt (by omega), Option.bind_some, putThing]
  rcases thing_place (xs := b.fThings) (id := x.fId) with ⟨o, j, t1, t2, t3, t4, t5⟩ | ⟨t1, t2⟩
  · have hg : ∀ z, b.fThings.getD j z = o := fun z => by rw [List.getD, t4]; rfl
    have hs := (set_put b7 t2).1
    rw [Nat.sub_zero] at hs
    rw [t1, t2]
    simp only [Int.toNat_natCast, hg, p_impl_follows, Option.bind_some, hs]
    rw [cond_t (by simp), cond_t (by simp; omega)]
    cases grown o x
    · rfl
    · rw [cond_f (by rfl), cond_t (by simp; omega)]; rfl
  · rw [t1, t2]
    simp only
    have hw : w64 (b.fLast + 1) = b.fLast + 1 := w64_id (by omega) (by omega)
    rw [cond_f (by rfl), hw]
    cases h1 : (x.fId != b.fLast + 1)
    · by_cases h2 : (b.fThings.length : Int) ≥ 8
      · rw [decide_eq_true h2]; rfl
      · rw [decide_eq_false h2, cond_false, cond_false, cond_t (by simp; omega)]; rfl
    · rfl
theorem p_impl_Enter {b : SBook} {r : SRec} (hb : b.fThings.length ≤ 140737488351232) (hr : r.fNum ≤ 9223372036854775807) : impl_Enter b r = some (enterB b r) := by
  rw [impl_Enter, E_impl_Enter, p_impl_RecText hr, Option.bind_some, p_impl_BookOk hb, Option.bind_some, enterB]
  cases h1 : bookOk b
  · rfl
  cases h2 : (recText r).2
  · rfl
  by_cases h3 : b.fCount ≥ 10000
  · rw [decide_eq_true h3]; rfl
  obtain ⟨b1, b2, b3, b4, b5, b6, b7⟩ := bookOk_iff.1 h1
  have hz := recText_size r
  have hw : w64 (b.fCount + 1) = b.fCount + 1 := w64_id (by omega) (by omega)
  have hdig := p_impl_DigestOf (s := b.fChain ++ (recText r).1) (by rw [ByteArray.size_append]; omega)
  have hsz : decide (b.fChain.size + (recText r).1.size ≤ 9223372036854775807) = true := by rw [decide_eq_true_eq]; omega
  simp only [decide_eq_false h3, Bool.not_true, Bool.or_self, cond_false, p_impl_copyBook (show b.fThings.length ≤ 2932031007317 by omega), hdig, hsz, hw, Option.bind_some, cond_true]
  rcases recText_cases h2 with ⟨hk, hc⟩ | ⟨hk, hc⟩ | ⟨hk, hc⟩ | ⟨hk, hc⟩
  · rw [hk]; rfl
  · rw [hk]; rfl
  · rw [hk]
    simp only [show ((3 : Int) == 1) = false from rfl, show ((3 : Int) == 2) = false from rfl, show ((3 : Int) == 3) = true from rfl, cond_true, cond_false]
    rw [p_impl_Book_thing h1 (thingOk_kind hc).2.2.2.1, Option.bind_some]
    cases putThing b r.fThing with
    | none => rfl
    | some p => simp only [Bool.not_true, cond_false, hw]
  · rw [hk]
    simp only [show ((4 : Int) == 1) = false from rfl, show ((4 : Int) == 2) = false from rfl, show ((4 : Int) == 3) = false from rfl, show ((4 : Int) == 4) = true from rfl, cond_true, cond_false]
    rw [p_impl_thingAt hb, Option.bind_some]
    rcases thing_place (xs := b.fThings) (id := r.fNum) with ⟨o, j, t1, t2, t3, t4, t5⟩ | ⟨t1, t2⟩
    · have hs := (set_put (x := ⟨r.fNum, 0, false, false, false, false, ⟨#[]⟩, 0⟩) b7 t2).2
      rw [Nat.sub_zero] at hs
      simp only at hs
      rw [t1, t2]
      simp only [Int.toNat_natCast]
      have e : w64 ((j : Int) + 1) = ((j + 1 : Nat) : Int) := by rw [w64_id (by omega) (by omega)]; rfl
      simp only [e, Int.toNat_natCast, List.drop_zero, List.take_length, hs]
      rw [cond_f (by simp), cond_t (by simp; omega), cond_t (by rw [List.length_take, decide_eq_true_eq]; omega), cond_t (by simp; omega), cond_t (by rw [List.length_take, List.length_drop, decide_eq_true_eq]; omega)]
    · rw [t1, t2]; rfl
theorem p_impl_EnterAll {b : SBook} {l : List SRec} (hb : b.fThings.length ≤ 2932031007317) (hl : l.length ≤ 140737488351232) (hr : ∀ r ∈ l, r.fNum ≤ 9223372036854775807) : impl_EnterAll b l = some (enterAllB b l) := by
  have key : ∀ (j i m : Nat) (b : SBook), i + j = l.length → b.fThings.length ≤ 2932031007317 → L_impl_EnterAll (m + j + 1) (.c0 l (l.length : Int) (i : Int) ⟨#[]⟩ 0 0 ⟨#[]⟩ 0 b.fWord b.fTries b.fLast b.fChain b.fCount [] b.fThings) = some (enterAllB b (l.drop i)) := by
    intro j
    induction j with
    | zero =>
      intro i m b h hb
      obtain rfl : i = l.length := by omega
      rw [L_impl_EnterAll]
      simp only [B_impl_EnterAll]
      rw [cond_f (by simp), List.drop_length]; rfl
    | succ j ih =>
      intro i m b h hb
      have hi : i < l.length := by omega
      have e : w64 ((i : Int) + 1) = ((i + 1 : Nat) : Int) := by rw [w64_id (by omega) (by omega)]; rfl
      rw [show m + (j + 1) + 1 = (m + j + 1) + 1 by omega, L_impl_EnterAll]
      simp only [B_impl_EnterAll, e, Int.toNat_natCast, getD_at hi]
      rw [cond_t (by simp; omega), cond_t (by simp; omega), p_impl_Enter (by show b.fThings.length ≤ _; omega) (hr _ (List.getElem_mem hi)), Option.bind_some, drop_at hi, enterAllB]
      cases h2 : (enterB b l[i]).2
      · rfl
      · have h3 := enterB_len h2
        rw [cond_f (by rfl), cond_true]
        exact ih (i + 1) m (enterB b l[i]).1 (by omega) (by omega)
  obtain ⟨m, hm⟩ : ∃ m, gas = m + l.length + 1 := ⟨gas - (l.length + 1), by have := gas_lt (n := l.length + 1) (by omega); omega⟩
  rw [impl_EnterAll, E_impl_EnterAll, p_impl_copyBook hb, Option.bind_some, hm]
  exact key l.length 0 m b (by omega) hb
theorem p_impl_DiskOk {d : SDisk} (h0 : d.fFiles.length ≤ 140737488351232) : impl_DiskOk d = some (diskOk d) := by
  rw [impl_DiskOk, E_impl_DiskOk, diskOk]
  have key : ∀ (j i m : Nat), i + j = d.fFiles.length → L_impl_DiskOk (m + j + 1) (.c0 d.fFiles (d.fFiles.length : Int) (i : Int) d) = some (decide ((d.fFiles.length : Int) ≤ 30) && dRise (prevN d.fFiles i) (d.fFiles.drop i)) := by
    intro j
    induction j with
    | zero =>
      intro i m h
      obtain rfl : i = d.fFiles.length := by omega
      rw [L_impl_DiskOk]
      simp only [B_impl_DiskOk]
      rw [cond_f (by simp), List.drop_length, dRise, Bool.and_true]
    | succ j ih =>
      intro i m h
      have hi : i < d.fFiles.length := by omega
      have e : w64 ((i : Int) + 1) = ((i + 1 : Nat) : Int) := by rw [w64_id (by omega) (by omega)]; rfl
      have h2 := ih (i + 1) m (by omega)
      have fls : ∀ b : Bool, (b && false) = false := fun b => by cases b <;> rfl
      rw [show m + (j + 1) + 1 = (m + j + 1) + 1 by omega, L_impl_DiskOk]
      simp only [B_impl_DiskOk, e, Int.toNat_natCast, getD_at hi, p_impl_in, Option.bind_some]
      rw [cond_t (by simp; omega), cond_t (by simp; omega), dRise_at hi, fOk, h2]
      cases hn : inR (d.fFiles[i].fName.size : Int) 1 8
      · rw [Bool.false_and, Bool.false_and, fls]; rfl
      cases decide ((d.fFiles[i].fText.size : Int) > 20000)
      · cases inR d.fFiles[i].fKept 0 (d.fFiles[i].fText.size : Int)
        · simp only [Bool.and_false, Bool.false_and]; rfl
        · by_cases hz : i = 0
          · subst hz
            rw [inR_iff] at hn
            rw [show prevN d.fFiles 0 = ⟨#[]⟩ from rfl, less_nil (by omega)]; rfl
          · obtain ⟨i', rfl⟩ : ∃ q, i = q + 1 := ⟨i - 1, by omega⟩
            have e2 : w64 (((i' + 1 : Nat) : Int) - 1) = (i' : Int) := by rw [w64_id (by omega) (by omega)]; omega
            rw [e2, Int.toNat_natCast, getD_at (show i' < d.fFiles.length by omega), prevN_at (i := i') (by omega), cond_f (by rfl), cond_f (by rfl), cond_f (by rfl), cond_t (by simp; try omega), cond_t (by simp; try omega)]
            cases Op.bytesLess d.fFiles[i'].fName.toList d.fFiles[i' + 1].fName.toList
            · simp only [Bool.and_false, Bool.false_and]; rfl
            · rfl
      · simp only [Bool.and_false, Bool.false_and, Bool.not_true]; rfl
  obtain ⟨m, hm⟩ : ∃ m, gas = m + d.fFiles.length + 1 := ⟨gas - (d.fFiles.length + 1), by have := gas_lt (n := d.fFiles.length + 1) (by omega); omega⟩
  rw [hm]
  exact key d.fFiles.length 0 m (by omega)
theorem p_impl_Mount {k : ByteArray} {d : SDisk} (hk : k.size ≤ 900000000) (hd : d.fFiles.length ≤ 140737488351232) (hf : ∀ f ∈ d.fFiles, f.fText.size ≤ 140737488351232) : impl_Mount k d = some (mountT k d) := by
  have hfs : (fileT d nBook).1.size ≤ 140737488351232 := fileT_small hf
  obtain ⟨r1, r2⟩ := readBook_end k (fileT d nBook).1
  have hl := readBook_len k (fileT d nBook).1
  rw [impl_Mount, E_impl_Mount, show (⟨#[98, 111, 111, 107]⟩ : ByteArray) = nBook from rfl, show (⟨#[98, 111, 111, 107, 43]⟩ : ByteArray) = nNew from rfl, p_impl_FileAt hd, Option.bind_some, p_impl_ReadBook hk hfs, Option.bind_some, p_impl_BookNew, Option.bind_some, p_impl_EnterAll (Nat.zero_le _) (by omega) (readBook_num _ _), Option.bind_some, p_impl_DiskOk hd, Option.bind_some, p_impl_fileAt hd, mountT]
  cases diskOk d
  · rfl
  cases (enterAllB bookNew (readBook k (fileT d nBook).1).1).2
  · rfl
  simp only [Option.bind_some, Bool.not_true, Bool.or_self, cond_false]
  by_cases he : (readBook k (fileT d nBook).1).2 = ((fileT d nBook).1.size : Int)
  · rw [show ((readBook k (fileT d nBook).1).2 == ((fileT d nBook).1.size : Int)) = true by rw [beq_iff_eq]; exact he]
    cases decide (atF d nNew ≥ 0) <;> rfl
  · rw [show ((readBook k (fileT d nBook).1).2 == ((fileT d nBook).1.size : Int)) = false by rw [beq_eq_false_iff_ne]; exact he, cond_false, cond_false]
    have hg : (decide (0 ≤ (readBook k (fileT d nBook).1).2) && decide ((readBook k (fileT d nBook).1).2 ≤ ((fileT d nBook).1.size : Int))) = true := by rw [Bool.and_eq_true, decide_eq_true_eq, decide_eq_true_eq]; exact ⟨r1, r2⟩
    simp only [hg, cond_true]
    cases decide (atF d nNew ≥ 0) <;> rfl
theorem p_laws_eqThing (a : SThing)  : laws_eqThing a a = some true := by
  simp [laws_eqThing, E_laws_eqThing]
theorem p_laws_eqThingS {a : (List SThing)} (h : a.length ≤ 140737488351232) : laws_eqThingS a a = some true := by
  have h0 : a.length ≤ 140737488351232 := h
  have key : ∀ m i, i ≤ a.length → a.length - i < m → L_laws_eqThingS m (.c0 a a i) = some true := fun m i h1 h2 =>
    loopN (A := Unit) (n := a.length) (Lp := L_laws_eqThingS) (st := fun i _ => .c0 a a i) (Inv := fun _ _ => True) (out := fun _ _ => some true)
      (fun m _ _ => by simp [L_laws_eqThingS, B_laws_eqThingS])
      (fun m i _ hi _ => .inr ⟨(), by
        have hw : w64 ((i : Int) + 1) = ((i + 1 : Nat) : Int) := by rw [w64_id (by omega) (by omega)]; rfl
        simp only [L_laws_eqThingS, B_laws_eqThingS, Int.toNat_natCast, hw, p_laws_eqThing _, getD_at hi, Option.bind_some]
        simp [hi], trivial, rfl⟩) m i () h1 h2 trivial
  have h0 := key gas 0 (Nat.zero_le _) (gas_lt (by omega))
  unfold laws_eqThingS E_laws_eqThingS
  simp only [bne_self_eq_false, cond_false]
  exact h0
theorem p_laws_eqBook {a : SBook} (h : a.fThings.length ≤ 140737488351232) : laws_eqBook a a = some true := by
  simp [laws_eqBook, E_laws_eqBook, p_laws_eqThingS h]
theorem p_laws_eqAct (a : SAct)  : laws_eqAct a a = some true := by
  simp [laws_eqAct, E_laws_eqAct]
theorem p_laws_eqActS {a : (List SAct)} (h : a.length ≤ 140737488351232) : laws_eqActS a a = some true := by
  have h0 : a.length ≤ 140737488351232 := h
  have key : ∀ m i, i ≤ a.length → a.length - i < m → L_laws_eqActS m (.c0 a a i) = some true := fun m i h1 h2 =>
    loopN (A := Unit) (n := a.length) (Lp := L_laws_eqActS) (st := fun i _ => .c0 a a i) (Inv := fun _ _ => True) (out := fun _ _ => some true)
      (fun m _ _ => by simp [L_laws_eqActS, B_laws_eqActS])
      (fun m i _ hi _ => .inr ⟨(), by
        have hw : w64 ((i : Int) + 1) = ((i + 1 : Nat) : Int) := by rw [w64_id (by omega) (by omega)]; rfl
        simp only [L_laws_eqActS, B_laws_eqActS, Int.toNat_natCast, hw, p_laws_eqAct _, getD_at hi, Option.bind_some]
        simp [hi], trivial, rfl⟩) m i () h1 h2 trivial
  have h0 := key gas 0 (Nat.zero_le _) (gas_lt (by omega))
  unfold laws_eqActS E_laws_eqActS
  simp only [bne_self_eq_false, cond_false]
  exact h0
theorem p_laws_eqFile (a : SFile)  : laws_eqFile a a = some true := by
  simp [laws_eqFile, E_laws_eqFile]
theorem p_laws_eqFileS {a : (List SFile)} (h : a.length ≤ 140737488351232) : laws_eqFileS a a = some true := by
  have h0 : a.length ≤ 140737488351232 := h
  have key : ∀ m i, i ≤ a.length → a.length - i < m → L_laws_eqFileS m (.c0 a a i) = some true := fun m i h1 h2 =>
    loopN (A := Unit) (n := a.length) (Lp := L_laws_eqFileS) (st := fun i _ => .c0 a a i) (Inv := fun _ _ => True) (out := fun _ _ => some true)
      (fun m _ _ => by simp [L_laws_eqFileS, B_laws_eqFileS])
      (fun m i _ hi _ => .inr ⟨(), by
        have hw : w64 ((i : Int) + 1) = ((i + 1 : Nat) : Int) := by rw [w64_id (by omega) (by omega)]; rfl
        simp only [L_laws_eqFileS, B_laws_eqFileS, Int.toNat_natCast, hw, p_laws_eqFile _, getD_at hi, Option.bind_some]
        simp [hi], trivial, rfl⟩) m i () h1 h2 trivial
  have h0 := key gas 0 (Nat.zero_le _) (gas_lt (by omega))
  unfold laws_eqFileS E_laws_eqFileS
  simp only [bne_self_eq_false, cond_false]
  exact h0
theorem p_laws_eqDisk {a : SDisk} (h : a.fFiles.length ≤ 140737488351232) : laws_eqDisk a a = some true := by
  simp [laws_eqDisk, E_laws_eqDisk, p_laws_eqFileS h]
theorem markText_ex : ∀ (j : Nat) (k : Int) (m : Nat) (out : ByteArray), 0 ≤ k → k ≤ 9223372036854775807 → k < 10 ^ j → out.size + j ≤ 1000 → ∃ s, L_laws_markText (m + j + 1) (.c0 k out) = some s := by
  intro j
  induction j with
  | zero =>
    intro k m out hk _ hk2 ho
    have : k = 0 := by rw [Int.pow_zero] at hk2; omega
    subst this
    rw [L_laws_markText]
    simp only [B_laws_markText]
    have h9 : (⟨#[109]⟩ : ByteArray).size = 1 := rfl
    rw [cond_f (by simp), cond_t (by rw [h9, decide_eq_true_eq]; omega)]
    exact ⟨_, rfl⟩
  | succ j ih =>
    intro k m out hk h64 hk2 ho
    rw [show m + (j + 1) + 1 = (m + j + 1) + 1 by omega, L_laws_markText]
    simp only [B_laws_markText]
    by_cases h : 0 < k
    · have e1 : w64 (k.tdiv 10) = k / 10 := by rw [Int.tdiv_eq_ediv_of_nonneg hk, w64_id (by omega) (by omega)]
      have h3 : k / 10 < 10 ^ j := Int.ediv_lt_of_lt_mul (by omega) (by rw [← Int.pow_succ]; exact hk2)
      rw [cond_t (by simp; omega), cond_t (by rw [ofBytes_size, decide_eq_true_eq, List.length_singleton]; omega), e1]
      exact ih _ m _ (by omega) (by omega) h3 (by rw [ByteArray.size_append, ofBytes_size, List.length_singleton]; omega)
    · have : k = 0 := by omega
      subst this
      have h9 : (⟨#[109]⟩ : ByteArray).size = 1 := rfl
      rw [cond_f (by simp), cond_t (by rw [h9, decide_eq_true_eq]; omega)]
      exact ⟨_, rfl⟩
noncomputable def markT (k : Int) : ByteArray := (laws_markText k).getD ⟨#[]⟩
theorem p_laws_markText {k : Int} (h : k ≤ 1000000000000000000) : laws_markText k = some (markT k) := by
  have : ∃ s, laws_markText k = some s := by
    rw [laws_markText, E_laws_markText]
    by_cases hk : k ≤ 0
    · rw [cond_t (by simp; omega)]; exact ⟨_, rfl⟩
    · rw [cond_f (by simp; omega)]
      obtain ⟨m, hm⟩ : ∃ m, gas = m + 19 + 1 := ⟨gas - 20, by have := gas_lt (n := 20) (by omega); omega⟩
      rw [hm]
      exact markText_ex 19 k m _ (by omega) (by omega) (by have : (10 : Int) ^ 19 = 10000000000000000000 := by decide
                                                           omega) (by show 0 + 19 ≤ 1000; omega)
  obtain ⟨s, hs⟩ := this
  rw [markT, hs]; rfl
noncomputable def mkFileS (k : Int) : SFile := ⟨markT (k), markT (k + 1), k + 1 + 1⟩
noncomputable def mkFileSs (k : Int) : Nat → List SFile
  | 0 => []
  | n + 1 => mkFileS k :: mkFileSs (k + 1 + 1 + 1) n
theorem mkFileSs_len (n : Nat) : ∀ k, (mkFileSs k n).length = n := by
  induction n with
  | zero => intro k; rfl
  | succ n ih => intro k; rw [mkFileSs, List.length_cons, ih]
theorem mkFileS_step {a : List SFile} {k : Int} {i m : Nat} (hi : i < a.length) (hk : 0 < k) (hk2 : k ≤ 100000000000000000) (hl : a.length ≤ 100000000000000000) :
    L_laws_markFileS (m + 1) (.c0 k (i : Int) a) = L_laws_markFileS m (.c0 (k + 1 + 1 + 1) ((i + 1 : Nat) : Int) (a.set i (mkFileS k))) := by
  have hwi : w64 ((i : Int) + 1) = ((i + 1 : Nat) : Int) := by rw [w64_id (by omega) (by omega)]; rfl
  have hlt : decide ((i : Int) < (a.length : Int)) = true := decide_eq_true (by omega)
  have hle : decide ((0 : Int) ≤ (i : Int)) = true := decide_eq_true (by omega)
  have hw1 : w64 (k + 1) = k + 1 := w64_id (by omega) (by omega)
  have hw2 : w64 (k + 1 + 1) = k + 1 + 1 := w64_id (by omega) (by omega)
  have hw3 : w64 (k + 1 + 1 + 1) = k + 1 + 1 + 1 := w64_id (by omega) (by omega)
  have hm0 := p_laws_markText (k := k) (by omega)
  have hm1 := p_laws_markText (k := k + 1) (by omega)
  rw [L_laws_markFileS]
  simp only [B_laws_markFileS, Int.toNat_natCast, List.length_set, getD_set hi, List.set_set, hwi, hw1, hw2, hw3, hm0, hm1, Option.bind_some, hlt, hle, Bool.and_self, cond_true]
  rfl
theorem pm_laws_markFileS {a : List SFile} {k : Int} (hk : 0 < k) (hb : k + 3 * a.length ≤ 100000000000000000) : laws_markFileS a k = some (k + 3 * a.length, mkFileSs k a.length) := by
  have key : ∀ (j i m : Nat) (k : Int) (b d : List SFile), i + j = a.length → d.length = i → b.length = j → 0 < k → k + 3 * j ≤ 100000000000000000 → L_laws_markFileS (m + 1 * j + 1) (.c0 k (i : Int) (d ++ b)) = some (k + 3 * j, d ++ mkFileSs k j) := by
    intro j
    induction j with
    | zero =>
      intro i m k b d h1 h2 h3 h4 h5
      have hb0 : b = [] := List.length_eq_zero_iff.1 h3
      subst hb0
      rw [L_laws_markFileS]
      simp only [B_laws_markFileS, List.append_nil, h2, mkFileSs]
      rw [cond_f (by simp)]
      simp
    | succ j ih =>
      intro i m k b d h1 h2 h3 h4 h5
      obtain ⟨x, b, rfl⟩ : ∃ x c, b = x :: c := by cases b with
        | nil => cases h3
        | cons x c => exact ⟨x, c, rfl⟩
      rw [List.length_cons] at h3
      have hlen : (d ++ x :: b).length = a.length := by rw [List.length_append, List.length_cons]; omega
      rw [show m + 1 * (j + 1) + 1 = (m + 1 * j + 1) + 1 by omega, mkFileS_step (by omega) h4 (by omega) (by omega), set_app h2]
      have h6 := ih (i + 1) m (k + 1 + 1 + 1) b (d ++ [mkFileS k]) (by omega) (by rw [List.length_append, List.length_singleton]; omega) (by omega) (by omega) (by omega)
      rw [List.append_assoc, List.append_assoc, List.singleton_append, List.singleton_append] at h6
      rw [h6, mkFileSs]
      congr 2
      omega
  obtain ⟨m, hm⟩ : ∃ m, gas = m + 1 * a.length + 1 := ⟨gas - (1 * a.length + 1), by have := gas_lt (n := 1 * a.length + 1) (by omega); omega⟩
  rw [laws_markFileS, E_laws_markFileS, hm]
  exact key a.length 0 m k a [] (by omega) rfl rfl hk hb
theorem pm_laws_markDisk {a : SDisk} {k : Int} (hk : 0 < k) (hb : k + 3 * a.fFiles.length ≤ 100000000000000000) : laws_markDisk a k = some (k + 3 * a.fFiles.length, mkFileSs k a.fFiles.length) := by
  rw [laws_markDisk, E_laws_markDisk, pm_laws_markFileS hk hb]; rfl
noncomputable def mkThingS (k : Int) : SThing := ⟨k, k + 1, ((k + 1 + 1).tmod 3 == 0), ((k + 1 + 1 + 1).tmod 3 == 0), ((k + 1 + 1 + 1 + 1).tmod 3 == 0), ((k + 1 + 1 + 1 + 1 + 1).tmod 3 == 0), markT (k + 1 + 1 + 1 + 1 + 1 + 1), k + 1 + 1 + 1 + 1 + 1 + 1 + 1⟩
noncomputable def mkThingSs (k : Int) : Nat → List SThing
  | 0 => []
  | n + 1 => mkThingS k :: mkThingSs (k + 1 + 1 + 1 + 1 + 1 + 1 + 1 + 1) n
theorem mkThingSs_len (n : Nat) : ∀ k, (mkThingSs k n).length = n := by
  induction n with
  | zero => intro k; rfl
  | succ n ih => intro k; rw [mkThingSs, List.length_cons, ih]
theorem mkThingS_step {a : List SThing} {k : Int} {i m : Nat} (hi : i < a.length) (hk : 0 < k) (hk2 : k ≤ 100000000000000000) (hl : a.length ≤ 100000000000000000) :
    L_laws_markThingS (m + 8) (.c0 k (i : Int) a) = L_laws_markThingS m (.c0 (k + 1 + 1 + 1 + 1 + 1 + 1 + 1 + 1) ((i + 1 : Nat) : Int) (a.set i (mkThingS k))) := by
  have hwi : w64 ((i : Int) + 1) = ((i + 1 : Nat) : Int) := by rw [w64_id (by omega) (by omega)]; rfl
  have hlt : decide ((i : Int) < (a.length : Int)) = true := decide_eq_true (by omega)
  have hle : decide ((0 : Int) ≤ (i : Int)) = true := decide_eq_true (by omega)
  have hw1 : w64 (k + 1) = k + 1 := w64_id (by omega) (by omega)
  have hw2 : w64 (k + 1 + 1) = k + 1 + 1 := w64_id (by omega) (by omega)
  have hw3 : w64 (k + 1 + 1 + 1) = k + 1 + 1 + 1 := w64_id (by omega) (by omega)
  have hw4 : w64 (k + 1 + 1 + 1 + 1) = k + 1 + 1 + 1 + 1 := w64_id (by omega) (by omega)
  have hw5 : w64 (k + 1 + 1 + 1 + 1 + 1) = k + 1 + 1 + 1 + 1 + 1 := w64_id (by omega) (by omega)
  have hw6 : w64 (k + 1 + 1 + 1 + 1 + 1 + 1) = k + 1 + 1 + 1 + 1 + 1 + 1 := w64_id (by omega) (by omega)
  have hw7 : w64 (k + 1 + 1 + 1 + 1 + 1 + 1 + 1) = k + 1 + 1 + 1 + 1 + 1 + 1 + 1 := w64_id (by omega) (by omega)
  have hw8 : w64 (k + 1 + 1 + 1 + 1 + 1 + 1 + 1 + 1) = k + 1 + 1 + 1 + 1 + 1 + 1 + 1 + 1 := w64_id (by omega) (by omega)
  have hm6 := p_laws_markText (k := k + 1 + 1 + 1 + 1 + 1 + 1) (by omega)
  rw [show m + 8 = m + 1 + 1 + 1 + 1 + 1 + 1 + 1 + 1 from rfl]
  rw [L_laws_markThingS]
  simp only [B_laws_markThingS, Int.toNat_natCast, List.length_set, getD_set hi, List.set_set, hwi, hw1, hw2, hw3, hw4, hw5, hw6, hw7, hw8, hm6, Option.bind_some, hlt, hle, Bool.and_self, cond_true]
  rw [L_laws_markThingS]
  simp only [B_laws_markThingS, Int.toNat_natCast, List.length_set, getD_set hi, List.set_set, hwi, hw1, hw2, hw3, hw4, hw5, hw6, hw7, hw8, hm6, Option.bind_some, hlt, hle, Bool.and_self, cond_true]
  rw [L_laws_markThingS]
  simp only [B_laws_markThingS, Int.toNat_natCast, List.length_set, getD_set hi, List.set_set, hwi, hw1, hw2, hw3, hw4, hw5, hw6, hw7, hw8, hm6, Option.bind_some, hlt, hle, Bool.and_self, cond_true]
  rw [L_laws_markThingS]
  simp only [B_laws_markThingS, Int.toNat_natCast, List.length_set, getD_set hi, List.set_set, hwi, hw1, hw2, hw3, hw4, hw5, hw6, hw7, hw8, hm6, Option.bind_some, hlt, hle, Bool.and_self, cond_true]
  rw [L_laws_markThingS]
  simp only [B_laws_markThingS, Int.toNat_natCast, List.length_set, getD_set hi, List.set_set, hwi, hw1, hw2, hw3, hw4, hw5, hw6, hw7, hw8, hm6, Option.bind_some, hlt, hle, Bool.and_self, cond_true]
  rw [L_laws_markThingS]
  simp only [B_laws_markThingS, Int.toNat_natCast, List.length_set, getD_set hi, List.set_set, hwi, hw1, hw2, hw3, hw4, hw5, hw6, hw7, hw8, hm6, Option.bind_some, hlt, hle, Bool.and_self, cond_true]
  rw [L_laws_markThingS]
  simp only [B_laws_markThingS, Int.toNat_natCast, List.length_set, getD_set hi, List.set_set, hwi, hw1, hw2, hw3, hw4, hw5, hw6, hw7, hw8, hm6, Option.bind_some, hlt, hle, Bool.and_self, cond_true]
  rw [L_laws_markThingS]
  simp only [B_laws_markThingS, Int.toNat_natCast, List.length_set, getD_set hi, List.set_set, hwi, hw1, hw2, hw3, hw4, hw5, hw6, hw7, hw8, hm6, Option.bind_some, hlt, hle, Bool.and_self, cond_true]
  rfl
theorem pm_laws_markThingS {a : List SThing} {k : Int} (hk : 0 < k) (hb : k + 8 * a.length ≤ 100000000000000000) : laws_markThingS a k = some (k + 8 * a.length, mkThingSs k a.length) := by
  have key : ∀ (j i m : Nat) (k : Int) (b d : List SThing), i + j = a.length → d.length = i → b.length = j → 0 < k → k + 8 * j ≤ 100000000000000000 → L_laws_markThingS (m + 8 * j + 1) (.c0 k (i : Int) (d ++ b)) = some (k + 8 * j, d ++ mkThingSs k j) := by
    intro j
    induction j with
    | zero =>
      intro i m k b d h1 h2 h3 h4 h5
      have hb0 : b = [] := List.length_eq_zero_iff.1 h3
      subst hb0
      rw [L_laws_markThingS]
      simp only [B_laws_markThingS, List.append_nil, h2, mkThingSs]
      rw [cond_f (by simp)]
      simp
    | succ j ih =>
      intro i m k b d h1 h2 h3 h4 h5
      obtain ⟨x, b, rfl⟩ : ∃ x c, b = x :: c := by cases b with
        | nil => cases h3
        | cons x c => exact ⟨x, c, rfl⟩
      rw [List.length_cons] at h3
      have hlen : (d ++ x :: b).length = a.length := by rw [List.length_append, List.length_cons]; omega
      rw [show m + 8 * (j + 1) + 1 = (m + 8 * j + 1) + 8 by omega, mkThingS_step (by omega) h4 (by omega) (by omega), set_app h2]
      have h6 := ih (i + 1) m (k + 1 + 1 + 1 + 1 + 1 + 1 + 1 + 1) b (d ++ [mkThingS k]) (by omega) (by rw [List.length_append, List.length_singleton]; omega) (by omega) (by omega) (by omega)
      rw [List.append_assoc, List.append_assoc, List.singleton_append, List.singleton_append] at h6
      rw [h6, mkThingSs]
      congr 2
      omega
  obtain ⟨m, hm⟩ : ∃ m, gas = m + 8 * a.length + 1 := ⟨gas - (8 * a.length + 1), by have := gas_lt (n := 8 * a.length + 1) (by omega); omega⟩
  rw [laws_markThingS, E_laws_markThingS, hm]
  exact key a.length 0 m k a [] (by omega) rfl rfl hk hb
theorem pm_laws_markBook {a : SBook} {k : Int} (hk : 0 < k) (hb : k + 8 * a.fThings.length ≤ 100000000000000000) : laws_markBook a k = some (k + 8 * a.fThings.length, mkThingSs k a.fThings.length) := by
  rw [laws_markBook, E_laws_markBook, pm_laws_markThingS hk hb]; rfl
noncomputable def mkActS (k : Int) : SAct := ⟨k, markT (k + 1), markT (k + 1 + 1), markT (k + 1 + 1 + 1)⟩
noncomputable def mkActSs (k : Int) : Nat → List SAct
  | 0 => []
  | n + 1 => mkActS k :: mkActSs (k + 1 + 1 + 1 + 1) n
theorem mkActSs_len (n : Nat) : ∀ k, (mkActSs k n).length = n := by
  induction n with
  | zero => intro k; rfl
  | succ n ih => intro k; rw [mkActSs, List.length_cons, ih]
theorem mkActS_step {a : List SAct} {k : Int} {i m : Nat} (hi : i < a.length) (hk : 0 < k) (hk2 : k ≤ 100000000000000000) (hl : a.length ≤ 100000000000000000) :
    L_laws_markActS (m + 4) (.c0 k (i : Int) a) = L_laws_markActS m (.c0 (k + 1 + 1 + 1 + 1) ((i + 1 : Nat) : Int) (a.set i (mkActS k))) := by
  have hwi : w64 ((i : Int) + 1) = ((i + 1 : Nat) : Int) := by rw [w64_id (by omega) (by omega)]; rfl
  have hlt : decide ((i : Int) < (a.length : Int)) = true := decide_eq_true (by omega)
  have hle : decide ((0 : Int) ≤ (i : Int)) = true := decide_eq_true (by omega)
  have hw1 : w64 (k + 1) = k + 1 := w64_id (by omega) (by omega)
  have hw2 : w64 (k + 1 + 1) = k + 1 + 1 := w64_id (by omega) (by omega)
  have hw3 : w64 (k + 1 + 1 + 1) = k + 1 + 1 + 1 := w64_id (by omega) (by omega)
  have hw4 : w64 (k + 1 + 1 + 1 + 1) = k + 1 + 1 + 1 + 1 := w64_id (by omega) (by omega)
  have hm1 := p_laws_markText (k := k + 1) (by omega)
  have hm2 := p_laws_markText (k := k + 1 + 1) (by omega)
  have hm3 := p_laws_markText (k := k + 1 + 1 + 1) (by omega)
  rw [show m + 4 = m + 1 + 1 + 1 + 1 from rfl]
  rw [L_laws_markActS]
  simp only [B_laws_markActS, Int.toNat_natCast, List.length_set, getD_set hi, List.set_set, hwi, hw1, hw2, hw3, hw4, hm1, hm2, hm3, Option.bind_some, hlt, hle, Bool.and_self, cond_true]
  rw [L_laws_markActS]
  simp only [B_laws_markActS, Int.toNat_natCast, List.length_set, getD_set hi, List.set_set, hwi, hw1, hw2, hw3, hw4, hm1, hm2, hm3, Option.bind_some, hlt, hle, Bool.and_self, cond_true]
  rw [L_laws_markActS]
  simp only [B_laws_markActS, Int.toNat_natCast, List.length_set, getD_set hi, List.set_set, hwi, hw1, hw2, hw3, hw4, hm1, hm2, hm3, Option.bind_some, hlt, hle, Bool.and_self, cond_true]
  rw [L_laws_markActS]
  simp only [B_laws_markActS, Int.toNat_natCast, List.length_set, getD_set hi, List.set_set, hwi, hw1, hw2, hw3, hw4, hm1, hm2, hm3, Option.bind_some, hlt, hle, Bool.and_self, cond_true]
  rfl
theorem pm_laws_markActS {a : List SAct} {k : Int} (hk : 0 < k) (hb : k + 4 * a.length ≤ 100000000000000000) : laws_markActS a k = some (k + 4 * a.length, mkActSs k a.length) := by
  have key : ∀ (j i m : Nat) (k : Int) (b d : List SAct), i + j = a.length → d.length = i → b.length = j → 0 < k → k + 4 * j ≤ 100000000000000000 → L_laws_markActS (m + 4 * j + 1) (.c0 k (i : Int) (d ++ b)) = some (k + 4 * j, d ++ mkActSs k j) := by
    intro j
    induction j with
    | zero =>
      intro i m k b d h1 h2 h3 h4 h5
      have hb0 : b = [] := List.length_eq_zero_iff.1 h3
      subst hb0
      rw [L_laws_markActS]
      simp only [B_laws_markActS, List.append_nil, h2, mkActSs]
      rw [cond_f (by simp)]
      simp
    | succ j ih =>
      intro i m k b d h1 h2 h3 h4 h5
      obtain ⟨x, b, rfl⟩ : ∃ x c, b = x :: c := by cases b with
        | nil => cases h3
        | cons x c => exact ⟨x, c, rfl⟩
      rw [List.length_cons] at h3
      have hlen : (d ++ x :: b).length = a.length := by rw [List.length_append, List.length_cons]; omega
      rw [show m + 4 * (j + 1) + 1 = (m + 4 * j + 1) + 4 by omega, mkActS_step (by omega) h4 (by omega) (by omega), set_app h2]
      have h6 := ih (i + 1) m (k + 1 + 1 + 1 + 1) b (d ++ [mkActS k]) (by omega) (by rw [List.length_append, List.length_singleton]; omega) (by omega) (by omega) (by omega)
      rw [List.append_assoc, List.append_assoc, List.singleton_append, List.singleton_append] at h6
      rw [h6, mkActSs]
      congr 2
      omega
  obtain ⟨m, hm⟩ : ∃ m, gas = m + 4 * a.length + 1 := ⟨gas - (4 * a.length + 1), by have := gas_lt (n := 4 * a.length + 1) (by omega); omega⟩
  rw [laws_markActS, E_laws_markActS, hm]
  exact key a.length 0 m k a [] (by omega) rfl rfl hk hb
theorem mkThingS_held {a : List SThing} {k : Int} {i m : Nat} (hi : i < a.length) (hg : ∀ z, a.getD i z = mkThingS k) (hk : 0 < k) (hk2 : k ≤ 100000000000000000) (hl : a.length ≤ 100000000000000000) :
    L_laws_heldThingS (m + 1) (.c0 a k (i : Int)) = L_laws_heldThingS m (.c0 a (k + 1 + 1 + 1 + 1 + 1 + 1 + 1 + 1) ((i + 1 : Nat) : Int)) := by
  have hwi : w64 ((i : Int) + 1) = ((i + 1 : Nat) : Int) := by rw [w64_id (by omega) (by omega)]; rfl
  have hlt : decide ((i : Int) < (a.length : Int)) = true := decide_eq_true (by omega)
  have hle : decide ((0 : Int) ≤ (i : Int)) = true := decide_eq_true (by omega)
  have hw1 : w64 (k + 1) = k + 1 := w64_id (by omega) (by omega)
  have hw2 : w64 (k + 1 + 1) = k + 1 + 1 := w64_id (by omega) (by omega)
  have hw3 : w64 (k + 1 + 1 + 1) = k + 1 + 1 + 1 := w64_id (by omega) (by omega)
  have hw4 : w64 (k + 1 + 1 + 1 + 1) = k + 1 + 1 + 1 + 1 := w64_id (by omega) (by omega)
  have hw5 : w64 (k + 1 + 1 + 1 + 1 + 1) = k + 1 + 1 + 1 + 1 + 1 := w64_id (by omega) (by omega)
  have hw6 : w64 (k + 1 + 1 + 1 + 1 + 1 + 1) = k + 1 + 1 + 1 + 1 + 1 + 1 := w64_id (by omega) (by omega)
  have hw7 : w64 (k + 1 + 1 + 1 + 1 + 1 + 1 + 1) = k + 1 + 1 + 1 + 1 + 1 + 1 + 1 := w64_id (by omega) (by omega)
  have hw8 : w64 (k + 1 + 1 + 1 + 1 + 1 + 1 + 1 + 1) = k + 1 + 1 + 1 + 1 + 1 + 1 + 1 + 1 := w64_id (by omega) (by omega)
  have hm6 := p_laws_markText (k := k + 1 + 1 + 1 + 1 + 1 + 1) (by omega)
  rw [L_laws_heldThingS]
  simp only [B_laws_heldThingS, Int.toNat_natCast, hwi, hw1, hw2, hw3, hw4, hw5, hw6, hw7, hw8, hm6, Option.bind_some, hlt, hle, Bool.and_self, cond_true, hg, mkThingS, bne_self_eq_false, cond_false, toList_self, beq_self_eq_true, Bool.not_true]
theorem mkThingSs_at : ∀ (n : Nat) (k : Int) (i : Nat), i < n → ∀ z, (mkThingSs k n).getD i z = mkThingS (k + 8 * i) := by
  intro n
  induction n with
  | zero => intro k i h; omega
  | succ n ih =>
    intro k i h z
    cases i with
    | zero => rw [mkThingSs, show k + 8 * ((0 : Nat) : Int) = k by omega]; rfl
    | succ i =>
      have h2 := ih (k + 1 + 1 + 1 + 1 + 1 + 1 + 1 + 1) i (by omega) z
      rw [show k + 1 + 1 + 1 + 1 + 1 + 1 + 1 + 1 + 8 * (i : Int) = k + 8 * ((i + 1 : Nat) : Int) by omega] at h2
      rw [← h2, mkThingSs]; rfl
theorem ph_laws_heldThingS {n : Nat} {k : Int} (hk : 0 < k) (hb : k + 8 * n ≤ 100000000000000000) : laws_heldThingS (mkThingSs k n) k = some (k + 8 * n) := by
  have hl := mkThingSs_len n k
  have key : ∀ (j i m : Nat), i + j = n → L_laws_heldThingS (m + j + 1) (.c0 (mkThingSs k n) (k + 8 * i) (i : Int)) = some (k + 8 * n) := by
    intro j
    induction j with
    | zero =>
      intro i m h1
      obtain rfl : i = n := by omega
      rw [L_laws_heldThingS]
      simp only [B_laws_heldThingS, hl]
      rw [cond_f (by simp)]
    | succ j ih =>
      intro i m h1
      rw [show m + (j + 1) + 1 = (m + j + 1) + 1 by omega, mkThingS_held (by omega) (mkThingSs_at n k i (by omega)) (by omega) (by omega) (by omega)]
      have h2 := ih (i + 1) m (by omega)
      rw [show k + 8 * ((i + 1 : Nat) : Int) = k + 8 * (i : Int) + 1 + 1 + 1 + 1 + 1 + 1 + 1 + 1 by omega] at h2
      exact h2
  obtain ⟨m, hm⟩ : ∃ m, gas = m + n + 1 := ⟨gas - (n + 1), by have := gas_lt (n := n + 1) (by omega); omega⟩
  have h0 := key n 0 m (by omega)
  rw [show k + 8 * ((0 : Nat) : Int) = k by omega] at h0
  rw [laws_heldThingS, E_laws_heldThingS, hm]
  exact h0
theorem ph_laws_heldBook {a : SBook} {n : Nat} {k : Int} (h : a.fThings = mkThingSs k n) (hk : 0 < k) (hb : k + 8 * n ≤ 100000000000000000) : laws_heldBook a k = some (k + 8 * n) := by
  rw [laws_heldBook, E_laws_heldBook, h, ph_laws_heldThingS hk hb, Option.bind_some, cond_f (by simp; omega)]
theorem mkActS_held {a : List SAct} {k : Int} {i m : Nat} (hi : i < a.length) (hg : ∀ z, a.getD i z = mkActS k) (hk : 0 < k) (hk2 : k ≤ 100000000000000000) (hl : a.length ≤ 100000000000000000) :
    L_laws_heldActS (m + 1) (.c0 a k (i : Int)) = L_laws_heldActS m (.c0 a (k + 1 + 1 + 1 + 1) ((i + 1 : Nat) : Int)) := by
  have hwi : w64 ((i : Int) + 1) = ((i + 1 : Nat) : Int) := by rw [w64_id (by omega) (by omega)]; rfl
  have hlt : decide ((i : Int) < (a.length : Int)) = true := decide_eq_true (by omega)
  have hle : decide ((0 : Int) ≤ (i : Int)) = true := decide_eq_true (by omega)
  have hw1 : w64 (k + 1) = k + 1 := w64_id (by omega) (by omega)
  have hw2 : w64 (k + 1 + 1) = k + 1 + 1 := w64_id (by omega) (by omega)
  have hw3 : w64 (k + 1 + 1 + 1) = k + 1 + 1 + 1 := w64_id (by omega) (by omega)
  have hw4 : w64 (k + 1 + 1 + 1 + 1) = k + 1 + 1 + 1 + 1 := w64_id (by omega) (by omega)
  have hm1 := p_laws_markText (k := k + 1) (by omega)
  have hm2 := p_laws_markText (k := k + 1 + 1) (by omega)
  have hm3 := p_laws_markText (k := k + 1 + 1 + 1) (by omega)
  rw [L_laws_heldActS]
  simp only [B_laws_heldActS, Int.toNat_natCast, hwi, hw1, hw2, hw3, hw4, hm1, hm2, hm3, Option.bind_some, hlt, hle, Bool.and_self, cond_true, hg, mkActS, bne_self_eq_false, cond_false, toList_self, beq_self_eq_true, Bool.not_true]
theorem mkActSs_at : ∀ (n : Nat) (k : Int) (i : Nat), i < n → ∀ z, (mkActSs k n).getD i z = mkActS (k + 4 * i) := by
  intro n
  induction n with
  | zero => intro k i h; omega
  | succ n ih =>
    intro k i h z
    cases i with
    | zero => rw [mkActSs, show k + 4 * ((0 : Nat) : Int) = k by omega]; rfl
    | succ i =>
      have h2 := ih (k + 1 + 1 + 1 + 1) i (by omega) z
      rw [show k + 1 + 1 + 1 + 1 + 4 * (i : Int) = k + 4 * ((i + 1 : Nat) : Int) by omega] at h2
      rw [← h2, mkActSs]; rfl
theorem ph_laws_heldActS {n : Nat} {k : Int} (hk : 0 < k) (hb : k + 4 * n ≤ 100000000000000000) : laws_heldActS (mkActSs k n) k = some (k + 4 * n) := by
  have hl := mkActSs_len n k
  have key : ∀ (j i m : Nat), i + j = n → L_laws_heldActS (m + j + 1) (.c0 (mkActSs k n) (k + 4 * i) (i : Int)) = some (k + 4 * n) := by
    intro j
    induction j with
    | zero =>
      intro i m h1
      obtain rfl : i = n := by omega
      rw [L_laws_heldActS]
      simp only [B_laws_heldActS, hl]
      rw [cond_f (by simp)]
    | succ j ih =>
      intro i m h1
      rw [show m + (j + 1) + 1 = (m + j + 1) + 1 by omega, mkActS_held (by omega) (mkActSs_at n k i (by omega)) (by omega) (by omega) (by omega)]
      have h2 := ih (i + 1) m (by omega)
      rw [show k + 4 * ((i + 1 : Nat) : Int) = k + 4 * (i : Int) + 1 + 1 + 1 + 1 by omega] at h2
      exact h2
  obtain ⟨m, hm⟩ : ∃ m, gas = m + n + 1 := ⟨gas - (n + 1), by have := gas_lt (n := n + 1) (by omega); omega⟩
  have h0 := key n 0 m (by omega)
  rw [show k + 4 * ((0 : Nat) : Int) = k by omega] at h0
  rw [laws_heldActS, E_laws_heldActS, hm]
  exact h0
theorem enterB_len2 (b : SBook) (r : SRec) : (enterB b r).1.fThings.length ≤ 8 := by
  cases h : (enterB b r).2
  · have : (enterB b r).1 = zBook := by
      rw [enterB] at h ⊢
      cases hc : (!(bookOk b) || (!(recText r).2 || decide (b.fCount ≥ 10000)))
      · rw [hc] at h
        simp only [cond_false] at h ⊢
        cases h1 : r.fKind == 1
        · rw [h1] at h
          simp only [cond_false] at h ⊢
          cases h2 : r.fKind == 2
          · rw [h2] at h
            simp only [cond_false] at h ⊢
            cases h3 : r.fKind == 3
            · rw [h3] at h
              simp only [cond_false] at h ⊢
              cases ht : thingIn b.fThings r.fNum with
              | none => rfl
              | some x => rw [ht] at h; cases h
            · rw [h3] at h
              simp only [cond_true] at h ⊢
              cases ht : putThing b r.fThing with
              | none => rfl
              | some x => rw [ht] at h; cases h
          · rw [h2] at h; cases h
        · rw [h1] at h; cases h
      · rfl
    rw [this]; exact Nat.zero_le _
  · exact enterB_len h
theorem enterAll_len {b : SBook} {l : List SRec} (h : b.fThings.length ≤ 2932031007317) : (enterAllB b l).1.fThings.length ≤ 2932031007317 := by
  induction l generalizing b with
  | nil => exact h
  | cons r rs ih =>
    rw [enterAllB]
    cases h3 : (enterB b r).2
    · exact Nat.zero_le _
    · have := enterB_len h3
      exact ih (by omega)
theorem mountT_len (k : ByteArray) (d : SDisk) : (mountT k d).1.fThings.length ≤ 2932031007317 ∧ (mountT k d).2.1.length ≤ 4 := by
  rw [mountT]
  cases (!(diskOk d) || !(enterAllB bookNew (readBook k (fileT d nBook).1).1).2)
  · refine ⟨enterAll_len (Nat.zero_le _), ?_⟩
    rw [cond_false]
    show List.length (_ ++ _) ≤ 4
    rw [List.length_append]
    cases decide (atF d nNew ≥ 0) <;> cases (readBook k (fileT d nBook).1).2 == ((fileT d nBook).1.size : Int) <;> simp
  · exact ⟨Nat.zero_le _, Nat.zero_le _⟩
theorem law_FnExactMount (x0 : ByteArray) (x1 : SDisk) (g0 : GStr x0) (g1 : GSDisk x1) : laws_FnExactMount x0 x1 = some true := by
  obtain ⟨r, hr⟩ := p_laws_szDisk g1 1048576
  rw [laws_FnExactMount, E_laws_FnExactMount]
  by_cases h : 1048576 < x0.size
  · rw [cond_t (by simp; omega)]
  have hd : x1.fFiles.length * 40 ≤ 140737488351232 := g1.1
  have hf : ∀ f ∈ x1.fFiles, f.fText.size ≤ 140737488351232 := fun f hf => (g1.2 f hf).2.1
  obtain ⟨l1, l2⟩ := mountT_len x0 x1
  have hS := p_spec_Mount (k := x0) (d := x1) (by omega) (by omega) hf
  have hI := p_impl_Mount (k := x0) (d := x1) (by omega) (by omega) hf
  have e1 := p_laws_eqBook (a := (mountT x0 x1).1) (by omega)
  have e2 := p_laws_eqActS (a := (mountT x0 x1).2.1) (by omega)
  have e3 := p_laws_eqDisk (a := x1) (by omega)
  have m0 := pm_laws_markDisk (a := x1) (k := 1) (by omega) (by omega)
  have m1 := pm_laws_markBook (a := (mountT x0 x1).1) (k := 1) (by omega) (by omega)
  have m2 := pm_laws_markActS (a := (mountT x0 x1).2.1) (k := 1 + 8 * (mountT x0 x1).1.fThings.length) (by omega) (by omega)
  have h1 := ph_laws_heldBook (a := ⟨(mountT x0 x1).1.fWord, (mountT x0 x1).1.fTries, mkThingSs 1 (mountT x0 x1).1.fThings.length, (mountT x0 x1).1.fLast, (mountT x0 x1).1.fChain, (mountT x0 x1).1.fCount⟩) rfl (k := 1) (by omega) (by omega)
  have h2 := ph_laws_heldActS (n := (mountT x0 x1).2.1.length) (k := 1 + 8 * (mountT x0 x1).1.fThings.length) (by omega) (by omega)
  have d0 : decide ((1 : Int) + 3 * (x1.fFiles.length : Int) < 0) = false := by rw [decide_eq_false_iff_not]; omega
  have d1 : decide ((1 : Int) + 8 * ((mountT x0 x1).1.fThings.length : Int) < 0) = false := by rw [decide_eq_false_iff_not]; omega
  have d2 : decide ((1 : Int) + 8 * ((mountT x0 x1).1.fThings.length : Int) + 4 * ((mountT x0 x1).2.1.length : Int) < 0) = false := by rw [decide_eq_false_iff_not]; omega
  rw [cond_f (by simp; omega)]
  simp only [hr, p_laws_toDisk g1, hS, hI, Option.bind_some, e1, e2, e3, m0, m1, m2, h1, h2, d0, d1, d2, beq_self_eq_true, Bool.not_true, cond_false, bne_self_eq_false]
  cases decide (r < 0) <;> rfl
end Go.Proofs.YteabefphhanlfaaGreatDoor.G

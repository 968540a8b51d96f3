/- What the evaluator tells of plain operations is what the machine does: loads and parts; then operations that turn no memory. -/
import Derived.Test.YtmhggcgkbenedaaSnd1
namespace Go.Ev
open Go
section
variable {C : Ctx} {P : Program} {hp : Hp C} {at1 : At} {w : World} {ro frz : Nat → Prop}

theorem run_sizeOf' (hC : CtxOk C P) {t : Nat} (h : (C.ti t).kind ≠ .other) (w : World) : (sizeOf t).run P w = .ok (C.ti t).size w := by
  obtain ⟨i, h1, h2, _⟩ := (hC.ty t h).info
  simp [sizeOf, typeInfo, h1, h2]
theorem run_typeInfo' (hC : CtxOk C P) {t : Nat} (h : (C.ti t).kind ≠ .other) (w : World) : ∃ i, (typeInfo t).run P w = .ok i w ∧ i.bytes = (C.ti t).bytes ∧ i.size = (C.ti t).size := by
  obtain ⟨i, h1, h2, h3, _⟩ := (hC.ty t h).info
  exact ⟨i, by simp [typeInfo, h1], h3, h2⟩
theorem run_isAgg' (hC : CtxOk C P) {t : Nat} (h : (C.ti t).kind ≠ .other) (w : World) : (isAgg t).run P w = .ok (isAggT C t) w := by
  have hu := (hC.ty t h).und
  unfold isAgg isAggT
  rw [Sem.run_bind]
  cases hk : (C.ti t).kind with
  | other => exact absurd hk h
  | st fs =>
    rw [hk] at hu
    obtain ⟨f, hf, _⟩ := hu
    rw [run_underlying hf]; rfl
  | bool => rw [hk] at hu; rw [run_underlying hu]; rfl
  | int k => rw [hk] at hu; rw [run_underlying hu]; rfl
  | str => rw [hk] at hu; rw [run_underlying hu]; rfl
  | ptr e => rw [hk] at hu; rw [run_underlying hu]; rfl
  | sl e => rw [hk] at hu; rw [run_underlying hu]; rfl
  | arr n e => rw [hk] at hu; rw [run_underlying hu]; rfl

/-- A list of cells and of values that go with them. -/
theorem cells_list {b o : Nat} {cs : List (L C.El)} (hc : ∀ j l', cs[j]? = some l' → ∃ u, w.cell? ⟨b, o + j, none⟩ = some u ∧ RepL C hp at1 w ro l' u) (off n : Nat) (hn : off + n ≤ cs.length) :
    ∃ vs : List Value, vs.length = n ∧ w.rangeAt b (o + off) vs ∧ ∀ (j : Nat) (l' : L C.El), ((cs.drop off).take n)[j]? = some l' → ∃ u : Value, vs[j]? = some u ∧ RepL C hp at1 w ro l' u := by
  induction n generalizing off with
  | zero => exact ⟨[], rfl, fun j v h => by simp at h, fun j l' h => by simp at h⟩
  | succ n ih =>
    obtain ⟨vs, h1, h2, h3⟩ := ih (off + 1) (by omega)
    obtain ⟨u, hu, hr⟩ := hc off cs[off] (List.getElem?_eq_getElem (by omega))
    refine ⟨u :: vs, by simp [h1], fun j v hj => ?_, fun j l' hj => ?_⟩
    · cases j with
      | zero => simp at hj; subst hj; simpa using hu
      | succ j => have := h2 j v (by simpa using hj); rwa [show o + off + (j + 1) = o + (off + 1) + j by omega]
    · rw [List.drop_eq_getElem_cons (by omega), List.take_succ_cons] at hj
      cases j with
      | zero => simp at hj; subst hj; exact ⟨u, rfl, hr⟩
      | succ j => simpa using h3 j l' (by simpa using hj)

theorem partU_kind {t : Nat} {cs : List (L C.El)} {off : Nat} {u : U C.El} (h : partU C t cs off = some u) : (C.ti t).kind ≠ .other := by
  intro e
  simp [partU, e] at h
theorem partU_spec {t : Nat} {cs : List (L C.El)} {off : Nat} {u : U C.El} (h : partU C t cs off = some u) :
    (isAggT C t = true ∧ off + (C.ti t).size ≤ cs.length ∧ u = .agg ((cs.drop off).take (C.ti t).size) ∧ ∃ fs, (C.ti t).kind = .st fs) ∨ (isAggT C t = false ∧ ∃ l, cs[off]? = some l ∧ u = .one l) := by
  unfold partU at h
  unfold isAggT
  cases hk : (C.ti t).kind <;> simp only [hk] at h ⊢
  case st fs =>
    left
    split at h
    · rename_i hle
      cases h
      exact ⟨trivial, Nat.le_of_ble_eq_true hle, rfl, fs, rfl⟩
    · cases h
  case arr => cases h
  case other => cases h
  all_goals
    right
    split at h
    · rename_i l hl
      cases h
      exact ⟨trivial, l, by rw [← atCell_eq]; exact hl, rfl⟩
    · cases h

theorem flat_get {α β : Type} (f : α → List β) (s : Nat) (hf : ∀ x, (f x).length = s) : ∀ (xs : List α) (j i : Nat) (x : α), xs[j]? = some x → i < s → (xs.flatMap f)[j * s + i]? = (f x)[i]? := by
  intro xs
  induction xs with
  | nil => intro j i x h; simp at h
  | cons y ys ih =>
    intro j i x h hi
    rw [List.flatMap_cons]
    cases j with
    | zero =>
      simp at h
      subst h
      rw [List.getElem?_append_left (by rw [hf]; omega)]
      simp
    | succ j =>
      rw [List.getElem?_append_right (by rw [hf, Nat.succ_mul]; omega), hf]
      rw [show (j + 1) * s + i - s = j * s + i by rw [Nat.succ_mul]; omega]
      exact ih j i x (by simpa using h) hi
theorem flat_len {α β : Type} (f : α → List β) (s : Nat) (hf : ∀ x, (f x).length = s) (xs : List α) : (xs.flatMap f).length = xs.length * s := by
  induction xs with
  | nil => simp
  | cons y ys ih => rw [List.flatMap_cons, List.length_append, hf, ih, List.length_cons, Nat.succ_mul]; omega
theorem flat_some {α β : Type} (f : α → List β) (s : Nat) (hf : ∀ x, (f x).length = s) (xs : List α) (k : Nat) (l : β) (h : (xs.flatMap f)[k]? = some l) : ∃ j i x, k = j * s + i ∧ i < s ∧ xs[j]? = some x ∧ (f x)[i]? = some l := by
  have hk : k < xs.length * s := by rw [← flat_len f s hf]; exact (List.getElem?_eq_some_iff.1 h).1
  have hs : 0 < s := by rcases Nat.eq_zero_or_pos s with e | e; · subst e; simp at hk
                        · exact e
  have hj : k / s < xs.length := (Nat.div_lt_iff_lt_mul hs).2 hk
  have e : k = k / s * s + k % s := by rw [Nat.mul_comm]; exact (Nat.div_add_mod k s).symm
  refine ⟨k / s, k % s, xs[k / s], e, Nat.mod_lt _ hs, List.getElem?_eq_getElem hj, ?_⟩
  rw [← flat_get f s hf xs (k / s) (k % s) _ (List.getElem?_eq_getElem hj) (Nat.mod_lt _ hs), ← e]
  exact h
/-- The values in a row's cells. -/
theorem elems_list {e : Nat} (hC : CodOk C e) {xs : List (C.El e)} {b o : Nat} {R : Nat → Prop} (hc : ∀ (j : Nat) (x : C.El e) (i : Nat) (l : L C.El), xs[j]? = some x → ((C.cod e).enc x)[i]? = some l → ∃ v, w.cell? ⟨b, o + (j * (C.ti e).size + i), none⟩ = some v ∧ Rep C w R l v) :
    ∃ vs : List Value, vs.length = xs.length * (C.ti e).size ∧ w.rangeAt b o vs ∧ ∀ (j : Nat) (x : C.El e) (i : Nat) (l : L C.El), xs[j]? = some x → ((C.cod e).enc x)[i]? = some l → ∃ u : Value, vs[j * (C.ti e).size + i]? = some u ∧ Rep C w R l u := by
  have hflat : ∀ k l, (xs.flatMap (C.cod e).enc)[k]? = some l → ∃ v, w.cell? ⟨b, o + k, none⟩ = some v ∧ Rep C w R l v := by
    intro k l hk
    obtain ⟨j, i, x, rfl, _, hx, hl⟩ := flat_some _ _ hC.len xs k l hk
    exact hc j x i l hx hl
  have gen : ∀ (fl : List (L C.El)) (o : Nat), (∀ k l, fl[k]? = some l → ∃ v, w.cell? ⟨b, o + k, none⟩ = some v ∧ Rep C w R l v) → ∃ vs : List Value, vs.length = fl.length ∧ w.rangeAt b o vs ∧ ∀ (k : Nat) (l : L C.El), fl[k]? = some l → ∃ u : Value, vs[k]? = some u ∧ Rep C w R l u := by
    intro fl
    induction fl with
    | nil => intro o _; exact ⟨[], rfl, fun j v h => by simp at h, fun k l h => by simp at h⟩
    | cons l ls ih =>
      intro o h
      obtain ⟨vs, h1, h2, h3⟩ := ih (o + 1) (fun k l' hk => by have := h (k + 1) l' (by simpa using hk); rwa [show o + (k + 1) = o + 1 + k by omega] at this)
      obtain ⟨u, hu, hr⟩ := h 0 l rfl
      refine ⟨u :: vs, by simp [h1], fun j v hj => ?_, fun k l' hk => ?_⟩
      · cases j with
        | zero => simp at hj; subst hj; simpa using hu
        | succ j => have := h2 j v (by simpa using hj); rwa [show o + (j + 1) = o + 1 + j by omega]
      · cases k with
        | zero => simp at hk; subst hk; exact ⟨u, rfl, hr⟩
        | succ k => simpa using h3 k l' (by simpa using hk)
  obtain ⟨vs, h1, h2, h3⟩ := gen _ o hflat
  refine ⟨vs, by rw [h1, flat_len _ _ hC.len], h2, fun j x i l hx hl => ?_⟩
  have hi : i < (C.ti e).size := by rw [← hC.len x]; exact (List.getElem?_eq_some_iff.1 hl).1
  exact h3 _ l (by rw [flat_get _ _ hC.len xs j i x hx hi]; exact hl)

/-- A part is read out of memory. -/
theorem load_part (hC : CtxOk C P) {t : Nat} {cs : List (L C.El)} {off : Nat} {u : U C.El} (h : partU C t cs off = some u) {b o : Nat}
    (hc : ∀ j l', cs[j]? = some l' → ∃ u, w.cell? ⟨b, o + j, none⟩ = some u ∧ RepL C hp at1 w ro l' u) :
    ∃ v, (Instr.loadAt t (.pointer (some ⟨b, o + off, none⟩))).run P w = .ok v w ∧ RepU C hp at1 w ro u v := by
  have hk := partU_kind h
  rcases partU_spec h with ⟨ha, hle, rfl, fs, hfs⟩ | ⟨ha, l, hl, rfl⟩
  · obtain ⟨vs, h1, h2, h3⟩ := cells_list hc off _ hle
    have hu := (hC.ty t hk).und
    rw [hfs] at hu
    obtain ⟨f, hf, _⟩ := hu
    obtain ⟨i, hi, hs, _⟩ := (hC.ty t hk).info
    refine ⟨.agg vs.toArray, run_loadAt_mid w b (o + off) t vs _ h2 hf rfl (by simp [hi, hs, h1]), vs.toArray, rfl, by simp [h1]; omega, fun i l hl => ?_⟩
    obtain ⟨u, h4, h5⟩ := h3 i l hl
    exact ⟨u, by simpa using h4, h5⟩
  · obtain ⟨u, h1, h2⟩ := hc off l hl
    refine ⟨u, ?_, h2⟩
    simp [Instr.loadAt, Instr.sureAddr, loadVar, run_isAgg' hC hk, ha, h1]
/-- A part is taken out of a struct. -/
theorem part_part (hC : CtxOk C P) {t : Nat} {cs : List (L C.El)} {off : Nat} {u : U C.El} (h : partU C t cs off = some u) {arr : Array Value} (hn : arr.size = cs.length)
    (hc : ∀ (i : Nat) (l : L C.El), cs[i]? = some l → ∃ u, arr[i]? = some u ∧ RepL C hp at1 w ro l u) :
    ∃ v, (part t arr off).run P w = .ok v w ∧ RepU C hp at1 w ro u v := by
  have hk := partU_kind h
  rcases partU_spec h with ⟨ha, hle, rfl, _⟩ | ⟨ha, l, hl, rfl⟩
  · refine ⟨.agg (arr.extract off (off + (C.ti t).size)), by simp [part, run_isAgg' hC hk, ha, run_sizeOf' hC hk], _, rfl, by simp; omega, fun i l hl => ?_⟩
    have hi : i < (C.ti t).size := by
      have := (List.getElem?_eq_some_iff.1 hl).1
      simp at this; omega
    rw [List.getElem?_take, if_pos hi, List.getElem?_drop] at hl
    obtain ⟨u, h1, h2⟩ := hc _ l hl
    refine ⟨u, ?_, h2⟩
    rw [Array.getElem?_extract, if_pos (by omega)]
    exact h1
  · obtain ⟨u, h1, h2⟩ := hc off l hl
    exact ⟨u, by simp [part, run_isAgg' hC hk, ha, h1], h2⟩

/-- Tables that the program keeps. -/
structure TabOk (C : Ctx) (w0 : World) (Ec : Nat → Nat → Prop) : Prop where
  cell : ∀ g i, i < (C.tab g).2.length → w0.cell? ⟨g, i, none⟩ = some (.int .u32 ((C.tab g).2.getD i 0))
  free : ∀ g, (C.tab g).2 ≠ [] → ∀ o, ¬ Ec g o
theorem TabOk.now {w0 : World} {Ec : Nat → Nat → Prop} (h : TabOk C w0 Ec) (m : Mem C w0 Ec hp at1 frz w) (g i : Nat) (hi : i < (C.tab g).2.length) :
    w.cell? ⟨g, i, none⟩ = some (.int .u32 ((C.tab g).2.getD i 0)) := by
  have h0 := h.cell g i hi
  have hb : g < w0.heap.size := block_lt_of_cell h0
  rw [m.frame.cell g i hb (h.free g (fun e => by simp [e] at hi) i)]
  exact h0

theorem loadU_rep {w0 : World} {Ec : Nat → Nat → Prop} (hC : CtxOk C P) (hT : TabOk C w0 Ec) (m : Mem C w0 Ec hp at1 frz w) {t : Nat} {l : L C.El} {v : Value} {u : U C.El}
    (h : RepL C hp at1 w (roOf C hp at1 w) l v) (hl : loadU C hp t l = some u) : ∃ x, (Instr.loadAt t v).run P w = .ok x w ∧ RepU C hp at1 w (roOf C hp at1 w) u x := by
  have gen : ∀ {u}, (match place C hp l with | some (cs, off) => partU C t cs off | none => none) = some u → ∃ x, (Instr.loadAt t v).run P w = .ok x w ∧ RepU C hp at1 w (roOf C hp at1 w) u x := by
    intro u hl
    split at hl
    · rename_i cs off hp'
      obtain ⟨b, o, rfl, hc⟩ := place_rep hC.cod m h hp'
      exact load_part hC hl hc
    · cases hl
  unfold loadU at hl
  split at hl
  · rename_i n e' hk
    split at hl
    · rename_i id
      split at hl
      · rename_i e xs ho
        split at hl
        · rename_i h1 h2
          cases hl
          have := Nat.eq_of_beq_eq_true h1
          subst this
          have hn := Nat.eq_of_beq_eq_true h2
          obtain ⟨_, b, off, ha, rfl⟩ := h
          have hob := m.obj id
          simp only [ObjOk, ho] at hob
          obtain ⟨b', off', ha', hc⟩ := hob
          rw [ha] at ha'
          cases ha'
          have hkne : (C.ti t).kind ≠ .other := by rw [hk]; simp
          have hu := (hC.ty t hkne).und
          rw [hk] at hu
          obtain ⟨i, hi, hs, hb, z, hz, hzz⟩ := (hC.ty t hkne).info
          have hsz := (hC.ty t hkne).arr
          rw [hk] at hsz
          simp only at hsz
          obtain ⟨vs, h3, h4, h5⟩ := elems_list (hC.cod e) (fun j x i l h1 h2 => (hc j x i l h1 h2).2)
          exact ⟨.agg vs.toArray, run_loadAt_mid w b _ t vs _ (by simpa using h4) hu rfl (by simp [hi, hs, h3, hsz, hn]), vs.toArray, rfl, by simp [h3], fun j x i l hx hl => by
            obtain ⟨u, h6, h7⟩ := h5 j x i l hx hl
            exact ⟨u, by simpa using h6, h7⟩⟩
        · cases hl
      · cases hl
    · cases hl
  · rename_i hk
    split at hl
    · rename_i g i
      split at hl
      · rename_i hi
        cases hl
        have hlt : i < (C.tab g).2.length := Nat.le_of_ble_eq_true hi
        have hv : v = .pointer (some ⟨g, i, none⟩) := h
        subst hv
        have hkne : (C.ti t).kind ≠ .other := by rw [hk]; simp
        refine ⟨_, ?_, rfl⟩
        simp [Instr.loadAt, Instr.sureAddr, loadVar, run_isAgg' hC hkne, isAggT, hk, hT.now m g i hlt]
      · cases hl
    · exact gen hl
  · exact gen hl
end
end Go.Ev

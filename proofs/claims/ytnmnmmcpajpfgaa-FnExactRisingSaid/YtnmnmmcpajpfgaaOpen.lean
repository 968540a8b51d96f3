/- What an argument of a law reads as, brought to the printed words' kinds: by type, for whatever type of whole numbers, bools, strings, slices and structs. Conditions: none of its own. -/
import Derived.Test.YtnmnmmcpajpfgaaWWords
import Derived.SizedLaws
import Derived.Deep.Slices
import Derived.ChangeArms
import Derived.ChangeMaps5
import Derived.WideShapes
import Derived.Carry
namespace Go.Proofs.Ytnmnmmcpajpfgaa.Open
open Go.ChangeShapes Go.WideShapes Go.Deep Go.Proofs.YtnmnmmcpajpfgaaW.PrintWords

/-- What reads as a datum of type t, in its row's reach, is a value of kind k that is G. -/
def Opens (P : Program) (t : TypeId) {α : Type} (k : Kd α) (G : α → Prop) : Prop :=
  ∀ (H : Type) (enc : TypeId × Value → H) (w : World) (n : Nat) (cs : List Value) (x : DataW H × List MemPlace),
    DataW.trod enc P w 0 (fun _ => true) true n t cs = some x → (∀ m ∈ DataW.weights P t x.1, m ≤ reachBytes) → ∃ a : α, k.K w a cs ∧ G a

/-- The fields of a struct from a cell on. -/
def OpensF (P : Program) (fs : List Field) (off : Nat) {α : Type} (k : Kd α) (G : α → Prop) : Prop :=
  ∀ (H : Type) (enc : TypeId × Value → H) (w : World) (n : Nat) (cs : List Value) (xs : List (DataW H × List MemPlace)),
    cs.length = off + k.sz → xs.length = fs.length →
    (∀ (i : Nat) (f : Field), fs[i]? = some f → DataW.trod enc P w 0 (fun _ => true) true n f.type ((cs.drop f.offset).take (P.cellsOf f.type)) = xs[i]?) →
    (∀ m ∈ DataW.weightsEach P (fs.map (·.type)) (xs.map (·.1)), m ≤ reachBytes) → ∃ a : α, k.K w a (cs.drop off) ∧ G a

/-- What is known of a value of each kind: a number is one of its kind; a string's bytes lie in reach; a slice's bytes do. -/
abbrev GBool : Bool → Prop := fun _ => True
abbrev GInt (k : IntKind) : Int → Prop := fun n => (Lit.int k n).wf = true
abbrev GStr : ByteArray → Prop := fun s => s.size ≤ 140737488351232
abbrev GList (B : Nat) {α : Type} (G : α → Prop) : List α → Prop := fun xs => xs.length * B ≤ 140737488351232 ∧ ∀ x ∈ xs, G x
abbrev GPair {α β : Type} (G : α → Prop) (G' : β → Prop) : α × β → Prop := fun p => G p.1 ∧ G' p.2
abbrev GIso {α β : Type} (G : α → Prop) (g : β → α) : β → Prop := fun b => G (g b)

variable {P : Program} {t : TypeId}

theorem opens_bool (ht : P.underlying t = some .bool) : Opens P t Kd.bool GBool := by
  intro H enc w n cs x h _
  obtain ⟨b, rfl, _⟩ := DataW.trod_bool ht h
  exact ⟨b, rfl, trivial⟩

theorem opens_int {k : IntKind} (ht : P.underlying t = some (.int k)) : Opens P t (Kd.int k) (GInt k) := by
  intro H enc w n cs x h _
  obtain ⟨b, rfl, _, hw⟩ := DataW.trod_int ht h
  exact ⟨b, rfl, hw⟩

theorem opens_string (ht : P.underlying t = some .string) : Opens P t Kd.string GStr := by
  intro H enc w n cs x h hm
  obtain ⟨s, rfl, rfl, _⟩ := DataW.trod_string ht h
  refine ⟨s, rfl, ?_⟩
  have := hm s.data.toList.length (by simp [DataW.weights])
  rw [Array.length_toList] at this
  exact this

/-- A list out of what is told of each place. -/
theorem list_of {α : Type} {p : Nat → α → Prop} : ∀ n : Nat, (∀ i, i < n → ∃ x, p i x) → ∃ xs : List α, xs.length = n ∧ ∀ i x, xs[i]? = some x → p i x
  | 0, _ => ⟨[], rfl, fun i x h => by simp at h⟩
  | n + 1, h => by
    obtain ⟨xs, hl, hx⟩ := list_of n (fun i hi => h i (by omega))
    obtain ⟨y, hy⟩ := h n (by omega)
    refine ⟨xs ++ [y], by simp [hl], fun i x hi => ?_⟩
    rcases Nat.lt_or_ge i n with hin | hin
    · rw [List.getElem?_append_left (by omega)] at hi
      exact hx i x hi
    · have hi2 := (List.getElem?_eq_some_iff.1 hi).1
      rw [List.length_append, List.length_singleton] at hi2
      have : i = n := by omega
      subst this
      rw [List.getElem?_append_right (by omega), hl, Nat.sub_self] at hi
      simp at hi
      subst hi
      exact hy

theorem opens_slice {e : TypeId} {α : Type} {k : Kd α} {G : α → Prop} {B : Nat} (ht : P.underlying t = some (.slice e)) (hc : P.cellsOf e = k.sz) (hB : P.bytesOf e = B) (h : Opens P e k G) :
    Opens P t (Kd.slice e k) (GList B G) := by
  intro H enc w n cs x hx hm
  rcases Go.Deep.open_slice ht hx with ⟨rfl, rfl⟩ | ⟨a, len, cap, m, n', D, Pl, rfl, _, hl, hcap, hmm, rfl, hi⟩
  · exact ⟨[], ⟨none, 0, rfl, Nat.le_refl _, rfl, by simp, fun h => absurd h (by simp)⟩, by simp, fun x hx => by cases hx⟩
  · simp only [if_true] at hmm
    subst hmm
    have hw : ∀ i, i < len → ∀ z ∈ DataW.weights P e (D i), z ≤ reachBytes := by
      intro i hil z hz
      refine hm z ?_
      simp only [DataW.weights, ht, List.mem_cons, List.mem_append]
      right; left
      have : ∀ (l : List (DataW H)), D i ∈ l → z ∈ DataW.weightsAll P e l := by
        intro l
        induction l with
        | nil => intro h; cases h
        | cons d l ih =>
          intro hd
          simp only [DataW.weightsAll, List.mem_append]
          rcases List.mem_cons.1 hd with rfl | hd
          · exact Or.inl hz
          · exact Or.inr (ih hd)
      exact this _ (List.mem_map.2 ⟨i, List.mem_range.2 hil, rfl⟩)
    obtain ⟨xs, hxl, hxs⟩ := list_of (p := fun i y => ∃ c, w.cells? 0 (a.add (i * P.cellsOf e)) (P.cellsOf e) = some c ∧ k.K w y c ∧ G y) len (fun i hil => by
      obtain ⟨c, h1, h2⟩ := hi i (by omega)
      obtain ⟨y, h3, h4⟩ := h H enc w n' c _ h2 (hw i hil)
      exact ⟨y, c, h1, h3, h4⟩)
    refine ⟨xs, ⟨some a, m, by rw [hxl], by omega, rfl, ?_, fun _ => ⟨a, rfl, fun j p hj => ?_⟩⟩, ?_, ?_⟩
    · simp only [maxLen] at hcap
      omega
    · obtain ⟨c, h1, h2, _⟩ := hxs j p hj
      obtain ⟨_, hcl, hcc⟩ := World.cells?_some h1
      refine ⟨c, by rw [hcl, hc], h2, fun i u hu => ?_⟩
      have hil : i < P.cellsOf e := by rw [← hcl]; exact (List.getElem?_eq_some_iff.1 hu).1
      rw [← hc, ← Go.Deep.add_add, hcc i hil, hu]
    · have := hm ((((List.range len).map D).length + ((List.range (m - len)).map fun j => D (len + j)).length) * P.bytesOf e) (by simp [DataW.weights, ht])
      simp only [List.length_map, List.length_range, hB] at this
      rw [hxl]
      exact Nat.le_trans (Nat.mul_le_mul_right _ (by omega)) this
    · intro x hx
      obtain ⟨j, hj⟩ := List.mem_iff_getElem?.1 hx
      obtain ⟨_, _, _, h4⟩ := hxs j x hj
      exact h4

theorem opensF_one {f : Field} {off : Nat} {α : Type} {k : Kd α} {G : α → Prop} (ho : f.offset = off) (hc : P.cellsOf f.type = k.sz) (h : Opens P f.type k G) : OpensF P [f] off k G := by
  intro H enc w n cs xs hl hx hi hm
  obtain ⟨x, rfl⟩ : ∃ x, xs = [x] := by
    match xs, hx with
    | [x], _ => exact ⟨x, rfl⟩
  have h0 := hi 0 f rfl
  rw [ho, hc, List.take_of_length_le (by rw [List.length_drop]; omega)] at h0
  exact h H enc w n _ x h0 (fun m hm' => hm m (by simpa [DataW.weightsEach] using hm'))

theorem opensF_cons {f : Field} {fs : List Field} {off : Nat} {α β : Type} {k : Kd α} {k' : Kd β} {G : α → Prop} {G' : β → Prop} (ho : f.offset = off) (hc : P.cellsOf f.type = k.sz) (h : Opens P f.type k G) (h' : OpensF P fs (off + k.sz) k' G') :
    OpensF P (f :: fs) off (Kd.pair k k') (GPair G G') := by
  intro H enc w n cs xs hl hx hi hm
  obtain ⟨x, xs', rfl⟩ : ∃ x xs', xs = x :: xs' := by
    match xs, hx with
    | x :: xs', _ => exact ⟨x, xs', rfl⟩
  have hl' : cs.length = off + (k.sz + k'.sz) := hl
  have h0 := hi 0 f rfl
  rw [ho, hc] at h0
  obtain ⟨a, ha, hG⟩ := h H enc w n _ x h0 (fun m hm' => hm m (by simp only [List.map_cons, DataW.weightsEach, List.mem_append]; exact Or.inl hm'))
  obtain ⟨b, hb, hG'⟩ := h' H enc w n cs xs' (by omega) (by simpa using hx) (fun i f' hf' => by simpa using hi (i + 1) f' (by simpa using hf')) (fun m hm' => hm m (by simp only [List.map_cons, DataW.weightsEach, List.mem_append]; exact Or.inr hm'))
  refine ⟨(a, b), ⟨_, _, ?_, ha, hb⟩, hG, hG'⟩
  rw [← List.drop_drop, List.take_append_drop]

theorem opens_struct {fs : Array Field} {fl : List Field} {α : Type} {k : Kd α} {G : α → Prop} (ht : P.underlying t = some (.struct fs)) (hfl : fs.toList = fl) (hz : P.cellsOf t = k.sz) (h : OpensF P fl 0 k G) : Opens P t k G := by
  intro H enc w n cs x hx hm
  obtain ⟨xs, n', _, rfl, hl, hlen, hi⟩ := DataW.trod_struct ht hx
  have h0 := h H enc w n' cs xs (by omega) (by rw [hlen, ← hfl, Array.length_toList]) (fun i f hf => hi i f (by rw [← hfl] at hf; simpa using hf)) (fun m hm' => hm m (by
    simp only [DataW.weights, ht]
    rw [hfl]
    exact hm'))
  simpa using h0

theorem opens_iso {α β : Type} {k : Kd α} {G : α → Prop} (g : β → α) (mk : α → β) (hg : ∀ a, g (mk a) = a) (h : Opens P t k G) : Opens P t (Kd.iso k g) (GIso G g) := by
  intro H enc w n cs x hx hm
  obtain ⟨a, ha, hG⟩ := h H enc w n cs x hx hm
  exact ⟨mk a, by show k.K w (g (mk a)) cs; rw [hg]; exact ha, by show G (g (mk a)); rw [hg]; exact hG⟩

/-- A parameter, opened. -/
theorem opens_param {H : Type} {enc : TypeId × Value → H} {w : World} {α : Type} {k : Kd α} {G : α → Prop} {v : Value} {d : DataW H} {ps : List MemPlace} {ts : List TypeId} {ds : List (DataW H)} {j : Nat}
    (ho : Opens P t k G) (hsz : (DataW.weightsEach P ts ds).all (· ≤ reachBytes) = true) (ht : ts[j]? = some t) (hd : ds[j]? = some d) (h : DataW.Trod enc P w 0 (fun _ => true) true t v d ps) :
    ∃ a : α, k.K w a v.cells.toList ∧ G a := by
  obtain ⟨fuel, hf⟩ := h
  refine ho H enc w fuel _ _ hf (fun m hm => ?_)
  have := List.all_eq_true.1 hsz m (DataW.weights_mem_each ht hd m hm)
  simpa using this

/-- The places of a reading lie in memory. -/
theorem trod_lt {H : Type} {enc : TypeId × Value → H} {w : World} {v : Value} {d : DataW H} {ps : List MemPlace} (h : DataW.Trod enc P w 0 (fun _ => true) true t v d ps) : ∀ x ∈ ps, x.block < w.heap.size := by
  obtain ⟨m, hm⟩ := h
  exact DataW.trod_lt m _ _ _ hm

end Go.Proofs.Ytnmnmmcpajpfgaa.Open

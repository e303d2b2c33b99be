/- Arguments of any readable kind, opened to the kinds of the print's words: plain lemmas, over any program. No condition. -/
import Derived.Test.YtmgmidipijpkdaaWWords
import Derived.SizedLaws
import Derived.OpenShut
import Derived.ChangeSlices
import Derived.Deep.Slices
import Derived.Deep.Fields
import Derived.ChangeSame
namespace Go.Proofs.Ytmgmidipijpkdaa.Open
open Go.ChangeShapes Go.WideShapes Go.RowKit Go.Deep Go.Proofs.YtmgmidipijpkdaaW.PrintWords

section
variable {H : Type}

/-- What is read at a type is a value of a kind, and the value is well formed. -/
def Opens (enc : TypeId × Value → H) (P : Program) (W : World) (t : TypeId) {α : Type} (d : Kd α) (wf : α → Prop) : Prop :=
  ∀ (base : Nat) (spare : Nat → Bool) (held : Bool) (fuel : Nat) (cs : List Value) (y : DataW H × List MemPlace), DataW.trod enc P W base spare held fuel t cs = some y → ∃ x, d.K W x cs ∧ wf x

variable {enc : TypeId × Value → H} {P : Program} {W : World}

theorem opens_int {t : TypeId} {k : IntKind} (ht : P.underlying t = some (.int k)) : Opens enc P W t (Kd.int k) (fun n => (Lit.int k n).wf = true) := by
  intro base spare held fuel cs y h
  obtain ⟨n, hcs, _, hw⟩ := DataW.trod_int ht h
  exact ⟨n, hcs, hw⟩

theorem opens_bool {t : TypeId} (ht : P.underlying t = some .bool) : Opens enc P W t Kd.bool (fun _ => True) := by
  intro base spare held fuel cs y h
  obtain ⟨n, hcs, _⟩ := DataW.trod_bool ht h
  exact ⟨n, hcs, trivial⟩

theorem opens_string {t : TypeId} (ht : P.underlying t = some .string) : Opens enc P W t Kd.string (fun s => s.size ≤ maxLen) := by
  intro base spare held fuel cs y h
  obtain ⟨n, hcs, _, hw⟩ := DataW.trod_string ht h
  exact ⟨n, hcs, hw⟩

theorem opens_slice {t e : TypeId} {α : Type} {d : Kd α} {wf : α → Prop} (ht : P.underlying t = some (.slice e)) (hC : P.cellsOf e = d.sz) (he : Opens enc P W e d wf) :
    Opens enc P W t (Kd.slice e d) (fun xs => ∀ x ∈ xs, wf x) := by
  intro base spare held fuel cs y h
  rcases open_slice ht h with ⟨rfl, _⟩ | ⟨a, len, cap, m, n, D, Pl, rfl, _, hl, hm, hmm, _, hi⟩
  · exact ⟨[], ⟨none, 0, rfl, Nat.le_refl _, rfl, by simp, fun hp => absurd hp (by simp)⟩, by simp⟩
  · have hlm : len ≤ m := by rw [hmm]; split <;> omega
    have hx : ∀ i, i < len → ∃ x, (∃ c, c.length = d.sz ∧ d.K W x c ∧ ∀ j u, c[j]? = some u → W.cell? (a.add (i * d.sz + j)) = some u) ∧ wf x := by
      intro i hil
      obtain ⟨cs', hc, ht'⟩ := hi i (by omega)
      obtain ⟨x, hK, hw⟩ := he _ _ _ _ _ _ ht'
      obtain ⟨_, hcl, hat⟩ := World.cells?_some hc
      refine ⟨x, ⟨cs', by rw [hcl, hC], hK, fun j u hu => ?_⟩, hw⟩
      have hj : j < cs'.length := (List.getElem?_eq_some_iff.1 hu).1
      have := hat j (by omega)
      rw [hC] at this
      rw [← Go.Deep.add_add, this, hu]
    have hall : ∀ k, k ≤ len → ∃ xs : List α, xs.length = k ∧ ∀ i x, xs[i]? = some x → (∃ c, c.length = d.sz ∧ d.K W x c ∧ ∀ j u, c[j]? = some u → W.cell? (a.add (i * d.sz + j)) = some u) ∧ wf x := by
      intro k
      induction k with
      | zero => exact fun _ => ⟨[], rfl, fun i x h => by simp at h⟩
      | succ k ih =>
        intro hk
        obtain ⟨xs, hxl, hxs⟩ := ih (by omega)
        obtain ⟨x, hx1⟩ := hx k (by omega)
        refine ⟨xs ++ [x], by simp [hxl], fun i z hz => ?_⟩
        by_cases hik : i < xs.length
        · rw [List.getElem?_append_left hik] at hz
          exact hxs i z hz
        · have hi2 : i = k := by
            have := (List.getElem?_eq_some_iff.1 hz).1
            simp at this
            omega
          subst hi2
          rw [List.getElem?_append_right (by omega)] at hz
          have : x = z := by simpa [hxl] using hz
          subst this
          exact hx1
    obtain ⟨xs, hxl, hxs⟩ := hall len (Nat.le_refl _)
    refine ⟨xs, ⟨some a, cap, by rw [hxl], by omega, rfl, by unfold maxLen at hm; omega, fun _ => ⟨a, rfl, fun j p hp => (hxs j p hp).1⟩⟩, fun x hx => ?_⟩
    obtain ⟨i, hi⟩ := List.getElem?_of_mem hx
    exact (hxs i x hi).2

/-- Fields in line: each cut of the cells reads at its type. -/
def FT (enc : TypeId × Value → H) (P : Program) (W : World) : List TypeId → List Value → Prop
  | [], cs => cs = []
  | t :: ts, cs => ∃ c1 c2, cs = c1 ++ c2 ∧ (∃ base spare held fuel y, DataW.trod enc P W base spare held fuel t c1 = some y) ∧ FT enc P W ts c2

def OpensF (enc : TypeId × Value → H) (P : Program) (W : World) (ts : List TypeId) {α : Type} (d : Kd α) (wf : α → Prop) : Prop :=
  ∀ cs, FT enc P W ts cs → ∃ x, d.K W x cs ∧ wf x

theorem opensF_one {t : TypeId} {α : Type} {d : Kd α} {wf : α → Prop} (h : Opens enc P W t d wf) : OpensF enc P W [t] d wf := by
  rintro cs ⟨c1, c2, rfl, ⟨b, s, hd, f, y, hy⟩, rfl⟩
  rw [List.append_nil]
  exact h _ _ _ _ _ _ hy

theorem opensF_cons {t : TypeId} {ts : List TypeId} {α β : Type} {d : Kd α} {wf : α → Prop} {d' : Kd β} {wf' : β → Prop} (h : Opens enc P W t d wf) (h' : OpensF enc P W ts d' wf') :
    OpensF enc P W (t :: ts) (Kd.pair d d') (fun p => wf p.1 ∧ wf' p.2) := by
  rintro cs ⟨c1, c2, rfl, ⟨b, s, hd, f, y, hy⟩, h2⟩
  obtain ⟨x, hx, hw⟩ := h _ _ _ _ _ _ hy
  obtain ⟨x', hx', hw'⟩ := h' _ h2
  exact ⟨(x, x'), ⟨c1, c2, rfl, hx, hx'⟩, hw, hw'⟩

/-- Do the fields stand one behind the other, from `off` on, up to `total`? -/
def inLine (P : Program) (total : Nat) : List Field → Nat → Bool
  | [], off => off == total
  | f :: r, off => f.offset == off && inLine P total r (off + P.cellsOf f.type)

theorem ft_of (fs : List Field) : ∀ (total off : Nat) (cs : List Value), inLine P total fs off = true → cs.length = total →
    (∀ f ∈ fs, ∃ base spare held fuel y, DataW.trod enc P W base spare held fuel f.type ((cs.drop f.offset).take (P.cellsOf f.type)) = some y) → FT enc P W (fs.map (·.type)) (cs.drop off) := by
  induction fs with
  | nil =>
    intro total off cs hl hlen _
    simp [inLine] at hl
    subst hl
    show cs.drop off = []
    rw [List.drop_eq_nil_iff]
    omega
  | cons f r ih =>
    intro total off cs hl hlen hf
    simp [inLine] at hl
    obtain ⟨rfl, hl⟩ := hl
    obtain ⟨b, s, hd, fu, y, hy⟩ := hf f (by simp)
    refine ⟨(cs.drop f.offset).take (P.cellsOf f.type), cs.drop (f.offset + P.cellsOf f.type), ?_, ⟨b, s, hd, fu, y, hy⟩, ih total _ cs hl hlen (fun g hg => hf g (by simp [hg]))⟩
    rw [← List.drop_drop, List.take_append_drop]

theorem opens_struct {t : TypeId} {fs : Array Field} {α β : Type} {d : Kd α} {wf : α → Prop} {f : β → α} (ht : P.underlying t = some (.struct fs)) (hl : inLine P (P.cellsOf t) fs.toList 0 = true)
    (h : OpensF enc P W (fs.toList.map (·.type)) d wf) (hf : ∀ p, ∃ x, f x = p) : Opens enc P W t (Kd.iso d f) (fun x => wf (f x)) := by
  intro base spare held fuel cs y hy
  obtain ⟨xs, n, _, _, hlen, hxl, hg⟩ := DataW.trod_struct ht hy
  have hft : FT enc P W (fs.toList.map (·.type)) (cs.drop 0) := by
    refine ft_of fs.toList _ 0 cs hl hlen (fun g hgm => ?_)
    obtain ⟨i, hi⟩ := List.getElem?_of_mem hgm
    have hi' : fs[i]? = some g := by simpa using hi
    have h1 := hg i g hi'
    have hil : i < xs.length := by rw [hxl]; exact (Array.getElem?_eq_some_iff.1 hi').1
    rw [List.getElem?_eq_getElem hil] at h1
    exact ⟨_, _, _, _, _, h1⟩
  rw [List.drop_zero] at hft
  obtain ⟨p, hK, hw⟩ := h cs hft
  obtain ⟨x, rfl⟩ := hf p
  exact ⟨x, hK, hw⟩

theorem fta_of {e : TypeId} {n : Nat} {cs : List Value} (hlen : cs.length = n * P.cellsOf e) (k : Nat) : ∀ i, i + k = n →
    (∀ j, j < n → ∃ base spare held fuel y, DataW.trod enc P W base spare held fuel e ((cs.drop (j * P.cellsOf e)).take (P.cellsOf e)) = some y) → FT enc P W (List.replicate k e) (cs.drop (i * P.cellsOf e)) := by
  induction k with
  | zero =>
    intro i hi _
    show cs.drop (i * P.cellsOf e) = []
    rw [List.drop_eq_nil_iff, hlen, show i = n by omega]
    exact Nat.le_refl _
  | succ k ih =>
    intro i hi hf
    obtain ⟨b, s, hd, fu, y, hy⟩ := hf i (by omega)
    refine ⟨(cs.drop (i * P.cellsOf e)).take (P.cellsOf e), cs.drop ((i + 1) * P.cellsOf e), ?_, ⟨b, s, hd, fu, y, hy⟩, ih (i + 1) (by omega) hf⟩
    rw [Nat.add_mul, Nat.one_mul, ← List.drop_drop, List.take_append_drop]

theorem opens_array {t e : TypeId} {n : Nat} {α β : Type} {d : Kd α} {wf : α → Prop} {f : β → α} (ht : P.underlying t = some (.array n e)) (hl : P.cellsOf t = n * P.cellsOf e)
    (h : OpensF enc P W (List.replicate n e) d wf) (hf : ∀ p, ∃ x, f x = p) : Opens enc P W t (Kd.iso d f) (fun x => wf (f x)) := by
  intro base spare held fuel cs y hy
  obtain ⟨xs, m, _, _, hlen, hxl, hg⟩ := DataW.trod_array ht hy
  have hft : FT enc P W (List.replicate n e) (cs.drop (0 * P.cellsOf e)) := by
    refine fta_of (by rw [hlen, hl]) n 0 (by omega) (fun j hj => ?_)
    have h1 := hg j hj
    rw [List.getElem?_eq_getElem (by omega)] at h1
    exact ⟨_, _, _, _, _, h1⟩
  rw [Nat.zero_mul, List.drop_zero] at hft
  obtain ⟨p, hK, hw⟩ := h cs hft
  obtain ⟨x, rfl⟩ := hf p
  exact ⟨x, hK, hw⟩

/-- A parameter that is a slice. -/
theorem open_row {t e : TypeId} {α : Type} {d : Kd α} {wf : α → Prop} {base : Nat} {spare : Nat → Bool} {held : Bool} {a : Option Addr} {len cap : Nat} {D : DataW H} {ps : List MemPlace}
    (ht : P.underlying t = some (.slice e)) (hC : P.cellsOf e = d.sz) (he : Opens enc P W e d wf) (h : DataW.Trod enc P W base spare held t (.slice a len cap) D ps) :
    ∃ xs : List α, len = xs.length ∧ xs.length ≤ cap ∧ Kd.C d W a xs.length xs ∧ ∀ x ∈ xs, wf x := by
  obtain ⟨fuel, hf⟩ := h
  obtain ⟨xs, ⟨A, c, he1, hl, hC'⟩, hw⟩ := opens_slice ht hC he _ _ _ _ _ _ hf
  simp [Value.cells] at he1
  obtain ⟨rfl, rfl, rfl⟩ := he1
  exact ⟨xs, rfl, hl, hC', hw⟩

/-- .. and how long it is at most. -/
theorem sized_row {t e : TypeId} {base : Nat} {spare : Nat → Bool} {held : Bool} {a : Option Addr} {len cap : Nat} {D : DataW H} {ps : List MemPlace} {ts : List TypeId} {ds : List (DataW H)} {j : Nat}
    (hsz : (DataW.weightsEach P ts ds).all (· ≤ reachBytes) = true) (hts : ts[j]? = some t) (hds : ds[j]? = some D) (hu : P.underlying t = some (.slice e)) {B : Nat} (hB : P.bytesOf e = B)
    (h : DataW.Trod enc P W base spare held t (.slice a len cap) D ps) : len * B ≤ 140737488351232 := by
  obtain ⟨fuel, hf⟩ := h
  rcases open_slice hu hf with ⟨hcs, _⟩ | ⟨x, l, c, m, n, DD, Pl, hcs, _, hl, _, hmm, hx, _⟩
  · simp [Value.cells] at hcs
    obtain ⟨rfl, rfl, rfl⟩ := hcs
    simp
  · simp [Value.cells] at hcs
    obtain ⟨rfl, rfl, rfl⟩ := hcs
    obtain ⟨hx, _⟩ := Prod.mk.inj hx
    subst hx
    have z := sized_slice hsz hts hds hu
    rw [hB] at z
    simp only [List.length_map, List.length_range] at z
    exact Nat.le_trans (Nat.mul_le_mul_right _ (by omega)) z

/-- A parameter that is a struct. -/
theorem open_whole {t : TypeId} {fs : Array Field} {α : Type} {d : Kd α} {wf : α → Prop} {r : Reach} {b0 base : Nat} {spare : Nat → Bool} {held : Bool} {v : Value} {D : DataW H} {ps : List MemPlace}
    (hs : P.underlying t = some (.struct fs)) (ho : Opens enc P W t d wf) (hv : Value.okWide P W r b0 t v) (h : DataW.Trod enc P W base spare held t v D ps) :
    ∃ (x : α) (cs : List Value), v = .agg cs.toArray ∧ d.K W x cs ∧ wf x := by
  obtain ⟨cs, rfl, _⟩ := okWide_struct hs hv
  obtain ⟨fuel, hf⟩ := h
  obtain ⟨x, hK, hw⟩ := ho _ _ _ _ _ _ hf
  exact ⟨x, cs.toList, by simp, by simpa [Value.cells] using hK, hw⟩
/-- A parameter that is an array. -/
theorem open_wholeA {t : TypeId} {n : Nat} {e : TypeId} {α : Type} {d : Kd α} {wf : α → Prop} {r : Reach} {b0 base : Nat} {spare : Nat → Bool} {held : Bool} {v : Value} {D : DataW H} {ps : List MemPlace}
    (hs : P.underlying t = some (.array n e)) (ho : Opens enc P W t d wf) (hv : Value.okWide P W r b0 t v) (h : DataW.Trod enc P W base spare held t v D ps) :
    ∃ (x : α) (cs : List Value), v = .agg cs.toArray ∧ d.K W x cs ∧ wf x := by
  have hv' := hv
  simp only [Value.okWide, hs] at hv'
  obtain ⟨cs, rfl, _⟩ := hv'
  obtain ⟨fuel, hf⟩ := h
  obtain ⟨x, hK, hw⟩ := ho _ _ _ _ _ _ hf
  exact ⟨x, cs.toList, by simp, by simpa [Value.cells] using hK, hw⟩
end
end Go.Proofs.Ytmgmidipijpkdaa.Open

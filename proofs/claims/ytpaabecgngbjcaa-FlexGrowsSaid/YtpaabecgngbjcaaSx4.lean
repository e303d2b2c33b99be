/- Symbolic running of the program's code, over any program, with its proof (4 of 4): definitions and lemmas. No condition. -/
import Derived.Test.YtpaabecgngbjcaaSx3
import Derived.Orders
import Derived.OpenShut
import Derived.SizedLaws
import Derived.Deep.Slices
import Derived.Deep.Fields
import Derived.ChangeSame
set_option linter.unusedVariables false
set_option linter.unusedSimpArgs false
namespace Go.Proofs.Ytpaabecgngbjcaa.Sx
open Go.RowKit

def Sh.bare : Sh → Bool
  | .leaf k => !k.isRow
  | .agg ks => !ks.any LK.isRow
  | .own _ => false

/-- No row of its own. -/
def Sh.nown : Sh → Bool
  | .own _ => false
  | _ => true

section
variable {P : Program} {X : Env} {W0 : World} {φ : Names} {ρ : List PV} {σ : St} {a : Act} {fs : List Act} {w : World} {nx : Nat} {U : Nat → Prop}

/-- A call by its contract, told by variables that are there. -/
theorem owned_call {sigs : Nat → Option Sig} {C : Nat → List PV → Option (List PV)} (hC : CallOk P sigs C) {f : Nat} {sg : Sig} (hsg : sigs f = some sg) {args : List SV} {vs : List Value} {es : List Ex}
    (h : Rel X W0 φ ρ σ fs w) (hargs : SVRs w X φ ρ σ.nx args vs) (hes : argLeaves σ sg.ps args = some es) {ps : List PV} (hCf : C f (es.map (·.den ρ)) = some ps) {nv0 : Nat} (hat : ∀ i p, ps[i]? = some p → ρ[nv0 + i]? = some p) :
    Calls P f vs.toArray w fun e w' => ∃ v, e = .returned v ∧ ∃ φ', Evo X φ φ' σ.nx w w' ∧ Rel X W0 φ' ρ { σ with nx := σ.nx + (resSV sg.rs nv0 σ.nx).2.1.length, heap := (resSV sg.rs nv0 σ.nx).2.1 ++ (if sg.rs.any Sh.frozen then dels σ.heap (ownNames args) else σ.heap) } fs w' ∧
      SVR w' X φ' ρ (σ.nx + (resSV sg.rs nv0 σ.nx).2.1.length) (oneOf (resSV sg.rs nv0 σ.nx).1) v := by
  -- the rows of our own that are handed out
  let Xc : Nat → Prop := fun b => Owned X φ b ∧ ¬ ∃ m ∈ ownNames args, ∃ kk, φ m = some kk ∧ kk.g = some b
  obtain ⟨fes, hA⟩ := argLeaves_sound h (U := Xc) (fun b hb => hb.1) sg.ps args es vs hargs hes (fun m hm kk g hk hg hb => hb.2 ⟨m, hm, kk, hk, hg⟩)
  have hXlt : ∀ b, Xc b → b < w.heap.size := by
    intro b hb
    rcases hb.1 with hx | ⟨m, kk, hm, hg⟩
    · have := h.old.1 b hx; have := h.size_le; omega
    · exact (h.low m kk b hm hg).2
  refine (hC f sg hsg _ ps hCf w vs Xc hXlt hA).mono fun e w' hpost => ?_
  obtain ⟨v, rfl, hbel, us, ψ, rfl, hR, hψlow, hψinj, hψn⟩ := hpost
  refine ⟨_, rfl, ?_⟩
  let killed := if sg.rs.any Sh.frozen then ownNames args else []
  let φ' := called φ ψ σ.nx killed
  have hold : ∀ m kk, φ' m = some kk → m < σ.nx → φ m = some kk ∧ m ∉ killed := by
    intro m kk hm hlt
    simp only [φ', called, if_pos hlt] at hm
    split at hm
    · cases hm
    · rename_i hnk; exact ⟨hm, hnk⟩
  have hnew : ∀ m kk, φ' m = some kk → ¬ m < σ.nx → ψ (m - σ.nx) = some kk := by
    intro m kk hm hlt
    simp only [φ', called, if_neg hlt] at hm
    exact hm
  have hsame : ∀ b, b < w.heap.size → w'.heap[b]? = w.heap[b]? := fun b hb => hbel.block b hb
  have ev : Evo X φ φ' σ.nx w w' := by
    refine ⟨hbel.size, fun b hb _ => hsame b hb, fun l kk g c hl hk hg hc => ⟨c, by rw [hsame g (Array.getElem?_eq_some_iff.1 hc).1]; exact hc, rfl⟩, fun l hl => ?_, fun b hb ho => ?_⟩
    · simp only [φ', called, if_pos hl]
      split
      · exact .inr rfl
      · exact .inl rfl
    · rcases ho with hx | ⟨m, kk, hm, hg⟩
      · exact .inl hx
      · by_cases hlt : m < σ.nx
        · exact .inr ⟨m, kk, (hold m kk hm hlt).1, hg⟩
        · have := hψlow _ _ _ (hnew m kk hm hlt) hg
          omega
  -- the results, as our own names tell them
  have hR' : ResR w' (Owned X φ') ψ 0 sg.rs ps us := by
    by_cases hfz : sg.rs.any Sh.frozen = true
    · refine ResR.turn (fun b _ hn ho => hn ?_) 0 sg.rs ps us hR
      rcases ho with hx | ⟨m, kk, hm, hg⟩
      · left
        refine ⟨.inl hx, ?_⟩
        rintro ⟨m, _, kk, hm, hg⟩
        have := h.old.1 b hx
        have := (h.low m kk b hm hg).1
        omega
      · by_cases hlt : m < σ.nx
        · obtain ⟨hφ, hnk⟩ := hold m kk hm hlt
          left
          refine ⟨.inr ⟨m, kk, hφ, hg⟩, ?_⟩
          rintro ⟨m', hm', kk', hk', hg'⟩
          have := h.inj m m' kk kk' b hφ hk' hg hg'
          subst this
          simp only [killed, hfz, if_true] at hnk
          exact hnk hm'
        · exact .inr ⟨_, kk, hnew m kk hm hlt, hg⟩
    · exact ResR.plain 0 sg.rs ps us (by simpa using hfz) hR
  have hψφ : ∀ i kk, ψ i = some kk → φ' (σ.nx + i) = some kk := by
    intro i kk hk
    simp only [φ', called]
    rw [if_neg (by omega), show σ.nx + i - σ.nx = i by omega]
    exact hk
  have hρ := hat
  obtain ⟨q1, q2, q3, q4⟩ := resSV_sound (NX := σ.nx + ownCount sg.rs) hψφ sg.rs 0 nv0 ps us hR' hρ (by omega)
  simp only [Nat.add_zero] at q1 q2 q3 q4
  refine ⟨φ', ev, ?_, ?_⟩
  · have pre : ρ <+: ρ := List.prefix_refl _
    have hnx : σ.nx + (resSV sg.rs nv0 σ.nx).2.1.length = σ.nx + ownCount sg.rs := by rw [q3]
    refine ⟨h.below.trans (hbel.mono h.size_le), h.old, fun l kk g hl hg => ?_, fun l l' kk kk' g hl hl' hg hg' => ?_, fun l kk hl => ?_, h.nv, fun c b hc => ?_, ?_, fun l o hl => ?_⟩
    · by_cases hlt : l < σ.nx
      · have := h.low l kk g (hold l kk hl hlt).1 hg
        have := hbel.size
        omega
      · have := hψlow _ _ _ (hnew l kk hl hlt) hg
        have := h.size_le
        omega
    · by_cases hlt : l < σ.nx
      · by_cases hlt' : l' < σ.nx
        · exact h.inj l l' kk kk' g (hold l kk hl hlt).1 (hold l' kk' hl' hlt').1 hg hg'
        · have := (h.low l kk g (hold l kk hl hlt).1 hg).2
          have := hψlow _ _ _ (hnew l' kk' hl' hlt') hg'
          omega
      · by_cases hlt' : l' < σ.nx
        · have := (h.low l' kk' g (hold l' kk' hl' hlt').1 hg').2
          have := hψlow _ _ _ (hnew l kk hl hlt) hg
          omega
        · have := hψinj _ _ _ _ g (hnew l kk hl hlt) (hnew l' kk' hl' hlt') hg hg'
          omega
    · show l < σ.nx + (resSV sg.rs nv0 σ.nx).2.1.length
      rw [hnx]
      by_cases hlt : l < σ.nx
      · omega
      · have := hψn _ _ (hnew l kk hl hlt)
        omega
    · obtain ⟨hf, hb⟩ := h.known c b hc
      exact ⟨Ex.fits_mono pre.length_le c hf, by rw [Ex.den_ext pre c hf]; exact hb⟩
    · show FrsR w' X φ' ρ (σ.nx + (resSV sg.rs nv0 σ.nx).2.1.length) σ.fr fs
      exact FrsR.evo ev pre (by omega) _ _ h.frames
    · show ∃ k, φ' l = some k ∧ ObR w' X φ' ρ (σ.nx + (resSV sg.rs nv0 σ.nx).2.1.length) k o
      rw [hnx]
      have hl' : look ((resSV sg.rs nv0 σ.nx).2.1 ++ (if sg.rs.any Sh.frozen then dels σ.heap (ownNames args) else σ.heap)) l = some o := hl
      have look_app : ∀ (x y : List (Nat × Ob)), look (x ++ y) l = match look x l with | some o => some o | none => look y l := by
        intro x y
        induction x with
        | nil => rfl
        | cons z x ih =>
          obtain ⟨i, ob⟩ := z
          simp only [List.cons_append, look]
          split
          · rfl
          · exact ih
      rw [look_app] at hl'
      split at hl'
      · rename_i o' ho'
        cases hl'
        exact (q4 l o ho').2
      · have hk' : look σ.heap l = some o ∧ l ∉ killed := by
          simp only [killed]
          split at hl'
          · rename_i hfz
            rw [look_dels] at hl'
            split at hl'
            · cases hl'
            · rename_i hnm; rw [if_pos hfz]; exact ⟨hl', hnm⟩
          · rename_i hfz
            rw [if_neg hfz]
            exact ⟨hl', by simp⟩
        obtain ⟨kk, hkk, hob⟩ := h.heap l o hk'.1
        have hlt := h.names l kk hkk
        refine ⟨kk, ?_, ObR.evo ev pre (by omega) (fun g hg => hsame g (h.low l kk g hkk hg).2) o hob⟩
        simp only [φ', called, if_pos hlt, if_neg hk'.2]
        exact hkk
  · show SVR w' X φ' ρ (σ.nx + (resSV sg.rs nv0 σ.nx).2.1.length) (oneOf (resSV sg.rs nv0 σ.nx).1) (oneV us)
    rw [q3]
    exact oneOf_sound q1

theorem bare_frozen : ∀ {rs : List Sh}, rs.all Sh.bare = true → rs.any Sh.frozen = false ∧ ownCount rs = 0
  | [], _ => ⟨rfl, rfl⟩
  | s :: r, h => by
    simp only [List.all_cons, Bool.and_eq_true] at h
    obtain ⟨h1, h2⟩ := bare_frozen h.2
    have h0 := h.1
    cases s with
    | leaf k => exact ⟨by simp only [Sh.bare] at h0; simp only [List.any_cons, Sh.frozen, h1, Bool.or_false]; simpa using h0, h2⟩
    | agg ks => exact ⟨by simp only [Sh.bare] at h0; simp only [List.any_cons, Sh.frozen, h1, Bool.or_false]; simpa using h0, h2⟩
    | own ks => simp [Sh.bare] at h0

theorem bare_svrs {ψ : Names} : ∀ (rs : List Sh) (j nv nx0 : Nat) (ps : List PV) (vs : List Value), rs.all Sh.bare = true → ResR w U ψ j rs ps vs → (∀ i p, ps[i]? = some p → ρ[nv + i]? = some p) → SVRs w X φ ρ nx (resSV rs nv nx0).1 vs
  | [], j, nv, nx0, ps, vs, _, h, _ => by
    simp only [ResR] at h
    simp only [resSV, h.2, SVRs]
  | .leaf k :: r, j, nv, nx0, ps, vs, hb, h, hp => by
    simp only [List.all_cons, Bool.and_eq_true] at hb
    simp only [ResR] at h
    obtain ⟨p, ps', v, vs', rfl, rfl, h1, h2⟩ := h
    have h0 : ρ[nv]? = some p := hp 0 p rfl
    simp only [resSV, SVRs]
    refine ⟨v, vs', rfl, ?_, bare_svrs r j (nv + 1) nx0 ps' vs' hb.2 h2 (fun i q hq => by have := hp (i + 1) q (by simpa using hq); rw [← this]; congr 1; omega)⟩
    simp only [SVR, Ex.fits, Ex.den, decide_eq_true_eq]
    exact ⟨(List.getElem?_eq_some_iff.1 h0).1, by rw [getD_of h0]; exact RV.plain (by simpa [Sh.bare] using hb.1) h1⟩
  | .agg ks :: r, j, nv, nx0, ps, vs, hb, h, hp => by
    simp only [List.all_cons, Bool.and_eq_true] at hb
    simp only [ResR] at h
    obtain ⟨qs, ps', cs, vs', rfl, rfl, h1, h2⟩ := h
    simp only [resSV, SVRs]
    have hlen := h1.length.1
    refine ⟨_, vs', rfl, ?_, bare_svrs r j (nv + ks.length) nx0 ps' vs' hb.2 h2 (fun i q hq => by have := hp (qs.length + i) q (by rw [List.getElem?_append_right (by omega), ← hq]; congr 1; omega); rw [← this]; congr 1; omega)⟩
    simp only [SVR]
    exact ⟨cs, rfl, leavesFrom_sound ks nv qs _ (RVs.plain (by simpa [Sh.bare] using hb.1) h1) (fun i p hi => hp i p (by rw [List.getElem?_append_left (List.getElem?_eq_some_iff.1 hi).1]; exact hi))⟩
  | .own ks :: r, j, nv, nx0, ps, vs, hb, h, hp => by simp [Sh.bare] at hb

theorem nown_svrs {ψ : Names} {U : Nat → Prop} (hU : ∀ b, Owned X φ b → U b) : ∀ (rs : List Sh) (j nv nx0 : Nat) (ps : List PV) (vs : List Value), rs.all Sh.nown = true → ResR w U ψ j rs ps vs → (∀ i p, ps[i]? = some p → ρ[nv + i]? = some p) → SVRs w X φ ρ nx (resSV rs nv nx0).1 vs
  | [], j, nv, nx0, ps, vs, _, h, _ => by
    simp only [ResR] at h
    simp only [resSV, h.2, SVRs]
  | .leaf k :: r, j, nv, nx0, ps, vs, hb, h, hp => by
    simp only [List.all_cons, Bool.and_eq_true] at hb
    simp only [ResR] at h
    obtain ⟨p, ps', v, vs', rfl, rfl, h1, h2⟩ := h
    have h0 : ρ[nv]? = some p := hp 0 p rfl
    simp only [resSV, SVRs]
    refine ⟨v, vs', rfl, ?_, nown_svrs hU r j (nv + 1) nx0 ps' vs' hb.2 h2 (fun i q hq => by have := hp (i + 1) q (by simpa using hq); rw [← this]; congr 1; omega)⟩
    simp only [SVR, Ex.fits, Ex.den, decide_eq_true_eq]
    exact ⟨(List.getElem?_eq_some_iff.1 h0).1, by rw [getD_of h0]; exact RV.mono (Nat.le_refl _) (fun b _ hn => ⟨rfl, fun hh => hn (hU b hh)⟩) _ _ _ h1⟩
  | .agg ks :: r, j, nv, nx0, ps, vs, hb, h, hp => by
    simp only [List.all_cons, Bool.and_eq_true] at hb
    simp only [ResR] at h
    obtain ⟨qs, ps', cs, vs', rfl, rfl, h1, h2⟩ := h
    simp only [resSV, SVRs]
    have hlen := h1.length.1
    refine ⟨_, vs', rfl, ?_, nown_svrs hU r j (nv + ks.length) nx0 ps' vs' hb.2 h2 (fun i q hq => by have := hp (qs.length + i) q (by rw [List.getElem?_append_right (by omega), ← hq]; congr 1; omega); rw [← this]; congr 1; omega)⟩
    simp only [SVR]
    exact ⟨cs, rfl, leavesFrom_sound ks nv qs _ (RVs.mono (Nat.le_refl _) (fun b _ hn => ⟨rfl, fun hh => hn (hU b hh)⟩) _ _ _ h1) (fun i p hi => hp i p (by rw [List.getElem?_append_left (List.getElem?_eq_some_iff.1 hi).1]; exact hi))⟩
  | .own ks :: r, j, nv, nx0, ps, vs, hb, h, hp => by simp [Sh.nown] at hb

/-- A call that hands back numbers, Bools and texts. -/
theorem float_call {sigs : Nat → Option Sig} {C : Nat → List PV → Option (List PV)} (hC : CallOk P sigs C) {f : Nat} {sg : Sig} (hsg : sigs f = some sg) {args : List SV} {vs : List Value} {es : List Ex}
    (h : Rel X W0 φ ρ σ fs w) (hargs : SVRs w X φ ρ σ.nx args vs) (hes : argLeaves σ sg.ps args = some es) (hb : sg.rs.all Sh.bare = true) {ps : List PV} (hCf : C f (es.map (·.den ρ)) = some ps) {nv0 nx0 : Nat} (hat : ∀ i p, ps[i]? = some p → ρ[nv0 + i]? = some p) :
    Calls P f vs.toArray w fun e w' => ∃ v, e = .returned v ∧ Below w.heap.size w w' ∧ SVR w' X φ ρ σ.nx (oneOf (resSV sg.rs nv0 nx0).1) v := by
  let Xc : Nat → Prop := fun b => Owned X φ b ∧ ¬ ∃ m ∈ ownNames args, ∃ kk, φ m = some kk ∧ kk.g = some b
  obtain ⟨fes, hA⟩ := argLeaves_sound h (U := Xc) (fun b hb => hb.1) sg.ps args es vs hargs hes (fun m hm kk g hk hg hb => hb.2 ⟨m, hm, kk, hk, hg⟩)
  have hXlt : ∀ b, Xc b → b < w.heap.size := by
    intro b hb
    rcases hb.1 with hx | ⟨m, kk, hm, hg⟩
    · have := h.old.1 b hx; have := h.size_le; omega
    · exact (h.low m kk b hm hg).2
  refine (hC f sg hsg _ ps hCf w vs Xc hXlt hA).mono fun e w' hpost => ?_
  obtain ⟨v, rfl, hbel, us, ψ, rfl, hR, hψlow, hψinj, hψn⟩ := hpost
  exact ⟨_, rfl, hbel, oneOf_sound (bare_svrs sg.rs 0 nv0 nx0 ps us hb hR hat)⟩

/-- A call that hands back no row of its own, and is handed none of ours. -/
theorem float_call2 {sigs : Nat → Option Sig} {C : Nat → List PV → Option (List PV)} (hC : CallOk P sigs C) {f : Nat} {sg : Sig} (hsg : sigs f = some sg) {args : List SV} {vs : List Value} {es : List Ex}
    (h : Rel X W0 φ ρ σ fs w) (hargs : SVRs w X φ ρ σ.nx args vs) (hes : argLeaves σ sg.ps args = some es) (hb : sg.rs.all Sh.nown = true) (ho : ownNames args = []) {ps : List PV} (hCf : C f (es.map (·.den ρ)) = some ps) {nv0 nx0 : Nat} (hat : ∀ i p, ps[i]? = some p → ρ[nv0 + i]? = some p) :
    Calls P f vs.toArray w fun e w' => ∃ v, e = .returned v ∧ Below w.heap.size w w' ∧ SVR w' X φ ρ σ.nx (oneOf (resSV sg.rs nv0 nx0).1) v := by
  let Xc : Nat → Prop := fun b => Owned X φ b ∧ ¬ ∃ m ∈ ownNames args, ∃ kk, φ m = some kk ∧ kk.g = some b
  obtain ⟨fes, hA⟩ := argLeaves_sound h (U := Xc) (fun b hb => hb.1) sg.ps args es vs hargs hes (fun m hm kk g hk hg hb => hb.2 ⟨m, hm, kk, hk, hg⟩)
  have hXlt : ∀ b, Xc b → b < w.heap.size := by
    intro b hb
    rcases hb.1 with hx | ⟨m, kk, hm, hg⟩
    · have := h.old.1 b hx; have := h.size_le; omega
    · exact (h.low m kk b hm hg).2
  refine (hC f sg hsg _ ps hCf w vs Xc hXlt hA).mono fun e w' hpost => ?_
  obtain ⟨v, rfl, hbel, us, ψ, rfl, hR, hψlow, hψinj, hψn⟩ := hpost
  exact ⟨_, rfl, hbel, oneOf_sound (nown_svrs (fun b hb' => .inl ⟨hb', by rw [ho]; rintro ⟨_, hm, _⟩; cases hm⟩) sg.rs 0 nv0 nx0 ps us hb hR hat)⟩

def quiet (rs : List Sh) (args : List SV) : Bool := rs.all Sh.bare || (rs.all Sh.nown && (ownNames args).isEmpty)

theorem float_call3 {sigs : Nat → Option Sig} {C : Nat → List PV → Option (List PV)} (hC : CallOk P sigs C) {f : Nat} {sg : Sig} (hsg : sigs f = some sg) {args : List SV} {vs : List Value} {es : List Ex}
    (h : Rel X W0 φ ρ σ fs w) (hargs : SVRs w X φ ρ σ.nx args vs) (hes : argLeaves σ sg.ps args = some es) (hb : quiet sg.rs args = true) {ps : List PV} (hCf : C f (es.map (·.den ρ)) = some ps) {nv0 nx0 : Nat} (hat : ∀ i p, ps[i]? = some p → ρ[nv0 + i]? = some p) :
    Calls P f vs.toArray w fun e w' => ∃ v, e = .returned v ∧ Below w.heap.size w w' ∧ SVR w' X φ ρ σ.nx (oneOf (resSV sg.rs nv0 nx0).1) v := by
  simp only [quiet, Bool.or_eq_true, Bool.and_eq_true, List.isEmpty_iff] at hb
  rcases hb with hb | ⟨hb, ho⟩
  · exact float_call hC hsg h hargs hes hb hCf hat
  · exact float_call2 hC hsg h hargs hes hb ho hCf hat

end
end Go.Proofs.Ytpaabecgngbjcaa.Sx
set_option linter.unusedVariables false
set_option linter.unusedSimpArgs false
namespace Go.Proofs.Ytpaabecgngbjcaa.Sx
open Go.RowKit

mutual
def SV.names : SV → List Nat
  | .ptr l _ _ | .own l _ | .mp l => [l]
  | .gd _ s => s.names
  | .agg l | .tup l | .fn _ l => namesAll l
  | _ => []
def namesAll : List SV → List Nat
  | [] => []
  | s :: r => s.names ++ namesAll r
end

/-- What is written down of an operation. -/
structure Rec where
  dst : Option Nat
  use : List Nat
  need : List Nat
  sv : SV
  eff : Bool
  touched : List Nat

def useOf (ops : Array Oper) (o : Oper) : List Nat := opUses o ++ (match o.guard with | some (j, _) => (dstOf ops j).toList | none => [])

def St.top (σ : St) : List (Nat × SV) := match σ.fr with | f :: _ => f | [] => []

def cutFr (f : List (Nat × SV)) (use : List Nat) : List (Nat × SV) := use.filterMap fun t => (look f t).map fun s => (t, s)

def needOf (f : List (Nat × SV)) : List Nat := f.flatMap fun x => x.2.names

def keep (h : List (Nat × Ob)) (ns : List Nat) : List (Nat × Ob) := h.filter fun x => ns.contains x.1

def St.restr (σ : St) (use : List Nat) (all : Bool) : St :=
  { σ with fr := cutFr σ.top use :: σ.fr.tail, heap := if all then σ.heap else keep σ.heap (needOf (cutFr σ.top use)) }

section
variable (P : Program) (sigs : Nat → Option Sig) (ops : Array Oper)

def recOf (o : Oper) (σ : St) (v : SV) : Rec := { dst := o.dst, use := useOf ops o, need := needOf (cutFr σ.top (useOf ops o)), sv := v, eff := false, touched := [] }

def drCall (o : Oper) (σ : St) (g : Nat) (args : St → List SV) (k : Rec → St → T) : T :=
  let R := σ.restr (useOf ops o) false
  if !enters P g then .fail "enter" else
  match sigs g with
  | none => .fail "inlined in open order"
  | some sg =>
    let x := resSV sg.rs σ.nv σ.nx
    if quiet sg.rs (args R) then
      match argLeaves R sg.ps (args R) with
      | some es => if es.all (·.fits σ.nv) then .call g es x.2.2 (k (recOf ops o σ (oneOf x.1)) ({ σ with nv := σ.nv + x.2.2 }.put o.dst (oneOf x.1))) else .fail "fits"
      | none => .fail "2"
    else
      let R' := σ.restr (useOf ops o) true
      match argLeaves R' sg.ps (args R') with
      | some es =>
        if es.all (·.fits σ.nv) then
          .call g es x.2.2 (k { recOf ops o σ (oneOf x.1) with eff := true, touched := x.2.1.map (·.1) ++ ownNames (args R') }
            ({ σ with nv := σ.nv + x.2.2, nx := σ.nx + x.2.1.length, heap := x.2.1 ++ (if sg.rs.any Sh.frozen then dels σ.heap (ownNames (args R')) else σ.heap) }.put o.dst (oneOf x.1)))
        else .fail "fits"
      | none => .fail "2"

def drPure (o : Oper) (σ : St) (k : Rec → St → T) : T :=
  let R := σ.restr (useOf ops o) false
  match simple P R o.op with
  | some (gs, v, _) => if gs.all (·.fits σ.nv) then guards gs σ fun σ' => k (recOf ops o σ v) (σ'.put o.dst v) else .fail "fits"
  | none =>
    match o.op with
    | .pick x a b =>
      match R.ev x with
      | .ex .bool e =>
        if e.fits σ.nv then
          mkIte e (k (recOf ops o σ ({ R with known := learn e true σ.known }.ev a)) ({ σ with known := learn e true σ.known }.put o.dst ({ R with known := learn e true σ.known }.ev a)))
            (k (recOf ops o σ ({ R with known := learn e false σ.known }.ev b)) ({ σ with known := learn e false σ.known }.put o.dst ({ R with known := learn e false σ.known }.ev b)))
        else .fail "fits"
      | _ => .fail "pick"
    | _ => .fail ("op " ++ opName o.op)

def drHeavy (o : Oper) (σ : St) (k : Rec → St → T) : T :=
  let R := σ.restr (useOf ops o) true
  match simple P R o.op with
  | some (gs, v, σ2) => if gs.all (·.fits σ.nv) then guards gs { σ with nx := σ2.nx, heap := σ2.heap } fun σ' => k { recOf ops o σ v with eff := true, touched := touchOf R o.op } (σ'.put o.dst v) else .fail "fits"
  | none => .fail ("op " ++ opName o.op)

/-- A row that is made and only looked at from then on. -/
def drFrozen (o : Oper) (σ : St) (k : Rec → St → T) : T :=
  let R := σ.restr (useOf ops o) false
  match simple P R o.op with
  | some (gs, _, σ2) =>
    match σ2.heap with
    | (_, .rows ks e) :: _ => if gs.all (·.fits σ.nv) && e.fits σ.nv then guards gs σ fun σ' => k (recOf ops o σ (.ex (.row ks) e)) (σ'.put o.dst (.ex (.row ks) e)) else .fail "fits"
    | _ => .fail "frozen"
  | none => .fail ("op " ++ opName o.op)

def makesRow : Op → Bool
  | .buildSlice .. | .makeSlice .. => true
  | _ => false

def drOp (fz : Bool) (o : Oper) (σ : St) (k : Rec → St → T) : T :=
  match o.op with
  | .call { callee := .value f, args, .. } =>
    match (σ.restr (useOf ops o) false).ev f with
    | .fn g caps => drCall P sigs ops o σ g (fun R => args.toList.map R.ev ++ caps) k
    | _ => .fail "3"
  | _ => if pureOp o.op then drPure P ops o σ k else if fz && makesRow o.op then drFrozen P ops o σ k else drHeavy P ops o σ k

def drStep (fz : Bool) (o : Oper) (σ : St) (k : Rec → St → T) : T :=
  match o.guard with
  | none => drOp P sigs ops fz o σ k
  | some (j, want) =>
    let R := σ.restr (useOf ops o) false
    match condOf R ops j want with
    | none => .fail "4"
    | some c =>
      if c.fits σ.nv then
        match σ.knownAs c with
        | some true => drOp P sigs ops fz o σ k
        | some false => k (recOf ops o σ .skip) (σ.put o.dst .skip)
        | none =>
          match if pureOp o.op then (simple P { R with known := learn c true σ.known } o.op).filter (fun x => x.1.all (·.fits σ.nv) && x.2.1.fits σ.nv σ.nx && x.2.1.names.all fun l => (needOf (cutFr σ.top (useOf ops o))).contains l) else none with
          | some (gs, v, _) => asks (gs.map fun g => .mk2 .or (ncond c) g) σ (k (recOf ops o σ (.gd c v)) (σ.put o.dst (.gd c v)))
          | none =>
            mkIte c (drOp P sigs ops fz o { σ with known := learn c true σ.known } k)
              (k (recOf ops o σ .skip) ({ σ with known := learn c false σ.known }.put o.dst .skip))
      else .fail "fits"

def drOps (fz : Nat → Bool) : List Oper → St → List Rec → (List Rec → St → T) → T
  | [], σ, acc, k => k acc σ
  | o :: r, σ, acc, k => drStep P sigs ops (fz acc.length) o σ fun rc σ' => drOps fz r σ' (acc ++ [rc]) k

end

/-! ### What must come ahead of what -/

def mask (tab : List Nat) (o : Oper) : Nat := o.after.toList.foldl (fun s e => if Region.binds .any e then s ||| 2 ^ e.on ||| tab.getD e.on 0 else s) 0

def tabGo : List Oper → List Nat → List Nat
  | [], acc => acc
  | o :: r, acc => tabGo r (acc ++ [mask acc o])

def tabOk (tab : List Nat) : List Oper → Nat → Bool
  | [], _ => true
  | o :: r, j => tab.getD j 0 == mask tab o && (o.after.toList.all fun e => !Region.binds .any e || e.on < j) && tabOk tab r (j + 1)

def apart2 (x y : Rec) : Bool :=
  (x.dst.all fun d => !y.use.contains d && y.dst != some d) && (y.dst.all fun d => !x.use.contains d) && !(x.eff && y.eff) && (!x.eff || x.touched.all fun l => !y.need.contains l) && (!y.eff || y.touched.all fun l => !x.need.contains l)

def apartFrom (tab : List Nat) (i : Nat) (x : Rec) : List Rec → Nat → Bool
  | [], _ => true
  | y :: r, j => ((tab.getD j 0).testBit i || apart2 x y) && apartFrom tab i x r (j + 1)

def apartAll (tab : List Nat) : List Rec → Nat → Bool
  | [], _ => true
  | x :: r, i => apartFrom tab i x r (i + 1) && apartAll tab r (i + 1)

def changes (o : Oper) : Bool := match o.op with
  | .call { callee := .value _, .. } => false
  | op => !pureOp op

/-- Is there another operation that makes or changes an object, ahead of or behind which this one may come? -/
def openTo (tab : List Nat) (i : Nat) : List Oper → Nat → Bool
  | [], _ => false
  | o :: r, j => (i != j && changes o && !(tab.getD j 0).testBit i && !(tab.getD i 0).testBit j) || openTo tab i r (j + 1)

/-- A region in open order: run as it is listed; every order comes to the same. -/
def sxDrawn (P : Program) (sigs : Nat → Option Sig) (_ : Inl) (ops : Array Oper) (σ : St) (k : St → T) : T :=
  let tab := tabGo ops.toList []
  if tabOk tab ops.toList 0 then drOps P sigs ops (fun i => openTo tab i ops.toList 0) ops.toList σ [] fun rs σ' => if apartAll tab rs 0 then k σ' else .fail "order" else .fail "edges"

/-! ### The checks, told -/

theorem apartFrom_spec {tab : List Nat} {i : Nat} {x : Rec} : ∀ {l : List Rec} {j0 j : Nat} {y : Rec}, apartFrom tab i x l j0 = true → l[j]? = some y → (tab.getD (j0 + j) 0).testBit i = true ∨ apart2 x y = true
  | z :: r, j0, 0, y, h, hy => by
    simp only [apartFrom, Bool.and_eq_true, Bool.or_eq_true] at h
    simp only [List.getElem?_cons_zero, Option.some.injEq] at hy
    subst hy
    exact h.1
  | z :: r, j0, j + 1, y, h, hy => by
    simp only [apartFrom, Bool.and_eq_true] at h
    have := apartFrom_spec h.2 (j := j) (by simpa using hy)
    rwa [show j0 + 1 + j = j0 + (j + 1) by omega] at this
  | [], _, _, _, _, hy => by simp at hy

theorem apartAll_spec {tab : List Nat} : ∀ {l : List Rec} {i0 i j : Nat} {x y : Rec}, apartAll tab l i0 = true → l[i]? = some x → l[j]? = some y → i < j → (tab.getD (i0 + j) 0).testBit (i0 + i) = true ∨ apart2 x y = true
  | z :: r, i0, 0, j + 1, x, y, h, hx, hy, _ => by
    simp only [apartAll, Bool.and_eq_true] at h
    simp only [List.getElem?_cons_zero, Option.some.injEq] at hx
    subst hx
    have := apartFrom_spec h.1 (j := j) (by simpa using hy)
    rwa [show i0 + 1 + j = i0 + (j + 1) by omega] at this
  | z :: r, i0, i + 1, j + 1, x, y, h, hx, hy, hij => by
    simp only [apartAll, Bool.and_eq_true] at h
    have := apartAll_spec (i := i) (j := j) h.2 (by simpa using hx) (by simpa using hy) (by omega)
    rwa [show i0 + 1 + j = i0 + (j + 1) by omega, show i0 + 1 + i = i0 + (i + 1) by omega] at this
  | [], _, _, _, _, _, _, hx, _, _ => by simp at hx

theorem tabOk_spec {tab : List Nat} : ∀ {l : List Oper} {j0 j : Nat} {o : Oper}, tabOk tab l j0 = true → l[j]? = some o → tab.getD (j0 + j) 0 = mask tab o ∧ ∀ e ∈ o.after.toList, Region.binds .any e = true → e.on < j0 + j
  | z :: r, j0, 0, o, h, ho => by
    simp only [tabOk, Bool.and_eq_true, beq_iff_eq, List.all_eq_true, Bool.or_eq_true, Bool.not_eq_true', decide_eq_true_eq] at h
    simp only [List.getElem?_cons_zero, Option.some.injEq] at ho
    subst ho
    exact ⟨h.1.1, fun e he hb => (h.1.2 e he).resolve_left (by rw [hb]; simp)⟩
  | z :: r, j0, j + 1, o, h, ho => by
    simp only [tabOk, Bool.and_eq_true] at h
    have := tabOk_spec (j := j) h.2 (by simpa using ho)
    rwa [show j0 + 1 + j = j0 + (j + 1) by omega] at this
  | [], _, _, _, _, ho => by simp at ho

theorem mask_bit {tab : List Nat} {i : Nat} : ∀ (l : List Edge) (s : Nat), (l.foldl (fun s e => if Region.binds .any e then s ||| 2 ^ e.on ||| tab.getD e.on 0 else s) s).testBit i = true →
    s.testBit i = true ∨ ∃ e ∈ l, Region.binds .any e = true ∧ (e.on = i ∨ (tab.getD e.on 0).testBit i = true)
  | [], s, h => .inl h
  | e :: l, s, h => by
    rcases mask_bit l _ h with h | ⟨e', he, h⟩
    · replace h : (if Region.binds .any e then s ||| 2 ^ e.on ||| tab.getD e.on 0 else s).testBit i = true := h
      split at h
      · rename_i hb
        simp only [Nat.testBit_or, Bool.or_eq_true] at h
        rcases h with (h | h) | h
        · exact .inl h
        · rw [Nat.testBit_two_pow] at h
          exact .inr ⟨e, by simp, hb, .inl (by simpa using h)⟩
        · exact .inr ⟨e, by simp, hb, .inr h⟩
      · exact .inl h
    · exact .inr ⟨e', by simp [he], h⟩

/-- What the table says comes ahead has run, where everything asked for has run. -/
theorem tab_ahead {tab : List Nat} {l : List Oper} (ht : tabOk tab l 0 = true) {S : Nat → Prop} (hS : ∀ j o, l[j]? = some o → S j → ∀ e ∈ o.after.toList, Region.binds .any e = true → S e.on) :
    ∀ (n j i : Nat) (o : Oper), j < n → l[j]? = some o → (∀ e ∈ o.after.toList, Region.binds .any e = true → S e.on) → (tab.getD j 0).testBit i = true → S i := by
  intro n
  induction n with
  | zero => intro j i o h; omega
  | succ n ih =>
    intro j i o hjn ho he hb
    obtain ⟨h1, h2⟩ := tabOk_spec ht ho
    rw [Nat.zero_add] at h1 h2
    rw [h1] at hb
    rcases mask_bit o.after.toList 0 hb with h | ⟨e, hm, hbd, h⟩
    · rw [Nat.zero_testBit] at h; cases h
    · rcases h with rfl | h
      · exact he e hm hbd
      · have hlt := h2 e hm hbd
        have hj : j < l.length := (List.getElem?_eq_some_iff.1 ho).1
        have ho' : l[e.on]? = some l[e.on] := List.getElem?_eq_getElem (by omega)
        exact ih e.on i _ (by omega) ho' (hS _ _ ho' (he e hm hbd)) h

end Go.Proofs.Ytpaabecgngbjcaa.Sx
set_option linter.unusedVariables false
set_option linter.unusedSimpArgs false
namespace Go.Proofs.Ytpaabecgngbjcaa.Sx
open Go.RowKit

theorem put_heap (σ : St) (d : Option Nat) (v : SV) : (σ.put d v).heap = σ.heap := by unfold St.put; split <;> rfl
theorem put_nx (σ : St) (d : Option Nat) (v : SV) : (σ.put d v).nx = σ.nx := by unfold St.put; split <;> rfl
theorem put_nv (σ : St) (d : Option Nat) (v : SV) : (σ.put d v).nv = σ.nv := by unfold St.put; split <;> rfl
theorem put_jl (σ : St) (d : Option Nat) (v : SV) : (σ.put d v).jl = σ.jl := by unfold St.put; split <;> rfl
theorem put_known (σ : St) (d : Option Nat) (v : SV) : (σ.put d v).known = σ.known := by unfold St.put; split <;> rfl
theorem put_fr {σ σ' : St} (h : σ.fr = σ'.fr) (d : Option Nat) (v : SV) : (σ.put d v).fr = (σ'.put d v).fr := by
  unfold St.put
  rw [h]
  cases d with
  | none => exact h
  | some t => cases hf : σ'.fr <;> simp [h, hf]

theorem put_fr' (σ : St) (n j m : Nat) (K : List (Ex × Bool)) (h : List (Nat × Ob)) (d : Option Nat) (v : SV) : (St.put ⟨n, j, m, K, σ.fr, h⟩ d v).fr = (σ.put d v).fr := put_fr (σ := ⟨n, j, m, K, σ.fr, h⟩) (σ' := σ) rfl d v

theorem ev_eq {σ σ' : St} (h1 : σ.fr = σ'.fr) (h2 : σ.known = σ'.known) : σ.ev = σ'.ev := by
  funext x
  cases x <;> simp only [St.ev, St.tmp, h1, h2]

theorem argLeaves_eq {σ σ' : St} (h : σ.leaf = σ'.leaf) : ∀ (sh : List Sh) (l : List SV), argLeaves σ sh l = argLeaves σ' sh l
  | [], [] => rfl
  | .leaf k :: r, v :: s => by simp only [argLeaves, h, argLeaves_eq h r s]
  | .agg ks :: r, .agg l :: s => by simp only [argLeaves, h, argLeaves_eq h r s]
  | [], _ :: _ => rfl
  | .leaf _ :: _, [] => rfl
  | .agg _ :: _, [] => rfl
  | .own _ :: _, [] => rfl
  | .own _ :: _, _ :: _ => rfl
  | .agg ks :: r, v :: s => by cases v <;> simp only [argLeaves, h, argLeaves_eq h r s]

theorem condOf_fr {σ σ' : St} (h : σ.fr = σ'.fr) (ops : Array Oper) (j : Nat) (want : Bool) : condOf σ ops j want = condOf σ' ops j want := by
  unfold condOf St.tmp
  rw [h]

theorem Facts.ext {ρ ρ' : List PV} {K : List (Ex × Bool)} (h : Facts ρ K) (hp : ρ <+: ρ') : Facts ρ' K := fun c b hc => by
  obtain ⟨h1, h2⟩ := h c b hc
  exact ⟨Ex.fits_mono hp.length_le c h1, by rw [Ex.den_ext hp c h1]; exact h2⟩

abbrev Wps := (Act → World → Prop) → (Exit → Act → World → Prop) → Act → World → Prop

def wpX (ro : Option Nat) (P : Program) (o : Oper) : Wps := fun K Q a w => o.wpIn (Fr ro) 0 P a w K Q
def wpO (ro : Option Nat) (P : Program) (ops : Array Oper) (o : Oper) : Wps := fun K Q a w => if Region.wanted o (yielded ops a.tmps) then o.wpIn (Fr ro) 0 P a w K Q else K (a.put o.dst undef) w

section
variable (Wp : Wps) (ops : Array Oper) (X : Env) (W0 : World) (ρ : List PV) (fs : List Act) (o : Oper) (rc : Rec) (σ σ1 : St)

def FloatOk : Prop := ∀ φ nx a w K Q, Rel X W0 φ ρ ⟨ρ.length, 0, nx, [], cutFr σ.top rc.use :: σ.fr.tail, keep σ.heap rc.need⟩ (a :: fs) w →
  (∀ v w', Below w.heap.size w w' → SVR w' X φ ρ nx rc.sv v → K (a.put o.dst v) w') → Wp K Q a w

def HeavyOk : Prop := ∀ φ a w K Q, Rel X W0 φ ρ ⟨ρ.length, 0, σ.nx, [], cutFr σ.top rc.use :: σ.fr.tail, σ.heap⟩ (a :: fs) w →
  (∀ φ' v w', σ.nx ≤ σ1.nx → Evo X φ φ' σ.nx w w' → Rel X W0 φ' ρ ⟨ρ.length, 0, σ1.nx, [], cutFr σ.top rc.use :: σ.fr.tail, σ1.heap⟩ (a :: fs) w' → SVR w' X φ' ρ σ1.nx rc.sv v → K (a.put o.dst v) w') → Wp K Q a w

structure StepOk : Prop where
  dst : rc.dst = o.dst
  use : rc.use = useOf ops o
  need : rc.need = needOf (cutFr σ.top rc.use)
  fr : σ1.fr = (σ.put o.dst rc.sv).fr
  float : rc.eff = false → σ1.heap = σ.heap ∧ σ1.nx = σ.nx ∧ FloatOk Wp X W0 ρ fs o rc σ
  heavy : rc.eff = true → (∀ l, l ∉ rc.touched → look σ1.heap l = look σ.heap l) ∧ HeavyOk Wp X W0 ρ fs o rc σ σ1

end

/-- What a step of the listed run says. -/
def Stepped (P : Program) (N : Nat) (C : Nat → List PV → Option (List PV)) (Wp : Wps) (ops : Array Oper) (o : Oper) (ρ : List PV) (J : List (List PV → Option (List PV))) (r : List PV) (σ : St) (k : Rec → St → T) : Prop :=
  ∃ ρ1 rc σ1, ρ <+: ρ1 ∧ Facts ρ1 σ1.known ∧ σ1.nv = ρ1.length ∧ σ1.jl = σ.jl ∧ (∀ ρF, ρ1 <+: ρF → ∀ X W0 fs, StepOk Wp ops X W0 ρF fs o rc σ σ1) ∧ (k rc σ1).den N C ρ1 J = some r

section
variable {ro : Option Nat} {P : Program} {sigs : Nat → Option Sig} {C : Nat → List PV → Option (List PV)} {N : Nat} {X : Env} {W0 : World} {φ : Names} {ρ : List PV} {J : List (List PV → Option (List PV))} {r : List PV} {σ : St} {a : Act} {fs : List Act} {w : World} {nx : Nat} {ops : Array Oper} {o : Oper} {k : Rec → St → T}

theorem drPure_sound (hf : Facts ρ σ.known) (hnv : σ.nv = ρ.length) (hp : pureOp o.op = true) (hd : (drPure P ops o σ k).den N C ρ J = some r) : Stepped P N C (wpX ro P o) ops o ρ J r σ k := by
  simp only [drPure] at hd
  split at hd
  · rename_i gs v σ2 hs
    split at hd
    · rename_i hfit
      rw [List.all_eq_true, hnv] at hfit
      obtain ⟨hb, K, hK, hd'⟩ := guards_den gs σ hf hfit hd
      refine ⟨ρ, recOf ops o σ v, ({ σ with known := K } : St).put o.dst v, List.prefix_refl _, by rw [put_known]; exact hK, by rw [put_nv]; exact hnv, by rw [put_jl], fun ρF hρ X W0 fs => ⟨rfl, rfl, rfl, put_fr' σ _ _ _ _ _ _ _, fun _ => ⟨by rw [put_heap], by rw [put_nx], ?_⟩, fun h => by cases h⟩, hd'⟩
      intro φ nx a w K' Q h hk
      have h' : Rel X W0 φ ρF ((σ.restr (useOf ops o) false).at ρF.length nx) (a :: fs) w := (h.withKnown (hf.ext hρ)).withJl σ.jl
      have hs' := simple_at_pure P (σ.restr (useOf ops o) false) ρF.length nx o.op hp
      rw [hs] at hs'
      obtain ⟨_, _, hmain⟩ := pure_sound h' hp hs'
      obtain ⟨u, hr, hu⟩ := hmain fun g hg => by rw [Ex.den_ext hρ g (hfit g hg)]; exact hb g hg
      unfold wpX
      refine wpr_value (pure_nodefer hp) hr ?_
      exact hk u w (Below.refl _ _) hu
    · simp [T.den] at hd
  · split at hd
    · rename_i x y z hop
      split at hd
      · rename_i e he
        split at hd
        · rename_i hfe
          rw [hnv] at hfe
          rw [mkIte_den] at hd
          have main : ∀ (b : Bool) (u : Operand), (e.den ρ).b = b → u = (if b = true then y else z) → (k (recOf ops o σ ({ σ.restr (useOf ops o) false with known := learn e b σ.known }.ev u)) ({ σ with known := learn e b σ.known }.put o.dst ({ σ.restr (useOf ops o) false with known := learn e b σ.known }.ev u))).den N C ρ J = some r → Stepped P N C (wpX ro P o) ops o ρ J r σ k := by
            intro b u hb hu hd'
            have hL : Facts ρ (learn e b σ.known) := learn_sound e b σ.known hf hfe hb
            refine ⟨ρ, _, ({ σ with known := learn e b σ.known } : St).put o.dst _, List.prefix_refl _, by rw [put_known]; exact hL, by rw [put_nv]; exact hnv, by rw [put_jl], fun ρF hρ X W0 fs => ⟨rfl, rfl, rfl, put_fr' σ _ _ _ _ _ _ _, fun _ => ⟨by rw [put_heap], by rw [put_nx], ?_⟩, fun h => by cases h⟩, hd'⟩
            intro φ nx a w K' Q h hk
            have hx := (h.withKnown (hf.ext hρ)).ev x
            have hxe : ({ (⟨ρF.length, 0, nx, [], cutFr σ.top (useOf ops o) :: σ.fr.tail, keep σ.heap (needOf (cutFr σ.top (useOf ops o)))⟩ : St) with known := σ.known } : St).ev x = .ex .bool e := by rw [← he]; exact congrFun (ev_eq rfl rfl) x
            have hx' : SVR w X φ ρF nx (.ex .bool e) (a.eval x) := by rw [← hxe]; exact hx
            obtain ⟨fe, b', de, hv⟩ := svr_bool hx'
            have hbb : b' = b := by
              have h1 : (e.den ρF).b = b := by rw [Ex.den_ext hρ e hfe]; exact hb
              rw [de] at h1
              exact h1
            have hrun : (execOp a.eval o).run P w = .ok (.value (if b = true then a.eval y else a.eval z)) w := by
              unfold execOp
              rw [hop]
              simp [hv, asBool, hbb]
            unfold wpX
            refine wpr_value (by rw [hop]; intro c hc; cases hc) hrun ?_
            have hu' := (h.withKnown (hL.ext hρ)).ev u
            refine hk _ w (Below.refl _ _) ?_
            have hev : ({ (⟨ρF.length, 0, nx, [], cutFr σ.top (useOf ops o) :: σ.fr.tail, keep σ.heap (needOf (cutFr σ.top (useOf ops o)))⟩ : St) with known := learn e b σ.known } : St).ev u = ({ σ.restr (useOf ops o) false with known := learn e b σ.known } : St).ev u := congrFun (ev_eq rfl rfl) u
            show SVR w X φ ρF nx (({ σ.restr (useOf ops o) false with known := learn e b σ.known } : St).ev u) (if b = true then a.eval y else a.eval z)
            rw [← hev, show (if b = true then a.eval y else a.eval z) = a.eval u by rw [hu]; split <;> rfl]
            exact hu'
          cases hb : (e.den ρ).b with
          | true => rw [if_pos hb] at hd; exact main true y hb rfl hd
          | false => rw [if_neg (by rw [hb]; simp)] at hd; exact main false z hb rfl hd
        · simp [T.den] at hd
      · simp [T.den] at hd
    · simp [T.den] at hd

theorem drHeavy_sound (hf : Facts ρ σ.known) (hnv : σ.nv = ρ.length) (hp : pureOp o.op = false) (hd : (drHeavy P ops o σ k).den N C ρ J = some r) (hN : ∀ f args ts, o.op ≠ .call { callee := .value f, args, argTypes := ts }) : Stepped P N C (wpX ro P o) ops o ρ J r σ k := by
  simp only [drHeavy] at hd
  split at hd
  · rename_i gs v σ2 hs
    split at hd
    · rename_i hfit
      rw [List.all_eq_true, hnv] at hfit
      obtain ⟨hb, K, hK, hd'⟩ := guards_den gs { σ with nx := σ2.nx, heap := σ2.heap } hf hfit hd
      refine ⟨ρ, { recOf ops o σ v with eff := true, touched := touchOf (σ.restr (useOf ops o) true) o.op }, ({ σ with nx := σ2.nx, heap := σ2.heap, known := K } : St).put o.dst v, List.prefix_refl _, by rw [put_known]; exact hK, by rw [put_nv]; exact hnv, by rw [put_jl], fun ρF hρ X W0 fs => ?_, hd'⟩
      have hs' := simple_nv P (σ.restr (useOf ops o) true) ρF.length o.op
      rw [hs] at hs'
      refine ⟨rfl, rfl, rfl, put_fr' σ _ _ _ _ _ _ _, fun h => (by cases h), fun _ => ⟨fun l hl => ?_, ?_⟩⟩
      · rw [put_heap]
        exact simple_touch hp hs hl
      · intro φ a w K' Q h hk
        have h' : Rel X W0 φ ρF ((σ.restr (useOf ops o) true).at ρF.length (σ.restr (useOf ops o) true).nx) (a :: fs) w := (h.withKnown (hf.ext hρ)).withJl σ.jl
        obtain ⟨_, ⟨l1, l2, l3, l4⟩, hnx, hmain⟩ := simple_sound h' hs'
        obtain ⟨φ', u, w', hran, hrel, hsv, hev⟩ := hmain fun g hg => by rw [Ex.den_ext hρ g (hfit g hg)]; exact hb g hg
        have hrel' : Rel X W0 φ' ρF ⟨ρF.length, 0, σ2.nx, [], cutFr σ.top (useOf ops o) :: σ.fr.tail, σ2.heap⟩ (a :: fs) w' := by
          have l4' : σ2.fr = cutFr σ.top (useOf ops o) :: σ.fr.tail := l4
          have := (hrel.withKnown (K := []) (fun c b hc => by cases hc)).withJl 0
          rw [← l4']
          exact this
        have := hk φ' u w' (by rw [put_nx]; exact hnx) hev (by rw [put_nx, put_heap]; exact hrel') (by rw [put_nx]; exact hsv)
        unfold wpX
        rcases hran with hr | ⟨hr, rfl⟩
        · exact wpr_value (simple_nodefer hs) hr this
        · exact wpr_skip (simple_nodefer hs) hr this
    · simp [T.den] at hd
  · simp [T.den] at hd

theorem prefix_at {ps ρF : List PV} (h : ρ ++ ps <+: ρF) (hnv : σ.nv = ρ.length) : ∀ i p, ps[i]? = some p → ρF[σ.nv + i]? = some p := by
  obtain ⟨t, rfl⟩ := h
  intro i p hp
  have hi := (List.getElem?_eq_some_iff.1 hp).1
  rw [List.append_assoc, List.getElem?_append_right (by omega), show σ.nv + i - ρ.length = i by omega, List.getElem?_append_left hi]
  exact hp

theorem map_den {es : List Ex} {ρF : List PV} (h : ρ <+: ρF) (hf : ∀ e ∈ es, e.fits ρ.length = true) : es.map (·.den ρF) = es.map (·.den ρ) := List.map_congr_left fun e he => Ex.den_ext h e (hf e he)

theorem SVRs.evsOf {R : St} (h : Rel X W0 φ ρ σ (a :: fs) w) (he : σ.ev = R.ev) : ∀ (l : List Operand), SVRs w X φ ρ σ.nx (l.map R.ev) (l.map a.eval)
  | [] => by simp [SVRs]
  | x :: r => by
    simp only [List.map_cons, SVRs]
    exact ⟨_, _, rfl, by rw [← he]; exact h.ev x, SVRs.evsOf h he r⟩

theorem drCall_sound (hC : CallOk P sigs C) (hf : Facts ρ σ.known) (hnv : σ.nv = ρ.length) {f : Operand} {args : Array Operand} {ts : Array TypeId} {g : Nat} {caps : List SV} (hop : o.op = .call { callee := .value f, args, argTypes := ts }) (hfe : (σ.restr (useOf ops o) false).ev f = .fn g caps)
    (hd : (drCall P sigs ops o σ g (fun R => args.toList.map R.ev ++ caps) k).den N C ρ J = some r) : Stepped P N C (wpX ro P o) ops o ρ J r σ k := by
  simp only [drCall] at hd
  split at hd
  · simp [T.den] at hd
  rename_i hent
  have hent' : enters P g = true := by simpa using hent
  split at hd
  · simp [T.den] at hd
  rename_i sg hsg
  split at hd
  · rename_i hbare
    split at hd
    · rename_i es hes
      split at hd
      · rename_i hfit
        rw [List.all_eq_true, hnv] at hfit
        simp only [T.den, Option.bind_eq_some_iff] at hd
        obtain ⟨ps, hCf, hd⟩ := hd
        split at hd
        · rename_i hlen
          have pre : ρ <+: ρ ++ ps := List.prefix_append _ _
          refine ⟨ρ ++ ps, _, ({ σ with nv := σ.nv + (resSV sg.rs σ.nv σ.nx).2.2 } : St).put o.dst _, pre, by rw [put_known]; exact hf.ext pre, by rw [put_nv, List.length_append, hlen, ← hnv], by rw [put_jl], fun ρF hρ X W0 fs => ⟨rfl, rfl, rfl, put_fr' σ _ _ _ _ _ _ _, fun _ => ⟨by rw [put_heap], by rw [put_nx], ?_⟩, fun h => by cases h⟩, hd⟩
          intro φ nx a w K' Q h hk
          have h' : Rel X W0 φ ρF ((σ.restr (useOf ops o) false).at ρF.length nx) (a :: fs) w := (h.withKnown (hf.ext (pre.trans hρ))).withJl σ.jl
          have hfv := h'.ev f
          rw [at_ev, hfe] at hfv
          simp only [SVR] at hfv
          obtain ⟨cs, hfval, hcaps⟩ := hfv
          have hevs := (SVRs.evsOf h' (at_ev _ _ _) args.toList).append hcaps
          have hrun := run_callv (P := P) (w := w) hop hfval hent'
          have hvs : args.map a.eval ++ cs = (args.toList.map a.eval ++ cs.toList).toArray := by apply Array.ext'; simp
          unfold wpX
          rw [hvs] at hrun
          refine wpr_enter (by rw [hop]; intro c hc; cases hc) hrun ?_
          refine (float_call3 (nx0 := σ.nx) hC hsg h' hevs (by rw [argLeaves_eq (at_leaf _ _ _)]; exact hes) hbare (by rw [map_den (pre.trans hρ) hfit]; exact hCf) (prefix_at hρ hnv)).mono fun e w' hp => ?_
          obtain ⟨v, rfl, hbel, hsv⟩ := hp
          exact ⟨v, rfl, hk v w' hbel hsv⟩
        · cases hd
      · simp [T.den] at hd
    · simp [T.den] at hd
  · split at hd
    · rename_i es hes
      split at hd
      · rename_i hfit
        rw [List.all_eq_true, hnv] at hfit
        simp only [T.den, Option.bind_eq_some_iff] at hd
        obtain ⟨ps, hCf, hd⟩ := hd
        split at hd
        · rename_i hlen
          have pre : ρ <+: ρ ++ ps := List.prefix_append _ _
          have hfe' : (σ.restr (useOf ops o) true).ev f = .fn g caps := by rw [← hfe]; exact congrFun (ev_eq rfl rfl) f
          refine ⟨ρ ++ ps, _, ({ σ with nv := σ.nv + (resSV sg.rs σ.nv σ.nx).2.2, nx := σ.nx + (resSV sg.rs σ.nv σ.nx).2.1.length, heap := (resSV sg.rs σ.nv σ.nx).2.1 ++ (if sg.rs.any Sh.frozen then dels σ.heap (ownNames (args.toList.map (σ.restr (useOf ops o) true).ev ++ caps)) else σ.heap) } : St).put o.dst _, pre, by rw [put_known]; exact hf.ext pre, by rw [put_nv, List.length_append, hlen, ← hnv], by rw [put_jl],
            fun ρF hρ X W0 fs => ⟨rfl, rfl, rfl, put_fr' σ _ _ _ _ _ _ _, fun h => (by cases h), fun _ => ⟨fun l hl => ?_, ?_⟩⟩, hd⟩
          · rw [put_heap]
            simp only [List.mem_append, not_or] at hl
            show look ((resSV sg.rs σ.nv σ.nx).2.1 ++ _) l = _
            have look_app : ∀ (x y : List (Nat × Ob)), l ∉ x.map (·.1) → look (x ++ y) l = look y l := by
              intro x y
              induction x with
              | nil => intro _; rfl
              | cons z x ih =>
                obtain ⟨i, ob⟩ := z
                intro hm
                simp only [List.map_cons, List.mem_cons, not_or] at hm
                simp only [List.cons_append, look]
                rw [if_neg (by simp; omega)]
                exact ih hm.2
            rw [look_app _ _ hl.1]
            split
            · rw [look_dels, if_neg hl.2]
            · rfl
          · intro φ a w K' Q h hk
            have h' : Rel X W0 φ ρF ((σ.restr (useOf ops o) true).at ρF.length σ.nx) (a :: fs) w := (h.withKnown (hf.ext (pre.trans hρ))).withJl σ.jl
            have hfv := h'.ev f
            rw [at_ev, hfe'] at hfv
            simp only [SVR] at hfv
            obtain ⟨cs, hfval, hcaps⟩ := hfv
            have hevs := (SVRs.evsOf h' (at_ev _ _ _) args.toList).append hcaps
            have hrun := run_callv (P := P) (w := w) hop hfval hent'
            have hvs : args.map a.eval ++ cs = (args.toList.map a.eval ++ cs.toList).toArray := by apply Array.ext'; simp
            unfold wpX
            rw [hvs] at hrun
            refine wpr_enter (by rw [hop]; intro c hc; cases hc) hrun ?_
            refine (owned_call hC hsg h' hevs (by rw [argLeaves_eq (at_leaf _ _ _)]; exact hes) (by rw [map_den (pre.trans hρ) hfit]; exact hCf) (prefix_at hρ hnv)).mono fun e w' hp => ?_
            obtain ⟨v, rfl, φ', hev, hrel, hsv⟩ := hp
            have hrel' := (hrel.withKnown (K := []) (fun c b hc => by cases hc)).withJl 0
            refine ⟨v, rfl, hk φ' v w' (by rw [put_nx]; exact Nat.le_add_right _ _) hev ?_ (by rw [put_nx]; exact hsv)⟩
            rw [put_nx, put_heap]
            exact hrel'
        · cases hd
      · simp [T.den] at hd
    · simp [T.den] at hd

mutual
theorem LK.same_self : ∀ (a : LK), a.same a = true
  | .int k => by simp [LK.same]
  | .bool | .str | .any => by simp [LK.same]
  | .row a => by simp only [LK.same]; exact LK.sames_self a
theorem LK.sames_self : ∀ (a : List LK), LK.sames a a = true
  | [] => by simp [LK.sames]
  | a :: as => by simp only [LK.sames, LK.same_self a, LK.sames_self as, Bool.and_self]
end

theorem makesRow_at {P : Program} {σ : St} {op : Op} (hm : makesRow op = true) {gs : List Ex} {sv : SV} {σ2 : St} (hs : simple P σ op = some (gs, sv, σ2)) :
    ∃ ks E, σ2 = σ.new (.rows ks E) ∧ ∀ n m, simple P (σ.at n m) op = some (gs, .own m none, (σ.at n m).new (.rows ks E)) := by
  cases op with
  | buildSlice t n parts =>
    simp only [simple, at_ev] at hs ⊢
    split at hs
    · split at hs
      · split at hs
        · rename_i hcond
          split at hs
          · rw [Option.map_eq_some_iff] at hs
            obtain ⟨es, he, hs⟩ := hs
            simp only [Prod.mk.injEq] at hs
            obtain ⟨rfl, rfl, rfl⟩ := hs
            refine ⟨_, _, rfl, fun n m => ?_⟩
            simp_all
            exact ⟨⟨hcond.1.1.2 ▸ hcond.1.2, hcond.1.1.2 ▸ hcond.2⟩, rfl⟩
          · cases hs
        · cases hs
      · cases hs
    · cases hs
  | makeSlice t n c =>
    simp only [simple, at_ev] at hs ⊢
    split at hs
    · split at hs
      · split at hs
        · split at hs
          · simp only [Option.some.injEq, Prod.mk.injEq] at hs
            obtain ⟨rfl, rfl, rfl⟩ := hs
            refine ⟨_, _, rfl, fun n m => ?_⟩
            simp_all
            rfl
          · cases hs
        · cases hs
      · cases hs
    · cases hs
  | _ => simp [makesRow] at hm

theorem makesRow_new {op : Op} (hm : makesRow op = true) : newOp op = true := by cases op <;> simp_all [makesRow, newOp]

theorem drFrozen_sound (hf : Facts ρ σ.known) (hnv : σ.nv = ρ.length) (hm : makesRow o.op = true) (hd : (drFrozen P ops o σ k).den N C ρ J = some r) : Stepped P N C (wpX ro P o) ops o ρ J r σ k := by
  simp only [drFrozen] at hd
  split at hd
  · rename_i gs sv σ2 hs
    obtain ⟨ks, E, rfl, hat⟩ := makesRow_at hm hs
    simp only [St.new] at hd
    split at hd
    · rename_i hfit
      simp only [Bool.and_eq_true] at hfit
      obtain ⟨hfit, hfe⟩ := hfit
      rw [List.all_eq_true, hnv] at hfit
      rw [hnv] at hfe
      obtain ⟨hb, K, hK, hd'⟩ := guards_den gs σ hf hfit hd
      refine ⟨ρ, recOf ops o σ (.ex (.row ks) E), ({ σ with known := K } : St).put o.dst (.ex (.row ks) E), List.prefix_refl _, by rw [put_known]; exact hK, by rw [put_nv]; exact hnv, by rw [put_jl], fun ρF hρ X W0 fs => ⟨rfl, rfl, rfl, put_fr' σ _ _ _ _ _ _ _, fun _ => ⟨by rw [put_heap], by rw [put_nx], ?_⟩, fun h => by cases h⟩, hd'⟩
      intro φ nx a w K' Q h hk
      have h' : Rel X W0 φ ρF ((σ.restr (useOf ops o) false).at ρF.length nx) (a :: fs) w := (h.withKnown (hf.ext hρ)).withJl σ.jl
      obtain ⟨_, _, hmain⟩ := new_sound h' (makesRow_new hm) (hat ρF.length nx)
      obtain ⟨φ', v, ob, hr, hrel, hv, hev, hφ⟩ := hmain fun g hg => by rw [Ex.den_ext hρ g (hfit g hg)]; exact hb g hg
      have hbel : Below w.heap.size w (w.alloc ob) := Below.alloc (Below.refl _ _) (Nat.le_refl _) ob
      have hU : ∀ b, Owned X φ b → Owned X φ' b := by
        rintro b (hx | ⟨l, kk, hl, hg⟩)
        · exact .inl hx
        · have hlt : l < nx := h'.names l kk hl
          exact .inr ⟨l, kk, by rw [hφ l (by show l ≠ nx; omega)]; exact hl, hg⟩
      have hlt : ∀ b, Owned X φ b → b < w.heap.size := by
        rintro b (hx | ⟨l, kk, hl, hg⟩)
        · have := h'.old.1 b hx; have := h'.size_le; omega
        · exact (h'.low l kk b hl hg).2
      have hlk : look (((σ.restr (useOf ops o) false).at ρF.length nx).new (.rows ks E)).heap nx = some (.rows ks E) := by simp [St.new, St.at, look]
      have hleaf := hrel.leaf (k := .row ks) (e := E) hv (by
        unfold St.leaf
        simp only [hlk, LK.sames_self, if_true]) hU (fun l p he kk g hkk hg hb => by
        cases he
        rcases hb with hx | ⟨l', k', hl', hg'⟩
        · have := h'.old.1 g hx
          have := (hrel.low nx kk g hkk hg).1
          omega
        · have hne : l' < nx := h'.names l' k' hl'
          have := hrel.inj l' nx k' kk g (by rw [hφ l' (by show l' ≠ nx; omega)]; exact hl') hkk hg' hg
          omega)
      unfold wpX
      refine wpr_value (simple_nodefer hs) hr ?_
      refine hk v _ hbel ?_
      simp only [recOf, SVR]
      exact ⟨hleaf.1, hleaf.2⟩
    · simp [T.den] at hd
  · simp [T.den] at hd

theorem drOp_sound {fz : Bool} (hC : CallOk P sigs C) (hf : Facts ρ σ.known) (hnv : σ.nv = ρ.length) (hd : (drOp P sigs ops fz o σ k).den N C ρ J = some r) : Stepped P N C (wpX ro P o) ops o ρ J r σ k := by
  unfold drOp at hd
  split at hd
  · rename_i f args ts hop
    split at hd
    · rename_i g caps hfe
      exact drCall_sound hC hf hnv hop hfe hd
    · simp [T.den] at hd
  · rename_i hno
    split at hd
    · rename_i hp
      exact drPure_sound hf hnv hp hd
    · rename_i hp
      split at hd
      · rename_i hfz
        simp only [Bool.and_eq_true] at hfz
        exact drFrozen_sound hf hnv hfz.2 hd
      · exact drHeavy_sound hf hnv (by simpa using hp) hd (fun f args ts h => hno f args ts h)

end
end Go.Proofs.Ytpaabecgngbjcaa.Sx
set_option linter.unusedVariables false
set_option linter.unusedSimpArgs false
namespace Go.Proofs.Ytpaabecgngbjcaa.Sx
open Go.RowKit

mutual
theorem SV.fits_lt {n m : Nat} : ∀ (s : SV), s.fits n m = true → ∀ l ∈ s.names, l < m
  | .undef, _, l, h | .skip, _, l, h | .nilS, _, l, h | .nilP, _, l, h | .yld _, _, l, h | .ex _ _, _, l, h | .rptr .., _, l, h => by simp [SV.names] at h
  | .gd c s, hs, l, h => by
    simp only [SV.fits, Bool.and_eq_true] at hs
    simp only [SV.names] at h
    exact SV.fits_lt s hs.2 l h
  | .agg x, hs, l, h | .tup x, hs, l, h | .fn _ x, hs, l, h => by
    simp only [SV.fits] at hs
    simp only [SV.names] at h
    exact fitsAll_lt x hs l h
  | .ptr l' i o, hs, l, h => by
    simp only [SV.fits, Bool.and_eq_true, decide_eq_true_eq] at hs
    simp only [SV.names, List.mem_singleton] at h
    omega
  | .own l' none, hs, l, h | .mp l', hs, l, h => by
    simp only [SV.fits, decide_eq_true_eq] at hs
    simp only [SV.names, List.mem_singleton] at h
    omega
  | .own l' (some (lo, k)), hs, l, h => by
    simp only [SV.fits, Bool.and_eq_true, decide_eq_true_eq] at hs
    simp only [SV.names, List.mem_singleton] at h
    omega
theorem fitsAll_lt {n m : Nat} : ∀ (x : List SV), fitsAll n m x = true → ∀ l ∈ namesAll x, l < m
  | [], _, l, h => by simp [namesAll] at h
  | s :: r, hs, l, h => by
    simp only [fitsAll, Bool.and_eq_true] at hs
    simp only [namesAll, List.mem_append] at h
    rcases h with h | h
    · exact SV.fits_lt s hs.1 l h
    · exact fitsAll_lt r hs.2 l h
end

mutual
theorem SV.fits_names {n n' m m' : Nat} (hn : n ≤ n') : ∀ (s : SV), s.fits n m = true → (∀ l ∈ s.names, l < m') → s.fits n' m' = true
  | .undef, _, _ | .skip, _, _ | .nilS, _, _ | .nilP, _, _ | .yld _, _, _ => by simp [SV.fits]
  | .ex k e, hs, _ => by simp only [SV.fits] at *; exact Ex.fits_mono hn e hs
  | .gd c s, hs, h => by
    simp only [SV.fits, Bool.and_eq_true] at *
    simp only [SV.names] at h
    exact ⟨Ex.fits_mono hn c hs.1, SV.fits_names hn s hs.2 h⟩
  | .agg x, hs, h | .tup x, hs, h | .fn _ x, hs, h => by
    simp only [SV.fits] at *
    simp only [SV.names] at h
    exact fitsAll_names hn x hs h
  | .ptr l i o, hs, h => by
    simp only [SV.fits, Bool.and_eq_true, decide_eq_true_eq] at *
    exact ⟨h l (by simp [SV.names]), Ex.fits_mono hn i hs.2⟩
  | .rptr ks e i o, hs, _ => by
    simp only [SV.fits, Bool.and_eq_true] at *
    exact ⟨Ex.fits_mono hn e hs.1, Ex.fits_mono hn i hs.2⟩
  | .own l none, hs, h | .mp l, hs, h => by
    simp only [SV.fits, decide_eq_true_eq] at *
    exact h l (by simp [SV.names])
  | .own l (some (lo, k)), hs, h => by
    simp only [SV.fits, Bool.and_eq_true, decide_eq_true_eq] at *
    exact ⟨⟨h l (by simp [SV.names]), Ex.fits_mono hn lo hs.1.2⟩, Ex.fits_mono hn k hs.2⟩
theorem fitsAll_names {n n' m m' : Nat} (hn : n ≤ n') : ∀ (x : List SV), fitsAll n m x = true → (∀ l ∈ namesAll x, l < m') → fitsAll n' m' x = true
  | [], _, _ => rfl
  | s :: r, hs, h => by
    simp only [fitsAll, Bool.and_eq_true] at *
    simp only [namesAll, List.mem_append] at h
    exact ⟨SV.fits_names hn s hs.1 fun l hl => h l (.inl hl), fitsAll_names hn r hs.2 fun l hl => h l (.inr hl)⟩
end

theorem look_cut {f : List (Nat × SV)} {t : Nat} {s : SV} : ∀ {use : List Nat}, (t, s) ∈ cutFr f use → t ∈ use ∧ look f t = some s := by
  intro use h
  simp only [cutFr, List.mem_filterMap, Option.map_eq_some_iff, Prod.mk.injEq] at h
  obtain ⟨u, hu, s', h1, rfl, rfl⟩ := h
  exact ⟨hu, h1⟩

theorem look_of_all {f : List (Nat × SV)} {t : Nat} {s : SV} : ∀ {l : List (Nat × SV)}, (∀ x ∈ l, look f x.1 = some x.2) → (t, s) ∈ l → look l t = some s
  | (u, s') :: r, h, hm => by
    have h0 := h (u, s') (by simp)
    have ht : look f t = some s := h _ hm
    simp only [look]
    by_cases hu : u = t
    · subst hu
      simp only at h0
      rw [h0] at ht
      cases ht
      simp
    · rw [if_neg (by simpa using hu)]
      refine look_of_all (fun x hx => h x (by simp [hx])) ?_
      rcases List.mem_cons.1 hm with he | hm
      · exact absurd (by rw [Prod.mk.injEq] at he; exact he.1.symm) hu
      · exact hm

theorem look_in_cut {f : List (Nat × SV)} {use : List Nat} {t : Nat} {s : SV} (h : (t, s) ∈ cutFr f use) : look (cutFr f use) t = some s := look_of_all (f := f) (fun x hx => (look_cut (t := x.1) (s := x.2) hx).2) h

theorem look_keep {ns : List Nat} {l : Nat} {x : Ob} : ∀ {h : List (Nat × Ob)}, look (keep h ns) l = some x → l ∈ ns ∧ look h l = some x
  | [], hl => by simp [keep, look] at hl
  | (i, y) :: r, hl => by
    unfold keep at hl
    rw [List.filter_cons] at hl
    split at hl
    · rename_i hi
      simp only [List.contains_iff_mem] at hi
      simp only [look] at hl ⊢
      split at hl
      · rename_i he
        rw [if_pos he]
        have : i = l := by simpa using he
        exact ⟨this ▸ hi, hl⟩
      · rename_i he
        rw [if_neg he]
        exact look_keep hl
    · rename_i hi
      have := look_keep (h := r) hl
      refine ⟨this.1, ?_⟩
      simp only [look]
      rw [if_neg (by
        intro he
        have : i = l := by simpa using he
        subst this
        exact hi (by simpa using (look_keep (h := r) hl).1))]
      exact this.2

section
variable {ro : Option Nat} {P : Program} {sigs : Nat → Option Sig} {C : Nat → List PV → Option (List PV)} {N : Nat} {X : Env} {W0 : World} {φ : Names} {ρ : List PV} {J : List (List PV → Option (List PV))} {r : List PV} {σ : St} {a : Act} {fs : List Act} {w : World} {nx : Nat} {ops : Array Oper} {o : Oper} {k : Rec → St → T}

theorem need_lt {f : List (Nat × SV)} {use : List Nat} {σ' : St} {r' : List (List (Nat × SV))} (h : Rel X W0 φ ρ σ' (a :: fs) w) (hf : σ'.fr = cutFr f use :: r') : ∀ l ∈ needOf (cutFr f use), l < σ'.nx := by
  intro l hl
  simp only [needOf, List.mem_flatMap] at hl
  obtain ⟨⟨t, s⟩, hm, hl⟩ := hl
  have hfr := h.frames
  rw [hf] at hfr
  simp only [FrsR] at hfr
  obtain ⟨a0, as', _, hfr, _⟩ := hfr
  exact SV.fits_lt s (SVR.fits s _ (hfr t s (look_in_cut hm))) l hl

theorem Stepped.known {K : List (Ex × Bool)} {Wp : Wps} (h : Stepped P N C Wp ops o ρ J r { σ with known := K } k) : Stepped P N C Wp ops o ρ J r σ k := by
  obtain ⟨ρ1, rc, σ1, h1, h2, h3, h4, h5, h6⟩ := h
  refine ⟨ρ1, rc, σ1, h1, h2, h3, h4, fun ρF hρ X W0 fs => ?_, h6⟩
  obtain ⟨s1, s1', s2, s3, s4, s5⟩ := h5 ρF hρ X W0 fs
  exact ⟨s1, s1', s2, s3.trans (put_fr' σ _ _ _ _ _ _ _), s4, s5⟩

/-- Where what is asked holds, the operation runs. -/
theorem Stepped.run (h : Stepped P N C (wpX ro P o) ops o ρ J r σ k)
    (hw : ∀ ρF, ρ <+: ρF → ∀ X W0 fs φ nx (a : Act) w hp, Rel X W0 φ ρF ⟨ρF.length, 0, nx, [], cutFr σ.top (useOf ops o) :: σ.fr.tail, hp⟩ (a :: fs) w → Region.wanted o (yielded ops a.tmps) = true) :
    Stepped P N C (wpO ro P ops o) ops o ρ J r σ k := by
  obtain ⟨ρ1, rc, σ1, h1, h2, h3, h4, h5, h6⟩ := h
  refine ⟨ρ1, rc, σ1, h1, h2, h3, h4, fun ρF hρ X W0 fs => ?_, h6⟩
  obtain ⟨s1, s1', s2, s3, s4, s5⟩ := h5 ρF hρ X W0 fs
  refine ⟨s1, s1', s2, s3, fun he => ⟨(s4 he).1, (s4 he).2.1, ?_⟩, fun he => ⟨(s5 he).1, ?_⟩⟩
  · intro φ nx a w K Q hr hk
    unfold wpO
    rw [if_pos (hw ρF (h1.trans hρ) X W0 fs φ nx a w _ (s1' ▸ hr))]
    exact (s4 he).2.2 φ nx a w K Q hr hk
  · intro φ a w K Q hr hk
    unfold wpO
    rw [if_pos (hw ρF (h1.trans hρ) X W0 fs φ _ a w _ (s1' ▸ hr))]
    exact (s5 he).2 φ a w K Q hr hk

/-- A step that is passed over. -/
theorem Stepped.skip {K : List (Ex × Bool)} (hK : Facts ρ K) (hnv : σ.nv = ρ.length)
    (hw : ∀ ρF, ρ <+: ρF → ∀ X W0 fs φ nx (a : Act) w hp, Rel X W0 φ ρF ⟨ρF.length, 0, nx, [], cutFr σ.top (useOf ops o) :: σ.fr.tail, hp⟩ (a :: fs) w → Region.wanted o (yielded ops a.tmps) = false)
    (hd : (k (recOf ops o σ .skip) ({ σ with known := K }.put o.dst .skip)).den N C ρ J = some r) : Stepped P N C (wpO ro P ops o) ops o ρ J r σ k := by
  refine ⟨ρ, _, ({ σ with known := K } : St).put o.dst .skip, List.prefix_refl _, by rw [put_known]; exact hK, by rw [put_nv]; exact hnv, by rw [put_jl], fun ρF hρ X W0 fs => ⟨rfl, rfl, rfl, put_fr' σ _ _ _ _ _ _ _, fun _ => ⟨by rw [put_heap], by rw [put_nx], ?_⟩, fun h => by cases h⟩, hd⟩
  intro φ nx a w K' Q h hk
  unfold wpO
  rw [if_neg (by rw [hw ρF hρ X W0 fs φ nx a w _ h]; simp)]
  exact hk undef w (Below.refl _ _) (by simp [recOf, SVR])

theorem drStep_sound {fz : Bool} (hC : CallOk P sigs C) (hf : Facts ρ σ.known) (hnv : σ.nv = ρ.length) (hd : (drStep P sigs ops fz o σ k).den N C ρ J = some r) : Stepped P N C (wpO ro P ops o) ops o ρ J r σ k := by
  simp only [drStep] at hd
  split at hd
  · rename_i hg
    exact (drOp_sound hC hf hnv hd).run fun _ _ _ _ _ _ _ _ _ _ _ => by simp [Region.wanted, hg]
  · rename_i j want hg
    split at hd
    · simp [T.den] at hd
    rename_i c hc
    have hwant : ∀ {b : Bool}, c.fits ρ.length = true → (c.den ρ).b = b → ∀ ρF, ρ <+: ρF → ∀ X W0 fs φ nx (a : Act) w hp, Rel X W0 φ ρF ⟨ρF.length, 0, nx, [], cutFr σ.top (useOf ops o) :: σ.fr.tail, hp⟩ (a :: fs) w → Region.wanted o (yielded ops a.tmps) = b := by
      intro b hfc hb ρF hρ X W0 fs φ nx a w hp h
      obtain ⟨_, h2⟩ := condOf_sound h (c := c) (by rw [← hc]; exact condOf_fr rfl _ _ _)
      simp only [Region.wanted, hg]
      rw [h2, Ex.den_ext hρ c hfc, hb]
    split at hd
    · rename_i hfc
      rw [hnv] at hfc
      split at hd
      · rename_i hk1
        exact (drOp_sound hC hf hnv hd).run (hwant hfc (knownIs_sound hf c true hk1))
      · rename_i hk1
        exact Stepped.skip hf hnv (hwant hfc (knownIs_sound hf c false hk1)) hd
      · split at hd
        · rename_i gs v σ2 hs
          split at hs
          · rename_i hpure
            rw [Option.filter_eq_some_iff] at hs
            obtain ⟨hs, hfits⟩ := hs
            simp only [Bool.and_eq_true, List.all_eq_true, List.contains_iff_mem] at hfits
            obtain ⟨⟨hgf, hvf⟩, hvn⟩ := hfits
            rw [hnv] at hvf
            obtain ⟨hall, hd'⟩ := asks_den _ σ hf hd
            refine ⟨ρ, _, σ.put o.dst (.gd c v), List.prefix_refl _, by rw [put_known]; exact hf, by rw [put_nv]; exact hnv, by rw [put_jl], fun ρF hρ X W0 fs => ⟨rfl, rfl, rfl, rfl, fun _ => ⟨by rw [put_heap], by rw [put_nx], ?_⟩, fun h => by cases h⟩, hd'⟩
            intro φ nx a w K' Q h hk
            have hcF : c.fits ρF.length = true := Ex.fits_mono hρ.length_le c hfc
            cases hb : (c.den ρ).b with
            | true =>
              have hbF : (c.den ρF).b = true := by rw [Ex.den_ext hρ c hfc]; exact hb
              unfold wpO
              rw [if_pos (hwant hfc hb ρF hρ X W0 fs φ nx a w _ h)]
              have h' : Rel X W0 φ ρF (({ σ.restr (useOf ops o) false with known := learn c true σ.known } : St).at ρF.length nx) (a :: fs) w := (h.withKnown (learn_sound c true σ.known (hf.ext hρ) hcF hbF)).withJl σ.jl
              have hs' := simple_at_pure P ({ σ.restr (useOf ops o) false with known := learn c true σ.known } : St) ρF.length nx o.op hpure
              rw [hs] at hs'
              obtain ⟨_, _, hmain⟩ := pure_sound h' hpure hs'
              obtain ⟨u, hr, hu⟩ := hmain fun g hg => by
                have h0 := hall _ (List.mem_map.2 ⟨g, hg, rfl⟩)
                rw [Ex.den_mk2] at h0
                have h2 : ((ncond c).den ρ).b = false := by rw [ncond_b, hb]; rfl
                have h3 : (((ncond c).den ρ).b || (g.den ρ).b) = true := h0
                rw [h2, Bool.false_or] at h3
                rw [Ex.den_ext hρ g (by rw [← hnv]; exact hgf g hg)]
                exact h3
              refine wpr_value (pure_nodefer hpure) hr ?_
              refine hk u w (Below.refl _ _) ?_
              simp only [recOf, SVR]
              exact ⟨hcF, SVR.fits _ _ hu, fun _ => hu, (fun hc => by rw [hbF] at hc; cases hc)⟩
            | false =>
              have hbF : (c.den ρF).b = false := by rw [Ex.den_ext hρ c hfc]; exact hb
              unfold wpO
              rw [if_neg (by rw [hwant hfc hb ρF hρ X W0 fs φ nx a w _ h]; simp)]
              refine hk undef w (Below.refl _ _) ?_
              simp only [recOf, SVR]
              exact ⟨hcF, SV.fits_names hρ.length_le v hvf (fun l hl => need_lt (use := useOf ops o) (f := σ.top) h rfl l (hvn l hl)), (fun hc => by rw [hbF] at hc; cases hc), fun _ => trivial⟩
          · cases hs
        · rw [mkIte_den] at hd
          cases hb : (c.den ρ).b with
          | true =>
            rw [if_pos hb] at hd
            exact (Stepped.known (K := learn c true σ.known) (drOp_sound (σ := { σ with known := learn c true σ.known }) hC (learn_sound c true σ.known hf hfc hb) hnv hd)).run (hwant hfc hb)
          | false =>
            rw [if_neg (by rw [hb]; simp)] at hd
            exact Stepped.skip (learn_sound c false σ.known hf hfc hb) hnv (hwant hfc hb) hd
    · simp [T.den] at hd

/-- What the listed run says of a region: what is written down of each operation, and the states between. -/
theorem drOps_sound {fz : Nat → Bool} (hC : CallOk P sigs C) {K : List Rec → St → T} : ∀ (l : List Oper) (σ : St) (ρ : List PV) (acc : List Rec), Facts ρ σ.known → σ.nv = ρ.length → (drOps P sigs ops fz l σ acc K).den N C ρ J = some r →
    ∃ (ρF : List PV) (rs : List Rec) (st : Nat → St), ρ <+: ρF ∧ rs.length = l.length ∧ st 0 = σ ∧ Facts ρF (st l.length).known ∧ (st l.length).nv = ρF.length ∧ (st l.length).jl = σ.jl ∧ (K (acc ++ rs) (st l.length)).den N C ρF J = some r ∧
      ∀ i o, l[i]? = some o → ∃ rc, rs[i]? = some rc ∧ ∀ X W0 fs, StepOk (wpO ro P ops o) ops X W0 ρF fs o rc (st i) (st (i + 1))
  | [], σ, ρ, acc, hf, hnv, hd => ⟨ρ, [], fun _ => σ, List.prefix_refl _, rfl, rfl, hf, hnv, rfl, by simpa [drOps] using hd, fun i o h => by simp at h⟩
  | o :: l, σ, ρ, acc, hf, hnv, hd => by
    simp only [drOps] at hd
    obtain ⟨ρ1, rc, σ1, h1, h2, h3, h4, h5, h6⟩ := drStep_sound hC hf hnv hd
    obtain ⟨ρF, rs, st, g1, g2, g3, g4, g5, g6, g7, g8⟩ := drOps_sound hC l σ1 ρ1 (acc ++ [rc]) h2 h3 h6
    refine ⟨ρF, rc :: rs, fun | 0 => σ | i + 1 => st i, h1.trans g1, by simp [g2], rfl, g4, g5, by rw [← h4, ← g6]; rfl, by simpa using g7, fun i o' ho => ?_⟩
    cases i with
    | zero =>
      simp only [List.getElem?_cons_zero, Option.some.injEq] at ho
      subst ho
      refine ⟨rc, rfl, fun X W0 fs => ?_⟩
      have := h5 ρF g1 X W0 fs
      rw [← g3] at this
      exact this
    | succ i => exact g8 i o' (by simpa using ho)

end
end Go.Proofs.Ytpaabecgngbjcaa.Sx
set_option linter.unusedVariables false
set_option linter.unusedSimpArgs false
namespace Go.Proofs.Ytpaabecgngbjcaa.Sx
open Go.RowKit

theorem put_tail (σ : St) (d : Option Nat) (v : SV) : (σ.put d v).fr.tail = σ.fr.tail := by unfold St.put; split <;> simp_all
theorem put_nonnil {σ : St} (h : σ.fr ≠ []) (d : Option Nat) (v : SV) : (σ.put d v).fr ≠ [] := by unfold St.put; split <;> simp_all
theorem put_top_same {σ : St} (h : σ.fr ≠ []) (t : Nat) (v : SV) : look (σ.put (some t) v).top t = some v := by
  unfold St.put St.top
  cases hf : σ.fr with
  | nil => exact absurd hf h
  | cons f r => exact look_put_same _ _ _
theorem put_top_other (σ : St) (d : Option Nat) (v : SV) (t : Nat) (h : d ≠ some t) : look (σ.put d v).top t = look σ.top t := by
  unfold St.put St.top
  cases d with
  | none => rfl
  | some u =>
    cases hf : σ.fr with
    | nil => simp only [hf]
    | cons f r => exact look_put_other _ _ _ _ (fun e => h (by rw [e]))
theorem top_eq {σ σ' : St} (h : σ.fr = σ'.fr) : σ.top = σ'.top := by unfold St.top; rw [h]

section
variable {X : Env} {W0 : World} {φ : Names} {ρ : List PV} {σ : St} {fs : List Act} {w w' : World}

theorem Rel.grown {ρ' : List PV} (h : Rel X W0 φ ρ σ fs w) (hp : ρ <+: ρ') : Rel X W0 φ ρ' { σ with nv := ρ'.length } fs w := by
  refine ⟨h.below, h.old, h.low, h.inj, h.names, rfl, Facts.ext h.known hp, FrsR.evo (Evo.refl X φ σ.nx w) hp (Nat.le_refl _) _ _ h.frames, fun l o hl => ?_⟩
  obtain ⟨k, hk, ho⟩ := h.heap l o hl
  exact ⟨k, hk, ObR.evo (Evo.refl X φ σ.nx w) hp (Nat.le_refl _) (fun _ _ => rfl) o ho⟩

theorem Rel.turn {n j n' j' nx : Nat} {K : List (Ex × Bool)} {f f' : List (Nat × SV)} {tl : List (List (Nat × SV))} {hp hp' : List (Nat × Ob)} {x y : Act} (h : Rel X W0 φ ρ ⟨n, j, nx, K, f :: tl, hp⟩ (x :: fs) w) (hf : FrR w X φ ρ nx f' y.tmps)
    (hh : ∀ l o, look hp' l = some o → look hp l = some o) (hd : y.defers = x.defers := by first | rfl | exact put_defers _ _ _) : Rel X W0 φ ρ ⟨ρ.length, j', nx, [], f' :: tl, hp'⟩ (y :: fs) w := by
  refine ⟨h.below, h.old, h.low, h.inj, h.names, rfl, (fun c b hc => by cases hc), ?_, fun l o hl => h.heap l o (hh l o hl)⟩
  have := h.frames
  simp only [FrsR] at this ⊢
  obtain ⟨a, as', he, _, h1, h2⟩ := this
  cases he
  exact ⟨_, _, rfl, hf, by rw [hd]; exact h1, h2⟩

end

section
variable {ro : Option Nat} {P : Program} {X : Env} {W0 : World} {ρ : List PV} {fs : List Act} {ops : Array Oper} {rs : List Rec} {st : Nat → St} {tab : List Nat}

/-- What is written down of every operation holds. -/
def AllOk (ro : Option Nat) (P : Program) (ops : Array Oper) (X : Env) (W0 : World) (ρ : List PV) (fs : List Act) (rs : List Rec) (st : Nat → St) : Prop :=
  ∀ i o, ops.toList[i]? = some o → ∃ rc, rs[i]? = some rc ∧ StepOk (wpO ro P ops o) ops X W0 ρ fs o rc (st i) (st (i + 1))

theorem AllOk.at (h : AllOk ro P ops X W0 ρ fs rs st) (hl : rs.length = ops.toList.length) {i : Nat} (hi : i < ops.toList.length) : ∃ o rc, ops.toList[i]? = some o ∧ rs[i]? = some rc ∧ StepOk (wpO ro P ops o) ops X W0 ρ fs o rc (st i) (st (i + 1)) := by
  obtain ⟨rc, h1, h2⟩ := h i _ (List.getElem?_eq_getElem hi)
  exact ⟨_, rc, List.getElem?_eq_getElem hi, h1, h2⟩

theorem heap_look (h : AllOk ro P ops X W0 ρ fs rs st) (hl : rs.length = ops.toList.length) (l : Nat) (p : Nat) : ∀ (q : Nat), p ≤ q → q ≤ ops.toList.length → (∀ j rc, p ≤ j → j < q → rs[j]? = some rc → rc.eff = false ∨ l ∉ rc.touched) → look (st q).heap l = look (st p).heap l := by
  intro q hq
  induction q with
  | zero => intro _ _; rw [show p = 0 by omega]
  | succ q ih =>
    intro hn hall
    by_cases he : p = q + 1
    · rw [he]
    · rw [← ih (by omega) (by omega) (fun j rc h1 h2 => hall j rc h1 (by omega))]
      obtain ⟨o, rc, _, hrc, hs⟩ := h.at hl (i := q) (by omega)
      cases heff : rc.eff with
      | false => rw [(hs.float heff).1]
      | true =>
        rcases hall q rc (by omega) (by omega) hrc with h1 | h1
        · rw [heff] at h1; cases h1
        · exact (hs.heavy heff).1 l h1

theorem heap_const (h : AllOk ro P ops X W0 ρ fs rs st) (hl : rs.length = ops.toList.length) (p : Nat) : ∀ (q : Nat), p ≤ q → q ≤ ops.toList.length → (∀ j rc, p ≤ j → j < q → rs[j]? = some rc → rc.eff = false) → (st q).heap = (st p).heap ∧ (st q).nx = (st p).nx := by
  intro q hq
  induction q with
  | zero => intro _ _; rw [show p = 0 by omega]; exact ⟨rfl, rfl⟩
  | succ q ih =>
    intro hn hall
    by_cases he : p = q + 1
    · rw [he]; exact ⟨rfl, rfl⟩
    · obtain ⟨h1, h2⟩ := ih (by omega) (by omega) (fun j rc h1 h2 => hall j rc h1 (by omega))
      obtain ⟨o, rc, _, hrc, hs⟩ := h.at hl (i := q) (by omega)
      have := hs.float (hall q rc (by omega) (by omega) hrc)
      exact ⟨this.1.trans h1, this.2.1.trans h2⟩

theorem top_look (h : AllOk ro P ops X W0 ρ fs rs st) (hl : rs.length = ops.toList.length) (t : Nat) (p : Nat) : ∀ (q : Nat), p ≤ q → q ≤ ops.toList.length → (∀ j rc, p ≤ j → j < q → rs[j]? = some rc → rc.dst ≠ some t) → look (st q).top t = look (st p).top t := by
  intro q hq
  induction q with
  | zero => intro _ _; rw [show p = 0 by omega]
  | succ q ih =>
    intro hn hall
    by_cases he : p = q + 1
    · rw [he]
    · rw [← ih (by omega) (by omega) (fun j rc h1 h2 => hall j rc h1 (by omega))]
      obtain ⟨o, rc, _, hrc, hs⟩ := h.at hl (i := q) (by omega)
      rw [top_eq hs.fr]
      exact put_top_other _ _ _ _ (by rw [← hs.dst]; exact hall q rc (by omega) (by omega) hrc)

theorem fr_shape (h : AllOk ro P ops X W0 ρ fs rs st) (hl : rs.length = ops.toList.length) (h0 : (st 0).fr ≠ []) : ∀ (q : Nat), q ≤ ops.toList.length → (st q).fr ≠ [] ∧ (st q).fr.tail = (st 0).fr.tail := by
  intro q
  induction q with
  | zero => intro _; exact ⟨h0, rfl⟩
  | succ q ih =>
    intro hn
    obtain ⟨h1, h2⟩ := ih (by omega)
    obtain ⟨o, rc, _, hrc, hs⟩ := h.at hl (i := q) (by omega)
    rw [hs.fr]
    exact ⟨put_nonnil h1 _ _, (put_tail _ _ _).trans h2⟩

/-- What holds while a region runs: so much has run. -/
structure Inv (X : Env) (W0 : World) (ρ : List PV) (fs : List Act) (n m : Nat) (rs : List Rec) (st : Nat → St) (S : Nat → Prop) (φ : Names) (a : Act) (w : World) (q : Nat) : Prop where
  le : q ≤ n
  heavy : ∀ i rc, rs[i]? = some rc → rc.eff = true → (S i ↔ i < q)
  rel : Rel X W0 φ ρ ⟨ρ.length, 0, (st q).nx, [], [] :: (st 0).fr.tail, (st q).heap⟩ (a :: fs) w
  fr : ∀ j t s, j ≤ n → (∀ i rc, rs[i]? = some rc → rc.dst = some t → (S i ↔ i < j)) → look (st j).top t = some s → SVR w X φ ρ (st q).nx s (a.tmps.getD t undef)
  dfr : True
  size : a.tmps.size = m

theorem getD_put_same {a : Act} {t : Nat} {v : Value} (h : t < a.tmps.size) : (a.put (some t) v).tmps.getD t undef = v := by simp [Act.put, Array.getD, h]
theorem getD_put_other {a : Act} {d : Option Tmp} {t : Nat} {v : Value} (h : d ≠ some t) : (a.put d v).tmps.getD t undef = a.tmps.getD t undef := by
  cases d with
  | none => rfl
  | some u =>
    have hne : u ≠ t := fun e => h (by rw [e])
    rw [Array.getD_eq_getD_getElem?, Array.getD_eq_getD_getElem?]
    show ((a.tmps.setIfInBounds u v)[t]?).getD undef = _
    rw [Array.getElem?_setIfInBounds_ne hne]

theorem inv_step (hall : AllOk ro P ops X W0 ρ fs rs st) (hl : rs.length = ops.toList.length) (h0 : (st 0).fr ≠ []) {n m : Nat} (hn : n = ops.toList.length) (hdst : ∀ o ∈ ops.toList, ∀ t, o.dst = some t → t < m) {S : Nat → Prop} {φ : Names} {a : Act} {w : World} {q : Nat} (hI : Inv X W0 ρ fs n m rs st S φ a w q)
    {i : Nat} {o : Oper} (ho : ops.toList[i]? = some o) (hni : ¬ S i)
    (hlt : ∀ j x y, j < i → rs[j]? = some x → rs[i]? = some y → apart2 x y = true ∨ S j) (hgt : ∀ j x y, i < j → rs[i]? = some x → rs[j]? = some y → apart2 x y = true ∨ ¬ S j)
    {K : Act → World → Prop} {Q : Exit → Act → World → Prop} (hK : ∀ φ' a' w' q', Inv X W0 ρ fs n m rs st (fun j => S j ∨ j = i) φ' a' w' q' → K a' w') : wpO ro P ops o K Q a w := by
  obtain ⟨rc, hrc, hs⟩ := hall i o ho
  have hi : i < n := by rw [hn]; exact (List.getElem?_eq_some_iff.1 ho).1
  obtain ⟨hne, htail⟩ := fr_shape hall hl h0 i (by omega)
  have hdm : ∀ t, o.dst = some t → t < a.tmps.size := fun t ht => by rw [hI.size]; exact hdst o (List.mem_of_getElem? ho) t ht
  -- the slots that are looked at
  have hcut : FrR w X φ ρ (st q).nx (cutFr (st i).top rc.use) a.tmps := by
    intro t s hs'
    obtain ⟨hu, hlk⟩ := look_cut (look_mem _ _ _ hs')
    refine hI.fr i t s (by omega) (fun i' rc' hrc' hd' => ?_) hlk
    rcases Nat.lt_trichotomy i' i with h | h | h
    · refine ⟨fun _ => h, fun _ => ?_⟩
      rcases hlt i' rc' rc h hrc' hrc with h1 | h1
      · simp only [apart2, Bool.and_eq_true, hd', Option.all_some, Bool.not_eq_true', List.contains_eq_mem, decide_eq_false_iff_not] at h1
        exact absurd hu h1.1.1.1.1.1
      · exact h1
    · subst h
      exact ⟨fun h => absurd h hni, fun h => absurd h (Nat.lt_irrefl _)⟩
    · refine ⟨fun hS => ?_, fun h' => by omega⟩
      rcases hgt i' rc rc' h hrc hrc' with h1 | h1
      · simp only [apart2, Bool.and_eq_true, hd', Option.all_some, Bool.not_eq_true', List.contains_eq_mem, decide_eq_false_iff_not] at h1
        exact absurd hu h1.1.1.1.2
      · exact absurd hS h1
  -- what the slots hold afterwards
  have hframe : ∀ {φ' : Names} {v : Value} {w' : World} {nx' : Nat}, (∀ s u, SVR w X φ ρ (st q).nx s u → SVR w' X φ' ρ nx' s u) → SVR w' X φ' ρ nx' rc.sv v →
      ∀ j t s, j ≤ n → (∀ i' rc', rs[i']? = some rc' → rc'.dst = some t → ((S i' ∨ i' = i) ↔ i' < j)) → look (st j).top t = some s → SVR w' X φ' ρ nx' s ((a.put o.dst v).tmps.getD t undef) := by
    intro φ' v w' nx' hev hv j t s hj hcond hlk
    by_cases hd : o.dst = some t
    · have hij : i < j := (hcond i rc hrc (hs.dst.trans hd)).1 (.inr rfl)
      have hlk' : look (st j).top t = look (st (i + 1)).top t := by
        refine top_look hall hl t (i + 1) j (by omega) (by omega) (fun j' rc' h1 h2 hrc' hd' => ?_)
        have hSj : S j' := ((hcond j' rc' hrc' hd').2 h2).resolve_right (by omega)
        rcases hgt j' rc rc' (by omega) hrc hrc' with h3 | h3
        · simp only [apart2, Bool.and_eq_true, hs.dst, hd, Option.all_some, bne_iff_ne, ne_eq] at h3
          exact h3.1.1.1.1.2 hd'
        · exact h3 hSj
      rw [hlk', top_eq hs.fr, hd, put_top_same hne] at hlk
      cases hlk
      rw [hd, getD_put_same (hdm t hd)]
      exact hv
    · rw [getD_put_other hd]
      refine hev _ _ (hI.fr j t s hj (fun i' rc' hrc' hd' => ?_) hlk)
      rw [← hcond i' rc' hrc' hd']
      refine ⟨.inl, fun h => h.resolve_right fun he => ?_⟩
      subst he
      rw [hrc] at hrc'
      cases hrc'
      exact hd (hs.dst ▸ hd')
  cases heff : rc.eff with
  | false =>
    obtain ⟨hh, hx, hfl⟩ := hs.float heff
    have hlook : ∀ l o', look (keep (st i).heap rc.need) l = some o' → look (st q).heap l = some o' := by
      intro l o' hk
      obtain ⟨hln, hk⟩ := look_keep hk
      rw [← hk]
      rcases Nat.le_total q i with h | h
      · refine (heap_look hall hl l q i h (by omega) (fun j rc' h1 h2 hrc' => ?_)).symm
        cases he' : rc'.eff with
        | false => exact .inl rfl
        | true =>
          right
          have hnS : ¬ S j := fun hS => absurd ((hI.heavy j rc' hrc' he').1 hS) (by omega)
          rcases hlt j rc' rc h2 hrc' hrc with h3 | h3
          · simp only [apart2, Bool.and_eq_true, he', Bool.not_true, Bool.false_or, List.all_eq_true, Bool.not_eq_true', List.contains_eq_mem, decide_eq_false_iff_not] at h3
            exact fun hm => h3.1.2 l hm hln
          · exact absurd h3 hnS
      · refine heap_look hall hl l i q h (by have := hI.le; omega) (fun j rc' h1 h2 hrc' => ?_)
        cases he' : rc'.eff with
        | false => exact .inl rfl
        | true =>
          right
          have hS : S j := (hI.heavy j rc' hrc' he').2 h2
          have hij : i < j := by
            rcases Nat.eq_or_lt_of_le h1 with h4 | h4
            · exact absurd (h4 ▸ hS) hni
            · exact h4
          rcases hgt j rc rc' hij hrc hrc' with h3 | h3
          · simp only [apart2, Bool.and_eq_true, he', Bool.not_true, Bool.false_or, List.all_eq_true, Bool.not_eq_true', List.contains_eq_mem, decide_eq_false_iff_not] at h3
            exact fun hm => h3.2 l hm hln
          · exact absurd hS h3
    refine hfl φ (st q).nx a w K Q (by rw [htail]; exact hI.rel.turn (n' := 0) (j' := 0) hcut hlook) fun v w' hb hv => ?_
    have hev := Evo.ofBelow hb hI.rel
    refine hK φ _ w' q ⟨hI.le, fun j rc' hrc' he' => ?_, (hI.rel.after hb).turn (n' := 0) (j' := 0) (fun t s h => by simp [look] at h) (fun _ _ h => h), hframe (fun s u h => SVR.evo hev (List.prefix_refl _) (Nat.le_refl _) s u h) hv, trivial, by rw [put_size]; exact hI.size⟩
    rw [← hI.heavy j rc' hrc' he']
    refine ⟨fun h => h.resolve_right fun he => ?_, .inl⟩
    subst he
    rw [hrc] at hrc'
    cases hrc'
    rw [heff] at he'
    cases he'
  | true =>
    obtain ⟨htch, hhv⟩ := hs.heavy heff
    -- what has run of those that change memory: what is listed ahead
    have hord : ∀ j rc', rs[j]? = some rc' → rc'.eff = true → (S j ↔ j < i) := by
      intro j rc' hrc' he'
      rcases Nat.lt_trichotomy j i with h | h | h
      · refine ⟨fun _ => h, fun _ => ?_⟩
        rcases hlt j rc' rc h hrc' hrc with h1 | h1
        · simp [apart2, heff, he'] at h1
        · exact h1
      · subst h
        exact ⟨fun h => absurd h hni, fun h => absurd h (Nat.lt_irrefl _)⟩
      · refine ⟨fun hS => ?_, fun h' => by omega⟩
        rcases hgt j rc rc' h hrc hrc' with h1 | h1
        · simp [apart2, heff, he'] at h1
        · exact absurd hS h1
    have hqi : q ≤ i := by
      rcases Nat.lt_or_ge i q with h | h
      · exact absurd ((hI.heavy i rc hrc heff).2 h) hni
      · exact h
    obtain ⟨hh, hx⟩ := heap_const hall hl q i hqi (by omega) (fun j rc' h1 h2 hrc' => by
      cases he' : rc'.eff with
      | false => rfl
      | true =>
        have := (hI.heavy j rc' hrc' he').1 ((hord j rc' hrc' he').2 h2)
        omega)
    refine hhv φ a w K Q (by rw [htail, hx, hh]; exact hI.rel.turn (n' := 0) (j' := 0) hcut (fun _ _ h => h)) fun φ' v w' hnx hev hrel hv => ?_
    rw [hx] at hev hnx
    refine hK φ' _ w' (i + 1) ⟨by omega, fun j rc' hrc' he' => ?_, by rw [htail] at hrel; exact hrel.turn (n' := 0) (j' := 0) (fun t s h => by simp [look] at h) (fun _ _ h => h), hframe (fun s u h => SVR.evo hev (List.prefix_refl _) hnx s u h) hv, trivial, by rw [put_size]; exact hI.size⟩
    rw [hord j rc' hrc' he']
    omega

end
end Go.Proofs.Ytpaabecgngbjcaa.Sx
set_option linter.unusedVariables false
set_option linter.unusedSimpArgs false
namespace Go.Proofs.Ytpaabecgngbjcaa.Sx
open Go.RowKit

section
variable {ro : Option Nat} {P : Program} {X : Env} {W0 : World} {ρ : List PV} {fs : List Act} {ops : Array Oper} {rs : List Rec} {st : Nat → St} {tab : List Nat}

theorem mem_ready {listed : Array Bool} {i : Nat} (h : i ∈ Region.ready .any ops listed) : ∃ o, ops.toList[i]? = some o ∧ listed.getD i true = false ∧ ∀ e ∈ o.after.toList, Region.binds .any e = true → listed.getD e.on false = true := by
  simp only [Region.ready, List.mem_filter, List.mem_range, Bool.and_eq_true, Bool.not_eq_true'] at h
  obtain ⟨h1, h2, h3⟩ := h
  refine ⟨ops[i], by simp [h1], h2, ?_⟩
  rw [Array.getElem?_eq_getElem h1] at h3
  simp only [Option.map_some, Option.getD_some] at h3
  intro e he hb
  rw [Array.all_eq_true_iff_forall_mem] at h3
  have := h3 e (by simpa using he)
  rw [hb] at this
  simpa using this

theorem ready_all {listed : Array Bool} (ht : tabOk tab ops.toList 0 = true) (hs : listed.size = ops.size) (h : Region.ready .any ops listed = []) : ∀ (n i : Nat), i < n → i < ops.size → listed.getD i false = true := by
  intro n
  induction n with
  | zero => intro i h; omega
  | succ n ih =>
    intro i hin hi
    cases hli : listed.getD i false with
    | true => rfl
    | false =>
      have hi' : i < listed.size := by omega
      have hmem : i ∈ Region.ready .any ops listed := by
        simp only [Region.ready, List.mem_filter, List.mem_range, Bool.and_eq_true, Bool.not_eq_true']
        refine ⟨hi, ?_, ?_⟩
        · rw [Array.getD_eq_getD_getElem?, Array.getElem?_eq_getElem hi'] at hli ⊢
          exact hli
        · rw [Array.getElem?_eq_getElem hi]
          simp only [Option.map_some, Option.getD_some]
          rw [Array.all_eq_true_iff_forall_mem]
          intro e he
          cases hb : Region.binds .any e with
          | false => rfl
          | true =>
            have := (tabOk_spec ht (j := i) (o := ops[i]) (by simp [hi])).2 e (by simpa using he) hb
            simp only [Nat.zero_add] at this
            simp only [Bool.not_true, Bool.false_or]
            exact ih e.on (by omega) (by omega)
      rw [h] at hmem
      cases hmem

theorem wpAny_inv (hall : AllOk ro P ops X W0 ρ fs rs st) (hl : rs.length = ops.toList.length) (h0 : (st 0).fr ≠ []) (ht : tabOk tab ops.toList 0 = true) (hap : apartAll tab rs 0 = true) {m : Nat} (hdst : ∀ o ∈ ops.toList, ∀ t, o.dst = some t → t < m) {Q : Exit → Act → World → Prop}
    (hfin : ∀ φ a w, Rel X W0 φ ρ ⟨ρ.length, 0, (st ops.toList.length).nx, [], (st ops.toList.length).fr, (st ops.toList.length).heap⟩ (a :: fs) w → True → a.tmps.size = m → Q .normal a w) :
    ∀ (fuel : Nat) (listed : Array Bool) φ a w q, listed.size = ops.size → ((List.range ops.size).filter fun i => !listed.getD i false).length ≤ fuel → (∀ j o, ops.toList[j]? = some o → listed.getD j false = true → ∀ e ∈ o.after.toList, Region.binds .any e = true → listed.getD e.on false = true) →
      Inv X W0 ρ fs ops.toList.length m rs st (fun j => listed.getD j false = true) φ a w q → wpAnyIn (Fr ro) 0 P .any ops Q fuel listed a w := by
  -- when all has run
  have done : ∀ (listed : Array Bool) φ a w q, listed.size = ops.size → Inv X W0 ρ fs ops.toList.length m rs st (fun j => listed.getD j false = true) φ a w q → Region.ready .any ops listed = [] → Q .normal a w := by
    intro listed φ a w q hsz hI hr
    have hS : ∀ i, i < ops.toList.length → listed.getD i false = true := fun i hi => ready_all ht hsz hr (i + 1) i (Nat.lt_succ_self i) (by simpa using hi)
    obtain ⟨hne, htail⟩ := fr_shape hall hl h0 ops.toList.length (Nat.le_refl _)
    have hin : ∀ {i : Nat} {rc : Rec}, rs[i]? = some rc → i < ops.toList.length := fun h => by rw [← hl]; exact (List.getElem?_eq_some_iff.1 h).1
    obtain ⟨hh, hx⟩ := heap_const hall hl q ops.toList.length hI.le (Nat.le_refl _) (fun j rc' h1 h2 hrc' => by
      cases he' : rc'.eff with
      | false => rfl
      | true =>
        have := (hI.heavy j rc' hrc' he').1 (hS j h2)
        omega)
    refine hfin φ a w ?_ hI.dfr hI.size
    have hf : FrR w X φ ρ (st q).nx (st ops.toList.length).top a.tmps := fun t s hs => hI.fr _ t s (Nat.le_refl _) (fun i rc hrc _ => ⟨fun _ => hin hrc, fun _ => hS i (hin hrc)⟩) hs
    have := hI.rel.turn (n' := 0) (j' := 0) hf (hp' := (st ops.toList.length).heap) (fun l o h => by rw [hh] at h; exact h)
    have hfr : (st ops.toList.length).top :: (st 0).fr.tail = (st ops.toList.length).fr := by
      rw [← htail]
      unfold St.top
      cases hc : (st ops.toList.length).fr with
      | nil => exact absurd hc hne
      | cons f r => rfl
    rw [hfr, ← hx] at this
    exact this
  intro fuel
  induction fuel with
  | zero =>
    intro listed φ a w q hsz hcnt hdown hI
    have hr : Region.ready .any ops listed = [] := by
      cases hr : Region.ready .any ops listed with
      | nil => rfl
      | cons i r =>
        have hm : i ∈ Region.ready .any ops listed := by rw [hr]; simp
        obtain ⟨o, ho, hli, _⟩ := mem_ready hm
        have hi : i < ops.size := by have := (List.getElem?_eq_some_iff.1 ho).1; simpa using this
        have : i ∈ (List.range ops.size).filter fun i => !listed.getD i false := by
          simp only [List.mem_filter, List.mem_range, Bool.not_eq_true']
          refine ⟨hi, ?_⟩
          rw [Array.getD_eq_getD_getElem?, Array.getElem?_eq_getElem (by omega)] at hli ⊢
          exact hli
        rw [List.length_eq_zero_iff.1 (Nat.le_zero.1 hcnt)] at this
        cases this
    exact ⟨hr, done listed φ a w q hsz hI hr⟩
  | succ fuel ih =>
    intro listed φ a w q hsz hcnt hdown hI
    refine ⟨fun hr => done listed φ a w q hsz hI hr, fun i hi => ?_⟩
    obtain ⟨o, ho, hli, hedge⟩ := mem_ready hi
    have hi' : i < ops.size := by have := (List.getElem?_eq_some_iff.1 ho).1; simpa using this
    have hlf : listed.getD i false = false := by
      rw [Array.getD_eq_getD_getElem?, Array.getElem?_eq_getElem (by omega)] at hli ⊢
      exact hli
    have hset : ∀ j, (listed.setIfInBounds i true).getD j false = true ↔ (listed.getD j false = true ∨ j = i) := by
      intro j
      rw [Array.getD_eq_getD_getElem?, Array.getD_eq_getD_getElem?, Array.getElem?_setIfInBounds]
      by_cases hji : i = j
      · subst hji
        simp [show i < listed.size by omega]
      · rw [if_neg hji]
        constructor
        · exact .inl
        · rintro (h | h)
          · exact h
          · exact absurd h.symm hji
    have htab := fun j i' o' hj h1 h2 => tab_ahead (S := fun j => listed.getD j false = true) ht hdown (j + 1) j i' o' (Nat.lt_succ_self j) hj h1 h2
    have key : wpO ro P ops o (wpAnyIn (Fr ro) 0 P .any ops Q fuel (listed.setIfInBounds i true)) Q a w := by
      refine inv_step hall hl h0 rfl hdst hI ho (by rw [hlf]; simp) (fun j x y hj hx hy => ?_) (fun j x y hj hx hy => ?_) (fun φ' a' w' q' hI' => ?_)
      · rcases apartAll_spec hap hx hy hj with h | h
        · simp only [Nat.zero_add] at h
          exact .inr (htab i j o ho hedge h)
        · exact .inl h
      · rcases apartAll_spec hap hx hy hj with h | h
        · right
          simp only [Nat.zero_add] at h
          intro hS
          have hjn : j < ops.toList.length := by rw [← hl]; exact (List.getElem?_eq_some_iff.1 hy).1
          have hoj := List.getElem?_eq_getElem hjn
          have := htab j i _ hoj (hdown j _ hoj hS) h
          rw [hlf] at this
          cases this
        · exact .inl h
      · refine ih (listed.setIfInBounds i true) φ' a' w' q' (by simp [hsz]) ?_ (fun j o' hj hSj e he hb => ?_) ?_
        · have hlt : ((List.range ops.size).filter fun j => !(listed.setIfInBounds i true).getD j false).length < ((List.range ops.size).filter fun j => !listed.getD j false).length := by
            have heq : ((List.range ops.size).filter fun j => !(listed.setIfInBounds i true).getD j false) = ((List.range ops.size).filter fun j => !listed.getD j false).filter (fun j => !(j == i)) := by
              rw [List.filter_filter]
              refine List.filter_congr fun j _ => ?_
              have := hset j
              cases h1 : (listed.setIfInBounds i true).getD j false <;> cases h2 : listed.getD j false <;> cases h3 : (j == i) <;> simp_all
            rw [heq, List.length_filter_lt_length_iff_exists]
            exact ⟨i, List.mem_filter.2 ⟨List.mem_range.2 hi', by rw [hlf]; rfl⟩, by simp⟩
          omega
        · rw [hset] at hSj ⊢
          rcases hSj with hSj | rfl
          · exact .inl (hdown j o' hj hSj e he hb)
          · rw [ho] at hj
            cases hj
            exact .inl (hedge e he hb)
        · have hS : (fun j => (listed.setIfInBounds i true).getD j false = true) = (fun j => listed.getD j false = true ∨ j = i) := funext fun j => propext (hset j)
          rw [hS]
          exact hI'
    unfold wpOpIn
    have ho' : ops[i]? = some o := by simpa using ho
    rw [ho']
    unfold wpO at key
    show if _ then _ else _
    split
    · rename_i hw; rw [if_pos hw] at key; exact key
    · rename_i hw; rw [if_neg hw] at key; exact ⟨fun _ _ => trivial, key⟩

/-- Regions in open order. -/
theorem drawn_sound {sigs : Nat → Option Sig} {C : Nat → List PV → Option (List PV)} {N : Nat} (hm : P.follows .mixedOrders = true) (hC : CallOk P sigs C) (inl : Inl) : DrawnOk P N C X W0 (sxDrawn P sigs inl) := by
  intro ro id ops n fs σ k φ ρ J r a w Q hdst h hJ hdf hsz hk hd
  simp only [sxDrawn] at hd
  split at hd
  · rename_i ht
    obtain ⟨ρF, rs, st, g1, g2, g3, g4, g5, g6, g7, g8⟩ := drOps_sound hC ops.toList σ ρ [] h.known h.nv hd
    simp only [List.nil_append] at g7
    split at g7
    · rename_i hap
      have hall : AllOk ro P ops X W0 ρF fs rs st := fun i o ho => by
        obtain ⟨rc, h1, h2⟩ := g8 i o ho
        exact ⟨rc, h1, h2 X W0 fs⟩
      have hne : (st 0).fr ≠ [] := by
        rw [g3]
        intro hc
        have := h.frames
        rw [hc] at this
        simp [FrsR] at this
      refine wpIn_region_any hm ?_
      have hdr : Rel X W0 φ ρF { σ with nv := ρF.length } (a :: fs) w.drew := (h.after (Below.refl w.heap.size w).drew).grown g1
      refine wpAny_inv (tab := tabGo ops.toList []) hall g2 hne ht hap hdst (fun φ' a' w' hrel hd' hs' => ?_) ops.size _ φ a _ 0 (by simp) (Nat.le_trans (List.length_filter_le _ _) (by simp)) (fun j o hj hS => ?_) ?_
      · have hfull : Rel X W0 φ' ρF (st ops.toList.length) (a' :: fs) w' := ⟨hrel.below, hrel.old, hrel.low, hrel.inj, hrel.names, g5, g4, hrel.frames, hrel.heap⟩
        exact hk φ' ρF J (st ops.toList.length) a' w' g1 (List.prefix_refl _) (by rw [g6, hJ]) hfull hd' hs' g7
      · rw [Array.getD_eq_getD_getElem?, Array.getElem?_replicate] at hS
        split at hS <;> cases hS
      · have hno : ∀ i, ¬ ((Array.replicate ops.size false).getD i false = true) := fun i => by
          rw [Array.getD_eq_getD_getElem?, Array.getElem?_replicate]
          split <;> simp
        have hfr := hdr.frames
        have hsplit : ({ σ with nv := ρF.length } : St).fr = σ.top :: σ.fr.tail := by
          show σ.fr = _
          unfold St.top
          cases hc : σ.fr with
          | nil => rw [g3] at hne; exact absurd hc hne
          | cons f r => rfl
        rw [hsplit] at hfr
        simp only [FrsR] at hfr
        obtain ⟨a0, as', he, hf1, hf2⟩ := hfr
        cases he
        refine ⟨Nat.zero_le _, fun i rc _ _ => ⟨fun hS => absurd hS (hno i), fun hlt => absurd hlt (Nat.not_lt_zero _)⟩, ?_, fun j t s hj hcond hlk => ?_, hdf, hsz⟩
        · rw [g3]
          refine ⟨hdr.below, hdr.old, hdr.low, hdr.inj, hdr.names, rfl, (fun c b hc => by cases hc), ?_, hdr.heap⟩
          simp only [FrsR]
          exact ⟨_, _, rfl, (fun t s hs => by simp [look] at hs), hf2⟩
        · rw [top_look hall g2 t 0 j (Nat.zero_le _) hj (fun i rc _ hij hrc hd' => hno i ((hcond i rc hrc hd').2 hij)), g3] at hlk
          rw [g3]
          exact hf1 t s hlk
    · simp [T.den] at g7
  · simp [T.den] at hd

end
end Go.Proofs.Ytpaabecgngbjcaa.Sx
set_option linter.unusedVariables false
set_option linter.unusedSimpArgs false
namespace Go.Proofs.Ytpaabecgngbjcaa.Sx
open Go.RowKit

def Ex.sames : List Ex → List Ex → Bool
  | [], [] => true
  | a :: as, b :: bs => a.same b && Ex.sames as bs
  | _, _ => false

theorem Ex.sames_eq : ∀ (a b : List Ex), Ex.sames a b = true → a = b
  | [], [], _ => rfl
  | a :: as, b :: bs, h => by simp only [Ex.sames, Bool.and_eq_true] at h; rw [Ex.same_eq a b h.1, Ex.sames_eq as bs h.2]
  | [], _ :: _, h | _ :: _, [], h => by simp [Ex.sames] at h

/-- Is the tree the one that is written down? Where it fails, anything may be written down that fails. -/
def T.same : T → T → Bool
  | .fail _, .fail _ => true
  | .ret a, .ret b => Ex.sames a b
  | .ite c a b, .ite c' a' b' => c.same c' && a.same a' && b.same b'
  | .call f es n k, .call f' es' n' k' => f == f' && Ex.sames es es' && n == n' && k.same k'
  | .loop es b, .loop es' b' => Ex.sames es es' && b.same b'
  | .letj b m, .letj b' m' => b.same b' && m.same m'
  | .jump j es, .jump j' es' => j == j' && Ex.sames es es'
  | _, _ => false

theorem T.same_den (N : Nat) (C : Nat → List PV → Option (List PV)) : ∀ (a b : T), a.same b = true → ∀ ρ J, a.den N C ρ J = b.den N C ρ J := by
  intro a
  induction a with
  | fail w => intro b h ρ J; cases b <;> simp_all [T.same, T.den]
  | ret es => intro b h ρ J; cases b <;> simp [T.same] at h; rw [Ex.sames_eq _ _ h]
  | ite c x y ih1 ih2 =>
    intro b h ρ J
    cases b <;> simp [T.same] at h
    simp only [T.den, Ex.same_eq _ _ h.1.1, ih1 _ h.1.2, ih2 _ h.2]
  | call f es n k ih =>
    intro b h ρ J
    cases b <;> simp [T.same] at h
    obtain ⟨⟨⟨rfl, h2⟩, rfl⟩, h4⟩ := h
    simp only [T.den, Ex.sames_eq _ _ h2, ih _ h4]
  | loop es b ih =>
    intro b' h ρ J
    cases b' <;> simp [T.same] at h
    simp only [T.den, Ex.sames_eq _ _ h.1, ih _ h.2]
  | letj b m ih1 ih2 =>
    intro b' h ρ J
    cases b' <;> simp [T.same] at h
    simp only [T.den, ih1 _ h.1, ih2 _ h.2]
  | jump j es =>
    intro b h ρ J
    cases b <;> simp [T.same] at h
    obtain ⟨rfl, h2⟩ := h
    simp only [T.den, Ex.sames_eq _ _ h2]
  | mark σ => intro b h ρ J; cases b <;> simp [T.same] at h

/-- What the written trees say, so many calls deep. -/
def told (tr : Nat → Option T) (N : Nat) : Nat → Nat → List PV → Option (List PV)
  | 0, _, _ => none
  | d + 1, f, args => match tr f with | some t => t.den N (told tr N d) args [] | none => none

theorem told_ok {P : Program} {sigs : Nat → Option Sig} {tr : Nat → Option T} {depth : Nat} (hm : P.follows .mixedOrders = true)
    (htr : ∀ f sg t, sigs f = some sg → tr f = some t → (treeOf P sigs (sxDrawn P sigs) depth f sg).same t = true) (N : Nat) : ∀ d, CallOk P sigs (told tr N d) := by
  intro d
  induction d with
  | zero => intro f sg _ args rs h; cases h
  | succ d ih =>
    intro f sg hsg args rs h w vs X hX hA
    simp only [told] at h
    split at h
    · rename_i t ht
      exact tree_calls ih (fun X W0 inl => drawn_sound hm ih inl) (by rw [T.same_den _ _ _ _ (htr f sg t hsg ht)]; exact h) hX hA
    · cases h

/-- More rounds, deeper calls: the same answer. -/
theorem loopN_mono {α : Type} {F G : (α → Option (List PV)) → α → Option (List PV)} (h : ∀ s s' : α → Option (List PV), (∀ v r, s v = some r → s' v = some r) → ∀ v r, F s v = some r → G s' v = some r) :
    ∀ (n m : Nat), n ≤ m → ∀ v r, loopN F n v = some r → loopN G m v = some r := by
  intro n
  induction n with
  | zero => intro m _ v r h; cases h
  | succ n ih =>
    intro m hm v r hl
    cases m with
    | zero => omega
    | succ m => exact h _ _ (fun v r hv => ih m (by omega) v r hv) v r hl

theorem den_mono {C C' : Nat → List PV → Option (List PV)} (hC : ∀ f a r, C f a = some r → C' f a = some r) {N N' : Nat} (hN : N ≤ N') : ∀ (t : T) (ρ : List PV) (J J' : List (List PV → Option (List PV))), J.length = J'.length → (∀ (i : Nat) f f', J[i]? = some f → J'[i]? = some f' → ∀ v r, f v = some r → f' v = some r) →
    ∀ r, t.den N C ρ J = some r → t.den N' C' ρ J' = some r := by
  intro t
  induction t with
  | fail w => intro ρ J J' _ _ r h; cases h
  | ret es => intro ρ J J' _ _ r h; exact h
  | ite c a b ih1 ih2 =>
    intro ρ J J' hl hJ r h
    simp only [T.den] at h ⊢
    split
    · rename_i hc; rw [if_pos hc] at h; exact ih1 ρ J J' hl hJ r h
    · rename_i hc; rw [if_neg hc] at h; exact ih2 ρ J J' hl hJ r h
  | call f es n k ih =>
    intro ρ J J' hl hJ r h
    simp only [T.den, Option.bind_eq_some_iff] at h ⊢
    obtain ⟨vs, h1, h2⟩ := h
    refine ⟨vs, hC _ _ _ h1, ?_⟩
    split
    · rename_i hc; rw [if_pos hc] at h2; exact ih _ J J' hl hJ r h2
    · rename_i hc; rw [if_neg hc] at h2; cases h2
  | loop es b ih =>
    intro ρ J J' hl hJ r h
    simp only [T.den] at h ⊢
    refine loopN_mono (fun s s' hs v r hv => ih (ρ ++ v) (J ++ [s]) (J' ++ [s']) (by simp [hl]) (fun i f f' h1 h2 => ?_) r hv) N N' hN _ r h
    rcases Nat.lt_trichotomy i J.length with hi | hi | hi
    · rw [List.getElem?_append_left hi] at h1
      rw [List.getElem?_append_left (by omega)] at h2
      exact hJ i f f' h1 h2
    · subst hi
      rw [List.getElem?_append_right (Nat.le_refl _)] at h1
      rw [hl, List.getElem?_append_right (Nat.le_refl _)] at h2
      simp only [Nat.sub_self, List.getElem?_cons_zero, Option.some.injEq] at h1 h2
      subst h1 h2
      exact hs
    · rw [List.getElem?_eq_none (by simp; omega)] at h1
      cases h1
  | letj b m ih1 ih2 =>
    intro ρ J J' hl hJ r h
    simp only [T.den] at h ⊢
    refine ih2 ρ _ _ (by simp [hl]) (fun i f f' h1 h2 => ?_) r h
    rcases Nat.lt_trichotomy i J.length with hi | hi | hi
    · rw [List.getElem?_append_left hi] at h1
      rw [List.getElem?_append_left (by omega)] at h2
      exact hJ i f f' h1 h2
    · subst hi
      rw [List.getElem?_append_right (Nat.le_refl _)] at h1
      rw [hl, List.getElem?_append_right (Nat.le_refl _)] at h2
      simp only [Nat.sub_self, List.getElem?_cons_zero, Option.some.injEq] at h1 h2
      subst h1 h2
      intro v r hv
      exact ih1 _ J J' hl hJ r hv
    · rw [List.getElem?_eq_none (by simp; omega)] at h1
      cases h1
  | jump j es =>
    intro ρ J J' hl hJ r h
    simp only [T.den] at h ⊢
    split at h
    · rename_i f hf
      have hj : j < J'.length := by rw [← hl]; exact (List.getElem?_eq_some_iff.1 hf).1
      rw [List.getElem?_eq_getElem hj]
      exact hJ j f _ hf (List.getElem?_eq_getElem hj) _ _ h
    · cases h
  | mark σ => intro ρ J J' _ _ r h; cases h

theorem told_mono (tr : Nat → Option T) {N N' : Nat} (hN : N ≤ N') : ∀ (d d' : Nat), d ≤ d' → ∀ f a r, told tr N d f a = some r → told tr N' d' f a = some r := by
  intro d
  induction d with
  | zero => intro d' _ f a r h; cases h
  | succ d ih =>
    intro d' hd f a r h
    cases d' with
    | zero => omega
    | succ d' =>
      simp only [told] at h ⊢
      split at h
      · exact den_mono (ih d' (by omega)) hN _ _ [] [] rfl (fun i f f' h => by simp at h) _ h
      · cases h

end Go.Proofs.Ytpaabecgngbjcaa.Sx
set_option linter.unusedVariables false
set_option linter.unusedSimpArgs false
namespace Go.Proofs.Ytpaabecgngbjcaa.Sx

/-- Where a jump goes. -/
inductive JT where
  | join (b : T) (ρ : List PV)
  | loop (b : T) (ρ : List PV)

def run (tr : Nat → Option T) : Nat → T → List PV → List JT → Option (List PV)
  | 0, _, _, _ => none
  | h + 1, t, ρ, J =>
    match t with
    | .ret es => some (es.map (·.den ρ))
    | .ite c a b => if (c.den ρ).b = true then run tr h a ρ J else run tr h b ρ J
    | .call f es n k => (tr f).bind fun t => (run tr h t (es.map (·.den ρ)) []).bind fun vs => if vs.length = n then run tr h k (ρ ++ vs) J else none
    | .loop es b => run tr h b (ρ ++ es.map (·.den ρ)) (J ++ [.loop b ρ])
    | .letj b m => run tr h m ρ (J ++ [.join b ρ])
    | .jump j es =>
      match J[j]? with
      | some (.join b ρ0) => run tr h b (ρ0 ++ es.map (·.den ρ)) (J.take j)
      | some (.loop b ρ0) => run tr h b (ρ0 ++ es.map (·.den ρ)) (J.take (j + 1))
      | none => none
    | _ => none

/-- What stands for a jump's place. -/
def JGood (C : Nat → List PV → Option (List PV)) (N h : Nat) (J : List JT) (Jf : List (List PV → Option (List PV))) : Prop :=
  J.length = Jf.length ∧ ∀ (j : Nat) (x : JT), J[j]? = some x → match x with
    | .join b ρ0 => Jf[j]? = some (fun vs => b.den N C (ρ0 ++ vs) (Jf.take j))
    | .loop b ρ0 => ∃ m, h ≤ m ∧ Jf[j]? = some (loopN (fun self vs => b.den N C (ρ0 ++ vs) (Jf.take j ++ [self])) m)

theorem JGood.mono {C : Nat → List PV → Option (List PV)} {N h h' : Nat} {J : List JT} {Jf : List (List PV → Option (List PV))} (hg : JGood C N h J Jf) (hh : h' ≤ h) : JGood C N h' J Jf := by
  refine ⟨hg.1, fun j x hx => ?_⟩
  have := hg.2 j x hx
  cases x with
  | join b ρ0 => exact this
  | loop b ρ0 => obtain ⟨m, h1, h2⟩ := this; exact ⟨m, by omega, h2⟩

theorem JGood.take {C : Nat → List PV → Option (List PV)} {N h : Nat} {J : List JT} {Jf : List (List PV → Option (List PV))} (hg : JGood C N h J Jf) (i : Nat) : JGood C N h (J.take i) (Jf.take i) := by
  refine ⟨by simp [hg.1], fun j x hx => ?_⟩
  rw [List.getElem?_take] at hx
  split at hx
  · rename_i hj
    have := hg.2 j x hx
    have ht : (Jf.take i).take j = Jf.take j := by rw [List.take_take]; congr 1; omega
    cases x with
    | join b ρ0 => simp only at this ⊢; rw [List.getElem?_take, if_pos hj, this, ht]
    | loop b ρ0 => obtain ⟨m, h1, h2⟩ := this; exact ⟨m, h1, by rw [List.getElem?_take, if_pos hj, h2, ht]⟩
  · cases hx

theorem JGood.push {C : Nat → List PV → Option (List PV)} {N h : Nat} {J : List JT} {Jf : List (List PV → Option (List PV))} (hg : JGood C N h J Jf) {x : JT} {f : List PV → Option (List PV)}
    (hx : match x with | .join b ρ0 => f = (fun vs => b.den N C (ρ0 ++ vs) Jf) | .loop b ρ0 => ∃ m, h ≤ m ∧ f = loopN (fun self vs => b.den N C (ρ0 ++ vs) (Jf ++ [self])) m) : JGood C N h (J ++ [x]) (Jf ++ [f]) := by
  refine ⟨by simp [hg.1], fun j y hy => ?_⟩
  by_cases hj : j < J.length
  · rw [List.getElem?_append_left hj] at hy
    have := hg.2 j y hy
    have hj' : j < Jf.length := by rw [← hg.1]; exact hj
    have ht : (Jf ++ [f]).take j = Jf.take j := List.take_append_of_le_length (by omega)
    cases y with
    | join b ρ0 => simp only at this ⊢; rw [List.getElem?_append_left hj', this, ht]
    | loop b ρ0 => obtain ⟨m, h1, h2⟩ := this; exact ⟨m, h1, by rw [List.getElem?_append_left hj', h2, ht]⟩
  · have hje : j = J.length := by
      have := (List.getElem?_eq_some_iff.1 hy).1
      simp at this
      omega
    subst hje
    rw [List.getElem?_append_right (Nat.le_refl _)] at hy
    simp only [Nat.sub_self, List.getElem?_cons_zero, Option.some.injEq] at hy
    subst hy
    have ht : (Jf ++ [f]).take J.length = Jf := by rw [hg.1, List.take_append_of_le_length (Nat.le_refl _), List.take_length]
    have hf : (Jf ++ [f])[J.length]? = some f := by rw [hg.1, List.getElem?_append_right (Nat.le_refl _)]; simp
    cases x with
    | join b ρ0 => simp only at hx ⊢; rw [hf, ht, hx]
    | loop b ρ0 => obtain ⟨m, h1, h2⟩ := hx; exact ⟨m, h1, by rw [hf, ht, h2]⟩

theorem run_den {tr : Nat → Option T} {N : Nat} : ∀ (h : Nat) (t : T) (ρ : List PV) (J : List JT) (r : List PV), run tr h t ρ J = some r → h ≤ N → ∀ (d : Nat), h ≤ d → ∀ Jf, JGood (told tr N d) N h J Jf → t.den N (told tr N d) ρ Jf = some r := by
  intro h
  induction h with
  | zero => intro t ρ J r h; cases h
  | succ h ih =>
    intro t ρ J r hr hN d hd Jf hg
    have hg' := hg.mono (Nat.le_succ h)
    cases t with
    | fail w => cases hr
    | mark σ => cases hr
    | ret es => exact hr
    | ite c a b =>
      simp only [run] at hr
      simp only [T.den]
      split
      · rename_i hc; rw [if_pos hc] at hr; exact ih a ρ J r hr (by omega) d (by omega) Jf hg'
      · rename_i hc; rw [if_neg hc] at hr; exact ih b ρ J r hr (by omega) d (by omega) Jf hg'
    | call f es n k =>
      simp only [run, Option.bind_eq_some_iff] at hr
      obtain ⟨t, ht, vs, hv, hr⟩ := hr
      simp only [T.den, Option.bind_eq_some_iff]
      refine ⟨vs, ?_, ?_⟩
      · cases d with
        | zero => omega
        | succ d =>
          simp only [told, ht]
          exact ih t _ [] vs hv (by omega) d (by omega) [] ⟨rfl, fun j x hx => by simp at hx⟩
      · split at hr
        · rename_i hl; rw [if_pos hl]; exact ih k _ J r hr (by omega) d (by omega) Jf hg'
        · cases hr
    | loop es b =>
      simp only [run] at hr
      simp only [T.den]
      cases N with
      | zero => omega
      | succ N =>
        simp only [loopN]
        exact ih b _ _ r hr (by omega) d (by omega) _ (hg'.push (x := .loop b ρ) ⟨N, by omega, rfl⟩)
    | letj b m =>
      simp only [run] at hr
      simp only [T.den]
      exact ih m ρ _ r hr (by omega) d (by omega) _ (hg'.push (x := .join b ρ) rfl)
    | jump j es =>
      simp only [run] at hr
      simp only [T.den]
      split at hr
      · rename_i b ρ0 hj
        have := hg.2 j _ hj
        simp only at this
        rw [this]
        exact ih b _ _ r hr (by omega) d (by omega) _ (hg'.take j)
      · rename_i b ρ0 hj
        obtain ⟨m, hm, hf⟩ := hg.2 j _ hj
        rw [hf]
        cases m with
        | zero => omega
        | succ m =>
          simp only [loopN]
          have hpush := (hg'.take j).push (x := .loop b ρ0) (f := loopN (fun self vs => b.den N (told tr N d) (ρ0 ++ vs) (Jf.take j ++ [self])) m) ⟨m, by omega, rfl⟩
          have hJ : J.take (j + 1) = J.take j ++ [.loop b ρ0] := by rw [List.take_add_one, hj]; rfl
          rw [hJ] at hr
          exact ih b _ _ r hr (by omega) d (by omega) _ hpush
      · cases hr

theorem run_mono {tr : Nat → Option T} : ∀ (h h' : Nat) (t : T) (ρ : List PV) (J : List JT) (r : List PV), h ≤ h' → run tr h t ρ J = some r → run tr h' t ρ J = some r := by
  intro h
  induction h with
  | zero => intro h' t ρ J r _ hr; cases hr
  | succ h ih =>
    intro h' t ρ J r hh hr
    cases h' with
    | zero => omega
    | succ h' =>
      have hle : h ≤ h' := by omega
      cases t with
      | fail w => cases hr
      | mark σ => cases hr
      | ret es => exact hr
      | ite c a b =>
        simp only [run] at hr ⊢
        split
        · rename_i hc; rw [if_pos hc] at hr; exact ih h' _ _ _ _ hle hr
        · rename_i hc; rw [if_neg hc] at hr; exact ih h' _ _ _ _ hle hr
      | call f es n k =>
        simp only [run, Option.bind_eq_some_iff] at hr ⊢
        obtain ⟨t, ht, vs, hv, hr⟩ := hr
        refine ⟨t, ht, vs, ih h' _ _ _ _ hle hv, ?_⟩
        split at hr
        · rename_i hl; rw [if_pos hl]; exact ih h' _ _ _ _ hle hr
        · cases hr
      | loop es b => simp only [run] at hr ⊢; exact ih h' _ _ _ _ hle hr
      | letj b m => simp only [run] at hr ⊢; exact ih h' _ _ _ _ hle hr
      | jump j es =>
        simp only [run] at hr ⊢
        split at hr
        · exact ih h' _ _ _ _ hle hr
        · exact ih h' _ _ _ _ hle hr
        · cases hr

/-- A tree comes to an answer. -/
def Run (tr : Nat → Option T) (t : T) (ρ : List PV) (J : List JT) (r : List PV) : Prop := ∃ h, run tr h t ρ J = some r

section
variable {tr : Nat → Option T} {ρ : List PV} {J : List JT} {r : List PV}

theorem Run.ret {es : List Ex} (h : es.map (·.den ρ) = r) : Run tr (.ret es) ρ J r := ⟨1, by simp only [run, h]⟩
theorem Run.ite {c : Ex} {a b : T} (h : if (c.den ρ).b = true then Run tr a ρ J r else Run tr b ρ J r) : Run tr (.ite c a b) ρ J r := by
  split at h
  · rename_i hc; obtain ⟨n, hn⟩ := h; exact ⟨n + 1, by simp only [run, if_pos hc, hn]⟩
  · rename_i hc; obtain ⟨n, hn⟩ := h; exact ⟨n + 1, by simp only [run, if_neg hc, hn]⟩
theorem Run.iteT {c : Ex} {a b : T} (hc : (c.den ρ).b = true) (h : Run tr a ρ J r) : Run tr (.ite c a b) ρ J r := Run.ite (by rw [if_pos hc]; exact h)
theorem Run.iteF {c : Ex} {a b : T} (hc : (c.den ρ).b = false) (h : Run tr b ρ J r) : Run tr (.ite c a b) ρ J r := Run.ite (by rw [if_neg (by rw [hc]; simp)]; exact h)
theorem Run.call {f : Nat} {es : List Ex} {n : Nat} {k t : T} {vs : List PV} (ht : tr f = some t) (hv : Run tr t (es.map (·.den ρ)) [] vs) (hl : vs.length = n) (h : Run tr k (ρ ++ vs) J r) : Run tr (.call f es n k) ρ J r := by
  obtain ⟨a, ha⟩ := hv
  obtain ⟨b, hb⟩ := h
  refine ⟨max a b + 1, ?_⟩
  simp only [run, ht, Option.bind_some, run_mono a (max a b) _ _ _ _ (Nat.le_max_left _ _) ha, if_pos hl]
  exact run_mono b (max a b) _ _ _ _ (Nat.le_max_right _ _) hb
theorem Run.loop {es : List Ex} {b : T} (h : Run tr b (ρ ++ es.map (·.den ρ)) (J ++ [.loop b ρ]) r) : Run tr (.loop es b) ρ J r := by obtain ⟨n, hn⟩ := h; exact ⟨n + 1, hn⟩
theorem Run.letj {b m : T} (h : Run tr m ρ (J ++ [.join b ρ]) r) : Run tr (.letj b m) ρ J r := by obtain ⟨n, hn⟩ := h; exact ⟨n + 1, hn⟩
theorem Run.toJoin {j : Nat} {es : List Ex} {b : T} {ρ0 : List PV} (hj : J[j]? = some (.join b ρ0)) (h : Run tr b (ρ0 ++ es.map (·.den ρ)) (J.take j) r) : Run tr (.jump j es) ρ J r := by
  obtain ⟨n, hn⟩ := h; exact ⟨n + 1, by simp only [run, hj]; exact hn⟩
theorem Run.toLoop {j : Nat} {es : List Ex} {b : T} {ρ0 : List PV} (hj : J[j]? = some (.loop b ρ0)) (h : Run tr b (ρ0 ++ es.map (·.den ρ)) (J.take (j + 1)) r) : Run tr (.jump j es) ρ J r := by
  obtain ⟨n, hn⟩ := h; exact ⟨n + 1, by simp only [run, hj]; exact hn⟩

/-- What a tree comes to is told. -/
theorem Run.told {f : Nat} {t : T} {args : List PV} (ht : tr f = some t) (h : Run tr t args [] r) : ∃ k, told tr k k f args = some r := by
  obtain ⟨n, hn⟩ := h
  refine ⟨n + 1, ?_⟩
  simp only [Sx.told, ht]
  exact run_den n t args [] r hn (by omega) n (Nat.le_refl _) [] ⟨rfl, fun j x hx => by simp at hx⟩
end
end Go.Proofs.Ytpaabecgngbjcaa.Sx
set_option linter.unusedVariables false
set_option linter.unusedSimpArgs false
namespace Go.Proofs.Ytpaabecgngbjcaa.Sx
open Go.ChangeShapes Go.WideShapes Go.RowKit Go.Deep

mutual
/-- Numbers within their kind's bounds, texts and rows no longer than may be. -/
def LK.wf : LK → PV → Prop
  | .int k, p => (Lit.int k p.i).wf = true
  | .bool, _ => True
  | .str, p => p.s.size ≤ maxLen
  | .any, _ => True
  | .row ks, p => p.r.length ≤ maxLen ∧ ∀ x ∈ p.r, LK.wfs ks x
def LK.wfs : List LK → List PV → Prop
  | [], _ => True
  | k :: ks, ps => ∃ p r, ps = p :: r ∧ k.wf p ∧ LK.wfs ks r
end

section
variable {H : Type}

/-- What is read at a type is told by such values. -/
def OpensV (enc : TypeId × Value → H) (P : Program) (W : World) (t : TypeId) (ks : List LK) : Prop :=
  ∀ (base : Nat) (spare : Nat → Bool) (held : Bool) (fuel : Nat) (cs : List Value) (y : DataW H × List MemPlace), DataW.trod enc P W base spare held fuel t cs = some y → ∃ ps, RVs W (fun _ => False) ks ps cs ∧ LK.wfs ks ps

variable {enc : TypeId × Value → H} {P : Program} {W : World}

theorem rvs_one {k : LK} {p : PV} {v : Value} {U : Nat → Prop} (h : RV W U k p v) : RVs W U [k] [p] [v] := by simp only [RVs]; exact ⟨p, [], v, [], rfl, rfl, h, rfl, rfl⟩
theorem wfs_one {k : LK} {p : PV} (h : k.wf p) : LK.wfs [k] [p] := by simp only [LK.wfs]; exact ⟨p, [], rfl, h, trivial⟩

theorem rvs_append {U : Nat → Prop} : ∀ {a b : List LK} {p q : List PV} {c d : List Value}, RVs W U a p c → RVs W U b q d → RVs W U (a ++ b) (p ++ q) (c ++ d)
  | [], b, p, q, c, d, h, h' => by simp only [RVs] at h; obtain ⟨rfl, rfl⟩ := h; exact h'
  | k :: a, b, p, q, c, d, h, h' => by
    simp only [RVs] at h
    obtain ⟨x, r, v, s, rfl, rfl, h1, h2⟩ := h
    simp only [List.cons_append, RVs]
    exact ⟨x, r ++ q, v, s ++ d, rfl, rfl, h1, rvs_append h2 h'⟩

theorem wfs_append {U : Nat → Prop} : ∀ {a b : List LK} {p q : List PV} {c : List Value}, RVs W U a p c → LK.wfs a p → LK.wfs b q → LK.wfs (a ++ b) (p ++ q)
  | [], b, p, q, c, h, h1, h' => by simp only [RVs] at h; obtain ⟨rfl, rfl⟩ := h; exact h'
  | k :: a, b, p, q, c, h, h1, h' => by
    simp only [RVs] at h
    obtain ⟨x, r, v, s, rfl, rfl, _, h2⟩ := h
    simp only [LK.wfs] at h1
    obtain ⟨x', r', he, hw, h1⟩ := h1
    cases he
    simp only [List.cons_append, LK.wfs]
    exact ⟨x, r ++ q, rfl, hw, wfs_append h2 h1 h'⟩

theorem opensV_int {t : TypeId} {k : IntKind} (ht : P.underlying t = some (.int k)) : OpensV enc P W t [.int k] := by
  intro base spare held fuel cs y h
  obtain ⟨n, hcs, _, hw⟩ := DataW.trod_int ht h
  subst hcs
  exact ⟨[.int k n], rvs_one (by simp [RV]), wfs_one (by simpa [LK.wf, PV.i] using hw)⟩

theorem opensV_bool {t : TypeId} (ht : P.underlying t = some .bool) : OpensV enc P W t [.bool] := by
  intro base spare held fuel cs y h
  obtain ⟨n, hcs, _⟩ := DataW.trod_bool ht h
  subst hcs
  exact ⟨[.bool n], rvs_one (by simp [RV]), wfs_one (by simp [LK.wf])⟩

theorem opensV_string {t : TypeId} (ht : P.underlying t = some .string) : OpensV enc P W t [.str] := by
  intro base spare held fuel cs y h
  obtain ⟨n, hcs, _, hw⟩ := DataW.trod_string ht h
  subst hcs
  exact ⟨[.str n], rvs_one (by simp [RV]), wfs_one (by simpa [LK.wf, PV.s] using hw)⟩

theorem opensV_slice {t e : TypeId} {ks : List LK} (ht : P.underlying t = some (.slice e)) (hC : 0 < P.cellsOf e) (he : OpensV enc P W e ks) : OpensV enc P W t [.row ks] := by
  intro base spare held fuel cs y h
  rcases open_slice ht h with ⟨rfl, _⟩ | ⟨a, len, cap, m, n, D, Pl, rfl, _, hl, hm, hmm, _, hi⟩
  · refine ⟨[.row []], rvs_one ?_, wfs_one ?_⟩
    · simp only [RV]
      exact ⟨[], none, 0, rfl, rfl, Nat.le_refl _, fun h => absurd rfl h⟩
    · simp [LK.wf, PV.r]
  · have hlm : len ≤ m := by rw [hmm]; split <;> omega
    have hx : ∀ i, i < len → ∃ x, (∃ c, c.length = P.cellsOf e ∧ RVs W (fun _ => False) ks x c ∧ ∀ j u, c[j]? = some u → W.cell? ((a.add (i * P.cellsOf e)).add j) = some u) ∧ LK.wfs ks x := by
      intro i hil
      obtain ⟨cs', hc, ht'⟩ := hi i (by omega)
      obtain ⟨x, hK, hw⟩ := he _ _ _ _ _ _ ht'
      obtain ⟨_, hcl, hat⟩ := World.cells?_some hc
      refine ⟨x, ⟨cs', hcl, hK, fun j u hu => ?_⟩, hw⟩
      have hj : j < cs'.length := (List.getElem?_eq_some_iff.1 hu).1
      rw [hat j (by omega), hu]
    have hall : ∀ k, k ≤ len → ∃ xs : List (List PV), xs.length = k ∧ ∀ i x, xs[i]? = some x → (∃ c, c.length = P.cellsOf e ∧ RVs W (fun _ => False) ks x c ∧ ∀ j u, c[j]? = some u → W.cell? ((a.add (i * P.cellsOf e)).add j) = some u) ∧ LK.wfs ks x := by
      intro k
      induction k with
      | zero => exact fun _ => ⟨[], rfl, fun i x h => by simp at h⟩
      | succ k ih =>
        intro hk
        obtain ⟨xs, hxl, hxs⟩ := ih (by omega)
        obtain ⟨x, hx1⟩ := hx k (by omega)
        refine ⟨xs ++ [x], by simp [hxl], fun i z hz => ?_⟩
        by_cases hik : i < xs.length
        · rw [List.getElem?_append_left hik] at hz
          exact hxs i z hz
        · have hi2 : i = k := by
            have := (List.getElem?_eq_some_iff.1 hz).1
            simp at this
            omega
          subst hi2
          rw [List.getElem?_append_right (by omega)] at hz
          have : x = z := by simpa [hxl] using hz
          subst this
          exact hx1
    obtain ⟨xs, hxl, hxs⟩ := hall len (Nat.le_refl _)
    refine ⟨[.row xs], rvs_one ?_, wfs_one ?_⟩
    · simp only [RV]
      refine ⟨xs, some a, cap, rfl, by rw [hxl], by omega, fun hne => ?_⟩
      obtain ⟨x0, r0, hx0⟩ := List.exists_cons_of_ne_nil hne
      obtain ⟨⟨c0, hc0, hr0, hat0⟩, _⟩ := hxs 0 x0 (by rw [hx0]; rfl)
      have hks : ks.length = P.cellsOf e := by rw [← hr0.length.2, hc0]
      obtain ⟨u0, hu0⟩ : ∃ u, c0[0]? = some u := ⟨c0[0]'(by omega), List.getElem?_eq_getElem _⟩
      have h0 : W.cell? a = some u0 := by have := hat0 0 u0 hu0; simpa [Addr.add] using this
      have hsp : a.spot = none ∧ a.block < W.heap.size := by
        unfold World.cell? at h0
        split at h0
        · rename_i c el fz hb
          split at h0
          · cases h0
          · rename_i hs
            refine ⟨by cases hsp : a.spot with | none => rfl | some q => rw [hsp] at hs; simp at hs, (Array.getElem?_eq_some_iff.1 hb).1⟩
        · cases h0
      refine ⟨a, rfl, hsp.1, fun h => h, hsp.2, fun i x hx => ?_⟩
      obtain ⟨⟨c, hc, hr, hat⟩, _⟩ := hxs i x hx
      refine ⟨c, hr, fun j u hu => ?_⟩
      have := hat j u hu
      rw [Go.Deep.add_add] at this
      rw [hks, ← this]
      congr 1
      unfold Addr.add
      split
      · rename_i h00
        rw [h00, Nat.add_zero]
        obtain ⟨b, o, s⟩ := a
        simp only at hsp
        rw [hsp.1]
      · rfl
    · simp only [LK.wf, PV.r]
      refine ⟨by omega, fun x hx => ?_⟩
      obtain ⟨i, hi⟩ := List.getElem?_of_mem hx
      exact (hxs i x hi).2

theorem opensV_any {t e : TypeId} (ht : P.underlying t = some (.slice e)) : OpensV enc P W t [.any] := by
  intro base spare held fuel cs y h
  rcases open_slice ht h with ⟨rfl, _⟩ | ⟨a, len, cap, m, n, D, Pl, rfl, _, hl, hm, hmm, _, hi⟩
  · exact ⟨[.bad], rvs_one (by simp only [RV]; rfl), wfs_one (by simp [LK.wf])⟩
  · exact ⟨[.bad], rvs_one (by simp only [RV]; rfl), wfs_one (by simp [LK.wf])⟩

/-- Fields in line: each cut of the cells reads at its type. -/
def FTs (enc : TypeId × Value → H) (P : Program) (W : World) : List TypeId → List Value → Prop
  | [], cs => cs = []
  | t :: ts, cs => ∃ c1 c2, cs = c1 ++ c2 ∧ (∃ base spare held fuel y, DataW.trod enc P W base spare held fuel t c1 = some y) ∧ FTs enc P W ts c2

theorem ftsV : ∀ (ts : List TypeId) (kss : List (List LK)), (∀ (i : Nat) t ks, ts[i]? = some t → kss[i]? = some ks → OpensV enc P W t ks) → ts.length = kss.length → ∀ cs, FTs enc P W ts cs → ∃ ps, RVs W (fun _ => False) kss.flatten ps cs ∧ LK.wfs kss.flatten ps
  | [], [], _, _, cs, h => by
    simp only [FTs] at h
    subst h
    exact ⟨[], by simp [RVs], by simp [LK.wfs]⟩
  | t :: ts, ks :: kss, ho, hl, cs, h => by
    obtain ⟨c1, c2, rfl, ⟨b, s, hd, f, y, hy⟩, h2⟩ := h
    obtain ⟨p1, r1, w1⟩ := ho 0 t ks rfl rfl _ _ _ _ _ _ hy
    obtain ⟨p2, r2, w2⟩ := ftsV ts kss (fun i t ks h1 h2 => ho (i + 1) t ks (by simpa using h1) (by simpa using h2)) (by simpa using hl) c2 h2
    exact ⟨p1 ++ p2, rvs_append r1 r2, wfs_append r1 w1 w2⟩
  | [], _ :: _, _, hl, _, _ => by simp at hl
  | _ :: _, [], _, hl, _, _ => by simp at hl

/-- Do the fields stand one behind the other, from `off` on, up to `total`? -/
def inLineF (P : Program) (total : Nat) : List Field → Nat → Bool
  | [], off => off == total
  | f :: r, off => f.offset == off && inLineF P total r (off + P.cellsOf f.type)

theorem fts_of (fs : List Field) : ∀ (total off : Nat) (cs : List Value), inLineF P total fs off = true → cs.length = total →
    (∀ f ∈ fs, ∃ base spare held fuel y, DataW.trod enc P W base spare held fuel f.type ((cs.drop f.offset).take (P.cellsOf f.type)) = some y) → FTs enc P W (fs.map (·.type)) (cs.drop off) := by
  induction fs with
  | nil =>
    intro total off cs hl hlen _
    simp [inLineF] at hl
    subst hl
    show cs.drop off = []
    rw [List.drop_eq_nil_iff]
    omega
  | cons f r ih =>
    intro total off cs hl hlen hf
    simp [inLineF] at hl
    obtain ⟨rfl, hl⟩ := hl
    obtain ⟨b, s, hd, fu, y, hy⟩ := hf f (by simp)
    refine ⟨(cs.drop f.offset).take (P.cellsOf f.type), cs.drop (f.offset + P.cellsOf f.type), ?_, ⟨b, s, hd, fu, y, hy⟩, ih total _ cs hl hlen (fun g hg => hf g (by simp [hg]))⟩
    rw [← List.drop_drop, List.take_append_drop]

theorem fts_array {e : TypeId} {n : Nat} {cs : List Value} (hlen : cs.length = n * P.cellsOf e) (k : Nat) : ∀ i, i + k = n →
    (∀ j, j < n → ∃ base spare held fuel y, DataW.trod enc P W base spare held fuel e ((cs.drop (j * P.cellsOf e)).take (P.cellsOf e)) = some y) → FTs enc P W (List.replicate k e) (cs.drop (i * P.cellsOf e)) := by
  induction k with
  | zero =>
    intro i hi _
    show cs.drop (i * P.cellsOf e) = []
    rw [List.drop_eq_nil_iff, hlen, show i = n by omega]
    exact Nat.le_refl _
  | succ k ih =>
    intro i hi hf
    obtain ⟨b, s, hd, fu, y, hy⟩ := hf i (by omega)
    refine ⟨(cs.drop (i * P.cellsOf e)).take (P.cellsOf e), cs.drop ((i + 1) * P.cellsOf e), ?_, ⟨b, s, hd, fu, y, hy⟩, ih (i + 1) (by omega) hf⟩
    rw [Nat.add_mul, Nat.one_mul, ← List.drop_drop, List.take_append_drop]

/-- Do a type's cells lie in line? -/
def laidV (P : Program) : Nat → TypeId → Bool
  | 0, _ => false
  | d + 1, t =>
    match P.underlying t with
    | some .bool | some (.int _) | some .string => true
    | some (.slice e) => match kindsOf P d e with | some _ => decide (0 < P.cellsOf e) && laidV P d e | none => true
    | some (.struct fs) => inLineF P (P.cellsOf t) fs.toList 0 && fs.toList.all fun f => laidV P d f.type
    | some (.array n e) => P.cellsOf t == n * P.cellsOf e && laidV P d e
    | _ => false

theorem mapO_get {α β : Type} {f : α → Option β} : ∀ {l : List α} {r : List β}, mapO f l = some r → l.length = r.length ∧ ∀ (i : Nat) a b, l[i]? = some a → r[i]? = some b → f a = some b
  | [], r, h => by simp only [mapO, Option.some.injEq] at h; subst h; exact ⟨rfl, fun i a b h => by simp at h⟩
  | a :: l, r, h => by
    simp only [mapO] at h
    split at h
    · rename_i b r' hb hr
      cases h
      obtain ⟨h1, h2⟩ := mapO_get hr
      refine ⟨by simp [h1], fun i x y hx hy => ?_⟩
      cases i with
      | zero => simp at hx hy; subst hx hy; exact hb
      | succ i => exact h2 i x y (by simpa using hx) (by simpa using hy)
    · cases h

theorem opensV_all : ∀ (d : Nat) (t : TypeId) (ks : List LK), kindsOf P d t = some ks → laidV P d t = true → OpensV enc P W t ks := by
  intro d
  induction d with
  | zero => intro t ks h; cases h
  | succ d ih =>
    intro t ks h hl
    unfold kindsOf at h
    unfold laidV at hl
    split at h
    · rename_i hu; cases h; exact opensV_bool hu
    · rename_i k hu; cases h; exact opensV_int hu
    · rename_i hu; cases h; exact opensV_string hu
    · rename_i e hu
      rw [hu] at hl
      cases h
      split
      · rename_i ke hk
        simp only [hk, Bool.and_eq_true, decide_eq_true_eq] at hl
        exact opensV_slice hu hl.1 (ih e ke hk hl.2)
      · exact opensV_any hu
    · rename_i fs hu
      rw [hu] at hl
      simp only [Bool.and_eq_true, List.all_eq_true] at hl
      rw [Option.map_eq_some_iff] at h
      obtain ⟨kss, hk, rfl⟩ := h
      obtain ⟨hlen, hget⟩ := mapO_get hk
      intro base spare held fuel cs y hy
      obtain ⟨xs, n, _, _, hcl, hxl, hg⟩ := DataW.trod_struct hu hy
      have hft : FTs enc P W (fs.toList.map (·.type)) (cs.drop 0) := by
        refine fts_of fs.toList _ 0 cs hl.1 hcl (fun g hgm => ?_)
        obtain ⟨i, hi⟩ := List.getElem?_of_mem hgm
        have hi' : fs[i]? = some g := by simpa using hi
        have h1 := hg i g hi'
        have hil : i < xs.length := by rw [hxl]; exact (Array.getElem?_eq_some_iff.1 hi').1
        rw [List.getElem?_eq_getElem hil] at h1
        exact ⟨_, _, _, _, _, h1⟩
      rw [List.drop_zero] at hft
      refine ftsV _ kss (fun i t ks h1 h2 => ?_) (by simpa using hlen) cs hft
      rw [List.getElem?_map, Option.map_eq_some_iff] at h1
      obtain ⟨f, hf, rfl⟩ := h1
      exact ih _ _ (hget i f ks hf h2) (hl.2 f (List.mem_of_getElem? hf))
    · rename_i n e hu
      rw [hu] at hl
      simp only [Bool.and_eq_true, beq_iff_eq] at hl
      rw [Option.map_eq_some_iff] at h
      obtain ⟨ke, hk, rfl⟩ := h
      intro base spare held fuel cs y hy
      obtain ⟨xs, m, _, _, hcl, hxl, hg⟩ := DataW.trod_array hu hy
      have hft : FTs enc P W (List.replicate n e) (cs.drop (0 * P.cellsOf e)) := by
        refine fts_array (by rw [hcl, hl.1]) n 0 (by omega) (fun j hj => ?_)
        have h1 := hg j hj
        rw [List.getElem?_eq_getElem (by omega)] at h1
        exact ⟨_, _, _, _, _, h1⟩
      rw [Nat.zero_mul, List.drop_zero] at hft
      refine ftsV _ (List.replicate n ke) (fun i t ks h1 h2 => ?_) (by simp) cs hft
      rw [List.getElem?_replicate] at h1 h2
      split at h1 <;> cases h1
      rename_i hin
      rw [if_pos hin] at h2
      cases h2
      exact ih _ _ hk hl.2
    · cases h

/-- A parameter of one cell. -/
theorem leaf_arg {t : TypeId} {k : LK} {base : Nat} {spare : Nat → Bool} {held : Bool} {v : Value} {D : DataW H} {ps : List MemPlace} (hv : v.cells = #[v]) (ho : OpensV enc P W t [k]) (h : DataW.Trod enc P W base spare held t v D ps) :
    ∃ p, RV W (fun _ => False) k p v ∧ k.wf p := by
  obtain ⟨fuel, hf⟩ := h
  obtain ⟨qs, hr, hw⟩ := ho _ _ _ _ _ _ hf
  rw [hv] at hr
  simp only [RVs] at hr
  obtain ⟨p, r, v', vs', rfl, he, h1, _⟩ := hr
  cases he
  simp only [LK.wfs] at hw
  obtain ⟨p', r', he, hw, _⟩ := hw
  cases he
  exact ⟨p, h1, hw⟩

/-- A parameter of more cells. -/
theorem agg_arg {t : TypeId} {ks : List LK} {base : Nat} {spare : Nat → Bool} {held : Bool} {cs : Array Value} {D : DataW H} {ps : List MemPlace} (ho : OpensV enc P W t ks) (h : DataW.Trod enc P W base spare held t (.agg cs) D ps) :
    ∃ qs, RVs W (fun _ => False) ks qs cs.toList ∧ LK.wfs ks qs := by
  obtain ⟨fuel, hf⟩ := h
  exact ho _ _ _ _ _ _ hf

/-- .. and how long a row is at most. -/
theorem sized_arg {t e : TypeId} {base : Nat} {spare : Nat → Bool} {held : Bool} {v : Value} {D : DataW H} {ps : List MemPlace} {ts : List TypeId} {ds : List (DataW H)} {j : Nat} {ks : List LK} {p : PV}
    (hsz : (DataW.weightsEach P ts ds).all (· ≤ reachBytes) = true) (hts : ts[j]? = some t) (hds : ds[j]? = some D) (hu : P.underlying t = some (.slice e)) {B : Nat} (hB : P.bytesOf e = B)
    (h : DataW.Trod enc P W base spare held t v D ps) (hr : RV W (fun _ => False) (.row ks) p v) : p.r.length * B ≤ 140737488351232 := by
  simp only [RV] at hr
  obtain ⟨xs, a, cap, rfl, rfl, _, _⟩ := hr
  obtain ⟨fuel, hf⟩ := h
  show xs.length * B ≤ _
  rcases open_slice hu hf with ⟨hcs, _⟩ | ⟨x, l, c, m, n, DD, Pl, hcs, _, hl, _, hmm, hx, _⟩
  · simp [Value.cells] at hcs
    obtain ⟨_, hl, _⟩ := hcs
    simp [hl]
  · simp [Value.cells] at hcs
    obtain ⟨rfl, hl', rfl⟩ := hcs
    obtain ⟨hx, _⟩ := Prod.mk.inj hx
    subst hx
    have z := sized_slice hsz hts hds hu
    rw [hB] at z
    simp only [List.length_map, List.length_range] at z
    exact Nat.le_trans (Nat.mul_le_mul_right _ (by omega)) z

theorem argsR_leaf {U : Nat → Prop} {k : LK} {p : PV} {v : Value} {sh : List Sh} {ps : List PV} {vs : List Value} (h : RV W U k p v) (h' : ArgsR W U sh ps vs) : ArgsR W U (.leaf k :: sh) (p :: ps) (v :: vs) := by
  simp only [ArgsR]; exact ⟨p, ps, v, vs, rfl, rfl, h, h'⟩
theorem argsR_agg {U : Nat → Prop} {ks : List LK} {qs : List PV} {cs : Array Value} {sh : List Sh} {ps : List PV} {vs : List Value} (h : RVs W U ks qs cs.toList) (h' : ArgsR W U sh ps vs) : ArgsR W U (.agg ks :: sh) (qs ++ ps) (.agg cs :: vs) := by
  simp only [ArgsR]; exact ⟨qs, ps, cs, vs, rfl, rfl, h, h'⟩
theorem argsR_nil {U : Nat → Prop} : ArgsR W U [] [] [] := by simp [ArgsR]

theorem law_end {W' : World} {X : Nat → Prop} {v : Value} (h : ResOk W W' X [.leaf .bool] [.bool true] v) : v = .bool true ∧ Below W.heap.size W W' := by
  obtain ⟨hb, vs, ψ, rfl, hr, _⟩ := h
  simp only [ResR, RV] at hr
  obtain ⟨p, ps, u, us, he, rfl, ⟨b, hp, rfl⟩, rfl, rfl⟩ := hr
  cases he
  cases hp
  exact ⟨rfl, hb⟩

end
end Go.Proofs.Ytpaabecgngbjcaa.Sx
set_option linter.unusedVariables false
set_option linter.unusedSimpArgs false
namespace Go.Proofs.Ytpaabecgngbjcaa.Sx

abbrev I (x : Int) : PV := .int .i64 x
abbrev B (x : Bool) : PV := .bool x

theorem on_cmp (o : BinOp) (p q : PV) : (BO.cmp o).on p q = .bool (Sx.compare o p.i q.i) := Eq.trans rfl rfl
theorem on_ar (o : BinOp) (k : IntKind) (p q : PV) : (BO.ar o k).on p q = .int k (arith o k p.i q.i) := Eq.trans rfl rfl
theorem ev_lss (x y : Int) : Sx.compare .lss x y = decide (x < y) := Eq.trans (b := Sx.compare .lss x y) rfl rfl
theorem ev_leq (x y : Int) : Sx.compare .leq x y = decide (x ≤ y) := Eq.trans (b := Sx.compare .leq x y) rfl rfl
theorem ev_gtr (x y : Int) : Sx.compare .gtr x y = decide (x > y) := Eq.trans (b := Sx.compare .gtr x y) rfl rfl
theorem ev_geq (x y : Int) : Sx.compare .geq x y = decide (x ≥ y) := Eq.trans (b := Sx.compare .geq x y) rfl rfl
theorem ev_eql (x y : Int) : Sx.compare .eql x y = (x == y) := Eq.trans (b := Sx.compare .eql x y) rfl rfl
theorem ev_neq (x y : Int) : Sx.compare .neq x y = (x != y) := Eq.trans (b := Sx.compare .neq x y) rfl rfl
theorem ar_add (k : IntKind) (x y : Int) : arith .add k x y = k.wrap (x + y) := Eq.trans rfl rfl
theorem ar_sub (k : IntKind) (x y : Int) : arith .sub k x y = k.wrap (x - y) := Eq.trans rfl rfl
theorem ar_mul (k : IntKind) (x y : Int) : arith .mul k x y = k.wrap (x * y) := Eq.trans rfl rfl
theorem ar_quo (k : IntKind) (x y : Int) : arith .quo k x y = k.wrap (x.tdiv y) := Eq.trans rfl rfl
theorem ar_rem (k : IntKind) (x y : Int) : arith .rem k x y = x.tmod y := Eq.trans rfl rfl
theorem wrap_in {n : Int} (h1 : -9223372036854775808 ≤ n) (h2 : n ≤ 9223372036854775807) : IntKind.i64.wrap n = n := by
  unfold IntKind.wrap
  simp [IntKind.signed, IntKind.bits]
  omega

/-- Rows of a kind of element. -/
def rowOf {α : Type} (e : α → List PV) (l : List α) : PV := .row (l.map e)

section
variable {α : Type} {e : α → List PV}
theorem rowOf_len (l : List α) : (rowOf e l).r.length = l.length := by simp [rowOf, PV.r]
theorem rowOf_at (l : List α) (i : Nat) (h : i < l.length) {j : Nat} {k : LK} {p : PV} (hp : (e l[i])[j]? = some p) : cellAt (rowOf e l).r (i : Int) j k = p := by
  simp [cellAt, rowOf, PV.r, h, hp]
theorem rowOf_nil : PV.row [] = rowOf e [] := rfl
theorem rowOf_snoc (l : List α) (x : α) : PV.row ((rowOf e l).r ++ [e x]) = rowOf e (l ++ [x]) := by simp [rowOf, PV.r]
theorem rowOf_cat (l m : List α) : PV.row ((rowOf e l).r ++ (rowOf e m).r) = rowOf e (l ++ m) := by simp [rowOf, PV.r]
theorem rowOf_make (n : Nat) (x : α) : PV.row (List.replicate n (e x)) = rowOf e (List.replicate n x) := by simp [rowOf]
theorem rowOf_set (l : List α) (i : Nat) (x : α) : PV.row ((rowOf e l).r.set i (e x)) = rowOf e (l.set i x) := by simp [rowOf, PV.r, List.map_set]
theorem rowOf_slice (l : List α) (i n : Nat) : PV.row (((rowOf e l).r.drop i).take n) = rowOf e ((l.drop i).take n) := by simp [rowOf, PV.r, List.map_take, List.map_drop]
theorem rowOf_put (l : List α) (i j : Nat) (p : PV) (f : α → α) (h : ∀ x, (e x).set j p = e (f x)) : PV.row ((rowOf e l).r.modify i (·.set j p)) = rowOf e (l.modify i f) := by
  simp only [rowOf, PV.r]
  congr 1
  apply List.ext_getElem?
  intro k
  simp only [List.getElem?_modify, List.getElem?_map]
  cases l[k]? with
  | none => simp
  | some x => by_cases hk : i = k <;> simp [hk, h]
theorem rowOf_copy (l m : List α) : PV.row ((rowOf e m).r.take (rowOf e l).r.length ++ (rowOf e l).r.drop (rowOf e m).r.length) = rowOf e (m.take l.length ++ l.drop m.length) := by
  simp [rowOf, PV.r, List.map_take, List.map_drop]
end

/-- What is well formed is told by typed elements. -/
theorem row_open {α : Type} {e : α → List PV} {ks : List LK} {W : List PV → Prop} (h : ∀ x, LK.oks ks x → W x → ∃ y, x = e y) {p : PV} (hk : (LK.row ks).ok p) (hw : ∀ x ∈ p.r, W x) : ∃ l : List α, p = rowOf e l := by
  cases p with
  | row xs =>
    simp only [LK.ok] at hk
    have hw' : ∀ x ∈ xs, W x := hw
    clear hw
    suffices hs : ∃ l : List α, xs = l.map e by
      obtain ⟨l, rfl⟩ := hs
      exact ⟨l, rfl⟩
    induction xs with
    | nil => exact ⟨[], rfl⟩
    | cons x xs ih =>
      obtain ⟨y, hy⟩ := h x (hk x (by simp)) (hw' x (by simp))
      obtain ⟨l, hl⟩ := ih (fun x hx => hk x (by simp [hx])) (fun x hx => hw' x (by simp [hx]))
      exact ⟨y :: l, by simp [hy, hl]⟩
  | _ => simp [LK.ok] at hk

end Go.Proofs.Ytpaabecgngbjcaa.Sx
set_option linter.unusedVariables false
set_option linter.unusedSimpArgs false
namespace Go.Proofs.Ytpaabecgngbjcaa.Sx

/-- One of two, as a condition says (and no more: nothing unfolds it). -/
structure Br (c A B : Prop) : Prop where
  t : c → A
  f : ¬ c → B
theorem br_split {c A B : Prop} (h1 : c → A) (h2 : ¬ c → B) : Br c A B := ⟨h1, h2⟩
theorem br_pos {c A B : Prop} (h : c) : Br c A B ↔ A := ⟨fun h' => h'.t h, fun h' => ⟨fun _ => h', fun h'' => absurd h h''⟩⟩
theorem br_neg {c A B : Prop} (h : ¬ c) : Br c A B ↔ B := ⟨fun h' => h'.f h, fun h' => ⟨fun h'' => absurd h'' h, fun _ => h'⟩⟩
theorem br_true {A B : Prop} : Br True A B ↔ A := br_pos trivial
theorem br_false {A B : Prop} : Br False A B ↔ B := br_neg id
theorem br_fail {c A : Prop} : Br c A False ↔ c ∧ A := ⟨fun h => ⟨Classical.byContradiction h.f, h.t (Classical.byContradiction h.f)⟩, fun h => ⟨fun _ => h.2, fun h' => h' h.1⟩⟩
theorem br_same {c A : Prop} : Br c A A ↔ A := ⟨fun h => (Classical.em c).elim h.t h.f, fun h => ⟨fun _ => h, fun _ => h⟩⟩

section
variable {tr : Nat → Option T} {ρ : List PV} {J : List JT} {r : List PV}

theorem Run.det {t : T} {r' : List PV} (h : Run tr t ρ J r) (h' : Run tr t ρ J r') : r = r' := by
  obtain ⟨a, ha⟩ := h
  obtain ⟨b, hb⟩ := h'
  have h1 := run_mono a (max a b) _ _ _ _ (Nat.le_max_left _ _) ha
  have h2 := run_mono b (max a b) _ _ _ _ (Nat.le_max_right _ _) hb
  rw [h1] at h2
  exact Option.some.inj h2

/-- What a call hands back. -/
def Says (tr : Nat → Option T) (f : Nat) (args vs : List PV) : Prop := ∃ t, tr f = some t ∧ Run tr t args [] vs

theorem Run.unf {t t' : T} (h : t = t') (hr : Run tr t' ρ J r) : Run tr t ρ J r := by rw [h]; exact hr

theorem Says.of {f : Nat} {t : T} {args vs : List PV} (ht : tr f = some t) (h : Run tr t args [] vs) : Says tr f args vs := ⟨t, ht, h⟩

theorem Says.det {f : Nat} {args vs vs' : List PV} (h : Says tr f args vs) (h' : Says tr f args vs') : vs = vs' := by
  obtain ⟨t, ht, h⟩ := h
  obtain ⟨t', ht', h'⟩ := h'
  rw [ht] at ht'
  cases ht'
  exact h.det h'

/-- A call, and what is behind it. -/
def Callx (tr : Nat → Option T) (f : Nat) (args : List PV) (n : Nat) (k : T) (ρ : List PV) (J : List JT) (r : List PV) : Prop :=
  ∃ vs, Says tr f args vs ∧ vs.length = n ∧ Run tr k (ρ ++ vs) J r

theorem xcall_of {f : Nat} {args vs : List PV} (h : Says tr f args vs) {n : Nat} {k : T} : Callx tr f args n k ρ J r ↔ vs.length = n ∧ Run tr k (ρ ++ vs) J r := by
  constructor
  · rintro ⟨ws, hw, hl, hr⟩
    rw [h.det hw]
    exact ⟨hl, hr⟩
  · rintro ⟨hl, hr⟩
    exact ⟨vs, h, hl, hr⟩

/-- Where a jump leads. -/
def Jmp (tr : Nat → Option T) (x : Option JT) (j : Nat) (vs : List PV) (J : List JT) (r : List PV) : Prop :=
  match x with
  | some (.join b ρ0) => Run tr b (ρ0 ++ vs) (J.take j) r
  | some (.loop b ρ0) => Run tr b (ρ0 ++ vs) (J.take (j + 1)) r
  | none => False

theorem jmp_join {b : T} {ρ0 vs : List PV} {j : Nat} : Jmp tr (some (.join b ρ0)) j vs J r ↔ Run tr b (ρ0 ++ vs) (J.take j) r := Iff.rfl
theorem jmp_loop {b : T} {ρ0 vs : List PV} {j : Nat} : Jmp tr (some (.loop b ρ0)) j vs J r ↔ Run tr b (ρ0 ++ vs) (J.take (j + 1)) r := Iff.rfl

theorem xrun_ret {es : List Ex} : Run tr (.ret es) ρ J r ↔ es.map (·.den ρ) = r := by
  constructor
  · rintro ⟨n, hn⟩
    cases n with
    | zero => cases hn
    | succ n => exact Option.some.inj hn
  · exact Run.ret
theorem run_fail {w : String} : Run tr (.fail w) ρ J r ↔ False := by
  constructor
  · rintro ⟨n, hn⟩
    cases n with
    | zero => cases hn
    | succ n => cases hn
  · exact False.elim
theorem run_ite {c : Ex} {a b : T} : Run tr (.ite c a b) ρ J r ↔ Br ((c.den ρ).b = true) (Run tr a ρ J r) (Run tr b ρ J r) := by
  constructor
  · rintro ⟨n, hn⟩
    cases n with
    | zero => cases hn
    | succ n =>
      simp only [run] at hn
      refine ⟨fun h => ?_, fun h => ?_⟩
      · rw [if_pos h] at hn; exact ⟨n, hn⟩
      · rw [if_neg h] at hn; exact ⟨n, hn⟩
  · intro h
    refine Run.ite ?_
    split
    · rename_i hc; exact h.t hc
    · rename_i hc; exact h.f hc
theorem run_letj {b m : T} : Run tr (.letj b m) ρ J r ↔ Run tr m ρ (J ++ [.join b ρ]) r := by
  constructor
  · rintro ⟨n, hn⟩
    cases n with
    | zero => cases hn
    | succ n => exact ⟨n, hn⟩
  · exact Run.letj
theorem xrun_loop {es : List Ex} {b : T} : Run tr (.loop es b) ρ J r ↔ Run tr b (ρ ++ es.map (·.den ρ)) (J ++ [.loop b ρ]) r := by
  constructor
  · rintro ⟨n, hn⟩
    cases n with
    | zero => cases hn
    | succ n => exact ⟨n, hn⟩
  · exact Run.loop
theorem run_jump {j : Nat} {es : List Ex} : Run tr (.jump j es) ρ J r ↔ Jmp tr J[j]? j (es.map (·.den ρ)) J r := by
  constructor
  · rintro ⟨n, hn⟩
    cases n with
    | zero => cases hn
    | succ n =>
      simp only [run] at hn
      split at hn
      · rename_i h; rw [h]; exact ⟨n, hn⟩
      · rename_i h; rw [h]; exact ⟨n, hn⟩
      · cases hn
  · intro h
    cases hj : J[j]? with
    | none => rw [hj] at h; exact h.elim
    | some x =>
      rw [hj] at h
      cases x with
      | join b ρ0 => exact Run.toJoin hj h
      | loop b ρ0 => exact Run.toLoop hj h
theorem xrun_call {f : Nat} {es : List Ex} {n : Nat} {k : T} : Run tr (.call f es n k) ρ J r ↔ Callx tr f (es.map (·.den ρ)) n k ρ J r := by
  constructor
  · rintro ⟨h, hh⟩
    cases h with
    | zero => cases hh
    | succ h =>
      simp only [run, Option.bind_eq_some_iff] at hh
      obtain ⟨t, ht, vs, hv, hr⟩ := hh
      split at hr
      · rename_i hl; exact ⟨vs, ⟨t, ht, h, hv⟩, hl, h, hr⟩
      · cases hr
  · rintro ⟨vs, ⟨t, ht, hv⟩, hl, hr⟩
    exact Run.call ht hv hl hr

theorem Says.told {f : Nat} {args : List PV} (h : Says tr f args r) : ∃ k, told tr k k f args = some r := by
  obtain ⟨t, ht, h⟩ := h
  exact h.told ht

end

/-- Up to a number, from it on downwards. -/
theorem xup_ind {n : Nat} {P : Nat → Prop} (h : ∀ i, i ≤ n → (i < n → P (i + 1)) → P i) : ∀ i, i ≤ n → P i := by
  intro i hi
  obtain ⟨d, hd⟩ : ∃ d, i + d = n := ⟨n - i, by omega⟩
  induction d generalizing i with
  | zero => exact h i hi (fun h' => by omega)
  | succ d ih => exact h i hi (fun h' => ih (i + 1) (by omega) (by omega))

/-! ### What expressions come to -/

theorem xden_var (ρ : List PV) (i : Nat) : Ex.den ρ (.var i) = ρ.getD i .bad := Eq.trans rfl rfl
theorem den_int (ρ : List PV) (k : IntKind) (x : Int) : Ex.den ρ (.int k x) = .int k x := Eq.trans rfl rfl
theorem den_bool (ρ : List PV) (x : Bool) : Ex.den ρ (.bool x) = .bool x := Eq.trans rfl rfl
theorem den_str (ρ : List PV) (x : ByteArray) : Ex.den ρ (.str x) = .str x := Eq.trans rfl rfl
theorem den_nil (ρ : List PV) : Ex.den ρ .nil = .row [] := Eq.trans rfl rfl
theorem den_nilc (ρ : List PV) : Ex.den ρ .nilc = .cells [] := Eq.trans rfl rfl
theorem xon_and (p q : PV) : BO.and.on p q = .bool (p.b && q.b) := Eq.trans rfl rfl
theorem xon_or (p q : PV) : BO.or.on p q = .bool (p.b || q.b) := Eq.trans rfl rfl
theorem on_beq (p q : PV) : BO.beq.on p q = .bool (p.b == q.b) := Eq.trans rfl rfl
theorem xon_not (p : PV) : UO.not.on p = .bool (!p.b) := Eq.trans rfl rfl
theorem on_len (p : PV) : UO.len.on p = I p.r.length := Eq.trans rfl rfl
theorem on_neg (k : IntKind) (p : PV) : (UO.neg k).on p = .int k (k.wrap (0 - p.i)) := Eq.trans rfl rfl
theorem on_conv (k : IntKind) (p : PV) : (UO.conv k).on p = .int k (k.wrap p.i) := Eq.trans rfl rfl
theorem on_max (k : IntKind) (p q : PV) : (BO.max k).on p q = .int k (max p.i q.i) := by
  show PV.int k (if q.i > p.i then q.i else p.i) = _
  congr 1; rw [Int.max_def]; split <;> split <;> omega
theorem on_min (k : IntKind) (p q : PV) : (BO.min k).on p q = .int k (min p.i q.i) := by
  show PV.int k (if q.i < p.i then q.i else p.i) = _
  congr 1; rw [Int.min_def]; split <;> split <;> omega
theorem on_snoc (p q : PV) : BO.snoc.on p q = .row (p.r ++ [q.c]) := Eq.trans rfl rfl
theorem on_cat (p q : PV) : BO.cat.on p q = .row (p.r ++ q.r) := Eq.trans rfl rfl
theorem on_cons (p q : PV) : BO.cons.on p q = .cells (p :: q.c) := Eq.trans rfl rfl
theorem on_make (p q : PV) : BO.make.on p q = .row (List.replicate q.i.toNat p.c) := Eq.trans rfl rfl
theorem on_copy (p q : PV) : BO.copy.on p q = .row (q.r.take p.r.length ++ p.r.drop q.r.length) := Eq.trans rfl rfl
theorem on_plus (p q : PV) : BO.plus.on p q = I (p.i + q.i) := Eq.trans rfl rfl
theorem on_minus (p q : PV) : BO.minus.on p q = I (p.i - q.i) := Eq.trans rfl rfl
theorem on_cell (j : Nat) (k : LK) (p q : PV) : (BO.cell j k).on p q = cellAt p.r q.i j k := Eq.trans rfl rfl
theorem on_sel (p q r : PV) : TO.sel.on p q r = if p.b then q else r := Eq.trans rfl rfl
theorem on_slice (p q r : PV) : TO.slice.on p q r = .row ((p.r.drop q.i.toNat).take r.i.toNat) := Eq.trans rfl rfl
theorem on_set (p q r : PV) : TO.set.on p q r = .row (p.r.set q.i.toNat r.c) := Eq.trans rfl rfl
theorem on_put (j : Nat) (p q r : PV) : (TO.put j).on p q r = .row (p.r.modify q.i.toNat (·.set j r)) := Eq.trans rfl rfl
theorem pi_int (k : IntKind) (x : Int) : (PV.int k x).i = x := Eq.trans rfl rfl
theorem b_bool (x : Bool) : (PV.bool x).b = x := Eq.trans rfl rfl
theorem r_row (x : List (List PV)) : (PV.row x).r = x := Eq.trans rfl rfl
theorem c_cells (x : List PV) : (PV.cells x).c = x := Eq.trans rfl rfl
theorem den_un (ρ : List PV) (o : UO) (a : Ex) : Ex.den ρ (.un o a) = o.on (a.den ρ) := Eq.trans rfl rfl
theorem den_bin (ρ : List PV) (o : BO) (a b : Ex) : Ex.den ρ (.bin o a b) = o.on (a.den ρ) (b.den ρ) := Eq.trans rfl rfl
theorem den_tri (ρ : List PV) (o : TO) (a b c : Ex) : Ex.den ρ (.tri o a b c) = o.on (a.den ρ) (b.den ρ) (c.den ρ) := Eq.trans rfl rfl
theorem wrap_add {x y : Int} (h : -9223372036854775808 ≤ x + y ∧ x + y ≤ 9223372036854775807) : IntKind.i64.wrap (x + y) = x + y := wrap_in h.1 h.2
theorem wrap_sub {x y : Int} (h : -9223372036854775808 ≤ x - y ∧ x - y ≤ 9223372036854775807) : IntKind.i64.wrap (x - y) = x - y := wrap_in h.1 h.2
theorem if_sel {α : Type} (c : Bool) (x y : α) : (if c = true then x else y) = bif c then x else y := by cases c <;> rfl

/-- Rows of whole numbers, of Bools. -/
def eI (x : Int) : List PV := [I x]
def eB (x : Bool) : List PV := [B x]
abbrev ints (l : List Int) : PV := rowOf eI l
abbrev bools (l : List Bool) : PV := rowOf eB l
theorem rowOf_r {α : Type} {e : α → List PV} (l : List α) : (rowOf e l).r = l.map e := Eq.trans rfl rfl
theorem xcell_at {α : Type} {e : α → List PV} (l : List α) (i : Nat) (h : i < l.length) (j : Nat) (k : LK) : cellAt (l.map e) (i : Int) j k = ((e l[i])[j]?).getD k.dflt := by
  simp [cellAt, h]
theorem xints_at (l : List Int) (i : Nat) (h : i < l.length) (k : LK) : cellAt (l.map eI) (i : Int) 0 k = I l[i] := by rw [xcell_at l i h]; rfl
theorem xbools_at (l : List Bool) (i : Nat) (h : i < l.length) (k : LK) : cellAt (l.map eB) (i : Int) 0 k = B l[i] := by rw [xcell_at l i h]; rfl
theorem xmap_snoc {α : Type} {e : α → List PV} (l : List α) (x : α) {y : List PV} (hy : e x = y) : PV.row (l.map e ++ [y]) = rowOf e (l ++ [x]) := by subst hy; simp [rowOf]
theorem xmap_set {α : Type} {e : α → List PV} (l : List α) (i : Nat) (x : α) {y : List PV} (hy : e x = y) : PV.row ((l.map e).set i y) = rowOf e (l.set i x) := by subst hy; simp [rowOf, List.map_set]
theorem xmap_make {α : Type} {e : α → List PV} (n : Nat) (x : α) {y : List PV} (hy : e x = y) : PV.row (List.replicate n y) = rowOf e (List.replicate n x) := by subst hy; simp [rowOf]
theorem xints_snoc (l : List Int) (x : Int) : PV.row (l.map eI ++ [[I x]]) = ints (l ++ [x]) := xmap_snoc l x rfl
theorem xints_set (l : List Int) (i : Nat) (x : Int) : PV.row ((l.map eI).set i [I x]) = ints (l.set i x) := xmap_set l i x rfl
theorem xints_make (n : Nat) (x : Int) : PV.row (List.replicate n [I x]) = ints (List.replicate n x) := xmap_make n x rfl
theorem xints_nil : PV.row [] = ints [] := rfl
theorem xbools_snoc (l : List Bool) (x : Bool) : PV.row (l.map eB ++ [[B x]]) = bools (l ++ [x]) := xmap_snoc l x rfl
theorem xbools_set (l : List Bool) (i : Nat) (x : Bool) : PV.row ((l.map eB).set i [B x]) = bools (l.set i x) := xmap_set l i x rfl
theorem xbools_make (n : Nat) (x : Bool) : PV.row (List.replicate n [B x]) = bools (List.replicate n x) := xmap_make n x rfl
theorem map_copy_make {α : Type} {e : α → List PV} (l : List α) (y : List PV) : PV.row ((l.map e).take (List.replicate l.length y).length ++ (List.replicate l.length y).drop (l.map e).length) = rowOf e l := by
  simp [rowOf, List.take_of_length_le]
theorem xnat_nonneg (i : Nat) : (0 ≤ (i : Int)) ↔ True := iff_true_intro (Int.natCast_nonneg i)
theorem xbret (a b : Bool) : ([PV.bool a] = [PV.bool b]) ↔ (a = true ↔ b = true) := by
  rw [List.cons.injEq, PV.bool.injEq, ← Bool.eq_iff_iff]; simp
theorem xiret (a b : Int) : ([PV.int .i64 a] = [PV.int .i64 b]) ↔ a = b := by simp

/-! ### Rows that are filled place by place -/
section
variable {α : Type}
/-- Up to a place those of one row, from it on those of another one. -/
def mix (a s : List α) (i : Nat) : List α := a.take i ++ s.drop i
theorem mix_len {a s : List α} (h : a.length = s.length) (i : Nat) : (mix a s i).length = s.length := by simp [mix]; omega
theorem mix_zero (a s : List α) : mix a s 0 = s := by simp [mix]
theorem mix_full {a s : List α} (h : a.length = s.length) : mix a s s.length = a := by simp [mix, ← h]
theorem mix_full' {a s : List α} (h : a.length = s.length) {i : Nat} (hi : s.length ≤ i) : mix a s i = a := by simp [mix, List.take_of_length_le (show a.length ≤ i by omega), List.drop_of_length_le hi]
theorem mix_at {a s : List α} (h : a.length = s.length) {i : Nat} (hi : i < s.length) (hi' : i < (mix a s i).length) : (mix a s i)[i] = s[i] := by
  simp only [mix]
  rw [List.getElem_append_right (by simp; omega)]
  simp [show i - min i a.length = 0 by omega]
theorem mix_set {a s : List α} (h : a.length = s.length) {i : Nat} (hi : i < s.length) {v : α} (hv : v = a[i]'(by omega)) : (mix a s i).set i v = mix a s (i + 1) := by
  subst hv
  simp only [mix]
  rw [List.drop_eq_getElem_cons hi, List.set_append_right _ _ (by simp; omega), List.take_succ_eq_append_getElem (by omega)]
  simp only [List.length_take, show i - min i a.length = 0 by omega, List.set_cons_zero, List.append_assoc, List.cons_append, List.nil_append]
theorem mix_modify {a s : List α} (h : a.length = s.length) {i : Nat} (hi : i < s.length) {f : α → α} (hf : f s[i] = a[i]'(by omega)) : (mix a s i).modify i f = mix a s (i + 1) := by
  rw [← mix_set h hi rfl]
  apply List.ext_getElem (by simp)
  intro j h1 h2
  rw [List.getElem_modify, List.getElem_set]
  split
  · rename_i hij
    subst hij
    rw [mix_at h hi, hf]
  · rfl
theorem take_snoc {a : List α} {i : Nat} (hi : i < a.length) {v : α} (hv : v = a[i]) : a.take i ++ [v] = a.take (i + 1) := by
  subst hv
  rw [List.take_succ_eq_append_getElem hi]
theorem xcopy_make {e : α → List PV} (l : List α) (y : List PV) : PV.row ((l.map e).take l.length ++ (List.replicate l.length y).drop l.length) = rowOf e l := by
  simp [rowOf, List.take_of_length_le]
end
theorem xlen1 {α : Type} (a : α) : [a].length = 1 := rfl
/-- Is the answer true? (to be found by the kernel) -/
def isTrueB (o : Option (List PV)) : Bool := match o with | some [.bool b] => b | _ => false
theorem says_of_run {tr : Nat → Option T} {f : Nat} {t : T} {args : List PV} (ht : tr f = some t) {n : Nat} (h : isTrueB (run tr n t args []) = true) : Says tr f args [.bool true] := by
  refine ⟨t, ht, n, ?_⟩
  generalize run tr n t args [] = o at h
  unfold isTrueB at h
  split at h
  · subst h; rfl
  · cases h

end Go.Proofs.Ytpaabecgngbjcaa.Sx

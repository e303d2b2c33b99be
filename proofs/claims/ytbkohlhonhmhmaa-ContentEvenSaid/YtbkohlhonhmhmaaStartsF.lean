/- What content.Starts tells, whole, in plain words. No condition beyond what each lemma states. -/
import Derived.Test.YtbkohlhonhmhmaaStarts
namespace Go.Proofs.Ytbkohlhonhmhmaa.Trk
open Go.RowKit Go.Proofs.Ytbkohlhonhmhmaa.PA Go.Proofs.YtbkohlhonhmhmaaW.PrintWords Go.Proofs.YtbkohlhonhmhmaaW.PrintMore Go.Proofs.Ytbkohlhonhmhmaa.Evs
set_option linter.unusedVariables false
set_option linter.unusedSimpArgs false
theorem suml_pre {s a : List Int} {v e : Int} (he : e = 0) : ∀ (d i : Nat), suml s a d i (pre a s i) = (v, e) → pre a s i ≤ 68719476736 → v = pre a s (i + d) ∧ ∀ j, i ≤ j → j ≤ i + d → pre a s j ≤ 68719476736
  | 0, i, h, hi => by
    simp only [suml, Prod.mk.injEq] at h
    refine ⟨h.1.symm, fun j h1 h2 => ?_⟩
    have : j = i := by omega
    subst this
    exact hi
  | d + 1, i, h, hi => by
    simp only [suml] at h
    by_cases hb : pre a s i + rd s (i : Int) + rd a (i : Int) > 68719476736
    · rw [if_pos hb] at h
      simp only [Prod.mk.injEq] at h
      omega
    · rw [if_neg hb] at h
      have := suml_pre he d (i + 1) h (by show pre a s i + rd s (i : Int) + rd a (i : Int) ≤ 68719476736; omega)
      refine ⟨by rw [this.1, show i + 1 + d = i + (d + 1) by omega], fun j h1 h2 => ?_⟩
      by_cases e2 : j = i
      · subst e2; exact hi
      · exact this.2 j (by omega) (by omega)
theorem pre_nonneg {s a : List Int} {n : Nat} (hs : ∀ j : Nat, j < n → 0 ≤ rd s (j : Int)) (ha : ∀ j : Nat, j < n → 0 ≤ rd a (j : Int)) : ∀ i : Nat, i ≤ n → 0 ≤ pre a s i
  | 0, _ => Int.le_refl _
  | i + 1, h => by
    have h1 := pre_nonneg hs ha i (by omega)
    have h2 := hs i (by omega)
    have h3 := ha i (by omega)
    simp only [pre]
    omega
theorem pre_mono {s a : List Int} {n : Nat} (hs : ∀ j : Nat, j < n → 0 ≤ rd s (j : Int)) (ha : ∀ j : Nat, j < n → 0 ≤ rd a (j : Int)) (i : Nat) : ∀ j : Nat, i ≤ j → j ≤ n → pre a s i ≤ pre a s j
  | 0, h, _ => by have : i = 0 := by omega
                  subst this; exact Int.le_refl _
  | j + 1, h, hj => by
    by_cases e : i = j + 1
    · subst e; exact Int.le_refl _
    · have h1 := pre_mono hs ha i j (by omega) (by omega)
      have h2 := hs j (by omega)
      have h3 := ha j (by omega)
      simp only [pre]
      omega
theorem starts_l0 (lo : Int) (l : List S57) (g : List Bool) (a s : List Int) (size sum al : Int) (hm : g.length ≤ 40000) (hs : s.length ≤ 40000) (R : List Int × Int) (hc : Ev (fun k => content_Starts.l1 k s (List.replicate s.length 0) 0 (-1) (s.length : Int) 0 lo l g a al (kc g g.length + 1) (wrap64 (size - sum))) R) (d : Nat) :
    ∀ i : Nat, i + d = g.length → Ev (fun k => content_Starts.l0 k s size sum g (g.length : Int) (i : Int) lo l g a al (kc g i + 1)) R := by
  induction d with
  | zero =>
    intro i hi
    have : i = g.length := by omega
    subst this
    refine Ev.step (fun k => ?_) hc
    simp only [content_Starts.l0]
    rw [if_neg (by omega), if_pos (by omega), if_pos (by omega)]
    simp
  | succ d ih =>
    intro i hi
    have ec : ((i : Int) + 1) = ((i + 1 : Nat) : Int) := by simp
    have k1 := kc_in g i
    have hn := ih (i + 1) (by omega)
    cases hgi : rdOf false g (i : Int) with
    | true =>
      have e : kc g (i + 1) = kc g i := by simp only [kc, hgi, if_true]
      rw [e] at hn
      refine Ev.step (fun k => ?_) hn
      simp only [content_Starts.l0]
      rw [if_pos (by omega), if_pos (by omega), if_pos (by omega), if_pos hgi, wrap_in ((i : Int) + 1) (by omega) (by omega), ec]
    | false =>
      have e : kc g (i + 1) = kc g i + 1 := by simp only [kc, hgi, Bool.false_eq_true, if_false]
      rw [e] at hn
      refine Ev.step (fun k => ?_) hn
      simp only [content_Starts.l0]
      rw [if_pos (by omega), if_pos (by omega), if_pos (by omega), if_neg (by rw [hgi]; decide), wrap_in ((i : Int) + 1) (by omega) (by omega), wrap_in (kc g i + 1 + 1) (by omega) (by omega), ec]
/-- All that holds where tracks begin. -/
structure Begun (lo : Int) (l : List S57) (g : List Bool) (a s : List Int) (size al v : Int) : Prop where
  sum : sumS lo l g a s = (v, 0)
  lg : g.length = s.length
  la : a.length = s.length
  ls : s.length = l.length
  small : s.length ≤ 40000
  size0 : 0 ≤ size
  size1 : size ≤ 68719476736
  al0 : 2 ≤ al
  al1 : al ≤ 9
  tot : v = pre a s s.length
  pre0 : ∀ i : Nat, i ≤ s.length → 0 ≤ pre a s i ∧ pre a s i ≤ 68719476736
  s0 : ∀ j : Nat, j < s.length → 0 ≤ rd s (j : Int) ∧ rd s (j : Int) ≤ 68719476736
  a0 : ∀ j : Nat, j < s.length → 0 ≤ rd a (j : Int) ∧ rd a (j : Int) ≤ 68719476736
def begS (g : List Bool) (a s : List Int) (size al v : Int) : List Int := (List.range s.length).map (outS a s g al (size - v) (kc g s.length + 1))
theorem starts_ev (lo : Int) (l : List S57) (g : List Bool) (a s : List Int) (size al : Int) :
    (∃ E, E ≠ 0 ∧ Ev (fun k => content_Starts.f k lo l g a s size al) ([], E)) ∨ (∃ v, Begun lo l g a s size al v ∧ Ev (fun k => content_Starts.f k lo l g a s size al) (begS g a s size al v, 0)) := by
  have hs1 := (sum_both lo l g a s).1
  obtain ⟨v, e, hne⟩ : ∃ v e, sumS lo l g a s = (v, e) := ⟨_, _, rfl⟩
  rw [hne] at hs1
  have bad : ∀ x : Int, Ev (fun k => content_Starts.j0 k s size v x true lo l g a al) ([], 2) := fun x => Ev.step (f := fun _ => some ([], 2)) (fun k => by simp only [content_Starts.j0, if_true]) (Ev.now _)
  have wrong : (Ev (fun k => if e = 2 then (content_Starts.j0 k s size v e true lo l g a al) else (if size < 0 then (content_Starts.j0 k s size v e true lo l g a al) else ((fixed_Is.f size).bind fun t152 => (if t152 = true then (if al < 2 then (content_Starts.j0 k s size v e true lo l g a al) else (content_Starts.j0 k s size v e (decide (al > 9)) lo l g a al)) else (content_Starts.j0 k s size v e true lo l g a al))))) ([], 2)) → (∃ E, E ≠ 0 ∧ Ev (fun k => content_Starts.f k lo l g a s size al) ([], E)) := fun h => ⟨2, by decide, Ev.bind hs1 h⟩
  by_cases he2 : e = 2
  · exact Or.inl (wrong (by simp only [if_pos he2]; exact bad e))
  by_cases hs0 : size < 0
  · exact Or.inl (wrong (by simp only [if_neg he2, if_pos hs0]; exact bad e))
  by_cases hsm : size ≤ 68719476736
  rotate_left
  · refine Or.inl (wrong ?_)
    simp only [if_neg he2, if_neg hs0, is_eq size (by omega), decide_eq_false hsm, Option.bind_some, Bool.false_eq_true, if_false]
    exact bad e
  by_cases ha2 : al < 2
  · refine Or.inl (wrong ?_)
    simp only [if_neg he2, if_neg hs0, is_eq size (by omega), decide_eq_true hsm, Option.bind_some, if_true, if_pos ha2]
    exact bad e
  by_cases ha9 : al > 9
  · refine Or.inl (wrong ?_)
    simp only [if_neg he2, if_neg hs0, is_eq size (by omega), decide_eq_true hsm, Option.bind_some, if_true, if_neg ha2, decide_eq_true ha9]
    exact bad e
  have good : ∀ R : List Int × Int, Ev (fun k => content_Starts.j0 k s size v e false lo l g a al) R → Ev (fun k => content_Starts.f k lo l g a s size al) R := by
    intro R hR
    refine Ev.bind hs1 ?_
    simp only [if_neg he2, if_neg hs0, is_eq size (by omega), decide_eq_true hsm, Option.bind_some, if_true, if_neg ha2, decide_eq_false ha9]
    exact hR
  by_cases he : e = 0
  rotate_left
  · refine Or.inl ⟨e, he, good _ ?_⟩
    refine Ev.step (f := fun _ => some ([], e)) (fun k => ?_) (Ev.now _)
    simp only [content_Starts.j0, Bool.false_eq_true, if_false]
    rw [if_neg he]
  refine Or.inr ⟨v, ?_⟩
  have hok : TkB lo l g a = true ∧ s.length = l.length ∧ szi s s.length 0 = true := by
    unfold sumS at hne
    by_cases hc : TkB lo l g a = true ∧ s.length = l.length ∧ szi s s.length 0 = true
    · exact hc
    · rw [if_neg hc] at hne
      simp only [Prod.mk.injEq] at hne
      omega
  have hta := tk_ahead hok.1
  have h1 := hta.1.1
  have h2 := hta.1.2.1
  have h3 := hta.1.2.2.1
  have hls := hok.2.1
  have hsz := fun (j : Nat) (hj : j < s.length) => szi_at _ _ hok.2.2 j (by omega) (by omega)
  have hah := fun (j : Nat) (hj : j < s.length) => hta.2 j (by omega)
  have hsm2 : suml s a s.length 0 0 = (v, e) := by
    unfold sumS at hne
    rwa [if_pos hok] at hne
  have hpp := suml_pre he s.length 0 hsm2 (by show (0 : Int) ≤ 68719476736; decide)
  have hp0 : ∀ i : Nat, i ≤ s.length → 0 ≤ pre a s i ∧ pre a s i ≤ 68719476736 := fun i hi => ⟨pre_nonneg (fun j hj => (hsz j hj).1) (fun j hj => (hah j hj).1) i hi, hpp.2 i (by omega) (by omega)⟩
  have hv : v = pre a s s.length := by rw [hpp.1, Nat.zero_add]
  have hvb := hp0 s.length (Nat.le_refl _)
  have B : Begun lo l g a s size al v := ⟨by rw [hne, he], by omega, by omega, hls, by omega, by omega, hsm, by omega, by omega, hv, hp0, hsz, hah⟩
  refine ⟨B, good _ ?_⟩
  have ew : wrap64 (size - v) = size - v := wrap_in _ (by omega) (by omega)
  have hl1 := starts_l1 lo l g a s al (size - v) B.lg B.la B.small hp0 hsz hah ⟨by omega, by omega⟩ s.length 0 (by omega)
  have := starts_l0 lo l g a s size v al (by omega) B.small (begS g a s size al v, 0) (by rw [ew, B.lg]; simpa [pre, kc, begS] using hl1) g.length 0 (by omega)
  refine Ev.step (fun k => ?_) this
  simp only [content_Starts.j0, Bool.false_eq_true, if_false]
  rw [if_pos he]
  rfl
theorem begS_length (g : List Bool) (a s : List Int) (size al v : Int) : (begS g a s size al v).length = s.length := by simp [begS]
theorem begS_at (g : List Bool) (a s : List Int) (size al v : Int) (i : Nat) (h : i < s.length) : rd (begS g a s size al v) (i : Int) = outS a s g al (size - v) (kc g s.length + 1) i := by
  rw [rd_at _ i (by rw [begS_length]; exact h)]
  simp [begS]
theorem out_facts {lo : Int} {l : List S57} {g : List Bool} {a s : List Int} {size al v : Int} (B : Begun lo l g a s size al v) (i : Nat) (h : i < s.length) :
    -68719476736 ≤ addS al (size - v) (kc g s.length + 1) (mx0 (kc g (i + 1))) ∧ addS al (size - v) (kc g s.length + 1) (mx0 (kc g (i + 1))) ≤ 68719476736 ∧ (0 ≤ size - v → 0 ≤ addS al (size - v) (kc g s.length + 1) (mx0 (kc g (i + 1))) ∧ addS al (size - v) (kc g s.length + 1) (mx0 (kc g (i + 1))) ≤ size - v) ∧
      pre a s i + rd s (i : Int) + rd a (i : Int) ≤ v := by
  have hv := B.tot
  have hvb := B.pre0 s.length (Nat.le_refl _)
  have hs0 := B.size0
  have hs1 := B.size1
  have k1 := kc_in g (i + 1)
  have k2 := kc_mono g (show i + 1 ≤ s.length by omega)
  have k3 := kc_in g s.length
  have m1 := mx0_in (kc g (i + 1))
  have hA := add_in (al := al) (fr := size - v) (n := kc g s.length + 1) (k := mx0 (kc g (i + 1))) ⟨by omega, by omega⟩ m1.1 (fun h => by omega)
  refine ⟨hA.1, hA.2.1, hA.2.2, ?_⟩
  have := pre_mono (fun j hj => (B.s0 j hj).1) (fun j hj => (B.a0 j hj).1) (i + 1) s.length (by omega) (Nat.le_refl _)
  rw [hv]
  exact this
theorem out_next {lo : Int} {l : List S57} {g : List Bool} {a s : List Int} {size al v : Int} (B : Begun lo l g a s size al v) (j : Nat) (h : j + 1 < s.length) :
    addS al (size - v) (kc g s.length + 1) (mx0 (kc g (j + 1))) ≤ addS al (size - v) (kc g s.length + 1) (mx0 (kc g (j + 1 + 1))) := by
  have k1 := kc_in g (j + 1)
  have k2 := kc_mono g (show j + 1 + 1 ≤ s.length by omega)
  have k4 := kc_mono g (show j + 1 ≤ j + 1 + 1 by omega)
  have k3 := kc_in g s.length
  have m1 := mx0_in (kc g (j + 1))
  have m2 := mx0_in (kc g (j + 1 + 1))
  exact add_mono (by omega) m1.1 (fun h => by omega)
end Go.Proofs.Ytbkohlhonhmhmaa.Trk

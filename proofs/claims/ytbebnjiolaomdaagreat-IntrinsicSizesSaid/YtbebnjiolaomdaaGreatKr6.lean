/- The document's limits, spans and first step are the sizer's. Plain laws; no condition beyond what each states. -/
import Derived.Test.YtbebnjiolaomdaaGreatT
import Derived.Test.YtbebnjiolaomdaaGreatKr5
set_option linter.unusedVariables false
set_option linter.unusedSimpArgs false
set_option maxRecDepth 100000
namespace Go.Proofs.YtbebnjiolaomdaaGreat.T
open Go Go.Proofs.YtbebnjiolaomdaaGreat.Sx Go.Proofs.YtbebnjiolaomdaaGreat.M
theorem rangeTrue_getD (met : List Bool) (f t i : Nat) (h : i < met.length) : (rangeTrue met f t).getD i false = (met.getD i false || (decide (f ≤ i) && decide (i < t))) := by
 have h1 : i < (rangeTrue met f t).length := by rw [rangeTrue_len]; exact h
 have e := rangeTrue_at met f t i h1 h
 have e2 : (rangeTrue met f t).getD i false = (rangeTrue met f t)[i] := by simp [List.getD_eq_getElem?_getD, h1]
 have e3 : met.getD i false = met[i] := by simp [List.getD_eq_getElem?_getD, h]
 rw [e2, e, e3]
theorem markS_getD (s : List Sz) : ∀ (who : List Nat) (had : List Bool) (i : Nat), i < had.length → (markS s who had).getD i false = (had.getD i false || (decide (i ∈ who) && decide ((atS s i).lim = 1125899906842624)))
 | [], had, i, h => by simp [markS]
 | j :: who, had, i, h => by
  simp only [markS]
  have hlen : i < (if (atS s j).lim = 1125899906842624 then had.set j true else had).length := by split <;> simp [h]
  rw [markS_getD s who _ i hlen]
  by_cases hij : j = i
  · subst hij
    by_cases hl : (atS s j).lim = 1125899906842624
    · rw [if_pos hl]
      simp [List.getD_eq_getElem?_getD, List.getElem?_set, h, hl]
    · rw [if_neg hl]
      simp [hl]
  · have hne : ¬ i = j := fun hh => hij hh.symm
    by_cases hl : (atS s j).lim = 1125899906842624
    · rw [if_pos hl]
      simp [List.getD_eq_getElem?_getD, List.getElem?_set, hij, hne]
    · rw [if_neg hl]
      simp [hne]
def metB (ws : List Wn) (i : Nat) : Bool := ws.any fun w => decide (w.fm.toNat ≤ i) && decide (i < w.to.toNat)
theorem turnM_met {s : List Sz} {a : List Int} {r mode : Int} {g : List Bool} {fr : Bool} : ∀ (ws : List Wn) (p : List Int × List Bool) (i : Nat), i < p.2.length → (turnM s a r mode g fr ws p).2.getD i false = (p.2.getD i false || metB ws i)
 | [], p, i, _ => by simp [turnM, metB]
 | w :: ws, p, i, h => by
  simp only [turnM]
  rw [turnM_met ws _ i (by rw [rangeTrue_len]; exact h), rangeTrue_getD _ _ _ _ h]
  simp [metB, Bool.or_assoc]
theorem hadS_met {s : List Sz} (of : Nat → Bool) : ∀ (ws : List Wn) (had : List Bool) (i : Nat), (∀ w ∈ ws, InW s.length w) → i < had.length → (hadS s of ws had).getD i false = (had.getD i false || (metB ws i && of i && decide ((atS s i).lim = 1125899906842624)))
 | [], had, i, _, _ => by simp [hadS, metB]
 | w :: ws, had, i, hi, h => by
  obtain ⟨i0, i1, i2⟩ := hi w (by simp)
  simp only [hadS]
  rw [hadS_met of ws _ i (fun v hv => hi v (by simp [hv])) (by rw [markS_len]; exact h), markS_getD s _ _ i h]
  have hm := mem_whoU of (w.to.toNat - w.fm.toNat) w.fm.toNat i
  have e : decide (i ∈ whoU of (w.to.toNat - w.fm.toNat) w.fm.toNat) = (decide (w.fm.toNat ≤ i) && decide (i < w.to.toNat) && of i) := by
   rw [Bool.eq_iff_iff]
   simp only [decide_eq_true_eq, Bool.and_eq_true, hm]
   constructor
   · rintro ⟨h1, h2, h3⟩; exact ⟨⟨h1, by omega⟩, h3⟩
   · rintro ⟨⟨h1, h2⟩, h3⟩; exact ⟨h1, by omega, h3⟩
  rw [e]
  have em : metB (w :: ws) i = ((decide (w.fm.toNat ≤ i) && decide (i < w.to.toNat)) || metB ws i) := by simp [metB]
  rw [em]
  cases had.getD i false <;> cases (decide (w.fm.toNat ≤ i) && decide (i < w.to.toNat)) <;> cases of i <;> cases decide ((atS s i).lim = 1125899906842624) <;> cases metB ws i <;> rfl
theorem giveS_not {s : List Sz} {a : List Int} {wanted : Wn → Int} {size : Sz → Int} {of : Nat → Bool} {share : Int → List Nat → List Int} : ∀ (ws : List Wn) (out : List Int) (i : Nat), (∀ w ∈ ws, InW s.length w) → (metB ws i && of i) = false → (giveS s a wanted size of share ws out).getD i 0 = out.getD i 0
 | [], out, i, _, _ => rfl
 | w :: ws, out, i, hi, h => by
  obtain ⟨i0, i1, i2⟩ := hi w (by simp)
  have em : metB (w :: ws) i = ((decide (w.fm.toNat ≤ i) && decide (i < w.to.toNat)) || metB ws i) := by simp [metB]
  rw [em] at h
  simp only [giveS]
  rw [giveS_not ws _ i (fun v hv => hi v (by simp [hv])) (by
   cases h1 : metB ws i <;> cases h2 : of i <;> simp_all)]
  simp only [oneS]
  split
  · rfl
  · refine outU_not _ _ _ _ (fun hh => ?_)
    have hm := (mem_whoU of _ _ i).1 hh
    have : (decide (w.fm.toNat ≤ i) && decide (i < w.to.toNat)) = true := by simp; omega
    rw [this, hm.2.2] at h
    simp at h
theorem getD_at {α : Type} {l : List α} {i : Nat} (h : i < l.length) (d : α) : l.getD i d = l[i] := by simp [List.getD_eq_getElem?_getD, h]
theorem turnS_lim {s : List Sz} {a : List Int} {ws : List Wn} {r mode : Int} {g : List Bool} (hr : 4 ≤ r) (h : Fit s a ws) (hb : ∀ x ∈ s, Bd x) {wanted : Wn → Int} (hwe : wantedR s a r mode = wanted) (hwt : WnIn ws wanted) {of : Sz → Bool} (hof : ofR r mode = of) :
    turnS s a ws r mode g false = limAS s (hadS s (fun i => of (atS s i)) ws (List.replicate s.length false)) (giveS s a wanted ownL (fun i => of (atS s i)) (shareF (roomL s g) fun _ => true) ws (List.replicate s.length 0)) := by
 have hl := turnM_len s a r mode g false ws (List.replicate s.length 0, List.replicate s.length false)
 simp only [List.length_replicate] at hl
 have hmost := turnM_is (s := s) (a := a) (r := r) (mode := mode) (g := g) (fr := false) ws (List.replicate s.length 0) (List.replicate s.length false) h.hi (by simp) (fun x hx => by rw [List.eq_of_mem_replicate hx]; exact Int.le_refl _)
 rw [hwe, sizeRd_l hr, ofG_no, hof, shareR_l hr] at hmost
 have hmet := fun i hi => turnM_met (s := s) (a := a) (r := r) (mode := mode) (g := g) (fr := false) ws (List.replicate s.length 0, List.replicate s.length false) i hi
 have hhad := fun i hi => hadS_met (s := s) (fun i => of (atS s i)) ws (List.replicate s.length false) i h.hi hi
 have hnot := fun i => giveS_not (s := s) (a := a) (wanted := wanted) (size := ownL) (of := fun i => of (atS s i)) (share := shareF (roomL s g) fun _ => true) ws (List.replicate s.length 0) i h.hi
 have hgv := giveL_gv h hb hwt (fun i => of (atS s i)) (shareF_in (roomL s g) fun _ => true)
 have hhl := hadS_len s (fun i => of (atS s i)) ws (List.replicate s.length false)
 have hgl := giveS_len s a wanted ownL (fun i => of (atS s i)) (shareF (roomL s g) fun _ => true) ws (List.replicate s.length 0)
 simp only [List.length_replicate] at hhl hgl hmet hhad
 unfold turnS
 rw [hmost] at hl ⊢
 generalize giveS s a wanted ownL (fun i => of (atS s i)) (shareF (roomL s g) fun _ => true) ws (List.replicate s.length 0) = n at *
 generalize hadS s (fun i => of (atS s i)) ws (List.replicate s.length false) = had at *
 generalize (turnM s a r mode g false ws (List.replicate s.length 0, List.replicate s.length false)).2 = met at *
 have hrep : ∀ i, (List.replicate s.length false).getD i false = false := by
  intro i
  simp only [List.getD_eq_getElem?_getD, List.getElem?_replicate]
  split <;> rfl
 have hrep0 : ∀ i, (List.replicate s.length (0 : Int)).getD i 0 = 0 := by
  intro i
  simp only [List.getD_eq_getElem?_getD, List.getElem?_replicate]
  split <;> rfl
 apply List.ext_getElem (by rw [turnL_len, limAS_len])
 intro i h1 h2
 have hi : i < s.length := by rw [turnL_len] at h1; exact h1
 rw [turnL_at r mode s n met hgl hl.2 i hi, limAS_at s had n hhl hgl i hi]
 have e1 := hmet i hi
 have e2 := hhad i hi
 rw [hrep, Bool.false_or, getD_at (by omega)] at e1
 rw [hrep, Bool.false_or, getD_at (by omega), atS_lt hi] at e2
 have e3 := hnot i
 rw [hrep0, getD_at (by omega), atS_lt hi] at e3
 have e4 := hgv i (by omega)
 have hx := hb _ (List.getElem_mem hi)
 unfold Bd at hx
 unfold turn1 limA1
 rw [if_neg (by omega), hof, sizeRd_l hr]
 rw [e1]
 by_cases hc : metB ws i = true ∧ of s[i] = true
 · rw [if_pos hc, if_pos ?_]
   by_cases hl : s[i].lim < 1125899906842624
   · exact Or.inr hl
   · refine Or.inl ?_
     rw [e2, hc.1, hc.2]
     simp
     omega
 · have hc' : (metB ws i && of s[i]) = false := by
    rw [Bool.eq_false_iff]
    intro hh
    rw [Bool.and_eq_true] at hh
    exact hc hh
   have hn := e3 hc'
   rw [if_neg hc]
   by_cases hl : s[i].lim < 1125899906842624
   · rw [if_pos (Or.inr hl), hn]
     have : IntKind.i64.wrap (ownL s[i] + 0) = s[i].lim := by
      unfold ownL
      rw [if_pos hl, wrap_in (by omega) (by omega)]
      omega
     rw [this]
   · rw [if_neg]
     rintro (hh | hh)
     · rw [e2, hc'] at hh
       cases hh
     · exact hl hh
theorem turn_lm4 {s : List Sz} {a : List Int} {ws : List Wn} {mode : Int} (h : Fit s a ws) (hb : ∀ x ∈ s, Bd x) : turnS s a ws 4 mode (List.replicate s.length false) false = lm4 s a ws :=
 turnS_lim (by omega) h hb (wantedR4 s a mode) (mn_in h) (ofR4 mode)
theorem turn_lm5 {s : List Sz} {a : List Int} {ws : List Wn} {mode : Int} (h : Fit s a ws) (hb : ∀ x ∈ s, Bd x) (g : List Bool) : turnS s a ws 5 mode g false = lm5 s a ws g :=
 turnS_lim (by omega) h hb (wantedR5 s a mode) (mx_in h) (ofR5 mode)
theorem grow_is {s : List Sz} {a : List Int} {ws : List Wn} (h : Fit s a ws) (hb : ∀ x ∈ s, Bd x) : growS s (lm4 s a ws) = hadS s (fun i => looseB (atS s i)) ws (List.replicate s.length false) := by
 have hhad := fun i hi => hadS_met (s := s) (fun i => looseB (atS s i)) ws (List.replicate s.length false) i h.hi hi
 have hgv := giveL_gv h hb (mn_in h) (fun i => looseB (atS s i)) (shareF_in (roomL s (List.replicate s.length false)) fun _ => true)
 have hhl := hadS_len s (fun i => looseB (atS s i)) ws (List.replicate s.length false)
 have hgl := giveS_len s a (fun w => w.mn) ownL (fun i => looseB (atS s i)) (shareF (roomL s (List.replicate s.length false)) fun _ => true) ws (List.replicate s.length 0)
 simp only [List.length_replicate] at hhl hgl
 unfold lm4
 generalize giveS s a (fun w => w.mn) ownL (fun i => looseB (atS s i)) (shareF (roomL s (List.replicate s.length false)) fun _ => true) ws (List.replicate s.length 0) = n at *
 generalize hadS s (fun i => looseB (atS s i)) ws (List.replicate s.length false) = had at *
 apply List.ext_getElem (by simp [growS, limAS_len, hhl])
 intro i h1 h2
 have hi : i < s.length := by omega
 have e2 := hhad i (by simpa using hi)
 have hrep : (List.replicate s.length false).getD i false = false := by
  simp only [List.getD_eq_getElem?_getD, List.getElem?_replicate]
  split <;> rfl
 rw [hrep, Bool.false_or, getD_at (by omega), atS_lt hi] at e2
 have e4 := hgv i (by omega)
 rw [atS_lt hi] at e4
 have hx := hb _ (List.getElem_mem hi)
 unfold Bd at hx
 simp only [growS, List.getElem_zipWith]
 rw [limAS_at s had n hhl hgl i hi]
 unfold grow1
 by_cases hl : s[i].lim = 1125899906842624
 · have how : ownL s[i] = s[i].base := by unfold ownL; rw [if_neg (by omega)]
   rw [how] at e4
   unfold limA1
   by_cases hh : had[i] = true
   · rw [if_pos (Or.inl hh), how]
     have hw : IntKind.i64.wrap (s[i].base + n[i]) = s[i].base + n[i] := wrap_in (by omega) (by omega)
     simp only [hw, hl, hh, decide_true, Bool.true_and, decide_eq_true_eq]
     omega
   · rw [if_neg (fun hq => by rcases hq with hq | hq; exact hh hq; omega)]
     rw [Bool.not_eq_true] at hh
     rw [hh]
     simp [hl]
 · have : had[i] = false := by rw [e2]; simp [hl]
   rw [this]
   simp [hl]
theorem sev_is {s : List Sz} {a : List Int} {ws : List Wn} {mode : Int} (h : Fit s a ws) (hb : ∀ x ∈ s, Bd x) : sevR s a ws mode = severalS s a ws (decide (mode ≠ 0)) (decide (mode = 2)) := by
 have hu := bases3_up h hb (decide (mode ≠ 0)) (decide (mode = 2))
 have hf := h.of hu.1
 have hb4 := hu.bd
 unfold sevR severalS
 simp only
 rw [turns3_rd h.hi]
 have e : (rd3 (rd2 (rd1 s a ws (decide (mode ≠ 0))) a ws) a ws (decide (mode = 2))).map raise1 = bases3 s a ws (decide (mode ≠ 0)) (decide (mode = 2)) := rfl
 rw [e]
 have hlen := hu.1
 generalize bases3 s a ws (decide (mode ≠ 0)) (decide (mode = 2)) = b at *
 rw [← hlen, turn_lm4 hf hb4, grow_is hf hb4]
 have hu4 := lm4_up hf hb4
 rw [turn_lm5 (hf.of hu4.1) hu4.bd]
theorem grp_low {s : List Sz} {ws : List Wn} {n : Int} (h : n ≤ 1) : grp s ws n = [] := by
 unfold grp
 rw [List.filter_eq_nil_iff]
 intro w _
 have : decide (1 < n) = false := decide_eq_false (by omega)
 simp [this]
theorem spans_is {s : List Sz} {a : List Int} {ws : List Wn} {mode : Int} : ∀ (c d : Nat) (S : List Sz), Fit S a ws → (∀ x ∈ S, Bd x) →
    spanR s a ws mode c d S = spansS a (decide (mode ≠ 0)) (decide (mode = 2)) (grp s ws) (((List.range' d c).filter (fun d : Nat => !(grp s ws (d : Int)).isEmpty)).map Int.ofNat) S
 | 0, d, S, _, _ => by simp [spanR, spansS]
 | c + 1, d, S, h, hb => by
  simp only [spanR, List.range'_succ, List.filter_cons]
  have hsub : Fit S a (grp s ws (d : Int)) := h.sub (fun w hw => (grp_in hw).1)
  by_cases hg : (grp s ws (d : Int)).length = 0
  · have : (grp s ws (d : Int)).isEmpty = true := by rw [List.isEmpty_iff]; exact List.length_eq_zero_iff.1 hg
    rw [if_pos hg, this, spans_is c (d + 1) S h hb]
    simp
  · have : (grp s ws (d : Int)).isEmpty = false := by
     rw [List.isEmpty_eq_false_iff]
     intro hh
     exact hg (by rw [hh]; rfl)
    have hu := several_up hsub hb (decide (mode ≠ 0)) (decide (mode = 2))
    rw [if_neg hg, this, sev_is hsub hb, spans_is c (d + 1) _ (h.of hu.1) hu.bd]
    simp [spansS]
theorem spanL_range (s : List Sz) (ws : List Wn) : spanL s ws = ((List.range' 2 (s.length - 1)).filter (fun d : Nat => !(grp s ws (d : Int)).isEmpty)).map Int.ofNat := by
 unfold spanL
 congr 1
 have h0 : (grp s ws ((0 : Nat) : Int)).isEmpty = true := by rw [grp_low (by omega)]; rfl
 have h1 : (grp s ws ((1 : Nat) : Int)).isEmpty = true := by rw [grp_low (by omega)]; rfl
 have g0 : grp s ws 0 = [] := grp_low (by omega)
 have g1 : grp s ws 1 = [] := grp_low (by omega)
 rw [List.range_eq_range']
 cases hl : s.length with
 | zero => simp [List.range', g0]
 | succ m =>
  rw [show m + 1 + 1 = (m + 1 - 1) + 1 + 1 by omega, List.range'_succ, List.range'_succ]
  simp [List.filter_cons, g0, g1]
theorem topS_at {s : List Sz} {a : List Int} {f : Bool} : ∀ (ws : List Wn) (ts : List Tp × List Bool) (i : Nat), (∀ w ∈ ws, 0 ≤ w.fm) → ∀ (h1 : i < ts.1.length) (h2 : i < ts.2.length) (h3 : i < (topS s a f ws ts).1.length) (h4 : i < (topS s a f ws ts).2.length),
    ((topS s a f ws ts).1[i], (topS s a f ws ts).2[i]) = topAt (wanted1 s a f) i ws (ts.1[i], ts.2[i])
 | [], ts, i, _, h1, h2, h3, h4 => rfl
 | w :: ws, ts, i, hw, h1, h2, h3, h4 => by
  have h0 := hw w (by simp)
  have l1 : i < (topStep s a f w ts).1.length := by unfold topStep; split <;> simp [h1]
  have l2 : i < (topStep s a f w ts).2.length := by unfold topStep; split <;> simp [h2]
  have e := topS_at ws (topStep s a f w ts) i (fun v hv => hw v (by simp [hv])) l1 l2 h3 h4
  simp only [topAt]
  refine Eq.trans e ?_
  congr 1
  by_cases hc : w.to = w.fm + 1
  · by_cases hi : w.fm = (i : Int)
    · have hn : w.fm.toNat = i := by omega
      have hcc : w.fm = (i : Int) ∧ w.to = (i : Int) + 1 := ⟨hi, by omega⟩
      rw [if_pos hcc]
      have e1 : topStep s a f w ts = (ts.1.modify i (fun t => ⟨max t.a (wanted1 s a f w), max t.b w.mn, max t.c w.mx⟩), ts.2.set i true) := by unfold topStep; rw [if_pos hc, hn]
      simp only [e1, List.getElem_modify, if_true, List.getElem_set_self]
    · have hn : ¬ w.fm.toNat = i := by omega
      have hcc : ¬ (w.fm = (i : Int) ∧ w.to = (i : Int) + 1) := fun hh => hi hh.1
      rw [if_neg hcc]
      have e1 : topStep s a f w ts = (ts.1.modify w.fm.toNat (fun t => ⟨max t.a (wanted1 s a f w), max t.b w.mn, max t.c w.mx⟩), ts.2.set w.fm.toNat true) := by unfold topStep; rw [if_pos hc]
      simp only [e1, List.getElem_modify, List.getElem_set, if_neg hn]
  · have hcc : ¬ (w.fm = (i : Int) ∧ w.to = (i : Int) + 1) := fun hh => hc (by omega)
    rw [if_neg hcc]
    have e1 : topStep s a f w ts = ts := by unfold topStep; rw [if_neg hc]
    simp only [e1]
theorem one_is {x : Sz} (hx : Gd x) (t : Tp) (met : Bool) : (if x.mx = 5 then x else oneR x t met) = alone1 x t met := by
 unfold oneR alone1
 by_cases h5 : x.mx = 5
 · rw [if_pos h5, if_pos (Or.inl h5)]
 rw [if_neg h5]
 cases met with
 | false => simp
 | true =>
  rw [if_neg (show ¬ (x.mx = 5 ∨ true = false) by simp [h5]), if_pos (rfl : true = true)]
  unfold Gd at hx
  congr 1
  have hb : (if x.mn = 3 then max x.base t.b else if x.mn = 4 then max x.base t.c else if x.mn = 2 then max x.base t.a else x.base) = (if x.mn = 2 then max x.base t.a else if x.mn = 3 then max x.base t.b else if x.mn = 4 then max x.base t.c else x.base) := by
   by_cases h2 : x.mn = 2
   · simp [h2]
   · simp [h2]
  have hl : (if x.mx = 3 then t.b else if x.mx = 4 ∨ x.mx = 2 then (if x.fit = true then min t.c x.cap else t.c) else x.lim) = (if x.fit = true then min t.c x.cap else if x.mx = 3 then t.b else if contentB x = true then t.c else x.lim) := by
   unfold contentB
   by_cases hf : x.fit = true
   · have h4 : x.mx = 4 := (hx.2.2.2.2.2.2.2.2.2.2.1 hf).2
     simp [hf, h4]
   · simp [hf]
  rw [hb, hl]
theorem now_is {s : List Sz} {a : List Int} {ws : List Wn} {mode : Int} (h : Fit s a ws) (hg : ∀ x ∈ s, Gd x) : nowL s a ws mode = aloneS s a ws (decide (mode ≠ 0)) := by
 apply List.ext_getElem (by rw [nowL_len, aloneS_len])
 intro i h1 h2
 have hi : i < s.length := by rw [nowL_len] at h1; exact h1
 have hl := topS_len s a (decide (mode ≠ 0)) ws (List.replicate s.length ⟨0, 0, 0⟩, List.replicate s.length false)
 simp only [List.length_replicate] at hl
 have e : (aloneS s a ws (decide (mode ≠ 0)))[i] = _ := alS_at s _ _ hl.1 hl.2 i hi
 have ht := topS_at (s := s) (a := a) (f := decide (mode ≠ 0)) ws (List.replicate s.length ⟨0, 0, 0⟩, List.replicate s.length false) i (fun w hw => (h.hi w hw).1) (by simpa using hi) (by simpa using hi) (by omega) (by omega)
 simp only [List.getElem_replicate] at ht
 rw [nowL_at, e]
 unfold nowR
 rw [atS_lt hi, wantedR1, ← ht]
 exact one_is (hg _ (List.getElem_mem hi)) _ _
theorem size_is {s : List Sz} {a : List Int} {ws : List Wn} {mode : Int} (h : goodI s a ws mode = true) (hs : s.length ≤ 60) : sizeR24 s a ws mode = sizeS s a ws (decide (mode ≠ 0)) (decide (mode = 2)) := by
 obtain ⟨hf, hb⟩ := good_fit h hs
 have hg : ∀ x ∈ s, Gd x := by
  simp only [goodI, Bool.and_eq_true, decide_eq_true_eq, List.all_eq_true] at h
  exact h.1.1.2
 have u1 := alone_up hf hb (decide (mode ≠ 0))
 unfold sizeR24 sizeS
 rw [now_is hf hg, spans_is (s.length - 1) 2 _ (hf.of u1.1) u1.bd, ← spanL_range]
 have hl := spansS_len a (decide (mode ≠ 0)) (decide (mode = 2)) (grp s ws) (spanL s ws) (aloneS s a ws (decide (mode ≠ 0)))
 rw [turns3_fr (by rw [hl, u1.1]; exact fun w hw => hf.hi w (List.mem_filter.1 hw).1)]
 rfl
end Go.Proofs.YtbebnjiolaomdaaGreat.T

/- What something wants at least is there, whichever step gives it. Plain laws; no condition beyond what each states. -/
import Derived.Test.YtbebnjiolaomdaaT
import Derived.Test.YtbebnjiolaomdaaKen
set_option linter.unusedVariables false
set_option linter.unusedSimpArgs false
set_option maxRecDepth 100000
namespace Go.Proofs.Ytbebnjiolaomdaa.T
open Go Go.Proofs.Ytbebnjiolaomdaa.Sx Go.Proofs.Ytbebnjiolaomdaa.M
def growW (s : List Sz) (w : Wn) : Prop := ∃ i, w.fm.toNat ≤ i ∧ i < w.to.toNat ∧ of1 (atS s i) = true
theorem growW_up {s s' : List Sz} (h : Up s s') {w : Wn} (hi : InW s.length w) : growW s w → growW s' w := by
 rintro ⟨i, h1, h2, h3⟩
 obtain ⟨i0, i1, i2⟩ := hi
 have hi1 : i < s.length := by omega
 have hi2 : i < s'.length := by rw [h.1]; exact hi1
 refine ⟨i, h1, h2, ?_⟩
 rw [atS_lt hi1] at h3
 rw [atS_lt hi2]
 have := (h.2 i hi1 hi2).1
 simpa [of1, this] using h3
theorem wanted1_least (s : List Sz) (a : List Int) (f : Bool) (w : Wn) : w.least ≤ wanted1 s a f w := by
 unfold wanted1 limI'
 split
 · have key : ∀ (l : List Sz) (most : Int), w.least ≤ limG w w.mn l most := by
    intro l
    induction l with
    | nil => intro most; simp only [limG]; omega
    | cons x l ih => intro most; simp only [limG]; split
                     · omega
                     · exact ih _
   exact key _ _
 · exact Int.le_refl _
section
variable {s : List Sz} {a : List Int} {ws : List Wn}
theorem rd1_enough (h : Fit s a ws) (hb : ∀ x ∈ s, Bd x) (f : Bool) {w : Wn} (hw : w ∈ ws) (hg : growW s w) : w.least ≤ baseW (rd1 s a ws f) w + gapsI a w := by
 have h1 := give_enough h hb (wanted1_in h s a f) (of := fun i => of1 (atS s i)) (far := fun i => looseB (atS s i)) hw hg
 have h2 := wanted1_least s a f w
 have h3 : baseW (rd1 s a ws f) w = _ := addS_sum hb (by rw [giveS_len]; simp) (giveB_gv h hb (wanted1_in h s a f) (fun i => of1 (atS s i)) (shareF_in (roomB s) fun i => looseB (atS s i))) w
 rw [h3]
 omega
theorem several_from (h : Fit s a ws) (hb : ∀ x ∈ s, Bd x) (f m : Bool) : Up (rd1 s a ws f) (severalS s a ws f m) := by
 have u1 := rd1_up h hb f
 have h1 := h.of u1.1
 have u2 := rd2_up h1 u1.bd
 have u3 := rd3_up (h1.of u2.1) u2.bd m
 have u123 := (u2.trans u3).trans (raise_up u3.bd)
 have e : (rd3 (rd2 (rd1 s a ws f) a ws) a ws m).map raise1 = bases3 s a ws f m := rfl
 rw [e] at u123
 have u := bases3_up h hb f m
 have u4 := lm4_up (h.of u.1) u.bd
 have u5 := lm5_up ((h.of u.1).of u4.1) u4.bd (hadS (bases3 s a ws f m) (fun i => looseB (atS (bases3 s a ws f m) i)) ws (List.replicate s.length false))
 exact ((u123.trans u4).trans u5).trans (fit_up u5.bd)
end
theorem spans_enough {a : List Int} {ws : List Wn} (f m : Bool) (g : Int → List Wn) (hg : ∀ n, ∀ w ∈ g n, w ∈ ws) {w : Wn} {n : Int} (hw : w ∈ g n) : ∀ (l : List Int) {s : List Sz}, n ∈ l → Fit s a ws → (∀ x ∈ s, Bd x) → growW s w → w.least ≤ baseW (spansS a f m g l s) w + gapsI a w
 | [], s, hn, _, _, _ => by simp at hn
 | k :: l, s, hn, h, hb, hgr => by
  have u := several_up (h.sub (hg k)) hb f m
  have hin : InW s.length w := h.hi w (hg n w hw)
  simp only [spansS]
  by_cases hk : n = k
  · subst hk
    have e1 := rd1_enough (h.sub (hg n)) hb f hw hgr
    have e2 := baseW_up (several_from (h.sub (hg n)) hb f m) w
    have e3 := baseW_up (spans_up f m g hg l (h.of u.1) u.bd) w
    omega
  · have hn' : n ∈ l := by
     rcases List.mem_cons.1 hn with h' | h'
     · exact absurd h' hk
     · exact h'
    exact spans_enough f m g hg hw l hn' (h.of u.1) u.bd (growW_up u hin hgr)
theorem alone_enough {s : List Sz} {a : List Int} {ws : List Wn} (h : Fit s a ws) (hb : ∀ x ∈ s, Bd x) (f : Bool) {w : Wn} (hw : w ∈ ws) (h1 : w.to = w.fm + 1) (hgd : Gd (atS s w.fm.toNat)) (hg : growW s w) (hf : ¬ (atS s w.fm.toNat).mx = 5) (ho : w.least ≤ w.mn ∧ w.mn ≤ w.mx) : w.least ≤ baseW (aloneS s a ws f) w + gapsI a w := by
 obtain ⟨i0, i1, i2⟩ := h.hi w hw
 obtain ⟨j, hj1, hj2, hj3⟩ := hg
 have hj : j = w.fm.toNat := by omega
 subst hj
 have hi : w.fm.toNat < s.length := by omega
 have hgp := (gaps_in h w).1
 have l1 := topS_len s a f ws (List.replicate s.length ⟨0, 0, 0⟩, List.replicate s.length false)
 have hm := topS_max (s := s) (a := a) (f := f) ws (List.replicate s.length ⟨0, 0, 0⟩, List.replicate s.length false) w.fm.toNat (fun v hv => (h.hi v hv).1) (by simpa using hi) (by simpa using hi) (by rw [l1.1, List.length_replicate]; exact hi) (by rw [l1.2, List.length_replicate]; exact hi)
 simp only [List.length_replicate] at l1
 have e : (aloneS s a ws f)[w.fm.toNat]'(by rw [aloneS_len]; exact hi) = _ := alS_at s _ _ l1.1 l1.2 w.fm.toNat hi
 have hal : alB w w.fm.toNat = true := by unfold alB; exact decide_eq_true ⟨by omega, by omega⟩
 have hmem : w ∈ ws.filter (alB · w.fm.toNat) := List.mem_filter.2 ⟨hw, hal⟩
 have hany : ws.any (alB · w.fm.toNat) = true := List.any_eq_true.2 ⟨w, hw, hal⟩
 obtain ⟨hm1, hm2⟩ := hm
 rw [hany, Bool.or_true] at hm2
 rw [hm1, hm2] at e
 have ha := (fmax_char (wanted1 s a f) (ws.filter (alB · w.fm.toNat)) ((List.replicate s.length (⟨0, 0, 0⟩ : Tp))[w.fm.toNat]'(by simpa using hi)).a).2.1 w hmem
 have hb2 := (fmax_char (fun w => w.mn) (ws.filter (alB · w.fm.toNat)) ((List.replicate s.length (⟨0, 0, 0⟩ : Tp))[w.fm.toNat]'(by simpa using hi)).b).2.1 w hmem
 have hc := (fmax_char (fun w => w.mx) (ws.filter (alB · w.fm.toNat)) ((List.replicate s.length (⟨0, 0, 0⟩ : Tp))[w.fm.toNat]'(by simpa using hi)).c).2.1 w hmem
 generalize fmax (wanted1 s a f) (ws.filter (alB · w.fm.toNat)) ((List.replicate s.length (⟨0, 0, 0⟩ : Tp))[w.fm.toNat]'(by simpa using hi)).a = A at *
 generalize fmax (fun w => w.mn) (ws.filter (alB · w.fm.toNat)) ((List.replicate s.length (⟨0, 0, 0⟩ : Tp))[w.fm.toNat]'(by simpa using hi)).b = Bv at *
 generalize fmax (fun w => w.mx) (ws.filter (alB · w.fm.toNat)) ((List.replicate s.length (⟨0, 0, 0⟩ : Tp))[w.fm.toNat]'(by simpa using hi)).c = Cv at *
 have hle := wanted1_least s a f w
 rw [atS_lt hi] at hgd hf hj3
 have hbw : baseW (aloneS s a ws f) w = ((aloneS s a ws f)[w.fm.toNat]'(by rw [aloneS_len]; exact hi)).base := by
  unfold baseW
  have hl : (aloneS s a ws f).length = s.length := aloneS_len s a ws f
  rw [show w.to.toNat - w.fm.toNat = 0 + 1 by omega, List.drop_eq_getElem_cons (by omega), List.take_succ_cons]
  simp [sumZ, ownB]
 rw [hbw, e]
 unfold alone1
 rw [if_neg (by simp [hf])]
 show _ ≤ (if s[w.fm.toNat].mn = 2 then _ else if s[w.fm.toNat].mn = 3 then _ else if s[w.fm.toNat].mn = 4 then _ else _) + _
 simp only [of1, decide_eq_true_eq] at hj3
 unfold Gd at hgd
 by_cases c2 : s[w.fm.toNat].mn = 2
 · rw [if_pos c2]; simp only; omega
 · rw [if_neg c2]
   by_cases c3 : s[w.fm.toNat].mn = 3
   · rw [if_pos c3]; simp only at hb2 ⊢; omega
   · rw [if_neg c3, if_pos (by omega)]; simp only at hc ⊢; omega
theorem size_enough {s : List Sz} {a : List Int} {ws : List Wn} {mode : Int} (hgood : goodI s a ws mode = true) (hs : s.length ≤ 60) (f m : Bool) {w : Wn} (hw : w ∈ ws) (hg : growW s w) (hf : flexW s w = false) (ho : w.least ≤ w.mn ∧ w.mn ≤ w.mx) : w.least ≤ baseW (sizeS s a ws f m) w + gapsI a w := by
 obtain ⟨h, hb⟩ := good_fit hgood hs
 obtain ⟨i0, i1, i2⟩ := h.hi w hw
 have u1 := alone_up h hb f
 have u2 := spans_up f m (grp s ws) (fun n w hw => (grp_in hw).1) (spanL s ws) (h.of u1.1) u1.bd
 have u3 := flex_up ((h.sub (ws' := ws.filter (flexW s)) (fun w hw => (List.mem_filter.1 hw).1)).of (by rw [u2.1, u1.1])) u2.bd f m
 have e3 := baseW_up u3 w
 by_cases h1 : w.to = w.fm + 1
 · have hi : w.fm.toNat < s.length := by omega
   have hgd : Gd (atS s w.fm.toNat) := by
    rw [atS_lt hi]
    simp only [goodI, Bool.and_eq_true, decide_eq_true_eq, List.all_eq_true] at hgood
    exact hgood.1.1.2 _ (List.getElem_mem hi)
   have hfr : ¬ (atS s w.fm.toNat).mx = 5 := by
    intro hh
    have hm := cut_mem (s := s) (f := w.fm.toNat) (t := w.to.toNat) (Nat.le_refl _) (by omega) hi
    have : flexW s w = true := by
     unfold flexW
     rw [List.any_eq_true]
     exact ⟨_, hm, by simp [isFr, hh]⟩
    rw [this] at hf
    cases hf
   have e1 := alone_enough h hb f hw h1 hgd hg hfr ho
   have e2 := baseW_up u2 w
   unfold sizeS
   omega
 · have hin : w ∈ grp s ws (w.to - w.fm) := by
    unfold grp
    rw [List.mem_filter]
    refine ⟨hw, ?_⟩
    have c1 : decide (1 < w.to - w.fm) = true := decide_eq_true (by omega)
    simp [hf, c1]
   have hsp : (w.to - w.fm) ∈ spanL s ws := (mem_spanL h.hi _).2 (List.ne_nil_of_mem hin)
   have e1 := spans_enough f m (grp s ws) (fun n w hw => (grp_in hw).1) hin (spanL s ws) hsp (h.of u1.1) u1.bd (growW_up u1 (h.hi w hw) hg)
   unfold sizeS
   omega
end Go.Proofs.Ytbebnjiolaomdaa.T

/- No base is less than it was, no limit is without end, kinds stay. Plain laws; no condition beyond what each states. -/
import Derived.Test.YtbebnjiolaomdaaT
import Derived.Test.YtbebnjiolaomdaaKinv
set_option linter.unusedVariables false
set_option linter.unusedSimpArgs false
set_option maxRecDepth 100000
namespace Go.Proofs.Ytbebnjiolaomdaa.T
open Go Go.Proofs.Ytbebnjiolaomdaa.Sx Go.Proofs.Ytbebnjiolaomdaa.M
def Up1 (x y : Sz) : Prop := y.mn = x.mn ∧ y.mx = x.mx ∧ y.fr = x.fr ∧ y.fit = x.fit ∧ y.cap = x.cap ∧ x.base ≤ y.base ∧ Bd y
def Up (s s' : List Sz) : Prop := s'.length = s.length ∧ ∀ i (h : i < s.length) (h' : i < s'.length), Up1 s[i] s'[i]
theorem Up.trans {s s' s'' : List Sz} (h : Up s s') (h' : Up s' s'') : Up s s'' := by
 refine ⟨by rw [h'.1, h.1], fun i hi hi' => ?_⟩
 have h1 := h.2 i hi (by rw [h.1]; exact hi)
 have h2 := h'.2 i (by rw [h.1]; exact hi) hi'
 unfold Up1 at *
 refine ⟨by rw [h2.1, h1.1], by rw [h2.2.1, h1.2.1], by rw [h2.2.2.1, h1.2.2.1], by rw [h2.2.2.2.1, h1.2.2.2.1], by rw [h2.2.2.2.2.1, h1.2.2.2.2.1], by omega, h2.2.2.2.2.2.2⟩
theorem Up.bd {s s' : List Sz} (h : Up s s') : ∀ x ∈ s', Bd x := by
 intro x hx
 obtain ⟨i, hi, rfl⟩ := List.mem_iff_getElem.1 hx
 exact (h.2 i (by rw [← h.1]; exact hi) hi).2.2.2.2.2.2
theorem up_map {s : List Sz} {f : Sz → Sz} (h : ∀ x ∈ s, Up1 x (f x)) : Up s (s.map f) := ⟨by simp, fun i hi hi' => by rw [List.getElem_map]; exact h _ (List.getElem_mem hi)⟩
theorem Up.rfl {s : List Sz} (h : ∀ x ∈ s, Bd x) : Up s s := ⟨_root_.rfl, fun i hi hi' => ⟨_root_.rfl, _root_.rfl, _root_.rfl, _root_.rfl, _root_.rfl, Int.le_refl _, h _ (List.getElem_mem hi)⟩⟩
theorem add_up {s : List Sz} {l : List Int} (hb : ∀ x ∈ s, Bd x) (hl : l.length = s.length) (hg : Gv s ownB l) : Up s (addS s l) := by
 refine ⟨addS_len s l, fun i hi hi' => ?_⟩
 have h1 := hb _ (List.getElem_mem hi)
 have h2 := hg i (by omega)
 rw [addS_at s l hl i hi]
 rw [atS_lt hi] at h2
 unfold ownB at h2
 unfold Bd at h1
 have hw : IntKind.i64.wrap (s[i].base + l[i]) = s[i].base + l[i] := wrap_in (by omega) (by omega)
 refine ⟨rfl, rfl, rfl, rfl, rfl, ?_, ?_⟩
 · show s[i].base ≤ IntKind.i64.wrap (s[i].base + l[i])
   rw [hw]; omega
 · refine ⟨?_, ?_, h1.2.2.1, h1.2.2.2.1, h1.2.2.2.2.1, h1.2.2.2.2.2⟩
   · show 0 ≤ IntKind.i64.wrap (s[i].base + l[i])
     rw [hw]; omega
   · show IntKind.i64.wrap (s[i].base + l[i]) < _
     rw [hw]; omega
theorem limA_up {s : List Sz} {h : List Bool} {l : List Int} (hb : ∀ x ∈ s, Bd x) (hh : h.length = s.length) (hl : l.length = s.length) (hg : Gv s ownL l) : Up s (limAS s h l) := by
 refine ⟨limAS_len s h l, fun i hi hi' => ?_⟩
 have h1 := hb _ (List.getElem_mem hi)
 have h2 := hg i (by omega)
 rw [limAS_at s h l hh hl i hi]
 rw [atS_lt hi] at h2
 unfold Bd at h1
 unfold limA1
 split
 · have ho : 0 ≤ ownL s[i] ∧ ownL s[i] ≤ 1125899906842624 := by unfold ownL; split <;> omega
   have hw : IntKind.i64.wrap (ownL s[i] + l[i]) = ownL s[i] + l[i] := wrap_in (by omega) (by omega)
   refine ⟨rfl, rfl, rfl, rfl, rfl, Int.le_refl _, h1.1, h1.2.1, ?_, ?_, h1.2.2.2.2.1, h1.2.2.2.2.2⟩
   · show 0 ≤ IntKind.i64.wrap (ownL s[i] + l[i])
     rw [hw]; omega
   · show IntKind.i64.wrap (ownL s[i] + l[i]) ≤ _
     rw [hw]; omega
 · exact ⟨rfl, rfl, rfl, rfl, rfl, Int.le_refl _, h1⟩
theorem raise_up {s : List Sz} (hb : ∀ x ∈ s, Bd x) : Up s (s.map raise1) := up_map fun x hx => by
 have h1 := hb x hx
 unfold Bd at h1
 refine ⟨rfl, rfl, rfl, rfl, rfl, Int.le_refl _, h1.1, h1.2.1, ?_, ?_, h1.2.2.2.2.1, h1.2.2.2.2.2⟩
 · show 0 ≤ max x.lim x.base; omega
 · show max x.lim x.base ≤ _; omega
theorem fit_up {s : List Sz} (hb : ∀ x ∈ s, Bd x) : Up s (s.map fit1) := up_map fun x hx => by
 have h1 := hb x hx
 unfold Bd at h1
 unfold fit1
 split
 · refine ⟨rfl, rfl, rfl, rfl, rfl, Int.le_refl _, h1.1, h1.2.1, ?_, ?_, h1.2.2.2.2.1, h1.2.2.2.2.2⟩
   · show 0 ≤ min x.lim (limit x)
     unfold limit
     split <;> omega
   · show min x.lim (limit x) ≤ _; omega
 · exact ⟨rfl, rfl, rfl, rfl, rfl, Int.le_refl _, h1⟩
theorem end_up {s : List Sz} (hb : ∀ x ∈ s, Bd x) : Up s (s.map end1) := up_map fun x hx => by
 have h1 := hb x hx
 unfold Bd at h1
 unfold end1
 split
 · refine ⟨rfl, rfl, rfl, rfl, rfl, Int.le_refl _, h1.1, h1.2.1, h1.1, ?_, h1.2.2.2.2.1, h1.2.2.2.2.2⟩
   show x.base ≤ _; omega
 · exact ⟨rfl, rfl, rfl, rfl, rfl, Int.le_refl _, h1⟩
theorem ownB_in {s : List Sz} (hb : ∀ x ∈ s, Bd x) : ∀ x ∈ s, 0 ≤ ownB x ∧ ownB x ≤ 1125899906842624 := fun x hx => by have := hb x hx; unfold Bd at this; unfold ownB; omega
theorem ownL_in {s : List Sz} (hb : ∀ x ∈ s, Bd x) : ∀ x ∈ s, 0 ≤ ownL x ∧ ownL x ≤ 1125899906842624 := fun x hx => by have := hb x hx; unfold Bd at this; unfold ownL; split <;> omega
theorem giveB_gv {s : List Sz} {a : List Int} {ws : List Wn} (h : Fit s a ws) (hb : ∀ x ∈ s, Bd x) {wanted : Wn → Int} (hwt : WnIn ws wanted) (of : Nat → Bool) {share : Int → List Nat → List Int} (hsh : ShIn share) : Gv s ownB (giveS s a wanted ownB of share ws (List.replicate s.length 0)) :=
 giveS_gv h (ownB_in hb) hwt hsh ws _ (fun w hw => hw) (gv_zero s ownB _)
theorem giveL_gv {s : List Sz} {a : List Int} {ws : List Wn} (h : Fit s a ws) (hb : ∀ x ∈ s, Bd x) {wanted : Wn → Int} (hwt : WnIn ws wanted) (of : Nat → Bool) {share : Int → List Nat → List Int} (hsh : ShIn share) : Gv s ownL (giveS s a wanted ownL of share ws (List.replicate s.length 0)) :=
 giveS_gv h (ownL_in hb) hwt hsh ws _ (fun w hw => hw) (gv_zero s ownL _)
theorem rd1_up {s : List Sz} {a : List Int} {ws : List Wn} (h : Fit s a ws) (hb : ∀ x ∈ s, Bd x) (f : Bool) : Up s (rd1 s a ws f) := add_up hb (by rw [giveS_len]; simp) (giveB_gv h hb (wanted1_in h s a f) _ (shareF_in _ _))
theorem rd2_up {s : List Sz} {a : List Int} {ws : List Wn} (h : Fit s a ws) (hb : ∀ x ∈ s, Bd x) : Up s (rd2 s a ws) := add_up hb (by rw [giveS_len]; simp) (giveB_gv h hb (mn_in h) _ (shareF_in _ _))
theorem rd3_up {s : List Sz} {a : List Int} {ws : List Wn} (h : Fit s a ws) (hb : ∀ x ∈ s, Bd x) (m : Bool) : Up s (rd3 s a ws m) := add_up hb (by rw [giveS_len]; simp) (giveB_gv h hb (wanted3_in h s a m) _ (shareF_in _ _))
theorem fr1_up {s : List Sz} {a : List Int} {ws : List Wn} (h : Fit s a ws) (hb : ∀ x ∈ s, Bd x) (f : Bool) : Up s (fr1 s a ws f) := add_up hb (by rw [giveS_len]; simp) (giveB_gv h hb (wanted1_in h s a f) _ (shareB_in s))
theorem fr2_up {s : List Sz} {a : List Int} {ws : List Wn} (h : Fit s a ws) (hb : ∀ x ∈ s, Bd x) : Up s (fr2 s a ws) := add_up hb (by rw [giveS_len]; simp) (giveB_gv h hb (mn_in h) _ (shareB_in s))
theorem fr3_up {s : List Sz} {a : List Int} {ws : List Wn} (h : Fit s a ws) (hb : ∀ x ∈ s, Bd x) (m : Bool) : Up s (fr3 s a ws m) := add_up hb (by rw [giveS_len]; simp) (giveB_gv h hb (wanted3_in h s a m) _ (shareB_in s))
theorem lm4_up {s : List Sz} {a : List Int} {ws : List Wn} (h : Fit s a ws) (hb : ∀ x ∈ s, Bd x) : Up s (lm4 s a ws) := limA_up hb (by rw [hadS_len]; simp) (by rw [giveS_len]; simp) (giveL_gv h hb (mn_in h) _ (shareF_in _ _))
theorem lm5_up {s : List Sz} {a : List Int} {ws : List Wn} (h : Fit s a ws) (hb : ∀ x ∈ s, Bd x) (g : List Bool) : Up s (lm5 s a ws g) := limA_up hb (by rw [hadS_len]; simp) (by rw [giveS_len]; simp) (giveL_gv h hb (mx_in h) _ (shareF_in _ _))
theorem r3_up {s : List Sz} {a : List Int} {ws : List Wn} (h : Fit s a ws) (hb : ∀ x ∈ s, Bd x) (f m : Bool) : Up s (rd3 (rd2 (rd1 s a ws f) a ws) a ws m) := by
 have u1 := rd1_up h hb f
 have u2 := rd2_up (h.of u1.1) u1.bd
 have u3 := rd3_up ((h.of u1.1).of u2.1) u2.bd m
 exact (u1.trans u2).trans u3
theorem f3_up {s : List Sz} {a : List Int} {ws : List Wn} (h : Fit s a ws) (hb : ∀ x ∈ s, Bd x) (f m : Bool) : Up s (fr3 (fr2 (fr1 s a ws f) a ws) a ws m) := by
 have u1 := fr1_up h hb f
 have u2 := fr2_up (h.of u1.1) u1.bd
 have u3 := fr3_up ((h.of u1.1).of u2.1) u2.bd m
 exact (u1.trans u2).trans u3
theorem bases3_up {s : List Sz} {a : List Int} {ws : List Wn} (h : Fit s a ws) (hb : ∀ x ∈ s, Bd x) (f m : Bool) : Up s (bases3 s a ws f m) := (r3_up h hb f m).trans (raise_up (r3_up h hb f m).bd)
theorem several_up {s : List Sz} {a : List Int} {ws : List Wn} (h : Fit s a ws) (hb : ∀ x ∈ s, Bd x) (f m : Bool) : Up s (severalS s a ws f m) := by
 have u1 := bases3_up h hb f m
 have u2 := lm4_up (h.of u1.1) u1.bd
 have u3 := lm5_up ((h.of u1.1).of u2.1) u2.bd (hadS (bases3 s a ws f m) (fun i => looseB (atS (bases3 s a ws f m) i)) ws (List.replicate s.length false))
 exact ((u1.trans u2).trans u3).trans (fit_up u3.bd)
theorem flex_up {s : List Sz} {a : List Int} {ws : List Wn} (h : Fit s a ws) (hb : ∀ x ∈ s, Bd x) (f m : Bool) : Up s (flexS s a ws f m) := by
 have u1 := f3_up h hb f m
 have u2 := raise_up u1.bd
 exact (u1.trans u2).trans (end_up u2.bd)
theorem spans_up {a : List Int} {ws : List Wn} (f m : Bool) (g : Int → List Wn) (hg : ∀ n, ∀ w ∈ g n, w ∈ ws) : ∀ (l : List Int) {s : List Sz}, Fit s a ws → (∀ x ∈ s, Bd x) → Up s (spansS a f m g l s)
 | [], s, h, hb => Up.rfl hb
 | n :: l, s, h, hb => by
  have u := several_up (h.sub (hg n)) hb f m
  exact u.trans (spans_up f m g hg l (h.of u.1) u.bd)
def TpIn (t : Tp) : Prop := (0 ≤ t.a ∧ t.a ≤ 68719476736) ∧ (0 ≤ t.b ∧ t.b ≤ 68719476736) ∧ (0 ≤ t.c ∧ t.c ≤ 68719476736)
theorem topS_in {s : List Sz} {a : List Int} {ws0 : List Wn} (h : Fit s a ws0) (f : Bool) : ∀ (ws : List Wn) (ts : List Tp × List Bool), (∀ w ∈ ws, w ∈ ws0) → (∀ t ∈ ts.1, TpIn t) → ∀ t ∈ (topS s a f ws ts).1, TpIn t
 | [], ts, _, ht => ht
 | w :: ws, ts, hsub, ht => by
  simp only [topS]
  refine topS_in h f ws _ (fun v hv => hsub v (by simp [hv])) ?_
  unfold topStep
  split
  · intro t hm
    obtain ⟨i, hi, rfl⟩ := List.mem_iff_getElem.1 hm
    have hi' : i < ts.1.length := by simpa using hi
    have h0 := ht _ (List.getElem_mem hi')
    obtain ⟨h1, h2, h3⟩ := h.hw w (hsub w (by simp))
    have h4 := wanted1_in h s a f w (hsub w (by simp))
    simp only [List.getElem_modify]
    split
    · unfold TpIn at *
      simp only
      omega
    · exact h0
  · exact ht
theorem alone_up1 {x : Sz} {t : Tp} {met : Bool} (hx : Bd x) (ht : TpIn t) : Up1 x (alone1 x t met) := by
 unfold alone1
 split
 · exact ⟨rfl, rfl, rfl, rfl, rfl, Int.le_refl _, hx⟩
 · unfold Bd at hx
   unfold TpIn at ht
   have hb : x.base ≤ (if x.mn = 2 then max x.base t.a else if x.mn = 3 then max x.base t.b else if x.mn = 4 then max x.base t.c else x.base) ∧ (if x.mn = 2 then max x.base t.a else if x.mn = 3 then max x.base t.b else if x.mn = 4 then max x.base t.c else x.base) < 1125899906842624 := by
    split
    · omega
    · split
      · omega
      · split <;> omega
   have hl : 0 ≤ (if x.fit = true then min t.c x.cap else if x.mx = 3 then t.b else if contentB x = true then t.c else x.lim) ∧ (if x.fit = true then min t.c x.cap else if x.mx = 3 then t.b else if contentB x = true then t.c else x.lim) ≤ 1125899906842624 := by
    split
    · omega
    · split
      · omega
      · split <;> omega
   generalize (if x.mn = 2 then max x.base t.a else if x.mn = 3 then max x.base t.b else if x.mn = 4 then max x.base t.c else x.base) = b at *
   generalize (if x.fit = true then min t.c x.cap else if x.mx = 3 then t.b else if contentB x = true then t.c else x.lim) = l at *
   refine ⟨rfl, rfl, rfl, rfl, rfl, hb.1, ?_, hb.2, ?_, ?_, hx.2.2.2.2.1, hx.2.2.2.2.2⟩
   · show 0 ≤ b; omega
   · show 0 ≤ max l b; omega
   · show max l b ≤ _; omega
theorem alone_up {s : List Sz} {a : List Int} {ws : List Wn} (h : Fit s a ws) (hb : ∀ x ∈ s, Bd x) (f : Bool) : Up s (aloneS s a ws f) := by
 refine ⟨aloneS_len s a ws f, fun i hi hi' => ?_⟩
 have hl := topS_len s a f ws (List.replicate s.length ⟨0, 0, 0⟩, List.replicate s.length false)
 simp only [List.length_replicate] at hl
 have e : (aloneS s a ws f)[i] = _ := alS_at s _ _ hl.1 hl.2 i hi
 rw [e]
 refine alone_up1 (hb _ (List.getElem_mem hi)) (topS_in h f ws _ (fun w hw => hw) ?_ _ (List.getElem_mem _))
 intro t ht
 have := List.eq_of_mem_replicate ht
 subst this
 unfold TpIn
 simp
theorem sizeS_up {s : List Sz} {a : List Int} {ws : List Wn} (h : Fit s a ws) (hb : ∀ x ∈ s, Bd x) (f m : Bool) : Up s (sizeS s a ws f m) := by
 have u1 := alone_up h hb f
 have u2 := spans_up f m (grp s ws) (fun n w hw => (grp_in hw).1) (spanL s ws) (h.of u1.1) u1.bd
 have u3 := flex_up ((h.sub (ws' := ws.filter (flexW s)) (fun w hw => (List.mem_filter.1 hw).1)).of (by rw [u2.1, u1.1])) u2.bd f m
 exact (u1.trans u2).trans u3
theorem good_fit {s : List Sz} {a : List Int} {ws : List Wn} {mode : Int} (h : goodI s a ws mode = true) (hs : s.length ≤ 60) : Fit s a ws ∧ ∀ x ∈ s, Bd x := by
 simp only [goodI, Bool.and_eq_true, decide_eq_true_eq, List.all_eq_true] at h
 have hwi : ∀ x, wi x = true → 0 ≤ x ∧ x ≤ 68719476736 := fun x hx => by simpa [wi] using hx
 refine ⟨⟨hs, h.1.1.1.1.1.1, fun x hx => hwi x (h.1.2 x hx), fun w hw => okW_in (h.2 w hw), fun w hw => ?_⟩, fun x hx => ?_⟩
 · have := h.2 w hw
   simp only [okW, Bool.and_eq_true] at this
   exact ⟨hwi _ this.1.1.2, hwi _ this.1.2, hwi _ this.2⟩
 · have := h.1.1.2 x hx
   unfold Gd at this
   unfold Bd
   omega
end Go.Proofs.Ytbebnjiolaomdaa.T

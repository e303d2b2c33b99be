/- What is wanted, told in another order, or twice, comes to the same. Plain laws; no condition beyond what each states. -/
import Derived.Test.YtbebnjiolaomdaaT
import Derived.Test.YtbebnjiolaomdaaKbd
set_option linter.unusedVariables false
set_option linter.unusedSimpArgs false
set_option maxRecDepth 100000
namespace Go.Proofs.Ytbebnjiolaomdaa.T
open Go Go.Proofs.Ytbebnjiolaomdaa.Sx Go.Proofs.Ytbebnjiolaomdaa.M
def fmax (f : Wn → Int) : List Wn → Int → Int
 | [], m => m
 | w :: ws, m => fmax f ws (max m (f w))
theorem fmax_char (f : Wn → Int) : ∀ (ws : List Wn) (m : Int), m ≤ fmax f ws m ∧ (∀ w ∈ ws, f w ≤ fmax f ws m) ∧ (fmax f ws m = m ∨ ∃ w ∈ ws, fmax f ws m = f w)
 | [], m => ⟨Int.le_refl _, by simp, Or.inl rfl⟩
 | w :: ws, m => by
  obtain ⟨h1, h2, h3⟩ := fmax_char f ws (max m (f w))
  simp only [fmax]
  refine ⟨by omega, fun v hv => ?_, ?_⟩
  · rcases List.mem_cons.1 hv with rfl | hv
    · omega
    · exact h2 v hv
  · rcases h3 with h3 | ⟨v, hv, h3⟩
    · by_cases hc : m ≤ f w
      · exact Or.inr ⟨w, by simp, by omega⟩
      · exact Or.inl (by omega)
    · exact Or.inr ⟨v, by simp [hv], h3⟩
def Same (ws ws' : List Wn) : Prop := ∀ w, w ∈ ws ↔ w ∈ ws'
theorem fmax_same (f : Wn → Int) {ws ws' : List Wn} (h : Same ws ws') (m : Int) : fmax f ws m = fmax f ws' m := by
 obtain ⟨a1, a2, a3⟩ := fmax_char f ws m
 obtain ⟨b1, b2, b3⟩ := fmax_char f ws' m
 have h1 : fmax f ws m ≤ fmax f ws' m := by
  rcases a3 with a3 | ⟨w, hw, a3⟩
  · omega
  · have := b2 w ((h w).1 hw); omega
 have h2 : fmax f ws' m ≤ fmax f ws m := by
  rcases b3 with b3 | ⟨w, hw, b3⟩
  · omega
  · have := a2 w ((h w).2 hw); omega
 omega
theorem Same.filter {ws ws' : List Wn} (h : Same ws ws') (p : Wn → Bool) : Same (ws.filter p) (ws'.filter p) := fun w => by
 rw [List.mem_filter, List.mem_filter, h w]
theorem any_same {ws ws' : List Wn} (h : Same ws ws') (p : Wn → Bool) : ws.any p = ws'.any p := by
 rw [Bool.eq_iff_iff, List.any_eq_true, List.any_eq_true]
 constructor
 · rintro ⟨w, hw, hp⟩; exact ⟨w, (h w).1 hw, hp⟩
 · rintro ⟨w, hw, hp⟩; exact ⟨w, (h w).2 hw, hp⟩
theorem tU_not : ∀ (who : List Nat) (xs out : List Int) (i : Nat), i ∉ who → (outU who xs out).getD i 0 = out.getD i 0
 | [], _, out, i, _ => by cases out <;> rfl
 | _ :: _, [], out, i, _ => rfl
 | j :: who, x :: xs, out, i, h => by
  simp only [outU]
  rw [tU_not who xs _ i (fun hh => h (by simp [hh]))]
  have : ¬ j = i := fun hh => h (by simp [hh])
  simp [List.getD_eq_getElem?_getD, List.getElem?_set, this]
theorem tU_nodup (of : Nat → Bool) : ∀ (c i : Nat), (whoU of c i).Nodup
 | 0, i => by simp [whoU]
 | c + 1, i => by
  have ih := tU_nodup of c (i + 1)
  simp only [whoU]
  split
  · rw [List.nodup_cons]
    refine ⟨fun hh => ?_, ih⟩
    have := whoU_in of c (i + 1) i hh
    omega
  · exact ih
theorem getD_nn {out : List Int} (h : ∀ x ∈ out, 0 ≤ x) (i : Nat) : 0 ≤ out.getD i 0 := by
 by_cases hj : i < out.length
 · have e : out.getD i 0 = out[i] := by simp [List.getD_eq_getElem?_getD, hj]
   rw [e]; exact h _ (List.getElem_mem hj)
 · simp [List.getD_eq_getElem?_getD, hj]
theorem set_nn {out : List Int} (h : ∀ x ∈ out, 0 ≤ x) (j : Nat) (x : Int) : ∀ y ∈ out.set j (max (out.getD j 0) x), 0 ≤ y := by
 intro y hy
 rcases List.mem_or_eq_of_mem_set hy with hy | rfl
 · exact h y hy
 · have := getD_nn h j; omega
theorem tU_max : ∀ (who : List Nat) (xs out z : List Int) (i : Nat), who.Nodup → (∀ x ∈ out, 0 ≤ x) → z.length = out.length → (∀ j ∈ who, z.getD j 0 = 0) → i < out.length → i ∈ who →
    (outU who xs out).getD i 0 = max (out.getD i 0) ((outU who xs z).getD i 0)
 | [], _, _, _, i, _, _, _, _, _, h => by simp at h
 | j :: who, [], out, z, i, hn, h0, hl, hz, hi, hm => by
  simp only [outU]
  have := getD_nn h0 i
  rw [hz i hm]
  omega
 | j :: who, x :: xs, out, z, i, hn, h0, hl, hz, hi, hm => by
  rw [List.nodup_cons] at hn
  simp only [outU]
  by_cases hij : i = j
  · subst hij
    rw [tU_not who xs _ i hn.1, tU_not who xs _ i hn.1]
    have e1 : ∀ (l : List Int) (y : Int), i < l.length → (l.set i y).getD i 0 = y := fun l y hl => by simp [List.getD_eq_getElem?_getD, List.getElem?_set, hl]
    rw [e1 out _ hi, e1 z _ (by omega), hz i (by simp)]
    have := getD_nn h0 i
    omega
  · have hi' : i ∈ who := by
     rcases List.mem_cons.1 hm with h | h
     · exact absurd h hij
     · exact h
    rw [tU_max who xs _ (z.set j (max (z.getD j 0) x)) i hn.2 (set_nn h0 j x) (by simp [hl]) (fun k hk => ?_) (by simpa using hi) hi']
    · have : ¬ j = i := fun hh => hij hh.symm
      simp [List.getD_eq_getElem?_getD, List.getElem?_set, this]
    · have hkj : ¬ j = k := fun hh => hn.1 (by rw [hh]; exact hk)
      have := hz k (by simp [hk])
      simpa [List.getD_eq_getElem?_getD, List.getElem?_set, hkj] using this
section
variable {s : List Sz} {a : List Int} {wanted : Wn → Int} {size : Sz → Int} {of : Nat → Bool} {share : Int → List Nat → List Int}
theorem zero_getD (n i : Nat) : (List.replicate n (0 : Int)).getD i 0 = 0 := by
 simp only [List.getD_eq_getElem?_getD, List.getElem?_replicate]
 split <;> rfl
theorem oneS_max (w : Wn) {out : List Int} (h0 : ∀ x ∈ out, 0 ≤ x) (i : Nat) (hi : i < out.length) :
    (oneS s a wanted size of share w out).getD i 0 = max (out.getD i 0) ((oneS s a wanted size of share w (List.replicate out.length 0)).getD i 0) := by
 have hn := getD_nn h0 i
 simp only [oneS]
 split
 · rw [zero_getD]; omega
 · by_cases hm : i ∈ whoU of (w.to.toNat - w.fm.toNat) w.fm.toNat
   · exact tU_max _ _ out _ i (tU_nodup _ _ _) h0 (by simp) (fun j _ => zero_getD _ j) hi hm
   · rw [tU_not _ _ _ _ hm, tU_not _ _ _ _ hm, zero_getD]; omega
theorem outU_nn' : ∀ (who : List Nat) (xs out : List Int), (∀ x ∈ out, 0 ≤ x) → ∀ x ∈ outU who xs out, 0 ≤ x
 | [], _, out, h => by cases out <;> exact h
 | _ :: _, [], out, h => h
 | j :: who, x :: xs, out, h => by
  simp only [outU]
  exact outU_nn' who xs _ (set_nn h j x)
theorem oneS_nn' {w : Wn} {out : List Int} (h : ∀ x ∈ out, 0 ≤ x) : ∀ x ∈ oneS s a wanted size of share w out, 0 ≤ x := by
 simp only [oneS]
 split
 · exact h
 · exact outU_nn' _ _ _ h
theorem giveS_max : ∀ (ws : List Wn) {out : List Int}, (∀ x ∈ out, 0 ≤ x) → ∀ i, i < out.length →
    (giveS s a wanted size of share ws out).getD i 0 = fmax (fun w => (oneS s a wanted size of share w (List.replicate out.length 0)).getD i 0) ws (out.getD i 0)
 | [], _, _, _, _ => rfl
 | w :: ws, out, h0, i, hi => by
  simp only [giveS, fmax]
  rw [giveS_max ws (oneS_nn' h0) i (by rw [oneS_len]; exact hi), oneS_max w h0 i hi, oneS_len]
theorem giveS_same {ws ws' : List Wn} (h : Same ws ws') (n : Nat) : giveS s a wanted size of share ws (List.replicate n 0) = giveS s a wanted size of share ws' (List.replicate n 0) := by
 have h0 : ∀ x ∈ List.replicate n (0 : Int), 0 ≤ x := fun x hx => by rw [List.eq_of_mem_replicate hx]; exact Int.le_refl _
 apply List.ext_getElem (by rw [giveS_len, giveS_len])
 intro i h1 h2
 have hi : i < (List.replicate n (0 : Int)).length := by rw [giveS_len] at h1; exact h1
 have e1 := giveS_max (s := s) (a := a) (wanted := wanted) (size := size) (of := of) (share := share) ws h0 i hi
 have e2 := giveS_max (s := s) (a := a) (wanted := wanted) (size := size) (of := of) (share := share) ws' h0 i hi
 rw [fmax_same _ h] at e1
 have := e1.trans e2.symm
 simpa [List.getD_eq_getElem?_getD, h1, h2] using this
end
def metU (s : List Sz) (of : Nat → Bool) (w : Wn) (i : Nat) : Bool := decide (i ∈ whoU of (w.to.toNat - w.fm.toNat) w.fm.toNat) && decide ((atS s i).lim = 1125899906842624)
theorem markS_getD' (s : List Sz) : ∀ (who : List Nat) (had : List Bool) (i : Nat), i < had.length → (markS s who had).getD i false = (had.getD i false || (decide (i ∈ who) && decide ((atS s i).lim = 1125899906842624)))
 | [], had, i, h => by simp [markS]
 | j :: who, had, i, h => by
  simp only [markS]
  have hlen : i < (if (atS s j).lim = 1125899906842624 then had.set j true else had).length := by split <;> simp [h]
  rw [markS_getD' s who _ i hlen]
  by_cases hij : j = i
  · subst hij
    by_cases hl : (atS s j).lim = 1125899906842624
    · rw [if_pos hl]
      simp [List.getD_eq_getElem?_getD, List.getElem?_set, h, hl]
    · rw [if_neg hl]
      simp [hl]
  · have hne : ¬ i = j := fun hh => hij hh.symm
    by_cases hl : (atS s j).lim = 1125899906842624
    · rw [if_pos hl]
      simp [List.getD_eq_getElem?_getD, List.getElem?_set, hij, hne]
    · rw [if_neg hl]
      simp [hne]
theorem hadS_any (s : List Sz) (of : Nat → Bool) : ∀ (ws : List Wn) (had : List Bool) (i : Nat), i < had.length → (hadS s of ws had).getD i false = (had.getD i false || ws.any fun w => metU s of w i)
 | [], had, i, _ => by simp [hadS]
 | w :: ws, had, i, h => by
  simp only [hadS]
  rw [hadS_any s of ws _ i (by rw [markS_len]; exact h), markS_getD' s _ _ i h, List.any_cons, Bool.or_assoc]
  rfl
theorem hadS_same (s : List Sz) (of : Nat → Bool) {ws ws' : List Wn} (h : Same ws ws') (had : List Bool) : hadS s of ws had = hadS s of ws' had := by
 apply List.ext_getElem (by rw [hadS_len, hadS_len])
 intro i h1 h2
 have hi : i < had.length := by rw [hadS_len] at h1; exact h1
 have e1 := hadS_any s of ws had i hi
 have e2 := hadS_any s of ws' had i hi
 rw [any_same h] at e1
 have := e1.trans e2.symm
 simpa [List.getD_eq_getElem?_getD, h1, h2] using this
def alB (w : Wn) (i : Nat) : Bool := decide (w.fm = (i : Int) ∧ w.to = (i : Int) + 1)
theorem topS_max {s : List Sz} {a : List Int} {f : Bool} : ∀ (ws : List Wn) (ts : List Tp × List Bool) (i : Nat), (∀ w ∈ ws, 0 ≤ w.fm) → ∀ (h1 : i < ts.1.length) (h2 : i < ts.2.length) (h3 : i < (topS s a f ws ts).1.length) (h4 : i < (topS s a f ws ts).2.length),
    (topS s a f ws ts).1[i] = ⟨fmax (wanted1 s a f) (ws.filter (alB · i)) ts.1[i].a, fmax (fun w => w.mn) (ws.filter (alB · i)) ts.1[i].b, fmax (fun w => w.mx) (ws.filter (alB · i)) ts.1[i].c⟩ ∧ (topS s a f ws ts).2[i] = (ts.2[i] || ws.any (alB · i))
 | [], ts, i, _, h1, h2, h3, h4 => by simp [topS, fmax]
 | w :: ws, ts, i, hw, h1, h2, h3, h4 => by
  have h0 := hw w (by simp)
  have l1 : i < (topStep s a f w ts).1.length := by unfold topStep; split <;> simp [h1]
  have l2 : i < (topStep s a f w ts).2.length := by unfold topStep; split <;> simp [h2]
  have e := topS_max ws (topStep s a f w ts) i (fun v hv => hw v (by simp [hv])) l1 l2 h3 h4
  have hc2 : alB w i = true ↔ (w.fm = (i : Int) ∧ w.to = (i : Int) + 1) := by simp [alB]
  rw [List.filter_cons, List.any_cons]
  by_cases hc : w.to = w.fm + 1
  · by_cases hi : w.fm = (i : Int)
    · have hn : w.fm.toNat = i := by omega
      have hcc : alB w i = true := hc2.2 ⟨hi, by omega⟩
      have e1 : topStep s a f w ts = (ts.1.modify i (fun t => ⟨max t.a (wanted1 s a f w), max t.b w.mn, max t.c w.mx⟩), ts.2.set i true) := by unfold topStep; rw [if_pos hc, hn]
      rw [hcc, if_pos rfl]
      simp only [fmax]
      refine ⟨Eq.trans e.1 ?_, Eq.trans e.2 ?_⟩
      · simp only [e1, List.getElem_modify, if_true]
      · simp only [e1, List.getElem_set_self, Bool.true_or, Bool.or_true]
    · have hn : ¬ w.fm.toNat = i := by omega
      have hcc : alB w i = false := by rw [Bool.eq_false_iff]; exact fun hh => hi (hc2.1 hh).1
      have e1 : topStep s a f w ts = (ts.1.modify w.fm.toNat (fun t => ⟨max t.a (wanted1 s a f w), max t.b w.mn, max t.c w.mx⟩), ts.2.set w.fm.toNat true) := by unfold topStep; rw [if_pos hc]
      rw [hcc, if_neg (by simp), Bool.false_or]
      refine ⟨Eq.trans e.1 ?_, Eq.trans e.2 ?_⟩
      · simp only [e1, List.getElem_modify, if_neg hn]
      · simp only [e1, List.getElem_set, if_neg hn]
  · have hcc : alB w i = false := by rw [Bool.eq_false_iff]; exact fun hh => hc (by have := hc2.1 hh; omega)
    have e1 : topStep s a f w ts = ts := by unfold topStep; rw [if_neg hc]
    rw [hcc, if_neg (by simp), Bool.false_or]
    refine ⟨Eq.trans e.1 ?_, Eq.trans e.2 ?_⟩
    · simp only [e1]
    · simp only [e1]
theorem alone_same {s : List Sz} {a : List Int} {f : Bool} {ws ws' : List Wn} (h : Same ws ws') (hw : ∀ w ∈ ws, 0 ≤ w.fm) : aloneS s a ws f = aloneS s a ws' f := by
 have hw' : ∀ w ∈ ws', 0 ≤ w.fm := fun w hh => hw w ((h w).2 hh)
 have l1 := topS_len s a f ws (List.replicate s.length ⟨0, 0, 0⟩, List.replicate s.length false)
 have l2 := topS_len s a f ws' (List.replicate s.length ⟨0, 0, 0⟩, List.replicate s.length false)
 have hm := fun i (hi : i < s.length) => topS_max (s := s) (a := a) (f := f) ws (List.replicate s.length ⟨0, 0, 0⟩, List.replicate s.length false) i hw (by simpa using hi) (by simpa using hi) (by simp only [List.length_replicate] at l1; omega) (by simp only [List.length_replicate] at l1; omega)
 have hm' := fun i (hi : i < s.length) => topS_max (s := s) (a := a) (f := f) ws' (List.replicate s.length ⟨0, 0, 0⟩, List.replicate s.length false) i hw' (by simpa using hi) (by simpa using hi) (by simp only [List.length_replicate] at l2; omega) (by simp only [List.length_replicate] at l2; omega)
 simp only [List.length_replicate] at l1 l2
 unfold aloneS
 congr 1
 · apply List.ext_getElem (by rw [l1.1, l2.1])
   intro i h1 h2
   rw [(hm i (by omega)).1, (hm' i (by omega)).1, fmax_same _ (h.filter _), fmax_same _ (h.filter _), fmax_same _ (h.filter _)]
 · apply List.ext_getElem (by rw [l1.2, l2.2])
   intro i h1 h2
   rw [(hm i (by omega)).2, (hm' i (by omega)).2, any_same h]
theorem grp_same {s : List Sz} {ws ws' : List Wn} (h : Same ws ws') (n : Int) : Same (grp s ws n) (grp s ws' n) := h.filter _
theorem span_same {s : List Sz} {ws ws' : List Wn} (h : Same ws ws') : spanL s ws = spanL s ws' := by
 unfold spanL
 congr 1
 apply List.filter_congr
 intro d _
 have hs := grp_same (s := s) h (d : Int)
 congr 1
 rw [Bool.eq_iff_iff, List.isEmpty_iff, List.isEmpty_iff]
 constructor
 · intro he
   refine List.eq_nil_iff_forall_not_mem.2 fun w hw => ?_
   have := (hs w).2 hw
   rw [he] at this
   simp at this
 · intro he
   refine List.eq_nil_iff_forall_not_mem.2 fun w hw => ?_
   have := (hs w).1 hw
   rw [he] at this
   simp at this
section
variable {ws ws' : List Wn} (h : Same ws ws') (s : List Sz) (a : List Int) (f m : Bool)
theorem rd1_same (h : Same ws ws') (s : List Sz) (a : List Int) (f : Bool) : rd1 s a ws f = rd1 s a ws' f := by unfold rd1; rw [giveS_same h]
theorem rd2_same (h : Same ws ws') (s : List Sz) (a : List Int) : rd2 s a ws = rd2 s a ws' := by unfold rd2; rw [giveS_same h]
theorem rd3_same (h : Same ws ws') (s : List Sz) (a : List Int) (m : Bool) : rd3 s a ws m = rd3 s a ws' m := by unfold rd3; rw [giveS_same h]
theorem fr1_same (h : Same ws ws') (s : List Sz) (a : List Int) (f : Bool) : fr1 s a ws f = fr1 s a ws' f := by unfold fr1; rw [giveS_same h]
theorem fr2_same (h : Same ws ws') (s : List Sz) (a : List Int) : fr2 s a ws = fr2 s a ws' := by unfold fr2; rw [giveS_same h]
theorem fr3_same (h : Same ws ws') (s : List Sz) (a : List Int) (m : Bool) : fr3 s a ws m = fr3 s a ws' m := by unfold fr3; rw [giveS_same h]
theorem lm4_same (h : Same ws ws') (s : List Sz) (a : List Int) : lm4 s a ws = lm4 s a ws' := by unfold lm4; rw [giveS_same h, hadS_same _ _ h]
theorem lm5_same (h : Same ws ws') (s : List Sz) (a : List Int) (g : List Bool) : lm5 s a ws g = lm5 s a ws' g := by unfold lm5; rw [giveS_same h, hadS_same _ _ h]
theorem sev_same (h : Same ws ws') (s : List Sz) (a : List Int) (f m : Bool) : severalS s a ws f m = severalS s a ws' f m := by
 have hb : bases3 s a ws f m = bases3 s a ws' f m := by unfold bases3; rw [rd1_same h, rd2_same h, rd3_same h]
 unfold severalS
 rw [hb, lm4_same h, lm5_same h, hadS_same _ _ h]
theorem flex_same (h : Same ws ws') (s : List Sz) (a : List Int) (f m : Bool) : flexS s a ws f m = flexS s a ws' f m := by
 unfold flexS
 rw [fr1_same h, fr2_same h, fr3_same h]
end
theorem spans_same {a : List Int} {f m : Bool} {g g' : Int → List Wn} (h : ∀ n, Same (g n) (g' n)) : ∀ (l : List Int) (S : List Sz), spansS a f m g l S = spansS a f m g' l S
 | [], _ => rfl
 | n :: l, S => by
  simp only [spansS]
  rw [sev_same (h n), spans_same h l]
theorem sizeS_same {s : List Sz} {a : List Int} {ws ws' : List Wn} (h : Same ws ws') (hw : ∀ w ∈ ws, 0 ≤ w.fm) (f m : Bool) : sizeS s a ws f m = sizeS s a ws' f m := by
 unfold sizeS
 rw [alone_same h hw, span_same h, spans_same (grp_same h), flex_same (h.filter (flexW s))]
theorem good_same {s : List Sz} {a : List Int} {ws ws' : List Wn} {mode : Int} (h : Same ws ws') (hl : ws.length ≤ 4096) (hl' : ws'.length ≤ 4096) : goodI s a ws mode = goodI s a ws' mode := by
 have e : ws.all (okW s.length) = ws'.all (okW s.length) := by
  rw [Bool.eq_iff_iff, List.all_eq_true, List.all_eq_true]
  constructor
  · intro hh w hw; exact hh w ((h w).2 hw)
  · intro hh w hw; exact hh w ((h w).1 hw)
 unfold goodI
 rw [e, decide_eq_true hl, decide_eq_true hl']
theorem sizeR_same {s : List Sz} {a : List Int} {ws ws' : List Wn} {mode : Int} (h : Same ws ws') (hl : ws.length ≤ 4096) (hl' : ws'.length ≤ 4096) : sizeR s a ws mode = sizeR s a ws' mode := by
 unfold sizeR
 rw [good_same h hl hl']
 by_cases hg : goodI s a ws' mode = true
 · rw [if_pos hg, if_pos hg]
   have hg2 := hg
   rw [← good_same h hl hl'] at hg2
   have hi : ∀ w ∈ ws, 0 ≤ w.fm := by
    simp only [goodI, Bool.and_eq_true, decide_eq_true_eq, List.all_eq_true] at hg2
    exact fun w hw => (okW_in (hg2.2 w hw)).1
   rw [sizeS_same h hi]
 · rw [if_neg hg, if_neg hg]
end Go.Proofs.Ytbebnjiolaomdaa.T

/- The document's rounds are the sizer's. Plain laws; no condition beyond what each states. -/
import Derived.Test.YtbebnjiolaomdaaGreatT
import Derived.Test.YtbebnjiolaomdaaGreatKr4
set_option linter.unusedVariables false
set_option linter.unusedSimpArgs false
set_option maxRecDepth 100000
namespace Go.Proofs.YtbebnjiolaomdaaGreat.T
open Go Go.Proofs.YtbebnjiolaomdaaGreat.Sx Go.Proofs.YtbebnjiolaomdaaGreat.M
theorem placeU_not : ∀ (who : List Nat) (xs out : List Int) (i : Nat), i ∉ who → (placeU who xs out).getD i 0 = out.getD i 0
 | [], _, out, i, _ => by cases out <;> rfl
 | _ :: _, [], out, i, _ => rfl
 | j :: who, x :: xs, out, i, h => by
  simp only [placeU]
  rw [placeU_not who xs _ i (fun hh => h (by simp [hh]))]
  have : ¬ j = i := fun hh => h (by simp [hh])
  simp [List.getD_eq_getElem?_getD, List.getElem?_set, this]
theorem outU_not : ∀ (who : List Nat) (xs out : List Int) (i : Nat), i ∉ who → (outU who xs out).getD i 0 = out.getD i 0
 | [], _, out, i, _ => by cases out <;> rfl
 | _ :: _, [], out, i, _ => rfl
 | j :: who, x :: xs, out, i, h => by
  simp only [outU]
  rw [outU_not who xs _ i (fun hh => h (by simp [hh]))]
  have : ¬ j = i := fun hh => h (by simp [hh])
  simp [List.getD_eq_getElem?_getD, List.getElem?_set, this]
theorem getD_set {out : List Int} {i : Nat} (h : i < out.length) (x : Int) : (out.set i x).getD i 0 = x := by simp [List.getD_eq_getElem?_getD, List.getElem?_set, h]
theorem both_at : ∀ (who : List Nat) (xs out z : List Int) (i : Nat), who.Nodup → xs.length = who.length → (∀ j ∈ who, j < out.length ∧ j < z.length) → i ∈ who →
    (outU who xs out).getD i 0 = max (out.getD i 0) ((placeU who xs z).getD i 0)
 | j :: who, x :: xs, out, z, i, hn, hl, hb, hi => by
  rw [List.nodup_cons] at hn
  simp only [outU, placeU]
  have hbj := hb j (by simp)
  by_cases hij : i = j
  · subst hij
    rw [outU_not who xs _ i hn.1, placeU_not who xs _ i hn.1, getD_set hbj.1, getD_set hbj.2]
  · have hi' : i ∈ who := by
     rcases List.mem_cons.1 hi with h | h
     · exact absurd h hij
     · exact h
    rw [both_at who xs _ (z.set j x) i hn.2 (by simpa using hl) (fun k hk => by have := hb k (by simp [hk]); simpa using this) hi']
    have : ¬ j = i := fun hh => hij hh.symm
    simp [List.getD_eq_getElem?_getD, List.getElem?_set, this]
 | j :: who, [], out, z, i, hn, hl, hb, hi => by simp at hl
theorem whoU_nodup (of : Nat → Bool) : ∀ (c i : Nat), (whoU of c i).Nodup
 | 0, i => by simp [whoU]
 | c + 1, i => by
  have ih := whoU_nodup of c (i + 1)
  simp only [whoU]
  split
  · rw [List.nodup_cons]
    refine ⟨fun hh => ?_, ih⟩
    have := whoU_in of c (i + 1) i hh
    omega
  · exact ih
theorem mem_whoU (of : Nat → Bool) : ∀ (c i x : Nat), x ∈ whoU of c i ↔ i ≤ x ∧ x < i + c ∧ of x = true
 | 0, i, x => by simp [whoU]; omega
 | c + 1, i, x => by
  have ih := mem_whoU of c (i + 1) x
  simp only [whoU]
  split
  · rename_i h
    rw [List.mem_cons, ih]
    constructor
    · rintro (rfl | ⟨h1, h2, h3⟩)
      · exact ⟨Nat.le_refl _, by omega, h⟩
      · exact ⟨by omega, by omega, h3⟩
    · rintro ⟨h1, h2, h3⟩
      by_cases hx : x = i
      · exact Or.inl hx
      · exact Or.inr ⟨by omega, by omega, h3⟩
  · rename_i h
    rw [ih]
    constructor
    · rintro ⟨h1, h2, h3⟩; exact ⟨by omega, by omega, h3⟩
    · rintro ⟨h1, h2, h3⟩
      have : x ≠ i := fun hh => h (by rw [← hh]; exact h3)
      exact ⟨by omega, by omega, h3⟩
theorem ext_getD {a b : List Int} (hl : a.length = b.length) (h : ∀ i, i < a.length → a.getD i 0 = b.getD i 0) : a = b := by
 apply List.ext_getElem hl
 intro i h1 h2
 have := h i h1
 simpa [List.getD_eq_getElem?_getD, h1, h2] using this
theorem rangeMax_is {s : List Sz} {a : List Int} {w : Wn} {r mode : Int} {g : List Bool} {fr : Bool} {most : List Int} (hi : InW s.length w) (hl : most.length = s.length) (h0 : ∀ x ∈ most, 0 ≤ x) :
    rangeMax most (givesS s a w r mode g fr) w.fm.toNat w.to.toNat = oneS s a (wantedR s a r mode) (sizeRd r) (ofG s r mode fr) (shareR s r g fr) w most := by
 obtain ⟨i0, i1, i2⟩ := hi
 have hgl := givesS_len s a w r mode g fr
 have hat : ∀ i, i < most.length → (rangeMax most (givesS s a w r mode g fr) w.fm.toNat w.to.toNat).getD i 0 = if w.fm.toNat ≤ i ∧ i < w.to.toNat then max (most.getD i 0) ((givesS s a w r mode g fr).getD i 0) else most.getD i 0 := by
  intro i hi
  have h1 : i < (rangeMax most (givesS s a w r mode g fr) w.fm.toNat w.to.toNat).length := by rw [rangeMax_len]; exact hi
  have e1 := rangeMax_at most (givesS s a w r mode g fr) w.fm.toNat w.to.toNat i h1 hi
  have e2 : (rangeMax most (givesS s a w r mode g fr) w.fm.toNat w.to.toNat).getD i 0 = (rangeMax most (givesS s a w r mode g fr) w.fm.toNat w.to.toNat)[i] := by simp [List.getD_eq_getElem?_getD, h1]
  have e3 : most.getD i 0 = most[i] := by simp [List.getD_eq_getElem?_getD, hi]
  rw [e2, e1, e3]
 have hnn : ∀ i, i < most.length → 0 ≤ most.getD i 0 := by
  intro i hi
  have : most.getD i 0 = most[i] := by simp [List.getD_eq_getElem?_getD, hi]
  rw [this]
  exact h0 _ (List.getElem_mem hi)
 have hz : ∀ i, (List.replicate s.length (0 : Int)).getD i 0 = 0 := by
  intro i
  simp only [List.getD_eq_getElem?_getD, List.getElem?_replicate]
  split <;> rfl
 refine ext_getD (by rw [rangeMax_len, oneS_len]) (fun i hi => ?_)
 rw [rangeMax_len] at hi
 rw [hat i hi]
 simp only [oneS, givesS]
 by_cases hc : spaceS (sizeRd r) ((s.drop w.fm.toNat).take (w.to.toNat - w.fm.toNat)) (IntKind.i64.wrap (wantedR s a r mode w - gapsI a w)) ≤ 0 ∨ (whoU (ofG s r mode fr) (w.to.toNat - w.fm.toNat) w.fm.toNat).length = 0
 · rw [if_pos hc, if_pos hc, hz]
   have := hnn i hi
   split <;> omega
 · rw [if_neg hc, if_neg hc]
   have hmem := mem_whoU (ofG s r mode fr) (w.to.toNat - w.fm.toNat) w.fm.toNat
   have hnd := whoU_nodup (ofG s r mode fr) (w.to.toNat - w.fm.toNat) w.fm.toNat
   generalize whoU (ofG s r mode fr) (w.to.toNat - w.fm.toNat) w.fm.toNat = who at *
   have hsl := shareR_len s r g fr (spaceS (sizeRd r) ((s.drop w.fm.toNat).take (w.to.toNat - w.fm.toNat)) (IntKind.i64.wrap (wantedR s a r mode w - gapsI a w))) who
   generalize shareR s r g fr (spaceS (sizeRd r) ((s.drop w.fm.toNat).take (w.to.toNat - w.fm.toNat)) (IntKind.i64.wrap (wantedR s a r mode w - gapsI a w))) who = xs at *
   by_cases hiw : i ∈ who
   · have hm := (hmem i).1 hiw
     rw [if_pos ⟨hm.1, by omega⟩, both_at who xs most (List.replicate s.length 0) i hnd hsl (fun j hj => by have := (hmem j).1 hj; simp; omega) hiw]
   · rw [outU_not who xs most i hiw, placeU_not who xs _ i hiw, hz]
     have := hnn i hi
     split <;> omega
theorem outU_nn : ∀ (who : List Nat) (xs out : List Int), (∀ x ∈ out, 0 ≤ x) → ∀ x ∈ outU who xs out, 0 ≤ x
 | [], _, out, h => by cases out <;> exact h
 | _ :: _, [], out, h => h
 | j :: who, x :: xs, out, h => by
  simp only [outU]
  refine outU_nn who xs _ (fun y hy => ?_)
  rcases List.mem_or_eq_of_mem_set hy with hy | rfl
  · exact h y hy
  · have : 0 ≤ out.getD j 0 := by
     by_cases hj : j < out.length
     · have e : out.getD j 0 = out[j] := by simp [List.getD_eq_getElem?_getD, hj]
       rw [e]; exact h _ (List.getElem_mem hj)
     · simp [List.getD_eq_getElem?_getD, hj]
    omega
theorem oneS_nn {s : List Sz} {a : List Int} {wanted : Wn → Int} {size : Sz → Int} {of : Nat → Bool} {share : Int → List Nat → List Int} {w : Wn} {out : List Int} (h : ∀ x ∈ out, 0 ≤ x) : ∀ x ∈ oneS s a wanted size of share w out, 0 ≤ x := by
 simp only [oneS]
 split
 · exact h
 · exact outU_nn _ _ _ h
theorem turnM_is {s : List Sz} {a : List Int} {r mode : Int} {g : List Bool} {fr : Bool} : ∀ (ws : List Wn) (most : List Int) (met : List Bool), (∀ w ∈ ws, InW s.length w) → most.length = s.length → (∀ x ∈ most, 0 ≤ x) →
    (turnM s a r mode g fr ws (most, met)).1 = giveS s a (wantedR s a r mode) (sizeRd r) (ofG s r mode fr) (shareR s r g fr) ws most
 | [], _, _, _, _, _ => rfl
 | w :: ws, most, met, hi, hl, h0 => by
  simp only [turnM, giveS]
  rw [rangeMax_is (hi w (by simp)) hl h0]
  exact turnM_is ws _ _ (fun v hv => hi v (by simp [hv])) (by rw [oneS_len]; exact hl) (oneS_nn h0)
theorem turnL_add {r mode : Int} (hr : r < 4) : ∀ (s : List Sz) (l : List Int) (h : List Bool), h.length = s.length → turnL r mode s l h = addS s l
 | x :: s, n :: l, b :: h, hh => by
  simp only [turnL, addS, turn1, if_pos hr]
  rw [turnL_add hr s l h (by simpa using hh)]
 | [], _, _, _ => by simp [turnL, addS]
 | _ :: _, [], _, _ => by simp [turnL, addS]
 | _ :: _, _ :: _, [], hh => by simp at hh
theorem turnS_base {s : List Sz} {a : List Int} {ws : List Wn} {r mode : Int} {g : List Bool} {fr : Bool} (hr : r < 4) (hi : ∀ w ∈ ws, InW s.length w) :
    turnS s a ws r mode g fr = addS s (giveS s a (wantedR s a r mode) (sizeRd r) (ofG s r mode fr) (shareR s r g fr) ws (List.replicate s.length 0)) := by
 have hl := turnM_len s a r mode g fr ws (List.replicate s.length 0, List.replicate s.length false)
 simp only [List.length_replicate] at hl
 unfold turnS
 rw [turnL_add hr _ _ _ hl.2, turnM_is ws _ _ hi (by simp) (fun x hx => by rw [List.eq_of_mem_replicate hx]; exact Int.le_refl _)]
theorem wantedR1 (s : List Sz) (a : List Int) (mode : Int) : wantedR s a 1 mode = wanted1 s a (decide (mode ≠ 0)) := by
 funext w
 unfold wantedR wanted1
 by_cases h : mode = 0 <;> simp [h]
theorem wantedR2 (s : List Sz) (a : List Int) (mode : Int) : wantedR s a 2 mode = fun w => w.mn := by
 funext w
 simp [wantedR]
theorem wantedR3 (s : List Sz) (a : List Int) (mode : Int) : wantedR s a 3 mode = wanted3 s a (decide (mode = 2)) := by
 funext w
 unfold wantedR wanted3
 by_cases h : mode = 2 <;> simp [h]
theorem wantedR4 (s : List Sz) (a : List Int) (mode : Int) : wantedR s a 4 mode = fun w => w.mn := by
 funext w
 simp [wantedR]
theorem wantedR5 (s : List Sz) (a : List Int) (mode : Int) : wantedR s a 5 mode = fun w => w.mx := by
 funext w
 simp [wantedR]
theorem sizeRd_b {r : Int} (hr : r < 4) : sizeRd r = ownB := by
 funext x
 unfold sizeRd ownB
 rw [if_neg (by omega)]
theorem sizeRd_l {r : Int} (hr : 4 ≤ r) : sizeRd r = ownL := by
 funext x
 unfold sizeRd ownL
 by_cases h : x.lim < 1125899906842624
 · rw [if_pos ⟨hr, h⟩, if_pos h]
 · rw [if_neg (fun hh => h hh.2), if_neg h]
theorem ofR1 (mode : Int) : ofR 1 mode = of1 := by funext x; simp [ofR, of1]
theorem ofR2 (mode : Int) : ofR 2 mode = of2 := by funext x; simp [ofR, of2]
theorem ofR3 (mode : Int) : ofR 3 mode = of3 (decide (mode = 2)) := by
 funext x
 unfold ofR of3 of3a of3b
 by_cases h : mode = 2 <;> simp [h]
theorem ofR4 (mode : Int) : ofR 4 mode = looseB := by funext x; simp [ofR, looseB]
theorem ofR5 (mode : Int) : ofR 5 mode = contentB := by funext x; simp [ofR, contentB]
theorem ofG_no (s : List Sz) (r mode : Int) : ofG s r mode false = fun i => ofR r mode (atS s i) := by funext i; simp [ofG]
theorem ofG_fr (s : List Sz) (r mode : Int) : ofG s r mode true = fun i => ofR r mode (atS s i) && isFr (atS s i) := by funext i; simp [ofG]
theorem shareR_fr (s : List Sz) (r : Int) (g : List Bool) : shareR s r g true = shareB s := by funext x y; simp [shareR]
theorem shareR_b {s : List Sz} {r : Int} {g : List Bool} (hr : r < 4) : shareR s r g false = shareF (roomB s) (fun i => farR r (atS s i)) := by
 funext x y
 unfold shareR
 rw [if_neg (by simp)]
 congr 1
 funext i
 unfold roomR roomB
 rw [if_neg (by omega)]
theorem shareR_l {s : List Sz} {r : Int} {g : List Bool} (hr : 4 ≤ r) : shareR s r g false = shareF (roomL s g) (fun _ => true) := by
 funext x y
 unfold shareR
 rw [if_neg (by simp)]
 congr 1
 · funext i
   unfold roomR roomL
   rw [if_pos hr]
 · funext i
   unfold farR
   rw [if_pos hr]
theorem farR1 : farR 1 = looseB := by funext x; simp [farR, looseB]
theorem farR2 : farR 2 = looseB := by funext x; simp [farR, looseB]
theorem farR3 : farR 3 = contentB := by funext x; simp [farR, contentB]
section
variable {s : List Sz} {a : List Int} {ws : List Wn} {mode : Int} {g : List Bool}
theorem turn_rd1 (hi : ∀ w ∈ ws, InW s.length w) : turnS s a ws 1 mode g false = rd1 s a ws (decide (mode ≠ 0)) := by
 rw [turnS_base (by omega) hi, wantedR1, sizeRd_b (by omega), ofG_no, ofR1, shareR_b (by omega), farR1]
 rfl
theorem turn_rd2 (hi : ∀ w ∈ ws, InW s.length w) : turnS s a ws 2 mode g false = rd2 s a ws := by
 rw [turnS_base (by omega) hi, wantedR2, sizeRd_b (by omega), ofG_no, ofR2, shareR_b (by omega), farR2]
 rfl
theorem turn_rd3 (hi : ∀ w ∈ ws, InW s.length w) : turnS s a ws 3 mode g false = rd3 s a ws (decide (mode = 2)) := by
 rw [turnS_base (by omega) hi, wantedR3, sizeRd_b (by omega), ofG_no, ofR3, shareR_b (by omega), farR3]
 rfl
theorem turn_fr1 (hi : ∀ w ∈ ws, InW s.length w) : turnS s a ws 1 mode g true = fr1 s a ws (decide (mode ≠ 0)) := by
 rw [turnS_base (by omega) hi, wantedR1, sizeRd_b (by omega), ofG_fr, ofR1, shareR_fr]
 rfl
theorem turn_fr2 (hi : ∀ w ∈ ws, InW s.length w) : turnS s a ws 2 mode g true = fr2 s a ws := by
 rw [turnS_base (by omega) hi, wantedR2, sizeRd_b (by omega), ofG_fr, ofR2, shareR_fr]
 rfl
theorem turn_fr3 (hi : ∀ w ∈ ws, InW s.length w) : turnS s a ws 3 mode g true = fr3 s a ws (decide (mode = 2)) := by
 rw [turnS_base (by omega) hi, wantedR3, sizeRd_b (by omega), ofG_fr, ofR3, shareR_fr]
 rfl
theorem turns3_rd (hi : ∀ w ∈ ws, InW s.length w) : turns3 s a ws mode g false = rd3 (rd2 (rd1 s a ws (decide (mode ≠ 0))) a ws) a ws (decide (mode = 2)) := by
 unfold turns3
 rw [turn_rd1 hi, turn_rd2 (by rw [rd1_len]; exact hi), turn_rd3 (by rw [rd2_len, rd1_len]; exact hi)]
theorem turns3_fr (hi : ∀ w ∈ ws, InW s.length w) : turns3 s a ws mode g true = fr3 (fr2 (fr1 s a ws (decide (mode ≠ 0))) a ws) a ws (decide (mode = 2)) := by
 unfold turns3
 rw [turn_fr1 hi, turn_fr2 (by rw [fr1_len]; exact hi), turn_fr3 (by rw [fr2_len, fr1_len]; exact hi)]
end
end Go.Proofs.YtbebnjiolaomdaaGreat.T

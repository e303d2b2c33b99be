/- What something wants at least is there. Plain laws; no condition beyond what each states. -/
import Derived.Test.YtbebnjiolaomdaaT
import Derived.Test.YtbebnjiolaomdaaKtn
set_option linter.unusedVariables false
set_option linter.unusedSimpArgs false
set_option maxRecDepth 100000
namespace Go.Proofs.Ytbebnjiolaomdaa.T
open Go Go.Proofs.Ytbebnjiolaomdaa.Sx Go.Proofs.Ytbebnjiolaomdaa.M
def sumR (l : List Int) (f n : Nat) : Int := tot ((l.drop f).take n)
theorem tot_set : ∀ (l : List Int) (i : Nat) (y : Int) (h : i < l.length), tot (l.set i y) = tot l + y - l[i]
 | x :: l, 0, y, h => by simp [tot]; omega
 | x :: l, i + 1, y, h => by
  have := tot_set l i y (by simpa using h)
  simp only [List.set_cons_succ, tot, this, List.getElem_cons_succ]
  omega
theorem sumR_set {l : List Int} {f n i : Nat} (y : Int) (h1 : f ≤ i) (h2 : i < f + n) (h3 : i < l.length) : sumR (l.set i y) f n = sumR l f n + y - l[i] := by
 unfold sumR
 have e : ((l.set i y).drop f).take n = ((l.drop f).take n).set (i - f) y := by
  apply List.ext_getElem?
  intro j
  simp only [List.getElem?_take, List.getElem?_drop, List.getElem?_set, List.length_take, List.length_drop]
  by_cases hj : j < n
  · rw [if_pos hj]
    by_cases hij : i = f + j
    · have : i - f = j := by omega
      rw [if_pos hij, if_pos this, if_pos (by omega), if_pos (by omega)]
    · have : ¬ i - f = j := by omega
      rw [if_neg hij, if_neg this, if_pos hj]
  · rw [if_neg hj]
    have : ¬ i - f = j := by omega
    rw [if_neg this, if_neg hj]
 have hl : i - f < ((l.drop f).take n).length := by simp; omega
 rw [e, tot_set _ _ _ hl]
 have : ((l.drop f).take n)[i - f] = l[i] := by simp [show f + (i - f) = i by omega]
 rw [this]
theorem outU_sum : ∀ (who : List Nat) (xs z : List Int) (f n : Nat), who.Nodup → xs.length = who.length → (∀ x ∈ xs, 0 ≤ x) → (∀ j ∈ who, f ≤ j ∧ j < f + n ∧ j < z.length ∧ z.getD j 0 = 0) → sumR (outU who xs z) f n = sumR z f n + tot xs
 | [], [], z, f, n, _, _, _, _ => by cases z <;> simp [outU, tot]
 | j :: who, x :: xs, z, f, n, hn, hl, hx, hz => by
  rw [List.nodup_cons] at hn
  obtain ⟨h1, h2, h3, h4⟩ := hz j (by simp)
  have hx0 := hx x (by simp)
  simp only [outU, tot]
  rw [outU_sum who xs _ f n hn.2 (by simpa using hl) (fun y hy => hx y (by simp [hy])) (fun k hk => ?_), sumR_set _ h1 h2 h3]
  · have e : z[j] = 0 := by simpa [List.getD_eq_getElem?_getD, h3] using h4
    rw [h4, e]
    omega
  · obtain ⟨k1, k2, k3, k4⟩ := hz k (by simp [hk])
    have hjk : ¬ j = k := fun hh => hn.1 (by rw [hh]; exact hk)
    refine ⟨k1, k2, by simpa using k3, ?_⟩
    simpa [List.getD_eq_getElem?_getD, List.getElem?_set, hjk] using k4
 | [], _ :: _, _, _, _, _, hl, _, _ => by simp at hl
 | _ :: _, [], _, _, _, _, hl, _, _ => by simp at hl
theorem tot_le : ∀ (a b : List Int), a.length = b.length → (∀ i (h : i < a.length) (h' : i < b.length), a[i] ≤ b[i]) → tot a ≤ tot b
 | [], [], _, _ => Int.le_refl _
 | x :: a, y :: b, hl, h => by
  have h0 := h 0 (by simp) (by simp)
  have := tot_le a b (by simpa using hl) (fun i h1 h2 => by have := h (i + 1) (by simpa using h1) (by simpa using h2); simpa using this)
  simp only [tot]
  simp at h0
  omega
 | [], _ :: _, hl, _ => by simp at hl
 | _ :: _, [], hl, _ => by simp at hl
theorem sumR_le {a b : List Int} (hl : a.length = b.length) (h : ∀ i, i < a.length → a.getD i 0 ≤ b.getD i 0) (f n : Nat) : sumR a f n ≤ sumR b f n := by
 unfold sumR
 refine tot_le _ _ (by simp [hl]) (fun i h1 h2 => ?_)
 have hi : f + i < a.length := by simp at h1; omega
 have hi' : f + i < b.length := by omega
 have := h (f + i) hi
 simp only [List.getElem_take, List.getElem_drop]
 simpa [List.getD_eq_getElem?_getD, hi, hi'] using this
def baseW (s : List Sz) (w : Wn) : Int := sumZ ownB ((s.drop w.fm.toNat).take (w.to.toNat - w.fm.toNat))
theorem sumZ_tot : ∀ (l : List Sz), sumZ ownB l = tot (l.map ownB)
 | [] => rfl
 | x :: l => by simp only [sumZ, List.map_cons, tot, sumZ_tot l]
theorem baseW_tot (s : List Sz) (w : Wn) : baseW s w = sumR (s.map ownB) w.fm.toNat (w.to.toNat - w.fm.toNat) := by
 unfold baseW sumR
 rw [sumZ_tot, List.map_take, List.map_drop]
theorem baseW_up {s s' : List Sz} (h : Up s s') (w : Wn) : baseW s w ≤ baseW s' w := by
 rw [baseW_tot, baseW_tot]
 refine sumR_le (by simp [h.1]) (fun i hi => ?_) _ _
 have hi1 : i < s.length := by simpa using hi
 have hi2 : i < s'.length := by rw [h.1]; exact hi1
 have := (h.2 i hi1 hi2).2.2.2.2.2.1
 simpa [List.getD_eq_getElem?_getD, hi1, hi2, ownB] using this
theorem sumR_add {a b c : List Int} (hb : b.length = a.length) (hc : c.length = a.length) (h : ∀ i, i < a.length → c.getD i 0 = a.getD i 0 + b.getD i 0) (f n : Nat) : sumR c f n = sumR a f n + sumR b f n := by
 have key : ∀ (a b c : List Int), b.length = a.length → c.length = a.length → (∀ i, i < a.length → c.getD i 0 = a.getD i 0 + b.getD i 0) → tot c = tot a + tot b := by
  intro a
  induction a with
  | nil => intro b c hb hc _; rw [List.length_nil] at hb hc; rw [List.length_eq_zero_iff.1 hb, List.length_eq_zero_iff.1 hc]; rfl
  | cons x a ih =>
   intro b c hb hc h
   cases b with
   | nil => simp at hb
   | cons y b =>
    cases c with
    | nil => simp at hc
    | cons z c =>
     have h0 := h 0 (by simp)
     have := ih b c (by simpa using hb) (by simpa using hc) (fun i hi => by have := h (i + 1) (by simpa using hi); simpa using this)
     simp only [tot]
     simp at h0
     omega
 unfold sumR
 refine key _ _ _ (by simp [hb]) (by simp [hc]) (fun i hi => ?_)
 have hi' : i < n ∧ f + i < a.length := by simp at hi; omega
 have := h (f + i) hi'.2
 simpa [List.getD_eq_getElem?_getD, List.getElem?_take, hi'.1, List.getElem?_drop] using this
section
variable {s : List Sz} {a : List Int} {ws : List Wn}
theorem addS_sum (hb : ∀ x ∈ s, Bd x) {l : List Int} (hl : l.length = s.length) (hg : Gv s ownB l) (w : Wn) : baseW (addS s l) w = baseW s w + sumR l w.fm.toNat (w.to.toNat - w.fm.toNat) := by
 rw [baseW_tot, baseW_tot]
 refine sumR_add (by simp [hl]) (by simp [addS_len]) (fun i hi => ?_) _ _
 have hi1 : i < s.length := by simpa using hi
 have hi2 : i < l.length := by omega
 have hi3 : i < (addS s l).length := by rw [addS_len]; exact hi1
 have h1 := hb _ (List.getElem_mem hi1)
 have h2 := hg i hi2
 rw [atS_lt hi1] at h2
 unfold ownB at h2
 unfold Bd at h1
 have e := addS_at s l hl i hi1
 have e1 : ((addS s l).map ownB).getD i 0 = ownB (addS s l)[i] := by simp [List.getD_eq_getElem?_getD, hi3]
 have e2 : (s.map ownB).getD i 0 = ownB s[i] := by simp [List.getD_eq_getElem?_getD, hi1]
 have e3 : l.getD i 0 = l[i] := by simp [List.getD_eq_getElem?_getD, hi2]
 rw [e1, e2, e3, e]
 show IntKind.i64.wrap (s[i].base + l[i]) = s[i].base + l[i]
 exact wrap_in (by omega) (by omega)
theorem give_enough (h : Fit s a ws) (hb : ∀ x ∈ s, Bd x) {wanted : Wn → Int} (hwt : WnIn ws wanted) {of : Nat → Bool} {far : Nat → Bool} {w : Wn} (hw : w ∈ ws) (hof : ∃ i, w.fm.toNat ≤ i ∧ i < w.to.toNat ∧ of i = true) :
    wanted w ≤ baseW s w + sumR (giveS s a wanted ownB of (shareF (roomB s) far) ws (List.replicate s.length 0)) w.fm.toNat (w.to.toNat - w.fm.toNat) + gapsI a w := by
 obtain ⟨i0, i1, i2⟩ := h.hi w hw
 have h0 : ∀ x ∈ List.replicate s.length (0 : Int), 0 ≤ x := fun x hx => by rw [List.eq_of_mem_replicate hx]; exact Int.le_refl _
 have hge : sumR (oneS s a wanted ownB of (shareF (roomB s) far) w (List.replicate s.length 0)) w.fm.toNat (w.to.toNat - w.fm.toNat) ≤ sumR (giveS s a wanted ownB of (shareF (roomB s) far) ws (List.replicate s.length 0)) w.fm.toNat (w.to.toNat - w.fm.toNat) := by
  refine sumR_le (by rw [oneS_len, giveS_len]) (fun i hi => ?_) _ _
  rw [oneS_len] at hi
  rw [giveS_max ws h0 i hi]
  have := (fmax_char (fun w => (oneS s a wanted ownB of (shareF (roomB s) far) w (List.replicate (List.replicate s.length (0 : Int)).length 0)).getD i 0) ws ((List.replicate s.length (0 : Int)).getD i 0)).2.1 w hw
  simpa using this
 have hzs : sumR (List.replicate s.length (0 : Int)) w.fm.toNat (w.to.toNat - w.fm.toNat) = 0 := by
  unfold sumR
  have : ∀ (l : List Int), (∀ x ∈ l, x = 0) → tot l = 0 := by
   intro l
   induction l with
   | nil => intro _; rfl
   | cons x l ih => intro hx; simp only [tot]; rw [hx x (by simp), ih (fun y hy => hx y (by simp [hy]))]; rfl
  exact this _ (fun x hx => List.eq_of_mem_replicate (List.mem_of_mem_drop (List.mem_of_mem_take hx)))
 have hsp := space_eq h (ownB_in hb) hwt hw
 have hbw : sumZ ownB ((s.drop w.fm.toNat).take (w.to.toNat - w.fm.toNat)) = baseW s w := rfl
 rw [hbw] at hsp
 by_cases hc : wanted w - gapsI a w - baseW s w ≤ 0
 · have hnn : 0 ≤ sumR (oneS s a wanted ownB of (shareF (roomB s) far) w (List.replicate s.length 0)) w.fm.toNat (w.to.toNat - w.fm.toNat) := by
    unfold sumR
    exact tot_nonneg (fun x hx => oneS_nn' h0 x (List.mem_of_mem_drop (List.mem_of_mem_take hx)))
   omega
 · obtain ⟨i, hi1, hi2, hi3⟩ := hof
   have hmem : i ∈ whoU of (w.to.toNat - w.fm.toNat) w.fm.toNat := by
    have key : ∀ (c f : Nat), f ≤ i → i < f + c → i ∈ whoU of c f := by
     intro c
     induction c with
     | zero => intro f h1 h2; omega
     | succ c ih =>
      intro f h1 h2
      simp only [whoU]
      by_cases hif : i = f
      · subst hif
        rw [if_pos hi3]
        simp
      · have := ih (f + 1) (by omega) (by omega)
        split
        · simp [this]
        · exact this
    exact key _ _ hi1 (by omega)
   have hin := whoU_in of (w.to.toNat - w.fm.toNat) w.fm.toNat
   have hnd := tU_nodup of (w.to.toNat - w.fm.toNat) w.fm.toNat
   have hwl := whoU_len of (w.to.toNat - w.fm.toNat) w.fm.toNat
   have hs := h.hs
   have hwi := hwt w hw
   have hgp := gaps_in h w
   have hbn : 0 ≤ baseW s w := by
    rw [baseW_tot]
    unfold sumR
    refine tot_nonneg (fun x hx => ?_)
    have hx' := List.mem_of_mem_drop (List.mem_of_mem_take hx)
    rw [List.mem_map] at hx'
    obtain ⟨y, hy, rfl⟩ := hx'
    exact (ownB_in hb y hy).1
   have e1 : oneS s a wanted ownB of (shareF (roomB s) far) w (List.replicate s.length 0) = outU (whoU of (w.to.toNat - w.fm.toNat) w.fm.toNat) (shareF (roomB s) far (wanted w - gapsI a w - baseW s w) (whoU of (w.to.toNat - w.fm.toNat) w.fm.toNat)) (List.replicate s.length 0) := by
    simp only [oneS]
    rw [hsp, if_neg]
    rintro (hh | hh)
    · exact hc hh
    · rw [List.length_eq_zero_iff.1 hh] at hmem
      simp at hmem
   generalize whoU of (w.to.toNat - w.fm.toNat) w.fm.toNat = who at *
   have hS0 : 0 ≤ wanted w - gapsI a w - baseW s w := by omega
   have hS1 : wanted w - gapsI a w - baseW s w < 1125899906842624 := by omega
   generalize hSe : wanted w - gapsI a w - baseW s w = S at *
   have hsh := shareF_in (roomB s) far S who hS0
   have htot : tot (shareF (roomB s) far S who) = S := by
    unfold shareF
    have hu : UpOk S (who.map (roomB s)) := by
     refine ⟨hS0, hS1, by simp; omega, fun r hr => ?_⟩
     rw [List.mem_map] at hr
     obtain ⟨j, hj, rfl⟩ := hr
     have hjs : j < s.length := by have := hin j hj; omega
     have hbj := hb _ (List.getElem_mem hjs)
     unfold Bd at hbj
     unfold roomB limit
     rw [atS_lt hjs]
     split
     · rw [wrap_in (by omega) (by omega)]; omega
     · rw [wrap_in (by omega) (by omega)]; omega
    refine (fill_tot hu (by simp)).2.2 ?_
    rw [← idx_pos]
    unfold anyB
    rw [List.any_eq_true]
    by_cases hf : who.any far = true
    · rw [List.any_eq_true] at hf
      obtain ⟨j, hj, hfj⟩ := hf
      exact ⟨true, by rw [List.mem_map]; exact ⟨j, hj, by simp [hfj]⟩, rfl⟩
    · rw [Bool.not_eq_true] at hf
      exact ⟨true, by rw [List.mem_map]; exact ⟨i, hmem, by simp [hf]⟩, rfl⟩
   have hsum := outU_sum who (shareF (roomB s) far S who) (List.replicate s.length 0) w.fm.toNat (w.to.toNat - w.fm.toNat) hnd hsh.1 (fun x hx => (hsh.2 x hx).1) (fun j hj => by
    have := hin j hj
    exact ⟨this.1, this.2.1, by simp; omega, zero_getD _ _⟩)
   rw [e1, hsum, hzs, htot] at hge
   omega
end
end Go.Proofs.Ytbebnjiolaomdaa.T

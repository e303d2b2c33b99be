/- What the document's tree of one round of some wants comes to. No condition beyond what each states. -/
import Derived.Test.YtbebnjiolaomdaaGreatT
import Derived.Test.YtbebnjiolaomdaaGreatKr1
set_option linter.unusedVariables false
set_option linter.unusedSimpArgs false
set_option maxRecDepth 100000
namespace Go.Proofs.YtbebnjiolaomdaaGreat.T
open Go Go.Proofs.YtbebnjiolaomdaaGreat.Sx Go.Proofs.YtbebnjiolaomdaaGreat.M
def rangeMax (most l : List Int) (f i : Nat) : List Int := most.mapIdx fun j x => if f ≤ j ∧ j < i then max x (l.getD j 0) else x
def rangeTrue (met : List Bool) (f i : Nat) : List Bool := met.mapIdx fun j b => b || (decide (f ≤ j) && decide (j < i))
theorem rangeMax_len (most l : List Int) (f i : Nat) : (rangeMax most l f i).length = most.length := by simp [rangeMax]
theorem rangeTrue_len (met : List Bool) (f i : Nat) : (rangeTrue met f i).length = met.length := by simp [rangeTrue]
theorem rangeMax_at (most l : List Int) (f i j : Nat) (h : j < (rangeMax most l f i).length) (h' : j < most.length) : (rangeMax most l f i)[j] = if f ≤ j ∧ j < i then max most[j] (l.getD j 0) else most[j] := by simp [rangeMax]
theorem rangeTrue_at (met : List Bool) (f i j : Nat) (h : j < (rangeTrue met f i).length) (h' : j < met.length) : (rangeTrue met f i)[j] = (met[j] || (decide (f ≤ j) && decide (j < i))) := by simp [rangeTrue]
theorem rangeMax_zero (most l : List Int) (f : Nat) : rangeMax most l f f = most := by
 apply List.ext_getElem (rangeMax_len _ _ _ _)
 intro j h1 h2
 rw [rangeMax_at _ _ _ _ _ h1 h2, if_neg (by omega)]
theorem rangeTrue_zero (met : List Bool) (f : Nat) : rangeTrue met f f = met := by
 apply List.ext_getElem (rangeTrue_len _ _ _)
 intro j h1 h2
 rw [rangeTrue_at _ _ _ _ h1 h2]
 have : (decide (f ≤ j) && decide (j < f)) = false := by simp <;> omega
 rw [this, Bool.or_false]
theorem rangeMax_set (most l : List Int) (f i : Nat) (hf : f ≤ i) (h : i < most.length) (hl : i < l.length) : (rangeMax most l f i).set i (max most[i] l[i]) = rangeMax most l f (i + 1) := by
 apply List.ext_getElem (by simp [rangeMax])
 intro j h1 h2
 have hj : j < most.length := by simpa [rangeMax] using h2
 rw [rangeMax_at _ _ _ _ _ h2 hj, List.getElem_set]
 split
 · rename_i hij
   subst hij
   rw [if_pos (by omega)]
   simp [hl]
 · rename_i hij
   rw [rangeMax_at _ _ _ _ _ (by simpa using h1) hj]
   by_cases hc : f ≤ j ∧ j < i
   · rw [if_pos hc, if_pos (by omega)]
   · rw [if_neg hc, if_neg (by omega)]
theorem rangeTrue_set (met : List Bool) (f i : Nat) (hf : f ≤ i) (h : i < met.length) : (rangeTrue met f i).set i true = rangeTrue met f (i + 1) := by
 apply List.ext_getElem (by simp [rangeTrue])
 intro j h1 h2
 have hj : j < met.length := by simpa [rangeTrue] using h2
 rw [rangeTrue_at _ _ _ _ h2 hj, List.getElem_set]
 split
 · rename_i hij
   subst hij
   have : (decide (f ≤ i) && decide (i < i + 1)) = true := by simp; omega
   rw [this, Bool.or_true]
 · rename_i hij
   rw [rangeTrue_at _ _ _ _ (by simpa using h1) hj]
   congr 1
   rw [Bool.eq_iff_iff]
   simp only [Bool.and_eq_true, decide_eq_true_eq]
   omega
noncomputable def turnM (s : List Sz) (a : List Int) (r mode : Int) (g : List Bool) (fr : Bool) : List Wn → List Int × List Bool → List Int × List Bool
 | [], p => p
 | w :: ws, p => turnM s a r mode g fr ws (rangeMax p.1 (givesS s a w r mode g fr) w.fm.toNat w.to.toNat, rangeTrue p.2 w.fm.toNat w.to.toNat)
theorem turnM_len (s a r mode g fr) : ∀ (ws : List Wn) (p : List Int × List Bool), (turnM s a r mode g fr ws p).1.length = p.1.length ∧ (turnM s a r mode g fr ws p).2.length = p.2.length
 | [], p => ⟨rfl, rfl⟩
 | w :: ws, p => by
  have := turnM_len s a r mode g fr ws (rangeMax p.1 (givesS s a w r mode g fr) w.fm.toNat w.to.toNat, rangeTrue p.2 w.fm.toNat w.to.toNat)
  simp only [turnM]
  rw [this.1, this.2, rangeMax_len, rangeTrue_len]
  exact ⟨rfl, rfl⟩
def turn1 (r mode : Int) (x : Sz) (mo : Int) (mt : Bool) : Sz :=
 if r < 4 then { x with base := IntKind.i64.wrap (x.base + mo) } else if mt = true ∧ ofR r mode x = true then { x with lim := IntKind.i64.wrap (sizeRd r x + mo) } else x
def turnL (r mode : Int) : List Sz → List Int → List Bool → List Sz
 | x :: s, mo :: l, mt :: h => turn1 r mode x mo mt :: turnL r mode s l h
 | s, _, _ => s
theorem turnL_len (r mode) : ∀ (s : List Sz) (l : List Int) (h : List Bool), (turnL r mode s l h).length = s.length
 | x :: s, n :: l, h :: hs => by simp [turnL, turnL_len r mode s l hs]
 | [], _, _ => by simp [turnL]
 | _ :: _, [], _ => by simp [turnL]
 | _ :: _, _ :: _, [] => by simp [turnL]
theorem turnL_at (r mode) : ∀ (s : List Sz) (l : List Int) (h : List Bool) (hl : l.length = s.length) (hh : h.length = s.length) (i : Nat) (hi : i < s.length), (turnL r mode s l h)[i]'(by rw [turnL_len]; exact hi) = turn1 r mode s[i] (l[i]'(by omega)) (h[i]'(by omega))
 | x :: s, n :: l, h :: hs, hl, hh, i, hi => by
  cases i with
  | zero => rfl
  | succ i => simpa [turnL] using turnL_at r mode s l hs (by simpa using hl) (by simpa using hh) i (by simpa using hi)
 | [], _, _, _, _, i, hi => by simp at hi
 | _ :: _, [], _, hl, _, _, _ => by simp at hl
 | _ :: _, _ :: _, [], _, hh, _, _ => by simp at hh
noncomputable def turnS (s : List Sz) (a : List Int) (ws : List Wn) (r mode : Int) (g : List Bool) (fr : Bool) : List Sz :=
 turnL r mode s (turnM s a r mode g fr ws (List.replicate s.length 0, List.replicate s.length false)).1 (turnM s a r mode g fr ws (List.replicate s.length 0, List.replicate s.length false)).2
theorem turnS_len (s a ws r mode g fr) : (turnS s a ws r mode g fr).length = s.length := turnL_len _ _ _ _ _
theorem rturn_sp (s : List Sz) (a : List Int) (ws : List Wn) (r mode : Int) (g : List Bool) (fr : Bool) (h : Ask s a ws) (hgl : g.length = s.length) :
    Says tr c_ref24_turn [rowOf eSz s, ints a, rowOf eWn ws, I r, I mode, bools g, B fr] [rowOf eSz (turnS s a ws r mode g fr)] := by
 have hs := h.hs
 have hwl := h.hw
 have hal := h.ha
 refine Says.of (t := ref24_turn) rfl ?_
 rw [u_ref24_turn]
 have hl : (s.length : Int) ≤ 17592186044416 := by omega
 have hl2 : (s.length : Int) ≤ 140737488355328 := by omega
 have hml := turnM_len s a r mode g fr ws (List.replicate s.length 0, List.replicate s.length false)
 simp only [List.length_replicate] at hml
 unfold turnS
 generalize hfin : turnM s a r mode g fr ws (List.replicate s.length 0, List.replicate s.length false) = fin at *
 have hfl := turnL_len r mode s fin.1 fin.2
 simp (disch := first | omega | (simp only [ln0]; omega)) only [rs, reduceIte, Nat.reduceAdd, hl, hl2]
 have key := xup_ind (n := ws.length) (P := fun k => ∀ p : List Int × List Bool, p.1.length = s.length → p.2.length = s.length → turnM s a r mode g fr (ws.drop k) p = fin →
  Run tr ref24_turn_l0 [rowOf eSz s, ints a, rowOf eWn ws, I r, I mode, bools g, B fr, I k, ints p.1, bools p.2] [.loop ref24_turn_l0 [rowOf eSz s, ints a, rowOf eWn ws, I r, I mode, bools g, B fr]] [rowOf eSz (turnL r mode s fin.1 fin.2)]) ?_ 0 (Nat.zero_le _)
 · exact key (List.replicate s.length 0, List.replicate s.length false) (by simp) (by simp) (by simpa using hfin)
 intro k hk ih p hp1 hp2 hh
 rw [u_ref24_turn_l0]
 by_cases hx : k < ws.length
 · have hin := h.hi _ (List.getElem_mem hx)
   have hgv := rgives_sp s a ws[k] r mode g fr hin hal hgl hs
   obtain ⟨h0, h1, h2⟩ := hin
   obtain ⟨f, hf⟩ : ∃ f : Nat, ws[k].fm = f := ⟨ws[k].fm.toNat, by omega⟩
   obtain ⟨t, ht⟩ : ∃ t : Nat, ws[k].to = t := ⟨ws[k].to.toNat, by omega⟩
   rw [List.drop_eq_getElem_cons hx] at hh
   simp only [turnM, hf, ht, Int.toNat_natCast] at hh
   have ih' := ih hx _ (by rw [rangeMax_len]; exact hp1) (by rw [rangeTrue_len]; exact hp2) hh
   have hgll := givesS_len s a ws[k] r mode g fr
   generalize givesS s a ws[k] r mode g fr = l at *
   have hts : t ≤ s.length := by omega
   rw [hf] at hgv
   simp (disch := first | omega | (simp only [ln0]; omega)) only [rs, reduceIte, Nat.reduceAdd, hx, wn_at0, wn_at1, wn_at2, wn_at3, wn_at4, hf, xcall_of hgv]
   have key2 := xup_ind (n := t) (P := fun i => f ≤ i → Run tr ref24_turn_l1 [rowOf eSz s, ints a, rowOf eWn ws, I r, I mode, bools g, B fr, I k, ints p.1, bools p.2, ints l, I i, ints (rangeMax p.1 l f i), bools (rangeTrue p.2 f i)] [.loop ref24_turn_l0 [rowOf eSz s, ints a, rowOf eWn ws, I r, I mode, bools g, B fr], .loop ref24_turn_l1 [rowOf eSz s, ints a, rowOf eWn ws, I r, I mode, bools g, B fr, I k, ints p.1, bools p.2, ints l]] [rowOf eSz (turnL r mode s fin.1 fin.2)]) ?_ f (by omega)
   · have := key2 (Nat.le_refl _)
     rw [rangeMax_zero, rangeTrue_zero] at this
     exact this
   intro i hi ih2 hfi
   rw [u_ref24_turn_l1]
   have hml1 := rangeMax_len p.1 l f i
   have hml2 := rangeTrue_len p.2 f i
   by_cases hj : i < t
   · have hc : (i : Int) < (t : Int) := by omega
     have ih2' := ih2 hj (by omega)
     have hil : i < l.length := by omega
     have hi1 : i < p.1.length := by omega
     have hi2 : i < p.2.length := by omega
     rw [← rangeMax_set p.1 l f i hfi hi1 hil, ← rangeTrue_set p.2 f i hfi hi2] at ih2'
     have hat : (rangeMax p.1 l f i)[i]'(by omega) = p.1[i] := by rw [rangeMax_at _ _ _ _ _ _ hi1, if_neg (by omega)]
     simp (disch := first | omega | (simp only [ln0]; omega)) only [rs, reduceIte, Nat.reduceAdd, hx, wn_at1, ht, hc, hml1, hml2, hil, hi1, hi2, hat]
     exact ih2'
   · obtain rfl : i = t := by omega
     have hc : ¬ (i : Int) < (i : Int) := by omega
     simp (disch := first | omega | (simp only [ln0]; omega)) only [rs, reduceIte, Nat.reduceAdd, hx, wn_at1, ht, hc]
     exact ih'
 · rw [List.drop_of_length_le (by omega)] at hh
   simp only [turnM] at hh
   subst hh
   simp (disch := first | omega | (simp only [ln0]; omega)) only [rs, reduceIte, Nat.reduceAdd, hx]
   have key2 := xup_ind (n := s.length) (P := fun i => Run tr ref24_turn_l2 [rowOf eSz s, ints a, rowOf eWn ws, I r, I mode, bools g, B fr, I k, ints p.1, bools p.2, I i, rowOf eSz ((turnL r mode s p.1 p.2).take i)] [.loop ref24_turn_l0 [rowOf eSz s, ints a, rowOf eWn ws, I r, I mode, bools g, B fr], .loop ref24_turn_l2 [rowOf eSz s, ints a, rowOf eWn ws, I r, I mode, bools g, B fr, I k, ints p.1, bools p.2]] [rowOf eSz (turnL r mode s p.1 p.2)]) ?_ 0 (Nat.zero_le _)
   · rw [List.take_zero] at key2
     exact key2
   intro i hi ih2
   rw [u_ref24_turn_l2]
   by_cases hj : i < s.length
   · have hi1 : i < p.1.length := by omega
     have hi2 : i < p.2.length := by omega
     have hta := turnL_at r mode s p.1 p.2 hp1 hp2 i hj
     have hof := rof_sp s[i] r mode
     have hz := rsize24_sp s[i] r
     have hlen : (((turnL r mode s p.1 p.2).take i).length : Int) + 1 ≤ 4294967296 := by simp; omega
     have hj3 : ∀ b m : Int, ({ s[i] with base := b, lim := m } : Sz) = turn1 r mode s[i] p.1[i] p.2[i] → Run tr ref24_turn_j3 [rowOf eSz s, ints a, rowOf eWn ws, I r, I mode, bools g, B fr, I k, ints p.1, bools p.2, I i, rowOf eSz ((turnL r mode s p.1 p.2).take i), I b, I m] [.loop ref24_turn_l0 [rowOf eSz s, ints a, rowOf eWn ws, I r, I mode, bools g, B fr], .loop ref24_turn_l2 [rowOf eSz s, ints a, rowOf eWn ws, I r, I mode, bools g, B fr, I k, ints p.1, bools p.2]] [rowOf eSz (turnL r mode s p.1 p.2)] := by
      intro b m he
      have ih' := ih2 hj
      rw [← take_snoc (a := turnL r mode s p.1 p.2) (i := i) (by omega) (v := { s[i] with base := b, lim := m }) (by rw [hta, he])] at ih'
      rw [u_ref24_turn_j3]
      simp (disch := first | omega | (simp only [ln0]; omega)) only [rs, reduceIte, Nat.reduceAdd, hj, sz_at0, sz_at1, sz_at2, sz_at3, sz_at4, sz_at5, sz_at6, sz_snoc, sz_set, sz_put5, sz_put6, hlen]
      first | exact ih' | exact ⟨by omega, ih'⟩ | exact ⟨by simp; omega, ih'⟩
     simp (disch := first | omega | (simp only [ln0]; omega)) only [rs, reduceIte, Nat.reduceAdd, hj]
     by_cases h4 : r < 4
     · rw [br_pos h4]
       simp (disch := first | omega | (simp only [ln0]; omega)) only [rs, reduceIte, Nat.reduceAdd, hj, hi1, sz_at0, sz_at1, sz_at2, sz_at3, sz_at4, sz_at5, sz_at6, sz_snoc, sz_set, sz_put5, sz_put6, on_ar, ar_add]
       exact hj3 _ _ (by unfold turn1; rw [if_pos h4])
     · rw [br_neg h4]
       have hj4 : ∀ c : Bool, c = (p.2[i] && ofR r mode s[i]) → Run tr ref24_turn_j4 [rowOf eSz s, ints a, rowOf eWn ws, I r, I mode, bools g, B fr, I k, ints p.1, bools p.2, I i, rowOf eSz ((turnL r mode s p.1 p.2).take i), B c] [.loop ref24_turn_l0 [rowOf eSz s, ints a, rowOf eWn ws, I r, I mode, bools g, B fr], .loop ref24_turn_l2 [rowOf eSz s, ints a, rowOf eWn ws, I r, I mode, bools g, B fr, I k, ints p.1, bools p.2], .join ref24_turn_j3 [rowOf eSz s, ints a, rowOf eWn ws, I r, I mode, bools g, B fr, I k, ints p.1, bools p.2, I i, rowOf eSz ((turnL r mode s p.1 p.2).take i)]] [rowOf eSz (turnL r mode s p.1 p.2)] := by
        intro c hc
        rw [u_ref24_turn_j4]
        simp (disch := first | omega | (simp only [ln0]; omega)) only [rs, reduceIte, Nat.reduceAdd, hj]
        cases c with
        | true =>
         rw [br_pos rfl]
         have hc' : p.2[i] = true ∧ ofR r mode s[i] = true := by rw [← Bool.and_eq_true]; exact hc.symm
         simp (disch := first | omega | (simp only [ln0]; omega)) only [rs, reduceIte, Nat.reduceAdd, hj, hi1, sz_at0, sz_at1, sz_at2, sz_at3, sz_at4, sz_at5, sz_at6, sz_snoc, sz_set, sz_put5, sz_put6, xcall_of hz, on_ar, ar_add]
         exact hj3 _ _ (by unfold turn1; rw [if_neg h4, if_pos hc'])
        | false =>
         rw [br_neg (by simp)]
         have hc' : ¬ (p.2[i] = true ∧ ofR r mode s[i] = true) := by rw [← Bool.and_eq_true, ← hc]; simp
         simp (disch := first | omega | (simp only [ln0]; omega)) only [rs, reduceIte, Nat.reduceAdd, hj, sz_at0, sz_at1, sz_at2, sz_at3, sz_at4, sz_at5, sz_at6, sz_snoc, sz_set, sz_put5, sz_put6]
         exact hj3 _ _ (by unfold turn1; rw [if_neg h4, if_neg hc'])
       simp (disch := first | omega | (simp only [ln0]; omega)) only [rs, reduceIte, Nat.reduceAdd, hi2]
       by_cases hp : p.2[i] = true
       · rw [br_pos hp]
         simp (disch := first | omega | (simp only [ln0]; omega)) only [rs, reduceIte, Nat.reduceAdd, hj, sz_at0, sz_at1, sz_at2, sz_at3, sz_at4, sz_at5, sz_at6, sz_snoc, sz_set, sz_put5, sz_put6, xcall_of hof]
         exact hj4 _ (by rw [hp, Bool.true_and])
       · rw [br_neg hp]
         exact hj4 false (by rw [Bool.not_eq_true] at hp; rw [hp, Bool.false_and])
   · obtain rfl : i = s.length := by omega
     simp (disch := first | omega | (simp only [ln0]; omega)) only [rs, reduceIte, Nat.reduceAdd, Nat.lt_irrefl]
     rw [List.take_of_length_le (by omega)]
end Go.Proofs.YtbebnjiolaomdaaGreat.T

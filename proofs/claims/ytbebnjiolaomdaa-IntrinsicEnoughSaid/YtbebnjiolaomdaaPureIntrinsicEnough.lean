/- The plain law of IntrinsicEnough: what the trees come to answers as the statement says. No condition. -/
import Derived.Test.YtbebnjiolaomdaaT
import Derived.Test.YtbebnjiolaomdaaKin0
import Derived.Test.YtbebnjiolaomdaaKeo
set_option linter.unusedVariables false
set_option linter.unusedSimpArgs false
set_option maxRecDepth 10000
namespace Go.Proofs.Ytbebnjiolaomdaa
open Go Go.Proofs.Ytbebnjiolaomdaa.Sx Go.Proofs.Ytbebnjiolaomdaa.M Go.Proofs.Ytbebnjiolaomdaa.T
theorem light_sp (s : List Sz) (a : List Int) (ws : List Wn) : Says tr c_law24_light [rowOf eSz s, ints a, rowOf eWn ws] [B (decide (s.length ≤ 60) && decide (a.length ≤ 60) && decide (ws.length ≤ 60))] := by
 refine Says.of (t := law24_light) rfl ?_
 rw [u_law24_light]
 have h : ∀ x : Nat, decide ((x : Int) ≤ 60) = decide (x ≤ 60) := fun x => by rw [decide_eq_decide]; omega
 simp (disch := first | omega | (simp only [ln0]; omega)) only [rs, reduceIte, Nat.reduceAdd, h]
theorem take_cut {α : Type} (l : List α) {f i : Nat} (h : f ≤ i) (hi : i < l.length) : (l.drop f).take (i + 1 - f) = (l.drop f).take (i - f) ++ [l[i]] := by
 rw [show i + 1 - f = (i - f) + 1 by omega, List.take_succ_eq_append_getElem (by simp; omega)]
 simp [show f + (i - f) = i by omega]
theorem sumZ_app (a b : List Sz) : sumZ ownB (a ++ b) = sumZ ownB a + sumZ ownB b := by
 rw [sumZ_tot, sumZ_tot, sumZ_tot, List.map_append, tot_append]
theorem sumZ_in : ∀ (l : List Sz), (∀ x ∈ l, Bd x) → 0 ≤ sumZ ownB l ∧ sumZ ownB l ≤ 1125899906842624 * l.length
 | [], _ => by simp [sumZ]
 | x :: l, h => by
  have h1 := ownB_in h x (by simp)
  have h2 := sumZ_in l (fun y hy => h y (by simp [hy]))
  simp only [sumZ, List.length_cons]
  omega
theorem tot_in : ∀ (l : List Int), (∀ x ∈ l, 0 ≤ x ∧ x ≤ 68719476736) → 0 ≤ tot l ∧ tot l ≤ 68719476736 * l.length
 | [], _ => by simp [tot]
 | x :: l, h => by
  have h1 := h x (by simp)
  have h2 := tot_in l (fun y hy => h y (by simp [hy]))
  simp only [tot, List.length_cons]
  omega
theorem PureIntrinsicEnough : Pure_IntrinsicEnough := by
 intro p0 p1 p2 p3 hp0 _ hb0 hp1 hw1 hb1 hp2 hw2 hb2 hp3 hw3
 obtain ⟨s, rfl⟩ := sz_open hp0
 obtain ⟨a, rfl⟩ := ints_open hp1
 obtain ⟨ws, rfl⟩ := wn_open hp2
 obtain ⟨mode, rfl⟩ := int_open hp3
 refine Says.told (tr := tr) (f := c_law24_IntrinsicEnough) (args := [rowOf eSz s, ints a, rowOf eWn ws, I mode]) ?_
 refine Says.of (t := law24_IntrinsicEnough) rfl ?_
 rw [u_law24_IntrinsicEnough]
 simp (disch := first | omega | (simp only [ln0]; omega)) only [rs, reduceIte, Nat.reduceAdd, xcall_of (light_sp s a ws), xcall_of lives_sp, bx, reduceCtorEq, forall_const, ne_eq]
 refine br_split ?_ ?_ <;> intro _
 · rename_i hlen
   have hs : s.length ≤ 60 := by omega
   have ha : a.length ≤ 60 := by omega
   have hwl : ws.length ≤ 60 := by omega
   simp (disch := first | omega | (simp only [ln0]; omega)) only [rs, reduceIte, Nat.reduceAdd, xcall_of (isize_sp s a ws mode (by omega) (by omega)), bx, reduceCtorEq, forall_const, ne_eq]
   unfold sizeR
   by_cases hg : goodI s a ws mode = true
   · rw [if_pos hg]
     obtain ⟨hf, hb⟩ := good_fit hg hs
     have hu := sizeS_up hf hb (decide (mode ≠ 0)) (decide (mode = 2))
     have he := fun w hw => size_enough (w := w) hg hs (decide (mode ≠ 0)) (decide (mode = 2)) hw
     have hul := hu.1
     have hbd := hu.bd
     have hu2 := hu.2
     have hal := hf.ha
     simp only
     generalize sizeS s a ws (decide (mode ≠ 0)) (decide (mode = 2)) = R at *
     rw [br_neg (by simp [hul])]
     generalize (decide (s.length ≤ 60) && decide (a.length ≤ 60) && decide (ws.length ≤ 60)) = lb at *
     have key : ∀ k, k ≤ ws.length → Run tr law24_IntrinsicEnough_l0 [rowOf eSz s, ints a, rowOf eWn ws, I mode, B lb, rowOf eSz R, I 0, I k] [.loop law24_IntrinsicEnough_l0 [rowOf eSz s, ints a, rowOf eWn ws, I mode, B lb, rowOf eSz R, I 0]] [B true] := by
      refine xup_ind fun k hk ih => ?_
      rw [u_law24_IntrinsicEnough_l0]
      by_cases h : k < ws.length
      · have ih' := ih h
        have hwm := List.getElem_mem h
        obtain ⟨i0, i1, i2⟩ := hf.hi _ hwm
        have hew := he ws[k] hwm
        obtain ⟨f, hfm⟩ : ∃ f : Nat, ws[k].fm = f := ⟨ws[k].fm.toNat, by omega⟩
        obtain ⟨t, hto⟩ : ∃ t : Nat, ws[k].to = t := ⟨ws[k].to.toNat, by omega⟩
        have hft : f < t := by omega
        have hts : t ≤ s.length := by omega
        simp (disch := first | omega | (simp only [ln0]; omega)) only [rs, reduceIte, Nat.reduceAdd, h, wn_at0, wn_at1, hfm]
        have key2 := xup_ind (n := t) (P := fun i => f ≤ i → Run tr law24_IntrinsicEnough_l1 [rowOf eSz s, ints a, rowOf eWn ws, I mode, B lb, rowOf eSz R, I 0, I k, I i, B (((R.drop f).take (i - f)).any isFr), B (((R.drop f).take (i - f)).any of1), I (sumZ ownB ((R.drop f).take (i - f)) + tot ((a.drop (f + 1)).take (i - (f + 1))))] [.loop law24_IntrinsicEnough_l0 [rowOf eSz s, ints a, rowOf eWn ws, I mode, B lb, rowOf eSz R, I 0], .loop law24_IntrinsicEnough_l1 [rowOf eSz s, ints a, rowOf eWn ws, I mode, B lb, rowOf eSz R, I 0, I k]] [B true]) ?_ f (by omega)
        · have := key2 (Nat.le_refl _)
          rw [Nat.sub_self, show f - (f + 1) = 0 by omega, List.take_zero, List.take_zero] at this
          simpa [sumZ, tot] using this
        intro i hi ih2 hfi
        rw [u_law24_IntrinsicEnough_l1]
        by_cases hit : i < t
        · have hiR : i < R.length := by omega
          have hia : i < a.length := by omega
          have ih2' := ih2 hit (by omega)
          rw [take_cut R hfi hiR, List.any_append, List.any_append, sumZ_app] at ih2'
          have hS := sumZ_in ((R.drop f).take (i - f)) (fun x hx => hbd x (List.mem_of_mem_drop (List.mem_of_mem_take hx)))
          have hG := tot_in ((a.drop (f + 1)).take (i - (f + 1))) (fun x hx => hf.hg x (List.mem_of_mem_drop (List.mem_of_mem_take hx)))
          have hSl : ((R.drop f).take (i - f)).length ≤ 60 := by simp; omega
          have hGl : ((a.drop (f + 1)).take (i - (f + 1))).length ≤ 60 := by simp; omega
          have hRb := hbd _ (List.getElem_mem hiR)
          have hai := hf.hg _ (List.getElem_mem hia)
          unfold Bd at hRb
          have e5 : (R[i].mx == 5) = isFr R[i] := by simp only [isFr]; by_cases h5 : R[i].mx = 5 <;> simp [h5]
          have e1 : (R[i].mn != 1) = of1 R[i] := by simp only [of1]; by_cases h5 : R[i].mn = 1 <;> simp [h5]
          have hc : (i : Int) < (t : Int) := by omega
          simp only [List.any_cons, List.any_nil, Bool.or_false, sumZ, ownB, Int.add_zero] at ih2'
          simp (disch := first | omega | (simp only [ln0]; omega)) only [rs, reduceIte, Nat.reduceAdd, h, wn_at0, wn_at1, hfm, hto, hc, hiR, sz_at0, sz_at1, sz_at2, sz_at3, sz_at4, sz_at5, sz_at6, sz_snoc, sz_set, sz_put5, sz_put6, gt_iff_lt, e5, e1]
          by_cases hfi2 : f < i
          · rw [br_pos hfi2]
            have eg : tot ((a.drop (f + 1)).take (i + 1 - (f + 1))) = tot ((a.drop (f + 1)).take (i - (f + 1))) + a[i] := by
             rw [take_cut a (by omega) hia, tot_append]
             simp [tot]
            rw [eg] at ih2'
            have eo : sumZ ownB ((R.drop f).take (i - f)) + R[i].base + (tot ((a.drop (f + 1)).take (i - (f + 1))) + a[i]) = sumZ ownB ((R.drop f).take (i - f)) + tot ((a.drop (f + 1)).take (i - (f + 1))) + R[i].base + a[i] := by omega
            rw [eo] at ih2'
            simp (disch := first | omega | (simp only [ln0]; omega)) only [rs, reduceIte, Nat.reduceAdd, hiR, hia, sz_at0, sz_at1, sz_at2, sz_at3, sz_at4, sz_at5, sz_at6, sz_snoc, sz_set, sz_put5, sz_put6, u_law24_IntrinsicEnough_j2, e5, e1]
            exact ih2'
          · rw [br_neg hfi2]
            obtain rfl : i = f := by omega
            have eg : tot ((a.drop (i + 1)).take (i + 1 - (i + 1))) = tot ((a.drop (i + 1)).take (i - (i + 1))) := by
             rw [show i + 1 - (i + 1) = i - (i + 1) by omega]
            rw [eg] at ih2'
            have eo : sumZ ownB ((R.drop i).take (i - i)) + R[i].base + tot ((a.drop (i + 1)).take (i - (i + 1))) = sumZ ownB ((R.drop i).take (i - i)) + tot ((a.drop (i + 1)).take (i - (i + 1))) + R[i].base := by omega
            rw [eo] at ih2'
            simp (disch := first | omega | (simp only [ln0]; omega)) only [rs, reduceIte, Nat.reduceAdd, hiR, sz_at0, sz_at1, sz_at2, sz_at3, sz_at4, sz_at5, sz_at6, sz_snoc, sz_set, sz_put5, sz_put6, u_law24_IntrinsicEnough_j2, e5, e1]
            exact ih2'
        · obtain rfl : i = t := by omega
          have hc : ¬ (i : Int) < (i : Int) := by omega
          simp (disch := first | omega | (simp only [ln0]; omega)) only [rs, reduceIte, Nat.reduceAdd, h, wn_at1, wn_at2, wn_at3, wn_at4, hto, hc, bx, reduceCtorEq, forall_const, ne_eq]
          rw [br_neg ?_]
          · exact ih'
          · rintro ⟨⟨⟨⟨hgr, hfl⟩, ho1⟩, ho2⟩, hlt⟩
            have hgw : growW s ws[k] := by
             rw [List.any_eq_true] at hgr
             obtain ⟨x, hx, hx1⟩ := hgr
             obtain ⟨j, hj, rfl⟩ := List.mem_iff_getElem.1 hx
             have hjl : j < i - f := by simp at hj; omega
             have hjs : f + j < s.length := by omega
             have hjR : f + j < R.length := by omega
             refine ⟨f + j, by omega, by omega, ?_⟩
             rw [atS_lt hjs]
             have hk1 := (hu2 (f + j) hjs hjR).1
             simp only [List.getElem_take, List.getElem_drop] at hx1
             simpa [of1, hk1] using hx1
            have hfw : flexW s ws[k] = false := by
             unfold flexW
             rw [hfm, hto]
             simp only [Int.toNat_natCast]
             rw [Bool.eq_false_iff]
             intro hh
             rw [List.any_eq_true] at hh
             obtain ⟨x, hx, hx1⟩ := hh
             obtain ⟨j, hj, rfl⟩ := List.mem_iff_getElem.1 hx
             have hjl : j < i - f := by simp at hj; omega
             have hjs : f + j < s.length := by omega
             have hjR : f + j < R.length := by omega
             have hk1 := (hu2 (f + j) hjs hjR).2.1
             simp only [List.getElem_take, List.getElem_drop] at hx1
             have : ((R.drop f).take (i - f)).any isFr = true := by
              rw [List.any_eq_true]
              refine ⟨R[f + j], ?_, by simpa [isFr, hk1] using hx1⟩
              rw [List.mem_iff_getElem]
              exact ⟨j, by simp; omega, by simp⟩
             rw [this] at hfl
             cases hfl
            have hfin := hew hgw hfw ⟨ho1, ho2⟩
            have hgp := (gaps_in hf ws[k]).2.2
            unfold baseW at hfin
            rw [hgp] at hfin
            simp only [hfm, hto, Int.toNat_natCast] at hfin
            omega
      · simp (disch := first | omega | (simp only [ln0]; omega)) only [rs, reduceIte, Nat.reduceAdd, h, xcall_of lives_sp]
     exact key 0 (Nat.zero_le _)
   · rw [if_neg hg]
     simp only
     rw [br_pos (by simp)]
     simp (disch := first | omega | (simp only [ln0]; omega)) only [rs, reduceIte, Nat.reduceAdd, bx, reduceCtorEq, forall_const, ne_eq, xcall_of lives_sp]
     try rw [br_pos (by simp)]
     try trivial
 · trivial
end Go.Proofs.Ytbebnjiolaomdaa

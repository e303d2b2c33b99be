/- What the sizer's tree comes to, whole: wants are put together by how many they span. No condition beyond what each states. -/
import Derived.Test.YtbebnjiolaomdaaT
import Derived.Test.YtbebnjiolaomdaaKsb
set_option linter.unusedVariables false
set_option linter.unusedSimpArgs false
set_option maxRecDepth 100000
namespace Go.Proofs.Ytbebnjiolaomdaa.T
open Go Go.Proofs.Ytbebnjiolaomdaa.Sx Go.Proofs.Ytbebnjiolaomdaa.M
theorem wn_snoc (l : List Wn) (a b c d e : Int) : PV.row (l.map eWn ++ [[I a, I b, I c, I d, I e]]) = rowOf eWn (l ++ [⟨a, b, c, d, e⟩]) := xmap_snoc l _ rfl
theorem grp_take {s : List Sz} {ws : List Wn} {k : Nat} (h : k < ws.length) (n : Int) : grp s (ws.take (k + 1)) n = grp s (ws.take k) n ++ (if flexW s ws[k] = false ∧ 1 < n ∧ ws[k].to - ws[k].fm = n then [ws[k]] else []) := by
 rw [List.take_succ_eq_append_getElem h]
 simp only [grp, List.filter_append, List.filter_cons, List.filter_nil, Bool.and_eq_true, Bool.not_eq_true', decide_eq_true_eq]
 congr 1
 by_cases hc : flexW s ws[k] = false ∧ 1 < n ∧ ws[k].to - ws[k].fm = n
 · rw [if_pos hc, if_pos ⟨⟨hc.1, hc.2.1⟩, hc.2.2⟩]
 · rw [if_neg hc, if_neg (fun hh => hc ⟨hh.1.1, hh.1.2, hh.2⟩)]
theorem flex_take {s : List Sz} {ws : List Wn} {k : Nat} (h : k < ws.length) : (ws.take (k + 1)).filter (flexW s) = (ws.take k).filter (flexW s) ++ (if flexW s ws[k] = true then [ws[k]] else []) := by
 rw [List.take_succ_eq_append_getElem h, List.filter_append]
 simp only [List.filter_cons, List.filter_nil]
section
variable {ws : List Wn} {s S1 : List Sz} {a : List Int} {mode : Int}
theorem l12_run (h : Ask s a ws) (hS : S1.length = s.length) (x4 x5 x6 x7 x8 x9 x10 x11 x12 : PV) (J1 J2 : JT) :
    Run tr intrinsic_Size_l12 [rowOf eSz s, ints a, rowOf eWn ws, I mode, x4, x5, x6, x7, x8, x9, x10, x11, x12, rowOf eSz S1, I (0 : Nat), ints [], rowOf eWn [], PV.row []] [J1, J2, .loop intrinsic_Size_l12 [rowOf eSz s, ints a, rowOf eWn ws, I mode, x4, x5, x6, x7, x8, x9, x10, x11, x12, rowOf eSz S1]]
     [rowOf eSz (flexS (spansS a (decide (mode ≠ 0)) (decide (mode = 2)) (grp s ws) (spanL s ws) S1) a (ws.filter (flexW s)) (decide (mode ≠ 0)) (decide (mode = 2))), I 0] := by
 have hs := h.hs
 have hwl := h.hw
 generalize hres : [rowOf eSz (flexS (spansS a (decide (mode ≠ 0)) (decide (mode = 2)) (grp s ws) (spanL s ws) S1) a (ws.filter (flexW s)) (decide (mode ≠ 0)) (decide (mode = 2))), I 0] = res
 have key := xup_ind (n := ws.length) (P := fun k => ∀ (spans : List Int) (M : List (List PV)), spans.length ≤ k → M.length ≤ k → spans.Nodup → (∀ n, n ∈ spans ↔ grp s (ws.take k) n ≠ []) → (∀ n, mapGetR M n = (grp s (ws.take k) n).map eWn) →
  Run tr intrinsic_Size_l12 [rowOf eSz s, ints a, rowOf eWn ws, I mode, x4, x5, x6, x7, x8, x9, x10, x11, x12, rowOf eSz S1, I k, ints spans, rowOf eWn ((ws.take k).filter (flexW s)), PV.row M] [J1, J2, .loop intrinsic_Size_l12 [rowOf eSz s, ints a, rowOf eWn ws, I mode, x4, x5, x6, x7, x8, x9, x10, x11, x12, rowOf eSz S1]] res) ?_ 0 (Nat.zero_le _)
 · exact key [] [] (by simp) (by simp) (by simp) (by simp [grp]) (by simp [grp, mapGetR])
 intro k hk ih spans M hsl hMl hnd hmem hM
 rw [u_intrinsic_Size_l12]
 by_cases hx : k < ws.length
 · obtain ⟨hi0, hi1, hi2⟩ := h.hi _ (List.getElem_mem hx)
   obtain ⟨fm, hf⟩ : ∃ f : Nat, ws[k].fm = f := ⟨ws[k].fm.toNat, by omega⟩
   obtain ⟨t, ht⟩ : ∃ t : Nat, ws[k].to = t := ⟨ws[k].to.toNat, by omega⟩
   have hfl : ((ws.take k).filter (flexW s)).length ≤ k := Nat.le_trans (List.length_filter_le _ _) (by simp; omega)
   have hgl : ∀ n, (grp s (ws.take k) n).length ≤ k := fun n => Nat.le_trans (List.length_filter_le _ _) (by simp; omega)
   have ihk := ih hx
   have hgt := grp_take (s := s) hx
   have hft := flex_take (s := s) hx
   have hwe : (⟨(fm : Int), (t : Int), ws[k].least, ws[k].mn, ws[k].mx⟩ : Wn) = ws[k] := by rw [← hf, ← ht]
   have hflex : flexW s ws[k] = ((s.drop fm).take (t - fm)).any isFr := by simp [flexW, hf, ht]
   have hj14 : ∀ (i : Int) (J3 : JT), decide (0 ≤ i) = flexW s ws[k] → J3 = .join intrinsic_Size_j13 [rowOf eSz s, ints a, rowOf eWn ws, I mode, x4, x5, x6, x7, x8, x9, x10, x11, x12, rowOf eSz S1, I k, ints spans, rowOf eWn ((ws.take k).filter (flexW s)), PV.row M] →
       Run tr intrinsic_Size_j14 [rowOf eSz s, ints a, rowOf eWn ws, I mode, x4, x5, x6, x7, x8, x9, x10, x11, x12, rowOf eSz S1, I k, ints spans, rowOf eWn ((ws.take k).filter (flexW s)), PV.row M, I i] [J1, J2, .loop intrinsic_Size_l12 [rowOf eSz s, ints a, rowOf eWn ws, I mode, x4, x5, x6, x7, x8, x9, x10, x11, x12, rowOf eSz S1], J3] res := by
    intro i J3 hi hJ3
    subst hJ3
    rw [u_intrinsic_Size_j14]
    simp (disch := first | omega | (simp only [ln0]; omega)) only [rs, reduceIte, Nat.reduceAdd, ge_iff_le]
    by_cases h0 : 0 ≤ i
    · rw [br_pos h0]
      have hfx : flexW s ws[k] = true := by rw [← hi]; exact decide_eq_true h0
      have hno : ∀ n, ¬ (flexW s ws[k] = false ∧ 1 < n ∧ ws[k].to - ws[k].fm = n) := fun n hh => by rw [hfx] at hh; cases hh.1
      simp only [hno, if_false, List.append_nil] at hgt
      rw [if_pos hfx] at hft
      have hlen2 : (((ws.take k).filter (flexW s)).length : Int) + 1 ≤ 4294967296 := by omega
      have ih' := ihk spans M (by omega) (by omega) hnd (by simp only [hgt]; exact hmem) (by simp only [hgt]; exact hM)
      rw [hft, ← hwe] at ih'
      simp (disch := first | omega | (simp only [ln0]; omega)) only [rs, reduceIte, Nat.reduceAdd, wn_at0, wn_at1, wn_at2, wn_at3, wn_at4, wn_snoc, hx, hf, ht, hlen2, u_intrinsic_Size_j13]
      first | exact ih' | exact ⟨by omega, ih'⟩
    · rw [br_neg h0]
      have hfx : flexW s ws[k] = false := by rw [← hi]; exact decide_eq_false h0
      rw [if_neg (by rw [hfx]; simp), List.append_nil] at hft
      simp (disch := first | omega | (simp only [ln0]; omega)) only [rs, reduceIte, Nat.reduceAdd, wn_at0, wn_at1, wn_at2, wn_at3, wn_at4, hx, hf, ht, gt_iff_lt]
      have hd : IntKind.i64.wrap ((t : Int) - (fm : Int)) = (t : Int) - (fm : Int) := wrap_in (by omega) (by omega)
      by_cases h1 : 1 < (t : Int) - (fm : Int)
      · first | rw [br_pos h1] | (rw [hd]; rw [br_pos h1])
        have b1 : (-9223372036854775808 : Int) ≤ (t : Int) - (fm : Int) := by omega
        have b2 : (t : Int) - (fm : Int) ≤ (9223372036854775807 : Int) := by omega
        have hget : BO.rget.on (PV.row M) (I ((t : Int) - (fm : Int))) = rowOf eWn (grp s (ws.take k) ((t : Int) - (fm : Int))) := by
         show PV.row (mapGetR M ((t : Int) - (fm : Int))) = _
         rw [hM]
         rfl
        have hgd := hgl ((t : Int) - (fm : Int))
        have hM' : ∀ n, mapGetR ([I ((t : Int) - (fm : Int)), rowOf eWn (grp s (ws.take k) ((t : Int) - (fm : Int)) ++ [ws[k]])] :: M) n = (grp s (ws.take (k + 1)) n).map eWn := by
         intro n
         rw [hgt n]
         show (if ((t : Int) - (fm : Int)) = n then _ else mapGetR M n) = _
         by_cases hn : (t : Int) - (fm : Int) = n
         · subst hn
           rw [if_pos rfl, if_pos ⟨hfx, h1, by rw [hf, ht]⟩]
           rfl
         · rw [if_neg hn, if_neg (fun hh => hn (by rw [← hf, ← ht]; exact hh.2.2)), List.append_nil, hM]
        have hj15 : ∀ sp' : List Int, sp'.length ≤ k + 1 → sp'.Nodup → (∀ n, n ∈ sp' ↔ grp s (ws.take (k + 1)) n ≠ []) →
            Run tr intrinsic_Size_j15 [rowOf eSz s, ints a, rowOf eWn ws, I mode, x4, x5, x6, x7, x8, x9, x10, x11, x12, rowOf eSz S1, I k, ints spans, rowOf eWn ((ws.take k).filter (flexW s)), PV.row M, I i, ints sp'] [J1, J2, .loop intrinsic_Size_l12 [rowOf eSz s, ints a, rowOf eWn ws, I mode, x4, x5, x6, x7, x8, x9, x10, x11, x12, rowOf eSz S1], .join intrinsic_Size_j13 [rowOf eSz s, ints a, rowOf eWn ws, I mode, x4, x5, x6, x7, x8, x9, x10, x11, x12, rowOf eSz S1, I k, ints spans, rowOf eWn ((ws.take k).filter (flexW s)), PV.row M]] res := by
         intro sp' h1' h2' h3'
         have ih' := ihk sp' _ h1' (by simp; omega) h2' h3' hM'
         rw [hft, ← hwe] at ih'
         have c1 : (((grp s (ws.take k) ((t : Int) - (fm : Int))).length : Int) + 1 ≤ 4294967296) := by omega
         have c2 : ((M.length : Int) ≤ 4294967296) := by omega
         have emp : BO.mput.on (PV.row M) (PV.cells [I ((t : Int) - (fm : Int)), rowOf eWn (grp s (ws.take k) ((t : Int) - (fm : Int)) ++ [⟨(fm : Int), (t : Int), ws[k].least, ws[k].mn, ws[k].mx⟩])]) = PV.row ([I ((t : Int) - (fm : Int)), rowOf eWn (grp s (ws.take k) ((t : Int) - (fm : Int)) ++ [⟨(fm : Int), (t : Int), ws[k].least, ws[k].mn, ws[k].mx⟩])] :: M) := rfl
         rw [u_intrinsic_Size_j15]
         simp (disch := first | omega | (simp only [ln0]; omega)) only [rs, reduceIte, Nat.reduceAdd, wn_at0, wn_at1, wn_at2, wn_at3, wn_at4, hx, hf, ht, b1, b2, hget, c1, c2, wn_snoc, emp, u_intrinsic_Size_j13]
         first | exact ih' | exact ⟨by omega, ih'⟩ | exact ⟨by omega, by omega, ih'⟩
        simp (disch := first | omega | (simp only [ln0]; omega)) only [rs, reduceIte, Nat.reduceAdd, wn_at0, wn_at1, wn_at2, wn_at3, wn_at4, hx, hf, ht, b1, b2, hget, beq_iff_eq]
        have hmem' : ∀ n, (n ∈ spans ∨ n = (t : Int) - (fm : Int)) ↔ grp s (ws.take (k + 1)) n ≠ [] := by
         intro n
         rw [hgt n, hmem]
         by_cases hn : (t : Int) - (fm : Int) = n
         · subst hn
           rw [if_pos ⟨hfx, h1, by rw [hf, ht]⟩]
           simp
         · rw [if_neg (fun hh => hn (by rw [← hf, ← ht]; exact hh.2.2)), List.append_nil]
           constructor
           · rintro (hh | hh)
             · exact hh
             · exact absurd hh.symm hn
           · exact Or.inl
        refine br_split ?_ ?_ <;> intro _
        · rename_i he
          have hnil : grp s (ws.take k) ((t : Int) - (fm : Int)) = [] := List.length_eq_zero_iff.1 (by omega)
          have hnin : ¬ ((t : Int) - (fm : Int)) ∈ spans := fun hh => (hmem _).1 hh hnil
          have c3 : (spans.length : Int) + 1 ≤ 4294967296 := by omega
          have hgo := hj15 (spans ++ [(t : Int) - (fm : Int)]) (by simp; omega) (by
           rw [List.nodup_append]
           exact ⟨hnd, by simp, fun x hx y hy => by simp only [List.mem_singleton] at hy; subst hy; intro hxy; subst hxy; exact hnin hx⟩) (fun n => by rw [← hmem' n]; simp)
          first | exact hgo | exact ⟨by omega, hgo⟩
        · rename_i he
          have hne : grp s (ws.take k) ((t : Int) - (fm : Int)) ≠ [] := fun hh => he (by rw [hh]; rfl)
          have hin := (hmem _).2 hne
          exact hj15 spans (by omega) hnd (fun n => by
           rw [← hmem' n]
           constructor
           · exact Or.inl
           · rintro (hh | hh)
             · exact hh
             · rw [hh]; exact hin)
      · first | rw [br_neg h1] | (rw [hd]; rw [br_neg h1])
        have hno : ∀ n, ¬ (flexW s ws[k] = false ∧ 1 < n ∧ ws[k].to - ws[k].fm = n) := fun n hh => by rw [hf, ht] at hh; omega
        simp only [hno, if_false, List.append_nil] at hgt
        have ih' := ihk spans M (by omega) (by omega) hnd (by simp only [hgt]; exact hmem) (by simp only [hgt]; exact hM)
        rw [hft] at ih'
        simp (disch := first | omega | (simp only [ln0]; omega)) only [rs, reduceIte, Nat.reduceAdd, u_intrinsic_Size_j13]
        exact ih'
   simp (disch := first | omega | (simp only [ln0]; omega)) only [rs, reduceIte, Nat.reduceAdd, wn_at0, wn_at1, hx, hf, ht]
   refine ⟨by omega, by omega, ?_⟩
   generalize hc : (s.drop fm).take (t - fm) = c at *
   have ec : ((s.map eSz).drop fm).take ((t : Int) - (fm : Int)).toNat = c.map eSz := by
    rw [row_cut, ← hc]
    congr 2; omega
   have hcl : c.length ≤ 1000000 := by rw [← hc]; simp; omega
   have key2 := xup_ind (n := c.length) (P := fun j => flexW s ws[k] = (c.drop j).any isFr → Run tr intrinsic_Size_l16 [rowOf eSz s, ints a, rowOf eWn ws, I mode, x4, x5, x6, x7, x8, x9, x10, x11, x12, rowOf eSz S1, I k, ints spans, rowOf eWn ((ws.take k).filter (flexW s)), PV.row M, I j] [J1, J2, .loop intrinsic_Size_l12 [rowOf eSz s, ints a, rowOf eWn ws, I mode, x4, x5, x6, x7, x8, x9, x10, x11, x12, rowOf eSz S1], .join intrinsic_Size_j13 [rowOf eSz s, ints a, rowOf eWn ws, I mode, x4, x5, x6, x7, x8, x9, x10, x11, x12, rowOf eSz S1, I k, ints spans, rowOf eWn ((ws.take k).filter (flexW s)), PV.row M], .join intrinsic_Size_j14 [rowOf eSz s, ints a, rowOf eWn ws, I mode, x4, x5, x6, x7, x8, x9, x10, x11, x12, rowOf eSz S1, I k, ints spans, rowOf eWn ((ws.take k).filter (flexW s)), PV.row M], .loop intrinsic_Size_l16 [rowOf eSz s, ints a, rowOf eWn ws, I mode, x4, x5, x6, x7, x8, x9, x10, x11, x12, rowOf eSz S1, I k, ints spans, rowOf eWn ((ws.take k).filter (flexW s)), PV.row M]] res) ?_ 0 (Nat.zero_le _)
   · exact key2 (by simpa using hflex)
   intro j hj ih2 hfx
   rw [u_intrinsic_Size_l16]
   by_cases hj2 : j < c.length
   · rw [List.drop_eq_getElem_cons hj2, List.any_cons] at hfx
     have h1 := sz1_sp c[j]
     simp (disch := first | omega | (simp only [ln0]; omega)) only [rs, reduceIte, Nat.reduceAdd, wn_at0, wn_at1, hx, hf, ht, ec, hj2, sz_at0, sz_at1, sz_at2, sz_at3, sz_at4, sz_at5, sz_at6, sz_snoc, sz_set, sz_put5, sz_put6, xcall_of h1]
     cases hfr : isFr c[j] with
     | true =>
      rw [br_pos rfl]
      exact hj14 (j : Int) _ (by rw [hfx, hfr, decide_eq_true (by omega)]; rfl) rfl
     | false =>
      rw [br_neg (by simp)]
      exact ih2 hj2 (by rw [hfx, hfr, Bool.false_or])
   · rw [List.drop_of_length_le (by omega)] at hfx
     simp (disch := first | omega | (simp only [ln0]; omega)) only [rs, reduceIte, Nat.reduceAdd, wn_at0, wn_at1, hx, hf, ht, ec, hj2]
     exact hj14 (-1) _ (by rw [hfx]; rfl) rfl
 · obtain rfl : k = ws.length := by omega
   rw [List.take_length] at hmem hM ⊢
   have hlen3 : (spans.length : Int) ≤ 4294967296 := by omega
   simp (disch := first | omega | (simp only [ln0]; omega)) only [rs, reduceIte, Nat.reduceAdd, Nat.lt_irrefl, hlen3]
   rw [← hres]
   exact l17_run h hS x4 x5 x6 x7 x8 x9 x10 x11 x12 (I ws.length) spans M hM (sort_is spans hnd _ (spanL_inc s ws) (fun x => by rw [hmem, mem_spanL h.hi])) _ _ _
end
theorem good_ask {s : List Sz} {a : List Int} {ws : List Wn} {mode : Int} (h : goodI s a ws mode = true) (hs : s.length ≤ 50000) : Ask s a ws := by
 simp only [goodI, Bool.and_eq_true, decide_eq_true_eq, List.all_eq_true] at h
 exact ⟨hs, h.1.1.1.1.1.1, by have := h.1.1.1.1.1.2; omega, fun w hw => okW_in (h.2 w hw)⟩
noncomputable def sizeR (s : List Sz) (a : List Int) (ws : List Wn) (mode : Int) : List Sz × Int :=
 if goodI s a ws mode = true then (sizeS s a ws (decide (mode ≠ 0)) (decide (mode = 2)), 0) else ([], 2)
theorem isize_sp (s : List Sz) (a : List Int) (ws : List Wn) (mode : Int) (hs : s.length ≤ 50000) (ha : a.length ≤ 1000000) : Says tr c_intrinsic_Size [rowOf eSz s, ints a, rowOf eWn ws, I mode] [rowOf eSz (sizeR s a ws mode).1, I (sizeR s a ws mode).2] := by
 refine Says.of (t := intrinsic_Size) rfl ?_
 rw [u_intrinsic_Size]
 simp (disch := first | omega | (simp only [ln0]; omega)) only [rs, reduceIte, Nat.reduceAdd, xcall_of (igood_sp s a ws mode (by omega) ha)]
 unfold sizeR
 cases hg : goodI s a ws mode with
 | false =>
  rw [br_neg (by simp), if_neg (by simp)]
  rfl
 | true =>
  rw [br_pos rfl, if_pos rfl]
  have h := good_ask hg hs
  have l1 : (s.length : Int) ≤ 5864062014805 := by omega
  have l2 : (s.length : Int) ≤ 140737488355328 := by omega
  simp (disch := first | omega | (simp only [ln0]; omega)) only [rs, reduceIte, Nat.reduceAdd, xcall_of (clone_sp s (by omega)), l1, l2, bne_iff_ne, ne_eq]
  have j0 : ∀ f : Bool, f = decide (mode ≠ 0) → Run tr intrinsic_Size_j0 [rowOf eSz s, ints a, rowOf eWn ws, I mode, B true, rowOf eSz s, B f] [] [rowOf eSz (sizeS s a ws (decide (mode ≠ 0)) (decide (mode = 2))), I 0] := by
   intro f hf
   have j1 : ∀ m : Bool, m = decide (mode = 2) → Run tr intrinsic_Size_j1 [rowOf eSz s, ints a, rowOf eWn ws, I mode, B true, rowOf eSz s, B f, B m, B m] [] [rowOf eSz (sizeS s a ws (decide (mode ≠ 0)) (decide (mode = 2))), I 0] := by
    intro m hm
    refine l2_run (f := f) (m := m) h (fun x9 J1 J2 J3 => ?_)
    rw [hf]
    exact l12_run h (alS_len _ _ _) _ _ _ _ _ _ _ _ _ _ _
   rw [u_intrinsic_Size_j0]
   simp (disch := first | omega | (simp only [ln0]; omega)) only [rs, reduceIte, Nat.reduceAdd, beq_iff_eq]
   refine br_split ?_ ?_ <;> intro _
   · rename_i h2
     exact j1 true (by rw [decide_eq_true h2])
   · rename_i h2
     exact j1 false (by rw [decide_eq_false h2])
  refine br_split ?_ ?_ <;> intro _
  · rename_i h2
    exact j0 true (by rw [decide_eq_true h2])
  · rename_i h2
    exact j0 false (by rw [decide_eq_false h2])
theorem sizeR_len (s : List Sz) (a : List Int) (ws : List Wn) (mode : Int) (h : goodI s a ws mode = true) : (sizeR s a ws mode).1.length = s.length := by
 unfold sizeR sizeS
 rw [if_pos h]
 simp only [flexS_len, spansS_len, aloneS_len]
end Go.Proofs.Ytbebnjiolaomdaa.T

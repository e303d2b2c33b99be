/- What the document's tree of the sizer comes to. No condition beyond what each states. -/
import Derived.Test.YtbebnjiolaomdaaGreatT
import Derived.Test.YtbebnjiolaomdaaGreatKr3
set_option linter.unusedVariables false
set_option linter.unusedSimpArgs false
set_option maxRecDepth 100000
namespace Go.Proofs.YtbebnjiolaomdaaGreat.T
open Go Go.Proofs.YtbebnjiolaomdaaGreat.Sx Go.Proofs.YtbebnjiolaomdaaGreat.M
noncomputable def nowR (s : List Sz) (a : List Int) (ws : List Wn) (mode : Int) (i : Nat) : Sz :=
 if (atS s i).mx = 5 then atS s i else oneR (atS s i) (topAt (wantedR s a 1 mode) i ws (⟨0, 0, 0⟩, false)).1 (topAt (wantedR s a 1 mode) i ws (⟨0, 0, 0⟩, false)).2
noncomputable def nowL (s : List Sz) (a : List Int) (ws : List Wn) (mode : Int) : List Sz := (List.range s.length).map (nowR s a ws mode)
theorem nowL_len (s a ws mode) : (nowL s a ws mode).length = s.length := by simp [nowL]
theorem nowL_at (s : List Sz) (a : List Int) (ws : List Wn) (mode : Int) (i : Nat) (h : i < (nowL s a ws mode).length) : (nowL s a ws mode)[i] = nowR s a ws mode i := by simp [nowL]
noncomputable def spanR (s : List Sz) (a : List Int) (ws : List Wn) (mode : Int) : Nat → Nat → List Sz → List Sz
 | 0, _, S => S
 | c + 1, d, S => spanR s a ws mode c (d + 1) (if (grp s ws (d : Int)).length = 0 then S else sevR S a (grp s ws (d : Int)) mode)
theorem spanR_len (s a ws mode) : ∀ (c d : Nat) (S : List Sz), (spanR s a ws mode c d S).length = S.length
 | 0, _, _ => rfl
 | c + 1, d, S => by
  simp only [spanR]
  rw [spanR_len s a ws mode c]
  split
  · rfl
  · rw [sevR_len]
noncomputable def sizeR24 (s : List Sz) (a : List Int) (ws : List Wn) (mode : Int) : List Sz :=
 ((turns3 (spanR s a ws mode (s.length - 1) 2 (nowL s a ws mode)) a (ws.filter (flexW s)) mode (List.replicate s.length false) true).map raise1).map end1
theorem rsize_size (s : List Sz) (a : List Int) (ws : List Wn) (mode : Int) (hs : s.length ≤ 50000) (ha : a.length ≤ 1000000) (hwl : ws.length ≤ 1000000) :
    Says tr c_ref24_Size [rowOf eSz s, ints a, rowOf eWn ws, I mode] [rowOf eSz (if goodI s a ws mode = true then sizeR24 s a ws mode else []), I (if goodI s a ws mode = true then 0 else 2)] := by
 refine Says.of (t := ref24_Size) rfl ?_
 rw [u_ref24_Size]
 simp (disch := first | omega | (simp only [ln0]; omega)) only [rs, reduceIte, Nat.reduceAdd, xcall_of (rgood24_sp s a ws mode (by omega) ha hwl)]
 cases hg : goodI s a ws mode with
 | false =>
  rw [br_neg (by simp), if_neg (by simp), if_neg (by simp)]
  rfl
 | true =>
  rw [br_pos rfl, if_pos rfl, if_pos rfl]
  have h := good_ask hg hs
  have hal := h.ha
  unfold sizeR24
  generalize hres : ((turns3 (spanR s a ws mode (s.length - 1) 2 (nowL s a ws mode)) a (ws.filter (flexW s)) mode (List.replicate s.length false) true).map raise1).map end1 = res
  have last : ∀ (x5 x6 x7 x9 x10 : PV) (J1 J2 J3 : JT) (S : List Sz), S.length = s.length → ((turns3 S a (ws.filter (flexW s)) mode (List.replicate s.length false) true).map raise1).map end1 = res →
      Run tr ref24_Size_l9 [rowOf eSz s, ints a, rowOf eWn ws, I mode, B true, x5, x6, x7, rowOf eWn (ws.filter (flexW s)), x9, x10, I 1, rowOf eSz S] [J1, J2, J3, .loop ref24_Size_l9 [rowOf eSz s, ints a, rowOf eWn ws, I mode, B true, x5, x6, x7, rowOf eWn (ws.filter (flexW s)), x9, x10]] [rowOf eSz res, I 0] := by
   intro x5 x6 x7 x9 x10 J1 J2 J3 S hSl hS
   have hF : Ask S a (ws.filter (flexW s)) := ⟨by omega, by rw [hSl]; exact h.ha, Nat.le_trans (List.length_filter_le _ _) h.hw, fun w hw => by rw [hSl]; exact h.hi w (List.mem_filter.1 hw).1⟩
   have hgl : (List.replicate s.length false).length = S.length := by simp [hSl]
   have e1 := rturn_sp S a (ws.filter (flexW s)) 1 mode (List.replicate s.length false) true hF hgl
   have l1 := turnS_len S a (ws.filter (flexW s)) 1 mode (List.replicate s.length false) true
   have e2 := rturn_sp _ a (ws.filter (flexW s)) 2 mode (List.replicate s.length false) true (hF.of l1) (hgl.trans l1.symm)
   have l2 := (turnS_len (turnS S a (ws.filter (flexW s)) 1 mode (List.replicate s.length false) true) a (ws.filter (flexW s)) 2 mode (List.replicate s.length false) true).trans l1
   have e3 := rturn_sp _ a (ws.filter (flexW s)) 3 mode (List.replicate s.length false) true (hF.of l2) (hgl.trans l2.symm)
   have c1 : ((1 : Int) ≤ 3) := by omega
   have c2' : ((2 : Int) ≤ 3) := by omega
   have c3 : ((3 : Int) ≤ 3) := by omega
   have c4 : ¬ ((4 : Int) ≤ 3) := by omega
   have n2 : ((1 : Int) + 1) = 2 := rfl
   have n3 : ((2 : Int) + 1) = 3 := rfl
   have n4 : ((3 : Int) + 1) = 4 := rfl
   have ht3 : turnS (turnS (turnS S a (ws.filter (flexW s)) 1 mode (List.replicate s.length false) true) a (ws.filter (flexW s)) 2 mode (List.replicate s.length false) true) a (ws.filter (flexW s)) 3 mode (List.replicate s.length false) true = turns3 S a (ws.filter (flexW s)) mode (List.replicate s.length false) true := rfl
   have l3 := turns3_len S a (ws.filter (flexW s)) mode (List.replicate s.length false) true
   rw [ht3] at e3
   generalize turns3 S a (ws.filter (flexW s)) mode (List.replicate s.length false) true = t3 at *
   have hr := rraised_sp t3 (by omega)
   rw [u_ref24_Size_l9]
   simp (disch := first | omega | (simp only [ln0]; omega)) only [rs, reduceIte, Nat.reduceAdd, c1, xcall_of e1]
   rw [u_ref24_Size_l9]
   simp (disch := first | omega | (simp only [ln0]; omega)) only [rs, reduceIte, Nat.reduceAdd, n2, c2', xcall_of e2]
   rw [u_ref24_Size_l9]
   simp (disch := first | omega | (simp only [ln0]; omega)) only [rs, reduceIte, Nat.reduceAdd, n2, n3, c3, xcall_of e3]
   rw [u_ref24_Size_l9]
   simp (disch := first | omega | (simp only [ln0]; omega)) only [rs, reduceIte, Nat.reduceAdd, n4, c4, xcall_of hr]
   have hrl : (t3.map raise1).length = t3.length := by simp
   generalize t3.map raise1 = t at *
   have hal2 : (t.map end1).length = t.length := by simp
   obtain ⟨J4, hJ4⟩ : ∃ J4, J4 = JT.loop ref24_Size_l9 [rowOf eSz s, ints a, rowOf eWn ws, I mode, B true, x5, x6, x7, rowOf eWn (ws.filter (flexW s)), x9, x10] := ⟨_, rfl⟩
   rw [← hJ4]
   have key := xup_ind (n := t.length) (P := fun i => Run tr ref24_Size_l10 [rowOf eSz s, ints a, rowOf eWn ws, I mode, B true, x5, x6, x7, rowOf eWn (ws.filter (flexW s)), x9, x10, I 4, rowOf eSz t3, rowOf eSz t, I i, rowOf eSz (mix (t.map end1) t i)] [J1, J2, J3, J4, .loop ref24_Size_l10 [rowOf eSz s, ints a, rowOf eWn ws, I mode, B true, x5, x6, x7, rowOf eWn (ws.filter (flexW s)), x9, x10, I 4, rowOf eSz t3, rowOf eSz t]] [rowOf eSz res, I 0]) ?_ 0 (Nat.zero_le _)
   · rw [mix_zero] at key
     exact key
   intro i hi ih2
   rw [u_ref24_Size_l10]
   have hml2 : (mix (t.map end1) t i).length = t.length := mix_len hal2 i
   by_cases hx : i < t.length
   · have hat : (mix (t.map end1) t i)[i]'(by omega) = t[i] := mix_at hal2 hx (by omega)
     have ih' := ih2 hx
     simp (disch := first | omega | (simp only [ln0]; omega)) only [rs, reduceIte, Nat.reduceAdd, hx, hml2, sz_at0, sz_at1, sz_at2, sz_at3, sz_at4, sz_at5, sz_at6, sz_snoc, sz_set, sz_put5, sz_put6, hat, beq_iff_eq]
     refine br_split ?_ ?_ <;> intro _
     · rename_i hc
       have hmod := mix_modify (f := fun y => { y with lim := t[i].base }) hal2 hx (by simp [end1, hc])
       rw [← hmod] at ih'
       simp (disch := first | omega | (simp only [ln0]; omega)) only [rs, reduceIte, Nat.reduceAdd, hx, hml2, sz_at0, sz_at1, sz_at2, sz_at3, sz_at4, sz_at5, sz_at6, sz_snoc, sz_set, sz_put5, sz_put6, hat, u_ref24_Size_j11]
       exact ih'
     · rename_i hc
       have hset := mix_set hal2 hx (v := t[i]) (by simp [end1, hc])
       have hid : (mix (t.map end1) t i).set i t[i] = mix (t.map end1) t i := by
        conv => lhs; rw [← hat]
        exact List.set_getElem_self _
       rw [hid] at hset
       rw [← hset] at ih'
       simp (disch := first | omega | (simp only [ln0]; omega)) only [rs, reduceIte, Nat.reduceAdd, u_ref24_Size_j11]
       exact ih'
   · obtain rfl : i = t.length := by omega
     simp (disch := first | omega | (simp only [ln0]; omega)) only [rs, reduceIte, Nat.reduceAdd, Nat.lt_irrefl, mix_full hal2, hml2]
     rw [hS]
  have spans : ∀ (x5 x6 x7 : PV) (J1 J2 : JT) (S0 : List Sz), S0.length = s.length → ((turns3 (spanR s a ws mode (s.length - 1) 2 S0) a (ws.filter (flexW s)) mode (List.replicate s.length false) true).map raise1).map end1 = res →
      Run tr ref24_Size_l4 [rowOf eSz s, ints a, rowOf eWn ws, I mode, B true, x5, x6, x7, rowOf eWn (ws.filter (flexW s)), I (2 : Nat), rowOf eSz S0] [J1, J2, .loop ref24_Size_l4 [rowOf eSz s, ints a, rowOf eWn ws, I mode, B true, x5, x6, x7, rowOf eWn (ws.filter (flexW s))]] [rowOf eSz res, I 0] := by
   intro x5 x6 x7 J1 J2 S0 hS0 hS0r
   generalize hfin : spanR s a ws mode (s.length - 1) 2 S0 = fin at *
   have hfl : fin.length = s.length := by rw [← hfin, spanR_len, hS0]
   have key := xup_ind (n := max (s.length + 1) 2) (P := fun d => 2 ≤ d → ∀ S : List Sz, S.length = s.length → spanR s a ws mode (s.length + 1 - d) d S = fin →
    Run tr ref24_Size_l4 [rowOf eSz s, ints a, rowOf eWn ws, I mode, B true, x5, x6, x7, rowOf eWn (ws.filter (flexW s)), I d, rowOf eSz S] [J1, J2, .loop ref24_Size_l4 [rowOf eSz s, ints a, rowOf eWn ws, I mode, B true, x5, x6, x7, rowOf eWn (ws.filter (flexW s))]] [rowOf eSz res, I 0]) ?_ 2 (by omega)
   · exact key (Nat.le_refl _) S0 hS0 (by rw [show s.length + 1 - 2 = s.length - 1 by omega]; exact hfin)
   intro d hd ih hd2 S hSl hS
   rw [u_ref24_Size_l4]
   by_cases hx : d ≤ s.length
   · rw [show s.length + 1 - d = (s.length + 1 - (d + 1)) + 1 by omega] at hS
     simp only [spanR] at hS
     have ih' := ih (by omega) (by omega) _ (by split; · exact hSl
                                                · rw [sevR_len]; exact hSl) hS
     simp (disch := first | omega | (simp only [ln0]; omega)) only [rs, reduceIte, Nat.reduceAdd, hx]
     have hgsub : ∀ w ∈ grp s ws (d : Int), w ∈ ws := fun w hw => (grp_in hw).1
     have hgl := List.length_filter_le (fun w => !flexW s w && decide (1 < (d : Int)) && decide (w.to - w.fm = (d : Int))) ws
     have key2 := xup_ind (n := ws.length) (P := fun k => Run tr ref24_Size_l6 [rowOf eSz s, ints a, rowOf eWn ws, I mode, B true, x5, x6, x7, rowOf eWn (ws.filter (flexW s)), I d, rowOf eSz S, I k, rowOf eWn (grp s (ws.take k) (d : Int))] [J1, J2, .loop ref24_Size_l4 [rowOf eSz s, ints a, rowOf eWn ws, I mode, B true, x5, x6, x7, rowOf eWn (ws.filter (flexW s))], .join ref24_Size_j5 [rowOf eSz s, ints a, rowOf eWn ws, I mode, B true, x5, x6, x7, rowOf eWn (ws.filter (flexW s)), I d, rowOf eSz S], .loop ref24_Size_l6 [rowOf eSz s, ints a, rowOf eWn ws, I mode, B true, x5, x6, x7, rowOf eWn (ws.filter (flexW s)), I d, rowOf eSz S]] [rowOf eSz res, I 0]) ?_ 0 (Nat.zero_le _)
     · exact key2
     intro k hk ihk
     rw [u_ref24_Size_l6]
     by_cases hkx : k < ws.length
     · have hin := h.hi _ (List.getElem_mem hkx)
       have hfx := rflex_sp s ws[k] hin (by omega)
       obtain ⟨h0, h1, h2⟩ := hin
       have ihk' := ihk hkx
       rw [grp_take hkx] at ihk'
       have hgk : (grp s (ws.take k) (d : Int)).length ≤ k := Nat.le_trans (List.length_filter_le _ _) (by simp; omega)
       have hlen : ((grp s (ws.take k) (d : Int)).length : Int) + 1 ≤ 4294967296 := by omega
       have hwe : (⟨ws[k].fm, ws[k].to, ws[k].least, ws[k].mn, ws[k].mx⟩ : Wn) = ws[k] := rfl
       have hwr : IntKind.i64.wrap (ws[k].to - ws[k].fm) = ws[k].to - ws[k].fm := wrap_in (by omega) (by omega)
       have hj8 : ∀ c : Bool, (c = true ↔ (flexW s ws[k] = false ∧ 1 < (d : Int) ∧ ws[k].to - ws[k].fm = (d : Int))) → Run tr ref24_Size_j8 [rowOf eSz s, ints a, rowOf eWn ws, I mode, B true, x5, x6, x7, rowOf eWn (ws.filter (flexW s)), I d, rowOf eSz S, I k, rowOf eWn (grp s (ws.take k) (d : Int)), B c] [J1, J2, .loop ref24_Size_l4 [rowOf eSz s, ints a, rowOf eWn ws, I mode, B true, x5, x6, x7, rowOf eWn (ws.filter (flexW s))], .join ref24_Size_j5 [rowOf eSz s, ints a, rowOf eWn ws, I mode, B true, x5, x6, x7, rowOf eWn (ws.filter (flexW s)), I d, rowOf eSz S], .loop ref24_Size_l6 [rowOf eSz s, ints a, rowOf eWn ws, I mode, B true, x5, x6, x7, rowOf eWn (ws.filter (flexW s)), I d, rowOf eSz S], .join ref24_Size_j7 [rowOf eSz s, ints a, rowOf eWn ws, I mode, B true, x5, x6, x7, rowOf eWn (ws.filter (flexW s)), I d, rowOf eSz S, I k, rowOf eWn (grp s (ws.take k) (d : Int))]] [rowOf eSz res, I 0] := by
        intro c hc
        rw [u_ref24_Size_j8]
        by_cases hc1 : c = true
        · rw [if_pos (hc.1 hc1), ← hwe] at ihk'
          simp (disch := first | omega | (simp only [ln0]; omega)) only [rs, reduceIte, Nat.reduceAdd, hc1, hkx, wn_at0, wn_at1, wn_at2, wn_at3, wn_at4, wn_snoc, hlen, u_ref24_Size_j7]
          first | exact ihk' | exact ⟨by omega, ihk'⟩
        · rw [if_neg (fun hh => hc1 (hc.2 hh)), List.append_nil] at ihk'
          simp (disch := first | omega | (simp only [ln0]; omega)) only [rs, reduceIte, Nat.reduceAdd, hc1, u_ref24_Size_j7]
          first | exact ihk' | (rw [br_neg (by simp)]; exact ihk')
       simp (disch := first | omega | (simp only [ln0]; omega)) only [rs, reduceIte, Nat.reduceAdd, hkx, wn_at0, wn_at1, wn_at2, wn_at3, wn_at4, beq_iff_eq]
       by_cases hd3 : ws[k].to - ws[k].fm = (d : Int)
       · rw [br_pos hd3]
         simp (disch := first | omega | (simp only [ln0]; omega)) only [rs, reduceIte, Nat.reduceAdd, hkx, wn_at0, wn_at1, wn_at2, wn_at3, wn_at4, xcall_of hfx]
         exact hj8 _ (by
          rw [Bool.not_eq_true']
          constructor
          · intro hh; exact ⟨hh, by omega, hd3⟩
          · intro hh; exact hh.1)
       · rw [br_neg hd3]
         try simp (disch := first | omega | (simp only [ln0]; omega)) only [rs, reduceIte, Nat.reduceAdd]
         exact hj8 false (by
          constructor
          · intro hh; cases hh
          · intro hh; exact absurd hh.2.2 hd3)
     · obtain rfl : k = ws.length := by omega
       rw [List.take_length]
       simp (disch := first | omega | (simp only [ln0]; omega)) only [rs, reduceIte, Nat.reduceAdd, Nat.lt_irrefl, gt_iff_lt]
       by_cases hg0 : (grp s ws (d : Int)).length = 0
       · rw [br_neg (by omega)]
         rw [if_pos hg0] at ih'
         simp (disch := first | omega | (simp only [ln0]; omega)) only [rs, reduceIte, Nat.reduceAdd, u_ref24_Size_j5]
         exact ih'
       · rw [br_pos (by omega)]
         rw [if_neg hg0] at ih'
         have hsv := rsev_sp S a (grp s ws (d : Int)) mode ⟨by omega, by rw [hSl]; exact h.ha, Nat.le_trans (List.length_filter_le _ _) h.hw, fun w hw => by rw [hSl]; exact h.hi w (hgsub w hw)⟩
         simp (disch := first | omega | (simp only [ln0]; omega)) only [rs, reduceIte, Nat.reduceAdd, xcall_of hsv, u_ref24_Size_j5]
         exact ih'
   · rw [show s.length + 1 - d = 0 by omega] at hS
     simp only [spanR] at hS
     subst hS
     have hl : (s.length : Int) ≤ 140737488355328 := by omega
     simp (disch := first | omega | (simp only [ln0]; omega)) only [rs, reduceIte, Nat.reduceAdd, hx, hl]
     exact last x5 x6 x7 (I d) (rowOf eSz S) J1 J2 _ S hSl hS0r
  have flexs : ∀ (x5 : PV) (J1 : JT) (S0 : List Sz), S0.length = s.length → ((turns3 (spanR s a ws mode (s.length - 1) 2 S0) a (ws.filter (flexW s)) mode (List.replicate s.length false) true).map raise1).map end1 = res →
      Run tr ref24_Size_l2 [rowOf eSz s, ints a, rowOf eWn ws, I mode, B true, x5, rowOf eSz S0, I (0 : Nat), rowOf eWn []] [J1, .loop ref24_Size_l2 [rowOf eSz s, ints a, rowOf eWn ws, I mode, B true, x5, rowOf eSz S0]] [rowOf eSz res, I 0] := by
   intro x5 J1 S0 hS0 hS0r
   have key := xup_ind (n := ws.length) (P := fun k => Run tr ref24_Size_l2 [rowOf eSz s, ints a, rowOf eWn ws, I mode, B true, x5, rowOf eSz S0, I k, rowOf eWn ((ws.take k).filter (flexW s))] [J1, .loop ref24_Size_l2 [rowOf eSz s, ints a, rowOf eWn ws, I mode, B true, x5, rowOf eSz S0]] [rowOf eSz res, I 0]) ?_ 0 (Nat.zero_le _)
   · exact key
   intro k hk ih
   rw [u_ref24_Size_l2]
   by_cases hkx : k < ws.length
   · have hin := h.hi _ (List.getElem_mem hkx)
     have hfx := rflex_sp s ws[k] hin (by omega)
     have ih' := ih hkx
     rw [flex_take hkx] at ih'
     have hgk : ((ws.take k).filter (flexW s)).length ≤ k := Nat.le_trans (List.length_filter_le _ _) (by simp; omega)
     have hlen : (((ws.take k).filter (flexW s)).length : Int) + 1 ≤ 4294967296 := by omega
     have hwe : (⟨ws[k].fm, ws[k].to, ws[k].least, ws[k].mn, ws[k].mx⟩ : Wn) = ws[k] := rfl
     simp (disch := first | omega | (simp only [ln0]; omega)) only [rs, reduceIte, Nat.reduceAdd, hkx, wn_at0, wn_at1, wn_at2, wn_at3, wn_at4, xcall_of hfx]
     by_cases hc1 : flexW s ws[k] = true
     · rw [br_pos hc1]
       rw [if_pos hc1, ← hwe] at ih'
       simp (disch := first | omega | (simp only [ln0]; omega)) only [rs, reduceIte, Nat.reduceAdd, hkx, wn_at0, wn_at1, wn_at2, wn_at3, wn_at4, wn_snoc, hlen, u_ref24_Size_j3]
       first | exact ih' | exact ⟨by omega, ih'⟩
     · rw [br_neg hc1]
       rw [if_neg hc1, List.append_nil] at ih'
       simp (disch := first | omega | (simp only [ln0]; omega)) only [rs, reduceIte, Nat.reduceAdd, u_ref24_Size_j3]
       exact ih'
   · obtain rfl : k = ws.length := by omega
     rw [List.take_length]
     simp (disch := first | omega | (simp only [ln0]; omega)) only [rs, reduceIte, Nat.reduceAdd, Nat.lt_irrefl]
     exact spans x5 (rowOf eSz S0) (I ws.length) _ _ S0 hS0 hS0r
  try simp (disch := first | omega | (simp only [ln0]; omega)) only [rs, reduceIte, Nat.reduceAdd]
  have key := xup_ind (n := s.length) (P := fun i => Run tr ref24_Size_l0 [rowOf eSz s, ints a, rowOf eWn ws, I mode, B true, I i, rowOf eSz ((nowL s a ws mode).take i)] [.loop ref24_Size_l0 [rowOf eSz s, ints a, rowOf eWn ws, I mode, B true]] [rowOf eSz res, I 0]) ?_ 0 (Nat.zero_le _)
  · rw [List.take_zero] at key
    exact key
  intro i hi ih
  rw [u_ref24_Size_l0]
  have hnl := nowL_len s a ws mode
  by_cases hx : i < s.length
  · have ih' := ih hx
    have hna := nowL_at s a ws mode i (by omega)
    have hlen : (((nowL s a ws mode).take i).length : Int) + 1 ≤ 4294967296 := by simp; omega
    rw [← take_snoc (a := nowL s a ws mode) (i := i) (by omega) hna.symm] at ih'
    unfold nowR at ih'
    rw [atS_lt hx] at ih'
    simp (disch := first | omega | (simp only [ln0]; omega)) only [rs, reduceIte, Nat.reduceAdd, hx, sz_at0, sz_at1, sz_at2, sz_at3, sz_at4, sz_at5, sz_at6, sz_snoc, sz_set, sz_put5, sz_put6, beq_iff_eq]
    by_cases hc : s[i].mx = 5
    · rw [br_pos hc]
      rw [if_pos hc] at ih'
      simp (disch := first | omega | (simp only [ln0]; omega)) only [rs, reduceIte, Nat.reduceAdd, hx, sz_at0, sz_at1, sz_at2, sz_at3, sz_at4, sz_at5, sz_at6, sz_snoc, sz_set, sz_put5, sz_put6, hlen, u_ref24_Size_j1]
      first | exact ih' | exact ⟨by omega, ih'⟩ | exact ⟨by simp; omega, ih'⟩
    · rw [br_neg hc]
      rw [if_neg hc] at ih'
      have ho := rone_sp s a ws mode i hx h
      simp (disch := first | omega | (simp only [ln0]; omega)) only [rs, reduceIte, Nat.reduceAdd, xcall_of ho, sz_at0, sz_at1, sz_at2, sz_at3, sz_at4, sz_at5, sz_at6, sz_snoc, sz_set, sz_put5, sz_put6, hlen, u_ref24_Size_j1]
      first | exact ih' | exact ⟨by omega, ih'⟩ | exact ⟨by simp; omega, ih'⟩
  · obtain rfl : i = s.length := by omega
    rw [List.take_of_length_le (by omega)]
    simp (disch := first | omega | (simp only [ln0]; omega)) only [rs, reduceIte, Nat.reduceAdd, Nat.lt_irrefl]
    exact flexs (I s.length) _ (nowL s a ws mode) hnl hres
end Go.Proofs.YtbebnjiolaomdaaGreat.T

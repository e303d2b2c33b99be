/- What the document's trees of the first and the second step come to. No condition beyond what each states. -/
import Derived.Test.YtbebnjiolaomdaaGreatT
import Derived.Test.YtbebnjiolaomdaaGreatKr2
set_option linter.unusedVariables false
set_option linter.unusedSimpArgs false
set_option maxRecDepth 100000
namespace Go.Proofs.YtbebnjiolaomdaaGreat.T
open Go Go.Proofs.YtbebnjiolaomdaaGreat.Sx Go.Proofs.YtbebnjiolaomdaaGreat.M
def topAt (wt : Wn → Int) (i : Nat) : List Wn → Tp × Bool → Tp × Bool
 | [], p => p
 | w :: ws, p => topAt wt i ws (if w.fm = (i : Int) ∧ w.to = (i : Int) + 1 then (⟨max p.1.a (wt w), max p.1.b w.mn, max p.1.c w.mx⟩, true) else p)
def oneR (x : Sz) (t : Tp) (met : Bool) : Sz :=
 if met = true then raise1 { x with
     base := if x.mn = 3 then max x.base t.b else if x.mn = 4 then max x.base t.c else if x.mn = 2 then max x.base t.a else x.base
     lim := if x.mx = 3 then t.b else if x.mx = 4 ∨ x.mx = 2 then (if x.fit = true then min t.c x.cap else t.c) else x.lim } else x
theorem rone_sp (s : List Sz) (a : List Int) (ws : List Wn) (mode : Int) (i : Nat) (hi : i < s.length) (h : Ask s a ws) :
    Says tr c_ref24_one [rowOf eSz s, ints a, rowOf eWn ws, I mode, I i] (eSz (oneR s[i] (topAt (wantedR s a 1 mode) i ws (⟨0, 0, 0⟩, false)).1 (topAt (wantedR s a 1 mode) i ws (⟨0, 0, 0⟩, false)).2)) := by
 have hs := h.hs
 have hwl := h.hw
 have hal := h.ha
 refine Says.of (t := ref24_one) rfl ?_
 rw [u_ref24_one]
 generalize hfin : topAt (wantedR s a 1 mode) i ws (⟨0, 0, 0⟩, false) = fin
 simp (disch := first | omega | (simp only [ln0]; omega)) only [rs, reduceIte, Nat.reduceAdd, hi]
 have key := xup_ind (n := ws.length) (P := fun k => ∀ p : Tp × Bool, topAt (wantedR s a 1 mode) i (ws.drop k) p = fin →
  Run tr ref24_one_l0 [rowOf eSz s, ints a, rowOf eWn ws, I mode, I i, I k, B p.2, I p.1.c, I p.1.b, I p.1.a] [.loop ref24_one_l0 [rowOf eSz s, ints a, rowOf eWn ws, I mode, I i]] (eSz (oneR s[i] fin.1 fin.2))) ?_ 0 (Nat.zero_le _)
 · exact key (⟨0, 0, 0⟩, false) (by simpa using hfin)
 intro k hk ih p hh
 rw [u_ref24_one_l0]
 by_cases hx : k < ws.length
 · have hin := h.hi _ (List.getElem_mem hx)
   have hwt := rwanted_sp s a ws[k] 1 mode hin hal (by omega)
   rw [List.drop_eq_getElem_cons hx] at hh
   simp only [topAt] at hh
   have ih' := ih hx _ hh
   have e1 : IntKind.i64.wrap ((i : Int) + 1) = (i : Int) + 1 := wrap_in (by omega) (by omega)
   simp (disch := first | omega | (simp only [ln0]; omega)) only [rs, reduceIte, Nat.reduceAdd, hx, wn_at0, wn_at1, wn_at2, wn_at3, wn_at4, bx, reduceCtorEq, forall_const, ne_eq]
   by_cases hc : ws[k].fm = (i : Int) ∧ ws[k].to = (i : Int) + 1
   · rw [br_pos hc]
     rw [if_pos hc] at ih'
     simp (disch := first | omega | (simp only [ln0]; omega)) only [rs, reduceIte, Nat.reduceAdd, hx, wn_at0, wn_at1, wn_at2, wn_at3, wn_at4, xcall_of hwt, u_ref24_one_j1]
     exact ih'
   · rw [br_neg hc]
     rw [if_neg hc] at ih'
     simp (disch := first | omega | (simp only [ln0]; omega)) only [rs, reduceIte, Nat.reduceAdd, u_ref24_one_j1]
     exact ih'
 · rw [List.drop_of_length_le (by omega)] at hh
   simp only [topAt] at hh
   subst hh
   simp (disch := first | omega | (simp only [ln0]; omega)) only [rs, reduceIte, Nat.reduceAdd, hx]
   by_cases hm : p.2 = true
   · rw [br_pos hm]
     have hj3 : ∀ b m : Int, raise1 { s[i] with base := b, lim := m } = oneR s[i] p.1 p.2 → Run tr ref24_one_j3 [rowOf eSz s, ints a, rowOf eWn ws, I mode, I i, I k, B p.2, I p.1.c, I p.1.b, I p.1.a, I b, I m] [.loop ref24_one_l0 [rowOf eSz s, ints a, rowOf eWn ws, I mode, I i]] (eSz (oneR s[i] p.1 p.2)) := by
      intro b m he
      have hr := rraise_sp { s[i] with base := b, lim := m }
      rw [← he]
      rw [u_ref24_one_j3]
      simp (disch := first | omega | (simp only [ln0]; omega)) only [rs, reduceIte, Nat.reduceAdd, hi, sz_at0, sz_at1, sz_at2, sz_at3, sz_at4, sz_at5, sz_at6, sz_snoc, sz_set, sz_put5, sz_put6, xcall_of hr]
      rfl
     have hj2 : ∀ b : Int, b = (if s[i].mn = 3 then max s[i].base p.1.b else if s[i].mn = 4 then max s[i].base p.1.c else if s[i].mn = 2 then max s[i].base p.1.a else s[i].base) → Run tr ref24_one_j2 [rowOf eSz s, ints a, rowOf eWn ws, I mode, I i, I k, B p.2, I p.1.c, I p.1.b, I p.1.a, I b] [.loop ref24_one_l0 [rowOf eSz s, ints a, rowOf eWn ws, I mode, I i]] (eSz (oneR s[i] p.1 p.2)) := by
      intro b hb
      have fin2 : ∀ lm : Int, lm = (if s[i].mx = 3 then p.1.b else if s[i].mx = 4 ∨ s[i].mx = 2 then (if s[i].fit = true then min p.1.c s[i].cap else p.1.c) else s[i].lim) → raise1 { s[i] with base := b, lim := lm } = oneR s[i] p.1 p.2 := by
       intro lm hlm
       subst hlm hb
       rw [oneR, if_pos hm]
      have hj4 : ∀ c : Bool, (c = true ↔ s[i].mx = 4 ∨ s[i].mx = 2) → ¬ s[i].mx = 3 → Run tr ref24_one_j4 [rowOf eSz s, ints a, rowOf eWn ws, I mode, I i, I k, B p.2, I p.1.c, I p.1.b, I p.1.a, I b, B c] [.loop ref24_one_l0 [rowOf eSz s, ints a, rowOf eWn ws, I mode, I i], .join ref24_one_j3 [rowOf eSz s, ints a, rowOf eWn ws, I mode, I i, I k, B p.2, I p.1.c, I p.1.b, I p.1.a, I b]] (eSz (oneR s[i] p.1 p.2)) := by
       intro c hc h3
       rw [u_ref24_one_j4]
       try simp (disch := first | omega | (simp only [ln0]; omega)) only [rs, reduceIte, Nat.reduceAdd, hi, sz_at0, sz_at1, sz_at2, sz_at3, sz_at4, sz_at5, sz_at6, sz_snoc, sz_set, sz_put5, sz_put6]
       by_cases hc1 : c = true
       · rw [br_pos hc1]
         by_cases hf : s[i].fit = true
         · rw [br_pos hf]
           try simp (disch := first | omega | (simp only [ln0]; omega)) only [rs, reduceIte, Nat.reduceAdd, hi, sz_at0, sz_at1, sz_at2, sz_at3, sz_at4, sz_at5, sz_at6, sz_snoc, sz_set, sz_put5, sz_put6]
           exact hj3 _ _ (fin2 _ (by rw [if_neg h3, if_pos (hc.1 hc1), if_pos hf]))
         · rw [br_neg hf]
           try simp (disch := first | omega | (simp only [ln0]; omega)) only [rs, reduceIte, Nat.reduceAdd, hi, sz_at0, sz_at1, sz_at2, sz_at3, sz_at4, sz_at5, sz_at6, sz_snoc, sz_set, sz_put5, sz_put6]
           exact hj3 _ _ (fin2 _ (by rw [if_neg h3, if_pos (hc.1 hc1), if_neg hf]))
       · rw [br_neg hc1]
         exact hj3 _ _ (fin2 _ (by rw [if_neg h3, if_neg (fun hh => hc1 (hc.2 hh))]))
      rw [u_ref24_one_j2]
      try simp (disch := first | omega | (simp only [ln0]; omega)) only [rs, reduceIte, Nat.reduceAdd, hi, sz_at0, sz_at1, sz_at2, sz_at3, sz_at4, sz_at5, sz_at6, sz_snoc, sz_set, sz_put5, sz_put6, beq_iff_eq]
      by_cases h3 : s[i].mx = 3
      · rw [br_pos h3]
        try simp (disch := first | omega | (simp only [ln0]; omega)) only [rs, reduceIte, Nat.reduceAdd, hi, sz_at0, sz_at1, sz_at2, sz_at3, sz_at4, sz_at5, sz_at6, sz_snoc, sz_set, sz_put5, sz_put6]
        exact hj3 _ _ (fin2 _ (by rw [if_pos h3]))
      · rw [br_neg h3]
        try simp (disch := first | omega | (simp only [ln0]; omega)) only [rs, reduceIte, Nat.reduceAdd, hi, sz_at0, sz_at1, sz_at2, sz_at3, sz_at4, sz_at5, sz_at6, sz_snoc, sz_set, sz_put5, sz_put6, beq_iff_eq]
        by_cases h4 : s[i].mx = 4
        · try rw [br_pos h4]
          try simp (disch := first | omega | (simp only [ln0]; omega)) only [rs, reduceIte, Nat.reduceAdd, hi, sz_at0, sz_at1, sz_at2, sz_at3, sz_at4, sz_at5, sz_at6, sz_snoc, sz_set, sz_put5, sz_put6]
          exact hj4 _ (by simp [h4]) h3
        · try rw [br_neg h4]
          try simp (disch := first | omega | (simp only [ln0]; omega)) only [rs, reduceIte, Nat.reduceAdd, hi, sz_at0, sz_at1, sz_at2, sz_at3, sz_at4, sz_at5, sz_at6, sz_snoc, sz_set, sz_put5, sz_put6]
          exact hj4 _ (by simp [h4]) h3
     try simp (disch := first | omega | (simp only [ln0]; omega)) only [rs, reduceIte, Nat.reduceAdd, hi, sz_at0, sz_at1, sz_at2, sz_at3, sz_at4, sz_at5, sz_at6, sz_snoc, sz_set, sz_put5, sz_put6, beq_iff_eq]
     by_cases h1 : s[i].mn = 3
     · rw [br_pos h1]
       try simp (disch := first | omega | (simp only [ln0]; omega)) only [rs, reduceIte, Nat.reduceAdd, hi, sz_at0, sz_at1, sz_at2, sz_at3, sz_at4, sz_at5, sz_at6, sz_snoc, sz_set, sz_put5, sz_put6]
       exact hj2 _ (by rw [if_pos h1])
     · rw [br_neg h1]
       by_cases h2 : s[i].mn = 4
       · rw [br_pos h2]
         try simp (disch := first | omega | (simp only [ln0]; omega)) only [rs, reduceIte, Nat.reduceAdd, hi, sz_at0, sz_at1, sz_at2, sz_at3, sz_at4, sz_at5, sz_at6, sz_snoc, sz_set, sz_put5, sz_put6]
         exact hj2 _ (by rw [if_neg h1, if_pos h2])
       · rw [br_neg h2]
         by_cases h3 : s[i].mn = 2
         · rw [br_pos h3]
           try simp (disch := first | omega | (simp only [ln0]; omega)) only [rs, reduceIte, Nat.reduceAdd, hi, sz_at0, sz_at1, sz_at2, sz_at3, sz_at4, sz_at5, sz_at6, sz_snoc, sz_set, sz_put5, sz_put6]
           exact hj2 _ (by rw [if_neg h1, if_neg h2, if_pos h3])
         · rw [br_neg h3]
           try simp (disch := first | omega | (simp only [ln0]; omega)) only [rs, reduceIte, Nat.reduceAdd, hi, sz_at0, sz_at1, sz_at2, sz_at3, sz_at4, sz_at5, sz_at6, sz_snoc, sz_set, sz_put5, sz_put6]
           exact hj2 _ (by rw [if_neg h1, if_neg h2, if_neg h3])
   · rw [br_neg hm]
     try simp (disch := first | omega | (simp only [ln0]; omega)) only [rs, reduceIte, Nat.reduceAdd, hi, sz_at0, sz_at1, sz_at2, sz_at3, sz_at4, sz_at5, sz_at6, sz_snoc, sz_set, sz_put5, sz_put6]
     rw [oneR, if_neg hm]
def grow1 (x y : Sz) : Bool := decide (x.lim = 1125899906842624) && decide (y.lim < 1125899906842624)
def growS (s t : List Sz) : List Bool := List.zipWith grow1 s t
noncomputable def turns3 (s : List Sz) (a : List Int) (ws : List Wn) (mode : Int) (g : List Bool) (fr : Bool) : List Sz :=
 turnS (turnS (turnS s a ws 1 mode g fr) a ws 2 mode g fr) a ws 3 mode g fr
theorem turns3_len (s a ws mode g fr) : (turns3 s a ws mode g fr).length = s.length := by simp only [turns3, turnS_len]
noncomputable def sevR (s : List Sz) (a : List Int) (ws : List Wn) (mode : Int) : List Sz :=
 let s4 := (turns3 s a ws mode (List.replicate s.length false) false).map raise1
 let t4 := turnS s4 a ws 4 mode (List.replicate s.length false) false
 (turnS t4 a ws 5 mode (growS s4 t4) false).map fit1
theorem sevR_len (s a ws mode) : (sevR s a ws mode).length = s.length := by simp only [sevR, List.length_map, turnS_len, turns3_len]
theorem rsev_sp (s : List Sz) (a : List Int) (ws : List Wn) (mode : Int) (h : Ask s a ws) : Says tr c_ref24_several [rowOf eSz s, ints a, rowOf eWn ws, I mode] [rowOf eSz (sevR s a ws mode)] := by
 have hs := h.hs
 refine Says.of (t := ref24_several) rfl ?_
 rw [u_ref24_several]
 have hl : (s.length : Int) ≤ 140737488355328 := by omega
 have hgl : (List.replicate s.length false).length = s.length := by simp
 have tn := fun (s' : List Sz) (hs' : s'.length = s.length) (r : Int) (g : List Bool) (hg : g.length = s.length) => rturn_sp s' a ws r mode g false (h.of hs') (by rw [hg, hs'])
 have l1 := turnS_len s a ws 1 mode (List.replicate s.length false) false
 have l2 := turnS_len (turnS s a ws 1 mode (List.replicate s.length false) false) a ws 2 mode (List.replicate s.length false) false
 have l3 := turnS_len (turnS (turnS s a ws 1 mode (List.replicate s.length false) false) a ws 2 mode (List.replicate s.length false) false) a ws 3 mode (List.replicate s.length false) false
 have e1 := tn s rfl 1 _ hgl
 have e2 := tn _ l1 2 _ hgl
 have e3 := tn _ (l2.trans l1) 3 _ hgl
 simp (disch := first | omega | (simp only [ln0]; omega)) only [rs, reduceIte, Nat.reduceAdd, hl]
 rw [u_ref24_several_l0]
 have c1 : ((1 : Int) ≤ 3) := by omega
 simp (disch := first | omega | (simp only [ln0]; omega)) only [rs, reduceIte, Nat.reduceAdd, c1, xcall_of e1]
 rw [u_ref24_several_l0]
 have c2 : ((1 : Int) + 1 ≤ 3) := by omega
 have c2' : ((2 : Int) ≤ 3) := by omega
 have n2 : ((1 : Int) + 1) = 2 := rfl
 have n3 : ((2 : Int) + 1) = 3 := rfl
 have n4 : ((3 : Int) + 1) = 4 := rfl
 simp (disch := first | omega | (simp only [ln0]; omega)) only [rs, reduceIte, Nat.reduceAdd, n2, c2', xcall_of e2]
 rw [u_ref24_several_l0]
 have c3 : ((3 : Int) ≤ 3) := by omega
 simp (disch := first | omega | (simp only [ln0]; omega)) only [rs, reduceIte, Nat.reduceAdd, n2, n3, c3, xcall_of e3]
 rw [u_ref24_several_l0]
 have c4 : ¬ ((4 : Int) ≤ 3) := by omega
 have hr := rraised_sp (turns3 s a ws mode (List.replicate s.length false) false) (by rw [turns3_len]; omega)
 have ht3 : turnS (turnS (turnS s a ws 1 mode (List.replicate s.length false) false) a ws 2 mode (List.replicate s.length false) false) a ws 3 mode (List.replicate s.length false) false = turns3 s a ws mode (List.replicate s.length false) false := rfl
 simp only [ht3]
 have l4 : ((turns3 s a ws mode (List.replicate s.length false) false).map raise1).length = s.length := by simp [turns3_len]
 unfold sevR
 simp only
 generalize hs4 : (turns3 s a ws mode (List.replicate s.length false) false).map raise1 = s4 at *
 have e4 := tn s4 l4 4 _ hgl
 have lt4 := (turnS_len s4 a ws 4 mode (List.replicate s.length false) false).trans l4
 generalize ht4 : turnS s4 a ws 4 mode (List.replicate s.length false) false = t4 at *
 have hl4 : (s4.length : Int) ≤ 140737488355328 := by omega
 simp (disch := first | omega | (simp only [ln0]; omega)) only [rs, reduceIte, Nat.reduceAdd, n4, c4, xcall_of hr, xcall_of e4, hl4]
 have hgr : (growS s4 t4).length = s4.length := by simp [growS]; omega
 have hgr2 : (growS s4 t4).length = (List.replicate s4.length false).length := by simp [hgr]
 have key := xup_ind (n := s4.length) (P := fun i => Run tr ref24_several_l1 [rowOf eSz s, ints a, rowOf eWn ws, I mode, I 4, rowOf eSz (turns3 s a ws mode (List.replicate s.length false) false), rowOf eSz s4, rowOf eSz t4, I i, bools (mix (growS s4 t4) (List.replicate s4.length false) i)] [.loop ref24_several_l0 [rowOf eSz s, ints a, rowOf eWn ws, I mode], .loop ref24_several_l1 [rowOf eSz s, ints a, rowOf eWn ws, I mode, I 4, rowOf eSz (turns3 s a ws mode (List.replicate s.length false) false), rowOf eSz s4, rowOf eSz t4]] [rowOf eSz ((turnS t4 a ws 5 mode (growS s4 t4) false).map fit1)]) ?_ 0 (Nat.zero_le _)
 · rw [mix_zero] at key
   exact key
 intro i hi ih
 rw [u_ref24_several_l1]
 have hml : (mix (growS s4 t4) (List.replicate s4.length false) i).length = s4.length := by rw [mix_len hgr2]; simp
 by_cases hx : i < s4.length
 · have hx4 : i < t4.length := by omega
   have hset := mix_set hgr2 (i := i) (by simpa using hx) (v := (s4[i].lim == 1125899906842624 && decide (t4[i].lim < 1125899906842624))) (by
    simp only [growS, List.getElem_zipWith, grow1]
    congr 1)
   have ih' := ih hx
   rw [← hset] at ih'
   simp (disch := first | omega | (simp only [ln0]; omega)) only [rs, reduceIte, Nat.reduceAdd, hx, hx4, hml, sz_at0, sz_at1, sz_at2, sz_at3, sz_at4, sz_at5, sz_at6, sz_snoc, sz_set, sz_put5, sz_put6, or_true, Bool.or_eq_true]
   exact ih'
 · obtain rfl : i = s4.length := by omega
   have e5 := tn t4 lt4 5 (growS s4 t4) (by omega)
   have l5 := (turnS_len t4 a ws 5 mode (growS s4 t4) false).trans lt4
   have hm0 : mix (growS s4 t4) (List.replicate s4.length false) s4.length = growS s4 t4 := mix_full' hgr2 (by simp)
   rw [hm0]
   generalize ht5 : turnS t4 a ws 5 mode (growS s4 t4) false = t5 at *
   simp (disch := first | omega | (simp only [ln0]; omega)) only [rs, reduceIte, Nat.reduceAdd, Nat.lt_irrefl, xcall_of e5]
   have hal : (t5.map fit1).length = t5.length := by simp
   have key2 := xup_ind (n := t5.length) (P := fun i => Run tr ref24_several_l2 [rowOf eSz s, ints a, rowOf eWn ws, I mode, I 4, rowOf eSz (turns3 s a ws mode (List.replicate s.length false) false), rowOf eSz s4, rowOf eSz t4, I s4.length, bools (growS s4 t4), rowOf eSz t5, I i, rowOf eSz (mix (t5.map fit1) t5 i)] [.loop ref24_several_l0 [rowOf eSz s, ints a, rowOf eWn ws, I mode], .loop ref24_several_l1 [rowOf eSz s, ints a, rowOf eWn ws, I mode, I 4, rowOf eSz (turns3 s a ws mode (List.replicate s.length false) false), rowOf eSz s4, rowOf eSz t4], .loop ref24_several_l2 [rowOf eSz s, ints a, rowOf eWn ws, I mode, I 4, rowOf eSz (turns3 s a ws mode (List.replicate s.length false) false), rowOf eSz s4, rowOf eSz t4, I s4.length, bools (growS s4 t4), rowOf eSz t5]] [rowOf eSz (t5.map fit1)]) ?_ 0 (Nat.zero_le _)
   · rw [mix_zero] at key2
     exact key2
   intro i hi ih2
   rw [u_ref24_several_l2]
   have hml2 : (mix (t5.map fit1) t5 i).length = t5.length := mix_len hal i
   by_cases hx : i < t5.length
   · have hat : (mix (t5.map fit1) t5 i)[i]'(by omega) = t5[i] := mix_at hal hx (by omega)
     have ih' := ih2 hx
     have hf := rfits_sp t5[i]
     simp (disch := first | omega | (simp only [ln0]; omega)) only [rs, reduceIte, Nat.reduceAdd, hx, hml2, sz_at0, sz_at1, sz_at2, sz_at3, sz_at4, sz_at5, sz_at6, sz_snoc, sz_set, sz_put5, sz_put6, hat]
     refine br_split ?_ ?_ <;> intro _
     · rename_i hc
       have hmod := mix_modify (f := fun y => { y with lim := min t5[i].lim (max t5[i].cap t5[i].base) }) hal hx (by simp [fit1, hc, limit])
       rw [← hmod] at ih'
       simp (disch := first | omega | (simp only [ln0]; omega)) only [rs, reduceIte, Nat.reduceAdd, hx, hml2, sz_at0, sz_at1, sz_at2, sz_at3, sz_at4, sz_at5, sz_at6, sz_snoc, sz_set, sz_put5, sz_put6, hat, xcall_of hf, u_ref24_several_j3]
       exact ih'
     · rename_i hc
       have hset := mix_set hal hx (v := t5[i]) (by simp [fit1, hc])
       have hid : (mix (t5.map fit1) t5 i).set i t5[i] = mix (t5.map fit1) t5 i := by
        conv => lhs; rw [← hat]
        exact List.set_getElem_self _
       rw [hid] at hset
       rw [← hset] at ih'
       simp (disch := first | omega | (simp only [ln0]; omega)) only [rs, reduceIte, Nat.reduceAdd, u_ref24_several_j3]
       exact ih'
   · obtain rfl : i = t5.length := by omega
     simp (disch := first | omega | (simp only [ln0]; omega)) only [rs, reduceIte, Nat.reduceAdd, Nat.lt_irrefl, mix_full hal, hml2]
end Go.Proofs.YtbebnjiolaomdaaGreat.T

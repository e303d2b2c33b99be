/- Trees that stand within the sizer's tree: limits that grow, and those that fit. No condition beyond what each states. -/
import Derived.Test.YtbebnjiolaomdaaT
import Derived.Test.YtbebnjiolaomdaaKgy
set_option linter.unusedVariables false
set_option linter.unusedSimpArgs false
set_option maxRecDepth 10000
namespace Go.Proofs.Ytbebnjiolaomdaa.T
open Go Go.Proofs.Ytbebnjiolaomdaa.Sx Go.Proofs.Ytbebnjiolaomdaa.M
def markS (s : List Sz) : List Nat → List Bool → List Bool
 | [], had => had
 | i :: r, had => markS s r (if (atS s i).lim = 1125899906842624 then had.set i true else had)
theorem markS_len (s : List Sz) : ∀ (who : List Nat) (had : List Bool), (markS s who had).length = had.length
 | [], _ => rfl
 | i :: r, had => by
  simp only [markS]
  rw [markS_len s r]
  split <;> simp
def hadS (s : List Sz) (of : Nat → Bool) : List Wn → List Bool → List Bool
 | [], had => had
 | w :: ws, had => hadS s of ws (markS s (whoU of (w.to.toNat - w.fm.toNat) w.fm.toNat) had)
theorem hadS_len (s : List Sz) (of : Nat → Bool) : ∀ (ws : List Wn) (had : List Bool), (hadS s of ws had).length = had.length
 | [], _ => rfl
 | w :: ws, had => by simp only [hadS]; rw [hadS_len s of ws, markS_len]
theorem had_run (ws : List Wn) (s : List Sz) (ofF : Nat) (of : Sz → Bool) (hof : ∀ x, Says tr ofF (eSz x) [B (of x)]) (hs : s.length ≤ 50000) (hwl : ws.length ≤ 1000000) (hws : ∀ w ∈ ws, InW s.length w) :
    Run tr (hadT ofF) [rowOf eWn ws, rowOf eSz s] [] [bools (hadS s (fun i => of (atS s i)) ws (List.replicate s.length false))] := by
 unfold hadT
 simp (disch := first | omega | (simp only [ln0]; omega)) only [rs, reduceIte, Nat.reduceAdd]
 generalize hfin : hadS s (fun i => of (atS s i)) ws (List.replicate s.length false) = fin
 have mark : ∀ (k : Nat) (x4 : PV) (had0 : List Bool) (who : List Nat) (r : List PV), (∀ i ∈ who, i < s.length) → who.length ≤ 60000 →
     (∀ y, Run tr (hadL ofF) [rowOf eWn ws, rowOf eSz s, PV.int .i64 ((k : Int) + 1), bools (y)] [.loop (hadL ofF) [rowOf eWn ws, rowOf eSz s]] r ∨ y ≠ markS s who had0) → had0.length = s.length → k ≤ 1000000 →
     ∀ J1, Run tr markL [rowOf eWn ws, rowOf eSz s, I k, bools had0, x4, nats who, I (0 : Nat), bools had0] [.loop (hadL ofF) [rowOf eWn ws, rowOf eSz s], J1, .loop markL [rowOf eWn ws, rowOf eSz s, I k, bools had0, x4, nats who]] r := by
  intro k x4 had0 who r hw hwl2 hK hhl hk6 J1
  have key := xup_ind (n := who.length) (P := fun j => ∀ had : List Bool, had.length = s.length → markS s (who.drop j) had = markS s who had0 → Run tr markL [rowOf eWn ws, rowOf eSz s, I k, bools had0, x4, nats who, I j, bools had] [.loop (hadL ofF) [rowOf eWn ws, rowOf eSz s], J1, .loop markL [rowOf eWn ws, rowOf eSz s, I k, bools had0, x4, nats who]] r) ?_ 0 (Nat.zero_le _)
  · exact key had0 hhl rfl
  intro j hj ih had hl hm
  rw [u_markL]
  by_cases h : j < who.length
  · have hi := hw _ (List.getElem_mem h)
    rw [List.drop_eq_getElem_cons h] at hm
    simp only [markS, atS_lt hi] at hm
    have ih' := ih h _ (by split <;> simp [hl]) hm
    simp (disch := first | omega | (simp only [ln0]; omega)) only [rs, reduceIte, Nat.reduceAdd, h, List.length_map, List.getElem_map, Int.ofNat_eq_natCast, hi, hl, sz_at0, sz_at1, sz_at2, sz_at3, sz_at4, sz_at5, sz_at6, sz_snoc, sz_set, sz_put5, sz_put6, beq_iff_eq]
    refine br_split ?_ ?_ <;> intro _
    · rename_i hx
      rw [if_pos hx] at ih'
      simp (disch := first | omega | (simp only [ln0]; omega)) only [rs, reduceIte, Nat.reduceAdd, u_markJ, hi, hl]
      exact ih'
    · rename_i hx
      rw [if_neg hx] at ih'
      simp (disch := first | omega | (simp only [ln0]; omega)) only [rs, reduceIte, Nat.reduceAdd, u_markJ]
      exact ih'
  · rw [List.drop_of_length_le (by omega)] at hm
    simp only [markS] at hm
    simp (disch := first | omega | (simp only [ln0]; omega)) only [rs, reduceIte, Nat.reduceAdd, h, List.length_map]
    rcases hK had with h1 | h1
    · exact h1
    · exact absurd hm h1
 have key := xup_ind (n := ws.length) (P := fun k => ∀ had : List Bool, had.length = s.length → hadS s (fun i => of (atS s i)) (ws.drop k) had = fin → Run tr (hadL ofF) [rowOf eWn ws, rowOf eSz s, I k, bools had] [.loop (hadL ofF) [rowOf eWn ws, rowOf eSz s]] [bools fin]) ?_ 0 (Nat.zero_le _)
 · exact key _ (by simp) (by simpa using hfin)
 intro k hk ih had hl hh
 rw [u_hadL]
 by_cases h : k < ws.length
 · obtain ⟨hi0, hi1, hi2⟩ := hws _ (List.getElem_mem h)
   obtain ⟨f, hf⟩ : ∃ f : Nat, ws[k].fm = f := ⟨ws[k].fm.toNat, by omega⟩
   obtain ⟨t, ht⟩ : ∃ t : Nat, ws[k].to = t := ⟨ws[k].to.toNat, by omega⟩
   rw [List.drop_eq_getElem_cons h] at hh
   simp only [hadS, hf, ht, Int.toNat_natCast] at hh
   have hall := whoU_in (fun i => of (atS s i)) (t - f) f
   have hlen := whoU_len (fun i => of (atS s i)) (t - f) f
   generalize hwa : whoU (fun i => of (atS s i)) (t - f) f = whoA at *
   have ih' := ih h _ (by rw [markS_len]; exact hl) hh
   simp (disch := first | omega | (simp only [ln0]; omega)) only [rs, reduceIte, Nat.reduceAdd, h, wn_at0, wn_at1, hf, ht]
   have key2 := xup_ind (n := t) (P := fun j => f ≤ j → ∀ who : List Nat, who ++ whoU (fun i => of (atS s i)) (t - j) j = whoA → Run tr (whoHL ofF) [rowOf eWn ws, rowOf eSz s, I k, bools had, I j, nats who] [.loop (hadL ofF) [rowOf eWn ws, rowOf eSz s], .loop (whoHL ofF) [rowOf eWn ws, rowOf eSz s, I k, bools had]] [bools fin]) ?_ f (by omega)
   · exact key2 (Nat.le_refl _) [] (by simpa using hwa)
   intro j hj ih2 hfj who hwho
   rw [u_whoHL]
   have hwl3 : who.length ≤ whoA.length := by rw [← hwho]; simp
   by_cases h2 : j < t
   · have hc : (j : Int) < (t : Int) := by omega
     have hjs : j < s.length := by omega
     have hx := hof s[j]
     have hl2 : (who.length : Int) + 1 ≤ 4294967296 := by omega
     have ih2' := ih2 h2 (by omega) (if of s[j] = true then who ++ [j] else who) (by
      rw [← hwho, show t - j = (t - (j + 1)) + 1 by omega]
      simp only [whoU, atS_lt hjs]
      split <;> simp)
     simp (disch := first | omega | (simp only [ln0]; omega)) only [rs, reduceIte, Nat.reduceAdd, wn_at0, wn_at1, h, hf, ht, hc, hjs, sz_at0, sz_at1, sz_at2, sz_at3, sz_at4, sz_at5, sz_at6, sz_snoc, sz_set, sz_put5, sz_put6, xcall_of hx]
     refine br_split ?_ ?_ <;> intro _
     · rename_i hy
       rw [if_pos hy] at ih2'
       have e : ints (who.map Int.ofNat ++ [(j : Int)]) = nats (who ++ [j]) := by simp only [nats, List.map_append, List.map_cons, List.map_nil, Int.ofNat_eq_natCast]
       rw [← e] at ih2'
       simp (disch := first | omega | (simp only [ln0]; omega)) only [rs, reduceIte, Nat.reduceAdd, hl2, u_whoHJ]
       first | exact ih2' | exact ⟨by omega, ih2'⟩
     · rename_i hy
       rw [if_neg hy] at ih2'
       simp (disch := first | omega | (simp only [ln0]; omega)) only [rs, reduceIte, Nat.reduceAdd, u_whoHJ]
       exact ih2'
   · obtain rfl : j = t := by omega
     rw [Nat.sub_self] at hwho
     simp only [whoU, List.append_nil] at hwho
     subst hwho
     have hc : ¬ (j : Int) < (j : Int) := by omega
     simp (disch := first | omega | (simp only [ln0]; omega)) only [rs, reduceIte, Nat.reduceAdd, wn_at0, wn_at1, h, hf, ht, hc]
     refine mark k (I j) had who _ (fun i hi => by have := hall i hi; omega) (by omega) (fun y => ?_) hl (by omega) _
     by_cases hy : y = markS s who had
     · subst hy; exact Or.inl ih'
     · exact Or.inr hy
 · rw [List.drop_of_length_le (by omega)] at hh
   simp only [hadS] at hh
   simp (disch := first | omega | (simp only [ln0]; omega)) only [rs, reduceIte, Nat.reduceAdd, h]
   rw [hh]
def limA1 (x : Sz) (h : Bool) (n : Int) : Sz := if h = true ∨ x.lim < 1125899906842624 then { x with lim := IntKind.i64.wrap (ownL x + n) } else x
def limAS : List Sz → List Bool → List Int → List Sz
 | x :: s, h :: hs, n :: l => limA1 x h n :: limAS s hs l
 | s, _, _ => s
theorem limAS_len : ∀ (s : List Sz) (h : List Bool) (l : List Int), (limAS s h l).length = s.length
 | x :: s, h :: hs, n :: l => by simp [limAS, limAS_len s hs l]
 | [], _, _ => by simp [limAS]
 | _ :: _, [], _ => by simp [limAS]
 | _ :: _, _ :: _, [] => by simp [limAS]
theorem limAS_at : ∀ (s : List Sz) (h : List Bool) (l : List Int) (hh : h.length = s.length) (hl : l.length = s.length) (i : Nat) (hi : i < s.length), (limAS s h l)[i]'(by rw [limAS_len]; exact hi) = limA1 s[i] (h[i]'(by omega)) (l[i]'(by omega))
 | x :: s, h :: hs, n :: l, hh, hl, i, hi => by
  cases i with
  | zero => rfl
  | succ i => simpa [limAS] using limAS_at s hs l (by simpa using hh) (by simpa using hl) i (by simpa using hi)
 | [], _, _, _, _, i, hi => by simp at hi
 | _ :: _, [], _, hh, _, _, _ => by simp at hh
 | _ :: _, _ :: _, [], _, hl, _, _ => by simp at hl
theorem limA_run (s : List Sz) (h : List Bool) (l : List Int) (hh : h.length = s.length) (hl : l.length = s.length) (hs : s.length ≤ 1000000) : Run tr limAT [rowOf eSz s, bools h, ints l] [] [rowOf eSz (limAS s h l)] := by
 unfold limAT
 have hal : (limAS s h l).length = s.length := limAS_len s h l
 have key := xup_ind (n := s.length) (P := fun j => Run tr limAL [rowOf eSz s, bools h, ints l, I j, rowOf eSz (mix (limAS s h l) s j)] [.loop limAL [rowOf eSz s, bools h, ints l]] [rowOf eSz (limAS s h l)]) ?_ 0 (Nat.zero_le _)
 · simp (disch := first | omega | (simp only [ln0]; omega)) only [rs, reduceIte, Nat.reduceAdd]
   simpa [mix_zero] using key
 intro j hj ih
 rw [u_limAL]
 have hml : (mix (limAS s h l) s j).length = s.length := mix_len hal j
 by_cases hjs : j < s.length
 · have hjl : j < l.length := by omega
   have hjh : j < h.length := by omega
   have hat : (mix (limAS s h l) s j)[j]'(by omega) = s[j] := mix_at hal hjs (by omega)
   have hla := limAS_at s h l hh hl j hjs
   have ih' := ih hjs
   have hx := l1_sp s[j]
   by_cases hc : h[j] = true ∨ s[j].lim < 1125899906842624
   · have hmod := mix_modify (f := fun y => { y with lim := IntKind.i64.wrap (ownL s[j] + l[j]) }) hal hjs (by rw [hla, limA1, if_pos hc])
     rw [← hmod] at ih'
     simp (disch := first | omega | (simp only [ln0]; omega)) only [rs, reduceIte, Nat.reduceAdd, hjs, hjl, hjh, hml, sz_at0, sz_at1, sz_at2, sz_at3, sz_at4, sz_at5, sz_at6, sz_snoc, sz_set, sz_put5, sz_put6, hat, bx, reduceCtorEq, forall_const, ne_eq, or_true, limAL_b]
     rw [br_pos hc]
     simp (disch := first | omega | (simp only [ln0]; omega)) only [rs, reduceIte, Nat.reduceAdd, hjs, hjl, hjh, hml, sz_at0, sz_at1, sz_at2, sz_at3, sz_at4, sz_at5, sz_at6, sz_snoc, sz_set, sz_put5, sz_put6, hat, xcall_of hx, u_limAJ, on_ar, ar_add]
     exact ih'
   · have hset := mix_set hal hjs (v := s[j]) (by rw [hla, limA1, if_neg hc])
     have hid : (mix (limAS s h l) s j).set j s[j] = mix (limAS s h l) s j := by
      conv => lhs; rw [← hat]
      exact List.set_getElem_self _
     rw [hid] at hset
     rw [← hset] at ih'
     simp (disch := first | omega | (simp only [ln0]; omega)) only [rs, reduceIte, Nat.reduceAdd, hjs, hjl, hjh, hml, sz_at0, sz_at1, sz_at2, sz_at3, sz_at4, sz_at5, sz_at6, sz_snoc, sz_set, sz_put5, sz_put6, hat, bx, reduceCtorEq, forall_const, ne_eq, or_true, limAL_b]
     rw [br_neg hc]
     simp (disch := first | omega | (simp only [ln0]; omega)) only [rs, reduceIte, Nat.reduceAdd, u_limAJ]
     exact ih'
 · obtain rfl : j = s.length := by omega
   simp (disch := first | omega | (simp only [ln0]; omega)) only [rs, reduceIte, Nat.reduceAdd, hl, Nat.lt_irrefl, mix_full hal]
def fit1 (x : Sz) : Sz := if x.fit = true then { x with lim := min x.lim (limit x) } else x
theorem fit_run (s : List Sz) (hs : s.length ≤ 1000000) : Run tr fitT [rowOf eSz s] [] [rowOf eSz (s.map fit1)] := by
 unfold fitT
 have hal : (s.map fit1).length = s.length := by simp
 have key := xup_ind (n := s.length) (P := fun j => Run tr fitL [rowOf eSz s, I j, rowOf eSz (mix (s.map fit1) s j)] [.loop fitL [rowOf eSz s]] [rowOf eSz (s.map fit1)]) ?_ 0 (Nat.zero_le _)
 · simp (disch := first | omega | (simp only [ln0]; omega)) only [rs, reduceIte, Nat.reduceAdd]
   simpa [mix_zero] using key
 intro j hj ih
 rw [u_fitL]
 have hml : (mix (s.map fit1) s j).length = s.length := mix_len hal j
 by_cases h : j < s.length
 · have hat : (mix (s.map fit1) s j)[j]'(by omega) = s[j] := mix_at hal h (by omega)
   have ih' := ih h
   have hx := limit_sp s[j]
   simp (disch := first | omega | (simp only [ln0]; omega)) only [rs, reduceIte, Nat.reduceAdd, h, hml, sz_at0, sz_at1, sz_at2, sz_at3, sz_at4, sz_at5, sz_at6, sz_snoc, sz_set, sz_put5, sz_put6, hat]
   refine br_split ?_ ?_ <;> intro _
   · rename_i hc
     have hmod := mix_modify (f := fun y => { y with lim := min s[j].lim (limit s[j]) }) hal h (by simp [fit1, hc])
     rw [← hmod] at ih'
     simp (disch := first | omega | (simp only [ln0]; omega)) only [rs, reduceIte, Nat.reduceAdd, h, hml, sz_at0, sz_at1, sz_at2, sz_at3, sz_at4, sz_at5, sz_at6, sz_snoc, sz_set, sz_put5, sz_put6, hat, xcall_of hx, u_fitJ]
     exact ih'
   · rename_i hc
     have hset := mix_set hal h (v := s[j]) (by simp [fit1, hc])
     have hid : (mix (s.map fit1) s j).set j s[j] = mix (s.map fit1) s j := by
      conv => lhs; rw [← hat]
      exact List.set_getElem_self _
     rw [hid] at hset
     rw [← hset] at ih'
     simp (disch := first | omega | (simp only [ln0]; omega)) only [rs, reduceIte, Nat.reduceAdd, u_fitJ]
     exact ih'
 · obtain rfl : j = s.length := by omega
   simp (disch := first | omega | (simp only [ln0]; omega)) only [rs, reduceIte, Nat.reduceAdd, Nat.lt_irrefl, mix_full hal]
def end1 (x : Sz) : Sz := if x.lim = 1125899906842624 then { x with lim := x.base } else x
theorem end_run (s : List Sz) (hs : s.length ≤ 1000000) : Run tr endT [rowOf eSz s] [] [rowOf eSz (s.map end1)] := by
 unfold endT
 have hal : (s.map end1).length = s.length := by simp
 have key := xup_ind (n := s.length) (P := fun j => Run tr endL [rowOf eSz s, I j, rowOf eSz (mix (s.map end1) s j)] [.loop endL [rowOf eSz s]] [rowOf eSz (s.map end1)]) ?_ 0 (Nat.zero_le _)
 · simp (disch := first | omega | (simp only [ln0]; omega)) only [rs, reduceIte, Nat.reduceAdd]
   simpa [mix_zero] using key
 intro j hj ih
 rw [u_endL]
 have hml : (mix (s.map end1) s j).length = s.length := mix_len hal j
 by_cases h : j < s.length
 · have hat : (mix (s.map end1) s j)[j]'(by omega) = s[j] := mix_at hal h (by omega)
   have ih' := ih h
   simp (disch := first | omega | (simp only [ln0]; omega)) only [rs, reduceIte, Nat.reduceAdd, h, hml, sz_at0, sz_at1, sz_at2, sz_at3, sz_at4, sz_at5, sz_at6, sz_snoc, sz_set, sz_put5, sz_put6, hat, beq_iff_eq]
   refine br_split ?_ ?_ <;> intro _
   · rename_i hc
     have hmod := mix_modify (f := fun y => { y with lim := s[j].base }) hal h (by simp [end1, hc])
     rw [← hmod] at ih'
     simp (disch := first | omega | (simp only [ln0]; omega)) only [rs, reduceIte, Nat.reduceAdd, h, hml, sz_at0, sz_at1, sz_at2, sz_at3, sz_at4, sz_at5, sz_at6, sz_snoc, sz_set, sz_put5, sz_put6, hat, u_endJ]
     exact ih'
   · rename_i hc
     have hset := mix_set hal h (v := s[j]) (by simp [end1, hc])
     have hid : (mix (s.map end1) s j).set j s[j] = mix (s.map end1) s j := by
      conv => lhs; rw [← hat]
      exact List.set_getElem_self _
     rw [hid] at hset
     rw [← hset] at ih'
     simp (disch := first | omega | (simp only [ln0]; omega)) only [rs, reduceIte, Nat.reduceAdd, u_endJ]
     exact ih'
 · obtain rfl : j = s.length := by omega
   simp (disch := first | omega | (simp only [ln0]; omega)) only [rs, reduceIte, Nat.reduceAdd, Nat.lt_irrefl, mix_full hal]
end Go.Proofs.Ytbebnjiolaomdaa.T

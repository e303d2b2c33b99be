/- Trees that stand within the sizer's tree: what is wanted, rooms, and what is done to all tracks. No condition beyond what each states. -/
import Derived.Test.YtbebnjiolaomdaaT
import Derived.Test.YtbebnjiolaomdaaKgx
set_option linter.unusedVariables false
set_option linter.unusedSimpArgs false
set_option maxRecDepth 10000
namespace Go.Proofs.Ytbebnjiolaomdaa.T
open Go Go.Proofs.Ytbebnjiolaomdaa.Sx Go.Proofs.Ytbebnjiolaomdaa.M
def limI' (s : List Sz) (a : List Int) (w : Wn) (n : Int) : Int := limG w n ((s.drop w.fm.toNat).take (w.to.toNat - w.fm.toNat)) (gapsI a w)
def wanted1 (s : List Sz) (a : List Int) (f1 : Bool) (w : Wn) : Int := if f1 then limI' s a w w.mn else w.least
def wanted3 (s : List Sz) (a : List Int) (f1 : Bool) (w : Wn) : Int := if f1 then limI' s a w w.mx else w.mx
section
variable {ws : List Wn} {s : List Sz} {a : List Int} {f1 f2 : Bool} {g : List Bool}
theorem wkC_ok (fb : Nat) (wanted : Wn → Int) (h : ∀ w : Wn, Says tr fb [I w.fm, I w.to, I w.least, I w.mn, I w.mx] [I (wanted w)]) : WkOk ws s a f1 f2 g (wkC fb) wanted := by
 intro K k hk x7 J r hK
 unfold wkC
 simp (disch := first | omega | (simp only [ln0]; omega)) only [rs, reduceIte, Nat.reduceAdd, wn_at0, wn_at1, wn_at2, wn_at3, wn_at4, hk, xcall_of (h _)]
 exact hK
theorem lim_run (ni : Nat) (sel : Wn → Int) (hni : ∀ (k : Nat) (hk : k < ws.length), cellAt (ws.map eWn) (k : Int) ni (.int .i64) = I (sel ws[k])) (k : Nat) (hk : k < ws.length) (x7 : PV) (f t : Nat) (hf : ws[k].fm = (f : Int)) (ht : ws[k].to = (t : Int)) (hft : f < t) (hts : t ≤ s.length) (hal : a.length = s.length) (hs : s.length ≤ 50000) :
    Run tr (.letj limJ (asr (le (n 0) (add W0 (n 1))) (asr (le (add W0 (n 1)) W1) (asr (le W1 (len (v 2))) (.loop [n 0, n 0] (limL1 ni)))))) [rowOf eWn ws, rowOf eSz s, ints a, B f1, B f2, bools g, I k, x7] [] [I (limI' s a ws[k] (sel ws[k]))] := by
 unfold limI' gapsI
 rw [hf, ht]
 simp only [Int.toNat_natCast]
 generalize hb : (a.drop (f + 1)).take (t - (f + 1)) = bl
 generalize hc : (s.drop f).take (t - f) = c
 have eb : ((a.map eI).drop ((f : Int) + 1).toNat).take ((t : Int) - ((f : Int) + 1)).toNat = bl.map eI := by
  rw [row_cut, ← hb]
  congr 2 <;> (try congr 1) <;> omega
 have ec : ((s.map eSz).drop f).take ((t : Int) - (f : Int)).toNat = c.map eSz := by
  rw [row_cut, ← hc]
  congr 2; omega
 have hbl : bl.length ≤ 1000000 := by rw [← hb]; simp; omega
 have hcl : c.length ≤ 1000000 := by rw [← hc]; simp; omega
 have hk0 := hni k hk
 have l3 : ∀ (x8 x9 : PV) (J1 : JT) j, j ≤ c.length → ∀ most, Run tr (limL2 ni) [rowOf eWn ws, rowOf eSz s, ints a, B f1, B f2, bools g, I k, x7, x8, x9, I j, I most] [.join limJ [rowOf eWn ws, rowOf eSz s, ints a, B f1, B f2, bools g, I k, x7], J1, .loop (limL2 ni) [rowOf eWn ws, rowOf eSz s, ints a, B f1, B f2, bools g, I k, x7, x8, x9]] [I (limG ws[k] (sel ws[k]) (c.drop j) most)] := by
  intro x8 x9 J1
  refine xup_ind fun j hj ih most => ?_
  rw [u_limL2]
  by_cases h : j < c.length
  · rw [List.drop_eq_getElem_cons h]
    have h1 := loose_sp c[j]
    have h2 := limit_sp c[j]
    simp (disch := first | omega | (simp only [ln0]; omega)) only [rs, reduceIte, Nat.reduceAdd, wn_at0, wn_at1, wn_at2, hk, hf, ht, hk0, ec, h, sz_at0, sz_at1, sz_at2, sz_at3, sz_at4, sz_at5, sz_at6, sz_snoc, sz_set, sz_put5, sz_put6, xcall_of h1, xcall_of h2, u_limJ, bx, reduceCtorEq, forall_const, ne_eq]
    simp only [limG]
    by_cases hx : c[j].mx ≠ 1 ∧ c[j].fit = false
    · rw [br_pos (by simpa using hx), if_pos hx]
    · rw [br_neg (by simpa using hx), if_neg hx]
      exact ih h _
  · simp (disch := first | omega | (simp only [ln0]; omega)) only [rs, reduceIte, Nat.reduceAdd, wn_at0, wn_at1, wn_at2, hk, hf, ht, hk0, ec, h, u_limJ]
    rw [List.drop_of_length_le (by omega)]
    rfl
 have l2 : ∀ j, j ≤ bl.length → ∀ acc, Run tr (limL1 ni) [rowOf eWn ws, rowOf eSz s, ints a, B f1, B f2, bools g, I k, x7, I j, I acc] [.join limJ [rowOf eWn ws, rowOf eSz s, ints a, B f1, B f2, bools g, I k, x7], .loop (limL1 ni) [rowOf eWn ws, rowOf eSz s, ints a, B f1, B f2, bools g, I k, x7]] [I (limG ws[k] (sel ws[k]) c (gapsW (bl.drop j) acc))] := by
  refine xup_ind fun j hj ih acc => ?_
  rw [u_limL1]
  by_cases h : j < bl.length
  · rw [List.drop_eq_getElem_cons h]
    simp (disch := first | omega | (simp only [ln0]; omega)) only [rs, reduceIte, Nat.reduceAdd, wn_at0, wn_at1, hk, hf, ht, eb, h]
    exact ih h _
  · rw [List.drop_of_length_le (by omega)]
    simp (disch := first | omega | (simp only [ln0]; omega)) only [rs, reduceIte, Nat.reduceAdd, wn_at0, wn_at1, hk, hf, ht, eb, h]
    refine ⟨by omega, by omega, ?_⟩
    have := l3 (I j) (I acc) (.loop (limL1 ni) [rowOf eWn ws, rowOf eSz s, ints a, B f1, B f2, bools g, I k, x7]) 0 (Nat.zero_le _) acc
    simpa [gapsW] using this
 simp (disch := first | omega | (simp only [ln0]; omega)) only [rs, reduceIte, Nat.reduceAdd, wn_at0, wn_at1, hk, hf, ht]
 refine ⟨by omega, by omega, by omega, ?_⟩
 exact l2 0 (Nat.zero_le _) 0
theorem wkL_ok (ni fb : Nat) (sel low : Wn → Int) (hni : ∀ (k : Nat) (hk : k < ws.length), cellAt (ws.map eWn) (k : Int) ni (.int .i64) = I (sel ws[k])) (h : ∀ w : Wn, Says tr fb [I w.fm, I w.to, I w.least, I w.mn, I w.mx] [I (low w)])
    (hal : a.length = s.length) (hs : s.length ≤ 50000) (hws : ∀ w ∈ ws, InW s.length w) : WkOk ws s a f1 f2 g (wkL ni fb) (fun w => if f1 then limI' s a w (sel w) else low w) := by
 intro K k hk x7 J r hK
 obtain ⟨hi0, hi1, hi2⟩ := hws _ (List.getElem_mem hk)
 obtain ⟨f, hf⟩ : ∃ f : Nat, ws[k].fm = f := ⟨ws[k].fm.toNat, by omega⟩
 obtain ⟨t, ht⟩ : ∃ t : Nat, ws[k].to = t := ⟨ws[k].to.toNat, by omega⟩
 unfold wkL limT
 rw [run_seq]
 refine ⟨[I (if f1 = true then limI' s a ws[k] (sel ws[k]) else low ws[k])], ?_, rfl, hK⟩
 rw [run_ite]
 simp only [xden_var, List.getD_cons_zero, List.getD_cons_succ, b_bool]
 refine br_split ?_ ?_ <;> intro _
 · rename_i hx
   rw [if_pos hx]
   exact lim_run ni sel hni k hk x7 f t hf ht (by omega) (by omega) hal hs
 · rename_i hx
   rw [if_neg hx]
   simp (disch := first | omega | (simp only [ln0]; omega)) only [rs, reduceIte, Nat.reduceAdd, wn_at0, wn_at1, wn_at2, wn_at3, wn_at4, hk, xcall_of (h _)]
end
def roomB (s : List Sz) (i : Nat) : Int := max 0 (IntKind.i64.wrap (limit (atS s i) - (atS s i).base))
def roomL (s : List Sz) (g : List Bool) (i : Nat) : Int := if g.getD i false = true ∨ (atS s i).lim = 1125899906842624 then 1125899906842624 else 0
section
variable {ws : List Wn} {s : List Sz} {a : List Int} {f1 f2 : Bool} {g : List Bool}
theorem roomB_run (k : Nat) (out : List Int) (x8 x9 x10 x12 : PV) (sp : Int) (who : List Nat) (hw : ∀ i ∈ who, i < s.length) (j : Nat) (hj : j < who.length) (y15 y16 y17 : PV) : Run tr roomBT [rowOf eWn ws, rowOf eSz s, ints a, B f1, B f2, bools g, I k, ints out, x8, x9, x10, I sp, x12, nats who, I j, y15, y16, y17] [] [I (roomB s who[j])] := by
 have hi := hw _ (List.getElem_mem hj)
 have h := limit_sp s[who[j]]
 unfold roomBT roomB
 rw [atS_lt hi]
 simp (disch := first | omega | (simp only [ln0]; omega)) only [rs, reduceIte, Nat.reduceAdd, hj, List.getElem_map, Int.ofNat_eq_natCast, hi, sz_at0, sz_at1, sz_at2, sz_at3, sz_at4, sz_at5, sz_at6, sz_snoc, sz_set, sz_put5, sz_put6, xcall_of h, on_ar, ar_sub]
theorem roomL_run (hg : g.length = s.length) (k : Nat) (out : List Int) (x8 x9 x10 x12 : PV) (sp : Int) (who : List Nat) (hw : ∀ i ∈ who, i < s.length) (j : Nat) (hj : j < who.length) (y15 y16 y17 : PV) : Run tr roomLT [rowOf eWn ws, rowOf eSz s, ints a, B f1, B f2, bools g, I k, ints out, x8, x9, x10, I sp, x12, nats who, I j, y15, y16, y17] [] [I (roomL s g who[j])] := by
 have hi := hw _ (List.getElem_mem hj)
 have hig : who[j] < g.length := by omega
 have hgd : g.getD who[j] false = g[who[j]] := by simp [hig]
 unfold roomLT roomL
 rw [atS_lt hi, hgd]
 simp (disch := first | omega | (simp only [ln0]; omega)) only [rs, reduceIte, Nat.reduceAdd, hj, List.getElem_map, Int.ofNat_eq_natCast, hi, hig, sz_at0, sz_at1, sz_at2, sz_at3, sz_at4, sz_at5, sz_at6, sz_snoc, sz_set, sz_put5, sz_put6, u_roomLJ, bx, reduceCtorEq, forall_const, ne_eq, or_true]
 refine br_split ?_ ?_ <;> intro _
 · rename_i hx
   rw [if_pos hx]
 · rename_i hx
   rw [if_neg hx]
def addS : List Sz → List Int → List Sz
 | x :: s, n :: l => { x with base := IntKind.i64.wrap (x.base + n) } :: addS s l
 | s, _ => s
theorem addS_len : ∀ (s : List Sz) (l : List Int), (addS s l).length = s.length
 | x :: s, n :: l => by simp [addS, addS_len s l]
 | [], _ => rfl
 | _ :: _, [] => rfl
theorem addS_at : ∀ (s : List Sz) (l : List Int) (hl : l.length = s.length) (i : Nat) (h : i < s.length), (addS s l)[i]'(by rw [addS_len]; exact h) = { s[i] with base := IntKind.i64.wrap (s[i].base + l[i]'(by omega)) }
 | x :: s, n :: l, hl, i, h => by
  cases i with
  | zero => rfl
  | succ i => simpa [addS] using addS_at s l (by simpa using hl) i (by simpa using h)
 | [], _, _, i, h => by simp at h
theorem add_run (s : List Sz) (l : List Int) (hl : l.length = s.length) (hs : s.length ≤ 1000000) : Run tr addT [rowOf eSz s, ints l] [] [rowOf eSz (addS s l)] := by
 unfold addT
 have hal : (addS s l).length = s.length := addS_len s l
 have key := xup_ind (n := s.length) (P := fun j => Run tr addL [rowOf eSz s, ints l, I j, rowOf eSz (mix (addS s l) s j)] [.loop addL [rowOf eSz s, ints l]] [rowOf eSz (addS s l)]) ?_ 0 (Nat.zero_le _)
 · simp (disch := first | omega | (simp only [ln0]; omega)) only [rs, reduceIte, Nat.reduceAdd]
   simpa [mix_zero] using key
 intro j hj ih
 rw [u_addL]
 have hml : (mix (addS s l) s j).length = s.length := mix_len hal j
 by_cases h : j < s.length
 · have hjl : j < l.length := by omega
   have hat : (mix (addS s l) s j)[j]'(by omega) = s[j] := mix_at hal h (by omega)
   have hmod := mix_modify (f := fun y => { y with base := IntKind.i64.wrap (s[j].base + l[j]) }) hal h (by rw [addS_at s l hl j h])
   have ih' := ih h
   rw [← hmod] at ih'
   simp (disch := first | omega | (simp only [ln0]; omega)) only [rs, reduceIte, Nat.reduceAdd, h, hjl, hml, sz_at0, sz_at1, sz_at2, sz_at3, sz_at4, sz_at5, sz_at6, sz_snoc, sz_set, sz_put5, sz_put6, hat, on_ar, ar_add]
   exact ih'
 · obtain rfl : j = s.length := by omega
   simp (disch := first | omega | (simp only [ln0]; omega)) only [rs, reduceIte, Nat.reduceAdd, hl, Nat.lt_irrefl, mix_full hal]
def raise1 (x : Sz) : Sz := { x with lim := max x.lim x.base }
theorem raise_run (s : List Sz) (hs : s.length ≤ 1000000) : Run tr raiseT [rowOf eSz s] [] [rowOf eSz (s.map raise1)] := by
 unfold raiseT
 have hal : (s.map raise1).length = s.length := by simp
 have key := xup_ind (n := s.length) (P := fun j => Run tr raiseL [rowOf eSz s, I j, rowOf eSz (mix (s.map raise1) s j)] [.loop raiseL [rowOf eSz s]] [rowOf eSz (s.map raise1)]) ?_ 0 (Nat.zero_le _)
 · simp (disch := first | omega | (simp only [ln0]; omega)) only [rs, reduceIte, Nat.reduceAdd]
   simpa [mix_zero] using key
 intro j hj ih
 rw [u_raiseL]
 have hml : (mix (s.map raise1) s j).length = s.length := mix_len hal j
 by_cases h : j < s.length
 · have hat : (mix (s.map raise1) s j)[j]'(by omega) = s[j] := mix_at hal h (by omega)
   have hset := mix_set hal h (v := raise1 s[j]) (by simp)
   have ih' := ih h
   rw [← hset] at ih'
   have hr := braise_sp s[j]
   simp (disch := first | omega | (simp only [ln0]; omega)) only [rs, reduceIte, Nat.reduceAdd, h, hml, sz_at0, sz_at1, sz_at2, sz_at3, sz_at4, sz_at5, sz_at6, sz_snoc, sz_set, sz_put5, sz_put6, hat, xcall_of hr]
   exact ih'
 · obtain rfl : j = s.length := by omega
   simp (disch := first | omega | (simp only [ln0]; omega)) only [rs, reduceIte, Nat.reduceAdd, Nat.lt_irrefl, mix_full hal]
end
end Go.Proofs.Ytbebnjiolaomdaa.T

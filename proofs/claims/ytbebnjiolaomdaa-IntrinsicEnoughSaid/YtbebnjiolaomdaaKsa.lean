/- The sizer's first step: tracks by what spans them alone. No condition beyond what each states. -/
import Derived.Test.YtbebnjiolaomdaaT
import Derived.Test.YtbebnjiolaomdaaKg2
set_option linter.unusedVariables false
set_option linter.unusedSimpArgs false
set_option maxRecDepth 100000
namespace Go.Proofs.Ytbebnjiolaomdaa.T
open Go Go.Proofs.Ytbebnjiolaomdaa.Sx Go.Proofs.Ytbebnjiolaomdaa.M
structure Tp where
 a : Int
 b : Int
 c : Int
@[reducible] def eTp (x : Tp) : List PV := [I x.a, I x.b, I x.c]
theorem tp_at0 (l : List Tp) (i : Nat) (h : i < l.length) (k : LK) : cellAt (l.map eTp) (i : Int) 0 k = I l[i].a := by rw [xcell_at l i h]; rfl
theorem tp_at1 (l : List Tp) (i : Nat) (h : i < l.length) (k : LK) : cellAt (l.map eTp) (i : Int) 1 k = I l[i].b := by rw [xcell_at l i h]; rfl
theorem tp_at2 (l : List Tp) (i : Nat) (h : i < l.length) (k : LK) : cellAt (l.map eTp) (i : Int) 2 k = I l[i].c := by rw [xcell_at l i h]; rfl
theorem tp_put0 (l : List Tp) (i : Nat) (x : Int) : PV.row ((l.map eTp).modify i (·.set 0 (I x))) = rowOf eTp (l.modify i fun y => { y with a := x }) := rowOf_put l i 0 (I x) _ (fun y => rfl)
theorem tp_put1 (l : List Tp) (i : Nat) (x : Int) : PV.row ((l.map eTp).modify i (·.set 1 (I x))) = rowOf eTp (l.modify i fun y => { y with b := x }) := rowOf_put l i 1 (I x) _ (fun y => rfl)
theorem tp_put2 (l : List Tp) (i : Nat) (x : Int) : PV.row ((l.map eTp).modify i (·.set 2 (I x))) = rowOf eTp (l.modify i fun y => { y with c := x }) := rowOf_put l i 2 (I x) _ (fun y => rfl)
theorem tp_make (n : Nat) : PV.row (List.replicate n [I 0, I 0, I 0]) = rowOf eTp (List.replicate n ⟨0, 0, 0⟩) := xmap_make n (⟨0, 0, 0⟩ : Tp) rfl
theorem mod3c {α : Type} (l : List α) (i : Nat) (hi : i < l.length) (f g h k : α → α) (e : h (g (f l[i])) = k l[i]) : ((l.modify i f).modify i g).modify i h = l.modify i k := by
 apply List.ext_getElem (by simp)
 intro j h1 h2
 simp only [List.getElem_modify]
 split
 · rename_i hij
   subst hij
   exact e
 · rfl
def topStep (s : List Sz) (a : List Int) (f : Bool) (w : Wn) (ts : List Tp × List Bool) : List Tp × List Bool :=
 if w.to = w.fm + 1 then (ts.1.modify w.fm.toNat (fun t => ⟨max t.a (wanted1 s a f w), max t.b w.mn, max t.c w.mx⟩), ts.2.set w.fm.toNat true) else ts
def topS (s : List Sz) (a : List Int) (f : Bool) : List Wn → List Tp × List Bool → List Tp × List Bool
 | [], ts => ts
 | w :: ws, ts => topS s a f ws (topStep s a f w ts)
theorem topS_len (s : List Sz) (a : List Int) (f : Bool) : ∀ (ws : List Wn) (ts : List Tp × List Bool), (topS s a f ws ts).1.length = ts.1.length ∧ (topS s a f ws ts).2.length = ts.2.length
 | [], ts => ⟨rfl, rfl⟩
 | w :: ws, ts => by
  have := topS_len s a f ws (topStep s a f w ts)
  simp only [topS]
  rw [this.1, this.2]
  unfold topStep
  split <;> simp
def alone1 (x : Sz) (t : Tp) (met : Bool) : Sz :=
 if x.mx = 5 ∨ met = false then x else
  raise1 { x with
   base := if x.mn = 2 then max x.base t.a else if x.mn = 3 then max x.base t.b else if x.mn = 4 then max x.base t.c else x.base
   lim := if x.fit = true then min t.c x.cap else if x.mx = 3 then t.b else if contentB x = true then t.c else x.lim }
def alS : List Sz → List Tp → List Bool → List Sz
 | x :: s, t :: ts, m :: ms => alone1 x t m :: alS s ts ms
 | s, _, _ => s
theorem alS_len : ∀ (s : List Sz) (h : List Tp) (l : List Bool), (alS s h l).length = s.length
 | x :: s, h :: hs, n :: l => by simp [alS, alS_len s hs l]
 | [], _, _ => by simp [alS]
 | _ :: _, [], _ => by simp [alS]
 | _ :: _, _ :: _, [] => by simp [alS]
theorem alS_at : ∀ (s : List Sz) (h : List Tp) (l : List Bool) (hh : h.length = s.length) (hl : l.length = s.length) (i : Nat) (hi : i < s.length), (alS s h l)[i]'(by rw [alS_len]; exact hi) = alone1 s[i] (h[i]'(by omega)) (l[i]'(by omega))
 | x :: s, h :: hs, n :: l, hh, hl, i, hi => by
  cases i with
  | zero => rfl
  | succ i => simpa [alS] using alS_at s hs l (by simpa using hh) (by simpa using hl) i (by simpa using hi)
 | [], _, _, _, _, i, hi => by simp at hi
 | _ :: _, [], _, hh, _, _, _ => by simp at hh
 | _ :: _, _ :: _, [], _, hl, _, _ => by simp at hl
section
variable {ws : List Wn} {s : List Sz} {a : List Int} {f m : Bool} {mode : Int}
theorem sal_run (h : Ask s a ws) (k : Nat) (hk : k < ws.length) (x10 x11 : PV) :
    Run tr intrinsic_Size_s4 [rowOf eSz s, ints a, rowOf eWn ws, I mode, B true, rowOf eSz s, B f, B m, B m, I k, x10, x11] [] [I (wanted1 s a f ws[k])] := by
 obtain ⟨hi0, hi1, hi2⟩ := h.hi _ (List.getElem_mem hk)
 obtain ⟨fm, hf⟩ : ∃ f : Nat, ws[k].fm = f := ⟨ws[k].fm.toNat, by omega⟩
 obtain ⟨t, ht⟩ : ∃ t : Nat, ws[k].to = t := ⟨ws[k].to.toNat, by omega⟩
 have hal := h.ha
 have hs := h.hs
 have hft : fm < t := by omega
 have hts : t ≤ s.length := by omega
 rw [u_intrinsic_Size_s4]
 unfold wanted1
 rw [run_ite]
 simp only [xden_var, List.getD_cons_zero, List.getD_cons_succ, b_bool]
 refine br_split ?_ ?_ <;> intro _
 · rename_i hx
   rw [if_pos hx]
   unfold limI' gapsI
   rw [hf, ht]
   simp only [Int.toNat_natCast]
   generalize hb : (a.drop (fm + 1)).take (t - (fm + 1)) = bl
   generalize hc : (s.drop fm).take (t - fm) = c
   have eb : ((a.map eI).drop ((fm : Int) + 1).toNat).take ((t : Int) - ((fm : Int) + 1)).toNat = bl.map eI := by
    rw [row_cut, ← hb]
    congr 2 <;> (try congr 1) <;> omega
   have ec : ((s.map eSz).drop fm).take ((t : Int) - (fm : Int)).toNat = c.map eSz := by
    rw [row_cut, ← hc]
    congr 2; omega
   have hbl : bl.length ≤ 1000000 := by rw [← hb]; simp; omega
   have hcl : c.length ≤ 1000000 := by rw [← hc]; simp; omega
   have l3 : ∀ (x12 x13 : PV) (J1 : JT) j, j ≤ c.length → ∀ most, Run tr intrinsic_Size_l7 [rowOf eSz s, ints a, rowOf eWn ws, I mode, B true, rowOf eSz s, B f, B m, B m, I k, x10, x11, x12, x13, I j, I most] [.join intrinsic_Size_j5 [rowOf eSz s, ints a, rowOf eWn ws, I mode, B true, rowOf eSz s, B f, B m, B m, I k, x10, x11], J1, .loop intrinsic_Size_l7 [rowOf eSz s, ints a, rowOf eWn ws, I mode, B true, rowOf eSz s, B f, B m, B m, I k, x10, x11, x12, x13]] [I (limG ws[k] ws[k].mn (c.drop j) most)] := by
    intro x12 x13 J1
    refine xup_ind fun j hj ih most => ?_
    rw [u_intrinsic_Size_l7]
    by_cases h : j < c.length
    · rw [List.drop_eq_getElem_cons h]
      have h1 := loose_sp c[j]
      have h2 := limit_sp c[j]
      simp (disch := first | omega | (simp only [ln0]; omega)) only [rs, reduceIte, Nat.reduceAdd, wn_at0, wn_at1, wn_at2, wn_at3, hk, hf, ht, ec, h, sz_at0, sz_at1, sz_at2, sz_at3, sz_at4, sz_at5, sz_at6, sz_snoc, sz_set, sz_put5, sz_put6, xcall_of h1, xcall_of h2, u_intrinsic_Size_j5, bx, reduceCtorEq, forall_const, ne_eq]
      simp only [limG]
      by_cases hx : c[j].mx ≠ 1 ∧ c[j].fit = false
      · rw [br_pos (by simpa using hx), if_pos hx]
      · rw [br_neg (by simpa using hx), if_neg hx]
        exact ih h _
    · simp (disch := first | omega | (simp only [ln0]; omega)) only [rs, reduceIte, Nat.reduceAdd, wn_at0, wn_at1, wn_at2, wn_at3, hk, hf, ht, ec, h, u_intrinsic_Size_j5]
      rw [List.drop_of_length_le (by omega)]
      rfl
   have l2 : ∀ j, j ≤ bl.length → ∀ acc, Run tr intrinsic_Size_l6 [rowOf eSz s, ints a, rowOf eWn ws, I mode, B true, rowOf eSz s, B f, B m, B m, I k, x10, x11, I j, I acc] [.join intrinsic_Size_j5 [rowOf eSz s, ints a, rowOf eWn ws, I mode, B true, rowOf eSz s, B f, B m, B m, I k, x10, x11], .loop intrinsic_Size_l6 [rowOf eSz s, ints a, rowOf eWn ws, I mode, B true, rowOf eSz s, B f, B m, B m, I k, x10, x11]] [I (limG ws[k] ws[k].mn c (gapsW (bl.drop j) acc))] := by
    refine xup_ind fun j hj ih acc => ?_
    rw [u_intrinsic_Size_l6]
    by_cases h : j < bl.length
    · rw [List.drop_eq_getElem_cons h]
      simp (disch := first | omega | (simp only [ln0]; omega)) only [rs, reduceIte, Nat.reduceAdd, wn_at0, wn_at1, hk, hf, ht, eb, h]
      exact ih h _
    · rw [List.drop_of_length_le (by omega)]
      simp (disch := first | omega | (simp only [ln0]; omega)) only [rs, reduceIte, Nat.reduceAdd, wn_at0, wn_at1, hk, hf, ht, eb, h]
      first | refine ⟨by omega, by omega, ?_⟩ | refine ⟨by omega, ?_⟩
      have := l3 (I j) (I acc) (.loop intrinsic_Size_l6 [rowOf eSz s, ints a, rowOf eWn ws, I mode, B true, rowOf eSz s, B f, B m, B m, I k, x10, x11]) 0 (Nat.zero_le _) acc
      simpa [gapsW] using this
   simp (disch := first | omega | (simp only [ln0]; omega)) only [rs, reduceIte, Nat.reduceAdd, wn_at0, wn_at1, hk, hf, ht]
   refine ⟨by omega, by omega, by omega, ?_⟩
   exact l2 0 (Nat.zero_le _) 0
 · rename_i hx
   rw [if_neg hx]
   simp (disch := first | omega | (simp only [ln0]; omega)) only [rs, reduceIte, Nat.reduceAdd, wn_at0, wn_at1, wn_at2, wn_at3, wn_at4, hk, xcall_of (r1_sp _)]
theorem l8_run (h : Ask s a ws) (ts : List Tp) (mt : List Bool) (ht : ts.length = s.length) (hm : mt.length = s.length) (x9 : PV) (J1 : JT) {r : List PV}
    (hK : Run tr intrinsic_Size_l12 [rowOf eSz s, ints a, rowOf eWn ws, I mode, B true, rowOf eSz s, B f, B m, B m, x9, rowOf eTp ts, bools mt, I s.length, rowOf eSz (alS s ts mt), I (0 : Nat), ints [], rowOf eWn [], PV.row []] [J1, .loop intrinsic_Size_l8 [rowOf eSz s, ints a, rowOf eWn ws, I mode, B true, rowOf eSz s, B f, B m, B m, x9, rowOf eTp ts, bools mt], .loop intrinsic_Size_l12 [rowOf eSz s, ints a, rowOf eWn ws, I mode, B true, rowOf eSz s, B f, B m, B m, x9, rowOf eTp ts, bools mt, I s.length, rowOf eSz (alS s ts mt)]] r) :
    Run tr intrinsic_Size_l8 [rowOf eSz s, ints a, rowOf eWn ws, I mode, B true, rowOf eSz s, B f, B m, B m, x9, rowOf eTp ts, bools mt, I (0 : Nat), rowOf eSz s] [J1, .loop intrinsic_Size_l8 [rowOf eSz s, ints a, rowOf eWn ws, I mode, B true, rowOf eSz s, B f, B m, B m, x9, rowOf eTp ts, bools mt]] r := by
 have hal : (alS s ts mt).length = s.length := alS_len s ts mt
 have hs := h.hs
 have key := xup_ind (n := s.length) (P := fun i => Run tr intrinsic_Size_l8 [rowOf eSz s, ints a, rowOf eWn ws, I mode, B true, rowOf eSz s, B f, B m, B m, x9, rowOf eTp ts, bools mt, I i, rowOf eSz (mix (alS s ts mt) s i)] [J1, .loop intrinsic_Size_l8 [rowOf eSz s, ints a, rowOf eWn ws, I mode, B true, rowOf eSz s, B f, B m, B m, x9, rowOf eTp ts, bools mt]] r) ?_ 0 (Nat.zero_le _)
 · simpa [mix_zero] using key
 intro i hi ih
 rw [u_intrinsic_Size_l8]
 have hml : (mix (alS s ts mt) s i).length = s.length := mix_len hal i
 by_cases hx : i < s.length
 · have hit : i < ts.length := by omega
   have him : i < mt.length := by omega
   have hat : (mix (alS s ts mt) s i)[i]'(by omega) = s[i] := mix_at hal hx (by omega)
   have hla := alS_at s ts mt ht hm i hx
   have ih' := ih hx
   simp (disch := first | omega | (simp only [ln0]; omega)) only [rs, reduceIte, Nat.reduceAdd, hx, hit, him, hml, sz_at0, sz_at1, sz_at2, sz_at3, sz_at4, sz_at5, sz_at6, sz_snoc, sz_set, sz_put5, sz_put6, hat, bx, reduceCtorEq, forall_const, ne_eq, or_true]
   by_cases hc : s[i].mx = 5 ∨ mt[i] = false
   · rw [br_pos hc]
     have hset := mix_set hal hx (v := s[i]) (by rw [hla, alone1, if_pos hc])
     have hid : (mix (alS s ts mt) s i).set i s[i] = mix (alS s ts mt) s i := by
      conv => lhs; rw [← hat]
      exact List.set_getElem_self _
     rw [hid] at hset
     rw [← hset] at ih'
     simp (disch := first | omega | (simp only [ln0]; omega)) only [rs, reduceIte, Nat.reduceAdd, u_intrinsic_Size_j9]
     exact ih'
   · rw [br_neg hc]
     have hset := mix_set hal hx (v := alone1 s[i] ts[i] mt[i]) (by rw [hla])
     rw [← hset] at ih'
     have ecn : contentB s[i] = decide (s[i].mx = 4 ∨ s[i].mx = 2) := rfl
     have hj11 : ∀ bs lm : Int, raise1 { s[i] with base := bs, lim := lm } = alone1 s[i] ts[i] mt[i] → ∀ J3 : JT, Run tr intrinsic_Size_j11 [rowOf eSz s, ints a, rowOf eWn ws, I mode, B true, rowOf eSz s, B f, B m, B m, x9, rowOf eTp ts, bools mt, I i, rowOf eSz (mix (alS s ts mt) s i), I bs, I lm] [J1, .loop intrinsic_Size_l8 [rowOf eSz s, ints a, rowOf eWn ws, I mode, B true, rowOf eSz s, B f, B m, B m, x9, rowOf eTp ts, bools mt], .join intrinsic_Size_j9 [rowOf eSz s, ints a, rowOf eWn ws, I mode, B true, rowOf eSz s, B f, B m, B m, x9, rowOf eTp ts, bools mt, I i, rowOf eSz (mix (alS s ts mt) s i)]] r := by
      intro bs lm he _
      have hr := braise_sp { s[i] with base := bs, lim := lm }
      rw [← he] at ih'
      rw [u_intrinsic_Size_j11]
      simp (disch := first | omega | (simp only [ln0]; omega)) only [rs, reduceIte, Nat.reduceAdd, hx, hml, sz_at0, sz_at1, sz_at2, sz_at3, sz_at4, sz_at5, sz_at6, sz_snoc, sz_set, sz_put5, sz_put6, hat, xcall_of hr, u_intrinsic_Size_j9]
      exact ih'
     have hj10 : ∀ bs : Int, bs = (if s[i].mn = 2 then max s[i].base ts[i].a else if s[i].mn = 3 then max s[i].base ts[i].b else if s[i].mn = 4 then max s[i].base ts[i].c else s[i].base) → Run tr intrinsic_Size_j10 [rowOf eSz s, ints a, rowOf eWn ws, I mode, B true, rowOf eSz s, B f, B m, B m, x9, rowOf eTp ts, bools mt, I i, rowOf eSz (mix (alS s ts mt) s i), I bs] [J1, .loop intrinsic_Size_l8 [rowOf eSz s, ints a, rowOf eWn ws, I mode, B true, rowOf eSz s, B f, B m, B m, x9, rowOf eTp ts, bools mt], .join intrinsic_Size_j9 [rowOf eSz s, ints a, rowOf eWn ws, I mode, B true, rowOf eSz s, B f, B m, B m, x9, rowOf eTp ts, bools mt, I i, rowOf eSz (mix (alS s ts mt) s i)]] r := by
      intro bs hbs
      have fin : ∀ lm : Int, lm = (if s[i].fit = true then min ts[i].c s[i].cap else if s[i].mx = 3 then ts[i].b else if contentB s[i] = true then ts[i].c else s[i].lim) → raise1 { s[i] with base := bs, lim := lm } = alone1 s[i] ts[i] mt[i] := by
       intro lm hlm
       subst hlm hbs
       rw [alone1, if_neg hc]
      have hcn := content_sp { s[i] with base := bs }
      rw [u_intrinsic_Size_j10]
      simp (disch := first | omega | (simp only [ln0]; omega)) only [rs, reduceIte, Nat.reduceAdd, hx, hit, hml, sz_at0, sz_at1, sz_at2, sz_at3, sz_at4, sz_at5, sz_at6, sz_snoc, sz_set, sz_put5, sz_put6, hat, tp_at0, tp_at1, tp_at2]
      by_cases h1 : s[i].fit = true
      · rw [br_pos h1]
        exact hj11 bs _ (fin _ (by rw [if_pos h1])) J1
      · rw [br_neg h1]
        by_cases h2 : s[i].mx = 3
        · rw [br_pos (by simpa using h2)]
          exact hj11 bs _ (fin _ (by rw [if_neg h1, if_pos h2])) J1
        · rw [br_neg (by simpa using h2)]
          simp (disch := first | omega | (simp only [ln0]; omega)) only [rs, reduceIte, Nat.reduceAdd, hx, hit, hml, sz_at0, sz_at1, sz_at2, sz_at3, sz_at4, sz_at5, sz_at6, sz_snoc, sz_set, sz_put5, sz_put6, hat, tp_at0, tp_at1, tp_at2, xcall_of hcn]
          have e3 : contentB { s[i] with base := bs } = contentB s[i] := rfl
          rw [e3]
          by_cases h3 : contentB s[i] = true
          · rw [br_pos h3]
            exact hj11 bs _ (fin _ (by rw [if_neg h1, if_neg h2, if_pos h3])) J1
          · rw [br_neg h3]
            exact hj11 bs _ (fin _ (by rw [if_neg h1, if_neg h2, if_neg h3])) J1
     simp (disch := first | omega | (simp only [ln0]; omega)) only [rs, reduceIte, Nat.reduceAdd, hx, hit, hml, sz_at0, sz_at1, sz_at2, sz_at3, sz_at4, sz_at5, sz_at6, sz_snoc, sz_set, sz_put5, sz_put6, hat, tp_at0, tp_at1, tp_at2]
     by_cases h1 : s[i].mn = 2
     · rw [br_pos (by simpa using h1)]
       exact hj10 _ (by rw [if_pos h1])
     · rw [br_neg (by simpa using h1)]
       by_cases h2 : s[i].mn = 3
       · rw [br_pos (by simpa using h2)]
         exact hj10 _ (by rw [if_neg h1, if_pos h2])
       · rw [br_neg (by simpa using h2)]
         by_cases h3 : s[i].mn = 4
         · rw [br_pos (by simpa using h3)]
           exact hj10 _ (by rw [if_neg h1, if_neg h2, if_pos h3])
         · rw [br_neg (by simpa using h3)]
           exact hj10 _ (by rw [if_neg h1, if_neg h2, if_neg h3])
 · obtain rfl : i = s.length := by omega
   simp (disch := first | omega | (simp only [ln0]; omega)) only [rs, reduceIte, Nat.reduceAdd, Nat.lt_irrefl, mix_full hal]
   exact hK
theorem l2_run (h : Ask s a ws) {r : List PV}
    (hK : ∀ (x9 : PV) (J1 J2 J3 : JT), Run tr intrinsic_Size_l12 [rowOf eSz s, ints a, rowOf eWn ws, I mode, B true, rowOf eSz s, B f, B m, B m, x9, rowOf eTp (topS s a f ws (List.replicate s.length ⟨0, 0, 0⟩, List.replicate s.length false)).1, bools (topS s a f ws (List.replicate s.length ⟨0, 0, 0⟩, List.replicate s.length false)).2, I s.length, rowOf eSz (alS s (topS s a f ws (List.replicate s.length ⟨0, 0, 0⟩, List.replicate s.length false)).1 (topS s a f ws (List.replicate s.length ⟨0, 0, 0⟩, List.replicate s.length false)).2), I (0 : Nat), ints [], rowOf eWn [], PV.row []] [J1, J2, .loop intrinsic_Size_l12 [rowOf eSz s, ints a, rowOf eWn ws, I mode, B true, rowOf eSz s, B f, B m, B m, x9, rowOf eTp (topS s a f ws (List.replicate s.length ⟨0, 0, 0⟩, List.replicate s.length false)).1, bools (topS s a f ws (List.replicate s.length ⟨0, 0, 0⟩, List.replicate s.length false)).2, I s.length, rowOf eSz (alS s (topS s a f ws (List.replicate s.length ⟨0, 0, 0⟩, List.replicate s.length false)).1 (topS s a f ws (List.replicate s.length ⟨0, 0, 0⟩, List.replicate s.length false)).2)]] r) :
    Run tr intrinsic_Size_j1 [rowOf eSz s, ints a, rowOf eWn ws, I mode, B true, rowOf eSz s, B f, B m, B m] [] r := by
 have hal := h.ha
 have hs := h.hs
 have hwl := h.hw
 have hlen := topS_len s a f ws (List.replicate s.length ⟨0, 0, 0⟩, List.replicate s.length false)
 simp only [List.length_replicate] at hlen
 generalize hfin : topS s a f ws (List.replicate s.length ⟨0, 0, 0⟩, List.replicate s.length false) = fin at *
 rw [u_intrinsic_Size_j1]
 simp (disch := first | omega | (simp only [ln0]; omega)) only [rs, reduceIte, Nat.reduceAdd, tp_make]
 have key := xup_ind (n := ws.length) (P := fun k => ∀ ts : List Tp × List Bool, ts.1.length = s.length → ts.2.length = s.length → topS s a f (ws.drop k) ts = fin → Run tr intrinsic_Size_l2 [rowOf eSz s, ints a, rowOf eWn ws, I mode, B true, rowOf eSz s, B f, B m, B m, I k, rowOf eTp ts.1, bools ts.2] [.loop intrinsic_Size_l2 [rowOf eSz s, ints a, rowOf eWn ws, I mode, B true, rowOf eSz s, B f, B m, B m]] r) ?_ 0 (Nat.zero_le _)
 · exact key (List.replicate s.length ⟨0, 0, 0⟩, List.replicate s.length false) (by simp) (by simp) (by simpa using hfin)
 intro k hk ih ts h1 h2 hh
 rw [u_intrinsic_Size_l2]
 by_cases hx : k < ws.length
 · obtain ⟨hi0, hi1, hi2⟩ := h.hi _ (List.getElem_mem hx)
   obtain ⟨fm, hf⟩ : ∃ f : Nat, ws[k].fm = f := ⟨ws[k].fm.toNat, by omega⟩
   rw [List.drop_eq_getElem_cons hx] at hh
   simp only [topS] at hh
   have ih' := ih hx (topStep s a f ws[k] ts) (by unfold topStep; split <;> simp [h1]) (by unfold topStep; split <;> simp [h2]) hh
   unfold topStep at ih'
   simp (disch := first | omega | (simp only [ln0]; omega)) only [rs, reduceIte, Nat.reduceAdd, hx, wn_at0, wn_at1, hf, beq_iff_eq]
   by_cases hc : ws[k].to = (fm : Int) + 1
   · rw [br_pos hc]
     rw [hf, if_pos hc] at ih'
     have hfl : fm < ts.1.length := by omega
     have hfl2 : fm < ts.2.length := by omega
     simp (disch := first | omega | (simp only [ln0]; omega)) only [rs, reduceIte, Nat.reduceAdd, hx, wn_at0, hf, hfl, hfl2]
     rw [run_seq]
     refine ⟨_, sal_run (f := f) (m := m) h k hx _ _, rfl, ?_⟩
     simp (disch := first | omega | (simp only [ln0]; omega)) only [rs, reduceIte, Nat.reduceAdd, hx, wn_at0, wn_at3, wn_at4, hf, hfl, hfl2, tp_put0, tp_put1, tp_put2, tp_at0, tp_at1, tp_at2, List.length_modify, List.getElem_modify, u_intrinsic_Size_j3]
     rw [mod3c ts.1 fm hfl _ _ _ (fun t => ⟨max t.a (wanted1 s a f ws[k]), max t.b ws[k].mn, max t.c ws[k].mx⟩) rfl]
     exact ih'
   · rw [br_neg hc]
     rw [hf, if_neg hc] at ih'
     simp (disch := first | omega | (simp only [ln0]; omega)) only [rs, reduceIte, Nat.reduceAdd, u_intrinsic_Size_j3]
     exact ih'
 · rw [List.drop_of_length_le (by omega)] at hh
   simp only [topS] at hh
   subst hh
   simp (disch := first | omega | (simp only [ln0]; omega)) only [rs, reduceIte, Nat.reduceAdd, hx]
   exact l8_run h ts.1 ts.2 hlen.1 hlen.2 _ _ (hK _ _ _ (.loop intrinsic_Size_l2 []))
end
end Go.Proofs.Ytbebnjiolaomdaa.T

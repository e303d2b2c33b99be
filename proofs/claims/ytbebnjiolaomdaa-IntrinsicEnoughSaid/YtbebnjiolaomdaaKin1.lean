/- What the trees come to that tell whether tracks, and what is wanted of them, may be. No condition beyond what each states. -/
import Derived.Test.YtbebnjiolaomdaaT
import Derived.Test.YtbebnjiolaomdaaKbase
set_option linter.unusedVariables false
set_option linter.unusedSimpArgs false
set_option maxRecDepth 10000
namespace Go.Proofs.Ytbebnjiolaomdaa.T
open Go Go.Proofs.Ytbebnjiolaomdaa.Sx Go.Proofs.Ytbebnjiolaomdaa.M
structure Wn where
 fm : Int
 to : Int
 least : Int
 mn : Int
 mx : Int
 deriving DecidableEq
@[reducible] def eWn (x : Wn) : List PV := [I x.fm, I x.to, I x.least, I x.mn, I x.mx]
theorem wn_at0 (l : List Wn) (i : Nat) (h : i < l.length) (k : LK) : cellAt (l.map eWn) (i : Int) 0 k = I l[i].fm := by rw [xcell_at l i h]; rfl
theorem wn_at1 (l : List Wn) (i : Nat) (h : i < l.length) (k : LK) : cellAt (l.map eWn) (i : Int) 1 k = I l[i].to := by rw [xcell_at l i h]; rfl
theorem wn_at2 (l : List Wn) (i : Nat) (h : i < l.length) (k : LK) : cellAt (l.map eWn) (i : Int) 2 k = I l[i].least := by rw [xcell_at l i h]; rfl
theorem wn_at3 (l : List Wn) (i : Nat) (h : i < l.length) (k : LK) : cellAt (l.map eWn) (i : Int) 3 k = I l[i].mn := by rw [xcell_at l i h]; rfl
theorem wn_at4 (l : List Wn) (i : Nat) (h : i < l.length) (k : LK) : cellAt (l.map eWn) (i : Int) 4 k = I l[i].mx := by rw [xcell_at l i h]; rfl
theorem wn_open {p : PV} (h : (LK.row [.int .i64, .int .i64, .int .i64, .int .i64, .int .i64]).ok p) : ∃ l : List Wn, p = rowOf eWn l := by
 refine row_open (W := fun _ => True) (fun x hx _ => ?_) h (fun _ _ => trivial)
 match x, hx with
 | [.int k0 a, .int k1 b, .int k2 c, .int k3 d, .int k4 e], hx =>
  simp only [LK.oks, LK.ok] at hx
  obtain ⟨rfl, rfl, rfl, rfl, rfl, _⟩ := hx
  exact ⟨⟨a, b, c, d, e⟩, rfl⟩
def wi (x : Int) : Bool := decide (0 ≤ x) && decide (x ≤ 68719476736)
theorem iw_sp (x : Int) : Says tr c_intrinsic_within [I x] [B (wi x)] := by
 refine Says.of (t := intrinsic_within) rfl ?_
 rw [u_intrinsic_within]
 simp (disch := first | omega | (simp only [ln0]; omega)) only [rs, reduceIte, Nat.reduceAdd, xcall_of (is_sp _), ge_iff_le, List.length_cons, List.length_nil]
 unfold wi
 refine br_split ?_ ?_ <;> intro _
 · rename_i h
   simp [h]
   omega
 · rename_i h
   simp [h]
theorem ig1_sp (x : Sz) : Says tr c_intrinsic_Good_1 (eSz x) [B (!decide (Gd x))] := by
 refine Says.of (t := intrinsic_Good_1) rfl ?_
 rw [u_intrinsic_Good_1]
 have h := bgood_sp x
 simp (disch := first | omega | (simp only [ln0]; omega)) only [rs, reduceIte, Nat.reduceAdd, xcall_of h]
theorem ig2_sp (x : Int) : Says tr c_intrinsic_Good_2 [I x] [B (!wi x)] := by
 refine Says.of (t := intrinsic_Good_2) rfl ?_
 rw [u_intrinsic_Good_2]
 simp (disch := first | omega | (simp only [ln0]; omega)) only [rs, reduceIte, Nat.reduceAdd, xcall_of (iw_sp _)]
def okW (n : Nat) (w : Wn) : Bool := decide (0 ≤ w.fm) && decide (w.fm < w.to) && decide (w.to ≤ (n : Int)) && wi w.least && wi w.mn && wi w.mx
def goodI (s : List Sz) (a : List Int) (ws : List Wn) (mode : Int) : Bool :=
 decide (a.length = s.length) && decide (ws.length ≤ 4096) && decide (0 ≤ mode) && decide (mode ≤ 2) && s.all (fun x => decide (Gd x)) && a.all wi && ws.all (okW s.length)
theorem igood_sp (s : List Sz) (a : List Int) (ws : List Wn) (mode : Int) (hs : s.length ≤ 1000000) (ha : a.length ≤ 1000000) : Says tr c_intrinsic_Good [rowOf eSz s, ints a, rowOf eWn ws, I mode] [B (goodI s a ws mode)] := by
 refine Says.of (t := intrinsic_Good) rfl ?_
 have hw : ws.length ≤ 4096 → ∀ j, j ≤ ws.length → Run tr intrinsic_Good_l1 [rowOf eSz s, ints a, rowOf eWn ws, I mode, B false, I j] [.loop intrinsic_Good_l1 [rowOf eSz s, ints a, rowOf eWn ws, I mode, B false]] [B ((ws.drop j).all (okW s.length))] := by
  intro hwl
  refine xup_ind fun j hj ih => ?_
  rw [u_intrinsic_Good_l1]
  by_cases h : j < ws.length
  · rw [List.drop_eq_getElem_cons h, List.all_cons]
    simp (disch := first | omega | (simp only [ln0]; omega)) only [rs, reduceIte, Nat.reduceAdd, h, wn_at0, wn_at1, wn_at2, wn_at3, wn_at4, xcall_of (iw_sp _), intrinsic_Good_j2, List.length_cons, List.length_nil, Bool.or_eq_true, decide_eq_true_eq, gt_iff_lt, ge_iff_le]
    have e : okW s.length ws[j] = (decide (0 ≤ ws[j].fm) && decide (ws[j].fm < ws[j].to) && decide (ws[j].to ≤ (s.length : Int)) && wi ws[j].least && wi ws[j].mn && wi ws[j].mx) := rfl
    by_cases h1 : (ws[j].fm < 0 ∨ ws[j].to ≤ ws[j].fm) ∨ (s.length : Int) < ws[j].to
    · rw [br_pos h1]
      have : okW s.length ws[j] = false := by
       rw [e]
       rcases h1 with (h1 | h1) | h1
       · rw [decide_eq_false (by omega : ¬ 0 ≤ ws[j].fm)]; rfl
       · rw [decide_eq_false (by omega : ¬ ws[j].fm < ws[j].to)]; simp
       · rw [decide_eq_false (by omega : ¬ ws[j].to ≤ (s.length : Int))]; simp
      rw [this]
      simp
    · rw [br_neg h1]
      have e1 : (decide (0 ≤ ws[j].fm) && decide (ws[j].fm < ws[j].to) && decide (ws[j].to ≤ (s.length : Int))) = true := by
       simp only [Bool.and_eq_true, decide_eq_true_eq]
       omega
      rw [e, e1]
      have hj1 := ih h
      cases h2 : wi ws[j].least with
      | false => rw [br_neg (by simp)]; simp
      | true =>
       rw [br_pos rfl]
       cases h3 : wi ws[j].mn with
       | false => rw [br_neg (by simp)]; simp
       | true =>
        rw [br_pos rfl]
        cases h4 : wi ws[j].mx with
        | false => rw [br_pos (by simp)]; simp
        | true =>
         rw [br_neg (by simp)]
         simpa using hj1
  · simp (disch := first | omega | (simp only [ln0]; omega)) only [rs, reduceIte, Nat.reduceAdd, h]
    rw [List.drop_of_length_le (by omega)]
    rfl
 have hl : ∀ j, j ≤ s.length → ∃ x : Int, (decide (0 ≤ x) = !(s.drop j).all (fun x => decide (Gd x))) ∧ ∀ J0 r, Run tr intrinsic_Good_j3 [rowOf eSz s, ints a, rowOf eWn ws, I mode, I x] [J0] r → Run tr intrinsic_Good_l6 [rowOf eSz s, ints a, rowOf eWn ws, I mode, I j] [J0, .join intrinsic_Good_j3 [rowOf eSz s, ints a, rowOf eWn ws, I mode], .loop intrinsic_Good_l6 [rowOf eSz s, ints a, rowOf eWn ws, I mode]] r := by
  refine xup_ind fun j hj ih => ?_
  by_cases h : j < s.length
  · have h1 := ig1_sp s[j]
    rw [List.drop_eq_getElem_cons h]
    by_cases hr : Gd s[j]
    · obtain ⟨x, hx1, hx⟩ := ih h
      refine ⟨x, by rw [hx1, List.all_cons, decide_eq_true hr, Bool.true_and], fun J0 r hh => ?_⟩
      rw [u_intrinsic_Good_l6]
      rw [decide_eq_true hr] at h1
      simp (disch := first | omega | (simp only [ln0]; omega)) only [rs, reduceIte, Nat.reduceAdd, h, sz_at0, sz_at1, sz_at2, sz_at3, sz_at4, sz_at5, sz_at6, sz_snoc, sz_set, sz_put5, sz_put6, xcall_of h1, Bool.not_true, Bool.false_eq_true]
      repeat rw [br_neg (by simp)]
      exact hx J0 r hh
    · refine ⟨j, by rw [List.all_cons, decide_eq_false hr, Bool.false_and]; exact decide_eq_true (by omega), fun J0 r hh => ?_⟩
      rw [u_intrinsic_Good_l6]
      rw [decide_eq_false hr] at h1
      simp (disch := first | omega | (simp only [ln0]; omega)) only [rs, reduceIte, Nat.reduceAdd, h, sz_at0, sz_at1, sz_at2, sz_at3, sz_at4, sz_at5, sz_at6, sz_snoc, sz_set, sz_put5, sz_put6, xcall_of h1, Bool.not_false]
      exact hh
  · refine ⟨-1, by rw [List.drop_of_length_le (by omega)]; rfl, fun J0 r hh => ?_⟩
    rw [u_intrinsic_Good_l6]
    simp (disch := first | omega | (simp only [ln0]; omega)) only [rs, reduceIte, Nat.reduceAdd, h]
    exact hh
 have ha' : ∀ (y : Int) j, j ≤ a.length → ∃ x : Int, (decide (0 ≤ x) = !(a.drop j).all wi) ∧ ∀ J0 r, Run tr intrinsic_Good_j4 [rowOf eSz s, ints a, rowOf eWn ws, I mode, I y, I x] [J0] r → Run tr intrinsic_Good_l5 [rowOf eSz s, ints a, rowOf eWn ws, I mode, I y, I j] [J0, .join intrinsic_Good_j4 [rowOf eSz s, ints a, rowOf eWn ws, I mode, I y], .loop intrinsic_Good_l5 [rowOf eSz s, ints a, rowOf eWn ws, I mode, I y]] r := by
  intro y
  refine xup_ind fun j hj ih => ?_
  by_cases h : j < a.length
  · have h1 := ig2_sp a[j]
    rw [List.drop_eq_getElem_cons h]
    cases hr : wi a[j] with
    | true =>
     obtain ⟨x, hx1, hx⟩ := ih h
     refine ⟨x, by rw [hx1, List.all_cons, hr, Bool.true_and], fun J0 r hh => ?_⟩
     rw [u_intrinsic_Good_l5]
     rw [hr] at h1
     simp (disch := first | omega | (simp only [ln0]; omega)) only [rs, reduceIte, Nat.reduceAdd, h, xcall_of h1, Bool.not_true, Bool.false_eq_true]
     repeat rw [br_neg (by simp)]
     exact hx J0 r hh
    | false =>
     refine ⟨j, by rw [List.all_cons, hr, Bool.false_and]; exact decide_eq_true (by omega), fun J0 r hh => ?_⟩
     rw [u_intrinsic_Good_l5]
     rw [hr] at h1
     simp (disch := first | omega | (simp only [ln0]; omega)) only [rs, reduceIte, Nat.reduceAdd, h, xcall_of h1, Bool.not_false]
     exact hh
  · refine ⟨-1, by rw [List.drop_of_length_le (by omega)]; rfl, fun J0 r hh => ?_⟩
    rw [u_intrinsic_Good_l5]
    simp (disch := first | omega | (simp only [ln0]; omega)) only [rs, reduceIte, Nat.reduceAdd, h]
    exact hh
 have fin : ∀ b : Bool, (b = false → ws.length ≤ 4096) → Run tr intrinsic_Good_j0 [rowOf eSz s, ints a, rowOf eWn ws, I mode, B b] [] [B (!b && ws.all (okW s.length))] := by
  intro b hb
  rw [u_intrinsic_Good_j0]
  cases b with
  | true => simp (disch := first | omega | (simp only [ln0]; omega)) only [rs, reduceIte, Nat.reduceAdd] <;> (try rw [br_pos rfl]) <;> simp
  | false =>
   simp (disch := first | omega | (simp only [ln0]; omega)) only [rs, reduceIte, Nat.reduceAdd]
   try rw [br_neg (by simp)]
   have := hw (hb rfl) 0 (Nat.zero_le _)
   simpa using this
 rw [u_intrinsic_Good]
 simp (disch := first | omega | (simp only [ln0]; omega)) only [rs, reduceIte, Nat.reduceAdd, bx, reduceCtorEq, forall_const, ne_eq]
 unfold goodI
 by_cases hc : a.length = s.length ∧ ws.length ≤ 4096 ∧ 0 ≤ mode ∧ mode ≤ 2
 · rw [br_neg (by omega)]
   have e1 : (decide (a.length = s.length) && decide (ws.length ≤ 4096) && decide (0 ≤ mode) && decide (mode ≤ 2)) = true := by simp [hc]
   rw [e1, Bool.true_and]
   obtain ⟨x, hx1, hx⟩ := hl 0 (Nat.zero_le _)
   rw [List.drop_zero] at hx1
   refine hx _ _ ?_
   rw [u_intrinsic_Good_j3]
   simp (disch := first | omega | (simp only [ln0]; omega)) only [rs, reduceIte, Nat.reduceAdd, ge_iff_le]
   cases hall : s.all (fun x => decide (Gd x)) with
   | false =>
    rw [hall] at hx1
    rw [br_pos (by simpa using hx1)]
    simpa using fin true (fun h => by cases h)
   | true =>
    rw [hall] at hx1
    rw [br_neg (by simpa using hx1)]
    obtain ⟨z, hz1, hz⟩ := ha' x 0 (Nat.zero_le _)
    rw [List.drop_zero] at hz1
    refine hz _ _ ?_
    rw [u_intrinsic_Good_j4]
    simp (disch := first | omega | (simp only [ln0]; omega)) only [rs, reduceIte, Nat.reduceAdd, ge_iff_le]
    have := fin (decide (0 ≤ z)) (fun _ => hc.2.1)
    rw [hz1] at this ⊢
    simpa using this
 · rw [br_pos (by omega)]
   have e1 : (decide (a.length = s.length) && decide (ws.length ≤ 4096) && decide (0 ≤ mode) && decide (mode ≤ 2)) = false := by
    rw [Bool.eq_false_iff]
    intro hh
    simp only [Bool.and_eq_true, decide_eq_true_eq] at hh
    exact hc ⟨hh.1.1.1, hh.1.1.2, hh.1.2, hh.2⟩
   rw [e1]
   simpa using fin true (fun h => by cases h)
end Go.Proofs.Ytbebnjiolaomdaa.T

/- What the document's tree comes to that tells whether tracks, and what is wanted of them, may be. No condition beyond what each states. -/
import Derived.Test.YtbebnjiolaomdaaGreatT
import Derived.Test.YtbebnjiolaomdaaGreatKin1
set_option linter.unusedVariables false
set_option linter.unusedSimpArgs false
set_option maxRecDepth 10000
namespace Go.Proofs.YtbebnjiolaomdaaGreat.T
open Go Go.Proofs.YtbebnjiolaomdaaGreat.Sx Go.Proofs.YtbebnjiolaomdaaGreat.M
def wOk (n : Nat) (w : Wn) : Bool := !decide ((w.fm < 0 ∨ w.to ≤ w.fm) ∨ (n : Int) < w.to) && (wi w.least && (wi w.mn && wi w.mx))
theorem okW_wOk (n : Nat) : okW n = wOk n := by
 funext w
 unfold okW wOk
 have : (decide (0 ≤ w.fm) && decide (w.fm < w.to) && decide (w.to ≤ (n : Int))) = !decide ((w.fm < 0 ∨ w.to ≤ w.fm) ∨ (n : Int) < w.to) := by
  rw [Bool.eq_iff_iff]
  simp only [Bool.and_eq_true, decide_eq_true_eq, Bool.not_eq_true', decide_eq_false_iff_not]
  omega
 rw [this]
 simp only [Bool.and_assoc]
theorem rigw_run (s : List Sz) (a : List Int) (ws : List Wn) (mode : Int) (hw : ws.length ≤ 1000000) (i : Nat) (J0 : JT) (g : Bool) (hg : g = ws.all (wOk s.length)) : Run tr ref24_Good_l2 [rowOf eSz s, ints a, rowOf eWn ws, I mode, I i, I (0 : Nat)] [J0, .loop ref24_Good_l2 [rowOf eSz s, ints a, rowOf eWn ws, I mode, I i]] [B g] := by
 have key := xup_ind (n := ws.length) (P := fun j => (ws.drop j).all (wOk s.length) = g → Run tr ref24_Good_l2 [rowOf eSz s, ints a, rowOf eWn ws, I mode, I i, I j] [J0, .loop ref24_Good_l2 [rowOf eSz s, ints a, rowOf eWn ws, I mode, I i]] [B g]) ?_ 0 (Nat.zero_le _)
 · exact key hg.symm
 intro j hj ih hall
 rw [u_ref24_Good_l2]
 by_cases h : j < ws.length
 · rw [List.drop_eq_getElem_cons h, List.all_cons] at hall
   have hj2 : ∀ b : Bool, wOk s.length ws[j] = !b → Run tr ref24_Good_j3 [rowOf eSz s, ints a, rowOf eWn ws, I mode, I i, I j, B b] [J0, .loop ref24_Good_l2 [rowOf eSz s, ints a, rowOf eWn ws, I mode, I i]] [B g] := by
    intro b hb
    rw [hb] at hall
    rw [u_ref24_Good_j3]
    cases b with
    | true => simp (disch := first | omega | (simp only [ln0]; omega)) only [rs, reduceIte, Nat.reduceAdd]; rw [← hall]; rfl
    | false =>
     have := ih h (by simpa using hall)
     simp (disch := first | omega | (simp only [ln0]; omega)) only [rs, reduceIte, Nat.reduceAdd, Bool.false_eq_true]
     repeat rw [br_neg (by simp)]
     exact this
   simp (disch := first | omega | (simp only [ln0]; omega)) only [rs, reduceIte, Nat.reduceAdd, h, wn_at0, wn_at1, wn_at2, wn_at3, wn_at4, bx, reduceCtorEq, forall_const, ne_eq, xcall_of (rw24_sp _)]
   unfold wOk at hj2
   by_cases h1 : (ws[j].fm < 0 ∨ ws[j].to ≤ ws[j].fm) ∨ (s.length : Int) < ws[j].to
   · rw [br_pos h1]
     exact hj2 true (by simp [h1])
   · rw [br_neg h1]
     have hd : decide ((ws[j].fm < 0 ∨ ws[j].to ≤ ws[j].fm) ∨ (s.length : Int) < ws[j].to) = false := decide_eq_false h1
     rw [hd] at hj2
     cases h2 : wi ws[j].least with
     | false =>
      rw [h2] at hj2
      repeat rw [br_neg (by simp)]
      exact hj2 true rfl
     | true =>
      rw [h2] at hj2
      rw [br_pos rfl]
      cases h3 : wi ws[j].mn with
      | false =>
       rw [h3] at hj2
       repeat rw [br_neg (by simp)]
       exact hj2 true rfl
      | true =>
       rw [h3] at hj2
       rw [br_pos rfl]
       exact hj2 _ (by simp)
 · rw [List.drop_of_length_le (by omega)] at hall
   simp (disch := first | omega | (simp only [ln0]; omega)) only [rs, reduceIte, Nat.reduceAdd, h]
   rw [← hall]
   rfl
def bothB : List Sz → List Int → Bool
 | x :: s, y :: a => decide (Gd x) && wi y && bothB s a
 | _, _ => true
theorem bothB_eq : ∀ (s : List Sz) (a : List Int), a.length = s.length → bothB s a = (s.all (fun x => decide (Gd x)) && a.all wi)
 | [], [], _ => rfl
 | x :: s, y :: a, h => by
  simp only [bothB, List.all_cons]
  rw [bothB_eq s a (by simpa using h)]
  cases decide (Gd x) <;> cases wi y <;> cases s.all (fun x => decide (Gd x)) <;> cases a.all wi <;> rfl
 | [], _ :: _, h => by simp at h
 | _ :: _, [], h => by simp at h
theorem rgood24_sp (s : List Sz) (a : List Int) (ws : List Wn) (mode : Int) (hs : s.length ≤ 1000000) (ha : a.length ≤ 1000000) (hw : ws.length ≤ 1000000) : Says tr c_ref24_Good [rowOf eSz s, ints a, rowOf eWn ws, I mode] [B (goodI s a ws mode)] := by
 refine Says.of (t := ref24_Good) rfl ?_
 rw [u_ref24_Good]
 simp (disch := first | omega | (simp only [ln0]; omega)) only [rs, reduceIte, Nat.reduceAdd, bx, reduceCtorEq, forall_const, ne_eq]
 by_cases hc : ((¬ (a.length : Int) = s.length ∨ 4096 < (ws.length : Int)) ∨ mode < 0) ∨ 2 < mode
 · rw [br_pos hc]
   have : goodI s a ws mode = false := by
    unfold goodI
    rcases hc with ((h | h) | h) | h
    · have : ¬ a.length = s.length := by omega
      simp [this]
    · have : ¬ ws.length ≤ 4096 := by omega
      simp [this]
    · have : ¬ 0 ≤ mode := by omega
      simp [this]
    · have : ¬ mode ≤ 2 := by omega
      simp [this]
   rw [this]
 rw [br_neg hc]
 have e1 : a.length = s.length := by omega
 have e2 : ws.length ≤ 4096 := by omega
 have e3 : 0 ≤ mode := by omega
 have e4 : mode ≤ 2 := by omega
 have hgo : goodI s a ws mode = (bothB s a && ws.all (wOk s.length)) := by rw [bothB_eq s a e1]; simp [goodI, e1, e2, e3, e4, okW_wOk]
 have key := xup_ind (n := s.length) (P := fun j => (bothB (s.drop j) (a.drop j) && ws.all (wOk s.length)) = goodI s a ws mode → Run tr ref24_Good_l0 [rowOf eSz s, ints a, rowOf eWn ws, I mode, I j] [.loop ref24_Good_l0 [rowOf eSz s, ints a, rowOf eWn ws, I mode]] [B (goodI s a ws mode)]) ?_ 0 (Nat.zero_le _)
 · exact key hgo.symm
 intro j hj ih hall
 rw [u_ref24_Good_l0]
 by_cases h : j < s.length
 · have hja : j < a.length := by omega
   rw [List.drop_eq_getElem_cons h, List.drop_eq_getElem_cons hja] at hall
   simp only [bothB] at hall
   have h1 := rgood_sp s[j]
   have hj1 : ∀ b : Bool, (decide (Gd s[j]) && wi a[j]) = !b → Run tr ref24_Good_j1 [rowOf eSz s, ints a, rowOf eWn ws, I mode, I j, B b] [.loop ref24_Good_l0 [rowOf eSz s, ints a, rowOf eWn ws, I mode]] [B (goodI s a ws mode)] := by
    intro b hb
    rw [hb] at hall
    rw [u_ref24_Good_j1]
    cases b with
    | true => simp (disch := first | omega | (simp only [ln0]; omega)) only [rs, reduceIte, Nat.reduceAdd]; rw [← hall]; rfl
    | false =>
     have := ih h (by simpa using hall)
     simp (disch := first | omega | (simp only [ln0]; omega)) only [rs, reduceIte, Nat.reduceAdd, Bool.false_eq_true]
     repeat rw [br_neg (by simp)]
     exact this
   simp (disch := first | omega | (simp only [ln0]; omega)) only [rs, reduceIte, Nat.reduceAdd, h, hja, sz_at0, sz_at1, sz_at2, sz_at3, sz_at4, sz_at5, sz_at6, sz_snoc, sz_set, sz_put5, sz_put6, xcall_of h1, xcall_of (rw24_sp _), bx, reduceCtorEq, forall_const, ne_eq]
   by_cases hg : Gd s[j]
   · rw [decide_eq_true hg] at hj1
     first | rw [br_pos hg] | (rw [br_pos (Or.inr hja), br_pos hg]) | (rw [br_pos (by omega), br_pos hg])
     exact hj1 _ (by simp)
   · rw [decide_eq_false hg] at hj1
     first | rw [br_neg hg] | (rw [br_pos (Or.inr hja), br_neg hg]) | (rw [br_pos (Or.inl hg), br_neg hg])
     exact hj1 true rfl
 · rw [List.drop_of_length_le (by omega)] at hall
   obtain rfl : j = s.length := by omega
   have hall2 : goodI s a ws mode = ws.all (wOk s.length) := by
    rw [← hall]
    cases a.drop s.length <;> simp [bothB]
   simp (disch := first | omega | (simp only [ln0]; omega)) only [rs, reduceIte, Nat.reduceAdd, h]
   exact rigw_run s a ws mode hw s.length _ _ hall2
end Go.Proofs.YtbebnjiolaomdaaGreat.T

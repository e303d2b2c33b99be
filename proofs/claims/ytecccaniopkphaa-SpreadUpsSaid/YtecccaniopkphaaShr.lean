/- Parts by weights, as the printed Share has them, in plain words. No condition beyond those that each lemma states. -/
import Derived.Test.YtecccaniopkphaaPAx11
import Derived.Test.YtecccaniopkphaaMd
namespace Go.Proofs.Ytecccaniopkphaa.Fix
open Go.RowKit Go.Proofs.Ytecccaniopkphaa.PA Go.Proofs.YtecccaniopkphaaW.PrintWords Go.Proofs.Ytecccaniopkphaa.Evs Go.Proofs.Ytecccaniopkphaa.Div
set_option linter.unusedVariables false
set_option linter.unusedSimpArgs false
/-! ### Parts by weights -/
/-- The parts, one behind the other: what is due up to the next less what was due. -/
def shr' (n all : Int) : Int → List Int → List Int
  | _, [] => []
  | s, w :: ws => (n * (s + w) / all - n * s / all) :: shr' n all (s + w) ws
theorem shr_length (n all : Int) (ws : List Int) : ∀ s, (shr' n all s ws).length = ws.length := by
  induction ws with
  | nil => intro s; rfl
  | cons w ws ih => intro s; simp [shr', ih]
theorem due_le {n s all : Int} (hn : 0 ≤ n) (hs : s ≤ all) (ha : 0 < all) : n * s / all ≤ n := by
  have : n * s / all < n + 1 := by
    rw [Int.ediv_lt_iff_lt_mul ha]
    have := Int.mul_le_mul_of_nonneg_left hs hn
    rw [Int.add_mul]
    omega
  omega
theorem due_nonneg {n s all : Int} (hn : 0 ≤ n) (hs : 0 ≤ s) (ha : 0 < all) : 0 ≤ n * s / all := Int.ediv_nonneg (Int.mul_nonneg hn hs) (by omega)
theorem due_mono {n s t all : Int} (hn : 0 ≤ n) (hs : s ≤ t) (ha : 0 < all) : n * s / all ≤ n * t / all := Int.ediv_le_ediv ha (Int.mul_le_mul_of_nonneg_left hs hn)
theorem ok_cons {w : Int} {ws : List Int} (h : fixed_Share.ok (w :: ws) = true) : 0 ≤ w ∧ w ≤ 1073741824 ∧ fixed_Share.ok ws = true := by
  simp only [fixed_Share.ok, List.all_cons, Bool.and_eq_true, decide_eq_true_eq] at h
  exact ⟨h.1.1, h.1.2, h.2⟩
theorem sum_in : ∀ {ws : List Int}, fixed_Share.ok ws = true → 0 ≤ fixed_Share.sum ws ∧ fixed_Share.sum ws ≤ 1073741824 * ws.length
  | [], _ => by simp [fixed_Share.sum]
  | w :: ws, h => by
    obtain ⟨h1, h2, h3⟩ := ok_cons h
    have := sum_in h3
    simp only [fixed_Share.sum, List.length_cons]
    omega
theorem parts_ev (n all : Int) (hn : 0 ≤ n) (hn1 : n ≤ 68719476736) (ha : 0 < all) (ha1 : all ≤ 70368744177664) (ws : List Int) :
    ∀ s : Int, fixed_Share.ok ws = true → 0 ≤ s → s + fixed_Share.sum ws ≤ all → Ev (fun k => fixed_Share.parts k n all s (n * s / all) ws) (shr' n all s ws) := by
  induction ws with
  | nil => intro s _ _ _; simp only [fixed_Share.parts, shr']; exact Ev.now _
  | cons w ws ih =>
    intro s hok hs hsum
    obtain ⟨h1, h2, h3⟩ := ok_cons hok
    have hsi := sum_in h3
    simp only [fixed_Share.sum] at hsum
    simp only [fixed_Share.parts, shr']
    have hq0 := due_nonneg (n := n) (s := s + w) hn (by omega) ha
    have hq1 := due_le (n := n) (s := s + w) hn (by omega) ha
    have hz0 := due_nonneg (n := n) (s := s) hn hs ha
    have hz1 := due_le (n := n) (s := s) hn (by omega) ha
    have hm := muldiv_ev (lit_wf n (by omega) (by omega)) (lit_wf (s + w) (by omega) (by omega)) (lit_wf all (by omega) (by omega))
    rw [md_pos hn (by omega) ha (by omega)] at hm
    refine Ev.bind hm ?_
    refine Ev.bind (ih (s + w) h3 (by omega) (by omega)) ?_
    rw [wrap_in _ (by omega) (by omega)]
    exact Ev.now _
/-- What is parted by weights. -/
def shareS (n : Int) (ws : List Int) : List Int := if n < 0 ∨ 68719476736 < n ∨ 65536 < ws.length ∨ fixed_Share.ok ws = false ∨ fixed_Share.sum ws = 0 then [] else shr' n (fixed_Share.sum ws) 0 ws
theorem share_ev (n : Int) (ws : List Int) : Ev (fun k => fixed_Share.f k n ws) (shareS n ws) := by
  unfold fixed_Share.f shareS
  by_cases h : n < 0 ∨ 68719476736 < n ∨ 65536 < ws.length ∨ fixed_Share.ok ws = false ∨ fixed_Share.sum ws = 0
  · simp only [h, if_true]; exact Ev.now _
  · simp only [h, if_false]
    have hok : fixed_Share.ok ws = true := by cases e : fixed_Share.ok ws <;> simp_all
    have hs := sum_in hok
    have := parts_ev n (fixed_Share.sum ws) (by omega) (by omega) (by omega) (by omega) ws 0 hok (by omega) (by omega)
    simpa using this

end Go.Proofs.Ytecccaniopkphaa.Fix

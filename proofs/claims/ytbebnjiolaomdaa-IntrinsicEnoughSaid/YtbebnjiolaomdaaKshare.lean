/- What the trees come to that part a number by weights. No condition beyond what each states. -/
import Derived.Test.YtbebnjiolaomdaaT
import Derived.Test.YtbebnjiolaomdaaKbase
import Derived.Test.YtbebnjiolaomdaaKrmul
set_option linter.unusedVariables false
set_option linter.unusedSimpArgs false
set_option maxRecDepth 10000
namespace Go.Proofs.Ytbebnjiolaomdaa.T
open Go Go.Proofs.Ytbebnjiolaomdaa.Sx Go.Proofs.Ytbebnjiolaomdaa.M
def wgB (w : Int) : Bool := decide (0 ≤ w) && decide (w ≤ 1073741824)
def sumI : List Int → Int
 | [] => 0
 | w :: r => w + sumI r
def partsS (n all : Int) : Int → Int → List Int → List Int
 | _, _, [] => []
 | was, sum, w :: r => ((md n (sum + w) all).1 - was) :: partsS n all (md n (sum + w) all).1 (sum + w) r
def shareS (n : Int) (ws : List Int) : List Int :=
 if (n < 0 ∨ 68719476736 < n) ∨ 65536 < (ws.length : Int) then [] else if ws.all wgB = false then [] else if sumI ws = 0 then [] else partsS n (sumI ws) 0 0 ws
theorem sumI_in : ∀ (ws : List Int), ws.all wgB = true → 0 ≤ sumI ws ∧ sumI ws ≤ 1073741824 * ws.length
 | [], _ => by simp [sumI]
 | w :: r, h => by
  simp only [List.all_cons, Bool.and_eq_true, wgB, decide_eq_true_eq] at h
  have := sumI_in r (by simpa [wgB] using h.2)
  simp only [sumI, List.length_cons]
  omega
theorem sumI_drop : ∀ (ws : List Int) (j : Nat), ws.all wgB = true → 0 ≤ sumI (ws.drop j) ∧ sumI (ws.drop j) ≤ sumI ws
 | ws, 0, h => by have := sumI_in ws h; simp; omega
 | [], j + 1, h => by simp [sumI]
 | w :: r, j + 1, h => by
  simp only [List.all_cons, Bool.and_eq_true, wgB, decide_eq_true_eq] at h
  have := sumI_drop r j (by simpa [wgB] using h.2)
  simp only [List.drop_succ_cons, sumI]
  omega
theorem md_part {n s all : Int} (hn : 0 ≤ n ∧ n ≤ 68719476736) (hs : 0 ≤ s ∧ s ≤ all) (ha : 0 < all) : 0 ≤ (md n s all).1 ∧ (md n s all).1 ≤ n := by
 have hq : n * s / all ≤ n := by
  have : n * s ≤ n * all := Int.mul_le_mul_of_nonneg_left hs.2 hn.1
  exact Int.ediv_le_of_le_mul ha this
 have h0 : 0 ≤ n * s / all := Int.ediv_nonneg (Int.mul_nonneg hn.1 hs.1) (by omega)
 rw [md_pos hn.1 hs.1 ha (by omega)]
 exact ⟨h0, hq⟩
theorem share_sp1 (n all : Int) (ws : List Int) (J0 : JT) (hn : 0 ≤ n ∧ n ≤ 68719476736) (hw : ws.all wgB = true) (hl : ws.length ≤ 65536) (hall : all = sumI ws) (ha : 0 < all) : ∀ j, j ≤ ws.length → ∀ (was sum : Int) (out : List Int), out.length = j → 0 ≤ was → was ≤ n → 0 ≤ sum → sum + sumI (ws.drop j) = all →
    Run tr fixed_Share_l1 [I n, ints ws, I ws.length, I all, I j, I was, I sum, ints out] [J0, .loop fixed_Share_l1 [I n, ints ws, I ws.length, I all]] [ints (out ++ partsS n all was sum (ws.drop j))] := by
 have hsi := sumI_in ws hw
 refine xup_ind fun j hj ih => ?_
 intro was sum out ho h0 h1 h2 h3
 rw [u_fixed_Share_l1]
 by_cases h : j < ws.length
 · have hd := sumI_drop ws (j + 1) hw
   rw [List.drop_eq_getElem_cons h] at h3 ⊢
   simp only [sumI] at h3
   simp only [partsS]
   have hwj : wgB ws[j] = true := List.all_eq_true.1 hw _ (List.getElem_mem h)
   simp only [wgB, Bool.and_eq_true, decide_eq_true_eq] at hwj
   have hm := md_part (s := sum + ws[j]) hn (by omega) ha
   have hcall := muldiv_sp n (sum + ws[j]) all (by omega) (by omega) (by omega)
   have hi := ih h (md n (sum + ws[j]) all).1 (sum + ws[j]) (out ++ [(md n (sum + ws[j]) all).1 - was]) (by simp [ho]) hm.1 hm.2 (by omega) (by omega)
   simp (disch := first | omega | (simp only [ln0]; omega)) only [rs, reduceIte, Nat.reduceAdd, h, xcall_of hcall, ho]
   rw [List.append_assoc] at hi
   first | exact hi | exact ⟨by omega, hi⟩ | simpa using hi
 · rw [List.drop_of_length_le (by omega)]
   simp (disch := first | omega | (simp only [ln0]; omega)) only [rs, reduceIte, Nat.reduceAdd, h]
   simp [partsS]
theorem share_sp (n : Int) (ws : List Int) (hlen : ws.length ≤ 1000000) : Says tr c_fixed_Share [I n, ints ws] [ints (shareS n ws)] := by
 refine Says.of (t := fixed_Share) rfl ?_
 rw [u_fixed_Share]
 simp (disch := first | omega | (simp only [ln0]; omega)) only [rs, reduceIte, Nat.reduceAdd, bx, reduceCtorEq, forall_const, ne_eq]
 unfold shareS
 by_cases hc : (n < 0 ∨ 68719476736 < n) ∨ 65536 < (ws.length : Int)
 · rw [br_pos hc]
   skip
   rw [if_pos hc]
   skip
   skip
   skip
   skip
 · rw [br_neg hc, if_neg (by omega)]
   have key := xup_ind (n := ws.length) (P := fun j => ∀ all : Int, 0 ≤ all → all ≤ 1073741824 * j → ((ws.drop j).all wgB = ws.all wgB) → (ws.all wgB = true → all + sumI (ws.drop j) = sumI ws) → Run tr fixed_Share_l0 [I n, ints ws, I j, I all] [.loop fixed_Share_l0 [I n, ints ws]] [ints (if ws.all wgB = false then [] else if sumI ws = 0 then [] else partsS n (sumI ws) 0 0 ws)]) ?_ 0 (Nat.zero_le _)
   · exact key 0 (by omega) (by omega) rfl (fun _ => by simp)
   intro j hj ih all h0 h1 hall hsum
   rw [u_fixed_Share_l0]
   by_cases h : j < ws.length
   · rw [List.drop_eq_getElem_cons h] at hall hsum
     rw [List.all_cons] at hall
     simp only [sumI] at hsum
     simp (disch := first | omega | (simp only [ln0]; omega)) only [rs, reduceIte, Nat.reduceAdd, h, bx, reduceCtorEq, forall_const, ne_eq]
     by_cases hb : ws[j] < 0 ∨ 1073741824 < ws[j]
     · rw [br_pos hb]
       have : wgB ws[j] = false := by
        unfold wgB
        rcases hb with hb | hb
        · have : ¬ 0 ≤ ws[j] := by omega
          simp [this]
        · have : ¬ ws[j] ≤ 1073741824 := by omega
          simp [this]
       rw [this, Bool.false_and] at hall
       rw [if_pos hall.symm]
     · rw [br_neg hb]
       have hg : wgB ws[j] = true := by simp [wgB]; omega
       rw [hg, Bool.true_and] at hall
       have hi := ih h (all + ws[j]) (by omega) (by omega) hall (fun hh => by have := hsum hh; omega)
       have hwr : IntKind.i64.wrap (all + ws[j]) = all + ws[j] := wrap_in (by omega) (by omega)
       rw [hwr]
       exact hi
   · rw [List.drop_of_length_le (by omega)] at hall hsum
     have hw : ws.all wgB = true := hall.symm
     have hs := hsum hw
     simp only [sumI, Int.add_zero] at hs
     obtain rfl : j = ws.length := by omega
     simp (disch := first | omega | (simp only [ln0]; omega)) only [rs, reduceIte, Nat.reduceAdd, h, bx, reduceCtorEq, forall_const, ne_eq]
     rw [if_neg (by rw [hw]; simp)]
     by_cases hz : all = 0
     · rw [br_pos hz, if_pos (by omega)]
     · rw [br_neg hz, if_neg (by omega)]
       have := share_sp1 n all ws (.loop fixed_Share_l0 [I n, ints ws]) (by omega) hw (by omega) hs (by omega) 0 (Nat.zero_le _) 0 0 [] rfl (by omega) (by omega) (by omega) (by simp; omega)
       rw [List.drop_zero, List.nil_append] at this
       rw [← hs]
       exact this
end Go.Proofs.Ytbebnjiolaomdaa.T

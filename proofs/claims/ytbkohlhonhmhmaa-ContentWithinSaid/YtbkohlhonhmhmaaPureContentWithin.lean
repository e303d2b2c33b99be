/- The plain law of ContentWithin: what the printed functions compute answers as the statement says. -/
import Derived.Test.YtbkohlhonhmhmaaPAx20
import Derived.Test.YtbkohlhonhmhmaaStartsF
import Derived.Test.YtbkohlhonhmhmaaLivesC
namespace Go.Proofs.Ytbkohlhonhmhmaa.Pure
open Go.RowKit Go.Proofs.Ytbkohlhonhmhmaa.PA Go.Proofs.YtbkohlhonhmhmaaW.PrintWords Go.Proofs.YtbkohlhonhmhmaaW.PrintMore Go.Proofs.Ytbkohlhonhmhmaa.Evs Go.Proofs.Ytbkohlhonhmhmaa.Trk Go.Proofs.Ytbkohlhonhmhmaa.LivesC
set_option linter.unusedVariables false
set_option linter.unusedSimpArgs false
theorem within_loop (lo : Int) (l : List S57) (g : List Bool) (a s : List Int) (size al v : Int) (B : Begun lo l g a s size al v) (d : Nat) :
    ∀ i : Nat, i + d = s.length → Ev (fun k => parterrelaw28_ContentWithin.l0 k s size (begS g a s size al v) v (begS g a s size al v) (s.length : Int) (i : Int) lo l g a) true := by
  have hlv : Ev (fun k => (parterrelaw28_lives.f k).bind fun t => some t) true := Ev.bind lives_ev (Ev.now _)
  have hbl := begS_length g a s size al v
  have hla := B.la
  have hsm := B.small
  have hz0 := B.size0
  have hz1 := B.size1
  induction d with
  | zero =>
    intro i hi
    refine Ev.step (fun k => ?_) hlv
    simp only [parterrelaw28_ContentWithin.l0]
    rw [if_neg (by omega)]
  | succ d ih =>
    intro i hi
    have ec : ((i : Int) + 1) = ((i + 1 : Nat) : Int) := by simp
    have hn := ih (i + 1) (by omega)
    have f := out_facts B i (by omega)
    have p := B.pre0 i (by omega)
    have b2 := B.s0 i (by omega)
    have b3 := B.a0 i (by omega)
    have eo := begS_at g a s size al v i (by omega)
    have vb := B.pre0 s.length (Nat.le_refl _)
    have hv := B.tot
    have eD : outS a s g al (size - v) (kc g s.length + 1) i = pre a s i + rd a (i : Int) + addS al (size - v) (kc g s.length + 1) (mx0 (kc g (i + 1))) := rfl
    have tl : Ev (fun k => if (i : Int) > 0 then (if 0 ≤ (wrap64 ((i : Int) - 1)) then (if (wrap64 ((i : Int) - 1)) < ((begS g a s size al v).length : Int) then (if (wrap64 ((i : Int) - 1)) < (s.length : Int) then (if (i : Int) < (a.length : Int) then (if (rd (begS g a s size al v) (i : Int)) < (wrap64 ((wrap64 ((rd (begS g a s size al v) (wrap64 ((i : Int) - 1))) + (rd s (wrap64 ((i : Int) - 1))))) + (rd a (i : Int)))) then (some false) else (parterrelaw28_ContentWithin.l0 k s size (begS g a s size al v) v (begS g a s size al v) (s.length : Int) (wrap64 ((i : Int) + 1)) lo l g a)) else (none)) else (none)) else (none)) else (none)) else (parterrelaw28_ContentWithin.l0 k s size (begS g a s size al v) v (begS g a s size al v) (s.length : Int) (wrap64 ((i : Int) + 1)) lo l g a)) true := by
      rw [wrap_in ((i : Int) + 1) (by omega) (by omega), ec]
      cases i with
      | zero =>
        have c0 : ¬ ((0 : Nat) : Int) > 0 := by omega
        simp only [if_neg c0]
        exact hn
      | succ j =>
        have c0 : ((j + 1 : Nat) : Int) > 0 := by omega
        have ej : wrap64 (((j + 1 : Nat) : Int) - 1) = (j : Int) := by rw [wrap_in _ (by omega) (by omega)]; omega
        have c1 : (0 : Int) ≤ (j : Int) := by omega
        have c2 : (j : Int) < ((begS g a s size al v).length : Int) := by omega
        have c3 : (j : Int) < (s.length : Int) := by omega
        have c4 : ((j + 1 : Nat) : Int) < (a.length : Int) := by omega
        have fj := out_facts B j (by omega)
        have pj := B.pre0 j (by omega)
        have bj2 := B.s0 j (by omega)
        have bj3 := B.a0 j (by omega)
        have ej2 := begS_at g a s size al v j (by omega)
        have nx := out_next B j (by omega)
        have eDj : outS a s g al (size - v) (kc g s.length + 1) j = pre a s j + rd a (j : Int) + addS al (size - v) (kc g s.length + 1) (mx0 (kc g (j + 1))) := rfl
        have ep : pre a s (j + 1) = pre a s j + rd s (j : Int) + rd a (j : Int) := rfl
        have c5 : ¬ rd (begS g a s size al v) ((j + 1 : Nat) : Int) < wrap64 (wrap64 (rd (begS g a s size al v) (j : Int) + rd s (j : Int)) + rd a ((j + 1 : Nat) : Int)) := by
          rw [eo, ej2, eD, eDj, wrap_in (pre a s j + rd a (j : Int) + _ + rd s (j : Int)) (by omega) (by omega), wrap_in _ (by omega) (by omega)]
          omega
        simp only [if_pos c0, ej, if_pos c1, if_pos c2, if_pos c3, if_pos c4, if_neg c5]
        exact hn
    by_cases hle : v ≤ size
    · have c1 : ¬ rd (begS g a s size al v) (i : Int) < 0 := by rw [eo, eD]; omega
      have c2 : ¬ wrap64 (rd (begS g a s size al v) (i : Int) + rd s (i : Int)) > size := by
        rw [eo, eD, wrap_in _ (by omega) (by omega)]
        omega
      refine Ev.step (fun k => ?_) tl
      simp only [parterrelaw28_ContentWithin.l0]
      rw [if_pos (by omega), if_pos (by omega), if_pos (by omega), if_pos hle, if_neg c1, if_pos (by omega), if_neg c2]
    · refine Ev.step (fun k => ?_) tl
      simp only [parterrelaw28_ContentWithin.l0]
      rw [if_pos (by omega), if_pos (by omega), if_pos (by omega), if_neg hle]
theorem ContentWithin : parterrelaw28_ContentWithin.Pure := by
  intro lo l g a s size al _ _ _ _ _ _ _ _ _ _ _ _
  refine Ev.rounds ?_
  have hlv : Ev (fun k => (parterrelaw28_lives.f k).bind fun t => some t) true := Ev.bind lives_ev (Ev.now _)
  have hj : ∀ b : Bool, Ev (fun k => parterrelaw28_ContentWithin.j0 k s size al b lo l g a) true := by
    intro b
    cases b with
    | true => exact Ev.step (fun k => by simp only [parterrelaw28_ContentWithin.j0, if_true]) hlv
    | false =>
      have hs1 := (sum_both lo l g a s).1
      rcases starts_ev lo l g a s size al with ⟨E, hE, hev⟩ | ⟨v, B, hev⟩
      · have hend : ∀ v : Int, Ev (fun k => parterrelaw28_ContentWithin.j1 k s size ([] : List Int) E v true lo l g a) true := fun v =>
          Ev.step (fun k => by simp only [parterrelaw28_ContentWithin.j1, if_true]; rw [if_neg hE]; rfl) hlv
        refine Ev.step (fun k => by simp only [parterrelaw28_ContentWithin.j0, Bool.false_eq_true, if_false]; rfl) (Ev.bind hev (Ev.bind hs1 ?_))
        simp only [if_neg hE]
        exact hend _
      · rw [B.sum] at hs1
        refine Ev.step (fun k => by simp only [parterrelaw28_ContentWithin.j0, Bool.false_eq_true, if_false]; rfl) (Ev.bind hev (Ev.bind hs1 ?_))
        have hbl := begS_length g a s size al v
        have c1 : ((begS g a s size al v).length : Int) = (s.length : Int) := by omega
        have c2 : (a.length : Int) = (s.length : Int) := by have := B.la; omega
        have c3 : ((g.length : Int) != (s.length : Int)) = false := by have := B.lg; simp; omega
        simp only [if_true, c1, c2, c3]
        refine Ev.step (fun k => ?_) (within_loop lo l g a s size al v B s.length 0 (by omega))
        simp only [parterrelaw28_ContentWithin.j1, Bool.false_eq_true, if_false, c1]
        rfl
  unfold parterrelaw28_ContentWithin.f
  by_cases h1 : (l.length : Int) > 300
  · simp only [if_pos h1]; exact hj _
  · simp only [if_neg h1]; exact hj _
end Go.Proofs.Ytbkohlhonhmhmaa.Pure

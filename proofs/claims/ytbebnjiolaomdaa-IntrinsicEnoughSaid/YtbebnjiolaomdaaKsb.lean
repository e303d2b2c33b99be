/- What the sizer's tree comes to, whole. No condition beyond what each states. -/
import Derived.Test.YtbebnjiolaomdaaT
import Derived.Test.YtbebnjiolaomdaaKsa
set_option linter.unusedVariables false
set_option linter.unusedSimpArgs false
set_option maxRecDepth 100000
namespace Go.Proofs.Ytbebnjiolaomdaa.T
open Go Go.Proofs.Ytbebnjiolaomdaa.Sx Go.Proofs.Ytbebnjiolaomdaa.M
def flexW (s : List Sz) (w : Wn) : Bool := ((s.drop w.fm.toNat).take (w.to.toNat - w.fm.toNat)).any isFr
def grp (s : List Sz) (ws : List Wn) (n : Int) : List Wn := ws.filter fun w => !flexW s w && decide (1 < n) && decide (w.to - w.fm = n)
def spanL (s : List Sz) (ws : List Wn) : List Int := ((List.range (s.length + 1)).filter (fun d : Nat => !(grp s ws (d : Int)).isEmpty)).map Int.ofNat
theorem inc_ext : ∀ (a b : List Int), a.Pairwise (· < ·) → b.Pairwise (· < ·) → (∀ x, x ∈ a ↔ x ∈ b) → a = b
 | [], [], _, _, _ => rfl
 | [], y :: b, _, _, h => by have := (h y).2 (by simp); simp at this
 | x :: a, [], _, _, h => by have := (h x).1 (by simp); simp at this
 | x :: a, y :: b, ha, hb, h => by
  rw [List.pairwise_cons] at ha hb
  have hxy : x = y := by
   have h1 := (h x).1 (by simp)
   have h2 := (h y).2 (by simp)
   rcases List.mem_cons.1 h1 with h1 | h1
   · exact h1
   · rcases List.mem_cons.1 h2 with h2 | h2
     · exact h2.symm
     · have := hb.1 _ h1
       have := ha.1 _ h2
       omega
  subst hxy
  congr 1
  refine inc_ext a b ha.2 hb.2 fun z => ?_
  constructor
  · intro hz
    rcases List.mem_cons.1 ((h z).1 (by simp [hz])) with hz' | hz'
    · have := ha.1 _ hz; omega
    · exact hz'
  · intro hz
    rcases List.mem_cons.1 ((h z).2 (by simp [hz])) with hz' | hz'
    · have := hb.1 _ hz; omega
    · exact hz'
theorem sort_is (l : List Int) (hn : l.Nodup) (b : List Int) (hb : b.Pairwise (· < ·)) (h : ∀ x, x ∈ l ↔ x ∈ b) : l.mergeSort (fun x y => decide (x ≤ y)) = b := by
 refine inc_ext _ _ ?_ hb (fun x => by rw [List.mem_mergeSort]; exact h x)
 have h1 := List.pairwise_mergeSort (le := fun x y : Int => decide (x ≤ y)) (fun a b c h1 h2 => by simp only [decide_eq_true_eq] at *; omega) (fun a b => by simp only [Bool.or_eq_true, decide_eq_true_eq]; omega) l
 have h2 : (l.mergeSort fun x y => decide (x ≤ y)).Pairwise (· ≠ ·) := (List.Perm.nodup_iff (List.mergeSort_perm l _)).2 hn
 refine (h1.and h2).imp ?_
 intro a b hab
 simp only [decide_eq_true_eq] at hab
 omega
theorem sort_ints (l : List Int) : UO.sort.on (ints l) = ints (l.mergeSort fun x y => decide (x ≤ y)) := by
 show PV.row _ = PV.row _
 rw [List.map_mergeSort (s := fun a b : List PV => decide ((a.getD 0 .bad).i ≤ (b.getD 0 .bad).i))]
 · rfl
 · intro a _ b _
   rfl
theorem spanL_inc (s : List Sz) (ws : List Wn) : (spanL s ws).Pairwise (· < ·) := by
 unfold spanL
 rw [List.pairwise_map]
 refine (List.pairwise_lt_range.filter _).imp ?_
 intro a b h
 show (a : Int) < b
 omega
theorem grp_in {s : List Sz} {ws : List Wn} {n : Int} {w : Wn} (h : w ∈ grp s ws n) : w ∈ ws ∧ flexW s w = false ∧ 1 < n ∧ w.to - w.fm = n := by
 simp only [grp, List.mem_filter, Bool.and_eq_true, Bool.not_eq_true', decide_eq_true_eq] at h
 exact ⟨h.1, h.2.1.1, h.2.1.2, h.2.2⟩
theorem mem_spanL {s : List Sz} {ws : List Wn} (hi : ∀ w ∈ ws, InW s.length w) (n : Int) : n ∈ spanL s ws ↔ grp s ws n ≠ [] := by
 unfold spanL
 simp only [List.mem_map, List.mem_filter, List.mem_range, Bool.not_eq_true', List.isEmpty_eq_false_iff]
 constructor
 · rintro ⟨d, ⟨_, hd⟩, rfl⟩
   exact hd
 · intro h
   obtain ⟨w, hw⟩ := List.exists_mem_of_ne_nil _ h
   obtain ⟨h1, _, h3, h4⟩ := grp_in hw
   obtain ⟨i0, i1, i2⟩ := hi w h1
   refine ⟨n.toNat, ⟨by omega, ?_⟩, ?_⟩
   · rw [show ((n.toNat : Nat) : Int) = n by omega]; exact h
   · show ((n.toNat : Nat) : Int) = n
     omega
noncomputable def spansS (a : List Int) (f m : Bool) (g : Int → List Wn) : List Int → List Sz → List Sz
 | [], S => S
 | n :: l, S => spansS a f m g l (severalS S a (g n) f m)
theorem spansS_len (a : List Int) (f m : Bool) (g : Int → List Wn) : ∀ (l : List Int) (S : List Sz), (spansS a f m g l S).length = S.length
 | [], _ => rfl
 | n :: l, S => by simp only [spansS]; rw [spansS_len a f m g l, severalS_len]
noncomputable def aloneS (s : List Sz) (a : List Int) (ws : List Wn) (f : Bool) : List Sz :=
 alS s (topS s a f ws (List.replicate s.length ⟨0, 0, 0⟩, List.replicate s.length false)).1 (topS s a f ws (List.replicate s.length ⟨0, 0, 0⟩, List.replicate s.length false)).2
theorem aloneS_len (s a ws f) : (aloneS s a ws f).length = s.length := alS_len _ _ _
noncomputable def sizeS (s : List Sz) (a : List Int) (ws : List Wn) (f m : Bool) : List Sz :=
 flexS (spansS a f m (grp s ws) (spanL s ws) (aloneS s a ws f)) a (ws.filter (flexW s)) f m
section
variable {ws : List Wn} {s S1 : List Sz} {a : List Int} {mode : Int}
theorem l17_run (h : Ask s a ws) (hS : S1.length = s.length) (x4 x5 x6 x7 x8 x9 x10 x11 x12 x14 : PV) (spans : List Int) (M : List (List PV)) (hM : ∀ n, mapGetR M n = (grp s ws n).map eWn)
    (hsp : spans.mergeSort (fun x y => decide (x ≤ y)) = spanL s ws) (J1 J2 J3 : JT) :
    Run tr intrinsic_Size_l17 [rowOf eSz s, ints a, rowOf eWn ws, I mode, x4, x5, x6, x7, x8, x9, x10, x11, x12, rowOf eSz S1, x14, ints spans, rowOf eWn (ws.filter (flexW s)), PV.row M, I (0 : Nat), rowOf eSz S1] [J1, J2, J3, .loop intrinsic_Size_l17 [rowOf eSz s, ints a, rowOf eWn ws, I mode, x4, x5, x6, x7, x8, x9, x10, x11, x12, rowOf eSz S1, x14, ints spans, rowOf eWn (ws.filter (flexW s)), PV.row M]]
     [rowOf eSz (flexS (spansS a (decide (mode ≠ 0)) (decide (mode = 2)) (grp s ws) (spanL s ws) S1) a (ws.filter (flexW s)) (decide (mode ≠ 0)) (decide (mode = 2))), I 0] := by
 have hsort := sort_ints spans
 rw [hsp] at hsort
 generalize hl : spanL s ws = L at *
 have hLin : ∀ n ∈ L, grp s ws n ≠ [] := fun n hn => (mem_spanL h.hi n).1 (by rw [hl]; exact hn)
 have hb : ∀ n ∈ L, 1 < n ∧ n ≤ s.length := by
  intro n hn
  obtain ⟨w, hw⟩ := List.exists_mem_of_ne_nil _ (hLin n hn)
  obtain ⟨h1, _, h3, h4⟩ := grp_in hw
  obtain ⟨i0, i1, i2⟩ := h.hi w h1
  omega
 have hLl : L.length ≤ s.length + 1 := by
  rw [← hl]
  unfold spanL
  rw [List.length_map]
  refine Nat.le_trans (List.length_filter_le _ _) ?_
  simp
 have hs := h.hs
 generalize hfin : spansS a (decide (mode ≠ 0)) (decide (mode = 2)) (grp s ws) L S1 = fin
 have key := xup_ind (n := L.length) (P := fun k => ∀ S : List Sz, S.length = s.length → spansS a (decide (mode ≠ 0)) (decide (mode = 2)) (grp s ws) (L.drop k) S = fin →
  Run tr intrinsic_Size_l17 [rowOf eSz s, ints a, rowOf eWn ws, I mode, x4, x5, x6, x7, x8, x9, x10, x11, x12, rowOf eSz S1, x14, ints spans, rowOf eWn (ws.filter (flexW s)), PV.row M, I k, rowOf eSz S] [J1, J2, J3, .loop intrinsic_Size_l17 [rowOf eSz s, ints a, rowOf eWn ws, I mode, x4, x5, x6, x7, x8, x9, x10, x11, x12, rowOf eSz S1, x14, ints spans, rowOf eWn (ws.filter (flexW s)), PV.row M]]
   [rowOf eSz (flexS fin a (ws.filter (flexW s)) (decide (mode ≠ 0)) (decide (mode = 2))), I 0]) ?_ 0 (Nat.zero_le _)
 · exact key _ hS (by simpa using hfin)
 intro k hk ih S hSl hh
 rw [u_intrinsic_Size_l17]
 by_cases hx : k < L.length
 · rw [List.drop_eq_getElem_cons hx] at hh
   simp only [spansS] at hh
   have hbk := hb _ (List.getElem_mem hx)
   have ih' := ih hx _ (by rw [severalS_len]; exact hSl) hh
   have askk : Ask S a (grp s ws L[k]) := ⟨by omega, by rw [hSl]; exact h.ha, Nat.le_trans (List.length_filter_le _ _) h.hw, fun w hw => by rw [hSl]; exact h.hi w (grp_in hw).1⟩
   have j18 : ∀ f : Bool, f = decide (mode ≠ 0) → Run tr intrinsic_Size_j18 [rowOf eSz s, ints a, rowOf eWn ws, I mode, x4, x5, x6, x7, x8, x9, x10, x11, x12, rowOf eSz S1, x14, ints spans, rowOf eWn (ws.filter (flexW s)), PV.row M, I k, rowOf eSz S, B f] [J1, J2, J3, .loop intrinsic_Size_l17 [rowOf eSz s, ints a, rowOf eWn ws, I mode, x4, x5, x6, x7, x8, x9, x10, x11, x12, rowOf eSz S1, x14, ints spans, rowOf eWn (ws.filter (flexW s)), PV.row M]]
    [rowOf eSz (flexS fin a (ws.filter (flexW s)) (decide (mode ≠ 0)) (decide (mode = 2))), I 0] := by
    intro f hf
    have j19 : ∀ m : Bool, m = decide (mode = 2) → Run tr intrinsic_Size_j19 [rowOf eSz s, ints a, rowOf eWn ws, I mode, x4, x5, x6, x7, x8, x9, x10, x11, x12, rowOf eSz S1, x14, ints spans, rowOf eWn (ws.filter (flexW s)), PV.row M, I k, rowOf eSz S, B f, B m, B m] [J1, J2, J3, .loop intrinsic_Size_l17 [rowOf eSz s, ints a, rowOf eWn ws, I mode, x4, x5, x6, x7, x8, x9, x10, x11, x12, rowOf eSz S1, x14, ints spans, rowOf eWn (ws.filter (flexW s)), PV.row M]]
     [rowOf eSz (flexS fin a (ws.filter (flexW s)) (decide (mode ≠ 0)) (decide (mode = 2))), I 0] := by
     intro m hm
     refine Run.unf same_j19 ?_
     rw [← hf, ← hm] at ih' ⊢
     refine several_run (f := f) (m := m) (k := k) askk rfl rfl ?_ ?_ ?_ ?_ ?_ ?_ (by omega) ?_ ?_
     · intro β
       have e : BO.rget.on (PV.row M) (I L[k]) = rowOf eWn (grp s ws L[k]) := by
        show PV.row (mapGetR M L[k]) = _
        rw [hM]
        rfl
       simp (disch := first | omega | (simp only [ln0]; omega)) only [rs, reduceIte, Nat.reduceAdd, hsort, hx, e]
     all_goals first
      | (intro β; simp (disch := first | omega | (simp only [ln0]; omega)) only [rs, reduceIte, Nat.reduceAdd]; done)
      | exact ih'
    rw [u_intrinsic_Size_j18]
    simp (disch := first | omega | (simp only [ln0]; omega)) only [rs, reduceIte, Nat.reduceAdd, beq_iff_eq]
    refine br_split ?_ ?_ <;> intro _
    · rename_i h2
      exact j19 true (by rw [decide_eq_true h2])
    · rename_i h2
      exact j19 false (by rw [decide_eq_false h2])
   have g1 : (-9223372036854775808 : Int) ≤ L[k] := by omega
   have g2 : L[k] ≤ (9223372036854775807 : Int) := by omega
   simp (disch := first | omega | (simp only [ln0]; omega)) only [rs, reduceIte, Nat.reduceAdd, hsort, hx, g1, g2, bne_iff_ne, ne_eq]
   refine br_split ?_ ?_ <;> intro _
   · rename_i h2
     exact j18 true (by rw [decide_eq_true h2])
   · rename_i h2
     exact j18 false (by rw [decide_eq_false h2])
 · rw [List.drop_of_length_le (by omega)] at hh
   simp only [spansS] at hh
   subst hh
   have askF : Ask S a (ws.filter (flexW s)) := ⟨by omega, by rw [hSl]; exact h.ha, Nat.le_trans (List.length_filter_le _ _) h.hw, fun w hw => by rw [hSl]; exact h.hi w (List.mem_filter.1 hw).1⟩
   have j18 : ∀ f : Bool, f = decide (mode ≠ 0) → Run tr intrinsic_Size_j106 [rowOf eSz s, ints a, rowOf eWn ws, I mode, x4, x5, x6, x7, x8, x9, x10, x11, x12, rowOf eSz S1, x14, ints spans, rowOf eWn (ws.filter (flexW s)), PV.row M, I k, rowOf eSz S, B f] [J1, J2, J3, .loop intrinsic_Size_l17 [rowOf eSz s, ints a, rowOf eWn ws, I mode, x4, x5, x6, x7, x8, x9, x10, x11, x12, rowOf eSz S1, x14, ints spans, rowOf eWn (ws.filter (flexW s)), PV.row M]]
    [rowOf eSz (flexS S a (ws.filter (flexW s)) (decide (mode ≠ 0)) (decide (mode = 2))), I 0] := by
    intro f hf
    have j19 : ∀ m : Bool, m = decide (mode = 2) → Run tr intrinsic_Size_j107 [rowOf eSz s, ints a, rowOf eWn ws, I mode, x4, x5, x6, x7, x8, x9, x10, x11, x12, rowOf eSz S1, x14, ints spans, rowOf eWn (ws.filter (flexW s)), PV.row M, I k, rowOf eSz S, B f, B m, B m] [J1, J2, J3, .loop intrinsic_Size_l17 [rowOf eSz s, ints a, rowOf eWn ws, I mode, x4, x5, x6, x7, x8, x9, x10, x11, x12, rowOf eSz S1, x14, ints spans, rowOf eWn (ws.filter (flexW s)), PV.row M]]
     [rowOf eSz (flexS S a (ws.filter (flexW s)) (decide (mode ≠ 0)) (decide (mode = 2))), I 0] := by
     intro m hm
     refine Run.unf same_j107 ?_
     rw [← hf, ← hm]
     refine flex_run (f := f) (m := m) askF rfl rfl ?_ ?_ ?_ ?_ ?_ ?_
     all_goals (intro β; simp (disch := first | omega | (simp only [ln0]; omega)) only [rs, reduceIte, Nat.reduceAdd])
    rw [u_intrinsic_Size_j106]
    simp (disch := first | omega | (simp only [ln0]; omega)) only [rs, reduceIte, Nat.reduceAdd, beq_iff_eq]
    refine br_split ?_ ?_ <;> intro _
    · rename_i h2
      exact j19 true (by rw [decide_eq_true h2])
    · rename_i h2
      exact j19 false (by rw [decide_eq_false h2])
   simp (disch := first | omega | (simp only [ln0]; omega)) only [rs, reduceIte, Nat.reduceAdd, hsort, hx, bne_iff_ne, ne_eq]
   refine br_split ?_ ?_ <;> intro _
   · rename_i h2
     exact j18 true (by rw [decide_eq_true h2])
   · rename_i h2
     exact j18 false (by rw [decide_eq_false h2])
end
end Go.Proofs.Ytbebnjiolaomdaa.T

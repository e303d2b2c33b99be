/- What the tree comes to that tells all tracks along an axis: as a whole. No condition beyond what each states. -/
import Derived.Test.YtmfjdoanipgjkaaT
import Derived.Test.YtmfjdoanipgjkaaKgap7
set_option linter.unusedVariables false
set_option linter.unusedSimpArgs false
set_option maxRecDepth 10000
namespace Go.Proofs.Ytmfjdoanipgjkaa.T
open Go Go.Proofs.Ytmfjdoanipgjkaa.Sx Go.Proofs.Ytmfjdoanipgjkaa.M

theorem cellsG_spec {F To low : Int} {rows : Bool} (hF : 0 ≤ F) (hlow : low ≤ 0) : ∀ (l : List Cl) (g : List Bool), (∀ c ∈ l, gC c → low ≤ (sd c rows).1) → (∀ q : Nat, g[q]? = some true → F ≤ low + q ∧ low + q < To) →
    (∀ q : Nat, (cellsG F To low rows l g)[q]? = some true → g[q]? = some true) ∧ ∀ c ∈ l, gC c → ∀ q : Nat, (sd c rows).1 ≤ low + q → low + q < (sd c rows).2 → ¬ (cellsG F To low rows l g)[q]? = some true
  | [], g, _, _ => ⟨fun q h => h, fun c hc => by cases hc⟩
  | c :: r, g, hs, hg => by
    rw [cellsG]
    by_cases h : gC c
    · rw [if_pos h]
      have hsc := hs c List.mem_cons_self h
      have hsub : ∀ q : Nat, (setK false g (max (sd c rows).1 F - low).toNat (min (sd c rows).2 To - max (sd c rows).1 F).toNat)[q]? = some true → g[q]? = some true := by
        intro q hq
        rw [setK_get] at hq
        split at hq
        · cases hq
        · exact hq
      obtain ⟨i1, i2⟩ := cellsG_spec hF hlow r _ (fun d hd => hs d (List.mem_cons_of_mem _ hd)) (fun q hq => hg q (hsub q hq))
      refine ⟨fun q hq => hsub q (i1 q hq), fun d hd hgd q h1 h2 hq => ?_⟩
      rcases List.mem_cons.1 hd with rfl | hd
      · have h3 := i1 q hq
        have h4 := hg q (hsub q h3)
        have hlt := (List.getElem?_eq_some_iff.1 (hsub q h3)).1
        rw [setK_get, if_pos (by omega)] at h3
        cases h3
      · exact i2 d hd hgd q h1 h2 hq
    · rw [if_neg h]
      obtain ⟨i1, i2⟩ := cellsG_spec hF hlow r g (fun d hd => hs d (List.mem_cons_of_mem _ hd)) hg
      refine ⟨i1, fun d hd hgd q h1 h2 hq => ?_⟩
      rcases List.mem_cons.1 hd with rfl | hd
      · exact h hgd
      · exact i2 d hd hgd q h1 h2 hq
/-- What all tracks are like. -/
def TkIs (l : List Cl) (rows : Bool) (gap low : Int) (L : List Tr) (G : List Bool) (Aa : List Int) : Prop :=
  L.length = G.length ∧ G.length ≤ 40000 ∧ -10000 ≤ low ∧ low ≤ 0 ∧ 0 ≤ gap ∧ gap ≤ 68719476736 ∧ Aa = fillA gap G 0 false (List.replicate G.length 0) ∧
    ∀ c ∈ l, gC c → low ≤ (sd c rows).1 ∧ (sd c rows).2 ≤ low + G.length ∧ ∀ q : Nat, (sd c rows).1 ≤ low + q → low + q < (sd c rows).2 → G[q]? = some false
theorem j2_run (xs : List (List PV)) (T : List Tr) (F To lines : Int) (A : List Tr) (l : List Cl) (rows : Bool) (gap : Int) (v9 : Bool) (J0 : JT) (hA : 0 < A.length ∧ A.length ≤ 256) (hT : T.length ≤ 10000) (hl : l.length ≤ 100000) (hF : F = 0 ∧ To = 0 ∨ 0 ≤ F ∧ F < To ∧ To ≤ T.length) (hlines : (T.length : Int) < lines ∧ lines ≤ 10001) (hgap : 0 ≤ gap ∧ gap ≤ 68719476736) :
    ∃ (low : Int) (L : List Tr) (G : List Bool) (Aa : List Int), TkIs l rows gap low L G Aa ∧ Run tr implicit_Tracks_j2 [.row xs, rowOf eTr T, I F, I To, I lines, rowOf eTr A, rowOf eCl l, B rows, I gap, B v9, B false] [J0] [I low, rowOf eTr L, bools G, ints Aa, I 0] := by
  obtain ⟨low, hlow⟩ : ∃ x, x = (bnd rows l (0, lines - 1)).1 := ⟨_, rfl⟩
  obtain ⟨high, hhigh⟩ : ∃ x, x = (bnd rows l (0, lines - 1)).2 := ⟨_, rfl⟩
  obtain ⟨b1, b2, b3, b4, b5⟩ := bnd_in rows l (0, lines - 1) (by dsimp only; omega) (by dsimp only; omega)
  rw [← hlow] at b1 b2 b5
  rw [← hhigh] at b3 b4 b5
  dsimp only at b2 b3
  obtain ⟨n, hn⟩ : ∃ n : Nat, max 0 (high - low) = n := ⟨(max 0 (high - low)).toNat, by omega⟩
  have hnT : To ≤ low + n := by omega
  have hF2 : 0 ≤ F ∧ F ≤ 20000 := by omega
  obtain ⟨G, hG⟩ : ∃ G, G = cellsG F To low rows l (setK true (List.replicate n false) (F - low).toNat (To - F).toNat) := ⟨_, rfl⟩
  have hGl : G.length = n := by rw [hG, cellsG_length, setK_length]; simp
  obtain ⟨L, hL, h7⟩ := l7_run (.row xs) T F To lines A l rows gap v9 false low high (I (F + (To - F).toNat)) (bools (setK true (List.replicate n false) (F - low).toNat (To - F).toNat)) (I l.length) G J0 (.loop implicit_Tracks_l3 [.row xs, rowOf eTr T, I F, I To, I lines, rowOf eTr A, rowOf eCl l, B rows, I gap, B v9, B false, I low, I high]) (.loop implicit_Tracks_l4 [.row xs, rowOf eTr T, I F, I To, I lines, rowOf eTr A, rowOf eCl l, B rows, I gap, B v9, B false, I low, I high, I (F + (To - F).toNat), bools (setK true (List.replicate n false) (F - low).toNat (To - F).toNat)]) hA (by omega) (by omega) (by omega) 0 (Nat.zero_le _) false [] (List.replicate n 0) rfl (by simp [hGl])
  have hsd : ∀ c ∈ l, gC c → low ≤ (sd c rows).1 := fun c hc hg => (b5 c hc hg).1
  have hnat : (max 0 (high - low)).toNat = n := by omega
  have h4 := l4_run (.row xs) T F To lines A l rows gap v9 false low high (I (F + (To - F).toNat)) (bools (setK true (List.replicate n false) (F - low).toNat (To - F).toNat)) n J0 (.loop implicit_Tracks_l3 [.row xs, rowOf eTr T, I F, I To, I lines, rowOf eTr A, rowOf eCl l, B rows, I gap, B v9, B false, I low, I high]) _ (by omega) (by omega) hF2 hnT (by omega) hl hsd 0 (Nat.zero_le _) (setK true (List.replicate n false) (F - low).toNat (To - F).toNat) (by rw [setK_length]; simp) (by
    rw [List.drop_zero, ← hG, hnat]
    exact h7)
  have h3 := l3_run (.row xs) T F To lines A l rows gap v9 false low high n J0 _ (by omega) hnT (by omega) (To - F).toNat F (List.replicate n false) rfl (by omega) (by omega) (by simp) h4
  refine ⟨low, L, G, _, ⟨hL, by omega, b1, by omega, hgap.1, hgap.2, rfl, fun c hc hg => ?_⟩, ?_⟩
  · obtain ⟨c1, c2⟩ := b5 c hc hg
    have hs := sd_in hg rows
    refine ⟨c1, by omega, fun q h1 h2 => ?_⟩
    have hsp := (cellsG_spec (To := To) hF2.1 (by omega : low ≤ 0) l (setK true (List.replicate n false) (F - low).toNat (To - F).toNat) hsd (fun q hq => by
      rw [setK_get] at hq
      split at hq
      · omega
      · rw [List.getElem?_replicate] at hq
        split at hq <;> cases hq)).2 c hc hg q h1 h2
    rw [← hG] at hsp
    have hq : q < G.length := by omega
    rw [List.getElem?_eq_getElem hq] at hsp ⊢
    cases hb : G[q] with
    | false => rfl
    | true => rw [hb] at hsp; exact absurd rfl hsp
  · rw [u_implicit_Tracks_j2]
    have hbs := bounds_sp l lines rows (by omega) (by omega)
    rw [← hlow, ← hhigh] at hbs
    have e0 : (if high - low > 0 then high - low else 0) = (n : Int) := by omega
    rw [hGl]
    simp (disch := first | omega | (simp only [List.length_set, List.length_map, List.length_replicate, List.length_append, List.length_modify]; omega)) only [xrun_ret, run_ite, run_fail, run_letj, xrun_loop, run_jump, xrun_call, jmp_join, jmp_loop, br_fail, br_true, br_false, xden_var, den_int, den_bool, den_str, den_nil, den_nilc, den_un, den_bin, den_tri, xon_and, xon_or, on_beq, xon_not, on_len, on_neg, on_conv, on_max, on_min, on_snoc, on_cat, on_cons, on_make, on_copy, on_plus, on_minus, on_cell, on_sel, on_slice, on_set, on_put, on_cmp, on_ar, ev_lss, ev_leq, ev_gtr, ev_geq, ev_eql, ev_neq, ar_add, ar_sub, ar_mul, ar_quo, ar_rem, pi_int, b_bool, r_row, c_cells, rowOf_r, List.map_cons, List.map_nil, List.cons_append, List.nil_append, List.getD_cons_zero, List.getD_cons_succ, List.getElem?_cons_zero, List.getElem?_cons_succ, List.take_zero, List.take_succ_cons, List.length_map, Int.toNat_natCast, decide_eq_true_eq, Int.ofNat_lt, Int.ofNat_le, xnat_nonneg, true_and, and_true, if_true, if_false, reduceIte, wrap_in, xints_at, xbools_at, xints_set, xints_snoc, xints_make, xints_nil, xbools_set, xbools_snoc, xbools_make, xcopy_make, List.length_replicate, List.length_cons, List.length_nil, Nat.reduceAdd, xcall_of hbs, hn, e0, List.length_replicate, Bool.false_eq_true]
    repeat rw [br_neg (by simp)]
    try simp (disch := first | omega | (simp only [List.length_set, List.length_map, List.length_replicate, List.length_append, List.length_modify]; omega)) only [xrun_ret, run_ite, run_fail, run_letj, xrun_loop, run_jump, xrun_call, jmp_join, jmp_loop, br_fail, br_true, br_false, xden_var, den_int, den_bool, den_str, den_nil, den_nilc, den_un, den_bin, den_tri, xon_and, xon_or, on_beq, xon_not, on_len, on_neg, on_conv, on_max, on_min, on_snoc, on_cat, on_cons, on_make, on_copy, on_plus, on_minus, on_cell, on_sel, on_slice, on_set, on_put, on_cmp, on_ar, ev_lss, ev_leq, ev_gtr, ev_geq, ev_eql, ev_neq, ar_add, ar_sub, ar_mul, ar_quo, ar_rem, pi_int, b_bool, r_row, c_cells, rowOf_r, List.map_cons, List.map_nil, List.cons_append, List.nil_append, List.getD_cons_zero, List.getD_cons_succ, List.getElem?_cons_zero, List.getElem?_cons_succ, List.take_zero, List.take_succ_cons, List.length_map, Int.toNat_natCast, decide_eq_true_eq, Int.ofNat_lt, Int.ofNat_le, xnat_nonneg, true_and, and_true, if_true, if_false, reduceIte, wrap_in, xints_at, xbools_at, xints_set, xints_snoc, xints_make, xints_nil, xbools_set, xbools_snoc, xbools_make, xcopy_make, List.length_replicate, List.length_cons, List.length_nil, Nat.reduceAdd, xcall_of hbs, hn, e0, List.length_replicate]
    first | exact h3 | exact ⟨by omega, h3⟩ | exact ⟨by omega, by omega, h3⟩ | exact ⟨by omega, by omega, by omega, h3⟩
end Go.Proofs.Ytmfjdoanipgjkaa.T

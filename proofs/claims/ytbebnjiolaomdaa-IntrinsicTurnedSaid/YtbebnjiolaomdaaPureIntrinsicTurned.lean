/- The plain law of IntrinsicTurned: what the trees come to answers as the statement says. No condition. -/
import Derived.Test.YtbebnjiolaomdaaT
import Derived.Test.YtbebnjiolaomdaaKin0
import Derived.Test.YtbebnjiolaomdaaKtn
import Derived.Test.YtbebnjiolaomdaaKsame
set_option linter.unusedVariables false
set_option linter.unusedSimpArgs false
set_option maxRecDepth 10000
namespace Go.Proofs.Ytbebnjiolaomdaa
open Go Go.Proofs.Ytbebnjiolaomdaa.Sx Go.Proofs.Ytbebnjiolaomdaa.M Go.Proofs.Ytbebnjiolaomdaa.T
theorem light_sp (s : List Sz) (a : List Int) (ws : List Wn) : Says tr c_law24_light [rowOf eSz s, ints a, rowOf eWn ws] [B (decide (s.length ≤ 60) && decide (a.length ≤ 60) && decide (ws.length ≤ 60))] := by
 refine Says.of (t := law24_light) rfl ?_
 rw [u_law24_light]
 have h : ∀ x : Nat, decide ((x : Int) ≤ 60) = decide (x ≤ 60) := fun x => by rw [decide_eq_decide]; omega
 simp (disch := first | omega | (simp only [ln0]; omega)) only [rs, reduceIte, Nat.reduceAdd, h]
theorem sizeR_short (s : List Sz) (a : List Int) (ws : List Wn) (mode : Int) (hs : s.length ≤ 60) : (sizeR s a ws mode).1.length ≤ 60 := by
 by_cases hg : goodI s a ws mode = true
 · rw [sizeR_len s a ws mode hg]; exact hs
 · unfold sizeR
   rw [if_neg hg]
   simp
theorem PureIntrinsicTurned : Pure_IntrinsicTurned := by
 intro p0 p1 p2 p3 p4 hp0 _ hb0 hp1 hw1 hb1 hp2 hw2 hb2 hp3 hw3 hp4 hw4
 obtain ⟨s, rfl⟩ := sz_open hp0
 obtain ⟨a, rfl⟩ := ints_open hp1
 obtain ⟨ws, rfl⟩ := wn_open hp2
 obtain ⟨mode, rfl⟩ := int_open hp3
 obtain ⟨turn, rfl⟩ := int_open hp4
 refine Says.told (tr := tr) (f := c_law24_IntrinsicTurned) (args := [rowOf eSz s, ints a, rowOf eWn ws, I mode, I turn]) ?_
 refine Says.of (t := law24_IntrinsicTurned) rfl ?_
 rw [u_law24_IntrinsicTurned]
 simp (disch := first | omega | (simp only [ln0]; omega)) only [rs, reduceIte, Nat.reduceAdd, xcall_of (light_sp s a ws), xcall_of lives_sp, bx, reduceCtorEq, forall_const, ne_eq]
 refine br_split ?_ ?_ <;> intro _
 · trivial
 · rename_i hlen
   have hs : s.length ≤ 60 := by omega
   have ha : a.length ≤ 60 := by omega
   have hwl : ws.length ≤ 60 := by omega
   have hw0 : 0 < ws.length := by omega
   have hwu : IntKind.u64.wrap (ws.length : Int) = ws.length := by
    unfold IntKind.wrap
    simp [IntKind.signed, IntKind.bits]
    omega
   have htu : 0 ≤ IntKind.u64.wrap turn := by
    unfold IntKind.wrap
    simp [IntKind.signed, IntKind.bits]
    omega
   obtain ⟨k, hk, hkl⟩ : ∃ k : Nat, IntKind.i64.wrap ((IntKind.u64.wrap turn).tmod (ws.length : Int)) = (k : Int) ∧ k < ws.length := by
    have h1 : 0 ≤ (IntKind.u64.wrap turn).tmod (ws.length : Int) := Int.tmod_nonneg _ htu
    have h2 : (IntKind.u64.wrap turn).tmod (ws.length : Int) < ws.length := Int.tmod_lt_of_pos _ (by omega)
    refine ⟨((IntKind.u64.wrap turn).tmod (ws.length : Int)).toNat, ?_, by omega⟩
    rw [wrap_in (by omega) (by omega)]
    omega
   have hne : ((ws.length : Int) != 0) = true := by rw [bne_iff_ne]; omega
   have eS1 : ((ws.map eWn).drop k).take ((ws.length : Int) - (k : Int)).toNat = (ws.drop k).map eWn := by
    rw [row_cut, List.take_of_length_le (by rw [List.length_drop]; omega)]
   have eS2 : ((ws.map eWn).drop (0 : Int).toNat).take ((k : Int) - 0).toNat = (ws.take k).map eWn := by
    rw [row_cut]
    simp
   have eS3 : (ws.drop k).map eWn ++ (ws.take k).map eWn = (ws.drop k ++ ws.take k).map eWn := by rw [List.map_append]
   have hol : (ws.drop k ++ ws.take k).length = ws.length := by simp; omega
   have hsame : Same ws (ws.drop k ++ ws.take k) := fun w => by
    rw [List.mem_append]
    conv => lhs; rw [← List.take_append_drop k ws]
    rw [List.mem_append]
    exact Or.comm
   have hsame2 : Same ws (ws.drop k ++ ws.take k ++ [ws[k]]) := fun w => by
    rw [List.mem_append, ← hsame w]
    constructor
    · exact Or.inl
    · rintro (h | h)
      · exact h
      · rw [List.mem_singleton] at h
        rw [h]
        exact List.getElem_mem hkl
   have hs1 := isize_sp s a ws mode (by omega) (by omega)
   have hs2 := isize_sp s a (ws.drop k ++ ws.take k) mode (by omega) (by omega)
   have hs3 := isize_sp s a (ws.drop k ++ ws.take k ++ [ws[k]]) mode (by omega) (by omega)
   rw [← sizeR_same hsame (by omega) (by omega)] at hs2
   rw [← sizeR_same hsame2 (by omega) (by simp; omega)] at hs3
   generalize hO : ws.drop k ++ ws.take k = O at *
   have hwe : (⟨ws[k].fm, ws[k].to, ws[k].least, ws[k].mn, ws[k].mx⟩ : Wn) = ws[k] := rfl
   rw [← hwe] at hs3
   have hsh := sizeR_short s a ws mode hs
   generalize sizeR s a ws mode = R at *
   have hsm := same_sp R.1 R.1 (by omega)
   have eR : PV.row (O.map eWn) = rowOf eWn O := rfl
   have c1 : ((ws.drop k).length : Int) ≤ 4294967296 := by simp; omega
   have c2 : ((ws.drop k).length : Int) + ((ws.take k).length : Int) ≤ 4294967296 := by simp; omega
   have c3 : (O.length : Int) + 1 ≤ 4294967296 := by omega
   simp (disch := first | omega | (simp only [ln0]; omega)) only [rs, reduceIte, Nat.reduceAdd, hwu, hk, hkl, hne, eS1, eS2, eS3, on_ar, ar_rem]
   refine ⟨by omega, by omega, by omega, c2, ?_⟩
   simp (disch := first | omega | (simp only [ln0]; omega)) only [rs, reduceIte, Nat.reduceAdd, hwu, hk, hkl, hne, eS1, eS2, eS3, on_ar, ar_rem, eR, xcall_of hs1, xcall_of hs2, xcall_of hs3, c3, wn_at0, wn_at1, wn_at2, wn_at3, wn_at4, wn_snoc, beq_self_eq_true]
   refine ⟨by omega, ?_⟩
   have hbn : (R.2 != R.2) = false := by simp
   simp (disch := first | omega | (simp only [ln0]; omega)) only [rs, reduceIte, Nat.reduceAdd, xcall_of hsm, decide_true, hbn, Bool.not_false, Bool.and_true, xcall_of lives_sp]
   try rw [br_pos (by simp)]
   try simp (disch := first | omega | (simp only [ln0]; omega)) only [rs, reduceIte, Nat.reduceAdd, xcall_of hsm, decide_true, xcall_of lives_sp]
   try rfl
end Go.Proofs.Ytbebnjiolaomdaa

/- Trees that stand within the sizer's tree: flexible rounds, what is wanted, rooms; small functions. No condition beyond what each states. -/
import Derived.Test.YtbebnjiolaomdaaT
import Derived.Test.YtbebnjiolaomdaaKgw
set_option linter.unusedVariables false
set_option linter.unusedSimpArgs false
set_option maxRecDepth 10000
namespace Go.Proofs.Ytbebnjiolaomdaa.T
open Go Go.Proofs.Ytbebnjiolaomdaa.Sx Go.Proofs.Ytbebnjiolaomdaa.M
theorem r1_sp (w : Wn) : Says tr c_pintrinsic_sizer_rounds_1 [I w.fm, I w.to, I w.least, I w.mn, I w.mx] [I w.least] := by
 refine Says.of (t := pintrinsic_sizer_rounds_1) rfl ?_
 rw [u_pintrinsic_sizer_rounds_1]
 simp (disch := first | omega | (simp only [ln0]; omega)) only [rs, reduceIte, Nat.reduceAdd]
theorem r3_sp (w : Wn) : Says tr c_pintrinsic_sizer_rounds_3 [I w.fm, I w.to, I w.least, I w.mn, I w.mx] [I w.mx] := by
 refine Says.of (t := pintrinsic_sizer_rounds_3) rfl ?_
 rw [u_pintrinsic_sizer_rounds_3]
 simp (disch := first | omega | (simp only [ln0]; omega)) only [rs, reduceIte, Nat.reduceAdd]
theorem r9_sp (w : Wn) : Says tr c_pintrinsic_sizer_rounds_9 [I w.fm, I w.to, I w.least, I w.mn, I w.mx] [I w.mn] := by
 refine Says.of (t := pintrinsic_sizer_rounds_9) rfl ?_
 rw [u_pintrinsic_sizer_rounds_9]
 simp (disch := first | omega | (simp only [ln0]; omega)) only [rs, reduceIte, Nat.reduceAdd]
theorem sv1_sp (w : Wn) : Says tr c_pintrinsic_sizer_several_1 [I w.fm, I w.to, I w.least, I w.mn, I w.mx] [I w.mn] := by
 refine Says.of (t := pintrinsic_sizer_several_1) rfl ?_
 rw [u_pintrinsic_sizer_several_1]
 simp (disch := first | omega | (simp only [ln0]; omega)) only [rs, reduceIte, Nat.reduceAdd]
theorem sv2_sp (w : Wn) : Says tr c_pintrinsic_sizer_several_2 [I w.fm, I w.to, I w.least, I w.mn, I w.mx] [I w.mx] := by
 refine Says.of (t := pintrinsic_sizer_several_2) rfl ?_
 rw [u_pintrinsic_sizer_several_2]
 simp (disch := first | omega | (simp only [ln0]; omega)) only [rs, reduceIte, Nat.reduceAdd]
def looseB (x : Sz) : Bool := decide (x.mx ≠ 1)
def contentB (x : Sz) : Bool := decide (x.mx = 4 ∨ x.mx = 2)
def of1 (x : Sz) : Bool := decide (x.mn ≠ 1)
def of2 (x : Sz) : Bool := decide (x.mn = 3 ∨ x.mn = 4)
def of3a (x : Sz) : Bool := decide (x.mn = 4)
def of3b (x : Sz) : Bool := decide (x.mn = 4 ∨ x.mn = 2)
def isFr (x : Sz) : Bool := decide (x.mx = 5)
def ownB (x : Sz) : Int := x.base
def ownL (x : Sz) : Int := if x.lim < 1125899906842624 then x.lim else x.base
theorem loose_sp' (x : Sz) : Says tr c_intrinsic_loose (eSz x) [B (looseB x)] := loose_sp x
theorem content_sp (x : Sz) : Says tr c_intrinsic_content (eSz x) [B (contentB x)] := by
 refine Says.of (t := intrinsic_content) rfl ?_
 rw [u_intrinsic_content]
 simp (disch := first | omega | (simp only [ln0]; omega)) only [rs, reduceIte, Nat.reduceAdd, xbret, contentB, bx, reduceCtorEq, forall_const, ne_eq]
theorem r4_sp (x : Sz) : Says tr c_pintrinsic_sizer_rounds_4 (eSz x) [B (of3a x)] := by
 refine Says.of (t := pintrinsic_sizer_rounds_4) rfl ?_
 rw [u_pintrinsic_sizer_rounds_4]
 simp (disch := first | omega | (simp only [ln0]; omega)) only [rs, reduceIte, Nat.reduceAdd, xbret, of3a, bx, reduceCtorEq, forall_const, ne_eq]
theorem r6_sp (x : Sz) : Says tr c_pintrinsic_sizer_rounds_6 (eSz x) [B (of3b x)] := by
 refine Says.of (t := pintrinsic_sizer_rounds_6) rfl ?_
 rw [u_pintrinsic_sizer_rounds_6]
 simp (disch := first | omega | (simp only [ln0]; omega)) only [rs, reduceIte, Nat.reduceAdd, xbret, of3b, bx, reduceCtorEq, forall_const, ne_eq]
theorem r7_sp (x : Sz) : Says tr c_pintrinsic_sizer_rounds_7 (eSz x) [B (of1 x)] := by
 refine Says.of (t := pintrinsic_sizer_rounds_7) rfl ?_
 rw [u_pintrinsic_sizer_rounds_7]
 simp (disch := first | omega | (simp only [ln0]; omega)) only [rs, reduceIte, Nat.reduceAdd, xbret, of1, bx, reduceCtorEq, forall_const, ne_eq]
theorem r8_sp (x : Sz) : Says tr c_pintrinsic_sizer_rounds_8 (eSz x) [B (of2 x)] := by
 refine Says.of (t := pintrinsic_sizer_rounds_8) rfl ?_
 rw [u_pintrinsic_sizer_rounds_8]
 simp (disch := first | omega | (simp only [ln0]; omega)) only [rs, reduceIte, Nat.reduceAdd, xbret, of2, bx, reduceCtorEq, forall_const, ne_eq]
theorem sz1_sp (x : Sz) : Says tr c_intrinsic_Size_1 (eSz x) [B (isFr x)] := by
 refine Says.of (t := intrinsic_Size_1) rfl ?_
 rw [u_intrinsic_Size_1]
 simp (disch := first | omega | (simp only [ln0]; omega)) only [rs, reduceIte, Nat.reduceAdd, xbret, isFr, bx, reduceCtorEq, forall_const, ne_eq]
theorem l2_sp (x : Sz) : Says tr c_pintrinsic_sizer_limits_2 (eSz x) [B true] := by
 refine Says.of (t := pintrinsic_sizer_limits_2) rfl ?_
 rw [u_pintrinsic_sizer_limits_2]
 simp (disch := first | omega | (simp only [ln0]; omega)) only [rs, reduceIte, Nat.reduceAdd]
theorem b2_sp (x : Sz) : Says tr c_pintrinsic_sizer_bases_2 (eSz x) [I (ownB x)] := by
 refine Says.of (t := pintrinsic_sizer_bases_2) rfl ?_
 rw [u_pintrinsic_sizer_bases_2]
 simp (disch := first | omega | (simp only [ln0]; omega)) only [rs, reduceIte, Nat.reduceAdd]
 rfl
theorem l1_sp (x : Sz) : Says tr c_pintrinsic_sizer_limits_1 (eSz x) [I (ownL x)] := by
 refine Says.of (t := pintrinsic_sizer_limits_1) rfl ?_
 rw [u_pintrinsic_sizer_limits_1]
 unfold ownL
 simp (disch := first | omega | (simp only [ln0]; omega)) only [rs, reduceIte, Nat.reduceAdd]
 refine br_split ?_ ?_ <;> intro _ <;> rename_i h <;> simp [h]
theorem clone_sp (s : List Sz) (hs : s.length ≤ 1000000) : Says tr c_slices_Clone___api_Sizing_api_Sizing_ [rowOf eSz s] [rowOf eSz s] := by
 refine Says.of (t := slices_Clone___api_Sizing_api_Sizing_) rfl ?_
 rw [u_slices_Clone___api_Sizing_api_Sizing_]
 rw [run_any]
 have h : ((0 : Int) + (s.length : Int)) ≤ 4294967296 := by omega
 constructor
 · simp (disch := first | omega | (simp only [ln0]; omega)) only [rs, reduceIte, Nat.reduceAdd, h, bx, reduceCtorEq, forall_const, ne_eq]
   refine br_split ?_ ?_ <;> intro _
   · rename_i hx
     have : s = [] := List.length_eq_zero_iff.1 (by omega)
     subst this
     rfl
   · first | rfl | trivial | exact ⟨by omega, rfl⟩
 · simp (disch := first | omega | (simp only [ln0]; omega)) only [rs, reduceIte, Nat.reduceAdd, h, bx, reduceCtorEq, forall_const, ne_eq]
   first | done | rfl | trivial | exact ⟨by omega, rfl⟩
section
variable {ws : List Wn} {s : List Sz} {a : List Int} {f1 f2 : Bool} {g : List Bool}
theorem th1F_ok (ofF : Nat) (of : Sz → Bool) (hof : ∀ x, Says tr ofF (eSz x) [B (of x)]) : ThOk ws s a f1 f2 g (those1F ofF) (fun i => of (atS s i) && isFr (atS s i)) := by
 intro J b ρb r x6 x7 x8 x9 x10 x11 i who hJ hi hl hK
 have h := hof s[i]
 have h4 : ∀ x, (J ++ [x])[4]? = some x := fun x => by rw [List.getElem?_append_right (by omega), hJ]; rfl
 have t4 : ∀ x : JT, (J ++ [x]).take 4 = J := fun x => by rw [List.take_append_of_le_length (by omega), List.take_of_length_le (by omega)]
 have hl2 : (who.length : Int) + 1 ≤ 4294967296 := by omega
 simp only [atS_lt hi, isFr, Bool.and_eq_true, decide_eq_true_eq] at hK
 unfold those1F
 simp (disch := first | omega | (simp only [ln0]; omega)) only [rs, reduceIte, Nat.reduceAdd, hi, sz_at0, sz_at1, sz_at2, sz_at3, sz_at4, sz_at5, sz_at6, sz_snoc, sz_set, sz_put5, sz_put6, xcall_of h, bx, reduceCtorEq, forall_const, ne_eq]
 refine br_split ?_ ?_ <;> intro _
 · rename_i hx
   rw [if_pos hx] at hK
   have e : ints (who.map Int.ofNat ++ [(i : Int)]) = nats (who ++ [i]) := by simp only [nats, List.map_append, List.map_cons, List.map_nil, Int.ofNat_eq_natCast]
   rw [← e] at hK
   simp (disch := first | omega | (simp only [ln0]; omega)) only [rs, reduceIte, Nat.reduceAdd, hl2, h4, t4]
   first | exact hK | exact ⟨by omega, hK⟩
 · rename_i hx
   rw [if_neg hx] at hK
   simp (disch := first | omega | (simp only [ln0]; omega)) only [rs, reduceIte, Nat.reduceAdd, h4, t4]
   exact hK
theorem th2F_ok (ofF ofG : Nat) (of og : Sz → Bool) (hof : ∀ x, Says tr ofF (eSz x) [B (of x)]) (hog : ∀ x, Says tr ofG (eSz x) [B (og x)]) : ThOk ws s a f1 f2 g (those2F ofF ofG) (fun i => (if f2 then of (atS s i) else og (atS s i)) && isFr (atS s i)) := by
 intro J b ρb r x6 x7 x8 x9 x10 x11 i who hJ hi hl hK
 have h := hof s[i]
 have h' := hog s[i]
 have h4 : ∀ x, (J ++ [x])[4]? = some x := fun x => by rw [List.getElem?_append_right (by omega), hJ]; rfl
 have h5 : ∀ x y, (J ++ [x, y])[5]? = some y := fun x y => by rw [List.getElem?_append_right (by omega), hJ]; rfl
 have h5' : ∀ x y, ((J ++ [x]) ++ [y])[5]? = some y := fun x y => by rw [List.append_assoc]; exact h5 x y
 have t4 : ∀ x : JT, (J ++ [x]).take 4 = J := fun x => by rw [List.take_append_of_le_length (by omega), List.take_of_length_le (by omega)]
 have t5 : ∀ x y : JT, (J ++ [x, y]).take 5 = J ++ [x] := fun x y => by rw [show [x, y] = [x] ++ [y] from rfl, ← List.append_assoc, List.take_append_of_le_length (by simp; omega), List.take_of_length_le (by simp; omega)]
 have t5' : ∀ x y : JT, ((J ++ [x]) ++ [y]).take 5 = J ++ [x] := fun x y => by rw [List.append_assoc]; exact t5 x y
 have hl2 : (who.length : Int) + 1 ≤ 4294967296 := by omega
 simp only [atS_lt hi] at hK
 have fin : ∀ c : Bool, c = ((if f2 = true then of s[i] else og s[i]) && isFr s[i]) → Run tr pushJ [rowOf eWn ws, rowOf eSz s, ints a, B f1, B f2, bools g, x6, x7, x8, x9, x10, x11, I i, nats who, B c] (J ++ [.join b ρb]) r := by
  intro c hc
  rw [← hc] at hK
  rw [u_pushJ]
  simp (disch := first | omega | (simp only [ln0]; omega)) only [rs, reduceIte, Nat.reduceAdd]
  refine br_split ?_ ?_ <;> intro _
  · rename_i hx
    rw [if_pos hx] at hK
    have e : ints (who.map Int.ofNat ++ [(i : Int)]) = nats (who ++ [i]) := by simp only [nats, List.map_append, List.map_cons, List.map_nil, Int.ofNat_eq_natCast]
    rw [← e] at hK
    simp (disch := first | omega | (simp only [ln0]; omega)) only [rs, reduceIte, Nat.reduceAdd, hl2, h4, t4]
    first | exact hK | exact ⟨by omega, hK⟩
  · rename_i hx
    rw [if_neg hx] at hK
    simp (disch := first | omega | (simp only [ln0]; omega)) only [rs, reduceIte, Nat.reduceAdd, h4, t4]
    exact hK
 have e5 : (s[i].mx == 5) = isFr s[i] := by simp only [isFr]; by_cases h : s[i].mx = 5 <;> simp [h]
 unfold those2F
 simp (disch := first | omega | (simp only [ln0]; omega)) only [rs, reduceIte, Nat.reduceAdd, hi, sz_at0, sz_at1, sz_at2, sz_at3, sz_at4, sz_at5, sz_at6, sz_snoc, sz_set, sz_put5, sz_put6]
 refine br_split ?_ ?_ <;> intro _
 · rename_i hx
   simp (disch := first | omega | (simp only [ln0]; omega)) only [rs, reduceIte, Nat.reduceAdd, sz_at0, sz_at1, sz_at2, sz_at3, sz_at4, sz_at5, sz_at6, sz_snoc, sz_set, sz_put5, sz_put6, hi, xcall_of h, h5, t5, h5', t5', e5]
   exact fin _ (by rw [if_pos hx])
 · rename_i hx
   simp (disch := first | omega | (simp only [ln0]; omega)) only [rs, reduceIte, Nat.reduceAdd, sz_at0, sz_at1, sz_at2, sz_at3, sz_at4, sz_at5, sz_at6, sz_snoc, sz_set, sz_put5, sz_put6, hi, xcall_of h', h5, t5, h5', t5', e5]
   exact fin _ (by rw [if_neg hx])
theorem outF_run (J : List JT) (hJ : J.length = 5) (b : T) (ρb : List PV) (hj : J[1]? = some (.join b ρb)) {r : List PV} (k : Nat) (out0 : List Int) (x8 x9 x10 x11 x12 : PV) (who : List Nat) (x14 x15 : PV) (l : List Int) (hl : l.length = who.length) (hlen : who.length ≤ 100000)
    (out : List Int) (hw : ∀ i ∈ who, i < out.length)
    (hK : Run tr b (ρb ++ [ints (outU who l out)]) (J.take 1) r) :
    Run tr outFL [rowOf eWn ws, rowOf eSz s, ints a, B f1, B f2, bools g, I k, ints out0, x8, x9, x10, x11, x12, nats who, x14, x15, ints l, I (0 : Nat), ints out] (J ++ [.loop outFL [rowOf eWn ws, rowOf eSz s, ints a, B f1, B f2, bools g, I k, ints out0, x8, x9, x10, x11, x12, nats who, x14, x15, ints l]]) r := by
 have h6 : ∀ x, (J ++ [x])[5]? = some x := fun x => by rw [List.getElem?_append_right (by omega), hJ]; rfl
 have h1 : ∀ x, (J ++ [x])[1]? = some (.join b ρb) := fun x => by rw [List.getElem?_append_left (by omega), hj]
 have t6 : ∀ x, (J ++ [x]).take (5 + 1) = J ++ [x] := fun x => List.take_of_length_le (by simp; omega)
 have t1 : ∀ x : JT, (J ++ [x]).take 1 = J.take 1 := fun x => List.take_append_of_le_length (by omega)
 have key := xup_ind (n := l.length) (P := fun j => ∀ out : List Int, (∀ i ∈ who, i < out.length) → Run tr b (ρb ++ [ints (outU (who.drop j) (l.drop j) out)]) (J.take 1) r → Run tr outFL [rowOf eWn ws, rowOf eSz s, ints a, B f1, B f2, bools g, I k, ints out0, x8, x9, x10, x11, x12, nats who, x14, x15, ints l, I j, ints out] (J ++ [.loop outFL [rowOf eWn ws, rowOf eSz s, ints a, B f1, B f2, bools g, I k, ints out0, x8, x9, x10, x11, x12, nats who, x14, x15, ints l]]) r) ?_ 0 (Nat.zero_le _)
 · exact key out hw (by simpa using hK)
 intro j hj ih out hw hK
 rw [u_outFL]
 by_cases h : j < l.length
 · have hjw : j < who.length := by omega
   rw [List.drop_eq_getElem_cons h, List.drop_eq_getElem_cons hjw] at hK
   simp only [outU] at hK
   have hi := hw _ (List.getElem_mem hjw)
   have hg : out.getD who[j] 0 = out[who[j]] := by simp [hi]
   rw [hg] at hK
   have ih' := ih h _ (fun i hi => by rw [List.length_set]; exact hw i hi) hK
   simp (disch := first | omega | (simp only [ln0]; omega)) only [rs, reduceIte, Nat.reduceAdd, h, hjw, List.getElem_map, Int.ofNat_eq_natCast, hi]
   rw [h6, jmp_loop, t6]
   simp (disch := first | omega | (simp only [ln0]; omega)) only [rs, reduceIte, Nat.reduceAdd]
   exact ih'
 · obtain rfl : j = l.length := by omega
   rw [List.drop_of_length_le (by omega), List.drop_of_length_le (Nat.le_refl _)] at hK
   simp only [outU] at hK
   simp (disch := first | omega | (simp only [ln0]; omega)) only [rs, reduceIte, Nat.reduceAdd, Nat.lt_irrefl]
   rw [h1, jmp_join, t1]
   exact hK
theorem partsS_len (n all : Int) : ∀ (ws : List Int) (was sum : Int), (partsS n all was sum ws).length = ws.length
 | [], _, _ => rfl
 | w :: r, was, sum => by simp [partsS, partsS_len n all r]
theorem byS_length (S : Int) (l : List Int) : (byS S l).length = l.length := by
 unfold byS
 split
 · split
   · rename_i h
     unfold shareS at h ⊢
     split <;> rename_i h1 <;> simp only [h1, if_true, if_false, not_false_eq_true] at h
     · simp at h
     · split <;> rename_i h2 <;> simp only [h2, if_true, if_false, not_false_eq_true] at h
       · simp at h
       · split <;> rename_i h3 <;> simp only [h3, if_true, if_false, not_false_eq_true] at h
         · simp at h
         · exact partsS_len _ _ _ _ _
   · split
     · rename_i h
       unfold splitS at h ⊢
       split <;> rename_i h1 <;> simp only [h1, if_true, if_false, not_false_eq_true] at h
       · simp at h
       · simp
     · simp
 · simp
def shareB (s : List Sz) (space : Int) (who : List Nat) : List Int := byS space (who.map fun i => (atS s i).fr)
theorem fillF_ok : FillOk ws s a f1 f2 g fillTF (shareB s) := by
 intro J b ρb r k out x8 x9 x10 x12 sp who hJ hj hlen hw hws hK
 have h6 : ∀ x, (J ++ [x])[4]? = some x := fun x => by
  rw [List.getElem?_append_right (by omega), hJ]; rfl
 have h1 : ∀ x, (J ++ [x])[1]? = some (.join b ρb) := fun x => by rw [List.getElem?_append_left (by omega), hj]
 have t6 : ∀ x, (J ++ [x]).take (4 + 1) = J ++ [x] := fun x => List.take_of_length_le (by simp; omega)
 have t1 : ∀ x : JT, (J ++ [x]).take 1 = J.take 1 := fun x => List.take_append_of_le_length (by omega)
 have a1 : (who.length : Int) ≤ 17592186044416 := by omega
 unfold fillTF
 simp (disch := first | omega | (simp only [ln0]; omega)) only [rs, reduceIte, Nat.reduceAdd, List.length_map, a1]
 have hr1 : (who.map fun i => (atS s i).fr).length = (List.replicate who.length (0 : Int)).length := by simp
 have hrl : (List.replicate who.length (0 : Int)).length = who.length := by simp
 have key := xup_ind (n := who.length) (P := fun j => Run tr wgtL [rowOf eWn ws, rowOf eSz s, ints a, B f1, B f2, bools g, I k, ints out, x8, x9, x10, I sp, x12, nats who, I j, ints (mix (who.map fun i => (atS s i).fr) (List.replicate who.length 0) j)] (J ++ [.loop wgtL [rowOf eWn ws, rowOf eSz s, ints a, B f1, B f2, bools g, I k, ints out, x8, x9, x10, I sp, x12, nats who]]) r) ?_ 0 (Nat.zero_le _)
 · simpa [mix_zero] using key
 intro j hj ih
 rw [u_wgtL]
 have hm1 : (mix (who.map fun i => (atS s i).fr) (List.replicate who.length (0 : Int)) j).length = who.length := by rw [mix_len hr1 j, hrl]
 by_cases h : j < who.length
 · have hi := hws _ (List.getElem_mem h)
   have ih' := ih h
   have hset1 := mix_set hr1 (i := j) (by omega) (v := s[who[j]].fr) (by simp [atS_lt hi])
   rw [← hset1] at ih'
   simp (disch := first | omega | (simp only [ln0]; omega)) only [rs, reduceIte, Nat.reduceAdd, h, List.getElem_map, Int.ofNat_eq_natCast, hi, sz_at0, sz_at1, sz_at2, sz_at3, sz_at4, sz_at5, sz_at6, sz_snoc, sz_set, sz_put5, sz_put6, hm1]
   rw [h6, jmp_loop, t6]
   simp (disch := first | omega | (simp only [ln0]; omega)) only [rs, reduceIte, Nat.reduceAdd]
   exact ih'
 · obtain rfl : j = who.length := by omega
   simp (disch := first | omega | (simp only [ln0]; omega)) only [rs, reduceIte, Nat.reduceAdd, Nat.lt_irrefl, List.length_map]
   have e1 : mix (who.map fun i => (atS s i).fr) (List.replicate who.length (0 : Int)) who.length = who.map fun i => (atS s i).fr := mix_full' hr1 (by omega)
   rw [e1]
   simp (disch := first | omega | (simp only [ln0]; omega)) only [rs, reduceIte, Nat.reduceAdd, xcall_of (by_sp sp (who.map fun i => (atS s i).fr) (by simp; omega))]
   exact outF_run _ (by simp; omega) b ρb (h1 _) k out x8 x9 x10 (I sp) (x12) who (I who.length) (ints (who.map fun i => (atS s i).fr)) _ (by rw [byS_length]; simp) (by omega) out hw (by rw [t1]; exact hK)
end
end Go.Proofs.Ytbebnjiolaomdaa.T

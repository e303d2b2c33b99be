/- The code's Fill: what is left is parted among those that may get more. No condition beyond what each lemma states. -/
import Derived.Test.YtecccaniopkphaaPAx4
import Derived.Test.YtecccaniopkphaaRgt
import Derived.Test.YtecccaniopkphaaSpl
import Derived.Test.YtecccaniopkphaaAlike
namespace Go.Proofs.Ytecccaniopkphaa.Spread
open Go.RowKit Go.Proofs.Ytecccaniopkphaa.PA Go.Proofs.YtecccaniopkphaaW.PrintWords Go.Proofs.YtecccaniopkphaaW.PrintMore Go.Proofs.Ytecccaniopkphaa.Evs
open Go.Proofs.Ytecccaniopkphaa.Spl (splitS split_ev spl spl_tot)
set_option linter.unusedVariables false
set_option linter.unusedSimpArgs false
theorem rdb_at (l : List Bool) (i : Nat) (h : i < l.length) : rdOf false l (i : Int) = l[i] := by simp [rdOf, List.getD_eq_getElem?_getD, List.getElem?_eq_getElem h]
/-- Who may get more: their places. -/
def idx : List Bool → List Nat
  | [] => []
  | b :: bs => if b = true then 0 :: (idx bs).map (· + 1) else (idx bs).map (· + 1)
theorem idx_append (a : List Bool) (b : Bool) : idx (a ++ [b]) = idx a ++ (if b = true then [a.length] else []) := by
  induction a with
  | nil => cases b <;> rfl
  | cons x a ih =>
    cases x <;> cases b <;> simp [idx, ih]
/-- One more each, to those that may get more. -/
def addp : List Int → List Bool → List Int → List Int
  | o :: os, true :: bs, y :: ys => (o + y) :: addp os bs ys
  | o :: os, true :: bs, [] => o :: addp os bs []
  | o :: os, false :: bs, ys => o :: addp os bs ys
  | os, [], _ => os
  | [], _, _ => []
theorem addp_nil : ∀ (os : List Int) (bs : List Bool), addp os bs [] = os
  | [], [] => rfl
  | [], _ :: _ => rfl
  | _ :: _, [] => rfl
  | o :: os, true :: bs => by simp [addp, addp_nil os bs]
  | o :: os, false :: bs => by simp [addp, addp_nil os bs]
theorem addp_length : ∀ (os : List Int) (bs : List Bool) (ys : List Int), (addp os bs ys).length = os.length
  | [], [], _ => rfl
  | [], _ :: _, _ => by simp [addp]
  | _ :: _, [], _ => rfl
  | o :: os, true :: bs, y :: ys => by simp [addp, addp_length os bs ys]
  | o :: os, true :: bs, [] => by simp [addp, addp_length os bs []]
  | o :: os, false :: bs, ys => by simp [addp, addp_length os bs ys]
theorem addp_step : ∀ (os : List Int) (bs : List Bool) (ys : List Int) (k : Nat) (hl : os.length = bs.length) (hk : k < ys.length) (hw : k < (idx bs).length),
    ∃ h1 : (idx bs)[k] < (addp os bs (ys.take k)).length, ∃ h2 : (idx bs)[k] < os.length, (addp os bs (ys.take k))[(idx bs)[k]] = os[(idx bs)[k]] ∧
      (addp os bs (ys.take k)).set (idx bs)[k] (os[(idx bs)[k]] + ys[k]) = addp os bs (ys.take (k + 1))
  | [], [], ys, k, hl, hk, hw => by simp [idx] at hw
  | o :: os, true :: bs, ys, k, hl, hk, hw => by
    cases ys with
    | nil => simp at hk
    | cons y ys =>
      cases k with
      | zero => simp [idx, addp, addp_nil]
      | succ k =>
        simp only [idx, if_true, List.length_cons, List.length_map] at hw hl hk
        obtain ⟨h1, h2, h3, h4⟩ := addp_step os bs ys k (by simpa using hl) (by omega) (by omega)
        simp only [idx, if_true, List.getElem_cons_succ, List.getElem_map, List.take_succ_cons, addp, List.length_cons, List.set_cons_succ]
        exact ⟨by omega, by omega, h3, by rw [h4]⟩
  | o :: os, false :: bs, ys, k, hl, hk, hw => by
    simp only [idx, Bool.false_eq_true, if_false, List.length_map] at hw
    obtain ⟨h1, h2, h3, h4⟩ := addp_step os bs ys k (by simpa using hl) hk hw
    simp only [idx, Bool.false_eq_true, if_false, List.getElem_cons_succ, List.getElem_map, addp, List.length_cons, List.set_cons_succ]
    exact ⟨by omega, by omega, h3, by rw [h4]⟩
theorem idx_le (bs : List Bool) : (idx bs).length ≤ bs.length := by
  induction bs with
  | nil => simp [idx]
  | cons b bs ih => cases b <;> simp [idx] <;> omega
theorem tot_addp : ∀ (os : List Int) (bs : List Bool) (ys : List Int), os.length = bs.length → ys.length = (idx bs).length → tot (addp os bs ys) = tot os + tot ys
  | [], [], ys, hl, hy => by
    simp only [idx, List.length_nil, List.length_eq_zero_iff] at hy
    subst hy
    simp [addp, tot]
  | o :: os, true :: bs, ys, hl, hy => by
    cases ys with
    | nil => simp [idx] at hy
    | cons y ys =>
      simp only [idx, if_true, List.length_cons, List.length_map] at hy hl
      have := tot_addp os bs ys (by omega) (by omega)
      simp only [addp, tot]
      omega
  | o :: os, false :: bs, ys, hl, hy => by
    simp only [idx, Bool.false_eq_true, if_false, List.length_map, List.length_cons] at hy hl
    have := tot_addp os bs ys (by omega) hy
    simp only [addp, tot]
    omega
theorem addp_in : ∀ (os : List Int) (bs : List Bool) (ys : List Int) (i : Nat) (h : i < (addp os bs ys).length) (h1 : i < os.length) (h2 : i < bs.length), (∀ y ∈ ys, 0 ≤ y) → os[i] ≤ (addp os bs ys)[i] ∧ (bs[i] = false → (addp os bs ys)[i] = os[i])
  | o :: os, true :: bs, y :: ys, i, h, h1, h2, hy => by
    cases i with
    | zero => have := hy y (by simp); simp [addp]; omega
    | succ i => simpa [addp] using addp_in os bs ys i (by simpa [addp] using h) (by simpa using h1) (by simpa using h2) (fun z hz => hy z (by simp [hz]))
  | o :: os, true :: bs, [], i, h, h1, h2, hy => by
    cases i with
    | zero => simp [addp]
    | succ i => simpa [addp] using addp_in os bs [] i (by simpa [addp] using h) (by simpa using h1) (by simpa using h2) hy
  | o :: os, false :: bs, ys, i, h, h1, h2, hy => by
    cases i with
    | zero => simp [addp]
    | succ i => simpa [addp] using addp_in os bs ys i (by simpa [addp] using h) (by simpa using h1) (by simpa using h2) hy
theorem tot_nonneg : ∀ {l : List Int}, (∀ x ∈ l, 0 ≤ x) → 0 ≤ tot l
  | [], _ => by simp [tot]
  | x :: xs, h => by
    have h1 := h x (by simp)
    have h2 := tot_nonneg (l := xs) (fun y hy => h y (by simp [hy]))
    simp only [tot]
    omega
theorem tot_drop {l : List Int} (i : Nat) (h : i < l.length) : tot (l.drop i) = l[i] + tot (l.drop (i + 1)) := by rw [List.drop_eq_getElem_cons h]; rfl
theorem tot_at {l : List Int} (h0 : ∀ x ∈ l, 0 ≤ x) (i : Nat) (h : i < l.length) : l[i] ≤ tot (l.drop i) ∧ 0 ≤ tot (l.drop (i + 1)) := by
  have h2 : 0 ≤ tot (l.drop (i + 1)) := tot_nonneg (fun y hy => h0 y (List.mem_of_mem_drop hy))
  rw [tot_drop i h]
  omega

/-- The parts of what is left. -/
def prt (S : Int) (out : List Int) (bs : List Bool) : List Int := splitS (S - tot out) (idx bs).length
theorem splitS_length (n p : Int) : (splitS n p).length ≤ p.toNat := by
  unfold splitS
  split <;> simp
theorem splitS_in {n p : Int} : ∀ y ∈ splitS n p, 0 ≤ y ∧ y ≤ n + 1 := by
  intro y hy
  unfold splitS at hy
  split at hy
  · simp at hy
  · rename_i h
    obtain ⟨i, hi, rfl⟩ := List.mem_map.mp hy
    have h1 : 0 ≤ n / p := Int.ediv_nonneg (by omega) (by omega)
    have h2 : n / p ≤ n := Int.ediv_le_self p (by omega)
    unfold spl
    split <;> omega
theorem fill_l1 (out : List Int) (bs : List Bool) (ys : List Int) (hl : out.length = bs.length) (hm : bs.length ≤ 65536) (hy : ys.length ≤ (idx bs).length) (ho : ∀ x ∈ out, 0 ≤ x ∧ x ≤ 1125899906842624) (hys : ∀ y ∈ ys, 0 ≤ y ∧ y ≤ 1125899906842625) (d : Nat) :
    ∀ i : Nat, i + d = ys.length → Ev (fun k => spread_Fill.l1 k (addp out bs (ys.take i)) ((idx bs).map Int.ofNat) ys (ys.length : Int) (i : Int)) (addp out bs ys) := by
  have hix := idx_le bs
  induction d with
  | zero =>
    intro i hi
    refine Ev.step (f := fun _ => some _) (fun k => ?_) (Ev.now _)
    simp only [spread_Fill.l1]
    rw [if_neg (by omega), List.take_of_length_le (by omega)]
  | succ d ih =>
    intro i hi
    have ec : ((i : Int) + 1) = ((i + 1 : Nat) : Int) := by simp
    obtain ⟨h1, h2, h3, h4⟩ := addp_step out bs ys i hl (by omega) (by omega)
    have hrw : rd ((idx bs).map Int.ofNat) (i : Int) = (((idx bs)[i]'(by omega) : Nat) : Int) := by
      rw [rd_at _ i (by simp; omega)]; simp
    have hb1 := ho _ (List.getElem_mem h2)
    have hb2 := hys (ys[i]'(by omega)) (List.getElem_mem _)
    refine Ev.step (fun k => ?_) (ih (i + 1) (by omega))
    simp only [spread_Fill.l1]
    rw [if_pos (by omega), if_pos (by omega), if_pos (by omega), if_pos (by simp; omega), hrw, if_pos (by omega), if_pos (by omega), rd_at ys i (by omega), rd_at _ _ h1, h3, wrap_in (_ + _) (by omega) (by omega), Int.toNat_natCast, h4, wrap_in ((i : Int) + 1) (by omega) (by omega), ec]
theorem fill_l0 (S : Int) (out : List Int) (bs : List Bool) (hl : out.length = bs.length) (hm : bs.length ≤ 65536) (hS1 : S < 1125899906842624) (ht : tot out ≤ S) (ho : ∀ x ∈ out, 0 ≤ x ∧ x ≤ 1125899906842624) (d : Nat) :
    ∀ (i : Nat) (s : Int), i + d = out.length → s - tot (out.drop i) = S - tot out → Ev (fun k => spread_Fill.l0 k s bs out ((idx (bs.take i)).map Int.ofNat) out (out.length : Int) (i : Int)) (addp out bs (prt S out bs)) := by
  have hix := idx_le bs
  have h0 : ∀ x ∈ out, 0 ≤ x := fun x hx => (ho x hx).1
  have htn := tot_nonneg h0
  induction d with
  | zero =>
    intro i s hi hs
    rw [List.drop_of_length_le (by omega)] at hs
    simp only [tot, Int.sub_zero] at hs
    subst hs
    rw [List.take_of_length_le (by omega)]
    have hy : (prt S out bs).length ≤ (idx bs).length := by
      have := splitS_length (S - tot out) (idx bs).length
      unfold prt
      omega
    have hlen : ((((idx bs).map Int.ofNat).length : Nat) : Int) = (idx bs).length := by simp
    refine Ev.step (f := fun k => (fixed_Split.f k (S - tot out) ((idx bs).length : Int)).bind fun t => spread_Fill.l1 k out ((idx bs).map Int.ofNat) t (t.length : Int) 0) (fun k => ?_) ?_
    · simp only [spread_Fill.l0]
      rw [if_neg (by omega), hlen]
    · refine Ev.bind (split_ev _ _ (by omega)) ?_
      have := fill_l1 out bs (prt S out bs) hl hm hy ho (fun y hy => by have := splitS_in y hy; omega) (prt S out bs).length 0 (by omega)
      simpa [addp_nil, prt] using this
  | succ d ih =>
    intro i s hi hs
    have ec : ((i : Int) + 1) = ((i + 1 : Nat) : Int) := by simp
    have hta := tot_at h0 i (by omega)
    have htd := tot_drop (l := out) i (by omega)
    have hbd := ho _ (List.getElem_mem (show i < out.length by omega))
    have hsn : 0 ≤ s - tot (out.drop i) := by omega
    have htk : bs.take (i + 1) = bs.take i ++ [bs[i]'(by omega)] := by rw [List.take_succ_eq_append_getElem (by omega)]
    have hlk : (bs.take i).length = i := by simp; omega
    have hub : s ≤ S := by
      have h2 : tot out = tot (out.take i) + tot (out.drop i) := by
        have : ∀ a b : List Int, tot (a ++ b) = tot a + tot b := by
          intro a b
          induction a with
          | nil => simp [tot]
          | cons x a ih => simp only [List.cons_append, tot, ih]; omega
        rw [← this, List.take_append_drop]
      have h3 : 0 ≤ tot (out.take i) := tot_nonneg (fun y hy => h0 y (List.mem_of_mem_take hy))
      omega
    have hcl : (((idx (bs.take i)).map Int.ofNat).length : Nat) ≤ 65536 := by
      have := idx_le (bs.take i)
      simp
      omega
    cases hb : bs[i]'(by omega) with
    | true =>
      have e : (idx (bs.take (i + 1))).map Int.ofNat = (idx (bs.take i)).map Int.ofNat ++ [(i : Int)] := by rw [htk, hb, idx_append, hlk]; simp
      refine Ev.step (fun k => ?_) (ih (i + 1) (s - out[i]) (by omega) (by omega))
      simp only [spread_Fill.l0]
      rw [if_pos (by omega), if_pos (by omega), if_pos (by omega), if_pos (by omega), rdb_at bs i (by omega), hb, if_pos rfl, if_pos (by omega), rd_at out i (by omega), wrap_in (s - out[i]) (by omega) (by omega), wrap_in ((i : Int) + 1) (by omega) (by omega), ec, e]
    | false =>
      have e : (idx (bs.take (i + 1))).map Int.ofNat = (idx (bs.take i)).map Int.ofNat := by rw [htk, hb, idx_append]; simp
      refine Ev.step (fun k => ?_) (ih (i + 1) (s - out[i]) (by omega) (by omega))
      simp only [spread_Fill.l0]
      rw [if_pos (by omega), if_pos (by omega), if_pos (by omega), if_pos (by omega), rdb_at bs i (by omega), hb, if_neg (by decide), rd_at out i (by omega), wrap_in (s - out[i]) (by omega) (by omega), wrap_in ((i : Int) + 1) (by omega) (by omega), ec, e]
theorem isup_bd {S : Int} {room out : List Int} (h : IsUp S room out) (hr : rmB room = true) : ∀ x ∈ out, 0 ≤ x ∧ x ≤ 1125899906842624 := by
  intro x hx
  obtain ⟨i, hi, rfl⟩ := List.mem_iff_getElem.mp hx
  have hr' := (rmB_iff room).mp hr
  have hl := isup_length h
  have := isup_in h (fun r hr => (hr' r hr).1) i (by omega) hi
  have := (hr' room[i] (List.getElem_mem (by omega))).2
  omega
/-- What Fill tells of right arguments. -/
theorem Fill_ev (S : Int) (room out : List Int) (bs : List Bool) (hR : RgP S room.length) (hr : rmB room = true) (hl : bs.length = room.length) (hup : IsUp S room out) : Ev (fun k => spread_Fill.f k S room bs) (addp out bs (prt S out bs)) := by
  have hm : room.length ≤ 65536 := hR.2.2
  obtain ⟨out', hev, h1, h2⟩ := Up_ev S room (by omega)
  obtain rfl := isup_unique (h1 ⟨hR, hr⟩) hup
  have hlo := isup_length hup
  have ho := isup_bd hup hr
  have htl := (isup_tot hup).1
  unfold spread_Fill.f
  refine Ev.bind hev ?_
  rw [right_eq]
  simp only [Option.bind_some, decide_eq_true_eq, hR, if_true]
  refine Ev.bind (rooms_ev room (by omega)) ?_
  have hne : ((bs.length : Int) != (room.length : Int)) = false := by simp [hl]
  rw [hr]
  simp only [if_true, hne]
  refine Ev.step (f := fun k => spread_Fill.l0 k S bs out' ((idx (bs.take 0)).map Int.ofNat) out' (out'.length : Int) ((0 : Nat) : Int)) (fun k => by simp only [spread_Fill.j0, Bool.false_eq_true, if_false]; rfl) ?_
  exact fill_l0 S out' bs (by omega) (by omega) hR.2.1 htl ho out'.length 0 S (by omega) (by simp)
/-- And of others. -/
theorem Fill_no (S : Int) (room : List Int) (bs : List Bool) (hm : room.length ≤ 35184372088832) (h : ¬ (RgP S room.length ∧ rmB room = true ∧ bs.length = room.length)) : Ev (fun k => spread_Fill.f k S room bs) (List.replicate room.length 0) := by
  obtain ⟨out, hev, h1, h2⟩ := Up_ev S room hm
  have hj : Ev (fun k => spread_Fill.j0 k S room bs out true) (List.replicate room.length 0) := Ev.step (f := fun _ => some _) (fun k => by
    simp only [spread_Fill.j0, if_true]
    rw [if_pos (by omega), if_pos (by omega)]
    simp) (Ev.now _)
  unfold spread_Fill.f
  refine Ev.bind hev ?_
  rw [right_eq]
  simp only [Option.bind_some, decide_eq_true_eq]
  by_cases hR : RgP S room.length
  · simp only [hR, if_true]
    refine Ev.bind (rooms_ev room (by omega)) ?_
    by_cases hr : rmB room = true
    · have hne : ((bs.length : Int) != (room.length : Int)) = true := by
        have : ¬ bs.length = room.length := fun hl => h ⟨hR, hr, hl⟩
        simp; omega
      rw [hr]
      simp only [if_true, hne]
      exact hj
    · have : rmB room = false := by simpa using hr
      rw [this]
      simp only [Bool.false_eq_true, if_false]
      exact hj
  · simp only [hR, if_false]
    exact hj
end Go.Proofs.Ytecccaniopkphaa.Spread

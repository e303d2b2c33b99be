/- The document's own Up and Fill: the level by halving; they tell what the code's tell. No condition beyond what each lemma states. -/
import Derived.Test.YtecccaniopkphaaPAx9
import Derived.Test.YtecccaniopkphaaFill
import Derived.Test.YtecccaniopkphaaRShr
namespace Go.Proofs.Ytecccaniopkphaa.Spread
open Go.RowKit Go.Proofs.Ytecccaniopkphaa.PA Go.Proofs.YtecccaniopkphaaW.PrintWords Go.Proofs.YtecccaniopkphaaW.PrintMore Go.Proofs.Ytecccaniopkphaa.Evs
open Go.Proofs.Ytecccaniopkphaa.Spl (splitS)
open Go.Proofs.Ytecccaniopkphaa.Fix (rsplit_ev)
set_option linter.unusedVariables false
set_option linter.unusedSimpArgs false
theorem T_nonneg {L : Int} (hL : 0 ≤ L) : ∀ {rs : List Int}, (∀ r ∈ rs, 0 ≤ r) → 0 ≤ T L rs
  | [], _ => by simp [T]
  | r :: rs, h => by
    have h1 := h r (by simp)
    have h2 := T_nonneg hL (rs := rs) (fun y hy => h y (by simp [hy]))
    simp only [T]
    unfold mn
    split <;> omega
theorem taken_loop (S L : Int) (hS : 0 ≤ S) (hS1 : S < 1125899906842624) (hL : 0 ≤ L) (hL1 : L ≤ 1125899906842625) (room : List Int) (hm : room.length ≤ 65536) (hroom : ∀ r ∈ room, 0 ≤ r ∧ r ≤ 1125899906842624) (d : Nat) :
    ∀ (i : Nat) (n : Int), i + d = room.length → 0 ≤ n → n ≤ S + 1 → Ev (fun k => parterreref23_taken.l0 k S room L n (i : Int)) (mn (S + 1) (n + T L (room.drop i))) := by
  induction d with
  | zero =>
    intro i n hi h0 h1
    refine Ev.step (f := fun _ => some _) (fun k => ?_) (Ev.now _)
    simp only [parterreref23_taken.l0]
    rw [if_neg (by omega), List.drop_of_length_le (by omega)]
    simp only [T, Int.add_zero]
    congr 1
    unfold mn
    split <;> omega
  | succ d ih =>
    intro i n hi h0 h1
    have ec : ((i : Int) + 1) = ((i + 1 : Nat) : Int) := by simp
    have hw : room.drop i = room[i] :: room.drop (i + 1) := List.drop_eq_getElem_cons (by omega)
    have hri := hroom room[i] (List.getElem_mem _)
    have htn : 0 ≤ T L (room.drop (i + 1)) := T_nonneg hL (fun y hy => (hroom y (List.mem_of_mem_drop hy)).1)
    have hb : 0 ≤ mn room[i] L ∧ mn room[i] L ≤ 1125899906842625 := by unfold mn; split <;> omega
    obtain ⟨n', hn'⟩ : ∃ n', mn (S + 1) (n + mn room[i] L) = n' := ⟨_, rfl⟩
    have hn1 : 0 ≤ n' ∧ n' ≤ S + 1 := by rw [← hn']; unfold mn at hb ⊢; (repeat' split) <;> omega
    have e : mn (S + 1) (n + T L (room.drop i)) = mn (S + 1) (n' + T L (room.drop (i + 1))) := by
      rw [hw, ← hn']
      simp only [T]
      generalize mn room[i] L = m at *
      unfold mn
      (repeat' split) <;> omega
    rw [e]
    refine Ev.step (fun k => ?_) (ih (i + 1) n' (by omega) hn1.1 hn1.2)
    simp only [parterreref23_taken.l0]
    rw [if_pos (by omega), if_pos (by omega), rd_at room i (by omega), wrap_in (S + 1) (by omega) (by omega), wrap_in (n + _) (by omega) (by omega), hn', wrap_in ((i : Int) + 1) (by omega) (by omega), ec]
theorem taken_ev (S L : Int) (hS : 0 ≤ S) (hS1 : S < 1125899906842624) (hL : 0 ≤ L) (hL1 : L ≤ 1125899906842625) (room : List Int) (hm : room.length ≤ 65536) (hroom : ∀ r ∈ room, 0 ≤ r ∧ r ≤ 1125899906842624) :
    Ev (fun k => parterreref23_taken.f k S room L) (mn (S + 1) (T L room)) := by
  have := taken_loop S L hS hS1 hL hL1 room hm hroom room.length 0 0 (by omega) (by omega) (by omega)
  simpa [parterreref23_taken.f] using this
theorem rup_l1 (L : Int) (hL : 0 ≤ L) (hL1 : L ≤ 1125899906842624) (room : List Int) (hm : room.length ≤ 65536) (hroom : ∀ r ∈ room, 0 ≤ r ∧ r ≤ 1125899906842624) (d : Nat) :
    ∀ (i : Nat) (t : Int) (done os : List Int), i + d = room.length → done.length = i → os.length = d → 0 ≤ t → t < 1125899906842624 → Ev (fun k => parterreref23_Up.l1 k room (done ++ os) L t (i : Int)) (done ++ lv L t (room.drop i)) := by
  induction d with
  | zero =>
    intro i t done os hi hd ho h0 h1
    have : os = [] := List.length_eq_zero_iff.mp ho
    subst this
    refine Ev.step (f := fun _ => some _) (fun k => ?_) (Ev.now _)
    simp only [parterreref23_Up.l1]
    rw [if_neg (by omega), List.drop_of_length_le (by omega)]
    simp [lv]
  | succ d ih =>
    intro i t done os hi hd ho h0 h1
    obtain ⟨o, os, rfl⟩ : ∃ o os', os = o :: os' := by cases os with
      | nil => simp at ho
      | cons o os => exact ⟨o, os, rfl⟩
    have ec : ((i : Int) + 1) = ((i + 1 : Nat) : Int) := by simp
    have hw : room.drop i = room[i] :: room.drop (i + 1) := List.drop_eq_getElem_cons (by omega)
    have hri := hroom room[i] (List.getElem_mem _)
    have hset : ∀ u v : Int, (done ++ u :: os).set i v = (done ++ [v]) ++ os := by
      intro u v
      rw [List.set_append_right _ _ (by omega), hd]
      simp
    have hrd : ∀ v : Int, rd ((done ++ [v]) ++ os) (i : Int) = v := by
      intro v
      rw [rd_at _ i (by simp; omega)]
      simp [List.getElem_append_left, hd]
    have hset2 : ∀ u v : Int, ((done ++ [u]) ++ os).set i v = (done ++ [v]) ++ os := by
      intro u v
      have := hset u v
      simpa using this
    have hstep : ∀ k, parterreref23_Up.l1 (k + 1) room (done ++ o :: os) L t (i : Int) = if room[i] > L then (if t > 0 then parterreref23_Up.l1 k room ((done ++ [L + 1]) ++ os) L (t - 1) ((i + 1 : Nat) : Int) else parterreref23_Up.l1 k room ((done ++ [mn room[i] L]) ++ os) L t ((i + 1 : Nat) : Int)) else parterreref23_Up.l1 k room ((done ++ [mn room[i] L]) ++ os) L t ((i + 1 : Nat) : Int) := by
      intro k
      simp only [parterreref23_Up.l1]
      rw [if_pos (by omega), if_pos (by omega), if_pos (by simp; omega), rd_at room i (by omega)]
      simp only [Option.bind_some, Int.toNat_natCast, hset, hset2, hrd]
      rw [wrap_in ((i : Int) + 1) (by omega) (by omega), ec]
      by_cases hg : room[i] > L
      · have em : mn room[i] L = L := by unfold mn; split <;> omega
        rw [if_pos hg, if_pos hg]
        by_cases ht : t > 0
        · rw [if_pos ht, if_pos ht, em, wrap_in (L + 1) (by omega) (by omega), wrap_in (t - 1) (by omega) (by omega)]
        · rw [if_neg ht, if_neg ht]
      · rw [if_neg hg, if_neg hg]
    refine Ev.step hstep ?_
    rw [hw]
    simp only [lv]
    have hfin : ∀ (v : Int) (rest : List Int), done ++ v :: rest = (done ++ [v]) ++ rest := by intro v rest; simp
    by_cases hg : room[i] > L
    · have em : mn room[i] L = L := by unfold mn; split <;> omega
      simp only [hg, if_true, show L < room[i] from hg, em]
      by_cases ht : t > 0
      · simp only [ht, if_true, show 0 < t from ht]
        rw [hfin (L + 1) (lv L (t - 1) (room.drop (i + 1)))]
        exact ih (i + 1) (t - 1) (done ++ [L + 1]) os (by omega) (by simp; omega) (by simpa using ho) (by omega) (by omega)
      · simp only [ht, if_false, show ¬ 0 < t from ht]
        rw [hfin L (lv L t (room.drop (i + 1)))]
        exact ih (i + 1) t (done ++ [L]) os (by omega) (by simp; omega) (by simpa using ho) (by omega) (by omega)
    · have em : mn room[i] L = room[i] := by unfold mn; split <;> omega
      simp only [hg, if_false, show ¬ L < room[i] from hg, em]
      rw [hfin room[i] (lv L t (room.drop (i + 1)))]
      exact ih (i + 1) t (done ++ [room[i]]) os (by omega) (by simp; omega) (by simpa using ho) (by omega) (by omega)
theorem rup_l0 (S : Int) (hS : 0 ≤ S) (hS1 : S < 1125899906842624) (room : List Int) (hm : room.length ≤ 65536) (hroom : ∀ r ∈ room, 0 ≤ r ∧ r ≤ 1125899906842624) (os : List Int) (hos : os.length = room.length) (n : Nat) :
    ∀ (low high : Int), 0 ≤ low → low < high → high ≤ 1125899906842625 → high - low ≤ n + 1 → T low room ≤ S → (high = 1125899906842625 ∨ S < T high room) → ∃ out, Ev (fun k => parterreref23_Up.l0 k S room os low high) out ∧ IsUp S room out := by
  have hfin : ∀ (low high : Int), 0 ≤ low → high = low + 1 → high ≤ 1125899906842625 → T low room ≤ S → (high = 1125899906842625 ∨ S < T high room) → ∃ out, Ev (fun k => parterreref23_Up.l0 k S room os low high) out ∧ IsUp S room out := by
    intro low high h0 h1 h2 hT hH
    have htn : 0 ≤ T low room := T_nonneg h0 (fun y hy => (hroom y hy).1)
    have ht := taken_ev S low hS hS1 h0 (by omega) room hm hroom
    have em : mn (S + 1) (T low room) = T low room := by unfold mn; split <;> omega
    rw [em] at ht
    refine ⟨lv low (S - T low room) room, ?_, low, S - T low room, h0, by omega, by omega, ?_, rfl⟩
    · refine Ev.step (f := fun k => (parterreref23_taken.f k S room low).bind fun t218 => (parterreref23_Up.l1 k room os low (wrap64 (S - t218)) 0)) (fun k => ?_) ?_
      · simp only [parterreref23_Up.l0]
        rw [wrap_in (high - low) (by omega) (by omega), if_neg (by omega)]
      · refine Ev.bind ht ?_
        rw [wrap_in (S - T low room) (by omega) (by omega)]
        have := rup_l1 low h0 (by omega) room hm hroom room.length 0 (S - T low room) [] os (by omega) rfl hos (by omega) (by omega)
        simpa using this
    · rcases hH with hH | hH
      · right
        intro r hr
        have := hroom r hr
        omega
      · left
        rw [h1, T_step] at hH
        omega
  induction n with
  | zero =>
    intro low high h0 h1 h2 hn hT hH
    exact hfin low high h0 (by omega) h2 hT hH
  | succ n ih =>
    intro low high h0 h1 h2 hn hT hH
    by_cases hone : high = low + 1
    · exact hfin low high h0 hone h2 hT hH
    obtain ⟨mid, hmid⟩ : ∃ mid, (low + high) / 2 = mid := ⟨_, rfl⟩
    have hml : low < mid ∧ mid < high := by omega
    have ht := taken_ev S mid hS hS1 (by omega) (by omega) room hm hroom
    have ew : wrap64 (Int.tdiv (wrap64 (low + high)) 2) = mid := by
      rw [wrap_in (low + high) (by omega) (by omega), Int.tdiv_eq_ediv_of_nonneg (by omega), hmid]
      exact wrap_in _ (by omega) (by omega)
    have hgo : ∀ out, Ev (fun k => if mn (S + 1) (T mid room) ≤ S then parterreref23_Up.l0 k S room os mid high else parterreref23_Up.l0 k S room os low mid) out → Ev (fun k => parterreref23_Up.l0 k S room os low high) out := by
      intro out h
      refine Ev.step (f := fun k => (parterreref23_taken.f k S room mid).bind fun t217 => (if t217 ≤ S then (parterreref23_Up.l0 k S room os mid high) else (parterreref23_Up.l0 k S room os low mid))) (fun k => ?_) (Ev.bind ht h)
      simp only [parterreref23_Up.l0]
      rw [wrap_in (high - low) (by omega) (by omega), if_pos (by omega), ew]
    by_cases hle : T mid room ≤ S
    · obtain ⟨out, h3, h4⟩ := ih mid high (by omega) (by omega) h2 (by omega) hle hH
      refine ⟨out, hgo out ?_, h4⟩
      have : mn (S + 1) (T mid room) ≤ S := by unfold mn; split <;> omega
      simp only [this, if_true]
      exact h3
    · obtain ⟨out, h3, h4⟩ := ih low mid h0 (by omega) (by omega) (by omega) hT (Or.inr (by omega))
      refine ⟨out, hgo out ?_, h4⟩
      have : ¬ mn (S + 1) (T mid room) ≤ S := by unfold mn; split <;> omega
      simp only [this, if_false]
      exact h3
theorem T_zero {rs : List Int} (h : ∀ r ∈ rs, 0 ≤ r) : T 0 rs = 0 := by
  induction rs with
  | nil => rfl
  | cons r rs ih =>
    have := h r (by simp)
    simp only [T, ih (fun x hx => h x (by simp [hx]))]
    unfold mn
    split <;> omega
/-- The document's Up. -/
theorem RUp_ev (S : Int) (room : List Int) (hm : room.length ≤ 35184372088832) : (RgP S room.length ∧ rmB room = true → ∃ out, Ev (fun k => parterreref23_Up.f k S room) out ∧ IsUp S room out) ∧ (¬ (RgP S room.length ∧ rmB room = true) → Ev (fun k => parterreref23_Up.f k S room) (List.replicate room.length 0)) := by
  have hf : ∀ k, parterreref23_Up.f k S room = (parterreref23_Right.f k S room).bind fun t216 => (if t216 = true then (parterreref23_Up.l0 k S room (List.replicate room.length 0) 0 1125899906842625) else (some (List.replicate room.length 0))) := by
    intro k
    unfold parterreref23_Up.f
    rw [if_pos (by omega), if_pos (by omega)]
    simp
  have hr := rright_ev S room (by omega)
  constructor
  · intro ⟨h1, h2⟩
    have hroom := (rmB_iff room).mp h2
    obtain ⟨out, h3, h4⟩ := rup_l0 S h1.1 h1.2.1 room h1.2.2 hroom (List.replicate room.length 0) (by simp) 1125899906842625 0 1125899906842625 (by omega) (by omega) (by omega) (by omega) (by rw [T_zero (fun r hr => (hroom r hr).1)]; exact h1.1) (Or.inl rfl)
    refine ⟨out, Ev.congr hf (Ev.bind hr ?_), h4⟩
    have : (decide (RgP S room.length) && rmB room) = true := by simp [h1, h2]
    rw [this]
    simp only [if_true]
    exact h3
  · intro h
    refine Ev.congr hf (Ev.bind hr ?_)
    have : (decide (RgP S room.length) && rmB room) = false := by
      cases hb : (decide (RgP S room.length) && rmB room) with
      | false => rfl
      | true => exact absurd (right_both hb) h
    rw [this]
    exact Ev.now _
theorem rfill_l1 (bs : List Bool) (ys : List Int) (out : List Int) (hl : out.length = bs.length) (hm : bs.length ≤ 65536) (ho : ∀ x ∈ out, 0 ≤ x ∧ x ≤ 1125899906842624) (hys : ∀ y ∈ ys, 0 ≤ y ∧ y ≤ 1125899906842625) (hyl : ys.length ≤ 65536) (d : Nat) :
    ∀ (i kk : Nat) (done os : List Int), i + d = out.length → done.length = i → os = out.drop i → kk ≤ ys.length → Ev (fun k => parterreref23_Fill.l1 k bs (done ++ os) ys (kk : Int) (i : Int)) (done ++ addp os (bs.drop i) (ys.drop kk)) := by
  induction d with
  | zero =>
    intro i kk done os hi hd ho' hk
    rw [List.drop_of_length_le (by omega)] at ho'
    subst ho'
    refine Ev.step (f := fun _ => some _) (fun k => ?_) (Ev.now _)
    have : addp [] (bs.drop i) (ys.drop kk) = [] := by
      rw [List.drop_of_length_le (l := bs) (by omega)]
      simp [addp]
    rw [this]
    simp only [parterreref23_Fill.l1]
    rw [if_neg (by simp; omega)]
  | succ d ih =>
    intro i kk done os hi hd ho' hk
    have ec : ((i : Int) + 1) = ((i + 1 : Nat) : Int) := by simp
    have eck : ((kk : Int) + 1) = ((kk + 1 : Nat) : Int) := by simp
    have hw : out.drop i = out[i] :: out.drop (i + 1) := List.drop_eq_getElem_cons (by omega)
    have hwb : bs.drop i = bs[i]'(by omega) :: bs.drop (i + 1) := List.drop_eq_getElem_cons (by omega)
    have hoi := ho out[i] (List.getElem_mem _)
    subst ho'
    rw [hw, hwb]
    have hlen : ((done ++ out[i] :: out.drop (i + 1)).length : Int) = out.length := by simp; omega
    have hset : ∀ (u v : Int) (rest : List Int), (done ++ u :: rest).set i v = (done ++ [v]) ++ rest := by
      intro u v rest
      rw [List.set_append_right _ _ (by omega), hd]
      simp
    have hrd : ∀ (u : Int) (rest : List Int), rd (done ++ u :: rest) (i : Int) = u := by
      intro u rest
      rw [rd_at _ i (by simp; omega)]
      simp [List.getElem_append_right, hd]
    have hfin : ∀ (v : Int) (rest : List Int), done ++ v :: rest = (done ++ [v]) ++ rest := by intro v rest; simp
    cases hb : bs[i]'(by omega) with
    | false =>
      simp only [addp]
      rw [hfin out[i] (addp (out.drop (i + 1)) (bs.drop (i + 1)) (ys.drop kk))]
      refine Ev.step (fun k => ?_) (ih (i + 1) kk (done ++ [out[i]]) (out.drop (i + 1)) (by omega) (by simp; omega) rfl hk)
      simp only [parterreref23_Fill.l1]
      rw [if_pos (by omega), if_pos (by omega), if_pos (by omega), rdb_at bs i (by omega), hb, if_neg (by decide), wrap_in ((i : Int) + 1) (by omega) (by omega), ec, hfin out[i] (out.drop (i + 1))]
    | true =>
      by_cases hkk : kk < ys.length
      · have hy : ys.drop kk = ys[kk] :: ys.drop (kk + 1) := List.drop_eq_getElem_cons hkk
        have hyk := hys ys[kk] (List.getElem_mem _)
        rw [hy]
        simp only [addp]
        rw [hfin (out[i] + ys[kk])]
        refine Ev.step (fun k => ?_) (ih (i + 1) (kk + 1) (done ++ [out[i] + ys[kk]]) (out.drop (i + 1)) (by omega) (by simp; omega) rfl (by omega))
        simp only [parterreref23_Fill.l1]
        rw [if_pos (by omega), if_pos (by omega), if_pos (by omega), rdb_at bs i (by omega), hb, if_pos rfl, if_pos (by omega), if_pos (by omega), hrd, rd_at ys kk hkk, wrap_in (out[i] + ys[kk]) (by omega) (by omega), Int.toNat_natCast, hset, wrap_in ((i : Int) + 1) (by omega) (by omega), ec, wrap_in ((kk : Int) + 1) (by omega) (by omega), eck]
      · have hy : ys.drop kk = [] := List.drop_of_length_le (by omega)
        have hn := ih (i + 1) kk (done ++ [out[i]]) (out.drop (i + 1)) (by omega) (by simp; omega) rfl hk
        rw [hy] at hn ⊢
        simp only [addp]
        rw [hfin out[i] (addp (out.drop (i + 1)) (bs.drop (i + 1)) [])]
        refine Ev.step (fun k => ?_) hn
        simp only [parterreref23_Fill.l1]
        rw [if_pos (by omega), if_pos (by omega), if_pos (by omega), rdb_at bs i (by omega), hb, if_pos rfl, if_neg (by omega), wrap_in ((i : Int) + 1) (by omega) (by omega), ec, hfin out[i] (out.drop (i + 1))]
theorem rfill_l0 (S : Int) (out : List Int) (bs : List Bool) (hl : out.length = bs.length) (hm : bs.length ≤ 65536) (hS1 : S < 1125899906842624) (ht : tot out ≤ S) (ho : ∀ x ∈ out, 0 ≤ x ∧ x ≤ 1125899906842624) (d : Nat) :
    ∀ (i : Nat) (s : Int), i + d = out.length → s - tot (out.drop i) = S - tot out → Ev (fun k => parterreref23_Fill.l0 k bs out s ((idx (bs.take i)).length : Int) (i : Int)) (addp out bs (prt S out bs)) := by
  have hix := idx_le bs
  have h0 : ∀ x ∈ out, 0 ≤ x := fun x hx => (ho x hx).1
  have htn := tot_nonneg h0
  induction d with
  | zero =>
    intro i s hi hs
    rw [List.drop_of_length_le (by omega)] at hs
    simp only [tot, Int.sub_zero] at hs
    subst hs
    rw [List.take_of_length_le (by omega)]
    have hy : (prt S out bs).length ≤ (idx bs).length := by
      have := splitS_length (S - tot out) (idx bs).length
      unfold prt
      omega
    refine Ev.step (f := fun k => (parterreref01_Split.f k (S - tot out) ((idx bs).length : Int)).bind fun t => parterreref23_Fill.l1 k bs out t 0 0) (fun k => ?_) ?_
    · simp only [parterreref23_Fill.l0]
      rw [if_neg (by omega)]
    · refine Ev.bind (rsplit_ev _ _ (by omega)) ?_
      have := rfill_l1 bs (prt S out bs) out hl hm ho (fun y hy => by have := splitS_in y hy; omega) (by omega) out.length 0 0 [] out (by omega) rfl (by simp) (by omega)
      simpa [prt] using this
  | succ d ih =>
    intro i s hi hs
    have ec : ((i : Int) + 1) = ((i + 1 : Nat) : Int) := by simp
    have hta := tot_at h0 i (by omega)
    have htd := tot_drop (l := out) i (by omega)
    have hbd := ho _ (List.getElem_mem (show i < out.length by omega))
    have htk : bs.take (i + 1) = bs.take i ++ [bs[i]'(by omega)] := by rw [List.take_succ_eq_append_getElem (by omega)]
    have hlk : (bs.take i).length = i := by simp; omega
    have hub : s ≤ S := by
      have h2 : tot out = tot (out.take i) + tot (out.drop i) := by
        have : ∀ a b : List Int, tot (a ++ b) = tot a + tot b := by
          intro a b
          induction a with
          | nil => simp [tot]
          | cons x a ih => simp only [List.cons_append, tot, ih]; omega
        rw [← this, List.take_append_drop]
      have h3 : 0 ≤ tot (out.take i) := tot_nonneg (fun y hy => h0 y (List.mem_of_mem_take hy))
      omega
    have hcl : (idx (bs.take i)).length ≤ 65536 := by
      have := idx_le (bs.take i)
      omega
    have e : ((idx (bs.take (i + 1))).length : Int) = (idx (bs.take i)).length + (if bs[i]'(by omega) = true then 1 else 0) := by
      rw [htk, idx_append]
      cases bs[i]'(by omega) <;> simp
    refine Ev.step (fun k => ?_) (ih (i + 1) (s - out[i]) (by omega) (by omega))
    simp only [parterreref23_Fill.l0]
    rw [if_pos (by omega), if_pos (by omega), if_pos (by omega), rdb_at bs i (by omega), rd_at out i (by omega), wrap_in (s - out[i]) (by omega) (by omega), wrap_in ((i : Int) + 1) (by omega) (by omega), ec, wrap_in (((idx (bs.take i)).length : Int) + 1) (by omega) (by omega), e]
    cases bs[i]'(by omega) <;> simp
theorem RFill_ev (S : Int) (room out : List Int) (bs : List Bool) (hR : RgP S room.length) (hr : rmB room = true) (hl : bs.length = room.length) (hup : IsUp S room out) : Ev (fun k => parterreref23_Fill.f k S room bs) (addp out bs (prt S out bs)) := by
  have hm : room.length ≤ 65536 := hR.2.2
  obtain ⟨out', hev, h1⟩ := (RUp_ev S room (by omega)).1 ⟨hR, hr⟩
  obtain rfl := isup_unique h1 hup
  have hlo := isup_length hup
  have ho := isup_bd hup hr
  have htl := (isup_tot hup).1
  have hne : ((bs.length : Int) != (room.length : Int)) = false := by simp [hl]
  have hf : ∀ k, parterreref23_Fill.f k S room bs = (parterreref23_Right.f k S room).bind fun t233 => (if t233 = true then (parterreref23_Fill.j0 k S room bs (List.replicate room.length 0) false) else (parterreref23_Fill.j0 k S room bs (List.replicate room.length 0) true)) := by
    intro k
    unfold parterreref23_Fill.f
    rw [if_pos (by omega), if_pos (by omega), hne]
    simp
  refine Ev.congr hf (Ev.bind (rright_ev S room (by omega)) ?_)
  have : (decide (RgP S room.length) && rmB room) = true := by simp [hR, hr]
  rw [this]
  simp only [if_true]
  refine Ev.step (f := fun k => (parterreref23_Up.f k S room).bind fun t234 => (parterreref23_Fill.l0 k bs t234 S 0 0)) (fun k => by simp only [parterreref23_Fill.j0, Bool.false_eq_true, if_false]) ?_
  refine Ev.bind hev ?_
  exact rfill_l0 S out' bs (by omega) (by omega) hR.2.1 htl ho out'.length 0 S (by omega) (by simp)
theorem RFill_no (S : Int) (room : List Int) (bs : List Bool) (hm : room.length ≤ 35184372088832) (h : ¬ (RgP S room.length ∧ rmB room = true ∧ bs.length = room.length)) : Ev (fun k => parterreref23_Fill.f k S room bs) (List.replicate room.length 0) := by
  have hj : Ev (fun k => parterreref23_Fill.j0 k S room bs (List.replicate room.length 0) true) (List.replicate room.length 0) := Ev.step (f := fun _ => some _) (fun k => by simp only [parterreref23_Fill.j0, if_true]) (Ev.now _)
  have hf : ∀ k, parterreref23_Fill.f k S room bs = (parterreref23_Right.f k S room).bind fun t233 => (if t233 = true then (parterreref23_Fill.j0 k S room bs (List.replicate room.length 0) ((bs.length : Int) != (room.length : Int))) else (parterreref23_Fill.j0 k S room bs (List.replicate room.length 0) true)) := by
    intro k
    unfold parterreref23_Fill.f
    rw [if_pos (by omega), if_pos (by omega)]
    simp
  refine Ev.congr hf (Ev.bind (rright_ev S room (by omega)) ?_)
  cases hb : (decide (RgP S room.length) && rmB room) with
  | false => exact hj
  | true =>
    obtain ⟨h1, h2⟩ := right_both hb
    have hne : ((bs.length : Int) != (room.length : Int)) = true := by
      have : ¬ bs.length = room.length := fun hl => h ⟨h1, h2, hl⟩
      simp; omega
    rw [hne]
    exact hj
end Go.Proofs.Ytecccaniopkphaa.Spread

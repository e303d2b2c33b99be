/- What the printed functions of the package spread compute, in plain words: room is given up to a level, and one more to the first that are open. No condition beyond what each lemma states. -/
import Derived.Test.YtecccaniopkphaaPAx3
import Derived.Test.YtecccaniopkphaaEv
namespace Go.Proofs.Ytecccaniopkphaa.Spread
open Go.RowKit Go.Proofs.Ytecccaniopkphaa.PA Go.Proofs.YtecccaniopkphaaW.PrintWords Go.Proofs.YtecccaniopkphaaW.PrintMore Go.Proofs.Ytecccaniopkphaa.Evs
set_option linter.unusedVariables false
set_option linter.unusedSimpArgs false

theorem rd_at (l : List Int) (i : Nat) (h : i < l.length) : rd l (i : Int) = l[i] := by simp [rd, List.getD_eq_getElem?_getD, List.getElem?_eq_getElem h]
theorem mn_le (a b : Int) : mn a b ≤ a ∧ mn a b ≤ b ∧ (mn a b = a ∨ mn a b = b) := by unfold mn; split <;> omega
theorem mx_ge (a b : Int) : a ≤ mx a b ∧ b ≤ mx a b ∧ (mx a b = a ∨ mx a b = b) := by unfold mx; split <;> omega
/-- What all have up to a level. -/
def T (L : Int) : List Int → Int
  | [] => 0
  | r :: rs => mn r L + T L rs
/-- How many are above a level. -/
def op (L : Int) : List Int → Int
  | [] => 0
  | r :: rs => (if L < r then 1 else 0) + op L rs
/-- Up to a level, and one more to the first t that are above it. -/
def lv (L : Int) : Int → List Int → List Int
  | _, [] => []
  | t, r :: rs => if L < r then (if 0 < t then (L + 1) :: lv L (t - 1) rs else L :: lv L t rs) else r :: lv L t rs
theorem lv_zero (L : Int) (rs : List Int) : lv L 0 rs = rs.map (fun r => mn r L) := by
  induction rs with
  | nil => rfl
  | cons r rs ih =>
    simp only [lv, List.map_cons, ih]
    unfold mn
    split <;> simp
theorem op_nonneg (L : Int) (rs : List Int) : 0 ≤ op L rs ∧ op L rs ≤ rs.length := by
  induction rs with
  | nil => simp [op]
  | cons r rs ih => simp only [op, List.length_cons]; split <;> omega
theorem op_zero {L : Int} : ∀ {rs : List Int}, op L rs = 0 → ∀ r ∈ rs, r ≤ L
  | [], _, r, h => by simp at h
  | x :: rs, h, r, hr => by
    have := op_nonneg L rs
    simp only [op] at h
    rcases List.mem_cons.mp hr with rfl | hr
    · split at h <;> omega
    · exact op_zero (by split at h <;> omega) r hr
theorem lv_all {L : Int} (t : Int) : ∀ {rs : List Int}, (∀ r ∈ rs, r ≤ L) → lv L t rs = rs
  | [], _ => rfl
  | r :: rs, h => by
    have h1 := h r (by simp)
    simp only [lv]
    rw [if_neg (by omega), lv_all t (fun x hx => h x (by simp [hx]))]
theorem lv_length (L : Int) (rs : List Int) : ∀ t, (lv L t rs).length = rs.length := by
  induction rs with
  | nil => intro t; rfl
  | cons r rs ih => intro t; simp only [lv]; split <;> (try split) <;> simp [ih]
/-- What is given, in one round. -/
def gv (e : Int) : Int → List Int → List Int → List Int × Int
  | left, r :: rs, o :: os => if mn (mx e 1) (r - o) = 0 then (o :: (gv e left rs os).1, (gv e left rs os).2) else if left < mn (mx e 1) (r - o) then (o :: os, left) else ((o + mn (mx e 1) (r - o)) :: (gv e (left - mn (mx e 1) (r - o)) rs os).1, (gv e (left - mn (mx e 1) (r - o)) rs os).2)
  | left, _, os => (os, left)
theorem gv_length (e : Int) (rs : List Int) : ∀ (left : Int) (os : List Int), (gv e left rs os).1.length = os.length := by
  induction rs with
  | nil => intro left os; simp [gv]
  | cons r rs ih =>
    intro left os
    cases os with
    | nil => simp [gv]
    | cons o os => simp only [gv]; split <;> (try split) <;> simp [ih]
/-- A round that gives each at least one. -/
theorem gv_each (e L : Int) (he : 1 ≤ e) (hL : 0 ≤ L) (rs : List Int) : ∀ left : Int, (∀ r ∈ rs, 0 ≤ r) → e * op L rs ≤ left →
    gv e left rs (rs.map fun r => mn r L) = (rs.map (fun r => mn r (L + e)), left - (T (L + e) rs - T L rs)) ∧ T (L + e) rs - T L rs ≤ e * op L rs ∧ op L rs ≤ T (L + e) rs - T L rs := by
  induction rs with
  | nil => intro left _ _; simp [gv, T, op]
  | cons r rs ih =>
    intro left h0 hl
    have hr := h0 r (by simp)
    have hop := op_nonneg L rs
    have hee : 0 ≤ e * op L rs := Int.mul_nonneg (by omega) hop.1
    simp only [op] at hl
    simp only [List.map_cons, gv, T, op]
    by_cases hlt : L < r
    · rw [if_pos hlt] at hl ⊢
      rw [Int.mul_add, Int.mul_one] at hl
      rw [Int.mul_add, Int.mul_one]
      have e1 : mn r L = L := by unfold mn; split <;> omega
      have hm : mn (mx e 1) (r - L) = mn r (L + e) - L := by unfold mx mn; (repeat' split) <;> omega
      have hm1 : 1 ≤ mn r (L + e) - L ∧ mn r (L + e) - L ≤ e := by unfold mn; split <;> omega
      obtain ⟨i1, i2, i3⟩ := ih (left - (mn r (L + e) - L)) (fun x hx => h0 x (by simp [hx])) (by omega)
      rw [e1, hm, if_neg (by omega), if_neg (by omega), i1]
      refine ⟨?_, by omega, by omega⟩
      refine Prod.ext ?_ ?_
      · show (L + (mn r (L + e) - L)) :: _ = _
        congr 1
        omega
      · show left - (mn r (L + e) - L) - _ = _
        omega
    · rw [if_neg hlt] at hl ⊢
      rw [Int.zero_add] at hl ⊢
      have e1 : mn r L = r := by unfold mn; split <;> omega
      have e2 : mn r (L + e) = r := by unfold mn; split <;> omega
      have hm : mn (mx e 1) (r - r) = 0 := by unfold mx mn; (repeat' split) <;> omega
      obtain ⟨i1, i2, i3⟩ := ih left (fun x hx => h0 x (by simp [hx])) hl
      rw [e1, hm, if_pos rfl, i1, e2]
      refine ⟨?_, by omega, by omega⟩
      refine Prod.ext rfl ?_
      show left - _ = _
      omega
/-- A round that gives one to the first. -/
theorem gv_one (L : Int) (rs : List Int) : ∀ left : Int, 0 ≤ left → left < op L rs → gv 0 left rs (rs.map fun r => mn r L) = (lv L left rs, 0) := by
  induction rs with
  | nil => intro left h0 h1; simp [op] at h1; omega
  | cons r rs ih =>
    intro left h0 h1
    simp only [op] at h1
    simp only [List.map_cons, gv, lv]
    by_cases hlt : L < r
    · have e1 : mn r L = L := by unfold mn; split <;> omega
      have hm : mn (mx 0 1) (r - L) = 1 := by unfold mx mn; (repeat' split) <;> omega
      rw [if_pos hlt] at h1 ⊢
      rw [e1, hm, if_neg (by omega)]
      by_cases hz : left = 0
      · subst hz
        rw [if_pos (by omega), if_neg (by omega), lv_zero]
      · rw [if_neg (by omega), if_pos (by omega), ih (left - 1) (by omega) (by omega)]
    · have e1 : mn r L = r := by unfold mn; split <;> omega
      have hm : mn (mx 0 1) (r - r) = 0 := by unfold mx mn; (repeat' split) <;> omega
      rw [if_neg hlt] at h1 ⊢
      rw [e1, hm, if_pos rfl, ih left h0 (by omega)]

/-! ### The code's rounds -/
/-- How many have room. -/
def cnt : List Int → List Int → Int
  | r :: rs, o :: os => (if o < r then 1 else 0) + cnt rs os
  | _, _ => 0
theorem cnt_map (L : Int) (rs : List Int) : cnt rs (rs.map fun r => mn r L) = op L rs := by
  induction rs with
  | nil => rfl
  | cons r rs ih =>
    simp only [List.map_cons, cnt, op, ih]
    have : mn r L < r ↔ L < r := by unfold mn; split <;> omega
    simp only [this]
theorem cnt_in (rs : List Int) : ∀ os : List Int, 0 ≤ cnt rs os ∧ cnt rs os ≤ rs.length := by
  induction rs with
  | nil => intro os; simp [cnt]
  | cons r rs ih =>
    intro os
    cases os with
    | nil => simp [cnt]; omega
    | cons o os => have := ih os; simp only [cnt, List.length_cons]; split <;> omega
theorem count_loop (S : Int) (room out : List Int) (hlen : out.length = room.length) (hm : room.length ≤ 65536) (R : List Int)
    (hc : Ev (fun k => if cnt room out = 0 then some out else spread_Up.l2 k (wrap64 (Int.tdiv S (cnt room out))) S (room.length : Int) 0 room out) R) (d : Nat) :
    ∀ (i : Nat) (c : Int), i + d = room.length → 0 ≤ c → c + cnt (room.drop i) (out.drop i) = cnt room out → Ev (fun k => spread_Up.l1 k c (room.length : Int) (i : Int) S room out) R := by
  have hcr := cnt_in room out
  induction d with
  | zero =>
    intro i c hi h0 h
    rw [List.drop_of_length_le (by omega), List.drop_of_length_le (by omega)] at h
    simp only [cnt, Int.add_zero] at h
    refine Ev.step (fun k => ?_) hc
    simp only [spread_Up.l1]
    rw [if_neg (by omega), h]
  | succ d ih =>
    intro i c hi h0 h
    have hr : room.drop i = room[i] :: room.drop (i + 1) := List.drop_eq_getElem_cons (by omega)
    have ho : out.drop i = out[i] :: out.drop (i + 1) := List.drop_eq_getElem_cons (by omega)
    have hci := cnt_in (room.drop (i + 1)) (out.drop (i + 1))
    have hcl : ((room.drop (i + 1)).length : Int) ≤ 65536 := by simp; omega
    have ec : ((i : Int) + 1) = ((i + 1 : Nat) : Int) := by simp
    rw [hr, ho] at h
    simp only [cnt] at h
    by_cases hlt : out[i] < room[i]
    · rw [if_pos hlt] at h
      refine Ev.step (fun k => ?_) (ih (i + 1) (c + 1) (by omega) (by omega) (by omega))
      simp only [spread_Up.l1]
      rw [if_pos (by omega), if_pos (by omega), if_pos (by omega), if_pos (by omega), rd_at out i (by omega), rd_at room i (by omega), if_pos hlt, wrap_in (c + 1) (by omega) (by omega), wrap_in ((i : Int) + 1) (by omega) (by omega), ec]
    · rw [if_neg hlt] at h
      refine Ev.step (fun k => ?_) (ih (i + 1) c (by omega) (by omega) (by omega))
      simp only [spread_Up.l1]
      rw [if_pos (by omega), if_pos (by omega), if_pos (by omega), if_pos (by omega), rd_at out i (by omega), rd_at room i (by omega), if_neg hlt, wrap_in ((i : Int) + 1) (by omega) (by omega), ec]
theorem give_loop (e : Int) (he0 : 0 ≤ e) (he1 : e ≤ 1125899906842624) (room : List Int) (hm : room.length ≤ 65536) (hroom : ∀ r ∈ room, 0 ≤ r ∧ r ≤ 1125899906842624) (R : List Int) (G : List Int) (lf : Int)
    (hc : Ev (fun k => spread_Up.l0 k lf room G) R) (d : Nat) :
    ∀ (i : Nat) (left : Int) (done os : List Int), i + d = room.length → done.length = i → os.length = d → 0 ≤ left → left ≤ 1125899906842624 → (∀ j (h : j < os.length) (h' : i + j < room.length), 0 ≤ os[j] ∧ os[j] ≤ room[i + j]) →
      (done ++ (gv e left (room.drop i) os).1, (gv e left (room.drop i) os).2) = (G, lf) → Ev (fun k => spread_Up.l2 k e left (room.length : Int) (i : Int) room (done ++ os)) R := by
  induction d with
  | zero =>
    intro i left done os hi hd ho h0 h1 _ hg
    have : os = [] := List.length_eq_zero_iff.mp ho
    subst this
    rw [List.drop_of_length_le (by omega)] at hg
    simp only [gv, Prod.mk.injEq] at hg
    obtain ⟨rfl, rfl⟩ := hg
    refine Ev.step (fun k => ?_) hc
    simp only [spread_Up.l2]
    rw [if_neg (by omega)]
    try simp
  | succ d ih =>
    intro i left done os hi hd ho h0 h1 hos hg
    obtain ⟨o, os, rfl⟩ : ∃ o os', os = o :: os' := by cases os with
      | nil => simp at ho
      | cons o os => exact ⟨o, os, rfl⟩
    have hr : room.drop i = room[i] :: room.drop (i + 1) := List.drop_eq_getElem_cons (by omega)
    have ec : ((i : Int) + 1) = ((i + 1 : Nat) : Int) := by simp
    have hri := hroom room[i] (List.getElem_mem _)
    have ho0 := hos 0 (by simp) (by omega)
    simp only [List.getElem_cons_zero, Nat.add_zero] at ho0
    have hold : ∀ j (h : j < os.length) (h' : i + 1 + j < room.length), 0 ≤ os[j] ∧ os[j] ≤ room[i + 1 + j] := by
      intro j h h'
      have := hos (j + 1) (by simp; omega) (by omega)
      simp only [List.getElem_cons_succ] at this
      have e3 : i + (j + 1) = i + 1 + j := by omega
      simp only [e3] at this
      exact this
    have hlen : ((done ++ o :: os).length : Int) = room.length := by simp at ho ⊢; omega
    have hrdo : rd (done ++ o :: os) (i : Int) = o := by
      rw [rd_at _ i (by simp; omega)]
      simp [List.getElem_append_right, hd]
    rw [hr] at hg
    simp only [gv] at hg
    have ew : wrap64 (room[i] - o) = room[i] - o := wrap_in _ (by omega) (by omega)
    have hn := mn_le (mx e 1) (room[i] - o)
    have hx := mx_ge e 1
    obtain ⟨n, hnn⟩ : ∃ n, mn (mx e 1) (room[i] - o) = n := ⟨_, rfl⟩
    rw [hnn] at hg hn
    have hstep : ∀ k, spread_Up.l2 (k + 1) e left (room.length : Int) (i : Int) room (done ++ o :: os) = if n = 0 then spread_Up.l2 k e left (room.length : Int) ((i + 1 : Nat) : Int) room (done ++ o :: os) else if left < n then spread_Up.l0 k left room (done ++ o :: os) else spread_Up.l2 k e (wrap64 (left - n)) (room.length : Int) ((i + 1 : Nat) : Int) room ((done ++ o :: os).set i (wrap64 (o + n))) := by
      intro k
      simp only [spread_Up.l2]
      rw [if_pos (by omega), if_pos (by omega), if_pos (by omega), if_pos (by omega), rd_at room i (by omega), hrdo, ew, hnn, wrap_in ((i : Int) + 1) (by omega) (by omega), ec]
      simp
    refine Ev.step hstep ?_
    have happ : ∀ v : Int, done ++ v :: os = (done ++ [v]) ++ os := by intro v; simp
    by_cases hz : n = 0
    · rw [if_pos hz] at hg
      simp only [hz, if_true]
      rw [happ o]
      refine ih (i + 1) left (done ++ [o]) os (by omega) (by simp; omega) (by simpa using ho) h0 h1 hold ?_
      rw [← hg]
      simp
    · rw [if_neg hz] at hg
      simp only [hz, if_false]
      by_cases hl : left < n
      · rw [if_pos hl] at hg
        simp only [hl, if_true]
        simp only [Prod.mk.injEq] at hg
        obtain ⟨rfl, rfl⟩ := hg
        exact hc
      · rw [if_neg hl] at hg
        simp only [hl, if_false]
        have hset : (done ++ o :: os).set i (wrap64 (o + n)) = (done ++ [o + n]) ++ os := by
          rw [wrap_in (o + n) (by omega) (by omega), List.set_append_right _ _ (by omega), hd]
          simp
        rw [hset, wrap_in (left - n) (by omega) (by omega)]
        refine ih (i + 1) (left - n) (done ++ [o + n]) os (by omega) (by simp; omega) (by simpa using ho) (by omega) (by omega) hold ?_
        rw [← hg]
        simp

/-- What is told of what is got: a level, and how many get one more. -/
def IsUp (S : Int) (room out : List Int) : Prop := ∃ L t : Int, 0 ≤ L ∧ 0 ≤ t ∧ T L room + t = S ∧ (t < op L room ∨ ∀ r ∈ room, r ≤ L) ∧ out = lv L t room
theorem up_loop (room : List Int) (hm : room.length ≤ 65536) (hroom : ∀ r ∈ room, 0 ≤ r ∧ r ≤ 1125899906842624) (n : Nat) :
    ∀ (S L : Int), 0 ≤ S → S ≤ n → S < 1125899906842624 → 0 ≤ L → ∃ out, Ev (fun k => spread_Up.l0 k S room (room.map fun r => mn r L)) out ∧ IsUp (T L room + S) room out := by
  induction n with
  | zero =>
    intro S L h0 h1 h2 hL
    have : S = 0 := by omega
    subst this
    refine ⟨_, Ev.step (f := fun _ => some (room.map fun r => mn r L)) (fun k => by simp [spread_Up.l0]) (Ev.now _), L, 0, hL, by omega, rfl, ?_, (lv_zero L room).symm⟩
    have := op_nonneg L room
    by_cases h : op L room = 0
    · right; exact op_zero h
    · left; omega
  | succ n ih =>
    intro S L h0 h1 h2 hL
    have hopn := op_nonneg L room
    by_cases hS : S = 0
    · exact ih S L h0 (by omega) h2 hL
    have hlen : (room.map fun r => mn r L).length = room.length := by simp
    have hmem : ∀ j (h : j < (room.map fun r => mn r L).length) (h' : 0 + j < room.length), 0 ≤ (room.map fun r => mn r L)[j] ∧ (room.map fun r => mn r L)[j] ≤ room[0 + j] := by
      intro j h h'
      have hj := hroom room[j] (List.getElem_mem (by omega))
      simp only [List.getElem_map, Nat.zero_add]
      unfold mn
      split <;> omega
    have hgo : ∀ out, Ev (fun k => if cnt room (room.map fun r => mn r L) = 0 then some (room.map fun r => mn r L) else spread_Up.l2 k (wrap64 (Int.tdiv S (cnt room (room.map fun r => mn r L)))) S (room.length : Int) 0 room (room.map fun r => mn r L)) out →
        Ev (fun k => spread_Up.l0 k S room (room.map fun r => mn r L)) out := by
      intro out h
      refine Ev.step (f := fun k => spread_Up.l1 k 0 (room.length : Int) ((0 : Nat) : Int) S room (room.map fun r => mn r L)) (fun k => ?_) (count_loop S room _ hlen hm out h room.length 0 0 (by omega) (by omega) (by simp))
      simp only [spread_Up.l0]
      rw [if_pos (by omega)]
      simp [show S > 0 by omega]
    rw [cnt_map] at hgo
    by_cases hz : op L room = 0
    · refine ⟨_, hgo (room.map fun r => mn r L) (by simp only [hz, if_true]; exact Ev.now _), L, S, hL, h0, rfl, Or.inr (op_zero hz), ?_⟩
      rw [lv_all S (op_zero hz), ← lv_zero, lv_all 0 (op_zero hz)]
    · have hq0 : 0 ≤ S / op L room := Int.ediv_nonneg h0 (by omega)
      have hq1 : S / op L room ≤ S := Int.ediv_le_self _ h0
      have hqr := Int.mul_ediv_add_emod S (op L room)
      have hr0 := Int.emod_nonneg S (b := op L room) (by omega)
      have hr1 := Int.emod_lt_of_pos S (b := op L room) (by omega)
      have ew : wrap64 (Int.tdiv S (op L room)) = S / op L room := by rw [Int.tdiv_eq_ediv_of_nonneg h0]; exact wrap_in _ (by omega) (by omega)
      simp only [hz, if_false, ew] at hgo
      by_cases he : S / op L room = 0
      · rw [he] at hgo hqr
        have hg := gv_one L room S h0 (by omega)
        have hend : Ev (fun k => spread_Up.l0 k 0 room (lv L S room)) (lv L S room) := Ev.step (f := fun _ => some (lv L S room)) (fun k => by simp [spread_Up.l0]) (Ev.now _)
        refine ⟨_, hgo (lv L S room) ?_, L, S, hL, h0, rfl, Or.inl (by omega), rfl⟩
        have := give_loop 0 (by omega) (by omega) room hm hroom (lv L S room) (lv L S room) 0 hend room.length 0 S [] (room.map fun r => mn r L) (by omega) rfl hlen h0 (by omega) hmem (by simp [hg])
        simpa using this
      · obtain ⟨hg, hg1, hg2⟩ := gv_each (S / op L room) L (by omega) hL room S (fun r hr => (hroom r hr).1) (by rw [Int.mul_comm]; omega)
        rw [Int.mul_comm] at hg1
        obtain ⟨out, hev, hup⟩ := ih (S - (T (L + S / op L room) room - T L room)) (L + S / op L room) (by omega) (by omega) (by omega) (by omega)
        refine ⟨out, hgo out ?_, ?_⟩
        · have := give_loop (S / op L room) hq0 (by omega) room hm hroom out _ _ hev room.length 0 S [] (room.map fun r => mn r L) (by omega) rfl hlen h0 (by omega) hmem (by simp [hg])
          simpa using this
        · have e : T (L + S / op L room) room + (S - (T (L + S / op L room) room - T L room)) = T L room + S := by omega
          rw [e] at hup
          exact hup
end Go.Proofs.Ytecccaniopkphaa.Spread

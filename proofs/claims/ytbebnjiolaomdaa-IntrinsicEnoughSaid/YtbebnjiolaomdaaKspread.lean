/- What the trees of spread come to: Up gives room up to a level. No condition beyond what each states. -/
import Derived.Test.YtbebnjiolaomdaaT
import Derived.Test.YtbebnjiolaomdaaKw
import Derived.Test.YtbebnjiolaomdaaMspread
set_option linter.unusedVariables false
set_option linter.unusedSimpArgs false
namespace Go.Proofs.Ytbebnjiolaomdaa.T
open Go Go.Proofs.Ytbebnjiolaomdaa.Sx Go.Proofs.Ytbebnjiolaomdaa.M
theorem right_sp (S n : Int) : Says tr c_spread_right [I S, I n] [B (decide (0 ≤ S) && decide (S < 1125899906842624) && decide (n ≤ 65536))] := by
 refine Says.of (t := spread_right) rfl ?_
 rw [u_spread_right]
 simp (disch := first | omega | (simp only [ln0]; omega)) only [rs, reduceIte, Nat.reduceAdd, ge_iff_le]
def roomsB (l : List Int) : Bool := l.all fun x => decide (0 ≤ x) && decide (x ≤ 1125899906842624)
theorem roomsB_iff (l : List Int) : roomsB l = true ↔ ∀ r ∈ l, 0 ≤ r ∧ r ≤ 1125899906842624 := by simp [roomsB]
theorem rooms_sp (l : List Int) (hl : l.length ≤ 1000000000) : Says tr c_spread_rooms [ints l] [B (roomsB l)] := by
 refine Says.of (t := spread_rooms) rfl ?_
 rw [u_spread_rooms]
 simp (disch := first | omega | (simp only [ln0]; omega)) only [rs, reduceIte, Nat.reduceAdd]
 have key := xup_ind (n := l.length) (P := fun i => Run tr spread_rooms_l0 [ints l, I i] [.loop spread_rooms_l0 [ints l]] [B (roomsB (l.drop i))]) ?_ 0 (Nat.zero_le _)
 · simpa using key
 intro i hi ih
 rw [u_spread_rooms_l0]
 by_cases h : i < l.length
 · have hb : roomsB (l.drop i) = (decide (0 ≤ l[i]) && decide (l[i] ≤ 1125899906842624) && roomsB (l.drop (i + 1))) := by rw [List.drop_eq_getElem_cons h]; rfl
   simp (disch := first | omega | (simp only [ln0]; omega)) only [rs, reduceIte, Nat.reduceAdd, h, hb, gt_iff_lt, Bool.or_eq_true]
   refine br_split ?_ ?_ <;> intro _
   · have : (decide (0 ≤ l[i]) && decide (l[i] ≤ 1125899906842624)) = false := by simp; omega
     rw [this]; rfl
   · have : (decide (0 ≤ l[i]) && decide (l[i] ≤ 1125899906842624)) = true := by simp; omega
     rw [this]
     exact ih h
 · simp (disch := first | omega | (simp only [ln0]; omega)) only [rs, reduceIte, Nat.reduceAdd, h]
   rw [List.drop_of_length_le (by omega)]
   rfl
def UpOk (S : Int) (room : List Int) : Prop := 0 ≤ S ∧ S < 1125899906842624 ∧ room.length ≤ 65536 ∧ ∀ r ∈ room, 0 ≤ r ∧ r ≤ 1125899906842624
abbrev upJ (S0 : Int) (room : List Int) : List JT := [.loop spread_Up_l1 [I S0, ints room, B false]]
abbrev upJ4 (S0 : Int) (room : List Int) (S : Int) (out : List Int) : List JT :=
 [.loop spread_Up_l1 [I S0, ints room, B false], .join spread_Up_j2 [I S0, ints room, B false, I S, ints out], .join spread_Up_j3 [I S0, ints room, B false, I S, ints out], .loop spread_Up_l4 [I S0, ints room, B false, I S, ints out]]
abbrev upJ7 (S0 : Int) (room : List Int) (S : Int) (out : List Int) (i c : Int) : List JT :=
 [.loop spread_Up_l1 [I S0, ints room, B false], .join spread_Up_j2 [I S0, ints room, B false, I S, ints out], .join spread_Up_j3 [I S0, ints room, B false, I S, ints out], .loop spread_Up_l4 [I S0, ints room, B false, I S, ints out], .join spread_Up_j6 [I S0, ints room, B false, I S, ints out, I i, I c], .loop spread_Up_l7 [I S0, ints room, B false, I S, ints out, I i, I c]]
theorem give_loop (S0 S i0 c : Int) (out : List Int) (room : List Int) (hm : room.length ≤ 65536) (hroom : ∀ r ∈ room, 0 ≤ r ∧ r ≤ 1125899906842624) (hc0 : c ≠ 0) (hq0 : 0 ≤ S / c) (hq1 : S / c ≤ 1125899906842624) (hS : 0 ≤ S)
    (R : List PV) (G : List Int) (lf : Int) (hc : Run tr spread_Up_l1 [I S0, ints room, B false, I lf, ints G] (upJ S0 room) R) (d : Nat) :
    ∀ (i : Nat) (left : Int) (done os : List Int), i + d = room.length → done.length = i → os.length = d → 0 ≤ left → left ≤ 1125899906842624 → (∀ j (h : j < os.length) (h' : i + j < room.length), 0 ≤ os[j] ∧ os[j] ≤ room[i + j]) →
     (done ++ (gv (S / c) left (room.drop i) os).1, (gv (S / c) left (room.drop i) os).2) = (G, lf) →
     Run tr spread_Up_l7 [I S0, ints room, B false, I S, ints out, I i0, I c, I i, I left, ints (done ++ os)] (upJ7 S0 room S out i0 c) R := by
 have hdiv : S.tdiv c = S / c := Int.tdiv_eq_ediv_of_nonneg hS
 induction d with
 | zero =>
  intro i left done os hi hd ho h0 h1 _ hg
  have : os = [] := List.length_eq_zero_iff.mp ho
  subst this
  rw [List.drop_of_length_le (by omega)] at hg
  simp only [gv, Prod.mk.injEq] at hg
  obtain ⟨rfl, rfl⟩ := hg
  rw [u_spread_Up_l7]
  have hn : ¬ i < room.length := by omega
  simp (disch := first | omega | (simp only [ln0]; omega)) only [rs, reduceIte, Nat.reduceAdd, hn, spread_Up_j6, spread_Up_j3, spread_Up_j2]
  exact hc
 | succ d ih =>
  intro i left done os hi hd ho h0 h1 hos hg
  obtain ⟨o, os, rfl⟩ : ∃ o os', os = o :: os' := by cases os with
   | nil => simp at ho
   | cons o os => exact ⟨o, os, rfl⟩
  have hil : i < room.length := by omega
  have hr : room.drop i = room[i] :: room.drop (i + 1) := List.drop_eq_getElem_cons (by omega)
  have hri := hroom room[i] (List.getElem_mem _)
  have ho0 := hos 0 (by simp) (by omega)
  simp only [List.getElem_cons_zero, Nat.add_zero] at ho0
  have hold : ∀ j (h : j < os.length) (h' : i + 1 + j < room.length), 0 ≤ os[j] ∧ os[j] ≤ room[i + 1 + j] := by
   intro j h h'
   have := hos (j + 1) (by simp; omega) (by omega)
   simp only [List.getElem_cons_succ] at this
   have e3 : i + (j + 1) = i + 1 + j := by omega
   simp only [e3] at this
   exact this
  have hlen : i < (done ++ o :: os).length := by simp at ho ⊢; omega
  have hget : (done ++ o :: os)[i] = o := by simp [List.getElem_append_right, hd]
  rw [hr] at hg
  simp only [gv] at hg
  obtain ⟨n, hnn⟩ : ∃ n, min (max (S / c) 1) (room[i] - o) = n := ⟨_, rfl⟩
  rw [hnn] at hg
  have happ : ∀ v : Int, done ++ v :: os = (done ++ [v]) ++ os := by intro v; simp
  have hset : (done ++ o :: os).set i (o + n) = (done ++ [o + n]) ++ os := by
   rw [List.set_append_right _ _ (by omega), hd]
   simp
  rw [u_spread_Up_l7]
  simp (disch := first | omega | (simp only [ln0]; omega)) only [rs, reduceIte, Nat.reduceAdd, hil, hlen, hget, hdiv, hnn, beq_iff_eq, spread_Up_j8]
  by_cases hz : n = 0
  · rw [if_pos hz] at hg
    rw [br_pos hz]
    rw [happ o]
    refine ih (i + 1) left (done ++ [o]) os (by omega) (by simp; omega) (by simpa using ho) h0 h1 hold ?_
    rw [← hg]
    simp
  · rw [if_neg hz] at hg
    rw [br_neg hz]
    by_cases hl : left < n
    · rw [if_pos hl] at hg
      rw [br_pos hl]
      simp only [Prod.mk.injEq] at hg
      obtain ⟨rfl, rfl⟩ := hg
      simp (disch := first | omega | (simp only [ln0]; omega)) only [rs, reduceIte, Nat.reduceAdd, spread_Up_j6, spread_Up_j3, spread_Up_j2]
      exact hc
    · rw [if_neg hl] at hg
      rw [br_neg hl]
      rw [hset]
      refine ih (i + 1) (left - n) (done ++ [o + n]) os (by omega) (by simp; omega) (by simpa using ho) (by omega) (by omega) hold ?_
      rw [← hg]
      simp
theorem count_loop (S0 S : Int) (room out : List Int) (hlen : out.length = room.length) (hm : room.length ≤ 65536) (R : List PV)
    (hc : if cnt room out = 0 then [ints out] = R else Run tr spread_Up_l7 [I S0, ints room, B false, I S, ints out, I room.length, I (cnt room out), I 0, I S, ints out] (upJ7 S0 room S out room.length (cnt room out)) R) (d : Nat) :
    ∀ (i : Nat) (c : Int), i + d = room.length → 0 ≤ c → c + cnt (room.drop i) (out.drop i) = cnt room out → Run tr spread_Up_l4 [I S0, ints room, B false, I S, ints out, I i, I c] (upJ4 S0 room S out) R := by
 have hcr := cnt_in room out
 induction d with
 | zero =>
  intro i c hi h0 h
  rw [List.drop_of_length_le (by omega), List.drop_of_length_le (by omega)] at h
  simp only [cnt, Int.add_zero] at h
  subst h
  have hn : ¬ i < room.length := by omega
  have hi' : i = room.length := by omega
  subst hi'
  rw [u_spread_Up_l4]
  by_cases hz : cnt room out = 0
  · rw [if_pos hz] at hc
    simp (disch := first | omega | (simp only [ln0]; omega)) only [rs, reduceIte, Nat.reduceAdd, hn, hz, beq_self_eq_true, spread_Up_j3, spread_Up_j2, Bool.false_eq_true]
    exact hc
  · rw [if_neg hz] at hc
    have hz' : (cnt room out == 0) = false := by simpa using hz
    simp (disch := first | omega | (simp only [ln0]; omega)) only [rs, reduceIte, Nat.reduceAdd, hn, hz', bne, Bool.not_false, Bool.false_eq_true]
    exact hc
 | succ d ih =>
  intro i c hi h0 h
  have hil : i < room.length := by omega
  have hio : i < out.length := by omega
  have hr : room.drop i = room[i] :: room.drop (i + 1) := List.drop_eq_getElem_cons (by omega)
  have ho : out.drop i = out[i] :: out.drop (i + 1) := List.drop_eq_getElem_cons (by omega)
  have hci := cnt_in (room.drop (i + 1)) (out.drop (i + 1))
  have hcl : ((room.drop (i + 1)).length : Int) ≤ 65536 := by simp; omega
  rw [hr, ho] at h
  simp only [cnt] at h
  rw [u_spread_Up_l4]
  by_cases hlt : out[i] < room[i]
  · rw [if_pos hlt] at h
    simp (disch := first | omega | (simp only [ln0]; omega)) only [rs, reduceIte, Nat.reduceAdd, hil, hio, hlt, spread_Up_j5]
    exact ih (i + 1) (c + 1) (by omega) (by omega) (by omega)
  · rw [if_neg hlt] at h
    simp (disch := first | omega | (simp only [ln0]; omega)) only [rs, reduceIte, Nat.reduceAdd, hil, hio, hlt, spread_Up_j5]
    exact ih (i + 1) c (by omega) (by omega) (by omega)
theorem up_loop (S0 : Int) (room : List Int) (hm : room.length ≤ 65536) (hroom : ∀ r ∈ room, 0 ≤ r ∧ r ≤ 1125899906842624) (n : Nat) :
    ∀ (S L : Int), 0 ≤ S → S ≤ n → S < 1125899906842624 → 0 ≤ L → ∃ out, Run tr spread_Up_l1 [I S0, ints room, B false, I S, ints (room.map fun r => min r L)] (upJ S0 room) [ints out] ∧ IsUp (Tk L room + S) room out := by
 induction n with
 | zero =>
  intro S L h0 h1 h2 hL
  have : S = 0 := by omega
  subst this
  refine ⟨_, ?_, L, 0, hL, by omega, rfl, ?_, (lv_zero L room).symm⟩
  · rw [u_spread_Up_l1]
    simp (disch := first | omega | (simp only [ln0]; omega)) only [rs, reduceIte, Nat.reduceAdd, spread_Up_j2, Int.lt_irrefl, gt_iff_lt, Bool.false_eq_true]
  have := op_nonneg L room
  by_cases h : op L room = 0
  · right; exact op_zero h
  · left; omega
 | succ n ih =>
  intro S L h0 h1 h2 hL
  have hopn := op_nonneg L room
  by_cases hS : S = 0
  · exact ih S L h0 (by omega) h2 hL
  have hlen : (room.map fun r => min r L).length = room.length := by simp
  have hmem : ∀ j (h : j < (room.map fun r => min r L).length) (h' : 0 + j < room.length), 0 ≤ (room.map fun r => min r L)[j] ∧ (room.map fun r => min r L)[j] ≤ room[0 + j] := by
   intro j h h'
   have hj := hroom room[j] (List.getElem_mem (by omega))
   simp only [List.getElem_map, Nat.zero_add]
   omega
  have hgo : ∀ R, (if cnt room (room.map fun r => min r L) = 0 then [ints (room.map fun r => min r L)] = R else Run tr spread_Up_l7 [I S0, ints room, B false, I S, ints (room.map fun r => min r L), I room.length, I (cnt room (room.map fun r => min r L)), I 0, I S, ints (room.map fun r => min r L)] (upJ7 S0 room S (room.map fun r => min r L) room.length (cnt room (room.map fun r => min r L))) R) →
      Run tr spread_Up_l1 [I S0, ints room, B false, I S, ints (room.map fun r => min r L)] (upJ S0 room) R := by
   intro out h
   have key := count_loop S0 S room _ hlen hm out h room.length 0 0 (by omega) (by omega) (by simp)
   have hS' : S > 0 := by omega
   rw [u_spread_Up_l1]
   simp (disch := first | omega | (simp only [ln0]; omega)) only [rs, reduceIte, Nat.reduceAdd, hS']
   exact key
  rw [cnt_map] at hgo
  by_cases hz : op L room = 0
  · refine ⟨_, hgo [ints (room.map fun r => min r L)] (by rw [if_pos hz]), L, S, hL, h0, rfl, Or.inr (op_zero hz), ?_⟩
    rw [lv_all S (op_zero hz), ← lv_zero, lv_all 0 (op_zero hz)]
  · have hq0 : 0 ≤ S / op L room := Int.ediv_nonneg h0 (by omega)
    have hq1 : S / op L room ≤ S := Int.ediv_le_self _ h0
    have hqr := Int.mul_ediv_add_emod S (op L room)
    have hr0 := Int.emod_nonneg S (b := op L room) (by omega)
    have hr1 := Int.emod_lt_of_pos S (b := op L room) (by omega)
    simp only [hz, if_false] at hgo
    by_cases he : S / op L room = 0
    · rw [he] at hqr
      have hg := gv_one L room S h0 (by omega)
      have hend : Run tr spread_Up_l1 [I S0, ints room, B false, I 0, ints (lv L S room)] (upJ S0 room) [ints (lv L S room)] := by
       rw [u_spread_Up_l1]
       simp (disch := first | omega | (simp only [ln0]; omega)) only [rs, reduceIte, Nat.reduceAdd, spread_Up_j2, Int.lt_irrefl, gt_iff_lt, Bool.false_eq_true]
      refine ⟨_, hgo _ ?_, L, S, hL, h0, rfl, Or.inl (by omega), rfl⟩
      have := give_loop S0 S room.length (op L room) (room.map fun r => min r L) room hm hroom hz hq0 (by omega) h0 _ (lv L S room) 0 hend room.length 0 S [] (room.map fun r => min r L) (by omega) rfl hlen h0 (by omega) hmem (by simp [he, hg])
      simpa using this
    · obtain ⟨hg, hg1, hg2⟩ := gv_each (S / op L room) L (by omega) hL room S (fun r hr => (hroom r hr).1) (by rw [Int.mul_comm]; omega)
      rw [Int.mul_comm] at hg1
      obtain ⟨out, hev, hup⟩ := ih (S - (Tk (L + S / op L room) room - Tk L room)) (L + S / op L room) (by omega) (by omega) (by omega) (by omega)
      refine ⟨out, hgo _ ?_, ?_⟩
      · have := give_loop S0 S room.length (op L room) (room.map fun r => min r L) room hm hroom hz hq0 (by omega) h0 _ _ _ hev room.length 0 S [] (room.map fun r => min r L) (by omega) rfl hlen h0 (by omega) hmem (by simp [hg])
        simpa using this
      · have e : Tk (L + S / op L room) room + (S - (Tk (L + S / op L room) room - Tk L room)) = Tk L room + S := by omega
        rw [e] at hup
        exact hup
theorem Tk_zero {rs : List Int} (h : ∀ r ∈ rs, 0 ≤ r) : Tk 0 rs = 0 := by
 induction rs with
 | nil => rfl
 | cons r rs ih =>
  have := h r (by simp)
  simp only [Tk, ih (fun x hx => h x (by simp [hx]))]
  omega
theorem up_bad (S : Int) (room : List Int) (hl : room.length ≤ 1000000000) (h : ¬ UpOk S room) : Says tr c_spread_Up [I S, ints room] [ints (List.replicate room.length 0)] := by
 refine Says.of (t := spread_Up) rfl ?_
 rw [u_spread_Up]
 have h1 : (room.length : Int) ≤ 17592186044416 := by omega
 simp (disch := first | omega | (simp only [ln0]; omega)) only [rs, reduceIte, Nat.reduceAdd, h1, xcall_of (right_sp _ _)]
 refine br_split ?_ ?_ <;> intro _
 · simp (disch := first | omega | (simp only [ln0]; omega)) only [rs, reduceIte, Nat.reduceAdd, xcall_of (rooms_sp room hl)]
   have hb : roomsB room = false := by
    cases hr : roomsB room with
    | false => rfl
    | true =>
     rw [roomsB_iff] at hr
     rename_i h2
     simp at h2
     exact absurd ⟨by omega, by omega, by omega, hr⟩ h
   simp (disch := first | omega | (simp only [ln0]; omega)) only [rs, reduceIte, Nat.reduceAdd, hb, Bool.not_false, spread_Up_j0]
 · simp (disch := first | omega | (simp only [ln0]; omega)) only [rs, reduceIte, Nat.reduceAdd, spread_Up_j0]
theorem up_ok (S : Int) (room : List Int) (h : UpOk S room) : ∃ out, Says tr c_spread_Up [I S, ints room] [ints out] ∧ IsUp S room out := by
 obtain ⟨h0, h1, hm, hroom⟩ := h
 have hz : List.replicate room.length (0 : Int) = room.map fun r => min r 0 := by
  refine List.ext_getElem (by simp) (fun i a b => ?_)
  have hi : i < room.length := by simpa using b
  have := hroom room[i] (List.getElem_mem hi)
  simp only [List.getElem_replicate, List.getElem_map]
  omega
 obtain ⟨out, hev, hup⟩ := up_loop S room hm hroom S.toNat S 0 h0 (by omega) h1 (by omega)
 rw [Tk_zero (fun r hr => (hroom r hr).1), Int.zero_add] at hup
 refine ⟨out, ?_, hup⟩
 refine Says.of (t := spread_Up) rfl ?_
 rw [u_spread_Up]
 have hl : (room.length : Int) ≤ 17592186044416 := by omega
 have hr : roomsB room = true := (roomsB_iff room).2 hroom
 have hm' : ((room.length : Int) ≤ 65536) := by omega
 simp (disch := first | omega | (simp only [ln0]; omega)) only [rs, reduceIte, Nat.reduceAdd, hl, xcall_of (right_sp _ _), xcall_of (rooms_sp room (by omega)), h0, h1, hm', hr, decide_true, Bool.and_true, List.length_cons, List.length_nil, Bool.not_true, spread_Up_j0, Bool.false_eq_true]
 rw [hz]
 exact hev
end Go.Proofs.Ytbebnjiolaomdaa.T

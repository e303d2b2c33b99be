/- What the tree of the document's Up comes to: the level by halving. No condition beyond what each states. -/
import Derived.Test.YtbebnjiolaomdaaGreatT
import Derived.Test.YtbebnjiolaomdaaGreatKspread
set_option linter.unusedVariables false
set_option linter.unusedSimpArgs false
namespace Go.Proofs.YtbebnjiolaomdaaGreat.T
open Go Go.Proofs.YtbebnjiolaomdaaGreat.Sx Go.Proofs.YtbebnjiolaomdaaGreat.M
theorem Tk_nonneg {L : Int} (hL : 0 ≤ L) : ∀ {rs : List Int}, (∀ r ∈ rs, 0 ≤ r) → 0 ≤ Tk L rs
 | [], _ => by simp [Tk]
 | r :: rs, h => by
  have h1 := h r (by simp)
  have h2 := Tk_nonneg hL (rs := rs) (fun y hy => h y (by simp [hy]))
  simp only [Tk]
  omega
def RightB (S : Int) (l : List Int) : Bool := decide (0 ≤ S) && decide (S < 1125899906842624) && decide (l.length ≤ 65536) && roomsB l
theorem RightB_iff (S : Int) (l : List Int) : RightB S l = true ↔ UpOk S l := by
 simp only [RightB, UpOk, Bool.and_eq_true, decide_eq_true_eq, roomsB_iff, and_assoc]
theorem rright_sp (S : Int) (l : List Int) : Says tr c_ref23_Right [I S, ints l] [B (RightB S l)] := by
 refine Says.of (t := ref23_Right) rfl ?_
 rw [u_ref23_Right]
 simp (disch := first | omega | (simp only [ln0]; omega)) only [rs, reduceIte, Nat.reduceAdd, bx, reduceCtorEq, forall_const, ne_eq]
 refine br_split ?_ ?_ <;> intro _
 · rename_i h
   have : RightB S l = false := by
    cases hr : RightB S l with
    | false => rfl
    | true => rw [RightB_iff] at hr; obtain ⟨h1, h2, h3, h4⟩ := hr; omega
   rw [this]
 · rename_i h
   have hR : RightB S l = roomsB l := by
    have h1 : decide (0 ≤ S) = true := by simp; omega
    have h2 : decide (S < 1125899906842624) = true := by simp; omega
    have h3 : decide (l.length ≤ 65536) = true := by simp; omega
    simp only [RightB, h1, h2, h3, Bool.true_and]
   rw [hR]
   have key := xup_ind (n := l.length) (P := fun i => Run tr ref23_Right_l0 [I S, ints l, I i] [.loop ref23_Right_l0 [I S, ints l]] [B (roomsB (l.drop i))]) ?_ 0 (Nat.zero_le _)
   · simpa using key
   intro i hi ih
   rw [u_ref23_Right_l0]
   by_cases h : i < l.length
   · have hb : roomsB (l.drop i) = (decide (0 ≤ l[i]) && decide (l[i] ≤ 1125899906842624) && roomsB (l.drop (i + 1))) := by rw [List.drop_eq_getElem_cons h]; rfl
     simp (disch := first | omega | (simp only [ln0]; omega)) only [rs, reduceIte, Nat.reduceAdd, h, hb, gt_iff_lt, Bool.or_eq_true]
     refine br_split ?_ ?_ <;> intro _
     · have : (decide (0 ≤ l[i]) && decide (l[i] ≤ 1125899906842624)) = false := by simp; omega
       rw [this]; rfl
     · have : (decide (0 ≤ l[i]) && decide (l[i] ≤ 1125899906842624)) = true := by simp; omega
       rw [this]
       exact ih h
   · simp (disch := first | omega | (simp only [ln0]; omega)) only [rs, reduceIte, Nat.reduceAdd, h]
     rw [List.drop_of_length_le (by omega)]
     rfl
theorem taken_sp (S L : Int) (room : List Int) (h : UpOk S room) (hL : 0 ≤ L) (hL1 : L ≤ 1125899906842625) : Says tr c_ref23_taken [I S, ints room, I L] [I (min (S + 1) (Tk L room))] := by
 obtain ⟨hS, hS1, hm, hroom⟩ := h
 refine Says.of (t := ref23_taken) rfl ?_
 rw [u_ref23_taken]
 simp (disch := first | omega | (simp only [ln0]; omega)) only [rs, reduceIte, Nat.reduceAdd]
 have key := xup_ind (n := room.length) (P := fun i => ∀ n : Int, 0 ≤ n → n ≤ S + 1 → Run tr ref23_taken_l0 [I S, ints room, I L, I i, I n] [.loop ref23_taken_l0 [I S, ints room, I L]] [I (min (S + 1) (n + Tk L (room.drop i)))]) ?_ 0 (Nat.zero_le _)
 · simpa using key 0 (by omega) (by omega)
 intro i hi ih n h0 h1
 rw [u_ref23_taken_l0]
 by_cases h : i < room.length
 · have hri := hroom room[i] (List.getElem_mem _)
   have htn : 0 ≤ Tk L (room.drop (i + 1)) := Tk_nonneg hL (fun y hy => (hroom y (List.mem_of_mem_drop hy)).1)
   have hb : 0 ≤ min room[i] L ∧ min room[i] L ≤ 1125899906842625 := by omega
   simp (disch := first | omega | (simp only [ln0]; omega)) only [rs, reduceIte, Nat.reduceAdd, h]
   have := ih h (min (S + 1) (n + min room[i] L)) (by omega) (by omega)
   have e : min (S + 1) (n + Tk L (room.drop i)) = min (S + 1) (min (S + 1) (n + min room[i] L) + Tk L (room.drop (i + 1))) := by
    rw [List.drop_eq_getElem_cons h]
    simp only [Tk]
    omega
   rw [e]
   exact this
 · rw [List.drop_of_length_le (by omega)]
   have : min (S + 1) n = n := by omega
   simp (disch := first | omega | (simp only [ln0]; omega)) only [rs, reduceIte, Nat.reduceAdd, h, Tk, Int.add_zero, this]
theorem rup_l1 (S L : Int) (x y z : PV) (hL : 0 ≤ L) (hL1 : L ≤ 1125899906842624) (room : List Int) (hm : room.length ≤ 65536) (hroom : ∀ r ∈ room, 0 ≤ r ∧ r ≤ 1125899906842624) (J : JT) (d : Nat) :
    ∀ (i : Nat) (t : Int) (done os : List Int), i + d = room.length → done.length = i → os.length = d → 0 ≤ t → t < 1125899906842624 →
     Run tr ref23_Up_l1 [I S, ints room, x, I L, y, z, I i, I t, ints (done ++ os)] [J, .loop ref23_Up_l1 [I S, ints room, x, I L, y, z]] [ints (done ++ lv L t (room.drop i))] := by
 induction d with
 | zero =>
  intro i t done os hi hd ho h0 h1
  have : os = [] := List.length_eq_zero_iff.mp ho
  subst this
  have hn : ¬ i < room.length := by omega
  rw [u_ref23_Up_l1]
  simp (disch := first | omega | (simp only [ln0]; omega)) only [rs, reduceIte, Nat.reduceAdd, hn]
  rw [List.drop_of_length_le (by omega)]
  simp [lv]
 | succ d ih =>
  intro i t done os hi hd ho h0 h1
  obtain ⟨o, os, rfl⟩ : ∃ o os', os = o :: os' := by cases os with
   | nil => simp at ho
   | cons o os => exact ⟨o, os, rfl⟩
  have hil : i < room.length := by omega
  have hw : room.drop i = room[i] :: room.drop (i + 1) := List.drop_eq_getElem_cons (by omega)
  have hri := hroom room[i] (List.getElem_mem _)
  have hlen : i < (done ++ o :: os).length := by simp at ho ⊢; omega
  have hset : ∀ v : Int, (done ++ o :: os).set i v = (done ++ [v]) ++ os := by
   intro v
   rw [List.set_append_right _ _ (by omega), hd]
   simp
  have hfin : ∀ (v : Int) (rest : List Int), done ++ v :: rest = (done ++ [v]) ++ rest := by intro v rest; simp
  rw [u_ref23_Up_l1]
  simp (disch := first | omega | (simp only [ln0]; omega)) only [rs, reduceIte, Nat.reduceAdd, hil, hlen, bx, reduceCtorEq, forall_const, ne_eq, List.length_set, List.getElem_set_self, List.set_set]
  rw [hw]
  simp only [lv]
  refine br_split ?_ ?_ <;> intro _
  · rename_i hc
    rw [if_pos hc.1, if_pos hc.2, hfin (L + 1) (lv L (t - 1) (room.drop (i + 1)))]
    have em : min room[i] L = L := by omega
    simp (disch := first | omega | (simp only [ln0]; omega)) only [rs, reduceIte, Nat.reduceAdd, em, hset, u_ref23_Up_j2, hlen]
    exact ih (i + 1) (t - 1) (done ++ [L + 1]) os (by omega) (by simp; omega) (by simpa using ho) (by omega) (by omega)
  · rename_i hc
    by_cases hlt : L < room[i]
    · have ht : t = 0 := by omega
      have em : min room[i] L = L := by omega
      subst ht
      rw [if_pos hlt, if_neg (by omega), hfin L (lv L 0 (room.drop (i + 1)))]
      simp (disch := first | omega | (simp only [ln0]; omega)) only [rs, reduceIte, Nat.reduceAdd, em, hset, u_ref23_Up_j2]
      exact ih (i + 1) 0 (done ++ [L]) os (by omega) (by simp; omega) (by simpa using ho) (by omega) (by omega)
    · have em : min room[i] L = room[i] := by omega
      rw [if_neg hlt, hfin room[i] (lv L t (room.drop (i + 1)))]
      simp (disch := first | omega | (simp only [ln0]; omega)) only [rs, reduceIte, Nat.reduceAdd, em, hset, u_ref23_Up_j2]
      exact ih (i + 1) t (done ++ [room[i]]) os (by omega) (by simp; omega) (by simpa using ho) (by omega) (by omega)
theorem rup_l0 (S : Int) (room : List Int) (h : UpOk S room) (x : PV) (n : Nat) :
    ∀ (low high : Int), 0 ≤ low → low < high → high ≤ 1125899906842625 → high - low ≤ n + 1 → Tk low room ≤ S → (high = 1125899906842625 ∨ S < Tk high room) → ∃ out, Run tr ref23_Up_l0 [I S, ints room, x, I low, I high] [.loop ref23_Up_l0 [I S, ints room, x]] [ints out] ∧ IsUp S room out := by
 have hok := h
 obtain ⟨hS, hS1, hm, hroom⟩ := h
 have hfin : ∀ (low high : Int), 0 ≤ low → high = low + 1 → high ≤ 1125899906842625 → Tk low room ≤ S → (high = 1125899906842625 ∨ S < Tk high room) → ∃ out, Run tr ref23_Up_l0 [I S, ints room, x, I low, I high] [.loop ref23_Up_l0 [I S, ints room, x]] [ints out] ∧ IsUp S room out := by
  intro low high h0 h1 h2 hT hH
  have htn : 0 ≤ Tk low room := Tk_nonneg h0 (fun y hy => (hroom y hy).1)
  have ht := taken_sp S low room hok h0 (by omega)
  have em : min (S + 1) (Tk low room) = Tk low room := by omega
  rw [em] at ht
  refine ⟨lv low (S - Tk low room) room, ?_, low, S - Tk low room, h0, by omega, by omega, ?_, rfl⟩
  · have e1 : high - low = 1 := by omega
    rw [u_ref23_Up_l0]
    simp (disch := first | omega | (simp only [ln0]; omega)) only [rs, reduceIte, Nat.reduceAdd, e1, gt_iff_lt, Int.lt_irrefl, xcall_of ht]
    have := rup_l1 S low x (I high) (I (Tk low room)) h0 (by omega) room hm hroom (.loop ref23_Up_l0 [I S, ints room, x]) room.length 0 (S - Tk low room) [] (List.replicate room.length 0) (by omega) rfl (by simp) (by omega) (by omega)
    simpa using this
  · rcases hH with hH | hH
    · right
      intro r hr
      have := hroom r hr
      omega
    · left
      rw [h1, Tk_step] at hH
      omega
 induction n with
 | zero =>
  intro low high h0 h1 h2 hn hT hH
  exact hfin low high h0 (by omega) h2 hT hH
 | succ n ih =>
  intro low high h0 h1 h2 hn hT hH
  by_cases hone : high = low + 1
  · exact hfin low high h0 hone h2 hT hH
  obtain ⟨mid, hmid⟩ : ∃ mid, (low + high) / 2 = mid := ⟨_, rfl⟩
  have hml : low < mid ∧ mid < high := by omega
  have ht := taken_sp S mid room hok (by omega) (by omega)
  have ed : (low + high).tdiv 2 = mid := by rw [Int.tdiv_eq_ediv_of_nonneg (by omega), hmid]
  have hgo : ∀ out, Br (min (S + 1) (Tk mid room) ≤ S) (Run tr ref23_Up_l0 [I S, ints room, x, I mid, I high] [.loop ref23_Up_l0 [I S, ints room, x]] [ints out]) (Run tr ref23_Up_l0 [I S, ints room, x, I low, I mid] [.loop ref23_Up_l0 [I S, ints room, x]] [ints out]) → Run tr ref23_Up_l0 [I S, ints room, x, I low, I high] [.loop ref23_Up_l0 [I S, ints room, x]] [ints out] := by
   intro out h
   have hgt : high - low > 1 := by omega
   rw [u_ref23_Up_l0]
   simp (disch := first | omega | (simp only [ln0]; omega)) only [rs, reduceIte, Nat.reduceAdd, hgt, ed, xcall_of ht]
   exact h
  by_cases hle : Tk mid room ≤ S
  · obtain ⟨out, h3, h4⟩ := ih mid high (by omega) (by omega) h2 (by omega) hle hH
    exact ⟨out, hgo out ((br_pos (by omega)).2 h3), h4⟩
  · obtain ⟨out, h3, h4⟩ := ih low mid h0 (by omega) (by omega) (by omega) hT (Or.inr (by omega))
    exact ⟨out, hgo out ((br_neg (by omega)).2 h3), h4⟩
theorem rup_ok (S : Int) (room : List Int) (h : UpOk S room) : ∃ out, Says tr c_ref23_Up [I S, ints room] [ints out] ∧ IsUp S room out := by
 have hz := Tk_zero (rs := room) (fun r hr => (h.2.2.2 r hr).1)
 obtain ⟨out, h3, h4⟩ := rup_l0 S room h (B true) 1125899906842625 0 1125899906842625 (by omega) (by omega) (by omega) (by omega) (by rw [hz]; exact h.1) (Or.inl rfl)
 refine ⟨out, ?_, h4⟩
 refine Says.of (t := ref23_Up) rfl ?_
 rw [u_ref23_Up]
 have hm := h.2.2.1
 have h1 : (room.length : Int) ≤ 17592186044416 := by omega
 have hb : RightB S room = true := (RightB_iff S room).2 h
 simp (disch := first | omega | (simp only [ln0]; omega)) only [rs, reduceIte, Nat.reduceAdd, h1, xcall_of (rright_sp _ _), hb]
 exact h3
end Go.Proofs.YtbebnjiolaomdaaGreat.T

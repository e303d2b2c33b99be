/- What the trees come to that share a space by rooms, and what is left to some, or by weights. No condition beyond what each states. -/
import Derived.Test.YtbebnjiolaomdaaT
import Derived.Test.YtbebnjiolaomdaaKrup
import Derived.Test.YtbebnjiolaomdaaKsplit
import Derived.Test.YtbebnjiolaomdaaKshare
set_option linter.unusedVariables false
set_option linter.unusedSimpArgs false
set_option maxRecDepth 10000
namespace Go.Proofs.Ytbebnjiolaomdaa.T
open Go Go.Proofs.Ytbebnjiolaomdaa.Sx Go.Proofs.Ytbebnjiolaomdaa.M
open Classical in
noncomputable def upS (S : Int) (room : List Int) : List Int := if h : ∃ out, IsUp S room out then h.choose else []
theorem upS_is {S : Int} {room : List Int} (h : ∃ out, IsUp S room out) : IsUp S room (upS S room) := by
 unfold upS
 rw [dif_pos h]
 exact h.choose_spec
theorem up_sp (S : Int) (room : List Int) (h : UpOk S room) : Says tr c_spread_Up [I S, ints room] [ints (upS S room)] ∧ IsUp S room (upS S room) := by
 obtain ⟨out, h1, h2⟩ := up_ok S room h
 have h3 := upS_is ⟨out, h2⟩
 rw [isup_unique h2 h3] at h1
 exact ⟨h1, h3⟩
instance (S : Int) (room : List Int) : Decidable (UpOk S room) := by
 have := RightB_iff S room
 exact decidable_of_iff _ this
noncomputable def fillS (S : Int) (room : List Int) (bey : List Bool) : List Int :=
 if UpOk S room ∧ bey.length = room.length then addp (upS S room) bey (splitS (S - tot (upS S room)) (idx bey).length) else List.replicate room.length 0
theorem fillS_length (S : Int) (room : List Int) (bey : List Bool) : (fillS S room bey).length = room.length := by
 unfold fillS
 split
 · rename_i h
   obtain ⟨_, h3⟩ := up_sp S room h.1
   rw [addp_length, isup_length h3]
 · simp
theorem tot_take_drop (l : List Int) (i : Nat) : tot (l.take i) + tot (l.drop i) = tot l := by
 rw [← tot_append, List.take_append_drop]
theorem left_in {S : Int} {room out : List Int} (h : UpOk S room) (hu : IsUp S room out) : (∀ x ∈ out, 0 ≤ x) ∧ 0 ≤ tot out ∧ tot out ≤ S := by
 have h0 : ∀ x ∈ out, 0 ≤ x := by
  intro x hx
  obtain ⟨i, hi, rfl⟩ := List.mem_iff_getElem.1 hx
  have hl := isup_length hu
  exact (isup_in hu (fun r hr => (h.2.2.2 r hr).1) i (by omega) hi).1
 exact ⟨h0, tot_nonneg h0, (isup_tot hu).1⟩
theorem fill_sp (S : Int) (room : List Int) (bey : List Bool) (hl : room.length ≤ 65536) (hbl : bey.length ≤ 65536) : Says tr c_spread_Fill [I S, ints room, bools bey] [ints (fillS S room bey)] := by
 have hbad : ∀ out : List Int, Run tr spread_Fill_j0 [I S, ints room, bools bey, ints out, B true] [] [ints (List.replicate room.length 0)] := by
  intro out
  rw [u_spread_Fill_j0]
  have : (room.length : Int) ≤ 17592186044416 := by omega
  simp (disch := first | omega | (simp only [ln0]; omega)) only [rs, reduceIte, Nat.reduceAdd, this]
 refine Says.of (t := spread_Fill) rfl ?_
 by_cases hu : UpOk S room
 · obtain ⟨h1, h2⟩ := up_sp S room hu
   have hul := isup_length h2
   obtain ⟨h00, h01, h02⟩ := left_in hu h2
   have hu' := hu
   obtain ⟨hS0, hS1, hm, hroom⟩ := hu'
   have hr : roomsB room = true := (roomsB_iff room).2 hroom
   rw [u_spread_Fill]
   have hm' : ((room.length : Int) ≤ 65536) := by omega
   simp (disch := first | omega | (simp only [ln0]; omega)) only [rs, reduceIte, Nat.reduceAdd, xcall_of h1, xcall_of (right_sp _ _), xcall_of (rooms_sp room (by omega)), hS0, hS1, hm', hr, decide_true, Bool.and_true, List.length_cons, List.length_nil, Bool.not_true, Bool.false_or]
   by_cases hb : bey.length = room.length
   · have e : fillS S room bey = addp (upS S room) bey (splitS (S - tot (upS S room)) (idx bey).length) := by unfold fillS; rw [if_pos ⟨hu, hb⟩]
     rw [e]
     have hne : ((bey.length : Int) != (room.length : Int)) = false := by simp [hb]
     rw [hne]
     generalize hos : upS S room = os at *
     rw [u_spread_Fill_j0]
     simp (disch := first | omega | (simp only [ln0]; omega)) only [rs, reduceIte, Nat.reduceAdd]
     try rw [br_neg (by simp)]
     have hix := idx_le bey
     have key := xup_ind (n := os.length) (P := fun i => Run tr spread_Fill_l1 [I S, ints room, bools bey, ints os, B false, I i, ints ((idx (bey.take i)).map Int.ofNat), I (S - tot (os.take i))] [.loop spread_Fill_l1 [I S, ints room, bools bey, ints os, B false]] [ints (addp os bey (splitS (S - tot os) (idx bey).length))]) ?_ 0 (Nat.zero_le _)
     · simpa [idx, tot] using key
     intro i hi ih
     rw [u_spread_Fill_l1]
     by_cases h : i < os.length
     · have hib : i < bey.length := by omega
       have htk : bey.take (i + 1) = bey.take i ++ [bey[i]] := List.take_succ_eq_append_getElem hib
       have hlk : (bey.take i).length = i := by simp; omega
       have hcl := idx_le (bey.take i)
       have ht1 := tot_take_drop os i
       have ht2 := tot_drop i h
       have ht3 := tot_at h00 i h
       have ht4 : tot (os.take (i + 1)) = tot (os.take i) + os[i] := by
        rw [List.take_succ_eq_append_getElem h, tot_append]
        simp [tot]
       have ht5 : 0 ≤ tot (os.take i) := tot_nonneg (fun x hx => h00 x (List.mem_of_mem_take hx))
       have ht6 : 0 ≤ tot (os.take (i + 1)) := tot_nonneg (fun x hx => h00 x (List.mem_of_mem_take hx))
       have hsub : S - tot (os.take i) - os[i] = S - tot (os.take (i + 1)) := by omega
       have hwr : IntKind.i64.wrap (S - tot (os.take i) - os[i]) = S - tot (os.take (i + 1)) := by rw [hsub]; exact wrap_in (by omega) (by omega)
       have hcl2 : ((idx (bey.take i)).length : Int) + 1 ≤ 4294967296 := by omega
       have ih' := ih h
       simp (disch := first | omega | (simp only [ln0]; omega)) only [rs, reduceIte, Nat.reduceAdd, h, hib, u_spread_Fill_j2, hwr]
       refine br_split ?_ ?_ <;> intro _
       · rename_i hx
         have e : (idx (bey.take (i + 1))).map Int.ofNat = (idx (bey.take i)).map Int.ofNat ++ [(i : Int)] := by rw [htk, idx_append, hlk]; simp [hx]
         first | refine ⟨by omega, ?_⟩ | skip
         rw [← e]
         exact ih'
       · rename_i hx
         have e : (idx (bey.take (i + 1))).map Int.ofNat = (idx (bey.take i)).map Int.ofNat := by rw [htk, idx_append]; simp [hx]
         rw [← e]
         exact ih'
     · have : i = os.length := by omega
       subst this
       rw [List.take_of_length_le (by omega), List.take_of_length_le (Nat.le_refl _)]
       simp (disch := first | omega | (simp only [ln0]; omega)) only [rs, reduceIte, Nat.reduceAdd, Nat.lt_irrefl, xcall_of (split_sp (S - tot os) _ (by omega : S - tot os ≤ 9223372036854775806))]
       have hsl := splitS_length (S - tot os) ((idx bey).length : Int)
       rw [Int.toNat_natCast] at hsl
       obtain ⟨ys, hys⟩ : ∃ ys, splitS (S - tot os) ((idx bey).length : Int) = ys := ⟨_, rfl⟩
       have hysin : ∀ y ∈ ys, 0 ≤ y ∧ y ≤ (S - tot os) + 1 := by rw [← hys]; exact splitS_in
       rw [hys] at hsl ⊢
       obtain ⟨J, hJ⟩ : ∃ J, J = JT.loop spread_Fill_l1 [I S, ints room, bools bey, ints os, B false] := ⟨_, rfl⟩
       rw [← hJ]
       have key := xup_ind (n := ys.length) (P := fun i => Run tr spread_Fill_l3 [I S, ints room, bools bey, ints os, B false, I os.length, ints ((idx bey).map Int.ofNat), I (S - tot os), ints ys, I i, ints (addp os bey (ys.take i))] [J, .loop spread_Fill_l3 [I S, ints room, bools bey, ints os, B false, I os.length, ints ((idx bey).map Int.ofNat), I (S - tot os), ints ys]] [ints (addp os bey ys)]) ?_ 0 (Nat.zero_le _)
       · simpa [addp_nil] using key
       intro i hi ih
       rw [u_spread_Fill_l3]
       by_cases h : i < ys.length
       · obtain ⟨h1', h2', h3', h4'⟩ := addp_step os bey ys i (by omega) h (by omega)
         have hil : i < (idx bey).length := by omega
         have hla : (addp os bey (ys.take i)).length = os.length := addp_length _ _ _
         have hin := hysin _ (List.getElem_mem h)
         have hin2 := h00 _ (List.getElem_mem h2')
         have hin3 : os[(idx bey)[i]] ≤ S := by
          have := tot_at h00 _ h2'
          have := tot_take_drop os (idx bey)[i]
          have : 0 ≤ tot (os.take (idx bey)[i]) := tot_nonneg (fun x hx => h00 x (List.mem_of_mem_take hx))
          omega
         have ih' := ih h
         rw [← h4'] at ih'
         have hwr : IntKind.i64.wrap ((addp os bey (ys.take i))[(idx bey)[i]] + ys[i]) = os[(idx bey)[i]] + ys[i] := by rw [h3']; exact wrap_in (by omega) (by omega)
         simp (disch := first | omega | (simp only [ln0]; omega)) only [rs, reduceIte, Nat.reduceAdd, h, hil, List.getElem_map, hla, Int.ofNat_eq_natCast, h1', h2', hwr]
         exact ih'
       · have : i = ys.length := by omega
         subst this
         rw [List.take_of_length_le (Nat.le_refl _)]
         simp (disch := first | omega | (simp only [ln0]; omega)) only [rs, reduceIte, Nat.reduceAdd, Nat.lt_irrefl]
   · have e : fillS S room bey = List.replicate room.length 0 := by unfold fillS; rw [if_neg (fun hh => hb hh.2)]
     have hne : ((bey.length : Int) != (room.length : Int)) = true := by
      rw [bne_iff_ne]
      omega
     rw [hne, e]
     exact hbad _
 · have e : fillS S room bey = List.replicate room.length 0 := by unfold fillS; rw [if_neg (fun hh => hu hh.1)]
   rw [e]
   rw [u_spread_Fill]
   simp (disch := first | omega | (simp only [ln0]; omega)) only [rs, reduceIte, Nat.reduceAdd, xcall_of (up_bad S room (by omega) hu), xcall_of (right_sp _ _)]
   refine br_split ?_ ?_ <;> intro _
   · rename_i h2
     have hb : roomsB room = false := by
      cases hr : roomsB room with
      | false => rfl
      | true =>
       rw [roomsB_iff] at hr
       simp at h2
       exact absurd ⟨by omega, by omega, by omega, hr⟩ hu
     simp (disch := first | omega | (simp only [ln0]; omega)) only [rs, reduceIte, Nat.reduceAdd, xcall_of (rooms_sp room (by omega)), hb, Bool.not_false, Bool.true_or]
     exact hbad _
   · exact hbad _
def byS (S : Int) (ws : List Int) : List Int :=
 if 0 ≤ S ∧ S < 1125899906842624 ∧ ws.length ≤ 65536 then
  (if 0 < (shareS (min S 68719476736) ws).length then shareS (min S 68719476736) ws else if 0 < (splitS S ws.length).length then splitS S ws.length else List.replicate ws.length 0)
 else List.replicate ws.length 0
theorem by_sp (S : Int) (ws : List Int) (hl : ws.length ≤ 1000000) : Says tr c_spread_By [I S, ints ws] [ints (byS S ws)] := by
 refine Says.of (t := spread_By) rfl ?_
 rw [u_spread_By]
 have hl2 : (ws.length : Int) ≤ 17592186044416 := by omega
 unfold byS
 by_cases hc : 0 ≤ S ∧ S < 1125899906842624 ∧ ws.length ≤ 65536
 · rw [if_pos hc]
   have hb : (decide (0 ≤ S) && decide (S < 1125899906842624) && decide ((ws.length : Int) ≤ 65536)) = true := by simp; omega
   simp (disch := first | omega | (simp only [ln0]; omega)) only [rs, reduceIte, Nat.reduceAdd, xcall_of (right_sp _ _), hb, xcall_of (share_sp (min S 68719476736) ws hl), gt_iff_lt]
   generalize shareS (min S 68719476736) ws = a
   by_cases h1 : 0 < a.length
   · rw [br_pos (by omega), if_pos h1]
   · rw [br_neg (by omega), if_neg h1]
     simp (disch := first | omega | (simp only [ln0]; omega)) only [rs, reduceIte, Nat.reduceAdd, xcall_of (split_sp S (ws.length : Int) (by omega : S ≤ 9223372036854775806)), gt_iff_lt]
     generalize splitS S (ws.length : Int) = b
     by_cases h2 : 0 < b.length
     · rw [br_pos (by omega), if_pos h2]
     · rw [br_neg (by omega), if_neg h2]
       simp (disch := first | omega | (simp only [ln0]; omega)) only [rs, reduceIte, Nat.reduceAdd, hl2]
 · rw [if_neg hc]
   have hb : (decide (0 ≤ S) && decide (S < 1125899906842624) && decide ((ws.length : Int) ≤ 65536)) = false := by
    rw [Bool.eq_false_iff]; intro hh; simp at hh; omega
   simp (disch := first | omega | (simp only [ln0]; omega)) only [rs, reduceIte, Nat.reduceAdd, xcall_of (right_sp _ _), hb, hl2, Bool.false_eq_true]
end Go.Proofs.Ytbebnjiolaomdaa.T

/- What the document's trees come to that share a space by rooms, and what is left to some, or by weights. No condition beyond what each states. -/
import Derived.Test.YtbebnjiolaomdaaGreatT
import Derived.Test.YtbebnjiolaomdaaGreatKfil
set_option linter.unusedVariables false
set_option linter.unusedSimpArgs false
set_option maxRecDepth 10000
namespace Go.Proofs.YtbebnjiolaomdaaGreat.T
open Go Go.Proofs.YtbebnjiolaomdaaGreat.Sx Go.Proofs.YtbebnjiolaomdaaGreat.M
theorem rup_sp (S : Int) (room : List Int) (h : UpOk S room) : Says tr c_ref23_Up [I S, ints room] [ints (upS S room)] := by
 obtain ⟨out, h1, h2⟩ := rup_ok S room h
 obtain ⟨_, h3⟩ := up_sp S room h
 rw [isup_unique h2 h3] at h1
 exact h1
theorem rfill_sp (S : Int) (room : List Int) (bey : List Bool) (hl : room.length ≤ 65536) (hbl : bey.length ≤ 65536) : Says tr c_ref23_Fill [I S, ints room, bools bey] [ints (fillS S room bey)] := by
 refine Says.of (t := ref23_Fill) rfl ?_
 rw [u_ref23_Fill]
 have hl2 : (room.length : Int) ≤ 17592186044416 := by omega
 by_cases hu : UpOk S room
 · by_cases hb : bey.length = room.length
   · have hR : RightB S room = true := (RightB_iff S room).2 hu
     have hne : ((bey.length : Int) != (room.length : Int)) = false := by simp [hb]
     simp (disch := first | omega | (simp only [ln0]; omega)) only [rs, reduceIte, Nat.reduceAdd, hl2, xcall_of (rright_sp S room), hR, hne, Bool.not_true, Bool.or_false, Bool.false_eq_true]
     try rw [br_neg (by simp)]
     simp (disch := first | omega | (simp only [ln0]; omega)) only [rs, reduceIte, Nat.reduceAdd, xcall_of (rup_sp S room hu)]
     obtain ⟨_, h2⟩ := up_sp S room hu
     have hul := isup_length h2
     obtain ⟨h00, h01, h02⟩ := left_in hu h2
     have e : fillS S room bey = addp (upS S room) bey (splitS (S - tot (upS S room)) (idx bey).length) := by unfold fillS; rw [if_pos ⟨hu, hb⟩]
     rw [e]
     obtain ⟨hS0, hS1, hm, hroom⟩ := hu
     generalize hos : upS S room = os at *
     have hix := idx_le bey
     have key := xup_ind (n := os.length) (P := fun i => Run tr ref23_Fill_l0 [I S, ints room, bools bey, B true, ints os, I i, I (idx (bey.take i)).length, I (S - tot (os.take i))] [.loop ref23_Fill_l0 [I S, ints room, bools bey, B true, ints os]] [ints (addp os bey (splitS (S - tot os) (idx bey).length))]) ?_ 0 (Nat.zero_le _)
     · simpa [idx, tot] using key
     intro i hi ih
     rw [u_ref23_Fill_l0]
     by_cases h : i < os.length
     · have hib : i < bey.length := by omega
       have htk : bey.take (i + 1) = bey.take i ++ [bey[i]] := List.take_succ_eq_append_getElem hib
       have hcl := idx_le (bey.take i)
       have hlk : (bey.take i).length = i := by simp; omega
       have ht1 := tot_take_drop os i
       have ht2 := tot_drop i h
       have ht3 := tot_at h00 i h
       have ht4 : tot (os.take (i + 1)) = tot (os.take i) + os[i] := by
        rw [List.take_succ_eq_append_getElem h, tot_append]
        simp [tot]
       have ht5 : 0 ≤ tot (os.take i) := tot_nonneg (fun x hx => h00 x (List.mem_of_mem_take hx))
       have ht6 : 0 ≤ tot (os.take (i + 1)) := tot_nonneg (fun x hx => h00 x (List.mem_of_mem_take hx))
       have hsub : S - tot (os.take i) - os[i] = S - tot (os.take (i + 1)) := by omega
       have hwr : IntKind.i64.wrap (S - tot (os.take i) - os[i]) = S - tot (os.take (i + 1)) := by rw [hsub]; exact wrap_in (by omega) (by omega)
       have ih' := ih h
       simp (disch := first | omega | (simp only [ln0]; omega)) only [rs, reduceIte, Nat.reduceAdd, h, hib, u_ref23_Fill_j1, hwr]
       refine br_split ?_ ?_ <;> intro _
       · rename_i hx
         have e : ((idx (bey.take (i + 1))).length : Int) = ((idx (bey.take i)).length : Int) + 1 := by rw [htk, idx_append]; simp [hx]
         rw [e] at ih'
         exact ih'
       · rename_i hx
         have e : ((idx (bey.take (i + 1))).length : Int) = ((idx (bey.take i)).length : Int) := by rw [htk, idx_append]; simp [hx]
         rw [e] at ih'
         exact ih'
     · have : i = os.length := by omega
       subst this
       rw [List.take_of_length_le (by omega), List.take_of_length_le (Nat.le_refl _)]
       simp (disch := first | omega | (simp only [ln0]; omega)) only [rs, reduceIte, Nat.reduceAdd, Nat.lt_irrefl, xcall_of (rsplit_sp (S - tot os) _ (by omega : S - tot os ≤ 9223372036854775806))]
       have hsl := splitS_length (S - tot os) ((idx bey).length : Int)
       rw [Int.toNat_natCast] at hsl
       obtain ⟨ys, hys⟩ : ∃ ys, splitS (S - tot os) ((idx bey).length : Int) = ys := ⟨_, rfl⟩
       have hysin : ∀ y ∈ ys, 0 ≤ y ∧ y ≤ (S - tot os) + 1 := by rw [← hys]; exact splitS_in
       rw [hys] at hsl ⊢
       obtain ⟨J, hJ⟩ : ∃ J, J = JT.loop ref23_Fill_l0 [I S, ints room, bools bey, B true, ints os] := ⟨_, rfl⟩
       rw [← hJ]
       have hal : (addp os bey ys).length = os.length := addp_length _ _ _
       have key := xup_ind (n := os.length) (P := fun i => Run tr ref23_Fill_l2 [I S, ints room, bools bey, B true, ints os, I os.length, I (idx bey).length, I (S - tot os), ints ys, I i, I (min (idx (bey.take i)).length ys.length : Nat), ints (mix (addp os bey ys) os i)] [J, .loop ref23_Fill_l2 [I S, ints room, bools bey, B true, ints os, I os.length, I (idx bey).length, I (S - tot os), ints ys]] [ints (addp os bey ys)]) ?_ 0 (Nat.zero_le _)
       · simpa [mix_zero, idx] using key
       intro i hi ih
       rw [u_ref23_Fill_l2]
       have hml : (mix (addp os bey ys) os i).length = os.length := mix_len hal i
       by_cases h : i < os.length
       · have hib : i < bey.length := by omega
         have htk : bey.take (i + 1) = bey.take i ++ [bey[i]] := List.take_succ_eq_append_getElem hib
         have hat : (mix (addp os bey ys) os i)[i]'(by omega) = os[i] := mix_at hal h (by omega)
         have hget := addp_get os bey ys i (by omega) h hib
         have ih' := ih h
         have hin2 := h00 _ (List.getElem_mem h)
         have hin3 : os[i] ≤ S := by
          have := tot_at h00 i h
          have := tot_take_drop os i
          have : 0 ≤ tot (os.take i) := tot_nonneg (fun x hx => h00 x (List.mem_of_mem_take hx))
          omega
         by_cases hc : bey[i] = true ∧ (idx (bey.take i)).length < ys.length
         · rw [dif_pos hc] at hget
           have hmin : min (idx (bey.take i)).length ys.length = (idx (bey.take i)).length := by omega
           have hmin2 : min (idx (bey.take (i + 1))).length ys.length = (idx (bey.take i)).length + 1 := by
            have : (idx (bey.take (i + 1))).length = (idx (bey.take i)).length + 1 := by rw [htk, idx_append]; simp [hc.1]
            omega
           have hset := mix_set hal h hget.symm
           have hin := hysin _ (List.getElem_mem hc.2)
           rw [hmin2, ← hset] at ih'
           rw [hmin]
           simp (disch := first | omega | (simp only [ln0]; omega)) only [rs, reduceIte, Nat.reduceAdd, h, hib, hml, u_ref23_Fill_j3, hc.1, hc.2, decide_true, Bool.and_true, hat]
           first | exact ih' | (push_cast at ih'; exact ih')
         · rw [dif_neg hc] at hget
           have hmin2 : min (idx (bey.take (i + 1))).length ys.length = min (idx (bey.take i)).length ys.length := by
            have : (idx (bey.take (i + 1))).length = (idx (bey.take i)).length + (if bey[i] = true then 1 else 0) := by rw [htk, idx_append]; split <;> simp_all
            by_cases hx : bey[i] = true
            · have : ¬ (idx (bey.take i)).length < ys.length := fun hh => hc ⟨hx, hh⟩
              rw [if_pos hx] at *
              omega
            · rw [if_neg hx] at *
              omega
           have hset := mix_set hal h hget.symm
           have hid : (mix (addp os bey ys) os i).set i os[i] = mix (addp os bey ys) os i := by
            conv => lhs; rw [← hat]
            exact List.set_getElem_self _
           rw [hid] at hset
           rw [hmin2, ← hset] at ih'
           have hcb : (bey[i] && decide ((min (idx (bey.take i)).length ys.length : Nat) < ys.length)) = false := by
            rw [Bool.eq_false_iff]
            intro hh
            simp only [Bool.and_eq_true, decide_eq_true_eq] at hh
            exact hc ⟨hh.1, by omega⟩
           simp (disch := first | omega | (simp only [ln0]; omega)) only [rs, reduceIte, Nat.reduceAdd, h, hib, hml, u_ref23_Fill_j3, hcb, Bool.false_eq_true]
           exact ih'
       · have : i = os.length := by omega
         subst this
         simp (disch := first | omega | (simp only [ln0]; omega)) only [rs, reduceIte, Nat.reduceAdd, Nat.lt_irrefl, hml]
         rw [mix_full hal]
   · have e : fillS S room bey = List.replicate room.length 0 := by unfold fillS; rw [if_neg (fun hh => hb hh.2)]
     have hne : ((bey.length : Int) != (room.length : Int)) = true := by
      rw [bne_iff_ne]
      omega
     rw [e]
     simp (disch := first | omega | (simp only [ln0]; omega)) only [rs, reduceIte, Nat.reduceAdd, hl2, xcall_of (rright_sp S room), hne, Bool.or_true]
 · have hR : RightB S room = false := by
    cases hr : RightB S room with
    | false => rfl
    | true => exact absurd ((RightB_iff S room).1 hr) hu
   have e : fillS S room bey = List.replicate room.length 0 := by unfold fillS; rw [if_neg (fun hh => hu hh.1)]
   rw [e]
   simp (disch := first | omega | (simp only [ln0]; omega)) only [rs, reduceIte, Nat.reduceAdd, hl2, xcall_of (rright_sp S room), hR, Bool.not_false, Bool.true_or]
theorem rby_sp (S : Int) (ws : List Int) (hl : ws.length ≤ 1000000) : Says tr c_ref23_By [I S, ints ws] [ints (byS S ws)] := by
 refine Says.of (t := ref23_By) rfl ?_
 rw [u_ref23_By]
 have hl2 : (ws.length : Int) ≤ 17592186044416 := by omega
 unfold byS
 by_cases hc : 0 ≤ S ∧ S < 1125899906842624 ∧ ws.length ≤ 65536
 · rw [if_pos hc]
   simp (disch := first | omega | (simp only [ln0]; omega)) only [rs, reduceIte, Nat.reduceAdd, hl2, bx, reduceCtorEq, forall_const, ne_eq]
   rw [br_neg (by omega)]
   simp (disch := first | omega | (simp only [ln0]; omega)) only [rs, reduceIte, Nat.reduceAdd, xcall_of (rshare_sp (min S 68719476736) ws hl), gt_iff_lt]
   generalize shareS (min S 68719476736) ws = a
   by_cases h1 : 0 < a.length
   · rw [br_pos (by omega), if_pos h1]
   · rw [br_neg (by omega), if_neg h1]
     simp (disch := first | omega | (simp only [ln0]; omega)) only [rs, reduceIte, Nat.reduceAdd, xcall_of (rsplit_sp S (ws.length : Int) (by omega : S ≤ 9223372036854775806)), gt_iff_lt]
     generalize splitS S (ws.length : Int) = b
     by_cases h2 : 0 < b.length
     · rw [br_pos (by omega), if_pos h2]
     · rw [br_neg (by omega), if_neg h2]
 · rw [if_neg hc]
   simp (disch := first | omega | (simp only [ln0]; omega)) only [rs, reduceIte, Nat.reduceAdd, hl2, bx, reduceCtorEq, forall_const, ne_eq]
   rw [br_pos (by omega)]
   trivial
end Go.Proofs.YtbebnjiolaomdaaGreat.T

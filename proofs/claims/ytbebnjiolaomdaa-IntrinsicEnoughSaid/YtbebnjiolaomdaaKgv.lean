/- Trees that stand within the sizer's tree, written once: what is wanted of a want, and what all wants give each track; and what they come to. No condition beyond what each states. -/
import Derived.Test.YtbebnjiolaomdaaT
import Derived.Test.YtbebnjiolaomdaaSx6
import Derived.Test.YtbebnjiolaomdaaKin4
import Derived.Test.YtbebnjiolaomdaaKrfil
set_option linter.unusedVariables false
set_option linter.unusedSimpArgs false
set_option maxRecDepth 10000
namespace Go.Proofs.Ytbebnjiolaomdaa.T
open Go Go.Proofs.Ytbebnjiolaomdaa.Sx Go.Proofs.Ytbebnjiolaomdaa.M
def gapsI (a : List Int) (w : Wn) : Int := gapsW ((a.drop (w.fm.toNat + 1)).take (w.to.toNat - (w.fm.toNat + 1))) 0
def InW (n : Nat) (w : Wn) : Prop := 0 ≤ w.fm ∧ w.fm < w.to ∧ w.to ≤ (n : Int)
theorem okW_in {n : Nat} {w : Wn} (h : okW n w = true) : InW n w := by
 simp only [okW, Bool.and_eq_true, decide_eq_true_eq] at h
 exact ⟨h.1.1.1.1.1, h.1.1.1.1.2, h.1.1.1.2⟩
def z0 : Sz := ⟨0, 0, 0, false, 0, 0, 0⟩
def atS (s : List Sz) (i : Nat) : Sz := s.getD i z0
theorem atS_lt {s : List Sz} {i : Nat} (h : i < s.length) : atS s i = s[i] := by simp [atS, h]
def whoU (of : Nat → Bool) : Nat → Nat → List Nat
 | 0, _ => []
 | c + 1, i => if of i then i :: whoU of c (i + 1) else whoU of c (i + 1)
theorem whoU_in (of : Nat → Bool) : ∀ (c i : Nat), ∀ x ∈ whoU of c i, i ≤ x ∧ x < i + c ∧ of x = true
 | 0, i => by simp [whoU]
 | c + 1, i => by
  intro x hx
  have ih := whoU_in of c (i + 1)
  simp only [whoU] at hx
  split at hx
  · rename_i h
    rcases List.mem_cons.1 hx with rfl | hx
    · exact ⟨Nat.le_refl _, by omega, h⟩
    · have := ih x hx; exact ⟨by omega, by omega, this.2.2⟩
  · have := ih x hx; exact ⟨by omega, by omega, this.2.2⟩
theorem whoU_len (of : Nat → Bool) : ∀ (c i : Nat), (whoU of c i).length ≤ c
 | 0, i => by simp [whoU]
 | c + 1, i => by
  have ih := whoU_len of c (i + 1)
  simp only [whoU]
  split <;> simp <;> omega
def spaceS (size : Sz → Int) : List Sz → Int → Int
 | [], n => n
 | x :: r, n => spaceS size r (IntKind.i64.wrap (n - size x))
def outU : List Nat → List Int → List Int → List Int
 | i :: is, x :: xs, out => outU is xs (out.set i (max (out.getD i 0) x))
 | _, _, out => out
theorem outU_len : ∀ (is : List Nat) (xs out : List Int), (outU is xs out).length = out.length
 | i :: is, x :: xs, out => by simp [outU, outU_len is xs]
 | [], _, out => by cases out <;> rfl
 | _ :: _, [], out => by rfl
noncomputable def shareF (room : Nat → Int) (far : Nat → Bool) (space : Int) (who : List Nat) : List Int :=
 fillS space (who.map room) (who.map fun i => far i || !(who.any far))
noncomputable def oneS (s : List Sz) (a : List Int) (wanted : Wn → Int) (size : Sz → Int) (of : Nat → Bool) (share : Int → List Nat → List Int) (w : Wn) (out : List Int) : List Int :=
 let space := spaceS size ((s.drop w.fm.toNat).take (w.to.toNat - w.fm.toNat)) (IntKind.i64.wrap (wanted w - gapsI a w))
 let who := whoU of (w.to.toNat - w.fm.toNat) w.fm.toNat
 if space ≤ 0 ∨ who.length = 0 then out else outU who (share space who) out
theorem oneS_len (s : List Sz) (a : List Int) (wanted : Wn → Int) (size : Sz → Int) (of : Nat → Bool) (share : Int → List Nat → List Int) (w : Wn) (out : List Int) : (oneS s a wanted size of share w out).length = out.length := by
 simp only [oneS]
 split
 · rfl
 · exact outU_len _ _ _
noncomputable def giveS (s : List Sz) (a : List Int) (wanted : Wn → Int) (size : Sz → Int) (of : Nat → Bool) (share : Int → List Nat → List Int) : List Wn → List Int → List Int
 | [], out => out
 | w :: ws, out => giveS s a wanted size of share ws (oneS s a wanted size of share w out)
section
variable {ws : List Wn} {s : List Sz} {a : List Int} {f1 f2 : Bool} {g : List Bool}
@[reducible] def nats (l : List Nat) : PV := ints (l.map Int.ofNat)
theorem out_run (J : List JT) (hJ : J.length = 6) (b : T) (ρb : List PV) (hj : J[1]? = some (.join b ρb)) {r : List PV} (k : Nat) (out0 : List Int) (x8 x9 x10 x11 x12 : PV) (who : List Nat) (x14 x15 x16 x17 x18 x19 : PV) (l : List Int) (hl : l.length = who.length) (hlen : who.length ≤ 100000)
    (out : List Int) (hw : ∀ i ∈ who, i < out.length)
    (hK : Run tr b (ρb ++ [ints (outU who l out)]) (J.take 1) r) :
    Run tr outL [rowOf eWn ws, rowOf eSz s, ints a, B f1, B f2, bools g, I k, ints out0, x8, x9, x10, x11, x12, nats who, x14, x15, x16, x17, x18, x19, ints l, I (0 : Nat), ints out] (J ++ [.loop outL [rowOf eWn ws, rowOf eSz s, ints a, B f1, B f2, bools g, I k, ints out0, x8, x9, x10, x11, x12, nats who, x14, x15, x16, x17, x18, x19, ints l]]) r := by
 have h6 : (J ++ [JT.loop outL [rowOf eWn ws, rowOf eSz s, ints a, B f1, B f2, bools g, I k, ints out0, x8, x9, x10, x11, x12, nats who, x14, x15, x16, x17, x18, x19, ints l]])[6]? = some (JT.loop outL [rowOf eWn ws, rowOf eSz s, ints a, B f1, B f2, bools g, I k, ints out0, x8, x9, x10, x11, x12, nats who, x14, x15, x16, x17, x18, x19, ints l]) := by
  rw [List.getElem?_append_right (by omega), hJ]; rfl
 have h1 : ∀ x, (J ++ [x])[1]? = some (.join b ρb) := fun x => by rw [List.getElem?_append_left (by omega), hj]
 have t6 : ∀ x, (J ++ [x]).take (6 + 1) = J ++ [x] := fun x => List.take_of_length_le (by simp; omega)
 have t1 : ∀ x : JT, (J ++ [x]).take 1 = J.take 1 := fun x => List.take_append_of_le_length (by omega)
 have key := xup_ind (n := l.length) (P := fun j => ∀ out : List Int, (∀ i ∈ who, i < out.length) → Run tr b (ρb ++ [ints (outU (who.drop j) (l.drop j) out)]) (J.take 1) r → Run tr outL [rowOf eWn ws, rowOf eSz s, ints a, B f1, B f2, bools g, I k, ints out0, x8, x9, x10, x11, x12, nats who, x14, x15, x16, x17, x18, x19, ints l, I j, ints out] (J ++ [.loop outL [rowOf eWn ws, rowOf eSz s, ints a, B f1, B f2, bools g, I k, ints out0, x8, x9, x10, x11, x12, nats who, x14, x15, x16, x17, x18, x19, ints l]]) r) ?_ 0 (Nat.zero_le _)
 · exact key out hw (by simpa using hK)
 intro j hj ih out hw hK
 rw [u_outL]
 by_cases h : j < l.length
 · have hjw : j < who.length := by omega
   rw [List.drop_eq_getElem_cons h, List.drop_eq_getElem_cons hjw] at hK
   simp only [outU] at hK
   have hi := hw _ (List.getElem_mem hjw)
   have hg : out.getD who[j] 0 = out[who[j]] := by simp [hi]
   rw [hg] at hK
   have ih' := ih h _ (fun i hi => by rw [List.length_set]; exact hw i hi) hK
   simp (disch := first | omega | (simp only [ln0]; omega)) only [rs, reduceIte, Nat.reduceAdd, h, hjw, List.getElem_map, Int.ofNat_eq_natCast, hi]
   rw [h6, jmp_loop, t6]
   simp (disch := first | omega | (simp only [ln0]; omega)) only [rs, reduceIte, Nat.reduceAdd]
   exact ih'
 · obtain rfl : j = l.length := by omega
   rw [List.drop_of_length_le (by omega), List.drop_of_length_le (Nat.le_refl _)] at hK
   simp only [outU] at hK
   simp (disch := first | omega | (simp only [ln0]; omega)) only [rs, reduceIte, Nat.reduceAdd, Nat.lt_irrefl]
   rw [h1, jmp_join, t1]
   exact hK
theorem bey_run (J : List JT) (hJ : J.length = 5) (b : T) (ρb : List PV) (hj : J[1]? = some (.join b ρb)) {r : List PV} (k : Nat) (out : List Int) (x8 x9 x10 x12 : PV) (sp : Int) (who : List Nat) (x14 : PV) (is : Bool) (rooms : List Int) (bey : List Bool)
    (hrl : rooms.length = who.length) (hbl : bey.length = who.length) (hlen : who.length ≤ 60000) (hw : ∀ i ∈ who, i < out.length)
    (hK : Run tr b (ρb ++ [ints (outU who (fillS sp rooms (bey.map (· || !is))) out)]) (J.take 1) r) :
    Run tr beyL [rowOf eWn ws, rowOf eSz s, ints a, B f1, B f2, bools g, I k, ints out, x8, x9, x10, I sp, x12, nats who, x14, B is, ints rooms, bools bey, I (0 : Nat), bools bey] (J ++ [.loop beyL [rowOf eWn ws, rowOf eSz s, ints a, B f1, B f2, bools g, I k, ints out, x8, x9, x10, I sp, x12, nats who, x14, B is, ints rooms, bools bey]]) r := by
 have h6 : (J ++ [JT.loop beyL [rowOf eWn ws, rowOf eSz s, ints a, B f1, B f2, bools g, I k, ints out, x8, x9, x10, I sp, x12, nats who, x14, B is, ints rooms, bools bey]])[5]? = some (JT.loop beyL [rowOf eWn ws, rowOf eSz s, ints a, B f1, B f2, bools g, I k, ints out, x8, x9, x10, I sp, x12, nats who, x14, B is, ints rooms, bools bey]) := by
  rw [List.getElem?_append_right (by omega), hJ]; rfl
 have h1 : ∀ x, (J ++ [x])[1]? = some (.join b ρb) := fun x => by rw [List.getElem?_append_left (by omega), hj]
 have t6 : ∀ x, (J ++ [x]).take (5 + 1) = J ++ [x] := fun x => List.take_of_length_le (by simp; omega)
 have t1 : ∀ x : JT, (J ++ [x]).take 1 = J.take 1 := fun x => List.take_append_of_le_length (by omega)
 have hal : (bey.map (· || !is)).length = bey.length := by simp
 have key := xup_ind (n := bey.length) (P := fun j => Run tr beyL [rowOf eWn ws, rowOf eSz s, ints a, B f1, B f2, bools g, I k, ints out, x8, x9, x10, I sp, x12, nats who, x14, B is, ints rooms, bools bey, I j, bools (mix (bey.map (· || !is)) bey j)] (J ++ [.loop beyL [rowOf eWn ws, rowOf eSz s, ints a, B f1, B f2, bools g, I k, ints out, x8, x9, x10, I sp, x12, nats who, x14, B is, ints rooms, bools bey]]) r) ?_ 0 (Nat.zero_le _)
 · simpa [mix_zero] using key
 intro j hj ih
 rw [u_beyL]
 have hml : (mix (bey.map (· || !is)) bey j).length = bey.length := mix_len hal j
 by_cases h : j < bey.length
 · have hat : (mix (bey.map (· || !is)) bey j)[j]'(by omega) = bey[j] := mix_at hal h (by omega)
   have ih' := ih h
   have hset := mix_set (a := bey.map (· || !is)) hal h (v := (bey[j] || !is)) (by simp)
   rw [← hset] at ih'
   simp (disch := first | omega | (simp only [ln0]; omega)) only [rs, reduceIte, Nat.reduceAdd, h, hml, hat]
   rw [h6, jmp_loop, t6]
   simp (disch := first | omega | (simp only [ln0]; omega)) only [rs, reduceIte, Nat.reduceAdd]
   exact ih'
 · obtain rfl : j = bey.length := by omega
   simp (disch := first | omega | (simp only [ln0]; omega)) only [rs, reduceIte, Nat.reduceAdd, Nat.lt_irrefl, mix_full hal, xcall_of (fill_sp sp rooms (bey.map (· || !is)) (by omega) (by simp; omega))]
   exact out_run _ (by simp; omega) b ρb (h1 _) k out x8 x9 x10 (I sp) x12 who x14 (B is) (ints rooms) (bools bey) (I bey.length) (bools (bey.map (· || !is))) _ (by rw [fillS_length, hrl]) (by omega) out hw (by rw [t1]; exact hK)
theorem any_take_succ {α : Type} (l : List α) (p : α → Bool) (j : Nat) (h : j < l.length) : (l.take (j + 1)).any p = ((l.take j).any p || p l[j]) := by
 rw [List.take_succ_eq_append_getElem h, List.any_append]
 simp
theorem rooms_run (roomT : T) (farF : Nat) (room : Nat → Int) (far : Sz → Bool) (J : List JT) (hJ : J.length = 4) (b : T) (ρb : List PV) (hj : J[1]? = some (.join b ρb)) {r : List PV} (k : Nat) (out : List Int) (x8 x9 x10 x12 : PV) (sp : Int) (who : List Nat)
    (hlen : who.length ≤ 60000) (hw : ∀ i ∈ who, i < out.length) (hws : ∀ i ∈ who, i < s.length)
    (hroom : ∀ (j : Nat) (hj : j < who.length) (y15 y16 y17 : PV), Run tr roomT [rowOf eWn ws, rowOf eSz s, ints a, B f1, B f2, bools g, I k, ints out, x8, x9, x10, I sp, x12, nats who, I j, y15, y16, y17] [] [I (room who[j])])
    (hfar : ∀ x, Says tr farF (eSz x) [B (far x)])
    (hK : Run tr b (ρb ++ [ints (outU who (shareF room (fun i => far (atS s i)) sp who) out)]) (J.take 1) r) :
    Run tr (fillT roomT farF) [rowOf eWn ws, rowOf eSz s, ints a, B f1, B f2, bools g, I k, ints out, x8, x9, x10, I sp, x12, nats who] J r := by
 have h6 : ∀ x, (J ++ [x])[4]? = some x := fun x => by
  rw [List.getElem?_append_right (by omega), hJ]; rfl
 have h1 : ∀ x, (J ++ [x])[1]? = some (.join b ρb) := fun x => by rw [List.getElem?_append_left (by omega), hj]
 have t6 : ∀ x, (J ++ [x]).take (4 + 1) = J ++ [x] := fun x => List.take_of_length_le (by simp; omega)
 have t1 : ∀ x : JT, (J ++ [x]).take 1 = J.take 1 := fun x => List.take_append_of_le_length (by omega)
 have a1 : (who.length : Int) ≤ 17592186044416 := by omega
 have a2 : (who.length : Int) ≤ 140737488355328 := by omega
 unfold fillT
 simp (disch := first | omega | (simp only [ln0]; omega)) only [rs, reduceIte, Nat.reduceAdd, List.length_map, a1, a2]
 have hr1 : (who.map room).length = (List.replicate who.length (0 : Int)).length := by simp
 have hr2 : (who.map fun i => far (atS s i)).length = (List.replicate who.length false).length := by simp
 have hrl : (List.replicate who.length (0 : Int)).length = who.length := by simp
 have hbl : (List.replicate who.length false).length = who.length := by simp
 have key := xup_ind (n := who.length) (P := fun j => Run tr (roomsL roomT farF) [rowOf eWn ws, rowOf eSz s, ints a, B f1, B f2, bools g, I k, ints out, x8, x9, x10, I sp, x12, nats who, I j, B ((who.take j).any fun i => far (atS s i)), ints (mix (who.map room) (List.replicate who.length 0) j), bools (mix (who.map fun i => far (atS s i)) (List.replicate who.length false) j)] (J ++ [.loop (roomsL roomT farF) [rowOf eWn ws, rowOf eSz s, ints a, B f1, B f2, bools g, I k, ints out, x8, x9, x10, I sp, x12, nats who]]) r) ?_ 0 (Nat.zero_le _)
 · simpa [mix_zero] using key
 intro j hj ih
 rw [u_roomsL]
 have hm1 : (mix (who.map room) (List.replicate who.length (0 : Int)) j).length = who.length := by rw [mix_len hr1 j, hrl]
 have hm2 : (mix (who.map fun i => far (atS s i)) (List.replicate who.length false) j).length = who.length := by rw [mix_len hr2 j, hbl]
 by_cases h : j < who.length
 · have hi := hws _ (List.getElem_mem h)
   have ih' := ih h
   have hset1 := mix_set hr1 (i := j) (by omega) (v := room who[j]) (by simp)
   have hset2 := mix_set hr2 (i := j) (by omega) (v := far (atS s who[j])) (by simp)
   rw [← hset1, ← hset2, any_take_succ _ _ _ h] at ih'
   have hfx := hfar s[who[j]]
   have hat : far s[who[j]] = far (atS s who[j]) := by rw [atS_lt hi]
   rw [hat] at hfx
   simp (disch := first | omega | (simp only [ln0]; omega)) only [rs, reduceIte, Nat.reduceAdd, h, List.getElem_map]
   rw [run_seq]
   refine ⟨_, hroom j h _ _ _, rfl, ?_⟩
   simp (disch := first | omega | (simp only [ln0]; omega)) only [rs, reduceIte, Nat.reduceAdd, h, List.getElem_map, Int.ofNat_eq_natCast, hi, sz_at0, sz_at1, sz_at2, sz_at3, sz_at4, sz_at5, sz_at6, sz_snoc, sz_set, sz_put5, sz_put6, xcall_of hfx, hm1, hm2, List.length_set, List.getElem_set_self, Bool.or_eq_true, or_true]
   rw [h6, jmp_loop, t6]
   simp (disch := first | omega | (simp only [ln0]; omega)) only [rs, reduceIte, Nat.reduceAdd]
   exact ih'
 · obtain rfl : j = who.length := by omega
   simp (disch := first | omega | (simp only [ln0]; omega)) only [rs, reduceIte, Nat.reduceAdd, Nat.lt_irrefl, List.length_map]
   have e1 : mix (who.map room) (List.replicate who.length (0 : Int)) who.length = who.map room := mix_full' hr1 (by omega)
   have e2 : mix (who.map fun i => far (atS s i)) (List.replicate who.length false) who.length = who.map fun i => far (atS s i) := mix_full' hr2 (by omega)
   rw [e1, e2, List.take_of_length_le (Nat.le_refl _)]
   refine bey_run _ (by simp; omega) b ρb (h1 _) k out x8 x9 x10 x12 sp who _ _ _ _ (by simp) (by simp) (by omega) hw ?_
   rw [t1]
   have : (who.map fun i => far (atS s i)).map (· || !(who.any fun i => far (atS s i))) = who.map fun i => far (atS s i) || !(who.any fun i => far (atS s i)) := by simp
   rw [this]
   exact hK
end
end Go.Proofs.Ytbebnjiolaomdaa.T

-- written by a program of this session (a print of the translation with changes of its own)
import Derived.Test.YtcmnfhenbeigdaaPAx0
import Derived.Test.YtcmnfhenbeigdaaPAx2
import Derived.Test.YtcmnfhenbeigdaaPAx3
import Derived.LoopIn
import Derived.LoopNIn
import Derived.OwnWalkIn
import Derived.RangeFuncBox
import Derived.RangeFuncCalls
import Derived.RangeFuncLeaves
import Derived.RangeFuncNested
import Derived.Shelf.Abstract
import Derived.TacticsInMore
namespace Go.Proofs.Ytcmnfhenbeigdaa.PA
open Go.RowKit Go.Proofs.YtcmnfhenbeigdaaW.PrintWords Go.Proofs.YtcmnfhenbeigdaaW.PrintLast Go.Proofs.YtcmnfhenbeigdaaW.PrintMore
attribute [local go_sem] max2_int min2_int max_two min_two max_three min_three max_four min_four   -- for this text's walks alone
set_option linter.unusedVariables false
set_option linter.unusedSimpArgs false

/-! ### fixed_Share: function 16 -/
-- IMPORTLIB Derived.RangeFuncBox
-- IMPORTLIB Derived.RangeFuncNested
-- IMPORTLIB Derived.RangeFuncCalls
-- IMPORTLIB Derived.RangeFuncLeaves
-- IMPORTLIB Derived.Shelf.Abstract
-- IMPORTLIB Derived.OwnWalkIn
-- IMPORTLIB Derived.TacticsInMore
-- IMPORTLIB Derived.LoopNIn
-- IMPORTLIB Derived.LoopIn
/-- What each weight gets, one by one. -/
def fixed_Share.parts (k : Nat) (n all : Int) : Int → Int → List Int → Option (List Int)
  | _, _, [] => some []
  | sum, was, w :: ws => (fixed_MulDiv.f k n (sum + w) all).bind fun m => (fixed_Share.parts k n all (sum + w) m.1 ws).bind fun r => some (wrap64 (m.1 - was) :: r)
def fixed_Share.ok (ws : List Int) : Bool := ws.all fun w => decide (0 ≤ w ∧ w ≤ 1073741824)
def fixed_Share.sum : List Int → Int
  | [] => 0
  | w :: ws => w + fixed_Share.sum ws
def fixed_Share.f (k : Nat) (n : Int) (ws : List Int) : Option (List Int) :=
  if n < 0 ∨ 68719476736 < n ∨ 65536 < ws.length ∨ fixed_Share.ok ws = false ∨ fixed_Share.sum ws = 0 then some [] else fixed_Share.parts k n (fixed_Share.sum ws) 0 0 ws

theorem fixed_Share.sum_append (a b : List Int) : fixed_Share.sum (a ++ b) = fixed_Share.sum a + fixed_Share.sum b := by
  induction a with
  | nil => simp [fixed_Share.sum]
  | cons x a ih => simp [fixed_Share.sum, ih]; omega
theorem fixed_Share.sum_bd (a : List Int) (h : fixed_Share.ok a = true) : 0 ≤ fixed_Share.sum a ∧ fixed_Share.sum a ≤ a.length * 1073741824 := by
  induction a with
  | nil => simp [fixed_Share.sum]
  | cons x a ih =>
    simp only [fixed_Share.ok, List.all_cons, Bool.and_eq_true, decide_eq_true_eq] at h
    have := ih h.2
    simp only [fixed_Share.sum, List.length_cons]
    omega
theorem fixed_Share.ok_take (a : List Int) (h : fixed_Share.ok a = true) (i : Nat) : fixed_Share.ok (a.take i) = true := by
  unfold fixed_Share.ok at *
  rw [List.all_eq_true] at *
  exact fun x hx => h x (List.mem_of_mem_take hx)
theorem fixed_Share.take_succ (a : List Int) (i : Nat) (h : i < a.length) : fixed_Share.sum (a.take (i + 1)) = fixed_Share.sum (a.take i) + a[i] := by
  rw [List.take_succ_eq_append_getElem h, fixed_Share.sum_append]
  simp [fixed_Share.sum]
/-- Where a part stands. -/
theorem fixed_Share.step {k : Nat} {n all sum was : Int} {ws r : List Int} (i : Nat) (h : fixed_Share.parts k n all sum was (ws.drop i) = some (r.drop i)) (hi : i < ws.length) (hr : r.length = ws.length) :
    ∃ m e, fixed_MulDiv.f k n (sum + ws[i]) all = some (m, e) ∧ wrap64 (m - was) = r[i]'(by omega) ∧ fixed_Share.parts k n all (sum + ws[i]) m (ws.drop (i + 1)) = some (r.drop (i + 1)) := by
  rw [List.drop_eq_getElem_cons hi, List.drop_eq_getElem_cons (show i < r.length by omega)] at h
  simp only [fixed_Share.parts] at h
  obtain ⟨⟨m, e⟩, hm, h⟩ := Option.bind_eq_some_iff.mp h
  obtain ⟨r', hr', h⟩ := Option.bind_eq_some_iff.mp h
  simp only [Option.some.injEq, List.cons.injEq] at h
  exact ⟨m, e, hm, h.1, by rw [hr', h.2]⟩
theorem fixed_Share.parts_length {k : Nat} {n all : Int} : ∀ {sum was : Int} {ws r : List Int}, fixed_Share.parts k n all sum was ws = some r → r.length = ws.length := by
  intro sum was ws
  induction ws generalizing sum was with
  | nil => intro r h; simp [fixed_Share.parts] at h; subst h; rfl
  | cons w ws ih =>
    intro r h
    simp only [fixed_Share.parts] at h
    obtain ⟨⟨m, e⟩, hm, h⟩ := Option.bind_eq_some_iff.mp h
    obtain ⟨r', hr', h⟩ := Option.bind_eq_some_iff.mp h
    simp only [Option.some.injEq] at h
    subst h
    simp [ih hr']
theorem fixed_Share.mono : ∀ n ws k, LeO (fixed_Share.f k n ws) (fixed_Share.f (k + 1) n ws) := by
  have hp : ∀ (ws : List Int) (k : Nat) (n all sum was : Int), LeO (fixed_Share.parts k n all sum was ws) (fixed_Share.parts (k + 1) n all sum was ws) := by
    intro ws
    induction ws with
    | nil => intro k n all sum was; exact LeO.refl _
    | cons w ws ih =>
      intro k n all sum was
      exact LeO.bind (fixed_MulDiv.mono _ _ _ _) (fun m => LeO.bind (ih k n all _ _) (fun r => LeO.refl _))
  intro n ws k
  unfold fixed_Share.f
  exact LeO.ite (LeO.refl _) (hp _ _ _ _ _ _)

section
attribute [local go_sem] Oper.semAt_some
theorem fixed_Share.grown_drew (W : World) (n : Nat) : W.grownBy (W.drewN n) none := grown_of_below (pw_below_drewN (Below.refl _ _) n) none

/-- What the loop's body leaves alone: all blocks below B, but one. -/
def fixed_Share.Kp (o B : Nat) (W W' : World) : Prop := W.heap.size ≤ W'.heap.size ∧ ∀ i, i < B → i ≠ o → W'.heap[i]? = W.heap[i]?
theorem fixed_Share.Kp.trans {o B : Nat} {X Y Z : World} (h : fixed_Share.Kp o B X Y) (h' : fixed_Share.Kp o B Y Z) : fixed_Share.Kp o B X Z :=
  ⟨Nat.le_trans h.1 h'.1, fun i hi ho => (h'.2 i hi ho).trans (h.2 i hi ho)⟩
theorem fixed_Share.Kp.refl (o B : Nat) (X : World) : fixed_Share.Kp o B X X := ⟨Nat.le_refl _, fun _ _ _ => rfl⟩
theorem fixed_Share.cell_same {W W' : World} {p : Addr} (h : W'.heap[p.block]? = W.heap[p.block]?) : W'.cell? p = W.cell? p := by unfold World.cell?; rw [h]
theorem fixed_Share.Kp.cell {o B : Nat} {W W' : World} (h : fixed_Share.Kp o B W W') {p : Addr} (hp : p.block < B) (ho : p.block ≠ o) : W'.cell? p = W.cell? p := fixed_Share.cell_same (h.2 _ hp ho)
set_option maxRecDepth 100000 in
set_option maxHeartbeats 4000000 in
/-- shares$1: each part goes to the loop's body, one behind the other. -/
theorem fixed_Share.iter (k : Nat) (l Bw Bn Ba o n₀ : Nat) (n all : Int) (A : Option Addr) (c : Nat) (ws r : List Int) (J Jx : List Int → World → Prop) (hreach : ws.length ≤ 65536) (hok : fixed_Share.ok ws = true)
    (hp : fixed_Share.parts k n all 0 0 ws = some r)
    (hY : ∀ pre x W, J pre W → pre.length < ws.length → YieldAt Fence.wide 9 Try.prog l #[.int .i64 x] W fun e W' =>
      (e = .returned (.bool true) ∧ J (pre ++ [x]) W' ∧ fixed_Share.Kp o n₀ W W') ∨ (e = .returned (.bool false) ∧ Jx (pre ++ [x]) W'))
    (W : World) (hJd : ∀ pre W n, J pre W → J pre (W.drewN n)) (hBn : Bn < n₀ ∧ Bn ≠ o) (hBa : Ba < n₀ ∧ Ba ≠ o)
    (cw : W.cell? ⟨Bw, 0, none⟩ = some (.slice A ws.length c)) (cn : W.cell? ⟨Bn, 0, none⟩ = some (.int .i64 n)) (ca : W.cell? ⟨Ba, 0, none⟩ = some (.int .i64 all))
    (hC : Kd.C (Kd.int .i64) W A ws.length ws) (hA : ∀ ad, A = some ad → ws ≠ [] → ad.block < n₀ ∧ ad.block ≠ o) (h0 : J [] W) :
    CallsIn Fence.wide 10 Try.prog 41 #[.func (.yield l) #[] #[], .pointer (some ⟨Bw, 0, none⟩), .pointer (some ⟨Bn, 0, none⟩), .pointer (some ⟨Ba, 0, none⟩)] W fun e W' => (∃ v, e = .returned v) ∧
      ((∃ ys, ys = r ∧ J ys W') ∨ (∃ pre, pre <+: r ∧ Jx pre W')) := by
  have hrl := fixed_Share.parts_length hp
  refine callsIn_of_wp Try.func41 rfl trivial ?_ rfl
  simp only [Try.ntmps41, List.size_toArray, List.length_cons, List.length_nil, Nat.reduceAdd, Nat.reduceSub, Array.replicate_succ, Array.replicate_zero, List.push_toArray, List.append_toArray, List.nil_append, List.cons_append]
  gi_wp2
  gi_loopw [5, 6, 13] (fun s was i wr => ∃ (j : Nat) (wasv : Int), j ≤ ws.length ∧ i = .int .i64 j ∧ s = .int .i64 (fixed_Share.sum (ws.take j)) ∧ was = .int .i64 wasv ∧ Aside0 (fixed_Share.parts k n all (fixed_Share.sum (ws.take j)) wasv (ws.drop j) = some (r.drop j)) ∧ J (r.take j) wr ∧ fixed_Share.Kp o n₀ W wr)
    (fun _ _ i _ => ws.length - (intOf i).toNat)
  case atStart => exact ⟨0, 0, Nat.zero_le _, rfl, rfl, rfl, ⟨by simpa [fixed_Share.sum] using hp⟩, by simpa using h0, fixed_Share.Kp.refl _ _ _⟩
  case round =>
    obtain ⟨j, wasv, hj, rfl, rfl, rfl, hP, hJs, hnx⟩ := hrel
    have cn' := (hnx.cell (p := ⟨Bn, 0, none⟩) hBn.1 hBn.2).trans cn
    have ca' := (hnx.cell (p := ⟨Ba, 0, none⟩) hBa.1 hBa.2).trans ca
    by_cases hlt : j < ws.length
    · obtain ⟨m, e, hm, hd, hP'⟩ := fixed_Share.step j hP.out hlt hrl
      have HM := Aside0.mk hm
      have HD := Aside0.mk hd
      clear hm hd hp
      obtain ⟨ad, eA, hx⟩ := Kd.at_int hC (j : Int) (by omega) (by omega)
      cases eA
      have hx' := (hnx.cell (by rw [add_block]; exact (hA ad rfl (by rintro rfl; simp at hlt)).1) (by rw [add_block]; exact (hA ad rfl (by rintro rfl; simp at hlt)).2)).trans hx
      have hrd : rd ws (j : Int) = ws[j] := by simp [rd, hlt]
      rw [hrd] at hx'
      simp only [Int.toNat_natCast] at hx'
      clear hx hrd
      have hb1 := fixed_Share.sum_bd (ws.take j) (fixed_Share.ok_take ws hok j)
      have hb2 := fixed_Share.sum_bd (ws.take (j + 1)) (fixed_Share.ok_take ws hok (j + 1))
      have hts := fixed_Share.take_succ ws j hlt
      rw [hts] at hb2
      have hl1 : (ws.take j).length ≤ 65536 := by simp; omega
      have hl2 : (ws.take (j + 1)).length ≤ 65536 := by simp; omega
      have HT := Aside0.mk hts
      clear hts
      gi_wp2_with (refine ⟨trivial, ?_⟩; gi_at_call 17; refine (callsIn_wide.2 (fixed_MulDiv.calls k _ _ _ _ _ _ HM.out)).mono ?_; rintro e w' ⟨rfl, ⟨nd, rfl⟩⟩)
      obtain ⟨fn, tmps, assign, body, hy, hR⟩ := hY (r.take j) (wrap64 (m - wasv)) (wr.drewN nd) (hJd _ _ _ hJs) (by simp; omega)
      have hpre : r.take j ++ [wrap64 (m - wasv)] = r.take (j + 1) := by rw [HD.out, List.take_succ_eq_append_getElem]
      rw [hpre] at hR
      have HPRE := Aside0.mk hpre
      have HP' := Aside0.mk hP'
      clear hpre hP'
      rw [hy]
      gi_wp2
      refine hR.mono ?_
      rintro e W3 (⟨rfl, hJ3, hk3⟩ | ⟨rfl, hJx3⟩)
      · gi_wp2
        go_roundw
        case rel => exact ⟨j + 1, m, by omega, by simp, by rw [HT.out], rfl, ⟨by rw [HT.out]; exact HP'.out⟩, hJ3, (hnx.trans (by exact ⟨Nat.le_refl _, fun _ _ _ => rfl⟩ : fixed_Share.Kp o n₀ wr (wr.drewN nd))).trans hk3⟩
        case measure => simp [intOf]; omega
      · gi_wp2
        refine bodyPost_ret (results_none rfl _ _ _) rfl ?_
        exact ⟨⟨_, rfl⟩, .inr ⟨_, List.take_prefix _ _, hJx3⟩⟩
    · obtain rfl : j = ws.length := by omega
      have hr' : r.take ws.length = r := by rw [← hrl]; exact List.take_length
      gi_wp2
      go_end0
      exact ⟨⟨_, rfl⟩, .inl ⟨_, rfl, by rw [hr'] at hJs; exact hJs⟩⟩

set_option maxHeartbeats 1000000 in
/-- shares: what it is given is boxed; the function value holds the boxes. -/
theorem fixed_Share.maker (n all : Int) (A : Option Addr) (m c : Nat) (w : World) :
    CallsIn Fence.wide 10 Try.prog 32 #[.int .i64 n, .int .i64 all, .slice A m c] w fun e w' => e = .returned (.func (.func 41) #[] #[.pointer (some ⟨w.heap.size + 2, 0, none⟩), .pointer (some ⟨w.heap.size, 0, none⟩), .pointer (some ⟨w.heap.size + 1, 0, none⟩)]) ∧
      w' = ((w.alloc (.cells #[.int .i64 n] 3)).alloc (.cells #[.int .i64 all] 3)).alloc (.cells #[.slice A m c] 25) := by
  refine callsIn_of_wp Try.func32 rfl trivial ?_ rfl
  simp only [Try.ntmps32, List.size_toArray, List.length_cons, List.length_nil, Nat.reduceAdd, Nat.reduceSub, Array.replicate_succ, Array.replicate_zero, List.push_toArray, List.append_toArray, List.nil_append, List.cons_append]
  gi_wp2
  go_ret
  exact ⟨rfl, rfl⟩

theorem fixed_Share.info3 : (Try.prog.info? 3).map (fun i => (i.zero, i.size, i.bytes)) = some (some (.int .i64 0), 1, 8) := by kernel_rfl

theorem fixed_Share.res (tmps : Array Value) (W : World) (g : Nat) (v : Value) (hp : tmps.getD 4 undef = .pointer (some ⟨g, 0, none⟩)) (hc : W.cell? ⟨g, 0, none⟩ = some v) : (results Try.f16 tmps).run Try.prog W = .ok v W := by
  have hr : Try.f16.results = #[.cell 4 25] := rfl
  have hp' : tmps[4]?.getD undef = .pointer (some ⟨g, 0, none⟩) := by simpa using hp
  simp [results, hr, hp', asAddr, loadVar, isAgg, Sem.run_bind, Result.andThen, Try.underlying25, go_sem, hc]
theorem fixed_Share.fin (w : World) (tmps : Array Value) (hp : tmps.getD 4 undef = .pointer (some ⟨w.heap.size, 0, none⟩)) : bodyPostM Fence.wide 11 Try.prog Try.f16 (fun e w' => ∃ v0_ : Value, e = .returned (v0_) ∧ w'.ownsRow w.heap.size 3 1 v0_ 0 [] ∧ Below w.heap.size w w') Exit.ret { tmps, defers := [] } (w.alloc (.cells #[.slice none 0 0] 25)) := by
  exact ⟨_, fixed_Share.res tmps _ _ _ hp (Boxed.new w 25 (.slice none 0 0)).cell, ⟨_, rfl, World.ownsRow_nil _ _ _ _, (Below.refl _ w).alloc (Nat.le_refl _) _⟩⟩
set_option maxRecDepth 100000 in
set_option maxHeartbeats 4000000 in
theorem fixed_Share.callsIn (k : Nat) (a0 : Int) (A1 : Option Addr) (c1 : Nat) (l1 : List Int) (r : List Int) (w : World) (hr1 : Kd.C (Kd.int .i64) w A1 l1.length l1) (hc1 : l1.length ≤ c1) (h : fixed_Share.f k a0 l1 = some r) :
    CallsIn Fence.wide 11 Try.prog 16 #[.int .i64 a0, .slice A1 l1.length c1] w fun e w' => ∃ v0_ : Value, e = .returned (v0_) ∧ w'.ownsRow w.heap.size 3 1 v0_ r.length (r.map (Value.int .i64)) ∧ Below w.heap.size w w' := by
  obtain ⟨i0, hi, hz0, hz1, hz2⟩ := info_parts fixed_Share.info3
  have HI := Aside0.mk hi
  clear hi
  have HF := Aside0.mk h
  clear h
  have bO := Boxed.new w 25 (.slice none 0 0)
  have cO := bO.cell
  have fO := bO.frozen
  have hB0 : Below w.heap.size w (w.alloc (.cells #[.slice none 0 0] 25)) := (Below.refl _ w).alloc (Nat.le_refl _) _
  refine callsIn_of_wp_marks Try.func16 rfl trivial ?_ rfl
  simp only [Try.ntmps16, List.size_toArray, List.length_cons, List.length_nil, Nat.reduceAdd, Nat.reduceSub, Array.replicate_succ, Array.replicate_zero, List.push_toArray, List.append_toArray, List.nil_append, List.cons_append]
  have hnil : fixed_Share.f k a0 l1 = some [] → r = [] := fun e => by have := HF.out; rw [e] at this; simpa using this.symm
  by_cases hbig : a0 < 0 ∨ 68719476736 < a0 ∨ 65536 < l1.length
  · obtain rfl := hnil (by unfold fixed_Share.f; rw [if_pos (by rcases hbig with h | h | h <;> simp [h])])
    by_cases h1 : a0 < 0
    · gi_wp2
      exact fixed_Share.fin w _ rfl
    · by_cases h2 : 68719476736 < a0
      · gi_wp2
        exact fixed_Share.fin w _ rfl
      · have h3 : 65536 < l1.length := by omega
        gi_wp2
        exact fixed_Share.fin w _ rfl
  · have h1 : 0 ≤ a0 := by omega
    have h2 : a0 ≤ 68719476736 := by omega
    have h3 : l1.length ≤ 65536 := by omega
    clear hbig
    have e1 : decide (a0 < 0) = false := by simpa using h1
    have e2 : decide (68719476736 < a0) = false := by simpa using h2
    have e3 : decide ((65536 : Int) < (l1.length : Int)) = false := by simp; omega
    have e4 : decide (65536 < l1.length) = false := by simp; omega
    gi_wp2
    gi_loop [5, 22] (fun al i => ∃ j : Nat, j ≤ l1.length ∧ i = .int .i64 j ∧ al = .int .i64 (fixed_Share.sum (l1.take j)) ∧ Aside0 (fixed_Share.ok (l1.take j) = true)) (fun _ i => l1.length - (intOf i).toNat)
    case atStart => exact ⟨0, Nat.zero_le _, rfl, rfl, ⟨rfl⟩⟩
    case round =>
      obtain ⟨j, hj, rfl, rfl, hok⟩ := hrel
      have hb1 := fixed_Share.sum_bd (l1.take j) hok.out
      have hl1 : (l1.take j).length ≤ 65536 := by simp; omega
      by_cases hlt : j < l1.length
      · obtain ⟨ad, eA, hx⟩ := Kd.at_int hr1 (j : Int) (by omega) (by omega)
        cases eA
        have hx' := (hB0.cell (World.block_lt_of_cell? w _ hx)).trans hx
        have hrd : rd l1 (j : Int) = l1[j] := by simp [rd, hlt]
        rw [hrd] at hx'
        simp only [Int.toNat_natCast] at hx'
        clear hx hrd
        have HT := Aside0.mk (fixed_Share.take_succ l1 j hlt)
        by_cases hw : 0 ≤ l1[j] ∧ l1[j] ≤ 1073741824
        · obtain ⟨w1, w2⟩ := hw
          have w3 : decide (l1[j] < 0) = false := by simpa using w1
          have w4 : decide (1073741824 < l1[j]) = false := by simpa using w2
          have HO : Aside0 (fixed_Share.ok (l1.take (j + 1)) = true) := by
            have := hok.out
            refine ⟨?_⟩
            unfold fixed_Share.ok at *
            rw [List.take_succ_eq_append_getElem hlt, List.all_append, this]
            simp [w1, w2]
          gi_wp2
          go_round
          case rel => exact ⟨j + 1, by omega, by simp, by rw [HT.out], HO⟩
          case measure => simp [intOf]; omega
        · obtain rfl := hnil (by
            unfold fixed_Share.f
            have : fixed_Share.ok l1 = false := by
              unfold fixed_Share.ok
              rw [List.all_eq_false]
              exact ⟨l1[j], List.getElem_mem hlt, by simpa using hw⟩
            rw [if_pos (by simp [this])])
          by_cases w1 : l1[j] < 0
          · have w3 : decide (l1[j] < 0) = true := by simpa using w1
            gi_wp2
            exact fixed_Share.fin w _ rfl
          · have w3 : decide (l1[j] < 0) = false := by simpa using w1
            have w4 : decide (1073741824 < l1[j]) = true := by simp; omega
            gi_wp2
            exact fixed_Share.fin w _ rfl
      · obtain rfl : j = l1.length := by omega
        have hl2 : l1.take l1.length = l1 := List.take_length
        rw [hl2] at hok hb1
        simp only [hl2]
        by_cases hz : fixed_Share.sum l1 = 0
        · obtain rfl := hnil (by unfold fixed_Share.f; rw [if_pos (by simp [hz])])
          have z1 : (fixed_Share.sum l1 == 0) = true := by simpa using hz
          gi_wp2
          exact fixed_Share.fin w _ rfl
        · have z1 : (fixed_Share.sum l1 == 0) = false := by simpa using hz
          gi_wp2_with (refine ⟨trivial, ?_⟩; gi_at_call 32; refine (fixed_Share.maker _ _ _ _ _ _).mono ?_; rintro e w' ⟨rfl, rfl⟩)
          have hparts : fixed_Share.parts k a0 (fixed_Share.sum l1) 0 0 l1 = some r := by
            have := HF.out
            unfold fixed_Share.f at this
            rw [if_neg (by simp [hz, hok.out]; omega)] at this
            exact this
          have HP := Aside0.mk hparts
          have HRL := Aside0.mk (fixed_Share.parts_length hparts)
          clear hparts hnil
          have bN := Boxed.new (w.alloc (.cells #[.slice none 0 0] 25)) 3 (.int .i64 a0)
          have bA := Boxed.new ((w.alloc (.cells #[.slice none 0 0] 25)).alloc (.cells #[.int .i64 a0] 3)) 3 (.int .i64 (fixed_Share.sum l1))
          have bW := Boxed.new (((w.alloc (.cells #[.slice none 0 0] 25)).alloc (.cells #[.int .i64 a0] 3)).alloc (.cells #[.int .i64 (fixed_Share.sum l1)] 3)) 25 (.slice A1 l1.length c1)
          simp only [World.size_alloc] at bN bA bW
          have hBl : Below w.heap.size w ((((w.alloc (.cells #[.slice none 0 0] 25)).alloc (.cells #[.int .i64 a0] 3)).alloc (.cells #[.int .i64 (fixed_Share.sum l1)] 3)).alloc (.cells #[.slice A1 l1.length c1] 25)) :=
            (((hB0.alloc (by simp) _).alloc (by simp; omega) _).alloc (by simp; omega) _)
          refine wpIn_rangeFunc_ownG rfl (by omega) (gf := 41) (lb := #[.pointer (some ⟨w.heap.size + 1 + 2, 0, none⟩), .pointer (some ⟨w.heap.size + 1, 0, none⟩), .pointer (some ⟨w.heap.size + 1 + 1, 0, none⟩)]) rfl trivial (enters_of Try.func41 (by kernel_rfl) rfl)
            (encs := fun x : Int => #[Value.int .i64 x]) (Kp := fixed_Share.Kp w.heap.size (w.heap.size + 4)) (S := fun ys => ys = r) (Sp := fun pre => pre <+: r) (N := l1.length) (w0 := ((((w.alloc (.cells #[.slice none 0 0] 25)).alloc (.cells #[.int .i64 a0] 3)).alloc (.cells #[.int .i64 (fixed_Share.sum l1)] 3)).alloc (.cells #[.slice A1 l1.length c1] 25)))
            ?seq (fun h h' => h.trans h') ?kb (Below.refl _ _) (fun _ => rfl)
            (fun pre W => (∃ v, Boxed W w.heap.size 25 v ∧ W.ownsRow (w.heap.size + 4) 3 1 v pre.length (pre.map (Value.int .i64)) ∧ True) ∧ Below w.heap.size w W ∧ w.heap.size + 4 ≤ W.heap.size)
            (fun _ _ _ => False)
            (OwnFrom.and (Own.from (holdsRow_own (w.heap.size + 4) w.heap.size 25 3 1 (fun pre : List Int => pre.length) (fun pre => pre.map (Value.int .i64)) (fun _ _ => True)) _) (OwnFrom.and (ownFrom_below (Nat.le_refl _) (by simp; omega)) (fun _ _ _ _ hs hg _ => Nat.le_trans hs hg.size)))
            (fun _ _ _ _ _ hs _ _ => hs)
            ⟨⟨_, ((bO.alloc _).alloc _).alloc _, World.ownsRow_nil _ _ _ _, trivial⟩, hBl, by simp⟩
            ?a1 ?assign ?body ?done ?stop
          case assign =>
            intro l x W K hK
            gi_wp2
            exact hK
          case seq =>
            intro l J Jx W hW hJ hJx hY h0
            have hsz : (((((w.alloc (.cells #[.slice none 0 0] 25)).alloc (.cells #[.int .i64 a0] 3)).alloc (.cells #[.int .i64 (fixed_Share.sum l1)] 3)).alloc (.cells #[.slice A1 l1.length c1] 25))).heap.size = w.heap.size + 4 := by simp
            rw [hsz] at hW
            refine (fixed_Share.iter k l (w.heap.size + 1 + 2) (w.heap.size + 1) (w.heap.size + 1 + 1) w.heap.size (w.heap.size + 4) a0 (fixed_Share.sum l1) A1 c1 l1 r J Jx h3 hok.out HP.out hY W (fun pre W n hj => hJ pre W _ none hj (fixed_Share.grown_drew W n) (fun r e => by cases e)) (by omega) (by omega) ?_ ?_ ?_ ?_ ?_ h0)
            · exact (hW.cell (p := ⟨w.heap.size + 1 + 2, 0, none⟩) (by show w.heap.size + 1 + 2 < w.heap.size + 4; omega)).trans bW.cell
            · exact (hW.cell (p := ⟨w.heap.size + 1, 0, none⟩) (by show w.heap.size + 1 < w.heap.size + 4; omega)).trans ((bN.alloc _).alloc _).cell
            · exact (hW.cell (p := ⟨w.heap.size + 1 + 1, 0, none⟩) (by show w.heap.size + 1 + 1 < w.heap.size + 4; omega)).trans (bA.alloc _).cell
            · exact Kd.C_below hr1 (hBl.trans (hW.mono (by omega)))
            · intro ad hA hne
              subst hA
              obtain ⟨ad', e', hx⟩ := Kd.at_int hr1 0 (by omega) (by have : 0 < l1.length := List.length_pos_iff.mpr hne; omega)
              cases e'
              have := World.block_lt_of_cell? w _ hx
              rw [add_block] at this
              omega
          case kb =>
            intro W l o o' hl ho _ _
            simp at hl
            exact ⟨by simp [World.putObj], fun i hi _ => World.putObj_heap_other (by omega)⟩
          case body =>
            rintro l pre x W ⟨⟨v, hv, hrow, _⟩, hB, hWs⟩ hlt'
            have hc := hv.cell
            have hi := HI.out
            gi_wp2_with (gi_at_builtin; refine wpListIn_append_own _ rfl _ _ 25 rfl (w.heap.size + 4) 3 i0 (.int .i64 0) 1 8 Try.underlying25 hi hz0 hz1 hz2 rfl (by decide) _ _ _ rfl (hrow.alloc _) ⟨W.heap.size, 0, none⟩ 1 1 [.int .i64 x] rfl rfl (cell_one_new _ _ _) (by simp [Value.oneCell']) (by unfold maxLen; omega) (by omega) (by simp; omega) ?_; intro v' w1 hown' hgrow _; obtain ⟨g', cap', rfl⟩ := ownsRow_succ hown'; obtain ⟨hv1, hv2, hr2, hk2, hb2⟩ := hv.appended (by decide) (own_weaken (base' := w.heap.size) hrow (by omega)) hB.size (Nat.le_refl _) (own_weaken (base' := w.heap.size) hown' (by omega)) hgrow; have hc1 := hv1.cell; have hf1 := hv1.frozen)
            refine ⟨hk2.from _, ⟨hb2.size, fun i hi ho => ?_⟩, ⟨_, hv2, ?_, trivial⟩, hB.trans hb2, Nat.le_trans hWs hb2.size⟩
            · refine (Below.heap_setCell w1 ⟨w.heap.size, 0, none⟩ _ i ho).trans ((hgrow.block i (by simp; omega) (fun e => ?_)).trans (Below.heap_alloc W _ i (by omega)))
              have := own_base hrow i e.symm
              omega
            · have := own_setCell hown' (p := ⟨w.heap.size, 0, none⟩) (hv1.not_row (by decide) hown') (.slice (some ⟨g', 0, none⟩) (pre.length + 1) cap')
              simpa using this
          case done =>
            rintro D ys W hD rfl ⟨⟨v, hv, hrow, _⟩, hB, hWs⟩ hK
            have hc := hv.cell
            have hf := hv.frozen
            obtain ⟨Av, cv, rfl⟩ := own_slice hrow
            gi_wp2
            have hK2 := (KeepsOthers.setCell W ⟨w.heap.size, 0, none⟩ (.slice Av ys.length cv)).same D _ hK rfl
            have hDs : w.heap.size + 4 ≤ D := by simpa using hD
            have hv2 := hv.set (.slice Av ys.length cv)
            have hr2 := own_setCell hrow (p := ⟨w.heap.size, 0, none⟩) (hv.not_row (by decide) hrow) (.slice Av ys.length cv)
            refine ⟨by simp, .inl ⟨_, _, rfl, run_takeDeferred hK2, ?_⟩⟩
            have hv3 := (hv2.kept (grownBy_putObj' _ D (.deferred none)) (fun e => by simp at e; omega)).cell
            refine ⟨_, fixed_Share.res _ _ w.heap.size _ rfl hv3, ⟨_, rfl, own_weaken (base := w.heap.size + 4) (base' := w.heap.size) (ownsRow_putObj hr2 _ hK2 rfl) (by omega), ?_⟩⟩
            exact (hB.setCell (p := ⟨w.heap.size, 0, none⟩) (Nat.le_refl _) _).trans (belowK_b (w := w) (Nat.le_refl _) _ D _ _ (by omega) hK2 rfl rfl)
          case stop =>
            rintro D c pre W _ _ h _
            exact h.elim
theorem fixed_Share.calls (k : Nat) (a0 : Int) (A1 : Option Addr) (c1 : Nat) (l1 : List Int) (r : List Int) (w : World) (hr1 : Kd.C (Kd.int .i64) w A1 l1.length l1) (hc1 : l1.length ≤ c1) (h : fixed_Share.f k a0 l1 = some r) :
    Calls Try.prog 16 #[.int .i64 a0, .slice A1 l1.length c1] w fun e w' => ∃ v0_ : Value, e = .returned (v0_) ∧ Kd.R (Kd.int .i64) 3 w' w.heap.size (fun _ => True) v0_ r ∧ Below w.heap.size w w' := by
  refine ((callsIn_wide (n := 11)).1 (fixed_Share.callsIn k a0 A1 c1 l1 r w hr1 hc1 h)).mono ?_
  rintro e w' ⟨v, rfl, ho, hb⟩
  exact ⟨v, rfl, Kd.R_of_own ho (fun _ _ => trivial), hb⟩
end


/-! ### parterreref01_Ints: function 31 -/
def parterreref01_Ints.l0 : Nat → List Int → List Int → Int → Option (Bool)
  | 0, _, _, _ => none
  | k + 1, x0, x1, x5 => if x5 < (x0.length : Int) then (if 0 ≤ x5 then (if x5 < (x1.length : Int) then (if (rd x0 x5) = (rd x1 x5) then (parterreref01_Ints.l0 k x0 x1 (wrap64 (x5 + 1))) else (some false)) else (none)) else (none)) else (some true)
def parterreref01_Ints.f (k : Nat) (l0 : List Int) (l1 : List Int) : Option (Bool) := if (l0.length : Int) = (l1.length : Int) then (parterreref01_Ints.l0 k l0 l1 0) else (some false)
theorem parterreref01_Ints.mono_l : ∀ k, (∀ y0 y1 y2, LeO (parterreref01_Ints.l0 k y0 y1 y2) (parterreref01_Ints.l0 (k + 1) y0 y1 y2))
  | 0 => fun _ _ _ r h => by simp [parterreref01_Ints.l0] at h
  | k + 1 => by
    have ih0 := parterreref01_Ints.mono_l k
    · intro y0 y1 y2
      unfold parterreref01_Ints.l0
      repeat' first
      | (with_reducible exact ih0 _ _ _)
      | (with_reducible exact LeO.refl _)
      | (with_reducible exact LeO.none _)
      | (with_reducible refine LeO.ite ?_ ?_)
      | (with_reducible refine LeO.bind ?_ (fun _ => ?_))
      | exact ih0 _ _ _
      | exact LeO.none _
      | refine LeO.ite ?_ ?_
      | refine LeO.bind ?_ (fun _ => ?_)
theorem parterreref01_Ints.mono : ∀ a0 a1 k, LeO (parterreref01_Ints.f k a0 a1) (parterreref01_Ints.f (k + 1) a0 a1) := by
  intro a0 a1 k
  have ih0 := parterreref01_Ints.mono_l k
  unfold parterreref01_Ints.f
  repeat' first
      | (with_reducible exact ih0 _ _ _)
      | (with_reducible exact LeO.refl _)
      | (with_reducible exact LeO.none _)
      | (with_reducible refine LeO.ite ?_ ?_)
      | (with_reducible refine LeO.bind ?_ (fun _ => ?_))
      | exact ih0 _ _ _
      | exact LeO.none _
      | refine LeO.ite ?_ ?_
      | refine LeO.bind ?_ (fun _ => ?_)
set_option maxHeartbeats 8000000 in
set_option maxRecDepth 100000 in
theorem parterreref01_Ints.calls (k : Nat) (A0 : Option Addr) (c0 : Nat) (l0 : List Int) (A1 : Option Addr) (c1 : Nat) (l1 : List Int) (r : Bool) (w : World) (hr0 : Kd.C (Kd.int .i64) w A0 l0.length l0) (hc0 : l0.length ≤ c0) (hr1 : Kd.C (Kd.int .i64) w A1 l1.length l1) (hc1 : l1.length ≤ c1) (h : parterreref01_Ints.f k l0 l1 = some r) :
    Calls Try.prog 31 #[.slice A0 l0.length c0, .slice A1 l1.length c1] w fun e w' => e = .returned (.bool r) ∧ Drawn0 w w' := by
  have HR0 := Aside0.mk hr0
  have HC0 := Aside0.mk hc0
  clear hr0 hc0
  have HR1 := Aside0.mk hr1
  have HC1 := Aside0.mk hc1
  clear hr1 hc1
  have H : (if (l0.length : Int) = (l1.length : Int) then (parterreref01_Ints.l0 k l0 l1 0) else (some false)) = some r := h
  clear h
  by_cases c3 : (l0.length : Int) = (l1.length : Int)
  · rw [if_pos c3] at H
    have c3b0 : ((l0.length : Int) == (l1.length : Int)) = true := beq_iff_eq.mpr c3
    have c3b1 : ((l0.length : Int) != (l1.length : Int)) = false := bne_eq_false_iff_eq.mpr c3
    have c3b2 : (l0.length == l1.length) = true := by first | simpa using c3 | (simp at c3 ⊢; omega)
    clear c3
    have H' := Aside0.mk H
    clear H
    go_enter Try.func31, Try.ntmps31
    go_wp2
    repeat (go_quiet (fail); try go_wp2)
    go_loopg [5] k (fun kq v5 w' => ∃ (x5_1 : Int), v5 = .int .i64 x5_1 ∧ Aside0 (parterreref01_Ints.l0 kq l0 l1 x5_1 = some r) ∧ Aside0 (kq ≤ k) ∧ Drawn0 w w')
    case atStart => exact ⟨(0), (by first | rfl | (simp; done) | (simp [*]; done)), H', ⟨Nat.le_refl _⟩, by repeat (first | exact Drawn0.refl _ | apply Drawn0.step)⟩
    case round =>
      clear H'
      try clear c1
      try clear p2
      try clear c3
      try clear c3b0
      try clear c3b1
      try clear c3b2
      obtain ⟨x5_1, rfl, HA, HK1, ⟨m1, rfl⟩⟩ := hrel
      cases gk with
      | zero => exact absurd HA.out (by simp [parterreref01_Ints.l0])
      | succ k1 =>
        have H := HA.out
        clear HA
        simp only [parterreref01_Ints.l0] at H
        by_cases c4 : x5_1 < (l0.length : Int)
        · rw [if_pos c4] at H
          have c4b0 : decide (x5_1 < (l0.length : Int)) = true := decide_eq_true c4
          clear c4
          by_cases c5 : 0 ≤ x5_1
          · rw [if_pos c5] at H
            have c5b0 : decide (0 ≤ x5_1) = true := decide_eq_true c5
            clear c5
            by_cases c6 : x5_1 < (l1.length : Int)
            · rw [if_pos c6] at H
              have c6b0 : decide (x5_1 < (l1.length : Int)) = true := decide_eq_true c6
              clear c6
              by_cases c7 : (rd l0 x5_1) = (rd l1 x5_1)
              · rw [if_pos c7] at H
                have c7b0 : ((rd l0 x5_1) == (rd l1 x5_1)) = true := beq_iff_eq.mpr c7
                have c7b1 : ((rd l0 x5_1) != (rd l1 x5_1)) = false := bne_eq_false_iff_eq.mpr c7
                clear c7
                have H' := Aside0.mk H
                clear H
                have p117 : 0 ≤ (x5_1 : Int) := of_decide_eq_true (by first | (with_reducible assumption) | assumption)
                have q117 : x5_1 < (l0.length : Int) := of_decide_eq_true (by first | (with_reducible assumption) | assumption)
                obtain ⟨ad117, e117, hx117_0⟩ := Kd.at_int HR0.out x5_1 p117 q117
                cases e117
                replace p117 := eq_true p117
                replace q117 := eq_true q117
                have p118 : 0 ≤ (x5_1 : Int) := of_decide_eq_true (by first | (with_reducible assumption) | assumption)
                have q118 : x5_1 < (l1.length : Int) := of_decide_eq_true (by first | (with_reducible assumption) | assumption)
                obtain ⟨ad118, e118, hx118_0⟩ := Kd.at_int HR1.out x5_1 p118 q118
                cases e118
                replace p118 := eq_true p118
                replace q118 := eq_true q118
                go_wp2
                repeat (go_quiet (fail); try go_wp2)
                go_roundg k1
                case measure => have := HK1.out; omega
                case rel => exact ⟨(wrap64 (x5_1 + 1)), (by first | rfl | (simp; done) | (simp [*]; done)), H', ⟨by have := HK1.out; omega⟩, by repeat (first | exact Drawn0.refl _ | apply Drawn0.step)⟩
              · rw [if_neg c7] at H
                have c7b0 : ((rd l0 x5_1) == (rd l1 x5_1)) = false := beq_eq_false_iff_ne.mpr c7
                have c7b1 : ((rd l0 x5_1) != (rd l1 x5_1)) = true := bne_iff_ne.mpr c7
                obtain rfl := Option.some.inj H
                have p117 : 0 ≤ (x5_1 : Int) := of_decide_eq_true (by first | (with_reducible assumption) | assumption)
                have q117 : x5_1 < (l0.length : Int) := of_decide_eq_true (by first | (with_reducible assumption) | assumption)
                obtain ⟨ad117, e117, hx117_0⟩ := Kd.at_int HR0.out x5_1 p117 q117
                cases e117
                replace p117 := eq_true p117
                replace q117 := eq_true q117
                have p118 : 0 ≤ (x5_1 : Int) := of_decide_eq_true (by first | (with_reducible assumption) | assumption)
                have q118 : x5_1 < (l1.length : Int) := of_decide_eq_true (by first | (with_reducible assumption) | assumption)
                obtain ⟨ad118, e118, hx118_0⟩ := Kd.at_int HR1.out x5_1 p118 q118
                cases e118
                replace p118 := eq_true p118
                replace q118 := eq_true q118
                go_wp2
                repeat (go_quiet (fail); try go_wp2)
                go_ret
                exact ⟨by first | rfl | (simp; done) | (simp [*]; done), by repeat (first | exact Drawn0.refl _ | apply Drawn0.step)⟩
            · rw [if_neg c6] at H
              exact absurd H (by simp)
          · rw [if_neg c5] at H
            exact absurd H (by simp)
        · rw [if_neg c4] at H
          have c4b0 : decide (x5_1 < (l0.length : Int)) = false := decide_eq_false c4
          clear c4
          obtain rfl := Option.some.inj H
          go_wp2
          repeat (go_quiet (fail); try go_wp2)
          go_ret
          exact ⟨by first | rfl | (simp; done) | (simp [*]; done), by repeat (first | exact Drawn0.refl _ | apply Drawn0.step)⟩
  · rw [if_neg c3] at H
    have c3b0 : ((l0.length : Int) == (l1.length : Int)) = false := beq_eq_false_iff_ne.mpr c3
    have c3b1 : ((l0.length : Int) != (l1.length : Int)) = true := bne_iff_ne.mpr c3
    have c3b2 : (l0.length == l1.length) = false := by first | simpa using c3 | (simp at c3 ⊢; omega)
    obtain rfl := Option.some.inj H
    go_enter Try.func31, Try.ntmps31
    go_wp2
    repeat (go_quiet (fail); try go_wp2)
    go_ret
    exact ⟨by first | rfl | (simp; done) | (simp [*]; done), by repeat (first | exact Drawn0.refl _ | apply Drawn0.step)⟩

/-! ### parterrelaw01_lives: function 14 -/
def parterrelaw01_lives.f (k : Nat)  : Option (Bool) := (fixed_Div.f (-7) 2).bind fun t119 => (if t119 = (-4) then ((fixed_Mod.f (-7) 2).bind fun t120 => (if t120 = 1 then ((fixed_Split.f k 10 3).bind fun t121 => ((parterreref01_Ints.f k t121 (([4, 3, 3] : List Int))).bind fun t127 => (if t127 = true then ((fixed_Share.f k 10 (([1, 1, 1] : List Int))).bind fun t131 => ((parterreref01_Ints.f k t131 (([3, 3, 4] : List Int))).bind fun t137 => (some t137))) else (some false)))) else (some false))) else (some false))
theorem parterrelaw01_lives.mono : ∀ k, LeO (parterrelaw01_lives.f k ) (parterrelaw01_lives.f (k + 1) ) := by
  intro  k
  unfold parterrelaw01_lives.f
  repeat' first
      | (with_reducible exact fixed_Share.mono _ _ _)
      | (with_reducible exact fixed_Split.mono _ _ _)
      | (with_reducible exact parterreref01_Ints.mono _ _ _)
      | (with_reducible exact LeO.refl _)
      | (with_reducible exact LeO.none _)
      | (with_reducible refine LeO.ite ?_ ?_)
      | (with_reducible refine LeO.bind ?_ (fun _ => ?_))
      | exact fixed_Share.mono _ _ _
      | exact fixed_Split.mono _ _ _
      | exact parterreref01_Ints.mono _ _ _
      | exact LeO.none _
      | refine LeO.ite ?_ ?_
      | refine LeO.bind ?_ (fun _ => ?_)
set_option maxHeartbeats 8000000 in
set_option maxRecDepth 100000 in
theorem parterrelaw01_lives.calls (k : Nat)  (r : Bool) (w : World) (h : parterrelaw01_lives.f k  = some r) :
    Calls Try.prog 14 #[] w fun e w' => e = .returned (.bool r) ∧ Below w.heap.size w w' := by
  have HB := Aside0.mk (Below.refl w.heap.size w)
  have H : ((fixed_Div.f (-7) 2).bind fun t119 => (if t119 = (-4) then ((fixed_Mod.f (-7) 2).bind fun t120 => (if t120 = 1 then ((fixed_Split.f k 10 3).bind fun t121 => ((parterreref01_Ints.f k t121 (([4, 3, 3] : List Int))).bind fun t127 => (if t127 = true then ((fixed_Share.f k 10 (([1, 1, 1] : List Int))).bind fun t131 => ((parterreref01_Ints.f k t131 (([3, 3, 4] : List Int))).bind fun t137 => (some t137))) else (some false)))) else (some false))) else (some false))) = some r := h
  clear h
  replace H := Option.bind_eq_some_iff.mp H
  obtain ⟨t119, A10, H⟩ := H
  replace H : (if t119 = (-4) then ((fixed_Mod.f (-7) 2).bind fun t120 => (if t120 = 1 then ((fixed_Split.f k 10 3).bind fun t121 => ((parterreref01_Ints.f k t121 (([4, 3, 3] : List Int))).bind fun t127 => (if t127 = true then ((fixed_Share.f k 10 (([1, 1, 1] : List Int))).bind fun t131 => ((parterreref01_Ints.f k t131 (([3, 3, 4] : List Int))).bind fun t137 => (some t137))) else (some false)))) else (some false))) else (some false)) = some r := H
  have A1 := Aside0.mk A10
  clear A10
  by_cases c2 : t119 = (-4)
  · rw [if_pos c2] at H
    have c2b0 : (t119 == (-4)) = true := beq_iff_eq.mpr c2
    have c2b1 : (t119 != (-4)) = false := bne_eq_false_iff_eq.mpr c2
    clear c2
    replace H := Option.bind_eq_some_iff.mp H
    obtain ⟨t120, A30, H⟩ := H
    replace H : (if t120 = 1 then ((fixed_Split.f k 10 3).bind fun t121 => ((parterreref01_Ints.f k t121 (([4, 3, 3] : List Int))).bind fun t127 => (if t127 = true then ((fixed_Share.f k 10 (([1, 1, 1] : List Int))).bind fun t131 => ((parterreref01_Ints.f k t131 (([3, 3, 4] : List Int))).bind fun t137 => (some t137))) else (some false)))) else (some false)) = some r := H
    have A3 := Aside0.mk A30
    clear A30
    by_cases c4 : t120 = 1
    · rw [if_pos c4] at H
      have c4b0 : (t120 == 1) = true := beq_iff_eq.mpr c4
      have c4b1 : (t120 != 1) = false := bne_eq_false_iff_eq.mpr c4
      clear c4
      replace H := Option.bind_eq_some_iff.mp H
      obtain ⟨t121, A50, H⟩ := H
      replace H : ((parterreref01_Ints.f k t121 (([4, 3, 3] : List Int))).bind fun t127 => (if t127 = true then ((fixed_Share.f k 10 (([1, 1, 1] : List Int))).bind fun t131 => ((parterreref01_Ints.f k t131 (([3, 3, 4] : List Int))).bind fun t137 => (some t137))) else (some false))) = some r := H
      have A5 := Aside0.mk A50
      clear A50
      obtain ⟨y124, hy124⟩ : ∃ y_ : List Int, y_ = (([4, 3, 3] : List Int)) := ⟨_, rfl⟩
      replace H : ((parterreref01_Ints.f k t121 y124).bind fun t127 => (if t127 = true then ((fixed_Share.f k 10 (([1, 1, 1] : List Int))).bind fun t131 => ((parterreref01_Ints.f k t131 (([3, 3, 4] : List Int))).bind fun t137 => (some t137))) else (some false))) = some r := by first | (rw [hy124]; with_reducible exact H) | (have H2_ := (Option.bind_some _ _).symm.trans H; rw [hy124]; with_reducible exact H2_) | (have H2_ := (Option.bind_some _ _).symm.trans H; with_reducible exact H2_) | with_reducible exact H | (rw [hy124]; exact H) | exact H
      have Ny124 := Aside0.mk hy124
      clear hy124
      replace H := Option.bind_eq_some_iff.mp H
      obtain ⟨t127, A60, H⟩ := H
      replace H : (if t127 = true then ((fixed_Share.f k 10 (([1, 1, 1] : List Int))).bind fun t131 => ((parterreref01_Ints.f k t131 (([3, 3, 4] : List Int))).bind fun t137 => (some t137))) else (some false)) = some r := H
      have A6 := Aside0.mk A60
      clear A60
      by_cases c7 : t127 = true
      · subst c7
        have H1 : ((fixed_Share.f k 10 (([1, 1, 1] : List Int))).bind fun t131 => ((parterreref01_Ints.f k t131 (([3, 3, 4] : List Int))).bind fun t137 => (some t137))) = some r := by rw [if_pos rfl] at H; exact H
        clear H
        have H := H1
        clear H1
        obtain ⟨y128, hy128⟩ : ∃ y_ : List Int, y_ = (([1, 1, 1] : List Int)) := ⟨_, rfl⟩
        replace H : ((fixed_Share.f k 10 y128).bind fun t131 => ((parterreref01_Ints.f k t131 (([3, 3, 4] : List Int))).bind fun t137 => (some t137))) = some r := by first | (rw [hy128]; with_reducible exact H) | (have H2_ := (Option.bind_some _ _).symm.trans H; rw [hy128]; with_reducible exact H2_) | (have H2_ := (Option.bind_some _ _).symm.trans H; with_reducible exact H2_) | with_reducible exact H | (rw [hy128]; exact H) | exact H
        have Ny128 := Aside0.mk hy128
        clear hy128
        replace H := Option.bind_eq_some_iff.mp H
        obtain ⟨t131, A80, H⟩ := H
        replace H : ((parterreref01_Ints.f k t131 (([3, 3, 4] : List Int))).bind fun t137 => (some t137)) = some r := H
        have A8 := Aside0.mk A80
        clear A80
        obtain ⟨y134, hy134⟩ : ∃ y_ : List Int, y_ = (([3, 3, 4] : List Int)) := ⟨_, rfl⟩
        replace H : ((parterreref01_Ints.f k t131 y134).bind fun t137 => (some t137)) = some r := by first | (rw [hy134]; with_reducible exact H) | (have H2_ := (Option.bind_some _ _).symm.trans H; rw [hy134]; with_reducible exact H2_) | (have H2_ := (Option.bind_some _ _).symm.trans H; with_reducible exact H2_) | with_reducible exact H | (rw [hy134]; exact H) | exact H
        have Ny134 := Aside0.mk hy134
        clear hy134
        replace H := Option.bind_eq_some_iff.mp H
        obtain ⟨t137, A90, H⟩ := H
        replace H : (some t137) = some r := H
        have A9 := Aside0.mk A90
        clear A90
        obtain rfl := Option.some.inj H
        go_enter Try.func14, Try.ntmps14
        go_wp2_with (first | ((with_reducible refine gate_callee (f := 10) rfl ?_); refine goesL_ (some 1) rfl rfl Try.func10 (by kernel_rfl) rfl #[.int .i64 (-7), .int .i64 2] rfl (by (try simp only [List.map_toArray, List.map_cons, List.map_nil]); first | done | rfl | (simp only [List.length_drop, List.length_take]; rfl)) ?_; (with_reducible refine (fixed_Div.calls (-7) 2 t119 _ A1.out).mono ?_); rintro e w' ⟨rfl, ⟨nd, rfl⟩⟩; refine ⟨_, rfl, ?_⟩) | (go_at_call 12; (with_reducible refine (fixed_Mod.calls (-7) 2 t120 _ A3.out).mono ?_); rintro e w' ⟨rfl, ⟨nd, rfl⟩⟩) | (go_at_call 15; (with_reducible refine (fixed_Split.calls k 10 3 t121 _ A5.out).mono ?_); rintro e w10 ⟨v122, rfl, ho0, hb⟩; have n0_ := Aside0.mk (Kd.R_lower ho0 (below_size (by repeat (first | (with_reducible first | exact HB.out | apply below_alloc | apply pw_below_drewN | apply below_drew1) | exact HB.out)))); have n1_ := Aside0.mk (below_step (by repeat (first | (with_reducible first | exact HB.out | apply below_alloc | apply pw_below_drewN | apply below_drew1) | exact HB.out)) hb); clear HB; have HO123 := n0_; have HB := n1_; clear n0_ n1_; (try clear hb); (try clear hb2); (try clear hk); (try clear hi); (try clear ho0)) | ((with_reducible refine gate_dst (N := 9) rfl ?_); (try (refine gate_guard (by rfl) ?_; dsimp only)); refine Kd.R_lit (Kd.int .i64) _ 3 ?hg (N := 9) ?hd (xs := ([4, 3, 3] : List Int)) (inner := [.int .i64 4, .int .i64 3, .int .i64 3]) (ok := fun _ => True) (okp := fun _ => True) ?hr ?hp (fun _ hk => hk) trivial (Below.refl _ _) (Nat.le_refl _) (by simp) ?_; (case hd => rfl); (case hg => rfl); (case hr => first | (go_simp; done) | (go_simp; rfl)); (case hp => exact (Reps.one (show Kd.M (Kd.int .i64) _ _ _ 4 [.int .i64 4] from rfl) (Reps.one (show Kd.M (Kd.int .i64) _ _ _ 3 [.int .i64 3] from rfl) (Reps.one (show Kd.M (Kd.int .i64) _ _ _ 3 [.int .i64 3] from rfl) (Reps.none _ _))))); intro v125 w11 ho12 hb hg_ hnew_; clear hg_ hnew_; (first | rw [← Ny124.out] at ho12 | (simp only [Int.reduceToNat] at ho12; rw [← Ny124.out] at ho12)); have n0_ := Aside0.mk (Kd.R_elder' (by (with_reducible repeat (first | apply Kd.R_alloc | apply Kd.R_drewN | apply Kd.R_drew)); exact HO123.out) (Kd.R_base ho12) hb); have n1_ := Aside0.mk (Kd.R_lower (Kd.R_new' ho12 (Kd.R_lt (by (with_reducible repeat (first | apply Kd.R_alloc | apply Kd.R_drewN | apply Kd.R_drew)); exact HO123.out))) (below_size (by repeat (first | (with_reducible first | exact HB.out | apply below_alloc | apply pw_below_drewN | apply below_drew1) | exact HB.out)))); have n2_ := Aside0.mk (below_step (by repeat (first | (with_reducible first | exact HB.out | apply below_alloc | apply pw_below_drewN | apply below_drew1) | exact HB.out)) hb); clear HO123; clear HB; have HO123 := n0_; have HO126 := n1_; have HB := n2_; clear n0_ n1_ n2_; clear hb ho12; obtain ⟨Ao13, co13, eo13⟩ := Kd.R_slice HO123.out; subst eo13; obtain ⟨Ao14, co14, eo14⟩ := Kd.R_slice HO126.out; subst eo14) | (go_at_call 31; (with_reducible refine (parterreref01_Ints.calls k _ _ t121 _ _ y124 true _ ?side1 ?side2 ?side3 ?side4 A6.out).mono ?_); (case side1 => repeat (first | exact (Kd.R_reads' HO123.out).2.2 | (with_reducible refine Kd.C_alloc ?_ _) | (with_reducible refine Kd.C_drewN ?_ _) | (with_reducible refine Kd.C_drew ?_))); (case side2 => exact (Kd.R_reads' HO123.out).2.1); (case side3 => repeat (first | exact (Kd.R_reads' HO126.out).2.2 | (with_reducible refine Kd.C_alloc ?_ _) | (with_reducible refine Kd.C_drewN ?_ _) | (with_reducible refine Kd.C_drew ?_))); (case side4 => exact (Kd.R_reads' HO126.out).2.1); rintro e w' ⟨rfl, ⟨nd, rfl⟩⟩) | ((with_reducible refine gate_dst (N := 13) rfl ?_); (try (refine gate_guard (by rfl) ?_; dsimp only)); refine Kd.R_lit (Kd.int .i64) _ 3 ?hg (N := 13) ?hd (xs := ([1, 1, 1] : List Int)) (inner := [.int .i64 1, .int .i64 1, .int .i64 1]) (ok := fun _ => True) (okp := fun _ => True) ?hr ?hp (fun _ hk => hk) trivial (Below.refl _ _) (Nat.le_refl _) (by simp) ?_; (case hd => rfl); (case hg => rfl); (case hr => first | (go_simp; done) | (go_simp; rfl)); (case hp => exact (Reps.one (show Kd.M (Kd.int .i64) _ _ _ 1 [.int .i64 1] from rfl) (Reps.one (show Kd.M (Kd.int .i64) _ _ _ 1 [.int .i64 1] from rfl) (Reps.one (show Kd.M (Kd.int .i64) _ _ _ 1 [.int .i64 1] from rfl) (Reps.none _ _))))); intro v129 w15 ho16 hb hg_ hnew_; clear hg_ hnew_; (first | rw [← Ny128.out] at ho16 | (simp only [Int.reduceToNat] at ho16; rw [← Ny128.out] at ho16)); have n0_ := Aside0.mk (Kd.R_elder' (by (with_reducible repeat (first | apply Kd.R_alloc | apply Kd.R_drewN | apply Kd.R_drew)); exact HO123.out) (Kd.R_base ho16) hb); have n1_ := Aside0.mk (Kd.R_elder' (by (with_reducible repeat (first | apply Kd.R_alloc | apply Kd.R_drewN | apply Kd.R_drew)); exact HO126.out) (Kd.R_base ho16) hb); have n2_ := Aside0.mk (Kd.R_lower (Kd.R_new' (Kd.R_new' ho16 (Kd.R_lt (by (with_reducible repeat (first | apply Kd.R_alloc | apply Kd.R_drewN | apply Kd.R_drew)); exact HO123.out))) (Kd.R_lt (by (with_reducible repeat (first | apply Kd.R_alloc | apply Kd.R_drewN | apply Kd.R_drew)); exact HO126.out))) (below_size (by repeat (first | (with_reducible first | exact HB.out | apply below_alloc | apply pw_below_drewN | apply below_drew1) | exact HB.out)))); have n3_ := Aside0.mk (below_step (by repeat (first | (with_reducible first | exact HB.out | apply below_alloc | apply pw_below_drewN | apply below_drew1) | exact HB.out)) hb); clear HO123; clear HO126; clear HB; have HO123 := n0_; have HO126 := n1_; have HO130 := n2_; have HB := n3_; clear n0_ n1_ n2_ n3_; clear hb ho16; obtain ⟨Ao17, co17, eo17⟩ := Kd.R_slice HO130.out; subst eo17) | (go_at_call 16; (with_reducible refine (fixed_Share.calls k 10 _ _ y128 t131 _ ?side1 ?side2 A8.out).mono ?_); (case side1 => repeat (first | exact (Kd.R_reads' HO130.out).2.2 | (with_reducible refine Kd.C_alloc ?_ _) | (with_reducible refine Kd.C_drewN ?_ _) | (with_reducible refine Kd.C_drew ?_))); (case side2 => exact (Kd.R_reads' HO130.out).2.1); rintro e w18 ⟨v132, rfl, ho0, hb⟩; have n0_ := Aside0.mk (Kd.R_elder' (by (with_reducible repeat (first | apply Kd.R_alloc | apply Kd.R_drewN | apply Kd.R_drew)); exact HO123.out) (Kd.R_base ho0) hb); have n1_ := Aside0.mk (Kd.R_elder' (by (with_reducible repeat (first | apply Kd.R_alloc | apply Kd.R_drewN | apply Kd.R_drew)); exact HO126.out) (Kd.R_base ho0) hb); have n2_ := Aside0.mk (Kd.R_elder' (by (with_reducible repeat (first | apply Kd.R_alloc | apply Kd.R_drewN | apply Kd.R_drew)); exact HO130.out) (Kd.R_base ho0) hb); have n3_ := Aside0.mk (Kd.R_lower (Kd.R_new' (Kd.R_new' (Kd.R_new' ho0 (Kd.R_lt (by (with_reducible repeat (first | apply Kd.R_alloc | apply Kd.R_drewN | apply Kd.R_drew)); exact HO123.out))) (Kd.R_lt (by (with_reducible repeat (first | apply Kd.R_alloc | apply Kd.R_drewN | apply Kd.R_drew)); exact HO126.out))) (Kd.R_lt (by (with_reducible repeat (first | apply Kd.R_alloc | apply Kd.R_drewN | apply Kd.R_drew)); exact HO130.out))) (below_size (by repeat (first | (with_reducible first | exact HB.out | apply below_alloc | apply pw_below_drewN | apply below_drew1) | exact HB.out)))); have n4_ := Aside0.mk (below_step (by repeat (first | (with_reducible first | exact HB.out | apply below_alloc | apply pw_below_drewN | apply below_drew1) | exact HB.out)) hb); clear HO123; clear HO126; clear HO130; clear HB; have HO123 := n0_; have HO126 := n1_; have HO130 := n2_; have HO133 := n3_; have HB := n4_; clear n0_ n1_ n2_ n3_ n4_; (try clear hb); (try clear hb2); (try clear hk); (try clear hi); (try clear ho0)) | ((with_reducible refine gate_dst (N := 15) rfl ?_); (try (refine gate_guard (by rfl) ?_; dsimp only)); refine Kd.R_lit (Kd.int .i64) _ 3 ?hg (N := 15) ?hd (xs := ([3, 3, 4] : List Int)) (inner := [.int .i64 3, .int .i64 3, .int .i64 4]) (ok := fun _ => True) (okp := fun _ => True) ?hr ?hp (fun _ hk => hk) trivial (Below.refl _ _) (Nat.le_refl _) (by simp) ?_; (case hd => rfl); (case hg => rfl); (case hr => first | (go_simp; done) | (go_simp; rfl)); (case hp => exact (Reps.one (show Kd.M (Kd.int .i64) _ _ _ 3 [.int .i64 3] from rfl) (Reps.one (show Kd.M (Kd.int .i64) _ _ _ 3 [.int .i64 3] from rfl) (Reps.one (show Kd.M (Kd.int .i64) _ _ _ 4 [.int .i64 4] from rfl) (Reps.none _ _))))); intro v135 w19 ho20 hb hg_ hnew_; clear hg_ hnew_; (first | rw [← Ny134.out] at ho20 | (simp only [Int.reduceToNat] at ho20; rw [← Ny134.out] at ho20)); have n0_ := Aside0.mk (Kd.R_elder' (by (with_reducible repeat (first | apply Kd.R_alloc | apply Kd.R_drewN | apply Kd.R_drew)); exact HO123.out) (Kd.R_base ho20) hb); have n1_ := Aside0.mk (Kd.R_elder' (by (with_reducible repeat (first | apply Kd.R_alloc | apply Kd.R_drewN | apply Kd.R_drew)); exact HO126.out) (Kd.R_base ho20) hb); have n2_ := Aside0.mk (Kd.R_elder' (by (with_reducible repeat (first | apply Kd.R_alloc | apply Kd.R_drewN | apply Kd.R_drew)); exact HO130.out) (Kd.R_base ho20) hb); have n3_ := Aside0.mk (Kd.R_elder' (by (with_reducible repeat (first | apply Kd.R_alloc | apply Kd.R_drewN | apply Kd.R_drew)); exact HO133.out) (Kd.R_base ho20) hb); have n4_ := Aside0.mk (Kd.R_lower (Kd.R_new' (Kd.R_new' (Kd.R_new' (Kd.R_new' ho20 (Kd.R_lt (by (with_reducible repeat (first | apply Kd.R_alloc | apply Kd.R_drewN | apply Kd.R_drew)); exact HO123.out))) (Kd.R_lt (by (with_reducible repeat (first | apply Kd.R_alloc | apply Kd.R_drewN | apply Kd.R_drew)); exact HO126.out))) (Kd.R_lt (by (with_reducible repeat (first | apply Kd.R_alloc | apply Kd.R_drewN | apply Kd.R_drew)); exact HO130.out))) (Kd.R_lt (by (with_reducible repeat (first | apply Kd.R_alloc | apply Kd.R_drewN | apply Kd.R_drew)); exact HO133.out))) (below_size (by repeat (first | (with_reducible first | exact HB.out | apply below_alloc | apply pw_below_drewN | apply below_drew1) | exact HB.out)))); have n5_ := Aside0.mk (below_step (by repeat (first | (with_reducible first | exact HB.out | apply below_alloc | apply pw_below_drewN | apply below_drew1) | exact HB.out)) hb); clear HO123; clear HO126; clear HO130; clear HO133; clear HB; have HO123 := n0_; have HO126 := n1_; have HO130 := n2_; have HO133 := n3_; have HO136 := n4_; have HB := n5_; clear n0_ n1_ n2_ n3_ n4_ n5_; clear hb ho20; obtain ⟨Ao21, co21, eo21⟩ := Kd.R_slice HO133.out; subst eo21; obtain ⟨Ao22, co22, eo22⟩ := Kd.R_slice HO136.out; subst eo22) | (go_at_call 31; (with_reducible refine (parterreref01_Ints.calls k _ _ t131 _ _ y134 t137 _ ?side1 ?side2 ?side3 ?side4 A9.out).mono ?_); (case side1 => repeat (first | exact (Kd.R_reads' HO133.out).2.2 | (with_reducible refine Kd.C_alloc ?_ _) | (with_reducible refine Kd.C_drewN ?_ _) | (with_reducible refine Kd.C_drew ?_))); (case side2 => exact (Kd.R_reads' HO133.out).2.1); (case side3 => repeat (first | exact (Kd.R_reads' HO136.out).2.2 | (with_reducible refine Kd.C_alloc ?_ _) | (with_reducible refine Kd.C_drewN ?_ _) | (with_reducible refine Kd.C_drew ?_))); (case side4 => exact (Kd.R_reads' HO136.out).2.1); rintro e w' ⟨rfl, ⟨nd, rfl⟩⟩))
        go_ret
        exact ⟨by first | rfl | (simp [errW_none, errW_some] <;> rfl) | (simp [*, errW_none, errW_some] <;> rfl), by repeat (first | (with_reducible first | exact HB.out | apply below_alloc | apply pw_below_drewN | apply below_drew1) | exact HB.out)⟩
      · replace c7 := Bool.eq_false_iff.mpr c7
        subst c7
        have H1 : (some false) = some r := by rw [if_neg (show ¬ (false = true) by decide)] at H; exact H
        clear H
        have H := H1
        clear H1
        obtain rfl := Option.some.inj H
        go_enter Try.func14, Try.ntmps14
        go_wp2_with (first | ((with_reducible refine gate_callee (f := 10) rfl ?_); refine goesL_ (some 1) rfl rfl Try.func10 (by kernel_rfl) rfl #[.int .i64 (-7), .int .i64 2] rfl (by (try simp only [List.map_toArray, List.map_cons, List.map_nil]); first | done | rfl | (simp only [List.length_drop, List.length_take]; rfl)) ?_; (with_reducible refine (fixed_Div.calls (-7) 2 t119 _ A1.out).mono ?_); rintro e w' ⟨rfl, ⟨nd, rfl⟩⟩; refine ⟨_, rfl, ?_⟩) | (go_at_call 12; (with_reducible refine (fixed_Mod.calls (-7) 2 t120 _ A3.out).mono ?_); rintro e w' ⟨rfl, ⟨nd, rfl⟩⟩) | (go_at_call 15; (with_reducible refine (fixed_Split.calls k 10 3 t121 _ A5.out).mono ?_); rintro e w23 ⟨v122, rfl, ho0, hb⟩; have n0_ := Aside0.mk (Kd.R_lower ho0 (below_size (by repeat (first | (with_reducible first | exact HB.out | apply below_alloc | apply pw_below_drewN | apply below_drew1) | exact HB.out)))); have n1_ := Aside0.mk (below_step (by repeat (first | (with_reducible first | exact HB.out | apply below_alloc | apply pw_below_drewN | apply below_drew1) | exact HB.out)) hb); clear HB; have HO123 := n0_; have HB := n1_; clear n0_ n1_; (try clear hb); (try clear hb2); (try clear hk); (try clear hi); (try clear ho0)) | ((with_reducible refine gate_dst (N := 9) rfl ?_); (try (refine gate_guard (by rfl) ?_; dsimp only)); refine Kd.R_lit (Kd.int .i64) _ 3 ?hg (N := 9) ?hd (xs := ([4, 3, 3] : List Int)) (inner := [.int .i64 4, .int .i64 3, .int .i64 3]) (ok := fun _ => True) (okp := fun _ => True) ?hr ?hp (fun _ hk => hk) trivial (Below.refl _ _) (Nat.le_refl _) (by simp) ?_; (case hd => rfl); (case hg => rfl); (case hr => first | (go_simp; done) | (go_simp; rfl)); (case hp => exact (Reps.one (show Kd.M (Kd.int .i64) _ _ _ 4 [.int .i64 4] from rfl) (Reps.one (show Kd.M (Kd.int .i64) _ _ _ 3 [.int .i64 3] from rfl) (Reps.one (show Kd.M (Kd.int .i64) _ _ _ 3 [.int .i64 3] from rfl) (Reps.none _ _))))); intro v125 w24 ho25 hb hg_ hnew_; clear hg_ hnew_; (first | rw [← Ny124.out] at ho25 | (simp only [Int.reduceToNat] at ho25; rw [← Ny124.out] at ho25)); have n0_ := Aside0.mk (Kd.R_elder' (by (with_reducible repeat (first | apply Kd.R_alloc | apply Kd.R_drewN | apply Kd.R_drew)); exact HO123.out) (Kd.R_base ho25) hb); have n1_ := Aside0.mk (Kd.R_lower (Kd.R_new' ho25 (Kd.R_lt (by (with_reducible repeat (first | apply Kd.R_alloc | apply Kd.R_drewN | apply Kd.R_drew)); exact HO123.out))) (below_size (by repeat (first | (with_reducible first | exact HB.out | apply below_alloc | apply pw_below_drewN | apply below_drew1) | exact HB.out)))); have n2_ := Aside0.mk (below_step (by repeat (first | (with_reducible first | exact HB.out | apply below_alloc | apply pw_below_drewN | apply below_drew1) | exact HB.out)) hb); clear HO123; clear HB; have HO123 := n0_; have HO126 := n1_; have HB := n2_; clear n0_ n1_ n2_; clear hb ho25; obtain ⟨Ao26, co26, eo26⟩ := Kd.R_slice HO123.out; subst eo26; obtain ⟨Ao27, co27, eo27⟩ := Kd.R_slice HO126.out; subst eo27) | (go_at_call 31; (with_reducible refine (parterreref01_Ints.calls k _ _ t121 _ _ y124 false _ ?side1 ?side2 ?side3 ?side4 A6.out).mono ?_); (case side1 => repeat (first | exact (Kd.R_reads' HO123.out).2.2 | (with_reducible refine Kd.C_alloc ?_ _) | (with_reducible refine Kd.C_drewN ?_ _) | (with_reducible refine Kd.C_drew ?_))); (case side2 => exact (Kd.R_reads' HO123.out).2.1); (case side3 => repeat (first | exact (Kd.R_reads' HO126.out).2.2 | (with_reducible refine Kd.C_alloc ?_ _) | (with_reducible refine Kd.C_drewN ?_ _) | (with_reducible refine Kd.C_drew ?_))); (case side4 => exact (Kd.R_reads' HO126.out).2.1); rintro e w' ⟨rfl, ⟨nd, rfl⟩⟩))
        go_ret
        exact ⟨by first | rfl | (simp [errW_none, errW_some] <;> rfl) | (simp [*, errW_none, errW_some] <;> rfl), by repeat (first | (with_reducible first | exact HB.out | apply below_alloc | apply pw_below_drewN | apply below_drew1) | exact HB.out)⟩
    · rw [if_neg c4] at H
      have c4b0 : (t120 == 1) = false := beq_eq_false_iff_ne.mpr c4
      have c4b1 : (t120 != 1) = true := bne_iff_ne.mpr c4
      obtain rfl := Option.some.inj H
      go_enter Try.func14, Try.ntmps14
      go_wp2_with (first | ((with_reducible refine gate_callee (f := 10) rfl ?_); refine goesL_ (some 1) rfl rfl Try.func10 (by kernel_rfl) rfl #[.int .i64 (-7), .int .i64 2] rfl (by (try simp only [List.map_toArray, List.map_cons, List.map_nil]); first | done | rfl | (simp only [List.length_drop, List.length_take]; rfl)) ?_; (with_reducible refine (fixed_Div.calls (-7) 2 t119 _ A1.out).mono ?_); rintro e w' ⟨rfl, ⟨nd, rfl⟩⟩; refine ⟨_, rfl, ?_⟩) | (go_at_call 12; (with_reducible refine (fixed_Mod.calls (-7) 2 t120 _ A3.out).mono ?_); rintro e w' ⟨rfl, ⟨nd, rfl⟩⟩))
      go_ret
      exact ⟨by first | rfl | (simp [errW_none, errW_some] <;> rfl) | (simp [*, errW_none, errW_some] <;> rfl), by repeat (first | (with_reducible first | exact HB.out | apply below_alloc | apply pw_below_drewN | apply below_drew1) | exact HB.out)⟩
  · rw [if_neg c2] at H
    have c2b0 : (t119 == (-4)) = false := beq_eq_false_iff_ne.mpr c2
    have c2b1 : (t119 != (-4)) = true := bne_iff_ne.mpr c2
    obtain rfl := Option.some.inj H
    go_enter Try.func14, Try.ntmps14
    go_wp2_with (first | ((with_reducible refine gate_callee (f := 10) rfl ?_); refine goesL_ (some 1) rfl rfl Try.func10 (by kernel_rfl) rfl #[.int .i64 (-7), .int .i64 2] rfl (by (try simp only [List.map_toArray, List.map_cons, List.map_nil]); first | done | rfl | (simp only [List.length_drop, List.length_take]; rfl)) ?_; (with_reducible refine (fixed_Div.calls (-7) 2 t119 _ A1.out).mono ?_); rintro e w' ⟨rfl, ⟨nd, rfl⟩⟩; refine ⟨_, rfl, ?_⟩))
    go_ret
    exact ⟨by first | rfl | (simp [errW_none, errW_some] <;> rfl) | (simp [*, errW_none, errW_some] <;> rfl), by repeat (first | (with_reducible first | exact HB.out | apply below_alloc | apply pw_below_drewN | apply below_drew1) | exact HB.out)⟩

/-! ### parterrelaw01_FixedDivides: function 3 -/
def parterrelaw01_FixedDivides.f (k : Nat) (a0 : Int) (a1 : Int) : Option (Bool) := (fixed_Div.f a0 a1).bind fun t138 => ((parterreref01_Div.f a0 a1).bind fun t139 => (if t138 = t139 then ((fixed_Mod.f a0 a1).bind fun t140 => ((parterreref01_Mod.f a0 a1).bind fun t141 => (if t140 = t141 then ((parterrelaw01_lives.f k).bind fun t142 => (some t142)) else (some false)))) else (some false)))
theorem parterrelaw01_FixedDivides.mono : ∀ a0 a1 k, LeO (parterrelaw01_FixedDivides.f k a0 a1) (parterrelaw01_FixedDivides.f (k + 1) a0 a1) := by
  intro a0 a1 k
  unfold parterrelaw01_FixedDivides.f
  repeat' first
      | (with_reducible exact parterrelaw01_lives.mono _)
      | (with_reducible exact LeO.refl _)
      | (with_reducible exact LeO.none _)
      | (with_reducible refine LeO.ite ?_ ?_)
      | (with_reducible refine LeO.bind ?_ (fun _ => ?_))
      | exact parterrelaw01_lives.mono _
      | exact LeO.none _
      | refine LeO.ite ?_ ?_
      | refine LeO.bind ?_ (fun _ => ?_)
set_option maxHeartbeats 8000000 in
set_option maxRecDepth 100000 in
theorem parterrelaw01_FixedDivides.calls (k : Nat) (a0 : Int) (a1 : Int) (r : Bool) (w : World) (h : parterrelaw01_FixedDivides.f k a0 a1 = some r) :
    Calls Try.prog 3 #[.int .i64 a0, .int .i64 a1] w fun e w' => e = .returned (.bool r) ∧ Below w.heap.size w w' := by
  have HB := Aside0.mk (Below.refl w.heap.size w)
  have H : ((fixed_Div.f a0 a1).bind fun t138 => ((parterreref01_Div.f a0 a1).bind fun t139 => (if t138 = t139 then ((fixed_Mod.f a0 a1).bind fun t140 => ((parterreref01_Mod.f a0 a1).bind fun t141 => (if t140 = t141 then ((parterrelaw01_lives.f k).bind fun t142 => (some t142)) else (some false)))) else (some false)))) = some r := h
  clear h
  replace H := Option.bind_eq_some_iff.mp H
  obtain ⟨t138, A30, H⟩ := H
  replace H : ((parterreref01_Div.f a0 a1).bind fun t139 => (if t138 = t139 then ((fixed_Mod.f a0 a1).bind fun t140 => ((parterreref01_Mod.f a0 a1).bind fun t141 => (if t140 = t141 then ((parterrelaw01_lives.f k).bind fun t142 => (some t142)) else (some false)))) else (some false))) = some r := H
  have A3 := Aside0.mk A30
  clear A30
  replace H := Option.bind_eq_some_iff.mp H
  obtain ⟨t139, A40, H⟩ := H
  replace H : (if t138 = t139 then ((fixed_Mod.f a0 a1).bind fun t140 => ((parterreref01_Mod.f a0 a1).bind fun t141 => (if t140 = t141 then ((parterrelaw01_lives.f k).bind fun t142 => (some t142)) else (some false)))) else (some false)) = some r := H
  have A4 := Aside0.mk A40
  clear A40
  by_cases c5 : t138 = t139
  · rw [if_pos c5] at H
    have c5b0 : (t138 == t139) = true := beq_iff_eq.mpr c5
    have c5b1 : (t138 != t139) = false := bne_eq_false_iff_eq.mpr c5
    clear c5
    replace H := Option.bind_eq_some_iff.mp H
    obtain ⟨t140, A60, H⟩ := H
    replace H : ((parterreref01_Mod.f a0 a1).bind fun t141 => (if t140 = t141 then ((parterrelaw01_lives.f k).bind fun t142 => (some t142)) else (some false))) = some r := H
    have A6 := Aside0.mk A60
    clear A60
    replace H := Option.bind_eq_some_iff.mp H
    obtain ⟨t141, A70, H⟩ := H
    replace H : (if t140 = t141 then ((parterrelaw01_lives.f k).bind fun t142 => (some t142)) else (some false)) = some r := H
    have A7 := Aside0.mk A70
    clear A70
    by_cases c8 : t140 = t141
    · rw [if_pos c8] at H
      have c8b0 : (t140 == t141) = true := beq_iff_eq.mpr c8
      have c8b1 : (t140 != t141) = false := bne_eq_false_iff_eq.mpr c8
      clear c8
      replace H := Option.bind_eq_some_iff.mp H
      obtain ⟨t142, A90, H⟩ := H
      replace H : (some t142) = some r := H
      have A9 := Aside0.mk A90
      clear A90
      obtain rfl := Option.some.inj H
      go_enter Try.func3, Try.ntmps3
      go_wp2_with (first | ((with_reducible refine gate_callee (f := 10) rfl ?_); refine goesL_ (some 7) rfl rfl Try.func10 (by kernel_rfl) rfl #[.int .i64 a0, .int .i64 a1] rfl (by (try simp only [List.map_toArray, List.map_cons, List.map_nil]); first | done | rfl | (simp only [List.length_drop, List.length_take]; rfl)) ?_; (with_reducible refine (fixed_Div.calls a0 a1 t138 _ A3.out).mono ?_); rintro e w' ⟨rfl, ⟨nd, rfl⟩⟩; refine ⟨_, rfl, ?_⟩) | ((with_reducible refine gate_callee (f := 11) rfl ?_); refine goesL_ (some 10) rfl rfl Try.func11 (by kernel_rfl) rfl #[.int .i64 a0, .int .i64 a1] rfl (by (try simp only [List.map_toArray, List.map_cons, List.map_nil]); first | done | rfl | (simp only [List.length_drop, List.length_take]; rfl)) ?_; (with_reducible refine (parterreref01_Div.calls a0 a1 t139 _ A4.out).mono ?_); rintro e w' ⟨rfl, ⟨nd, rfl⟩⟩; refine ⟨_, rfl, ?_⟩) | (go_at_call 12; (with_reducible refine (fixed_Mod.calls a0 a1 t140 _ A6.out).mono ?_); rintro e w' ⟨rfl, ⟨nd, rfl⟩⟩) | (go_at_call 13; (with_reducible refine (parterreref01_Mod.calls a0 a1 t141 _ A7.out).mono ?_); rintro e w' ⟨rfl, ⟨nd, rfl⟩⟩) | (go_at_call 14; (with_reducible refine (parterrelaw01_lives.calls k  t142 _ A9.out).mono ?_); rintro e w10 ⟨rfl, hb⟩; have n0_ := Aside0.mk (below_step (by repeat (first | (with_reducible first | exact HB.out | apply below_alloc | apply pw_below_drewN | apply below_drew1) | exact HB.out)) hb); clear HB; have HB := n0_; clear n0_; (try clear hb); (try clear hb2); (try clear hk); (try clear hi)))
      go_ret
      exact ⟨by first | rfl | (simp [errW_none, errW_some] <;> rfl) | (simp [*, errW_none, errW_some] <;> rfl), by repeat (first | (with_reducible first | exact HB.out | apply below_alloc | apply pw_below_drewN | apply below_drew1) | exact HB.out)⟩
    · rw [if_neg c8] at H
      have c8b0 : (t140 == t141) = false := beq_eq_false_iff_ne.mpr c8
      have c8b1 : (t140 != t141) = true := bne_iff_ne.mpr c8
      obtain rfl := Option.some.inj H
      go_enter Try.func3, Try.ntmps3
      go_wp2_with (first | ((with_reducible refine gate_callee (f := 10) rfl ?_); refine goesL_ (some 7) rfl rfl Try.func10 (by kernel_rfl) rfl #[.int .i64 a0, .int .i64 a1] rfl (by (try simp only [List.map_toArray, List.map_cons, List.map_nil]); first | done | rfl | (simp only [List.length_drop, List.length_take]; rfl)) ?_; (with_reducible refine (fixed_Div.calls a0 a1 t138 _ A3.out).mono ?_); rintro e w' ⟨rfl, ⟨nd, rfl⟩⟩; refine ⟨_, rfl, ?_⟩) | ((with_reducible refine gate_callee (f := 11) rfl ?_); refine goesL_ (some 10) rfl rfl Try.func11 (by kernel_rfl) rfl #[.int .i64 a0, .int .i64 a1] rfl (by (try simp only [List.map_toArray, List.map_cons, List.map_nil]); first | done | rfl | (simp only [List.length_drop, List.length_take]; rfl)) ?_; (with_reducible refine (parterreref01_Div.calls a0 a1 t139 _ A4.out).mono ?_); rintro e w' ⟨rfl, ⟨nd, rfl⟩⟩; refine ⟨_, rfl, ?_⟩) | (go_at_call 12; (with_reducible refine (fixed_Mod.calls a0 a1 t140 _ A6.out).mono ?_); rintro e w' ⟨rfl, ⟨nd, rfl⟩⟩) | (go_at_call 13; (with_reducible refine (parterreref01_Mod.calls a0 a1 t141 _ A7.out).mono ?_); rintro e w' ⟨rfl, ⟨nd, rfl⟩⟩))
      go_ret
      exact ⟨by first | rfl | (simp [errW_none, errW_some] <;> rfl) | (simp [*, errW_none, errW_some] <;> rfl), by repeat (first | (with_reducible first | exact HB.out | apply below_alloc | apply pw_below_drewN | apply below_drew1) | exact HB.out)⟩
  · rw [if_neg c5] at H
    have c5b0 : (t138 == t139) = false := beq_eq_false_iff_ne.mpr c5
    have c5b1 : (t138 != t139) = true := bne_iff_ne.mpr c5
    obtain rfl := Option.some.inj H
    go_enter Try.func3, Try.ntmps3
    go_wp2_with (first | ((with_reducible refine gate_callee (f := 10) rfl ?_); refine goesL_ (some 7) rfl rfl Try.func10 (by kernel_rfl) rfl #[.int .i64 a0, .int .i64 a1] rfl (by (try simp only [List.map_toArray, List.map_cons, List.map_nil]); first | done | rfl | (simp only [List.length_drop, List.length_take]; rfl)) ?_; (with_reducible refine (fixed_Div.calls a0 a1 t138 _ A3.out).mono ?_); rintro e w' ⟨rfl, ⟨nd, rfl⟩⟩; refine ⟨_, rfl, ?_⟩) | ((with_reducible refine gate_callee (f := 11) rfl ?_); refine goesL_ (some 10) rfl rfl Try.func11 (by kernel_rfl) rfl #[.int .i64 a0, .int .i64 a1] rfl (by (try simp only [List.map_toArray, List.map_cons, List.map_nil]); first | done | rfl | (simp only [List.length_drop, List.length_take]; rfl)) ?_; (with_reducible refine (parterreref01_Div.calls a0 a1 t139 _ A4.out).mono ?_); rintro e w' ⟨rfl, ⟨nd, rfl⟩⟩; refine ⟨_, rfl, ?_⟩))
    go_ret
    exact ⟨by first | rfl | (simp [errW_none, errW_some] <;> rfl) | (simp [*, errW_none, errW_some] <;> rfl), by repeat (first | (with_reducible first | exact HB.out | apply below_alloc | apply pw_below_drewN | apply below_drew1) | exact HB.out)⟩
/-- THE ONE PURE STATEMENT of parterrelaw01_FixedDivides. -/
def parterrelaw01_FixedDivides.Pure : Prop := ∀ (a0 : Int) (a1 : Int), (Lit.int .i64 a0).wf = true → (Lit.int .i64 a1).wf = true → ∃ k, parterrelaw01_FixedDivides.f k a0 a1 = some true

end Go.Proofs.Ytcmnfhenbeigdaa.PA

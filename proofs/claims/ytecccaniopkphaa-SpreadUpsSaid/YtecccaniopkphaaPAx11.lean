-- written by a program of this session (a print of the translation with changes of its own)
import Derived.Test.YtecccaniopkphaaPAx0
import Derived.Test.YtecccaniopkphaaPAx2
import Derived.Test.YtecccaniopkphaaPAx4
import Derived.Test.YtecccaniopkphaaPAx10
import Derived.LoopIn
import Derived.LoopNIn
import Derived.OwnWalkIn
import Derived.RangeFuncBox
import Derived.RangeFuncCalls
import Derived.RangeFuncLeaves
import Derived.RangeFuncNested
import Derived.Shelf.Abstract
import Derived.TacticsInMore
namespace Go.Proofs.Ytecccaniopkphaa.PA
open Go.RowKit Go.Proofs.YtecccaniopkphaaW.PrintWords Go.Proofs.YtecccaniopkphaaW.PrintLast Go.Proofs.YtecccaniopkphaaW.PrintMore
theorem pmAx11_0_ {P : Prop} (h : P := by repeat (first | (with_reducible first | exact HB.out | apply below_alloc | apply pw_below_drewN | apply below_drew1) | exact HB.out)) : P := h
theorem pmAx11_1_ {P : Prop} (h : P := by (try simp only [List.map_toArray, List.map_cons, List.map_nil]); first | done | rfl | (simp only [List.length_drop, List.length_take]; rfl)) : P := h
theorem pmAx11_2_ {P : Prop} (h : P := by (with_reducible repeat (first | apply Kd.R_alloc | apply Kd.R_drewN | apply Kd.R_drew)); exact HO260.out) : P := h
theorem pmAx11_3_ {P : Prop} (h : P := by (try simp only [List.map_toArray, List.map_cons, List.map_nil]); first | done | (simp only [hji5]; rfl) | rfl | (simp only [List.length_drop, List.length_take]; rfl)) : P := h
theorem pmAx11_4_ {P : Prop} (h : P := by repeat (first | (with_reducible first | exact HB.out | apply below_alloc | apply pw_below_drewN | apply below_drew1 | refine below_set ?_ GE267.out) | exact HB.out)) : P := h
theorem pmAx11_5_ {P : Prop} (h : P := by (with_reducible repeat (first | refine blk_drewN ?_ _ | refine blk_drew ?_ | refine blk_alloc ?_ _)); exact BK267.out) : P := h
attribute [local go_sem] max2_int min2_int max_two min_two max_three min_three max_four min_four   -- for this text's walks alone
set_option linter.unusedVariables false
set_option linter.unusedSimpArgs false

/-! ### fixed_Share: function 21 -/
-- IMPORTLIB Derived.RangeFuncBox
-- IMPORTLIB Derived.RangeFuncNested
-- IMPORTLIB Derived.RangeFuncCalls
-- IMPORTLIB Derived.RangeFuncLeaves
-- IMPORTLIB Derived.Shelf.Abstract
-- IMPORTLIB Derived.OwnWalkIn
-- IMPORTLIB Derived.TacticsInMore
-- IMPORTLIB Derived.LoopNIn
-- IMPORTLIB Derived.LoopIn
/-- What each weight gets, one by one. -/
def fixed_Share.parts (k : Nat) (n all : Int) : Int → Int → List Int → Option (List Int)
  | _, _, [] => some []
  | sum, was, w :: ws => (fixed_MulDiv.f k n (sum + w) all).bind fun m => (fixed_Share.parts k n all (sum + w) m.1 ws).bind fun r => some (wrap64 (m.1 - was) :: r)
def fixed_Share.ok (ws : List Int) : Bool := ws.all fun w => decide (0 ≤ w ∧ w ≤ 1073741824)
def fixed_Share.sum : List Int → Int
  | [] => 0
  | w :: ws => w + fixed_Share.sum ws
def fixed_Share.f (k : Nat) (n : Int) (ws : List Int) : Option (List Int) :=
  if n < 0 ∨ 68719476736 < n ∨ 65536 < ws.length ∨ fixed_Share.ok ws = false ∨ fixed_Share.sum ws = 0 then some [] else fixed_Share.parts k n (fixed_Share.sum ws) 0 0 ws

theorem fixed_Share.sum_append (a b : List Int) : fixed_Share.sum (a ++ b) = fixed_Share.sum a + fixed_Share.sum b := by
  induction a with
  | nil => simp [fixed_Share.sum]
  | cons x a ih => simp [fixed_Share.sum, ih]; omega
theorem fixed_Share.sum_bd (a : List Int) (h : fixed_Share.ok a = true) : 0 ≤ fixed_Share.sum a ∧ fixed_Share.sum a ≤ a.length * 1073741824 := by
  induction a with
  | nil => simp [fixed_Share.sum]
  | cons x a ih =>
    simp only [fixed_Share.ok, List.all_cons, Bool.and_eq_true, decide_eq_true_eq] at h
    have := ih h.2
    simp only [fixed_Share.sum, List.length_cons]
    omega
theorem fixed_Share.ok_take (a : List Int) (h : fixed_Share.ok a = true) (i : Nat) : fixed_Share.ok (a.take i) = true := by
  unfold fixed_Share.ok at *
  rw [List.all_eq_true] at *
  exact fun x hx => h x (List.mem_of_mem_take hx)
theorem fixed_Share.take_succ (a : List Int) (i : Nat) (h : i < a.length) : fixed_Share.sum (a.take (i + 1)) = fixed_Share.sum (a.take i) + a[i] := by
  rw [List.take_succ_eq_append_getElem h, fixed_Share.sum_append]
  simp [fixed_Share.sum]
/-- Where a part stands. -/
theorem fixed_Share.step {k : Nat} {n all sum was : Int} {ws r : List Int} (i : Nat) (h : fixed_Share.parts k n all sum was (ws.drop i) = some (r.drop i)) (hi : i < ws.length) (hr : r.length = ws.length) :
    ∃ m e, fixed_MulDiv.f k n (sum + ws[i]) all = some (m, e) ∧ wrap64 (m - was) = r[i]'(by omega) ∧ fixed_Share.parts k n all (sum + ws[i]) m (ws.drop (i + 1)) = some (r.drop (i + 1)) := by
  rw [List.drop_eq_getElem_cons hi, List.drop_eq_getElem_cons (show i < r.length by omega)] at h
  simp only [fixed_Share.parts] at h
  obtain ⟨⟨m, e⟩, hm, h⟩ := Option.bind_eq_some_iff.mp h
  obtain ⟨r', hr', h⟩ := Option.bind_eq_some_iff.mp h
  simp only [Option.some.injEq, List.cons.injEq] at h
  exact ⟨m, e, hm, h.1, by rw [hr', h.2]⟩
theorem fixed_Share.parts_length {k : Nat} {n all : Int} : ∀ {sum was : Int} {ws r : List Int}, fixed_Share.parts k n all sum was ws = some r → r.length = ws.length := by
  intro sum was ws
  induction ws generalizing sum was with
  | nil => intro r h; simp [fixed_Share.parts] at h; subst h; rfl
  | cons w ws ih =>
    intro r h
    simp only [fixed_Share.parts] at h
    obtain ⟨⟨m, e⟩, hm, h⟩ := Option.bind_eq_some_iff.mp h
    obtain ⟨r', hr', h⟩ := Option.bind_eq_some_iff.mp h
    simp only [Option.some.injEq] at h
    subst h
    simp [ih hr']
theorem fixed_Share.mono : ∀ n ws k, LeO (fixed_Share.f k n ws) (fixed_Share.f (k + 1) n ws) := by
  have hp : ∀ (ws : List Int) (k : Nat) (n all sum was : Int), LeO (fixed_Share.parts k n all sum was ws) (fixed_Share.parts (k + 1) n all sum was ws) := by
    intro ws
    induction ws with
    | nil => intro k n all sum was; exact LeO.refl _
    | cons w ws ih =>
      intro k n all sum was
      exact LeO.bind (fixed_MulDiv.mono _ _ _ _) (fun m => LeO.bind (ih k n all _ _) (fun r => LeO.refl _))
  intro n ws k
  unfold fixed_Share.f
  exact LeO.ite (LeO.refl _) (hp _ _ _ _ _ _)

section
attribute [local go_sem] Oper.semAt_some
theorem fixed_Share.grown_drew (W : World) (n : Nat) : W.grownBy (W.drewN n) none := grown_of_below (pw_below_drewN (Below.refl _ _) n) none

/-- What the loop's body leaves alone: all blocks below B, but one. -/
def fixed_Share.Kp (o B : Nat) (W W' : World) : Prop := W.heap.size ≤ W'.heap.size ∧ ∀ i, i < B → i ≠ o → W'.heap[i]? = W.heap[i]?
theorem fixed_Share.Kp.trans {o B : Nat} {X Y Z : World} (h : fixed_Share.Kp o B X Y) (h' : fixed_Share.Kp o B Y Z) : fixed_Share.Kp o B X Z :=
  ⟨Nat.le_trans h.1 h'.1, fun i hi ho => (h'.2 i hi ho).trans (h.2 i hi ho)⟩
theorem fixed_Share.Kp.refl (o B : Nat) (X : World) : fixed_Share.Kp o B X X := ⟨Nat.le_refl _, fun _ _ _ => rfl⟩
theorem fixed_Share.cell_same {W W' : World} {p : Addr} (h : W'.heap[p.block]? = W.heap[p.block]?) : W'.cell? p = W.cell? p := by unfold World.cell?; rw [h]
theorem fixed_Share.Kp.cell {o B : Nat} {W W' : World} (h : fixed_Share.Kp o B W W') {p : Addr} (hp : p.block < B) (ho : p.block ≠ o) : W'.cell? p = W.cell? p := fixed_Share.cell_same (h.2 _ hp ho)
set_option maxRecDepth 100000 in
set_option maxHeartbeats 4000000 in
/-- shares$1: each part goes to the loop's body, one behind the other. -/
theorem fixed_Share.iter (k : Nat) (l Bw Bn Ba o n₀ : Nat) (n all : Int) (A : Option Addr) (c : Nat) (ws r : List Int) (J Jx : List Int → World → Prop) (hreach : ws.length ≤ 65536) (hok : fixed_Share.ok ws = true)
    (hp : fixed_Share.parts k n all 0 0 ws = some r)
    (hY : ∀ pre x W, J pre W → pre.length < ws.length → YieldAt Fence.wide 9 Try.prog l #[.int .i64 x] W fun e W' =>
      (e = .returned (.bool true) ∧ J (pre ++ [x]) W' ∧ fixed_Share.Kp o n₀ W W') ∨ (e = .returned (.bool false) ∧ Jx (pre ++ [x]) W'))
    (W : World) (hJd : ∀ pre W n, J pre W → J pre (W.drewN n)) (hBn : Bn < n₀ ∧ Bn ≠ o) (hBa : Ba < n₀ ∧ Ba ≠ o)
    (cw : W.cell? ⟨Bw, 0, none⟩ = some (.slice A ws.length c)) (cn : W.cell? ⟨Bn, 0, none⟩ = some (.int .i64 n)) (ca : W.cell? ⟨Ba, 0, none⟩ = some (.int .i64 all))
    (hC : Kd.C (Kd.int .i64) W A ws.length ws) (hA : ∀ ad, A = some ad → ws ≠ [] → ad.block < n₀ ∧ ad.block ≠ o) (h0 : J [] W) :
    CallsIn Fence.wide 10 Try.prog 25 #[.func (.yield l) #[] #[], .pointer (some ⟨Bw, 0, none⟩), .pointer (some ⟨Bn, 0, none⟩), .pointer (some ⟨Ba, 0, none⟩)] W fun e W' => (∃ v, e = .returned v) ∧
      ((∃ ys, ys = r ∧ J ys W') ∨ (∃ pre, pre <+: r ∧ Jx pre W')) := by
  have hrl := fixed_Share.parts_length hp
  refine callsIn_of_wp Try.func25 rfl trivial ?_ rfl
  simp only [Try.ntmps25, List.size_toArray, List.length_cons, List.length_nil, Nat.reduceAdd, Nat.reduceSub, Array.replicate_succ, Array.replicate_zero, List.push_toArray, List.append_toArray, List.nil_append, List.cons_append]
  gi_wp2
  gi_loopw [5, 6, 13] (fun s was i wr => ∃ (j : Nat) (wasv : Int), j ≤ ws.length ∧ i = .int .i64 j ∧ s = .int .i64 (fixed_Share.sum (ws.take j)) ∧ was = .int .i64 wasv ∧ Aside0 (fixed_Share.parts k n all (fixed_Share.sum (ws.take j)) wasv (ws.drop j) = some (r.drop j)) ∧ J (r.take j) wr ∧ fixed_Share.Kp o n₀ W wr)
    (fun _ _ i _ => ws.length - (intOf i).toNat)
  case atStart => exact ⟨0, 0, Nat.zero_le _, rfl, rfl, rfl, ⟨by simpa [fixed_Share.sum] using hp⟩, by simpa using h0, fixed_Share.Kp.refl _ _ _⟩
  case round =>
    obtain ⟨j, wasv, hj, rfl, rfl, rfl, hP, hJs, hnx⟩ := hrel
    have cn' := (hnx.cell (p := ⟨Bn, 0, none⟩) hBn.1 hBn.2).trans cn
    have ca' := (hnx.cell (p := ⟨Ba, 0, none⟩) hBa.1 hBa.2).trans ca
    by_cases hlt : j < ws.length
    · obtain ⟨m, e, hm, hd, hP'⟩ := fixed_Share.step j hP.out hlt hrl
      have HM := Aside0.mk hm
      have HD := Aside0.mk hd
      clear hm hd hp
      obtain ⟨ad, eA, hx⟩ := Kd.at_int hC (j : Int) (by omega) (by omega)
      cases eA
      have hx' := (hnx.cell (by rw [add_block]; exact (hA ad rfl (by rintro rfl; simp at hlt)).1) (by rw [add_block]; exact (hA ad rfl (by rintro rfl; simp at hlt)).2)).trans hx
      have hrd : rd ws (j : Int) = ws[j] := by simp [rd, hlt]
      rw [hrd] at hx'
      simp only [Int.toNat_natCast] at hx'
      clear hx hrd
      have hb1 := fixed_Share.sum_bd (ws.take j) (fixed_Share.ok_take ws hok j)
      have hb2 := fixed_Share.sum_bd (ws.take (j + 1)) (fixed_Share.ok_take ws hok (j + 1))
      have hts := fixed_Share.take_succ ws j hlt
      rw [hts] at hb2
      have hl1 : (ws.take j).length ≤ 65536 := by simp; omega
      have hl2 : (ws.take (j + 1)).length ≤ 65536 := by simp; omega
      have HT := Aside0.mk hts
      clear hts
      gi_wp2_with (refine ⟨trivial, ?_⟩; gi_at_call 26; refine (callsIn_wide.2 (fixed_MulDiv.calls k _ _ _ _ _ _ HM.out)).mono ?_; rintro e w' ⟨rfl, ⟨nd, rfl⟩⟩)
      obtain ⟨fn, tmps, assign, body, hy, hR⟩ := hY (r.take j) (wrap64 (m - wasv)) (wr.drewN nd) (hJd _ _ _ hJs) (by simp; omega)
      have hpre : r.take j ++ [wrap64 (m - wasv)] = r.take (j + 1) := by rw [HD.out, List.take_succ_eq_append_getElem]
      rw [hpre] at hR
      have HPRE := Aside0.mk hpre
      have HP' := Aside0.mk hP'
      clear hpre hP'
      rw [hy]
      gi_wp2
      refine hR.mono ?_
      rintro e W3 (⟨rfl, hJ3, hk3⟩ | ⟨rfl, hJx3⟩)
      · gi_wp2
        go_roundw
        case rel => exact ⟨j + 1, m, by omega, by simp, by rw [HT.out], rfl, ⟨by rw [HT.out]; exact HP'.out⟩, hJ3, (hnx.trans (by exact ⟨Nat.le_refl _, fun _ _ _ => rfl⟩ : fixed_Share.Kp o n₀ wr (wr.drewN nd))).trans hk3⟩
        case measure => simp [intOf]; omega
      · gi_wp2
        refine bodyPost_ret (results_none rfl _ _ _) rfl ?_
        exact ⟨⟨_, rfl⟩, .inr ⟨_, List.take_prefix _ _, hJx3⟩⟩
    · obtain rfl : j = ws.length := by omega
      have hr' : r.take ws.length = r := by rw [← hrl]; exact List.take_length
      gi_wp2
      go_end0
      exact ⟨⟨_, rfl⟩, .inl ⟨_, rfl, by rw [hr'] at hJs; exact hJs⟩⟩

set_option maxHeartbeats 1000000 in
/-- shares: what it is given is boxed; the function value holds the boxes. -/
theorem fixed_Share.maker (n all : Int) (A : Option Addr) (m c : Nat) (w : World) :
    CallsIn Fence.wide 10 Try.prog 23 #[.int .i64 n, .int .i64 all, .slice A m c] w fun e w' => e = .returned (.func (.func 25) #[] #[.pointer (some ⟨w.heap.size + 2, 0, none⟩), .pointer (some ⟨w.heap.size, 0, none⟩), .pointer (some ⟨w.heap.size + 1, 0, none⟩)]) ∧
      w' = ((w.alloc (.cells #[.int .i64 n] 3)).alloc (.cells #[.int .i64 all] 3)).alloc (.cells #[.slice A m c] 22) := by
  refine callsIn_of_wp Try.func23 rfl trivial ?_ rfl
  simp only [Try.ntmps23, List.size_toArray, List.length_cons, List.length_nil, Nat.reduceAdd, Nat.reduceSub, Array.replicate_succ, Array.replicate_zero, List.push_toArray, List.append_toArray, List.nil_append, List.cons_append]
  gi_wp2
  go_ret
  exact ⟨rfl, rfl⟩

theorem fixed_Share.info3 : (Try.prog.info? 3).map (fun i => (i.zero, i.size, i.bytes)) = some (some (.int .i64 0), 1, 8) := by kernel_rfl

theorem fixed_Share.res (tmps : Array Value) (W : World) (g : Nat) (v : Value) (hp : tmps.getD 4 undef = .pointer (some ⟨g, 0, none⟩)) (hc : W.cell? ⟨g, 0, none⟩ = some v) : (results Try.f21 tmps).run Try.prog W = .ok v W := by
  have hr : Try.f21.results = #[.cell 4 22] := rfl
  have hp' : tmps[4]?.getD undef = .pointer (some ⟨g, 0, none⟩) := by simpa using hp
  simp [results, hr, hp', asAddr, loadVar, isAgg, Sem.run_bind, Result.andThen, Try.underlying22, go_sem, hc]
theorem fixed_Share.fin (w : World) (tmps : Array Value) (hp : tmps.getD 4 undef = .pointer (some ⟨w.heap.size, 0, none⟩)) : bodyPostM Fence.wide 11 Try.prog Try.f21 (fun e w' => ∃ v0_ : Value, e = .returned (v0_) ∧ w'.ownsRow w.heap.size 3 1 v0_ 0 [] ∧ Below w.heap.size w w') Exit.ret { tmps, defers := [] } (w.alloc (.cells #[.slice none 0 0] 22)) := by
  exact ⟨_, fixed_Share.res tmps _ _ _ hp (Boxed.new w 22 (.slice none 0 0)).cell, ⟨_, rfl, World.ownsRow_nil _ _ _ _, (Below.refl _ w).alloc (Nat.le_refl _) _⟩⟩
set_option maxRecDepth 100000 in
set_option maxHeartbeats 4000000 in
theorem fixed_Share.callsIn (k : Nat) (a0 : Int) (A1 : Option Addr) (c1 : Nat) (l1 : List Int) (r : List Int) (w : World) (hr1 : Kd.C (Kd.int .i64) w A1 l1.length l1) (hc1 : l1.length ≤ c1) (h : fixed_Share.f k a0 l1 = some r) :
    CallsIn Fence.wide 11 Try.prog 21 #[.int .i64 a0, .slice A1 l1.length c1] w fun e w' => ∃ v0_ : Value, e = .returned (v0_) ∧ w'.ownsRow w.heap.size 3 1 v0_ r.length (r.map (Value.int .i64)) ∧ Below w.heap.size w w' := by
  obtain ⟨i0, hi, hz0, hz1, hz2⟩ := info_parts fixed_Share.info3
  have HI := Aside0.mk hi
  clear hi
  have HF := Aside0.mk h
  clear h
  have bO := Boxed.new w 22 (.slice none 0 0)
  have cO := bO.cell
  have fO := bO.frozen
  have hB0 : Below w.heap.size w (w.alloc (.cells #[.slice none 0 0] 22)) := (Below.refl _ w).alloc (Nat.le_refl _) _
  refine callsIn_of_wp_marks Try.func21 rfl trivial ?_ rfl
  simp only [Try.ntmps21, List.size_toArray, List.length_cons, List.length_nil, Nat.reduceAdd, Nat.reduceSub, Array.replicate_succ, Array.replicate_zero, List.push_toArray, List.append_toArray, List.nil_append, List.cons_append]
  have hnil : fixed_Share.f k a0 l1 = some [] → r = [] := fun e => by have := HF.out; rw [e] at this; simpa using this.symm
  by_cases hbig : a0 < 0 ∨ 68719476736 < a0 ∨ 65536 < l1.length
  · obtain rfl := hnil (by unfold fixed_Share.f; rw [if_pos (by rcases hbig with h | h | h <;> simp [h])])
    by_cases h1 : a0 < 0
    · gi_wp2
      exact fixed_Share.fin w _ rfl
    · by_cases h2 : 68719476736 < a0
      · gi_wp2
        exact fixed_Share.fin w _ rfl
      · have h3 : 65536 < l1.length := by omega
        gi_wp2
        exact fixed_Share.fin w _ rfl
  · have h1 : 0 ≤ a0 := by omega
    have h2 : a0 ≤ 68719476736 := by omega
    have h3 : l1.length ≤ 65536 := by omega
    clear hbig
    have e1 : decide (a0 < 0) = false := by simpa using h1
    have e2 : decide (68719476736 < a0) = false := by simpa using h2
    have e3 : decide ((65536 : Int) < (l1.length : Int)) = false := by simp; omega
    have e4 : decide (65536 < l1.length) = false := by simp; omega
    gi_wp2
    gi_loop [5, 22] (fun al i => ∃ j : Nat, j ≤ l1.length ∧ i = .int .i64 j ∧ al = .int .i64 (fixed_Share.sum (l1.take j)) ∧ Aside0 (fixed_Share.ok (l1.take j) = true)) (fun _ i => l1.length - (intOf i).toNat)
    case atStart => exact ⟨0, Nat.zero_le _, rfl, rfl, ⟨rfl⟩⟩
    case round =>
      obtain ⟨j, hj, rfl, rfl, hok⟩ := hrel
      have hb1 := fixed_Share.sum_bd (l1.take j) hok.out
      have hl1 : (l1.take j).length ≤ 65536 := by simp; omega
      by_cases hlt : j < l1.length
      · obtain ⟨ad, eA, hx⟩ := Kd.at_int hr1 (j : Int) (by omega) (by omega)
        cases eA
        have hx' := (hB0.cell (World.block_lt_of_cell? w _ hx)).trans hx
        have hrd : rd l1 (j : Int) = l1[j] := by simp [rd, hlt]
        rw [hrd] at hx'
        simp only [Int.toNat_natCast] at hx'
        clear hx hrd
        have HT := Aside0.mk (fixed_Share.take_succ l1 j hlt)
        by_cases hw : 0 ≤ l1[j] ∧ l1[j] ≤ 1073741824
        · obtain ⟨w1, w2⟩ := hw
          have w3 : decide (l1[j] < 0) = false := by simpa using w1
          have w4 : decide (1073741824 < l1[j]) = false := by simpa using w2
          have HO : Aside0 (fixed_Share.ok (l1.take (j + 1)) = true) := by
            have := hok.out
            refine ⟨?_⟩
            unfold fixed_Share.ok at *
            rw [List.take_succ_eq_append_getElem hlt, List.all_append, this]
            simp [w1, w2]
          gi_wp2
          go_round
          case rel => exact ⟨j + 1, by omega, by simp, by rw [HT.out], HO⟩
          case measure => simp [intOf]; omega
        · obtain rfl := hnil (by
            unfold fixed_Share.f
            have : fixed_Share.ok l1 = false := by
              unfold fixed_Share.ok
              rw [List.all_eq_false]
              exact ⟨l1[j], List.getElem_mem hlt, by simpa using hw⟩
            rw [if_pos (by simp [this])])
          by_cases w1 : l1[j] < 0
          · have w3 : decide (l1[j] < 0) = true := by simpa using w1
            gi_wp2
            exact fixed_Share.fin w _ rfl
          · have w3 : decide (l1[j] < 0) = false := by simpa using w1
            have w4 : decide (1073741824 < l1[j]) = true := by simp; omega
            gi_wp2
            exact fixed_Share.fin w _ rfl
      · obtain rfl : j = l1.length := by omega
        have hl2 : l1.take l1.length = l1 := List.take_length
        rw [hl2] at hok hb1
        simp only [hl2]
        by_cases hz : fixed_Share.sum l1 = 0
        · obtain rfl := hnil (by unfold fixed_Share.f; rw [if_pos (by simp [hz])])
          have z1 : (fixed_Share.sum l1 == 0) = true := by simpa using hz
          gi_wp2
          exact fixed_Share.fin w _ rfl
        · have z1 : (fixed_Share.sum l1 == 0) = false := by simpa using hz
          gi_wp2_with (refine ⟨trivial, ?_⟩; gi_at_call 23; refine (fixed_Share.maker _ _ _ _ _ _).mono ?_; rintro e w' ⟨rfl, rfl⟩)
          have hparts : fixed_Share.parts k a0 (fixed_Share.sum l1) 0 0 l1 = some r := by
            have := HF.out
            unfold fixed_Share.f at this
            rw [if_neg (by simp [hz, hok.out]; omega)] at this
            exact this
          have HP := Aside0.mk hparts
          have HRL := Aside0.mk (fixed_Share.parts_length hparts)
          clear hparts hnil
          have bN := Boxed.new (w.alloc (.cells #[.slice none 0 0] 22)) 3 (.int .i64 a0)
          have bA := Boxed.new ((w.alloc (.cells #[.slice none 0 0] 22)).alloc (.cells #[.int .i64 a0] 3)) 3 (.int .i64 (fixed_Share.sum l1))
          have bW := Boxed.new (((w.alloc (.cells #[.slice none 0 0] 22)).alloc (.cells #[.int .i64 a0] 3)).alloc (.cells #[.int .i64 (fixed_Share.sum l1)] 3)) 22 (.slice A1 l1.length c1)
          simp only [World.size_alloc] at bN bA bW
          have hBl : Below w.heap.size w ((((w.alloc (.cells #[.slice none 0 0] 22)).alloc (.cells #[.int .i64 a0] 3)).alloc (.cells #[.int .i64 (fixed_Share.sum l1)] 3)).alloc (.cells #[.slice A1 l1.length c1] 22)) :=
            (((hB0.alloc (by simp) _).alloc (by simp; omega) _).alloc (by simp; omega) _)
          refine wpIn_rangeFunc_ownG rfl (by omega) (gf := 25) (lb := #[.pointer (some ⟨w.heap.size + 1 + 2, 0, none⟩), .pointer (some ⟨w.heap.size + 1, 0, none⟩), .pointer (some ⟨w.heap.size + 1 + 1, 0, none⟩)]) rfl trivial (enters_of Try.func25 (by kernel_rfl) rfl)
            (encs := fun x : Int => #[Value.int .i64 x]) (Kp := fixed_Share.Kp w.heap.size (w.heap.size + 4)) (S := fun ys => ys = r) (Sp := fun pre => pre <+: r) (N := l1.length) (w0 := ((((w.alloc (.cells #[.slice none 0 0] 22)).alloc (.cells #[.int .i64 a0] 3)).alloc (.cells #[.int .i64 (fixed_Share.sum l1)] 3)).alloc (.cells #[.slice A1 l1.length c1] 22)))
            ?seq (fun h h' => h.trans h') ?kb (Below.refl _ _) (fun _ => rfl)
            (fun pre W => (∃ v, Boxed W w.heap.size 22 v ∧ W.ownsRow (w.heap.size + 4) 3 1 v pre.length (pre.map (Value.int .i64)) ∧ True) ∧ Below w.heap.size w W ∧ w.heap.size + 4 ≤ W.heap.size)
            (fun _ _ _ => False)
            (OwnFrom.and (Own.from (holdsRow_own (w.heap.size + 4) w.heap.size 22 3 1 (fun pre : List Int => pre.length) (fun pre => pre.map (Value.int .i64)) (fun _ _ => True)) _) (OwnFrom.and (ownFrom_below (Nat.le_refl _) (by simp; omega)) (fun _ _ _ _ hs hg _ => Nat.le_trans hs hg.size)))
            (fun _ _ _ _ _ hs _ _ => hs)
            ⟨⟨_, ((bO.alloc _).alloc _).alloc _, World.ownsRow_nil _ _ _ _, trivial⟩, hBl, by simp⟩
            ?a1 ?assign ?body ?done ?stop
          case assign =>
            intro l x W K hK
            gi_wp2
            exact hK
          case seq =>
            intro l J Jx W hW hJ hJx hY h0
            have hsz : (((((w.alloc (.cells #[.slice none 0 0] 22)).alloc (.cells #[.int .i64 a0] 3)).alloc (.cells #[.int .i64 (fixed_Share.sum l1)] 3)).alloc (.cells #[.slice A1 l1.length c1] 22))).heap.size = w.heap.size + 4 := by simp
            rw [hsz] at hW
            refine (fixed_Share.iter k l (w.heap.size + 1 + 2) (w.heap.size + 1) (w.heap.size + 1 + 1) w.heap.size (w.heap.size + 4) a0 (fixed_Share.sum l1) A1 c1 l1 r J Jx h3 hok.out HP.out hY W (fun pre W n hj => hJ pre W _ none hj (fixed_Share.grown_drew W n) (fun r e => by cases e)) (by omega) (by omega) ?_ ?_ ?_ ?_ ?_ h0)
            · exact (hW.cell (p := ⟨w.heap.size + 1 + 2, 0, none⟩) (by show w.heap.size + 1 + 2 < w.heap.size + 4; omega)).trans bW.cell
            · exact (hW.cell (p := ⟨w.heap.size + 1, 0, none⟩) (by show w.heap.size + 1 < w.heap.size + 4; omega)).trans ((bN.alloc _).alloc _).cell
            · exact (hW.cell (p := ⟨w.heap.size + 1 + 1, 0, none⟩) (by show w.heap.size + 1 + 1 < w.heap.size + 4; omega)).trans (bA.alloc _).cell
            · exact Kd.C_below hr1 (hBl.trans (hW.mono (by omega)))
            · intro ad hA hne
              subst hA
              obtain ⟨ad', e', hx⟩ := Kd.at_int hr1 0 (by omega) (by have : 0 < l1.length := List.length_pos_iff.mpr hne; omega)
              cases e'
              have := World.block_lt_of_cell? w _ hx
              rw [add_block] at this
              omega
          case kb =>
            intro W l o o' hl ho _ _
            simp at hl
            exact ⟨by simp [World.putObj], fun i hi _ => World.putObj_heap_other (by omega)⟩
          case body =>
            rintro l pre x W ⟨⟨v, hv, hrow, _⟩, hB, hWs⟩ hlt'
            have hc := hv.cell
            have hi := HI.out
            gi_wp2_with (gi_at_builtin; refine wpListIn_append_own _ rfl _ _ 22 rfl (w.heap.size + 4) 3 i0 (.int .i64 0) 1 8 Try.underlying22 hi hz0 hz1 hz2 rfl (by decide) _ _ _ rfl (hrow.alloc _) ⟨W.heap.size, 0, none⟩ 1 1 [.int .i64 x] rfl rfl (cell_one_new _ _ _) (by simp [Value.oneCell']) (by unfold maxLen; omega) (by omega) (by simp; omega) ?_; intro v' w1 hown' hgrow _; obtain ⟨g', cap', rfl⟩ := ownsRow_succ hown'; obtain ⟨hv1, hv2, hr2, hk2, hb2⟩ := hv.appended (by decide) (own_weaken (base' := w.heap.size) hrow (by omega)) hB.size (Nat.le_refl _) (own_weaken (base' := w.heap.size) hown' (by omega)) hgrow; have hc1 := hv1.cell; have hf1 := hv1.frozen)
            refine ⟨hk2.from _, ⟨hb2.size, fun i hi ho => ?_⟩, ⟨_, hv2, ?_, trivial⟩, hB.trans hb2, Nat.le_trans hWs hb2.size⟩
            · refine (Below.heap_setCell w1 ⟨w.heap.size, 0, none⟩ _ i ho).trans ((hgrow.block i (by simp; omega) (fun e => ?_)).trans (Below.heap_alloc W _ i (by omega)))
              have := own_base hrow i e.symm
              omega
            · have := own_setCell hown' (p := ⟨w.heap.size, 0, none⟩) (hv1.not_row (by decide) hown') (.slice (some ⟨g', 0, none⟩) (pre.length + 1) cap')
              simpa using this
          case done =>
            rintro D ys W hD rfl ⟨⟨v, hv, hrow, _⟩, hB, hWs⟩ hK
            have hc := hv.cell
            have hf := hv.frozen
            obtain ⟨Av, cv, rfl⟩ := own_slice hrow
            gi_wp2
            have hK2 := (KeepsOthers.setCell W ⟨w.heap.size, 0, none⟩ (.slice Av ys.length cv)).same D _ hK rfl
            have hDs : w.heap.size + 4 ≤ D := by simpa using hD
            have hv2 := hv.set (.slice Av ys.length cv)
            have hr2 := own_setCell hrow (p := ⟨w.heap.size, 0, none⟩) (hv.not_row (by decide) hrow) (.slice Av ys.length cv)
            refine ⟨by simp, .inl ⟨_, _, rfl, run_takeDeferred hK2, ?_⟩⟩
            have hv3 := (hv2.kept (grownBy_putObj' _ D (.deferred none)) (fun e => by simp at e; omega)).cell
            refine ⟨_, fixed_Share.res _ _ w.heap.size _ rfl hv3, ⟨_, rfl, own_weaken (base := w.heap.size + 4) (base' := w.heap.size) (ownsRow_putObj hr2 _ hK2 rfl) (by omega), ?_⟩⟩
            exact (hB.setCell (p := ⟨w.heap.size, 0, none⟩) (Nat.le_refl _) _).trans (belowK_b (w := w) (Nat.le_refl _) _ D _ _ (by omega) hK2 rfl rfl)
          case stop =>
            rintro D c pre W _ _ h _
            exact h.elim
theorem fixed_Share.calls (k : Nat) (a0 : Int) (A1 : Option Addr) (c1 : Nat) (l1 : List Int) (r : List Int) (w : World) (hr1 : Kd.C (Kd.int .i64) w A1 l1.length l1) (hc1 : l1.length ≤ c1) (h : fixed_Share.f k a0 l1 = some r) :
    Calls Try.prog 21 #[.int .i64 a0, .slice A1 l1.length c1] w fun e w' => ∃ v0_ : Value, e = .returned (v0_) ∧ Kd.R (Kd.int .i64) 3 w' w.heap.size (fun _ => True) v0_ r ∧ Below w.heap.size w w' := by
  refine ((callsIn_wide (n := 11)).1 (fixed_Share.callsIn k a0 A1 c1 l1 r w hr1 hc1 h)).mono ?_
  rintro e w' ⟨v, rfl, ho, hb⟩
  exact ⟨v, rfl, Kd.R_of_own ho (fun _ _ => trivial), hb⟩
end


/-! ### spread_By: function 13 -/
def spread_By.f (k : Nat) (a0 : Int) (l1 : List Int) : Option (List Int) := (spread_right.f a0 (l1.length : Int)).bind fun t254 => (if t254 = true then ((fixed_Share.f k (mn a0 68719476736) l1).bind fun t258 => (if (t258.length : Int) > 0 then (some t258) else ((fixed_Split.f k a0 (l1.length : Int)).bind fun t261 => (if (t261.length : Int) > 0 then (some t261) else (if 0 ≤ (l1.length : Int) then (if ((l1.length : Int) : Int).toNat ≤ 35184372088832 then (some (List.replicate ((l1.length : Int) : Int).toNat 0)) else (none)) else (none)))))) else (if 0 ≤ (l1.length : Int) then (if ((l1.length : Int) : Int).toNat ≤ 35184372088832 then (some (List.replicate ((l1.length : Int) : Int).toNat 0)) else (none)) else (none)))
theorem spread_By.mono : ∀ a0 a1 k, LeO (spread_By.f k a0 a1) (spread_By.f (k + 1) a0 a1) := by
  intro a0 a1 k
  unfold spread_By.f
  repeat' first
      | (with_reducible exact fixed_Share.mono _ _ _)
      | (with_reducible exact fixed_Split.mono _ _ _)
      | (with_reducible exact LeO.refl _)
      | (with_reducible exact LeO.none _)
      | (with_reducible refine LeO.ite ?_ ?_)
      | (with_reducible refine LeO.bind ?_ (fun _ => ?_))
      | exact fixed_Share.mono _ _ _
      | exact fixed_Split.mono _ _ _
      | exact LeO.none _
      | refine LeO.ite ?_ ?_
      | refine LeO.bind ?_ (fun _ => ?_)
set_option maxHeartbeats 8000000 in
set_option maxRecDepth 100000 in
theorem spread_By.calls (k : Nat) (a0 : Int) (A1 : Option Addr) (c1 : Nat) (l1 : List Int) (r : List Int) (w : World) (hr1 : Kd.C (Kd.int .i64) w A1 l1.length l1) (hc1 : l1.length ≤ c1) (h : spread_By.f k a0 l1 = some r) :
    Calls Try.prog 13 #[.int .i64 a0, .slice A1 l1.length c1] w fun e w' => ∃ v0_ : Value, e = .returned (v0_) ∧ Kd.R (Kd.int .i64) 3 w' w.heap.size (fun _ => True) v0_ r ∧ Below w.heap.size w w' := by
  have HR1 := Aside0.mk hr1
  have HC1 := Aside0.mk hc1
  clear hr1 hc1
  have HB := Aside0.mk (Below.refl w.heap.size w)
  have H : ((spread_right.f a0 (l1.length : Int)).bind fun t254 => (if t254 = true then ((fixed_Share.f k (mn a0 68719476736) l1).bind fun t258 => (if (t258.length : Int) > 0 then (some t258) else ((fixed_Split.f k a0 (l1.length : Int)).bind fun t261 => (if (t261.length : Int) > 0 then (some t261) else (if 0 ≤ (l1.length : Int) then (if ((l1.length : Int) : Int).toNat ≤ 35184372088832 then (some (List.replicate ((l1.length : Int) : Int).toNat 0)) else (none)) else (none)))))) else (if 0 ≤ (l1.length : Int) then (if ((l1.length : Int) : Int).toNat ≤ 35184372088832 then (some (List.replicate ((l1.length : Int) : Int).toNat 0)) else (none)) else (none)))) = some r := h
  clear h
  replace H := Option.bind_eq_some_iff.mp H
  obtain ⟨t254, A30, H⟩ := H
  replace H : (if t254 = true then ((fixed_Share.f k (mn a0 68719476736) l1).bind fun t258 => (if (t258.length : Int) > 0 then (some t258) else ((fixed_Split.f k a0 (l1.length : Int)).bind fun t261 => (if (t261.length : Int) > 0 then (some t261) else (if 0 ≤ (l1.length : Int) then (if ((l1.length : Int) : Int).toNat ≤ 35184372088832 then (some (List.replicate ((l1.length : Int) : Int).toNat 0)) else (none)) else (none)))))) else (if 0 ≤ (l1.length : Int) then (if ((l1.length : Int) : Int).toNat ≤ 35184372088832 then (some (List.replicate ((l1.length : Int) : Int).toNat 0)) else (none)) else (none))) = some r := H
  have A3 := Aside0.mk A30
  clear A30
  by_cases c4 : t254 = true
  · subst c4
    have H1 : ((fixed_Share.f k (mn a0 68719476736) l1).bind fun t258 => (if (t258.length : Int) > 0 then (some t258) else ((fixed_Split.f k a0 (l1.length : Int)).bind fun t261 => (if (t261.length : Int) > 0 then (some t261) else (if 0 ≤ (l1.length : Int) then (if ((l1.length : Int) : Int).toNat ≤ 35184372088832 then (some (List.replicate ((l1.length : Int) : Int).toNat 0)) else (none)) else (none)))))) = some r := by rw [if_pos rfl] at H; exact H
    clear H
    have H := H1
    clear H1
    obtain ⟨ji5, hji5⟩ : ∃ j_ : Int, (mn a0 68719476736) = j_ := ⟨_, rfl⟩
    replace H : ((fixed_Share.f k (ji5) l1).bind fun t258 => (if (t258.length : Int) > 0 then (some t258) else ((fixed_Split.f k a0 (l1.length : Int)).bind fun t261 => (if (t261.length : Int) > 0 then (some t261) else (if 0 ≤ (l1.length : Int) then (if ((l1.length : Int) : Int).toNat ≤ 35184372088832 then (some (List.replicate ((l1.length : Int) : Int).toNat 0)) else (none)) else (none)))))) = some r := by first | (rw [hji5] at H; exact H) | (simp only [hji5] at H ⊢; exact H)
    (try rw [hji5] at A3)
    (try (have hji5h : ji5 ≤ 68719476736 := by (rw [← hji5]; unfold mn; (repeat' split) <;> omega)))
    (try (have hji5g : ji5 ≤ 64 := by omega))
    have hji5_ : (if 68719476736 < a0 then 68719476736 else a0) = ji5 := hji5
    replace H := Option.bind_eq_some_iff.mp H
    obtain ⟨t258, A60, H⟩ := H
    replace H : (if (t258.length : Int) > 0 then (some t258) else ((fixed_Split.f k a0 (l1.length : Int)).bind fun t261 => (if (t261.length : Int) > 0 then (some t261) else (if 0 ≤ (l1.length : Int) then (if ((l1.length : Int) : Int).toNat ≤ 35184372088832 then (some (List.replicate ((l1.length : Int) : Int).toNat 0)) else (none)) else (none))))) = some r := H
    have A6 := Aside0.mk A60
    clear A60
    by_cases c7 : (t258.length : Int) > 0
    · rw [if_pos c7] at H
      have c7b0 : decide (0 < (t258.length : Int)) = true := decide_eq_true c7
      have c7b1 : decide (0 < t258.length) = true := decide_eq_true (by omega)
      clear c7
      obtain rfl := Option.some.inj H
      go_enter Try.func13, Try.ntmps13
      go_wp2_with (first | ((with_reducible refine gate_callee (f := 15) rfl ?_); refine goesL_ (some 10) rfl rfl Try.func15 (by kernel_rfl) rfl #[.int .i64 a0, .int .i64 (l1.length : Int)] rfl pmAx11_1_ ?_; (with_reducible refine (spread_right.calls a0 (l1.length : Int) true _ A3.out).mono ?_); rintro e w' ⟨rfl, ⟨nd, rfl⟩⟩; refine ⟨_, rfl, ?_⟩) | ((with_reducible refine gate_callee (f := 21) rfl ?_); refine goesL_ (some 18) rfl rfl Try.func21 (by kernel_rfl) rfl #[.int .i64 ji5, .slice A1 l1.length c1] rfl pmAx11_3_ ?_; (with_reducible refine (fixed_Share.calls k ji5 _ _ l1 t258 _ ?side1 ?side2 A6.out).mono ?_); (case side1 => repeat (first | exact HR1.out | (with_reducible refine Kd.C_alloc ?_ _) | (with_reducible refine Kd.C_drewN ?_ _) | (with_reducible refine Kd.C_drew ?_))); (case side2 => exact HC1.out); rintro e w8 ⟨v259, rfl, ho0, hb⟩; refine ⟨_, rfl, ?_⟩; have n0_ := Aside0.mk (Kd.R_lower ho0 (below_size pmAx11_0_)); have n1_ := Aside0.mk (below_step pmAx11_0_ hb); clear HB; have HO260 := n0_; have HB := n1_; clear n0_ n1_; (try clear hb); (try clear hb2); (try clear hk); (try clear hi); (try clear ho0); obtain ⟨Ao9, co9, eo9⟩ := Kd.R_slice HO260.out; subst eo9))
      go_ret
      exact ⟨_, by first | rfl | (simp [errW_none, errW_some] <;> rfl) | (simp only [← hji5]; first | rfl | (simp [errW_none, errW_some] <;> rfl)) | (simp [*, errW_none, errW_some] <;> rfl), by (with_reducible repeat (first | apply Kd.R_alloc | apply Kd.R_drewN | apply Kd.R_drew)); exact HO260.out, by repeat (first | (with_reducible first | exact HB.out | apply below_alloc | apply pw_below_drewN | apply below_drew1) | exact HB.out)⟩
    · rw [if_neg c7] at H
      have c7b0 : decide (0 < (t258.length : Int)) = false := decide_eq_false c7
      have c7b1 : decide (0 < t258.length) = false := decide_eq_false (by omega)
      clear c7
      replace H := Option.bind_eq_some_iff.mp H
      obtain ⟨t261, A100, H⟩ := H
      replace H : (if (t261.length : Int) > 0 then (some t261) else (if 0 ≤ (l1.length : Int) then (if ((l1.length : Int) : Int).toNat ≤ 35184372088832 then (some (List.replicate ((l1.length : Int) : Int).toNat 0)) else (none)) else (none))) = some r := H
      have A10 := Aside0.mk A100
      clear A100
      by_cases c11 : (t261.length : Int) > 0
      · rw [if_pos c11] at H
        have c11b0 : decide (0 < (t261.length : Int)) = true := decide_eq_true c11
        have c11b1 : decide (0 < t261.length) = true := decide_eq_true (by omega)
        clear c11
        obtain rfl := Option.some.inj H
        go_enter Try.func13, Try.ntmps13
        go_wp2_with (first | ((with_reducible refine gate_callee (f := 15) rfl ?_); refine goesL_ (some 10) rfl rfl Try.func15 (by kernel_rfl) rfl #[.int .i64 a0, .int .i64 (l1.length : Int)] rfl pmAx11_1_ ?_; (with_reducible refine (spread_right.calls a0 (l1.length : Int) true _ A3.out).mono ?_); rintro e w' ⟨rfl, ⟨nd, rfl⟩⟩; refine ⟨_, rfl, ?_⟩) | ((with_reducible refine gate_callee (f := 21) rfl ?_); refine goesL_ (some 18) rfl rfl Try.func21 (by kernel_rfl) rfl #[.int .i64 ji5, .slice A1 l1.length c1] rfl pmAx11_3_ ?_; (with_reducible refine (fixed_Share.calls k ji5 _ _ l1 t258 _ ?side1 ?side2 A6.out).mono ?_); (case side1 => repeat (first | exact HR1.out | (with_reducible refine Kd.C_alloc ?_ _) | (with_reducible refine Kd.C_drewN ?_ _) | (with_reducible refine Kd.C_drew ?_))); (case side2 => exact HC1.out); rintro e w12 ⟨v259, rfl, ho0, hb⟩; refine ⟨_, rfl, ?_⟩; have n0_ := Aside0.mk (Kd.R_lower ho0 (below_size pmAx11_0_)); have n1_ := Aside0.mk (below_step pmAx11_0_ hb); clear HB; have HO260 := n0_; have HB := n1_; clear n0_ n1_; (try clear hb); (try clear hb2); (try clear hk); (try clear hi); (try clear ho0); obtain ⟨Ao13, co13, eo13⟩ := Kd.R_slice HO260.out; subst eo13) | ((with_reducible refine gate_callee (f := 17) rfl ?_); refine goesL_ (some 26) rfl rfl Try.func17 (by kernel_rfl) rfl #[.int .i64 a0, .int .i64 (l1.length : Int)] rfl pmAx11_1_ ?_; (with_reducible refine (fixed_Split.calls k a0 (l1.length : Int) t261 _ A10.out).mono ?_); rintro e w14 ⟨v262, rfl, ho0, hb⟩; refine ⟨_, rfl, ?_⟩; have n0_ := Aside0.mk (Kd.R_elder' pmAx11_2_ (Kd.R_base ho0) hb); have n1_ := Aside0.mk (Kd.R_lower (Kd.R_new' ho0 (Kd.R_lt pmAx11_2_)) (below_size pmAx11_0_)); have n2_ := Aside0.mk (below_step pmAx11_0_ hb); clear HO260; clear HB; have HO260 := n0_; have HO263 := n1_; have HB := n2_; clear n0_ n1_ n2_; (try clear hb); (try clear hb2); (try clear hk); (try clear hi); (try clear ho0); obtain ⟨Ao15, co15, eo15⟩ := Kd.R_slice HO263.out; subst eo15))
        go_ret
        exact ⟨_, by first | rfl | (simp [errW_none, errW_some] <;> rfl) | (simp only [← hji5]; first | rfl | (simp [errW_none, errW_some] <;> rfl)) | (simp [*, errW_none, errW_some] <;> rfl), by (with_reducible repeat (first | apply Kd.R_alloc | apply Kd.R_drewN | apply Kd.R_drew)); exact Kd.R_mono HO263.out (fun _ hk => trivial), by repeat (first | (with_reducible first | exact HB.out | apply below_alloc | apply pw_below_drewN | apply below_drew1) | exact HB.out)⟩
      · rw [if_neg c11] at H
        have c11b0 : decide (0 < (t261.length : Int)) = false := decide_eq_false c11
        have c11b1 : decide (0 < t261.length) = false := decide_eq_false (by omega)
        clear c11
        by_cases c16 : 0 ≤ (l1.length : Int)
        · rw [if_pos c16] at H
          have c16b0 := eq_true c16
          have c16b1 : decide (0 ≤ (l1.length : Int)) = true := decide_eq_true c16
          clear c16
          by_cases c17 : ((l1.length : Int) : Int).toNat ≤ 35184372088832
          · rw [if_pos c17] at H
            have c17b0 := eq_true c17
            have c17b1 : decide (((l1.length : Int) : Int).toNat ≤ 35184372088832) = true := decide_eq_true c17
            clear c17
            obtain ⟨y264, hy264⟩ : ∃ y_ : List Int, y_ = (List.replicate ((l1.length : Int) : Int).toNat 0) := ⟨_, rfl⟩
            replace H : (some y264) = some r := by first | (rw [hy264]; with_reducible exact H) | (have H2_ := (Option.bind_some _ _).symm.trans H; rw [hy264]; with_reducible exact H2_) | (have H2_ := (Option.bind_some _ _).symm.trans H; with_reducible exact H2_) | with_reducible exact H | (rw [hy264]; exact H) | exact H
            have Ny264 := Aside0.mk hy264
            clear hy264
            obtain rfl := Option.some.inj H
            go_enter Try.func13, Try.ntmps13
            go_wp2_with (first | ((with_reducible refine gate_callee (f := 15) rfl ?_); refine goesL_ (some 10) rfl rfl Try.func15 (by kernel_rfl) rfl #[.int .i64 a0, .int .i64 (l1.length : Int)] rfl pmAx11_1_ ?_; (with_reducible refine (spread_right.calls a0 (l1.length : Int) true _ A3.out).mono ?_); rintro e w' ⟨rfl, ⟨nd, rfl⟩⟩; refine ⟨_, rfl, ?_⟩) | ((with_reducible refine gate_callee (f := 21) rfl ?_); refine goesL_ (some 18) rfl rfl Try.func21 (by kernel_rfl) rfl #[.int .i64 ji5, .slice A1 l1.length c1] rfl pmAx11_3_ ?_; (with_reducible refine (fixed_Share.calls k ji5 _ _ l1 t258 _ ?side1 ?side2 A6.out).mono ?_); (case side1 => repeat (first | exact HR1.out | (with_reducible refine Kd.C_alloc ?_ _) | (with_reducible refine Kd.C_drewN ?_ _) | (with_reducible refine Kd.C_drew ?_))); (case side2 => exact HC1.out); rintro e w18 ⟨v259, rfl, ho0, hb⟩; refine ⟨_, rfl, ?_⟩; have n0_ := Aside0.mk (Kd.R_lower ho0 (below_size pmAx11_0_)); have n1_ := Aside0.mk (below_step pmAx11_0_ hb); clear HB; have HO260 := n0_; have HB := n1_; clear n0_ n1_; (try clear hb); (try clear hb2); (try clear hk); (try clear hi); (try clear ho0); obtain ⟨Ao19, co19, eo19⟩ := Kd.R_slice HO260.out; subst eo19) | ((with_reducible refine gate_callee (f := 17) rfl ?_); refine goesL_ (some 26) rfl rfl Try.func17 (by kernel_rfl) rfl #[.int .i64 a0, .int .i64 (l1.length : Int)] rfl pmAx11_1_ ?_; (with_reducible refine (fixed_Split.calls k a0 (l1.length : Int) t261 _ A10.out).mono ?_); rintro e w20 ⟨v262, rfl, ho0, hb⟩; refine ⟨_, rfl, ?_⟩; have n0_ := Aside0.mk (Kd.R_elder' pmAx11_2_ (Kd.R_base ho0) hb); have n1_ := Aside0.mk (Kd.R_lower (Kd.R_new' ho0 (Kd.R_lt pmAx11_2_)) (below_size pmAx11_0_)); have n2_ := Aside0.mk (below_step pmAx11_0_ hb); clear HO260; clear HB; have HO260 := n0_; have HO263 := n1_; have HB := n2_; clear n0_ n1_ n2_; (try clear hb); (try clear hb2); (try clear hk); (try clear hi); (try clear ho0); obtain ⟨Ao21, co21, eo21⟩ := Kd.R_slice HO263.out; subst eo21) | ((with_reducible refine gate_dst (N := 33) rfl ?_); refine Kd.R_make (Kd.int .i64) _ 3 rfl (N := 33) rfl 22 _ _ rfl (l1.length : Int) rfl rfl Try.underlying22 (.int .i64 0) 8 info3 rfl (by decide) (by omega) 0 (ok := fun _ => True) (okp := fun _ => True) rfl (fun _ hk => hk) trivial (of_decide_eq_true (by first | (with_reducible assumption) | assumption)) (Nat.le_trans (Nat.mul_le_mul_right _ (of_decide_eq_true (by first | (with_reducible assumption) | assumption) : (l1.length : Int).toNat ≤ 35184372088832)) (by omega)) (Below.refl _ _) (Nat.le_refl _) ?_; intro v265 w22 ho23 hb hg_ hnew_; clear hg_ hnew_; (first | rw [← Ny264.out] at ho23 | (simp only [Int.reduceToNat] at ho23; rw [← Ny264.out] at ho23)); have n0_ := Aside0.mk (Kd.R_elder' pmAx11_2_ (Kd.R_base ho23) hb); have n1_ := Aside0.mk (Kd.R_elder' (by (with_reducible repeat (first | apply Kd.R_alloc | apply Kd.R_drewN | apply Kd.R_drew)); exact HO263.out) (Kd.R_base ho23) hb); have n2_ := Aside0.mk (Kd.R_lower (Kd.R_new' (Kd.R_new' ho23 (Kd.R_lt pmAx11_2_)) (Kd.R_lt (by (with_reducible repeat (first | apply Kd.R_alloc | apply Kd.R_drewN | apply Kd.R_drew)); exact HO263.out))) (below_size pmAx11_0_)); have n3_ := Aside0.mk (below_step pmAx11_0_ hb); clear HO260; clear HO263; clear HB; have HO260 := n0_; have HO263 := n1_; have HO266 := n2_; have HB := n3_; clear n0_ n1_ n2_ n3_; clear hb ho23))
            go_ret
            exact ⟨_, by first | rfl | (simp [errW_none, errW_some] <;> rfl) | (simp only [← hji5]; first | rfl | (simp [errW_none, errW_some] <;> rfl)) | (simp [*, errW_none, errW_some] <;> rfl), by (with_reducible repeat (first | apply Kd.R_alloc | apply Kd.R_drewN | apply Kd.R_drew)); exact Kd.R_mono HO266.out (fun _ hk => trivial), by repeat (first | (with_reducible first | exact HB.out | apply below_alloc | apply pw_below_drewN | apply below_drew1) | exact HB.out)⟩
          · rw [if_neg c17] at H
            exact absurd H (by simp)
        · rw [if_neg c16] at H
          exact absurd H (by simp)
  · replace c4 := Bool.eq_false_iff.mpr c4
    subst c4
    have H1 : (if 0 ≤ (l1.length : Int) then (if ((l1.length : Int) : Int).toNat ≤ 35184372088832 then (some (List.replicate ((l1.length : Int) : Int).toNat 0)) else (none)) else (none)) = some r := by rw [if_neg (show ¬ (false = true) by decide)] at H; exact H
    clear H
    have H := H1
    clear H1
    by_cases c24 : 0 ≤ (l1.length : Int)
    · rw [if_pos c24] at H
      have c24b0 := eq_true c24
      have c24b1 : decide (0 ≤ (l1.length : Int)) = true := decide_eq_true c24
      clear c24
      by_cases c25 : ((l1.length : Int) : Int).toNat ≤ 35184372088832
      · rw [if_pos c25] at H
        have c25b0 := eq_true c25
        have c25b1 : decide (((l1.length : Int) : Int).toNat ≤ 35184372088832) = true := decide_eq_true c25
        clear c25
        obtain ⟨y255, hy255⟩ : ∃ y_ : List Int, y_ = (List.replicate ((l1.length : Int) : Int).toNat 0) := ⟨_, rfl⟩
        replace H : (some y255) = some r := by first | (rw [hy255]; with_reducible exact H) | (have H2_ := (Option.bind_some _ _).symm.trans H; rw [hy255]; with_reducible exact H2_) | (have H2_ := (Option.bind_some _ _).symm.trans H; with_reducible exact H2_) | with_reducible exact H | (rw [hy255]; exact H) | exact H
        have Ny255 := Aside0.mk hy255
        clear hy255
        obtain rfl := Option.some.inj H
        go_enter Try.func13, Try.ntmps13
        go_wp2_with (first | ((with_reducible refine gate_callee (f := 15) rfl ?_); refine goesL_ (some 10) rfl rfl Try.func15 (by kernel_rfl) rfl #[.int .i64 a0, .int .i64 (l1.length : Int)] rfl pmAx11_1_ ?_; (with_reducible refine (spread_right.calls a0 (l1.length : Int) false _ A3.out).mono ?_); rintro e w' ⟨rfl, ⟨nd, rfl⟩⟩; refine ⟨_, rfl, ?_⟩) | ((with_reducible refine gate_dst (N := 14) rfl ?_); refine Kd.R_make (Kd.int .i64) _ 3 rfl (N := 14) rfl 22 _ _ rfl (l1.length : Int) rfl rfl Try.underlying22 (.int .i64 0) 8 info3 rfl (by decide) (by omega) 0 (ok := fun _ => True) (okp := fun _ => True) rfl (fun _ hk => hk) trivial (of_decide_eq_true (by first | (with_reducible assumption) | assumption)) (Nat.le_trans (Nat.mul_le_mul_right _ (of_decide_eq_true (by first | (with_reducible assumption) | assumption) : (l1.length : Int).toNat ≤ 35184372088832)) (by omega)) (Below.refl _ _) (Nat.le_refl _) ?_; intro v256 w26 ho27 hb hg_ hnew_; clear hg_ hnew_; (first | rw [← Ny255.out] at ho27 | (simp only [Int.reduceToNat] at ho27; rw [← Ny255.out] at ho27)); have n0_ := Aside0.mk (Kd.R_lower ho27 (below_size pmAx11_0_)); have n1_ := Aside0.mk (below_step pmAx11_0_ hb); clear HB; have HO257 := n0_; have HB := n1_; clear n0_ n1_; clear hb ho27))
        go_ret
        exact ⟨_, by first | rfl | (simp [errW_none, errW_some] <;> rfl) | (simp [*, errW_none, errW_some] <;> rfl), by (with_reducible repeat (first | apply Kd.R_alloc | apply Kd.R_drewN | apply Kd.R_drew)); exact HO257.out, by repeat (first | (with_reducible first | exact HB.out | apply below_alloc | apply pw_below_drewN | apply below_drew1) | exact HB.out)⟩
      · rw [if_neg c25] at H
        exact absurd H (by simp)
    · rw [if_neg c24] at H
      exact absurd H (by simp)

/-! ### parterreref01_Wide_twice: function 34 -/
def parterreref01_Wide_twice.f (a0_0 : Int) (a0_1 : Int) (a1 : Int) : Option (Int × Int) := some (IntKind.u64.wrap ((IntKind.u64.wrap (2 * a0_0)) + (IntKind.u64.wrap (Int.tdiv a0_1 9223372036854775808))), IntKind.u64.wrap ((IntKind.u64.wrap (2 * a0_1)) + a1))
set_option maxHeartbeats 8000000 in
set_option maxRecDepth 100000 in
theorem parterreref01_Wide_twice.calls (a0_0 : Int) (a0_1 : Int) (a1 : Int) (r1 : Int) (r2 : Int) (w : World) (h : parterreref01_Wide_twice.f a0_0 a0_1 a1 = some (r1, r2)) :
    Calls Try.prog 34 #[.agg #[.int .u64 a0_0, .int .u64 a0_1], .int .u64 a1] w fun e w' => e = .returned (.agg #[.int .u64 r1, .int .u64 r2]) ∧ Below w.heap.size w w' := by
  have hu47 := Try.underlying47
  have HB := Aside0.mk (Below.refl w.heap.size w)
  have H : (some (IntKind.u64.wrap ((IntKind.u64.wrap (2 * a0_0)) + (IntKind.u64.wrap (Int.tdiv a0_1 9223372036854775808))), IntKind.u64.wrap ((IntKind.u64.wrap (2 * a0_1)) + a1))) = some (r1, r2) := h
  clear h
  simp only [Option.some.injEq, Prod.mk.injEq] at H
  obtain ⟨rfl, rfl⟩ := H
  go_enter Try.func34, Try.ntmps34
  go_wp2_with (first | ((with_reducible refine gate_dst (N := 2) rfl ?_); refine box_event ?hg (N := 2) ?hd (cs := #[.int .u64 a0_0, .int .u64 a0_1]) (t := 47) ?hr ?_; (case hd => rfl); (case hg => rfl); (case hr => first | (go_simp; done) | (go_simp; rfl)); intro gb267 hg w3 hbox hb; have n0_ := Aside0.mk (below_step pmAx11_0_ hb); have n1_ := Aside0.mk (hbox); have n2_ := Aside0.mk ((by rw [hg]; exact (below_size pmAx11_0_) : w.heap.size ≤ gb267)); have n3_ := Aside0.mk ((by rw [hg]; exact (below_size pmAx11_0_) : w.heap.size ≤ gb267)); clear HB; have HB := n0_; have BK267 := n1_; have GW267 := n2_; have GE267 := n3_; clear n0_ n1_ n2_ n3_; clear hb hbox hg) | ((with_reducible refine gate_dst (N := 4) rfl ?_); refine box_event ?hg (N := 4) ?hd (cs := #[.int .u64 0, .int .u64 0]) (t := 47) ?hr ?_; (case hd => rfl); (case hg => rfl); (case hr => first | (go_simp; done) | (go_simp; rfl)); intro gb268 hg w4 hbox hb; have n0_ := Aside0.mk (blk_below (g := gb267) (o := .cells #[.int .u64 a0_0, .int .u64 a0_1] 47 (0, 0)) pmAx11_5_ hb); have n1_ := Aside0.mk (below_step pmAx11_4_ hb); have n2_ := Aside0.mk (hbox); have n3_ := Aside0.mk ((by rw [hg]; exact (below_size pmAx11_4_) : w.heap.size ≤ gb268)); have n4_ := Aside0.mk ((by rw [hg]; exact (below_size pmAx11_4_) : w.heap.size ≤ gb268)); have n5_ := Aside0.mk ((by rw [hg]; exact Nat.ne_of_lt (blk_lt (g := gb267) (o := .cells #[.int .u64 a0_0, .int .u64 a0_1] 47 (0, 0)) pmAx11_5_) : gb267 ≠ gb268)); have n6_ := Aside0.mk ((by rw [hg]; exact Nat.ne_of_gt (blk_lt (g := gb267) (o := .cells #[.int .u64 a0_0, .int .u64 a0_1] 47 (0, 0)) pmAx11_5_) : gb268 ≠ gb267)); clear BK267; clear HB; have BK267 := n0_; have HB := n1_; have BK268 := n2_; have GW268 := n3_; have GE268 := n4_; have NB267_268 := n5_; have NB268_267 := n6_; clear n0_ n1_ n2_ n3_ n4_ n5_ n6_; clear hb hbox hg; have hnb5 := NB267_268.out; have hnc5 := NB268_267.out; have hcz6_0 : w4.cell? ⟨gb267, 0, none⟩ = some (.int .u64 a0_0) := (blk_cell BK267.out 0).trans rfl; have hcz6_1 : w4.cell? ⟨gb267, 1, none⟩ = some (.int .u64 a0_1) := (blk_cell BK267.out 1).trans rfl; have hfz6_0 := blk_frozen BK267.out 0; have hfz6_1 := blk_frozen BK267.out 1; have hcz7_0 : w4.cell? ⟨gb268, 0, none⟩ = some (.int .u64 0) := (blk_cell BK268.out 0).trans rfl; have hcz7_1 : w4.cell? ⟨gb268, 1, none⟩ = some (.int .u64 0) := (blk_cell BK268.out 1).trans rfl; have hfz7_0 := blk_frozen BK268.out 0; have hfz7_1 := blk_frozen BK268.out 1))
  refine bodyPost_ret (results_cell_row rfl _ _ gb268 47 #[.int .u64 (IntKind.u64.wrap ((IntKind.u64.wrap (2 * a0_0)) + (IntKind.u64.wrap (Int.tdiv a0_1 9223372036854775808)))), .int .u64 (IntKind.u64.wrap ((IntKind.u64.wrap (2 * a0_1)) + a1))] (0, 0) _ rfl (by (with_reducible repeat (first | refine blk_drewN ?_ _ | refine blk_drew ?_ | refine blk_alloc ?_ _)); refine blk_put (cs := #[.int .u64 (IntKind.u64.wrap ((IntKind.u64.wrap (2 * a0_0)) + (IntKind.u64.wrap (Int.tdiv a0_1 9223372036854775808)))), .int .u64 0]) ?_ 1 _ rfl; (with_reducible repeat (first | refine blk_drewN ?_ _ | refine blk_drew ?_ | refine blk_alloc ?_ _)); refine blk_put (cs := #[.int .u64 0, .int .u64 0]) ?_ 0 _ rfl; (with_reducible repeat (first | refine blk_drewN ?_ _ | refine blk_drew ?_ | refine blk_alloc ?_ _)); exact BK268.out) Try.underlying47 rfl (by kernel_rfl)) rfl ?_
  exact ⟨by first | rfl | (simp [errW_none, errW_some] <;> rfl) | (simp [*, errW_none, errW_some] <;> rfl), by repeat (first | (with_reducible first | exact HB.out | apply below_alloc | apply pw_below_drewN | apply below_drew1 | refine below_set ?_ GE267.out | refine below_set ?_ GE268.out) | exact HB.out)⟩

end Go.Proofs.Ytecccaniopkphaa.PA

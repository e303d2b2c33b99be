/- How great flexible tracks are for what is wanted: it is there. Plain laws. No condition beyond what each states. -/
import Derived.Test.YtpaabecgngbjcaaT
import Derived.Test.YtpaabecgngbjcaaKflp
set_option linter.unusedVariables false
set_option linter.unusedSimpArgs false
set_option maxRecDepth 10000
namespace Go.Proofs.Ytpaabecgngbjcaa.T
open Go Go.Proofs.Ytpaabecgngbjcaa.Sx Go.Proofs.Ytpaabecgngbjcaa.M

theorem upS_eq {a c : Int} (ha : 0 ≤ a ∧ a ≤ 68719476736) (hc : 1000 ≤ c ∧ c ≤ 4611686018427387904) : upS a 1000 c = a * 1000 / c + (if 0 < a * 1000 % c then 1 else 0) := by
  have h1 : ab (-a) = a := by unfold ab; split <;> omega
  have h2 : ab 1000 = 1000 := rfl
  have h3 : ab c = c := by unfold ab; rw [if_neg (by omega)]
  have hq0 : 0 ≤ a * 1000 / c := Int.ediv_nonneg (by omega) (by omega)
  have hq1 : a * 1000 / c ≤ a * 1000 := Int.ediv_le_self _ (by omega)
  unfold upS md
  rw [if_neg (by omega), h1, h2, h3]
  unfold mdN
  by_cases hz : a = 0
  · subst hz
    simp
  · have hn : ng (-a) 1000 c = true := by
      unfold ng
      rw [decide_eq_true (by omega : -a < 0), decide_eq_false (by omega : ¬ (1000 : Int) < 0), decide_eq_false (by omega : ¬ c < 0)]
      rfl
    rw [hn, if_pos rfl]
    by_cases hR : 0 < a * 1000 % c
    · rw [if_pos hR, if_pos hR, if_neg (by omega)]
      simp only
      omega
    · rw [if_neg hR, if_neg hR, if_pos (by omega)]
      simp only
      omega
theorem upS_ge {a c : Int} (ha : 0 ≤ a ∧ a ≤ 68719476736) (hc : 1000 ≤ c ∧ c ≤ 4611686018427387904) : a * 1000 ≤ upS a 1000 c * c := by
  rw [upS_eq ha hc]
  have h1 := Int.mul_ediv_add_emod (a * 1000) c
  have h2 := Int.emod_lt_of_pos (a * 1000) (show 0 < c by omega)
  have h3 := Int.emod_nonneg (a * 1000) (show c ≠ 0 by omega)
  rw [Int.mul_comm c] at h1
  split
  · rw [Int.add_mul]; omega
  · rw [Int.add_zero]; omega
theorem upS_le {a c : Int} (ha : 0 ≤ a ∧ a ≤ 68719476736) (hc : 1000 ≤ c ∧ c ≤ 4611686018427387904) : 0 ≤ upS a 1000 c ∧ upS a 1000 c ≤ a := by
  rw [upS_eq ha hc]
  have h1 := Int.mul_ediv_add_emod (a * 1000) c
  have h3 := Int.emod_nonneg (a * 1000) (show c ≠ 0 by omega)
  have hq0 : 0 ≤ a * 1000 / c := Int.ediv_nonneg (by omega) (by omega)
  have hac : a * 1000 ≤ c * a := by
    have := Int.mul_le_mul_of_nonneg_left hc.1 ha.1
    rw [Int.mul_comm c]
    exact this
  split
  · have : c * (a * 1000 / c) < c * a := by omega
    have := Int.lt_of_mul_lt_mul_left this (by omega)
    omega
  · have : c * (a * 1000 / c) ≤ c * a := by omega
    have := Int.le_of_mul_le_mul_left this (by omega)
    omega
theorem u1S_le : ∀ (s : List Sz) (n : Int), s.all okF = true → 0 ≤ n → n ≤ 68719476736 → 0 ≤ u1S s n ∧ u1S s n ≤ 68719476736
  | [], n, _, h0, h1 => ⟨h0, h1⟩
  | x :: s, n, h, h0, h1 => by
    simp only [List.all_cons, Bool.and_eq_true] at h
    have hx := okF_in h.1
    have := upS_le (a := x.base) (c := max x.fr 1000) (by omega) (by omega)
    rw [u1S]
    refine u1S_le s _ h.2 ?_ ?_ <;> split <;> omega
theorem unitS_le (s : List Sz) (space : Int) (hl : s.length ≤ 10000) : unitS s space ≤ 68719476736 := by
  unfold unitS
  split
  · omega
  · rename_i hb
    obtain ⟨hsp, hs⟩ := rightB_in (show rightB s space = true by cases h : rightB s space with | true => rfl | false => exact absurd h hb)
    split
    · omega
    · have hL := leftS_in s (finS s space) space hs hsp.1 hsp.2
      have hN := partsF_in s (finS s space) 0 hs (Int.le_refl _)
      have := upS_le (a := leftS s (finS s space) space) (c := max (partsF s (finS s space) 0) 1000) hL (by omega)
      omega
theorem u3S_le (s : List Sz) (a : List Int) (hl : s.length ≤ 10000) : ∀ (ws : List Wn) (n : Int), 0 ≤ n → n ≤ 68719476736 → (n ≤ u3S s a ws n ∧ u3S s a ws n ≤ 68719476736) ∧ ∀ w ∈ ws, u3W s a w ≤ u3S s a ws n
  | [], n, h0, h1 => ⟨⟨Int.le_refl _, h1⟩, fun w hw => by simp at hw⟩
  | w :: ws, n, h0, h1 => by
    rw [u3S]
    have : u3W s a w ≤ 68719476736 := by unfold u3W; exact unitS_le _ _ (by simp; omega)
    obtain ⟨h2, h3⟩ := u3S_le s a hl ws (max n (u3W s a w)) (by omega) (by omega)
    refine ⟨by omega, fun x hx => ?_⟩
    rcases List.mem_cons.1 hx with rfl | hx
    · omega
    · exact h3 x hx
theorem gU_eq {unit : Int} {x : Sz} (hu : 0 ≤ unit ∧ unit ≤ 68719476736) (hx : okF x = true) : gU unit x = if x.mx = 5 then min (unit * x.fr / 1000) 68719476736 else 0 := by
  have hok := okF_in hx
  have h1 : unit * x.fr ≤ 68719476736 * 1073741824 := mul_lt' hu.1 hu.2 hok.2.2.2.1 hok.2.2.2.2
  have h0 : 0 ≤ unit * x.fr := Int.mul_nonneg hu.1 hok.2.2.2.1
  unfold gU
  split
  · rw [md_pos hu.1 hok.2.2.2.1 (by omega) (by omega)]
  · rfl
theorem gU_nn {unit : Int} {x : Sz} (hu : 0 ≤ unit ∧ unit ≤ 68719476736) (hx : okF x = true) : 0 ≤ gU unit x ∧ gU unit x ≤ 68719476736 ∧ (x.mx ≠ 5 → gU unit x = 0) := by
  have hok := okF_in hx
  have h0 : 0 ≤ unit * x.fr := Int.mul_nonneg hu.1 hok.2.2.2.1
  have h2 : 0 ≤ unit * x.fr / 1000 := by omega
  rw [gU_eq hu hx]
  split
  · rename_i h
    exact ⟨by omega, by omega, fun hh => absurd h hh⟩
  · exact ⟨by omega, by omega, fun _ => rfl⟩
theorem whoF_init : ∀ (s : List Sz) (i : Nat), (∃ x ∈ s, x.mx = 5) → whoF i s (List.replicate s.length false) ≠ []
  | [], i, h => by simp at h
  | x :: s, i, h => by
    simp only [List.length_cons, List.replicate_succ, whoF]
    by_cases hc : x.mx = 5
    · rw [if_neg (by simp [hc])]
      simp
    · rw [if_pos (.inl hc)]
      refine whoF_init s (i + 1) ?_
      obtain ⟨y, hy, hm⟩ := h
      rcases List.mem_cons.1 hy with rfl | hy
      · exact absurd hm hc
      · exact ⟨y, hy, hm⟩
theorem frF_big : ∀ (s : List Sz) (st : List Bool) (i : Nat), s.all okF = true → (∀ x ∈ s, x.mx = 5 → 1000 ≤ x.fr) → whoF i s st ≠ [] → 1000 ≤ sumI (frF s st)
  | [], st, i, _, _, h => by cases st <;> simp [whoF] at h
  | x :: s, [], i, _, _, h => by simp [whoF] at h
  | x :: s, b :: st, i, hs, hf, h => by
    simp only [List.all_cons, Bool.and_eq_true] at hs
    have hx := okF_in hs.1
    have hnn := (sumI_in _ (frF_wg s st hs.2).1).1
    simp only [whoF] at h
    simp only [frF]
    by_cases hc : x.mx ≠ 5 ∨ b = true
    · rw [if_pos hc] at h ⊢
      exact frF_big s st (i + 1) hs.2 (fun y hy => hf y (List.mem_cons_of_mem _ hy)) h
    · rw [if_neg hc]
      have hm : x.mx = 5 := Classical.byContradiction fun hh => hc (.inl hh)
      have := hf x (List.mem_cons_self ..) hm
      simp only [sumI]
      omega
/-- Where all become stiff at once they have more than what is left. -/
theorem all_stiff (L N : Int) (hL : 0 ≤ L ∧ L ≤ 68719476736) (hN : 1000 ≤ N) : ∀ (s : List Sz) (st : List Bool) (i : Nat), st.length = s.length → s.all okF = true → whoF i s (stepF L N s st) = [] → L * sumI (frF s st) ≤ N * (sumB s - stB s st)
  | [], [], i, _, _, _ => by simp [frF, sumI, sumB, stB]
  | [], _ :: _, _, h, _, _ => by simp at h
  | _ :: _, [], _, h, _, _ => by simp at h
  | x :: s, b :: st, i, hl, hs, h => by
    simp only [List.all_cons, Bool.and_eq_true] at hs
    have hx := okF_in hs.1
    simp only [stepF, whoF] at h
    by_cases hb : x.mx ≠ 5 ∨ (b || (decide (x.mx = 5) && decide (partF L N x.fr < x.base))) = true
    · rw [if_pos hb] at h
      have hi := all_stiff L N hL hN s st (i + 1) (by simpa using hl) hs.2 h
      by_cases hc : x.mx ≠ 5 ∨ b = true
      · simp only [frF, if_pos hc, sumB, stB]
        rw [show x.base + sumB s - (x.base + stB s st) = sumB s - stB s st by omega]
        exact hi
      · simp only [frF, if_neg hc, sumB, stB, sumI]
        have hm : x.mx = 5 := Classical.byContradiction fun hh => hc (.inl hh)
        have hbf : b = false := by cases b with | false => rfl | true => exact absurd (.inr rfl) hc
        have hp : partF L N x.fr < x.base := by
          rcases hb with hb | hb
          · exact absurd hm hb
          · rw [hbf] at hb
            simp only [Bool.false_or, Bool.and_eq_true, decide_eq_true_eq] at hb
            exact hb.2
        rw [partF_eq hL (by omega) hx.2.2.2, show max N 1000 = N by omega] at hp
        have h1 := Int.mul_ediv_add_emod (L * x.fr) N
        have h2 := Int.emod_lt_of_pos (L * x.fr) (show 0 < N by omega)
        have h3 : N * (L * x.fr / N + 1) ≤ N * x.base := Int.mul_le_mul_of_nonneg_left (by omega) (by omega)
        rw [Int.mul_add, Int.mul_one] at h3
        rw [Int.mul_add, show x.base + sumB s - (0 + stB s st) = x.base + (sumB s - stB s st) by omega, Int.mul_add]
        omega
    · rw [if_neg hb] at h
      cases h
theorem step_inv (s : List Sz) (sp : Int) (st : List Bool) (hst : st.length = s.length) (hs : s.all okF = true) (hsp : 0 ≤ sp ∧ sp ≤ 68719476736) (hf : ∀ x ∈ s, x.mx = 5 → 1000 ≤ x.fr)
    (h : whoF 0 s st ≠ [] ∨ sp ≤ sumB s) : whoF 0 s (stepS s sp st) ≠ [] ∨ sp ≤ sumB s := by
  rcases h with h | h
  · by_cases hw : whoF 0 s (stepS s sp st) = []
    · refine .inr ?_
      have hN := frF_big s st 0 hs hf h
      have hL := leftS_in s st sp hs hsp.1 hsp.2
      have hLe := leftS_eq s st sp hs hsp.1
      have hp := partsF_fr s st 0
      rw [Int.zero_add] at hp
      have := all_stiff (leftS s st sp) (partsF s st 0) hL (by omega) s st 0 hst hs hw
      rw [← hp, Int.mul_comm] at this
      have := Int.le_of_mul_le_mul_left this (by omega)
      omega
    · exact .inl hw
  · exact .inr h
theorem iter_inv (s : List Sz) (sp : Int) (hs : s.all okF = true) (hsp : 0 ≤ sp ∧ sp ≤ 68719476736) (hf : ∀ x ∈ s, x.mx = 5 → 1000 ≤ x.fr) : ∀ (k : Nat) (st : List Bool), st.length = s.length →
    (whoF 0 s st ≠ [] ∨ sp ≤ sumB s) → (whoF 0 s (iterS s sp k st) ≠ [] ∨ sp ≤ sumB s)
  | 0, st, _, h => h
  | k + 1, st, hst, h => iter_inv s sp hs hsp hf k _ (by rw [stepS_length]; exact hst) (step_inv s sp st hst hs hsp hf h)
/-- Those that are not stiff are as great as their part, but for one unit each. -/
theorem grow_cover (L N unit : Int) (hL : 0 ≤ L ∧ L ≤ 68719476736) (hN : 1000 ≤ N) (hu : 0 ≤ unit ∧ unit ≤ 68719476736) (hun : L * 1000 ≤ unit * N) : ∀ (s : List Sz) (st : List Bool), st.length = s.length → s.all okF = true → sumI (frF s st) ≤ N →
    L * sumI (frF s st) ≤ N * (sumB (growU unit s) + s.length - stB s st)
  | [], [], _, _, _ => by simp [frF, sumI, growU, sumB, stB]
  | [], _ :: _, h, _, _ => by simp at h
  | _ :: _, [], h, _, _ => by simp at h
  | x :: s, b :: st, hl, hs, hle => by
    simp only [List.all_cons, Bool.and_eq_true] at hs
    have hx := okF_in hs.1
    have hg := gU_eq hu hs.1
    have hnn := (sumI_in _ (frF_wg s st hs.2).1).1
    have e : growU unit (x :: s) = raiseS x (gU unit x) :: growU unit s := rfl
    rw [e]
    simp only [sumB, stB, frF, raiseS, List.length_cons] at hle ⊢
    by_cases hc : x.mx ≠ 5 ∨ b = true
    · simp only [if_pos hc] at hle ⊢
      have hi := grow_cover L N unit hL hN hu hun s st (by simpa using hl) hs.2 hle
      have h1 : N * (sumB (growU unit s) + s.length - stB s st) ≤ N * (max x.base (gU unit x) + sumB (growU unit s) + ((s.length + 1 : Nat) : Int) - (x.base + stB s st)) := Int.mul_le_mul_of_nonneg_left (by omega) (by omega)
      omega
    · simp only [if_neg hc, sumI] at hle ⊢
      have hi := grow_cover L N unit hL hN hu hun s st (by simpa using hl) hs.2 (by omega)
      have hm : x.mx = 5 := Classical.byContradiction fun hh => hc (.inl hh)
      rw [if_pos hm] at hg
      have key : L * x.fr ≤ N * (max x.base (gU unit x) + 1) := by
        by_cases hcap : unit * x.fr / 1000 ≤ 68719476736
        · have hq : unit * x.fr < 1000 * (max x.base (gU unit x) + 1) := by omega
          have h1 : unit * x.fr * N ≤ 1000 * (max x.base (gU unit x) + 1) * N := Int.mul_le_mul_of_nonneg_right (by omega) (by omega)
          have h2 : L * 1000 * x.fr ≤ unit * N * x.fr := Int.mul_le_mul_of_nonneg_right hun hx.2.2.2.1
          have e1 : unit * x.fr * N = unit * N * x.fr := by grind
          have e2 : L * 1000 * x.fr = 1000 * (L * x.fr) := by grind
          have e3 : 1000 * (max x.base (gU unit x) + 1) * N = 1000 * (N * (max x.base (gU unit x) + 1)) := by grind
          omega
        · have h1 : L * x.fr ≤ L * N := Int.mul_le_mul_of_nonneg_left (by omega) hL.1
          have h2 : N * L ≤ N * (max x.base (gU unit x) + 1) := Int.mul_le_mul_of_nonneg_left (by omega) (by omega)
          rw [Int.mul_comm N L] at h2
          omega
      rw [Int.mul_add, show max x.base (gU unit x) + sumB (growU unit s) + ((s.length + 1 : Nat) : Int) - (0 + stB s st) = (max x.base (gU unit x) + 1) + (sumB (growU unit s) + s.length - stB s st) by omega, Int.mul_add]
      omega
theorem sumB_grow (unit : Int) : ∀ s : List Sz, sumB s ≤ sumB (growU unit s)
  | [] => Int.le_refl _
  | x :: s => by
    have := sumB_grow unit s
    have e : growU unit (x :: s) = raiseS x (gU unit x) :: growU unit s := rfl
    rw [e]
    simp only [sumB, raiseS]
    omega
/-- What is wanted is there. -/
theorem want_there (s : List Sz) (sp unit : Int) (hs : s.all okF = true) (hsp : 0 ≤ sp ∧ sp ≤ 68719476736) (hf : ∀ x ∈ s, x.mx = 5 → 1000 ≤ x.fr) (hx : ∃ x ∈ s, x.mx = 5) (hl : s.length ≤ 10000) (hu : 0 ≤ unit ∧ unit ≤ 68719476736) (hun : unitS s sp ≤ unit) :
    sp ≤ sumB (growU unit s) + s.length := by
  have hr : rightB s sp = true := by simp [rightB, hs]; omega
  have hinv := iter_inv s sp hs hsp hf (s.length + 1) (List.replicate s.length false) (by simp) (.inl (whoF_init s 0 hx))
  have hg := sumB_grow unit s
  by_cases hw : whoF 0 s (finS s sp) = []
  · rcases hinv with h | h
    · exact absurd hw h
    · omega
  · unfold unitS at hun
    rw [if_neg (by rw [hr]; simp), if_neg hw] at hun
    have hst := finS_len s sp
    generalize finS s sp = st at hun hw hst
    have hN := frF_big s st 0 hs hf hw
    have hL := leftS_in s st sp hs hsp.1 hsp.2
    have hLe := leftS_eq s st sp hs hsp.1
    have hp := partsF_fr s st 0
    have hN2 := partsF_in s st 0 hs (Int.le_refl _)
    rw [Int.zero_add] at hp
    generalize leftS s st sp = L at hL hLe hun
    generalize partsF s st 0 = N at hp hN2 hun
    have e : max N 1000 = N := by omega
    rw [e] at hun
    have h1 := upS_ge (a := L) (c := N) hL (by omega)
    have h2 : upS L 1000 N * N ≤ unit * N := Int.mul_le_mul_of_nonneg_right hun (by omega)
    have := grow_cover L N unit hL (by omega) hu (by omega) s st hst hs (by omega)
    rw [← hp, Int.mul_comm] at this
    have := Int.le_of_mul_le_mul_left this (by omega)
    omega
end Go.Proofs.Ytpaabecgngbjcaa.T

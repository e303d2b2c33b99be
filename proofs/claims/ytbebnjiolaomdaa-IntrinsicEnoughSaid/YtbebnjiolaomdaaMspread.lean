/- How room is spread: up to a level, and one more to the first that are open; parts laid out by places. Plain lemmas on lists. No condition beyond what each states. -/
import Derived.Test.YtbebnjiolaomdaaSx6
set_option linter.unusedVariables false
set_option linter.unusedSimpArgs false
namespace Go.Proofs.Ytbebnjiolaomdaa.M
def Tk (L : Int) : List Int → Int
 | [] => 0
 | r :: rs => min r L + Tk L rs
def op (L : Int) : List Int → Int
 | [] => 0
 | r :: rs => (if L < r then 1 else 0) + op L rs
def lv (L : Int) : Int → List Int → List Int
 | _, [] => []
 | t, r :: rs => if L < r then (if 0 < t then (L + 1) :: lv L (t - 1) rs else L :: lv L t rs) else r :: lv L t rs
theorem lv_zero (L : Int) (rs : List Int) : lv L 0 rs = rs.map (fun r => min r L) := by
 induction rs with
 | nil => rfl
 | cons r rs ih =>
  simp only [lv, List.map_cons, ih]
  split <;> simp <;> omega
theorem op_nonneg (L : Int) (rs : List Int) : 0 ≤ op L rs ∧ op L rs ≤ rs.length := by
 induction rs with
 | nil => simp [op]
 | cons r rs ih => simp only [op, List.length_cons]; split <;> omega
theorem op_zero {L : Int} : ∀ {rs : List Int}, op L rs = 0 → ∀ r ∈ rs, r ≤ L
 | [], _, r, h => by simp at h
 | x :: rs, h, r, hr => by
  have := op_nonneg L rs
  simp only [op] at h
  rcases List.mem_cons.mp hr with rfl | hr
  · split at h <;> omega
  · exact op_zero (by split at h <;> omega) r hr
theorem lv_all {L : Int} (t : Int) : ∀ {rs : List Int}, (∀ r ∈ rs, r ≤ L) → lv L t rs = rs
 | [], _ => rfl
 | r :: rs, h => by
  have h1 := h r (by simp)
  simp only [lv]
  rw [if_neg (by omega), lv_all t (fun x hx => h x (by simp [hx]))]
theorem lv_length (L : Int) (rs : List Int) : ∀ t, (lv L t rs).length = rs.length := by
 induction rs with
 | nil => intro t; rfl
 | cons r rs ih => intro t; simp only [lv]; split <;> (try split) <;> simp [ih]
def gv (e : Int) : Int → List Int → List Int → List Int × Int
 | left, r :: rs, o :: os => if min (max e 1) (r - o) = 0 then (o :: (gv e left rs os).1, (gv e left rs os).2) else if left < min (max e 1) (r - o) then (o :: os, left) else ((o + min (max e 1) (r - o)) :: (gv e (left - min (max e 1) (r - o)) rs os).1, (gv e (left - min (max e 1) (r - o)) rs os).2)
 | left, _, os => (os, left)
theorem gv_each (e L : Int) (he : 1 ≤ e) (hL : 0 ≤ L) (rs : List Int) : ∀ left : Int, (∀ r ∈ rs, 0 ≤ r) → e * op L rs ≤ left →
    gv e left rs (rs.map fun r => min r L) = (rs.map (fun r => min r (L + e)), left - (Tk (L + e) rs - Tk L rs)) ∧ Tk (L + e) rs - Tk L rs ≤ e * op L rs ∧ op L rs ≤ Tk (L + e) rs - Tk L rs := by
 induction rs with
 | nil => intro left _ _; simp [gv, Tk, op]
 | cons r rs ih =>
  intro left h0 hl
  have hr := h0 r (by simp)
  have hop := op_nonneg L rs
  have hee : 0 ≤ e * op L rs := Int.mul_nonneg (by omega) hop.1
  simp only [op] at hl
  simp only [List.map_cons, gv, Tk, op]
  by_cases hlt : L < r
  · rw [if_pos hlt] at hl ⊢
    rw [Int.mul_add, Int.mul_one] at hl
    rw [Int.mul_add, Int.mul_one]
    have e1 : min r L = L := by omega
    have hm : min (max e 1) (r - L) = min r (L + e) - L := by omega
    have hm1 : 1 ≤ min r (L + e) - L ∧ min r (L + e) - L ≤ e := by omega
    obtain ⟨i1, i2, i3⟩ := ih (left - (min r (L + e) - L)) (fun x hx => h0 x (by simp [hx])) (by omega)
    rw [e1, hm, if_neg (by omega), if_neg (by omega), i1]
    refine ⟨?_, by omega, by omega⟩
    refine Prod.ext ?_ ?_
    · show (L + (min r (L + e) - L)) :: _ = _
      congr 1
      omega
    · show left - (min r (L + e) - L) - _ = _
      omega
  · rw [if_neg hlt] at hl ⊢
    rw [Int.zero_add] at hl ⊢
    have e1 : min r L = r := by omega
    have e2 : min r (L + e) = r := by omega
    have hm : min (max e 1) (r - r) = 0 := by omega
    obtain ⟨i1, i2, i3⟩ := ih left (fun x hx => h0 x (by simp [hx])) hl
    rw [e1, hm, if_pos rfl, i1, e2]
    refine ⟨?_, by omega, by omega⟩
    refine Prod.ext rfl ?_
    show left - _ = _
    omega
theorem gv_one (L : Int) (rs : List Int) : ∀ left : Int, 0 ≤ left → left < op L rs → gv 0 left rs (rs.map fun r => min r L) = (lv L left rs, 0) := by
 induction rs with
 | nil => intro left h0 h1; simp [op] at h1; omega
 | cons r rs ih =>
  intro left h0 h1
  simp only [op] at h1
  simp only [List.map_cons, gv, lv]
  by_cases hlt : L < r
  · have e1 : min r L = L := by omega
    have hm : min (max 0 1) (r - L) = 1 := by omega
    rw [if_pos hlt] at h1 ⊢
    rw [e1, hm, if_neg (by omega)]
    by_cases hz : left = 0
    · subst hz
      rw [if_pos (by omega), if_neg (by omega), lv_zero]
    · rw [if_neg (by omega), if_pos (by omega), ih (left - 1) (by omega) (by omega)]
  · have e1 : min r L = r := by omega
    have hm : min (max 0 1) (r - r) = 0 := by omega
    rw [if_neg hlt] at h1 ⊢
    rw [e1, hm, if_pos rfl, ih left h0 (by omega)]
def cnt : List Int → List Int → Int
 | r :: rs, o :: os => (if o < r then 1 else 0) + cnt rs os
 | _, _ => 0
theorem cnt_map (L : Int) (rs : List Int) : cnt rs (rs.map fun r => min r L) = op L rs := by
 induction rs with
 | nil => rfl
 | cons r rs ih =>
  simp only [List.map_cons, cnt, op, ih]
  have : min r L < r ↔ L < r := by omega
  simp only [this]
theorem cnt_in (rs : List Int) : ∀ os : List Int, 0 ≤ cnt rs os ∧ cnt rs os ≤ rs.length := by
 induction rs with
 | nil => intro os; simp [cnt]
 | cons r rs ih =>
  intro os
  cases os with
  | nil => simp [cnt]; omega
  | cons o os => have := ih os; simp only [cnt, List.length_cons]; split <;> omega
def IsUp (S : Int) (room out : List Int) : Prop := ∃ L t : Int, 0 ≤ L ∧ 0 ≤ t ∧ Tk L room + t = S ∧ (t < op L room ∨ ∀ r ∈ room, r ≤ L) ∧ out = lv L t room
theorem Tk_step (L : Int) (rs : List Int) : Tk (L + 1) rs = Tk L rs + op L rs := by
 induction rs with
 | nil => rfl
 | cons r rs ih =>
  simp only [Tk, op, ih]
  (repeat' split) <;> omega
theorem Tk_mono {L M : Int} (h : L ≤ M) (rs : List Int) : Tk L rs ≤ Tk M rs := by
 induction rs with
 | nil => exact Int.le_refl _
 | cons r rs ih =>
  simp only [Tk]
  (repeat' split) <;> omega
theorem isup_level {S S' : Int} {room : List Int} {L t L' t' : Int} (h : Tk L room + t = S) (h' : Tk L' room + t' = S') (hS : S ≤ S') (ht : 0 ≤ t) (ht' : t' < op L' room) : L < L' ∨ (L = L' ∧ t ≤ t') := by
 rcases Int.lt_trichotomy L L' with h1 | h1 | h1
 · exact Or.inl h1
 · subst h1; exact Or.inr ⟨rfl, by omega⟩
 · exfalso
   have h2 := Tk_mono (show L' + 1 ≤ L by omega) room
   rw [Tk_step] at h2
   omega
theorem isup_full {S S' : Int} {room : List Int} {L t L' t' : Int} (hL : ∀ r ∈ room, r ≤ L) (h : Tk L room + t = S) (h' : Tk L' room + t' = S') (hS : S ≤ S') (ht : 0 ≤ t) (ht' : t' < op L' room) : False := by
 have h2 : Tk (L' + 1) room ≤ Tk L room := by
  clear h h' hS ht ht'
  induction room with
  | nil => exact Int.le_refl _
  | cons r rs ih =>
   have := ih (fun x hx => hL x (by simp [hx]))
   have hr := hL r (by simp)
   simp only [Tk]
   (repeat' split) <;> omega
 rw [Tk_step] at h2
 omega
theorem isup_unique {S : Int} {room a b : List Int} (ha : IsUp S room a) (hb : IsUp S room b) : a = b := by
 obtain ⟨L, t, hL, ht, h1, h2, rfl⟩ := ha
 obtain ⟨L', t', hL', ht', h1', h2', rfl⟩ := hb
 rcases h2 with h2 | h2
 · rcases h2' with h2' | h2'
   · rcases isup_level h1 h1' (Int.le_refl _) ht h2' with h | ⟨rfl, _⟩
     · rcases isup_level h1' h1 (Int.le_refl _) ht' h2 with g | ⟨g, _⟩
       · omega
       · omega
     · have : t = t' := by omega
       rw [this]
   · exact (isup_full h2' h1' h1 (Int.le_refl _) ht' h2).elim
 · rcases h2' with h2' | h2'
   · exact (isup_full h2 h1 h1' (Int.le_refl _) ht h2').elim
   · rw [lv_all t h2, lv_all t' h2']
def tot : List Int → Int
 | [] => 0
 | x :: xs => x + tot xs
theorem lv_tot (L : Int) (rs : List Int) : ∀ t : Int, 0 ≤ t → (t ≤ op L rs → tot (lv L t rs) = Tk L rs + t) ∧ (op L rs ≤ t → tot (lv L t rs) = Tk L rs + op L rs) := by
 induction rs with
 | nil => intro t ht; simp [lv, tot, Tk, op]; omega
 | cons r rs ih =>
  intro t ht
  have hop := op_nonneg L rs
  simp only [lv, Tk, op]
  by_cases hlt : L < r
  · have e1 : min r L = L := by omega
    simp only [hlt, if_true, e1]
    by_cases hz : 0 < t
    · simp only [hz, if_true, tot]
      have := ih (t - 1) (by omega)
      constructor <;> intro h
      · have := this.1 (by omega); omega
      · have := this.2 (by omega); omega
    · have : t = 0 := by omega
      subst this
      simp only [Int.lt_irrefl, if_false, tot]
      have := (ih 0 (by omega)).1 hop.1
      constructor <;> intro h <;> omega
  · have e1 : min r L = r := by omega
    simp only [hlt, if_false, e1, tot]
    have := ih t ht
    constructor <;> intro h
    · have := this.1 (by omega); omega
    · have := this.2 (by omega); omega
theorem lv_in (L : Int) (hL : 0 ≤ L) (rs : List Int) : ∀ (t : Int) (i : Nat) (h : i < (lv L t rs).length) (h' : i < rs.length), (0 ≤ rs[i] → 0 ≤ (lv L t rs)[i]) ∧ (lv L t rs)[i] ≤ rs[i] := by
 induction rs with
 | nil => intro t i h h'; simp at h'
 | cons r rs ih =>
  intro t i h h'
  simp only [lv] at h ⊢
  by_cases hlt : L < r
  · simp only [hlt, if_true] at h ⊢
    by_cases hz : 0 < t
    · simp only [hz, if_true] at h ⊢
      cases i with
      | zero => simp; omega
      | succ i => simpa using ih (t - 1) i (by simpa using h) (by simpa using h')
    · simp only [hz, if_false] at h ⊢
      cases i with
      | zero => simp; omega
      | succ i => simpa using ih t i (by simpa using h) (by simpa using h')
  · simp only [hlt, if_false] at h ⊢
    cases i with
    | zero => simp
    | succ i => simpa using ih t i (by simpa using h) (by simpa using h')
theorem isup_length {S : Int} {room out : List Int} (h : IsUp S room out) : out.length = room.length := by
 obtain ⟨L, t, hL, ht, e1, e2, rfl⟩ := h
 exact lv_length L room t
theorem isup_in {S : Int} {room out : List Int} (h : IsUp S room out) (hr : ∀ r ∈ room, 0 ≤ r) (i : Nat) (hi : i < room.length) (h1 : i < out.length) : 0 ≤ out[i] ∧ out[i] ≤ room[i] := by
 obtain ⟨L, t, hL, ht, e1, e2, rfl⟩ := h
 have := lv_in L hL room t i h1 hi
 exact ⟨this.1 (hr _ (List.getElem_mem hi)), this.2⟩
theorem isup_tot {S : Int} {room out : List Int} (h : IsUp S room out) : tot out ≤ S ∧ (tot out = S ∨ out = room) := by
 obtain ⟨L, t, hL, ht, e1, e2, rfl⟩ := h
 have a := lv_tot L room t ht
 have b := op_nonneg L room
 by_cases hc : t ≤ op L room
 · have := a.1 hc
   omega
 · have h3 := a.2 (by omega)
   rcases e2 with e2 | e2
   · omega
   · refine ⟨by omega, Or.inr (lv_all t e2)⟩
def spl (n p : Int) (i : Nat) : Int := n / p + (if (i : Int) < n % p then 1 else 0)
def splitS (n p : Int) : List Int := if n < 0 ∨ p < 1 ∨ 65536 < p then [] else (List.range p.toNat).map (spl n p)
theorem tot_append (a b : List Int) : tot (a ++ b) = tot a + tot b := by
 induction a with
 | nil => simp [tot]
 | cons x a ih => simp only [List.cons_append, tot, ih]; omega
theorem spl_tot (n p : Int) (m : Nat) : tot ((List.range m).map (spl n p)) = (m : Int) * (n / p) + (if (m : Int) ≤ n % p then (m : Int) else if 0 ≤ n % p then n % p else 0) := by
 induction m with
 | zero => simp [tot]; omega
 | succ m ih =>
  rw [List.range_succ, List.map_append, tot_append, ih]
  simp only [List.map_cons, List.map_nil, tot, spl]
  have e : ((m + 1 : Nat) : Int) * (n / p) = (m : Int) * (n / p) + n / p := by rw [Int.natCast_succ, Int.add_mul]; omega
  rw [e]
  repeat' split
  all_goals omega
def idx : List Bool → List Nat
 | [] => []
 | b :: bs => if b = true then 0 :: (idx bs).map (· + 1) else (idx bs).map (· + 1)
theorem idx_append (a : List Bool) (b : Bool) : idx (a ++ [b]) = idx a ++ (if b = true then [a.length] else []) := by
 induction a with
 | nil => cases b <;> rfl
 | cons x a ih =>
  cases x <;> cases b <;> simp [idx, ih]
def addp : List Int → List Bool → List Int → List Int
 | o :: os, true :: bs, y :: ys => (o + y) :: addp os bs ys
 | o :: os, true :: bs, [] => o :: addp os bs []
 | o :: os, false :: bs, ys => o :: addp os bs ys
 | os, [], _ => os
 | [], _, _ => []
theorem addp_nil : ∀ (os : List Int) (bs : List Bool), addp os bs [] = os
 | [], [] => rfl
 | [], _ :: _ => rfl
 | _ :: _, [] => rfl
 | o :: os, true :: bs => by simp [addp, addp_nil os bs]
 | o :: os, false :: bs => by simp [addp, addp_nil os bs]
theorem addp_length : ∀ (os : List Int) (bs : List Bool) (ys : List Int), (addp os bs ys).length = os.length
 | [], [], _ => rfl
 | [], _ :: _, _ => by simp [addp]
 | _ :: _, [], _ => rfl
 | o :: os, true :: bs, y :: ys => by simp [addp, addp_length os bs ys]
 | o :: os, true :: bs, [] => by simp [addp, addp_length os bs []]
 | o :: os, false :: bs, ys => by simp [addp, addp_length os bs ys]
theorem addp_step : ∀ (os : List Int) (bs : List Bool) (ys : List Int) (k : Nat) (hl : os.length = bs.length) (hk : k < ys.length) (hw : k < (idx bs).length),
    ∃ h1 : (idx bs)[k] < (addp os bs (ys.take k)).length, ∃ h2 : (idx bs)[k] < os.length, (addp os bs (ys.take k))[(idx bs)[k]] = os[(idx bs)[k]] ∧
     (addp os bs (ys.take k)).set (idx bs)[k] (os[(idx bs)[k]] + ys[k]) = addp os bs (ys.take (k + 1))
 | [], [], ys, k, hl, hk, hw => by simp [idx] at hw
 | o :: os, true :: bs, ys, k, hl, hk, hw => by
  cases ys with
  | nil => simp at hk
  | cons y ys =>
   cases k with
   | zero => simp [idx, addp, addp_nil]
   | succ k =>
    simp only [idx, if_true, List.length_cons, List.length_map] at hw hl hk
    obtain ⟨h1, h2, h3, h4⟩ := addp_step os bs ys k (by simpa using hl) (by omega) (by omega)
    simp only [idx, if_true, List.getElem_cons_succ, List.getElem_map, List.take_succ_cons, addp, List.length_cons, List.set_cons_succ]
    exact ⟨by omega, by omega, h3, by rw [h4]⟩
 | o :: os, false :: bs, ys, k, hl, hk, hw => by
  simp only [idx, Bool.false_eq_true, if_false, List.length_map] at hw
  obtain ⟨h1, h2, h3, h4⟩ := addp_step os bs ys k (by simpa using hl) hk hw
  simp only [idx, Bool.false_eq_true, if_false, List.getElem_cons_succ, List.getElem_map, addp, List.length_cons, List.set_cons_succ]
  exact ⟨by omega, by omega, h3, by rw [h4]⟩
theorem idx_le (bs : List Bool) : (idx bs).length ≤ bs.length := by
 induction bs with
 | nil => simp [idx]
 | cons b bs ih => cases b <;> simp [idx] <;> omega
theorem tot_addp : ∀ (os : List Int) (bs : List Bool) (ys : List Int), os.length = bs.length → ys.length = (idx bs).length → tot (addp os bs ys) = tot os + tot ys
 | [], [], ys, hl, hy => by
  simp only [idx, List.length_nil, List.length_eq_zero_iff] at hy
  subst hy
  simp [addp, tot]
 | o :: os, true :: bs, ys, hl, hy => by
  cases ys with
  | nil => simp [idx] at hy
  | cons y ys =>
   simp only [idx, if_true, List.length_cons, List.length_map] at hy hl
   have := tot_addp os bs ys (by omega) (by omega)
   simp only [addp, tot]
   omega
 | o :: os, false :: bs, ys, hl, hy => by
  simp only [idx, Bool.false_eq_true, if_false, List.length_map, List.length_cons] at hy hl
  have := tot_addp os bs ys (by omega) hy
  simp only [addp, tot]
  omega
theorem tot_nonneg : ∀ {l : List Int}, (∀ x ∈ l, 0 ≤ x) → 0 ≤ tot l
 | [], _ => by simp [tot]
 | x :: xs, h => by
  have h1 := h x (by simp)
  have h2 := tot_nonneg (l := xs) (fun y hy => h y (by simp [hy]))
  simp only [tot]
  omega
theorem tot_drop {l : List Int} (i : Nat) (h : i < l.length) : tot (l.drop i) = l[i] + tot (l.drop (i + 1)) := by rw [List.drop_eq_getElem_cons h]; rfl
theorem tot_at {l : List Int} (h0 : ∀ x ∈ l, 0 ≤ x) (i : Nat) (h : i < l.length) : l[i] ≤ tot (l.drop i) ∧ 0 ≤ tot (l.drop (i + 1)) := by
 have h2 : 0 ≤ tot (l.drop (i + 1)) := tot_nonneg (fun y hy => h0 y (List.mem_of_mem_drop hy))
 rw [tot_drop i h]
 omega
theorem splitS_length (n p : Int) : (splitS n p).length ≤ p.toNat := by
 unfold splitS
 split <;> simp
theorem splitS_in {n p : Int} : ∀ y ∈ splitS n p, 0 ≤ y ∧ y ≤ n + 1 := by
 intro y hy
 unfold splitS at hy
 split at hy
 · simp at hy
 · rename_i h
   obtain ⟨i, hi, rfl⟩ := List.mem_map.mp hy
   have h1 : 0 ≤ n / p := Int.ediv_nonneg (by omega) (by omega)
   have h2 : n / p ≤ n := Int.ediv_le_self p (by omega)
   unfold spl
   split <;> omega
theorem split_tot {n : Int} {p : Nat} (hn : 0 ≤ n) (hp : 1 ≤ p) (hp1 : p ≤ 65536) : (splitS n p).length = p ∧ tot (splitS n p) = n := by
 have e : splitS n p = (List.range p).map (spl n p) := by
  unfold splitS
  rw [if_neg (by omega)]
  simp
 rw [e]
 refine ⟨by simp, ?_⟩
 rw [spl_tot]
 have h1 := Int.mul_ediv_add_emod n p
 have h2 := Int.emod_nonneg n (b := (p : Int)) (by omega)
 have h3 := Int.emod_lt_of_pos n (b := (p : Int)) (by omega)
 rw [if_neg (by omega), if_pos h2]
 exact h1
def anyB (bs : List Bool) : Bool := bs.any id
theorem idx_pos (bs : List Bool) : anyB bs = true ↔ 0 < (idx bs).length := by
 induction bs with
 | nil => simp [anyB, idx]
 | cons b bs ih => cases b <;> simp_all [anyB, idx]
end Go.Proofs.Ytbebnjiolaomdaa.M

/- What is got of what is left: plain laws of the rows that are stored and of weights. No condition beyond what each states. -/
import Derived.Test.YtpaabecgngbjcaaT
import Derived.Test.YtpaabecgngbjcaaKfll
set_option linter.unusedVariables false
set_option linter.unusedSimpArgs false
set_option maxRecDepth 10000
namespace Go.Proofs.Ytpaabecgngbjcaa.T
open Go Go.Proofs.Ytpaabecgngbjcaa.Sx Go.Proofs.Ytpaabecgngbjcaa.M

theorem ab_nn (a : Int) : 0 ≤ ab a := by unfold ab; split <;> omega
theorem md_in (a b c : Int) : -9223372036854775808 ≤ (md a b c).1 ∧ (md a b c).1 ≤ 9223372036854775807 := by
  have hq : 0 ≤ ab a * ab b / ab c := Int.ediv_nonneg (Int.mul_nonneg (ab_nn a) (ab_nn b)) (ab_nn c)
  unfold md
  split
  · simp
  · unfold mdN
    (repeat' split) <;> simp only <;> omega
/-- What is stored, pair by pair. -/
def pushP : List (Int × Int) → List (List PV) → List (List PV)
  | [], m => m
  | (i, v) :: r, m => pushP r ([I i, I v] :: m)
theorem mapGet_cons (i v j : Int) (m : List (List PV)) : mapGet ([I i, I v] :: m) j = if i = j then v else mapGet m j := rfl
theorem pushP_len : ∀ (l : List (Int × Int)) (m : List (List PV)), (pushP l m).length = l.length + m.length
  | [], m => by simp [pushP]
  | (i, v) :: r, m => by rw [pushP, pushP_len r]; simp; omega
theorem pushP_out : ∀ (l : List (Int × Int)) (m : List (List PV)) (j : Int), (∀ x ∈ l, x.1 ≠ j) → mapGet (pushP l m) j = mapGet m j
  | [], _, _, _ => rfl
  | (i, v) :: r, m, j, h => by
    rw [pushP, pushP_out r _ j (fun x hx => h x (List.mem_cons_of_mem _ hx)), mapGet_cons, if_neg (h (i, v) (List.mem_cons_self ..))]
/-- The parts of those that are not stiff; of all, 0 for those that are. -/
def frF : List Sz → List Bool → List Int
  | x :: s, b :: st => if x.mx ≠ 5 ∨ b = true then frF s st else x.fr :: frF s st
  | _, _ => []
def wtF : List Sz → List Bool → List Int
  | x :: s, b :: st => (if x.mx ≠ 5 ∨ b = true then 0 else x.fr) :: wtF s st
  | _, _ => []
/-- What was found for those that are not stiff, each at its place. -/
def spreadF : List Sz → List Bool → List Int → List Int
  | x :: s, b :: st, vs => if x.mx ≠ 5 ∨ b = true then 0 :: spreadF s st vs else vs.headD 0 :: spreadF s st vs.tail
  | _, _, _ => []
def growV : List Sz → List Int → List Sz
  | x :: s, v :: vs => raiseS x v :: growV s vs
  | _, _ => []
theorem frF_len : ∀ (s : List Sz) (st : List Bool) (i : Nat), (frF s st).length = (whoF i s st).length
  | [], st, i => by cases st <;> rfl
  | x :: s, [], i => rfl
  | x :: s, b :: st, i => by
    simp only [frF, whoF]
    split
    · exact frF_len s st (i + 1)
    · simp [frF_len s st (i + 1)]
theorem wtF_len : ∀ (s : List Sz) (st : List Bool), st.length = s.length → (wtF s st).length = s.length
  | [], [], _ => rfl
  | x :: s, b :: st, h => by simp [wtF, wtF_len s st (by simpa using h)]
  | [], _ :: _, h => by simp at h
  | _ :: _, [], h => by simp at h
theorem spreadF_len : ∀ (s : List Sz) (st : List Bool) (vs : List Int), st.length = s.length → (spreadF s st vs).length = s.length
  | [], [], _, _ => rfl
  | x :: s, b :: st, vs, h => by
    simp only [spreadF]
    split <;> simp [spreadF_len s st _ (by simpa using h)]
  | [], _ :: _, _, h => by simp at h
  | _ :: _, [], _, h => by simp at h
theorem who_at : ∀ (s : List Sz) (st : List Bool) (i k : Nat) (h : k < (whoF i s st).length), ∃ q : Nat, (whoF i s st)[k] = ((i + q : Nat) : Int) ∧ ∃ (h1 : q < s.length) (h2 : k < (frF s st).length), s[q].fr = (frF s st)[k]
  | [], st, i, k, h => by cases st <;> simp [whoF] at h
  | x :: s, [], i, k, h => by simp [whoF] at h
  | x :: s, b :: st, i, k, h => by
    have e1 : whoF i (x :: s) (b :: st) = if x.mx ≠ 5 ∨ b = true then whoF (i + 1) s st else (i : Int) :: whoF (i + 1) s st := rfl
    have e2 : frF (x :: s) (b :: st) = if x.mx ≠ 5 ∨ b = true then frF s st else x.fr :: frF s st := rfl
    by_cases hc : x.mx ≠ 5 ∨ b = true
    · rw [if_pos hc] at e1 e2
      simp only [e1, e2] at h ⊢
      obtain ⟨q, g1, g2, g3, g4⟩ := who_at s st (i + 1) k h
      exact ⟨q + 1, by rw [g1]; congr 1; omega, by simp; omega, g3, by simpa using g4⟩
    · rw [if_neg hc] at e1 e2
      simp only [e1, e2] at h ⊢
      cases k with
      | zero => exact ⟨0, rfl, by simp, by simp, rfl⟩
      | succ k =>
        obtain ⟨q, g1, g2, g3, g4⟩ := who_at s st (i + 1) k (by simpa using h)
        exact ⟨q + 1, by simp only [List.getElem_cons_succ, g1]; congr 1; omega, by simp; omega, by simpa using g3, by simpa using g4⟩
/-- What is stored for those that are not stiff is what each is to be. -/
theorem growV_eq : ∀ (s : List Sz) (st : List Bool) (i : Nat) (vs : List Int) (m : List (List PV)), st.length = s.length → vs.length = (whoF i s st).length → (∀ j : Int, i ≤ j → j ∉ whoF i s st → mapGet m j = 0) →
    ∀ g : Int → Int, (∀ j : Int, i ≤ j → g j = mapGet (pushP ((whoF i s st).zip vs) m) j) → growS g i s = growV s (spreadF s st vs)
  | [], st, i, vs, m, _, _, _, g, _ => by cases st <;> rfl
  | x :: s, [], i, vs, m, h, _, _, g, _ => by simp at h
  | x :: s, b :: st, i, vs, m, h, hv, hm, g, hg => by
    have e1 : whoF i (x :: s) (b :: st) = if x.mx ≠ 5 ∨ b = true then whoF (i + 1) s st else (i : Int) :: whoF (i + 1) s st := rfl
    have hw := (whoF_in s st (i + 1)).2
    have hout : ∀ (l : List Int) (m : List (List PV)), mapGet (pushP ((whoF (i + 1) s st).zip l) m) i = mapGet m i := fun l m =>
      pushP_out _ _ _ fun x hx hh => by
        obtain ⟨q, e, g1, _⟩ := hw _ (List.of_mem_zip hx).1
        omega
    by_cases hc : x.mx ≠ 5 ∨ b = true
    · rw [if_pos hc] at e1
      rw [e1] at hv hm hg
      simp only [growS, spreadF, if_pos hc, growV]
      rw [hg i (Int.le_refl _), hout, hm i (Int.le_refl _) (fun hh => by obtain ⟨q, e, g1, _⟩ := hw _ hh; omega)]
      congr 1
      exact growV_eq s st (i + 1) vs m (by simpa using h) hv (fun j hj hn => hm j (by omega) hn) g (fun j hj => hg j (by omega))
    · rw [if_neg hc] at e1
      rw [e1] at hv hm hg
      cases vs with
      | nil => simp at hv
      | cons v vs =>
        simp only [List.zip_cons_cons, pushP] at hg
        simp only [growS, spreadF, if_neg hc, growV, List.headD_cons, List.tail_cons]
        rw [hg i (Int.le_refl _), hout, mapGet_cons, if_pos rfl]
        congr 1
        refine growV_eq s st (i + 1) vs ([I i, I v] :: m) (by simpa using h) (by simpa using hv) (fun j hj hn => ?_) g (fun j hj => hg j (by omega))
        rw [mapGet_cons, if_neg (by omega)]
        refine hm j (by omega) fun hh => ?_
        rcases List.mem_cons.1 hh with hh | hh
        · omega
        · exact hn hh
theorem partsF_fr : ∀ (s : List Sz) (st : List Bool) (n : Int), partsF s st n = n + sumI (frF s st)
  | [], st, n => by cases st <;> simp [partsF, frF, sumI]
  | x :: s, [], n => by simp [partsF, frF, sumI]
  | x :: s, b :: st, n => by
    simp only [partsF, frF]
    split
    · exact partsF_fr s st n
    · rw [partsF_fr s st, sumI]; omega
theorem sumI_wt : ∀ (s : List Sz) (st : List Bool), sumI (wtF s st) = sumI (frF s st)
  | [], st => by cases st <;> rfl
  | x :: s, [] => rfl
  | x :: s, b :: st => by
    simp only [wtF, frF, sumI]
    split
    · rw [sumI_wt s st]; omega
    · rw [sumI, sumI_wt s st]
theorem frF_wg : ∀ (s : List Sz) (st : List Bool), s.all okF = true → (frF s st).all wgB = true ∧ (wtF s st).all wgB = true
  | [], st, _ => by cases st <;> exact ⟨rfl, rfl⟩
  | x :: s, [], _ => ⟨rfl, rfl⟩
  | x :: s, b :: st, h => by
    simp only [List.all_cons, Bool.and_eq_true] at h
    obtain ⟨h1, h2⟩ := frF_wg s st h.2
    have hx := okF_in h.1
    have hw : wgB x.fr = true := by simp [wgB]; omega
    simp only [wtF, frF]
    split
    · exact ⟨h1, by simp [List.all_cons, h2, wgB]⟩
    · exact ⟨by simp [List.all_cons, h1, hw], by simp [List.all_cons, h2, hw]⟩
theorem partsS_len (n all : Int) : ∀ (ws : List Int) (was sum : Int), (partsS n all was sum ws).length = ws.length
  | [], _, _ => rfl
  | w :: r, was, sum => by simp [partsS, partsS_len n all r]
theorem partsS_wt (n all : Int) : ∀ (s : List Sz) (st : List Bool) (was sum : Int), was = (md n sum all).1 → partsS n all was sum (wtF s st) = spreadF s st (partsS n all was sum (frF s st))
  | [], st, _, _, _ => by cases st <;> rfl
  | x :: s, [], _, _, _ => rfl
  | x :: s, b :: st, was, sum, h => by
    simp only [wtF, frF, spreadF]
    split
    · rw [partsS, Int.add_zero, ← h, Int.sub_self, partsS_wt n all s st was sum h]
    · rw [partsS, partsS, List.headD_cons, List.tail_cons, partsS_wt n all s st _ _ rfl]
theorem md_zero (n all : Int) (h : 0 < all) : (md n 0 all).1 = 0 := by
  unfold md mdN ng
  have e : ab 0 = 0 := rfl
  rw [if_neg (by omega), e, Int.mul_zero, Int.zero_ediv, Int.zero_emod]
  (repeat' split) <;> simp_all
theorem shareS_eq {n : Int} {ws : List Int} (hn : 0 ≤ n ∧ n ≤ 68719476736) (hl : ws.length ≤ 65536) (hw : ws.all wgB = true) (hs : sumI ws ≠ 0) : shareS n ws = partsS n (sumI ws) 0 0 ws := by
  unfold shareS
  rw [if_neg (by omega), if_neg (by rw [hw]; simp), if_neg hs]
/-- At a place: 0 for who is stiff, else what was found. -/
theorem spreadF_at (f : Int → Int) : ∀ (s : List Sz) (st : List Bool) (j : Nat) (h : j < s.length) (hb : j < st.length) (h' : j < (spreadF s st ((frF s st).map f)).length),
    (spreadF s st ((frF s st).map f))[j] = if s[j].mx ≠ 5 ∨ st[j] = true then 0 else f s[j].fr
  | [], _, _, h, _, _ => by simp at h
  | x :: s, [], _, _, h, _ => by simp at h
  | x :: s, b :: st, j, h, hb, h' => by
    have e : spreadF (x :: s) (b :: st) ((frF (x :: s) (b :: st)).map f) = (if x.mx ≠ 5 ∨ b = true then 0 else f x.fr) :: spreadF s st ((frF s st).map f) := by
      simp only [frF, spreadF]
      split <;> rfl
    simp only [e] at h' ⊢
    cases j with
    | zero => rfl
    | succ j => exact spreadF_at f s st j (by simpa using h) (by simpa using hb) (by simpa using h')
/-- What is got by each of those that are not stiff. -/
def valsF (s : List Sz) (st : List Bool) (L N : Int) : List Int :=
  if 1000 ≤ N then partsS L N 0 0 (frF s st) else (frF s st).map (partF L N)
theorem valsF_len (s : List Sz) (st : List Bool) (L N : Int) : (valsF s st L N).length = (frF s st).length := by
  unfold valsF
  split
  · rw [partsS_len]
  · simp
/-- What flexible tracks get of a size. -/
def fillR (s : List Sz) (a : List Int) (size : Int) : List Sz :=
  if rightB s size && goodI s a [] 0 then growV s (spreadF s (finS s (lessS size a)) (valsF s (finS s (lessS size a)) (leftS s (finS s (lessS size a)) (lessS size a)) (partsF s (finS s (lessS size a)) 0))) else s
theorem lessS_in : ∀ (a : List Int) (n : Int), a.all lenB = true → 0 ≤ n → n ≤ 68719476736 → 0 ≤ lessS n a ∧ lessS n a ≤ 68719476736
  | [], n, _, h0, h1 => ⟨h0, h1⟩
  | x :: a, n, h, h0, h1 => by
    simp only [List.all_cons, Bool.and_eq_true, lenB, decide_eq_true_eq] at h
    rw [lessS]
    exact lessS_in a _ (by simpa [lenB] using h.2) (by omega) (by omega)
theorem finS_len (s : List Sz) (space : Int) : (finS s space).length = s.length := by
  unfold finS
  generalize s.length + 1 = k
  have : ∀ (k : Nat) (st : List Bool), (iterS s space k st).length = st.length := by
    intro k
    induction k with
    | zero => intro st; rfl
    | succ k ih => intro st; rw [iterS, ih, stepS_length]
  rw [this]
  simp
end Go.Proofs.Ytpaabecgngbjcaa.T

/- The plain law of TracksFixed. No condition. -/
import Derived.Test.YtckjdlmfibjpaaaGreatT
import Derived.Test.YtckjdlmfibjpaaaGreatQ1
import Derived.Test.YtckjdlmfibjpaaaGreatQ7
set_option linter.unusedSimpArgs false
set_option linter.unusedVariables false
set_option maxRecDepth 100000
namespace Go.Proofs.YtckjdlmfibjpaaaGreat
open Go Go.Proofs.YtckjdlmfibjpaaaGreat.Sx Go.Proofs.YtckjdlmfibjpaaaGreat.M Go.Proofs.YtckjdlmfibjpaaaGreat.T
theorem twf {l : List Tr} (h : (LK.row [.int .i64, .int .i64, .int .i64, .int .i64, .bool, .int .i64, .int .i64]).wf (rowOf eTr l)) : ∀ x ∈ l, TrIn x := by
 intro x hx
 have := h.2 (eTr x) (by simp only [rowOf, PV.r]; exact List.mem_map.2 ⟨x, hx, rfl⟩)
 simp only [LK.wfs] at this
 obtain ⟨_, _, e0, w0, _, _, e1, w1, _, _, e2, w2, _, _, e3, w3, _, _, e4, w4, _, _, e5, w5, _, _, e6, w6, _⟩ := this
 cases e0; cases e1; cases e2; cases e3; cases e4; cases e5; cases e6
 exact ⟨int_wf w1, int_wf w3, int_wf w6⟩
theorem light_sp (low : Int) (l : List Tr) (g : List Bool) (a : List Int) (ws : List Wn) : Says tr c_law27_light [I low, rowOf eTr l, bools g, ints a, rowOf eWn ws] [B (decide (l.length ≤ 60) && decide (g.length ≤ 100) && decide (a.length ≤ 100) && decide (ws.length ≤ 60))] := by
 refine Says.of (t := law27_light) rfl ?_
 rw [u_law27_light]
 have h : ∀ x : Nat, decide ((x : Int) ≤ 60) = decide (x ≤ 60) := fun x => by rw [decide_eq_decide]; omega
 have h' : ∀ x : Nat, decide ((x : Int) ≤ 100) = decide (x ≤ 100) := fun x => by rw [decide_eq_decide]; omega
 simp (disch := first | omega | (simp only [ln0]; omega)) only [rs, reduceIte, Nat.reduceAdd, h, h']
theorem bgf {x : Tr} {size : Int} {d : Bool} (h : (startT x size d).2 = 0) (hk : x.k0 = 2) : (startT x size d).1.base = x.n0 ∧ (x.k1 = x.k0 ∧ x.n1 = x.n0 → Fxd (startT x size d).1) := by
 unfold startT at h ⊢
 by_cases h1 : rtB x = false ∨ d = true ∧ (size < 0 ∨ 68719476736 < size)
 · rw [if_pos h1] at h; cases h
 rw [if_neg h1] at h ⊢
 by_cases h2 : (resS x.k0 x.n0 size d).2.2 ≠ 0
 · rw [if_pos h2] at h; exact absurd h h2
 rw [if_neg h2] at h ⊢
 by_cases h3 : (resS x.k1 x.n1 size d).2.2 ≠ 0
 · rw [if_pos h3] at h; exact absurd h h3
 rw [if_neg h3] at h ⊢
 by_cases h4 : (resS x.k2 x.n2 size d).2.2 ≠ 0
 · rw [if_pos h4] at h; exact absurd h h4
 rw [if_neg h4]
 have hr : rtB x = true := by
  cases hh : rtB x with
  | true => rfl
  | false => exact absurd (Or.inl hh) h1
 have hfit : x.fit = false := by
  cases hf : x.fit with
  | false => rfl
  | true =>
   unfold rtB at hr
   rw [if_pos hf] at hr
   simp only [Bool.and_eq_true, decide_eq_true_eq] at hr
   omega
 have e0 : (resS x.k0 x.n0 size d) = (x.n0, true, 0) := by unfold resS; rw [if_pos hk]
 unfold begin1
 simp only [e0]
 refine ⟨trivial, ?_⟩
 rintro ⟨hk1, hn1⟩
 have e1 : (resS x.k1 x.n1 size d) = (x.n0, true, 0) := by unfold resS; rw [if_pos (by omega), hn1]
 refine ⟨?_, ?_, ?_, ?_⟩
 · show kindS x.k0 d = 1
   unfold kindS
   rw [if_pos (Or.inl hk)]
 · show kindS x.k1 d = 1
   unfold kindS
   rw [if_pos (Or.inl (by omega))]
 · show (x.fit && _) = false
   rw [hfit]; rfl
 · simp only [e1, if_true]
   show max x.n0 x.n0 = x.n0
   omega
theorem alf {low : Int} {l : List Tr} {g : List Bool} {a : List Int} {size : Int} {d : Bool} (h : (allT low l g a size d).2 = 0) : g.length = l.length ∧ (allT low l g a size d).1.length = l.length ∧ ∀ i (hi : i < l.length) (hg : i < g.length) (h' : i < (allT low l g a size d).1.length),
    (g[i] = true → Fxd (allT low l g a size d).1[i] ∧ (allT low l g a size d).1[i].base = 0) ∧ (g[i] = false → l[i].k0 = 2 → (allT low l g a size d).1[i].base = l[i].n0 ∧ (l[i].k1 = l[i].k0 ∧ l[i].n1 = l[i].n0 → Fxd (allT low l g a size d).1[i])) := by
 have key : ∃ _ : TkOk low l g a, firstE (startA l g size d) = 0 ∧ allT low l g a size d = ((startA l g size d).map Prod.fst, 0) := by
  unfold allT at h ⊢
  by_cases h1 : ¬ TkOk low l g a
  · rw [if_pos h1] at h; cases h
  rw [if_neg h1] at h ⊢
  by_cases h2 : firstE (startA l g size d) ≠ 0
  · rw [if_pos h2] at h; exact absurd h h2
  · rw [if_neg h2]
    exact ⟨Classical.not_not.1 h1, by simpa using h2, rfl⟩
 obtain ⟨hok, hz, he⟩ := key
 have hgl : g.length = l.length := hok.2.1
 have hl : (startA l g size d).length = l.length := by simp [startA, hgl]
 rw [he]
 refine ⟨hgl, by simp [hl], fun i hi hg h' => ?_⟩
 have hi2 : i < (startA l g size d).length := by omega
 have hz2 := firstE_zero hz _ (List.getElem_mem hi2)
 simp only [List.getElem_map]
 simp only [startA, List.getElem_zipWith] at hz2 ⊢
 constructor
 · intro hgt
   rw [if_pos hgt] at hz2 ⊢
   have := bgf hz2 rfl
   exact ⟨this.2 ⟨rfl, rfl⟩, this.1⟩
 · intro hgf hk
   have hgn : ¬ g[i] = true := by rw [hgf]; simp
   rw [if_neg hgn] at hz2 ⊢
   exact bgf hz2 hk
theorem PureTracksFixed : Pure_TracksFixed := by
 intro q0 p1 p2 p3 p4 hq0 hw0 hp1 hw1 hp2 hw2 hp3 hw3 hb3 hp4 hw4
 obtain ⟨low, l, g, a, rfl, h1, h2, h3, _, hwl, _, _⟩ := trks_open hq0 hw0
 obtain ⟨low, rfl⟩ := int_open h1
 obtain ⟨g, rfl⟩ := bools_open h2
 obtain ⟨a, rfl⟩ := ints_open h3
 obtain ⟨size, rfl⟩ := int_open hp1
 obtain ⟨mode, rfl⟩ := int_open hp2
 obtain ⟨ws, rfl⟩ := wn_open hp3
 obtain ⟨st, rfl⟩ := bool_open hp4
 have hs : I64 size := int_wf hw1
 have hx := twf hwl
 refine Says.told (tr := tr) (f := c_law27_TracksFixed) (args := [I low, rowOf eTr l, bools g, ints a, I size, I mode, rowOf eWn ws, B st]) ?_
 refine Says.of (t := law27_TracksFixed) rfl ?_
 rw [u_law27_TracksFixed]
 simp (disch := first | omega | (simp only [ln0]; omega)) only [rs, reduceIte, Nat.reduceAdd, xcall_of (light_sp low l g a ws), xcall_of lives_sp, bx, reduceCtorEq, forall_const, ne_eq]
 refine br_split ?_ ?_ <;> intro _
 · rename_i hlen
   have hll : l.length ≤ 60 := by omega
   obtain ⟨out, e, hsay, hbad, hgood⟩ := tsize_ex low l g a size mode ws st hll (by omega) (by omega) (by omega) hx hs
   simp (disch := first | omega | (simp only [ln0]; omega)) only [rs, reduceIte, Nat.reduceAdd, xcall_of hsay, bx, reduceCtorEq, forall_const, ne_eq]
   by_cases he : e = 0
   · rw [br_neg (by simp [he])]
     obtain ⟨hA, hG, F, hout, hmo, hgd⟩ := hgood he
     obtain ⟨hgl, hAl, hfix⟩ := alf hA
     generalize allT low l g a size (decide (mode = 0)) = A at *
     obtain ⟨hf, hb⟩ := good_fit hG (by omega)
     generalize decide (mode ≠ 0) = u, decide (mode = 2) = v at *
     have hu := sizeS_up hf hb u v
     have hfx := sizeS_fx hf hb u v
     generalize sizeS A.1 a ws u v = S at *
     have hFl : F.length = l.length := by rw [hmo.1, hu.1, hAl]
     have hol : out.length = l.length := by rw [hout]; simp [hFl]
     have hel : ∀ i (hi : i < l.length) (ho : i < out.length) (hg : i < g.length), (g[i] = true → out[i] = 0) ∧ (g[i] = false → 0 ≤ out[i] ∧ (l[i].k0 = 2 → l[i].n0 ≤ out[i] ∧ (l[i].k1 = l[i].k0 ∧ l[i].n1 = l[i].n0 → out[i] = l[i].n0))) := by
      intro i hi ho hg
      have hiA : i < A.1.length := by omega
      have hiS : i < S.length := by rw [hu.1]; exact hiA
      have hiF : i < F.length := by omega
      have eo : out[i] = F[i].base := by simp [hout]
      obtain ⟨f1, f2⟩ := hfix i hi hg hiA
      have hm := hmo.2 i hiS hiF
      have hu2 := (hu.2 i hiA hiS).2.2.2.2.2.1
      have hx2 := hfx.2 i hiA hiS
      have hFb := gd_in (hgd _ (List.getElem_mem hiF))
      have hsm : Fxd A.1[i] → F[i] = A.1[i] := by
       intro hfd
       have e1 := hx2 hfd
       rw [hm.2.2.2 (by rw [e1]; exact hfd), e1]
      rw [eo]
      refine ⟨fun hgt => ?_, fun hgf => ⟨by omega, fun hk => ?_⟩⟩
      · obtain ⟨k1, k2⟩ := f1 hgt
        rw [hsm k1]; exact k2
      · obtain ⟨k1, k2⟩ := f2 hgf hk
        refine ⟨by have := hm.2.2.1; omega, fun hkk => ?_⟩
        rw [hsm (k2 hkk)]; exact k1
     rw [br_neg (by simp [hol])]
     generalize (decide (l.length ≤ 60) && decide (g.length ≤ 100) && decide (a.length ≤ 100) && decide (ws.length ≤ 60)) = lb at *
     have key : ∀ i, i ≤ l.length → Run tr law27_TracksFixed_l0 [I low, rowOf eTr l, bools g, ints a, I size, I mode, rowOf eWn ws, B st, B lb, ints out, I e, I i] [.loop law27_TracksFixed_l0 [I low, rowOf eTr l, bools g, ints a, I size, I mode, rowOf eWn ws, B st, B lb, ints out, I e]] [B true] := by
      refine xup_ind fun i hi ih => ?_
      rw [u_law27_TracksFixed_l0]
      by_cases h : i < l.length
      · have ih' := ih h
        have hgi : i < g.length := by omega
        have hoi : i < out.length := by omega
        obtain ⟨g1, g2⟩ := hel i h hoi hgi
        simp (disch := first | omega | (simp only [ln0]; omega)) only [rs, reduceIte, Nat.reduceAdd, h, hgi]
        by_cases hgt : g[i] = true
        · rw [br_pos hgt]
          have hz : (out[i] != 0) = false := by rw [g1 hgt]; rfl
          simp (disch := first | omega | (simp only [ln0]; omega)) only [rs, reduceIte, Nat.reduceAdd, hoi, hz, Bool.false_eq_true, u_law27_TracksFixed_j1]
          try rw [br_neg (by simp)]
          exact ih'
        · rw [br_neg hgt]
          rw [Bool.not_eq_true] at hgt
          obtain ⟨n1, n2⟩ := g2 hgt
          simp (disch := first | omega | (simp only [ln0]; omega)) only [rs, reduceIte, Nat.reduceAdd, h, hoi, trs, bx, reduceCtorEq, forall_const, ne_eq, or_true]
          rw [br_neg ?_]
          · simp (disch := first | omega | (simp only [ln0]; omega)) only [rs, reduceIte, Nat.reduceAdd, u_law27_TracksFixed_j1]
            exact ih'
          · rintro ((hh | hh) | hh)
            · obtain ⟨⟨c1, c2, c3⟩, c4⟩ := hh
              exact c4 ((n2 c1).2 ⟨c2, c3⟩)
            · omega
            · have := (n2 hh.1).1
              omega
      · simp (disch := first | omega | (simp only [ln0]; omega)) only [rs, reduceIte, Nat.reduceAdd, h, xcall_of lives_sp]
     exact key 0 (Nat.zero_le _)
   · rw [br_pos he]
     have ho := hbad he
     subst ho
     simp (disch := first | omega | (simp only [ln0]; omega)) only [rs, reduceIte, Nat.reduceAdd, bx, reduceCtorEq, forall_const, ne_eq, List.length_nil, xcall_of lives_sp]
     try rw [br_pos (by simp)]
     try trivial
 · trivial
end Go.Proofs.YtckjdlmfibjpaaaGreat

/- What the document's trees come to that tell what a round asks of a track, and what a want gives. No condition beyond what each states. -/
import Derived.Test.YtbebnjiolaomdaaGreatT
import Derived.Test.YtbebnjiolaomdaaGreatKbd
set_option linter.unusedVariables false
set_option linter.unusedSimpArgs false
set_option maxRecDepth 100000
namespace Go.Proofs.YtbebnjiolaomdaaGreat.T
open Go Go.Proofs.YtbebnjiolaomdaaGreat.Sx Go.Proofs.YtbebnjiolaomdaaGreat.M
def wantedR (s : List Sz) (a : List Int) (r mode : Int) (w : Wn) : Int :=
 if r = 1 ∧ mode = 0 then w.least else if r = 1 then limI' s a w w.mn else if r = 2 ∨ r = 4 then w.mn else if r = 3 ∧ mode = 2 then limI' s a w w.mx else w.mx
def ofR (r mode : Int) (x : Sz) : Bool :=
 if r = 1 then decide (x.mn ≠ 1) else if r = 2 then decide (x.mn = 3 ∨ x.mn = 4) else if r = 3 then decide (x.mn = 4 ∨ mode = 2 ∧ x.mn = 2) else if r = 4 then decide (x.mx ≠ 1) else decide (x.mx = 4 ∨ x.mx = 2)
def sizeRd (r : Int) (x : Sz) : Int := if 4 ≤ r ∧ x.lim < 1125899906842624 then x.lim else x.base
def roomR (r : Int) (x : Sz) (g : Bool) : Int :=
 if 4 ≤ r then (if g = true ∨ x.lim = 1125899906842624 then 1125899906842624 else 0) else max 0 (IntKind.i64.wrap (limit x - x.base))
def farR (r : Int) (x : Sz) : Bool := if 4 ≤ r then true else if r = 3 then decide (x.mx = 4 ∨ x.mx = 2) else decide (x.mx ≠ 1)
theorem rwanted_sp (s : List Sz) (a : List Int) (w : Wn) (r mode : Int) (hi : InW s.length w) (hal : a.length = s.length) (hs : s.length ≤ 1000000) :
    Says tr c_ref24_wanted [rowOf eSz s, ints a, I w.fm, I w.to, I w.least, I w.mn, I w.mx, I r, I mode] [I (wantedR s a r mode w)] := by
 obtain ⟨h0, h1, h2⟩ := hi
 obtain ⟨f, hf⟩ : ∃ f : Nat, w.fm = f := ⟨w.fm.toNat, by omega⟩
 obtain ⟨t, ht⟩ : ∃ t : Nat, w.to = t := ⟨w.to.toNat, by omega⟩
 have hl := fun n => rlimited_sp s a f t w.least w.mn w.mx n (by omega) (by omega) hal hs
 have hw : (⟨(f : Int), (t : Int), w.least, w.mn, w.mx⟩ : Wn) = w := by rw [← hf, ← ht]
 simp only [hw] at hl
 refine Says.of (t := ref24_wanted) rfl ?_
 rw [u_ref24_wanted]
 unfold wantedR limI' gapsI
 rw [hf, ht]
 simp only [Int.toNat_natCast]
 simp (disch := first | omega | (simp only [ln0]; omega)) only [rs, reduceIte, Nat.reduceAdd, bx, reduceCtorEq, forall_const, ne_eq]
 by_cases c1 : r = 1 ∧ mode = 0
 · rw [br_pos c1, if_pos c1]
 rw [br_neg c1, if_neg c1]
 by_cases c2 : r = 1
 · rw [br_pos c2, if_pos c2]
   simp (disch := first | omega | (simp only [ln0]; omega)) only [rs, reduceIte, Nat.reduceAdd, xcall_of (hl w.mn)]
 rw [br_neg c2, if_neg c2]
 by_cases c3 : r = 2 ∨ r = 4
 · rw [br_pos c3, if_pos c3]
 rw [br_neg c3, if_neg c3]
 by_cases c4 : r = 3 ∧ mode = 2
 · rw [br_pos c4, if_pos c4]
   simp (disch := first | omega | (simp only [ln0]; omega)) only [rs, reduceIte, Nat.reduceAdd, xcall_of (hl w.mx)]
 · rw [br_neg c4, if_neg c4]
theorem rof_sp (x : Sz) (r mode : Int) : Says tr c_ref24_of [I x.mn, I x.mx, I x.fr, B x.fit, I x.cap, I x.base, I x.lim, I r, I mode] [B (ofR r mode x)] := by
 refine Says.of (t := ref24_of) rfl ?_
 rw [u_ref24_of]
 unfold ofR
 simp (disch := first | omega | (simp only [ln0]; omega)) only [rs, reduceIte, Nat.reduceAdd, bx, reduceCtorEq, forall_const, ne_eq]
 by_cases c1 : r = 1
 · rw [br_pos c1, if_pos c1]
   try simp only [xbret, bx, reduceCtorEq, forall_const, ne_eq]
 rw [br_neg c1, if_neg c1]
 by_cases c2 : r = 2
 · rw [br_pos c2, if_pos c2]
   try simp only [xbret, bx, reduceCtorEq, forall_const, ne_eq]
 rw [br_neg c2, if_neg c2]
 by_cases c3 : r = 3
 · rw [br_pos c3, if_pos c3]
   try simp only [xbret, bx, reduceCtorEq, forall_const, ne_eq]
 rw [br_neg c3, if_neg c3]
 by_cases c4 : r = 4
 · rw [br_pos c4, if_pos c4]
   try simp only [xbret, bx, reduceCtorEq, forall_const, ne_eq]
 · rw [br_neg c4, if_neg c4]
   try simp only [xbret, bx, reduceCtorEq, forall_const, ne_eq]
theorem rsize24_sp (x : Sz) (r : Int) : Says tr c_ref24_size [I x.mn, I x.mx, I x.fr, B x.fit, I x.cap, I x.base, I x.lim, I r] [I (sizeRd r x)] := by
 refine Says.of (t := ref24_size) rfl ?_
 rw [u_ref24_size]
 unfold sizeRd
 simp (disch := first | omega | (simp only [ln0]; omega)) only [rs, reduceIte, Nat.reduceAdd, bx, reduceCtorEq, forall_const, ne_eq]
 refine br_split ?_ ?_ <;> intro _ <;> rename_i h
 · rw [if_pos h]
 · rw [if_neg h]
theorem rroom_sp (x : Sz) (r : Int) (g : Bool) : Says tr c_ref24_room [I x.mn, I x.mx, I x.fr, B x.fit, I x.cap, I x.base, I x.lim, I r, B g] [I (roomR r x g)] := by
 have hf := rfits_sp x
 refine Says.of (t := ref24_room) rfl ?_
 rw [u_ref24_room]
 unfold roomR limit
 simp (disch := first | omega | (simp only [ln0]; omega)) only [rs, reduceIte, Nat.reduceAdd, bx, reduceCtorEq, forall_const, ne_eq]
 by_cases c1 : 4 ≤ r
 · rw [br_pos c1, if_pos c1]
   refine br_split ?_ ?_ <;> intro _ <;> rename_i h
   · rw [if_pos h]
   · rw [if_neg h]
 · rw [br_neg c1, if_neg c1]
   by_cases c2 : x.fit = true
   · rw [br_pos c2, if_pos c2]
     simp (disch := first | omega | (simp only [ln0]; omega)) only [rs, reduceIte, Nat.reduceAdd, xcall_of hf, on_ar, ar_sub]
   · rw [br_neg c2, if_neg c2]
     try simp (disch := first | omega | (simp only [ln0]; omega)) only [rs, reduceIte, Nat.reduceAdd, on_ar, ar_sub]
theorem rfar_sp (x : Sz) (r : Int) : Says tr c_ref24_far [I x.mn, I x.mx, I x.fr, B x.fit, I x.cap, I x.base, I x.lim, I r] [B (farR r x)] := by
 refine Says.of (t := ref24_far) rfl ?_
 rw [u_ref24_far]
 unfold farR
 simp (disch := first | omega | (simp only [ln0]; omega)) only [rs, reduceIte, Nat.reduceAdd, bx, reduceCtorEq, forall_const, ne_eq]
 by_cases c1 : 4 ≤ r
 · rw [br_pos c1, if_pos c1]
 rw [br_neg c1, if_neg c1]
 by_cases c3 : r = 3
 · rw [br_pos c3, if_pos c3]
   try simp only [xbret, bx, reduceCtorEq, forall_const, ne_eq]
 · rw [br_neg c3, if_neg c3]
   try simp only [xbret, bx, reduceCtorEq, forall_const, ne_eq]
theorem rflex_sp (s : List Sz) (w : Wn) (hi : InW s.length w) (hs : s.length ≤ 1000000) : Says tr c_ref24_flexible [rowOf eSz s, I w.fm, I w.to, I w.least, I w.mn, I w.mx] [B (flexW s w)] := by
 obtain ⟨h0, h1, h2⟩ := hi
 obtain ⟨f, hf⟩ : ∃ f : Nat, w.fm = f := ⟨w.fm.toNat, by omega⟩
 obtain ⟨t, ht⟩ : ∃ t : Nat, w.to = t := ⟨w.to.toNat, by omega⟩
 refine Says.of (t := ref24_flexible) rfl ?_
 rw [u_ref24_flexible]
 unfold flexW
 rw [hf, ht]
 simp only [Int.toNat_natCast]
 simp (disch := first | omega | (simp only [ln0]; omega)) only [rs, reduceIte, Nat.reduceAdd]
 have key : ∀ i, i ≤ t → Run tr ref24_flexible_l0 [rowOf eSz s, I f, I t, I w.least, I w.mn, I w.mx, I i] [.loop ref24_flexible_l0 [rowOf eSz s, I f, I t, I w.least, I w.mn, I w.mx]] [B (((s.drop i).take (t - i)).any isFr)] := by
  refine xup_ind fun i hi ih => ?_
  rw [u_ref24_flexible_l0]
  by_cases h : i < t
  · have hl : i < s.length := by omega
    rw [cut_cons s h hl, List.any_cons]
    have ih' := ih h
    simp (disch := first | omega | (simp only [ln0]; omega)) only [rs, reduceIte, Nat.reduceAdd, h, hl, sz_at0, sz_at1, sz_at2, sz_at3, sz_at4, sz_at5, sz_at6, sz_snoc, sz_set, sz_put5, sz_put6, beq_iff_eq]
    by_cases hx : s[i].mx = 5
    · rw [br_pos hx]
      simp [isFr, hx]
    · rw [br_neg hx]
      have : isFr s[i] = false := by simp [isFr, hx]
      rw [this, Bool.false_or]
      exact ih'
  · rw [show t - i = 0 by omega, List.take_zero]
    simp (disch := first | omega | (simp only [ln0]; omega)) only [rs, reduceIte, Nat.reduceAdd, h]
    rfl
 exact key f (by omega)
theorem rraised_sp (s : List Sz) (hs : s.length ≤ 1000000) : Says tr c_ref24_raised [rowOf eSz s] [rowOf eSz (s.map raise1)] := by
 refine Says.of (t := ref24_raised) rfl ?_
 rw [u_ref24_raised]
 simp (disch := first | omega | (simp only [ln0]; omega)) only [rs, reduceIte, Nat.reduceAdd]
 have key := xup_ind (n := s.length) (P := fun i => Run tr ref24_raised_l0 [rowOf eSz s, I i, rowOf eSz ((s.map raise1).take i)] [.loop ref24_raised_l0 [rowOf eSz s]] [rowOf eSz (s.map raise1)]) ?_ 0 (Nat.zero_le _)
 · rw [List.take_zero] at key
   exact key
 intro i hi ih
 rw [u_ref24_raised_l0]
 by_cases h : i < s.length
 · have ih' := ih h
   have hr := rraise_sp s[i]
   rw [← take_snoc (a := s.map raise1) (i := i) (by simpa using h) (v := raise1 s[i]) (by simp)] at ih'
   have hlen : (((s.map raise1).take i).length : Int) + 1 ≤ 4294967296 := by simp; omega
   simp (disch := first | omega | (simp only [ln0]; omega)) only [rs, reduceIte, Nat.reduceAdd, h, sz_at0, sz_at1, sz_at2, sz_at3, sz_at4, sz_at5, sz_at6, sz_snoc, sz_set, sz_put5, sz_put6, xcall_of hr, hlen]
   first | exact ih' | exact ⟨by simp; omega, ih'⟩
 · obtain rfl : i = s.length := by omega
   simp (disch := first | omega | (simp only [ln0]; omega)) only [rs, reduceIte, Nat.reduceAdd, Nat.lt_irrefl]
   rw [List.take_of_length_le (by simp)]
def placeU : List Nat → List Int → List Int → List Int
 | i :: is, x :: xs, out => placeU is xs (out.set i x)
 | _, _, out => out
theorem placeU_len : ∀ (is : List Nat) (xs out : List Int), (placeU is xs out).length = out.length
 | i :: is, x :: xs, out => by simp [placeU, placeU_len is xs]
 | [], _, out => by cases out <;> rfl
 | _ :: _, [], out => by rfl
def ofG (s : List Sz) (r mode : Int) (fr : Bool) (i : Nat) : Bool := ofR r mode (atS s i) && (!fr || isFr (atS s i))
noncomputable def shareR (s : List Sz) (r : Int) (g : List Bool) (fr : Bool) (space : Int) (who : List Nat) : List Int :=
 if fr then shareB s space who else shareF (fun i => roomR r (atS s i) (g.getD i false)) (fun i => farR r (atS s i)) space who
theorem shareR_len (s r g fr space who) : (shareR s r g fr space who).length = who.length := by
 unfold shareR
 split
 · unfold shareB; rw [byS_length]; simp
 · unfold shareF; rw [fillS_length]; simp
noncomputable def givesS (s : List Sz) (a : List Int) (w : Wn) (r mode : Int) (g : List Bool) (fr : Bool) : List Int :=
 let space := spaceS (sizeRd r) ((s.drop w.fm.toNat).take (w.to.toNat - w.fm.toNat)) (IntKind.i64.wrap (wantedR s a r mode w - gapsI a w))
 let who := whoU (ofG s r mode fr) (w.to.toNat - w.fm.toNat) w.fm.toNat
 if space ≤ 0 ∨ who.length = 0 then List.replicate s.length 0 else placeU who (shareR s r g fr space who) (List.replicate s.length 0)
theorem givesS_len (s a w r mode g fr) : (givesS s a w r mode g fr).length = s.length := by
 simp only [givesS]
 split
 · simp
 · rw [placeU_len]; simp
theorem rgives_sp (s : List Sz) (a : List Int) (w : Wn) (r mode : Int) (g : List Bool) (fr : Bool) (hi : InW s.length w) (hal : a.length = s.length) (hgl : g.length = s.length) (hs : s.length ≤ 50000) :
    Says tr c_ref24_gives [rowOf eSz s, ints a, I w.fm, I w.to, I w.least, I w.mn, I w.mx, I r, I mode, bools g, B fr] [ints (givesS s a w r mode g fr)] := by
 have hwt := rwanted_sp s a w r mode hi hal (by omega)
 obtain ⟨h0, h1, h2⟩ := hi
 obtain ⟨f, hf⟩ : ∃ f : Nat, w.fm = f := ⟨w.fm.toNat, by omega⟩
 obtain ⟨t, ht⟩ : ∃ t : Nat, w.to = t := ⟨w.to.toNat, by omega⟩
 have hgp := rgaps_sp a f t w.least w.mn w.mx (by omega) (by omega) (by omega)
 have hge : gapsW ((a.drop (f + 1)).take (t - (f + 1))) 0 = gapsI a w := by unfold gapsI; rw [hf, ht]; rfl
 rw [hge] at hgp
 refine Says.of (t := ref24_gives) rfl ?_
 rw [u_ref24_gives]
 rw [hf, ht] at hwt ⊢
 have hl : (s.length : Int) ≤ 17592186044416 := by omega
 simp (disch := first | omega | (simp only [ln0]; omega)) only [rs, reduceIte, Nat.reduceAdd, hl, xcall_of hwt, xcall_of hgp]
 simp only [givesS, hf, ht, Int.toNat_natCast]
 generalize hW : wantedR s a r mode w = W
 generalize hG : gapsI a w = G
 generalize hres : (if spaceS (sizeRd r) (List.take (t - f) (List.drop f s)) (IntKind.i64.wrap (W - G)) ≤ 0 ∨ (whoU (ofG s r mode fr) (t - f) f).length = 0 then List.replicate s.length 0
  else placeU (whoU (ofG s r mode fr) (t - f) f) (shareR s r g fr (spaceS (sizeRd r) (List.take (t - f) (List.drop f s)) (IntKind.i64.wrap (W - G))) (whoU (ofG s r mode fr) (t - f) f)) (List.replicate s.length 0)) = res
 have hall := whoU_in (ofG s r mode fr) (t - f) f
 have hlen := whoU_len (ofG s r mode fr) (t - f) f
 have hts : t ≤ s.length := by omega
 generalize hwa : whoU (ofG s r mode fr) (t - f) f = whoA at *
 generalize hcut : (s.drop f).take (t - f) = c at *
 generalize hsp : spaceS (sizeRd r) c (IntKind.i64.wrap (W - G)) = spF at *
 have l4 : ∀ (J1 : JT) (x13 x14 x15 x16 x17 x19 x20 x21 x22 : PV) (l : List Int), l.length = whoA.length → placeU whoA l (List.replicate s.length 0) = res →
     Run tr ref24_gives_l4 [rowOf eSz s, ints a, I f, I t, I w.least, I w.mn, I w.mx, I r, I mode, bools g, B fr, I W, I G, x13, x14, x15, x16, x17, nats whoA, x19, x20, x21, x22, ints l, I (0 : Nat), ints (List.replicate s.length 0)] [.loop ref24_gives_l0 [rowOf eSz s, ints a, I f, I t, I w.least, I w.mn, I w.mx, I r, I mode, bools g, B fr, I W, I G], J1, .loop ref24_gives_l4 [rowOf eSz s, ints a, I f, I t, I w.least, I w.mn, I w.mx, I r, I mode, bools g, B fr, I W, I G, x13, x14, x15, x16, x17, nats whoA, x19, x20, x21, x22, ints l]] [ints res] := by
  intro J1 x13 x14 x15 x16 x17 x19 x20 x21 x22 l hll hpl
  have key := xup_ind (n := whoA.length) (P := fun j => ∀ out : List Int, out.length = s.length → placeU (whoA.drop j) (l.drop j) out = res → Run tr ref24_gives_l4 [rowOf eSz s, ints a, I f, I t, I w.least, I w.mn, I w.mx, I r, I mode, bools g, B fr, I W, I G, x13, x14, x15, x16, x17, nats whoA, x19, x20, x21, x22, ints l, I j, ints out] [.loop ref24_gives_l0 [rowOf eSz s, ints a, I f, I t, I w.least, I w.mn, I w.mx, I r, I mode, bools g, B fr, I W, I G], J1, .loop ref24_gives_l4 [rowOf eSz s, ints a, I f, I t, I w.least, I w.mn, I w.mx, I r, I mode, bools g, B fr, I W, I G, x13, x14, x15, x16, x17, nats whoA, x19, x20, x21, x22, ints l]] [ints res]) ?_ 0 (Nat.zero_le _)
  · exact key _ (by simp) (by simpa using hpl)
  intro j hj ih out ho hp
  rw [u_ref24_gives_l4]
  by_cases h : j < whoA.length
  · have hjl : j < l.length := by omega
    have hin := hall _ (List.getElem_mem h)
    have hio : whoA[j] < out.length := by omega
    rw [List.drop_eq_getElem_cons h, List.drop_eq_getElem_cons hjl] at hp
    simp only [placeU] at hp
    have ih' := ih h _ (by rw [List.length_set]; exact ho) hp
    simp (disch := first | omega | (simp only [ln0]; omega)) only [rs, reduceIte, Nat.reduceAdd, h, hjl, List.getElem_map, Int.ofNat_eq_natCast, hio]
    exact ih'
  · rw [List.drop_of_length_le (by omega), List.drop_of_length_le (by omega)] at hp
    simp only [placeU] at hp
    simp (disch := first | omega | (simp only [ln0]; omega)) only [rs, reduceIte, Nat.reduceAdd, h, List.length_map]
    rw [hp]
 have key := xup_ind (n := t) (P := fun i => f ≤ i → ∀ (who : List Nat) (sp : Int), who ++ whoU (ofG s r mode fr) (t - i) i = whoA → spaceS (sizeRd r) ((s.drop i).take (t - i)) sp = spF →
  Run tr ref24_gives_l0 [rowOf eSz s, ints a, I f, I t, I w.least, I w.mn, I w.mx, I r, I mode, bools g, B fr, I W, I G, I i, B (who.any fun i => farR r (atS s i)), bools (who.map fun i => farR r (atS s i)), ints (who.map fun i => (atS s i).fr), ints (who.map fun i => roomR r (atS s i) (g.getD i false)), nats who, I sp] [.loop ref24_gives_l0 [rowOf eSz s, ints a, I f, I t, I w.least, I w.mn, I w.mx, I r, I mode, bools g, B fr, I W, I G]] [ints res]) ?_ f (by omega)
 · exact key (Nat.le_refl _) [] _ (by simpa using hwa) (by rw [hcut]; exact hsp)
 intro i hi ih hfi who sp hwho hspi
 have hwl : who.length ≤ whoA.length := by rw [← hwho]; simp
 rw [u_ref24_gives_l0]
 by_cases h : i < t
 · have his : i < s.length := by omega
   have hig : i < g.length := by omega
   rw [cut_cons s h his] at hspi
   simp only [spaceS] at hspi
   rw [show t - i = (t - (i + 1)) + 1 by omega] at hwho
   simp only [whoU] at hwho
   have hz := rsize24_sp s[i] r
   have hof := rof_sp s[i] r mode
   have hrm := rroom_sp s[i] r g[i]
   have hfa := rfar_sp s[i] r
   have e1 : ofG s r mode fr i = (ofR r mode s[i] && (!fr || isFr s[i])) := by unfold ofG; rw [atS_lt his]
   have e2 : (s[i].mx != 5) = !isFr s[i] := by simp only [isFr]; by_cases h5 : s[i].mx = 5 <;> simp [h5]
   have hgd : g.getD i false = g[i] := by simp [hig]
   have ihi := ih h (by omega)
   simp (disch := first | omega | (simp only [ln0]; omega)) only [rs, reduceIte, Nat.reduceAdd, h, his, sz_at0, sz_at1, sz_at2, sz_at3, sz_at4, sz_at5, sz_at6, sz_snoc, sz_set, sz_put5, sz_put6, xcall_of hz, xcall_of hof, e2]
   have hcond : ((!ofR r mode s[i] || fr && !isFr s[i]) = true) ↔ ¬ (ofG s r mode fr i = true) := by
    rw [e1]
    cases ofR r mode s[i] <;> cases fr <;> cases isFr s[i] <;> simp
   by_cases hc : ofG s r mode fr i = true
   · rw [br_neg (fun hh => hcond.1 hh hc)]
     rw [if_pos hc] at hwho
     have ih' := ihi (who ++ [i]) _ (by rw [← hwho]; simp) hspi
     simp only [List.map_append, List.map_cons, List.map_nil, List.any_append, List.any_cons, List.any_nil, Bool.or_false, atS_lt his, hgd] at ih'
     have b1 : (who.length : Int) + 1 ≤ 4294967296 := by omega
     have eN : ints (who.map Int.ofNat ++ [(i : Int)]) = nats (who ++ [i]) := by simp only [nats, List.map_append, List.map_cons, List.map_nil, Int.ofNat_eq_natCast]
     rw [← eN] at ih'
     simp (disch := first | omega | (simp only [ln0]; omega)) only [rs, reduceIte, Nat.reduceAdd, h, his, hig, sz_at0, sz_at1, sz_at2, sz_at3, sz_at4, sz_at5, sz_at6, sz_snoc, sz_set, sz_put5, sz_put6, xcall_of hrm, xcall_of hfa, b1, List.length_map, u_ref24_gives_j1, on_ar, ar_sub]
     by_cases ha : (who.any fun i => farR r (atS s i)) = true
     · try rw [br_pos ha]
       rw [ha, Bool.true_or] at ih'
       first | exact ih' | exact ⟨by omega, ih'⟩ | exact ⟨by omega, by omega, by omega, by omega, ih'⟩
     · try rw [br_neg ha]
       rw [Bool.not_eq_true] at ha
       rw [ha, Bool.false_or] at ih'
       first | exact ih' | exact ⟨by omega, ih'⟩ | exact ⟨by omega, by omega, by omega, by omega, ih'⟩
   · rw [br_pos (hcond.2 hc)]
     rw [if_neg hc] at hwho
     have ih' := ihi who _ hwho hspi
     simp (disch := first | omega | (simp only [ln0]; omega)) only [rs, reduceIte, Nat.reduceAdd, u_ref24_gives_j1, on_ar, ar_sub]
     exact ih'
 · obtain rfl : i = t := by omega
   rw [Nat.sub_self] at hwho hspi
   simp only [whoU, List.append_nil] at hwho
   simp only [List.take_zero, spaceS] at hspi
   subst hwho hspi
   simp (disch := first | omega | (simp only [ln0]; omega)) only [rs, reduceIte, Nat.reduceAdd, h, bx, reduceCtorEq, forall_const, ne_eq, List.length_map]
   by_cases hc : sp ≤ 0 ∨ who.length = 0
   · rw [br_pos (by omega)]
     rw [if_pos hc] at hres
     try simp (disch := first | omega | (simp only [ln0]; omega)) only [rs, reduceIte, Nat.reduceAdd, hl]
     rw [hres]
   · rw [br_neg (by omega)]
     rw [if_neg hc] at hres
     generalize hbey : who.map (fun i => farR r (atS s i)) = bey at *
     generalize hany : (who.any fun i => farR r (atS s i)) = any at *
     have hbl : bey.length = who.length := by rw [← hbey]; simp
     have hal2 : (bey.map (· || !any)).length = bey.length := by simp
     have key2 := xup_ind (n := bey.length) (P := fun j => Run tr ref24_gives_l2 [rowOf eSz s, ints a, I f, I i, I w.least, I w.mn, I w.mx, I r, I mode, bools g, B fr, I W, I G, I i, B any, bools bey, ints (who.map fun i => (atS s i).fr), ints (who.map fun i => roomR r (atS s i) (g.getD i false)), nats who, I sp, I j, bools (mix (bey.map (· || !any)) bey j)] [.loop ref24_gives_l0 [rowOf eSz s, ints a, I f, I i, I w.least, I w.mn, I w.mx, I r, I mode, bools g, B fr, I W, I G], .loop ref24_gives_l2 [rowOf eSz s, ints a, I f, I i, I w.least, I w.mn, I w.mx, I r, I mode, bools g, B fr, I W, I G, I i, B any, bools bey, ints (who.map fun i => (atS s i).fr), ints (who.map fun i => roomR r (atS s i) (g.getD i false)), nats who, I sp]] [ints res]) ?_ 0 (Nat.zero_le _)
     · rw [mix_zero] at key2
       exact key2
     intro j hj ihj
     rw [u_ref24_gives_l2]
     have hml : (mix (bey.map (· || !any)) bey j).length = bey.length := mix_len hal2 j
     by_cases hjb : j < bey.length
     · have hat : (mix (bey.map (· || !any)) bey j)[j]'(by omega) = bey[j] := mix_at hal2 hjb (by omega)
       have ih' := ihj hjb
       have hset := mix_set (a := bey.map (· || !any)) hal2 hjb (v := (bey[j] || !any)) (by simp)
       rw [← hset] at ih'
       simp (disch := first | omega | (simp only [ln0]; omega)) only [rs, reduceIte, Nat.reduceAdd, hjb, hml, hat]
       exact ih'
     · obtain rfl : j = bey.length := by omega
       have hm0 : mix (bey.map (· || !any)) bey bey.length = bey.map (· || !any) := mix_full hal2
       have hfillE : shareF (fun i => roomR r (atS s i) (g.getD i false)) (fun i => farR r (atS s i)) sp who = fillS sp (who.map fun i => roomR r (atS s i) (g.getD i false)) (bey.map (· || !any)) := by
        unfold shareF
        rw [hany, ← hbey, List.map_map]
        rfl
       have hshr := shareR_len s r g fr sp who
       simp (disch := first | omega | (simp only [ln0]; omega)) only [rs, reduceIte, Nat.reduceAdd, Nat.lt_irrefl, hm0, hml, List.length_map, xcall_of (rfill_sp sp (who.map fun i => roomR r (atS s i) (g.getD i false)) (bey.map (· || !any)) (by simp; omega) (by simp; omega))]
       cases fr with
       | true =>
        rw [br_pos rfl]
        have hb : shareR s r g true sp who = byS sp (who.map fun i => (atS s i).fr) := rfl
        rw [hb] at hres hshr
        simp (disch := first | omega | (simp only [ln0]; omega)) only [rs, reduceIte, Nat.reduceAdd, xcall_of (rby_sp sp (who.map fun i => (atS s i).fr) (by simp; omega)), u_ref24_gives_j3, hl]
        exact l4 _ _ _ _ _ _ _ _ _ _ _ hshr hres
       | false =>
        rw [br_neg (by simp)]
        have hb : shareR s r g false sp who = shareF (fun i => roomR r (atS s i) (g.getD i false)) (fun i => farR r (atS s i)) sp who := rfl
        rw [hb, hfillE] at hres hshr
        simp (disch := first | omega | (simp only [ln0]; omega)) only [rs, reduceIte, Nat.reduceAdd, u_ref24_gives_j3, hl]
        exact l4 _ _ _ _ _ _ _ _ _ _ _ hshr hres
end Go.Proofs.YtbebnjiolaomdaaGreat.T

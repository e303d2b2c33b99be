/- What all wants give each track, as the tree tells it: the wants one by one. No condition beyond what each states. -/
import Derived.Test.YtbebnjiolaomdaaT
import Derived.Test.YtbebnjiolaomdaaKgv
set_option linter.unusedVariables false
set_option linter.unusedSimpArgs false
set_option maxRecDepth 10000
namespace Go.Proofs.Ytbebnjiolaomdaa.T
open Go Go.Proofs.Ytbebnjiolaomdaa.Sx Go.Proofs.Ytbebnjiolaomdaa.M
section
variable {ws : List Wn} {s : List Sz} {a : List Int} {f1 f2 : Bool} {g : List Bool}
def ThOk (ws : List Wn) (s : List Sz) (a : List Int) (f1 f2 : Bool) (g : List Bool) (those : T) (of : Nat → Bool) : Prop :=
 ∀ (J : List JT) (b : T) (ρb : List PV) (r : List PV) (x6 x7 x8 x9 x10 x11 : PV) (i : Nat) (who : List Nat), J.length = 4 → i < s.length → who.length ≤ 60000 →
  Run tr b (ρb ++ [nats (if of i = true then who ++ [i] else who)]) J r → Run tr those [rowOf eWn ws, rowOf eSz s, ints a, B f1, B f2, bools g, x6, x7, x8, x9, x10, x11, I i, nats who] (J ++ [.join b ρb]) r
theorem th1_ok (ofF : Nat) (of : Sz → Bool) (hof : ∀ x, Says tr ofF (eSz x) [B (of x)]) : ThOk ws s a f1 f2 g (those1 ofF) (fun i => of (atS s i)) := by
 intro J b ρb r x6 x7 x8 x9 x10 x11 i who hJ hi hl hK
 have h := hof s[i]
 have h4 : ∀ x, (J ++ [x])[4]? = some x := fun x => by rw [List.getElem?_append_right (by omega), hJ]; rfl
 have t4 : ∀ x : JT, (J ++ [x]).take 4 = J := fun x => by rw [List.take_append_of_le_length (by omega), List.take_of_length_le (by omega)]
 have hl2 : (who.length : Int) + 1 ≤ 4294967296 := by omega
 simp only [atS_lt hi] at hK
 unfold those1
 simp (disch := first | omega | (simp only [ln0]; omega)) only [rs, reduceIte, Nat.reduceAdd, hi, sz_at0, sz_at1, sz_at2, sz_at3, sz_at4, sz_at5, sz_at6, sz_snoc, sz_set, sz_put5, sz_put6, xcall_of h]
 refine br_split ?_ ?_ <;> intro _
 · rename_i hx
   rw [if_pos hx] at hK
   have e : ints (who.map Int.ofNat ++ [(i : Int)]) = nats (who ++ [i]) := by simp only [nats, List.map_append, List.map_cons, List.map_nil, Int.ofNat_eq_natCast]
   rw [← e] at hK
   simp (disch := first | omega | (simp only [ln0]; omega)) only [rs, reduceIte, Nat.reduceAdd, hl2, h4, t4]
   first | exact hK | exact ⟨by omega, hK⟩
 · rename_i hx
   rw [if_neg hx] at hK
   simp (disch := first | omega | (simp only [ln0]; omega)) only [rs, reduceIte, Nat.reduceAdd, h4, t4]
   exact hK
theorem th2_ok (ofF ofG : Nat) (of og : Sz → Bool) (hof : ∀ x, Says tr ofF (eSz x) [B (of x)]) (hog : ∀ x, Says tr ofG (eSz x) [B (og x)]) : ThOk ws s a f1 f2 g (those2 ofF ofG) (fun i => if f2 then of (atS s i) else og (atS s i)) := by
 intro J b ρb r x6 x7 x8 x9 x10 x11 i who hJ hi hl hK
 have h := hof s[i]
 have h' := hog s[i]
 have h4 : ∀ x, (J ++ [x])[4]? = some x := fun x => by rw [List.getElem?_append_right (by omega), hJ]; rfl
 have h5 : ∀ x y, (J ++ [x, y])[5]? = some y := fun x y => by rw [List.getElem?_append_right (by omega), hJ]; rfl
 have t4 : ∀ x : JT, (J ++ [x]).take 4 = J := fun x => by rw [List.take_append_of_le_length (by omega), List.take_of_length_le (by omega)]
 have t5 : ∀ x y : JT, (J ++ [x, y]).take 5 = J ++ [x] := fun x y => by rw [show [x, y] = [x] ++ [y] from rfl, ← List.append_assoc, List.take_append_of_le_length (by simp; omega), List.take_of_length_le (by simp; omega)]
 have hl2 : (who.length : Int) + 1 ≤ 4294967296 := by omega
 simp only [atS_lt hi] at hK
 have fin : ∀ c : Bool, c = (if f2 = true then of s[i] else og s[i]) → Run tr pushJ [rowOf eWn ws, rowOf eSz s, ints a, B f1, B f2, bools g, x6, x7, x8, x9, x10, x11, I i, nats who, B c] (J ++ [.join b ρb]) r := by
  intro c hc
  rw [← hc] at hK
  rw [u_pushJ]
  simp (disch := first | omega | (simp only [ln0]; omega)) only [rs, reduceIte, Nat.reduceAdd]
  refine br_split ?_ ?_ <;> intro _
  · rename_i hx
    rw [if_pos hx] at hK
    have e : ints (who.map Int.ofNat ++ [(i : Int)]) = nats (who ++ [i]) := by simp only [nats, List.map_append, List.map_cons, List.map_nil, Int.ofNat_eq_natCast]
    rw [← e] at hK
    simp (disch := first | omega | (simp only [ln0]; omega)) only [rs, reduceIte, Nat.reduceAdd, hl2, h4, t4]
    first | exact hK | exact ⟨by omega, hK⟩
  · rename_i hx
    rw [if_neg hx] at hK
    simp (disch := first | omega | (simp only [ln0]; omega)) only [rs, reduceIte, Nat.reduceAdd, h4, t4]
    exact hK
 unfold those2
 rw [run_letj, List.append_assoc]
 simp (disch := first | omega | (simp only [ln0]; omega)) only [rs, reduceIte, Nat.reduceAdd, hi, sz_at0, sz_at1, sz_at2, sz_at3, sz_at4, sz_at5, sz_at6, sz_snoc, sz_set, sz_put5, sz_put6]
 refine br_split ?_ ?_ <;> intro _
 · rename_i hx
   simp (disch := first | omega | (simp only [ln0]; omega)) only [rs, reduceIte, Nat.reduceAdd, sz_at0, sz_at1, sz_at2, sz_at3, sz_at4, sz_at5, sz_at6, sz_snoc, sz_set, sz_put5, sz_put6, hi, xcall_of h, h5, t5]
   exact fin _ (by rw [if_pos hx])
 · rename_i hx
   simp (disch := first | omega | (simp only [ln0]; omega)) only [rs, reduceIte, Nat.reduceAdd, sz_at0, sz_at1, sz_at2, sz_at3, sz_at4, sz_at5, sz_at6, sz_snoc, sz_set, sz_put5, sz_put6, hi, xcall_of h', h5, t5]
   exact fin _ (by rw [if_neg hx])
def FillOk (ws : List Wn) (s : List Sz) (a : List Int) (f1 f2 : Bool) (g : List Bool) (fill : T) (share : Int → List Nat → List Int) : Prop :=
 ∀ (J : List JT) (b : T) (ρb : List PV) (r : List PV) (k : Nat) (out : List Int) (x8 x9 x10 x12 : PV) (sp : Int) (who : List Nat), J.length = 4 → J[1]? = some (.join b ρb) → who.length ≤ 60000 → (∀ i ∈ who, i < out.length) → (∀ i ∈ who, i < s.length) →
  Run tr b (ρb ++ [ints (outU who (share sp who) out)]) (J.take 1) r → Run tr fill [rowOf eWn ws, rowOf eSz s, ints a, B f1, B f2, bools g, I k, ints out, x8, x9, x10, I sp, x12, nats who] J r
theorem fill_ok (roomT : T) (farF : Nat) (room : Nat → Int) (far : Sz → Bool)
    (hroom : ∀ (k : Nat) (out : List Int) (x8 x9 x10 x12 : PV) (sp : Int) (who : List Nat), (∀ i ∈ who, i < s.length) → ∀ (j : Nat) (hj : j < who.length) (y15 y16 y17 : PV), Run tr roomT [rowOf eWn ws, rowOf eSz s, ints a, B f1, B f2, bools g, I k, ints out, x8, x9, x10, I sp, x12, nats who, I j, y15, y16, y17] [] [I (room who[j])])
    (hfar : ∀ x, Says tr farF (eSz x) [B (far x)]) : FillOk ws s a f1 f2 g (fillT roomT farF) (shareF room fun i => far (atS s i)) := by
 intro J b ρb r k out x8 x9 x10 x12 sp who hJ hj hl hw hws hK
 exact rooms_run roomT farF room far J hJ b ρb hj k out x8 x9 x10 x12 sp who hl hw hws (hroom k out x8 x9 x10 x12 sp who hws) hfar hK
theorem those_run {those fill : T} {of : Nat → Bool} {share : Int → List Nat → List Int} (hth : ThOk ws s a f1 f2 g those of) (hfill : FillOk ws s a f1 f2 g fill share) (hs : s.length ≤ 50000)
    (J : List JT) (hJ : J.length = 3) (b : T) (ρb : List PV) (hj1 : J[1]? = some (.join b ρb)) {r : List PV} (k : Nat) (hk : k < ws.length) (out : List Int) (hol : out.length = s.length) (x8 x9 x10 : PV) (sp : Int) (f t : Nat) (hf : ws[k].fm = (f : Int)) (ht : ws[k].to = (t : Int)) (hft : f < t) (hts : t ≤ s.length)
    (hK : Run tr b (ρb ++ [ints (if sp ≤ 0 ∨ (whoU of (t - f) f).length = 0 then out else outU (whoU of (t - f) f) (share sp (whoU of (t - f) f)) out)]) (J.take 1) r) :
    Run tr (thoseL those fill) [rowOf eWn ws, rowOf eSz s, ints a, B f1, B f2, bools g, I k, ints out, x8, x9, x10, I sp, I f, nats []] (J ++ [.loop (thoseL those fill) [rowOf eWn ws, rowOf eSz s, ints a, B f1, B f2, bools g, I k, ints out, x8, x9, x10, I sp]]) r := by
 have h3 : ∀ x, (J ++ [x])[3]? = some x := fun x => by rw [List.getElem?_append_right (by omega), hJ]; rfl
 have t3 : ∀ x : JT, (J ++ [x]).take (3 + 1) = J ++ [x] := fun x => List.take_of_length_le (by simp; omega)
 have h1 : ∀ x, (J ++ [x])[1]? = some (.join b ρb) := fun x => by rw [List.getElem?_append_left (by omega), hj1]
 have t1 : ∀ x : JT, (J ++ [x]).take 1 = J.take 1 := fun x => List.take_append_of_le_length (by omega)
 have hall := whoU_in of (t - f) f
 have hlen := whoU_len of (t - f) f
 generalize hwa : whoU of (t - f) f = whoA at *
 have key := xup_ind (n := t) (P := fun j => f ≤ j → ∀ who : List Nat, who ++ whoU of (t - j) j = whoA → Run tr (thoseL those fill) [rowOf eWn ws, rowOf eSz s, ints a, B f1, B f2, bools g, I k, ints out, x8, x9, x10, I sp, I j, nats who] (J ++ [.loop (thoseL those fill) [rowOf eWn ws, rowOf eSz s, ints a, B f1, B f2, bools g, I k, ints out, x8, x9, x10, I sp]]) r) ?_ f (by omega)
 · exact key (Nat.le_refl _) [] (by simpa using hwa)
 intro j hj ih hfj who hwho
 rw [u_thoseL]
 have hwl : who.length ≤ whoA.length := by rw [← hwho]; simp
 by_cases h : j < t
 · have hc : (j : Int) < (t : Int) := by omega
   simp (disch := first | omega | (simp only [ln0]; omega)) only [rs, reduceIte, Nat.reduceAdd, wn_at0, wn_at1, hk, hf, ht, hc]
   refine hth _ _ _ _ _ _ _ _ _ _ j who (by simp; omega) (by omega) (by omega) ?_
   simp (disch := first | omega | (simp only [ln0]; omega)) only [rs, reduceIte, Nat.reduceAdd]
   rw [h3, jmp_loop, t3]
   have ih' := ih h (by omega) (if of j = true then who ++ [j] else who) (by
    rw [← hwho, show t - j = (t - (j + 1)) + 1 by omega]
    simp only [whoU]
    split <;> simp)
   simp (disch := first | omega | (simp only [ln0]; omega)) only [rs, reduceIte, Nat.reduceAdd]
   exact ih'
 · obtain rfl : j = t := by omega
   rw [Nat.sub_self] at hwho
   simp only [whoU, List.append_nil] at hwho
   subst hwho
   have hc : ¬ (j : Int) < (j : Int) := by omega
   simp (disch := first | omega | (simp only [ln0]; omega)) only [rs, reduceIte, Nat.reduceAdd, wn_at0, wn_at1, hk, hf, ht, hc, Bool.or_eq_true, List.length_map, beq_iff_eq]
   refine br_split ?_ ?_ <;> intro _
   · rename_i hx
     rw [if_pos (by omega)] at hK
     simp (disch := first | omega | (simp only [ln0]; omega)) only [rs, reduceIte, Nat.reduceAdd, h1, t1]
     exact hK
   · rename_i hx
     rw [if_neg (by omega)] at hK
     exact hfill _ b ρb r k out x8 x9 x10 (I j) sp who (by simp; omega) (h1 _) (by omega) (fun i hi => by have := hall i hi; omega) (fun i hi => by have := hall i hi; omega) (by rw [t1]; exact hK)
theorem space_run {those fill : T} {of : Nat → Bool} {share : Int → List Nat → List Int} (szF : Nat) (size : Sz → Int) (hsz : ∀ x, Says tr szF (eSz x) [I (size x)]) (hth : ThOk ws s a f1 f2 g those of) (hfill : FillOk ws s a f1 f2 g fill share) (hs : s.length ≤ 50000)
    (J : List JT) (hJ : J.length = 2) (b : T) (ρb : List PV) (hj1 : J[1]? = some (.join b ρb)) {r : List PV} (k : Nat) (hk : k < ws.length) (out : List Int) (hol : out.length = s.length) (x8 x9 : PV) (sp : Int) (f t : Nat) (hf : ws[k].fm = (f : Int)) (ht : ws[k].to = (t : Int)) (hft : f < t) (hts : t ≤ s.length)
    (hK : Run tr b (ρb ++ [ints (if spaceS size ((s.drop f).take (t - f)) sp ≤ 0 ∨ (whoU of (t - f) f).length = 0 then out else outU (whoU of (t - f) f) (share (spaceS size ((s.drop f).take (t - f)) sp) (whoU of (t - f) f)) out)]) (J.take 1) r) :
    Run tr (spaceL szF those fill) [rowOf eWn ws, rowOf eSz s, ints a, B f1, B f2, bools g, I k, ints out, x8, x9, I (0 : Nat), I sp] (J ++ [.loop (spaceL szF those fill) [rowOf eWn ws, rowOf eSz s, ints a, B f1, B f2, bools g, I k, ints out, x8, x9]]) r := by
 have h2 : ∀ x, (J ++ [x])[2]? = some x := fun x => by rw [List.getElem?_append_right (by omega), hJ]; rfl
 have t2 : ∀ x : JT, (J ++ [x]).take (2 + 1) = J ++ [x] := fun x => List.take_of_length_le (by simp; omega)
 have h1 : ∀ x, (J ++ [x])[1]? = some (.join b ρb) := fun x => by rw [List.getElem?_append_left (by omega), hj1]
 have t1 : ∀ x : JT, (J ++ [x]).take 1 = J.take 1 := fun x => List.take_append_of_le_length (by omega)
 generalize hcut : (s.drop f).take (t - f) = c at *
 have hcl : c.length = t - f := by rw [← hcut]; simp; omega
 generalize hfin : spaceS size c sp = spF at *
 have key := xup_ind (n := t - f) (P := fun j => ∀ sp : Int, spaceS size (c.drop j) sp = spF → Run tr (spaceL szF those fill) [rowOf eWn ws, rowOf eSz s, ints a, B f1, B f2, bools g, I k, ints out, x8, x9, I j, I sp] (J ++ [.loop (spaceL szF those fill) [rowOf eWn ws, rowOf eSz s, ints a, B f1, B f2, bools g, I k, ints out, x8, x9]]) r) ?_ 0 (Nat.zero_le _)
 · exact key sp (by simpa using hfin)
 intro j hj ih sp hsp
 rw [u_spaceL]
 by_cases h : j < t - f
 · have hc : (j : Int) < (t : Int) - (f : Int) := by omega
   have hfj : f + j < s.length := by omega
   have e : (f : Int) + (j : Int) = ((f + j : Nat) : Int) := by omega
   have hx := hsz s[f + j]
   have hcj : c[j]'(by omega) = s[f + j] := by simp [← hcut]
   rw [List.drop_eq_getElem_cons (by omega : j < c.length)] at hsp
   simp only [spaceS] at hsp
   rw [hcj] at hsp
   have ih' := ih h _ hsp
   simp (disch := first | omega | (simp only [ln0]; omega)) only [rs, reduceIte, Nat.reduceAdd, wn_at0, wn_at1, hk, hf, ht, hc, e, sz_at0, sz_at1, sz_at2, sz_at3, sz_at4, sz_at5, sz_at6, sz_snoc, sz_set, sz_put5, sz_put6, hfj, xcall_of hx]
   rw [h2, jmp_loop, t2]
   simp (disch := first | omega | (simp only [ln0]; omega)) only [rs, reduceIte, Nat.reduceAdd]
   exact ih'
 · obtain rfl : j = t - f := by omega
   rw [List.drop_of_length_le (by omega)] at hsp
   simp only [spaceS] at hsp
   subst hsp
   have hc : ¬ (((t - f : Nat) : Int) < (t : Int) - (f : Int)) := by omega
   simp (disch := first | omega | (simp only [ln0]; omega)) only [rs, reduceIte, Nat.reduceAdd, wn_at0, wn_at1, hk, hf, ht, hc]
   exact those_run hth hfill hs _ (by simp; omega) b ρb (h1 _) k hk out hol x8 x9 (I (t - f : Nat)) sp f t hf ht hft hts (by rw [t1]; exact hK)
theorem gaps_run (k : Nat) (hk : k < ws.length) (x7 x8 : PV) (f t : Nat) (hf : ws[k].fm = (f : Int)) (ht : ws[k].to = (t : Int)) (hft : f < t) (hts : t ≤ a.length) (ha : a.length ≤ 50000) :
    Run tr (gapsT 9 W0 W1 (v 2)) [rowOf eWn ws, rowOf eSz s, ints a, B f1, B f2, bools g, I k, x7, x8] [] [I (gapsI a ws[k])] := by
 unfold gapsI
 rw [hf, ht]
 simp only [Int.toNat_natCast]
 generalize hb : (a.drop (f + 1)).take (t - (f + 1)) = bl
 have eb : ((a.map eI).drop ((f : Int) + 1).toNat).take ((t : Int) - ((f : Int) + 1)).toNat = bl.map eI := by
  rw [row_cut, ← hb]
  congr 2 <;> (try congr 1) <;> omega
 have hbl : bl.length ≤ 1000000 := by rw [← hb]; simp; omega
 have l2 : ∀ j, j ≤ bl.length → ∀ acc, Run tr (gapsL 9 W0 W1 (v 2)) [rowOf eWn ws, rowOf eSz s, ints a, B f1, B f2, bools g, I k, x7, x8, I j, I acc] [.loop (gapsL 9 W0 W1 (v 2)) [rowOf eWn ws, rowOf eSz s, ints a, B f1, B f2, bools g, I k, x7, x8]] [I (gapsW (bl.drop j) acc)] := by
  refine xup_ind fun j hj ih acc => ?_
  rw [u_gapsL]
  by_cases h : j < bl.length
  · rw [List.drop_eq_getElem_cons h]
    simp (disch := first | omega | (simp only [ln0]; omega)) only [rs, reduceIte, Nat.reduceAdd, wn_at0, wn_at1, hk, hf, ht, eb, h]
    exact ih h _
  · rw [List.drop_of_length_le (by omega)]
    simp (disch := first | omega | (simp only [ln0]; omega)) only [rs, reduceIte, Nat.reduceAdd, wn_at0, wn_at1, hk, hf, ht, eb, h]
    rfl
 unfold gapsT
 simp (disch := first | omega | (simp only [ln0]; omega)) only [rs, reduceIte, Nat.reduceAdd, wn_at0, wn_at1, hk, hf, ht]
 refine ⟨by omega, by omega, by omega, ?_⟩
 exact l2 0 (Nat.zero_le _) 0
def WkOk (ws : List Wn) (s : List Sz) (a : List Int) (f1 f2 : Bool) (g : List Bool) (wk : T → T) (wanted : Wn → Int) : Prop :=
 ∀ (K : T) (k : Nat) (hk : k < ws.length) (x7 : PV) (J : List JT) (r : List PV), Run tr K [rowOf eWn ws, rowOf eSz s, ints a, B f1, B f2, bools g, I k, x7, I (wanted ws[k])] J r → Run tr (wk K) [rowOf eWn ws, rowOf eSz s, ints a, B f1, B f2, bools g, I k, x7] J r
theorem give_run {wk : T → T} {wanted : Wn → Int} {those fill : T} {of : Nat → Bool} {share : Int → List Nat → List Int} (szF : Nat) (size : Sz → Int) (hwk : WkOk ws s a f1 f2 g wk wanted) (hsz : ∀ x, Says tr szF (eSz x) [I (size x)]) (hth : ThOk ws s a f1 f2 g those of) (hfill : FillOk ws s a f1 f2 g fill share)
    (hs : s.length ≤ 50000) (ha : a.length = s.length) (hwl : ws.length ≤ 1000000) (hws : ∀ w ∈ ws, InW s.length w) :
    Run tr (giveT wk szF those fill) [rowOf eWn ws, rowOf eSz s, ints a, B f1, B f2, bools g] [] [ints (giveS s a wanted size of share ws (List.replicate s.length 0))] := by
 have hl : (s.length : Int) ≤ 17592186044416 := by omega
 unfold giveT
 simp (disch := first | omega | (simp only [ln0]; omega)) only [rs, reduceIte, Nat.reduceAdd, hl]
 generalize hfin : giveS s a wanted size of share ws (List.replicate s.length 0) = fin
 have key := xup_ind (n := ws.length) (P := fun j => ∀ out : List Int, out.length = s.length → giveS s a wanted size of share (ws.drop j) out = fin → Run tr (giveL wk szF those fill) [rowOf eWn ws, rowOf eSz s, ints a, B f1, B f2, bools g, I j, ints out] [.loop (giveL wk szF those fill) [rowOf eWn ws, rowOf eSz s, ints a, B f1, B f2, bools g]] [ints fin]) ?_ 0 (Nat.zero_le _)
 · exact key _ (by simp) (by simpa using hfin)
 intro k hk ih out hol hg
 rw [u_giveL]
 by_cases h : k < ws.length
 · rw [List.drop_eq_getElem_cons h] at hg
   simp only [giveS] at hg
   obtain ⟨hi0, hi1, hi2⟩ := hws _ (List.getElem_mem h)
   obtain ⟨f, hf⟩ : ∃ f : Nat, ws[k].fm = f := ⟨ws[k].fm.toNat, by omega⟩
   obtain ⟨t, ht⟩ : ∃ t : Nat, ws[k].to = t := ⟨ws[k].to.toNat, by omega⟩
   have ih' := ih h _ (by rw [oneS_len]; exact hol) hg
   simp (disch := first | omega | (simp only [ln0]; omega)) only [rs, reduceIte, Nat.reduceAdd, h]
   refine hwk _ k h _ _ _ ?_
   rw [run_seq]
   refine ⟨_, gaps_run k h _ _ f t hf ht (by omega) (by omega) (by omega), rfl, ?_⟩
   simp (disch := first | omega | (simp only [ln0]; omega)) only [rs, reduceIte, Nat.reduceAdd, wn_at0, wn_at1, h, hf, ht]
   refine ⟨by omega, by omega, ?_⟩
   refine space_run szF size hsz hth hfill hs [_, _] rfl _ _ rfl k h out hol _ _ _ f t hf ht (by omega) (by omega) ?_
   simp (disch := first | omega | (simp only [ln0]; omega)) only [rs, reduceIte, Nat.reduceAdd]
   simp only [oneS, hf, ht, Int.toNat_natCast] at ih'
   exact ih'
 · rw [List.drop_of_length_le (by omega)] at hg
   simp only [giveS] at hg
   simp (disch := first | omega | (simp only [ln0]; omega)) only [rs, reduceIte, Nat.reduceAdd, h]
   rw [hg]
end
end Go.Proofs.Ytbebnjiolaomdaa.T

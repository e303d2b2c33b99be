/- What the sizer gives never takes a track beyond what is wanted. Plain laws; no condition beyond what each states. -/
import Derived.Test.YtbebnjiolaomdaaT
import Derived.Test.YtbebnjiolaomdaaKsc
set_option linter.unusedVariables false
set_option linter.unusedSimpArgs false
set_option maxRecDepth 100000
namespace Go.Proofs.Ytbebnjiolaomdaa.T
open Go Go.Proofs.Ytbebnjiolaomdaa.Sx Go.Proofs.Ytbebnjiolaomdaa.M
theorem mem_le_tot {l : List Int} (h : ∀ x ∈ l, 0 ≤ x) : ∀ y ∈ l, y ≤ tot l := by
 intro y hy
 obtain ⟨i, hi, rfl⟩ := List.mem_iff_getElem.1 hy
 have h1 := tot_at h i hi
 have h2 := tot_take_drop l i
 have h3 : 0 ≤ tot (l.take i) := tot_nonneg (fun x hx => h x (List.mem_of_mem_take hx))
 omega
theorem addp_nonneg : ∀ (os : List Int) (bs : List Bool) (ys : List Int), (∀ x ∈ os, 0 ≤ x) → (∀ y ∈ ys, 0 ≤ y) → ∀ x ∈ addp os bs ys, 0 ≤ x
 | [], [], _, _, _ => by simp [addp]
 | [], _ :: _, _, _, _ => by simp [addp]
 | o :: os, [], _, h, _ => by simpa [addp] using h
 | o :: os, true :: bs, y :: ys, h, hy => by
  intro x hx
  simp only [addp, List.mem_cons] at hx
  rcases hx with rfl | hx
  · have := h o (by simp); have := hy y (by simp); omega
  · exact addp_nonneg os bs ys (fun z hz => h z (by simp [hz])) (fun z hz => hy z (by simp [hz])) x hx
 | o :: os, true :: bs, [], h, hy => by
  intro x hx
  simp only [addp, List.mem_cons] at hx
  rcases hx with rfl | hx
  · exact h _ (by simp)
  · exact addp_nonneg os bs [] (fun z hz => h z (by simp [hz])) hy x hx
 | o :: os, false :: bs, ys, h, hy => by
  intro x hx
  simp only [addp, List.mem_cons] at hx
  rcases hx with rfl | hx
  · exact h _ (by simp)
  · exact addp_nonneg os bs ys (fun z hz => h z (by simp [hz])) hy x hx
theorem fill_tot {S : Int} {room : List Int} {bey : List Bool} (hu : UpOk S room) (hb : bey.length = room.length) :
    (∀ x ∈ fillS S room bey, 0 ≤ x) ∧ tot (fillS S room bey) ≤ S ∧ (0 < (idx bey).length → tot (fillS S room bey) = S) := by
 obtain ⟨_, h2⟩ := up_sp S room hu
 have hul := isup_length h2
 obtain ⟨h00, h01, h02⟩ := left_in hu h2
 have e : fillS S room bey = addp (upS S room) bey (splitS (S - tot (upS S room)) (idx bey).length) := by unfold fillS; rw [if_pos ⟨hu, hb⟩]
 rw [e]
 have hix := idx_le bey
 have hm := hu.2.2.1
 refine ⟨addp_nonneg _ _ _ h00 (fun y hy => (splitS_in y hy).1), ?_, ?_⟩
 · by_cases hp : 1 ≤ (idx bey).length
   · obtain ⟨s1, s2⟩ := split_tot (n := S - tot (upS S room)) (p := (idx bey).length) (by omega) hp (by omega)
     rw [tot_addp _ _ _ (by omega) s1, s2]
     omega
   · have : (idx bey).length = 0 := by omega
     have h0 : splitS (S - tot (upS S room)) ((idx bey).length : Int) = [] := by unfold splitS; rw [if_pos (by omega)]
     rw [h0, addp_nil]
     exact h02
 · intro hp
   obtain ⟨s1, s2⟩ := split_tot (n := S - tot (upS S room)) (p := (idx bey).length) (by omega) hp (by omega)
   rw [tot_addp _ _ _ (by omega) s1, s2]
   omega
theorem fill_in {S : Int} (hS : 0 ≤ S) (room : List Int) (bey : List Bool) : ∀ y ∈ fillS S room bey, 0 ≤ y ∧ y ≤ S := by
 intro y hy
 by_cases hc : UpOk S room ∧ bey.length = room.length
 · obtain ⟨h1, h2, _⟩ := fill_tot hc.1 hc.2
   have := mem_le_tot h1 y hy
   exact ⟨h1 y hy, by omega⟩
 · unfold fillS at hy
   rw [if_neg hc] at hy
   have := List.eq_of_mem_replicate hy
   omega
theorem md_mono {n s s' all : Int} (hn : 0 ≤ n ∧ n ≤ 68719476736) (hs : 0 ≤ s) (hss : s ≤ s') (hs' : s' ≤ all) (ha : 0 < all) : (md n s all).1 ≤ (md n s' all).1 := by
 have hq : n * s' / all ≤ n := by
  have : n * s' ≤ n * all := Int.mul_le_mul_of_nonneg_left hs' hn.1
  exact Int.ediv_le_of_le_mul ha this
 have hq2 : n * s / all ≤ n := by
  have : n * s ≤ n * all := Int.mul_le_mul_of_nonneg_left (by omega) hn.1
  exact Int.ediv_le_of_le_mul ha this
 rw [md_pos hn.1 hs ha (by omega), md_pos hn.1 (by omega) ha (by omega)]
 exact Int.ediv_le_ediv ha (Int.mul_le_mul_of_nonneg_left hss hn.1)
theorem parts_in {n all : Int} (hn : 0 ≤ n ∧ n ≤ 68719476736) (ha : 0 < all) : ∀ (ws : List Int) (was sum : Int), ws.all wgB = true → 0 ≤ sum → sum + sumI ws ≤ all → was = (md n sum all).1 → ∀ y ∈ partsS n all was sum ws, 0 ≤ y ∧ y ≤ n
 | [], _, _, _, _, _, _ => by simp [partsS]
 | w :: r, was, sum, hw, hs, hle, hwas => by
  simp only [List.all_cons, Bool.and_eq_true, wgB, decide_eq_true_eq] at hw
  have hr : r.all wgB = true := hw.2
  have hsi := sumI_in r hr
  simp only [sumI] at hle
  intro y hy
  simp only [partsS, List.mem_cons] at hy
  have h1 := md_part (s := sum + w) hn (by omega) ha
  have h2 := md_part (s := sum) hn (by omega) ha
  have h3 := md_mono (s := sum) (s' := sum + w) hn hs (by omega) (by omega) ha
  rcases hy with rfl | hy
  · omega
  · exact parts_in hn ha r _ _ hr (by omega) (by omega) rfl y hy
theorem by_in {S : Int} (hS : 0 ≤ S) (ws : List Int) : ∀ y ∈ byS S ws, 0 ≤ y ∧ y ≤ S := by
 intro y hy
 unfold byS at hy
 split at hy
 · rename_i hc
   split at hy
   · unfold shareS at hy
     split at hy
     · simp at hy
     · split at hy
       · simp at hy
       · split at hy
         · simp at hy
         · rename_i h1 h2 h3
           have hw : ws.all wgB = true := by simpa using h2
           have hsi := sumI_in ws hw
           have hn : 0 ≤ min S 68719476736 ∧ min S 68719476736 ≤ 68719476736 := by omega
           have := parts_in hn (by omega) ws 0 0 hw (by omega) (by omega) (by
            rw [md_pos hn.1 (by omega) (by omega) (by simp)]
            simp) y hy
           omega
   · split at hy
     · rename_i h1 h2
       have hp : 1 ≤ ws.length := by
        refine Classical.byContradiction fun hh => ?_
        have : splitS S (ws.length : Int) = [] := by unfold splitS; rw [if_pos (by omega)]
        rw [this] at h2
        simp at h2
       obtain ⟨s1, s2⟩ := split_tot (n := S) (p := ws.length) hS hp hc.2.2
       have h0 : ∀ x ∈ splitS S (ws.length : Int), 0 ≤ x := fun x hx => (splitS_in x hx).1
       have := mem_le_tot h0 y hy
       exact ⟨h0 y hy, by omega⟩
     · have := List.eq_of_mem_replicate hy
       omega
 · have := List.eq_of_mem_replicate hy
   omega
def ShIn (share : Int → List Nat → List Int) : Prop := ∀ S who, 0 ≤ S → (share S who).length = who.length ∧ ∀ y ∈ share S who, 0 ≤ y ∧ y ≤ S
theorem shareF_in (room : Nat → Int) (far : Nat → Bool) : ShIn (shareF room far) := fun S who hS => ⟨by unfold shareF; rw [fillS_length]; simp, fill_in hS _ _⟩
theorem shareB_in (s : List Sz) : ShIn (shareB s) := fun S who hS => ⟨by unfold shareB; rw [byS_length]; simp, by_in hS _⟩
def sumZ (size : Sz → Int) : List Sz → Int
 | [] => 0
 | x :: r => size x + sumZ size r
theorem spaceS_eq {size : Sz → Int} (l : List Sz) : ∀ (n : Int), (∀ x ∈ l, 0 ≤ size x ∧ size x ≤ 1125899906842624) → l.length ≤ 60 → -1000000000000000000 + 1125899906842624 * (60 - (l.length : Int)) * (-1) ≤ n → n ≤ 1000000000000000000 → spaceS size l n = n - sumZ size l := by
 induction l with
 | nil => intro n _ _ _ _; simp [spaceS, sumZ]
 | cons x r ih =>
  intro n h hl h1 h2
  have hx := h x (by simp)
  simp only [List.length_cons] at h1 hl
  simp only [spaceS, sumZ]
  rw [wrap_in (by omega) (by omega), ih _ (fun y hy => h y (by simp [hy])) (by omega) (by omega) (by omega)]
  omega
theorem sumZ_at {size : Sz → Int} : ∀ {l : List Sz}, (∀ x ∈ l, 0 ≤ size x) → ∀ x ∈ l, size x ≤ sumZ size l
 | y :: r, h, x, hx => by
  have h0 : ∀ {l : List Sz}, (∀ x ∈ l, 0 ≤ size x) → 0 ≤ sumZ size l := by
   intro l
   induction l with
   | nil => intro _; simp [sumZ]
   | cons z l ih => intro h; have := h z (by simp); have := ih (fun w hw => h w (by simp [hw])); simp only [sumZ]; omega
  have h1 := h y (by simp)
  have h2 := h0 (l := r) (fun z hz => h z (by simp [hz]))
  simp only [sumZ]
  rcases List.mem_cons.1 hx with rfl | hx
  · omega
  · have := sumZ_at (fun z hz => h z (by simp [hz])) x hx
    omega
theorem gapsW_in : ∀ (l : List Int) (n : Int), (∀ x ∈ l, 0 ≤ x ∧ x ≤ 68719476736) → 0 ≤ n → n + 68719476736 * l.length ≤ 9223372036854775807 → n ≤ gapsW l n ∧ gapsW l n ≤ n + 68719476736 * l.length ∧ gapsW l n = n + tot l
 | [], n, _, _, _ => by simp [gapsW, tot]
 | x :: r, n, h, h0, h1 => by
  have hx := h x (by simp)
  simp only [List.length_cons] at h1
  have := gapsW_in r (n + x) (fun y hy => h y (by simp [hy])) (by omega) (by omega)
  simp only [gapsW, tot, List.length_cons]
  rw [wrap_in (by omega) (by omega)]
  omega
structure Fit (s : List Sz) (a : List Int) (ws : List Wn) : Prop where
 hs : s.length ≤ 60
 ha : a.length = s.length
 hg : ∀ x ∈ a, 0 ≤ x ∧ x ≤ 68719476736
 hi : ∀ w ∈ ws, InW s.length w
 hw : ∀ w ∈ ws, (0 ≤ w.least ∧ w.least ≤ 68719476736) ∧ (0 ≤ w.mn ∧ w.mn ≤ 68719476736) ∧ (0 ≤ w.mx ∧ w.mx ≤ 68719476736)
def Bd (x : Sz) : Prop := 0 ≤ x.base ∧ x.base < 1125899906842624 ∧ 0 ≤ x.lim ∧ x.lim ≤ 1125899906842624 ∧ 0 ≤ x.cap ∧ x.cap ≤ 68719476736
theorem Fit.of {s s' : List Sz} {a : List Int} {ws : List Wn} (h : Fit s a ws) (hl : s'.length = s.length) : Fit s' a ws := ⟨by rw [hl]; exact h.hs, by rw [hl]; exact h.ha, h.hg, by rw [hl]; exact h.hi, h.hw⟩
theorem Fit.sub {s : List Sz} {a : List Int} {ws ws' : List Wn} (h : Fit s a ws) (hl : ∀ w ∈ ws', w ∈ ws) : Fit s a ws' := ⟨h.hs, h.ha, h.hg, fun w hw => h.hi w (hl w hw), fun w hw => h.hw w (hl w hw)⟩
theorem gaps_in {s : List Sz} {a : List Int} {ws : List Wn} (h : Fit s a ws) (w : Wn) : 0 ≤ gapsI a w ∧ gapsI a w ≤ 68719476736 * 60 ∧ gapsI a w = tot ((a.drop (w.fm.toNat + 1)).take (w.to.toNat - (w.fm.toNat + 1))) := by
 unfold gapsI
 have hl : ((a.drop (w.fm.toNat + 1)).take (w.to.toNat - (w.fm.toNat + 1))).length ≤ 60 := by
  have := h.hs
  have := h.ha
  simp
  omega
 have := gapsW_in ((a.drop (w.fm.toNat + 1)).take (w.to.toNat - (w.fm.toNat + 1))) 0 (fun x hx => h.hg x (List.mem_of_mem_drop (List.mem_of_mem_take hx))) (by omega) (by omega)
 omega
theorem limG_in (w : Wn) (n : Int) (h1 : 0 ≤ w.least ∧ w.least ≤ 68719476736) (h2 : n ≤ 68719476736) : ∀ (l : List Sz) (most : Int), w.least ≤ limG w n l most ∧ limG w n l most ≤ 68719476736
 | [], most => by simp only [limG]; omega
 | x :: r, most => by
  simp only [limG]
  split
  · omega
  · exact limG_in w n h1 h2 r _
def WnIn (ws : List Wn) (wanted : Wn → Int) : Prop := ∀ w ∈ ws, 0 ≤ wanted w ∧ wanted w ≤ 68719476736
theorem wanted1_in {s : List Sz} {a : List Int} {ws : List Wn} (h : Fit s a ws) (s' : List Sz) (a' : List Int) (f : Bool) : WnIn ws (wanted1 s' a' f) := by
 intro w hw
 obtain ⟨h1, h2, h3⟩ := h.hw w hw
 unfold wanted1 limI'
 split
 · have := limG_in w w.mn h1 h2.2 ((s'.drop w.fm.toNat).take (w.to.toNat - w.fm.toNat)) (gapsI a' w); omega
 · exact h1
theorem wanted3_in {s : List Sz} {a : List Int} {ws : List Wn} (h : Fit s a ws) (s' : List Sz) (a' : List Int) (f : Bool) : WnIn ws (wanted3 s' a' f) := by
 intro w hw
 obtain ⟨h1, h2, h3⟩ := h.hw w hw
 unfold wanted3 limI'
 split
 · have := limG_in w w.mx h1 h3.2 ((s'.drop w.fm.toNat).take (w.to.toNat - w.fm.toNat)) (gapsI a' w); omega
 · exact h3
theorem mn_in {s : List Sz} {a : List Int} {ws : List Wn} (h : Fit s a ws) : WnIn ws (fun w => w.mn) := fun w hw => (h.hw w hw).2.1
theorem mx_in {s : List Sz} {a : List Int} {ws : List Wn} (h : Fit s a ws) : WnIn ws (fun w => w.mx) := fun w hw => (h.hw w hw).2.2
def Gv (s : List Sz) (size : Sz → Int) (out : List Int) : Prop := ∀ i (h : i < out.length), 0 ≤ out[i] ∧ (out[i] = 0 ∨ size (atS s i) + out[i] ≤ 68719476736)
theorem outU_gv (s : List Sz) (size : Sz → Int) : ∀ (who : List Nat) (xs out : List Int), Gv s size out → (∀ k (h1 : k < who.length) (h2 : k < xs.length), 0 ≤ xs[k] ∧ size (atS s who[k]) + xs[k] ≤ 68719476736) → Gv s size (outU who xs out)
 | [], _, out, h, _ => by cases out <;> exact h
 | _ :: _, [], out, h, _ => h
 | i :: is, x :: xs, out, h, hx => by
  simp only [outU]
  refine outU_gv s size is xs _ ?_ (fun k h1 h2 => hx (k + 1) (by simpa using h1) (by simpa using h2))
  intro j hj
  have hj' : j < out.length := by simpa using hj
  have h0 := hx 0 (by simp) (by simp)
  simp only [List.getElem_cons_zero] at h0
  have hjj := h j hj'
  rw [List.getElem_set]
  split
  · rename_i hij
    subst hij
    have : out.getD i 0 = out[i] := by simp [hj']
    rw [this]
    omega
  · exact hjj
theorem cut_mem {s : List Sz} {f t i : Nat} (h1 : f ≤ i) (h2 : i < t) (h3 : i < s.length) : atS s i ∈ (s.drop f).take (t - f) := by
 rw [atS_lt h3, List.mem_iff_getElem]
 refine ⟨i - f, by simp; omega, ?_⟩
 simp [show f + (i - f) = i by omega]
theorem space_eq {s : List Sz} {a : List Int} {ws : List Wn} (h : Fit s a ws) {size : Sz → Int} (hsz : ∀ x ∈ s, 0 ≤ size x ∧ size x ≤ 1125899906842624) {wanted : Wn → Int} (hwt : WnIn ws wanted) {w : Wn} (hw : w ∈ ws) :
    spaceS size ((s.drop w.fm.toNat).take (w.to.toNat - w.fm.toNat)) (IntKind.i64.wrap (wanted w - gapsI a w)) = wanted w - gapsI a w - sumZ size ((s.drop w.fm.toNat).take (w.to.toNat - w.fm.toNat)) := by
 have hg := gaps_in h w
 have h1 := hwt w hw
 have hs := h.hs
 have hl : ((s.drop w.fm.toNat).take (w.to.toNat - w.fm.toNat)).length ≤ 60 := by simp; omega
 rw [wrap_in (by omega) (by omega), spaceS_eq _ _ (fun x hx => hsz x (List.mem_of_mem_drop (List.mem_of_mem_take hx))) hl (by omega) (by omega)]
theorem oneS_gv {s : List Sz} {a : List Int} {ws : List Wn} (h : Fit s a ws) {size : Sz → Int} (hsz : ∀ x ∈ s, 0 ≤ size x ∧ size x ≤ 1125899906842624) {wanted : Wn → Int} (hwt : WnIn ws wanted) {of : Nat → Bool} {share : Int → List Nat → List Int} (hsh : ShIn share)
    {w : Wn} (hw : w ∈ ws) {out : List Int} (ho : Gv s size out) : Gv s size (oneS s a wanted size of share w out) := by
 simp only [oneS]
 rw [space_eq h hsz hwt hw]
 split
 · exact ho
 · rename_i hc
   have hc1 := not_or.1 hc
   obtain ⟨i0, i1, i2⟩ := h.hi w hw
   have hs := h.hs
   obtain ⟨h1, h2⟩ := hsh (wanted w - gapsI a w - sumZ size ((s.drop w.fm.toNat).take (w.to.toNat - w.fm.toNat))) (whoU of (w.to.toNat - w.fm.toNat) w.fm.toNat) (by omega)
   refine outU_gv s size _ _ _ ho (fun k hk1 hk2 => ?_)
   have hin := whoU_in of _ _ _ (List.getElem_mem hk1)
   have hy := h2 _ (List.getElem_mem hk2)
   have hm := cut_mem (s := s) (f := w.fm.toNat) (t := w.to.toNat) hin.1 (by omega) (by omega)
   have hle := sumZ_at (size := size) (fun x hx => (hsz x (List.mem_of_mem_drop (List.mem_of_mem_take hx))).1) _ hm
   have hg := gaps_in h w
   have hwi := hwt w hw
   omega
theorem giveS_gv {s : List Sz} {a : List Int} {ws0 : List Wn} (h : Fit s a ws0) {size : Sz → Int} (hsz : ∀ x ∈ s, 0 ≤ size x ∧ size x ≤ 1125899906842624) {wanted : Wn → Int} (hwt : WnIn ws0 wanted) {of : Nat → Bool} {share : Int → List Nat → List Int} (hsh : ShIn share) :
    ∀ (ws : List Wn) (out : List Int), (∀ w ∈ ws, w ∈ ws0) → Gv s size out → Gv s size (giveS s a wanted size of share ws out)
 | [], out, _, ho => ho
 | w :: ws, out, hsub, ho => by
  simp only [giveS]
  exact giveS_gv h hsz hwt hsh ws _ (fun v hv => hsub v (by simp [hv])) (oneS_gv h hsz hwt hsh (hsub w (by simp)) ho)
theorem gv_zero (s : List Sz) (size : Sz → Int) (n : Nat) : Gv s size (List.replicate n 0) := by
 intro i h
 simp
end Go.Proofs.Ytbebnjiolaomdaa.T

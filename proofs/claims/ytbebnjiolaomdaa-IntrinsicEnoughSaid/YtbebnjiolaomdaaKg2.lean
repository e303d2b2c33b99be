/- What the sizer does with wants that span as many, and with those that span flexible tracks: the trees one behind the other. No condition beyond what each states. -/
import Derived.Test.YtbebnjiolaomdaaT
import Derived.Test.YtbebnjiolaomdaaKg1
set_option linter.unusedVariables false
set_option linter.unusedSimpArgs false
set_option maxRecDepth 100000
namespace Go.Proofs.Ytbebnjiolaomdaa.T
open Go Go.Proofs.Ytbebnjiolaomdaa.Sx Go.Proofs.Ytbebnjiolaomdaa.M
def Den (ρ : List PV) (e : Ex) (x : PV) : Prop := ∀ β, e.den (ρ ++ β) = x
theorem Den.app {ρ : List PV} {e : Ex} {x : PV} (h : Den ρ e x) (γ : List PV) : Den (ρ ++ γ) e x := fun β => by rw [List.append_assoc]; exact h _
theorem Den.var {ρ : List PV} {i : Nat} (h : i < ρ.length) : Den ρ (v i) (ρ.getD i .bad) := fun β => by
 rw [xden_var]
 simp [List.getD_eq_getElem?_getD, List.getElem?_append_left h]
theorem Den.here {ρ : List PV} {e : Ex} {x : PV} (h : Den ρ e x) : e.den ρ = x := by simpa using h []
theorem Den.len {ρ : List PV} {e : Ex} {l : List (List PV)} (h : Den ρ e (.row l)) : Den ρ (len e) (I l.length) := fun β => by
 rw [den_un, h β, on_len, r_row]
theorem Den.mkB {ρ : List PV} {e : Ex} {k : Nat} (h : Den ρ e (I k)) : Den ρ (mkB e) (bools (List.replicate k false)) := fun β => by
 show (BO.make.on _ _) = _
 rw [show (Ex.bin .cons (.bool false) .nilc).den (ρ ++ β) = .cells [B false] from rfl, h β, on_make]
 simp [rowOf, eB, c_cells, pi_int]
theorem Den.nil {ρ : List PV} : Den ρ .nil (bools []) := fun β => rfl
def Dens (ρ : List PV) : List Ex → List PV → Prop
 | [], [] => True
 | e :: es, x :: xs => Den ρ e x ∧ Dens ρ es xs
 | _, _ => False
theorem Dens.eq {ρ : List PV} : ∀ {es : List Ex} {xs : List PV}, Dens ρ es xs → ∀ β, es.map (·.den (ρ ++ β)) = xs
 | [], [], _, _ => rfl
 | e :: es, x :: xs, h, β => by rw [List.map_cons, h.1 β, Dens.eq h.2 β]
 | [], _ :: _, h, _ => h.elim
 | _ :: _, [], h, _ => h.elim
theorem at1 {t K : T} {ρ : List PV} {J : List JT} {r P : List PV} {x : PV} {σ : List Ex} {nv jl : Nat} (d i0 : Nat) (h0 : Run tr t P [] [x]) (hnv : ρ.length = nv) (hjl : J.length = jl) (hi0 : i0 < nv + d) (hs : T.ars σ σ.length nv t (kOk d 1 [i0]) (some 0) [] = true)
    (hσ : Dens ρ σ P) (hK : ∀ (ρ' : List PV) (J' : List JT), ρ'.length = nv + d → J'.length = jl + 1 → (∀ e x, Den ρ e x → Den ρ' e x) → J'.take jl = J → Den ρ' (v i0) x → Run tr K ρ' J' r) : Run tr (At t σ nv jl K) ρ J r := by
 have hl : σ.length = P.length := by rw [← hσ.eq [], List.length_map]
 unfold At
 rw [hl] at hs ⊢
 refine Run.outK P σ nv jl d 1 [i0] h0 hnv hjl hs rfl hσ.eq (fun β J' hβ hJ' hx => ?_)
 refine hK _ _ (by simp [hβ, hnv]) (by simp [hJ', hjl]) (fun e y hy => hy.app β) (by rw [← hjl, List.take_append_of_le_length (Nat.le_refl _), List.take_length]) ?_
 have hv := Den.var (ρ := ρ ++ β) (i := i0) (by simp [hβ, hnv, hi0])
 simp only [List.map_cons, List.map_nil, List.cons.injEq, and_true] at hx
 rw [hx] at hv
 exact hv
theorem asr_run {c : Ex} {k : T} {ρ : List PV} {J : List JT} {r : List PV} (h : (c.den ρ).b = true) (hk : Run tr k ρ J r) : Run tr (asr c k) ρ J r := by
 rw [run_ite, br_pos h]
 exact hk
theorem asr_len {e : Ex} {m : Int} {l : List (List PV)} {k : T} {ρ : List PV} {J : List JT} {r : List PV} (h : Den ρ e (.row l)) (hm : (l.length : Int) ≤ m) (hk : Run tr k ρ J r) : Run tr (asr (le (len e) (n m)) k) ρ J r := by
 refine asr_run ?_ hk
 rw [den_bin, h.len.here, den_int, on_cmp, ev_leq, b_bool]
 simpa [pi_int] using hm
theorem take_tk {α : Type} {l J : List α} {a : Nat} (h : l.take a = J) {i : Nat} (hi : i ≤ a) : l.take i = J.take i := by rw [← h, List.take_take, Nat.min_eq_left hi]
theorem take_get {α : Type} {l J : List α} {a : Nat} (h : l.take a = J) {i : Nat} (hi : i < a) : l[i]? = J[i]? := by rw [← h, List.getElem?_take, if_pos hi]
section
variable (s : List Sz) (a : List Int) (ws : List Wn) (f m : Bool)
noncomputable def rd1 : List Sz := addS s (giveS s a (wanted1 s a f) ownB (fun i => of1 (atS s i)) (shareF (roomB s) fun i => looseB (atS s i)) ws (List.replicate s.length 0))
noncomputable def rd2 : List Sz := addS s (giveS s a (fun w => w.mn) ownB (fun i => of2 (atS s i)) (shareF (roomB s) fun i => looseB (atS s i)) ws (List.replicate s.length 0))
def of3 (m : Bool) (x : Sz) : Bool := if m then of3b x else of3a x
noncomputable def rd3 : List Sz := addS s (giveS s a (wanted3 s a m) ownB (fun i => of3 m (atS s i)) (shareF (roomB s) fun i => contentB (atS s i)) ws (List.replicate s.length 0))
noncomputable def lm4 : List Sz := limAS s (hadS s (fun i => looseB (atS s i)) ws (List.replicate s.length false)) (giveS s a (fun w => w.mn) ownL (fun i => looseB (atS s i)) (shareF (roomL s (List.replicate s.length false)) fun _ => true) ws (List.replicate s.length 0))
noncomputable def lm5 (g : List Bool) : List Sz := limAS s (hadS s (fun i => contentB (atS s i)) ws (List.replicate s.length false)) (giveS s a (fun w => w.mx) ownL (fun i => contentB (atS s i)) (shareF (roomL s g) fun _ => true) ws (List.replicate s.length 0))
noncomputable def fr1 : List Sz := addS s (giveS s a (wanted1 s a f) ownB (fun i => of1 (atS s i) && isFr (atS s i)) (shareB s) ws (List.replicate s.length 0))
noncomputable def fr2 : List Sz := addS s (giveS s a (fun w => w.mn) ownB (fun i => of2 (atS s i) && isFr (atS s i)) (shareB s) ws (List.replicate s.length 0))
noncomputable def fr3 : List Sz := addS s (giveS s a (wanted3 s a m) ownB (fun i => of3 m (atS s i) && isFr (atS s i)) (shareB s) ws (List.replicate s.length 0))
noncomputable def bases3 : List Sz := (rd3 (rd2 (rd1 s a ws f) a ws) a ws m).map raise1
noncomputable def severalS : List Sz :=
 (lm5 (lm4 (bases3 s a ws f m) a ws) a ws (hadS (bases3 s a ws f m) (fun i => looseB (atS (bases3 s a ws f m) i)) ws (List.replicate s.length false))).map fit1
noncomputable def flexS : List Sz := ((fr3 (fr2 (fr1 s a ws f) a ws) a ws m).map raise1).map end1
end
theorem giveS_len (s : List Sz) (a : List Int) (wanted : Wn → Int) (size : Sz → Int) (of : Nat → Bool) (share : Int → List Nat → List Int) : ∀ (ws : List Wn) (out : List Int), (giveS s a wanted size of share ws out).length = out.length
 | [], _ => rfl
 | w :: ws, out => by simp only [giveS]; rw [giveS_len s a wanted size of share ws, oneS_len]
theorem rd1_len (s a ws f) : (rd1 s a ws f).length = s.length := addS_len _ _
theorem rd2_len (s a ws) : (rd2 s a ws).length = s.length := addS_len _ _
theorem rd3_len (s a ws m) : (rd3 s a ws m).length = s.length := addS_len _ _
theorem lm4_len (s a ws) : (lm4 s a ws).length = s.length := limAS_len _ _ _
theorem lm5_len (s a ws g) : (lm5 s a ws g).length = s.length := limAS_len _ _ _
theorem fr1_len (s a ws f) : (fr1 s a ws f).length = s.length := addS_len _ _
theorem fr2_len (s a ws) : (fr2 s a ws).length = s.length := addS_len _ _
theorem fr3_len (s a ws m) : (fr3 s a ws m).length = s.length := addS_len _ _
theorem bases3_len (s a ws f m) : (bases3 s a ws f m).length = s.length := by simp [bases3, rd1_len, rd2_len, rd3_len]
theorem severalS_len (s a ws f m) : (severalS s a ws f m).length = s.length := by simp [severalS, lm4_len, lm5_len, bases3_len]
theorem flexS_len (s a ws f m) : (flexS s a ws f m).length = s.length := by simp [flexS, fr1_len, fr2_len, fr3_len]
section
variable {ws : List Wn} {s : List Sz} {a : List Int} {f m : Bool} {g : List Bool}
structure Ask (s : List Sz) (a : List Int) (ws : List Wn) : Prop where
 hs : s.length ≤ 50000
 ha : a.length = s.length
 hw : ws.length ≤ 1000000
 hi : ∀ w ∈ ws, InW s.length w
theorem Ask.of {s s' : List Sz} {a : List Int} {ws : List Wn} (h : Ask s a ws) (hl : s'.length = s.length) : Ask s' a ws := ⟨by rw [hl]; exact h.hs, by rw [hl]; exact h.ha, h.hw, by rw [hl]; exact h.hi⟩
theorem gv1_run (h : Ask s a ws) (f2 : Bool) (g : List Bool) : Run tr gv1 [rowOf eWn ws, rowOf eSz s, ints a, B f, B f2, bools g] [] [ints (giveS s a (wanted1 s a f) ownB (fun i => of1 (atS s i)) (shareF (roomB s) fun i => looseB (atS s i)) ws (List.replicate s.length 0))] :=
 give_run _ ownB (wkL_ok 3 _ (fun w => w.mn) (fun w => w.least) (fun k hk => wn_at3 ws k hk _) r1_sp h.ha h.hs h.hi) b2_sp (th1_ok _ of1 r7_sp) (fill_ok _ _ (roomB s) looseB (fun k out x8 x9 x10 x12 sp who hw j hj y15 y16 y17 => roomB_run k out x8 x9 x10 x12 sp who hw j hj y15 y16 y17) loose_sp') h.hs h.ha h.hw h.hi
theorem gv2_run (h : Ask s a ws) (f1 f2 : Bool) (g : List Bool) : Run tr gv2 [rowOf eWn ws, rowOf eSz s, ints a, B f1, B f2, bools g] [] [ints (giveS s a (fun w => w.mn) ownB (fun i => of2 (atS s i)) (shareF (roomB s) fun i => looseB (atS s i)) ws (List.replicate s.length 0))] :=
 give_run _ ownB (wkC_ok _ (fun w => w.mn) r9_sp) b2_sp (th1_ok _ of2 r8_sp) (fill_ok _ _ (roomB s) looseB (fun k out x8 x9 x10 x12 sp who hw j hj y15 y16 y17 => roomB_run k out x8 x9 x10 x12 sp who hw j hj y15 y16 y17) loose_sp') h.hs h.ha h.hw h.hi
theorem gv3_run (h : Ask s a ws) (g : List Bool) : Run tr gv3 [rowOf eWn ws, rowOf eSz s, ints a, B m, B m, bools g] [] [ints (giveS s a (wanted3 s a m) ownB (fun i => of3 m (atS s i)) (shareF (roomB s) fun i => contentB (atS s i)) ws (List.replicate s.length 0))] :=
 give_run _ ownB (wkL_ok 4 _ (fun w => w.mx) (fun w => w.mx) (fun k hk => wn_at4 ws k hk _) r3_sp h.ha h.hs h.hi) b2_sp (th2_ok _ _ of3b of3a r6_sp r4_sp) (fill_ok _ _ (roomB s) contentB (fun k out x8 x9 x10 x12 sp who hw j hj y15 y16 y17 => roomB_run k out x8 x9 x10 x12 sp who hw j hj y15 y16 y17) content_sp) h.hs h.ha h.hw h.hi
theorem gv4_run (h : Ask s a ws) (f1 f2 : Bool) (hg : g.length = s.length) : Run tr gv4 [rowOf eWn ws, rowOf eSz s, ints a, B f1, B f2, bools g] [] [ints (giveS s a (fun w => w.mn) ownL (fun i => looseB (atS s i)) (shareF (roomL s g) fun _ => true) ws (List.replicate s.length 0))] :=
 give_run _ ownL (wkC_ok _ (fun w => w.mn) sv1_sp) l1_sp (th1_ok _ looseB loose_sp') (fill_ok _ _ (roomL s g) (fun _ => true) (fun k out x8 x9 x10 x12 sp who hw j hj y15 y16 y17 => roomL_run hg k out x8 x9 x10 x12 sp who hw j hj y15 y16 y17) l2_sp) h.hs h.ha h.hw h.hi
theorem gv5_run (h : Ask s a ws) (f1 f2 : Bool) (hg : g.length = s.length) : Run tr gv5 [rowOf eWn ws, rowOf eSz s, ints a, B f1, B f2, bools g] [] [ints (giveS s a (fun w => w.mx) ownL (fun i => contentB (atS s i)) (shareF (roomL s g) fun _ => true) ws (List.replicate s.length 0))] :=
 give_run _ ownL (wkC_ok _ (fun w => w.mx) sv2_sp) l1_sp (th1_ok _ contentB content_sp) (fill_ok _ _ (roomL s g) (fun _ => true) (fun k out x8 x9 x10 x12 sp who hw j hj y15 y16 y17 => roomL_run hg k out x8 x9 x10 x12 sp who hw j hj y15 y16 y17) l2_sp) h.hs h.ha h.hw h.hi
theorem gf1_run (h : Ask s a ws) (f2 : Bool) (g : List Bool) : Run tr gf1 [rowOf eWn ws, rowOf eSz s, ints a, B f, B f2, bools g] [] [ints (giveS s a (wanted1 s a f) ownB (fun i => of1 (atS s i) && isFr (atS s i)) (shareB s) ws (List.replicate s.length 0))] :=
 give_run _ ownB (wkL_ok 3 _ (fun w => w.mn) (fun w => w.least) (fun k hk => wn_at3 ws k hk _) r1_sp h.ha h.hs h.hi) b2_sp (th1F_ok _ of1 r7_sp) fillF_ok h.hs h.ha h.hw h.hi
theorem gf2_run (h : Ask s a ws) (f1 f2 : Bool) (g : List Bool) : Run tr gf2 [rowOf eWn ws, rowOf eSz s, ints a, B f1, B f2, bools g] [] [ints (giveS s a (fun w => w.mn) ownB (fun i => of2 (atS s i) && isFr (atS s i)) (shareB s) ws (List.replicate s.length 0))] :=
 give_run _ ownB (wkC_ok _ (fun w => w.mn) r9_sp) b2_sp (th1F_ok _ of2 r8_sp) fillF_ok h.hs h.ha h.hw h.hi
theorem gf3_run (h : Ask s a ws) (g : List Bool) : Run tr gf3 [rowOf eWn ws, rowOf eSz s, ints a, B m, B m, bools g] [] [ints (giveS s a (wanted3 s a m) ownB (fun i => of3 m (atS s i) && isFr (atS s i)) (shareB s) ws (List.replicate s.length 0))] :=
 give_run _ ownB (wkL_ok 4 _ (fun w => w.mx) (fun w => w.mx) (fun k hk => wn_at4 ws k hk _) r3_sp h.ha h.hs h.hi) b2_sp (th2F_ok _ _ of3b of3a r6_sp r4_sp) fillF_ok h.hs h.ha h.hw h.hi
theorem Ask.le6 (h : Ask s a ws) : s.length ≤ 1000000 := by have := h.hs; omega
theorem flex_run {ρ : List PV} {J : List JT} (h : Ask s a ws) (hnv : ρ.length = 23) (hjl : J.length = 4)
    (hW : Den ρ (v 16) (rowOf eWn ws)) (hS : Den ρ (v 19) (rowOf eSz s)) (hA : Den ρ (v 1) (ints a)) (h20 : Den ρ (v 20) (B f)) (h21 : Den ρ (v 21) (B m)) (h22 : Den ρ (v 22) (B m)) :
    Run tr ea ρ J [rowOf eSz (flexS s a ws f m), I 0] := by
 refine at1 2 24 (gf1_run h m []) hnv hjl (by omega) rfl ⟨hW, hS, hA, h20, h21, Den.nil, trivial⟩ (fun ρ1 J1 n1 j1 mv1 tk1 x1 => ?_)
 refine at1 2 26 (add_run s _ (by rw [giveS_len]; simp) h.le6) n1 j1 (by omega) rfl ⟨mv1 _ _ hS, x1, trivial⟩ (fun ρ2 J2 n2 j2 mv2 tk2 x2 => ?_)
 have a2 := h.of (fr1_len s a ws f)
 have hW2 := mv2 _ _ (mv1 _ _ hW)
 have hA2 := mv2 _ _ (mv1 _ _ hA)
 have p20 := mv2 _ _ (mv1 _ _ h20)
 have p21 := mv2 _ _ (mv1 _ _ h21)
 have p22 := mv2 _ _ (mv1 _ _ h22)
 refine at1 2 28 (gf2_run a2 f m []) n2 j2 (by omega) rfl ⟨hW2, x2, hA2, p20, p21, Den.nil, trivial⟩ (fun ρ3 J3 n3 j3 mv3 tk3 x3 => ?_)
 refine at1 2 30 (add_run (fr1 s a ws f) _ (by rw [giveS_len]; simp) a2.le6) n3 j3 (by omega) rfl ⟨mv3 _ _ x2, x3, trivial⟩ (fun ρ4 J4 n4 j4 mv4 tk4 x4 => ?_)
 have a4 := a2.of (fr2_len (fr1 s a ws f) a ws)
 have hW4 := mv4 _ _ (mv3 _ _ hW2)
 have hA4 := mv4 _ _ (mv3 _ _ hA2)
 have q21 := mv4 _ _ (mv3 _ _ p21)
 have q22 := mv4 _ _ (mv3 _ _ p22)
 refine at1 2 32 (gf3_run (m := m) a4 []) n4 j4 (by omega) rfl ⟨hW4, x4, hA4, q22, q21, Den.nil, trivial⟩ (fun ρ5 J5 n5 j5 mv5 tk5 x5 => ?_)
 refine at1 2 34 (add_run (fr2 (fr1 s a ws f) a ws) _ (by rw [giveS_len]; simp) a4.le6) n5 j5 (by omega) rfl ⟨mv5 _ _ x4, x5, trivial⟩ (fun ρ6 J6 n6 j6 mv6 tk6 x6 => ?_)
 have a6 := a4.of (fr3_len (fr2 (fr1 s a ws f) a ws) a ws m)
 refine at1 2 36 (raise_run (fr3 (fr2 (fr1 s a ws f) a ws) a ws m) a6.le6) n6 j6 (by omega) rfl ⟨x6, trivial⟩ (fun ρ7 J7 n7 j7 mv7 tk7 x7 => ?_)
 refine at1 2 38 (end_run ((fr3 (fr2 (fr1 s a ws f) a ws) a ws m).map raise1) (by rw [List.length_map]; exact a6.le6)) n7 j7 (by omega) rfl ⟨x7, trivial⟩ (fun ρ8 J8 n8 j8 mv8 tk8 x8 => ?_)
 unfold e7
 rw [xrun_ret]
 simp only [List.map_cons, List.map_nil, x8.here, den_int]
 rfl
theorem several_run {ρ : List PV} {J : List JT} {r : List PV} (h : Ask s a ws) (hnv : ρ.length = 23) (hjl : J.length = 4)
    (hW : Den ρ Wsp (rowOf eWn ws)) (hS : Den ρ (v 19) (rowOf eSz s)) (hA : Den ρ (v 1) (ints a)) (h20 : Den ρ (v 20) (B f)) (h21 : Den ρ (v 21) (B m)) (h22 : Den ρ (v 22) (B m)) {k : Nat} (hk : k ≤ 1000000) (h18 : Den ρ (v 18) (I k))
    (hK : Jmp tr J[3]? 3 [I (k + 1 : Nat), rowOf eSz (severalS s a ws f m)] J r) : Run tr ka ρ J r := by
 refine at1 2 24 (gv1_run h m []) hnv hjl (by omega) rfl ⟨hW, hS, hA, h20, h21, Den.nil, trivial⟩ (fun ρ1 J1 n1 j1 mv1 tk1 x1 => ?_)
 refine at1 2 26 (add_run s _ (by rw [giveS_len]; simp) h.le6) n1 j1 (by omega) rfl ⟨mv1 _ _ hS, x1, trivial⟩ (fun ρ2 J2 n2 j2 mv2 tk2 x2 => ?_)
 have a2 := h.of (rd1_len s a ws f)
 have hW2 := mv2 _ _ (mv1 _ _ hW)
 have hA2 := mv2 _ _ (mv1 _ _ hA)
 have p20 := mv2 _ _ (mv1 _ _ h20)
 have p21 := mv2 _ _ (mv1 _ _ h21)
 have p22 := mv2 _ _ (mv1 _ _ h22)
 have p18 := mv2 _ _ (mv1 _ _ h18)
 refine at1 2 28 (gv2_run a2 f m []) n2 j2 (by omega) rfl ⟨hW2, x2, hA2, p20, p21, Den.nil, trivial⟩ (fun ρ3 J3 n3 j3 mv3 tk3 x3 => ?_)
 refine at1 2 30 (add_run (rd1 s a ws f) _ (by rw [giveS_len]; simp) a2.le6) n3 j3 (by omega) rfl ⟨mv3 _ _ x2, x3, trivial⟩ (fun ρ4 J4 n4 j4 mv4 tk4 x4 => ?_)
 have a4 := a2.of (rd2_len (rd1 s a ws f) a ws)
 have hW4 := mv4 _ _ (mv3 _ _ hW2)
 have hA4 := mv4 _ _ (mv3 _ _ hA2)
 have q20 := mv4 _ _ (mv3 _ _ p20)
 have q21 := mv4 _ _ (mv3 _ _ p21)
 have q22 := mv4 _ _ (mv3 _ _ p22)
 have q18 := mv4 _ _ (mv3 _ _ p18)
 refine at1 2 32 (gv3_run (m := m) a4 []) n4 j4 (by omega) rfl ⟨hW4, x4, hA4, q22, q21, Den.nil, trivial⟩ (fun ρ5 J5 n5 j5 mv5 tk5 x5 => ?_)
 refine at1 2 34 (add_run (rd2 (rd1 s a ws f) a ws) _ (by rw [giveS_len]; simp) a4.le6) n5 j5 (by omega) rfl ⟨mv5 _ _ x4, x5, trivial⟩ (fun ρ6 J6 n6 j6 mv6 tk6 x6 => ?_)
 have a6 := a4.of (rd3_len (rd2 (rd1 s a ws f) a ws) a ws m)
 refine at1 2 36 (raise_run (rd3 (rd2 (rd1 s a ws f) a ws) a ws m) a6.le6) n6 j6 (by omega) rfl ⟨x6, trivial⟩ (fun ρ7 J7 n7 j7 mv7 tk7 x7 => ?_)
 have hl : (bases3 s a ws f m).length = s.length := bases3_len s a ws f m
 have a7 : Ask (bases3 s a ws f m) a ws := h.of hl
 have x7' : Den ρ7 (v 36) (rowOf eSz (bases3 s a ws f m)) := x7
 have mv47 : ∀ e x, Den ρ4 e x → Den ρ7 e x := fun e x hh => mv7 _ _ (mv6 _ _ (mv5 _ _ hh))
 have hs7 := a7.hs
 have hsv : severalS s a ws f m = (lm5 (lm4 (bases3 s a ws f m) a ws) a ws (hadS (bases3 s a ws f m) (fun i => looseB (atS (bases3 s a ws f m) i)) ws (List.replicate (bases3 s a ws f m).length false))).map fit1 := by
  unfold severalS
  rw [hl]
 rw [hsv] at hK
 generalize bases3 s a ws f m = b at *
 unfold k5
 refine asr_len x7' (by rw [List.length_map]; omega) ?_
 refine at1 2 38 (gv4_run a7 f m (g := List.replicate (b.map eSz).length false) (by simp)) n7 j7 (by omega) rfl ⟨mv47 _ _ hW4, x7', mv47 _ _ hA4, mv47 _ _ q20, mv47 _ _ q21, Den.mkB x7'.len, trivial⟩ (fun ρ8 J8 n8 j8 mv8 tk8 x8 => ?_)
 rw [List.length_map] at x8
 refine at1 2 40 (had_run ws b _ looseB loose_sp' a7.hs a7.hw a7.hi) n8 j8 (by omega) rfl ⟨mv8 _ _ (mv47 _ _ hW4), mv8 _ _ x7', trivial⟩ (fun ρ9 J9 n9 j9 mv9 tk9 x9 => ?_)
 refine at1 2 42 (limA_run b _ _ (by rw [hadS_len]; simp) (by rw [giveS_len]; simp) a7.le6) n9 j9 (by omega) rfl ⟨mv9 _ _ (mv8 _ _ x7'), x9, mv9 _ _ x8, trivial⟩ (fun ρ10 J10 n10 j10 mv10 tk10 x10 => ?_)
 have x10' : Den ρ10 (v 42) (rowOf eSz (lm4 b a ws)) := x10
 have a10 := a7.of (lm4_len b a ws)
 have mv710 : ∀ e x, Den ρ7 e x → Den ρ10 e x := fun e x hh => mv10 _ _ (mv9 _ _ (mv8 _ _ hh))
 have hgl : (hadS b (fun i => looseB (atS b i)) ws (List.replicate b.length false)).length = (lm4 b a ws).length := by rw [hadS_len, lm4_len]; simp
 have x9' := mv10 _ _ x9
 generalize hadS b (fun i => looseB (atS b i)) ws (List.replicate b.length false) = g at *
 generalize lm4 b a ws = c at *
 refine at1 2 44 (gv5_run a10 f m hgl) n10 j10 (by omega) rfl ⟨mv710 _ _ (mv47 _ _ hW4), x10', mv710 _ _ (mv47 _ _ hA4), mv710 _ _ (mv47 _ _ q20), mv710 _ _ (mv47 _ _ q21), x9', trivial⟩ (fun ρ11 J11 n11 j11 mv11 tk11 x11 => ?_)
 unfold k9
 have hs10 := a10.hs
 refine asr_len (mv11 _ _ x10') (by rw [List.length_map]; omega) ?_
 refine at1 2 46 (had_run ws c _ contentB content_sp a10.hs a10.hw a10.hi) n11 j11 (by omega) rfl ⟨mv11 _ _ (mv710 _ _ (mv47 _ _ hW4)), mv11 _ _ x10', trivial⟩ (fun ρ12 J12 n12 j12 mv12 tk12 x12 => ?_)
 refine at1 2 48 (limA_run c _ _ (by rw [hadS_len]; simp) (by rw [giveS_len]; simp) a10.le6) n12 j12 (by omega) rfl ⟨mv12 _ _ (mv11 _ _ x10'), x12, mv12 _ _ x11, trivial⟩ (fun ρ13 J13 n13 j13 mv13 tk13 x13 => ?_)
 have x13' : Den ρ13 (v 48) (rowOf eSz (lm5 c a ws g)) := x13
 refine at1 2 50 (fit_run (lm5 c a ws g) (by rw [lm5_len]; exact a10.le6)) n13 j13 (by omega) rfl ⟨x13', trivial⟩ (fun ρ14 J14 n14 j14 mv14 tk14 x14 => ?_)
 have hJ : J14.take 4 = J := by
  have e13 : J13.take 4 = J := by
   have e12 : J12.take 4 = J := by
    have e11 : J11.take 4 = J := by
     have e10 : J10.take 4 = J := by
      have e9 : J9.take 4 = J := by
       have e8 : J8.take 4 = J := by
        have e7 : J7.take 4 = J := by
         have e6 : J6.take 4 = J := by
          have e5 : J5.take 4 = J := by
           have e4 : J4.take 4 = J := by
            have e3 : J3.take 4 = J := by
             have e2 : J2.take 4 = J := by rw [take_tk tk2 (by omega), tk1]
             rw [take_tk tk3 (by omega), e2]
            rw [take_tk tk4 (by omega), e3]
           rw [take_tk tk5 (by omega), e4]
          rw [take_tk tk6 (by omega), e5]
         rw [take_tk tk7 (by omega), e6]
        rw [take_tk tk8 (by omega), e7]
       rw [take_tk tk9 (by omega), e8]
      rw [take_tk tk10 (by omega), e9]
     rw [take_tk tk11 (by omega), e10]
    rw [take_tk tk12 (by omega), e11]
   rw [take_tk tk13 (by omega), e12]
  rw [take_tk tk14 (by omega), e13]
 have z18 : Den ρ14 (v 18) (I k) := mv14 _ _ (mv13 _ _ (mv12 _ _ (mv11 _ _ (mv710 _ _ (mv47 _ _ q18)))))
 unfold k12
 rw [run_jump]
 have e1 : (add (v 18) (n 1)).den ρ14 = I (k + 1 : Nat) := by
  rw [den_bin, z18.here, den_int, on_ar, ar_add, pi_int, pi_int, wrap_in (by omega) (by omega)]
  rfl
 simp only [List.map_cons, List.map_nil, x14.here, e1]
 rw [take_get hJ (by omega)]
 cases hx : J[3]? with
 | none => rw [hx] at hK; exact hK.elim
 | some y =>
  rw [hx] at hK
  cases y with
  | join b ρ0 => rw [jmp_join] at hK ⊢; rw [take_tk hJ (by omega)]; exact hK
  | loop b ρ0 => rw [jmp_loop] at hK ⊢; rw [take_tk hJ (by omega)]; exact hK
end
end Go.Proofs.Ytbebnjiolaomdaa.T

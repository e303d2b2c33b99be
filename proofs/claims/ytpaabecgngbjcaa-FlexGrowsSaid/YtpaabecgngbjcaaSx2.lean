/- Symbolic running of the program's code, over any program, with its proof (2 of 4): definitions and lemmas. No condition. -/
import Derived.Test.YtpaabecgngbjcaaSx1
set_option linter.unusedVariables false
namespace Go.Proofs.Ytpaabecgngbjcaa.Sx
open Go.RowKit

section
variable {P : Program} {X : Env} {W0 : World} {φ : Names} {ρ : List PV} {σ : St} {a : Act} {fs : List Act} {w : World} {nx : Nat}

theorem Rel.ev_fits (h : Rel X W0 φ ρ σ (a :: fs) w) (x : Operand) (l : List (Ex × Bool)) : (({ σ with known := l } : St).ev x).fits ρ.length σ.nx = true := by
  cases x with
  | tmp t =>
    simp only [St.ev]
    refine strip_fits _ ?_
    have : ({ σ with known := l } : St).tmp t = σ.tmp t := rfl
    rw [this]
    unfold St.tmp
    have hf := h.frames
    split
    · rename_i f r he
      rw [he] at hf
      simp only [FrsR] at hf
      obtain ⟨a0, as', ha, hfr, _⟩ := hf
      cases hl : look f t with
      | none => simp [SV.fits]
      | some s => simpa using SVR.fits _ _ (hfr t s hl)
    · simp [SV.fits]
  | const v => exact SVR.fits (W := w) (X := X) (φ := φ) _ _ (ofValue_sound v)
  | func f => simp [St.ev, SV.fits, fitsAll]
  | global g => simp [St.ev, SV.fits]

/-- Guards of a place in a row. -/
theorem inRange_sound {i n : Ex} (h : ∀ g ∈ inRange i n, (g.den ρ).b = true) : 0 ≤ (i.den ρ).i ∧ (i.den ρ).i < (n.den ρ).i := by
  have h1 := h _ (List.mem_cons_self ..)
  have h2 := h _ (List.mem_cons_of_mem _ (List.mem_singleton.2 rfl))
  rw [Ex.den_mk2] at h1 h2
  exact ⟨of_decide_eq_true h1, of_decide_eq_true h2⟩

theorem inRange_fits {i n : Ex} {m : Nat} (hi : i.fits m = true) (hn : n.fits m = true) : ∀ g ∈ inRange i n, g.fits m = true := by
  intro g hg
  simp only [inRange, List.mem_cons, List.not_mem_nil, or_false] at hg
  rcases hg with rfl | rfl
  · exact Ex.fits_mk2 rfl hi
  · exact Ex.fits_mk2 hi hn

theorem den_len {e : Ex} {xs : List (List PV)} (h : e.den ρ = .row xs) : (Ex.mk1 .len e).den ρ = .int .i64 xs.length := by
  rw [Ex.den_mk1, h]; rfl

theorem run_indexAt {t el : TypeId} {ad : Addr} {len cap s : Nat} {k : IntKind} {i : Int} (hu : P.underlying t = some (.slice el)) (hs : szOf P el = some s) (h0 : 0 ≤ i) (h1 : i < len) :
    (Instr.indexAt t (.slice (some ad) len cap) (.int k i)).run P w = .ok (.pointer (some (ad.add (i.toNat * s)))) w := by
  simp [Instr.indexAt, asIntOf, run_underlying hu, run_size hs, h0, h1]

theorem add_none {b off n : Nat} : (⟨b, off, none⟩ : Addr).add n = ⟨b, off + n, none⟩ := by unfold Addr.add; split <;> simp_all

/-- A row that can be read, told as a value: where it lies. -/
theorem row_at {ks : List LK} {e : Ex} {v : Value} (h : SVR w X φ ρ nx (.ex (.row ks) e) v) : e.fits ρ.length = true ∧ ∃ xs a cap, e.den ρ = .row xs ∧ v = .slice a xs.length cap ∧ xs.length ≤ cap ∧
    (xs ≠ [] → ∃ ad, a = some ad ∧ RowAt w (Owned X φ) ks xs ad) := by
  simp only [SVR, RV] at h
  obtain ⟨hf, xs, ao, cap, hx, hv, hc, hne⟩ := h
  exact ⟨hf, xs, ao, cap, hx, hv, hc, fun hn => by obtain ⟨ad, h1, h2, h3, h4, h5⟩ := hne hn; exact ⟨ad, h1, h2, h3, h4, h5⟩⟩

theorem indexAddr_sound (h : Rel X W0 φ ρ σ (a :: fs) w) {t : TypeId} {x i : Operand} {gs : List Ex} {sv : SV} {σ' : St} (hs : simple P σ (.indexAddr t x i) = some (gs, sv, σ')) :
    σ' = σ ∧ (∀ g ∈ gs, g.fits ρ.length = true) ∧ ((∀ g ∈ gs, (g.den ρ).b = true) → ∃ v, (Instr.indexAt t (a.eval x) (a.eval i)).run P w = .ok v w ∧ SVR w X φ ρ σ.nx sv v) := by
  have hx := h.ev x
  have hi := h.ev i
  simp only [simple] at hs
  split at hs
  · rename_i el k ie hu hie
    rw [hie] at hi
    obtain ⟨fi, n, di, hvi⟩ := svr_int hi
    have hii : (ie.den ρ).i = n := by rw [di]; rfl
    split at hs
    · rename_i ks e hxe
      rw [hxe] at hx
      split at hs
      · rename_i hsz
        cases hs
        obtain ⟨fe, xs, ao, cap, dx, hv, hc, hne⟩ := row_at hx
        refine ⟨rfl, inRange_fits fi (Ex.fits_mk1 fe), fun hg => ?_⟩
        obtain ⟨h0, h1⟩ := inRange_sound hg
        rw [den_len dx, hii] at h1
        rw [hii] at h0
        have h1' : n < xs.length := h1
        obtain ⟨ad, rfl, hrow⟩ := hne (by intro hz; rw [hz] at h1'; simp at h1'; omega)
        have hsz' := eq_of_beq hsz
        rw [hv, hvi]
        obtain ⟨b, off, sp⟩ := ad
        have hsp : sp = none := hrow.1
        subst hsp
        refine ⟨_, run_indexAt hu hsz' h0 h1', ?_⟩
        rw [add_none]
        simp only [SVR]
        refine ⟨fe, fi, xs, _, dx, hrow, by rw [hii]; exact h0, by rw [hii]; omega, ?_⟩
        rw [hii]; rfl
      · cases hs
    · rename_i l p hxe
      rw [hxe] at hx
      split at hs
      · rename_i ks e hl
        split at hs
        · rename_i hsz
          have hsz' := eq_of_beq hsz
          obtain ⟨kk, hφ, ho⟩ := h.heap l _ hl
          have ho' := ho
          simp only [ObR] at ho
          obtain ⟨fe, hks, xs, dx, hlen, hm⟩ := ho
          split at hs
          · cases hs
            simp only [SVR] at hx
            have hat := hx.2.2 kk hφ
            refine ⟨rfl, inRange_fits fi (Ex.fits_mk1 fe), fun hg => ?_⟩
            obtain ⟨h0, h1⟩ := inRange_sound hg
            rw [den_len dx, hii] at h1
            rw [hii] at h0
            have h1' : n < kk.len := by have : n < xs.length := h1; omega
            unfold OwnAt at hat
            cases hgg : kk.g with
            | none => rw [hgg] at hat; simp only at hat; omega
            | some g =>
              rw [hgg] at hat
              simp only at hat
              obtain ⟨cap, c, hv, _⟩ := hat
              rw [hv, hvi]
              refine ⟨_, run_indexAt hu hsz' h0 h1', ?_⟩
              rw [add_none]
              simp only [SVR]
              refine ⟨fi, hx.1, ⟨_, rfl⟩, fun k' hk' => ?_⟩
              rw [hφ] at hk'
              cases hk'
              refine ⟨g, hgg, by rw [hii]; exact h0, by rw [hii]; omega, ?_⟩
              rw [hii, hks, Nat.zero_add, Nat.add_zero]
          · rename_i lo nn
            cases hs
            simp only [SVR] at hx
            obtain ⟨flo, fn, hlt, _, hat⟩ := hx
            obtain ⟨l0, l1, hle, ⟨m, hmm⟩, ad, cap, hv, hcap, had⟩ := hat kk hφ
            refine ⟨rfl, inRange_fits fi fn, fun hg => ?_⟩
            obtain ⟨h0, h1⟩ := inRange_sound hg
            rw [hii] at h0 h1
            have hpos : 0 < (nn.den ρ).i.toNat := by omega
            obtain ⟨g, hgg, rfl⟩ := had hpos
            rw [hv, hvi]
            refine ⟨_, run_indexAt hu hsz' h0 (by omega), ?_⟩
            rw [add_none]
            simp only [SVR]
            refine ⟨Ex.fits_mk2 flo fi, hlt, ⟨_, rfl⟩, fun k' hk' => ?_⟩
            rw [hφ] at hk'
            cases hk'
            have hd : ((Ex.mk2 .plus lo ie).den ρ).i = (lo.den ρ).i + n := by rw [Ex.den_mk2, di]; rfl
            have htn : ((lo.den ρ).i + n).toNat = (lo.den ρ).i.toNat + n.toNat := by omega
            refine ⟨g, hgg, by rw [hd]; omega, by rw [hd, htn]; omega, ?_⟩
            rw [hd, htn, hks, Nat.add_zero, Nat.add_mul]
        · cases hs
      · cases hs
    · cases hs
  · rename_i n el k k' j hu hie
    rw [hie] at hi
    obtain ⟨fi, m, di, hvi⟩ := svr_int hi
    simp only [Ex.den, PV.int.injEq] at di
    obtain ⟨rfl, rfl⟩ := di
    split at hs
    · rename_i s l ie o hsz hxe
      rw [hxe] at hx
      split at hs
      · rename_i hj
        simp only [Bool.and_eq_true, decide_eq_true_eq] at hj
        obtain ⟨hj, hsome⟩ := hj
        cases hs
        refine ⟨rfl, List.forall_mem_nil _, fun _ => ?_⟩
        simp only [SVR] at hx
        obtain ⟨f1, hl, _, hk⟩ := hx
        obtain ⟨ob, hob⟩ := Option.isSome_iff_exists.1 hsome
        obtain ⟨kk, hφ, _⟩ := h.heap l ob hob
        · obtain ⟨g, hg, h0, hlt, hv⟩ := hk kk hφ
          rw [hv, hvi]
          refine ⟨.pointer (some ((⟨g, (ie.den ρ).i.toNat * kk.s + o, none⟩ : Addr).add (j.toNat * s))), ?_, ?_⟩
          · simp [Instr.indexAt, asIntOf, run_underlying hu, run_size hsz, hj.1, hj.2, Instr.sureAddr]
          · rw [add_none]
            simp only [SVR]
            refine ⟨f1, hl, ⟨_, rfl⟩, fun k' hk' => ?_⟩
            rw [hφ] at hk'
            cases hk'
            exact ⟨g, hg, h0, hlt, by rw [Nat.add_assoc]⟩
      · cases hs
    · cases hs
  · cases hs

theorem fieldAddr_sound (h : Rel X W0 φ ρ σ (a :: fs) w) {t : TypeId} {x : Operand} {f : Nat} {gs : List Ex} {sv : SV} {σ' : St} (hs : simple P σ (.fieldAddr t x f) = some (gs, sv, σ')) :
    σ' = σ ∧ gs = [] ∧ ∃ v, (Instr.fieldAt t (a.eval x) f).run P w = .ok v w ∧ SVR w X φ ρ σ.nx sv v := by
  have hx := h.ev x
  simp only [simple] at hs
  split at hs
  · rename_i fds hu
    split at hs
    · rename_i fd hf
      split at hs
      · rename_i s l i o hsz hxe
        rw [hxe] at hx
        split at hs
        · rename_i hsome
          cases hs
          refine ⟨rfl, rfl, ?_⟩
          obtain ⟨ob, hob⟩ := Option.isSome_iff_exists.1 hsome
          obtain ⟨kk, hφ, _⟩ := h.heap l ob hob
          simp only [SVR] at hx
          obtain ⟨f1, hl, _, hk⟩ := hx
          obtain ⟨g, hg, h0, hlt, hv⟩ := hk kk hφ
          rw [hv]
          refine ⟨.pointer (some ((⟨g, (i.den ρ).i.toNat * kk.s + o, none⟩ : Addr).add fd.offset)), ?_, ?_⟩
          · simp [Instr.fieldAt, run_underlying hu, hf, Instr.sureAddr, fieldPlace, run_size hsz]
          · rw [add_none]
            simp only [SVR]
            refine ⟨f1, hl, ⟨_, rfl⟩, fun k' hk' => ?_⟩
            rw [hφ] at hk'
            cases hk'
            exact ⟨g, hg, h0, hlt, by rw [Nat.add_assoc]⟩
        · cases hs
      · rename_i s ks e i o hsz hxe
        rw [hxe] at hx
        cases hs
        refine ⟨rfl, rfl, ?_⟩
        simp only [SVR] at hx
        obtain ⟨f1, f2, xs, ad, h1, h2, h3, h4, hv⟩ := hx
        rw [hv]
        refine ⟨.pointer (some ((⟨ad.block, ad.off + (i.den ρ).i.toNat * ks.length + o, none⟩ : Addr).add fd.offset)), ?_, ?_⟩
        · simp [Instr.fieldAt, run_underlying hu, hf, Instr.sureAddr, fieldPlace, run_size hsz]
        · rw [add_none]
          simp only [SVR]
          exact ⟨f1, f2, xs, ad, h1, h2, h3, h4, by rw [Nat.add_assoc]⟩
      · cases hs
    · cases hs
  · cases hs

theorem solid_cell {s : SV} {v : Value} (hs : SVR w X φ ρ nx s v) (hc : solid s = true) : v.cells = #[v] ∧ v.oneCell' = true := by
  cases s with
  | ex k e =>
    cases k <;> simp only [SVR, RV] at hs
    · obtain ⟨_, _, _, rfl⟩ := hs; exact ⟨rfl, rfl⟩
    · obtain ⟨_, _, _, rfl⟩ := hs; exact ⟨rfl, rfl⟩
    · obtain ⟨_, _, _, rfl⟩ := hs; exact ⟨rfl, rfl⟩
    · obtain ⟨_, hs⟩ := hs
      refine ⟨?_, hs⟩
      cases v <;> first | rfl | cases hs
    · obtain ⟨_, _, _, _, _, rfl, _⟩ := hs; exact ⟨rfl, rfl⟩
  | nilS => simp only [SVR] at hs; subst hs; exact ⟨rfl, rfl⟩
  | nilP => simp only [SVR] at hs; subst hs; exact ⟨rfl, rfl⟩
  | ptr l i o => simp only [SVR] at hs; obtain ⟨_, _, ⟨_, rfl⟩, _⟩ := hs; exact ⟨rfl, rfl⟩
  | rptr ks e i o => simp only [SVR] at hs; obtain ⟨_, _, _, _, _, _, _, _, rfl⟩ := hs; exact ⟨rfl, rfl⟩
  | own l p =>
    cases p with
    | none => simp only [SVR] at hs; obtain ⟨_, ⟨_, _, _, rfl⟩, _⟩ := hs; exact ⟨rfl, rfl⟩
    | some q => obtain ⟨lo, n⟩ := q; simp only [SVR] at hs; obtain ⟨_, _, _, ⟨_, _, _, rfl⟩, _⟩ := hs; exact ⟨rfl, rfl⟩
  | fn f caps => simp only [SVR] at hs; obtain ⟨_, rfl, _⟩ := hs; exact ⟨rfl, rfl⟩
  | mp l => simp only [SVR] at hs; obtain ⟨_, ⟨_, rfl⟩, _⟩ := hs; exact ⟨rfl, rfl⟩
  | _ => simp [solid] at hc

/-- A value's cells, each told. -/
theorem cellsOfSV_sound {s : SV} {v : Value} {l : List SV} (hs : SVR w X φ ρ nx s v) (hc : cellsOfSV s = some l) : SVRs w X φ ρ nx l v.cells.toList ∧ l.all solid = true := by
  unfold cellsOfSV at hc
  split at hc
  · split at hc
    · rename_i hall
      cases hc
      simp only [SVR] at hs
      obtain ⟨cs, rfl, hl⟩ := hs
      exact ⟨hl, hall⟩
    · cases hc
  · split at hc
    · rename_i hsol
      cases hc
      rw [(solid_cell hs hsol).1]
      exact ⟨by simp only [SVRs]; exact ⟨v, [], rfl, hs, rfl⟩, by simp [hsol]⟩
    · cases hc

theorem solid_cells : ∀ {l : List SV} {vs : List Value}, SVRs w X φ ρ nx l vs → l.all solid = true → ∀ v ∈ vs, v.oneCell' = true
  | [], vs, h, _, v, hv => by simp only [SVRs] at h; subst h; cases hv
  | s :: r, vs, h, hs, v, hv => by
    simp only [SVRs] at h
    obtain ⟨u, vs', rfl, h1, h2⟩ := h
    simp only [List.all_cons, Bool.and_eq_true] at hs
    rcases List.mem_cons.1 hv with rfl | hv
    · exact (solid_cell h1 hs.1).2
    · exact solid_cells h2 hs.2 v hv

end

end Go.Proofs.Ytpaabecgngbjcaa.Sx
set_option linter.unusedVariables false
namespace Go.Proofs.Ytpaabecgngbjcaa.Sx
open Go.RowKit

section
variable {P : Program} {X : Env} {W0 : World} {φ : Names} {ρ : List PV} {σ : St} {a : Act} {fs : List Act} {w : World} {nx : Nat}

/-- An operation that leaves memory as it is. -/
def Pure1 (P : Program) (w : World) (X : Env) (φ : Names) (ρ : List PV) (nx : Nat) (a : Act) (o : Oper) (gs : List Ex) (sv : SV) : Prop :=
  (∀ g ∈ gs, g.fits ρ.length = true) ∧ ((∀ g ∈ gs, (g.den ρ).b = true) → ∃ v, (execOp a.eval o).run P w = .ok (.value v) w ∧ SVR w X φ ρ nx sv v)

theorem pure1_of {o : Oper} {s : Sem Value} (he : execOp a.eval o = (do pure (Next.value (← s)))) {gs : List Ex} {sv : SV} (hf : ∀ g ∈ gs, g.fits ρ.length = true)
    (h : (∀ g ∈ gs, (g.den ρ).b = true) → ∃ v, s.run P w = .ok v w ∧ SVR w X φ ρ nx sv v) : Pure1 P w X φ ρ nx a o gs sv := by
  refine ⟨hf, fun hg => ?_⟩
  obtain ⟨v, hr, hv⟩ := h hg
  refine ⟨v, ?_, hv⟩
  rw [he, Sem.run_bind, hr]
  rfl

theorem selCells_sound {c : Ex} {b : Bool} {x y sv : SV} {vx vy : Value} (hc : c.fits ρ.length = true) (hb : (c.den ρ).b = b) (fx : x.fits ρ.length nx = true) (fy : y.fits ρ.length nx = true)
    (hx : b = true → SVR w X φ ρ nx x vx) (hy : b = false → SVR w X φ ρ nx y vy) (hs : selCells c x y = some sv) : SVR w X φ ρ nx sv (if b then vx else vy) := by
  unfold selCells at hs
  split at hs
  · rename_i k a k' a'
    split at hs
    · rename_i hk
      have := LK.same_eq _ _ hk
      subst this
      simp only [SV.fits] at fx fy
      split at hs
      · cases hs
        refine (?_ : SVR w X φ ρ nx (.ex .bool (.mk2 .and c a)) _)
        cases b with
        | true =>
          obtain ⟨_, z, dz, rfl⟩ := svr_bool (hx rfl)
          refine bool_svr (Ex.fits_mk2 hc fx) ?_
          rw [Ex.den_mk2, dz]
          show PV.bool ((c.den ρ).b && z) = _
          rw [hb, Bool.true_and]
        | false =>
          obtain ⟨_, z, dz, rfl⟩ := svr_bool (hy rfl)
          simp only [Ex.den, PV.bool.injEq] at dz
          subst dz
          refine bool_svr (Ex.fits_mk2 hc fx) ?_
          rw [Ex.den_mk2]
          show PV.bool ((c.den ρ).b && _) = _
          rw [hb, Bool.false_and]
      · cases hs
        cases b with
        | true =>
          obtain ⟨_, z, dz, rfl⟩ := svr_bool (hx rfl)
          simp only [Ex.den, PV.bool.injEq] at dz
          subst dz
          refine bool_svr (Ex.fits_mk2 hc fy) ?_
          rw [Ex.den_mk2]
          show PV.bool ((c.den ρ).b || _) = _
          rw [hb, Bool.true_or]
        | false =>
          obtain ⟨_, z, dz, rfl⟩ := svr_bool (hy rfl)
          refine bool_svr (Ex.fits_mk2 hc fy) ?_
          rw [Ex.den_mk2, dz]
          show PV.bool ((c.den ρ).b || z) = _
          rw [hb, Bool.false_or]
      · cases hs
        cases b with
        | true =>
          have := hx rfl
          simp only [SVR] at this ⊢
          refine ⟨by simp [Ex.fits, hc, fx, fy], ?_⟩
          simp only [Ex.den, TO.on, hb, if_true]
          exact this.2
        | false =>
          have := hy rfl
          simp only [SVR] at this ⊢
          refine ⟨by simp [Ex.fits, hc, fx, fy], ?_⟩
          simp only [Ex.den, TO.on, hb, if_false, Bool.false_eq_true]
          exact this.2
    · cases hs
  · cases hs

theorem fold_set (off : Nat) : ∀ (l : List Value) (k : Nat) (vs : Array Value), off + k + l.length ≤ vs.size →
    ((l.zipIdx k).foldl (fun (cs : Array Value) (p : Value × Nat) => cs.setIfInBounds (off + p.2) p.1) vs).toList = vs.toList.take (off + k) ++ l ++ vs.toList.drop (off + k + l.length)
  | [], k, vs, _ => by simp
  | v :: r, k, vs, h => by
    simp only [List.length_cons] at h
    rw [List.zipIdx_cons, List.foldl_cons, fold_set off r (k + 1) _ (by simp; omega)]
    have h1 : (vs.setIfInBounds (off + k) v).toList = vs.toList.set (off + k) v := by simp
    rw [h1]
    have h2 : off + k < vs.toList.length := by simp; omega
    rw [← Nat.add_assoc, List.take_succ_eq_append_getElem (by simpa using h2), List.getElem_set_self, List.take_set_of_le (Nat.le_refl _), List.drop_set_of_lt (by omega)]
    simp only [List.append_assoc, List.cons_append, List.nil_append, List.length_cons]
    rw [show off + k + 1 + r.length = off + k + (r.length + 1) by omega]

/-- Fields, or elements, that are put in. -/
theorem fill_sound {place : Nat → Option (Nat × Nat)} {ev : Operand → SV} {rv : Operand → Value} (hev : ∀ x, SVR w X φ ρ nx (ev x) (rv x)) :
    ∀ (ps : List (Nat × Operand)) (cs cs' : List SV) (vs : Array Value), SVRs w X φ ρ nx cs vs.toList → fillSV place ev ps cs = some cs' →
      ∃ vs', Instr.fill place vs (ps.map fun p => (p.1, rv p.2)) = some vs' ∧ SVRs w X φ ρ nx cs' vs'.toList ∧ (cs.all solid = true → cs'.all solid = true) ∧ cs'.length = cs.length
  | [], cs, cs', vs, h, hf => by simp only [fillSV, Option.some.injEq] at hf; subst hf; exact ⟨vs, rfl, h, id, rfl⟩
  | (i, x) :: ps, cs, cs', vs, h, hf => by
    simp only [fillSV] at hf
    split at hf
    · rename_i off s ws hp hcs
      split at hf
      · rename_i hc
        simp only [Bool.and_eq_true, beq_iff_eq, decide_eq_true_eq] at hc
        obtain ⟨rfl, hle⟩ := hc
        obtain ⟨h1, hs1⟩ := cellsOfSV_sound (hev x) hcs
        have hl1 := h1.length
        have hl := h.length
        have hsz : (rv x).cells.size = ws.length := by simpa using hl1
        have hv : vs.size = cs.length := by simpa using hl
        have hfold : ((rv x).cells.zipIdx.foldl (fun cs (c, j) => cs.setIfInBounds (off + j) c) vs).toList = splice vs.toList off (rv x).cells.toList := by
          rw [← Array.foldl_toList, Array.toList_zipIdx]
          have := fold_set off (rv x).cells.toList 0 vs (by simp only [Nat.add_zero, Array.length_toList]; omega)
          simp only [Nat.add_zero] at this
          exact this
        have hnew : SVRs w X φ ρ nx (splice cs off ws) ((rv x).cells.zipIdx.foldl (fun cs (c, j) => cs.setIfInBounds (off + j) c) vs).toList := by
          rw [hfold]
          unfold splice
          rw [hl1]
          exact ((h.take off).append h1).append (h.drop _)
        have hsp : (splice cs off ws).length = cs.length := by unfold splice; simp; omega
        obtain ⟨vs', hf', hr, hsr, hlen⟩ := fill_sound hev ps _ cs' _ hnew hf
        refine ⟨vs', ?_, hr, fun hsol => hsr ?_, by omega⟩
        · simp only [List.map_cons, Instr.fill, hp]
          rw [if_neg]
          · exact hf'
          · simp only [ne_eq, Bool.or_eq_true, decide_eq_true_eq, not_or, Decidable.not_not, hsz]
            exact ⟨by simp, by omega⟩
        · unfold splice
          simp only [List.all_append, Bool.and_eq_true]
          refine ⟨⟨?_, hs1⟩, ?_⟩
          · rw [List.all_eq_true] at hsol ⊢; exact fun x hx => hsol x (List.mem_of_mem_take hx)
          · rw [List.all_eq_true] at hsol ⊢; exact fun x hx => hsol x (List.mem_of_mem_drop hx)
      · cases hf
    · cases hf

theorem ofCell_ne (v : Value) (l : List SV) : ofCell v ≠ .agg l := by
  unfold ofCell
  split <;> (try split) <;> simp

theorem zero_sound {t : TypeId} {l : List SV} (h : zeroOf P t = some l) : ∃ z i, P.info? t = some i ∧ i.zero = some z ∧ (zeroValue t).run P w = .ok z w ∧ SVRs w X φ ρ nx l z.cells.toList := by
  unfold zeroOf at h
  simp only [Option.map_eq_some_iff, Option.bind_eq_some_iff] at h
  obtain ⟨z, ⟨i, hi, hz⟩, rfl⟩ := h
  refine ⟨z, i, hi, hz, by simp [zeroValue, run_type hi, hz], ?_⟩
  have hv := ofValue_sound (W := w) (X := X) (φ := φ) (ρ := ρ) (nx := nx) z
  cases z with
  | agg cs => simp only [ofValue] at hv ⊢; simp only [SVR] at hv; obtain ⟨cs', hc, hl⟩ := hv; cases hc; exact hl
  | _ =>
    have hc : ∀ s, ofValue _ = s → SVRs w X φ ρ nx [s] [_] := fun s hs => by simp only [SVRs]; exact ⟨_, [], rfl, hs ▸ hv, rfl⟩
    simp only [Value.cells]
    split
    · rename_i l hl
      simp only [ofValue] at hl
      exact (ofCell_ne _ _ hl).elim
    · exact hc _ rfl

theorem run_places (P : Program) (w : World) : ∀ (l : List Field), (l.all fun f => (szOf P f.type).isSome) = true →
    (l.mapM (fun f => do pure (f.offset, ← sizeOf f.type) : Field → Sem (Nat × Nat))).run P w = .ok (l.map fun f => (f.offset, (szOf P f.type).getD 0)) w
  | [], _ => by simp
  | f :: r, h => by
    simp only [List.all_cons, Bool.and_eq_true] at h
    obtain ⟨s, hs⟩ := Option.isSome_iff_exists.1 h.1
    rw [List.mapM_cons]
    simp only [Sem.run_bind, run_size hs, Result.andThen_ok, Sem.run_pure, run_places P w r h.2, List.map_cons, hs, Option.getD_some]

theorem build_sound (h : Rel X W0 φ ρ σ (a :: fs) w) {t : TypeId} {parts : Array (Nat × Operand)} {gs : List Ex} {sv : SV} {σ' : St} (hs : simple P σ (.build t parts) = some (gs, sv, σ')) :
    σ' = σ ∧ gs = [] ∧ ∃ v, (Instr.build t (parts.map fun (i, x) => (i, a.eval x))).run P w = .ok v w ∧ SVR w X φ ρ σ.nx sv v := by
  simp only [simple] at hs
  have hparts : (parts.map fun (i, x) => (i, a.eval x)).toList = parts.toList.map fun p => (p.1, a.eval p.2) := by simp
  split at hs
  · rename_i z fds hz hu
    split at hs
    · rename_i hall
      simp only [Option.map_eq_some_iff, Prod.mk.injEq] at hs
      obtain ⟨cs, hf, rfl, rfl, rfl⟩ := hs
      obtain ⟨zv, i, hi, hzi, hrun, hzs⟩ := zero_sound (w := w) (X := X) (φ := φ) (ρ := ρ) (nx := σ.nx) hz
      obtain ⟨vs', hf', hr, _, _⟩ := fill_sound (fun x => h.ev x) _ _ _ _ hzs hf
      refine ⟨rfl, rfl, .agg vs', ?_, by simp only [SVR]; exact ⟨_, rfl, hr⟩⟩
      have hpl := run_places P w fds.toList (by simpa using hall)
      have hplace : (fun i => (fds.toList.map fun f => (f.offset, (szOf P f.type).getD 0)).toArray[i]?) = fun (i : Nat) => (fds[i]?).map fun (f : Field) => (f.offset, (szOf P f.type).getD 0) := by
        funext i; simp
      simp only [Instr.build, Sem.run_bind, hrun, Result.andThen_ok, run_underlying hu, Array.mapM_eq_mapM_toList, Sem.run_map, hpl, hplace, hparts, hf']
      rfl
    · cases hs
  · rename_i z n e hz hu
    split at hs
    · rename_i s hsz
      simp only [Option.map_eq_some_iff, Prod.mk.injEq] at hs
      obtain ⟨cs, hf, rfl, rfl, rfl⟩ := hs
      obtain ⟨zv, i, hi, hzi, hrun, hzs⟩ := zero_sound (w := w) (X := X) (φ := φ) (ρ := ρ) (nx := σ.nx) hz
      obtain ⟨vs', hf', hr, _, _⟩ := fill_sound (fun x => h.ev x) _ _ _ _ hzs hf
      refine ⟨rfl, rfl, .agg vs', ?_, by simp only [SVR]; exact ⟨_, rfl, hr⟩⟩
      simp only [Instr.build, Sem.run_bind, hrun, Result.andThen_ok, run_underlying hu, run_size hsz, hparts, hf']
      rfl
    · cases hs
  · cases hs

/-- A bound of a slice. -/
theorem bnd_sound (h : Rel X W0 φ ρ σ (a :: fs) w) {o : Option Operand} {d e : Ex} (hb : bndSV σ.ev o d = some e) : (o = none ∧ e = d) ∨ ∃ x k n, o = some x ∧ e.fits ρ.length = true ∧ e.den ρ = .int k n ∧ a.eval x = .int k n := by
  cases o with
  | none => simp only [bndSV, Option.some.injEq] at hb; exact .inl ⟨rfl, hb.symm⟩
  | some x =>
    simp only [bndSV] at hb
    split at hb
    · rename_i k e' he
      cases hb
      have hx := h.ev x
      rw [he] at hx
      obtain ⟨f, n, d, hv⟩ := svr_int hx
      exact .inr ⟨x, k, n, rfl, f, d, hv⟩
    · cases hb

theorem run_bounds (h : Rel X W0 φ ρ σ (a :: fs) w) {lo hi : Option Operand} {l r : Ex} {n cap : Nat} {d : Ex} (hd : d.den ρ = .int .i64 n) (hdf : d.fits ρ.length = true) (hl : bndSV σ.ev lo i0 = some l) (hr : bndSV σ.ev hi d = some r)
    (h0 : 0 ≤ (l.den ρ).i) (h1 : (l.den ρ).i ≤ (r.den ρ).i) (h2 : (r.den ρ).i ≤ n) (hcap : n ≤ cap) :
    (Instr.sliceBounds true n cap (lo.map a.eval) (hi.map a.eval) none).run P w = .ok ((l.den ρ).i.toNat, (r.den ρ).i.toNat, cap) w ∧ l.fits ρ.length = true ∧ r.fits ρ.length = true := by
  rcases bnd_sound h hl with ⟨rfl, rfl⟩ | ⟨x, k, m, rfl, f, dm, hv⟩
  · rcases bnd_sound h hr with ⟨rfl, rfl⟩ | ⟨x', k', m', rfl, f', dm', hv'⟩
    · refine ⟨?_, rfl, hdf⟩
      simp [Instr.sliceBounds, hd, PV.i, i0, Ex.den]
    · refine ⟨?_, rfl, f'⟩
      have hm : (r.den ρ).i = m' := by rw [dm']; rfl
      rw [hm] at h2 h1 ⊢
      have h1' : 0 ≤ m' := h1
      have h3 : m' ≤ (cap : Int) := by omega
      simp [Instr.sliceBounds, Instr.sliceBound, asIntOf, hv', h1', h3, i0, Ex.den, PV.i]
  · have hml : (l.den ρ).i = m := by rw [dm]; rfl
    rw [hml] at h0 h1 ⊢
    rcases bnd_sound h hr with ⟨rfl, rfl⟩ | ⟨x', k', m', rfl, f', dm', hv'⟩
    · refine ⟨?_, f, hdf⟩
      have hm : (r.den ρ).i = n := by rw [hd]; rfl
      rw [hm] at h1 ⊢
      simp [Instr.sliceBounds, Instr.sliceBound, asIntOf, hv, h0, h1]
    · refine ⟨?_, f, f'⟩
      have hm : (r.den ρ).i = m' := by rw [dm']; rfl
      rw [hm] at h2 h1 ⊢
      have h1' : 0 ≤ m' := by omega
      have h3 : m' ≤ (cap : Int) := by omega
      have h4 : m ≤ (m'.toNat : Int) := by omega
      have h5 : ((m'.toNat : Nat) : Int) = m' := by omega
      simp only [Instr.sliceBounds, Instr.sliceBound, asIntOf, hv, hv', Option.map_some, Sem.run_bind, Sem.run_pure, Result.andThen_ok, h1', h3, and_self, if_true, h5, h0, h1]

theorem i_int (k : IntKind) (n : Int) : (PV.int k n).i = n := rfl

theorem slice_sound (h : Rel X W0 φ ρ σ (a :: fs) w) {t : TypeId} {x : Operand} {lo hi : Option Operand} {gs : List Ex} {sv : SV} {σ' : St} (hs : simple P σ (.slice t x lo hi none) = some (gs, sv, σ')) :
    σ' = σ ∧ (∀ g ∈ gs, g.fits ρ.length = true) ∧ ((∀ g ∈ gs, (g.den ρ).b = true) → ∃ v, (Instr.sliceAt t (a.eval x) (lo.map a.eval) (hi.map a.eval) none).run P w = .ok v w ∧ SVR w X φ ρ σ.nx sv v) := by
  have hx := h.ev x
  simp only [simple] at hs
  split at hs
  · rename_i el hu
    have fit3 : ∀ {l r d : Ex}, bndSV σ.ev lo i0 = some l → bndSV σ.ev hi d = some r → d.fits ρ.length = true → l.fits ρ.length = true ∧ r.fits ρ.length = true := by
      intro l r d h1 h2 hd
      refine ⟨?_, ?_⟩
      · rcases bnd_sound h h1 with ⟨_, rfl⟩ | ⟨_, _, _, _, f, _⟩
        · rfl
        · exact f
      · rcases bnd_sound h h2 with ⟨_, rfl⟩ | ⟨_, _, _, _, f, _⟩
        · exact hd
        · exact f
    have gfits : ∀ {l r d : Ex}, l.fits ρ.length = true → r.fits ρ.length = true → d.fits ρ.length = true → ∀ g ∈ [Ex.mk2 (.cmp .leq) i0 l, .mk2 (.cmp .leq) l r, .mk2 (.cmp .leq) r d], g.fits ρ.length = true := by
      intro l r d hl hr hd g hg
      simp only [List.mem_cons, List.not_mem_nil, or_false] at hg
      rcases hg with rfl | rfl | rfl
      · exact Ex.fits_mk2 rfl hl
      · exact Ex.fits_mk2 hl hr
      · exact Ex.fits_mk2 hr hd
    have gden : ∀ {l r d : Ex} {n : Nat}, d.den ρ = .int .i64 n → (∀ g ∈ [Ex.mk2 (.cmp .leq) i0 l, .mk2 (.cmp .leq) l r, .mk2 (.cmp .leq) r d], (g.den ρ).b = true) → 0 ≤ (l.den ρ).i ∧ (l.den ρ).i ≤ (r.den ρ).i ∧ (r.den ρ).i ≤ n := by
      intro l r d n hd hg
      have h1 := hg _ (by simp : Ex.mk2 (.cmp .leq) i0 l ∈ _)
      have h2 := hg (.mk2 (.cmp .leq) l r) (by simp)
      have h3 := hg (.mk2 (.cmp .leq) r d) (by simp)
      rw [Ex.den_mk2] at h1 h2 h3
      rw [hd] at h3
      exact ⟨of_decide_eq_true h1, of_decide_eq_true h2, of_decide_eq_true h3⟩
    have dminus : ∀ {l r : Ex}, (Ex.mk2 .minus r l).den ρ = .int .i64 ((r.den ρ).i - (l.den ρ).i) := by intro l r; rw [Ex.den_mk2]; rfl
    split at hs
    · rename_i ks e hxe
      rw [hxe] at hx
      split at hs
      · rename_i hsz
        split at hs
        · rename_i l r hl hr
          simp only [Option.some.injEq, Prod.mk.injEq] at hs
          obtain ⟨rfl, rfl, rfl⟩ := hs
          obtain ⟨fe, xs, ao, cap, dx, hv, hc, hne⟩ := row_at hx
          have hd := den_len dx
          obtain ⟨fl, fr⟩ := fit3 hl hr (Ex.fits_mk1 fe)
          refine ⟨rfl, gfits fl fr (Ex.fits_mk1 fe), fun hg => ?_⟩
          obtain ⟨g0, g1, g2⟩ := gden hd hg
          obtain ⟨hb, _, _⟩ := run_bounds (P := P) h hd (Ex.fits_mk1 fe) hl hr g0 g1 g2 hc
          have hsz' := eq_of_beq hsz
          refine ⟨.slice (if cap = (l.den ρ).i.toNat then ao else ao.map (·.add ((l.den ρ).i.toNat * ks.length))) ((r.den ρ).i.toNat - (l.den ρ).i.toNat) (cap - (l.den ρ).i.toNat), ?_, ?_⟩
          · simp only [Instr.sliceAt, Sem.run_bind, run_underlying hu, Result.andThen_ok, Instr.slice, hv, hb, run_size hsz']
            rfl
          · simp only [SVR, RV]
            refine ⟨by simp only [Ex.fits, fe, fl, Ex.fits_mk2 fr fl, Bool.and_self], ?_⟩
            have hden : (Ex.tri .slice e l (.mk2 .minus r l)).den ρ = .row ((xs.drop (l.den ρ).i.toNat).take ((r.den ρ).i.toNat - (l.den ρ).i.toNat)) := by
              simp only [Ex.den, TO.on, dx, PV.r, dminus, i_int]
              congr 2
              omega
            have hlen : ((xs.drop (l.den ρ).i.toNat).take ((r.den ρ).i.toNat - (l.den ρ).i.toNat)).length = (r.den ρ).i.toNat - (l.den ρ).i.toNat := by simp; omega
            refine ⟨_, _, _, hden, by rw [hlen], by omega, fun hn => ?_⟩
            have hpos : 0 < (r.den ρ).i.toNat - (l.den ρ).i.toNat := by
              rcases Nat.eq_zero_or_pos ((r.den ρ).i.toNat - (l.den ρ).i.toNat) with hz | hz
              · rw [hz] at hn; simp at hn
              · exact hz
            obtain ⟨ad, rfl, hsp, hu', hblt, hrows⟩ := hne (by intro hz; rw [hz] at hn; simp at hn)
            rw [if_neg (by omega)]
            obtain ⟨b, off, sp⟩ := ad
            simp only at hsp hu' hblt hrows
            subst hsp
            refine ⟨⟨b, off + (l.den ρ).i.toNat * ks.length, none⟩, by simp only [Option.map_some, add_none], rfl, hu', hblt, fun i y hiy => ?_⟩
            have hil : i < (r.den ρ).i.toNat - (l.den ρ).i.toNat := by have := (List.getElem?_eq_some_iff.1 hiy).1; omega
            rw [List.getElem?_take_of_lt hil, List.getElem?_drop] at hiy
            obtain ⟨vs, hvs, hcell⟩ := hrows _ y hiy
            refine ⟨vs, hvs, fun j u hj => ?_⟩
            dsimp only
            rw [← hcell j u hj, Nat.add_mul]
            congr 2
            omega
        · cases hs
      · cases hs
    · rename_i ln hxe
      rw [hxe] at hx
      split at hs
      · rename_i ks e hlk
        split at hs
        · rename_i hsz
          split at hs
          · rename_i l r hl hr
            simp only [Option.some.injEq, Prod.mk.injEq] at hs
            obtain ⟨rfl, rfl, rfl⟩ := hs
            obtain ⟨kk, hφ, ho⟩ := h.heap ln _ hlk
            simp only [ObR] at ho
            obtain ⟨fe, hks, xs, dx, hlen, hm⟩ := ho
            have hd := den_len dx
            obtain ⟨fl, fr⟩ := fit3 hl hr (Ex.fits_mk1 fe)
            refine ⟨rfl, gfits fl fr (Ex.fits_mk1 fe), fun hg => ?_⟩
            obtain ⟨g0, g1, g2⟩ := gden hd hg
            simp only [SVR] at hx
            obtain ⟨hlt, _, hat'⟩ := hx
            have hown := hat' kk hφ
            have hsz' := eq_of_beq hsz
            have hcap : ∃ ao cap, a.eval x = .slice ao kk.len cap ∧ kk.len ≤ cap ∧ (0 < kk.len → ∃ g, kk.g = some g ∧ ao = some ⟨g, 0, none⟩) := by
              unfold OwnAt at hown
              cases hgg : kk.g with
              | none => rw [hgg] at hown; simp only at hown; exact ⟨none, 0, by rw [hown.1]; exact hown.2, by omega, fun hp => by omega⟩
              | some g => rw [hgg] at hown; simp only at hown; obtain ⟨cap, c, hv, hc, hle, _⟩ := hown; exact ⟨_, cap, hv, hle, fun _ => ⟨g, rfl, rfl⟩⟩
            obtain ⟨ao, cap, hv, hc, hao⟩ := hcap
            obtain ⟨hb, _, _⟩ := run_bounds (P := P) (n := kk.len) h (by rw [hd, hlen]) (Ex.fits_mk1 fe) hl hr g0 g1 (by omega) hc
            refine ⟨.slice (if cap = (l.den ρ).i.toNat then ao else ao.map (·.add ((l.den ρ).i.toNat * ks.length))) ((r.den ρ).i.toNat - (l.den ρ).i.toNat) (cap - (l.den ρ).i.toNat), ?_, ?_⟩
            · simp only [Instr.sliceAt, Sem.run_bind, run_underlying hu, Result.andThen_ok, Instr.slice, hv, hb, run_size hsz']
              rfl
            · simp only [SVR]
              refine ⟨fl, Ex.fits_mk2 fr fl, hlt, ⟨_, _, _, rfl⟩, fun k' hk' => ?_⟩
              rw [hφ] at hk'
              cases hk'
              rw [dminus]
              simp only [i_int]
              have htn : ((r.den ρ).i - (l.den ρ).i).toNat = (r.den ρ).i.toNat - (l.den ρ).i.toNat := by omega
              rw [htn]
              refine ⟨g0, by omega, by omega, ⟨_, rfl⟩, _, _, rfl, by omega, fun hpos => ?_⟩
              obtain ⟨g, hg', rfl⟩ := hao (by omega)
              refine ⟨g, hg', ?_⟩
              rw [if_neg (by omega)]
              simp only [Option.map_some, add_none, hks, Nat.zero_add]
          · cases hs
        · cases hs
      · cases hs
    · cases hs
  · cases hs

theorem foldMM_sound {mx : Bool} {k : IntKind} : ∀ (l : List SV) (e r : Ex) (n : Int) (vs : List Value), e.fits ρ.length = true → e.den ρ = .int k n → SVRs w X φ ρ nx l vs → foldMM mx k e l = some r →
    ∃ m, r.fits ρ.length = true ∧ r.den ρ = .int k m ∧ (List.foldlM (if mx then Builtin.max2 else Builtin.min2) (.int k n) vs).run P w = .ok (.int k m) w
  | [], e, r, n, vs, hf, hd, h, hs => by
    simp only [foldMM, Option.some.injEq] at hs
    subst hs
    simp only [SVRs] at h
    subst h
    exact ⟨n, hf, hd, rfl⟩
  | s :: l, e, r, n, vs, hf, hd, h, hs => by
    cases s with
    | ex κ b =>
      cases κ with
      | int k' =>
        simp only [foldMM] at hs
        split at hs
        · rename_i hk
          have := eq_of_beq hk
          subst this
          simp only [SVRs] at h
          obtain ⟨v, vs', rfl, h1, h2⟩ := h
          obtain ⟨fb, m, dm, rfl⟩ := svr_int h1
          have hd' : (Ex.mk2 (if mx then BO.max k else .min k) e b).den ρ = .int k (if mx then (if m > n then m else n) else (if m < n then m else n)) := by
            rw [Ex.den_mk2, hd, dm]
            cases mx <;> rfl
          obtain ⟨z, hz1, hz2, hz3⟩ := foldMM_sound l _ r _ vs' (Ex.fits_mk2 hf fb) hd' h2 hs
          refine ⟨z, hz1, hz2, ?_⟩
          rw [List.foldlM_cons, Sem.run_bind]
          cases mx
          · simp only [Bool.false_eq_true, if_false, Builtin.min2, Sem.run_pure, Result.andThen_ok] at hz3 ⊢
            exact hz3
          · simp only [if_true, Builtin.max2, Sem.run_pure, Result.andThen_ok] at hz3 ⊢
            exact hz3
        · cases hs
      | _ => simp [foldMM] at hs
    | _ => simp [foldMM] at hs

theorem lenOf_sound (h : Rel X W0 φ ρ σ fs w) {s : SV} {v : Value} {e : Ex} (hs : SVR w X φ ρ σ.nx s v) (hl : lenOf σ s = some e) : e.fits ρ.length = true ∧ ∃ a n c, v = .slice a n c ∧ e.den ρ = .int .i64 n := by
  cases s with
  | ex k x =>
    cases k with
    | row ks =>
      simp only [lenOf, Option.some.injEq] at hl
      subst hl
      obtain ⟨fe, xs, a, cap, dx, hv, _, _⟩ := row_at hs
      exact ⟨Ex.fits_mk1 fe, a, xs.length, cap, hv, den_len dx⟩
    | _ => simp [lenOf] at hl
  | nilS =>
    simp only [lenOf, Option.some.injEq] at hl
    subst hl
    simp only [SVR] at hs
    exact ⟨rfl, none, 0, 0, hs, rfl⟩
  | own l p =>
    simp only [lenOf] at hl
    split at hl
    · rename_i ks x hlk
      cases hl
      obtain ⟨kk, hφ, ho⟩ := h.heap l _ hlk
      simp only [ObR] at ho
      obtain ⟨fe, _, xs, dx, hlen, _⟩ := ho
      simp only [SVR] at hs
      have := hs.2.2 kk hφ
      unfold OwnAt at this
      refine ⟨Ex.fits_mk1 fe, ?_⟩
      cases hg : kk.g with
      | none =>
        rw [hg] at this
        simp only at this
        exact ⟨none, 0, 0, this.2, by rw [den_len dx, hlen, this.1]⟩
      | some g =>
        rw [hg] at this
        simp only at this
        obtain ⟨cap, c, hv, _⟩ := this
        exact ⟨_, _, _, hv, by rw [den_len dx, hlen]⟩
    · rename_i ks x lo n hlk
      cases hl
      obtain ⟨kk, hφ, ho⟩ := h.heap l _ hlk
      simp only [SVR] at hs
      obtain ⟨_, fn, _, _, hat⟩ := hs
      obtain ⟨_, h1, _, ⟨m, hm⟩, ad, cap, hv, _⟩ := hat kk hφ
      refine ⟨fn, ad, _, cap, hv, ?_⟩
      rw [hm] at h1 ⊢
      simp only [i_int] at h1 ⊢
      congr 1
      omega
    · cases hl
  | _ => simp [lenOf] at hl

theorem SVRs.evs (h : Rel X W0 φ ρ σ (a :: fs) w) : ∀ l : List Operand, SVRs w X φ ρ σ.nx (l.map σ.ev) (l.map a.eval)
  | [] => by simp [SVRs]
  | x :: r => by simp only [List.map_cons, SVRs]; exact ⟨_, _, rfl, h.ev x, SVRs.evs h r⟩

theorem run_builtin {b : Builtin} {args : Array Operand} {ts : Array TypeId} {o : Oper} (ho : o.op = .call { callee := .builtin b, args, argTypes := ts }) :
    ∃ consts, (execOp a.eval o) = (do let d ← (pure { target := .builtin b ts o.type consts, args := args.map a.eval } : Sem Deferred); invoke d.target d.args) := by
  refine ⟨args.map fun | .const _ => true | _ => false, ?_⟩
  unfold execOp
  rw [ho]
  rfl

/-- The operations that leave memory as it is. -/
theorem mapT_spec {t : TypeId} (h : mapT P t = true) : ∃ k e, P.underlying t = some (.map k e) ∧ P.underlying k = some (.int .i64) ∧ P.underlying e = some (.int .i64) ∧ ∀ w : World, (zeroValue e).run P w = .ok (.int .i64 0) w := by
  unfold mapT at h
  split at h
  · rename_i k e hu
    simp only [Bool.and_eq_true] at h
    obtain ⟨⟨h1, h2⟩, h3⟩ := h
    refine ⟨k, e, hu, ?_, ?_, fun w => ?_⟩
    · split at h1
      · assumption
      · cases h1
    · split at h2
      · assumption
      · cases h2
    · split at h3
      · rename_i hz
        rw [Option.bind_eq_some_iff] at hz
        obtain ⟨i, hi, hz⟩ := hz
        simp [zeroValue, run_type hi, hz]
      · cases h3
  · cases h

theorem wf_i64 {a : Int} (h1 : -9223372036854775808 ≤ a) (h2 : a ≤ 9223372036854775807) : Wf a := by
  show (Lit.int .i64 a).wf = true
  simp [Lit.wf, IntKind.min, IntKind.max, IntKind.signed, IntKind.bits]
  omega

theorem in64_sound {e : Ex} {a : Int} (he : e.den ρ = .int .i64 a) (h : ∀ g ∈ in64 e, (g.den ρ).b = true) : Wf a := by
  have h1 := h _ (List.mem_cons_self)
  have h2 := h _ (List.mem_cons_of_mem _ List.mem_cons_self)
  rw [Ex.den_mk2, he] at h1 h2
  exact wf_i64 (of_decide_eq_true h1) (of_decide_eq_true h2)

theorem in64_fits {e : Ex} {n : Nat} (he : e.fits n = true) : ∀ g ∈ in64 e, g.fits n = true := by
  intro g hg
  simp only [in64, List.mem_cons, List.not_mem_nil, or_false] at hg
  rcases hg with rfl | rfl
  · exact Ex.fits_mk2 rfl he
  · exact Ex.fits_mk2 he rfl

theorem pure_sound (h : Rel X W0 φ ρ σ (a :: fs) w) {o : Oper} (hp : pureOp o.op = true) {gs : List Ex} {sv : SV} {σ' : St} (hs : simple P σ o.op = some (gs, sv, σ')) : σ' = σ ∧ Pure1 P w X φ ρ σ.nx a o gs sv := by
  obtain ⟨dst, op, ty, pos, aft, gd⟩ := o
  simp only at hp hs
  cases op with
  | move x =>
    simp only [simple, Option.some.injEq, Prod.mk.injEq] at hs
    obtain ⟨rfl, rfl, rfl⟩ := hs
    exact ⟨rfl, List.forall_mem_nil _, fun _ => ⟨_, rfl, h.ev x⟩⟩
  | assign x =>
    simp only [simple, Option.some.injEq, Prod.mk.injEq] at hs
    obtain ⟨rfl, rfl, rfl⟩ := hs
    exact ⟨rfl, List.forall_mem_nil _, fun _ => ⟨_, rfl, h.ev x⟩⟩
  | pick c x y =>
    simp only [simple] at hs
    have hc := h.ev c
    split at hs
    · rename_i ce hce
      rw [hce] at hc
      obtain ⟨fc, b, dc, hv⟩ := svr_bool hc
      have hrun : ∀ z, (if b = true then a.eval x else a.eval y) = z → (execOp a.eval { dst, op := .pick c x y, type := ty, pos, after := aft, guard := gd }).run P w = .ok (.value z) w := by
        intro z hz
        simp [execOp, hv, asBool, hz]
      have hcb : (ce.den ρ).b = b := by rw [dc]; rfl
      split at hs
      · rename_i hk
        simp only [Option.some.injEq, Prod.mk.injEq] at hs
        obtain ⟨rfl, rfl, rfl⟩ := hs
        have : b = true := by rw [← hcb]; exact knownIs_sound h.known _ _ hk
        subst this
        exact ⟨rfl, List.forall_mem_nil _, fun _ => ⟨_, hrun _ rfl, h.ev x⟩⟩
      · rename_i hk
        simp only [Option.some.injEq, Prod.mk.injEq] at hs
        obtain ⟨rfl, rfl, rfl⟩ := hs
        have : b = false := by rw [← hcb]; exact knownIs_sound h.known _ _ hk
        subst this
        exact ⟨rfl, List.forall_mem_nil _, fun _ => ⟨_, hrun _ rfl, h.ev y⟩⟩
      · simp only [Option.map_eq_some_iff, Prod.mk.injEq] at hs
        obtain ⟨s, hsel, rfl, rfl, rfl⟩ := hs
        refine ⟨rfl, List.forall_mem_nil _, fun _ => ⟨_, hrun _ rfl, ?_⟩⟩
        refine selCells_sound (cond_fits _ _ fc) (by rw [cond_b, hcb]) (h.ev_fits x _) (h.ev_fits y _) (fun hb => ?_) (fun hb => ?_) hsel
        · exact (h.learn fc (hcb.trans hb)).ev x
        · exact (h.learn fc (hcb.trans hb)).ev y
    · cases hs
  | binOp op t x y yt =>
    simp only [simple, Option.map_eq_some_iff, Prod.mk.injEq] at hs
    obtain ⟨⟨gs0, sv0⟩, hb, rfl, rfl, rfl⟩ := hs
    obtain ⟨h1, h2⟩ := binary_sound (P := P) (ox := x) (oy := y) hb (h.ev x) (h.ev y)
    exact ⟨rfl, pure1_of rfl h1 h2⟩
  | unOp u t x =>
    have hx := h.ev x
    cases u with
    | not =>
      simp only [simple] at hs
      split at hs
      · rename_i e he
        rw [he] at hx
        simp only [Option.some.injEq, Prod.mk.injEq] at hs
        obtain ⟨rfl, rfl, rfl⟩ := hs
        obtain ⟨fe, b, de, hv⟩ := svr_bool hx
        refine ⟨rfl, pure1_of rfl (List.forall_mem_nil _) fun _ => ⟨.bool !b, by simp [hv, Op.unary], bool_svr (Ex.fits_mk1 fe) ?_⟩⟩
        rw [bnot, Ex.den_mk1, de]; rfl
      · cases hs
    | neg =>
      simp only [simple] at hs
      split at hs
      · rename_i k e he
        rw [he] at hx
        simp only [Option.some.injEq, Prod.mk.injEq] at hs
        obtain ⟨rfl, rfl, rfl⟩ := hs
        obtain ⟨fe, n, de, hv⟩ := svr_int hx
        refine ⟨rfl, pure1_of rfl (List.forall_mem_nil _) fun _ => ⟨.int k (k.wrap (0 - n)), by simp [hv, Op.unary, Op.intArith], int_svr (Ex.fits_mk1 fe) ?_⟩⟩
        rw [Ex.den_mk1, de]; rfl
      · cases hs
    | xor =>
      simp only [simple] at hs
      split at hs
      · rename_i k e he
        rw [he] at hx
        simp only [Option.some.injEq, Prod.mk.injEq] at hs
        obtain ⟨rfl, rfl, rfl⟩ := hs
        obtain ⟨fe, n, de, hv⟩ := svr_int hx
        refine ⟨rfl, pure1_of rfl (List.forall_mem_nil _) fun _ => ⟨.int k (arith .xor k (if k.signed then -1 else k.max) n), ?_, int_svr (Ex.fits_mk1 fe) ?_⟩⟩
        · simp [hv, Op.unary, Op.intBits, arith]
        · rw [Ex.den_mk1, de]; rfl
      · cases hs
    | plus => simp [simple] at hs
  | convert src dst' x =>
    have hx := h.ev x
    simp only [simple] at hs
    split at hs
    · rename_i hu1 hu2 he
      rw [he] at hx
      simp only [Option.some.injEq, Prod.mk.injEq] at hs
      obtain ⟨rfl, rfl, rfl⟩ := hs
      obtain ⟨fe, n, de, hv⟩ := svr_int hx
      refine ⟨rfl, pure1_of rfl (List.forall_mem_nil _) fun _ => ⟨_, ?_, int_svr (Ex.fits_mk1 fe) (by rw [Ex.den_mk1, de]; rfl)⟩⟩
      simp only [convert, Sem.run_bind, run_underlying hu1, run_underlying hu2, Result.andThen_ok, hv]
      rfl
    · rename_i hu1 hu2 he
      rw [he] at hx
      simp only [Option.some.injEq, Prod.mk.injEq] at hs
      obtain ⟨rfl, rfl, rfl⟩ := hs
      obtain ⟨fe, n, de, hv⟩ := svr_str hx
      refine ⟨rfl, pure1_of rfl (List.forall_mem_nil _) fun _ => ⟨_, ?_, hx⟩⟩
      simp only [convert, Sem.run_bind, run_underlying hu1, run_underlying hu2, Result.andThen_ok, hv]
      rfl
    · cases hs
  | extract x i =>
    have hx := h.ev x
    simp only [simple] at hs
    split at hs
    · rename_i l he
      rw [he] at hx
      simp only [Option.map_eq_some_iff, Prod.mk.injEq] at hs
      obtain ⟨s, hi, rfl, rfl, rfl⟩ := hs
      simp only [SVR] at hx
      obtain ⟨cs, hv, hl⟩ := hx
      obtain ⟨v, hvi, hr⟩ := hl.get i s hi
      refine ⟨rfl, pure1_of rfl (List.forall_mem_nil _) fun _ => ⟨v, ?_, hr⟩⟩
      have : cs[i]? = some v := by simpa using hvi
      simp [hv, Instr.extract, this]
    · cases hs
  | field t x f =>
    have hx := h.ev x
    simp only [simple] at hs
    split at hs
    · rename_i fds cs hu he
      rw [he] at hx
      rw [Option.bind_eq_some_iff] at hs
      obtain ⟨fd, hf, hs⟩ := hs
      simp only [Option.map_eq_some_iff, Prod.mk.injEq] at hs
      obtain ⟨s, hpt, rfl, rfl, rfl⟩ := hs
      simp only [SVR] at hx
      obtain ⟨vs, hv, hl⟩ := hx
      obtain ⟨v, hr, hvr⟩ := part_sound (P := P) hl hpt
      refine ⟨rfl, pure1_of rfl (List.forall_mem_nil _) fun _ => ⟨v, ?_, hvr⟩⟩
      simp [Instr.field, run_underlying hu, hf, hv, asAgg, hr]
    · cases hs
  | index t x i =>
    have hx := h.ev x
    have hi := h.ev i
    simp only [simple] at hs
    split at hs
    · rename_i n el cs k k' j hu he hie
      rw [he] at hx
      rw [hie] at hi
      split at hs
      · rename_i s hsz
        split at hs
        · rename_i hj
          simp only [Bool.and_eq_true, decide_eq_true_eq] at hj
          simp only [Option.map_eq_some_iff, Prod.mk.injEq] at hs
          obtain ⟨s', hpt, rfl, rfl, rfl⟩ := hs
          simp only [SVR] at hx
          obtain ⟨vs, hv, hl⟩ := hx
          obtain ⟨_, m, dm, hvi⟩ := svr_int hi
          simp only [Ex.den, PV.int.injEq] at dm
          obtain ⟨rfl, rfl⟩ := dm
          obtain ⟨v, hr, hvr⟩ := part_sound (P := P) hl hpt
          refine ⟨rfl, pure1_of rfl (List.forall_mem_nil _) fun _ => ⟨v, ?_, hvr⟩⟩
          simp [Instr.index, asIntOf, run_underlying hu, hvi, hv, hj.1, hj.2, run_size hsz, hr]
        · cases hs
      · cases hs
    · rename_i e k ie hu he hie
      rw [he] at hx
      rw [hie] at hi
      simp only [Option.some.injEq, Prod.mk.injEq] at hs
      obtain ⟨rfl, rfl, rfl⟩ := hs
      obtain ⟨fi, m, dm, hvi⟩ := svr_int hi
      have hx' := hx
      simp only [SVR, RV] at hx'
      obtain ⟨fe, s, de, hv⟩ := hx'
      refine ⟨rfl, inRange_fits fi (Ex.fits_mk1 fe), fun hg => ?_⟩
      obtain ⟨h0, h1⟩ := inRange_sound hg
      rw [Ex.den_mk1, de, dm] at h1
      rw [dm] at h0
      simp only [UO.on, PV.i, PV.s] at h0 h1
      have hlt : m.toNat < s.size := by omega
      have hget : s[m.toNat]? = some s[m.toNat] := getElem?_pos s m.toNat hlt
      refine ⟨.int .u8 (s[m.toNat]).toNat, ?_, ?_⟩
      · simp [execOp, Instr.index, asIntOf, run_underlying hu, hvi, hv, h0, hget]
      · simp only [SVR, RV, Ex.fits, Ex.den, BO.on, de, dm, PV.s, PV.i, hget, Option.map_some, Option.getD_some]
        exact ⟨by simp [fe, fi], _, rfl, rfl⟩
    · cases hs
  | fieldAddr t x f =>
    obtain ⟨rfl, rfl, v, hr, hv⟩ := fieldAddr_sound h hs
    exact ⟨rfl, pure1_of rfl (List.forall_mem_nil _) fun _ => ⟨v, hr, hv⟩⟩
  | indexAddr t x i =>
    obtain ⟨rfl, h1, h2⟩ := indexAddr_sound h hs
    exact ⟨rfl, pure1_of rfl h1 h2⟩
  | load t x =>
    simp only [simple, Option.map_eq_some_iff, Prod.mk.injEq] at hs
    obtain ⟨s, hm, rfl, rfl, rfl⟩ := hs
    obtain ⟨v, hr, hv⟩ := load_sound (P := P) h (h.ev x) hm
    exact ⟨rfl, pure1_of rfl (List.forall_mem_nil _) fun _ => ⟨v, hr, hv⟩⟩
  | nilCheck x =>
    have hx := h.ev x
    simp only [simple] at hs
    split at hs
    · rename_i l i o he
      rw [he] at hx
      split at hs
      · rename_i hsome
        simp only [Option.some.injEq, Prod.mk.injEq] at hs
        obtain ⟨rfl, rfl, rfl⟩ := hs
        obtain ⟨ob, hob⟩ := Option.isSome_iff_exists.1 hsome
        obtain ⟨kk, hφ, _⟩ := h.heap l ob hob
        have hx' := hx
        simp only [SVR] at hx'
        obtain ⟨f1, hl, _, hk⟩ := hx'
        obtain ⟨g, hg, h0, hlt, hv⟩ := hk kk hφ
        refine ⟨rfl, List.forall_mem_nil _, fun _ => ⟨_, ?_, hx⟩⟩
        simp [execOp, hv]
      · cases hs
    · rename_i ks e i o he
      rw [he] at hx
      simp only [Option.some.injEq, Prod.mk.injEq] at hs
      obtain ⟨rfl, rfl, rfl⟩ := hs
      have hx' := hx
      simp only [SVR] at hx'
      obtain ⟨f1, f2, xs, ad, h1, h2, h3, h4, hv⟩ := hx'
      refine ⟨rfl, List.forall_mem_nil _, fun _ => ⟨_, ?_, hx⟩⟩
      simp [execOp, hv]
    · rename_i f c he
      rw [he] at hx
      simp only [Option.some.injEq, Prod.mk.injEq] at hs
      obtain ⟨rfl, rfl, rfl⟩ := hs
      have hx' := hx
      simp only [SVR] at hx'
      obtain ⟨cs, hv, _⟩ := hx'
      refine ⟨rfl, List.forall_mem_nil _, fun _ => ⟨_, ?_, hx⟩⟩
      simp [execOp, hv]
    · cases hs
  | lookup t m x ok =>
    cases ok with
    | true => simp [simple] at hs
    | false =>
      simp only [simple] at hs
      split at hs
      · rename_i l xe hm hx
        split at hs
        · rename_i e hl
          split at hs
          · rename_i hT
            simp only [Option.some.injEq, Prod.mk.injEq] at hs
            obtain ⟨rfl, rfl, rfl⟩ := hs
            have hmv := h.ev m
            rw [hm] at hmv
            simp only [SVR] at hmv
            have hxv := h.ev x
            rw [hx] at hxv
            obtain ⟨fx, a', dx, hxe⟩ := svr_int hxv
            obtain ⟨k', hk', hob⟩ := h.heap l _ hl
            obtain ⟨fe, g, xs, hg, hxs, hown⟩ := hob
            obtain ⟨g', hg', hmval⟩ := hmv.2.2 k' hk'
            rw [hg] at hg'
            cases hg'
            obtain ⟨k, el, ht, hkt, het, hz⟩ := mapT_spec hT
            refine ⟨rfl, in64_fits fx, fun hgd => ⟨.int .i64 (mapGet xs a'), ?_, ?_⟩⟩
            · have hrun := hown.lookup hkt het ht (hz w) (in64_sound dx hgd)
              simp [execOp, hmval, hxe, hrun]
            · refine int_svr (by simp only [Ex.fits, Bool.and_eq_true]; exact ⟨fe, fx⟩) ?_
              simp only [Ex.den, BO.on, hxs, dx, PV.r, PV.i]
          · cases hs
        · cases hs
      · cases hs
  | makeFunc fn first caps =>
    cases fn with
    | func f =>
      simp only [simple] at hs
      split at hs
      · rename_i he
        have he' : first = #[] := by simpa using he
        subst he'
        simp only [Option.some.injEq, Prod.mk.injEq] at hs
        obtain ⟨rfl, rfl, rfl⟩ := hs
        refine ⟨rfl, pure1_of rfl (List.forall_mem_nil _) fun _ => ⟨_, rfl, ?_⟩⟩
        simp only [SVR]
        refine ⟨caps.map a.eval, by simp, ?_⟩
        have : ∀ l : List Operand, SVRs w X φ ρ σ.nx (l.map σ.ev) (l.map a.eval) := by
          intro l
          induction l with
          | nil => simp [SVRs]
          | cons x r ih => simp only [List.map_cons, SVRs]; exact ⟨_, _, rfl, h.ev x, ih⟩
        simpa using this caps.toList
      · cases hs
    | _ => simp [simple] at hs
  | build t parts =>
    obtain ⟨rfl, rfl, v, hr, hv⟩ := build_sound h hs
    exact ⟨rfl, pure1_of rfl (List.forall_mem_nil _) fun _ => ⟨v, hr, hv⟩⟩
  | slice t x lo hi mx =>
    cases mx with
    | some m => simp [simple] at hs
    | none =>
      obtain ⟨rfl, h1, h2⟩ := slice_sound h hs
      exact ⟨rfl, pure1_of rfl h1 h2⟩
  | call c =>
    obtain ⟨callee, args, ts⟩ := c
    cases callee with
    | builtin b =>
      obtain ⟨consts, hrun⟩ := run_builtin (a := a) (b := b) (args := args) (ts := ts) (o := { dst, op := .call { callee := .builtin b, args, argTypes := ts }, type := ty, pos, after := aft, guard := gd }) rfl
      have hevs := SVRs.evs h args.toList
      simp only [simple] at hs
      cases b with
      | len =>
        simp only [builtin1] at hs
        split at hs
        · rename_i x hx
          rw [hx] at hevs
          have hax : ∃ v, args.map a.eval = #[v] ∧ SVR w X φ ρ σ.nx x v := by
            simp only [SVRs] at hevs
            obtain ⟨v, vs', hl, h1, rfl⟩ := hevs
            refine ⟨v, ?_, h1⟩
            apply Array.ext'
            simpa using hl
          obtain ⟨v, hav, hxv⟩ := hax
          split at hs
          · rename_i el hu
            simp only [Option.map_eq_some_iff, Prod.mk.injEq] at hs
            obtain ⟨e, hl, rfl, rfl, rfl⟩ := hs
            obtain ⟨fe, ad, n, cp, rfl, hd⟩ := lenOf_sound h hxv hl
            refine ⟨rfl, List.forall_mem_nil _, fun _ => ⟨.int .i64 n, ?_, int_svr fe hd⟩⟩
            rw [Option.bind_eq_some_iff] at hu
            obtain ⟨t, ht, hu⟩ := hu
            have ht' : ts[0]? = some t := by simpa using ht
            rw [hrun, hav]
            simp [invoke, builtin, Builtin.len_, ht', run_underlying hu, goInt]
          · rename_i n el hu
            simp only [Option.some.injEq, Prod.mk.injEq] at hs
            obtain ⟨rfl, rfl, rfl⟩ := hs
            refine ⟨rfl, List.forall_mem_nil _, fun _ => ⟨.int .i64 n, ?_, int_svr rfl rfl⟩⟩
            rw [Option.bind_eq_some_iff] at hu
            obtain ⟨t, ht, hu⟩ := hu
            have ht' : ts[0]? = some t := by simpa using ht
            rw [hrun, hav]
            simp [invoke, builtin, Builtin.len_, ht', run_underlying hu, goInt]
          · cases hs
        · cases hs
      | max =>
        simp only [builtin1] at hs
        split at hs
        · rename_i k e r hx
          rw [hx] at hevs
          simp only [SVRs] at hevs
          obtain ⟨v, vs', hl, h1, h2⟩ := hevs
          obtain ⟨fe, n, dn, rfl⟩ := svr_int h1
          simp only [Option.map_eq_some_iff, Prod.mk.injEq] at hs
          obtain ⟨r', hf, rfl, rfl, rfl⟩ := hs
          obtain ⟨m, hm1, hm2, hm3⟩ := foldMM_sound (P := P) (mx := true) r e r' n vs' fe dn h2 hf
          refine ⟨rfl, List.forall_mem_nil _, fun _ => ⟨.int k m, ?_, int_svr hm1 hm2⟩⟩
          have hl' : (args.map a.eval).toList = .int k n :: vs' := by simpa using hl
          simp only [if_true] at hm3
          rw [hrun]
          simp [invoke, builtin, Builtin.max_, hl, hm3]
        · cases hs
      | min =>
        simp only [builtin1] at hs
        split at hs
        · rename_i k e r hx
          rw [hx] at hevs
          simp only [SVRs] at hevs
          obtain ⟨v, vs', hl, h1, h2⟩ := hevs
          obtain ⟨fe, n, dn, rfl⟩ := svr_int h1
          simp only [Option.map_eq_some_iff, Prod.mk.injEq] at hs
          obtain ⟨r', hf, rfl, rfl, rfl⟩ := hs
          obtain ⟨m, hm1, hm2, hm3⟩ := foldMM_sound (P := P) (mx := false) r e r' n vs' fe dn h2 hf
          refine ⟨rfl, List.forall_mem_nil _, fun _ => ⟨.int k m, ?_, int_svr hm1 hm2⟩⟩
          have hl' : (args.map a.eval).toList = .int k n :: vs' := by simpa using hl
          simp only [Bool.false_eq_true, if_false] at hm3
          rw [hrun]
          simp [invoke, builtin, Builtin.min_, hl, hm3]
        · cases hs
      | _ => simp [pureOp] at hp
    | _ => simp [pureOp] at hp
  | _ => simp [pureOp] at hp

end

end Go.Proofs.Ytpaabecgngbjcaa.Sx
set_option linter.unusedVariables false
namespace Go.Proofs.Ytpaabecgngbjcaa.Sx
open Go.RowKit

def upd (φ : Names) (l : Nat) (k : Bk) : Names := fun m => if m = l then some k else φ m

theorem upd_same (φ : Names) (l : Nat) (k : Bk) : upd φ l k l = some k := by simp [upd]
theorem upd_other (φ : Names) (l m : Nat) (k : Bk) (h : m ≠ l) : upd φ l k m = φ m := by simp [upd, h]

/-- How an operation ended: a value, or nothing to hand on. -/
def Ran (P : Program) (a : Act) (o : Oper) (w : World) (v : Value) (w' : World) : Prop :=
  (execOp a.eval o).run P w = .ok (.value v) w' ∨ ((execOp a.eval o).run P w = .ok .skip w' ∧ v = undef)

section
variable {P : Program} {X : Env} {W0 : World} {φ : Names} {ρ : List PV} {σ : St} {a : Act} {fs : List Act} {w : World} {nx : Nat}

theorem Evo.alloc (ob : Obj) {s len : Nat} {el : TypeId} : Evo X φ (upd φ nx ⟨some w.heap.size, s, len, el⟩) nx w (w.alloc ob) := by
  refine ⟨by simp, fun b hb _ => Below.heap_alloc w ob b hb, fun l k g c hl hk hg h => ?_, fun l hl => .inl (upd_other _ _ _ _ (by omega)), fun b hb ho => ?_⟩
  · have hlt : g < w.heap.size := (Array.getElem?_eq_some_iff.1 h).1
    exact ⟨c, by rw [Below.heap_alloc w ob g hlt]; exact h, rfl⟩
  · rcases ho with hx | ⟨l, k, hk, hg⟩
    · exact .inl hx
    · by_cases hl : l = nx
      · subst hl
        rw [upd_same] at hk
        cases hk
        simp at hg
        omega
      · rw [upd_other _ _ _ _ hl] at hk
        exact .inr ⟨l, k, hk, hg⟩

theorem Rel.size_le (h : Rel X W0 φ ρ σ fs w) : W0.heap.size ≤ w.heap.size := h.below.size

/-- A new object. -/
theorem Rel.newO (h : Rel X W0 φ ρ σ fs w) (o : Ob) (O : Obj) (el : TypeId) (s len : Nat)
    (ho : ObR (w.alloc O) X (upd φ σ.nx ⟨some w.heap.size, s, len, el⟩) ρ (σ.nx + 1) ⟨some w.heap.size, s, len, el⟩ o) :
    Rel X W0 (upd φ σ.nx ⟨some w.heap.size, s, len, el⟩) ρ (σ.new o) fs (w.alloc O) := by
  have ev : Evo X φ (upd φ σ.nx ⟨some w.heap.size, s, len, el⟩) σ.nx w (w.alloc O) := Evo.alloc _
  refine ⟨h.below.alloc h.size_le _, h.old, fun l k g hl hg => ?_, fun l l' k k' g hl hl' hg hg' => ?_, fun l k hl => ?_, h.nv, h.known, FrsR.evo ev (List.prefix_refl _) (Nat.le_succ _) _ _ h.frames, fun l ob hl => ?_⟩
  · by_cases he : l = σ.nx
    · subst he
      rw [upd_same] at hl
      cases hl
      simp at hg
      subst hg
      have := h.size_le
      simp
      exact this
    · rw [upd_other _ _ _ _ he] at hl
      have := h.low l k g hl hg
      simp
      omega
  · by_cases he : l = σ.nx
    · by_cases he' : l' = σ.nx
      · omega
      · rw [he, upd_same] at hl
        cases hl
        rw [upd_other _ _ _ _ he'] at hl'
        have := h.low l' k' g hl' hg'
        simp at hg
        omega
    · by_cases he' : l' = σ.nx
      · rw [he', upd_same] at hl'
        cases hl'
        rw [upd_other _ _ _ _ he] at hl
        have := h.low l k g hl hg
        simp at hg'
        omega
      · rw [upd_other _ _ _ _ he] at hl
        rw [upd_other _ _ _ _ he'] at hl'
        exact h.inj l l' k k' g hl hl' hg hg'
  · by_cases he : l = σ.nx
    · subst he; simp [St.new]
    · rw [upd_other _ _ _ _ he] at hl
      have := h.names l k hl
      simp [St.new]
      omega
  · simp only [St.new, look] at hl
    split at hl
    · rename_i he
      have he' := eq_of_beq he
      subst he'
      cases hl
      exact ⟨_, upd_same _ _ _, ho⟩
    · rename_i he
      have he' : l ≠ σ.nx := fun hc => he (by simp [hc])
      obtain ⟨k, hk, hob⟩ := h.heap l ob hl
      refine ⟨k, by rw [upd_other _ _ _ _ he']; exact hk, ?_⟩
      exact ObR.evo ev (List.prefix_refl _) (Nat.le_succ _) (fun g hg => Below.heap_alloc w _ g (h.low l k g hk hg).2) ob hob

theorem Rel.new (h : Rel X W0 φ ρ σ fs w) (o : Ob) (c : Array Value) (el : TypeId) (s len : Nat)
    (ho : ObR (w.alloc (.cells c el)) X (upd φ σ.nx ⟨some w.heap.size, s, len, el⟩) ρ (σ.nx + 1) ⟨some w.heap.size, s, len, el⟩ o) :
    Rel X W0 (upd φ σ.nx ⟨some w.heap.size, s, len, el⟩) ρ (σ.new o) fs (w.alloc (.cells c el)) := h.newO o _ el s len ho

/-- A new map. -/
theorem Rel.newMap (h : Rel X W0 φ ρ σ fs w) : Rel X W0 (upd φ σ.nx ⟨some w.heap.size, 0, 0, 0⟩) ρ (σ.new (.imap .nil)) fs (w.alloc (.map #[] 0)) :=
  h.newO _ _ 0 0 0 ⟨rfl, w.heap.size, [], rfl, rfl, ownsI_new w⟩

theorem run_newVar (t : TypeId) (v : Value) : (newVar t v).run P w = .ok ⟨w.heap.size, 0, none⟩ (w.alloc (.cells v.cells t)) := by
  simp [newVar, newRow]

/-- A new box. -/
theorem Rel.box (h : Rel X W0 φ ρ σ fs w) {l : List SV} {v : Value} {t : TypeId} (hl : SVRs w X φ ρ σ.nx l v.cells.toList) :
    ∃ φ', Rel X W0 φ' ρ (σ.new (.box l)) fs (w.alloc (.cells v.cells t)) ∧ SVR (w.alloc (.cells v.cells t)) X φ' ρ (σ.nx + 1) (.ptr σ.nx i0 0) (.pointer (some ⟨w.heap.size, 0, none⟩)) ∧ Evo X φ φ' σ.nx w (w.alloc (.cells v.cells t)) ∧
      (∀ m, m ≠ σ.nx → φ' m = φ m) := by
  have ev : Evo X φ (upd φ σ.nx ⟨some w.heap.size, 0, 1, t⟩) σ.nx w (w.alloc (.cells v.cells t)) := Evo.alloc _
  refine ⟨upd φ σ.nx ⟨some w.heap.size, 0, 1, t⟩, h.new (.box l) v.cells t 0 1 ?_, ?_, ev, fun m hm => upd_other _ _ _ _ hm⟩
  · simp only [ObR]
    exact ⟨trivial, w.heap.size, v.cells, rfl, heap_alloc_new w _, SVRs.evo ev (List.prefix_refl _) (Nat.le_succ _) _ _ hl⟩
  · simp only [SVR]
    refine ⟨rfl, by omega, ⟨_, rfl⟩, fun k hk => ?_⟩
    rw [upd_same] at hk
    cases hk
    exact ⟨w.heap.size, rfl, by simp [i0, Ex.den, PV.i], by simp [i0, Ex.den, PV.i], by simp [i0, Ex.den, PV.i]⟩

theorem flat_get {α : Type} (l : List α) (hl : 0 < l.length) : ∀ (n j : Nat), j < n * l.length → (List.replicate n l).flatten[j]? = l[j % l.length]?
  | 0, j, h => by omega
  | n + 1, j, h => by
    rw [List.replicate_succ, List.flatten_cons]
    by_cases hj : j < l.length
    · rw [List.getElem?_append_left hj, Nat.mod_eq_of_lt hj]
    · rw [List.getElem?_append_right (by omega), flat_get l hl n (j - l.length) (by rw [Nat.add_mul, Nat.one_mul] at h; omega), ← Nat.mod_eq_sub_mod (by omega : j ≥ l.length)]

theorem made_flat (z : Array Value) (n : Nat) (hz : 0 < z.size) : (madeCells z (n * z.size)).toList = (List.replicate n z.toList).flatten := by
  apply List.ext_getElem?
  intro j
  by_cases hj : j < n * z.size
  · have h1 : j % z.size < z.size := Nat.mod_lt _ hz
    rw [flat_get z.toList (by simpa using hz) n j (by simpa using hj)]
    simp [madeCells, hj, h1]
  · rw [List.getElem?_eq_none (by simp [madeCells]; omega), List.getElem?_eq_none (by simp; omega)]

theorem SVRs.flat {l : List SV} {vs : List Value} (h : SVRs w X φ ρ nx l vs) : ∀ n, SVRs w X φ ρ nx (List.replicate n l).flatten (List.replicate n vs).flatten
  | 0 => by simp [SVRs]
  | n + 1 => by rw [List.replicate_succ, List.replicate_succ, List.flatten_cons, List.flatten_cons]; exact h.append (SVRs.flat h n)

theorem RVs.split {U : Nat → Prop} : ∀ {k1 k2 : List LK} {ps : List PV} {vs : List Value}, RVs w U (k1 ++ k2) ps vs →
    RVs w U k1 (ps.take k1.length) (vs.take k1.length) ∧ RVs w U k2 (ps.drop k1.length) (vs.drop k1.length)
  | [], k2, ps, vs, h => by simp only [List.nil_append] at h; simp [RVs, h]
  | k :: k1, k2, ps, vs, h => by
    simp only [List.cons_append, RVs] at h
    obtain ⟨p, ps', v, vs', rfl, rfl, h1, h2⟩ := h
    obtain ⟨h3, h4⟩ := RVs.split h2
    simp only [List.length_cons, List.take_succ_cons, List.drop_succ_cons, RVs]
    exact ⟨⟨p, _, v, _, rfl, rfl, h1, h3⟩, h4⟩

theorem RVs.join {U : Nat → Prop} : ∀ {k1 k2 : List LK} {ps qs : List PV} {vs us : List Value}, RVs w U k1 ps vs → RVs w U k2 qs us → RVs w U (k1 ++ k2) (ps ++ qs) (vs ++ us)
  | [], k2, ps, qs, vs, us, h, h' => by simp only [RVs] at h; rw [h.1, h.2]; simpa using h'
  | k :: k1, k2, ps, qs, vs, us, h, h' => by
    simp only [RVs] at h
    obtain ⟨p, ps', v, vs', rfl, rfl, h1, h2⟩ := h
    simp only [List.cons_append, RVs]
    exact ⟨p, _, v, _, rfl, rfl, h1, RVs.join h2 h'⟩

/-- Elements cut out of one row of cells. -/
theorem RVs.rows {U : Nat → Prop} {ks : List LK} : ∀ (n : Nat) (ps : List PV) (vs : List Value), RVs w U (List.replicate n ks).flatten ps vs →
    ∀ i x, (chunks n ks.length ps)[i]? = some x → RVs w U ks x ((vs.drop (i * ks.length)).take ks.length)
  | 0, ps, vs, _, i, x, hx => by simp [chunks] at hx
  | n + 1, ps, vs, h, i, x, hx => by
    rw [List.replicate_succ, List.flatten_cons] at h
    obtain ⟨h1, h2⟩ := RVs.split h
    cases i with
    | zero => simp only [chunks, List.getElem?_cons_zero, Option.some.injEq] at hx; subst hx; simpa using h1
    | succ i =>
      simp only [chunks, List.getElem?_cons_succ] at hx
      have := RVs.rows n _ _ h2 i x hx
      rw [List.drop_drop] at this
      rw [Nat.add_mul, Nat.one_mul, Nat.add_comm (i * ks.length)]
      exact this

theorem chunks_map {α β : Type} (f : α → β) (s : Nat) : ∀ (n : Nat) (l : List α), chunks n s (l.map f) = (chunks n s l).map (·.map f)
  | 0, l => rfl
  | n + 1, l => by simp only [chunks, List.map_cons, ← List.map_take, ← List.map_drop, chunks_map f s n]

theorem chunks_len {α : Type} (s : Nat) : ∀ (n : Nat) (l : List α), (chunks n s l).length = n
  | 0, l => rfl
  | n + 1, l => by simp [chunks, chunks_len s n]

theorem den_consCells : ∀ es : List Ex, (consCells es).den ρ = .cells (es.map (·.den ρ))
  | [] => rfl
  | e :: r => by simp only [consCells, Ex.den, BO.on, den_consCells r, PV.c, List.map_cons]

theorem fits_consCells {n : Nat} : ∀ es : List Ex, (∀ e ∈ es, e.fits n = true) → (consCells es).fits n = true
  | [], _ => rfl
  | e :: r, h => by simp only [consCells, Ex.fits, Bool.and_eq_true]; exact ⟨h e (by simp), fits_consCells r (fun x hx => h x (by simp [hx]))⟩

theorem den_snocs : ∀ (cs : List (List Ex)) (r : Ex) (xs : List (List PV)), r.den ρ = .row xs → (snocs r cs).den ρ = .row (xs ++ cs.map (·.map (·.den ρ)))
  | [], r, xs, h => by simp [snocs, h]
  | c :: cs, r, xs, h => by
    rw [show snocs r (c :: cs) = snocs (.bin .snoc r (consCells c)) cs from rfl, den_snocs cs _ (xs ++ [c.map (·.den ρ)]) (by simp only [Ex.den, BO.on, h, den_consCells, PV.r, PV.c])]
    simp

theorem fits_snocs {n : Nat} : ∀ (cs : List (List Ex)) (r : Ex), r.fits n = true → (∀ c ∈ cs, ∀ e ∈ c, e.fits n = true) → (snocs r cs).fits n = true
  | [], r, h, _ => h
  | c :: cs, r, h, hc => fits_snocs cs _ (by simp only [Ex.fits, Bool.and_eq_true]; exact ⟨h, fits_consCells c (hc c (by simp))⟩) (fun d hd => hc d (by simp [hd]))

theorem chunks_mem {α : Type} (s : Nat) : ∀ (n : Nat) (l : List α), ∀ c ∈ chunks n s l, ∀ e ∈ c, e ∈ l
  | 0, l, c, hc, _, _ => by simp [chunks] at hc
  | n + 1, l, c, hc, e, he => by
    simp only [chunks, List.mem_cons] at hc
    rcases hc with rfl | hc
    · exact List.mem_of_mem_take he
    · exact List.mem_of_mem_drop (chunks_mem s n _ c hc e he)

/-- A new row. -/
theorem Rel.rowNew (h : Rel X W0 φ ρ σ fs w) {ks : List LK} {e : Ex} {xs : List (List PV)} {c : Array Value} {el : TypeId} {n cap : Nat} (fe : e.fits ρ.length = true) (de : e.den ρ = .row xs) (hn : xs.length = n) (hcap : n ≤ cap) (hmax : cap ≤ maxLen)
    (hc : c.size = cap * ks.length) (hr : ∀ i x, xs[i]? = some x → RVs w (Owned X φ) ks x ((c.toList.drop (i * ks.length)).take ks.length)) :
    ∃ φ', Rel X W0 φ' ρ (σ.new (.rows ks e)) fs (w.alloc (.cells c el)) ∧ SVR (w.alloc (.cells c el)) X φ' ρ (σ.nx + 1) (.own σ.nx none) (.slice (some ⟨w.heap.size, 0, none⟩) n cap) ∧ Evo X φ φ' σ.nx w (w.alloc (.cells c el)) ∧
      (∀ m, m ≠ σ.nx → φ' m = φ m) := by
  have ev : Evo X φ (upd φ σ.nx ⟨some w.heap.size, ks.length, n, el⟩) σ.nx w (w.alloc (.cells c el)) := Evo.alloc _
  refine ⟨upd φ σ.nx ⟨some w.heap.size, ks.length, n, el⟩, h.new (.rows ks e) c el ks.length n ?_, ?_, ev, fun m hm => upd_other _ _ _ _ hm⟩
  · simp only [ObR]
    exact ⟨fe, trivial, xs, de, hn, c, heap_alloc_new w _, fun i x hx => RVs.mono ev.size ev.rv ks x _ (hr i x hx)⟩
  · simp only [SVR]
    refine ⟨by omega, ⟨_, _, _, rfl⟩, fun k hk => ?_⟩
    rw [upd_same] at hk
    cases hk
    simp only [OwnAt]
    exact ⟨cap, c, rfl, heap_alloc_new w _, hcap, hmax, hc⟩

end

end Go.Proofs.Ytpaabecgngbjcaa.Sx
set_option linter.unusedVariables false
set_option linter.unusedSimpArgs false
namespace Go.Proofs.Ytpaabecgngbjcaa.Sx
open Go.RowKit

def newOp : Op → Bool
  | .alloc _ | .box .. | .buildSlice .. | .makeSlice .. | .makeMap .. => true
  | _ => false

section
variable {P : Program} {X : Env} {W0 : World} {φ : Names} {ρ : List PV} {σ : St} {a : Act} {fs : List Act} {w : World} {nx : Nat}

/-- A step that makes an object. -/
def New1 (P : Program) (X : Env) (W0 : World) (φ : Names) (ρ : List PV) (σ : St) (a : Act) (fs : List Act) (w : World) (o : Oper) (sv : SV) (σ' : St) : Prop :=
  ∃ φ' v ob, (execOp a.eval o).run P w = .ok (.value v) (w.alloc ob) ∧ Rel X W0 φ' ρ σ' (a :: fs) (w.alloc ob) ∧ SVR (w.alloc ob) X φ' ρ σ'.nx sv v ∧ Evo X φ φ' σ.nx w (w.alloc ob) ∧ (∀ m, m ≠ σ.nx → φ' m = φ m)

theorem all_solid_flat {l : List SV} (h : l.all solid = true) : ∀ n, (List.replicate n l).flatten.all solid = true
  | 0 => rfl
  | n + 1 => by rw [List.replicate_succ, List.flatten_cons, List.all_append, h, all_solid_flat h n]; rfl

theorem den_make {zs : List Ex} {ne : Ex} {k : IntKind} {n : Int} (hn : ne.den ρ = .int k n) : (Ex.bin .make (consCells zs) ne).den ρ = .row (List.replicate n.toNat (zs.map (·.den ρ))) := by
  simp only [Ex.den, BO.on, den_consCells, hn, PV.i, PV.c]

theorem new_sound (h : Rel X W0 φ ρ σ (a :: fs) w) {o : Oper} (hp : newOp o.op = true) {gs : List Ex} {sv : SV} {σ' : St} (hs : simple P σ o.op = some (gs, sv, σ')) :
    (∃ ob, σ' = σ.new ob) ∧ (∀ g ∈ gs, g.fits ρ.length = true) ∧ ((∀ g ∈ gs, (g.den ρ).b = true) → New1 P X W0 φ ρ σ a fs w o sv σ') := by
  obtain ⟨dst, op, ty, pos, aft, gd⟩ := o
  simp only at hp hs
  cases op with
  | alloc t =>
    simp only [simple, Option.bind_eq_some_iff] at hs
    obtain ⟨l, hz, hs⟩ := hs
    split at hs
    · simp only [Option.some.injEq, Prod.mk.injEq] at hs
      obtain ⟨rfl, rfl, rfl⟩ := hs
      refine ⟨⟨_, rfl⟩, List.forall_mem_nil _, fun _ => ?_⟩
      obtain ⟨z, i, hi, hzi, hrun, hzs⟩ := zero_sound (w := w) (X := X) (φ := φ) (ρ := ρ) (nx := σ.nx) hz
      obtain ⟨φ', h1, h2, h3, h4⟩ := h.box (t := t) hzs
      refine ⟨φ', _, _, ?_, h1, h2, h3, h4⟩
      simp only [execOp, Instr.alloc, Sem.run_bind, hrun, Result.andThen_ok, run_newVar, Sem.run_pure]
    · cases hs
  | makeMap t r =>
    cases r with
    | some r => simp [simple] at hs
    | none =>
      simp only [simple] at hs
      split at hs
      · simp only [Option.some.injEq, Prod.mk.injEq] at hs
        obtain ⟨rfl, rfl, rfl⟩ := hs
        refine ⟨⟨_, rfl⟩, List.forall_mem_nil _, fun _ => ⟨upd φ σ.nx ⟨some w.heap.size, 0, 0, 0⟩, .map (some w.heap.size), .map #[] 0, ?_, h.newMap, ?_, Evo.alloc _, fun m hm => upd_other _ _ _ _ hm⟩⟩
        · simp [execOp, Instr.makeMap, newObj, Sem.run]
        · simp only [SVR]
          refine ⟨Nat.lt_succ_self _, ⟨_, rfl⟩, fun k hk => ?_⟩
          rw [upd_same] at hk
          cases hk
          exact ⟨_, rfl, rfl⟩
      · cases hs
  | box t x =>
    simp only [simple, Option.map_eq_some_iff, Prod.mk.injEq] at hs
    obtain ⟨l, hc, rfl, rfl, rfl⟩ := hs
    refine ⟨⟨_, rfl⟩, List.forall_mem_nil _, fun _ => ?_⟩
    obtain ⟨hzs, _⟩ := cellsOfSV_sound (h.ev x) hc
    obtain ⟨φ', h1, h2, h3, h4⟩ := h.box (t := t) hzs
    refine ⟨φ', _, _, ?_, h1, h2, h3, h4⟩
    simp only [execOp, Instr.box, Sem.run_bind, Result.andThen_ok, run_newVar, Sem.run_pure]
  | buildSlice t n parts =>
    simp only [simple] at hs
    split at hs
    · rename_i el hu
      split at hs
      · rename_i ks z s hk hz hsz
        split at hs
        · rename_i hc
          simp only [Bool.and_eq_true, beq_iff_eq, decide_eq_true_eq] at hc
          obtain ⟨⟨⟨rfl, hzl⟩, hpos⟩, hsmall⟩ := hc
          split at hs
          · rename_i cs hf
            simp only [Option.map_eq_some_iff, Prod.mk.injEq] at hs
            obtain ⟨es, hes, rfl, rfl, rfl⟩ := hs
            refine ⟨⟨_, rfl⟩, List.forall_mem_nil _, fun _ => ?_⟩
            obtain ⟨zv, i, hi, hzi, hrun, hzs⟩ := zero_sound (w := w) (X := X) (φ := φ) (ρ := ρ) (nx := σ.nx) hz
            have hzsz : zv.cells.size = ks.length := by have := hzs.length; simp at this; omega
            have hmade : SVRs w X φ ρ σ.nx (List.replicate n z).flatten (madeCells zv.cells (n * ks.length)).toList := by
              rw [← hzsz, made_flat _ _ (by omega)]
              exact hzs.flat n
            obtain ⟨vs', hf', hr, _, hlen⟩ := fill_sound (fun x => h.ev x) _ _ _ _ hmade hf
            obtain ⟨fes, hrv⟩ := leavesS_sound hr hes
            have hvl := hrv.length
            have hkl : (List.replicate n ks).flatten.length = n * ks.length := by simp
            have hrows := RVs.rows n _ _ hrv
            have hcsz : vs'.size = n * ks.length := by have := hvl.2; rw [hkl] at this; simpa using this
            have hden : (snocs .nil (chunks n ks.length es)).den ρ = .row (chunks n ks.length (es.map (·.den ρ))) := by
              rw [den_snocs _ _ [] rfl, chunks_map]; simp
            obtain ⟨φ', h1, h2, h3, h4⟩ := h.rowNew (el := el) (fits_snocs _ _ rfl (fun c hc e he => fes e (chunks_mem _ _ _ c hc e he))) hden (chunks_len _ _ _) (Nat.le_refl _)
              (by simp only [maxLen]; have : n ≤ n * ks.length := Nat.le_mul_of_pos_right _ (by omega); omega) hcsz hrows
            refine ⟨φ', _, _, ?_, h1, h2, h3, h4⟩
            have hnot : ¬ (n * ks.length > 2 ^ 24) := by omega
            have hparts : (parts.map fun (i, x) => (i, a.eval x)).toList = parts.toList.map fun p => (p.1, a.eval p.2) := by simp
            simp only [execOp, Instr.buildSlice, Sem.run_bind, run_underlying hu, Result.andThen_ok, run_size hsz, Sem.run_ite, hnot, if_false, Sem.run_pure]
            by_cases hn0 : n * ks.length = 0
            · have hm0 : madeCells zv.cells (n * ks.length) = #[] := by rw [hn0]; simp [madeCells]
              rw [hm0] at hf'
              simp only [hn0, if_true, Result.andThen_ok, Sem.run_pure, hparts]
              have : (Array.range 0).map (fun x => (#[] : Array Value)[x % (#[] : Array Value).size]!) = #[] := by simp
              rw [this, hf']
              simp [newRow]
            · simp only [hn0, if_false, Sem.run_bind, hrun, Result.andThen_ok, Sem.run_pure, hparts]
              rw [show (Array.range (n * ks.length)).map (fun x => zv.cells[x % zv.cells.size]!) = madeCells zv.cells (n * ks.length) from rfl, hf']
              simp [newRow]
          · cases hs
        · cases hs
      · cases hs
    · cases hs
  | makeSlice t n c =>
    simp only [simple] at hs
    split at hs
    · rename_i el hu
      split at hs
      · rename_i ks z ti hk hz hti
        split at hs
        · rename_i zs k1 ne k2 ce hzs hne hce
          split at hs
          · rename_i hc
            simp only [Bool.and_eq_true, beq_iff_eq, decide_eq_true_eq] at hc
            obtain ⟨⟨⟨hks, hzl⟩, hpos⟩, hby⟩ := hc
            simp only [Option.some.injEq, Prod.mk.injEq] at hs
            obtain ⟨rfl, rfl, rfl⟩ := hs
            have hn := h.ev n
            have hc' := h.ev c
            rw [hne] at hn
            rw [hce] at hc'
            obtain ⟨fn, nn, dn, hvn⟩ := svr_int hn
            obtain ⟨fc, cc, dc, hvc⟩ := svr_int hc'
            refine ⟨⟨_, rfl⟩, fun g hg => ?_, fun hg => ?_⟩
            · simp only [List.mem_cons, List.not_mem_nil, or_false] at hg
              rcases hg with rfl | rfl | rfl
              · exact Ex.fits_mk2 rfl fn
              · exact Ex.fits_mk2 fn fc
              · exact Ex.fits_mk2 fc rfl
            · have g1 := hg _ (by simp : Ex.mk2 (.cmp .leq) i0 ne ∈ _)
              have g2 := hg (.mk2 (.cmp .leq) ne ce) (by simp)
              have g3 := hg (.mk2 (.cmp .leq) ce (.int .i64 (2 ^ 47 / ti.bytes : Nat))) (by simp)
              rw [Ex.den_mk2] at g1 g2 g3
              rw [dn] at g1 g2
              rw [dc] at g2 g3
              have n0 : 0 ≤ nn := of_decide_eq_true g1
              have nc : nn ≤ cc := of_decide_eq_true g2
              have cm : cc ≤ ((2 ^ 47 / ti.bytes : Nat) : Int) := of_decide_eq_true g3
              obtain ⟨zv, i, hi, hzi, hrun, hzsv⟩ := zero_sound (w := w) (X := X) (φ := φ) (ρ := ρ) (nx := σ.nx) hz
              rw [hti] at hi
              cases hi
              have hq : (2 ^ 47 / ti.bytes) * ti.bytes ≤ 2 ^ 47 := Nat.div_mul_le_self _ _
              have hcn : cc.toNat ≤ 2 ^ 47 / ti.bytes := by omega
              have hbytes : (ti.bytes : Int) * cc ≤ 281474976710656 := by
                have h1 : cc.toNat * ti.bytes ≤ 2 ^ 47 := Nat.le_trans (Nat.mul_le_mul_right _ hcn) hq
                have h2 : (ti.bytes : Int) * cc = ((cc.toNat * ti.bytes : Nat) : Int) := by
                  rw [Int.natCast_mul, Int.toNat_of_nonneg (by omega), Int.mul_comm]
                rw [h2]
                have h3 : (2 : Nat) ^ 47 = 140737488355328 := rfl
                omega
              have h63 : cc.toNat ≤ 2 ^ 47 := Nat.le_trans hcn (Nat.div_le_self _ _)
              have h3 : (2 : Nat) ^ 47 = 140737488355328 := rfl
              have hmk := run_make (P := P) w t el ti zv hu hti hzi k1 k2 nn cc n0 nc hbytes (by omega)
              have hzsz : zv.cells.size = ks.length := by have := hzsv.length; simp at this; omega
              obtain ⟨fzs, hzr⟩ := leavesS_sound hzsv hzs
              have hmade : (madeCells zv.cells (cc.toNat * ti.size)).toList = (List.replicate cc.toNat zv.cells.toList).flatten := by
                rw [← hks, ← hzsz]; exact made_flat _ _ (by omega)
              obtain ⟨φ', h1, h2, h3, h4⟩ := h.rowNew (el := el) (ks := ks) (e := .bin .make (consCells zs) ne) (xs := List.replicate nn.toNat (zs.map (·.den ρ))) (c := madeCells zv.cells (cc.toNat * ti.size)) (n := nn.toNat) (cap := cc.toNat)
                (by simp only [Ex.fits, Bool.and_eq_true]; exact ⟨fits_consCells _ fzs, fn⟩) (den_make dn) (by simp) (by omega) (by simp only [maxLen]; omega) (by rw [size_madeCells, hks])
                (fun i x hx => by
                  have hil : i < nn.toNat := by have := (List.getElem?_eq_some_iff.1 hx).1; simpa using this
                  have hxe : x = zs.map (·.den ρ) := by rw [List.getElem?_replicate] at hx; split at hx <;> simp_all
                  subst hxe
                  have : ((madeCells zv.cells (cc.toNat * ti.size)).toList.drop (i * ks.length)).take ks.length = zv.cells.toList := by
                    rw [hmade]
                    apply List.ext_getElem?
                    intro j
                    have hzl' : zv.cells.toList.length = ks.length := by simpa using hzsz
                    by_cases hj : j < ks.length
                    · rw [List.getElem?_take_of_lt hj, List.getElem?_drop]
                      have hlt : i * ks.length + j < cc.toNat * zv.cells.toList.length := by
                        rw [hzl']
                        have : (i + 1) * ks.length ≤ cc.toNat * ks.length := Nat.mul_le_mul_right _ (by omega)
                        rw [Nat.add_mul] at this
                        omega
                      rw [flat_get _ (by omega) _ _ hlt, hzl', Nat.mul_comm, Nat.mul_add_mod, Nat.mod_eq_of_lt hj]
                    · rw [List.getElem?_eq_none (by simp; omega), List.getElem?_eq_none (by omega)]
                  rw [this]
                  exact hzr)
              refine ⟨φ', _, _, ?_, h1, h2, h3, h4⟩
              simp only [execOp, hvn, hvc, Sem.run_bind, hmk, Result.andThen_ok, Sem.run_pure]
          · cases hs
        · cases hs
      · cases hs
    · cases hs
  | _ => simp [newOp] at hp

end

end Go.Proofs.Ytpaabecgngbjcaa.Sx
set_option linter.unusedVariables false
set_option linter.unusedSimpArgs false
namespace Go.Proofs.Ytpaabecgngbjcaa.Sx
open Go.RowKit

section
variable {P : Program} {X : Env} {W0 : World} {φ : Names} {ρ : List PV} {σ : St} {a : Act} {fs : List Act} {w : World} {nx : Nat}

theorem splice_get {α : Type} {L vs : List α} {p : Nat} (h : p + vs.length ≤ L.length) (j : Nat) : (splice L p vs)[j]? = if j < p then L[j]? else if j < p + vs.length then vs[j - p]? else L[j]? := by
  unfold splice
  by_cases h1 : j < p
  · rw [if_pos h1, List.append_assoc, List.getElem?_append_left (by simp; omega), List.getElem?_take_of_lt h1]
  · rw [if_neg h1]
    by_cases h2 : j < p + vs.length
    · rw [if_pos h2, List.getElem?_append_left (by simp; omega), List.getElem?_append_right (by simp; omega)]
      congr 1
      simp
      omega
    · rw [if_neg h2, List.getElem?_append_right (by simp; omega), List.getElem?_drop]
      congr 1
      simp
      omega

theorem splice_len {α : Type} {L vs : List α} {p : Nat} (h : p + vs.length ≤ L.length) : (splice L p vs).length = L.length := by unfold splice; simp; omega

/-- One element's cells, where some of them are written. -/
theorem elem_splice {α : Type} {L vs : List α} {s i o m : Nat} (ho : o + vs.length ≤ s) (hL : (i + 1) * s ≤ L.length) (hm : (m + 1) * s ≤ L.length) :
    ((splice L (i * s + o) vs).drop (m * s)).take s = if m = i then splice ((L.drop (i * s)).take s) o vs else (L.drop (m * s)).take s := by
  have hfit : i * s + o + vs.length ≤ L.length := by rw [Nat.add_mul] at hL; omega
  have hlen : ((L.drop (i * s)).take s).length = s := by rw [Nat.add_mul] at hL; simp; omega
  apply List.ext_getElem?
  intro j
  by_cases hj : j < s
  · rw [List.getElem?_take_of_lt hj, List.getElem?_drop, splice_get (by omega)]
    by_cases hmi : m = i
    · subst hmi
      rw [if_pos rfl, splice_get (by omega), List.getElem?_take_of_lt hj, List.getElem?_drop]
      by_cases h1 : j < o
      · rw [if_pos (by omega), if_pos h1]
      · rw [if_neg (by omega), if_neg h1]
        by_cases h2 : j < o + vs.length
        · rw [if_pos (by omega), if_pos h2]; congr 1; omega
        · rw [if_neg (by omega), if_neg h2]
    · rw [if_neg hmi, List.getElem?_take_of_lt hj, List.getElem?_drop]
      rcases Nat.lt_or_gt_of_ne hmi with hlt | hgt
      · have : (m + 1) * s ≤ i * s := Nat.mul_le_mul_right _ hlt
        rw [Nat.add_mul] at this
        rw [if_pos (by omega)]
      · have : (i + 1) * s ≤ m * s := Nat.mul_le_mul_right _ hgt
        rw [Nat.add_mul] at this
        rw [if_neg (by omega), if_neg (by omega)]
  · rw [List.getElem?_eq_none (by simp; omega)]
    symm
    apply List.getElem?_eq_none
    split
    · rw [splice_len (by omega)]; omega
    · simp; omega

theorem RVs.splice {U : Nat → Prop} {ks : List LK} {x ps : List PV} {L vs : List Value} {o m : Nat} (hx : RVs w U ks x L) (hp : RVs w U ((ks.drop o).take m) ps vs) (ho : o + m ≤ ks.length) :
    RVs w U ks (splice x o ps) (Sx.splice L o vs) := by
  have hpl := hp.length
  have hm : ((ks.drop o).take m).length = m := by simp; omega
  have e : ks = ks.take o ++ ((ks.drop o).take m ++ ks.drop (o + m)) := by
    rw [← List.drop_drop, List.take_append_drop, List.take_append_drop]
  rw [e] at hx
  obtain ⟨h1, h2⟩ := RVs.split hx
  obtain ⟨_, h3⟩ := RVs.split h2
  have ht : (ks.take o).length = o := by simp; omega
  rw [ht] at h1 h3
  rw [hm] at h3
  rw [List.drop_drop, List.drop_drop] at h3
  unfold Sx.splice
  rw [hpl.1, hpl.2, hm]
  conv => arg 3; rw [e]
  rw [List.append_assoc, List.append_assoc]
  exact h1.join (hp.join h3)

/-- Cells of one element set, one behind the other. -/
def putl {α : Type} (c : List α) : Nat → List α → List α
  | _, [] => c
  | o, p :: r => putl (c.set o p) (o + 1) r

theorem putl_splice {α : Type} : ∀ (ps c : List α) (o : Nat), o + ps.length ≤ c.length → putl c o ps = splice c o ps
  | [], c, o, _ => by simp [putl, splice]
  | p :: r, c, o, h => by
    simp only [List.length_cons] at h
    simp only [putl]
    rw [putl_splice r _ _ (by simp; omega)]
    apply List.ext_getElem?
    intro j
    rw [splice_get (by simp; omega), splice_get (by simpa using h)]
    by_cases h1 : j < o
    · rw [if_pos (by omega), if_pos h1, List.getElem?_set_ne (by omega)]
    · rw [if_neg h1]
      by_cases h2 : j = o
      · subst h2
        rw [if_pos (by omega), if_pos (by simp), List.getElem?_set_self (by omega)]
        simp
      · rw [if_neg (by omega)]
        by_cases h3 : j < o + 1 + r.length
        · rw [if_pos h3, if_pos (by simp; omega), show j - o = (j - (o + 1)) + 1 by omega]; rfl
        · rw [if_neg h3, if_neg (by simp; omega), List.getElem?_set_ne (by omega)]

theorem den_putCells {i : Ex} : ∀ (es : List Ex) (e : Ex) (o : Nat) (rows : List (List PV)), e.den ρ = .row rows → (putCells e i o es).den ρ = .row (rows.modify (i.den ρ).i.toNat fun c => putl c o (es.map (·.den ρ)))
  | [], e, o, rows, h => by simp only [putCells, putl, h, List.map_nil]; congr 1; exact (List.modify_id _ _).symm
  | x :: r, e, o, rows, h => by
    rw [show putCells e i o (x :: r) = putCells (.tri (.put o) e i x) i (o + 1) r from rfl,
      den_putCells r _ (o + 1) (rows.modify (i.den ρ).i.toNat (·.set o (x.den ρ))) (by simp only [Ex.den, TO.on, h, PV.r])]
    congr 1
    rw [List.modify_modify_eq]
    rfl

theorem fits_putCells {n : Nat} {i : Ex} (hi : i.fits n = true) : ∀ (es : List Ex) (e : Ex) (o : Nat), e.fits n = true → (∀ x ∈ es, x.fits n = true) → (putCells e i o es).fits n = true
  | [], e, o, h, _ => h
  | x :: r, e, o, h, hx => fits_putCells hi r _ _ (by simp only [Ex.fits, Bool.and_eq_true]; exact ⟨⟨h, hi⟩, hx x (by simp)⟩) (fun y hy => hx y (by simp [hy]))

theorem Evo.write {l : Nat} {k : Bk} {g : Nat} {c c' : Array Value} {el : TypeId} (hk : φ l = some k) (hg : k.g = some g) (hc : w.heap[g]? = some (.cells c el (0, 0))) (hs : c'.size = c.size) : Evo X φ φ nx w (w.setRow g c') := by
  refine ⟨by simp, fun b hb hn => setRow_other w g b c' (fun e => hn (.inr ⟨l, k, hk, by rw [hg, e]⟩)), fun l' k' g' d hl' hk' hg' hd => ?_, fun _ _ => .inl rfl, fun b _ h => h⟩
  by_cases he : g' = g
  · subst he
    rw [hc] at hd
    cases hd
    exact ⟨c', setRow_heap w g' c c' _ _ hc, hs⟩
  · exact ⟨d, by rw [setRow_other w g g' c' he]; exact hd, rfl⟩

/-- An object's cells are written. -/
theorem Rel.write (h : Rel X W0 φ ρ σ fs w) {l : Nat} {ob' : Ob} {k : Bk} {g : Nat} {c c' : Array Value} (hk : φ l = some k) (hg : k.g = some g) (hc : w.heap[g]? = some (.cells c k.el (0, 0))) (hs : c'.size = c.size)
    (ho : ObR (w.setRow g c') X φ ρ σ.nx k ob') : Rel X W0 φ ρ { σ with heap := puta σ.heap l ob' } fs (w.setRow g c') := by
  have ev : Evo X φ φ σ.nx w (w.setRow g c') := Evo.write hk hg hc hs
  have hlow := h.low l k g hk hg
  refine ⟨h.below.trans ⟨rfl, rfl, rfl, by simp, fun b hb => setRow_other w g b c' (by omega)⟩, h.old, fun l' k' g' hl' hg' => by rw [size_setRow]; exact h.low l' k' g' hl' hg', h.inj, h.names, h.nv, h.known,
    FrsR.evo ev (List.prefix_refl _) (Nat.le_refl _) _ _ h.frames, fun l' ob hl' => ?_⟩
  by_cases he : l' = l
  · subst he
    rw [look_put_same] at hl'
    cases hl'
    exact ⟨k, hk, ho⟩
  · rw [look_put_other _ _ _ _ he] at hl'
    obtain ⟨k', hk', hob⟩ := h.heap l' ob hl'
    refine ⟨k', hk', ObR.evo ev (List.prefix_refl _) (Nat.le_refl _) (fun g' hg' => setRow_other w g g' c' (fun e => he ?_)) ob hob⟩
    exact h.inj l' l k' k g hk' hk (by rw [hg', e]) hg

/-- A map is written. -/
theorem Rel.writeMap (h : Rel X W0 φ ρ σ fs w) {l : Nat} {ob' : Ob} {k : Bk} {g : Nat} {w' : World} (hk : φ l = some k) (hg : k.g = some g) (hc : ∀ c t f, w.heap[g]? ≠ some (.cells c t f)) (hb : w.grownBy w' (some g))
    (ho : ObR w' X φ ρ σ.nx k ob') : Evo X φ φ σ.nx w w' ∧ Rel X W0 φ ρ { σ with heap := puta σ.heap l ob' } fs w' := by
  have hlow := h.low l k g hk hg
  have hoth : ∀ b, b < w.heap.size → b ≠ g → w'.heap[b]? = w.heap[b]? := fun b h1 h2 => hb.block b h1 (fun e => h2 (by cases e; rfl))
  have ev : Evo X φ φ σ.nx w w' := by
    refine ⟨hb.size, fun b hlt hn => hoth b hlt (fun e => hn (e ▸ .inr ⟨l, k, hk, hg⟩)), fun l' k' g' c _ hk' hg' hh => ⟨c, ?_, rfl⟩, fun _ _ => .inl rfl, fun _ _ h => h⟩
    rw [hoth g' (Array.getElem?_eq_some_iff.1 hh).1 (fun e => hc _ _ _ (e ▸ hh))]
    exact hh
  refine ⟨ev, h.below.trans ⟨hb.os, hb.tape, hb.output, hb.size, fun b hlt => hoth b (by omega) (by omega)⟩, h.old, fun l' k' g' hl' hg' => ⟨(h.low l' k' g' hl' hg').1, Nat.lt_of_lt_of_le (h.low l' k' g' hl' hg').2 hb.size⟩, h.inj, h.names, h.nv, h.known,
    FrsR.evo ev (List.prefix_refl _) (Nat.le_refl _) _ _ h.frames, fun l' ob hl' => ?_⟩
  by_cases he : l' = l
  · subst he
    rw [look_put_same] at hl'
    cases hl'
    exact ⟨k, hk, ho⟩
  · rw [look_put_other _ _ _ _ he] at hl'
    obtain ⟨k', hk', hob⟩ := h.heap l' ob hl'
    refine ⟨k', hk', ObR.evo ev (List.prefix_refl _) (Nat.le_refl _) (fun g' hg' => hoth g' (h.low l' k' g' hk' hg').2 (fun e => he ?_)) ob hob⟩
    exact h.inj l' l k' k g hk' hk (by rw [hg', e]) hg

theorem mapUpdate_sound (h : Rel X W0 φ ρ σ (a :: fs) w) {o : Oper} {t : TypeId} {m x v : Operand} (hop : o.op = .mapUpdate t m x v) {gs : List Ex} {sv : SV} {σ' : St} (hs : simple P σ o.op = some (gs, sv, σ')) :
    sv = .undef ∧ (∀ g ∈ gs, g.fits ρ.length = true) ∧ (∃ l ob, σ' = { σ with heap := puta σ.heap l ob }) ∧ ((∀ g ∈ gs, (g.den ρ).b = true) → ∃ w', (execOp a.eval o).run P w = .ok .skip w' ∧ Rel X W0 φ ρ σ' (a :: fs) w' ∧ Evo X φ φ σ.nx w w') := by
  rw [hop] at hs
  simp only [simple] at hs
  split at hs
  · rename_i l xe ve hm hx hv
    split at hs
    · rename_i e hl
      split at hs
      · rename_i hT
        simp only [Option.some.injEq, Prod.mk.injEq] at hs
        obtain ⟨rfl, rfl, rfl⟩ := hs
        have hmv := h.ev m
        rw [hm] at hmv
        simp only [SVR] at hmv
        have hxv := h.ev x
        rw [hx] at hxv
        obtain ⟨fx, a', dx, hxe⟩ := svr_int hxv
        have hvv := h.ev v
        rw [hv] at hvv
        obtain ⟨fv, c', dv, hve⟩ := svr_int hvv
        obtain ⟨k', hk', hob⟩ := h.heap l _ hl
        obtain ⟨fe, g, xs, hg, hxs, hown⟩ := hob
        obtain ⟨g', hg', hmval⟩ := hmv.2.2 k' hk'
        rw [hg] at hg'
        cases hg'
        obtain ⟨k, el, ht, hkt, het, hz⟩ := mapT_spec hT
        have hcf : (consCells [xe, ve]).fits ρ.length = true := by simp only [consCells, Ex.fits, Bool.and_eq_true]; exact ⟨fx, fv, trivial⟩
        refine ⟨rfl, fun g hgm => ?_, ⟨_, _, rfl⟩, fun hgd => ?_⟩
        · simp only [List.mem_append, List.mem_singleton] at hgm
          rcases hgm with (hgm | hgm) | rfl
          · exact in64_fits fx g hgm
          · exact in64_fits fv g hgm
          · exact Ex.fits_mk2 (Ex.fits_mk1 fe) rfl
        · have w1 := in64_sound dx (fun g hgm => hgd g (by simp [hgm]))
          have w2 := in64_sound dv (fun g hgm => hgd g (by simp [hgm]))
          have w3 := hgd (.mk2 (.cmp .leq) (.mk1 .len e) (.int .i64 roomLen)) (by simp)
          rw [Ex.den_mk2, Ex.den_mk1, hxs] at w3
          have hlen : (xs.length : Int) ≤ roomLen := of_decide_eq_true w3
          obtain ⟨w', hrun, hown', hgrow⟩ := hown.update hkt het ht w1 w2 (by unfold roomLen at hlen; unfold maxLen; omega)
          have hnc : ∀ c t f, w.heap[g]? ≠ some (.cells c t f) := by
            obtain ⟨es, cl, hh, _⟩ := hown
            intro c t f hcc
            rw [hh] at hcc
            cases hcc
          obtain ⟨ev, hrel⟩ := h.writeMap (ob' := .imap (.bin .mput e (consCells [xe, ve]))) hk' hg hnc hgrow ⟨by simp only [Ex.fits, Bool.and_eq_true]; exact ⟨fe, hcf⟩, g, [.int .i64 a', .int .i64 c'] :: xs, hg, by
            simp only [Ex.den, BO.on, hxs, PV.r, den_consCells, PV.c, List.map_cons, List.map_nil, dx, dv], hown'⟩
          refine ⟨w', ?_, hrel, ev⟩
          rw [execOp, hop]
          simp [hmval, hxe, hve, hrun]
      · cases hs
    · cases hs
  · cases hs

theorem run_storeAt {t : TypeId} {g o s : Nat} {v : Value} {c : Array Value} {el : TypeId} (hsz : szOf P t = some s) (hv : v.cells.size = s) (hc : w.heap[g]? = some (.cells c el (0, 0))) (hf : o + s ≤ c.size) (h1 : ∀ u ∈ v.cells.toList, u.oneCell' = true) :
    (Instr.storeAt t (.pointer (some ⟨g, o, none⟩)) v).run P w = .ok () (w.setRow g (splice c.toList o v.cells.toList).toArray) := by
  have hst := run_storeCells_at P g o el v.cells.toList 0 c w hc (by simp; omega) h1
  simp only [Nat.add_zero] at hst
  simp only [Instr.storeAt, Instr.sureAddr, Sem.run_bind, Sem.run_pure, Result.andThen_ok, storeVar, run_size hsz, hv, ne_eq, not_true_eq_false, if_false, hst]
  rfl

theorem store_sound (h : Rel X W0 φ ρ σ (a :: fs) w) {o : Oper} {t : TypeId} {ad x : Operand} (hop : o.op = .store t ad x) {gs : List Ex} {sv : SV} {σ' : St} (hs : simple P σ o.op = some (gs, sv, σ')) :
    gs = [] ∧ sv = .undef ∧ ∃ l i off k g c c' ob', σ.ev ad = .ptr l i off ∧ φ l = some k ∧ k.g = some g ∧ w.heap[g]? = some (.cells c k.el (0, 0)) ∧ c'.size = c.size ∧ (look σ.heap l).isSome = true ∧
      σ' = { σ with heap := puta σ.heap l ob' } ∧ (execOp a.eval o).run P w = .ok .skip (w.setRow g c') ∧ ObR (w.setRow g c') X φ ρ σ.nx k ob' := by
  have hrun : ∀ {w' : World}, (Instr.storeAt t (a.eval ad) (a.eval x)).run P w = .ok () w' → (execOp a.eval o).run P w = .ok .skip w' := by
    intro w' hr
    unfold execOp
    rw [hop]
    simp only [Sem.run_bind, hr, Result.andThen_ok, Sem.run_pure]
  rw [hop] at hs
  simp only [simple] at hs
  split at hs
  · rename_i l i off vs s hp hcs hsz
    have hpt := h.ev ad
    rw [hp] at hpt
    obtain ⟨hvs, hsol⟩ := cellsOfSV_sound (h.ev x) hcs
    have hone := solid_cells hvs hsol
    have hvl := hvs.length
    split at hs
    · rename_i hsl
      have hsl' := eq_of_beq hsl
      have hvc : (a.eval x).cells.size = s := by rw [hsl', ← hvl]; simp
      split at hs
      · rename_i cs hlk
        split at hs
        · rename_i hc0
          simp only [Bool.and_eq_true, decide_eq_true_eq] at hc0
          simp only [Option.some.injEq, Prod.mk.injEq] at hs
          obtain ⟨rfl, rfl, rfl⟩ := hs
          have hi0 := same_i0 hc0.1
          subst hi0
          obtain ⟨k, hφ, ho⟩ := h.heap l _ hlk
          simp only [ObR] at ho
          obtain ⟨hlen, g, c, hg, hc, hcr⟩ := ho
          simp only [SVR] at hpt
          obtain ⟨_, _, _, hk⟩ := hpt
          obtain ⟨g', hg', _, _, hv⟩ := hk k hφ
          rw [hg] at hg'
          cases hg'
          rw [den_i0] at hv
          have hcl := hcr.length
          have hcsz : c.size = cs.length := by simpa using hcl
          have hfit : off + s ≤ c.size := by omega
          have hst := run_storeAt (P := P) (w := w) hsz hvc hc hfit hone
          refine ⟨rfl, rfl, l, i0, off, k, g, c, (splice c.toList off (a.eval x).cells.toList).toArray, .box (splice cs off vs), hp, hφ, hg, hc, ?_, by rw [hlk]; rfl, rfl, hrun ?_, ?_⟩
          · have := splice_len (L := c.toList) (vs := (a.eval x).cells.toList) (p := off) (by simp; omega)
            simpa using this
          · rw [hv]; simpa using hst
          · have ev : Evo X φ φ σ.nx w (w.setRow g (splice c.toList off (a.eval x).cells.toList).toArray) := Evo.write hφ hg hc (by
              have := splice_len (L := c.toList) (vs := (a.eval x).cells.toList) (p := off) (by simp; omega)
              simpa using this)
            simp only [ObR]
            refine ⟨hlen, g, _, hg, setRow_heap w g c _ _ _ hc, ?_⟩
            refine SVRs.evo ev (List.prefix_refl _) (Nat.le_refl _) _ _ ?_
            unfold splice
            rw [hvl]
            exact ((hcr.take off).append hvs).append (hcr.drop _)
        · cases hs
      · rename_i ks e hlk
        split at hs
        · rename_i hos
          simp only [Option.map_eq_some_iff, Prod.mk.injEq] at hs
          obtain ⟨xs, hxs, rfl, rfl, rfl⟩ := hs
          obtain ⟨k, hφ, ho⟩ := h.heap l _ hlk
          have ho' := ho
          simp only [ObR] at ho
          obtain ⟨fe, hks, rows, dx, hlen, hm⟩ := ho
          simp only [SVR] at hpt
          obtain ⟨fi, _, _, hk⟩ := hpt
          obtain ⟨g, hg, h0, hlt, hv⟩ := hk k hφ
          rw [hg] at hm
          simp only at hm
          obtain ⟨c, hc, hrow⟩ := hm
          obtain ⟨fxs, hxr⟩ := leavesS_sound hvs hxs
          generalize hi : (i.den ρ).i.toNat = n at *
          have hnl : n < rows.length := by omega
          have hel : ∀ m, m < rows.length → (m + 1) * ks.length ≤ c.toList.length ∨ ks.length = 0 := by
            intro m hm
            have := (hrow m _ (List.getElem?_eq_getElem hm)).length.2
            simp only [List.length_take, List.length_drop] at this
            rw [Nat.add_mul]
            omega
          have hfit : n * ks.length + off + s ≤ c.size := by
            rcases hel n hnl with hh | hh
            · rw [Nat.add_mul] at hh; simp at hh; omega
            · rw [hh] at hos ⊢; omega
          have hst := run_storeAt (P := P) (w := w) hsz hvc hc hfit hone
          have hvl' : (a.eval x).cells.toList.length = s := by simpa using hvc
          have hsplen : (splice c.toList (n * ks.length + off) (a.eval x).cells.toList).length = c.toList.length := splice_len (by rw [hvl']; simp; omega)
          have hxl := hxr.length
          have hms : ((ks.drop off).take s).length = s := by simp; omega
          -- the element, as it is told behind the store
          obtain ⟨rows', hd', hf', hget⟩ : ∃ rows', (if off == 0 && s == ks.length then Ex.tri .set e i (consCells xs) else putCells e i off xs).den ρ = .row rows' ∧
              (if off == 0 && s == ks.length then Ex.tri .set e i (consCells xs) else putCells e i off xs).fits ρ.length = true ∧
              (∀ m y, rows'[m]? = some y → ∃ z, rows[m]? = some z ∧ y = if m = n then splice z off (xs.map (·.den ρ)) else z) ∧ rows'.length = rows.length := by
            split
            · rename_i hfull
              simp only [Bool.and_eq_true, beq_iff_eq] at hfull
              refine ⟨rows.set n (xs.map (·.den ρ)), by simp only [Ex.den, TO.on, dx, PV.r, den_consCells, PV.c]; rw [← hi], by simp only [Ex.fits, Bool.and_eq_true]; exact ⟨⟨fe, fi⟩, fits_consCells _ fxs⟩, fun m y hy => ?_, by simp⟩
              by_cases hmn : m = n
              · subst hmn
                rw [List.getElem?_set_self hnl] at hy
                cases hy
                refine ⟨rows[m], List.getElem?_eq_getElem hnl, ?_⟩
                rw [if_pos rfl, hfull.1]
                have hzl := (hrow m _ (List.getElem?_eq_getElem hnl)).length.1
                unfold splice
                rw [List.take_zero, List.nil_append, Nat.zero_add, List.drop_eq_nil_of_le (by omega), List.append_nil]
              · rw [List.getElem?_set_ne (by omega)] at hy
                exact ⟨y, hy, by rw [if_neg hmn]⟩
            · refine ⟨rows.modify n fun c => putl c off (xs.map (·.den ρ)), by rw [← hi]; exact den_putCells xs e off rows dx, fits_putCells fi _ _ _ fe fxs, fun m y hy => ?_, by simp⟩
              rw [List.getElem?_modify] at hy
              by_cases hmn : n = m
              · subst hmn
                rw [List.getElem?_eq_getElem hnl] at hy
                have hy' : (if n = n then putl rows[n] off (xs.map (·.den ρ)) else rows[n]) = y := Option.some.inj hy
                rw [if_pos rfl] at hy'
                subst hy'
                refine ⟨rows[n], List.getElem?_eq_getElem hnl, ?_⟩
                rw [if_pos rfl]
                have hzl := (hrow n _ (List.getElem?_eq_getElem hnl)).length.1
                exact putl_splice _ _ _ (by omega)
              · have : rows[m]? = some y := by
                  cases hz : rows[m]? with
                  | none => rw [hz] at hy; cases hy
                  | some z =>
                    rw [hz] at hy
                    have hy' : (if n = m then putl z off (xs.map (·.den ρ)) else z) = y := Option.some.inj hy
                    rw [if_neg hmn] at hy'
                    rw [hy']
                exact ⟨y, this, by rw [if_neg (by omega)]⟩
          refine ⟨rfl, rfl, l, i, off, k, g, c, (splice c.toList (n * ks.length + off) (a.eval x).cells.toList).toArray, .rows ks _, hp, hφ, hg, hc, by simpa using hsplen, by rw [hlk]; rfl, rfl, hrun ?_, ?_⟩
          · rw [hv, hks]; exact hst
          · have ev : Evo X φ φ σ.nx w (w.setRow g (splice c.toList (n * ks.length + off) (a.eval x).cells.toList).toArray) := Evo.write hφ hg hc (by simpa using hsplen)
            simp only [ObR]
            refine ⟨hf', hks, rows', hd', by omega, ?_⟩
            rw [hg]
            refine ⟨_, setRow_heap w g c _ _ _ hc, fun m y hy => ?_⟩
            refine RVs.mono ev.size ev.rv _ _ _ ?_
            obtain ⟨z, hz, rfl⟩ := hget.1 m y hy
            have hml : m < rows.length := (List.getElem?_eq_some_iff.1 hz).1
            have hzr := hrow m z hz
            rcases Nat.eq_zero_or_pos ks.length with h00 | hkpos
            · -- elements without cells
              have hk0 : ks = [] := List.eq_nil_of_length_eq_zero h00
              subst hk0
              have hs0 : s = 0 := by simp at hos; omega
              have hxs0 : xs = [] := by have := hxl.1; simp [hs0] at this; exact this
              subst hxs0
              simp only [RVs] at hzr ⊢
              refine ⟨?_, by simp⟩
              split
              · rw [hzr.1]; simp [splice]
              · exact hzr.1
            · have hn1 : (n + 1) * ks.length ≤ c.toList.length := (hel n hnl).resolve_right (by omega)
              have hm1 : (m + 1) * ks.length ≤ c.toList.length := (hel m hml).resolve_right (by omega)
              show RVs w (Owned X φ) ks _ ((List.drop (m * ks.length) (splice c.toList (n * ks.length + off) (a.eval x).cells.toList)).take ks.length)
              rw [elem_splice (by omega) hn1 hm1]
              by_cases hmn : m = n
              · subst hmn
                rw [if_pos rfl, if_pos rfl]
                exact hzr.splice (m := s) hxr hos
              · rw [if_neg hmn, if_neg hmn]
                exact hzr
        · cases hs
      · cases hs
    · cases hs
  · cases hs

end

end Go.Proofs.Ytpaabecgngbjcaa.Sx
set_option linter.unusedVariables false
set_option linter.unusedSimpArgs false
namespace Go.Proofs.Ytpaabecgngbjcaa.Sx
open Go.RowKit

section
variable {P : Program} {X : Env} {W0 : World} {φ : Names} {ρ : List PV} {σ : St} {a : Act} {fs : List Act} {w : World} {nx : Nat} {U : Nat → Prop}

mutual
theorem RV.one : ∀ (k : LK) (p : PV) (v : Value), RV w U k p v → v.oneCell' = true
  | .int k, p, v, h => by simp only [RV] at h; obtain ⟨_, _, rfl⟩ := h; rfl
  | .bool, p, v, h => by simp only [RV] at h; obtain ⟨_, _, rfl⟩ := h; rfl
  | .str, p, v, h => by simp only [RV] at h; obtain ⟨_, _, rfl⟩ := h; rfl
  | .any, p, v, h => by simp only [RV] at h; exact h
  | .row ks, p, v, h => by simp only [RV] at h; obtain ⟨_, _, _, _, rfl, _⟩ := h; rfl
end

theorem RVs.one : ∀ {ks : List LK} {ps : List PV} {vs : List Value}, RVs w U ks ps vs → ∀ v ∈ vs, v.oneCell' = true
  | [], ps, vs, h, v, hv => by simp only [RVs] at h; rw [h.2] at hv; cases hv
  | k :: ks, ps, vs, h, v, hv => by
    simp only [RVs] at h
    obtain ⟨p, ps', u, vs', rfl, rfl, h1, h2⟩ := h
    rcases List.mem_cons.1 hv with rfl | hv
    · exact RV.one _ _ _ h1
    · exact RVs.one h2 v hv

/-- Elements' cells, one behind the other. -/
def Rws (w : World) (U : Nat → Prop) (ks : List LK) (xs : List (List PV)) (L : List Value) : Prop := ∀ i x, xs[i]? = some x → RVs w U ks x ((L.drop (i * ks.length)).take ks.length)

theorem Rws.append {ks : List LK} {xs ys : List (List PV)} {L M R : List Value} (hx : Rws w U ks xs L) (hL : L.length = xs.length * ks.length) (hy : Rws w U ks ys M) (hM : M.length = ys.length * ks.length) : Rws w U ks (xs ++ ys) (L ++ M ++ R) := by
  intro i x hi
  by_cases h : i < xs.length
  · rw [List.getElem?_append_left h] at hi
    have := hx i x hi
    have hle : (i + 1) * ks.length ≤ xs.length * ks.length := Nat.mul_le_mul_right _ h
    rw [Nat.add_mul] at hle
    rw [List.append_assoc, List.drop_append_of_le_length (by omega), List.take_append_of_le_length (by simp; omega)]
    exact this
  · rw [List.getElem?_append_right (by omega)] at hi
    have := hy _ x hi
    have hlt : i - xs.length < ys.length := (List.getElem?_eq_some_iff.1 hi).1
    have hle : (i - xs.length + 1) * ks.length ≤ ys.length * ks.length := Nat.mul_le_mul_right _ hlt
    rw [Nat.add_mul] at hle
    have hid : i * ks.length = L.length + (i - xs.length) * ks.length := by rw [hL, ← Nat.add_mul]; congr 1; omega
    rw [hid, List.append_assoc, ← List.drop_drop, List.drop_left, List.drop_append_of_le_length (by omega), List.take_append_of_le_length (by simp; omega)]
    exact this

theorem Rws.take {ks : List LK} {xs : List (List PV)} {L : List Value} (h : Rws w U ks xs L) : Rws w U ks xs (L.take (xs.length * ks.length)) := by
  intro i x hi
  have := h i x hi
  have hlt : i < xs.length := (List.getElem?_eq_some_iff.1 hi).1
  have hle : (i + 1) * ks.length ≤ xs.length * ks.length := Nat.mul_le_mul_right _ hlt
  rw [Nat.add_mul] at hle
  rw [List.drop_take, List.take_take, Nat.min_eq_left (by omega)]
  exact this

theorem Rws.one {ks : List LK} {xs : List (List PV)} {L : List Value} (h : Rws w U ks xs L) (hL : L.length = xs.length * ks.length) : ∀ v ∈ L, v.oneCell' = true := by
  intro v hv
  obtain ⟨j, hj⟩ := List.getElem?_of_mem hv
  have hjl : j < xs.length * ks.length := by have := (List.getElem?_eq_some_iff.1 hj).1; omega
  have hkpos : 0 < ks.length := by rcases Nat.eq_zero_or_pos ks.length with hz | hz; · rw [hz] at hjl; omega
                                   · exact hz
  have hi : j / ks.length < xs.length := by rw [Nat.div_lt_iff_lt_mul hkpos]; exact hjl
  have hr := h _ _ (List.getElem?_eq_getElem hi)
  refine hr.one v (List.mem_of_getElem? (i := j % ks.length) ?_)
  rw [List.getElem?_take_of_lt (Nat.mod_lt _ hkpos), List.getElem?_drop, Nat.mul_comm, Nat.div_add_mod]
  exact hj

theorem Rws.mono {w' : World} {U' : Nat → Prop} {ks : List LK} {xs : List (List PV)} {L : List Value} (hs : w.heap.size ≤ w'.heap.size) (hb : ∀ b, b < w.heap.size → ¬ U b → w'.heap[b]? = w.heap[b]? ∧ ¬ U' b) (h : Rws w U ks xs L) : Rws w' U' ks xs L :=
  fun i x hi => RVs.mono hs hb _ _ _ (h i x hi)

theorem flat_cells {ks : List LK} {b : Nat} : ∀ (ys : List (List PV)) (off : Nat), (∀ i x, ys[i]? = some x → ∃ vs : List Value, RVs w U ks x vs ∧ ∀ j u, vs[j]? = some u → w.cell? ⟨b, off + (i * ks.length + j), none⟩ = some u) →
    ∃ L : List Value, L.length = ys.length * ks.length ∧ Rws w U ks ys L ∧ (∀ j u, L[j]? = some u → w.cell? ⟨b, off + j, none⟩ = some u) ∧ ∀ v ∈ L, v.oneCell' = true
  | [], off, _ => ⟨[], by simp, fun i x hi => by simp at hi, fun j u hj => by simp at hj, fun v hv => by cases hv⟩
  | y :: r, off, h => by
    obtain ⟨vs, hvs, hc⟩ := h 0 y rfl
    obtain ⟨L, hL, hR, hcell, hone⟩ := flat_cells r (off + ks.length) (fun i x hi => by
      obtain ⟨us, hus, hcu⟩ := h (i + 1) x (by simpa using hi)
      refine ⟨us, hus, fun j u hj => ?_⟩
      rw [← hcu j u hj, Nat.add_mul]
      congr 2
      omega)
    have hvl := hvs.length.2
    refine ⟨vs ++ L, by simp [hL, hvl, Nat.add_mul]; omega, fun i x hi => ?_, fun j u hj => ?_, fun v hv => ?_⟩
    · cases i with
      | zero =>
        simp at hi
        subst hi
        rw [Nat.zero_mul, List.drop_zero, ← hvl, List.take_left]
        exact hvs
      | succ i =>
        simp at hi
        rw [Nat.add_mul, Nat.one_mul, Nat.add_comm, ← List.drop_drop]
        conv => arg 5; rw [← hvl, List.drop_left, hvl]
        exact hR i x hi
    · by_cases hj' : j < vs.length
      · rw [List.getElem?_append_left hj'] at hj
        have := hc j u hj
        simpa using this
      · rw [List.getElem?_append_right (by omega)] at hj
        have := hcell _ u hj
        rw [← this]
        congr 2
        omega
    · rcases List.mem_append.1 hv with hv | hv
      · exact hvs.one v hv
      · exact hone v hv

/-- The cells of a row that can be read. -/
theorem row_cells {ks : List LK} {p : PV} {v : Value} (h : RV w U (.row ks) p v) : ∃ ys a cap, p = .row ys ∧ v = .slice a ys.length cap ∧ ys.length ≤ cap ∧
    (ys = [] ∨ ∃ ad L, a = some ad ∧ ad.spot = none ∧ L.length = ys.length * ks.length ∧ Rws w U ks ys L ∧ (∀ j u, L[j]? = some u → w.cell? (ad.add j) = some u) ∧ ∀ u ∈ L, u.oneCell' = true) := by
  simp only [RV] at h
  obtain ⟨ys, a, cap, hp, hv, hc, hne⟩ := h
  refine ⟨ys, a, cap, hp, hv, hc, ?_⟩
  by_cases hy : ys = []
  · exact .inl hy
  · obtain ⟨ad, ha, hsp, _, _, hrows⟩ := hne hy
    obtain ⟨L, h1, h2, h3, h4⟩ := flat_cells (b := ad.block) ys ad.off hrows
    refine .inr ⟨ad, L, ha, hsp, h1, h2, fun j u hj => ?_, h4⟩
    obtain ⟨b, off, sp⟩ := ad
    simp only at hsp h3
    subst hsp
    rw [add_none]
    exact h3 j u hj

theorem append_room {t ty e el : TypeId} {i : TypeInfo} (ht : P.underlying t = some (.slice e)) (hi : P.info? e = some i) {g sLen sCap : Nat} {cur : Array Value} (hg : w.heap[g]? = some (.cells cur el (0, 0)))
    {a : Addr} {m c : Nat} {news : List Value} (hl : news.length = m * i.size) (hnews : ∀ j u, news[j]? = some u → w.cell? (a.add j) = some u) (h1 : ∀ u ∈ news, u.oneCell' = true) (hroom : sLen + m ≤ sCap) (hfit : sLen * i.size + news.length ≤ cur.size) :
    (Builtin.append_ #[t, t] ty #[.slice (some ⟨g, 0, none⟩) sLen sCap, .slice (some a) m c]).run P w =
      .ok (.slice (some ⟨g, 0, none⟩) (sLen + m) sCap) (w.setRow g (cur.toList.take (sLen * i.size) ++ news ++ cur.toList.drop (sLen * i.size + news.length)).toArray) := by
  have hf := run_firstCells_some (P := P) w i.size m a m c news hl hnews
  have hst := run_storeCells_at P g (sLen * i.size) el news 0 cur w hg (by simpa using hfit) h1
  simp only [Nat.add_zero] at hst
  simp [Builtin.append_, run_underlying ht, sizeOf, typeInfo, hi, Builtin.lenOf, hroom, hf, Addr.add_lit, hst]

/-- An append to a row of the call's own: it lies where it lay, or anew. -/
theorem append_run {t ty e : TypeId} {i : TypeInfo} {z : Value} (ht : P.underlying t = some (.slice e)) (hi : P.info? e = some i) (hz : i.zero = some z) (hzs : z.cells.size = i.size) (hsz : 0 < i.size)
    {k : Bk} {v : Value} (hown : OwnAt w k v) (hks : k.s = i.size) {a : Option Addr} {m c : Nat} {news : List Value} (hl : news.length = m * i.size) (hne : m = 0 ∨ ∃ ad, a = some ad ∧ ∀ j u, news[j]? = some u → w.cell? (ad.add j) = some u)
    (h1 : ∀ u ∈ news, u.oneCell' = true) (h63 : k.len + m ≤ maxLen) (hbytes : (k.len + m) * i.bytes ≤ 140737488355328) :
    ∃ v' w' k', (Builtin.append_ #[t, t] ty #[v, .slice a m c]).run P w = .ok v' w' ∧ OwnAt w' k' v' ∧ k'.s = k.s ∧ k'.len = k.len + m ∧ w'.os = w.os ∧ w'.tape = w.tape ∧ w'.output = w.output ∧ w.heap.size ≤ w'.heap.size ∧
      (∀ b, b < w.heap.size → some b ≠ k.g → w'.heap[b]? = w.heap[b]?) ∧ (∀ b, k'.g = some b → k.g = some b ∨ b = w.heap.size) ∧ (∀ b, k'.g = some b → b < w'.heap.size) ∧ (k'.g = none → k'.len = 0) ∧
      (∀ g c, k.g = some g → w.heap[g]? = some (.cells c k.el (0, 0)) → ∀ b, k'.g = some b → ∃ c', w'.heap[b]? = some (.cells c' k'.el (0, 0)) ∧ c'.toList.take ((k.len + m) * i.size) = c.toList.take (k.len * i.size) ++ news) ∧
      (k.g = none → ∀ b, k'.g = some b → ∃ c', w'.heap[b]? = some (.cells c' k'.el (0, 0)) ∧ c'.toList.take ((k.len + m) * i.size) = news) := by
  unfold OwnAt at hown
  rcases hne with rfl | ⟨ad, rfl, hnews⟩
  · -- nothing is appended
    have hn0 : news = [] := List.eq_nil_of_length_eq_zero (by simpa using hl)
    subst hn0
    refine ⟨v, w, k, ?_, by unfold OwnAt; exact hown, rfl, rfl, rfl, rfl, rfl, Nat.le_refl _, fun _ _ _ => rfl, fun b hb => .inl hb, ?_, ?_, ?_, ?_⟩
    · cases hg : k.g with
      | none =>
        rw [hg] at hown
        simp only at hown
        rw [hown.2]
        cases a <;> simp [Builtin.append_, run_underlying ht, sizeOf, typeInfo, hi, Builtin.lenOf, Builtin.firstCells, loadCells, loadCellsFrom]
      | some g =>
        rw [hg] at hown
        simp only at hown
        obtain ⟨cap, cc, rfl, hc, hle, _⟩ := hown
        cases a <;> simp [Builtin.append_, run_underlying ht, sizeOf, typeInfo, hi, Builtin.lenOf, Builtin.firstCells, loadCells, loadCellsFrom, storeCells, hle]
    · intro b hb
      rw [hb] at hown
      simp only at hown
      obtain ⟨_, _, _, hc, _⟩ := hown
      exact (Array.getElem?_eq_some_iff.1 hc).1
    · intro hg; rw [hg] at hown; simpa using hown.1
    · intro g c hg hc b hb
      rw [hg] at hb
      cases hb
      exact ⟨c, hc, by simp⟩
    · intro hg b hb; rw [hg] at hb; cases hb
  · cases hg : k.g with
    | none =>
      rw [hg] at hown
      simp only at hown
      obtain ⟨hlen, rfl⟩ := hown
      rcases Nat.eq_zero_or_pos m with rfl | hm
      · have hn0 : news = [] := List.eq_nil_of_length_eq_zero (by simpa using hl)
        subst hn0
        refine ⟨.slice none 0 0, w, k, by simp [Builtin.append_, run_underlying ht, sizeOf, typeInfo, hi, Builtin.lenOf, Builtin.firstCells, loadCells, loadCellsFrom], by unfold OwnAt; rw [hg]; exact ⟨hlen, rfl⟩, rfl, rfl, rfl, rfl, rfl, Nat.le_refl _, fun _ _ _ => rfl,
          (fun b hb => by rw [hg] at hb; cases hb), (fun b hb => by rw [hg] at hb; cases hb), fun _ => hlen, (fun g c hg' => by cases hg'), (fun _ b hb => by rw [hg] at hb; cases hb)⟩
      · rw [hlen] at h63 hbytes
        rw [Nat.zero_add] at h63 hbytes
        have hr := run_append_nil (P := P) w t ty e i z ht hi hz ad m c news hl hnews hm (by simp only [maxLen] at h63; omega) (by omega)
        have hge := grownCap_ge w m 0 e
        have hmx := grownCap_le_maxLen w m 0 e h63
        refine ⟨_, _, ⟨some w.heap.size, k.s, k.len + m, e⟩, hr, ?_, rfl, rfl, rfl, rfl, rfl, by simp, fun b hb _ => Below.heap_alloc w.drew _ b hb, fun b hb => .inr (by simpa using hb.symm), fun b hb => ?_, (fun h => by cases h), (fun g c hg' => by cases hg'), fun _ b hb => ?_⟩
        · unfold OwnAt
          simp only
          refine ⟨_, _, by rw [hlen, Nat.zero_add], heap_alloc_new w.drew _, by omega, hmx, ?_⟩
          simp only [Array.size_append, List.size_toArray, size_zeroCells, hzs, hl, ← Nat.add_mul, hks]
          congr 1
          omega
        · simp at hb; subst hb; simp
        · simp at hb
          subst hb
          refine ⟨_, heap_alloc_new w.drew _, ?_⟩
          rw [hlen, Nat.zero_add, ← hl]
          simp
    | some g =>
      rw [hg] at hown
      simp only at hown
      obtain ⟨cap, cc, rfl, hc, hle, hmx, hcs⟩ := hown
      by_cases hroom : k.len + m ≤ cap
      · have hfit : k.len * i.size + news.length ≤ cc.size := by rw [hl, hcs, hks, ← Nat.add_mul]; exact Nat.mul_le_mul_right _ hroom
        have hr := append_room (P := P) (ty := ty) ht hi hc hl hnews h1 hroom hfit (c := c)
        refine ⟨_, _, ⟨some g, k.s, k.len + m, k.el⟩, hr, ?_, rfl, rfl, rfl, rfl, rfl, by simp, fun b _ hb => setRow_other w g b _ (fun e => hb (by rw [e])), fun b hb => .inl (by simpa using hb), fun b hb => ?_, (fun h => by cases h), fun g' c' hg' hc' b hb => ?_, (fun h => by cases h)⟩
        · unfold OwnAt
          simp only
          refine ⟨cap, _, rfl, setRow_heap w g cc _ _ _ hc, hroom, hmx, ?_⟩
          simp only [List.size_toArray, List.length_append, List.length_take, List.length_drop, Array.length_toList]
          omega
        · simp at hb; subst hb; rw [size_setRow]; exact (Array.getElem?_eq_some_iff.1 hc).1
        · cases hg'
          simp at hb
          subst hb
          rw [hc] at hc'
          cases hc'
          refine ⟨_, setRow_heap w g _ _ _ _ hc, ?_⟩
          simp only
          rw [Nat.add_mul, ← hl, List.take_append_of_le_length (by simp; omega), List.take_of_length_le (by simp; omega)]
      · have holds : ∀ j u, (cc.toList.take (k.len * i.size))[j]? = some u → w.cell? ((⟨g, 0, none⟩ : Addr).add j) = some u := by
          intro j u hj
          rw [List.getElem?_take] at hj
          split at hj
          · rw [add_none]
            simp only [World.cell?, hc, Nat.zero_add]
            simpa using hj
          · cases hj
        have hol : (cc.toList.take (k.len * i.size)).length = k.len * i.size := by
          simp only [List.length_take, Array.length_toList, hcs, hks]
          exact Nat.min_eq_left (Nat.mul_le_mul_right _ hle)
        have hr := run_append_grow (P := P) w t ty e i z ht hi hz ⟨g, 0, none⟩ k.len cap _ hol holds ad m c news hl hnews (by omega) (by simp only [maxLen] at h63; omega) (growslice_fits (by omega) hbytes)
        have hge := grownCap_ge w (k.len + m) cap e
        have hmx' := grownCap_le_maxLen w (k.len + m) cap e h63
        refine ⟨_, _, ⟨some w.heap.size, k.s, k.len + m, e⟩, hr, ?_, rfl, rfl, rfl, rfl, rfl, by simp, fun b hb _ => Below.heap_alloc w.drew _ b hb, fun b hb => .inr (by simpa using hb.symm), fun b hb => ?_, (fun h => by cases h), fun g' c' hg' hc' b hb => ?_, (fun h => by cases h)⟩
        · unfold OwnAt
          simp only
          refine ⟨_, _, rfl, heap_alloc_new w.drew _, hge, hmx', ?_⟩
          simp only [Array.size_append, List.size_toArray, size_zeroCells, hzs, hol, hl, ← Nat.add_mul, hks]
          congr 1
          omega
        · simp at hb; subst hb; simp
        · cases hg'
          simp at hb
          subst hb
          rw [hc] at hc'
          cases hc'
          refine ⟨_, heap_alloc_new w.drew _, ?_⟩
          simp only [Array.toList_append, List.append_assoc]
          rw [← List.append_assoc, Nat.add_mul, ← hl]
          conv => lhs; arg 1; rw [← hol]
          rw [← List.length_append]
          exact List.take_left

def mv (φ : Names) (lo : Option Nat) (nx : Nat) (k : Bk) : Names := fun m => if m = nx then some k else if lo = some m then none else φ m

theorem mv_new (φ : Names) (lo : Option Nat) (nx : Nat) (k : Bk) : mv φ lo nx k nx = some k := by simp [mv]
theorem mv_old {φ : Names} {lo : Option Nat} {nx m : Nat} {k : Bk} (h : m ≠ nx) : mv φ lo nx k m = if lo = some m then none else φ m := by simp [mv, h]

/-- Behind an append. -/
theorem Rel.grow (h : Rel X W0 φ ρ σ fs w) {lo : Option Nat} {H : List (Nat × Ob)} (hH : ∀ m, look H m = if lo = some m then none else look σ.heap m) {k k' : Bk} (hlo : ∀ l, lo = some l → φ l = some k) (hnone : lo = none → k.g = none) {w' : World} {ks : List LK} {e' : Ex} {v' : Value}
    (hos : w'.os = w.os) (htp : w'.tape = w.tape) (hou : w'.output = w.output) (hsz : w.heap.size ≤ w'.heap.size) (hblk : ∀ b, b < w.heap.size → some b ≠ k.g → w'.heap[b]? = w.heap[b]?) (hg' : ∀ b, k'.g = some b → k.g = some b ∨ b = w.heap.size) (hlt : ∀ b, k'.g = some b → b < w'.heap.size)
    (hown : OwnAt w' k' v') (ho : Evo X φ (mv φ lo σ.nx k') σ.nx w w' → ObR w' X (mv φ lo σ.nx k') ρ (σ.nx + 1) k' (.rows ks e')) :
    Rel X W0 (mv φ lo σ.nx k') ρ { σ with nx := σ.nx + 1, heap := (σ.nx, .rows ks e') :: H } fs w' ∧ SVR w' X (mv φ lo σ.nx k') ρ (σ.nx + 1) (.own σ.nx none) v' ∧ Evo X φ (mv φ lo σ.nx k') σ.nx w w' := by
  have klow : ∀ g, k.g = some g → W0.heap.size ≤ g ∧ g < w.heap.size ∧ ∃ l, lo = some l ∧ φ l = some k := by
    intro g hg
    cases hl : lo with
    | none => rw [hnone hl] at hg; cases hg
    | some l => exact ⟨(h.low l k g (hlo l hl) hg).1, (h.low l k g (hlo l hl) hg).2, l, rfl, hlo l hl⟩
  have hother : ∀ m kk g, m ≠ σ.nx → mv φ lo σ.nx k' m = some kk → kk.g = some g → φ m = some kk ∧ k.g ≠ some g := by
    intro m kk g hm hmk hkg
    rw [mv_old hm] at hmk
    split at hmk
    · cases hmk
    · rename_i hne
      refine ⟨hmk, fun hk => ?_⟩
      obtain ⟨_, _, l, hl, hφl⟩ := klow g hk
      exact hne (by rw [hl, h.inj m l kk k g hmk hφl hkg hk])
  have ev : Evo X φ (mv φ lo σ.nx k') σ.nx w w' := by
    refine ⟨hsz, fun b hb hn => hblk b hb (fun hk => hn ?_), fun l kk g c hl hkk hkg hc => ?_, fun l hl => ?_, fun b hb hob => ?_⟩
    · obtain ⟨_, _, l, _, hφl⟩ := klow b hk.symm
      exact .inr ⟨l, k, hφl, hk.symm⟩
    · obtain ⟨hφ, hne⟩ := hother l kk g (by omega) hkk hkg
      exact ⟨c, by rw [hblk g (h.low l kk g hφ hkg).2 (fun hc => hne hc.symm)]; exact hc, rfl⟩
    · rw [mv_old (by omega)]
      split
      · exact .inr rfl
      · exact .inl rfl
    · rcases hob with hx | ⟨l, kk, hkk, hkg⟩
      · exact .inl hx
      · by_cases hl : l = σ.nx
        · subst hl
          rw [mv_new] at hkk
          cases hkk
          rcases hg' b hkg with hk | hk
          · obtain ⟨_, _, l, _, hφl⟩ := klow b hk
            exact .inr ⟨l, k, hφl, hk⟩
          · omega
        · exact .inr ⟨l, kk, (hother l kk b hl hkk hkg).1, hkg⟩
  refine ⟨⟨h.below.trans ⟨hos, htp, hou, hsz, fun b hb => hblk b (Nat.lt_of_lt_of_le hb h.size_le) (fun hk => ?_)⟩, h.old, fun l kk g hl hg => ?_, fun l l' kk kk' g hl hl' hg1 hg2 => ?_, fun l kk hl => ?_, h.nv, h.known,
    FrsR.evo ev (List.prefix_refl _) (Nat.le_succ _) _ _ h.frames, fun l ob hl => ?_⟩, ?_, ev⟩
  · have := (klow b hk.symm).1; omega
  · by_cases he : l = σ.nx
    · subst he
      rw [mv_new] at hl
      cases hl
      refine ⟨?_, hlt g hg⟩
      rcases hg' g hg with hk | hk
      · exact (klow g hk).1
      · have := h.size_le; omega
    · have := h.low l kk g (hother l kk g he hl hg).1 hg
      omega
  · by_cases he : l = σ.nx
    · by_cases he' : l' = σ.nx
      · omega
      · subst he
        rw [mv_new] at hl
        cases hl
        obtain ⟨hφ, hne⟩ := hother l' kk' g he' hl' hg2
        rcases hg' g hg1 with hk | hk
        · exact (hne hk).elim
        · have := (h.low l' kk' g hφ hg2).2; omega
    · by_cases he' : l' = σ.nx
      · subst he'
        rw [mv_new] at hl'
        cases hl'
        obtain ⟨hφ, hne⟩ := hother l kk g he hl hg1
        rcases hg' g hg2 with hk | hk
        · exact (hne hk).elim
        · have := (h.low l kk g hφ hg1).2; omega
      · exact h.inj l l' kk kk' g (hother l kk g he hl hg1).1 (hother l' kk' g he' hl' hg2).1 hg1 hg2
  · by_cases he : l = σ.nx
    · subst he; simp
    · rw [mv_old he] at hl
      split at hl
      · cases hl
      · have := h.names l kk hl; simp; omega
  · simp only [look] at hl
    split at hl
    · rename_i he
      have he' := eq_of_beq he
      subst he'
      cases hl
      exact ⟨k', mv_new _ _ _ _, ho ev⟩
    · rename_i he
      have he' : l ≠ σ.nx := fun hc => he (by simp [hc])
      rw [hH] at hl
      split at hl
      · cases hl
      · rename_i hne
        obtain ⟨kk, hkk, hob⟩ := h.heap l ob hl
        refine ⟨kk, by rw [mv_old he', if_neg hne]; exact hkk, ?_⟩
        exact ObR.evo ev (List.prefix_refl _) (Nat.le_succ _) (fun g hg => hblk g (h.low l kk g hkk hg).2 (fun hc => by
          obtain ⟨_, _, l', hl', hφl⟩ := klow g hc.symm
          exact hne (by rw [hl', h.inj l l' kk k g hkk hφl hg hc.symm]))) ob hob
  · simp only [SVR]
    refine ⟨by omega, ?_, fun kk hk => ?_⟩
    · unfold OwnAt at hown
      split at hown
      · exact ⟨_, _, _, hown.2⟩
      · obtain ⟨_, _, hv, _⟩ := hown; exact ⟨_, _, _, hv⟩
    · rw [mv_new] at hk
      cases hk
      exact hown

theorem den_grow {e ey : Ex} {xs ys : List (List PV)} (h : e.den ρ = .row xs) (hy : ey.den ρ = .row ys) : (growE e ey).den ρ = .row (xs ++ ys) := by
  unfold growE
  split
  · simp only [Ex.den, BO.on, PV.r, List.nil_append, PV.row.injEq] at hy
    simp only [Ex.den, BO.on, h, PV.r, hy]
  · simp only [Ex.den, BO.on, h, hy, PV.r]

theorem fits_grow {n : Nat} {e ey : Ex} (h : e.fits n = true) (hy : ey.fits n = true) : (growE e ey).fits n = true := by
  unfold growE
  split
  · simp only [Ex.fits, Bool.and_eq_true] at hy ⊢; exact ⟨h, hy.2⟩
  · simp only [Ex.fits, Bool.and_eq_true]; exact ⟨h, hy⟩

theorem look_del {α : Type} (l : List (Nat × α)) (t m : Nat) : look (del l t) m = if some t = some m then none else look l m := by
  by_cases h : t = m
  · subst h; rw [if_pos rfl]; exact look_del_same l t
  · rw [if_neg (by simpa using h)]; exact look_del_other l t m (by omega)

theorem Rel.leafCells (h : Rel X W0 φ ρ σ fs w) {ks : List LK} {s : SV} {v : Value} {e : Ex} (hs : SVR w X φ ρ σ.nx s v) (hl : σ.leaf (.row ks) s = some e) :
    ∃ ys ad cap L, e.den ρ = .row ys ∧ v = .slice ad ys.length cap ∧ L.length = ys.length * ks.length ∧ Rws w (Owned X φ) ks ys L ∧ (ys.length = 0 ∨ ∃ ad', ad = some ad' ∧ ∀ j u, L[j]? = some u → w.cell? (ad'.add j) = some u) ∧ ∀ u ∈ L, u.oneCell' = true := by
  have plain : ∀ {p : PV}, RV w (Owned X φ) (.row ks) p v → ∃ ys ad cap L, p = .row ys ∧ v = .slice ad ys.length cap ∧ L.length = ys.length * ks.length ∧ Rws w (Owned X φ) ks ys L ∧ (ys.length = 0 ∨ ∃ ad', ad = some ad' ∧ ∀ j u, L[j]? = some u → w.cell? (ad'.add j) = some u) ∧ ∀ u ∈ L, u.oneCell' = true := by
    intro p hp
    obtain ⟨ys, ad, cap, h1, h2, h3, h4⟩ := row_cells hp
    rcases h4 with rfl | ⟨ad', L, ha, _, hL, hR, hc, ho⟩
    · exact ⟨[], ad, cap, [], h1, h2, by simp, fun i x hi => by simp at hi, .inl rfl, fun u hu => by cases hu⟩
    · exact ⟨ys, ad, cap, L, h1, h2, hL, hR, .inr ⟨ad', ha, hc⟩, ho⟩
  cases s with
  | ex k' e' =>
    simp only [St.leaf] at hl
    split at hl
    · rename_i hk
      cases hl
      have := LK.same_eq _ _ hk
      subst this
      simp only [SVR] at hs
      exact plain hs.2
    · cases hl
  | nilS =>
    simp only [St.leaf, Option.some.injEq] at hl
    subst hl
    simp only [SVR] at hs
    subst hs
    exact ⟨[], none, 0, [], rfl, rfl, by simp, fun i x hi => by simp at hi, .inl rfl, fun u hu => by cases hu⟩
  | own l p =>
    simp only [St.leaf] at hl
    split at hl
    · rename_i ks' e' ks2 hlk hkeq
      cases hkeq
      split at hl
      · rename_i hk
        have := LK.sames_eq _ _ hk
        subst this
        cases hl
        obtain ⟨kk, hφ, ho⟩ := h.heap l _ hlk
        simp only [ObR] at ho
        obtain ⟨hf, hks, xs, hx, hlen, hm⟩ := ho
        cases p with
        | none =>
          simp only [SVR] at hs
          have hat := hs.2.2 kk hφ
          unfold OwnAt at hat
          cases hg : kk.g with
          | none =>
            rw [hg] at hat hm
            simp only at hat hm
            subst hm
            exact ⟨[], none, 0, [], hx, hat.2, by simp, fun i x hi => by simp at hi, .inl rfl, fun u hu => by cases hu⟩
          | some g =>
            rw [hg] at hat hm
            simp only at hat hm
            obtain ⟨cap, c, rfl, hc, hcap, hmx, hcs⟩ := hat
            obtain ⟨c', hc', hi⟩ := hm
            rw [hc] at hc'
            cases hc'
            have hR : Rws w (Owned X φ) ks' xs c.toList := hi
            have hLl : (c.toList.take (xs.length * ks'.length)).length = xs.length * ks'.length := by
              simp only [List.length_take, Array.length_toList, hcs, hks]
              exact Nat.min_eq_left (Nat.mul_le_mul_right _ (by omega))
            refine ⟨xs, _, cap, _, hx, by rw [hlen], hLl, hR.take, .inr ⟨_, rfl, fun j u hj => ?_⟩, fun u hu => ?_⟩
            · rw [List.getElem?_take] at hj
              split at hj
              · rw [add_none]
                simp only [World.cell?, hc, Nat.zero_add]
                simpa using hj
              · cases hj
            · exact Rws.one hR.take hLl u hu
        | some q =>
          obtain ⟨lo, n⟩ := q
          simp only [SVR] at hs
          obtain ⟨hlo, hn, _, _, hat⟩ := hs
          obtain ⟨h0, h1, hle, ⟨mm, hmm⟩, ad, cap, rfl, hcap, had⟩ := hat kk hφ
          have hden : (Ex.tri .slice e' lo n).den ρ = .row ((xs.drop (lo.den ρ).i.toNat).take (n.den ρ).i.toNat) := by simp [Ex.den, TO.on, hx, PV.r]
          have hlen' : ((xs.drop (lo.den ρ).i.toNat).take (n.den ρ).i.toNat).length = (n.den ρ).i.toNat := by simp; omega
          rcases Nat.eq_zero_or_pos (n.den ρ).i.toNat with hz | hpos
          · have h00 : (xs.drop (lo.den ρ).i.toNat).take (n.den ρ).i.toNat = [] := List.eq_nil_of_length_eq_zero (by omega)
            rw [h00] at hden
            exact ⟨[], ad, cap, [], hden, by rw [hz]; rfl, by simp, fun i x hi => by simp at hi, .inl rfl, fun u hu => by cases hu⟩
          · obtain ⟨g, hg, rfl⟩ := had hpos
            rw [hg] at hm
            simp only at hm
            obtain ⟨c, hc, hi⟩ := hm
            have hR : Rws w (Owned X φ) ks' xs c.toList := hi
            have hfit : xs.length * ks'.length ≤ c.toList.length := by
              rcases Nat.eq_zero_or_pos ks'.length with hk0 | hkp
              · rw [hk0]; omega
              have hxp : 0 < xs.length := by omega
              have := (hR (xs.length - 1) _ (List.getElem?_eq_getElem (by omega))).length.2
              simp only [List.length_take, List.length_drop] at this
              have h2 : xs.length * ks'.length = (xs.length - 1) * ks'.length + ks'.length := by
                conv => lhs; rw [show xs.length = (xs.length - 1) + 1 by omega, Nat.add_mul, Nat.one_mul]
              omega
            have hLl : ((c.toList.drop ((lo.den ρ).i.toNat * ks'.length)).take ((n.den ρ).i.toNat * ks'.length)).length = (n.den ρ).i.toNat * ks'.length := by
              have : ((lo.den ρ).i.toNat + (n.den ρ).i.toNat) * ks'.length ≤ xs.length * ks'.length := Nat.mul_le_mul_right _ (by omega)
              rw [Nat.add_mul] at this
              simp only [List.length_take, List.length_drop]
              omega
            have hR' : Rws w (Owned X φ) ks' ((xs.drop (lo.den ρ).i.toNat).take (n.den ρ).i.toNat) ((c.toList.drop ((lo.den ρ).i.toNat * ks'.length)).take ((n.den ρ).i.toNat * ks'.length)) := by
              intro i x hix
              have hil : i < (n.den ρ).i.toNat := by have := (List.getElem?_eq_some_iff.1 hix).1; omega
              rw [List.getElem?_take_of_lt hil, List.getElem?_drop] at hix
              have := hR _ x hix
              have hle2 : (i + 1) * ks'.length ≤ (n.den ρ).i.toNat * ks'.length := Nat.mul_le_mul_right _ hil
              rw [Nat.add_mul] at hle2
              rw [List.drop_take, List.take_take, Nat.min_eq_left (by omega), List.drop_drop, ← Nat.add_mul]
              exact this
            refine ⟨_, _, cap, _, hden, by rw [hlen'], by rw [hLl, hlen'], hR', .inr ⟨_, rfl, fun j u hj => ?_⟩, fun u hu => ?_⟩
            · rw [List.getElem?_take] at hj
              split at hj
              · rw [List.getElem?_drop] at hj
                rw [add_none]
                simp only [World.cell?, hc, hks]
                simpa using hj
              · cases hj
            · exact Rws.one hR' (by rw [hLl, hlen']) u hu
      · cases hl
    · cases hl
  | _ => simp [St.leaf] at hl

theorem append_sound (h : Rel X W0 φ ρ σ (a :: fs) w) {o : Oper} {args : Array Operand} {ts : Array TypeId} (hop : o.op = .call { callee := .builtin .append, args, argTypes := ts }) {gs : List Ex} {sv : SV} {σ' : St} (hs : simple P σ o.op = some (gs, sv, σ')) :
    (∀ g ∈ gs, g.fits ρ.length = true) ∧ ((∀ g ∈ gs, (g.den ρ).b = true) → ∃ φ' v w', (execOp a.eval o).run P w = .ok (.value v) w' ∧ Rel X W0 φ' ρ σ' (a :: fs) w' ∧ SVR w' X φ' ρ σ'.nx sv v ∧ Evo X φ φ' σ.nx w w') := by
  obtain ⟨consts, hrun⟩ := run_builtin (a := a) hop
  have hevs := SVRs.evs h args.toList
  rw [hop] at hs
  simp only [simple, builtin1] at hs
  unfold appendB at hs
  split at hs
  · rename_i x y hxy
    rw [hxy] at hevs
    simp only [SVRs] at hevs
    obtain ⟨vx, _, hl, hvx, vy, _, rfl, hvy, rfl⟩ := hevs
    have hargs : args.map a.eval = #[vx, vy] := by apply Array.ext'; simpa using hl
    split at hs
    · rename_i t u hts
      split at hs
      · rename_i el hu
        split at hs
        · rename_i ks ti hks hti
          split at hs
          · rename_i hc
            simp only [Bool.and_eq_true, beq_iff_eq, decide_eq_true_eq] at hc
            obtain ⟨⟨⟨⟨rfl, hkl⟩, hpos⟩, hby⟩, hzc⟩ := hc
            simp only [Option.map_eq_some_iff] at hzc
            obtain ⟨z, hz, hzs⟩ := hzc
            have hts' : ts = #[t, t] := by apply Array.ext'; simpa using hts
            split at hs
            · rename_i ey hley
              obtain ⟨fey, hRV⟩ := h.leaf hvy hley (U := fun b => False) (fun b hb => hb.elim) (fun _ _ _ _ _ _ _ hb => hb)
              obtain ⟨ys, ad, cap, L0, dy, rfl, hL0⟩ := h.leafCells hvy hley
              -- the cells that are appended, once more, outside what is owned where they are frozen
              have main : ∀ (lo : Option Nat) (H : List (Nat × Ob)) (e : Ex) (k : Bk) (xs : List (List PV)), (∀ m, look H m = if lo = some m then none else look σ.heap m) → (∀ l, lo = some l → φ l = some k) → (lo = none → k.g = none) → OwnAt w k vx → k.s = ti.size →
                  e.den ρ = .row xs → e.fits ρ.length = true → xs.length = k.len → (k.g = none → xs = []) → (∀ g, k.g = some g → ∃ c, w.heap[g]? = some (.cells c k.el (0, 0)) ∧ Rws w (Owned X φ) ks xs c.toList) →
                  (∃ L : List Value, L.length = ys.length * ks.length ∧ Rws w (Owned X φ) ks ys L ∧ (ys.length = 0 ∨ ∃ ad', ad = some ad' ∧ ∀ j u, L[j]? = some u → w.cell? (ad'.add j) = some u) ∧ ∀ u ∈ L, u.oneCell' = true) →
                  (∀ g ∈ roomE e ey, g.fits ρ.length = true) ∧ ((∀ g ∈ roomE e ey, (g.den ρ).b = true) → ∃ φ' v w', (execOp a.eval o).run P w = .ok (.value v) w' ∧ Rel X W0 φ' ρ { σ with nx := σ.nx + 1, heap := (σ.nx, .rows ks (growE e ey)) :: H } (a :: fs) w' ∧
                    SVR w' X φ' ρ (σ.nx + 1) (.own σ.nx none) v ∧ Evo X φ φ' σ.nx w w') := by
                intro lo H e k xs hH hlo hnone hown hkss dx fe hxl hxnone hxrow hL
                obtain ⟨L, hLl, hLr, hLc, hLo⟩ := hL
                refine ⟨fun g hg => ?_, fun hg => ?_⟩
                · simp only [roomE, List.mem_singleton] at hg
                  subst hg
                  exact Ex.fits_mk2 (Ex.fits_mk2 (Ex.fits_mk1 fe) (Ex.fits_mk1 fey)) rfl
                · have hroom := hg _ (List.mem_singleton.2 rfl)
                  rw [Ex.den_mk2, Ex.den_mk2, den_len dx, den_len dy] at hroom
                  have hroom' : (xs.length : Int) + ys.length ≤ roomLen := of_decide_eq_true hroom
                  simp only [roomLen] at hroom'
                  have hsum : k.len + ys.length ≤ 4294967296 := by omega
                  have hbb : (k.len + ys.length) * ti.bytes ≤ 140737488355328 := by
                    have h1 : (k.len + ys.length) * ti.bytes ≤ 4294967296 * 4096 := Nat.mul_le_mul hsum hby
                    omega
                  obtain ⟨v', w', k', hr, hown', hks', hlen', hos, htp, hou, hsz, hblk, hg', hlt, hnone', hcont, hcont0⟩ := append_run (P := P) (ty := o.type) (c := cap) hu hti hz hzs hpos hown hkss (by rw [hLl, hkl]) hLc hLo (by simp only [maxLen]; omega) hbb
                  obtain ⟨r1, r2, r3⟩ := Rel.grow (ks := ks) (e' := growE e ey) h hH hlo hnone hos htp hou hsz hblk hg' hlt hown' (fun ev => by
                    simp only [ObR]
                    refine ⟨fits_grow fe fey, by omega, xs ++ ys, den_grow dx dy, by simp; omega, ?_⟩
                    cases hgk : k'.g with
                    | none =>
                      simp only
                      have := hnone' hgk
                      have h1 : xs = [] := List.eq_nil_of_length_eq_zero (by omega)
                      have h2 : ys = [] := List.eq_nil_of_length_eq_zero (by omega)
                      rw [h1, h2]; rfl
                    | some b =>
                      simp only
                      cases hgo : k.g with
                      | none =>
                        obtain ⟨c', hc', htk⟩ := hcont0 hgo b hgk
                        refine ⟨c', hc', ?_⟩
                        have hx0 := hxnone hgo
                        have hk0 : k.len = 0 := by rw [← hxl, hx0]; rfl
                        rw [hk0, Nat.zero_add] at htk
                        have : Rws w (Owned X φ) ks (xs ++ ys) c'.toList := by
                          rw [hx0, List.nil_append, ← List.take_append_drop (ys.length * ti.size) c'.toList, htk]
                          have := Rws.append (w := w) (U := Owned X φ) (ks := ks) (xs := []) (ys := ys) (L := []) (M := L) (R := c'.toList.drop (ys.length * ti.size)) (fun i x hi => by simp at hi) (by simp) hLr hLl
                          simpa using this
                        exact Rws.mono ev.size ev.rv this
                      | some g =>
                        obtain ⟨c, hc, hcr⟩ := hxrow g hgo
                        obtain ⟨c', hc', htk⟩ := hcont g c hgo hc b hgk
                        refine ⟨c', hc', ?_⟩
                        have htl : (c.toList.take (k.len * ti.size)).length = xs.length * ks.length := by
                          unfold OwnAt at hown
                          rw [hgo] at hown
                          simp only at hown
                          obtain ⟨cp, cc, _, hcc, hle, _, hcs⟩ := hown
                          rw [hc] at hcc
                          cases hcc
                          simp only [List.length_take, Array.length_toList, hcs, hkss, hxl, hkl]
                          exact Nat.min_eq_left (Nat.mul_le_mul_right _ hle)
                        have : Rws w (Owned X φ) ks (xs ++ ys) c'.toList := by
                          rw [← List.take_append_drop ((k.len + ys.length) * ti.size) c'.toList, htk]
                          refine Rws.append ?_ htl hLr hLl
                          have := hcr.take
                          rw [hxl, hkl] at this
                          exact this
                        exact Rws.mono ev.size ev.rv this)
                  refine ⟨_, v', w', ?_, r1, r2, r3⟩
                  rw [hrun, hargs, hts']
                  simp only [Sem.run_bind, Sem.run_pure, Result.andThen_ok, invoke, builtin, hr]
              -- the appended cells, as what is owned allows it
              have hL : ∃ L : List Value, L.length = ys.length * ks.length ∧ Rws w (Owned X φ) ks ys L ∧ (ys.length = 0 ∨ ∃ ad', ad = some ad' ∧ ∀ j u, L[j]? = some u → w.cell? (ad'.add j) = some u) ∧ ∀ u ∈ L, u.oneCell' = true := ⟨L0, hL0⟩
              split at hs
              · simp only [Option.some.injEq, Prod.mk.injEq] at hs
                obtain ⟨rfl, rfl, rfl⟩ := hs
                simp only [SVR] at hvx
                exact main none σ.heap .nil ⟨none, ti.size, 0, el⟩ [] (fun m => by simp) (fun l hl => by cases hl) (fun _ => rfl) (by unfold OwnAt; exact ⟨rfl, hvx⟩) rfl rfl rfl rfl (fun _ => rfl) (fun g hg => by cases hg) hL
              · rename_i l
                split at hs
                · rename_i ks' e hlk
                  split at hs
                  · rename_i hkk
                    have := LK.sames_eq _ _ hkk
                    subst this
                    simp only [Option.some.injEq, Prod.mk.injEq] at hs
                    obtain ⟨rfl, rfl, rfl⟩ := hs
                    obtain ⟨k, hφ, ho⟩ := h.heap l _ hlk
                    simp only [ObR] at ho
                    obtain ⟨fe, hks2, xs, dx, hxl, hm⟩ := ho
                    simp only [SVR] at hvx
                    exact main (some l) (del σ.heap l) e k xs (fun m => look_del _ _ _) (fun l' hl' => by cases hl'; exact hφ) (fun hc => by cases hc) (hvx.2.2 k hφ) (by rw [hks2, hkl]) dx fe hxl (fun hg => by rw [hg] at hm; exact hm)
                      (fun g hg => by rw [hg] at hm; exact hm) hL
                  · cases hs
                · cases hs
              · cases hs
            · cases hs
          · cases hs
        · cases hs
      · cases hs
    · cases hs
  · cases hs

end

end Go.Proofs.Ytpaabecgngbjcaa.Sx
set_option linter.unusedVariables false
set_option linter.unusedSimpArgs false
namespace Go.Proofs.Ytpaabecgngbjcaa.Sx
open Go.RowKit

section
variable {P : Program} {X : Env} {W0 : World} {φ : Names} {ρ : List PV} {σ : St} {a : Act} {fs : List Act} {w : World} {nx : Nat} {U : Nat → Prop}

theorem min_nat (m n : Nat) : (if (n : Int) < (m : Int) then (n : Int) else m) = (Nat.min m n : Nat) := by
  by_cases hlt : n < m
  · rw [if_pos (by omega), show Nat.min m n = n from Nat.min_eq_right (by omega)]
  · rw [if_neg (by omega), show Nat.min m n = m from Nat.min_eq_left (by omega)]

theorem copy_sound (h : Rel X W0 φ ρ σ (a :: fs) w) {o : Oper} {args : Array Operand} {ts : Array TypeId} (hop : o.op = .call { callee := .builtin .copy, args, argTypes := ts }) {gs : List Ex} {sv : SV} {σ' : St} (hs : simple P σ o.op = some (gs, sv, σ')) :
    gs = [] ∧ σ'.nx = σ.nx ∧ ∃ v w', (execOp a.eval o).run P w = .ok (.value v) w' ∧ Rel X W0 φ ρ σ' (a :: fs) w' ∧ SVR w' X φ ρ σ'.nx sv v ∧ Evo X φ φ σ.nx w w' := by
  obtain ⟨consts, hrun⟩ := run_builtin (a := a) hop
  have hevs := SVRs.evs h args.toList
  rw [hop] at hs
  simp only [simple, builtin1] at hs
  unfold copyB at hs
  split at hs
  · rename_i l y hxy
    rw [hxy] at hevs
    simp only [SVRs] at hevs
    obtain ⟨vx, _, hl, hvx, vy, _, rfl, hvy, rfl⟩ := hevs
    have hargs : args.map a.eval = #[vx, vy] := by apply Array.ext'; simpa using hl
    split at hs
    · rename_i t u hts
      split at hs
      · rename_i el el2 ks e hu hu2 hlk
        split at hs
        · rename_i hsz
          have hsz' := eq_of_beq hsz
          have hts' : ts = #[t, u] := by apply Array.ext'; simpa using hts
          split at hs
          · rename_i ey hley
            simp only [Option.some.injEq, Prod.mk.injEq] at hs
            obtain ⟨rfl, rfl, rfl⟩ := hs
            obtain ⟨fey, _⟩ := h.leaf hvy hley (U := fun b => False) (fun b hb => hb.elim) (fun _ _ _ _ _ _ _ hb => hb)
            obtain ⟨ys, ad, cap, L, dy, rfl, hLl, hLr, hLc, hLo⟩ := h.leafCells hvy hley
            obtain ⟨k, hφ, ho⟩ := h.heap l _ hlk
            simp only [ObR] at ho
            obtain ⟨fe, hks, xs, dx, hxl, hm⟩ := ho
            simp only [SVR] at hvx
            have hown := hvx.2.2 k hφ
            have hd : (Ex.bin .copy e ey).den ρ = .row (ys.take xs.length ++ xs.drop ys.length) := by simp only [Ex.den, BO.on, dx, dy, PV.r]
            have hfd : (Ex.bin .copy e ey).fits ρ.length = true := by simp only [Ex.fits, Bool.and_eq_true]; exact ⟨fe, fey⟩
            have hcl : (ys.take xs.length ++ xs.drop ys.length).length = xs.length := by simp; omega
            have hmin : (Ex.mk2 (.min .i64) (.mk1 .len ey) (.mk1 .len e)).den ρ = .int .i64 (Nat.min ys.length xs.length) := by
              rw [Ex.den_mk2, den_len dx, den_len dy]
              simp only [BO.on, i_int]
              congr 1
              exact min_nat ys.length xs.length
            -- the first cells of what is copied
            have hn : Nat.min ys.length xs.length * ks.length ≤ L.length := by rw [hLl]; exact Nat.mul_le_mul_right _ (Nat.min_le_left _ _)
            have hfirst : (Builtin.firstCells ks.length (Nat.min ys.length xs.length) (.slice ad ys.length cap)).run P w = .ok (L.take (Nat.min ys.length xs.length * ks.length)).toArray w := by
              have htl : (L.take (Nat.min ys.length xs.length * ks.length)).length = Nat.min ys.length xs.length * ks.length := by rw [List.length_take]; omega
              rcases hLc with h0 | ⟨ad', rfl, hc⟩
              · have : Nat.min ys.length xs.length = 0 := by rw [h0]; exact Nat.zero_min _
                rw [this]
                cases ad <;> simp [Builtin.firstCells, loadCells, loadCellsFrom]
              · have := run_loadCells_list (P := P) (w := w) ad' (L.take (Nat.min ys.length xs.length * ks.length)) (fun j v hj => by
                  rw [List.getElem?_take] at hj
                  split at hj
                  · exact hc j v hj
                  · cases hj)
                rw [htl] at this
                simpa [Builtin.firstCells] using this
            refine ⟨rfl, rfl, .int .i64 (Nat.min ys.length xs.length), ?_⟩
            unfold OwnAt at hown
            cases hg : k.g with
            | none =>
              rw [hg] at hown hm
              simp only at hown hm
              subst hm
              refine ⟨w, ?_, ⟨h.below, h.old, h.low, h.inj, h.names, h.nv, h.known, h.frames, fun m ob hm => ?_⟩, int_svr (Ex.fits_mk2 (Ex.fits_mk1 fey) (Ex.fits_mk1 fe)) hmin, Evo.refl _ _ _ _⟩
              · rw [hrun, hargs, hts', hown.2]
                have h00 : Nat.min ys.length 0 = 0 := Nat.min_zero _
                simp only [List.length_nil, h00] at hfirst ⊢
                simp only [Sem.run_bind, Sem.run_pure, Result.andThen_ok, invoke, builtin, Builtin.copy_, List.getElem?_toArray, List.getElem?_cons_zero, List.getElem?_cons_succ, run_underlying hu, Builtin.lenOf, run_size hsz', h00, hfirst, goInt]
              · by_cases he : m = l
                · subst he
                  rw [look_put_same] at hm
                  cases hm
                  refine ⟨k, hφ, ?_⟩
                  simp only [ObR]
                  refine ⟨hfd, hks, _, hd, by rw [hcl, hxl], ?_⟩
                  rw [hg]
                  simp
                · rw [look_put_other _ _ _ _ he] at hm
                  exact h.heap m ob hm
            | some g =>
              rw [hg] at hown hm
              simp only at hown hm
              obtain ⟨cap', c, rfl, hc, hle, hmx, hcs⟩ := hown
              obtain ⟨c', hc', hrow⟩ := hm
              rw [hc] at hc'
              cases hc'
              have htl : (L.take (Nat.min ys.length xs.length * ks.length)).length = Nat.min ys.length xs.length * ks.length := by rw [List.length_take]; omega
              have hfit : 0 + (L.take (Nat.min ys.length xs.length * ks.length)).length ≤ c.toList.length := by
                have hcl' : c.toList.length = cap' * ks.length := by simp only [Array.length_toList, hcs, hks]
                rw [htl, hcl', Nat.zero_add]
                exact Nat.mul_le_mul_right _ (Nat.le_trans (Nat.min_le_right _ _) (by omega))
              have hst := run_storeCells_at P g 0 k.el (L.take (Nat.min ys.length xs.length * ks.length)) 0 c w hc (by simpa using hfit) (fun v hv => hLo v (List.mem_of_mem_take hv))
              simp only [Nat.add_zero, Nat.zero_add] at hst
              have hsp := splice_len hfit
              have ev : Evo X φ φ σ.nx w (w.setRow g (splice c.toList 0 (L.take (Nat.min ys.length xs.length * ks.length))).toArray) := Evo.write hφ hg hc (by simpa using hsp)
              refine ⟨w.setRow g (splice c.toList 0 (L.take (Nat.min ys.length xs.length * ks.length))).toArray, ?_, h.write hφ hg hc (by simpa using hsp) ?_, int_svr (Ex.fits_mk2 (Ex.fits_mk1 fey) (Ex.fits_mk1 fe)) hmin, ev⟩
              · rw [hrun, hargs, hts']
                rw [← hxl]
                simp only [Sem.run_bind, Sem.run_pure, Result.andThen_ok, invoke, builtin, Builtin.copy_, List.getElem?_toArray, List.getElem?_cons_zero, List.getElem?_cons_succ, run_underlying hu, Builtin.lenOf, run_size hsz', hfirst, goInt, hst]
                simp [splice]
              · simp only [ObR]
                refine ⟨hfd, hks, _, hd, by rw [hcl, hxl], ?_⟩
                rw [hg]
                refine ⟨_, setRow_heap w g c _ _ _ hc, ?_⟩
                refine Rws.mono ev.size ev.rv ?_
                intro i x hi
                show RVs w (Owned X φ) ks x (((splice c.toList 0 (L.take (Nat.min ys.length xs.length * ks.length))).drop (i * ks.length)).take ks.length)
                have hil : i < xs.length := by have := (List.getElem?_eq_some_iff.1 hi).1; omega
                by_cases hiy : i < ys.length
                · rw [List.getElem?_append_left (by simp; omega), List.getElem?_take_of_lt hil] at hi
                  have hr := hLr i x hi
                  have hmn : i < Nat.min ys.length xs.length := Nat.lt_min.2 ⟨hiy, hil⟩
                  have h2 : (i + 1) * ks.length ≤ Nat.min ys.length xs.length * ks.length := Nat.mul_le_mul_right _ hmn
                  rw [Nat.add_mul] at h2
                  unfold splice
                  rw [List.take_zero, List.nil_append, List.drop_append_of_le_length (by omega), List.take_append_of_le_length (by simp; omega), List.drop_take, List.take_take, Nat.min_eq_left (by omega)]
                  exact hr
                · rw [List.getElem?_append_right (by simp; omega), List.getElem?_drop] at hi
                  have hi' : xs[i]? = some x := by rw [← hi]; congr 1; simp; omega
                  have hr := hrow i x hi'
                  have hmn : Nat.min ys.length xs.length = ys.length := Nat.min_eq_left (by omega)
                  rw [hmn] at htl ⊢
                  have h2 : ys.length * ks.length ≤ i * ks.length := Nat.mul_le_mul_right _ (by omega)
                  unfold splice
                  rw [List.take_zero, List.nil_append, Nat.zero_add, htl, List.drop_append, htl, List.drop_eq_nil_of_le (by omega), List.nil_append, List.drop_drop, show ys.length * ks.length + (i * ks.length - ys.length * ks.length) = i * ks.length by omega]
                  exact hr
          · cases hs
        · cases hs
      · cases hs
    · cases hs
  · cases hs

/-- The same but for slots and memory. -/
def St.like (σ σ' : St) : Prop := σ'.nv = σ.nv ∧ σ'.jl = σ.jl ∧ σ'.known = σ.known ∧ σ'.fr = σ.fr

theorem simple_sound (h : Rel X W0 φ ρ σ (a :: fs) w) {o : Oper} {gs : List Ex} {sv : SV} {σ' : St} (hs : simple P σ o.op = some (gs, sv, σ')) :
    (∀ g ∈ gs, g.fits ρ.length = true) ∧ σ.like σ' ∧ σ.nx ≤ σ'.nx ∧ ((∀ g ∈ gs, (g.den ρ).b = true) → ∃ φ' v w', Ran P a o w v w' ∧ Rel X W0 φ' ρ σ' (a :: fs) w' ∧ SVR w' X φ' ρ σ'.nx sv v ∧ Evo X φ φ' σ.nx w w') := by
  by_cases hp : pureOp o.op = true
  · obtain ⟨rfl, h1, h2⟩ := pure_sound h hp hs
    refine ⟨h1, ⟨rfl, rfl, rfl, rfl⟩, Nat.le_refl _, fun hg => ?_⟩
    obtain ⟨v, hr, hv⟩ := h2 hg
    exact ⟨φ, v, w, .inl hr, h, hv, Evo.refl _ _ _ _⟩
  · by_cases hn : newOp o.op = true
    · obtain ⟨⟨ob, rfl⟩, h1, h2⟩ := new_sound h hn hs
      refine ⟨h1, ⟨rfl, rfl, rfl, rfl⟩, Nat.le_succ _, fun hg => ?_⟩
      obtain ⟨φ', v, ob', hr, hrel, hv, hev, _⟩ := h2 hg
      exact ⟨φ', v, _, .inl hr, hrel, hv, hev⟩
    · obtain ⟨dst, op, ty, pos, aft, gd⟩ := o
      simp only at hp hn hs
      cases op with
      | store t ad x =>
        obtain ⟨rfl, rfl, l, i, off, k, g, c, c', ob', _, hφ, hg, hc, hsz, _, rfl, hr, ho⟩ := store_sound (a := a) h (o := { dst, op := .store t ad x, type := ty, pos, after := aft, guard := gd }) rfl hs
        refine ⟨List.forall_mem_nil _, ⟨rfl, rfl, rfl, rfl⟩, Nat.le_refl _, fun _ => ⟨φ, undef, _, .inr ⟨hr, rfl⟩, h.write hφ hg hc hsz ho, by simp [SVR], Evo.write hφ hg hc hsz⟩⟩
      | call c =>
        obtain ⟨callee, args, ts⟩ := c
        cases callee with
        | builtin b =>
          cases b with
          | append =>
            have hlike : σ.like σ' ∧ σ.nx ≤ σ'.nx := by
              have hs' := hs
              simp only [simple, builtin1] at hs'
              unfold appendB at hs'
              repeat' split at hs'
              all_goals first
                | (cases hs'; done)
                | (simp only [Option.some.injEq, Prod.mk.injEq] at hs'; obtain ⟨_, _, rfl⟩ := hs'; exact ⟨⟨rfl, rfl, rfl, rfl⟩, Nat.le_succ _⟩)
            obtain ⟨h1, h2⟩ := append_sound h (o := { dst, op := .call { callee := .builtin .append, args, argTypes := ts }, type := ty, pos, after := aft, guard := gd }) rfl hs
            refine ⟨h1, hlike.1, hlike.2, fun hg => ?_⟩
            obtain ⟨φ', v, w', hr, hrel, hv, hev⟩ := h2 hg
            exact ⟨φ', v, w', .inl hr, hrel, hv, hev⟩
          | copy =>
            have hlike : σ.like σ' := by
              have hs' := hs
              simp only [simple, builtin1] at hs'
              unfold copyB at hs'
              repeat' split at hs'
              all_goals first
                | (cases hs'; done)
                | (simp only [Option.some.injEq, Prod.mk.injEq] at hs'; obtain ⟨_, _, rfl⟩ := hs'; exact ⟨rfl, rfl, rfl, rfl⟩)
            obtain ⟨rfl, hnx, v, w', hr, hrel, hv, hev⟩ := copy_sound h (o := { dst, op := .call { callee := .builtin .copy, args, argTypes := ts }, type := ty, pos, after := aft, guard := gd }) rfl hs
            exact ⟨List.forall_mem_nil _, hlike, by omega, fun _ => ⟨φ, v, w', .inl hr, hrel, hv, hev⟩⟩
          | len => exact absurd rfl hp
          | max => exact absurd rfl hp
          | min => exact absurd rfl hp
          | _ => simp [simple, builtin1] at hs
        | _ => simp [simple] at hs
      | mapUpdate t m x v =>
        obtain ⟨rfl, h1, ⟨l, ob, rfl⟩, h2⟩ := mapUpdate_sound h (o := { dst, op := .mapUpdate t m x v, type := ty, pos, after := aft, guard := gd }) rfl hs
        refine ⟨h1, ⟨rfl, rfl, rfl, rfl⟩, Nat.le_refl _, fun hg => ?_⟩
        obtain ⟨w', hr, hrel, hev⟩ := h2 hg
        exact ⟨φ, undef, w', .inr ⟨hr, rfl⟩, hrel, by simp [SVR], hev⟩
      | slice t x lo hi mx => exact absurd rfl hp
      | _ => first | exact absurd rfl hp | exact absurd rfl hn | (simp [simple] at hs)

end

end Go.Proofs.Ytpaabecgngbjcaa.Sx

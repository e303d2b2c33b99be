-- written by a program of this session (a print of the translation with changes of its own)
import Derived.Test.YtbenanokgfphmaaProg
import Derived.Below
import Derived.Deep.Draws
import Derived.Deep.AppendLies
import Derived.Maps.AppendAt
import Derived.OwnWalk
import Derived.Laws.BytesArg
import Derived.Laws.MakeOwn
import Derived.Laws.OwnMore
import Derived.Deep.OwnRows
import Derived.Tactics
import Derived.Lib.ConvBytes
import Derived.Laws.Slices
import Derived.WalkKit
import Derived.KernelRfl
import Derived.RowKit3
import Derived.Deep.LoopGhost
import Derived.Deep.QuietTactic
import Derived.BigQuiet
import Derived.WideLaws
import Derived.Deep.DeepCutAuto
import Derived.Deep.CutBlock
import Derived.Deep.RegionHeld3
import Derived.Laws.Rows
import Derived.Lib.AppendStr
import Derived.ArgAppend
import Derived.Laws.IdiomCopy
import Derived.OrdersHeld
import Derived.Laws.BitsLemmas
import Derived.RowKit
import Derived.Test.YtbenanokgfphmaaWWords
import Derived.Test.YtbenanokgfphmaaWLast
import Derived.Test.YtbenanokgfphmaaWTab
import Derived.Test.YtbenanokgfphmaaWFour
import Derived.Test.YtbenanokgfphmaaWQPut
import Derived.Test.YtbenanokgfphmaaWApart
import Derived.Test.YtbenanokgfphmaaWArr
import Derived.Test.YtbenanokgfphmaaWZeros
import Derived.Test.YtbenanokgfphmaaWFoot
import Derived.Test.YtbenanokgfphmaaWKept
import Derived.Test.YtbenanokgfphmaaWShare
import Derived.Test.YtbenanokgfphmaaWN
import Derived.Test.YtbenanokgfphmaaWFootNe
import Derived.Test.YtbenanokgfphmaaWAt
import Derived.Test.YtbenanokgfphmaaWEqStruct
import Derived.Test.YtbenanokgfphmaaWRepsOne
import Derived.Test.YtbenanokgfphmaaWInv
import Derived.Test.YtbenanokgfphmaaWInvWords
import Derived.Test.YtbenanokgfphmaaWGuard
import Derived.Test.YtbenanokgfphmaaWNEv
import Derived.Test.YtbenanokgfphmaaWMore
namespace Go.Proofs.Ytbenanokgfphmaa.PA
open Go.RowKit Go.Proofs.YtbenanokgfphmaaW.PrintWords Go.Proofs.YtbenanokgfphmaaW.PrintLast Go.Proofs.YtbenanokgfphmaaW.PrintMore
attribute [local go_sem] max2_int min2_int max_two min_two max_three min_three max_four min_four   -- for this text's walks alone
set_option linter.unusedVariables false
set_option linter.unusedSimpArgs false



def errW : Option Int → Value
  | none => .nilIface
  | some c => .iface 0 (.int .i64 c)
theorem errW_none : errW none = .nilIface := rfl
theorem errW_some (c : Int) : errW (some c) = .iface 0 (.int .i64 c) := rfl
theorem eqArr2 {P : Program} {w : World} {d : Nat} {t e : TypeId} {xs ys : Array Value} {s : Nat} {a0 a1 b0 b1 : Value} {r0 r1 : Bool} (hu : P.underlying t = some (.array 2 e)) (hs : (sizeOf e).run P w = .ok s w)
    (ha0 : (part e xs (0 * s)).run P w = .ok a0 w) (hb0 : (part e ys (0 * s)).run P w = .ok b0 w) (he0 : (Op.equalIn d e a0 b0).run P w = .ok r0 w)
    (ha1 : (part e xs (1 * s)).run P w = .ok a1 w) (hb1 : (part e ys (1 * s)).run P w = .ok b1 w) (he1 : (Op.equalIn d e a1 b1).run P w = .ok r1 w) :
    (Op.equalIn (d + 1) t (.agg xs) (.agg ys)).run P w = .ok (r0 && r1) w := by
  rw [Op.equalIn]
  simp only [Sem.run_bind, run_underlying (h := hu), Result.andThen_ok, hs]
  rw [Std.Legacy.Range.forIn_eq_forIn_range']
  simp only [Nat.zero_mul, Nat.one_mul] at ha0 hb0 ha1 hb1
  cases r0 <;> cases r1 <;> simp [Std.Legacy.Range.size, List.range', Sem.run_bind, ha0, hb0, he0, ha1, hb1, he1, Result.andThen_ok]
theorem cell_again {W : World} {g j : Nat} {u : Value} (h : W.cell? ⟨g, j, none⟩ = some u) : (W.setCell ⟨g, j, none⟩ u).cell? ⟨g, j, none⟩ = some u := World.cell?_setCell_same _ _ _ h
theorem cell_other {W : World} {g i j : Nat} {u v : Value} (h : W.cell? ⟨g, j, none⟩ = some u) (hij : j ≠ i) : (W.setCell ⟨g, i, none⟩ v).cell? ⟨g, j, none⟩ = some u := (World.cell?_setCell_other _ _ _ _ (fun e => hij (show j = i from (congrArg Addr.off e).symm))).trans h

-- the values' own types
/-! #### struct type 23 -/
structure S23 where
  f0 : Bool
  f1 : Int
def z23 : S23 := ⟨false, (0 : Int)⟩
def k23 : Kd S23 := Kd.iso (Kd.pair Kd.bool (Kd.int .i64)) (fun x : S23 => (x.f0, x.f1))
theorem k23_open {w : World} {x : S23} {cs : List Value} (h : k23.K w x cs) : cs = [.bool x.f0, .int .i64 x.f1] := by
  obtain ⟨_, _, rfl, rfl, rfl⟩ := h
  exact rfl
theorem k23_openM {w : World} {base : Nat} {ok : Nat → Prop} {x : S23} {cs : List Value} (h : k23.M w base ok x cs) : cs = [.bool x.f0, .int .i64 x.f1] := by
  obtain ⟨_, _, rfl, rfl, rfl⟩ := h
  exact rfl
theorem k23_mk (w : World) (x : S23)  : k23.K w x [.bool x.f0, .int .i64 x.f1] := ⟨[.bool x.f0], [.int .i64 x.f1], rfl, rfl, rfl⟩
theorem k23_mkM (w : World) (base : Nat) (ok : Nat → Prop) (x : S23)  : k23.M w base ok x [.bool x.f0, .int .i64 x.f1] := ⟨[.bool x.f0], [.int .i64 x.f1], rfl, rfl, rfl⟩
def rd_T23 (xs : List S23) (i : Int) : S23 := xs.getD i.toNat z23
theorem at_T23 {w : World} {A : Option Addr} {n : Nat} {xs : List S23} (h : Kd.C k23 w A n xs) (i : Int) (h0 : 0 ≤ i) (h1 : i < n) : ∃ ad , A = some ad ∧ w.cell? (ad.add (i.toNat * 2)) = some (.bool (rd_T23 xs i).f0) ∧ w.cell? ⟨(ad.add (i.toNat * 2)).block, (ad.add (i.toNat * 2)).off + 1, none⟩ = some (.int .i64 (rd_T23 xs i).f1) := by
  obtain ⟨ad, c, e, _, hK, hc0⟩ := Kd.C_get h z23 i h0 h1
  have hc : ∀ j u, c[j]? = some u → w.cell? (ad.add (i.toNat * 2 + j)) = some u := hc0
  obtain rfl := k23_open hK
  exact ⟨ad, e, hc 0 _ rfl, by rw [← add_field _ _ 1 (by omega)]; exact hc 1 _ rfl⟩

end Go.Proofs.Ytbenanokgfphmaa.PA

-- written by a program of this session (a print of the translation with changes of its own)
import Derived.Test.YtecccaniopkphaaProg
import Derived.Below
import Derived.Deep.Draws
import Derived.Deep.AppendLies
import Derived.Maps.AppendAt
import Derived.OwnWalk
import Derived.Laws.BytesArg
import Derived.Laws.MakeOwn
import Derived.Laws.OwnMore
import Derived.Deep.OwnRows
import Derived.Tactics
import Derived.Lib.ConvBytes
import Derived.Laws.Slices
import Derived.WalkKit
import Derived.KernelRfl
import Derived.RowKit3
import Derived.Deep.LoopGhost
import Derived.Deep.QuietTactic
import Derived.BigQuiet
import Derived.WideLaws
import Derived.Deep.DeepCutAuto
import Derived.Deep.CutBlock
import Derived.Deep.RegionHeld3
import Derived.Laws.Rows
import Derived.Lib.AppendStr
import Derived.ArgAppend
import Derived.Laws.IdiomCopy
import Derived.OrdersHeld
import Derived.Laws.BitsLemmas
import Derived.RowKit
import Derived.Test.YtecccaniopkphaaWWords
import Derived.Test.YtecccaniopkphaaWLast
import Derived.Test.YtecccaniopkphaaWTab
import Derived.Test.YtecccaniopkphaaWFour
import Derived.Test.YtecccaniopkphaaWQPut
import Derived.Test.YtecccaniopkphaaWApart
import Derived.Test.YtecccaniopkphaaWArr
import Derived.Test.YtecccaniopkphaaWZeros
import Derived.Test.YtecccaniopkphaaWFoot
import Derived.Test.YtecccaniopkphaaWKept
import Derived.Test.YtecccaniopkphaaWShare
import Derived.Test.YtecccaniopkphaaWN
import Derived.Test.YtecccaniopkphaaWFootNe
import Derived.Test.YtecccaniopkphaaWAt
import Derived.Test.YtecccaniopkphaaWEqStruct
import Derived.Test.YtecccaniopkphaaWRepsOne
import Derived.Test.YtecccaniopkphaaWInv
import Derived.Test.YtecccaniopkphaaWInvWords
import Derived.Test.YtecccaniopkphaaWGuard
import Derived.Test.YtecccaniopkphaaWNEv
import Derived.Test.YtecccaniopkphaaWMore
namespace Go.Proofs.Ytecccaniopkphaa.PA
open Go.RowKit Go.Proofs.YtecccaniopkphaaW.PrintWords Go.Proofs.YtecccaniopkphaaW.PrintLast Go.Proofs.YtecccaniopkphaaW.PrintMore
attribute [local go_sem] max2_int min2_int max_two min_two max_three min_three max_four min_four   -- for this text's walks alone
set_option linter.unusedVariables false
set_option linter.unusedSimpArgs false



def errW : Option Int → Value
  | none => .nilIface
  | some c => .iface 0 (.int .i64 c)
theorem errW_none : errW none = .nilIface := rfl
theorem errW_some (c : Int) : errW (some c) = .iface 0 (.int .i64 c) := rfl
theorem eqArr2 {P : Program} {w : World} {d : Nat} {t e : TypeId} {xs ys : Array Value} {s : Nat} {a0 a1 b0 b1 : Value} {r0 r1 : Bool} (hu : P.underlying t = some (.array 2 e)) (hs : (sizeOf e).run P w = .ok s w)
    (ha0 : (part e xs (0 * s)).run P w = .ok a0 w) (hb0 : (part e ys (0 * s)).run P w = .ok b0 w) (he0 : (Op.equalIn d e a0 b0).run P w = .ok r0 w)
    (ha1 : (part e xs (1 * s)).run P w = .ok a1 w) (hb1 : (part e ys (1 * s)).run P w = .ok b1 w) (he1 : (Op.equalIn d e a1 b1).run P w = .ok r1 w) :
    (Op.equalIn (d + 1) t (.agg xs) (.agg ys)).run P w = .ok (r0 && r1) w := by
  rw [Op.equalIn]
  simp only [Sem.run_bind, run_underlying (h := hu), Result.andThen_ok, hs]
  rw [Std.Legacy.Range.forIn_eq_forIn_range']
  simp only [Nat.zero_mul, Nat.one_mul] at ha0 hb0 ha1 hb1
  cases r0 <;> cases r1 <;> simp [Std.Legacy.Range.size, List.range', Sem.run_bind, ha0, hb0, he0, ha1, hb1, he1, Result.andThen_ok]
theorem cell_again {W : World} {g j : Nat} {u : Value} (h : W.cell? ⟨g, j, none⟩ = some u) : (W.setCell ⟨g, j, none⟩ u).cell? ⟨g, j, none⟩ = some u := World.cell?_setCell_same _ _ _ h
theorem cell_other {W : World} {g i j : Nat} {u v : Value} (h : W.cell? ⟨g, j, none⟩ = some u) (hij : j ≠ i) : (W.setCell ⟨g, i, none⟩ v).cell? ⟨g, j, none⟩ = some u := (World.cell?_setCell_other _ _ _ _ (fun e => hij (show j = i from (congrArg Addr.off e).symm))).trans h

theorem info3 : (Try.prog.info? 3).map (fun i => (i.zero, i.size, i.bytes)) = some (some (.int .i64 0), 1, 8) := by kernel_rfl
theorem info4 : (Try.prog.info? 4).map (fun i => (i.zero, i.size, i.bytes)) = some (some (.bool false), 1, 1) := by kernel_rfl
-- the values' own types
def rd_L2 (xs : List (List Int)) (i : Int) : (List Int) := xs.getD i.toNat ([] : List Int)
theorem at_L2 {w : World} {A : Option Addr} {n : Nat} {xs : List (List Int)} (h : Kd.C (Kd.slice 3 (Kd.int .i64)) w A n xs) (i : Int) (h0 : 0 ≤ i) (h1 : i < n) : ∃ ad A0 c0, A = some ad ∧ w.cell? (ad.add i.toNat) = some (.slice A0 (rd_L2 xs i).length c0) ∧ (rd_L2 xs i).length ≤ c0 ∧ (Kd.int .i64).C w A0 (rd_L2 xs i).length (rd_L2 xs i) := by
  obtain ⟨ad, c, e, _, hK, hc0⟩ := Kd.C_get h ([] : List Int) i h0 h1
  have hc : ∀ j u, c[j]? = some u → w.cell? (ad.add (i.toNat * 1 + j)) = some u := hc0
  obtain ⟨A0, c0, rfl, l0, g0⟩ := hK
  exact ⟨ad, A0, c0, e, by have hq := hc 0 _ rfl; rwa [Nat.mul_one, Nat.add_zero] at hq, l0, g0⟩

def rd_L3 (xs : List (List Bool)) (i : Int) : (List Bool) := xs.getD i.toNat ([] : List Bool)
theorem at_L3 {w : World} {A : Option Addr} {n : Nat} {xs : List (List Bool)} (h : Kd.C (Kd.slice 4 Kd.bool) w A n xs) (i : Int) (h0 : 0 ≤ i) (h1 : i < n) : ∃ ad A0 c0, A = some ad ∧ w.cell? (ad.add i.toNat) = some (.slice A0 (rd_L3 xs i).length c0) ∧ (rd_L3 xs i).length ≤ c0 ∧ Kd.bool.C w A0 (rd_L3 xs i).length (rd_L3 xs i) := by
  obtain ⟨ad, c, e, _, hK, hc0⟩ := Kd.C_get h ([] : List Bool) i h0 h1
  have hc : ∀ j u, c[j]? = some u → w.cell? (ad.add (i.toNat * 1 + j)) = some u := hc0
  obtain ⟨A0, c0, rfl, l0, g0⟩ := hK
  exact ⟨ad, A0, c0, e, by have hq := hc 0 _ rfl; rwa [Nat.mul_one, Nat.add_zero] at hq, l0, g0⟩

end Go.Proofs.Ytecccaniopkphaa.PA

/- The row of the law parterre/parterrelaw27.TracksFull: whatever the input: true; the input reads as it did. No condition. Its pure statement is proved in YtckjdlmfibjpaaaGreatPureTracksFull. -/
import Derived.Test.YtckjdlmfibjpaaaGreatRows
import Derived.Test.YtckjdlmfibjpaaaGreatO
import Derived.Test.YtckjdlmfibjpaaaGreatSort
import Derived.Test.YtckjdlmfibjpaaaGreatPureTracksFull
import Derived.WalkKit
import Derived.ProofKit
import Derived.OpenShut
import Derived.ShutString
import Derived.ChangeOld
import Derived.Below
import Derived.SizedLaws
import Derived.Carry
namespace Go.Proofs.YtckjdlmfibjpaaaGreat.tracksFull
open Go.ChangeShapes Go.WideShapes Go.ChangeAt Go.RowKit Go.Proofs.YtckjdlmfibjpaaaGreat.Sx Go.Proofs.YtckjdlmfibjpaaaGreat.T
set_option linter.unusedVariables false
theorem own:ownKnob Tryz.prog.godebug=none:=by kernel_rfl
theorem laidOut:laidOutB Tryz.prog=true:=by kernel_rfl
set_option maxRecDepth 100000 in
theorem lifted (os:Os) (started:os.Started) (H:Type) (enc:TypeId×Value→H) :
    ReturnsInHanded {} Tryz.checked os 6 .any (Rows.tracksFullSpec.pre6 enc Tryz.prog Tryz.f6 Rows.tracksFullRow.domain false) (Rows.tracksFullSpec.post enc Tryz.prog Tryz.f6 false true false false):=by
 refine returnsInHanded_of_change_sized (C:=Tryz.checked) own started (by kernel_rfl) Tryz.func6
  (ChangeSpec.witness6 (enc:=enc) (C:=Tryz.checked) false ⟨#[], #[.agg #[.int .i64 0,.slice none 0 0,.slice none 0 0,.slice none 0 0],.int .i64 0,.slice none 0 0,.bool false],[]⟩ 8 (by kernel_rfl) (by kernel_rfl) (by kernel_rfl) (by kernel_rfl)) ?_
 intro W base args ds gs before hval0 hW hcnd hsz0 _
 have hsz:(DataW.weightsEach Tryz.prog (Tryz.f6.params.toList++Rows.tracksFullSpec.plain.varTypes Tryz.prog) (ds++gs)).all (· ≤reachBytes)=true:=hsz0
 have hval:∀ (j:Nat) t v,Tryz.f6.params[j]? =some t→args[j]? =some v→Value.okWide Tryz.prog W .any base t v:=hval0
 have hW':=hW
 obtain⟨p,q,hA0,hV,rfl,hfz,hnd⟩:=hW
 have hA:DataW.TrodAll enc Tryz.prog W 0 (fun _=>true) true Tryz.f6.params.toList args.toList ds p:=hA0
 rw[Tryz.params6]at hA hval hsz
 obtain⟨v0,vs0,d0,ds0,p0,q0,hargs,rfl,rfl,h0,r0⟩:=trodAll_cons hA
 obtain⟨v1,vs1,d1,ds1,p1,q1,rfl,rfl,rfl,h1,r1⟩:=trodAll_cons r0
 obtain⟨v2,vs2,d2,ds2,p2,q2,rfl,rfl,rfl,h2,r2⟩:=trodAll_cons r1
 obtain⟨v3,vs3,d3,ds3,p3,q3,rfl,rfl,rfl,h3,r3⟩:=trodAll_cons r2
 obtain⟨rfl,rfl,rfl⟩:=trodAll_nil r3
 obtain rfl:args= #[v0,v1,v2,v3]:=by cases args;simp_all
 obtain⟨rfl,rfl⟩:=trodVars_none hV
 have k0:=h0
 have lt0:∀x∈p0,x.block < W.heap.size:=by obtain⟨m,hm⟩:=k0;exact DataW.trod_lt m _ _ _ hm
 obtain⟨cs0,rfl,_⟩:=okWide_struct Tryz.underlying26 (hval 0 26 v0 rfl rfl)
 obtain⟨x0,hr0,hw0⟩:=agg_arg (opensV_all 12 26 [.int .i64,.row [.int .i64,.int .i64,.int .i64,.int .i64,.bool,.int .i64,.int .i64],.row [.bool],.row [.int .i64]] (by kernel_rfl) (by kernel_rfl)) h0
 have k1:=h1
 have lt1:∀x∈p1,x.block < W.heap.size:=by obtain⟨m,hm⟩:=k1;exact DataW.trod_lt m _ _ _ hm
 obtain⟨a1,rfl⟩:=okWide_int Tryz.underlying3 (hval 1 3 v1 rfl rfl)
 obtain⟨x1,hr1,hw1⟩:=leaf_arg rfl (opensV_all 12 3 [(.int .i64)] (by kernel_rfl) (by kernel_rfl)) h1
 have k2:=h2
 have lt2:∀x∈p2,x.block < W.heap.size:=by obtain⟨m,hm⟩:=k2;exact DataW.trod_lt m _ _ _ hm
 obtain⟨a2,len2,cap2,rfl⟩:=okWide_slice Tryz.underlying27 (hval 2 27 v2 rfl rfl)
 obtain⟨x2,hr2,hw2⟩:=leaf_arg rfl (opensV_all 12 27 [(.row [.int .i64,.int .i64,.int .i64,.int .i64,.int .i64])] (by kernel_rfl) (by kernel_rfl)) h2
 have y2:=sized_arg (B:=40) hsz (j:=2) (t:=27) rfl rfl Tryz.underlying27 (by kernel_rfl) h2 hr2
 have k3:=h3
 have lt3:∀x∈p3,x.block < W.heap.size:=by obtain⟨m,hm⟩:=k3;exact DataW.trod_lt m _ _ _ hm
 obtain⟨a3,rfl⟩:=okWide_bool Tryz.underlying4 (hval 3 4 v3 rfl rfl)
 obtain⟨x3,hr3,hw3⟩:=leaf_arg rfl (opensV_all 12 4 [(.bool)] (by kernel_rfl) (by kernel_rfl)) h3
 clear hA0 hval0 hsz0 hsz
 obtain⟨k,hp⟩:=PureTracksFull x0 x1 x2 x3 (RVs.ok _ _ _ hr0) hw0 (RV.ok _ _ _ hr1) hw1 (RV.ok _ _ _ hr2) hw2 y2 (RV.ok _ _ _ hr3) hw3
 have hcall:=told_ok (P:=Tryz.prog) (depth:=6) (by kernel_rfl) all_ok k k 6 ⟨[.agg [.int .i64,.row [.int .i64,.int .i64,.int .i64,.int .i64,.bool,.int .i64,.int .i64],.row [.bool],.row [.int .i64]],.leaf (.int .i64),.leaf (.row [.int .i64,.int .i64,.int .i64,.int .i64,.int .i64]),.leaf (.bool)],[.leaf (.bool)]⟩ rfl _ _ hp W _ (fun _=>False) (fun b h=>h.elim) (argsR_agg hr0 (argsR_leaf hr1 (argsR_leaf hr2 (argsR_leaf hr3 argsR_nil))))
 refine hcall.mono fun e W' hpost=>?_
 obtain⟨u,rfl,hres⟩:=hpost
 obtain⟨rfl,bel⟩:=law_end hres
 exact⟨_,rfl,_,_,_,[],_,[],hW',trodAll_mk1 (shut_bool Tryz.underlying4 _),(trodAll_cons_mk (Below.trod laidOut (by kernel_rfl) (of_decide_eq_true (by kernel_rfl)) k0 bel lt0) (trodAll_cons_mk (Below.trod laidOut (by kernel_rfl) (of_decide_eq_true (by kernel_rfl)) k1 bel lt1) (trodAll_cons_mk (Below.trod laidOut (by kernel_rfl) (of_decide_eq_true (by kernel_rfl)) k2 bel lt2) (trodAll_cons_mk (Below.trod laidOut (by kernel_rfl) (of_decide_eq_true (by kernel_rfl)) k3 bel lt3) trodAll_mk0)))),rfl,bel.frame _,fun h=>by cases h⟩
theorem over:Rows.tracksFullRow.holds Tryz.pinned (OpenSpec.ofChange Rows.tracksFullSpec):=
 OpenClaim.holds_of_wide 6 Tryz.f6 rfl rfl rfl rfl rfl rfl rfl ⟨rfl,rfl,rfl,rfl,rfl⟩ rfl rfl rfl rfl rfl (by kernel_rfl) Tryz.func6 (by kernel_rfl)
  (of_decide_eq_true (by kernel_rfl)) (by unfold Func.isWrapper;first | (rw[if_pos (by decide +kernel)];kernel_rfl) | (rw[if_neg (by decide +kernel)];exact⟨rfl,rfl⟩))
  (fun os started H enc _=>lifted os started H enc)
theorem proved:Rows.TracksFullSaid:=over
#print axioms proved
end Go.Proofs.YtckjdlmfibjpaaaGreat.tracksFull
namespace Go.Proofs.YtckjdlmfibjpaaaGreat
theorem tracksFull_holds:Rows.TracksFullSaid:=tracksFull.proved
end Go.Proofs.YtckjdlmfibjpaaaGreat

/- Symbolic running of the program's code, over any program, with its proof (4 of 6): definitions and lemmas. No condition. -/
import Derived.Test.YtckjdlmfibjpaaaGreatSx3
import Derived.Tactics
import Derived.Laws.Cover3
import Derived.Scope
import Derived.RangeFuncLeaves
import Derived.RangeFuncRecord
import Derived.Orders
set_option linter.unusedVariables false
set_option linter.unusedSimpArgs false
namespace Go.Proofs.YtckjdlmfibjpaaaGreat.Sx
open Go.RowKit
section
variable {ro:Option Nat} {P:Program} {sigs:Nat→Option Sig} {C:Nat→List PV→Option (List PV)} {N:Nat} {X:Env} {W0:World} {φ:Names} {ρ:List PV} {J:List (List PV→Option (List PV))} {r:List PV} {σ:St} {a:Act} {fs:List Act} {w:World} {nx:Nat} {U:Nat→Prop}
theorem mkIte_den:∀ (c:Ex) (x y:T),(mkIte c x y).den N C ρ J=if(c.den ρ).b=true then x.den N C ρ J else y.den N C ρ J
 | .bool true,x,y=>rfl
 | .bool false,x,y=>rfl
 | .un .not c,x,y=>by
  rw[mkIte,mkIte_den c y x,b_not]
  cases (c.den ρ).b <;> rfl
 | .un (.neg _) _,_,_ | .un (.cpl _) _,_,_ | .un (.conv _) _,_,_ | .un .len _,_,_ | .un .slen _,_,_ | .un .sort _,_,_ | .var _,_,_ | .int _ _,_,_ | .str _,_,_ | .nil,_,_ | .nilc,_,_ | .bin _ _ _,_,_ | .tri _ _ _ _,_,_=>rfl
theorem guards_den {k:St→T}:∀ (gs:List Ex) (σ:St),Facts ρ σ.known→(∀g∈gs,g.fits ρ.length=true)→(guards gs σ k).den N C ρ J=some r→
    (∀g∈gs,(g.den ρ).b=true)∧∃K,Facts ρ K∧(k { σ with known:=K }).den N C ρ J=some r
 | [],σ,hf,_,hd=>⟨List.forall_mem_nil _,σ.known,hf,hd⟩
 | g::gs,σ,hf,hfit,hd=>by
  simp only[guards]at hd
  split at hd
  · rename_i hk
    have hb:=knownIs_sound hf g true hk
    obtain⟨h1,h2⟩:=guards_den gs σ hf (fun x hx=>hfit x (by simp[hx])) hd
    exact⟨List.forall_mem_cons.2 ⟨hb,h1⟩,h2⟩
  · rw[mkIte_den]at hd
    split at hd
    · rename_i hb
      obtain⟨h1,K,h2,h3⟩:=guards_den gs { σ with known:=learn g true σ.known } (learn_sound g true σ.known hf (hfit g (by simp)) hb) (fun x hx=>hfit x (by simp[hx])) hd
      exact⟨List.forall_mem_cons.2 ⟨hb,h1⟩,K,h2,h3⟩
    · simp[T.den]at hd
theorem asks_den {t:T}:∀ (gs:List Ex) (σ:St),Facts ρ σ.known→(asks gs σ t).den N C ρ J=some r→(∀g∈gs,(g.den ρ).b=true)∧t.den N C ρ J=some r
 | [],σ,hf,hd=>⟨List.forall_mem_nil _,hd⟩
 | g::gs,σ,hf,hd=>by
  simp only[asks]at hd
  split at hd
  · rename_i hk
    have hb:=knownIs_sound hf g true hk
    obtain⟨h1,h2⟩:=asks_den gs σ hf hd
    exact⟨List.forall_mem_cons.2 ⟨hb,h1⟩,h2⟩
  · rw[mkIte_den]at hd
    split at hd
    · rename_i hb
      obtain⟨h1,h2⟩:=asks_den gs σ hf hd
      exact⟨List.forall_mem_cons.2 ⟨hb,h1⟩,h2⟩
    · simp[T.den]at hd
theorem Rel.withKnown (h:Rel X W0 φ ρ σ fs w) {K:List (Ex×Bool)} (hK:Facts ρ K):Rel X W0 φ ρ { σ with known:=K } fs w:=
 ⟨h.below,h.old,h.low,h.inj,h.names,h.nv,hK,h.frames,h.heap⟩
theorem Rel.put (h:Rel X W0 φ ρ σ (a::fs) w) {d:Option Tmp} (hd:∀t,d=some t→t < a.tmps.size) {sv:SV} {v:Value} (hv:SVR w X φ ρ σ.nx sv v):Rel X W0 φ ρ (σ.put d sv) ((a.put d v)::fs) w:=by
 cases d with
 | none=>exact h
 | some t=>
  have hf:=h.frames
  cases hfr:σ.fr with
  | nil=>rw[hfr]at hf;simp[FrsR]at hf
  | cons f rest=>
   rw[hfr]at hf
   simp only[FrsR]at hf
   obtain⟨a0,as',he,hfr',hrest⟩:=hf
   cases he
   have hput:σ.put (some t) sv= { σ with fr:=puta f t sv::rest }:=by simp only[St.put,hfr]
   rw[hput]
   refine⟨h.below,h.old,h.low,h.inj,h.names,h.nv,h.known,?_,h.heap⟩
   simp only[FrsR]
   refine⟨_,_,rfl,fun u s hs=>?_,hrest⟩
   have hlt:=hd t rfl
   by_cases hu:u=t
   · subst hu
     rw[look_put_same]at hs
     cases hs
     simpa [Act.put,Array.getD,hlt]using hv
   · rw[look_put_other _ _ _ _ hu]at hs
     have:=hfr' u s hs
     have hg:(a.tmps.setIfInBounds t v).getD u undef=a.tmps.getD u undef:=by
      rw[Array.getD_eq_getD_getElem?,Array.getD_eq_getD_getElem?,Array.getElem?_setIfInBounds_ne (by omega)]
     show SVR w X φ ρ σ.nx s ((a.tmps.setIfInBounds t v).getD u undef)
     rw[hg]
     exact this
theorem put_size (a:Act) (d:Option Tmp) (v:Value):(a.put d v).tmps.size=a.tmps.size:=by cases d <;> simp[Act.put]
theorem put_defers (a:Act) (d:Option Tmp) (v:Value):(a.put d v).defers=a.defers:=by cases d <;> rfl
def CallsK (P:Program) (N:Nat) (C:Nat→List PV→Option (List PV)) (X:Env) (W0:World) (ρ:List PV) (J:List (List PV→Option (List PV))) (r:List PV) (fs:List Act) (k:SV→St→T) (e:Ending) (w':World):Prop:=
 ∃v,e= .returned v∧∃φ' ρ' J' sv σ',ρ <+:ρ'∧J <+:J'∧σ'.jl=J'.length∧Rel X W0 φ' ρ' σ' fs w'∧SVR w' X φ' ρ' σ'.nx sv v∧(k sv σ').den N C ρ' J'=some r
def YlOk (P:Program) (N:Nat) (C:Nat→List PV→Option (List PV)) (X:Env) (W0:World) (fs:List Act) (yl:Yl):Prop:=
 ∀ (pre:List Act) (m:Nat) (args:List SV) (σ:St) (k:SV→St→T) (r:List PV) (φ:Names) (ρ:List PV) (J:List (List PV→Option (List PV))) (w:World) (vs:List Value) (l:Nat),
  X.ys m=some l→Rel X W0 φ ρ σ (pre++fs) w→SVRs w X φ ρ σ.nx args vs→σ.jl=J.length→(yl m args σ k).den N C ρ J=some r→YieldAt (Fr none) 0 P l vs.toArray w (CallsK P N C X W0 ρ J r (pre++fs) k)
theorem YlOk.push {P:Program} {N:Nat} {C:Nat→List PV→Option (List PV)} {X:Env} {W0:World} {fs:List Act} {yl:Yl} (h:YlOk P N C X W0 fs yl) (a:Act):YlOk P N C X W0 (a::fs) yl:=fun pre=>by
 have:=h (pre++ [a])
 simpa only[List.append_assoc,List.singleton_append]using this
theorem YlOk.no {P:Program} {N:Nat} {C:Nat→List PV→Option (List PV)} {X:Env} {W0:World} {fs:List Act}:YlOk P N C X W0 fs noY:=fun pre m args σ k r φ ρ J w vs l _ _ _ _ hd=>by simp[noY,T.den]at hd
def InlOk (P:Program) (N:Nat) (C:Nat→List PV→Option (List PV)) (X:Env) (W0:World) (inl:Inl):Prop:=
 ∀ (yl:Yl) (f:Nat) (args:List SV) (σ:St) (k:SV→St→T) (r:List PV) (φ:Names) (ρ:List PV) (J:List (List PV→Option (List PV))) (fs:List Act) (w:World) (vs:List Value),
  YlOk P N C X W0 fs yl→Rel X W0 φ ρ σ fs w→SVRs w X φ ρ σ.nx args vs→enters P f=true→σ.jl=J.length→(inl yl f args σ k).den N C ρ J=some r→Calls P f vs.toArray w (CallsK P N C X W0 ρ J r fs k)
theorem run_enter {f:Nat} {args:Array Value} (h:enters P f=true):(callFunc f args).run P w= .ok (.enter f args) w:=by
 unfold enters at h
 split at h
 · rename_i fn hf
   simp only[Bool.and_eq_true,bne_iff_ne,ne_eq]at h
   have hb:fn.body.isNone=false:=by
    cases hb:fn.body with
    | none=>rw[hb]at h;simp at h
    | some c=>rfl
   have hb':fn.body≠none:=by intro hc;rw[hc]at hb;cases hb
   simp[callFunc,hf,h.1,hb']
 · cases h
theorem run_callv {o:Oper} {f:Operand} {args:Array Operand} {ts:Array TypeId} (ho:o.op= .call { callee:= .value f,args,argTypes:=ts }) {g:Nat} {caps:Array Value} (hf:a.eval f= .func (.func g) #[] caps) (he:enters P g=true) :
    (execOp a.eval o).run P w= .ok (.enter g (args.map a.eval++caps)) w:=by
 unfold execOp
 rw[ho]
 simp only[resolve,hf,Deferred.ofValue,Sem.run_bind,Sem.run_pure,Result.andThen_ok,invoke,Array.empty_append,run_enter he]
theorem run_cally {o:Oper} {f:Operand} {args:Array Operand} {ts:Array TypeId} (ho:o.op= .call { callee:= .value f,args,argTypes:=ts }) {l:Nat} (hf:a.eval f= .func (.yield l) #[] #[]) {x:Next} {w':World}
    (hy:(Instr.yield l (args.map a.eval)).run P w= .ok x w'):(execOp a.eval o).run P w= .ok x w':=by
 unfold execOp
 rw[ho]
 simp only[resolve,hf,Deferred.ofValue,Sem.run_bind,Sem.run_pure,Result.andThen_ok,invoke,Array.empty_append,Array.append_empty,hy]
def OpK (P:Program) (N:Nat) (C:Nat→List PV→Option (List PV)) (X:Env) (W0:World) (ρ:List PV) (J:List (List PV→Option (List PV))) (r:List PV) (a:Act) (fs:List Act) (d:Option Tmp) (next:Act→World→Prop) (k:SV→St→T):Prop:=
 ∀φ' ρ' J' sv σ' v w',ρ <+:ρ'→J <+:J'→σ'.jl=J'.length→Rel X W0 φ' ρ' σ' (a::fs) w'→SVR w' X φ' ρ' σ'.nx sv v→(k sv σ').den N C ρ' J'=some r→next (a.put d v) w'
theorem run_callb {o:Oper} {f:Operand} {args:Array Operand} {ts:Array TypeId} (ho:o.op= .call { callee:= .value f,args,argTypes:=ts }) {g:Nat} {fst:Array Value} (hf:a.eval f= .func (.func g) fst #[]) (he:enters P g=true) :
    (execOp a.eval o).run P w= .ok (.enter g (fst++args.map a.eval)) w:=by
 unfold execOp
 rw[ho]
 simp only[resolve,hf,Deferred.ofValue,Sem.run_bind,Sem.run_pure,Result.andThen_ok,invoke,Array.append_empty,run_enter he]
theorem sxOper_sound [SortOk P] (hC:CallOk P sigs C) {inl:Inl} (hinl:InlOk P N C X W0 inl) {yl:Yl} (hyl:YlOk P N C X W0 fs yl) {o:Oper} {k:SV→St→T} {next:Act→World→Prop} {Q:Exit→Act→World→Prop} (h:Rel X W0 φ ρ σ (a::fs) w) (hJ:σ.jl=J.length)
    (hk:OpK P N C X W0 ρ J r a fs o.dst next k) (hd:(sxOper P sigs inl yl o σ k).den N C ρ J=some r):o.wpIn (Fr ro) 0 P a w next Q:=by
 have plain:∀ {gs sv σ'},simple P σ o.op=some (gs,sv,σ')→(guards gs σ' (k sv)).den N C ρ J=some r→o.wpIn (Fr ro) 0 P a w next Q:=by
  intro gs sv σ' hs hg
  obtain⟨hfit,⟨l1,l2,l3,l4⟩,hnx,hmain⟩:=simple_sound h hs
  obtain⟨hb,K,hK,hd'⟩:=guards_den gs σ' (by rw[l3];exact h.known) hfit hg
  obtain⟨φ',v,w',hran,hrel,hsv,_⟩:=hmain hb
  have:=hk φ' ρ J sv { σ' with known:=K } v w' (List.prefix_refl _) (List.prefix_refl _) (by rw[←hJ,←l2]) (hrel.withKnown hK) hsv hd'
  rcases hran with hr | ⟨hr,rfl⟩
  · exact wpr_value (simple_nodefer hs) hr this
  · exact wpr_skip (simple_nodefer hs) hr this
 unfold sxOper at hd
 split at hd
 · rename_i f args ts hop
   have hfv:=h.ev f
   have call:∀ (sv:SV) (σ1:St),Rel X W0 φ ρ σ1 (a::fs) w→σ1.jl=J.length→SVRs w X φ ρ σ1.nx (args.toList.map σ.ev) (args.toList.map a.eval)→SVR w X φ ρ σ1.nx sv (a.eval f)→
       (callFn P sigs inl yl sv (args.toList.map σ.ev) σ1 k).den N C ρ J=some r→o.wpIn (Fr ro) 0 P a w next Q:=by
    intro sv σ1 h hJ hargs hfv hd
    have enter:∀ (g:Nat) (as:List SV) (vs:List Value),enters P g=true→SVRs w X φ ρ σ1.nx as vs→(execOp a.eval o).run P w= .ok (.enter g vs.toArray) w→
        ((if(sigs g).isSome then closedCall sigs σ1 g as k else inl yl g as σ1 k).den N C ρ J=some r)→o.wpIn (Fr ro) 0 P a w next Q:=by
     intro g as vs hent' hevs hrun hd
     refine wpr_enter (by rw[hop];intro c hc;cases hc) hrun ?_
     split at hd
     · refine(closedCall_sound hC h hevs hd).mono fun e w' hp=>?_
       obtain⟨v,rfl,φ',ρ',sv,σ',h1,h2,h3,h4,h5⟩:=hp
       exact⟨v,rfl,hk φ' ρ' J sv σ' v w' h1 (List.prefix_refl _) (by rw[h5,hJ]) h2 h3 h4⟩
     · refine(hinl yl g _ σ1 k r φ ρ J (a::fs) w _ (hyl.push a) h hevs hent' hJ hd).mono fun e w' hp=>?_
       obtain⟨v,rfl,φ',ρ',J',sv,σ',h1,h2,h3,h4,h5,h6⟩:=hp
       exact⟨v,rfl,hk φ' ρ' J' sv σ' v w' h1 h2 h3 h4 h5 h6⟩
    unfold callFn at hd
    split at hd
    · rename_i g caps
      simp only[SVR]at hfv
      obtain⟨cs,hfval,hcaps⟩:=hfv
      split at hd
      · simp[T.den]at hd
      · rename_i hent
        have hent':enters P g=true:=by simpa using hent
        have hrun:=run_callv (P:=P) (w:=w) hop hfval hent'
        have hvs:args.map a.eval++cs=(args.toList.map a.eval++cs.toList).toArray:=by apply Array.ext';simp
        split at hd
        · rename_i hsort
          split at hd
          · rename_i hce
            have hc0:caps=[]:=by simpa using hce
            subst hc0
            have hcs0:cs= #[]:=by simp only[SVRs]at hcaps;simpa using hcaps
            subst hcs0
            rw[hvs]at hrun
            simp only[List.append_nil]at hrun
            refine wpr_enter (by rw[hop];intro c hc;cases hc) hrun ?_
            refine(sortCall_sound h hsort hargs hd (fun h1 h2 h3=>guards_den _ _ h1 h2 h3)).mono fun e w' hp=>?_
            obtain⟨v,rfl,σ',sv,q1,q2,q3,q4⟩:=hp
            exact⟨v,rfl,hk φ ρ J sv σ' v w' (List.prefix_refl _) (List.prefix_refl _) (by rw[q1,hJ]) q2 q3 q4⟩
          · simp[T.den]at hd
        rw[hvs]at hrun
        exact enter g _ _ hent' (hargs.append hcaps) hrun hd
    · rename_i g fst
      simp only[SVR]at hfv
      obtain⟨cs,hfval,hfst⟩:=hfv
      split at hd
      · simp[T.den]at hd
      · rename_i hent
        have hent':enters P g=true:=by simpa using hent
        have hrun:=run_callb (P:=P) (w:=w) hop hfval hent'
        have hvs:cs++args.map a.eval=(cs.toList++args.toList.map a.eval).toArray:=by apply Array.ext';simp
        rw[hvs]at hrun
        exact enter g _ _ hent' (hfst.append hargs) hrun hd
    · simp[T.den]at hd
   split at hd
   · rename_i m hfe
     rw[hfe]at hfv
     simp only[SVR]at hfv
     obtain⟨l,hl,hfval⟩:=hfv
     have hevs:=SVRs.evs h args.toList
     obtain⟨fn,tmps,assign,body,hy,hR⟩:=hyl [a] m _ σ k r φ ρ J w _ l hl h hevs hJ hd
     have hvs:args.map a.eval=(args.toList.map a.eval).toArray:=by apply Array.ext';simp
     refine wpr_round (by rw[hop];intro c hc;cases hc) (run_cally hop hfval (by rw[hvs];exact hy)) (RoundIn.mono (F:=Fr ro) (by exact hR) fun e w' hp=>?_)
     obtain⟨v,rfl,φ',ρ',J',sv,σ',h1,h2,h3,h4,h5,h6⟩:=hp
     exact⟨v,rfl,hk φ' ρ' J' sv σ' v w' h1 h2 h3 h4 h5 h6⟩
   · rename_i c x y hfe
     rw[hfe]at hfv
     simp only[SVR]at hfv
     obtain⟨fc,_,_,hx,hy⟩:=hfv
     rw[mkIte_den]at hd
     split at hd
     · rename_i hb
       exact call x _ (h.learn fc hb) hJ (SVRs.evs h args.toList) (hx hb) hd
     · rename_i hb
       have hb':(c.den ρ).b=false:=by simpa using hb
       exact call y _ (h.learn fc hb') hJ (SVRs.evs h args.toList) (hy hb') hd
   · exact call _ σ h hJ (SVRs.evs h args.toList) hfv hd
 · rename_i op t x y ty hop
   split at hd
   · rename_i gs v σ' hs
     exact plain hs hd
   · split at hd
     · rename_i ks e hny hu he
       have hx:=h.ev x
       rw[he]at hx
       simp only[SVR,RV]at hx
       obtain⟨fe,xs,ad,cap,dx,hv,hcap,hne⟩:=hx
       have hyv:a.eval y= .slice none 0 0:=by
        unfold isNilC at hny
        split at hny
        · rfl
        · cases hny
       simp only[T.den,agree_some]at hd
       have hrun:(execOp a.eval o).run P w= .ok (.value (.bool ad.isNone)) w:=by
        unfold execOp
        rw[hop]
        simp[hv,hyv,binOp,run_equal_slice_nil w _ _ _ _ _ hu,eqGuard_plain]
       refine wpr_value (by rw[hop];intro c hc;cases hc) hrun ?_
       have hd':((k (.ex .bool (.mk2 .and (.mk2 (.cmp .eql) (.mk1 .len e) i0) (.var σ.nv))) { σ with nv:=σ.nv+1 }).den N C (ρ++ [.bool ad.isNone]) J=some r):=by
        cases ad with
        | none=>exact hd.1
        | some _=>exact hd.2
       have hpre:ρ <+:ρ++ [PV.bool ad.isNone]:=List.prefix_append _ _
       have hrel:Rel X W0 φ (ρ++ [PV.bool ad.isNone]) { σ with nv:=σ.nv+1 } (a::fs) w:=
        ⟨h.below,h.old,h.low,h.inj,h.names,by simp[h.nv],fun c b hc=>by
         obtain⟨h1,h2⟩:=h.known c b hc
         exact⟨Ex.fits_mono hpre.length_le c h1,by rw[Ex.den_ext hpre c h1];exact h2⟩,
         FrsR.evo (Evo.refl _ _ _ _) hpre (Nat.le_refl _) _ _ h.frames,fun l o hl=>by
          obtain⟨kk,h1,h2⟩:=h.heap l o hl
          exact⟨kk,h1,ObR.evo (Evo.refl _ _ _ _) hpre (Nat.le_refl _) (fun _ _=>rfl) o h2⟩⟩
       refine hk φ _ J _ { σ with nv:=σ.nv+1 } _ w hpre (List.prefix_refl _) hJ hrel ?_ hd'
       simp only[SVR,RV]
       have fe':=Ex.fits_mono hpre.length_le e fe
       refine⟨Ex.fits_mk2 (Ex.fits_mk2 (Ex.fits_mk1 fe') rfl) (by simp[Ex.fits,h.nv]),ad.isNone,?_,rfl⟩
       rw[Ex.den_mk2,Ex.den_mk2,Ex.den_mk1,Ex.den_ext hpre e fe,dx]
       have hvar:Ex.den (ρ++ [PV.bool ad.isNone]) (.var σ.nv)= .bool ad.isNone:=by
        simp[Ex.den,h.nv]
       rw[hvar]
       simp only[BO.on,UO.on,compare,PV.r,PV.i,PV.b,i0,Ex.den]
       congr 1
       cases hxs:xs with
       | nil=>simp
       | cons z zs=>
        obtain⟨ad',ha,_⟩:=hne (by rw[hxs];simp)
        rw[ha]
        simp
     · simp[T.den]at hd
 · rename_i x y z hop
   split at hd
   · rename_i gs v σ' hs
     exact plain hs hd
   · split at hd
     · rename_i e he
       have hx:=h.ev x
       rw[he]at hx
       obtain⟨fe,b,de,hv⟩:=svr_bool hx
       rw[mkIte_den]at hd
       have hrun:(execOp a.eval o).run P w= .ok (.value (if b=true then a.eval y else a.eval z)) w:=by
        unfold execOp
        rw[hop]
        simp[hv,asBool]
       refine wpr_value (by rw[hop];intro c hc;cases hc) hrun ?_
       have hb:(e.den ρ).b=b:=by rw[de];rfl
       cases b with
       | true=>
        rw[if_pos hb]at hd
        have hl:=h.learn fe hb
        exact hk φ ρ J _ { σ with known:=learn e true σ.known } _ w (List.prefix_refl _) (List.prefix_refl _) hJ hl (hl.ev y) hd
       | false=>
        rw[if_neg (by rw[hb];simp)]at hd
        have hl:=h.learn fe hb
        exact hk φ ρ J _ { σ with known:=learn e false σ.known } _ w (List.prefix_refl _) (List.prefix_refl _) hJ hl (hl.ev z) hd
     · simp[T.den]at hd
 · split at hd
   · rename_i gs v σ' hs
     exact plain hs hd
   · split at hd
     · rename_i gs v σ' hs
       obtain⟨hfit,⟨l1,l2,l3⟩,hmain⟩:=rowOp_sound h hs
       obtain⟨hb,K,hK,hd'⟩:=guards_den gs σ' (by rw[l2];exact h.known) hfit hd
       obtain⟨φ',v,w',hran,hrel,hsv⟩:=hmain hb
       have:=hk φ' ρ J _ { σ' with known:=K } v w' (List.prefix_refl _) (List.prefix_refl _) (by rw[←hJ,←l1]) (hrel.withKnown hK) hsv hd'
       rcases hran with hr | ⟨hr,rfl⟩
       · exact wpr_value (rowOp_nodefer hs) hr this
       · exact wpr_skip (rowOp_nodefer hs) hr this
     · simp[T.den]at hd
theorem tmp_svr (h:Rel X W0 φ ρ σ (a::fs) w) (t:Nat):SVR w X φ ρ σ.nx (σ.tmp t) (a.tmps.getD t undef):=by
 unfold St.tmp
 have hf:=h.frames
 split
 · rename_i f rest he
   rw[he]at hf
   simp only[FrsR]at hf
   obtain⟨a0,as',ha,hfr,_⟩:=hf
   cases ha
   cases hl:look f t with
   | none=>simp[SVR]
   | some s=>simpa using hfr t s hl
 · simp[SVR]
theorem condOf_sound (h:Rel X W0 φ ρ σ (a::fs) w) {ops:Array Oper} {j:Nat} {want:Bool} {c:Ex} (hc:condOf σ ops j want=some c):c.fits ρ.length=true∧(yielded ops a.tmps j == some want)=(c.den ρ).b:=by
 unfold condOf at hc
 split at hc
 · cases hc
 · rename_i t ht
   have hy:yielded ops a.tmps j=match a.tmps[t]? with | some (.bool b)=>some b | _=>none:=by
    unfold yielded
    unfold dstOf at ht
    rw[ht]
    rfl
   have hsv:=tmp_svr h t
   rw[Array.getD_eq_getD_getElem?]at hsv
   have ofB:∀ {v:Value} {b:Bool},a.tmps[t]?.getD undef= .bool b→yielded ops a.tmps j=some b:=by
    intro v b hv
    rw[hy]
    cases ha:a.tmps[t]? with
    | none=>rw[ha]at hv;simp[undef]at hv
    | some u=>rw[ha]at hv;simp at hv;subst hv;rfl
   have ofU:a.tmps[t]?.getD undef=undef→yielded ops a.tmps j=none:=by
    intro hv
    rw[hy]
    cases ha:a.tmps[t]? with
    | none=>rfl
    | some u=>rw[ha]at hv;simp at hv;subst hv;rfl
   split at hc
   · rename_i hsk
     rw[hsk]at hsv
     simp only[SVR]at hsv
     cases hc
     refine⟨rfl,?_⟩
     rw[ofU hsv]
     rfl
   · rename_i e hsk
     rw[hsk]at hsv
     obtain⟨fe,b,de,hv⟩:=svr_bool hsv
     cases hc
     rw[ofB (v:= .bool b) hv]
     have hb:(e.den ρ).b=b:=by rw[de];rfl
     cases want with
     | true=>exact⟨cond_fits _ _ fe,by simp only[if_true];rw[cond_b,hb];cases b <;> rfl⟩
     | false=>exact⟨ncond_fits _ _ fe,by simp only[Bool.false_eq_true,if_false];rw[ncond_b,hb];cases b <;> rfl⟩
   · rename_i c0 e hsk
     rw[hsk]at hsv
     simp only[SVR]at hsv
     obtain⟨fc0,fs0,h1,h2⟩:=hsv
     simp only[SV.fits]at fs0
     cases hc
     have fw:(if want=true then Sx.cond e else ncond e).fits ρ.length=true:=by cases want <;> first | exact cond_fits _ _ fs0 | exact ncond_fits _ _ fs0
     refine⟨Ex.fits_mk2 fc0 fw,?_⟩
     rw[Ex.den_mk2]
     show _=((c0.den ρ).b&& ((if want=true then Sx.cond e else ncond e).den ρ).b)
     cases hb0:(c0.den ρ).b with
     | false=>
      rw[ofU (h2 hb0)]
      simp
     | true=>
      have:=h1 hb0
      simp only[RV]at this
      obtain⟨_,b,de,hv⟩:=this
      rw[ofB (v:= .bool b) hv]
      have hb:(e.den ρ).b=b:=by rw[de];rfl
      cases want with
      | true=>simp only[if_true];rw[cond_b,hb];cases b <;> rfl
      | false=>simp only[Bool.false_eq_true,if_false];rw[ncond_b,hb];cases b <;> rfl
   · cases hc
def CodeK (P:Program) (N:Nat) (C:Nat→List PV→Option (List PV)) (X:Env) (W0:World) (ρ:List PV) (J:List (List PV→Option (List PV))) (r:List PV) (n:Nat) (fs:List Act) (next:Act→World→Prop) (k:St→T):Prop:=
 ∀φ' ρ' J' σ' a' w',ρ <+:ρ'→J <+:J'→σ'.jl=J'.length→Rel X W0 φ' ρ' σ' (a'::fs) w'→True→a'.tmps.size=n→(k σ').den N C ρ' J'=some r→next a' w'
theorem CodeK.mono {n:Nat} {next:Act→World→Prop} {k:St→T} (h:CodeK P N C X W0 ρ J r n fs next k) {ρ':List PV} {J':List (List PV→Option (List PV))} (h1:ρ <+:ρ') (h2:J <+:J'):CodeK P N C X W0 ρ' J' r n fs next k:=
 fun φ' ρ'' J'' σ' a' w' g1 g2=>h φ' ρ'' J'' σ' a' w' (h1.trans g1) (h2.trans g2)
theorem sxOps_sound [SortOk P] (hC:CallOk P sigs C) {inl:Inl} (hinl:InlOk P N C X W0 inl) {yl:Yl} (hyl:YlOk P N C X W0 fs yl) {ops:Array Oper} {k:St→T} {Q:Exit→Act→World→Prop} {n:Nat}:∀ (l:List Oper) (σ:St) (φ:Names) (ρ:List PV) (J:List (List PV→Option (List PV))) (a:Act) (w:World),
    (∀o∈l,∀t,o.dst=some t→t < n)→Rel X W0 φ ρ σ (a::fs) w→σ.jl=J.length→True→a.tmps.size=n→CodeK P N C X W0 ρ J r n fs (Q .normal) k→(sxOps P sigs inl yl ops l σ k).den N C ρ J=some r→wpListIn (Fr ro) 0 P ops Q l a w
 | [],σ,φ,ρ,J,a,w,_,h,hJ,hdf,hsz,hk,hd=>hk φ ρ J σ a w (List.prefix_refl _) (List.prefix_refl _) hJ h hdf hsz hd
 | o :: l, σ, φ,ρ,J,a,w,hdst,h,hJ,hdf,hsz,hk,hd=>by
  have hdst':∀o'∈l,∀t,o'.dst=some t→t < n:=fun o' ho=>hdst o' (by simp[ho])
  have hput:∀t,o.dst=some t→t < a.tmps.size:=fun t ht=>by rw[hsz];exact hdst o (by simp) t ht
  have exec:∀σ1,Rel X W0 φ ρ σ1 (a::fs) w→σ1.jl=J.length→(sxOper P sigs inl yl o σ1 fun v σ'=>sxOps P sigs inl yl ops l (σ'.put o.dst v) k).den N C ρ J=some r→o.wpIn (Fr ro) 0 P a w (wpListIn (Fr ro) 0 P ops Q l) Q:=by
   intro σ1 h1 hJ1 hd1
   refine sxOper_sound hC hinl hyl h1 hJ1 (fun φ' ρ' J' sv σ' v w' g1 g2 g3 g4 g5 g6=>?_) hd1
   exact sxOps_sound hC hinl hyl l (σ'.put o.dst sv) φ' ρ' J' (a.put o.dst v) w' hdst' (g4.put hput g5) (by
    have:(σ'.put o.dst sv).jl=σ'.jl:=by unfold St.put;split <;> rfl
    rw[this,g3]) trivial (by rw[put_size,hsz]) (hk.mono g1 g2) g6
  have skip:∀σ1,Rel X W0 φ ρ σ1 (a::fs) w→σ1.jl=J.length→(sxOps P sigs inl yl ops l (σ1.put o.dst .skip) k).den N C ρ J=some r→wpListIn (Fr ro) 0 P ops Q l (a.put o.dst undef) w:=by
   intro σ1 h1 hJ1 hd1
   exact sxOps_sound hC hinl hyl l (σ1.put o.dst .skip) φ ρ J (a.put o.dst undef) w hdst' (h1.put hput (by simp[SVR])) (by
    have:(σ1.put o.dst .skip).jl=σ1.jl:=by unfold St.put;split <;> rfl
    rw[this,hJ1]) trivial (by rw[put_size,hsz]) hk hd1
  unfold wpListIn
  simp only[sxOps]at hd
  split at hd
  · rename_i hg
    rw[if_pos (by simp[Region.wanted,hg])]
    exact exec σ h hJ hd
  · rename_i j want hg
    have hw:Region.wanted o (yielded ops a.tmps)=(yielded ops a.tmps j == some want):=by simp[Region.wanted,hg]
    rw[hw]
    split at hd
    · simp[T.den]at hd
    · rename_i c hc
      obtain⟨fc,hcb⟩:=condOf_sound h hc
      rw[hcb]
      split at hd
      · rename_i hk1
        rw[if_pos (knownIs_sound h.known c true hk1)]
        exact exec σ h hJ hd
      · rename_i hk1
        rw[if_neg (by rw[knownIs_sound h.known c false hk1];simp)]
        exact⟨fun _ _=>trivial,skip σ h hJ hd⟩
      · split at hd
        · rename_i gs v σ2 hs
          split at hs
          · rename_i hpure
            rw[Option.filter_eq_some_iff]at hs
            obtain⟨hs,hfits⟩:=hs
            obtain⟨hall,hd'⟩:=asks_den _ σ h.known hd
            have hjl:(σ.put o.dst (.gd c v)).jl=σ.jl:=by unfold St.put;split <;> rfl
            cases hb:(c.den ρ).b with
            | true=>
             rw[if_pos rfl]
             have h1:=h.learn fc hb
             obtain⟨_,hfit,hmain⟩:=pure_sound h1 hpure hs
             obtain⟨u,hr,hu⟩:=hmain (fun g hg'=>by
              have:=hall _ (List.mem_map.2 ⟨g,hg',rfl⟩)
              rw[Ex.den_mk2]at this
              have h2:((ncond c).den ρ).b=false:=by rw[ncond_b,hb];rfl
              have h3:(((ncond c).den ρ).b|| (g.den ρ).b)=true:=this
              rw[h2,Bool.false_or]at h3
              exact h3)
             refine wpr_value (pure_nodefer hpure) hr ?_
             refine sxOps_sound hC hinl hyl l (σ.put o.dst (.gd c v)) φ ρ J (a.put o.dst u) w hdst' (h.put hput ?_) (by rw[hjl,hJ]) trivial (by rw[put_size,hsz]) hk hd'
             simp only[SVR]
             exact⟨fc,by rw[h.nv]at hfits;exact hfits,fun _=>hu,(fun hc=>by rw[hb]at hc;cases hc)⟩
            | false=>
             rw[if_neg (by simp)]
             refine⟨fun _ _=>trivial,?_⟩
             refine sxOps_sound hC hinl hyl l (σ.put o.dst (.gd c v)) φ ρ J (a.put o.dst undef) w hdst' (h.put hput ?_) (by rw[hjl,hJ]) trivial (by rw[put_size,hsz]) hk hd'
             simp only[SVR]
             exact⟨fc,by rw[h.nv]at hfits;exact hfits,(fun hc=>by rw[hb]at hc;cases hc),fun _=>trivial⟩
          · cases hs
        · rw[mkIte_den]at hd
          cases hb:(c.den ρ).b with
          | true=>
           rw[if_pos hb]at hd
           rw[if_pos rfl]
           exact exec _ (h.learn fc hb) hJ hd
          | false=>
           rw[if_neg (by rw[hb];simp)]at hd
           rw[if_neg (by simp)]
           exact⟨fun _ _=>trivial,skip _ (h.learn fc hb) hJ hd⟩
end
end Go.Proofs.YtckjdlmfibjpaaaGreat.Sx
set_option linter.unusedVariables false
set_option linter.unusedSimpArgs false
namespace Go.Proofs.YtckjdlmfibjpaaaGreat.Sx
open Go.RowKit
section
variable {X:Env} {W0:World} {φ:Names} {ρ ρ0:List PV} {s p:St} {fs:List Act} {w:World} {base:Nat} {es:List Ex} {pi:List (Nat×Nat)}
theorem sub_den (hb:ρ0.length=base) (h0:ρ0 <+:ρ):∀ (e:Ex),e.fits (base+es.length)=true→(e.sub base es).den ρ=e.den (ρ0++es.map (·.den ρ))
 | .var i,hf=>by
  simp only[Ex.fits,decide_eq_true_eq]at hf
  simp only[Ex.sub]
  split
  · rename_i hi
    simp only[Ex.den]
    rw[List.getD_eq_getElem?_getD,List.getD_eq_getElem?_getD,List.getElem?_append_right (by omega),List.getElem?_map,hb]
    have:i - base < es.length:=by omega
    rw[List.getElem?_eq_getElem this]
    rfl
  · rename_i hi
    obtain⟨t,rfl⟩:=h0
    simp only[Ex.den]
    rw[List.getD_eq_getElem?_getD,List.getD_eq_getElem?_getD,List.getElem?_append_left (by omega),List.getElem?_append_left (by omega)]
 | .int _ _,_ | .bool _,_ | .str _,_ | .nil,_ | .nilc,_=>rfl
 | .un o a,hf=>by simp only[Ex.fits]at hf;simp only[Ex.sub,Ex.den,sub_den hb h0 a hf]
 | .bin o a b,hf=>by simp only[Ex.fits,Bool.and_eq_true]at hf;simp only[Ex.sub,Ex.den,sub_den hb h0 a hf.1,sub_den hb h0 b hf.2]
 | .tri o a b c,hf=>by simp only[Ex.fits,Bool.and_eq_true]at hf;simp only[Ex.sub,Ex.den,sub_den hb h0 a hf.1.1,sub_den hb h0 b hf.1.2,sub_den hb h0 c hf.2]
def renamed (φ:Names) (pi:List (Nat×Nat)) (hp:List (Nat×Ob)):Names:=fun l=>
 match look pi l with
 | some l'=>φ l'
 | none=>match look hp l with
  | some (.rows ks _)=>some (Bk.of none ks.length 0 0)
  | _=>none
theorem renamed_some {hp:List (Nat×Ob)} {l:Nat} {k:Bk} {g:Nat} (h:renamed φ pi hp l=some k) (hg:k.has g):∃l',look pi l=some l'∧φ l'=some k:=by
 unfold renamed at h
 split at h
 · rename_i l' hl;exact⟨l',hl,h⟩
 · split at h
   · cases h;simp at hg
   · cases h
theorem owned_renamed {hp:List (Nat×Ob)} {b:Nat} (h:Owned X (renamed φ pi hp) b):Owned X φ b:=by
 rcases h with hx | ⟨l,k,hk,hg⟩
 · exact .inl hx
 · obtain⟨l',_,hφ⟩:=renamed_some hk hg
   exact .inr ⟨l',k,hφ,hg⟩
mutual
theorem mat_sound {hp:List (Nat×Ob)} {n x:Nat} (hr:Rel X W0 φ ρ s fs w) (hb:ρ0.length=base) (h0:ρ0 <+:ρ) (hn:n=base+es.length) :
    ∀ (t q:SV) (v:Value),mat base es pi s t q=true→t.fits n x=true→SVR w X φ ρ s.nx q v→SVR w X (renamed φ pi hp) (ρ0++es.map (·.den ρ)) x t v
 | .undef,_,_,_,_,_=>by simp[SVR]
 | .skip,q,v,hm,_,hv=>by cases q <;> simp[mat]at hm;exact hv
 | .ex k e,q,v,hm,hf,hv=>by
  simp only[mat]at hm
  split at hm
  · rename_i e' he
    simp only[Bool.and_eq_true]at hm
    have hse:=Ex.same_eq _ _ hm.1
    subst hse
    simp only[SV.fits]at hf
    subst hn
    obtain⟨_,hrv⟩:=hr.leaf hv he (U:=Owned X (renamed φ pi hp)) (fun b hb'=>owned_renamed hb') (fun l q' hq kk g hk hg ho=>by
     subst hq
     have hall:=hm.2
     simp only[List.all_eq_true]at hall
     rcases ho with hx | ⟨m,k',hm',hg'⟩
     · have:=hr.old.1 g hx
       have:=(hr.lowg l kk g hk hg).1
       omega
     · obtain⟨m',hpm,hφ⟩:=renamed_some hm' hg'
       have:=hr.inj m' l k' kk g hφ hk hg' (.inl hg)
       subst this
       have:=hall _ (look_mem _ _ _ hpm)
       simp at this)
    simp only[SVR]
    refine⟨by simp only[List.length_append,List.length_map,hb];exact hf,?_⟩
    rw[←sub_den hb h0 e hf]
    exact hrv
  · cases hm
 | .nilS,q,v,hm,_,hv=>by cases q <;> simp[mat]at hm;exact hv
 | .nilP,q,v,hm,_,hv=>by cases q <;> simp[mat]at hm;exact hv
 | .nilF,q,v,hm,_,hv=>by cases q <;> simp[mat]at hm;exact hv
 | .bfn f l,q,v,hm,hf,hv=>by
  cases q <;> simp only[mat]at hm <;> try cases hm
  simp only[Bool.and_eq_true,beq_iff_eq]at hm
  obtain⟨rfl,hm⟩:=hm
  simp only[SV.fits]at hf
  simp only[SVR]at hv ⊢
  obtain⟨cs,rfl,hl⟩:=hv
  exact⟨cs,rfl,mats_sound hr hb h0 hn l _ _ hm hf hl⟩
 | .alt c t1 t2,q,v,hm,hf,hv=>by
  simp only[SV.fits,Bool.and_eq_true]at hf
  obtain⟨⟨fc,f1⟩,f2⟩:=hf
  have flen:(ρ0++es.map (·.den ρ)).length=n:=by simp only[List.length_append,List.length_map,hb,hn]
  have hsd:(c.sub base es).den ρ=c.den (ρ0++es.map (·.den ρ)):=sub_den hb h0 c (by rw[←hn];exact fc)
  have side:(match c.sub base es with | .bool true=>mat base es pi s t1 q | .bool false=>mat base es pi s t2 q | _=>false)=true→SVR w X (renamed φ pi hp) (ρ0++es.map (·.den ρ)) x (.alt c t1 t2) v:=by
   intro hh
   split at hh
   · rename_i hc
     rw[hc]at hsd
     have h1:=mat_sound (hp:=hp) hr hb h0 hn t1 q v hh f1 hv
     simp only[SVR,flen]
     refine⟨fc,f1,f2,fun _=>h1,fun hx=>?_⟩
     rw[←hsd]at hx
     cases hx
   · rename_i hc
     rw[hc]at hsd
     have h1:=mat_sound (hp:=hp) hr hb h0 hn t2 q v hh f2 hv
     simp only[SVR,flen]
     refine⟨fc,f1,f2,fun hx=>?_,fun _=>h1⟩
     rw[←hsd]at hx
     cases hx
   · cases hh
  cases q with
  | alt c' u1 u2=>
   simp only[mat,Bool.and_eq_true]at hm
   obtain⟨⟨hc,h1⟩,h2⟩:=hm
   have hse:=Ex.same_eq _ _ hc
   subst hse
   simp only[SVR]at hv
   simp only[SVR,flen]
   rw[hsd]at hv
   exact⟨fc,f1,f2,fun hx=>mat_sound (hp:=hp) hr hb h0 hn t1 u1 v h1 f1 (hv.2.2.2.1 hx),fun hx=>mat_sound (hp:=hp) hr hb h0 hn t2 u2 v h2 f2 (hv.2.2.2.2 hx)⟩
  | _=>simp only[mat]at hm;exact side hm
 | .mptr ..,q,v,hm,_,_=>by simp[mat]at hm
 | .mrow l e,q,v,hm,hf,hv=>by
  cases q <;> simp only[mat]at hm <;> try cases hm
  rename_i l' e'
  simp only[Bool.and_eq_true,beq_iff_eq]at hm
  obtain⟨hpl,hi⟩:=hm
  have hse:=Ex.same_eq _ _ hi
  subst hse
  simp only[SV.fits,Bool.and_eq_true,decide_eq_true_eq]at hf
  subst hn
  simp only[SVR]at hv ⊢
  rw[←sub_den hb h0 e hf.2]
  refine⟨hf.1,by simp only[List.length_append,List.length_map,hb];exact hf.2,hv.2.2.1,fun k hk=>?_⟩
  unfold renamed at hk
  rw[hpl]at hk
  exact hv.2.2.2 k hk
 | .mp l,q,v,hm,hf,hv=>by
  cases q <;> simp[mat]at hm
  rename_i l'
  simp only[SV.fits,decide_eq_true_eq]at hf
  simp only[SVR]at hv ⊢
  obtain⟨_,hp,hk⟩:=hv
  refine⟨hf,hp,fun k hk'=>?_⟩
  have hφ:φ l'=some k:=by
   unfold renamed at hk'
   rw[hm]at hk'
   exact hk'
  exact hk k hφ
 | .yld m,q,v,hm,_,hv=>by cases q <;> simp[mat]at hm;subst hm;exact hv
 | .agg l,q,v,hm,hf,hv=>by
  cases q <;> simp only[mat]at hm <;> try cases hm
  simp only[SV.fits]at hf
  simp only[SVR]at hv ⊢
  obtain⟨cs,rfl,hl⟩:=hv
  exact⟨cs,rfl,mats_sound hr hb h0 hn l _ _ hm hf hl⟩
 | .tup l,q,v,hm,hf,hv=>by
  cases q <;> simp only[mat]at hm <;> try cases hm
  simp only[SV.fits]at hf
  simp only[SVR]at hv ⊢
  obtain⟨cs,rfl,hl⟩:=hv
  exact⟨cs,rfl,mats_sound hr hb h0 hn l _ _ hm hf hl⟩
 | .ptr l i o,q,v,hm,hf,hv=>by
  cases q <;> simp only[mat]at hm <;> try cases hm
  rename_i l' i' o'
  simp only[Bool.and_eq_true,beq_iff_eq]at hm
  obtain⟨⟨hpl,hi⟩,rfl⟩:=hm
  have hse:=Ex.same_eq _ _ hi
  subst hse
  simp only[SV.fits,Bool.and_eq_true,decide_eq_true_eq]at hf
  subst hn
  simp only[SVR]at hv ⊢
  rw[←sub_den hb h0 i hf.2]
  refine⟨by simp only[List.length_append,List.length_map,hb];exact hf.2,hf.1,hv.2.2.1,fun k hk=>?_⟩
  unfold renamed at hk
  rw[hpl]at hk
  exact hv.2.2.2 k hk
 | .rptr ..,q,v,hm,_,_=>by simp[mat]at hm
 | .gd ..,q,v,hm,_,_=>by simp[mat]at hm
 | .own l none,q,v,hm,hf,hv=>by
  simp only[SV.fits,decide_eq_true_eq]at hf
  cases q with
  | own l' p'=>
   cases p' with
   | none=>
    simp only[mat,beq_iff_eq]at hm
    simp only[SVR]at hv ⊢
    refine⟨hf,hv.2.1,fun k hk=>?_⟩
    unfold renamed at hk
    rw[hm]at hk
    exact hv.2.2 k hk
   | some q=>simp[mat]at hm
  | nilS=>
   simp only[mat]at hm
   simp only[SVR]at hv ⊢
   refine⟨hf,⟨_,_,_,hv⟩,fun k hk=>?_⟩
   unfold renamed at hk
   rw[Option.isNone_iff_eq_none.1 hm]at hk
   simp only at hk
   split at hk
   · cases hk;unfold OwnAt;exact⟨rfl,hv⟩
   · cases hk
  | _=>simp[mat]at hm
 | .own l (some (lo,n')),q,v,hm,hf,hv=>by
  simp only[SV.fits,Bool.and_eq_true,decide_eq_true_eq]at hf
  cases q with
  | own l' p'=>
   cases p' with
   | none=>simp[mat]at hm
   | some q=>
    obtain⟨lo',n2⟩:=q
    simp only[mat,Bool.and_eq_true,beq_iff_eq]at hm
    obtain⟨⟨hpl,h1⟩,h2⟩:=hm
    have e1:=Ex.same_eq _ _ h1
    have e2:=Ex.same_eq _ _ h2
    subst e1 e2
    subst hn
    simp only[SVR]at hv ⊢
    rw[←sub_den hb h0 lo hf.1.2,←sub_den hb h0 n' hf.2]
    refine⟨by simp only[List.length_append,List.length_map,hb];exact hf.1.2,by simp only[List.length_append,List.length_map,hb];exact hf.2,hf.1.1,hv.2.2.2.1,fun k hk=>?_⟩
    unfold renamed at hk
    rw[hpl]at hk
    exact hv.2.2.2.2 k hk
  | _=>simp[mat]at hm
 | .fbox c o,q,v,hm,hf,hv=>by
  cases q <;> simp only[mat]at hm <;> try cases hm
  simp only[Bool.and_eq_true,beq_iff_eq]at hm
  obtain⟨rfl,hm⟩:=hm
  simp only[SV.fits]at hf
  simp only[SVR]at hv ⊢
  obtain⟨g,vs,rfl,h1,h2,hl,h3⟩:=hv
  exact⟨g,vs,rfl,fun ho=>h1 (owned_renamed ho),h2,mats_sound hr hb h0 hn c _ _ hm hf hl,h3⟩
 | .fn f c,q,v,hm,hf,hv=>by
  cases q <;> simp only[mat]at hm <;> try cases hm
  simp only[Bool.and_eq_true,beq_iff_eq]at hm
  obtain⟨rfl,hm⟩:=hm
  simp only[SV.fits]at hf
  simp only[SVR]at hv ⊢
  obtain⟨cs,rfl,hl⟩:=hv
  exact⟨cs,rfl,mats_sound hr hb h0 hn c _ _ hm hf hl⟩
theorem mats_sound {hp:List (Nat×Ob)} {n x:Nat} (hr:Rel X W0 φ ρ s fs w) (hb:ρ0.length=base) (h0:ρ0 <+:ρ) (hn:n=base+es.length) :
    ∀ (t q:List SV) (v:List Value),mats base es pi s t q=true→fitsAll n x t=true→SVRs w X φ ρ s.nx q v→SVRs w X (renamed φ pi hp) (ρ0++es.map (·.den ρ)) x t v
 | [],q,v,hm,_,hv=>by cases q with | nil=>simpa only[SVRs]using hv | cons _ _=>simp[mats]at hm
 | t::ts,q,v,hm,hf,hv=>by
  cases q with
  | nil=>simp[mats]at hm
  | cons q qs=>
   simp only[mats,Bool.and_eq_true]at hm
   simp only[fitsAll,Bool.and_eq_true]at hf
   simp only[SVRs]at hv ⊢
   obtain⟨u,us,rfl,h1,h2⟩:=hv
   exact⟨u,us,rfl,mat_sound hr hb h0 hn t q u hm.1 hf.1 h1,mats_sound hr hb h0 hn ts qs us hm.2 hf.2 h2⟩
end
theorem fitsAll_mem {n x:Nat}:∀ {l:List SV},fitsAll n x l=true→∀s∈l,s.fits n x=true
 | a::r,h,s,hs=>by
  simp only[fitsAll,Bool.and_eq_true]at h
  rcases List.mem_cons.1 hs with rfl | hs
  · exact h.1
  · exact fitsAll_mem h.2 s hs
theorem matFr_mem {f:List (Nat×SV)}:∀ {l:List (Nat×SV)},matFr base es pi s f l=true→∀t q,(t,q)∈l→mat base es pi s q ((look f t).getD .undef)=true
 | (t0,q0)::r,h,t,q,hm=>by
  simp only[matFr,Bool.and_eq_true]at h
  rcases List.mem_cons.1 hm with he | hm
  · cases he;exact h.1
  · exact matFr_mem h.2 t q hm
theorem matHeap_mem:∀ {l:List (Nat×Ob)},matHeap base es pi s l=true→∀m o,(m,o)∈l→
    (match look pi m with
     | some l'=>match look s.heap l' with | some o'=>matOb base es pi s o o' | none=>false
     | none=>match o with | .rows _ e=>(e.sub base es).same .nil | _=>false)=true
 | (m0,o0)::r,h,m,o,hm=>by
  simp only[matHeap,Bool.and_eq_true]at h
  rcases List.mem_cons.1 hm with he | hm
  · cases he;exact h.1
  · exact matHeap_mem h.2 m o hm
theorem nodup_snd:∀ {l:List (Nat×Nat)},nodup (l.map (·.2))=true→∀a b c,(a,c)∈l→(b,c)∈l→a=b
 | (x,y)::r,h,a,b,c,ha,hb=>by
  simp only[List.map_cons,nodup,Bool.and_eq_true,Bool.not_eq_true']at h
  have hn:∀z,(z,y)∉r:=fun z hz=>by
   have:=h.1
   rw[List.contains_eq_mem]at this
   simp only[decide_eq_false_iff_not]at this
   exact this (List.mem_map.2 ⟨_,hz,rfl⟩)
  rcases List.mem_cons.1 ha with ha | ha
  · cases ha
    rcases List.mem_cons.1 hb with hb | hb
    · cases hb;rfl
    · exact(hn b hb).elim
  · rcases List.mem_cons.1 hb with hb | hb
    · cases hb;exact(hn a ha).elim
    · exact nodup_snd h.2 a b c ha hb
theorem knownIn_mem {k:List (Ex×Bool)}:∀ {l:List (Ex×Bool)},knownIn k l=true→∀c b,(c,b)∈l→isKnown k c=some b
 | (c0,b0)::r,h,c,b,hm=>by
  simp only[knownIn,Bool.and_eq_true,beq_iff_eq]at h
  rcases List.mem_cons.1 hm with he | hm
  · cases he;exact h.1
  · exact knownIn_mem h.2 c b hm
theorem upto_length (f:List (Nat×Ex)) (d:Nat→Ex) (b:Nat):∀n,(upto f d b n).length=n
 | 0=>rfl
 | n+1=>by simp[upto,upto_length f d b n]
theorem matFrs_sound {x:Nat} {hp:List (Nat×Ob)} {n:Nat} (hr:Rel X W0 φ ρ s fs w) (hb:ρ0.length=base) (h0:ρ0 <+:ρ) (hn:n=base+es.length) :
    ∀ (ps qs:List (List (Nat×SV))) (as:List Act),matFrs base es pi s ps qs=true→(ps.all fun f=>fitsAll n x (f.map (·.2)))=true→FrsR w X φ ρ s.nx qs as→FrsR w X (renamed φ pi hp) (ρ0++es.map (·.den ρ)) x ps as
 | [],qs,as,hm,_,hv=>by cases qs with | nil=>(simp only[FrsR]at hv ⊢;exact⟨hv.1,fun b o ho=>⟨(hv.2 b o ho).1,fun hh=>(hv.2 b o ho).2.1 (owned_renamed hh),(hv.2 b o ho).2.2⟩⟩) | cons _ _=>simp[matFrs]at hm
 | f ::ps,qs,as,hm,hf,hv=>by
  cases qs with
  | nil=>simp[matFrs]at hm
  | cons q qs=>
   simp only[matFrs,Bool.and_eq_true]at hm
   simp only[List.all_cons,Bool.and_eq_true]at hf
   simp only[FrsR]at hv ⊢
   obtain⟨a,as',rfl,h1,hd,h2⟩:=hv
   refine⟨a,as',rfl,fun t sv hl=>?_,⟨⟨hd.1.1,fun d hdm=>?_⟩,hd.2⟩,matFrs_sound hr hb h0 hn ps qs as' hm.2 hf.2 h2⟩
   rotate_left
   · obtain⟨D,h3,h4,h5,h6⟩:=hd.1.2 d hdm
     exact⟨D,h3,h4,fun hh=>h5 (owned_renamed hh),h6⟩
   have hmem:=look_mem _ _ _ hl
   refine mat_sound hr hb h0 hn sv _ _ (matFr_mem hm.1 t sv hmem) (fitsAll_mem hf.1 sv (List.mem_map.2 ⟨_,hmem,rfl⟩)) ?_
   cases hq:look q t with
   | none=>simp[SVR]
   | some sq=>simpa using h1 t sq hq
theorem inst_sound {es:List Ex} (hi:inst base p s=some es) (hr:Rel X W0 φ ρ s fs w) (hb:ρ0.length=base) (h0:ρ0 <+:ρ):∃φ',Rel X W0 φ' (ρ0++es.map (·.den ρ)) p fs w:=by
 unfold inst at hi
 simp only at hi
 split at hi
 · rename_i hc
   simp only[Bool.and_eq_true,decide_eq_true_eq]at hc
   obtain⟨⟨⟨⟨⟨⟨⟨⟨⟨⟨hle,hfr⟩,hhp⟩,hkn⟩,hnd⟩,hpn⟩,hff⟩,hhf⟩,hkf⟩,_⟩,hef⟩:=hc
   generalize hfd:findObs base p.heap s 200 [] (findFrs base s p.fr s.fr { es:= [],pi:= [] })=fd at *
   have hes:es=upto fd.es (fun _=> .nil) base (p.nv - base):=by cases hi;rfl
   rw[←hes]at hfr hhp hef
   have hl:es.length=p.nv - base:=by rw[hes];exact upto_length _ _ _ _
   have hn:p.nv=base+es.length:=by omega
   refine⟨renamed φ fd.pi p.heap,hr.below,hr.old,fun l k g hk hg=>?_,fun l l' k k' g hk hk' hg hg'=>?_,fun l k hk=>?_,by simp only[List.length_append,List.length_map,hb];exact hn,fun c b hcb=>?_,?_,fun l o hlo=>?_⟩
   · obtain⟨l',_,hφ⟩:=renamed_some hk hg
     exact hr.low l' k g hφ hg
   · obtain⟨m,hm,hφ⟩:=renamed_some hk hg
     obtain⟨m',hm',hφ'⟩:=renamed_some hk' hg'
     have:=hr.inj m m' k k' g hφ hφ' hg hg'
     subst this
     exact nodup_snd hnd _ _ _ (look_mem _ _ _ hm) (look_mem _ _ _ hm')
   · unfold renamed at hk
     split at hk
     · rename_i l' hl'
       rw[List.all_eq_true]at hpn
       simpa using hpn _ (look_mem _ _ _ hl')
     · split at hk
       · rename_i ks e hlk
         rw[List.all_eq_true]at hhf
         have:=hhf _ (look_mem _ _ _ hlk)
         simp only[Bool.and_eq_true,decide_eq_true_eq]at this
         exact this.1
       · cases hk
   · rw[List.all_eq_true]at hkf
     have hcf:c.fits base=true:=hkf _ hcb
     have hden:=isKnown_sound hr.known (knownIn_mem hkn c b hcb)
     have e1:c.den ρ=c.den ρ0:=Ex.den_ext h0 c (by rw[hb];exact hcf)
     have e2:c.den (ρ0++es.map (·.den ρ))=c.den ρ0:=Ex.den_ext (List.prefix_append _ _) c (by rw[hb];exact hcf)
     refine⟨Ex.fits_mono (by simp only[List.length_append,List.length_map,hb];omega) c hcf,by rw[e2,←e1];exact hden⟩
   · exact matFrs_sound (n:=p.nv) hr hb h0 hn _ _ _ hfr hff hr.frames
   · have hmem:=look_mem _ _ _ hlo
     have hmo:=matHeap_mem hhp l o hmem
     rw[List.all_eq_true]at hhf
     have hof:=hhf _ hmem
     simp only[Bool.and_eq_true,decide_eq_true_eq]at hof
     split at hmo
     · rename_i l' hpl
       split at hmo
       · rename_i o' hlo'
         obtain⟨k,hφ,hob⟩:=hr.heap l' o' hlo'
         refine⟨k,by unfold renamed;rw[hpl];exact hφ,?_⟩
         cases o with
         | box cs=>
          cases o' with
          | box cs'=>
           simp only[matOb]at hmo
           simp only[ObR]at hob ⊢
           obtain⟨h1,g,c,hg,hc,hcs⟩:=hob
           exact⟨h1,g,c,hg,hc,mats_sound hr hb h0 hn cs cs' _ hmo hof.2 hcs⟩
          | rows _ _=>simp[matOb]at hmo
          | imap _=>simp[matOb]at hmo
          | rmap _ _ _=>simp[matOb]at hmo
         | rmap ks e hh=>
          cases hh with
          | some x=>cases o' <;> simp[matOb]at hmo
          | none=>
           cases o' with
           | box _=>simp[matOb]at hmo
           | rows _ _=>simp[matOb]at hmo
           | imap _=>simp[matOb]at hmo
           | rmap ks' e' hh'=>
            cases hh' with
            | some x=>simp[matOb]at hmo
            | none=>
             simp only[matOb,Bool.and_eq_true]at hmo
             have hkk:=LK.sames_eq _ _ hmo.1
             subst hkk
             have hee:=Ex.same_eq _ _ hmo.2
             subst hee
             have hef':e.fits p.nv=true:=by
              have:=hof.2
              simp only[Ob.fits,Bool.and_eq_true]at this
              exact this.1
             rw[hn]at hef'
             simp only[ObR]at hob ⊢
             obtain⟨h1,_,h2,g,xs,h3,h4,h5,h6,h7,_,h8⟩:=hob
             refine⟨by simp only[List.length_append,List.length_map,hb];exact hef',(fun x hx=>by cases hx),h2,g,xs,h3,by rw[←sub_den hb h0 e hef'];exact h4,h5,h6,h7,(fun x hx=>by cases hx),fun a ha=>?_⟩
             exact(h8 a ha).mono (Nat.le_refl _) (fun b _ hnb=>⟨fun _ _ hu=>hu,fun ho=>hnb (owned_renamed ho)⟩) (fun _ _=>rfl)
         | imap e=>
          cases o' with
          | box _=>simp[matOb]at hmo
          | rows _ _=>simp[matOb]at hmo
          | rmap _ _ _=>simp[matOb]at hmo
          | imap e'=>
           simp only[matOb]at hmo
           have hee:=Ex.same_eq _ _ hmo
           subst hee
           have hef':e.fits p.nv=true:=hof.2
           rw[hn]at hef'
           simp only[ObR]at hob ⊢
           obtain⟨h1,g,xs,hg,hx,hown⟩:=hob
           exact⟨by simp only[List.length_append,List.length_map,hb];exact hef',g,xs,hg,by rw[←sub_den hb h0 e hef'];exact hx,hown⟩
         | rows ks e=>
          cases o' with
          | box _=>simp[matOb]at hmo
          | imap _=>simp[matOb]at hmo
          | rmap _ _ _=>simp[matOb]at hmo
          | rows ks' e'=>
           simp only[matOb,Bool.and_eq_true]at hmo
           have hks:=LK.sames_eq _ _ hmo.1
           subst hks
           have hee:=Ex.same_eq _ _ hmo.2
           subst hee
           have hef':e.fits p.nv=true:=hof.2
           rw[hn]at hef'
           simp only[ObR]at hob ⊢
           obtain⟨h1,h2,xs,h3,h4,h5⟩:=hob
           refine⟨by simp only[List.length_append,List.length_map,hb];exact hef',h2,xs,by rw[←sub_den hb h0 e hef'];exact h3,h4,?_⟩
           split
           · rename_i hg;rw[hg]at h5;exact h5
           · rename_i g hg
             rw[hg]at h5
             obtain⟨c,hc,hrw⟩:=h5
             exact⟨c,hc,fun i x hx=>RVs.mono (Nat.le_refl _) (fun b _ hnb=>⟨rfl,fun ho=>hnb (owned_renamed ho)⟩) _ _ _ (hrw i x hx)⟩
       · cases hmo
     · rename_i hpl
       cases o with
       | box _=>simp at hmo
       | imap _=>simp at hmo
       | rmap _ _ _=>simp at hmo
       | rows ks e=>
        simp only at hmo
        have hee:=Ex.same_eq _ _ hmo
        have hef':e.fits p.nv=true:=hof.2
        rw[hn]at hef'
        refine⟨(Bk.of none ks.length 0 0),by unfold renamed;rw[hpl,hlo],?_⟩
        simp only[ObR]
        refine⟨by simp only[List.length_append,List.length_map,hb];exact hef',trivial,[],by rw[←sub_den hb h0 e hef',hee];rfl,rfl,rfl⟩
 · cases hi
end
end Go.Proofs.YtckjdlmfibjpaaaGreat.Sx
set_option linter.unusedVariables false
set_option linter.unusedSimpArgs false
namespace Go.Proofs.YtckjdlmfibjpaaaGreat.Sx
open Go.RowKit
section
variable {P:Program} {X:Env} {W0:World} {φ:Names} {ρ:List PV} {σ:St} {a:Act} {fs:List Act} {w w':World} {nx:Nat} {ys':Nat→Option Nat} {pin':Nat→Option Loop}
mutual
theorem SVR.env:∀ (s:SV) (v:Value),(ys'=X.ys∨s.hasY=false)→SVR w X φ ρ nx s v→SVR w { X with ys:=ys',pin:=pin' } φ ρ nx s v
 | .undef,v,_,_=>by simp[SVR]
 | .skip,v,_,hv | .nilS,v,_,hv | .nilP,v,_,hv | .nilF,v,_,hv=>by simp only[SVR]at *;exact hv
 | .yld m,v,hy,hv=>by
  rcases hy with rfl | hy
  · exact hv
  · simp[SV.hasY]at hy
 | .ex k e,v,_,hv=>by simp only[SVR]at *;exact hv
 | .gd c s,v,hy,hv=>by
  simp only[SVR,SV.hasY]at *
  exact⟨hv.1,hv.2.1,fun hc=>SVR.env s v hy (hv.2.2.1 hc),hv.2.2.2⟩
 | .agg l,v,hy,hv | .tup l,v,hy,hv=>by
  simp only[SVR,SV.hasY]at *
  obtain⟨cs,rfl,hl⟩:=hv
  exact⟨cs,rfl,SVRs.env l _ hy hl⟩
 | .ptr l i o,v,_,hv=>by simp only[SVR]at *;exact hv
 | .mp l,v,_,hv=>by simp only[SVR]at *;exact hv
 | .mrow l e,v,_,hv=>by simp only[SVR]at *;exact hv
 | .mptr l e i o,v,_,hv=>by simp only[SVR]at *;exact hv
 | .rptr ks e i o,v,_,hv=>by simp only[SVR]at *;exact hv
 | .own l none,v,_,hv=>by simp only[SVR]at *;exact hv
 | .own l (some (lo,n)),v,_,hv=>by simp only[SVR]at *;exact hv
 | .fbox cs o,v,hy,hv=>by
  simp only[SVR,SV.hasY]at *
  obtain⟨g,vs,rfl,h1,h2,hl,h3⟩:=hv
  exact⟨g,vs,rfl,h1,h2,SVRs.env cs _ hy hl,h3⟩
 | .fn f caps,v,hy,hv=>by
  simp only[SVR,SV.hasY]at *
  obtain⟨cs,rfl,hl⟩:=hv
  exact⟨cs,rfl,SVRs.env caps _ hy hl⟩
 | .bfn f caps,v,hy,hv=>by
  simp only[SVR,SV.hasY]at *
  obtain⟨cs,rfl,hl⟩:=hv
  exact⟨cs,rfl,SVRs.env caps _ hy hl⟩
 | .alt c x y,v,hy,hv=>by
  simp only[SVR,SV.hasY,Bool.or_eq_false_iff]at *
  exact⟨hv.1,hv.2.1,hv.2.2.1,fun hc=>SVR.env x v (hy.imp id (·.1)) (hv.2.2.2.1 hc),fun hc=>SVR.env y v (hy.imp id (·.2)) (hv.2.2.2.2 hc)⟩
theorem SVRs.env:∀ (l:List SV) (vs:List Value),(ys'=X.ys∨hasYs l=false)→SVRs w X φ ρ nx l vs→SVRs w { X with ys:=ys',pin:=pin' } φ ρ nx l vs
 | [],vs,_,hv=>by simp only[SVRs]at *;exact hv
 | s::r,vs,hy,hv=>by
  simp only[SVRs,hasYs,Bool.or_eq_false_iff]at *
  obtain⟨v,vs',rfl,h1,h2⟩:=hv
  exact⟨v,vs',rfl,SVR.env s v (hy.imp id (·.1)) h1,SVRs.env r vs' (hy.imp id (·.2)) h2⟩
end
theorem ObR.env {k:Bk}:∀ (o:Ob),(ys'=X.ys∨o.hasY=false)→ObR w X φ ρ nx k o→ObR w { X with ys:=ys',pin:=pin' } φ ρ nx k o
 | .box cs,hy,h=>by
  obtain⟨h1,g,c,h2,h3,h4⟩:=h
  exact⟨h1,g,c,h2,h3,SVRs.env cs _ hy h4⟩
 | .rows ks e,_,h=>h
 | .imap e,_,h=>h
 | .rmap ks e hh,_,h=>h
def St.Clean (σ:St):Prop:=(∀f∈σ.fr,∀x∈f,x.2.hasY=false)∧∀l o,look σ.heap l=some o→o.hasY=false
theorem scrub_clean (σ:St):σ.scrub.Clean:=by
 refine⟨fun f hf x hx=>?_,fun l o hl=>?_⟩
 · simp only[St.scrub,List.mem_map]at hf
   obtain⟨f0,_,rfl⟩:=hf
   simp only[noYs,List.mem_map]at hx
   obtain⟨y,_,rfl⟩:=hx
   dsimp only
   split
   · rfl
   · rename_i h;simpa using h
 · simp only[St.scrub]at hl
   rw[look_dels]at hl
   split at hl
   · cases hl
   · rename_i hn
     cases ho:o.hasY with
     | false=>rfl
     | true=>exact absurd (List.mem_map.2 ⟨(l,o),List.mem_filter.2 ⟨look_mem _ _ _ hl,ho⟩,rfl⟩) hn
theorem look_noYs:∀ (f:List (Nat×SV)) (t:Nat) (s:SV),look (noYs f) t=some s→s= .undef∨look f t=some s
 | [],t,s,h=>by simp[noYs,look]at h
 | (i,x)::r,t,s,h=>by
  simp only[noYs,List.map_cons,look]at h ⊢
  split at h
  · rename_i hi
    rw[if_pos hi]
    split at h
    · cases h;exact .inl rfl
    · exact .inr h
  · rename_i hi
    rw[if_neg hi]
    exact look_noYs r t s h
theorem FrR.noYs {f:List (Nat×SV)} {tm:Array Value} (h:FrR w X φ ρ nx f tm):FrR w X φ ρ nx (Sx.noYs f) tm:=fun t s hs=>by
 rcases look_noYs f t s hs with rfl | hs
 · simp[SVR]
 · exact h t s hs
theorem FrsR.noYs:∀ (l:List (List (Nat×SV))) (as:List Act),FrsR w X φ ρ nx l as→FrsR w X φ ρ nx (l.map Sx.noYs) as
 | [],as,h=>h
 | f::r,as,h=>by
  simp only[FrsR,List.map_cons]at *
  obtain⟨a,as',rfl,h1,hd,h2⟩:=h
  exact⟨a,as',rfl,h1.noYs,hd,FrsR.noYs r as' h2⟩
theorem Rel.scrub (h:Rel X W0 φ ρ σ fs w):Rel X W0 φ ρ σ.scrub fs w:=by
 refine⟨h.below,h.old,h.low,h.inj,h.names,h.nv,h.known,FrsR.noYs _ _ h.frames,fun l o hl=>?_⟩
 have hl':look (dels σ.heap _) l=some o:=hl
 rw[look_dels]at hl'
 split at hl'
 · cases hl'
 · exact h.heap l o hl'
theorem FrsR.pins:∀ (l:List (List (Nat×SV))) (as:List Act),FrsR w X φ ρ nx l as→Pins w X φ
 | [],as,h=>by simp only[FrsR]at h;exact h.2
 | f::r,as,h=>by simp only[FrsR]at h;obtain⟨a,as',rfl,_,_,h2⟩:=h;exact FrsR.pins r as' h2
theorem FrsR.length:∀ (l:List (List (Nat×SV))) (as:List Act),FrsR w X φ ρ nx l as→l.length=as.length
 | [],as,h=>by simp only[FrsR]at h;rw[h.1];rfl
 | f::r,as,h=>by simp only[FrsR]at h;obtain⟨a,as',rfl,_,_,h2⟩:=h;simp[FrsR.length r as' h2]
theorem FrsR.marks:∀ (l:List (List (Nat×SV))) (as:List Act),FrsR w X φ ρ nx l as→∀b∈as,∀d∈b.defers,∃D,d= { target:= .collected D,args:=#[] } ∧w.heap[D]? =some (.deferred (some []))
 | [],as,h,b,hb=>by simp only[FrsR]at h;rw[h.1]at hb;cases hb
 | f::r,as,h,b,hb=>by
  simp only[FrsR]at h
  obtain⟨a,as',rfl,_,hd,h2⟩:=h
  intro d hdm
  rcases List.mem_cons.1 hb with rfl | hb
  · obtain⟨D,h3,h4,_⟩:=hd.1.2 d hdm
    exact⟨D,h3,h4⟩
  · exact FrsR.marks r as' h2 b hb d hdm
theorem FrsR.env:∀ (l:List (List (Nat×SV))) (as:List Act),(ys'=X.ys∨∀f∈l,∀x∈f,x.2.hasY=false)→Pins w { X with ys:=ys',pin:=pin' } φ→FrsR w X φ ρ nx l as→FrsR w { X with ys:=ys',pin:=pin' } φ ρ nx l as
 | [],as,_,hp,h=>by simp only[FrsR]at *;exact⟨h.1,hp⟩
 | f::r,as,hy,hp,h=>by
  simp only[FrsR]at *
  obtain⟨a,as',rfl,h1,hd,h2⟩:=h
  refine⟨a,as',rfl,fun t s hs=>SVR.env s _ (hy.imp id fun hh=>hh f List.mem_cons_self _ (look_mem _ _ _ hs)) (h1 t s hs),hd,FrsR.env r as' (hy.imp id fun hh f hf=>hh f (List.mem_cons_of_mem _ hf)) hp h2⟩
theorem Rel.env (h:Rel X W0 φ ρ σ fs w) (hy:ys'=X.ys∨σ.Clean) (hp:Pins w { X with ys:=ys',pin:=pin' } φ):Rel { X with ys:=ys',pin:=pin' } W0 φ ρ σ fs w:=by
 refine⟨h.below,h.old,h.low,h.inj,h.names,h.nv,h.known,FrsR.env _ _ (hy.imp id (·.1)) hp h.frames,fun l o hl=>?_⟩
 obtain⟨k,hk,ho⟩:=h.heap l o hl
 exact⟨k,hk,ObR.env o (hy.imp id fun hh=>hh.2 l o hl) ho⟩
theorem EvoW.putObj {D:Nat} {o:Obj} (hn:¬Owned X φ D) (hc:∀c t f,w.heap[D]? ≠some (.cells c t f)) (o':Obj):EvoW X φ φ nx w (w.putObj D o'):=by
 refine⟨by simp,fun b _ _ off u hu=>?_,fun l k g c _ hk hg hh=>⟨c,?_,rfl⟩,fun _ _=> .inl rfl,fun _ _ h=>h⟩
 · by_cases he:b=D
   · subst he
     unfold World.cell? at hu
     split at hu
     · rename_i c el fz hb;exact absurd hb (hc c el fz)
     · cases hu
   · unfold World.cell? at hu ⊢
     rw[World.putObj_heap_other he]
     exact hu
 · rw[World.putObj_heap_other (fun e=>hc _ _ _ (e▸hh))]
   exact hh
theorem FrsR.turn {D:Nat} (hev:EvoW X φ φ nx w w') (hoth:∀b,b≠D→w'.heap[b]? =w.heap[b]?) (hpin:∀o,X.pin D≠some o) :
    ∀ (l:List (List (Nat×SV))) (as:List Act),(∀b∈as,({ target:= .collected D,args:=#[] }:Deferred)∉b.defers)→FrsR w X φ ρ nx l as→FrsR w' X φ ρ nx l as
 | [],as,hno,h=>by
  simp only[FrsR]at *
  refine⟨h.1,fun b o ho=>?_⟩
  obtain⟨h1,h2,h3⟩:=h.2 b o ho
  exact⟨(hoth b (fun e=>hpin o (e▸ho))).trans h1,h2,h3⟩
 | f::r,as,hno,h=>by
  simp only[FrsR]at *
  obtain⟨a,as',rfl,h1,hd,h2⟩:=h
  refine⟨a,as',rfl,fun t s hs=>SVR.evoW hev (List.prefix_refl _) (Nat.le_refl _) s _ (h1 t s hs),⟨⟨hd.1.1,fun d hdm=>?_⟩,hd.2⟩,FrsR.turn hev hoth hpin r as' (fun b hb=>hno b (List.mem_cons_of_mem _ hb)) h2⟩
  obtain⟨D',rfl,h3,h4,h5⟩:=hd.1.2 d hdm
  exact⟨D',rfl,(hoth D' (fun e=>hno a List.mem_cons_self (e▸hdm))).trans h3,h4,h5⟩
theorem Rel.turnAt (h:Rel X W0 φ ρ σ fs w) {D:Nat} {o:Loop} (ho:w.heap[D]? =some (.loop o)) (hn:¬Owned X φ D) (hlo:X.lo≤D) (hpin:∀o,X.pin D≠some o) (o':Loop):Rel X W0 φ ρ σ fs (w.putObj D (.loop o')):=by
 have hev:EvoW X φ φ σ.nx w (w.putObj D (.loop o')):=EvoW.putObj (o:= .loop o') hn (fun c t f=>by rw[ho];simp) _
 have hoth:∀b,b≠D→(w.putObj D (.loop o')).heap[b]? =w.heap[b]?:=fun b hb=>World.putObj_heap_other hb
 refine⟨h.below.trans ⟨rfl,rfl,rfl,by simp,fun k hk=>hoth k (by have:=h.old.2;omega)⟩,h.old,fun l k g hl hg=>by rw[World.putObj_size];exact h.low l k g hl hg,h.inj,h.names,h.nv,h.known,
  FrsR.turn hev hoth hpin _ _ (fun b hb hd=>?_) h.frames,fun l ob hl=>?_⟩
 · obtain⟨D',he,h4⟩:=FrsR.marks _ _ h.frames b hb _ hd
   cases he
   rw[ho]at h4
   cases h4
 · obtain⟨k,hk,hob⟩:=h.heap l ob hl
   exact⟨k,hk,ObR.evoW hev (List.prefix_refl _) (Nat.le_refl _) (fun g hg=>hoth g (fun e=>hn (.inr ⟨l,k,hk,e▸hg⟩))) ob hob⟩
theorem Rel.repin (h:Rel X W0 φ ρ σ fs w) {l:Nat} {o:Loop} (hp:X.pin l=some o) (o':Loop) (hy:ys'=X.ys∨σ.Clean) (hpin':∀b o2,pin' b=some o2→(b=l∧o2=o')∨(b≠l∧X.pin b=some o2)) :
    Rel { X with ys:=ys',pin:=pin' } W0 φ ρ σ fs (w.putObj l (.loop o')):=by
 have hP:=FrsR.pins _ _ h.frames
 obtain⟨q1,q2,q3⟩:=hP l o hp
 have s1:Rel { X with ys:=ys',pin:=fun b=>if b=l then none else X.pin b } W0 φ ρ σ fs w:=h.env hy (fun b o2 hb=>by
  dsimp only at hb
  split at hb
  · cases hb
  · exact hP b o2 hb)
 have s2:=s1.turnAt q1 q2 q3 (fun o2 hc=>by simp at hc) o'
 have:=s2.env (ys':=ys') (pin':=pin') (.inl rfl) (fun b o2 hb=>by
  rcases hpin' b o2 hb with⟨rfl,rfl⟩ | ⟨hne,hx⟩
  · exact⟨World.putObj_heap_same (Array.getElem?_eq_some_iff.1 q1).1,q2,q3⟩
  · obtain⟨r1,r2,r3⟩:=hP b o2 hx
    exact⟨(World.putObj_heap_other hne).trans r1,r2,r3⟩)
 exact this
theorem FrsR.at:∀ (pre:List Act) (l:List (List (Nat×SV))) {b:Act} {fs:List Act},FrsR w X φ ρ nx l (pre++b::fs)→∃f0 r,l.drop pre.length=f0::r∧FrR w X φ ρ nx f0 b.tmps
 | [],[],b,fs,h=>by simp[FrsR]at h
 | [],f::r,b,fs,h=>by
  simp only[FrsR,List.nil_append]at h
  obtain⟨_,_,he,h1,_⟩:=h
  cases he
  exact⟨f,r,rfl,h1⟩
 | p::pre,[],b,fs,h=>by simp[FrsR]at h
 | p::pre,f::r,b,fs,h=>by
  simp only[FrsR,List.cons_append]at h
  obtain⟨_,_,he,_,_,h2⟩:=h
  cases he
  exact FrsR.at pre r h2
theorem putsFr_sound:∀ (ps:List Nat) (args:List SV) (vs:List Value) (f:List (Nat×SV)) (tm:Array Value),FrR w X φ ρ nx f tm→SVRs w X φ ρ nx args vs→(∀t∈ps,t < tm.size)→
    FrR w X φ ρ nx (putsFr f (ps.zip args)) ((ps.zip vs).foldl (fun tmps x=>tmps.setIfInBounds x.1 x.2) tm)∧((ps.zip vs).foldl (fun tmps x=>tmps.setIfInBounds x.1 x.2) tm).size=tm.size
 | [],args,vs,f,tm,h,_,_=>by simp[putsFr,h]
 | p::ps,[],vs,f,tm,h,ha,_=>by simp only[SVRs]at ha;subst ha;simp[putsFr,h]
 | p ::ps,s::args,vs,f,tm,h,ha,hp=>by
  simp only[SVRs]at ha
  obtain⟨v,vs',rfl,h1,h2⟩:=ha
  simp only[List.zip_cons_cons,putsFr,List.foldl_cons]
  have hlt:=hp p List.mem_cons_self
  have:=putsFr_sound ps args vs' (puta f p s) (tm.setIfInBounds p v) (fun t q hq=>by
   by_cases he:t=p
   · subst he
     rw[look_put_same]at hq
     cases hq
     have:(tm.setIfInBounds t v).getD t undef=v:=by simp[Array.getD,hlt]
     rw[this]
     exact h1
   · rw[look_put_other _ _ _ _ he]at hq
     have:(tm.setIfInBounds p v).getD t undef=tm.getD t undef:=by
      rw[Array.getD_eq_getD_getElem?,Array.getD_eq_getD_getElem?,Array.getElem?_setIfInBounds_ne (Ne.symm he)]
     rw[this]
     exact h t q hq) h2 (fun t ht=>by rw[Array.size_setIfInBounds];exact hp t (List.mem_cons_of_mem _ ht))
  rw[Array.size_setIfInBounds]at this
  exact this
theorem Evo.ofBelow (hb:Below w.heap.size w w') (h:Rel X W0 φ ρ σ fs w):Evo X φ φ σ.nx w w':=
 ⟨hb.size,fun b hb' _=>hb.block b hb',fun l k g c hl hk hg hc=>⟨c,by rw[hb.block g (Array.getElem?_eq_some_iff.1 hc).1];exact hc,rfl⟩,fun _ _=> .inl rfl,fun _ _ h=>h⟩
theorem Rel.after (h:Rel X W0 φ ρ σ fs w) (hb:Below w.heap.size w w'):Rel X W0 φ ρ σ fs w':=by
 have ev:=Evo.ofBelow hb h
 refine⟨h.below.trans (hb.mono h.size_le),h.old,fun l k g hl hg=>⟨(h.low l k g hl hg).1,Nat.lt_of_lt_of_le (h.low l k g hl hg).2 hb.size⟩,h.inj,h.names,h.nv,h.known,FrsR.evo ev (List.prefix_refl _) (Nat.le_refl _) _ _ h.frames,fun l o hl=>?_⟩
 obtain⟨k,hk,ho⟩:=h.heap l o hl
 exact⟨k,hk,ObR.evo ev (List.prefix_refl _) (Nat.le_refl _) (fun g hg=>hb.block g (h.low l k g hk hg).2) o ho⟩
theorem Rel.not_owned (h:Rel X W0 φ ρ σ fs w) {b:Nat} (hb:w.heap.size≤b):¬Owned X φ b:=by
 rintro(hx | ⟨l,k,hk,hg⟩)
 · have:=h.old.1 b hx
   have:=h.size_le
   omega
 · have:=(h.low l k b hk hg).2
   omega
theorem Rel.openLoop (h:Rel X W0 φ ρ σ (a::fs) w) (hc:σ.Clean) (rec:Loop) (hpin:∀b o,pin' b=some o→(b=w.heap.size+1∧o=rec)∨X.pin b=some o) :
    Rel { X with ys:=ys',pin:=pin' } W0 φ ρ σ ({ a with defers:={ target:= .collected w.heap.size,args:=#[] }::a.defers }::fs) ((w.alloc (.deferred (some []))).alloc (.loop rec)):=by
 have hsz:=h.size_le
 have hlo:=h.old.2
 have hb:Below w.heap.size w ((w.alloc (.deferred (some []))).alloc (.loop rec)):=((Below.refl _ w).alloc (Nat.le_refl _) _).alloc (by simp) _
 have h1:=h.after hb
 have hP:=FrsR.pins _ _ h.frames
 have hl:((w.alloc (.deferred (some []))).alloc (.loop rec)).heap[w.heap.size+1]? =some (.loop rec):=by
  have:=World.alloc_heap_new (w.alloc (.deferred (some []))) (.loop rec)
  rwa [World.size_alloc]at this
 have hD:((w.alloc (.deferred (some []))).alloc (.loop rec)).heap[w.heap.size]? =some (.deferred (some [])):=by
  rw[Below.heap_alloc _ _ _ (by simp)]
  exact World.alloc_heap_new w _
 have h2:=h1.env (ys':=ys') (pin':=pin') (.inr hc) (fun b o hbo=>by
  rcases hpin b o hbo with⟨rfl,rfl⟩ | hx
  · exact⟨hl,h.not_owned (by omega),by show X.lo≤_;omega⟩
  · exact FrsR.pins _ _ h1.frames b o hx)
 have hmk:=FrsR.marks _ _ h.frames
 have hnew:∀b∈a::fs,({ target:= .collected w.heap.size,args:=#[] }:Deferred)∉b.defers:=fun b hbm hd=>by
  obtain⟨D',he,hh⟩:=hmk b hbm _ hd
  cases he
  have:=(Array.getElem?_eq_some_iff.1 hh).1
  omega
 refine⟨h2.below,h2.old,h2.low,h2.inj,h2.names,h2.nv,h2.known,?_,h2.heap⟩
 have hf:=h2.frames
 cases hfr:σ.fr with
 | nil=>rw[hfr]at hf;simp[FrsR]at hf
 | cons f r=>
  rw[hfr]at hf
  simp only[FrsR]at hf ⊢
  obtain⟨_,_,he,g1,gd,g2⟩:=hf
  cases he
  refine⟨_,_,rfl,g1,⟨⟨List.nodup_cons.2 ⟨hnew a List.mem_cons_self,gd.1.1⟩,fun d hd=>?_⟩,fun d hd=>?_⟩,g2⟩
  · rcases List.mem_cons.1 hd with rfl | hd
    · exact⟨w.heap.size,rfl,hD,h.not_owned (Nat.le_refl _),by show X.lo≤_;omega⟩
    · exact gd.1.2 d hd
  · rcases List.mem_cons.1 hd with rfl | hd
    · exact fun b hbm=>hnew b (List.mem_cons_of_mem _ hbm)
    · exact gd.2 d hd
end
end Go.Proofs.YtckjdlmfibjpaaaGreat.Sx
set_option linter.unusedVariables false
set_option linter.unusedSimpArgs false
namespace Go.Proofs.YtckjdlmfibjpaaaGreat.Sx
open Go.RowKit
def lift (Q:Xit→Act→World→Prop):Exit→Act→World→Prop
 | .normal,a,w=>Q .normal a w
 | .exit id,a,w=>Q (.exit id) a w
 | .ret,a,w=>Q .ret a w
 | _,_,_=>False
section
variable {ro:Option Nat} {P:Program} {sigs:Nat→Option Sig} {C:Nat→List PV→Option (List PV)} {N:Nat} {X:Env} {W0:World} {r:List PV} {n:Nat} {fs:List Act}
def ExK (N:Nat) (C:Nat→List PV→Option (List PV)) (X:Env) (W0:World) (ρ:List PV) (J:List (List PV→Option (List PV))) (r:List PV) (n:Nat) (fs:List Act) (Q:Xit→Act→World→Prop) (k:Xit→St→T):Prop:=
 ∀e φ' ρ' J' σ' a' w',ρ <+:ρ'→J <+:J'→σ'.jl=J'.length→Rel X W0 φ' ρ' σ' (a'::fs) w'→True→a'.tmps.size=n→(k e σ').den N C ρ' J'=some r→Q e a' w'
def RunOk (N:Nat) (C:Nat→List PV→Option (List PV)) (X:Env) (W0:World) (n:Nat) (fs:List Act) (run:St→(Xit→St→T)→T) (Wp:(Xit→Act→World→Prop)→Act→World→Prop):Prop:=
 ∀σ k φ ρ J r a w Q,Rel X W0 φ ρ σ (a::fs) w→σ.jl=J.length→True→a.tmps.size=n→ExK N C X W0 ρ J r n fs Q k→(run σ k).den N C ρ J=some r→Wp Q a w
theorem Rel.withJl {φ:Names} {ρ:List PV} {σ:St} {w:World} {as:List Act} (h:Rel X W0 φ ρ σ as w) (j:Nat):Rel X W0 φ ρ { σ with jl:=j } as w:=
 ⟨h.below,h.old,h.low,h.inj,h.names,h.nv,h.known,h.frames,h.heap⟩
theorem jump_at {J J':List (List PV→Option (List PV))} {f:List PV→Option (List PV)} (h:J++ [f] <+:J'):J'[J.length]? =some f:=by
 obtain⟨t,rfl⟩:=h
 simp
theorem joined_sound {orc:Orc} {run:St→(Xit→St→T)→T} {Wp:(Xit→Act→World→Prop)→Act→World→Prop} (hrun:RunOk N C X W0 n fs run Wp) (live:List Nat):RunOk N C X W0 n fs (fun σ k=>(ofOrc orc).j run live σ k) Wp:=by
 intro σ k φ ρ J r a w Q h hJ hdf hsz hk hd
 simp only[ofOrc,joined]at hd
 split at hd
 · rename_i p0 hm
   generalize hp:({ p0 with jl:=σ.jl }:St)=p at hd
   have hpj:p.jl=σ.jl:=by rw[←hp]
   simp only[T.den]at hd
   refine hrun { σ with jl:=σ.jl+1 } (backK σ.nv p σ.jl k) φ ρ _ r a w Q (h.withJl _) (by simp[hJ]) hdf hsz ?_ hd
   intro e φ' ρ' J' σ' a' w' g1 g2 g3 g4 g5 g6 g7
   cases e with
   | normal=>
    simp only[backK]at g7
    split at g7
    · rename_i es hes
      simp only[T.den]at g7
      rw[hJ,jump_at g2]at g7
      obtain⟨φ'',hrel⟩:=inst_sound (ρ0:=ρ) hes g4 h.nv.symm g1
      exact hk .normal φ'' _ J p a' w' (List.prefix_append _ _) (List.prefix_refl _) (by rw[hpj,hJ]) hrel g5 g6 g7
    · simp[T.den]at g7
   | exit id=>exact hk (.exit id) φ' ρ' J' σ' a' w' g1 ((List.prefix_append _ _).trans g2) g3 g4 g5 g6 g7
   | ret=>exact hk .ret φ' ρ' J' σ' a' w' g1 ((List.prefix_append _ _).trans g2) g3 g4 g5 g6 g7
 · exact hrun σ k φ ρ J r a w Q h hJ hdf hsz hk hd
theorem looped_sound {orc:Orc} {run:St→(Xit→St→T)→T} {c:Code} (hrun:RunOk N C X W0 n fs run (fun Q a w=>c.wpIn (Fr ro) 0 P (lift Q) a w)) (live:List Nat):RunOk N C X W0 n fs (fun σ k=>(ofOrc orc).l run live σ k) (fun Q a w=>(Code.loop c).wpIn (Fr ro) 0 P (lift Q) a w):=by
 intro σ k φ ρ J r a w Q h hJ hdf hsz hk hd
 simp only[ofOrc,looped]at hd
 split at hd
 · rename_i p _
   split at hd
   · simp[T.den]at hd
   rename_i es0 hes0
   simp only[T.den]at hd
   obtain⟨φ0,hrel0⟩:=inst_sound (ρ0:=ρ) hes0 h h.nv.symm (List.prefix_refl _)
   refine wpIn_loop_rounds N ?_
   revert hd
   generalize hF:(fun(self:List PV→Option (List PV)) (vs:List PV)=>(run { p with jl:=σ.jl+1 } (backK σ.nv p σ.jl k)).den N C (ρ++vs) (J++ [self]))=F
   have key:∀m φ vals a w,Rel X W0 φ (ρ++vals) p (a::fs) w→True→a.tmps.size=n→loopN F m vals=some r→Code.roundsIn (Fr ro) 0 P c (lift Q) m a w:=by
    intro m
    induction m with
    | zero=>intro φ vals a w _ _ _ hl;simp[loopN]at hl
    | succ m ih=>
     intro φ vals a w hrel hdf hsz hl
     rw[roundsIn_succ]
     simp only[loopN]at hl
     have hl:=(congrFun (congrFun hF (loopN F m)) vals).trans hl
     have:=hrun { p with jl:=σ.jl+1 } (backK σ.nv p σ.jl k) φ (ρ++vals) (J++ [loopN F m]) r a w (fun e a w=>match e with | .normal=>Code.roundsIn (Fr ro) 0 P c (lift Q) m a w | e=>Q e a w) (hrel.withJl _) (by simp[hJ]) hdf hsz (by
      intro e φ' ρ' J' σ' a' w' g1 g2 g3 g4 g5 g6 g7
      have hρ:ρ <+:ρ':=(List.prefix_append _ _).trans g1
      cases e with
      | normal=>
       simp only[backK]at g7 ⊢
       split at g7
       · rename_i es hes
         simp only[T.den]at g7
         rw[hJ,jump_at g2]at g7
         obtain⟨φ'',hrel''⟩:=inst_sound (ρ0:=ρ) hes g4 h.nv.symm hρ
         exact ih φ'' _ a' w' hrel'' g5 g6 g7
       · simp[T.den]at g7
      | exit id=>exact hk (.exit id) φ' ρ' J' σ' a' w' hρ ((List.prefix_append _ _).trans g2) g3 g4 g5 g6 g7
      | ret=>exact hk .ret φ' ρ' J' σ' a' w' hρ ((List.prefix_append _ _).trans g2) g3 g4 g5 g6 g7) hl
     refine wpIn_mono this fun e a w he=>?_
     cases e with
     | normal=>exact he
     | exit id=>exact he
     | ret=>exact he
     | goto l=>exact he.elim
     | panic ch=>exact he.elim
     | outgrown=>exact he.elim
   intro hd
   exact key N φ0 _ a w hrel0 hdf hsz hd
 · simp[T.den]at hd
theorem unrolled_sound {run:St→(Xit→St→T)→T} {c:Code} (hrun:RunOk N C X W0 n fs run (fun Q a w=>c.wpIn (Fr ro) 0 P (lift Q) a w)):∀m,RunOk N C X W0 n fs (fun σ k=>unrolled run m σ k) (fun Q a w=>Code.roundsIn (Fr ro) 0 P c (lift Q) m a w)
 | 0=>by intro σ k φ ρ J r a w Q _ _ _ _ _ hd;simp[unrolled,T.den]at hd
 | m+1=>by
  intro σ k φ ρ J r a w Q h hJ hdf hsz hk hd
  simp only[unrolled]at hd
  rw[roundsIn_succ]
  have:=hrun σ _ φ ρ J r a w (fun e a w=>match e with | .normal=>Code.roundsIn (Fr ro) 0 P c (lift Q) m a w | e=>Q e a w) h hJ hdf hsz (by
   intro e φ' ρ' J' σ' a' w' g1 g2 g3 g4 g5 g6 g7
   cases e with
   | normal=>
    refine unrolled_sound hrun m σ' k φ' ρ' J' r a' w' Q g4 g3 g5 g6 ?_ g7
    intro e φ'' ρ'' J'' σ'' a'' w'' q1 q2
    exact hk e φ'' ρ'' J'' σ'' a'' w'' (g1.trans q1) (g2.trans q2)
   | exit id=>exact hk (.exit id) φ' ρ' J' σ' a' w' g1 g2 g3 g4 g5 g6 g7
   | ret=>exact hk .ret φ' ρ' J' σ' a' w' g1 g2 g3 g4 g5 g6 g7) hd
  refine wpIn_mono this fun e a w he=>?_
  cases e with
  | normal=>exact he
  | exit id=>exact he
  | ret=>exact he
  | goto l=>exact he.elim
  | panic ch=>exact he.elim
  | outgrown=>exact he.elim
def DrawnOk (P:Program) (N:Nat) (C:Nat→List PV→Option (List PV)) (X:Env) (W0:World) (drawn:Array Oper→St→(St→T)→T):Prop:=
 ∀ (ro:Option Nat) (id:Nat) (ops:Array Oper) (n:Nat) (fs:List Act) σ k φ ρ J r a w (Q:Xit→Act→World→Prop),(∀o∈ops.toList,∀t,o.dst=some t→t < n)→Rel X W0 φ ρ σ (a::fs) w→σ.jl=J.length→True→a.tmps.size=n→
  CodeK P N C X W0 ρ J r n fs (Q .normal) k→(drawn ops σ k).den N C ρ J=some r→(Code.region id ops true).wpIn (Fr ro) 0 P (lift Q) a w
theorem look_keys {α:Type} {l:List Nat} {t:Nat} {x:α}:∀ (f:List (Nat×α)),look (f.filter fun x=>l.contains x.1) t=some x→look f t=some x
 | [],h=>by simp[look]at h
 | (i,y)::r,h=>by
  rw[List.filter_cons]at h
  split at h
  · simp only[look]at h ⊢
    split at h
    · rename_i he;rw[if_pos he];exact h
    · rename_i he;rw[if_neg he];exact look_keys r h
  · rename_i hi
    have hr:=look_keys r h
    simp only[look]
    rw[if_neg (by
     intro he
     have he:i=t:=by simpa using he
     subst he
     exact hi (look_keys_mem r h))]
    exact hr
where
 look_keys_mem {α:Type} {l:List Nat} {t:Nat} {x:α}:∀ (f:List (Nat×α)),look (f.filter fun x=>l.contains x.1) t=some x→l.contains t=true
  | [],h=>by simp[look]at h
  | (i,y)::r,h=>by
   rw[List.filter_cons]at h
   split at h
   · rename_i hi
     simp only[look]at h
     split at h
     · rename_i he
       have he:i=t:=by simpa using he
       subst he
       exact hi
     · exact look_keys_mem r h
   · exact look_keys_mem r h
theorem Rel.cut {φ:Names} {ρ:List PV} {σ:St} {w:World} {as:List Act} (h:Rel X W0 φ ρ σ as w) (l:List Nat):Rel X W0 φ ρ (σ.cut l) as w:=by
 unfold St.cut
 split
 · rename_i f r hf
   refine⟨h.below,h.old,h.low,h.inj,h.names,h.nv,h.known,?_,h.heap⟩
   have hh:=h.frames
   rw[hf]at hh
   simp only[FrsR]at hh ⊢
   obtain⟨a,as',he,h1,h2⟩:=hh
   exact⟨a,as',he,fun t s hs=>h1 t s (look_keys f hs),h2⟩
 · exact h
theorem cut_jl (σ:St) (l:List Nat):(σ.cut l).jl=σ.jl:=by unfold St.cut;split <;> rfl
theorem sx_sound [SortOk P] {orc:Orc} (hC:CallOk P sigs C) {inl:Inl} (hinl:∀X,InlOk P N C X W0 inl) {drawn:Array Oper→St→(St→T)→T} (hdr:∀X,DrawnOk P N C X W0 drawn) :
    ∀ (c:Code) (X:Env) (fs:List Act) (ro:Option Nat) (yl:Yl) (rd:Bool) (env:List (Nat×List Nat)) (lv:List Nat),(rd=false→ro=none)→YlOk P N C X W0 fs yl→bounded n c=true→RunOk N C X W0 n fs (fun σ k=>sx P sigs (ofOrc orc) drawn inl c yl rd env lv σ k) (fun Q a w=>c.wpIn (Fr ro) 0 P (lift Q) a w):=by
 intro c
 induction c with
 | skip=>
  intro X fs ro yl rd env lv hro hyl _ σ k φ ρ J r a w Q h hJ hdf hsz hk hd
  exact wpIn_skip (hk .normal φ ρ J σ a w (List.prefix_refl _) (List.prefix_refl _) hJ h hdf hsz hd)
 | label l=>
  intro X fs ro yl rd env lv hro hyl _ σ k φ ρ J r a w Q h hJ hdf hsz hk hd
  exact wpIn_label (hk .normal φ ρ J σ a w (List.prefix_refl _) (List.prefix_refl _) hJ h hdf hsz hd)
 | exit id=>
  intro X fs ro yl rd env lv hro hyl _ σ k φ ρ J r a w Q h hJ hdf hsz hk hd
  exact wpIn_exit (hk (.exit id) φ ρ J σ a w (List.prefix_refl _) (List.prefix_refl _) hJ h hdf hsz hd)
 | ret=>
  intro X fs ro yl rd env lv hro hyl _ σ k φ ρ J r a w Q h hJ hdf hsz hk hd
  exact wpIn_ret (hk .ret φ ρ J σ a w (List.prefix_refl _) (List.prefix_refl _) hJ h hdf hsz hd)
 | region id ops d=>
  intro X fs ro yl rd env lv hro hyl hb σ k φ ρ J r a w Q h hJ hdf hsz hk hd
  have hdst:∀o∈ops.toList,∀t,o.dst=some t→t < n:=by
   simp only[bounded,List.all_eq_true]at hb
   intro o ho t ht
   have:=hb o ho
   rw[ht]at this
   simpa using this
  have hck:CodeK P N C X W0 ρ J r n fs (Q .normal) (k .normal):=fun φ' ρ' J' σ' a' w' g1 g2 g3 g4 g5 g6 g7=>hk .normal φ' ρ' J' σ' a' w' g1 g2 g3 g4 g5 g6 g7
  simp only[sx]at hd
  have h':Rel X W0 φ ρ (if rd=true then σ else σ.cut (liveIn [] (.region id ops d) lv)) (a::fs) w:=by
   split
   · exact h
   · exact h.cut _
  have hJ':(if rd=true then σ else σ.cut (liveIn [] (.region id ops d) lv)).jl=J.length:=by
   split
   · exact hJ
   · rw[cut_jl];exact hJ
  generalize (if rd=true then σ else σ.cut (liveIn [] (.region id ops d) lv))=σ at hd h' hJ'
  replace h:=h'
  replace hJ:=hJ'
  cases d with
  | true=>
   rw[if_pos rfl]at hd
   exact hdr X ro id ops n fs σ (k .normal) φ ρ J r a w Q hdst h hJ hdf hsz hck hd
  | false=>
   rw[if_neg (by simp)]at hd
   exact wpIn_region_list (sxOps_sound (Q:=lift Q) hC (hinl X) hyl ops.toList σ φ ρ J a w hdst h hJ hdf hsz hck hd)
 | seq x y ihx ihy=>
  intro X fs ro yl rd env lv hro hyl hb σ k φ ρ J r a w Q h hJ hdf hsz hk hd
  simp only[bounded,Bool.and_eq_true]at hb
  have hx:=ihx X fs ro yl rd env (liveIn env y lv).eraseDups hro hyl hb.1
  have hy:=ihy X fs ro yl rd env lv hro hyl hb.2
  let Q':Xit→Act→World→Prop:=fun e a w=>match e with | .normal=>y.wpIn (Fr ro) 0 P (lift Q) a w | e=>Q e a w
  have hk':ExK N C X W0 ρ J r n fs Q' (fun e σ'=>match e with | .normal=>sx P sigs (ofOrc orc) drawn inl y yl rd env lv σ' k | e=>k e σ'):=by
   intro e φ' ρ' J' σ' a' w' g1 g2 g3 g4 g5 g6 g7
   cases e with
   | normal=>
    refine hy σ' k φ' ρ' J' r a' w' Q g4 g3 g5 g6 ?_ g7
    intro e φ'' ρ'' J'' σ'' a'' w'' q1 q2
    exact hk e φ'' ρ'' J'' σ'' a'' w'' (g1.trans q1) (g2.trans q2)
   | exit id=>exact hk (.exit id) φ' ρ' J' σ' a' w' g1 g2 g3 g4 g5 g6 g7
   | ret=>exact hk .ret φ' ρ' J' σ' a' w' g1 g2 g3 g4 g5 g6 g7
  have fin:x.wpIn (Fr ro) 0 P (lift Q') a w→(Code.seq x y).wpIn (Fr ro) 0 P (lift Q) a w:=fun hw=>wpIn_seq (wpIn_mono hw fun e a w he=>by
   cases e with
   | normal=>exact he
   | exit id=>exact he
   | ret=>exact he
   | goto l=>exact he.elim
   | panic ch=>exact he.elim
   | outgrown=>exact he.elim)
  simp only[sx]at hd
  split at hd
  · exact fin (hx σ _ φ ρ J r a w Q' h hJ hdf hsz hk' hd)
  · exact fin (joined_sound (orc:=orc) hx _ σ _ φ ρ J r a w Q' h hJ hdf hsz hk' hd)
 | cond c x y ihx ihy=>
  intro X fs ro yl rd env lv hro hyl hb σ k φ ρ J r a w Q h hJ hdf hsz hk hd
  simp only[bounded,Bool.and_eq_true]at hb
  have hcv:=h.ev c
  simp only[sx]at hd
  split at hd
  · rename_i e he
    rw[he]at hcv
    obtain⟨fe,b,de,hv⟩:=svr_bool hcv
    have hbb:(e.den ρ).b=b:=by rw[de];rfl
    split at hd
    · rename_i hkn
      have:=knownIs_sound h.known e true hkn
      rw[hbb]at this
      subst this
      exact wpIn_cond_true hv (ihx X fs ro yl rd env lv hro hyl hb.1 σ k φ ρ J r a w Q h hJ hdf hsz hk hd)
    · rename_i hkn
      have:=knownIs_sound h.known e false hkn
      rw[hbb]at this
      subst this
      exact wpIn_cond_false hv (ihy X fs ro yl rd env lv hro hyl hb.2 σ k φ ρ J r a w Q h hJ hdf hsz hk hd)
    · rw[mkIte_den]at hd
      cases b with
      | true=>
       rw[if_pos hbb]at hd
       exact wpIn_cond_true hv (ihx X fs ro yl rd env lv hro hyl hb.1 _ k φ ρ J r a w Q (h.learn fe hbb) hJ hdf hsz hk hd)
      | false=>
       rw[if_neg (by rw[hbb];simp)]at hd
       exact wpIn_cond_false hv (ihy X fs ro yl rd env lv hro hyl hb.2 _ k φ ρ J r a w Q (h.learn fe hbb) hJ hdf hsz hk hd)
  · simp[T.den]at hd
 | block id c ih=>
  intro X fs ro yl rd env lv hro hyl hb σ k φ ρ J r a w Q h hJ hdf hsz hk hd
  simp only[sx]at hd
  have:=ih X fs ro yl rd ((id,lv)::env) lv hro hyl hb σ _ φ ρ J r a w (fun e a w=>match e with | .exit i=>if i=id then Q .normal a w else Q (.exit i) a w | e=>Q e a w) h hJ hdf hsz (by
   intro e φ' ρ' J' σ' a' w' g1 g2 g3 g4 g5 g6 g7
   cases e with
   | normal=>exact hk .normal φ' ρ' J' σ' a' w' g1 g2 g3 g4 g5 g6 g7
   | ret=>exact hk .ret φ' ρ' J' σ' a' w' g1 g2 g3 g4 g5 g6 g7
   | exit i=>
    simp only at g7 ⊢
    split
    · rename_i hi
      rw[if_pos hi]at g7
      exact hk .normal φ' ρ' J' σ' a' w' g1 g2 g3 g4 g5 g6 g7
    · rename_i hi
      rw[if_neg hi]at g7
      exact hk (.exit i) φ' ρ' J' σ' a' w' g1 g2 g3 g4 g5 g6 g7) hd
  refine wpIn_block (wpIn_mono this fun e a w he=>?_)
  cases e with
  | normal=>exact he
  | exit i=>
   simp only[lift]at he
   simp only[Exit.inBlock]
   split
   · rename_i hi;rw[if_pos hi]at he;exact he
   · rename_i hi;rw[if_neg hi]at he;exact he
  | ret=>exact he
  | goto l=>exact he.elim
  | panic ch=>exact he.elim
  | outgrown=>exact he.elim
 | loop c ih=>
  intro X fs ro yl rd env lv hro hyl hb σ k φ ρ J r a w Q h hJ hdf hsz hk hd
  simp only[sx]at hd
  split at hd
  · rename_i m _
    exact wpIn_loop_rounds (m+1) (unrolled_sound (joined_sound (orc:=orc) (ih X fs ro yl rd env _ hro hyl hb) _) (m+1) σ k φ ρ J r a w Q h hJ hdf hsz hk hd)
  · exact looped_sound (orc:=orc) (ih X fs ro yl rd env _ hro hyl hb) _ σ k φ ρ J r a w Q h hJ hdf hsz hk hd
 | scope c ih=>
  intro X fs ro yl rd env lv hro hyl hb σ k φ ρ J r a w Q h hJ hdf hsz hk hd
  simp only[sx]at hd
  refine wpIn_scope_straight (wpIn_mono (ih X fs ro yl rd env lv hro hyl hb σ k φ ρ J r a w Q h hJ hdf hsz hk hd) fun e a w he=>?_)
  cases e with
  | normal=>exact he
  | exit id=>exact he
  | ret=>exact he
  | goto l=>exact he.elim
  | panic ch=>exact he.elim
  | outgrown=>exact he.elim
 | goto l=>intro X fs ro yl rd env lv hro hyl _ σ k φ ρ J r a w Q h hJ hdf hsz hk hd;simp[sx,T.den]at hd
 | rangeFunc f ps x y ihx ihy=>
  intro X fs ro yl rd env lv hro hyl hb σ k φ ρ J r a w Q h hJ hdf hsz hk hd
  simp only[bounded,Bool.and_eq_true,List.all_eq_true,decide_eq_true_eq]at hb
  obtain⟨⟨hps,hbx⟩,hby⟩:=hb
  simp only[sx]at hd
  split at hd
  · simp[T.den]at hd
  · rename_i hrd
    have hro':ro=none:=hro (by simpa using hrd)
    subst hro'
    split at hd
    · rename_i g caps hfe
      have hfv:=h.ev f
      rw[hfe]at hfv
      split at hd
      · simp[T.den]at hd
      · rename_i hcond
        simp only[Bool.or_eq_true,not_or,Bool.not_eq_true',Bool.not_eq_false,Bool.not_eq_true]at hcond
        obtain⟨hent,hcy⟩:=hcond
        simp only[SVR]at hfv
        obtain⟨cs,hfval,hcaps⟩:=hfv
        have hlen:=FrsR.length _ _ h.frames
        simp only[List.length_cons]at hlen
        refine wpIn_rangeFunc fun fn _=>?_
        let rec0:Loop:={ state:= .ready,pending:=none,fn:=fn,tmps:=a.tmps,params:=ps,assign:=x,body:=y,defers:=w.heap.size }
        have hd0:(resolve a.eval (rangeCall f (w.heap.size+1)) 0).run P ((w.alloc (.deferred (some []))).alloc (.loop rec0))= .ok { target:= .fn (.func g) cs,args:=#[.func (.yield (w.heap.size+1)) #[] #[]] } ((w.alloc (.deferred (some []))).alloc (.loop rec0)):=by
         simp only[resolve,rangeCall,hfval,Deferred.ofValue]
         simp[go_sem]
        refine⟨w.heap.size+1,[{ target:= .collected w.heap.size,args:=#[] }],(w.alloc (.deferred (some []))).alloc (.loop rec0),{ target:= .fn (.func g) cs,args:=#[.func (.yield (w.heap.size+1)) #[] #[]] },(w.alloc (.deferred (some []))).alloc (.loop rec0),g, #[.func (.yield (w.heap.size+1)) #[] #[]]++cs,(w.alloc (.deferred (some []))).alloc (.loop rec0),run_enterLoop_outer fn a.tmps ps x y,hd0,fun _ _=>trivial,?_,(fun hh=>by cases hh),?_⟩
        · simp[invoke,run_enter hent]
        let X':Env:={ X with ys:=fun m=>if m=σ.fr.length then some (w.heap.size+1)else none,pin:=fun b=>if b=w.heap.size+1 then some rec0 else X.pin b }
        let a':Act:={ a with defers:={ target:= .collected w.heap.size,args:=#[] }::a.defers }
        have hX':Rel X' W0 φ ρ σ.scrub (a'::fs) ((w.alloc (.deferred (some []))).alloc (.loop rec0)):=by
         refine h.scrub.openLoop (ys':=fun m=>if m=σ.fr.length then some (w.heap.size+1)else none) (pin':=fun b=>if b=w.heap.size+1 then some rec0 else X.pin b) (scrub_clean σ) rec0 (fun b o hbo=>?_)
         split at hbo
         · rename_i he;cases hbo;exact .inl ⟨he,rfl⟩
         · exact .inr hbo
        have hcaps':SVRs ((w.alloc (.deferred (some []))).alloc (.loop rec0)) X' φ ρ σ.scrub.nx caps cs.toList:=by
         have hbl:Below w.heap.size w ((w.alloc (.deferred (some []))).alloc (.loop rec0)):=((Below.refl _ w).alloc (Nat.le_refl _) _).alloc (by simp) _
         have h1:=SVRs.evo (Evo.ofBelow hbl h) (List.prefix_refl _) (Nat.le_refl _) _ _ hcaps
         refine SVRs.env caps _ (.inr ?_) h1
         have:∀l:List SV,l.any SV.hasY=false→hasYs l=false:=by
          intro l
          induction l with
          | nil=>intro _;rfl
          | cons s r ih=>intro hh;simp only[List.any_cons,Bool.or_eq_false_iff]at hh;simp[hasYs,hh.1,ih hh.2]
         exact this caps hcy
        have hargs:SVRs ((w.alloc (.deferred (some []))).alloc (.loop rec0)) X' φ ρ σ.scrub.nx (.yld σ.fr.length::caps) (.func (.yield (w.heap.size+1)) #[] #[]::cs.toList):=by
         simp only[SVRs]
         exact⟨_,_,rfl,by simp only[SVR];exact⟨w.heap.size+1,if_pos rfl,rfl⟩,hcaps'⟩
        have hyl' : YlOk P N C X' W0 (a'::fs) (roundY (ofOrc orc) σ.fr.length ps.toList (fun σ k=>sx P sigs (ofOrc orc) drawn inl x noY true [] [] σ k) (fun σ k=>sx P sigs (ofOrc orc) drawn inl y noY true [] [] σ k)):=by
         intro pre m args σ1 k1 r1 φ1 ρ1 J1 w1 vs l hys hrel hvs hJ1 hd1
         simp only[roundY]at hd1
         split at hd1
         · simp[T.den]at hd1
         · rename_i hc1
           simp only[Bool.or_eq_true,bne_iff_ne,ne_eq,not_or,Classical.not_not]at hc1
           obtain⟨hm,hal⟩:=hc1
           subst hm
           have hl:l=w.heap.size+1:=by simpa [X']using hys.symm
           subst hl
           have hlen1:=FrsR.length _ _ hrel.frames
           simp only[List.length_append,List.length_cons]at hlen1
           obtain⟨f0,rest,hdrop,hf0⟩:=FrsR.at pre _ hrel.frames
           rw[show σ1.fr.length - σ.fr.length=pre.length by omega,hdrop]at hd1
           dsimp only at hd1
           have hpin:X'.pin (w.heap.size+1)=some rec0:=if_pos rfl
           have hrec:w1.heap[w.heap.size+1]? =some (.loop rec0):=(FrsR.pins _ _ hrel.frames _ _ hpin).1
           have hvl:=hvs.length
           obtain⟨hfp,hsp⟩:=putsFr_sound (w:=w1) (X:=X') (φ:=φ1) (ρ:=ρ1) (nx:=σ1.nx) ps.toList args vs f0 a.tmps hf0 hvs (fun t ht=>by rw[hsz];exact hps t ht)
           have htm:(rec0.params.zip vs.toArray).foldl (fun tmps (x:Tmp×Value)=>tmps.setIfInBounds x.1 x.2) rec0.tmps=(ps.toList.zip vs).foldl (fun tmps x=>tmps.setIfInBounds x.1 x.2) a.tmps:=by
            rw[←Array.foldl_toList,Array.toList_zip]
           refine⟨fn,_,x,y,run_yield hrec (by show vs.toArray.size=ps.size;simp only[List.size_toArray];rw[hvl,hal,Array.length_toList]),roundIn_of_wpIn (F:=Fr none) trivial ?_⟩
           have hround:Rel X' W0 φ1 ρ1 { σ1 with fr:=putsFr f0 (ps.toList.zip args)::σ1.fr } ({ tmps:=(ps.toList.zip vs).foldl (fun tmps x=>tmps.setIfInBounds x.1 x.2) a.tmps,defers:= [] }::(pre++a'::fs)) w1:=by
            refine⟨hrel.below,hrel.old,hrel.low,hrel.inj,hrel.names,hrel.nv,hrel.known,?_,hrel.heap⟩
            simp only[FrsR]
            exact⟨_,_,rfl,hfp,⟨⟨List.nodup_nil,fun d hd=>by cases hd⟩,fun d hd=>by cases hd⟩,hrel.frames⟩
           have hexp:(rec0.params.zip vs.toArray).foldl (fun tmps (t,a)=>tmps.setIfInBounds t a) rec0.tmps=(ps.toList.zip vs).foldl (fun tmps x=>tmps.setIfInBounds x.1 x.2) a.tmps:=htm
           rw[hexp]
           have main:=ihx X' (pre++a'::fs) (some (w.heap.size+1)) noY true [] [] (fun hh=>by cases hh) YlOk.no hbx _ _ φ1 ρ1 J1 r1 { tmps:=(ps.toList.zip vs).foldl (fun tmps x=>tmps.setIfInBounds x.1 x.2) a.tmps,defers:= [] } w1
            (fun e a₁ w₁=>e= .normal∧∃w₂,(Instr.beginRound (w.heap.size+1)).run P w₁= .ok () w₂∧y.wpIn (Fr (some (w.heap.size+1))) 0 P (roundPost P (w.heap.size+1) (CallsK P N C X' W0 ρ1 J1 r1 (pre++a'::fs) k1)) a₁ w₂) hround hJ1 trivial (by rw[hsp,hsz]) (by
             intro e φ2 ρ2 J2 σ2 a2 w2 g1 g2 g3 g4 g5 g6 g7
             cases e with
             | exit i=>simp[T.den]at g7
             | ret=>simp[T.den]at g7
             | normal=>
              refine⟨rfl,?_⟩
              have hrec2:w2.heap[w.heap.size+1]? =some (.loop rec0):=(FrsR.pins _ _ g4.frames _ _ hpin).1
              refine⟨_,run_beginRound hrec2 rfl,?_⟩
              have hXb:=g4.repin (ys':=X'.ys) (pin':=fun b=>if b=w.heap.size+1 then some { rec0 with state:= .busy } else X'.pin b) hpin { rec0 with state:= .busy } (.inl rfl) (fun b o2 hb2=>by
               split at hb2
               · rename_i he;cases hb2;exact .inl ⟨he,rfl⟩
               · rename_i he;exact .inr ⟨he,hb2⟩)
              have body:=joined_sound (orc:=orc) (ihy { X' with ys:=X'.ys,pin:=fun b=>if b=w.heap.size+1 then some { rec0 with state:= .busy } else X'.pin b } (pre++a'::fs) (some (w.heap.size+1)) noY true [] [] (fun hh=>by cases hh) YlOk.no hby) [] σ2 _ φ2 ρ2 J2 r1 a2 _
               (fun e a₁ w₁=>e= .normal∧∃v w',(Instr.endRound (w.heap.size+1) none).run P w₁= .ok v w'∧CallsK P N C X' W0 ρ1 J1 r1 (pre++a'::fs) k1 (.returned v) w') hXb g3 trivial g6 (by
                intro e φ3 ρ3 J3 σ3 a3 w3 q1 q2 q3 q4 q5 q6 q7
                cases e with
                | exit i=>simp[T.den]at q7
                | ret=>simp[T.den]at q7
                | normal=>
                 refine⟨rfl,?_⟩
                 have hrec3:w3.heap[w.heap.size+1]? =some (.loop { rec0 with state:= .busy }):=(FrsR.pins _ _ q4.frames _ _ (if_pos rfl)).1
                 refine⟨_,_,run_endRound none hrec3,?_⟩
                 have hXr:=q4.repin (ys':=X'.ys) (pin':=X'.pin) (l:=w.heap.size+1) (if_pos rfl) rec0 (.inl rfl) (fun b o2 hb2=>by
                  by_cases he:b=w.heap.size+1
                  · subst he
                    rw[hpin]at hb2
                    cases hb2
                    exact .inl ⟨rfl,rfl⟩
                  · exact .inr ⟨he,(if_neg he).trans hb2⟩)
                 refine⟨.bool true,rfl,φ3,ρ3,J3,.ex .bool (.bool true),{ σ3 with fr:=σ3.fr.tail },g1.trans q1,g2.trans q2,q3,?_,?_,q7⟩
                 · have hf:=hXr.frames
                   cases hfe:σ3.fr with
                   | nil=>rw[hfe]at hf;simp[FrsR]at hf
                   | cons f1 rest1=>
                    rw[hfe]at hf
                    simp only[FrsR]at hf
                    obtain⟨_,_,he,_,_,hrest⟩:=hf
                    cases he
                    exact⟨hXr.below,hXr.old,hXr.low,hXr.inj,hXr.names,hXr.nv,hXr.known,hrest,hXr.heap⟩
                 · simp only[SVR,RV]
                   exact⟨rfl,true,rfl,rfl⟩) g7
              refine wpIn_mono body fun e a w he=>?_
              cases e with
              | normal=>exact he.2
              | exit i=>cases he.1
              | ret=>cases he.1
              | goto l=>exact he.elim
              | panic ch=>exact he.elim
              | outgrown=>exact he.elim) hd1
           refine wpIn_mono main fun e a w he=>?_
           cases e with
           | normal=>exact he.2
           | exit i=>cases he.1
           | ret=>cases he.1
           | goto l=>exact he.elim
           | panic ch=>exact he.elim
           | outgrown=>exact he.elim
        have hcall:=hinl X' _ g _ σ.scrub _ r φ ρ J (a'::fs) _ _ hyl' hX' hargs hent hJ hd
        refine(callsIn_fr (n:=0 - 1)).2 ((show(#[.func (.yield (w.heap.size+1)) #[] #[]]++cs:Array Value)=(.func (.yield (w.heap.size+1)) #[] #[]::cs.toList).toArray by apply Array.ext';simp)▸hcall.mono fun e w' hp=>?_)
        obtain⟨v,rfl,φ',ρ',J',sv,σ',h1,h2,h3,h4,h5,h6⟩:=hp
        have hpin:X'.pin (w.heap.size+1)=some rec0:=if_pos rfl
        have hrec:w'.heap[w.heap.size+1]? =some (.loop rec0):=(FrsR.pins _ _ h4.frames _ _ hpin).1
        refine⟨none,_,run_endLoop hrec (by simp[rec0]),?_⟩
        have hX2:=h4.scrub.repin (ys':=X.ys) (pin':=X.pin) hpin { rec0 with state:= .exhausted } (.inr (scrub_clean σ')) (fun b o2 hb2=>by
         have hne:b≠w.heap.size+1:=by
          rintro rfl
          have:=(Array.getElem?_eq_some_iff.1 (FrsR.pins _ _ h.frames _ _ hb2).1).1
          omega
         exact .inr ⟨hne,by show(if _ then _ else _)=_;rw[if_neg hne];exact hb2⟩)
        exact hk .normal φ' ρ' J' σ'.scrub a' _ h1 h2 h3 hX2 trivial hsz h6
    · simp[T.den]at hd
 | refuse s=>intro X fs ro yl rd env lv hro hyl _ σ k φ ρ J r a w Q h hJ hdf hsz hk hd;simp[sx,T.den]at hd
end
end Go.Proofs.YtckjdlmfibjpaaaGreat.Sx
set_option linter.unusedVariables false
set_option linter.unusedSimpArgs false
namespace Go.Proofs.YtckjdlmfibjpaaaGreat.Sx
open Go.RowKit
section
variable {P:Program} {sigs:Nat→Option Sig} {C:Nat→List PV→Option (List PV)} {N:Nat} {X:Env} {W0:World} {φ:Names} {ρ:List PV} {σ:St} {a:Act} {w:World} {nx:Nat} {fs:List Act}
theorem look_enter:∀ (l:List SV) (i t:Nat) (s:SV),look (enterFr i l) t=some s→i≤t∧l[t - i]? =some s
 | [],i,t,s,h=>by simp[enterFr,look]at h
 | v::r,i,t,s,h=>by
  simp only[enterFr,look]at h
  split at h
  · rename_i he
    have:=eq_of_beq he
    subst this
    cases h
    exact⟨Nat.le_refl _,by simp⟩
  · rename_i he
    obtain⟨h1,h2⟩:=look_enter r (i+1) t s h
    refine⟨by omega,?_⟩
    rw[show t - i=(t - (i+1))+1 by omega]
    simpa using h2
theorem enter_sound {l:List SV} {vs:List Value} (h:SVRs w X φ ρ nx l vs) (m:Nat):FrR w X φ ρ nx (enterFr 0 l) (vs.toArray++Array.replicate m undef):=by
 intro t s hs
 obtain⟨_,hl⟩:=look_enter l 0 t s hs
 obtain⟨v,hv,hr⟩:=h.get t s (by simpa using hl)
 have hlt:t < vs.length:=(List.getElem?_eq_some_iff.1 hv).1
 have:(vs.toArray++Array.replicate m undef).getD t undef=v:=by
  rw[Array.getD_eq_getD_getElem?,Array.getElem?_append_left (by simpa using hlt)]
  simp[hv]
 rw[this]
 exact hr
def taken (P:Program) (fn:Func) (σ:St):ResultVar→Option SV
 | .tmp t=>some (strip σ.known (σ.tmp t))
 | .cell a t=>loadSV P σ.heap t (strip σ.known (σ.tmp a))
def takeSem (tmps:Array Value):ResultVar→Sem Value
 | .tmp t=>pure (tmps.getD t undef)
 | .cell p t=>do loadVar t (←asAddr (tmps.getD p undef))
theorem results_eq (fn:Func) (tmps:Array Value):results fn tmps=(do let vs←fn.results.mapM (takeSem tmps);pure (if h:vs.size=1 then vs[0]else .tuple vs)):=by
 unfold results
 congr 2
theorem take_one (h:Rel X W0 φ ρ σ (a::fs) w) {fn:Func} {x:ResultVar} {s:SV} (hs:taken P fn σ x=some s) :
    ∃v,(takeSem a.tmps x).run P w= .ok v w∧SVR w X φ ρ σ.nx s v:=by
 cases x with
 | tmp t=>
  simp only[taken,Option.some.injEq]at hs
  subst hs
  exact⟨_,rfl,strip_sound h.known _ _ (tmp_svr h t)⟩
 | cell p t=>
  simp only[taken]at hs
  obtain⟨v,hr,hv⟩:=load_sound (P:=P) h (strip_sound h.known _ _ (tmp_svr h p)) hs
  refine⟨v,?_,hv⟩
  simp only[takeSem]
  generalize a.tmps.getD p undef=u at hr ⊢
  cases u with
  | pointer ad=>
   cases ad with
   | none=>simp[Instr.loadAt,Instr.sureAddr]at hr
   | some ad=>
    simp only[Instr.loadAt,Instr.sureAddr,Sem.run_bind,Sem.run_pure,Result.andThen_ok]at hr
    simp only[asAddr,Sem.run_bind,Sem.run_pure,Result.andThen_ok]
    exact hr
  | _=>simp[Instr.loadAt,Instr.sureAddr]at hr
theorem take_all (h:Rel X W0 φ ρ σ (a::fs) w) {fn:Func}:∀ (l:List ResultVar) (ss:List SV),mapO (taken P fn σ) l=some ss→
    ∃vs,(l.mapM (takeSem a.tmps)).run P w= .ok vs w∧SVRs w X φ ρ σ.nx ss vs
 | [],ss,hs=>by simp only[mapO,Option.some.injEq]at hs;subst hs;exact⟨[],by simp,by simp[SVRs]⟩
 | x::r,ss,hs=>by
  simp only[mapO]at hs
  split at hs
  · rename_i s ss' h1 h2
    cases hs
    obtain⟨v,hv,hsv⟩:=take_one h h1
    obtain⟨vs,hvs,hss⟩:=take_all h r ss' h2
    refine⟨v::vs,?_,by simp only[SVRs];exact⟨v,vs,rfl,hsv,hss⟩⟩
    rw[List.mapM_cons]
    simp only[Sem.run_bind,hv,hvs,Result.andThen_ok,Sem.run_pure]
  · cases hs
theorem resultOf_eq (P:Program) (fn:Func) (σ:St):resultOf P fn σ=(mapO (taken P fn σ) fn.results.toList).map oneOf:=by
 unfold resultOf
 congr 2
theorem results_sound (h:Rel X W0 φ ρ σ (a::fs) w) {fn:Func} {s:SV} (hs:resultOf P fn σ=some s):∃ss vs,mapO (taken P fn σ) fn.results.toList=some ss∧s=oneOf ss∧(results fn a.tmps).run P w= .ok (oneV vs) w∧SVRs w X φ ρ σ.nx ss vs:=by
 rw[resultOf_eq]at hs
 simp only[Option.map_eq_some_iff]at hs
 obtain⟨ss,hm,rfl⟩:=hs
 obtain⟨vs,hr,hv⟩:=take_all (P:=P) h fn.results.toList ss hm
 refine⟨ss,vs,hm,rfl,?_,hv⟩
 rw[results_eq,Sem.run_bind,Array.mapM_eq_mapM_toList,Sem.run_map,hr]
 simp only[Result.andThen_ok,Sem.run_pure]
 congr 1
 cases vs with
 | nil=>rfl
 | cons v r=>
  cases r with
  | nil=>simp[oneV]
  | cons v' r'=>simp[oneV]
theorem Rel.shut {d:Deferred} {ds:List Deferred} {tm:Array Value} (h:Rel X W0 φ ρ σ ({ tmps:=tm,defers:=d::ds }::fs) w) :
    ∃D,d.target= .collected D∧w.heap[D]? =some (.deferred (some []))∧Rel X W0 φ ρ σ ({ tmps:=tm,defers:=ds }::fs) (w.putObj D (.deferred none)):=by
 have hf:=h.frames
 cases hfr:σ.fr with
 | nil=>rw[hfr]at hf;simp[FrsR]at hf
 | cons f r=>
  rw[hfr]at hf
  simp only[FrsR]at hf
  obtain⟨_,_,he,h1,hd,h2⟩:=hf
  cases he
  obtain⟨D,rfl,h3,h4,h5⟩:=hd.1.2 d List.mem_cons_self
  have hnd:=List.nodup_cons.1 hd.1.1
  have hev:EvoW X φ φ σ.nx w (w.putObj D (.deferred none)):=EvoW.putObj (o:= .deferred none) h4 (fun c t f=>by rw[h3];simp) _
  have hoth:∀b,b≠D→(w.putObj D (.deferred none)).heap[b]? =w.heap[b]?:=fun b hb=>World.putObj_heap_other hb
  refine⟨D,rfl,h3,h.below.trans ⟨rfl,rfl,rfl,by simp,fun k hk=>hoth k (by have:=h.old.2;omega)⟩,h.old,fun l k g hl hg=>by rw[World.putObj_size];exact h.low l k g hl hg,h.inj,h.names,h.nv,h.known,?_,fun l o hl=>?_⟩
  · rw[hfr]
    simp only[FrsR]
    refine⟨_,_,rfl,fun t s hs=>SVR.evoW hev (List.prefix_refl _) (Nat.le_refl _) s _ (h1 t s hs),⟨⟨hnd.2,fun d' hd'=>?_⟩,fun d' hd'=>hd.2 d' (List.mem_cons_of_mem _ hd')⟩,FrsR.turn hev hoth (fun o ho=>by have:=(FrsR.pins _ _ h.frames D o ho).1;rw[h3]at this;cases this) r fs (fun b hb=>hd.2 _ List.mem_cons_self b hb) h2⟩
    obtain⟨D',rfl,h3',h4',h5'⟩:=hd.1.2 d' (List.mem_cons_of_mem _ hd')
    exact⟨D',rfl,(hoth D' (fun e=>hnd.1 (e▸hd'))).trans h3',h4',h5'⟩
  · obtain⟨k,hk,ho⟩:=h.heap l o hl
    exact⟨k,hk,ObR.evoW hev (List.prefix_refl _) (Nat.le_refl _) (fun g hg=>hoth g (fun e=>h4 (.inr ⟨l,k,hk,e▸hg⟩))) o ho⟩
theorem leavesM {fn:Func} {R:Ending→World→Prop}:∀ (ds:List Deferred) (tm:Array Value) (w:World),Rel X W0 φ ρ σ ({ tmps:=tm,defers:=ds }::fs) w→
    (∀w'',Rel X W0 φ ρ σ ({ tmps:=tm,defers:= [] }::fs) w''→∃v,(results fn tm).run P w''= .ok v w''∧R (.returned v) w'')→LeavesInM (Fr none) 0 P fn tm R ds .returning w
 | [],tm,w,h,hR=>by
  obtain⟨v,h1,h2⟩:=hR w h
  exact⟨v,h1,h2⟩
 | d::ds,tm,w,h,hR=>by
  obtain⟨D,h1,h2,h3⟩:=h.shut
  exact⟨by simp,.inl ⟨D,_,h1,run_takeDeferred h2,leavesM ds tm _ h3 hR⟩⟩
theorem inlined_ok [SortOk P] {orc:Orc} (hC:CallOk P sigs C) {drawn:Inl→Array Oper→St→(St→T)→T} (hdr:∀inl,(∀X W0,InlOk P N C X W0 inl)→∀X W0,DrawnOk P N C X W0 (drawn inl)):∀ (d:Nat) (X:Env) (W0:World),InlOk P N C X W0 (inlined P sigs (ofOrc orc) drawn d)
 | 0,X,W0=>by intro yl f args σ k r φ ρ J fs w vs _ _ _ _ _ hd;simp[inlined,T.den]at hd
 | d + 1, X, W0=>by
  intro yl f args σ k r φ ρ J fs w vs hyl h hargs hent hJ hd
  have hin:=inlined_ok (orc:=orc) hC hdr d
  simp only[inlined]at hd
  split at hd
  · rename_i fn hfn
    split at hd
    · rename_i c hb
      split at hd
      · simp[T.den]at hd
      · rename_i hc
        simp only[Bool.or_eq_true,beq_iff_eq,decide_eq_true_eq,not_or,Bool.not_eq_true',Bool.not_eq_false]at hc
        obtain⟨⟨hname,hle⟩,hbd⟩:=hc
        have hvl:=hargs.length
        refine(callsIn_fr (ro:=none) (n:=0)).1 (callsIn_of_wp_marks hfn hb trivial ?_)
        let run : St → (Xit → St → T) → T := fun σ k => sx P sigs (ofOrc orc) (drawn (inlined P sigs (ofOrc orc) drawn d)) (inlined P sigs (ofOrc orc) drawn d) c yl false [] (resUses fn) σ fun e σ' => match e with | .exit _ => (.fail "14") | _ => k .normal σ'
        have hrun:RunOk N C X W0 fn.ntmps fs run (fun Q a w=>c.wpIn (Fr none) 0 P (fun e a w=>match e with | .normal=>Q .normal a w | .ret=>Q .normal a w | _=>False) a w):=by
         intro σ k φ ρ J r a w Q h hJ hdf hsz hk hd
         have:=sx_sound (orc:=orc) (N:=N) (W0:=W0) hC (fun X=>hin X W0) (fun X=>hdr _ hin X W0) c X fs none yl false [] (resUses fn) (fun _=>rfl) hyl hbd σ _ φ ρ J r a w (fun e a w=>match e with | .exit _=>False | _=>Q .normal a w) h hJ hdf hsz (by
          intro e φ' ρ' J' σ' a' w' g1 g2 g3 g4 g5 g6 g7
          cases e with
          | normal=>exact hk .normal φ' ρ' J' σ' a' w' g1 g2 g3 g4 g5 g6 g7
          | ret=>exact hk .normal φ' ρ' J' σ' a' w' g1 g2 g3 g4 g5 g6 g7
          | exit i=>simp[T.den]at g7) hd
         refine wpIn_mono this fun e a w he=>?_
         cases e with
         | normal=>exact he
         | ret=>exact he
         | exit i=>exact he.elim
         | goto l=>exact he.elim
         | panic ch=>exact he.elim
         | outgrown=>exact he.elim
        have hfr:Rel X W0 φ ρ { σ with fr:=enterFr 0 args::σ.fr } ({ tmps:=vs.toArray++Array.replicate (fn.ntmps - vs.toArray.size) undef,defers:= [] }::fs) w:=by
         refine⟨h.below,h.old,h.low,h.inj,h.names,h.nv,h.known,?_,h.heap⟩
         simp only[FrsR]
         exact⟨_,_,rfl,enter_sound hargs _,⟨⟨List.nodup_nil,fun d hd=>by cases hd⟩,fun d hd=>by cases hd⟩,h.frames⟩
        have hsize:(vs.toArray++Array.replicate (fn.ntmps - vs.toArray.size) undef).size=fn.ntmps:=by simp;omega
        have main:=joined_sound (orc:=orc) hrun (resUses fn) { σ with fr:=enterFr 0 args::σ.fr } _ φ ρ J r { tmps:=vs.toArray++Array.replicate (fn.ntmps - vs.toArray.size) undef,defers:= [] } w
         (fun e a w=>LeavesInM (Fr none) 0 P fn a.tmps (CallsK P N C X W0 ρ J r fs k) a.defers .returning w) hfr hJ trivial hsize (by
          intro e φ' ρ' J' σ' a' w' g1 g2 g3 g4 g5 g6 g7
          refine leavesM a'.defers a'.tmps w' g4 fun w'' g4'=>?_
          simp only at g7
          split at g7
          · rename_i sv hsv
            obtain⟨ss,us,_,rfl,hres,hus⟩:=results_sound (P:=P) g4' hsv
            refine⟨_,hres,_,rfl,φ',ρ',J',oneOf ss,{ σ' with fr:=σ'.fr.tail },g1,g2,g3,?_,oneOf_sound hus,g7⟩
            have hf:=g4'.frames
            cases hfe:σ'.fr with
            | nil=>rw[hfe]at hf;simp[FrsR]at hf
            | cons f rest=>
             rw[hfe]at hf
             simp only[FrsR]at hf
             obtain⟨_,_,he,_,_,hrest⟩:=hf
             cases he
             exact⟨g4'.below,g4'.old,g4'.low,g4'.inj,g4'.names,g4'.nv,g4'.known,hrest,g4'.heap⟩
          · simp[T.den]at g7) hd
        refine wpIn_mono main fun e a w he=>?_
        cases e with
        | normal=>exact he
        | ret=>exact he
        | exit i=>exact he.elim
        | goto l=>exact he.elim
        | panic ch=>exact he.elim
        | outgrown=>exact he.elim
    · simp[T.den]at hd
  · simp[T.den]at hd
theorem Rel.dels (h:Rel X W0 φ ρ σ fs w) (O:List Nat):Rel X W0 φ ρ { σ with heap:=Sx.dels σ.heap O } fs w:=by
 refine⟨h.below,h.old,h.low,h.inj,h.names,h.nv,h.known,h.frames,fun l o hl=>?_⟩
 have hl':look (Sx.dels σ.heap O) l=some o:=hl
 rw[look_dels]at hl'
 split at hl'
 · cases hl'
 · exact h.heap l o hl'
theorem leaf_look {σ:St} {k:LK} {l:Nat} {p:Option (Ex×Ex)} {e:Ex} (h:σ.leaf k (.own l p)=some e):∃o,look σ.heap l=some o:=by
 simp only[St.leaf]at h
 split at h
 · rename_i ks e' ks' hl;exact⟨_,hl⟩
 · cases h
theorem zipO_mem {α β γ:Type} {f:α→β→Option γ}:∀ {l:List α} {m:List β} {n:List γ},zipO f l m=some n→∀b∈m,∃a c,f a b=some c
 | [],[],n,_,b,hb=>by cases hb
 | a::l,x::m,n,h,b,hb=>by
  simp only[zipO]at h
  split at h
  · rename_i c t h1 h2
    rcases List.mem_cons.1 hb with rfl | hb
    · exact⟨a,c,h1⟩
    · exact zipO_mem h2 b hb
  · cases h
 | [],_::_,n,h,b,hb=>by simp[zipO]at h
 | _::_,[],n,h,b,hb=>by simp[zipO]at h
def OwnO (X:Env) (φ:Names) (O:List Nat) (b:Nat):Prop:=X b∨∃l∈O,∃k,φ l=some k∧k.has b
theorem OwnO_owned {O:List Nat} {b:Nat} (h:OwnO X φ O b):Owned X φ b:=by
 rcases h with hx | ⟨l,_,k,hk,hg⟩
 · exact .inl hx
 · exact .inr ⟨l,k,hk,hg⟩
theorem not_OwnO (h:Rel X W0 φ ρ σ fs w) {O:List Nat} {l:Nat} (hl:l∉O) {kk:Bk} {g:Nat} (hk:φ l=some kk) (hg:kk.has g):¬OwnO X φ O g:=by
 rintro(hx | ⟨l',hl',k',hk',hg'⟩)
 · have:=h.old.1 g hx
   have:=(h.low l kk g hk hg).1
   omega
 · have:=h.inj l l' kk k' g hk hk' hg hg'
   subst this
   exact hl hl'
def shiftN (k:Bk) (ψ:Names):Names:=fun j=>match j with | 0=>some k | j+1=>ψ j
theorem ResR.shift {U:Nat→Prop} {ψ:Names} {k:Bk}:∀ (j:Nat) (sh:List Sh) (ps:List PV) (vs:List Value),ResR w U ψ j sh ps vs→ResR w U (shiftN k ψ) (j+1) sh ps vs
 | j,[],ps,vs,h=>by simp only[ResR]at *;exact h
 | j,.leaf q::r,ps,vs,h=>by
  simp only[ResR]at *
  obtain⟨p,ps',v,vs',h1,h2,h3,h4⟩:=h
  exact⟨p,ps',v,vs',h1,h2,h3,ResR.shift j r ps' vs' h4⟩
 | j,.own ks::r,ps,vs,h=>by
  simp only[ResR]at *
  obtain⟨p,ps',v,vs',kk,h1,h2,h0,h3,h4⟩:=h
  exact⟨p,ps',v,vs',kk,h1,h2,h0,h3,ResR.shift (j+1) r ps' vs' h4⟩
 | j,.agg ks::r,ps,vs,h=>by
  simp only[ResR]at *
  obtain⟨qs,ps',cs,vs',h1,h2,h3,h4⟩:=h
  exact⟨qs,ps',cs,vs',h1,h2,h3,ResR.shift j r ps' vs' h4⟩
theorem closeGo_sound (h:Rel X W0 φ ρ σ fs w) (O:List Nat):∀ (rs:List Sh) (ss:List SV) (es:List Ex) (vs:List Value),closeGo σ { σ with heap:=Sx.dels σ.heap O } rs ss=some es→SVRs w X φ ρ σ.nx ss vs→
    (∀l∈ownRes rs ss,l∈O)→nodup (ownRes rs ss)=true→∃ψ,ResR w (OwnO X φ O) ψ 0 rs (es.map (·.den ρ)) vs∧(∀j k g,ψ j=some k→k.has g→∃l∈ownRes rs ss,φ l=some k)∧
     (∀i j k k' g,ψ i=some k→ψ j=some k'→k.has g→k'.has g→i=j)∧(∀j k,ψ j=some k→j < ownCount rs)
 | [],ss,es,vs,hc,hs,_,_=>by
  cases ss with
  | nil=>
   simp only[closeGo,Option.some.injEq]at hc
   subst hc
   simp only[SVRs]at hs
   subst hs
   exact⟨fun _=>none,by simp[ResR],(fun _ _ _ hk=>by cases hk),(fun _ _ _ _ _ hk=>by cases hk),(fun _ _ hk=>by cases hk)⟩
  | cons _ _=>simp[closeGo]at hc
 | .leaf k::r,ss,es,vs,hc,hs,hO,hnd=>by
  cases ss with
  | nil=>simp[closeGo]at hc
  | cons s ss=>
   simp only[closeGo]at hc
   split at hc
   · rename_i e es' he hes
     cases hc
     simp only[SVRs]at hs
     obtain⟨v,vs',rfl,h1,h2⟩:=hs
     have hor:ownRes (.leaf k::r) (s::ss)=ownRes r ss:=by cases s <;> rfl
     rw[hor]at hO hnd ⊢
     obtain⟨ψ,q1,q2,q3,q4⟩:=closeGo_sound h O r ss es' vs' hes h2 hO hnd
     obtain⟨_,hrv⟩:=(h.dels O).leaf h1 he (U:=OwnO X φ O) (fun b hb=>OwnO_owned hb) (fun l p hp kk g hk hg=>by
      subst hp
      obtain⟨o,ho⟩:=leaf_look he
      have ho':look (Sx.dels σ.heap O) l=some o:=ho
      rw[look_dels]at ho'
      split at ho'
      · cases ho'
      · rename_i hl;exact not_OwnO h hl hk (by first | exact .inl hg | exact hg))
     exact⟨ψ,by simp only[List.map_cons,ResR];exact⟨_,_,v,vs',rfl,rfl,hrv,q1⟩,q2,q3,q4⟩
   · cases hc
 | .own ks :: r,ss,es,vs,hc,hs,hO,hnd=>by
  cases ss with
  | nil=>simp[closeGo]at hc
  | cons s ss =>
   simp only[SVRs]at hs
   obtain⟨v,vs',rfl,h1,h2⟩:=hs
   cases s with
   | nilS=>
    simp only[closeGo]at hc
    split at hc
    · rename_i es' hes
      cases hc
      have hor:ownRes (.own ks::r) (.nilS::ss)=ownRes r ss:=rfl
      rw[hor]at hO hnd ⊢
      obtain⟨ψ,q1,q2,q3,q4⟩:=closeGo_sound h O r ss es' vs' hes h2 hO hnd
      simp only[SVR]at h1
      subst h1
      refine⟨shiftN (Bk.of none ks.length 0 0) ψ,?_,fun j k g hk hg=>?_,fun i j k k' g hk hk' hg hg'=>?_,fun j k hk=>?_⟩
      · simp only[List.map_cons,ResR]
        exact⟨_,_,_,vs',_,rfl,rfl,rfl,⟨by unfold OwnAt;exact⟨rfl,rfl⟩,rfl,[],rfl,rfl,rfl⟩,ResR.shift 0 r _ _ q1⟩
      · cases j with
        | zero=>cases hk;simp at hg
        | succ j=>exact q2 j k g hk hg
      · cases i with
        | zero=>cases hk;simp at hg
        | succ i=>
         cases j with
         | zero=>cases hk';simp at hg'
         | succ j=>rw[q3 i j k k' g hk hk' hg hg']
      · cases j with
        | zero=>simp[ownCount]
        | succ j=>have:=q4 j k hk;simp[ownCount];omega
    · cases hc
   | own l p =>
    cases p with
    | some q=>simp[closeGo]at hc
    | none =>
     simp only[closeGo]at hc
     split at hc
     · rename_i e es' he hes
       cases hc
       have hor:ownRes (.own ks::r) (.own l none::ss)=l::ownRes r ss:=rfl
       rw[hor]at hO hnd ⊢
       simp only[nodup,Bool.and_eq_true,Bool.not_eq_true']at hnd
       have hln:l∉ownRes r ss:=by
        have:=hnd.1
        rw[List.contains_eq_mem]at this
        simpa using this
       obtain⟨ψ,q1,q2,q3,q4⟩:=closeGo_sound h O r ss es' vs' hes h2 (fun m hm=>hO m (by simp[hm])) hnd.2
       simp only[St.leaf]at he
       split at he
       · rename_i ks' e' ks2 hlk hkeq
         cases hkeq
         split at he
         · rename_i hkk
           have:=LK.sames_eq _ _ hkk
           subst this
           cases he
           obtain⟨kk,hφ,hob⟩:=h.heap l _ hlk
           simp only[ObR]at hob
           obtain⟨fe,hks,xs,hx,hlen,hm⟩:=hob
           simp only[SVR]at h1
           refine⟨shiftN kk ψ,?_,fun j k g hk hg=>?_,fun i j k k' g hk hk' hg hg'=>?_,fun j k hk=>?_⟩
           · simp only[List.map_cons,ResR]
             refine⟨_,_,v,vs',kk,rfl,rfl,rfl,⟨h1.2.2 kk hφ,hks,xs,hx,hlen,?_⟩,ResR.shift 0 r _ _ q1⟩
             split
             · rename_i hg;rw[hg]at hm;exact hm
             · rename_i g hg
               rw[hg]at hm
               obtain⟨c,hcc,hrw⟩:=hm
               exact⟨c,hcc,fun i x hi=>RVs.mono (Nat.le_refl _) (fun b _ hn=>⟨rfl,fun hb=>hn (OwnO_owned hb)⟩) _ _ _ (hrw i x hi)⟩
           · cases j with
             | zero=>cases hk;exact⟨l,by simp,hφ⟩
             | succ j=>
              obtain⟨m,hm1,hm2⟩:=q2 j k g hk hg
              exact⟨m,by simp[hm1],hm2⟩
           · have fresh:∀ (i:Nat) (k k':Bk),ψ i=some k→kk=k'→k.has g→k'.has g→False:=by
              intro i k k' hk he hg hg'
              subst he
              obtain⟨m,hm1,hm2⟩:=q2 i k g hk hg
              have:=h.inj m l k kk g hm2 hφ hg hg'
              subst this
              exact hln hm1
             cases i with
             | zero=>
              cases j with
              | zero=>rfl
              | succ j=>cases hk;exact(fresh j k' kk hk' rfl hg' hg).elim
             | succ i=>
              cases j with
              | zero=>cases hk';exact(fresh i k kk hk rfl hg hg').elim
              | succ j=>rw[q3 i j k k' g hk hk' hg hg']
           · cases j with
             | zero=>simp[ownCount]
             | succ j=>have:=q4 j k hk;simp[ownCount];omega
         · cases he
       · cases he
     · cases hc
   | _=>simp[closeGo]at hc
 | .agg ks::r,ss,es,vs,hc,hs,hO,hnd=>by
  cases ss with
  | nil=>simp[closeGo]at hc
  | cons s ss=>
   cases s with
   | agg cs=>
    simp only[closeGo]at hc
    split at hc
    · rename_i e es' he hes
      cases hc
      simp only[SVRs]at hs
      obtain⟨v,vs',rfl,h1,h2⟩:=hs
      have hor:ownRes (.agg ks::r) (.agg cs::ss)=ownRes r ss:=rfl
      rw[hor]at hO hnd ⊢
      obtain⟨ψ,q1,q2,q3,q4⟩:=closeGo_sound h O r ss es' vs' hes h2 hO hnd
      simp only[SVR]at h1
      obtain⟨cv,rfl,hcs⟩:=h1
      obtain⟨_,hrv⟩:=zipLeaf_sound (h.dels O) (U:=OwnO X φ O) (fun b hb=>OwnO_owned hb) ks cs e _ hcs he (fun m p hm kk g hk hg=>by
       obtain⟨q,c,hq⟩:=zipO_mem he _ hm
       obtain⟨o,ho⟩:=leaf_look hq
       have ho':look (Sx.dels σ.heap O) m=some o:=ho
       rw[look_dels]at ho'
       split at ho'
       · cases ho'
       · rename_i hl;exact not_OwnO h hl hk (by first | exact .inl hg | exact hg))
      exact⟨ψ,by simp only[List.map_append,ResR];exact⟨_,_,cv,vs',rfl,rfl,hrv,q1⟩,q2,q3,q4⟩
    · cases hc
   | _=>simp[closeGo]at hc
theorem closeGo_len {σ σ':St}:∀ {rs:List Sh} {ss:List SV} {es:List Ex},closeGo σ σ' rs ss=some es→rs.length=ss.length:=by
 intro rs
 induction rs with
 | nil=>intro ss es h;cases ss with | nil=>rfl | cons _ _=>simp[closeGo]at h
 | cons sh r ih=>
  intro ss es h
  cases ss with
  | nil=>cases sh <;> simp[closeGo]at h
  | cons s ss=>
   simp only[List.length_cons,Nat.add_right_cancel_iff]
   unfold closeGo at h
   split at h
   · rename_i heq;cases heq
   all_goals first
    | (rename_i h1 h2
       cases h1
       cases h2
       split at h
       · rename_i hq;exact ih hq
       · cases h)
    | (rename_i h1 h2
       cases h1
       cases h2
       split at h
       · rename_i _ hq;exact ih hq
       · cases h)
    | cases h
theorem owned_none {b:Nat} (h:Owned X (fun _=>none) b):X b:=by
 rcases h with hx | ⟨_,_,hk,_⟩
 · exact hx
 · cases hk
theorem argSV_sound {ρ:List PV}:∀ (ps:List Sh) (nv:Nat) (qs:List PV) (vs:List Value),ArgsR w X ps qs vs→(∀i p,qs[i]? =some p→ρ[nv+i]? =some p)→SVRs w X (fun _=>none) ρ nx (argSV ps nv) vs∧qs.length=(ps.map Sh.count).sum∧vs.length=ps.length
 | [],nv,qs,vs,h,_=>by simp only[ArgsR]at h;simp[argSV,SVRs,h.1,h.2]
 | .leaf k::r,nv,qs,vs,h,hp=>by
  simp only[ArgsR]at h
  obtain⟨p,ps',v,vs',rfl,rfl,h1,h2⟩:=h
  have h0:ρ[nv]? =some p:=hp 0 p rfl
  obtain⟨i1,i2,i3⟩:=argSV_sound r (nv+1) ps' vs' h2 (fun i q hq=>by have:=hp (i+1) q (by simpa using hq);rw[←this];congr 1;omega)
  simp only[argSV,SVRs]
  refine⟨⟨v,vs',rfl,?_,i1⟩,by simp[Sh.count,i2];omega,by simp[i3]⟩
  simp only[SVR,Ex.fits,Ex.den,decide_eq_true_eq]
  refine⟨(List.getElem?_eq_some_iff.1 h0).1,?_⟩
  rw[getD_of h0]
  exact RV.mono (Nat.le_refl _) (fun b _ hn=>⟨rfl,fun ho=>hn (owned_none ho)⟩) _ _ _ h1
 | .own ks::r,nv,qs,vs,h,hp=>by simp[ArgsR]at h
 | .agg ks::r,nv,qs,vs,h,hp=>by
  simp only[ArgsR]at h
  obtain⟨q,ps',cs,vs',rfl,rfl,h1,h2⟩:=h
  have hql:=h1.length.1
  obtain⟨i1,i2,i3⟩:=argSV_sound r (nv+ks.length) ps' vs' h2 (fun i q' hq=>by
   have:=hp (ks.length+i) q' (by rw[List.getElem?_append_right (by omega),←hq];congr 1;omega)
   rw[←this];congr 1;omega)
  simp only[argSV,SVRs]
  refine⟨⟨_,vs',rfl,?_,i1⟩,by simp[Sh.count,i2,hql],by simp[i3]⟩
  simp only[SVR]
  refine⟨cs,rfl,leavesFrom_sound ks nv q _ (RVs.mono (Nat.le_refl _) (fun b _ hn=>⟨rfl,fun ho=>hn (owned_none ho)⟩) _ _ _ h1) (fun i q' hq=>hp i q' ?_)⟩
  rw[List.getElem?_append_left (List.getElem?_eq_some_iff.1 hq).1]
  exact hq
end
theorem tree_calls {orc:Orc} {P:Program} [SortOk P] {sigs:Nat→Option Sig} {C:Nat→List PV→Option (List PV)} {N:Nat} (hC:CallOk P sigs C) {drawn:Inl→Array Oper→St→(St→T)→T}
    (hdr:∀inl,(∀X W0,InlOk P N C X W0 inl)→∀X W0,DrawnOk P N C X W0 (drawn inl)) {depth f:Nat} {sg:Sig} {args rs:List PV} (hd:(treeOf P sigs (ofOrc orc) drawn depth f sg).den N C args []=some rs)
    {w:World} {vs:List Value} {X0:Nat→Prop} (hX:∀b,X0 b→b < w.heap.size) (hA:ArgsR w X0 sg.ps args vs):Calls P f vs.toArray w fun e w'=>∃v,e= .returned v∧ResOk w w' X0 sg.rs rs v:=by
 unfold treeOf at hd
 split at hd
 · rename_i fn hfn
   split at hd
   · rename_i c hb
     split at hd
     · simp[T.den]at hd
     · rename_i hc
       simp only[Bool.or_eq_true,decide_eq_true_eq,not_or,Bool.not_eq_true',Bool.not_eq_false]at hc
       obtain⟨hbd,hle⟩:=hc
       let X:Env:={ old:=X0,lo:=w.heap.size,ys:=fun _=>none,pin:=fun _=>none }
       have hA:ArgsR w X sg.ps args vs:=hA
       obtain⟨hS,hlen,hvl⟩:=argSV_sound (X:=X) (nx:=0) (ρ:=args) sg.ps 0 args vs hA (fun i p hp=>by simpa using hp)
       have hin:=inlined_ok (orc:=orc) (N:=N) hC hdr depth
       have hrel:Rel X w (fun _=>none) args { nv:=(sg.ps.map Sh.count).sum,jl:=0,nx:=0,known:= [],fr:= [enterFr 0 (argSV sg.ps 0)],heap:= [] } ({ tmps:=vs.toArray++Array.replicate (fn.ntmps - vs.toArray.size) undef,defers:= [] }:: []) w:=by
        refine⟨Below.refl _ _,⟨hX,rfl⟩,(fun _ _ _ hk=>by cases hk),(fun _ _ _ _ _ hk=>by cases hk),(fun _ _ hk=>by cases hk),hlen.symm,(fun c b hc=>by cases hc),?_,(fun l o hl=>by simp[look]at hl)⟩
        simp only[FrsR]
        exact⟨_,_,rfl,enter_sound hS _,⟨⟨List.nodup_nil,fun d hd=>by cases hd⟩,fun d hd=>by cases hd⟩,rfl,fun b o ho=>by cases ho⟩
       refine(callsIn_fr (ro:=none) (n:=0)).1 (callsIn_of_wp_marks hfn hb trivial ?_)
       have main := sx_sound (N:=N) (W0:=w) hC (fun X=>hin X w) (fun X=>hdr _ hin X w) c X [] none noY false [] (resUses fn) (fun _=>rfl) YlOk.no hbd _ _ _ args [] rs { tmps:=vs.toArray++Array.replicate (fn.ntmps - vs.toArray.size) undef,defers:= [] } w
        (fun e a w' =>match e with | .exit _=>False | _=>LeavesInM (Fr none) 0 P fn a.tmps (fun e w'=>∃v,e= .returned v∧ResOk w w' X0 sg.rs rs v) a.defers .returning w') hrel rfl trivial (by simp;omega) (by
         intro e φ' ρ' J' σ' a' w' g1 g2 g3 g4 g5 g6 g7
         have fin : ((match(resultOf P fn σ').bind (unTup sg.rs.length)with
          | some vs => match closeAll σ' sg.rs vs with | some es => T.ret es | none => (.fail "19")
          | none => (.fail "20")) : T).den N C ρ' J' = some rs → LeavesInM (Fr none) 0 P fn a'.tmps (fun e w' => ∃ v, e = .returned v ∧ ResOk w w' X0 sg.rs rs v) a'.defers .returning w' := by
          intro g7
          refine leavesM a'.defers a'.tmps w' g4 fun w' g4=>?_
          split at g7
          · rename_i ss hss
            rw[Option.bind_eq_some_iff]at hss
            obtain⟨s,hs,hut⟩:=hss
            obtain⟨ss0,us0,_,rfl,hres,hus⟩:=results_sound (P:=P) g4 hs
            refine⟨_,hres,_,rfl,?_⟩
            split at g7
            · rename_i es hes
              simp only[T.den,Option.some.injEq]at g7
              subst g7
              unfold closeAll at hes
              split at hes
              · rename_i hnd
                have hclen:=closeGo_len hes
                have hus':∃us,oneV us0=oneV us∧SVRs w' X φ' ρ' σ'.nx ss us:=by
                 have hone:=oneOf_sound hus
                 unfold unTup at hut
                 split at hut
                 · cases hut
                   exact⟨[oneV us0],rfl,by simp only[SVRs];exact⟨_,[],rfl,hone,rfl⟩⟩
                 · rename_i hn1
                   split at hut
                   · rename_i l hl
                     cases hut
                     rw[hl]at hone
                     simp only[SVR]at hone
                     obtain⟨cs,hv,hcs⟩:=hone
                     refine⟨cs.toList,?_,hcs⟩
                     rw[hv]
                     have hcl:=hcs.length
                     have hne:cs.toList.length≠1:=by
                      rw[hcl,←hclen]
                      simpa using hn1
                     cases hcl2:cs.toList with
                     | nil=>simp only[oneV];congr 1;apply Array.ext';simpa using hcl2
                     | cons x r=>
                      cases r with
                      | nil=>rw[hcl2]at hne;simp at hne
                      | cons y r'=>simp only[oneV];congr 1;apply Array.ext';simpa using hcl2
                   · cases hut
                obtain⟨us,hone,hss⟩:=hus'
                obtain⟨ψ,q1,q2,q3,q4⟩:=closeGo_sound g4 (ownRes sg.rs ss) sg.rs ss es us hes hss (fun l hl=>hl) hnd
                refine⟨g4.below,us,ψ,hone,?_,fun j k g hk hg=>?_,q3,q4⟩
                · refine ResR.turn (fun b _ hn ho=>hn ?_) 0 sg.rs _ us q1
                  rcases ho with hx | ⟨j,k,hk,hg⟩
                  · exact .inl hx
                  · obtain⟨l,hl,hφ⟩:=q2 j k b hk hg
                    exact .inr ⟨l,hl,k,hφ,hg⟩
                · obtain⟨l,_,hφ⟩:=q2 j k g hk hg
                  exact g4.low l k g hφ hg
              · cases hes
            · simp[T.den]at g7
          · simp[T.den]at g7
         cases e with
         | normal=>exact fin g7
         | ret=>exact fin g7
         | exit i=>simp[T.den]at g7) hd
       refine wpIn_mono main fun e a w' he=>?_
       cases e with
       | normal=>exact he
       | ret=>exact he
       | exit i=>exact he.elim
       | goto l=>exact he.elim
       | panic ch=>exact he.elim
       | outgrown=>exact he.elim
   · simp[T.den]at hd
 · simp[T.den]at hd
end Go.Proofs.YtckjdlmfibjpaaaGreat.Sx
set_option linter.unusedVariables false
set_option linter.unusedSimpArgs false
namespace Go.Proofs.YtckjdlmfibjpaaaGreat.Sx
open Go.RowKit
def St.at (σ:St) (n m:Nat):St:={ σ with nv:=n,nx:=m }
theorem at_heap (σ:St) (n m:Nat):(σ.at n m).heap=σ.heap:=rfl
theorem at_known (σ:St) (n m:Nat):(σ.at n m).known=σ.known:=rfl
theorem at_knownAs (σ:St) (n m:Nat):(σ.at n m).knownAs=σ.knownAs:=rfl
theorem at_ev (σ:St) (n m:Nat):(σ.at n m).ev=σ.ev:=by funext x;cases x <;> rfl
theorem at_leaf (σ:St) (n m:Nat):(σ.at n m).leaf=σ.leaf:=by funext k s;unfold St.leaf;cases s <;> rfl
theorem at_lenOf (σ:St) (n m:Nat):lenOf (σ.at n m)=lenOf σ:=by funext s;unfold lenOf;cases s <;> rfl
theorem at_learn_ev (σ:St) (n m:Nat) (l:List (Ex×Bool)):({ (σ.at n m)with known:=l }:St).ev=({ σ with known:=l }:St).ev:=by funext x;cases x <;> rfl
def reAt (n m:Nat) (x:List Ex×SV×St):List Ex×SV×St:=(x.1,x.2.1,x.2.2.at n m)
theorem builtin1_at (P:Program) (σ:St) (n m:Nat) (b:Builtin) (ts:List TypeId) (args:List SV) (hp:b= .len∨b= .max∨b= .min):builtin1 P (σ.at n m) b ts args=(builtin1 P σ b ts args).map (reAt n m):=by
 rcases hp with rfl | rfl | rfl <;> simp only[builtin1,at_lenOf] <;> (repeat' split) <;> simp_all [reAt,Option.map_map,Function.comp_def]
theorem simple_at_pure (P:Program) (σ:St) (n m:Nat) (op:Op) (hp:pureOp op=true):simple P (σ.at n m) op=(simple P σ op).map (reAt n m):=by
 unfold simple
 split <;> (try simp only[at_learn_ev]) <;> (try simp only[at_ev,at_knownAs,at_heap,at_known,Option.map_some,reAt,Option.map_none])
 all_goals (try (simp[pureOp]at hp;done))
 all_goals first | rfl | skip
 all_goals (repeat' split) <;> first | rfl | skip
 all_goals (try simp_all [reAt,Option.map_map,Function.comp_def,Option.map_bind])
 · exact builtin1_at P σ n m _ _ _ (by revert hp;rename_i b args ts;cases b <;> simp[pureOp])
def reNv (n:Nat) (x:List Ex×SV×St):List Ex×SV×St:=(x.1,x.2.1,x.2.2.at n x.2.2.nx)
theorem copyB_nv (P:Program) (σ:St) (n:Nat) (ts:List TypeId) (args:List SV):copyB P (σ.at n σ.nx) ts args=(copyB P σ ts args).map (reNv n):=by
 unfold copyB
 split
 · split
   · simp only[at_heap,at_leaf]
     (repeat' split) <;> first | rfl | simp_all [reNv]
     all_goals rfl
   · rfl
 · rfl
theorem appendB_nv (P:Program) (σ:St) (n:Nat) (ts:List TypeId) (args:List SV):appendB P (σ.at n σ.nx) ts args=(appendB P σ ts args).map (reNv n):=by
 unfold appendB
 split
 · split
   · simp only[at_heap,at_leaf]
     (repeat' split) <;> first | rfl | skip
     all_goals simp_all [reNv]
     all_goals rfl
   · rfl
 · rfl
theorem builtin1_nv (P:Program) (σ:St) (n:Nat) (b:Builtin) (ts:List TypeId) (args:List SV):builtin1 P (σ.at n σ.nx) b ts args=(builtin1 P σ b ts args).map (reNv n):=by
 unfold builtin1
 cases b <;> first | rfl | exact copyB_nv P σ n ts args | exact appendB_nv P σ n ts args | skip
 all_goals simp only[at_lenOf]
 all_goals (repeat' split) <;> first | rfl | skip
 all_goals simp_all [reNv,Option.map_map,Function.comp_def]
 all_goals rfl
theorem simple_nv (P:Program) (σ:St) (n:Nat) (op:Op):simple P (σ.at n σ.nx) op=(simple P σ op).map (reNv n):=by
 unfold simple
 split <;> (try simp only[at_learn_ev]) <;> (try simp only[at_ev,at_knownAs,at_heap,at_known,Option.map_some,reNv,Option.map_none])
 all_goals first | rfl | skip
 all_goals (repeat' split) <;> first | rfl | skip
 all_goals (try simp_all [reNv,Option.map_map,Function.comp_def,Option.map_bind])
 all_goals first | rfl | skip
 · exact builtin1_nv P σ n _ _ _
def touchOf (σ:St) (op:Op):List Nat:=
 match op with
 | .store _ a _=>match σ.ev a with | .ptr l _ _=> [l] | _=> []
 | .mapUpdate _ m _ _=>match σ.ev m with | .mp l=> [l] | _=> []
 | .call { callee:= .builtin _,args,.. } =>match args.toList.map σ.ev with | .own l _::_=> [l,σ.nx] | _=> [σ.nx]
 | _=> [σ.nx]
theorem look_new (σ:St) (o:Ob) {l:Nat} (h:l≠σ.nx):look (σ.new o).heap l=look σ.heap l:=by
 unfold St.new
 rw[look,if_neg (by simp;omega)]
theorem simple_touch {P:Program} {σ:St} {op:Op} (hp:pureOp op=false) {gs:List Ex} {v:SV} {σ':St} (h:simple P σ op=some (gs,v,σ')) {l:Nat} (hl:l∉touchOf σ op):look σ'.heap l=look σ.heap l:=by
 cases op with
 | alloc t=>
  simp only[touchOf,List.mem_singleton]at hl
  simp only[simple,Option.bind_eq_some_iff]at h
  obtain⟨z,_,h⟩:=h
  split at h <;> simp only[Option.some.injEq,Prod.mk.injEq,reduceCtorEq]at h
  rw[←h.2.2];exact look_new _ _ hl
 | box t x=>
  simp only[touchOf,List.mem_singleton]at hl
  simp only[simple,Option.map_eq_some_iff,Prod.mk.injEq]at h
  obtain⟨z,_,h⟩:=h
  rw[←h.2.2];exact look_new _ _ hl
 | buildSlice t n parts=>
  simp only[touchOf,List.mem_singleton]at hl
  simp only[simple]at h
  (repeat' split at h) <;> simp only[Option.map_eq_some_iff,Prod.mk.injEq,reduceCtorEq]at h
  obtain⟨z,_,h⟩:=h
  rw[←h.2.2];exact look_new _ _ hl
 | makeSlice t n c=>
  simp only[touchOf,List.mem_singleton]at hl
  simp only[simple]at h
  (repeat' split at h) <;> simp only[Option.some.injEq,Prod.mk.injEq,reduceCtorEq]at h
  rw[←h.2.2];exact look_new _ _ hl
 | store t a x=>
  simp only[simple]at h
  simp only[touchOf]at hl
  generalize σ.ev a=sa at h hl
  (repeat' split at h) <;> simp only[Option.map_eq_some_iff,Option.some.injEq,Prod.mk.injEq,reduceCtorEq]at h
  · simp only[List.mem_singleton]at hl
    rw[←h.2.2];exact look_put_other _ _ _ _ hl
  all_goals
   simp only[List.mem_singleton]at hl
   obtain⟨z,_,h⟩:=h
   rw[←h.2.2];exact look_put_other _ _ _ _ hl
 | makeMap t r=>
  cases r with
  | some r=>simp[simple]at h
  | none=>
   simp only[touchOf,List.mem_singleton]at hl
   simp only[simple]at h
   split at h <;> simp only[Option.some.injEq,Prod.mk.injEq,reduceCtorEq]at h
   rw[←h.2.2];exact look_new _ _ hl
 | mapUpdate t m x y=>
  simp only[simple]at h
  simp only[touchOf]at hl
  generalize σ.ev m=sm at h hl
  (repeat' split at h) <;> simp only[Option.some.injEq,Prod.mk.injEq,reduceCtorEq]at h
  simp only[List.mem_singleton]at hl
  rw[←h.2.2];exact look_put_other _ _ _ _ hl
 | call ci=>
  obtain⟨callee,args,ts⟩:=ci
  cases callee with
  | builtin b=>
   simp only[simple]at h
   simp only[touchOf]at hl
   generalize args.toList.map σ.ev=as at h hl
   cases b <;> simp only[builtin1,reduceCtorEq]at h <;> (try (simp[pureOp]at hp;done))
   · unfold appendB at h
     (repeat' split at h) <;> simp only[Option.some.injEq,Prod.mk.injEq,reduceCtorEq]at h
     · simp only[List.mem_singleton]at hl
       rw[←h.2.2];exact look_new _ _ hl
     · simp only[List.mem_cons,List.not_mem_nil,or_false,not_or]at hl
       rw[←h.2.2]
       show look ((σ.nx,_)::del σ.heap _) l=_
       rw[look,if_neg (by simp;omega)]
       exact look_del_other _ _ _ hl.1
   · unfold copyB at h
     (repeat' split at h) <;> simp only[Option.some.injEq,Prod.mk.injEq,reduceCtorEq]at h
     simp only[List.mem_cons,List.not_mem_nil,or_false,not_or]at hl
     rw[←h.2.2];exact look_put_other _ _ _ _ hl.1
  | _=>simp[simple]at h
 | _=>first | (simp[pureOp]at hp;done) | (simp[simple]at h;done) | skip
end Go.Proofs.YtckjdlmfibjpaaaGreat.Sx
set_option linter.unusedVariables false
set_option linter.unusedSimpArgs false
namespace Go.Proofs.YtckjdlmfibjpaaaGreat.Sx
open Go.RowKit
def Sh.bare:Sh→Bool
 | .leaf k=>!k.isRow
 | .agg ks=>!ks.any LK.isRow
 | .own _=>false
def Sh.nown:Sh→Bool
 | .own _=>false
 | _=>true
section
variable {P:Program} {X:Env} {W0:World} {φ:Names} {ρ:List PV} {σ:St} {a:Act} {fs:List Act} {w:World} {nx:Nat} {U:Nat→Prop}
theorem owned_call {sigs:Nat→Option Sig} {C:Nat→List PV→Option (List PV)} (hC:CallOk P sigs C) {f:Nat} {sg:Sig} (hsg:sigs f=some sg) {args:List SV} {vs:List Value} {es:List Ex}
    (h:Rel X W0 φ ρ σ fs w) (hargs:SVRs w X φ ρ σ.nx args vs) (hes:argLeaves σ sg.ps args=some es) {ps:List PV} (hCf:C f (es.map (·.den ρ))=some ps) {nv0:Nat} (hat:∀i p,ps[i]? =some p→ρ[nv0+i]? =some p) :
    Calls P f vs.toArray w fun e w'=>∃v,e= .returned v∧∃φ',Evo X φ φ' σ.nx w w'∧Rel X W0 φ' ρ { σ with nx:=σ.nx+(resSV sg.rs nv0 σ.nx).2.1.length,heap:=(resSV sg.rs nv0 σ.nx).2.1++(if sg.rs.any Sh.frozen then dels σ.heap (ownNames args)else σ.heap) } fs w'∧
     SVR w' X φ' ρ (σ.nx+(resSV sg.rs nv0 σ.nx).2.1.length) (oneOf (resSV sg.rs nv0 σ.nx).1) v:=by
 let Xc:Nat→Prop:=fun b=>Owned X φ b∧¬∃m∈ownNames args,∃kk,φ m=some kk∧kk.g=some b
 obtain⟨fes,hA⟩:=argLeaves_sound h (U:=Xc) (fun b hb=>hb.1) sg.ps args es vs hargs hes (fun m hm kk g hk hg hb=>hb.2 ⟨m,hm,kk,hk,hg⟩)
 have hXlt:∀b,Xc b→b < w.heap.size:=by
  intro b hb
  rcases hb.1 with hx | ⟨m,kk,hm,hg⟩
  · have:=h.old.1 b hx;have:=h.size_le;omega
  · exact(h.low m kk b hm hg).2
 refine(hC f sg hsg _ ps hCf w vs Xc hXlt hA).mono fun e w' hpost=>?_
 obtain⟨v,rfl,hbel,us,ψ,rfl,hR,hψlow,hψinj,hψn⟩:=hpost
 refine⟨_,rfl,?_⟩
 let killed:=if sg.rs.any Sh.frozen then ownNames args else []
 let φ':=called φ ψ σ.nx killed
 have hold:∀m kk,φ' m=some kk→m < σ.nx→φ m=some kk∧m∉killed:=by
  intro m kk hm hlt
  simp only[φ',called,if_pos hlt]at hm
  split at hm
  · cases hm
  · rename_i hnk;exact⟨hm,hnk⟩
 have hnew:∀m kk,φ' m=some kk→¬m < σ.nx→ψ (m - σ.nx)=some kk:=by
  intro m kk hm hlt
  simp only[φ',called,if_neg hlt]at hm
  exact hm
 have hsame:∀b,b < w.heap.size→w'.heap[b]? =w.heap[b]?:=fun b hb=>hbel.block b hb
 have ev:Evo X φ φ' σ.nx w w':=by
  refine⟨hbel.size,fun b hb _=>hsame b hb,fun l kk g c hl hk hg hc=>⟨c,by rw[hsame g (Array.getElem?_eq_some_iff.1 hc).1];exact hc,rfl⟩,fun l hl=>?_,fun b hb ho=>?_⟩
  · simp only[φ',called,if_pos hl]
    split
    · exact .inr rfl
    · exact .inl rfl
  · rcases ho with hx | ⟨m,kk,hm,hg⟩
    · exact .inl hx
    · by_cases hlt:m < σ.nx
      · exact .inr ⟨m,kk,(hold m kk hm hlt).1,hg⟩
      · have:=hψlow _ _ _ (hnew m kk hm hlt) hg
        omega
 have hR':ResR w' (Owned X φ') ψ 0 sg.rs ps us:=by
  by_cases hfz:sg.rs.any Sh.frozen=true
  · refine ResR.turn (fun b _ hn ho=>hn ?_) 0 sg.rs ps us hR
    rcases ho with hx | ⟨m,kk,hm,hg⟩
    · left
      refine⟨.inl hx,?_⟩
      rintro⟨m,_,kk,hm,hg⟩
      have:=h.old.1 b hx
      have:=(h.lowg m kk b hm hg).1
      omega
    · by_cases hlt:m < σ.nx
      · obtain⟨hφ,hnk⟩:=hold m kk hm hlt
        left
        refine⟨.inr ⟨m,kk,hφ,hg⟩,?_⟩
        rintro⟨m',hm',kk',hk',hg'⟩
        have:=h.inj m m' kk kk' b hφ hk' hg (.inl hg')
        subst this
        simp only[killed,hfz,if_true]at hnk
        exact hnk hm'
      · exact .inr ⟨_,kk,hnew m kk hm hlt,hg⟩
  · exact ResR.plain 0 sg.rs ps us (by simpa using hfz) hR
 have hψφ:∀i kk,ψ i=some kk→φ' (σ.nx+i)=some kk:=by
  intro i kk hk
  simp only[φ',called]
  rw[if_neg (by omega),show σ.nx+i - σ.nx=i by omega]
  exact hk
 have hρ:=hat
 obtain⟨q1,q2,q3,q4⟩:=resSV_sound (NX:=σ.nx+ownCount sg.rs) hψφ sg.rs 0 nv0 ps us hR' hρ (by omega)
 simp only[Nat.add_zero]at q1 q2 q3 q4
 refine⟨φ',ev,?_,?_⟩
 · have pre:ρ <+:ρ:=List.prefix_refl _
   have hnx:σ.nx+(resSV sg.rs nv0 σ.nx).2.1.length=σ.nx+ownCount sg.rs:=by rw[q3]
   refine⟨h.below.trans (hbel.mono h.size_le),h.old,fun l kk g hl hg=>?_,fun l l' kk kk' g hl hl' hg hg'=>?_,fun l kk hl=>?_,h.nv,fun c b hc=>?_,?_,fun l o hl=>?_⟩
   · by_cases hlt:l < σ.nx
     · have:=h.low l kk g (hold l kk hl hlt).1 hg
       have:=hbel.size
       omega
     · have:=hψlow _ _ _ (hnew l kk hl hlt) hg
       have:=h.size_le
       omega
   · by_cases hlt:l < σ.nx
     · by_cases hlt':l' < σ.nx
       · exact h.inj l l' kk kk' g (hold l kk hl hlt).1 (hold l' kk' hl' hlt').1 hg hg'
       · have:=(h.low l kk g (hold l kk hl hlt).1 hg).2
         have:=hψlow _ _ _ (hnew l' kk' hl' hlt') hg'
         omega
     · by_cases hlt':l' < σ.nx
       · have:=(h.low l' kk' g (hold l' kk' hl' hlt').1 hg').2
         have:=hψlow _ _ _ (hnew l kk hl hlt) hg
         omega
       · have:=hψinj _ _ _ _ g (hnew l kk hl hlt) (hnew l' kk' hl' hlt') hg hg'
         omega
   · show l < σ.nx+(resSV sg.rs nv0 σ.nx).2.1.length
     rw[hnx]
     by_cases hlt:l < σ.nx
     · omega
     · have:=hψn _ _ (hnew l kk hl hlt)
       omega
   · obtain⟨hf,hb⟩:=h.known c b hc
     exact⟨Ex.fits_mono pre.length_le c hf,by rw[Ex.den_ext pre c hf];exact hb⟩
   · show FrsR w' X φ' ρ (σ.nx+(resSV sg.rs nv0 σ.nx).2.1.length) σ.fr fs
     exact FrsR.evo ev pre (by omega) _ _ h.frames
   · show ∃k,φ' l=some k∧ObR w' X φ' ρ (σ.nx+(resSV sg.rs nv0 σ.nx).2.1.length) k o
     rw[hnx]
     have hl':look ((resSV sg.rs nv0 σ.nx).2.1++(if sg.rs.any Sh.frozen then dels σ.heap (ownNames args)else σ.heap)) l=some o:=hl
     have look_app:∀ (x y:List (Nat×Ob)),look (x++y) l=match look x l with | some o=>some o | none=>look y l:=by
      intro x y
      induction x with
      | nil=>rfl
      | cons z x ih=>
       obtain⟨i,ob⟩:=z
       simp only[List.cons_append,look]
       split
       · rfl
       · exact ih
     rw[look_app]at hl'
     split at hl'
     · rename_i o' ho'
       cases hl'
       exact(q4 l o ho').2
     · have hk':look σ.heap l=some o∧l∉killed:=by
        simp only[killed]
        split at hl'
        · rename_i hfz
          rw[look_dels]at hl'
          split at hl'
          · cases hl'
          · rename_i hnm;rw[if_pos hfz];exact⟨hl',hnm⟩
        · rename_i hfz
          rw[if_neg hfz]
          exact⟨hl',by simp⟩
       obtain⟨kk,hkk,hob⟩:=h.heap l o hk'.1
       have hlt:=h.names l kk hkk
       refine⟨kk,?_,ObR.evo ev pre (by omega) (fun g hg=>hsame g (h.low l kk g hkk hg).2) o hob⟩
       simp only[φ',called,if_pos hlt,if_neg hk'.2]
       exact hkk
 · show SVR w' X φ' ρ (σ.nx+(resSV sg.rs nv0 σ.nx).2.1.length) (oneOf (resSV sg.rs nv0 σ.nx).1) (oneV us)
   rw[q3]
   exact oneOf_sound q1
theorem bare_svrs {ψ:Names}:∀ (rs:List Sh) (j nv nx0:Nat) (ps:List PV) (vs:List Value),rs.all Sh.bare=true→ResR w U ψ j rs ps vs→(∀i p,ps[i]? =some p→ρ[nv+i]? =some p)→SVRs w X φ ρ nx (resSV rs nv nx0).1 vs
 | [],j,nv,nx0,ps,vs,_,h,_=>by
  simp only[ResR]at h
  simp only[resSV,h.2,SVRs]
 | .leaf k::r,j,nv,nx0,ps,vs,hb,h,hp=>by
  simp only[List.all_cons,Bool.and_eq_true]at hb
  simp only[ResR]at h
  obtain⟨p,ps',v,vs',rfl,rfl,h1,h2⟩:=h
  have h0:ρ[nv]? =some p:=hp 0 p rfl
  simp only[resSV,SVRs]
  refine⟨v,vs',rfl,?_,bare_svrs r j (nv+1) nx0 ps' vs' hb.2 h2 (fun i q hq=>by have:=hp (i+1) q (by simpa using hq);rw[←this];congr 1;omega)⟩
  simp only[SVR,Ex.fits,Ex.den,decide_eq_true_eq]
  exact⟨(List.getElem?_eq_some_iff.1 h0).1,by rw[getD_of h0];exact RV.plain (by simpa [Sh.bare]using hb.1) h1⟩
 | .agg ks::r,j,nv,nx0,ps,vs,hb,h,hp=>by
  simp only[List.all_cons,Bool.and_eq_true]at hb
  simp only[ResR]at h
  obtain⟨qs,ps',cs,vs',rfl,rfl,h1,h2⟩:=h
  simp only[resSV,SVRs]
  have hlen:=h1.length.1
  refine⟨_,vs',rfl,?_,bare_svrs r j (nv+ks.length) nx0 ps' vs' hb.2 h2 (fun i q hq=>by have:=hp (qs.length+i) q (by rw[List.getElem?_append_right (by omega),←hq];congr 1;omega);rw[←this];congr 1;omega)⟩
  simp only[SVR]
  exact⟨cs,rfl,leavesFrom_sound ks nv qs _ (RVs.plain (by simpa [Sh.bare]using hb.1) h1) (fun i p hi=>hp i p (by rw[List.getElem?_append_left (List.getElem?_eq_some_iff.1 hi).1];exact hi))⟩
 | .own ks::r,j,nv,nx0,ps,vs,hb,h,hp=>by simp[Sh.bare]at hb
theorem nown_svrs {ψ:Names} {U:Nat→Prop} (hU:∀b,Owned X φ b→U b):∀ (rs:List Sh) (j nv nx0:Nat) (ps:List PV) (vs:List Value),rs.all Sh.nown=true→ResR w U ψ j rs ps vs→(∀i p,ps[i]? =some p→ρ[nv+i]? =some p)→SVRs w X φ ρ nx (resSV rs nv nx0).1 vs
 | [],j,nv,nx0,ps,vs,_,h,_=>by
  simp only[ResR]at h
  simp only[resSV,h.2,SVRs]
 | .leaf k::r,j,nv,nx0,ps,vs,hb,h,hp=>by
  simp only[List.all_cons,Bool.and_eq_true]at hb
  simp only[ResR]at h
  obtain⟨p,ps',v,vs',rfl,rfl,h1,h2⟩:=h
  have h0:ρ[nv]? =some p:=hp 0 p rfl
  simp only[resSV,SVRs]
  refine⟨v,vs',rfl,?_,nown_svrs hU r j (nv+1) nx0 ps' vs' hb.2 h2 (fun i q hq=>by have:=hp (i+1) q (by simpa using hq);rw[←this];congr 1;omega)⟩
  simp only[SVR,Ex.fits,Ex.den,decide_eq_true_eq]
  exact⟨(List.getElem?_eq_some_iff.1 h0).1,by rw[getD_of h0];exact RV.mono (Nat.le_refl _) (fun b _ hn=>⟨rfl,fun hh=>hn (hU b hh)⟩) _ _ _ h1⟩
 | .agg ks::r,j,nv,nx0,ps,vs,hb,h,hp=>by
  simp only[List.all_cons,Bool.and_eq_true]at hb
  simp only[ResR]at h
  obtain⟨qs,ps',cs,vs',rfl,rfl,h1,h2⟩:=h
  simp only[resSV,SVRs]
  have hlen:=h1.length.1
  refine⟨_,vs',rfl,?_,nown_svrs hU r j (nv+ks.length) nx0 ps' vs' hb.2 h2 (fun i q hq=>by have:=hp (qs.length+i) q (by rw[List.getElem?_append_right (by omega),←hq];congr 1;omega);rw[←this];congr 1;omega)⟩
  simp only[SVR]
  exact⟨cs,rfl,leavesFrom_sound ks nv qs _ (RVs.mono (Nat.le_refl _) (fun b _ hn=>⟨rfl,fun hh=>hn (hU b hh)⟩) _ _ _ h1) (fun i p hi=>hp i p (by rw[List.getElem?_append_left (List.getElem?_eq_some_iff.1 hi).1];exact hi))⟩
 | .own ks::r,j,nv,nx0,ps,vs,hb,h,hp=>by simp[Sh.nown]at hb
theorem float_call {sigs:Nat→Option Sig} {C:Nat→List PV→Option (List PV)} (hC:CallOk P sigs C) {f:Nat} {sg:Sig} (hsg:sigs f=some sg) {args:List SV} {vs:List Value} {es:List Ex}
    (h:Rel X W0 φ ρ σ fs w) (hargs:SVRs w X φ ρ σ.nx args vs) (hes:argLeaves σ sg.ps args=some es) (hb:sg.rs.all Sh.bare=true) {ps:List PV} (hCf:C f (es.map (·.den ρ))=some ps) {nv0 nx0:Nat} (hat:∀i p,ps[i]? =some p→ρ[nv0+i]? =some p) :
    Calls P f vs.toArray w fun e w'=>∃v,e= .returned v∧Below w.heap.size w w'∧SVR w' X φ ρ σ.nx (oneOf (resSV sg.rs nv0 nx0).1) v:=by
 let Xc:Nat→Prop:=fun b=>Owned X φ b∧¬∃m∈ownNames args,∃kk,φ m=some kk∧kk.g=some b
 obtain⟨fes,hA⟩:=argLeaves_sound h (U:=Xc) (fun b hb=>hb.1) sg.ps args es vs hargs hes (fun m hm kk g hk hg hb=>hb.2 ⟨m,hm,kk,hk,hg⟩)
 have hXlt:∀b,Xc b→b < w.heap.size:=by
  intro b hb
  rcases hb.1 with hx | ⟨m,kk,hm,hg⟩
  · have:=h.old.1 b hx;have:=h.size_le;omega
  · exact(h.low m kk b hm hg).2
 refine(hC f sg hsg _ ps hCf w vs Xc hXlt hA).mono fun e w' hpost=>?_
 obtain⟨v,rfl,hbel,us,ψ,rfl,hR,hψlow,hψinj,hψn⟩:=hpost
 exact⟨_,rfl,hbel,oneOf_sound (bare_svrs sg.rs 0 nv0 nx0 ps us hb hR hat)⟩
theorem float_call2 {sigs:Nat→Option Sig} {C:Nat→List PV→Option (List PV)} (hC:CallOk P sigs C) {f:Nat} {sg:Sig} (hsg:sigs f=some sg) {args:List SV} {vs:List Value} {es:List Ex}
    (h:Rel X W0 φ ρ σ fs w) (hargs:SVRs w X φ ρ σ.nx args vs) (hes:argLeaves σ sg.ps args=some es) (hb:sg.rs.all Sh.nown=true) (ho:ownNames args=[]) {ps:List PV} (hCf:C f (es.map (·.den ρ))=some ps) {nv0 nx0:Nat} (hat:∀i p,ps[i]? =some p→ρ[nv0+i]? =some p) :
    Calls P f vs.toArray w fun e w'=>∃v,e= .returned v∧Below w.heap.size w w'∧SVR w' X φ ρ σ.nx (oneOf (resSV sg.rs nv0 nx0).1) v:=by
 let Xc:Nat→Prop:=fun b=>Owned X φ b∧¬∃m∈ownNames args,∃kk,φ m=some kk∧kk.g=some b
 obtain⟨fes,hA⟩:=argLeaves_sound h (U:=Xc) (fun b hb=>hb.1) sg.ps args es vs hargs hes (fun m hm kk g hk hg hb=>hb.2 ⟨m,hm,kk,hk,hg⟩)
 have hXlt:∀b,Xc b→b < w.heap.size:=by
  intro b hb
  rcases hb.1 with hx | ⟨m,kk,hm,hg⟩
  · have:=h.old.1 b hx;have:=h.size_le;omega
  · exact(h.low m kk b hm hg).2
 refine(hC f sg hsg _ ps hCf w vs Xc hXlt hA).mono fun e w' hpost=>?_
 obtain⟨v,rfl,hbel,us,ψ,rfl,hR,hψlow,hψinj,hψn⟩:=hpost
 exact⟨_,rfl,hbel,oneOf_sound (nown_svrs (fun b hb'=> .inl ⟨hb',by rw[ho];rintro⟨_,hm,_⟩;cases hm⟩) sg.rs 0 nv0 nx0 ps us hb hR hat)⟩
def quiet (rs:List Sh) (args:List SV):Bool:=rs.all Sh.bare|| (rs.all Sh.nown&& (ownNames args).isEmpty)
theorem float_call3 {sigs:Nat→Option Sig} {C:Nat→List PV→Option (List PV)} (hC:CallOk P sigs C) {f:Nat} {sg:Sig} (hsg:sigs f=some sg) {args:List SV} {vs:List Value} {es:List Ex}
    (h:Rel X W0 φ ρ σ fs w) (hargs:SVRs w X φ ρ σ.nx args vs) (hes:argLeaves σ sg.ps args=some es) (hb:quiet sg.rs args=true) {ps:List PV} (hCf:C f (es.map (·.den ρ))=some ps) {nv0 nx0:Nat} (hat:∀i p,ps[i]? =some p→ρ[nv0+i]? =some p) :
    Calls P f vs.toArray w fun e w'=>∃v,e= .returned v∧Below w.heap.size w w'∧SVR w' X φ ρ σ.nx (oneOf (resSV sg.rs nv0 nx0).1) v:=by
 simp only[quiet,Bool.or_eq_true,Bool.and_eq_true,List.isEmpty_iff]at hb
 rcases hb with hb | ⟨hb,ho⟩
 · exact float_call hC hsg h hargs hes hb hCf hat
 · exact float_call2 hC hsg h hargs hes hb ho hCf hat
end
end Go.Proofs.YtckjdlmfibjpaaaGreat.Sx

/- Symbolic running of the program's code, over any program, with its proof (5 of 6): definitions and lemmas. No condition. -/
import Derived.Test.YtckjdlmfibjpaaaGreatSx4
set_option linter.unusedVariables false
set_option linter.unusedSimpArgs false
namespace Go.Proofs.YtckjdlmfibjpaaaGreat.Sx
open Go.RowKit
mutual
def SV.names:SV→List Nat
 | .ptr l _ _ | .own l _ | .mp l | .mrow l _ | .mptr l _ _ _=> [l]
 | .gd _ s=>s.names
 | .agg l | .tup l | .fn _ l | .bfn _ l | .fbox l _=>namesAll l
 | .alt _ x y=>x.names++y.names
 | _=> []
def namesAll:List SV→List Nat
 | []=> []
 | s::r=>s.names++namesAll r
end
mutual
theorem LK.same_self:∀ (a:LK),a.same a=true
 | .int k=>by simp[LK.same]
 | .bool | .str | .any=>by simp[LK.same]
 | .row a=>by simp only[LK.same];exact LK.sames_self a
theorem LK.sames_self:∀ (a:List LK),LK.sames a a=true
 | []=>by simp[LK.sames]
 | a::as=>by simp only[LK.sames,LK.same_self a,LK.sames_self as,Bool.and_self]
end
section
variable {W:World} {X:Env} {φ φ':Names} {ρ ρF:List PV} {nx nx':Nat}
theorem RV.less {k:LK} {p:PV} {v:Value} (hO:∀b,Owned X φ' b→Owned X φ b) (h:RV W (Owned X φ) k p v):RV W (Owned X φ') k p v:=
 RV.mono (Nat.le_refl _) (fun b _ hn=>⟨rfl,fun hb=>hn (hO b hb)⟩) _ _ _ h
mutual
theorem SVR.carry (hp:ρ <+:ρF) (hO:∀b,Owned X φ' b→Owned X φ b):∀ (s:SV) (v:Value),s.fits ρ.length nx'=true→(∀l∈s.names,φ' l=φ l)→SVR W X φ ρF nx s v→SVR W X φ' ρ nx' s v
 | .undef,v,_,_,_=>by simp[SVR]
 | .skip,v,_,_,hv=>by simp only[SVR]at *;exact hv
 | .nilS,v,_,_,hv=>by simp only[SVR]at *;exact hv
 | .nilP,v,_,_,hv=>by simp only[SVR]at *;exact hv
 | .nilF,v,_,_,hv=>by simp only[SVR]at *;exact hv
 | .yld m,v,_,_,hv=>by simp only[SVR]at *;exact hv
 | .ex k e,v,hf,_,hv=>by
  simp only[SVR,SV.fits]at *
  refine⟨hf,?_⟩
  rw[←Ex.den_ext hp e hf]
  exact RV.less hO hv.2
 | .gd c s,v,hf,hn,hv=>by
  simp only[SVR,SV.fits,SV.names,Bool.and_eq_true]at *
  rw[Ex.den_ext hp c hf.1]at hv
  exact⟨hf.1,hf.2,fun hc=>SVR.carry hp hO s v hf.2 hn (hv.2.2.1 hc),hv.2.2.2⟩
 | .alt c x y,v,hf,hn,hv=>by
  simp only[SVR,SV.fits,SV.names,Bool.and_eq_true,List.mem_append]at *
  rw[Ex.den_ext hp c hf.1.1]at hv
  exact⟨hf.1.1,hf.1.2,hf.2,fun hc=>SVR.carry hp hO x v hf.1.2 (fun l hl=>hn l (.inl hl)) (hv.2.2.2.1 hc),fun hc=>SVR.carry hp hO y v hf.2 (fun l hl=>hn l (.inr hl)) (hv.2.2.2.2 hc)⟩
 | .agg l,v,hf,hn,hv | .tup l,v,hf,hn,hv | .fn _ l,v,hf,hn,hv | .bfn _ l,v,hf,hn,hv=>by
  simp only[SVR,SV.fits,SV.names]at *
  obtain⟨cs,rfl,hl⟩:=hv
  exact⟨cs,rfl,SVRs.carry hp hO l _ hf hn hl⟩
 | .fbox l o,v,hf,hn,hv=>by
  simp only[SVR,SV.fits,SV.names]at *
  obtain⟨g,vs,rfl,h1,h2,hl,h3⟩:=hv
  exact⟨g,vs,rfl,fun ho=>h1 (hO g ho),h2,SVRs.carry hp hO l _ hf hn hl,h3⟩
 | .ptr l i o,v,hf,hn,hv=>by
  simp only[SVR,SV.fits,SV.names,Bool.and_eq_true,decide_eq_true_eq]at *
  rw[Ex.den_ext hp i hf.2]at hv
  exact⟨hf.2,hf.1,hv.2.2.1,fun k hk=>hv.2.2.2 k (by rw[←hn l (by simp)];exact hk)⟩
 | .rptr ks e i o,v,hf,hn,hv=>by
  simp only[SVR,SV.fits,Bool.and_eq_true]at *
  rw[Ex.den_ext hp i hf.2,Ex.den_ext hp e hf.1]at hv
  obtain⟨_,_,xs,ad,h1,h2,h3⟩:=hv
  exact⟨hf.1,hf.2,xs,ad,h1,h2.monoC (Nat.le_refl _) (fun b _ hb=>⟨fun _ _ h=>h,fun ho=>hb (hO b ho)⟩),h3⟩
 | .own l none,v,hf,hn,hv=>by
  simp only[SVR,SV.fits,SV.names,decide_eq_true_eq]at *
  exact⟨hf,hv.2.1,fun k hk=>hv.2.2 k (by rw[←hn l (by simp)];exact hk)⟩
 | .own l (some (lo,n)),v,hf,hn,hv=>by
  simp only[SVR,SV.fits,SV.names,Bool.and_eq_true,decide_eq_true_eq]at *
  rw[Ex.den_ext hp lo hf.1.2,Ex.den_ext hp n hf.2]at hv
  exact⟨hf.1.2,hf.2,hf.1.1,hv.2.2.2.1,fun k hk=>hv.2.2.2.2 k (by rw[←hn l (by simp)];exact hk)⟩
 | .mp l,v,hf,hn,hv=>by
  simp only[SVR,SV.fits,SV.names,decide_eq_true_eq]at *
  exact⟨hf,hv.2.1,fun k hk=>hv.2.2 k (by rw[←hn l (by simp)];exact hk)⟩
 | .mrow l e,v,hf,hn,hv=>by
  simp only[SVR,SV.fits,SV.names,Bool.and_eq_true,decide_eq_true_eq]at *
  rw[Ex.den_ext hp e hf.2]at hv
  exact⟨hf.1,hf.2,hv.2.2.1,fun k hk=>hv.2.2.2 k (by rw[←hn l (by simp)];exact hk)⟩
 | .mptr l e i o,v,hf,hn,hv=>by
  simp only[SVR,SV.fits,SV.names,Bool.and_eq_true,decide_eq_true_eq]at *
  rw[Ex.den_ext hp e hf.1.2,Ex.den_ext hp i hf.2]at hv
  exact⟨hf.1.1,hf.1.2,hf.2,hv.2.2.2.1,fun k hk=>hv.2.2.2.2 k (by rw[←hn l (by simp)];exact hk)⟩
theorem SVRs.carry (hp:ρ <+:ρF) (hO:∀b,Owned X φ' b→Owned X φ b):∀ (l:List SV) (vs:List Value),fitsAll ρ.length nx' l=true→(∀n∈namesAll l,φ' n=φ n)→SVRs W X φ ρF nx l vs→SVRs W X φ' ρ nx' l vs
 | [],vs,_,_,hv=>by simp only[SVRs]at *;exact hv
 | s::r,vs,hf,hn,hv=>by
  simp only[SVRs,fitsAll,namesAll,Bool.and_eq_true,List.mem_append]at *
  obtain⟨v,vs',rfl,h1,h2⟩:=hv
  exact⟨v,vs',rfl,SVR.carry hp hO s v hf.1 (fun l hl=>hn l (.inl hl)) h1,SVRs.carry hp hO r vs' hf.2 (fun l hl=>hn l (.inr hl)) h2⟩
end
end
def frz (n:Nat) (h:List (Nat×Ob)):Nat→SV→SV
 | 0,_=> .undef
 | d+1,s=>
  match s with
  | .skip=> .skip
  | .ex k e=> .ex k e
  | .nilS=> .nilS
  | .nilP=> .nilP
  | .nilF=> .nilF
  | .rptr ks e i o=> .rptr ks e i o
  | .own l none=>match look h l with | some (.rows ks e)=> .ex (.row ks) e | _=> .undef
  | .own l (some (lo,m))=>match look h l with | some (.rows ks e)=> .ex (.row ks) (.tri .slice e lo m) | _=> .undef
  | .ptr l i o=>
   match look h l with
   | some (.box cs)=>if i.same i0 then .fbox (cs.map (frz n h d)) o else .undef
   | some (.rows ks e)=> .rptr ks e i o
   | _=> .undef
  | .fbox cs o=> .fbox (cs.map (frz n h d)) o
  | .agg l=> .agg (l.map (frz n h d))
  | .tup l=> .tup (l.map (frz n h d))
  | .fn f l=> .fn f (l.map (frz n h d))
  | .bfn f l=> .bfn f (l.map (frz n h d))
  | .alt c x y=>
   let x':=frz n h d x
   let y':=frz n h d y
   if x'.fits n 0&& y'.fits n 0 then .alt c x' y' else .undef
  | _=> .undef
def still (w:World):Env:={ old:=fun _=>False,lo:=w.heap.size,ys:=fun _=>none,pin:=fun _=>none }
theorem still_owned {w:World} {b:Nat}:¬Owned (still w) (fun _=>none) b:=by
 rintro(h | ⟨l,k,h,_⟩)
 · exact h
 · cases h
section
variable {X:Env} {W0:World} {φ:Names} {ρ:List PV} {σ:St} {fs:List Act} {w:World}
theorem frzs_sound {f:SV→SV} {X':Env} {φ':Names} {nx':Nat} (hf:∀s v,SVR w X φ ρ σ.nx s v→SVR w X' φ' ρ nx' (f s) v):∀ (l:List SV) (vs:List Value),SVRs w X φ ρ σ.nx l vs→SVRs w X' φ' ρ nx' (l.map f) vs
 | [],vs,h=>by simp only[SVRs,List.map_nil]at *;exact h
 | s::r,vs,h=>by
  simp only[SVRs,List.map_cons]at *
  obtain⟨v,vs',rfl,h1,h2⟩:=h
  exact⟨v,vs',rfl,hf s v h1,frzs_sound hf r vs' h2⟩
theorem frz_sound (h:Rel X W0 φ ρ σ fs w) {n:Nat} (hn:n≤ρ.length):∀ (d:Nat) (s:SV) (v:Value),SVR w X φ ρ σ.nx s v→SVR w (still w) (fun _=>none) ρ 0 (frz n σ.heap d s) v:=by
 intro d
 induction d with
 | zero=>intro s v _;simp[frz,SVR]
 | succ d ih=>
  intro s v hv
  have ihs:=frzs_sound (σ:=σ) ih
  have hO:∀b,Owned (still w) (fun _=>none) b→Owned X φ b:=fun b hb=>absurd hb still_owned
  cases s with
  | undef=>simp[frz,SVR]
  | skip=>simp only[frz,SVR]at *;exact hv
  | nilS=>simp only[frz,SVR]at *;exact hv
  | nilP=>simp only[frz,SVR]at *;exact hv
  | nilF=>simp only[frz,SVR]at *;exact hv
  | yld m=>simp[frz,SVR]
  | gd c s=>simp[frz,SVR]
  | mp l=>simp[frz,SVR]
  | mrow l e=>simp[frz,SVR]
  | mptr l e i o=>simp[frz,SVR]
  | ex k e=>
   simp only[frz,SVR]at *
   exact⟨hv.1,RV.mono (Nat.le_refl _) (fun b _ _=>⟨rfl,still_owned⟩) _ _ _ hv.2⟩
  | agg l=>simp only[frz,SVR]at *;obtain⟨cs,rfl,hl⟩:=hv;exact⟨cs,rfl,ihs l _ hl⟩
  | tup l=>simp only[frz,SVR]at *;obtain⟨cs,rfl,hl⟩:=hv;exact⟨cs,rfl,ihs l _ hl⟩
  | fn f l=>simp only[frz,SVR]at *;obtain⟨cs,rfl,hl⟩:=hv;exact⟨cs,rfl,ihs l _ hl⟩
  | bfn f l=>simp only[frz,SVR]at *;obtain⟨cs,rfl,hl⟩:=hv;exact⟨cs,rfl,ihs l _ hl⟩
  | fbox l o=>
   simp only[frz,SVR]at *
   obtain⟨g,vs,rfl,h1,h2,hl,h3⟩:=hv
   exact⟨g,vs,rfl,still_owned,h2,ihs l _ hl,h3⟩
  | alt c x y=>
   simp only[frz]
   split
   · rename_i hf
     simp only[Bool.and_eq_true]at hf
     simp only[SVR]at hv ⊢
     exact⟨hv.1,SV.fits_mono hn (Nat.le_refl _) _ hf.1,SV.fits_mono hn (Nat.le_refl _) _ hf.2,fun hc=>ih x v (hv.2.2.2.1 hc),fun hc=>ih y v (hv.2.2.2.2 hc)⟩
   · simp[SVR]
  | rptr ks e i o=>
   simp only[frz,SVR]at *
   obtain⟨h1,h2,xs,ad,h3,h4,h5⟩:=hv
   exact⟨h1,h2,xs,ad,h3,h4.monoC (Nat.le_refl _) (fun b _ _=>⟨fun _ _ h=>h,still_owned⟩),h5⟩
  | own l p=>
   cases p with
   | none=>
    simp only[frz]
    split
    · rename_i ks e hlk
      have:=h.leaf (k:= .row ks) (e:=e) hv (by simp only[St.leaf,hlk,LK.sames_self,if_true]) (U:=Owned (still w) (fun _=>none)) hO (fun _ _ _ _ _ _ _=>still_owned)
      simp only[SVR]
      exact this
    · simp[SVR]
   | some q=>
    obtain⟨lo,m⟩:=q
    simp only[frz]
    split
    · rename_i ks e hlk
      have:=h.leaf (k:= .row ks) (e:= .tri .slice e lo m) hv (by simp only[St.leaf,hlk,LK.sames_self,if_true]) (U:=Owned (still w) (fun _=>none)) hO (fun _ _ _ _ _ _ _=>still_owned)
      simp only[SVR]
      exact this
    · simp[SVR]
  | ptr l i o=>
   simp only[frz]
   simp only[SVR]at hv
   obtain⟨hi,hlt,_,hk⟩:=hv
   split
   · rename_i cs hlk
     split
     · rename_i hsame
       have:=Ex.same_eq _ _ hsame
       subst this
       obtain⟨k,hφ,ho⟩:=h.heap l _ hlk
       simp only[ObR]at ho
       obtain⟨hlen,g,c,hg,hc,hcs⟩:=ho
       obtain⟨g',hg',_,_,rfl⟩:=hk k hφ
       rw[hg]at hg'
       cases hg'
       simp only[SVR]
       refine⟨g,c.toList,by simp[i0,Ex.den,PV.i],still_owned,(Array.getElem?_eq_some_iff.1 hc).1,ihs cs _ hcs,fun j u hj=>?_⟩
       simp[World.cell?,hc]
       simpa using hj
     · simp[SVR]
   · rename_i ks e hlk
     obtain⟨k,hφ,ho⟩:=h.heap l _ hlk
     simp only[ObR]at ho
     obtain⟨hf,hs,xs,hx,hlen,hm⟩:=ho
     obtain⟨g,hg,h0,hlt',rfl⟩:=hk k hφ
     rw[hg]at hm
     obtain⟨c,hc,hrow⟩:=hm
     simp only[SVR]
     refine⟨hf,hi,xs,⟨g,0,none⟩,hx,⟨rfl,still_owned,(Array.getElem?_eq_some_iff.1 hc).1,fun j x hj=>⟨_,RVs.mono (Nat.le_refl _) (fun b _ _=>⟨rfl,still_owned⟩) _ _ _ (hrow j x hj),fun m u hu=>?_⟩⟩,h0,by omega,by rw[hs];simp⟩
     have hml:m < ks.length:=by have:=(List.getElem?_eq_some_iff.1 hu).1;simp at this;omega
     rw[List.getElem?_take_of_lt hml,List.getElem?_drop]at hu
     simp[World.cell?,hc]
     simpa using hu
   · simp[SVR]
end
def frD:Nat:=8
def reachN (h:List (Nat×Ob)):Nat→List Nat→List Nat
 | 0,ns=>ns
 | d+1,ns=>ns++reachN h d (ns.flatMap fun l=>match look h l with | some (.box cs)=>namesAll cs | _=> [])
def frRet (k : LK) (v : SV) (σ' : St) : T := match σ'.leaf k v with | some e => .ret [e] | none => .fail "look"
def retK (P:Program):SV→Option LK
 | .fn g _ | .bfn g _=>(P.funcs[g]?).bind fun fn=>match fn.resultTypes.toList with | [t]=>(match kindsOf P depthT t with | some [k]=>if k.isRow then none else some k | _=>none) | _=>none
 | .alt _ (.fn g _) _ | .alt _ (.bfn g _) _=>(P.funcs[g]?).bind fun fn=>match fn.resultTypes.toList with | [t]=>(match kindsOf P depthT t with | some [k]=>if k.isRow then none else some k | _=>none) | _=>none
 | _=>none
section
variable (P:Program) (sigs:Nat→Option Sig) (inl:Inl)
def frTree (n:Nat) (K:List (Ex×Bool)) (k:LK) (f:SV) (args:List SV):T:=
 let R0:St:={ nv:=n,jl:=0,nx:=0,known:=K,fr:= [],heap:= [] }
 match f with
 | .alt c x y=>mkIte c (callFn P sigs inl noY x args { R0 with known:=learn c true K } (frRet k)) (callFn P sigs inl noY y args { R0 with known:=learn c false K } (frRet k))
 | v=>callFn P sigs inl noY v args R0 (frRet k)
end
section
variable {ro:Option Nat} {P:Program} {sigs:Nat→Option Sig} {C:Nat→List PV→Option (List PV)} {N:Nat} {inl:Inl} {ρ:List PV} {ps:List PV} {w:World}
theorem callFn_still (hC:CallOk P sigs C) (hinl:InlOk P N C (still w) w inl) {K:List (Ex×Bool)} (hK:Facts ρ K) {k:LK} (hk:k.isRow=false) {v:SV} {args:List SV} {vs:List Value} {vf:Value} (hargs:SVRs w (still w) (fun _=>none) ρ 0 args vs) (hf:SVR w (still w) (fun _=>none) ρ 0 v vf)
    (hd:(callFn P sigs inl noY v args { nv:=ρ.length,jl:=0,nx:=0,known:=K,fr:= [],heap:= [] } (frRet k)).den N C ρ []=some ps) :
    ∃g as bs,enters P g=true∧vf= .func (.func g) as bs∧(as= #[]∨bs= #[])∧Calls P g (as.toList++vs++bs.toList).toArray w fun e w'=>∃u p,e= .returned u∧Below w.heap.size w w'∧ps=[p]∧∀W' U,RV W' U k p u:=by
 have hrel:Rel (still w) w (fun _=>none) ρ { nv:=ρ.length,jl:=0,nx:=0,known:=K,fr:= [],heap:= [] } [] w:=
  ⟨Below.refl _ _,⟨fun b hb=>hb.elim,rfl⟩,(fun l k g h=>by cases h),(fun l l' k k' g h=>by cases h),(fun l k h=>by cases h),rfl,hK,by simp only[FrsR];exact⟨trivial,fun b o hb=>by cases hb⟩,fun l o h=>by simp[look]at h⟩
 have fin:∀ {sv:SV} {σ':St} {φ':Names} {ρ':List PV} {J':List (List PV→Option (List PV))} {w':World} {u:Value},Rel (still w) w φ' ρ' σ' [] w'→SVR w' (still w) φ' ρ' σ'.nx sv u→(frRet k sv σ').den N C ρ' J'=some ps→Below w.heap.size w w'∧∃p,ps=[p]∧∀W' U,RV W' U k p u:=by
  intro sv σ' φ' ρ' J' w' u h1 h2 h3
  refine⟨h1.below,?_⟩
  unfold frRet at h3
  split at h3
  · rename_i e he
    simp only[T.den,List.map_cons,List.map_nil,Option.some.injEq]at h3
    have:=h1.leaf h2 he (U:=fun _=>False) (fun b hb=>hb.elim) (fun _ _ _ _ _ _ _ hb=>hb)
    exact⟨_,h3.symm,fun W' U=>RV.plain hk this.2⟩
  · simp[T.den]at h3
 have enter:∀ (g:Nat) (as:List SV) (us:List Value),enters P g=true→SVRs w (still w) (fun _=>none) ρ 0 as us→
     ((if(sigs g).isSome then closedCall sigs { nv:=ρ.length,jl:=0,nx:=0,known:=K,fr:= [],heap:= [] } g as (frRet k)else inl noY g as { nv:=ρ.length,jl:=0,nx:=0,known:=K,fr:= [],heap:= [] } (frRet k)).den N C ρ []=some ps)→
     Calls P g us.toArray w fun e w'=>∃u p,e= .returned u∧Below w.heap.size w w'∧ps=[p]∧∀W' U,RV W' U k p u:=by
  intro g as us hent hevs hd
  split at hd
  · refine(closedCall_sound hC hrel hevs hd).mono fun e w' hp=>?_
    obtain⟨v,rfl,φ',ρ',sv,σ',h1,h2,h3,h4,h5⟩:=hp
    obtain⟨q1,p,q2,q3⟩:=fin h2 h3 h4
    exact⟨v,p,rfl,q1,q2,q3⟩
  · refine(hinl noY g _ _ (frRet k) ps _ ρ [] [] w _ YlOk.no hrel hevs hent rfl hd).mono fun e w' hp=>?_
    obtain⟨v,rfl,φ',ρ',J',sv,σ',h1,h2,h3,h4,h5,h6⟩:=hp
    obtain⟨q1,p,q2,q3⟩:=fin h4 h5 h6
    exact⟨v,p,rfl,q1,q2,q3⟩
 unfold callFn at hd
 split at hd
 · rename_i g caps
   simp only[SVR]at hf
   obtain⟨cs,rfl,hcaps⟩:=hf
   split at hd
   · simp[T.den]at hd
   · rename_i hent
     have hent':enters P g=true:=by simpa using hent
     split at hd
     · split at hd
       · unfold sortCall at hd
         split at hd
         · simp[look,T.den]at hd
         · simp[T.den]at hd
       · simp[T.den]at hd
     · refine⟨g, #[],cs,hent',rfl,.inl rfl,?_⟩
       simpa using enter g _ _ hent' (hargs.append hcaps) hd
 · rename_i g fst
   simp only[SVR]at hf
   obtain⟨cs,rfl,hfst⟩:=hf
   split at hd
   · simp[T.den]at hd
   · rename_i hent
     have hent':enters P g=true:=by simpa using hent
     refine⟨g,cs, #[],hent',rfl,.inr rfl,?_⟩
     simpa using enter g _ _ hent' (hfst.append hargs) hd
 · simp[T.den]at hd
theorem frTree_sound (hC:CallOk P sigs C) (hinl:InlOk P N C (still w) w inl) {K:List (Ex×Bool)} (hK:Facts ρ K) {k:LK} (hk:k.isRow=false) {v:SV} {args:List SV} {vs:List Value} {vf:Value} (hargs:SVRs w (still w) (fun _=>none) ρ 0 args vs) (hf:SVR w (still w) (fun _=>none) ρ 0 v vf)
    (hd:(frTree P sigs inl ρ.length K k v args).den N C ρ []=some ps) :
    ∃g as bs,enters P g=true∧vf= .func (.func g) as bs∧(as= #[]∨bs= #[])∧Calls P g (as.toList++vs++bs.toList).toArray w fun e w'=>∃u p,e= .returned u∧Below w.heap.size w w'∧ps=[p]∧∀W' U,RV W' U k p u:=by
 unfold frTree at hd
 simp only at hd
 split at hd
 · rename_i c x y
   simp only[SVR]at hf
   obtain⟨fc,_,_,hx,hy⟩:=hf
   rw[mkIte_den]at hd
   split at hd
   · rename_i hb
     exact callFn_still hC hinl (learn_sound c true K hK fc hb) hk hargs (hx hb) hd
   · rename_i hb
     have hb':(c.den ρ).b=false:=by simpa using hb
     exact callFn_still hC hinl (learn_sound c false K hK fc hb') hk hargs (hy hb') hd
 · exact callFn_still hC hinl hK hk hargs hf hd
end
end Go.Proofs.YtckjdlmfibjpaaaGreat.Sx
set_option linter.unusedVariables false
set_option linter.unusedSimpArgs false
namespace Go.Proofs.YtckjdlmfibjpaaaGreat.Sx
open Go.RowKit
structure Rec where
 dst:Option Nat
 use:List Nat
 need:List Nat
 sv:SV
 eff:Bool
 touched:List Nat
 neu:Option (Nat×Ob):=none
def useOf (ops:Array Oper) (o:Oper):List Nat:=opUses o++(match o.guard with | some (j,_)=>(dstOf ops j).toList | none=> [])
def St.top (σ:St):List (Nat×SV):=match σ.fr with | f::_=>f | []=> []
def cutFr (f:List (Nat×SV)) (use:List Nat):List (Nat×SV):=use.filterMap fun t=>(look f t).map fun s=>(t,s)
def needOf (f:List (Nat×SV)):List Nat:=f.flatMap fun x=>x.2.names
def keep (h:List (Nat×Ob)) (ns:List Nat):List (Nat×Ob):=h.filter fun x=>ns.contains x.1
def St.restr (σ:St) (use:List Nat) (all:Bool):St:=
 { σ with fr:=cutFr σ.top use::σ.fr.tail,heap:=if all then σ.heap else keep σ.heap (needOf (cutFr σ.top use)) }
section
variable (P:Program) (sigs:Nat→Option Sig) (inl:Inl) (ops:Array Oper)
def recOf (o:Oper) (σ:St) (v:SV):Rec:={ dst:=o.dst,use:=useOf ops o,need:=needOf (cutFr σ.top (useOf ops o)),sv:=v,eff:=false,touched:= [] }
def drCall (o:Oper) (σ:St) (g:Nat) (args:St→List SV) (k:Rec→St→T):T:=
 let R:=σ.restr (useOf ops o) false
 if !enters P g then .fail "enter" else
 match sigs g with
 | none => .fail "inlined in open order"
 | some sg=>
  let x:=resSV sg.rs σ.nv σ.nx
  if quiet sg.rs (args R)then
   match argLeaves R sg.ps (args R)with
   | some es => if es.all (·.fits σ.nv) then .call g es x.2.2 (k (recOf ops o σ (oneOf x.1)) ({ σ with nv := σ.nv + x.2.2 }.put o.dst (oneOf x.1))) else .fail "fits"
   | none => .fail "2"
  else
   let R':=σ.restr (useOf ops o) true
   match argLeaves R' sg.ps (args R')with
   | some es=>
    if es.all (·.fits σ.nv)then
     .call g es x.2.2 (k { recOf ops o σ (oneOf x.1)with eff:=true,touched:=x.2.1.map (·.1)++ownNames (args R') }
      ({ σ with nv:=σ.nv+x.2.2,nx:=σ.nx+x.2.1.length,heap:=x.2.1++(if sg.rs.any Sh.frozen then dels σ.heap (ownNames (args R'))else σ.heap) }.put o.dst (oneOf x.1)))
    else .fail "fits"
   | none => .fail "2"
def drPure (o:Oper) (σ:St) (k:Rec→St→T):T:=
 let R:=σ.restr (useOf ops o) false
 match simple P R o.op with
 | some (gs, v, _) => if gs.all (·.fits σ.nv) then guards gs σ fun σ' => k (recOf ops o σ v) (σ'.put o.dst v) else .fail "fits"
 | none=>
  match o.op with
  | .pick x a b=>
   match R.ev x with
   | .ex .bool e=>
    if e.fits σ.nv then
     mkIte e (k (recOf ops o σ ({ R with known:=learn e true σ.known }.ev a)) ({ σ with known:=learn e true σ.known }.put o.dst ({ R with known:=learn e true σ.known }.ev a)))
      (k (recOf ops o σ ({ R with known:=learn e false σ.known }.ev b)) ({ σ with known:=learn e false σ.known }.put o.dst ({ R with known:=learn e false σ.known }.ev b)))
    else .fail "fits"
   | _ => .fail "pick"
  | _ => .fail ("op " ++ opName o.op)
def drHeavy (o:Oper) (σ:St) (k:Rec→St→T):T:=
 let R:=σ.restr (useOf ops o) true
 match simple P R o.op with
 | some (gs, v, σ2) => if gs.all (·.fits σ.nv) && decide (σ.nx ≤ σ2.nx) then guards gs { σ with nx := σ2.nx, heap := σ2.heap } fun σ' => k { recOf ops o σ v with eff := true, touched := touchOf R o.op } (σ'.put o.dst v) else .fail "fits"
 | none => .fail ("op " ++ opName o.op)
def drFrozen (o:Oper) (σ:St) (k:Rec→St→T):T:=
 let R:=σ.restr (useOf ops o) false
 match simple P R o.op with
 | some (gs,_,σ2)=>
  match σ2.heap with
  | (_, .rows ks e) :: _ => if gs.all (·.fits σ.nv) && e.fits σ.nv then guards gs σ fun σ' => k (recOf ops o σ (.ex (.row ks) e)) (σ'.put o.dst (.ex (.row ks) e)) else .fail "fits"
  | _ => .fail "frozen"
 | none => .fail ("op " ++ opName o.op)
def drMake (o:Oper) (σ:St) (k:Rec→St→T):T:=
 let R:=σ.restr (useOf ops o) false
 match simple P R o.op with
 | some (gs,_,σ2)=>
  match σ2.heap with
  | (_,.rows ks e)::_=>
   if gs.all (·.fits σ.nv) then guards gs { σ with nx := σ.nx + 1, heap := (σ.nx, .rows ks e) :: σ.heap } fun σ' => k { recOf ops o σ (.own σ.nx none) with eff := true, touched := [σ.nx], neu := some (σ.nx, .rows ks e) } (σ'.put o.dst (.own σ.nx none)) else .fail "fits"
  | _ => .fail "made"
 | none => .fail ("op " ++ opName o.op)
def drIn (o:Oper) (σ:St) (f:Operand) (args:List Operand) (k:Rec→St→T):T:=
 let need:=reachN σ.heap frD (needOf (cutFr σ.top (useOf ops o)))
 let R:St:={ σ.restr (useOf ops o) false with heap:=keep σ.heap need }
 match retK P (R.ev f)with
 | none => .fail "look"
 | some kk=>
  let v:=frz σ.nv R.heap frD (R.ev f)
  let as:=args.map fun x=>frz σ.nv R.heap frD (R.ev x)
  if kk.isRow || !(fitsAll σ.nv 0 (v :: as)) then .fail "fits" else
  .seq (frTree P sigs inl σ.nv σ.known kk v as) 1 (k { recOf ops o σ (.ex kk (.var σ.nv))with need:=need } ({ σ with nv:=σ.nv+1 }.put o.dst (.ex kk (.var σ.nv))))
def makesRow:Op→Bool
 | .buildSlice .. | .makeSlice ..=>true
 | _=>false
def keptRow (o:Oper):Bool:=
 match o.dst with
 | some d=>ops.toList.all fun p=>match p.op with | .move _ | .assign _=>true | _=>!(opUses p).contains d
 | none=>false
def drOp (fz:Bool) (o:Oper) (σ:St) (k:Rec→St→T):T:=
 match o.op with
 | .call { callee:= .value f,args,.. } =>
  match(σ.restr (useOf ops o) false).ev f with
  | .fn g caps=>if(sigs g).isSome then drCall P sigs ops o σ g (fun R=>args.toList.map R.ev++caps) k else drIn P sigs inl ops o σ f args.toList k
  | _=>drIn P sigs inl ops o σ f args.toList k
 | _=>if pureOp o.op then drPure P ops o σ k else if fz&& makesRow o.op then(if keptRow ops o then drMake P ops o σ k else drFrozen P ops o σ k)else drHeavy P ops o σ k
def drStep (fz:Bool) (o:Oper) (σ:St) (k:Rec→St→T):T:=
 match o.guard with
 | none=>drOp P sigs inl ops fz o σ k
 | some (j,want)=>
  let R:=σ.restr (useOf ops o) false
  match condOf R ops j want with
  | none => .fail "4"
  | some c=>
   if c.fits σ.nv then
    match σ.knownAs c with
    | some true=>drOp P sigs inl ops fz o σ k
    | some false=>k (recOf ops o σ .skip) (σ.put o.dst .skip)
    | none=>
     match if pureOp o.op then(simple P { R with known:=learn c true σ.known } o.op).filter (fun x=>x.1.all (·.fits σ.nv)&& x.2.1.fits σ.nv σ.nx&& x.2.1.names.all fun l=>(needOf (cutFr σ.top (useOf ops o))).contains l)else none with
     | some (gs,v,_)=>asks (gs.map fun g=> .mk2 .or (ncond c) g) σ (k (recOf ops o σ (.gd c v)) (σ.put o.dst (.gd c v)))
     | none=>
      mkIte c (drOp P sigs inl ops fz o { σ with known:=learn c true σ.known } k)
       (k (recOf ops o σ .skip) ({ σ with known:=learn c false σ.known }.put o.dst .skip))
   else .fail "fits"
def drOps (fz:Nat→Bool):List Oper→St→List Rec→(List Rec→St→T)→T
 | [],σ,acc,k=>k acc σ
 | o::r,σ,acc,k=>drStep P sigs inl ops (fz acc.length) o σ fun rc σ'=>drOps fz r σ' (acc++ [rc]) k
end
def mask (tab:List Nat) (o:Oper):Nat:=o.after.toList.foldl (fun s e=>if Region.binds .any e then s ||| 2 ^ e.on ||| tab.getD e.on 0 else s) 0
def tabGo:List Oper→List Nat→List Nat
 | [],acc=>acc
 | o::r,acc=>tabGo r (acc++ [mask acc o])
def tabOk (tab:List Nat):List Oper→Nat→Bool
 | [],_=>true
 | o::r,j=>tab.getD j 0 == mask tab o&& (o.after.toList.all fun e=>!Region.binds .any e|| e.on < j)&& tabOk tab r (j+1)
def apart1 (x y:Rec):Bool:=
 (x.dst.all fun d=>!y.use.contains d&& y.dst != some d)&& (y.dst.all fun d=>!x.use.contains d)&& (!(x.eff&& y.eff)|| (x.neu.isSome&& y.neu.isSome))&& (!x.eff|| x.touched.all fun l=>!y.need.contains l)&& (!y.eff|| y.touched.all fun l=>!x.need.contains l)
def late (y x:Rec):Bool:=y.neu.all fun m=>!x.sv.names.contains m.1
def apart2 (x y:Rec):Bool:=apart1 x y&& (late x y&& late y x)
def apartFrom (tab:List Nat) (i:Nat) (x:Rec):List Rec→Nat→Bool
 | [],_=>true
 | y::r,j=>((tab.getD j 0).testBit i|| apart2 x y)&& late y x&& apartFrom tab i x r (j+1)
def apartAll (tab:List Nat):List Rec→Nat→Bool
 | [],_=>true
 | x::r,i=>apartFrom tab i x r (i+1)&& apartAll tab r (i+1)
def changes (o:Oper):Bool:=match o.op with
 | .call { callee:= .value _,.. } =>false
 | op=>!pureOp op
def openTo (tab:List Nat) (i:Nat):List Oper→Nat→Bool
 | [],_=>false
 | o::r,j=>(i != j&& changes o&& !(tab.getD j 0).testBit i&& !(tab.getD i 0).testBit j)|| openTo tab i r (j+1)
def sxDrawn (P:Program) (sigs:Nat→Option Sig) (inl:Inl) (ops:Array Oper) (σ:St) (k:St→T):T:=
 let tab:=tabGo ops.toList []
 if tabOk tab ops.toList 0 then drOps P sigs inl ops (fun i => openTo tab i ops.toList 0) ops.toList σ [] fun rs σ' => if apartAll tab rs 0 then k σ' else .fail "order" else .fail "edges"
theorem apartFrom_spec {tab:List Nat} {i:Nat} {x:Rec}:∀ {l:List Rec} {j0 j:Nat} {y:Rec},apartFrom tab i x l j0=true→l[j]? =some y→((tab.getD (j0+j) 0).testBit i=true∨apart2 x y=true)∧late y x=true
 | z::r,j0,0,y,h,hy=>by
  simp only[apartFrom,Bool.and_eq_true,Bool.or_eq_true]at h
  simp only[List.getElem?_cons_zero,Option.some.injEq]at hy
  subst hy
  exact h.1
 | z::r,j0,j+1,y,h,hy=>by
  simp only[apartFrom,Bool.and_eq_true]at h
  have:=apartFrom_spec h.2 (j:=j) (by simpa using hy)
  rwa [show j0+1+j=j0+(j+1)by omega]at this
 | [],_,_,_,_,hy=>by simp at hy
theorem apartAll_spec {tab:List Nat}:∀ {l:List Rec} {i0 i j:Nat} {x y:Rec},apartAll tab l i0=true→l[i]? =some x→l[j]? =some y→i < j→((tab.getD (i0+j) 0).testBit (i0+i)=true∨apart2 x y=true)∧late y x=true
 | z::r,i0,0,j+1,x,y,h,hx,hy,_=>by
  simp only[apartAll,Bool.and_eq_true]at h
  simp only[List.getElem?_cons_zero,Option.some.injEq]at hx
  subst hx
  have:=apartFrom_spec h.1 (j:=j) (by simpa using hy)
  rwa [show i0+1+j=i0+(j+1)by omega]at this
 | z::r,i0,i+1,j+1,x,y,h,hx,hy,hij=>by
  simp only[apartAll,Bool.and_eq_true]at h
  have:=apartAll_spec (i:=i) (j:=j) h.2 (by simpa using hx) (by simpa using hy) (by omega)
  rwa [show i0+1+j=i0+(j+1)by omega,show i0+1+i=i0+(i+1)by omega]at this
 | [],_,_,_,_,_,_,hx,_,_=>by simp at hx
theorem tabOk_spec {tab:List Nat}:∀ {l:List Oper} {j0 j:Nat} {o:Oper},tabOk tab l j0=true→l[j]? =some o→tab.getD (j0+j) 0=mask tab o∧∀e∈o.after.toList,Region.binds .any e=true→e.on < j0+j
 | z::r,j0,0,o,h,ho=>by
  simp only[tabOk,Bool.and_eq_true,beq_iff_eq,List.all_eq_true,Bool.or_eq_true,Bool.not_eq_true',decide_eq_true_eq]at h
  simp only[List.getElem?_cons_zero,Option.some.injEq]at ho
  subst ho
  exact⟨h.1.1,fun e he hb=>(h.1.2 e he).resolve_left (by rw[hb];simp)⟩
 | z::r,j0,j+1,o,h,ho=>by
  simp only[tabOk,Bool.and_eq_true]at h
  have:=tabOk_spec (j:=j) h.2 (by simpa using ho)
  rwa [show j0+1+j=j0+(j+1)by omega]at this
 | [],_,_,_,_,ho=>by simp at ho
theorem mask_bit {tab:List Nat} {i:Nat}:∀ (l:List Edge) (s:Nat),(l.foldl (fun s e=>if Region.binds .any e then s ||| 2 ^ e.on ||| tab.getD e.on 0 else s) s).testBit i=true→
    s.testBit i=true∨∃e∈l,Region.binds .any e=true∧(e.on=i∨(tab.getD e.on 0).testBit i=true)
 | [],s,h=> .inl h
 | e :: l,s,h=>by
  rcases mask_bit l _ h with h | ⟨e',he,h⟩
  · replace h:(if Region.binds .any e then s ||| 2 ^ e.on ||| tab.getD e.on 0 else s).testBit i=true:=h
    split at h
    · rename_i hb
      simp only[Nat.testBit_or,Bool.or_eq_true]at h
      rcases h with(h | h) | h
      · exact .inl h
      · rw[Nat.testBit_two_pow]at h
        exact .inr ⟨e,by simp,hb,.inl (by simpa using h)⟩
      · exact .inr ⟨e,by simp,hb,.inr h⟩
    · exact .inl h
  · exact .inr ⟨e',by simp[he],h⟩
theorem tab_ahead {tab:List Nat} {l:List Oper} (ht:tabOk tab l 0=true) {S:Nat→Prop} (hS:∀j o,l[j]? =some o→S j→∀e∈o.after.toList,Region.binds .any e=true→S e.on) :
    ∀ (n j i:Nat) (o:Oper),j < n→l[j]? =some o→(∀e∈o.after.toList,Region.binds .any e=true→S e.on)→(tab.getD j 0).testBit i=true→S i:=by
 intro n
 induction n with
 | zero=>intro j i o h;omega
 | succ n ih=>
  intro j i o hjn ho he hb
  obtain⟨h1,h2⟩:=tabOk_spec ht ho
  rw[Nat.zero_add]at h1 h2
  rw[h1]at hb
  rcases mask_bit o.after.toList 0 hb with h | ⟨e,hm,hbd,h⟩
  · rw[Nat.zero_testBit]at h;cases h
  · rcases h with rfl | h
    · exact he e hm hbd
    · have hlt:=h2 e hm hbd
      have hj:j < l.length:=(List.getElem?_eq_some_iff.1 ho).1
      have ho':l[e.on]? =some l[e.on]:=List.getElem?_eq_getElem (by omega)
      exact ih e.on i _ (by omega) ho' (hS _ _ ho' (he e hm hbd)) h
end Go.Proofs.YtckjdlmfibjpaaaGreat.Sx
set_option linter.unusedVariables false
set_option linter.unusedSimpArgs false
namespace Go.Proofs.YtckjdlmfibjpaaaGreat.Sx
open Go.RowKit
theorem put_heap (σ:St) (d:Option Nat) (v:SV):(σ.put d v).heap=σ.heap:=by unfold St.put;split <;> rfl
theorem put_nx (σ:St) (d:Option Nat) (v:SV):(σ.put d v).nx=σ.nx:=by unfold St.put;split <;> rfl
theorem put_nv (σ:St) (d:Option Nat) (v:SV):(σ.put d v).nv=σ.nv:=by unfold St.put;split <;> rfl
theorem put_jl (σ:St) (d:Option Nat) (v:SV):(σ.put d v).jl=σ.jl:=by unfold St.put;split <;> rfl
theorem put_known (σ:St) (d:Option Nat) (v:SV):(σ.put d v).known=σ.known:=by unfold St.put;split <;> rfl
theorem put_fr {σ σ':St} (h:σ.fr=σ'.fr) (d:Option Nat) (v:SV):(σ.put d v).fr=(σ'.put d v).fr:=by
 unfold St.put
 rw[h]
 cases d with
 | none=>exact h
 | some t=>cases hf:σ'.fr <;> simp[h,hf]
theorem put_fr' (σ:St) (n j m:Nat) (K:List (Ex×Bool)) (h:List (Nat×Ob)) (d:Option Nat) (v:SV):(St.put ⟨n,j,m,K,σ.fr,h⟩ d v).fr=(σ.put d v).fr:=put_fr (σ:=⟨n,j,m,K,σ.fr,h⟩) (σ':=σ) rfl d v
theorem ev_eq {σ σ':St} (h1:σ.fr=σ'.fr) (h2:σ.known=σ'.known):σ.ev=σ'.ev:=by
 funext x
 cases x <;> simp only[St.ev,St.tmp,h1,h2]
theorem argLeaves_eq {σ σ':St} (h:σ.leaf=σ'.leaf):∀ (sh:List Sh) (l:List SV),argLeaves σ sh l=argLeaves σ' sh l
 | [],[]=>rfl
 | .leaf k::r,v::s=>by simp only[argLeaves,h,argLeaves_eq h r s]
 | .agg ks::r,.agg l::s=>by simp only[argLeaves,h,argLeaves_eq h r s]
 | [],_::_=>rfl
 | .leaf _::_,[]=>rfl
 | .agg _::_,[]=>rfl
 | .own _::_,[]=>rfl
 | .own _::_,_::_=>rfl
 | .agg ks::r,v::s=>by cases v <;> simp only[argLeaves,h,argLeaves_eq h r s]
theorem condOf_fr {σ σ':St} (h:σ.fr=σ'.fr) (ops:Array Oper) (j:Nat) (want:Bool):condOf σ ops j want=condOf σ' ops j want:=by
 unfold condOf St.tmp
 rw[h]
theorem Facts.ext {ρ ρ':List PV} {K:List (Ex×Bool)} (h:Facts ρ K) (hp:ρ <+:ρ'):Facts ρ' K:=fun c b hc=>by
 obtain⟨h1,h2⟩:=h c b hc
 exact⟨Ex.fits_mono hp.length_le c h1,by rw[Ex.den_ext hp c h1];exact h2⟩
abbrev Wps:=(Act→World→Prop)→(Exit→Act→World→Prop)→Act→World→Prop
def wpX (ro:Option Nat) (P:Program) (o:Oper):Wps:=fun K Q a w=>o.wpIn (Fr ro) 0 P a w K Q
def wpO (ro:Option Nat) (P:Program) (ops:Array Oper) (o:Oper):Wps:=fun K Q a w=>if Region.wanted o (yielded ops a.tmps)then o.wpIn (Fr ro) 0 P a w K Q else K (a.put o.dst undef) w
section
variable (Wp:Wps) (ops:Array Oper) (X:Env) (W0:World) (ρ:List PV) (fs:List Act) (o:Oper) (rc:Rec) (σ σ1:St)
def FloatOk:Prop:=∀φ nx a w K Q,Rel X W0 φ ρ ⟨ρ.length,0,nx,[],cutFr σ.top rc.use::σ.fr.tail,keep σ.heap rc.need⟩ (a::fs) w→
 (∀v w',Below w.heap.size w w'→SVR w' X φ ρ nx rc.sv v→K (a.put o.dst v) w')→Wp K Q a w
def HeavyOk:Prop:=∀φ a w K Q,Rel X W0 φ ρ ⟨ρ.length,0,σ.nx,[],cutFr σ.top rc.use::σ.fr.tail,σ.heap⟩ (a::fs) w→
 (∀φ' v w',σ.nx≤σ1.nx→Evo X φ φ' σ.nx w w'→Rel X W0 φ' ρ ⟨ρ.length,0,σ1.nx,[],cutFr σ.top rc.use::σ.fr.tail,σ1.heap⟩ (a::fs) w'→SVR w' X φ' ρ σ1.nx rc.sv v→K (a.put o.dst v) w')→Wp K Q a w
def MakeOk (m:Nat) (ob:Ob):Prop:=∀φ nx a w K Q,Rel X W0 φ ρ ⟨ρ.length,0,nx,[],cutFr σ.top rc.use::σ.fr.tail,keep σ.heap rc.need⟩ (a::fs) w→
 (∀φ' v w' k,Evo X φ φ' nx w w'→Below w.heap.size w w'→(∀l,l≠nx→φ' l=φ l)→φ' nx=some k→(∀g,k.has g→w.heap.size≤g∧g < w'.heap.size)→ObR w' X φ' ρ (nx+1) k ob→SVR w' X φ' ρ (nx+1) (.own nx none) v→K (a.put o.dst v) w')→Wp K Q a w
structure StepOk:Prop where
 dst:rc.dst=o.dst
 use:rc.use=useOf ops o
 fr:σ1.fr=(σ.put o.dst rc.sv).fr
 nx:σ.nx≤σ1.nx
 float:rc.eff=false→σ1.heap=σ.heap∧σ1.nx=σ.nx∧FloatOk Wp X W0 ρ fs o rc σ
 touch:rc.eff=true→∀l,l∉rc.touched→look σ1.heap l=look σ.heap l
 heavy:rc.eff=true→rc.neu=none→HeavyOk Wp X W0 ρ fs o rc σ σ1
 make:∀m ob,rc.neu=some (m,ob)→rc.eff=true∧m=σ.nx∧(∃ks e,ob= .rows ks e)∧σ1.nx=σ.nx+1∧σ1.heap=(m,ob)::σ.heap∧rc.touched=[m]∧rc.sv= .own m none∧MakeOk Wp X W0 ρ fs o rc σ m ob
variable {Wp:Wps} {ops:Array Oper} {X:Env} {W0:World} {ρ:List PV} {fs:List Act} {o:Oper} {rc:Rec} {σ σ1:St}
theorem StepOk.ofFloat (h1:rc.dst=o.dst) (h2:rc.use=useOf ops o) (h3:σ1.fr=(σ.put o.dst rc.sv).fr) (h4:rc.eff=false) (h5:rc.neu=none) (h6:σ1.heap=σ.heap) (h7:σ1.nx=σ.nx) (h8:FloatOk Wp X W0 ρ fs o rc σ):StepOk Wp ops X W0 ρ fs o rc σ σ1:=
 ⟨h1,h2,h3,by omega,fun _=>⟨h6,h7,h8⟩,(fun h=>by rw[h4]at h;cases h),(fun h=>by rw[h4]at h;cases h),fun m ob h=>by rw[h5]at h;cases h⟩
theorem StepOk.ofHeavy (h1:rc.dst=o.dst) (h2:rc.use=useOf ops o) (h3:σ1.fr=(σ.put o.dst rc.sv).fr) (h4:rc.eff=true) (h5:rc.neu=none) (h6:σ.nx≤σ1.nx) (h7:∀l,l∉rc.touched→look σ1.heap l=look σ.heap l) (h8:HeavyOk Wp X W0 ρ fs o rc σ σ1):StepOk Wp ops X W0 ρ fs o rc σ σ1:=
 ⟨h1,h2,h3,h6,(fun h=>by rw[h4]at h;cases h),fun _=>h7,fun _ _=>h8,fun m ob h=>by rw[h5]at h;cases h⟩
end
def Stepped (P:Program) (N:Nat) (C:Nat→List PV→Option (List PV)) (Wp:Wps) (ops:Array Oper) (o:Oper) (ρ:List PV) (J:List (List PV→Option (List PV))) (r:List PV) (σ:St) (k:Rec→St→T):Prop:=
 ∃ρ1 rc σ1,ρ <+:ρ1∧Facts ρ1 σ1.known∧σ1.nv=ρ1.length∧σ1.jl=σ.jl∧(∀ρF,ρ1 <+:ρF→∀X W0 fs,StepOk Wp ops X W0 ρF fs o rc σ σ1)∧(k rc σ1).den N C ρ1 J=some r
section
variable {ro:Option Nat} {P:Program} {sigs:Nat→Option Sig} {C:Nat→List PV→Option (List PV)} {N:Nat} {X:Env} {W0:World} {φ:Names} {ρ:List PV} {J:List (List PV→Option (List PV))} {r:List PV} {σ:St} {a:Act} {fs:List Act} {w:World} {nx:Nat} {ops:Array Oper} {o:Oper} {k:Rec→St→T}
theorem drPure_sound (hf:Facts ρ σ.known) (hnv:σ.nv=ρ.length) (hp:pureOp o.op=true) (hd:(drPure P ops o σ k).den N C ρ J=some r):Stepped P N C (wpX ro P o) ops o ρ J r σ k:=by
 simp only[drPure]at hd
 split at hd
 · rename_i gs v σ2 hs
   split at hd
   · rename_i hfit
     rw[List.all_eq_true,hnv]at hfit
     obtain⟨hb,K,hK,hd'⟩:=guards_den gs σ hf hfit hd
     refine⟨ρ,recOf ops o σ v,({ σ with known:=K }:St).put o.dst v,List.prefix_refl _,by rw[put_known];exact hK,by rw[put_nv];exact hnv,by rw[put_jl],fun ρF hρ X W0 fs=> .ofFloat rfl rfl (put_fr' σ _ _ _ _ _ _ _) rfl rfl (by rw[put_heap]) (by rw[put_nx]) ?_,hd'⟩
     intro φ nx a w K' Q h hk
     have h':Rel X W0 φ ρF ((σ.restr (useOf ops o) false).at ρF.length nx) (a::fs) w:=(h.withKnown (hf.ext hρ)).withJl σ.jl
     have hs':=simple_at_pure P (σ.restr (useOf ops o) false) ρF.length nx o.op hp
     rw[hs]at hs'
     obtain⟨_,_,hmain⟩:=pure_sound h' hp hs'
     obtain⟨u,hr,hu⟩:=hmain fun g hg=>by rw[Ex.den_ext hρ g (hfit g hg)];exact hb g hg
     unfold wpX
     refine wpr_value (pure_nodefer hp) hr ?_
     exact hk u w (Below.refl _ _) hu
   · simp[T.den]at hd
 · split at hd
   · rename_i x y z hop
     split at hd
     · rename_i e he
       split at hd
       · rename_i hfe
         rw[hnv]at hfe
         rw[mkIte_den]at hd
         have main:∀ (b:Bool) (u:Operand),(e.den ρ).b=b→u=(if b=true then y else z)→(k (recOf ops o σ ({ σ.restr (useOf ops o) false with known:=learn e b σ.known }.ev u)) ({ σ with known:=learn e b σ.known }.put o.dst ({ σ.restr (useOf ops o) false with known:=learn e b σ.known }.ev u))).den N C ρ J=some r→Stepped P N C (wpX ro P o) ops o ρ J r σ k:=by
          intro b u hb hu hd'
          have hL:Facts ρ (learn e b σ.known):=learn_sound e b σ.known hf hfe hb
          refine⟨ρ,_,({ σ with known:=learn e b σ.known }:St).put o.dst _,List.prefix_refl _,by rw[put_known];exact hL,by rw[put_nv];exact hnv,by rw[put_jl],fun ρF hρ X W0 fs=> .ofFloat rfl rfl (put_fr' σ _ _ _ _ _ _ _) rfl rfl (by rw[put_heap]) (by rw[put_nx]) ?_,hd'⟩
          intro φ nx a w K' Q h hk
          have hx:=(h.withKnown (hf.ext hρ)).ev x
          have hxe:({ (⟨ρF.length,0,nx,[],cutFr σ.top (useOf ops o)::σ.fr.tail,keep σ.heap (needOf (cutFr σ.top (useOf ops o)))⟩:St)with known:=σ.known }:St).ev x= .ex .bool e:=by rw[←he];exact congrFun (ev_eq rfl rfl) x
          have hx':SVR w X φ ρF nx (.ex .bool e) (a.eval x):=by rw[←hxe];exact hx
          obtain⟨fe,b',de,hv⟩:=svr_bool hx'
          have hbb:b'=b:=by
           have h1:(e.den ρF).b=b:=by rw[Ex.den_ext hρ e hfe];exact hb
           rw[de]at h1
           exact h1
          have hrun:(execOp a.eval o).run P w= .ok (.value (if b=true then a.eval y else a.eval z)) w:=by
           unfold execOp
           rw[hop]
           simp[hv,asBool,hbb]
          unfold wpX
          refine wpr_value (by rw[hop];intro c hc;cases hc) hrun ?_
          have hu':=(h.withKnown (hL.ext hρ)).ev u
          refine hk _ w (Below.refl _ _) ?_
          have hev:({ (⟨ρF.length,0,nx,[],cutFr σ.top (useOf ops o)::σ.fr.tail,keep σ.heap (needOf (cutFr σ.top (useOf ops o)))⟩:St)with known:=learn e b σ.known }:St).ev u=({ σ.restr (useOf ops o) false with known:=learn e b σ.known }:St).ev u:=congrFun (ev_eq rfl rfl) u
          show SVR w X φ ρF nx (({ σ.restr (useOf ops o) false with known:=learn e b σ.known }:St).ev u) (if b=true then a.eval y else a.eval z)
          rw[←hev,show(if b=true then a.eval y else a.eval z)=a.eval u by rw[hu];split <;> rfl]
          exact hu'
         cases hb:(e.den ρ).b with
         | true=>rw[if_pos hb]at hd;exact main true y hb rfl hd
         | false=>rw[if_neg (by rw[hb];simp)]at hd;exact main false z hb rfl hd
       · simp[T.den]at hd
     · simp[T.den]at hd
   · simp[T.den]at hd
theorem drHeavy_sound (hf:Facts ρ σ.known) (hnv:σ.nv=ρ.length) (hp:pureOp o.op=false) (hd:(drHeavy P ops o σ k).den N C ρ J=some r) (hN:∀f args ts,o.op≠ .call { callee:= .value f,args,argTypes:=ts }):Stepped P N C (wpX ro P o) ops o ρ J r σ k:=by
 simp only[drHeavy]at hd
 split at hd
 · rename_i gs v σ2 hs
   split at hd
   · rename_i hfit
     simp only[Bool.and_eq_true,decide_eq_true_eq]at hfit
     obtain⟨hfit,hxle⟩:=hfit
     rw[List.all_eq_true,hnv]at hfit
     obtain⟨hb,K,hK,hd'⟩:=guards_den gs { σ with nx:=σ2.nx,heap:=σ2.heap } hf hfit hd
     refine⟨ρ,{ recOf ops o σ v with eff:=true,touched:=touchOf (σ.restr (useOf ops o) true) o.op },({ σ with nx:=σ2.nx,heap:=σ2.heap,known:=K }:St).put o.dst v,List.prefix_refl _,by rw[put_known];exact hK,by rw[put_nv];exact hnv,by rw[put_jl],fun ρF hρ X W0 fs=>?_,hd'⟩
     have hs':=simple_nv P (σ.restr (useOf ops o) true) ρF.length o.op
     rw[hs]at hs'
     refine .ofHeavy rfl rfl (put_fr' σ _ _ _ _ _ _ _) rfl rfl (by rw[put_nx];exact hxle) (fun l hl=>?_) ?_
     · rw[put_heap]
       exact simple_touch hp hs hl
     · intro φ a w K' Q h hk
       have h':Rel X W0 φ ρF ((σ.restr (useOf ops o) true).at ρF.length (σ.restr (useOf ops o) true).nx) (a::fs) w:=(h.withKnown (hf.ext hρ)).withJl σ.jl
       obtain⟨_,⟨l1,l2,l3,l4⟩,hnx,hmain⟩:=simple_sound h' hs'
       obtain⟨φ',u,w',hran,hrel,hsv,hev⟩:=hmain fun g hg=>by rw[Ex.den_ext hρ g (hfit g hg)];exact hb g hg
       have hrel':Rel X W0 φ' ρF ⟨ρF.length,0,σ2.nx,[],cutFr σ.top (useOf ops o)::σ.fr.tail,σ2.heap⟩ (a::fs) w':=by
        have l4':σ2.fr=cutFr σ.top (useOf ops o)::σ.fr.tail:=l4
        have:=(hrel.withKnown (K:= []) (fun c b hc=>by cases hc)).withJl 0
        rw[←l4']
        exact this
       have:=hk φ' u w' (by rw[put_nx];exact hnx) hev (by rw[put_nx,put_heap];exact hrel') (by rw[put_nx];exact hsv)
       unfold wpX
       rcases hran with hr | ⟨hr,rfl⟩
       · exact wpr_value (simple_nodefer hs) hr this
       · exact wpr_skip (simple_nodefer hs) hr this
   · simp[T.den]at hd
 · simp[T.den]at hd
theorem prefix_at {ps ρF:List PV} (h:ρ++ps <+:ρF) (hnv:σ.nv=ρ.length):∀i p,ps[i]? =some p→ρF[σ.nv+i]? =some p:=by
 obtain⟨t,rfl⟩:=h
 intro i p hp
 have hi:=(List.getElem?_eq_some_iff.1 hp).1
 rw[List.append_assoc,List.getElem?_append_right (by omega),show σ.nv+i - ρ.length=i by omega,List.getElem?_append_left hi]
 exact hp
theorem map_den {es:List Ex} {ρF:List PV} (h:ρ <+:ρF) (hf:∀e∈es,e.fits ρ.length=true):es.map (·.den ρF)=es.map (·.den ρ):=List.map_congr_left fun e he=>Ex.den_ext h e (hf e he)
theorem SVRs.evsOf {R:St} (h:Rel X W0 φ ρ σ (a::fs) w) (he:σ.ev=R.ev):∀ (l:List Operand),SVRs w X φ ρ σ.nx (l.map R.ev) (l.map a.eval)
 | []=>by simp[SVRs]
 | x::r=>by
  simp only[List.map_cons,SVRs]
  exact⟨_,_,rfl,by rw[←he];exact h.ev x,SVRs.evsOf h he r⟩
theorem drCall_sound (hC:CallOk P sigs C) (hf:Facts ρ σ.known) (hnv:σ.nv=ρ.length) {f:Operand} {args:Array Operand} {ts:Array TypeId} {g:Nat} {caps:List SV} (hop:o.op= .call { callee:= .value f,args,argTypes:=ts }) (hfe:(σ.restr (useOf ops o) false).ev f= .fn g caps)
    (hd:(drCall P sigs ops o σ g (fun R=>args.toList.map R.ev++caps) k).den N C ρ J=some r):Stepped P N C (wpX ro P o) ops o ρ J r σ k:=by
 simp only[drCall]at hd
 split at hd
 · simp[T.den]at hd
 rename_i hent
 have hent':enters P g=true:=by simpa using hent
 split at hd
 · simp[T.den]at hd
 rename_i sg hsg
 split at hd
 · rename_i hbare
   split at hd
   · rename_i es hes
     split at hd
     · rename_i hfit
       rw[List.all_eq_true,hnv]at hfit
       simp only[T.den,Option.bind_eq_some_iff]at hd
       obtain⟨ps,hCf,hd⟩:=hd
       split at hd
       · rename_i hlen
         have pre:ρ <+:ρ++ps:=List.prefix_append _ _
         refine⟨ρ++ps,_,({ σ with nv:=σ.nv+(resSV sg.rs σ.nv σ.nx).2.2 }:St).put o.dst _,pre,by rw[put_known];exact hf.ext pre,by rw[put_nv,List.length_append,hlen,←hnv],by rw[put_jl],fun ρF hρ X W0 fs=> .ofFloat rfl rfl (put_fr' σ _ _ _ _ _ _ _) rfl rfl (by rw[put_heap]) (by rw[put_nx]) ?_,hd⟩
         intro φ nx a w K' Q h hk
         have h':Rel X W0 φ ρF ((σ.restr (useOf ops o) false).at ρF.length nx) (a::fs) w:=(h.withKnown (hf.ext (pre.trans hρ))).withJl σ.jl
         have hfv:=h'.ev f
         rw[at_ev,hfe]at hfv
         simp only[SVR]at hfv
         obtain⟨cs,hfval,hcaps⟩:=hfv
         have hevs:=(SVRs.evsOf h' (at_ev _ _ _) args.toList).append hcaps
         have hrun:=run_callv (P:=P) (w:=w) hop hfval hent'
         have hvs:args.map a.eval++cs=(args.toList.map a.eval++cs.toList).toArray:=by apply Array.ext';simp
         unfold wpX
         rw[hvs]at hrun
         refine wpr_enter (by rw[hop];intro c hc;cases hc) hrun ?_
         refine(float_call3 (nx0:=σ.nx) hC hsg h' hevs (by rw[argLeaves_eq (at_leaf _ _ _)];exact hes) hbare (by rw[map_den (pre.trans hρ) hfit];exact hCf) (prefix_at hρ hnv)).mono fun e w' hp=>?_
         obtain⟨v,rfl,hbel,hsv⟩:=hp
         exact⟨v,rfl,hk v w' hbel hsv⟩
       · cases hd
     · simp[T.den]at hd
   · simp[T.den]at hd
 · split at hd
   · rename_i es hes
     split at hd
     · rename_i hfit
       rw[List.all_eq_true,hnv]at hfit
       simp only[T.den,Option.bind_eq_some_iff]at hd
       obtain⟨ps,hCf,hd⟩:=hd
       split at hd
       · rename_i hlen
         have pre:ρ <+:ρ++ps:=List.prefix_append _ _
         have hfe':(σ.restr (useOf ops o) true).ev f= .fn g caps:=by rw[←hfe];exact congrFun (ev_eq rfl rfl) f
         refine⟨ρ++ps,_,({ σ with nv:=σ.nv+(resSV sg.rs σ.nv σ.nx).2.2,nx:=σ.nx+(resSV sg.rs σ.nv σ.nx).2.1.length,heap:=(resSV sg.rs σ.nv σ.nx).2.1++(if sg.rs.any Sh.frozen then dels σ.heap (ownNames (args.toList.map (σ.restr (useOf ops o) true).ev++caps))else σ.heap) }:St).put o.dst _,pre,by rw[put_known];exact hf.ext pre,by rw[put_nv,List.length_append,hlen,←hnv],by rw[put_jl],
          fun ρF hρ X W0 fs=> .ofHeavy rfl rfl (put_fr' σ _ _ _ _ _ _ _) rfl rfl (by rw[put_nx];exact Nat.le_add_right _ _) (fun l hl=>?_) ?_,hd⟩
         · rw[put_heap]
           simp only[List.mem_append,not_or]at hl
           show look ((resSV sg.rs σ.nv σ.nx).2.1++_) l=_
           have look_app:∀ (x y:List (Nat×Ob)),l∉x.map (·.1)→look (x++y) l=look y l:=by
            intro x y
            induction x with
            | nil=>intro _;rfl
            | cons z x ih=>
             obtain⟨i,ob⟩:=z
             intro hm
             simp only[List.map_cons,List.mem_cons,not_or]at hm
             simp only[List.cons_append,look]
             rw[if_neg (by simp;omega)]
             exact ih hm.2
           rw[look_app _ _ hl.1]
           split
           · rw[look_dels,if_neg hl.2]
           · rfl
         · intro φ a w K' Q h hk
           have h':Rel X W0 φ ρF ((σ.restr (useOf ops o) true).at ρF.length σ.nx) (a::fs) w:=(h.withKnown (hf.ext (pre.trans hρ))).withJl σ.jl
           have hfv:=h'.ev f
           rw[at_ev,hfe']at hfv
           simp only[SVR]at hfv
           obtain⟨cs,hfval,hcaps⟩:=hfv
           have hevs:=(SVRs.evsOf h' (at_ev _ _ _) args.toList).append hcaps
           have hrun:=run_callv (P:=P) (w:=w) hop hfval hent'
           have hvs:args.map a.eval++cs=(args.toList.map a.eval++cs.toList).toArray:=by apply Array.ext';simp
           unfold wpX
           rw[hvs]at hrun
           refine wpr_enter (by rw[hop];intro c hc;cases hc) hrun ?_
           refine(owned_call hC hsg h' hevs (by rw[argLeaves_eq (at_leaf _ _ _)];exact hes) (by rw[map_den (pre.trans hρ) hfit];exact hCf) (prefix_at hρ hnv)).mono fun e w' hp=>?_
           obtain⟨v,rfl,φ',hev,hrel,hsv⟩:=hp
           have hrel':=(hrel.withKnown (K:= []) (fun c b hc=>by cases hc)).withJl 0
           refine⟨v,rfl,hk φ' v w' (by rw[put_nx];exact Nat.le_add_right _ _) hev ?_ (by rw[put_nx];exact hsv)⟩
           rw[put_nx,put_heap]
           exact hrel'
       · cases hd
     · simp[T.den]at hd
   · simp[T.den]at hd
theorem makesRow_at {P:Program} {σ:St} {op:Op} (hm:makesRow op=true) {gs:List Ex} {sv:SV} {σ2:St} (hs:simple P σ op=some (gs,sv,σ2)) :
    ∃ks E,σ2=σ.new (.rows ks E)∧∀n m,simple P (σ.at n m) op=some (gs,.own m none,(σ.at n m).new (.rows ks E)):=by
 cases op with
 | buildSlice t n parts=>
  simp only[simple,at_ev]at hs ⊢
  split at hs
  · split at hs
    · split at hs
      · rename_i hcond
        split at hs
        · rw[Option.map_eq_some_iff]at hs
          obtain⟨es,he,hs⟩:=hs
          simp only[Prod.mk.injEq]at hs
          obtain⟨rfl,rfl,rfl⟩:=hs
          refine⟨_,_,rfl,fun n m=>?_⟩
          simp_all
          exact⟨⟨hcond.1.1.2▸hcond.1.2,hcond.1.1.2▸hcond.2⟩,rfl⟩
        · cases hs
      · cases hs
    · cases hs
  · cases hs
 | makeSlice t n c=>
  simp only[simple,at_ev]at hs ⊢
  split at hs
  · split at hs
    · split at hs
      · split at hs
        · simp only[Option.some.injEq,Prod.mk.injEq]at hs
          obtain⟨rfl,rfl,rfl⟩:=hs
          refine⟨_,_,rfl,fun n m=>?_⟩
          simp_all
          rfl
        · cases hs
      · cases hs
    · cases hs
  · cases hs
 | _=>simp[makesRow]at hm
theorem makesRow_new {op:Op} (hm:makesRow op=true):newOp op=true:=by cases op <;> simp_all [makesRow,newOp]
theorem drFrozen_sound (hf:Facts ρ σ.known) (hnv:σ.nv=ρ.length) (hm:makesRow o.op=true) (hd:(drFrozen P ops o σ k).den N C ρ J=some r):Stepped P N C (wpX ro P o) ops o ρ J r σ k:=by
 simp only[drFrozen]at hd
 split at hd
 · rename_i gs sv σ2 hs
   obtain⟨ks,E,rfl,hat⟩:=makesRow_at hm hs
   simp only[St.new]at hd
   split at hd
   · rename_i hfit
     simp only[Bool.and_eq_true]at hfit
     obtain⟨hfit,hfe⟩:=hfit
     rw[List.all_eq_true,hnv]at hfit
     rw[hnv]at hfe
     obtain⟨hb,K,hK,hd'⟩:=guards_den gs σ hf hfit hd
     refine⟨ρ,recOf ops o σ (.ex (.row ks) E),({ σ with known:=K }:St).put o.dst (.ex (.row ks) E),List.prefix_refl _,by rw[put_known];exact hK,by rw[put_nv];exact hnv,by rw[put_jl],fun ρF hρ X W0 fs=> .ofFloat rfl rfl (put_fr' σ _ _ _ _ _ _ _) rfl rfl (by rw[put_heap]) (by rw[put_nx]) ?_,hd'⟩
     intro φ nx a w K' Q h hk
     have h':Rel X W0 φ ρF ((σ.restr (useOf ops o) false).at ρF.length nx) (a::fs) w:=(h.withKnown (hf.ext hρ)).withJl σ.jl
     obtain⟨_,_,hmain⟩:=new_sound h' (makesRow_new hm) (hat ρF.length nx)
     obtain⟨φ',v,ob,hr,hrel,hv,hev,hφ⟩:=hmain fun g hg=>by rw[Ex.den_ext hρ g (hfit g hg)];exact hb g hg
     have hbel:Below w.heap.size w (w.alloc ob):=Below.alloc (Below.refl _ _) (Nat.le_refl _) ob
     have hU:∀b,Owned X φ b→Owned X φ' b:=by
      rintro b (hx | ⟨l,kk,hl,hg⟩)
      · exact .inl hx
      · have hlt:l < nx:=h'.names l kk hl
        exact .inr ⟨l,kk,by rw[hφ l (by show l≠nx;omega)];exact hl,hg⟩
     have hlt:∀b,Owned X φ b→b < w.heap.size:=by
      rintro b (hx | ⟨l,kk,hl,hg⟩)
      · have:=h'.old.1 b hx;have:=h'.size_le;omega
      · exact(h'.low l kk b hl hg).2
     have hlk:look (((σ.restr (useOf ops o) false).at ρF.length nx).new (.rows ks E)).heap nx=some (.rows ks E):=by simp[St.new,St.at,look]
     have hleaf:=hrel.leaf (k:= .row ks) (e:=E) hv (by
      unfold St.leaf
      simp only[hlk,LK.sames_self,if_true]) hU (fun l p he kk g hkk hg hb=>by
      cases he
      rcases hb with hx | ⟨l',k',hl',hg'⟩
      · have:=h'.old.1 g hx
        have:=(hrel.lowg nx kk g hkk hg).1
        omega
      · have hne:l' < nx:=h'.names l' k' hl'
        have:=hrel.inj l' nx k' kk g (by rw[hφ l' (by show l'≠nx;omega)];exact hl') hkk hg' (.inl hg)
        omega)
     unfold wpX
     refine wpr_value (simple_nodefer hs) hr ?_
     refine hk v _ hbel ?_
     simp only[recOf,SVR]
     exact⟨hleaf.1,hleaf.2⟩
   · simp[T.den]at hd
 · simp[T.den]at hd
theorem drMake_sound (hf:Facts ρ σ.known) (hnv:σ.nv=ρ.length) (hm:makesRow o.op=true) (hd:(drMake P ops o σ k).den N C ρ J=some r):Stepped P N C (wpX ro P o) ops o ρ J r σ k:=by
 simp only[drMake]at hd
 split at hd
 · rename_i gs sv σ2 hs
   obtain⟨ks,E,rfl,hat⟩:=makesRow_at hm hs
   simp only[St.new]at hd
   split at hd
   · rename_i hfit
     rw[List.all_eq_true,hnv]at hfit
     obtain⟨hb,K,hK,hd'⟩:=guards_den gs { σ with nx:=σ.nx+1,heap:=(σ.nx,Ob.rows ks E)::σ.heap } hf hfit hd
     refine⟨ρ,{ recOf ops o σ (.own σ.nx none)with eff:=true,touched:= [σ.nx],neu:=some (σ.nx,.rows ks E) },({ σ with nx:=σ.nx+1,heap:=(σ.nx,Ob.rows ks E)::σ.heap,known:=K }:St).put o.dst (.own σ.nx none),List.prefix_refl _,by rw[put_known];exact hK,by rw[put_nv];exact hnv,by rw[put_jl],
      fun ρF hρ X W0 fs=>⟨rfl,rfl,put_fr' σ _ _ _ _ _ _ _,by rw[put_nx];exact Nat.le_succ _,(fun h=>by cases h),fun _ l hl=>?_,(fun _ h=>by cases h),fun m ob h=>?_⟩,hd'⟩
     · rw[put_heap]
       simp only[List.mem_singleton]at hl
       show look ((σ.nx,_)::σ.heap) l=_
       rw[look,if_neg (by simp;omega)]
     · cases h
       refine⟨rfl,rfl,⟨_,_,rfl⟩,by rw[put_nx],by rw[put_heap],rfl,rfl,?_⟩
       intro φ nx a w K' Q h hk
       have h':Rel X W0 φ ρF ((σ.restr (useOf ops o) false).at ρF.length nx) (a::fs) w:=(h.withKnown (hf.ext hρ)).withJl σ.jl
       obtain⟨_,_,hmain⟩:=new_sound h' (makesRow_new hm) (hat ρF.length nx)
       obtain⟨φ',v,ob,hr,hrel,hv,hev,hφ⟩:=hmain fun g hg=>by rw[Ex.den_ext hρ g (hfit g hg)];exact hb g hg
       have hlk:look (((σ.restr (useOf ops o) false).at ρF.length nx).new (.rows ks E)).heap nx=some (.rows ks E):=by simp[St.new,St.at,look]
       obtain⟨kk,hkk,hob⟩:=hrel.heap nx _ hlk
       unfold wpX
       refine wpr_value (simple_nodefer hs) hr ?_
       refine hk φ' v _ kk hev (Below.alloc (Below.refl _ _) (Nat.le_refl _) ob) hφ hkk (fun g hg=>?_) hob hv
       obtain⟨g1,g2⟩:=hrel.low nx kk g hkk hg
       refine⟨?_,g2⟩
       rcases Nat.lt_or_ge g w.heap.size with hlt | hge
       · exfalso
         rcases hev.own g hlt (.inr ⟨nx,kk,hkk,hg⟩)with hx | ⟨l,k',hl,hg'⟩
         · have:=h'.old.1 g hx
           omega
         · have hlnx:l < nx:=h'.names l k' hl
           have:=hrel.inj l nx k' kk g (by rw[hφ l (by show l≠nx;omega)];exact hl) hkk hg' hg
           omega
       · exact hge
   · simp[T.den]at hd
 · simp[T.den]at hd
theorem drIn_sound {inl:Inl} (hC:CallOk P sigs C) (hinl:∀X W0,InlOk P N C X W0 inl) (hf:Facts ρ σ.known) (hnv:σ.nv=ρ.length) {f:Operand} {args:Array Operand} {ts:Array TypeId} (hop:o.op= .call { callee:= .value f,args,argTypes:=ts })
    (hd:(drIn P sigs inl ops o σ f args.toList k).den N C ρ J=some r):Stepped P N C (wpX ro P o) ops o ρ J r σ k:=by
 simp only[drIn]at hd
 split at hd
 · simp[T.den]at hd
 rename_i kk hkk
 split at hd
 · simp[T.den]at hd
 rename_i hfit
 simp only[Bool.or_eq_true,Bool.not_eq_true',not_or,Bool.not_eq_true,Bool.not_eq_false]at hfit
 obtain⟨hrow,hfit⟩:=hfit
 rw[hnv]at hfit
 simp only[fitsAll,Bool.and_eq_true]at hfit
 simp only[T.den,Option.bind_eq_some_iff]at hd
 obtain⟨ps,hps,hd⟩:=hd
 split at hd
 · rename_i hlen
   have pre:ρ <+:ρ++ps:=List.prefix_append _ _
   refine⟨ρ++ps,_,({ σ with nv:=σ.nv+1 }:St).put o.dst _,pre,by rw[put_known];exact hf.ext pre,by rw[put_nv,List.length_append,hlen,←hnv],by rw[put_jl],fun ρF hρ X W0 fs=> .ofFloat rfl rfl (put_fr' σ _ _ _ _ _ _ _) rfl rfl (by rw[put_heap]) (by rw[put_nx]) ?_,hd⟩
   intro φ nx a w K' Q h hk
   let R:St:={ σ.restr (useOf ops o) false with heap:=keep σ.heap (reachN σ.heap frD (needOf (cutFr σ.top (useOf ops o)))) }
   have h':Rel X W0 φ ρF (R.at ρF.length nx) (a::fs) w:=(h.withKnown (hf.ext (pre.trans hρ))).withJl σ.jl
   have hρF:ρ <+:ρF:=pre.trans hρ
   have hev:∀x,SVR w X φ ρF nx (R.ev x) (a.eval x):=fun x=>by have:=h'.ev x;rw[at_ev]at this;exact this
   have hfz:∀x,SVR w (still w) (fun _=>none) ρF 0 (frz ρ.length R.heap frD (R.ev x)) (a.eval x):=fun x=>frz_sound h' hρF.length_le frD _ _ (hev x)
   have hv0:=SVR.carry (nx:=0) (nx':=0) hρF (fun _ hb=>hb) _ _ hfit.1 (fun _ _=>rfl) (hfz f)
   have hargs0:SVRs w (still w) (fun _=>none) ρ 0 (args.toList.map fun x=>frz ρ.length R.heap frD (R.ev x)) (args.toList.map a.eval):=by
    refine SVRs.carry (nx:=0) (nx':=0) hρF (fun _ hb=>hb) _ _ hfit.2 (fun _ _=>rfl) ?_
    generalize args.toList=l
    induction l with
    | nil=>simp[SVRs]
    | cons x l ih=>simp only[List.map_cons,SVRs];exact⟨_,_,rfl,hfz x,ih⟩
   have hps':(frTree P sigs inl ρ.length σ.known kk (frz ρ.length R.heap frD (R.ev f)) (args.toList.map fun x=>frz ρ.length R.heap frD (R.ev x))).den N C ρ []=some ps:=by
    rw[hnv]at hps
    exact hps
   obtain⟨g,as,bs,hent,hvf,hab,hcalls⟩:=frTree_sound (w:=w) hC (hinl (still w) w) hf (by simpa using hrow) hargs0 hv0 hps'
   have post:Calls P g (as.toList++args.toList.map a.eval++bs.toList).toArray w fun e w''=>∃v,e= .returned v∧K' (a.put o.dst v) w'':=hcalls.mono fun e w' hp=>by
    obtain⟨u,p,rfl,hbel,hpp,hu⟩:=hp
    refine⟨u,rfl,hk u w' hbel ?_⟩
    have hat:=prefix_at (σ:=σ) hρ hnv 0 p (by rw[hpp];rfl)
    simp only[recOf,SVR,Ex.fits,Ex.den,decide_eq_true_eq]
    rw[Nat.add_zero]at hat
    exact⟨(List.getElem?_eq_some_iff.1 hat).1,by rw[getD_of hat];exact hu _ _⟩
   unfold wpX
   rcases hab with rfl | rfl
   · have hrun:=run_callv (P:=P) (w:=w) hop hvf hent
     refine wpr_enter (by rw[hop];intro c hc;cases hc) hrun ?_
     have hvs:args.map a.eval++bs=((#[]:Array Value).toList++args.toList.map a.eval++bs.toList).toArray:=by apply Array.ext';simp
     rw[hvs]
     exact post
   · have hrun:=run_callb (P:=P) (w:=w) hop hvf hent
     refine wpr_enter (by rw[hop];intro c hc;cases hc) hrun ?_
     have hvs:as++args.map a.eval=(as.toList++args.toList.map a.eval++(#[]:Array Value).toList).toArray:=by apply Array.ext';simp
     rw[hvs]
     exact post
 · cases hd
theorem drOp_sound {inl:Inl} {fz:Bool} (hC:CallOk P sigs C) (hinl:∀X W0,InlOk P N C X W0 inl) (hf:Facts ρ σ.known) (hnv:σ.nv=ρ.length) (hd:(drOp P sigs inl ops fz o σ k).den N C ρ J=some r):Stepped P N C (wpX ro P o) ops o ρ J r σ k:=by
 unfold drOp at hd
 split at hd
 · rename_i f args ts hop
   split at hd
   · rename_i g caps hfe
     split at hd
     · exact drCall_sound hC hf hnv hop hfe hd
     · exact drIn_sound hC hinl hf hnv hop hd
   · exact drIn_sound hC hinl hf hnv hop hd
 · rename_i hno
   split at hd
   · rename_i hp
     exact drPure_sound hf hnv hp hd
   · rename_i hp
     split at hd
     · rename_i hfz
       simp only[Bool.and_eq_true]at hfz
       split at hd
       · exact drMake_sound hf hnv hfz.2 hd
       · exact drFrozen_sound hf hnv hfz.2 hd
     · exact drHeavy_sound hf hnv (by simpa using hp) hd (fun f args ts h=>hno f args ts h)
end
end Go.Proofs.YtckjdlmfibjpaaaGreat.Sx
set_option linter.unusedVariables false
set_option linter.unusedSimpArgs false
namespace Go.Proofs.YtckjdlmfibjpaaaGreat.Sx
open Go.RowKit
mutual
theorem SV.fits_lt {n m:Nat}:∀ (s:SV),s.fits n m=true→∀l∈s.names,l < m
 | .undef,_,l,h | .skip,_,l,h | .nilS,_,l,h | .nilP,_,l,h | .nilF,_,l,h | .yld _,_,l,h | .ex _ _,_,l,h | .rptr ..,_,l,h=>by simp[SV.names]at h
 | .gd c s,hs,l,h=>by
  simp only[SV.fits,Bool.and_eq_true]at hs
  simp only[SV.names]at h
  exact SV.fits_lt s hs.2 l h
 | .alt c x y,hs,l,h=>by
  simp only[SV.fits,Bool.and_eq_true]at hs
  simp only[SV.names,List.mem_append]at h
  rcases h with h | h
  · exact SV.fits_lt x hs.1.2 l h
  · exact SV.fits_lt y hs.2 l h
 | .agg x,hs,l,h | .tup x,hs,l,h | .fn _ x,hs,l,h | .bfn _ x,hs,l,h | .fbox x _,hs,l,h=>by
  simp only[SV.fits]at hs
  simp only[SV.names]at h
  exact fitsAll_lt x hs l h
 | .ptr l' i o,hs,l,h=>by
  simp only[SV.fits,Bool.and_eq_true,decide_eq_true_eq]at hs
  simp only[SV.names,List.mem_singleton]at h
  omega
 | .mrow l' e,hs,l,h=>by
  simp only[SV.fits,Bool.and_eq_true,decide_eq_true_eq]at hs
  simp only[SV.names,List.mem_singleton]at h
  omega
 | .mptr l' e i o,hs,l,h=>by
  simp only[SV.fits,Bool.and_eq_true,decide_eq_true_eq]at hs
  simp only[SV.names,List.mem_singleton]at h
  omega
 | .own l' none,hs,l,h | .mp l',hs,l,h=>by
  simp only[SV.fits,decide_eq_true_eq]at hs
  simp only[SV.names,List.mem_singleton]at h
  omega
 | .own l' (some (lo,k)),hs,l,h=>by
  simp only[SV.fits,Bool.and_eq_true,decide_eq_true_eq]at hs
  simp only[SV.names,List.mem_singleton]at h
  omega
theorem fitsAll_lt {n m:Nat}:∀ (x:List SV),fitsAll n m x=true→∀l∈namesAll x,l < m
 | [],_,l,h=>by simp[namesAll]at h
 | s::r,hs,l,h=>by
  simp only[fitsAll,Bool.and_eq_true]at hs
  simp only[namesAll,List.mem_append]at h
  rcases h with h | h
  · exact SV.fits_lt s hs.1 l h
  · exact fitsAll_lt r hs.2 l h
end
mutual
theorem SV.fits_names {n n' m m':Nat} (hn:n≤n'):∀ (s:SV),s.fits n m=true→(∀l∈s.names,l < m')→s.fits n' m'=true
 | .undef,_,_ | .skip,_,_ | .nilS,_,_ | .nilP,_,_ | .nilF,_,_ | .yld _,_,_=>by simp[SV.fits]
 | .alt c x y,hs,h=>by
  simp only[SV.fits,Bool.and_eq_true]at *
  simp only[SV.names,List.mem_append]at h
  exact⟨⟨Ex.fits_mono hn c hs.1.1,SV.fits_names hn x hs.1.2 fun l hl=>h l (.inl hl)⟩,SV.fits_names hn y hs.2 fun l hl=>h l (.inr hl)⟩
 | .ex k e,hs,_=>by simp only[SV.fits]at *;exact Ex.fits_mono hn e hs
 | .gd c s,hs,h=>by
  simp only[SV.fits,Bool.and_eq_true]at *
  simp only[SV.names]at h
  exact⟨Ex.fits_mono hn c hs.1,SV.fits_names hn s hs.2 h⟩
 | .agg x,hs,h | .tup x,hs,h | .fn _ x,hs,h | .bfn _ x,hs,h | .fbox x _,hs,h=>by
  simp only[SV.fits]at *
  simp only[SV.names]at h
  exact fitsAll_names hn x hs h
 | .ptr l i o,hs,h=>by
  simp only[SV.fits,Bool.and_eq_true,decide_eq_true_eq]at *
  exact⟨h l (by simp[SV.names]),Ex.fits_mono hn i hs.2⟩
 | .rptr ks e i o,hs,_=>by
  simp only[SV.fits,Bool.and_eq_true]at *
  exact⟨Ex.fits_mono hn e hs.1,Ex.fits_mono hn i hs.2⟩
 | .mrow l e,hs,h=>by
  simp only[SV.fits,Bool.and_eq_true,decide_eq_true_eq]at *
  exact⟨h l (by simp[SV.names]),Ex.fits_mono hn e hs.2⟩
 | .mptr l e i o,hs,h=>by
  simp only[SV.fits,Bool.and_eq_true,decide_eq_true_eq]at *
  exact⟨⟨h l (by simp[SV.names]),Ex.fits_mono hn e hs.1.2⟩,Ex.fits_mono hn i hs.2⟩
 | .own l none,hs,h | .mp l,hs,h=>by
  simp only[SV.fits,decide_eq_true_eq]at *
  exact h l (by simp[SV.names])
 | .own l (some (lo,k)),hs,h=>by
  simp only[SV.fits,Bool.and_eq_true,decide_eq_true_eq]at *
  exact⟨⟨h l (by simp[SV.names]),Ex.fits_mono hn lo hs.1.2⟩,Ex.fits_mono hn k hs.2⟩
theorem fitsAll_names {n n' m m':Nat} (hn:n≤n'):∀ (x:List SV),fitsAll n m x=true→(∀l∈namesAll x,l < m')→fitsAll n' m' x=true
 | [],_,_=>rfl
 | s::r,hs,h=>by
  simp only[fitsAll,Bool.and_eq_true]at *
  simp only[namesAll,List.mem_append]at h
  exact⟨SV.fits_names hn s hs.1 fun l hl=>h l (.inl hl),fitsAll_names hn r hs.2 fun l hl=>h l (.inr hl)⟩
end
theorem look_cut {f:List (Nat×SV)} {t:Nat} {s:SV}:∀ {use:List Nat},(t,s)∈cutFr f use→t∈use∧look f t=some s:=by
 intro use h
 simp only[cutFr,List.mem_filterMap,Option.map_eq_some_iff,Prod.mk.injEq]at h
 obtain⟨u,hu,s',h1,rfl,rfl⟩:=h
 exact⟨hu,h1⟩
theorem look_of_all {f:List (Nat×SV)} {t:Nat} {s:SV}:∀ {l:List (Nat×SV)},(∀x∈l,look f x.1=some x.2)→(t,s)∈l→look l t=some s
 | (u,s')::r,h,hm=>by
  have h0:=h (u,s') (by simp)
  have ht:look f t=some s:=h _ hm
  simp only[look]
  by_cases hu:u=t
  · subst hu
    simp only at h0
    rw[h0]at ht
    cases ht
    simp
  · rw[if_neg (by simpa using hu)]
    refine look_of_all (fun x hx=>h x (by simp[hx])) ?_
    rcases List.mem_cons.1 hm with he | hm
    · exact absurd (by rw[Prod.mk.injEq]at he;exact he.1.symm) hu
    · exact hm
theorem look_in_cut {f:List (Nat×SV)} {use:List Nat} {t:Nat} {s:SV} (h:(t,s)∈cutFr f use):look (cutFr f use) t=some s:=look_of_all (f:=f) (fun x hx=>(look_cut (t:=x.1) (s:=x.2) hx).2) h
theorem look_keep {ns:List Nat} {l:Nat} {x:Ob}:∀ {h:List (Nat×Ob)},look (keep h ns) l=some x→l∈ns∧look h l=some x
 | [],hl=>by simp[keep,look]at hl
 | (i,y)::r,hl=>by
  unfold keep at hl
  rw[List.filter_cons]at hl
  split at hl
  · rename_i hi
    simp only[List.contains_iff_mem]at hi
    simp only[look]at hl ⊢
    split at hl
    · rename_i he
      rw[if_pos he]
      have:i=l:=by simpa using he
      exact⟨this▸hi,hl⟩
    · rename_i he
      rw[if_neg he]
      exact look_keep hl
  · rename_i hi
    have:=look_keep (h:=r) hl
    refine⟨this.1,?_⟩
    simp only[look]
    rw[if_neg (by
     intro he
     have:i=l:=by simpa using he
     subst this
     exact hi (by simpa using (look_keep (h:=r) hl).1))]
    exact this.2
section
variable {ro:Option Nat} {P:Program} {sigs:Nat→Option Sig} {C:Nat→List PV→Option (List PV)} {N:Nat} {X:Env} {W0:World} {φ:Names} {ρ:List PV} {J:List (List PV→Option (List PV))} {r:List PV} {σ:St} {a:Act} {fs:List Act} {w:World} {nx:Nat} {ops:Array Oper} {o:Oper} {k:Rec→St→T}
theorem need_lt {f:List (Nat×SV)} {use:List Nat} {σ':St} {r':List (List (Nat×SV))} (h:Rel X W0 φ ρ σ' (a::fs) w) (hf:σ'.fr=cutFr f use::r'):∀l∈needOf (cutFr f use),l < σ'.nx:=by
 intro l hl
 simp only[needOf,List.mem_flatMap]at hl
 obtain⟨⟨t,s⟩,hm,hl⟩:=hl
 have hfr:=h.frames
 rw[hf]at hfr
 simp only[FrsR]at hfr
 obtain⟨a0,as',_,hfr,_⟩:=hfr
 exact SV.fits_lt s (SVR.fits s _ (hfr t s (look_in_cut hm))) l hl
theorem Stepped.known {K:List (Ex×Bool)} {Wp:Wps} (h:Stepped P N C Wp ops o ρ J r { σ with known:=K } k):Stepped P N C Wp ops o ρ J r σ k:=by
 obtain⟨ρ1,rc,σ1,h1,h2,h3,h4,h5,h6⟩:=h
 refine⟨ρ1,rc,σ1,h1,h2,h3,h4,fun ρF hρ X W0 fs=>?_,h6⟩
 have s:=h5 ρF hρ X W0 fs
 exact⟨s.dst,s.use,s.fr.trans (put_fr' σ _ _ _ _ _ _ _),s.nx,s.float,s.touch,s.heavy,s.make⟩
theorem Stepped.run (h:Stepped P N C (wpX ro P o) ops o ρ J r σ k)
    (hw:∀ρF,ρ <+:ρF→∀X W0 fs φ nx (a:Act) w hp,Rel X W0 φ ρF ⟨ρF.length,0,nx,[],cutFr σ.top (useOf ops o)::σ.fr.tail,hp⟩ (a::fs) w→Region.wanted o (yielded ops a.tmps)=true) :
    Stepped P N C (wpO ro P ops o) ops o ρ J r σ k:=by
 obtain⟨ρ1,rc,σ1,h1,h2,h3,h4,h5,h6⟩:=h
 refine⟨ρ1,rc,σ1,h1,h2,h3,h4,fun ρF hρ X W0 fs=>?_,h6⟩
 have s:=h5 ρF hρ X W0 fs
 refine⟨s.dst,s.use,s.fr,s.nx,fun he=>⟨(s.float he).1,(s.float he).2.1,?_⟩,s.touch,fun he hn=>?_,fun m ob hm=>?_⟩
 · intro φ nx a w K Q hr hk
   unfold wpO
   rw[if_pos (hw ρF (h1.trans hρ) X W0 fs φ nx a w _ (s.use▸hr))]
   exact(s.float he).2.2 φ nx a w K Q hr hk
 · intro φ a w K Q hr hk
   unfold wpO
   rw[if_pos (hw ρF (h1.trans hρ) X W0 fs φ _ a w _ (s.use▸hr))]
   exact s.heavy he hn φ a w K Q hr hk
 · obtain⟨m1,m2,m3,m4,m5,m6,m7,m8⟩:=s.make m ob hm
   refine⟨m1,m2,m3,m4,m5,m6,m7,?_⟩
   intro φ nx a w K Q hr hk
   unfold wpO
   rw[if_pos (hw ρF (h1.trans hρ) X W0 fs φ nx a w _ (s.use▸hr))]
   exact m8 φ nx a w K Q hr hk
theorem Stepped.skip {K:List (Ex×Bool)} (hK:Facts ρ K) (hnv:σ.nv=ρ.length)
    (hw:∀ρF,ρ <+:ρF→∀X W0 fs φ nx (a:Act) w hp,Rel X W0 φ ρF ⟨ρF.length,0,nx,[],cutFr σ.top (useOf ops o)::σ.fr.tail,hp⟩ (a::fs) w→Region.wanted o (yielded ops a.tmps)=false)
    (hd:(k (recOf ops o σ .skip) ({ σ with known:=K }.put o.dst .skip)).den N C ρ J=some r):Stepped P N C (wpO ro P ops o) ops o ρ J r σ k:=by
 refine⟨ρ,_,({ σ with known:=K }:St).put o.dst .skip,List.prefix_refl _,by rw[put_known];exact hK,by rw[put_nv];exact hnv,by rw[put_jl],fun ρF hρ X W0 fs=> .ofFloat rfl rfl (put_fr' σ _ _ _ _ _ _ _) rfl rfl (by rw[put_heap]) (by rw[put_nx]) ?_,hd⟩
 intro φ nx a w K' Q h hk
 unfold wpO
 rw[if_neg (by rw[hw ρF hρ X W0 fs φ nx a w _ h];simp)]
 exact hk undef w (Below.refl _ _) (by simp[recOf,SVR])
theorem drStep_sound {inl:Inl} {fz:Bool} (hC:CallOk P sigs C) (hinl:∀X W0,InlOk P N C X W0 inl) (hf:Facts ρ σ.known) (hnv:σ.nv=ρ.length) (hd:(drStep P sigs inl ops fz o σ k).den N C ρ J=some r):Stepped P N C (wpO ro P ops o) ops o ρ J r σ k:=by
 simp only[drStep]at hd
 split at hd
 · rename_i hg
   exact(drOp_sound hC hinl hf hnv hd).run fun _ _ _ _ _ _ _ _ _ _ _=>by simp[Region.wanted,hg]
 · rename_i j want hg
   split at hd
   · simp[T.den]at hd
   rename_i c hc
   have hwant:∀ {b:Bool},c.fits ρ.length=true→(c.den ρ).b=b→∀ρF,ρ <+:ρF→∀X W0 fs φ nx (a:Act) w hp,Rel X W0 φ ρF ⟨ρF.length,0,nx,[],cutFr σ.top (useOf ops o)::σ.fr.tail,hp⟩ (a::fs) w→Region.wanted o (yielded ops a.tmps)=b:=by
    intro b hfc hb ρF hρ X W0 fs φ nx a w hp h
    obtain⟨_,h2⟩:=condOf_sound h (c:=c) (by rw[←hc];exact condOf_fr rfl _ _ _)
    simp only[Region.wanted,hg]
    rw[h2,Ex.den_ext hρ c hfc,hb]
   split at hd
   · rename_i hfc
     rw[hnv]at hfc
     split at hd
     · rename_i hk1
       exact(drOp_sound hC hinl hf hnv hd).run (hwant hfc (knownIs_sound hf c true hk1))
     · rename_i hk1
       exact Stepped.skip hf hnv (hwant hfc (knownIs_sound hf c false hk1)) hd
     · split at hd
       · rename_i gs v σ2 hs
         split at hs
         · rename_i hpure
           rw[Option.filter_eq_some_iff]at hs
           obtain⟨hs,hfits⟩:=hs
           simp only[Bool.and_eq_true,List.all_eq_true,List.contains_iff_mem]at hfits
           obtain⟨⟨hgf,hvf⟩,hvn⟩:=hfits
           rw[hnv]at hvf
           obtain⟨hall,hd'⟩:=asks_den _ σ hf hd
           refine⟨ρ,_,σ.put o.dst (.gd c v),List.prefix_refl _,by rw[put_known];exact hf,by rw[put_nv];exact hnv,by rw[put_jl],fun ρF hρ X W0 fs=> .ofFloat rfl rfl rfl rfl rfl (by rw[put_heap]) (by rw[put_nx]) ?_,hd'⟩
           intro φ nx a w K' Q h hk
           have hcF:c.fits ρF.length=true:=Ex.fits_mono hρ.length_le c hfc
           cases hb:(c.den ρ).b with
           | true=>
            have hbF:(c.den ρF).b=true:=by rw[Ex.den_ext hρ c hfc];exact hb
            unfold wpO
            rw[if_pos (hwant hfc hb ρF hρ X W0 fs φ nx a w _ h)]
            have h':Rel X W0 φ ρF (({ σ.restr (useOf ops o) false with known:=learn c true σ.known }:St).at ρF.length nx) (a::fs) w:=(h.withKnown (learn_sound c true σ.known (hf.ext hρ) hcF hbF)).withJl σ.jl
            have hs':=simple_at_pure P ({ σ.restr (useOf ops o) false with known:=learn c true σ.known }:St) ρF.length nx o.op hpure
            rw[hs]at hs'
            obtain⟨_,_,hmain⟩:=pure_sound h' hpure hs'
            obtain⟨u,hr,hu⟩:=hmain fun g hg=>by
             have h0:=hall _ (List.mem_map.2 ⟨g,hg,rfl⟩)
             rw[Ex.den_mk2]at h0
             have h2:((ncond c).den ρ).b=false:=by rw[ncond_b,hb];rfl
             have h3:(((ncond c).den ρ).b|| (g.den ρ).b)=true:=h0
             rw[h2,Bool.false_or]at h3
             rw[Ex.den_ext hρ g (by rw[←hnv];exact hgf g hg)]
             exact h3
            refine wpr_value (pure_nodefer hpure) hr ?_
            refine hk u w (Below.refl _ _) ?_
            simp only[recOf,SVR]
            exact⟨hcF,SVR.fits _ _ hu,fun _=>hu,(fun hc=>by rw[hbF]at hc;cases hc)⟩
           | false=>
            have hbF:(c.den ρF).b=false:=by rw[Ex.den_ext hρ c hfc];exact hb
            unfold wpO
            rw[if_neg (by rw[hwant hfc hb ρF hρ X W0 fs φ nx a w _ h];simp)]
            refine hk undef w (Below.refl _ _) ?_
            simp only[recOf,SVR]
            exact⟨hcF,SV.fits_names hρ.length_le v hvf (fun l hl=>need_lt (use:=useOf ops o) (f:=σ.top) h rfl l (hvn l hl)),(fun hc=>by rw[hbF]at hc;cases hc),fun _=>trivial⟩
         · cases hs
       · rw[mkIte_den]at hd
         cases hb:(c.den ρ).b with
         | true=>
          rw[if_pos hb]at hd
          exact(Stepped.known (K:=learn c true σ.known) (drOp_sound (σ:={ σ with known:=learn c true σ.known }) hC hinl (learn_sound c true σ.known hf hfc hb) hnv hd)).run (hwant hfc hb)
         | false=>
          rw[if_neg (by rw[hb];simp)]at hd
          exact Stepped.skip (learn_sound c false σ.known hf hfc hb) hnv (hwant hfc hb) hd
   · simp[T.den]at hd
theorem drOps_sound {inl:Inl} {fz:Nat→Bool} (hC:CallOk P sigs C) (hinl:∀X W0,InlOk P N C X W0 inl) {K:List Rec→St→T}:∀ (l:List Oper) (σ:St) (ρ:List PV) (acc:List Rec),Facts ρ σ.known→σ.nv=ρ.length→(drOps P sigs inl ops fz l σ acc K).den N C ρ J=some r→
    ∃ (ρF:List PV) (rs:List Rec) (st:Nat→St),ρ <+:ρF∧rs.length=l.length∧st 0=σ∧Facts ρF (st l.length).known∧(st l.length).nv=ρF.length∧(st l.length).jl=σ.jl∧(K (acc++rs) (st l.length)).den N C ρF J=some r∧
     ∀i o,l[i]? =some o→∃rc,rs[i]? =some rc∧∀X W0 fs,StepOk (wpO ro P ops o) ops X W0 ρF fs o rc (st i) (st (i+1))
 | [],σ,ρ,acc,hf,hnv,hd=>⟨ρ,[],fun _=>σ,List.prefix_refl _,rfl,rfl,hf,hnv,rfl,by simpa [drOps]using hd,fun i o h=>by simp at h⟩
 | o::l,σ,ρ,acc,hf,hnv,hd=>by
  simp only[drOps]at hd
  obtain⟨ρ1,rc,σ1,h1,h2,h3,h4,h5,h6⟩:=drStep_sound hC hinl hf hnv hd
  obtain⟨ρF,rs,st,g1,g2,g3,g4,g5,g6,g7,g8⟩:=drOps_sound hC hinl l σ1 ρ1 (acc++ [rc]) h2 h3 h6
  refine⟨ρF,rc::rs,fun | 0=>σ | i+1=>st i,h1.trans g1,by simp[g2],rfl,g4,g5,by rw[←h4,←g6];rfl,by simpa using g7,fun i o' ho=>?_⟩
  cases i with
  | zero=>
   simp only[List.getElem?_cons_zero,Option.some.injEq]at ho
   subst ho
   refine⟨rc,rfl,fun X W0 fs=>?_⟩
   have:=h5 ρF g1 X W0 fs
   rw[←g3]at this
   exact this
  | succ i=>exact g8 i o' (by simpa using ho)
end
end Go.Proofs.YtckjdlmfibjpaaaGreat.Sx
set_option linter.unusedVariables false
set_option linter.unusedSimpArgs false
namespace Go.Proofs.YtckjdlmfibjpaaaGreat.Sx
open Go.RowKit
theorem put_tail (σ:St) (d:Option Nat) (v:SV):(σ.put d v).fr.tail=σ.fr.tail:=by unfold St.put;split <;> simp_all
theorem put_nonnil {σ:St} (h:σ.fr≠ []) (d:Option Nat) (v:SV):(σ.put d v).fr≠ []:=by unfold St.put;split <;> simp_all
theorem put_top_same {σ:St} (h:σ.fr≠ []) (t:Nat) (v:SV):look (σ.put (some t) v).top t=some v:=by
 unfold St.put St.top
 cases hf:σ.fr with
 | nil=>exact absurd hf h
 | cons f r=>exact look_put_same _ _ _
theorem put_top_other (σ:St) (d:Option Nat) (v:SV) (t:Nat) (h:d≠some t):look (σ.put d v).top t=look σ.top t:=by
 unfold St.put St.top
 cases d with
 | none=>rfl
 | some u=>
  cases hf:σ.fr with
  | nil=>simp only[hf]
  | cons f r=>exact look_put_other _ _ _ _ (fun e=>h (by rw[e]))
theorem top_eq {σ σ':St} (h:σ.fr=σ'.fr):σ.top=σ'.top:=by unfold St.top;rw[h]
def Ob.names:Ob→List Nat
 | .box cs=>namesAll cs
 | _=> []
theorem Ob.fits_lt {n m:Nat}:∀ (o:Ob),o.fits n m=true→∀l∈o.names,l < m
 | .box cs,h,l,hl=>fitsAll_lt cs h l hl
 | .rows _ _,_,l,hl | .imap _,_,l,hl | .rmap _ _ _,_,l,hl=>by simp[Ob.names]at hl
theorem Ob.fits_up {n m m':Nat} (h:m≤m'):∀ (o:Ob),o.fits n m=true→o.fits n m'=true
 | .box cs,hf=>fitsAll_mono (Nat.le_refl _) h cs hf
 | .rows _ _,hf | .imap _,hf | .rmap _ _ _,hf=>hf
section
variable {W:World} {X:Env} {φ φ':Names} {ρ:List PV} {nx nx':Nat}
theorem ObR.fits {k:Bk}:∀ (o:Ob),ObR W X φ ρ nx k o→o.fits ρ.length nx=true
 | .box cs,h=>by
  obtain⟨_,_,_,_,_,hcs⟩:=h
  exact SVRs.fits cs _ hcs
 | .rows _ _,h=>h.1
 | .imap _,h=>h.1
 | .rmap _ _ hh,h=>by
  simp only[Ob.fits,Bool.and_eq_true]
  refine⟨h.1,?_⟩
  cases hh with
  | none=>rfl
  | some x=>exact h.2.1 x rfl
theorem ObR.carry (hO:∀b,Owned X φ' b→Owned X φ b) {k:Bk}:∀ (o:Ob),o.fits ρ.length nx'=true→(∀l∈o.names,φ' l=φ l)→ObR W X φ ρ nx k o→ObR W X φ' ρ nx' k o
 | .box cs,hf,hn,h=>by
  obtain⟨hl,g,c,hg,hh,hcs⟩:=h
  exact⟨hl,g,c,hg,hh,SVRs.carry (List.prefix_refl _) hO cs _ hf hn hcs⟩
 | .rows ks e,_,_,h=>by
  obtain⟨hf,hs,xs,hx,hlen,hm⟩:=h
  refine⟨hf,hs,xs,hx,hlen,?_⟩
  split
  · rename_i hg;rw[hg]at hm;exact hm
  · rename_i g hg
    rw[hg]at hm
    obtain⟨c,hh,hi⟩:=hm
    exact⟨c,hh,fun i x hix=>RVs.mono (Nat.le_refl _) (fun b _ hb=>⟨rfl,fun ho=>hb (hO b ho)⟩) ks x _ (hi i x hix)⟩
 | .imap e,_,_,h=>h
 | .rmap ks e hh,_,_,h=>by
  obtain⟨q1,q2,q3,g,xs,q4,q5,q6,q7,q8,q9,hrow⟩:=h
  exact⟨q1,q2,q3,g,xs,q4,q5,q6,q7,q8,q9,fun a ha=>(hrow a ha).mono (Nat.le_refl _) (fun b _ hb=>⟨fun _ _ h=>h,fun ho=>hb (hO b ho)⟩) (fun _ _=>rfl)⟩
theorem FrsR.carry (hO:∀b,Owned X φ' b→Owned X φ b):∀ (l:List (List (Nat×SV))) (as:List Act),(∀f∈l,∀t s,look f t=some s→s.fits ρ.length nx=true→s.fits ρ.length nx'=true∧∀m∈s.names,φ' m=φ m)→FrsR W X φ ρ nx l as→FrsR W X φ' ρ nx' l as
 | [],as,_,h=>by
  simp only[FrsR]at *
  exact⟨h.1,fun b o hb=>⟨(h.2 b o hb).1,fun ho=>(h.2 b o hb).2.1 (hO b ho),(h.2 b o hb).2.2⟩⟩
 | f::r,as,hn,h=>by
  simp only[FrsR]at *
  obtain⟨a,as',rfl,h1,⟨hd1,hd2⟩,h2⟩:=h
  refine⟨a,as',rfl,fun t s hs=>?_,⟨⟨hd1.1,fun d hd=>?_⟩,hd2⟩,FrsR.carry hO r as' (fun f' hf'=>hn f' (by simp[hf'])) h2⟩
  · have hv:=h1 t s hs
    obtain⟨q1,q2⟩:=hn f (by simp) t s hs (SVR.fits s _ hv)
    exact SVR.carry (List.prefix_refl _) hO s _ q1 q2 hv
  · obtain⟨D,q1,q2,q3,q4⟩:=hd1.2 d hd
    exact⟨D,q1,q2,fun ho=>q3 (hO D ho),q4⟩
end
theorem Rel.made {X:Env} {W0:World} {φ φ1:Names} {ρ:List PV} {fs:List Act} {w w':World} {nx nx' m:Nat} {tl:List (List (Nat×SV))} {hp:List (Nat×Ob)} {a a':Act} {k:Bk} {ks:List LK} {e:Ex}
    (h:Rel X W0 φ ρ ⟨ρ.length,0,nx,[],[]::tl,hp⟩ (a::fs) w) (hev:Evo X φ φ1 nx w w') (hbel:Below w.heap.size w w') (hφ:∀l,l≠nx→φ1 l=φ l) (hk:φ1 nx=some k) (hg:∀g,k.has g→w.heap.size≤g∧g < w'.heap.size)
    (hob:ObR w' X φ1 ρ (nx+1) k (.rows ks e)) (hm:φ m=none) (hmn:m < nx') (hnn:nx≤nx') (htl:∀f∈tl,∀t s,look f t=some s→m∉s.names) (hhp:∀l o,look hp l=some o→m∉o.names) (hd:a'.defers=a.defers) :
    ∃φ2,φ2 m=some k∧(∀l,l≠m→φ2 l=φ l)∧Rel X W0 φ2 ρ ⟨ρ.length,0,nx',[],[]::tl,(m,.rows ks e)::hp⟩ (a'::fs) w'∧(∀s v,m∉s.names→SVR w X φ ρ nx s v→SVR w' X φ2 ρ nx' s v)∧(∀v,SVR w' X φ1 ρ (nx+1) (.own nx none) v→SVR w' X φ2 ρ nx' (.own m none) v):=by
 let φ2:Names:=fun l=>if l=m then some k else φ l
 have h2m:φ2 m=some k:=by simp[φ2]
 have h2o:∀l,l≠m→φ2 l=φ l:=fun l hl=>by simp[φ2,hl]
 have hO:∀b,Owned X φ2 b→Owned X φ1 b:=by
  rintro b (hx | ⟨l,kk,hl,hb⟩)
  · exact .inl hx
  · by_cases hlm:l=m
    · subst hlm
      rw[h2m]at hl
      cases hl
      exact .inr ⟨nx,k,hk,hb⟩
    · rw[h2o l hlm]at hl
      have:l < nx:=h.names l kk hl
      exact .inr ⟨l,kk,by rw[hφ l (by omega)];exact hl,hb⟩
 have hnm:∀l,l < nx→l≠m→φ2 l=φ1 l:=fun l hl hlm=>by rw[h2o l hlm,hφ l (by omega)]
 have hsize:=hbel.size
 have hsl:=h.size_le
 have hsv:∀s v,m∉s.names→SVR w X φ ρ nx s v→SVR w' X φ2 ρ nx' s v:=by
  intro s v hns hs
  have hfit:=SVR.fits s v hs
  have h1:=SVR.evo hev (List.prefix_refl _) (Nat.le_succ nx) s v hs
  exact SVR.carry (List.prefix_refl _) hO s v (SV.fits_mono (Nat.le_refl _) hnn s hfit) (fun l hl=>hnm l (SV.fits_lt s hfit l hl) (fun e=>hns (e▸hl))) h1
 refine⟨φ2,h2m,h2o,⟨h.below.trans (hbel.mono h.size_le),h.old,fun l kk g hl hgg=>?_,fun l l' kk kk' g hl hl' hgg hgg'=>?_,fun l kk hl=>?_,rfl,(fun c b hc=>by cases hc),?_,fun l o hl=>?_⟩,hsv,fun v hv=>?_⟩
 · by_cases hlm:l=m
   · subst hlm
     rw[h2m]at hl
     cases hl
     obtain⟨g1,g2⟩:=hg g hgg
     exact⟨by omega,g2⟩
   · rw[h2o l hlm]at hl
     obtain⟨g1,g2⟩:=h.low l kk g hl hgg
     exact⟨g1,by omega⟩
 · by_cases hlm:l=m
   · by_cases hlm':l'=m
     · rw[hlm,hlm']
     · exfalso
       subst hlm
       rw[h2m]at hl
       cases hl
       rw[h2o l' hlm']at hl'
       have:=(hg g hgg).1
       have:=(h.low l' kk' g hl' hgg').2
       omega
   · by_cases hlm':l'=m
     · exfalso
       subst hlm'
       rw[h2m]at hl'
       cases hl'
       rw[h2o l hlm]at hl
       have:=(hg g hgg').1
       have:=(h.low l kk g hl hgg).2
       omega
     · rw[h2o l hlm]at hl
       rw[h2o l' hlm']at hl'
       exact h.inj l l' kk kk' g hl hl' hgg hgg'
 · show l < nx'
   by_cases hlm:l=m
   · omega
   · rw[h2o l hlm]at hl
     have:l < nx:=h.names l kk hl
     omega
 · have hf:=h.frames
   simp only[FrsR]at hf ⊢
   obtain⟨a0,as',he,h1,hdd,h2⟩:=hf
   cases he
   refine⟨_,_,rfl,(fun t s hs=>by simp[look]at hs),?_,?_⟩
   · rw[hd]
     have hd1:=hdd.1.evo hev
     refine⟨⟨hd1.1,fun d hdm=>?_⟩,hdd.2⟩
     obtain⟨D,q1,q2,q3,q4⟩:=hd1.2 d hdm
     exact⟨D,q1,q2,fun ho=>q3 (hO D ho),q4⟩
   · have h3:=FrsR.evo hev (List.prefix_refl _) (Nat.le_refl nx) _ _ h2
     refine FrsR.carry hO tl _ (fun f hf t s hs hfit=>⟨SV.fits_mono (Nat.le_refl _) hnn s hfit,fun l hl=>hnm l (SV.fits_lt s hfit l hl) (fun e=>htl f hf t s hs (e▸hl))⟩) h3
 · simp only[look]at hl
   split at hl
   · rename_i hlm
     have hlm:m=l:=by simpa using hlm
     subst hlm
     cases hl
     exact⟨k,h2m,ObR.carry hO _ hob.1 (fun l hl=>by simp[Ob.names]at hl) hob⟩
   · rename_i hlm
     have hlm:l≠m:=fun e=>hlm (by simp[e])
     obtain⟨kk,hkk,ho⟩:=h.heap l o hl
     refine⟨kk,by rw[h2o l hlm];exact hkk,?_⟩
     have hfit:=ObR.fits o ho
     have h1:=ObR.evo hev (List.prefix_refl _) (Nat.le_refl nx) (fun g hgg=>hbel.block g (h.low l kk g hkk hgg).2) o ho
     exact ObR.carry hO o (Ob.fits_up hnn o hfit) (fun x hx=>hnm x (Ob.fits_lt o hfit x hx) (fun e=>hhp l o hl (e▸hx))) h1
 · simp only[SVR]at hv ⊢
   refine⟨hmn,hv.2.1,fun kk hkk=>?_⟩
   rw[h2m]at hkk
   cases hkk
   exact hv.2.2 k hk
section
variable {X:Env} {W0:World} {φ:Names} {ρ:List PV} {σ:St} {fs:List Act} {w w':World}
theorem Rel.grown {ρ':List PV} (h:Rel X W0 φ ρ σ fs w) (hp:ρ <+:ρ'):Rel X W0 φ ρ' { σ with nv:=ρ'.length } fs w:=by
 refine⟨h.below,h.old,h.low,h.inj,h.names,rfl,Facts.ext h.known hp,FrsR.evo (Evo.refl X φ σ.nx w) hp (Nat.le_refl _) _ _ h.frames,fun l o hl=>?_⟩
 obtain⟨k,hk,ho⟩:=h.heap l o hl
 exact⟨k,hk,ObR.evo (Evo.refl X φ σ.nx w) hp (Nat.le_refl _) (fun _ _=>rfl) o ho⟩
theorem Rel.turn {n j n' j' nx:Nat} {K:List (Ex×Bool)} {f f':List (Nat×SV)} {tl:List (List (Nat×SV))} {hp hp':List (Nat×Ob)} {x y:Act} (h:Rel X W0 φ ρ ⟨n,j,nx,K,f::tl,hp⟩ (x::fs) w) (hf:FrR w X φ ρ nx f' y.tmps)
    (hh:∀l o,look hp' l=some o→look hp l=some o) (hd:y.defers=x.defers:=by first | rfl | exact put_defers _ _ _):Rel X W0 φ ρ ⟨ρ.length,j',nx,[],f'::tl,hp'⟩ (y::fs) w:=by
 refine⟨h.below,h.old,h.low,h.inj,h.names,rfl,(fun c b hc=>by cases hc),?_,fun l o hl=>h.heap l o (hh l o hl)⟩
 have:=h.frames
 simp only[FrsR]at this ⊢
 obtain⟨a,as',he,_,h1,h2⟩:=this
 cases he
 exact⟨_,_,rfl,hf,by rw[hd];exact h1,h2⟩
end
section
variable {ro:Option Nat} {P:Program} {X:Env} {W0:World} {ρ:List PV} {fs:List Act} {ops:Array Oper} {rs:List Rec} {st:Nat→St} {tab:List Nat}
def AllOk (ro:Option Nat) (P:Program) (ops:Array Oper) (X:Env) (W0:World) (ρ:List PV) (fs:List Act) (rs:List Rec) (st:Nat→St):Prop:=
 ∀i o,ops.toList[i]? =some o→∃rc,rs[i]? =some rc∧StepOk (wpO ro P ops o) ops X W0 ρ fs o rc (st i) (st (i+1))
theorem AllOk.at (h:AllOk ro P ops X W0 ρ fs rs st) (hl:rs.length=ops.toList.length) {i:Nat} (hi:i < ops.toList.length):∃o rc,ops.toList[i]? =some o∧rs[i]? =some rc∧StepOk (wpO ro P ops o) ops X W0 ρ fs o rc (st i) (st (i+1)):=by
 obtain⟨rc,h1,h2⟩:=h i _ (List.getElem?_eq_getElem hi)
 exact⟨_,rc,List.getElem?_eq_getElem hi,h1,h2⟩
theorem heap_look (h:AllOk ro P ops X W0 ρ fs rs st) (hl:rs.length=ops.toList.length) (l:Nat) (p:Nat):∀ (q:Nat),p≤q→q≤ops.toList.length→(∀j rc,p≤j→j < q→rs[j]? =some rc→rc.eff=false∨l∉rc.touched)→look (st q).heap l=look (st p).heap l:=by
 intro q hq
 induction q with
 | zero=>intro _ _;rw[show p=0 by omega]
 | succ q ih=>
  intro hn hall
  by_cases he:p=q+1
  · rw[he]
  · rw[←ih (by omega) (by omega) (fun j rc h1 h2=>hall j rc h1 (by omega))]
    obtain⟨o,rc,_,hrc,hs⟩:=h.at hl (i:=q) (by omega)
    cases heff:rc.eff with
    | false=>rw[(hs.float heff).1]
    | true=>
     rcases hall q rc (by omega) (by omega) hrc with h1 | h1
     · rw[heff]at h1;cases h1
     · exact hs.touch heff l h1
theorem heap_const (h:AllOk ro P ops X W0 ρ fs rs st) (hl:rs.length=ops.toList.length) (p:Nat):∀ (q:Nat),p≤q→q≤ops.toList.length→(∀j rc,p≤j→j < q→rs[j]? =some rc→rc.eff=false)→(st q).heap=(st p).heap∧(st q).nx=(st p).nx:=by
 intro q hq
 induction q with
 | zero=>intro _ _;rw[show p=0 by omega];exact⟨rfl,rfl⟩
 | succ q ih=>
  intro hn hall
  by_cases he:p=q+1
  · rw[he];exact⟨rfl,rfl⟩
  · obtain⟨h1,h2⟩:=ih (by omega) (by omega) (fun j rc h1 h2=>hall j rc h1 (by omega))
    obtain⟨o,rc,_,hrc,hs⟩:=h.at hl (i:=q) (by omega)
    have:=hs.float (hall q rc (by omega) (by omega) hrc)
    exact⟨this.1.trans h1,this.2.1.trans h2⟩
theorem top_look (h:AllOk ro P ops X W0 ρ fs rs st) (hl:rs.length=ops.toList.length) (t:Nat) (p:Nat):∀ (q:Nat),p≤q→q≤ops.toList.length→(∀j rc,p≤j→j < q→rs[j]? =some rc→rc.dst≠some t)→look (st q).top t=look (st p).top t:=by
 intro q hq
 induction q with
 | zero=>intro _ _;rw[show p=0 by omega]
 | succ q ih=>
  intro hn hall
  by_cases he:p=q+1
  · rw[he]
  · rw[←ih (by omega) (by omega) (fun j rc h1 h2=>hall j rc h1 (by omega))]
    obtain⟨o,rc,_,hrc,hs⟩:=h.at hl (i:=q) (by omega)
    rw[top_eq hs.fr]
    exact put_top_other _ _ _ _ (by rw[←hs.dst];exact hall q rc (by omega) (by omega) hrc)
theorem fr_shape (h:AllOk ro P ops X W0 ρ fs rs st) (hl:rs.length=ops.toList.length) (h0:(st 0).fr≠ []):∀ (q:Nat),q≤ops.toList.length→(st q).fr≠ []∧(st q).fr.tail=(st 0).fr.tail:=by
 intro q
 induction q with
 | zero=>intro _;exact⟨h0,rfl⟩
 | succ q ih=>
  intro hn
  obtain⟨h1,h2⟩:=ih (by omega)
  obtain⟨o,rc,_,hrc,hs⟩:=h.at hl (i:=q) (by omega)
  rw[hs.fr]
  exact⟨put_nonnil h1 _ _,(put_tail _ _ _).trans h2⟩
theorem nx_mono (h:AllOk ro P ops X W0 ρ fs rs st) (hl:rs.length=ops.toList.length) (p:Nat):∀ (q:Nat),p≤q→q≤ops.toList.length→(st p).nx≤(st q).nx:=by
 intro q hq
 induction q with
 | zero=>intro _;rw[show p=0 by omega];exact Nat.le_refl _
 | succ q ih=>
  intro hn
  by_cases he:p=q+1
  · rw[he];exact Nat.le_refl _
  · obtain⟨o,rc,_,hrc,hs⟩:=h.at hl (i:=q) (by omega)
    exact Nat.le_trans (ih (by omega) (by omega)) hs.nx
theorem top_src (h:AllOk ro P ops X W0 ρ fs rs st) (hl:rs.length=ops.toList.length) (h0:(st 0).fr≠ []) (t:Nat) (s:SV):∀ (j:Nat),j≤ops.toList.length→look (st j).top t=some s→(∃i rc,i < j∧rs[i]? =some rc∧rc.dst=some t∧rc.sv=s)∨look (st 0).top t=some s:=by
 intro j
 induction j with
 | zero=>intro _ hs;exact .inr hs
 | succ j ih=>
  intro hn hs
  obtain⟨o,rc,_,hrc,hst⟩:=h.at hl (i:=j) (by omega)
  rw[top_eq hst.fr]at hs
  by_cases hd:o.dst=some t
  · rw[hd,put_top_same (fr_shape h hl h0 j (by omega)).1]at hs
    cases hs
    exact .inl ⟨j,rc,Nat.lt_succ_self j,hrc,hst.dst.trans hd,rfl⟩
  · rw[put_top_other _ _ _ _ hd]at hs
    rcases ih (by omega) hs with⟨i,rc',h1,h2⟩ | h1
    · exact .inl ⟨i,rc',by omega,h2⟩
    · exact .inr h1
structure Base (st:Nat→St):Prop where
 top:∀t s,look (st 0).top t=some s→∀x∈s.names,x < (st 0).nx
 tail:∀f∈(st 0).fr.tail,∀t s,look f t=some s→∀x∈s.names,x < (st 0).nx
structure Inv (X:Env) (W0:World) (ρ:List PV) (fs:List Act) (n m:Nat) (rs:List Rec) (st:Nat→St) (S:Nat→Prop) (φ:Names) (a:Act) (w:World) (q p:Nat) (hp:List (Nat×Ob)):Prop where
 le:q≤p
 lep:p≤n
 eff:∀i rc,rs[i]? =some rc→rc.eff=true→(i < q→S i)∧(S i→i < p)∧(rc.neu=none→S i→i < q)
 last:q < p→∃rc,rs[p - 1]? =some rc∧rc.eff=true∧S (p - 1)
 rel:Rel X W0 φ ρ ⟨ρ.length,0,(st p).nx,[],[]::(st 0).fr.tail,hp⟩ (a::fs) w
 hq:∀l o,look (st q).heap l=some o→look hp l=some o
 hm:∀i rc l ob,q≤i→S i→rs[i]? =some rc→rc.neu=some (l,ob)→look hp l=some ob
 names:∀l k,φ l=some k→l < (st q).nx∨∃i rc ob,q≤i∧S i∧rs[i]? =some rc∧rc.neu=some (l,ob)
 fit:∀l o,look hp l=some o→∀x∈o.names,x < (st q).nx
 fr:∀j t s,j≤n→(∀i rc,rs[i]? =some rc→rc.dst=some t→(S i↔i < j))→look (st j).top t=some s→SVR w X φ ρ (st p).nx s (a.tmps.getD t undef)
 size:a.tmps.size=m
theorem neu_at (hall:AllOk ro P ops X W0 ρ fs rs st) (hl:rs.length=ops.toList.length) {i:Nat} {rc:Rec} {m:Nat} {ob:Ob} (hrc:rs[i]? =some rc) (hn:rc.neu=some (m,ob)) :
    i < ops.toList.length∧rc.eff=true∧m=(st i).nx∧(st (i+1)).nx=(st i).nx+1∧(st (i+1)).heap=(m,ob)::(st i).heap∧rc.touched=[m]:=by
 have hi:i < ops.toList.length:=by rw[←hl];exact(List.getElem?_eq_some_iff.1 hrc).1
 obtain⟨o,rc',_,hrc',hs⟩:=hall.at hl hi
 rw[hrc]at hrc'
 cases hrc'
 obtain⟨m1,m2,m3,m4,m5,m6,m7,m8⟩:=hs.make m ob hn
 exact⟨hi,m1,m2,m4,m5,m6⟩
theorem neu_one (hall:AllOk ro P ops X W0 ρ fs rs st) (hl:rs.length=ops.toList.length) {i i':Nat} {rc rc':Rec} {m:Nat} {ob ob':Ob} (hrc:rs[i]? =some rc) (hn:rc.neu=some (m,ob)) (hrc':rs[i']? =some rc') (hn':rc'.neu=some (m,ob')):i=i':=by
 obtain⟨a1,a2,a3,a4,_⟩:=neu_at hall hl hrc hn
 obtain⟨b1,b2,b3,b4,_⟩:=neu_at hall hl hrc' hn'
 rcases Nat.lt_trichotomy i i' with h | h | h
 · have:=nx_mono hall hl (i+1) i' (by omega) (by omega);omega
 · exact h
 · have:=nx_mono hall hl (i'+1) i (by omega) (by omega);omega
theorem Inv.look_in (hall:AllOk ro P ops X W0 ρ fs rs st) (hl:rs.length=ops.toList.length) {n m:Nat} {S:Nat→Prop} {φ:Names} {a:Act} {w:World} {q p:Nat} {hp:List (Nat×Ob)} (hI:Inv X W0 ρ fs n m rs st S φ a w q p hp) {j:Nat} (hqj:q≤j) (hj:j≤ops.toList.length)
    {l:Nat} {o:Ob} (hun:∀j' rc',q≤j'→j' < j→rs[j']? =some rc'→rc'.eff=true→¬S j'→l∉rc'.touched) (h:look (st j).heap l=some o):look hp l=some o:=by
 by_cases hex:∃i rc ob,q≤i∧i < j∧S i∧rs[i]? =some rc∧rc.neu=some (l,ob)
 · obtain⟨i,rc,ob,h1,h2,h3,h4,h5⟩:=hex
   obtain⟨a1,a2,a3,a4,a5,a6⟩:=neu_at hall hl h4 h5
   have hh:look (st j).heap l=look (st (i+1)).heap l:=by
    refine heap_look hall hl l (i+1) j (by omega) hj (fun j' rc' g1 g2 g3=>?_)
    cases he:rc'.eff with
    | false=>exact .inl rfl
    | true=>
     right
     by_cases hS:S j'
     · cases hn:rc'.neu with
       | none=>have:=(hI.eff j' rc' g3 he).2.2 hn hS;omega
       | some x=>
        obtain⟨m',ob'⟩:=x
        obtain⟨_,_,_,_,_,b6⟩:=neu_at hall hl g3 hn
        rw[b6]
        simp only[List.mem_singleton]
        intro e
        subst e
        have:=neu_one hall hl h4 h5 g3 hn
        omega
     · exact hun j' rc' (by omega) g2 g3 he hS
   rw[hh,a5]at h
   simp only[look]at h
   rw[if_pos (by simp)]at h
   rw[←h]
   exact hI.hm i rc l ob h1 h3 h4 h5
 · refine hI.hq l o ?_
   rw[←h]
   refine(heap_look hall hl l q j hqj hj (fun j' rc' g1 g2 g3=>?_)).symm
   cases he:rc'.eff with
   | false=>exact .inl rfl
   | true=>
    right
    by_cases hS:S j'
    · cases hn:rc'.neu with
      | none=>have:=(hI.eff j' rc' g3 he).2.2 hn hS;omega
      | some x=>
       obtain⟨m',ob'⟩:=x
       obtain⟨_,_,_,_,_,b6⟩:=neu_at hall hl g3 hn
       rw[b6]
       simp only[List.mem_singleton]
       intro e
       subst e
       exact hex ⟨j',rc',ob',g1,g2,hS,g3,hn⟩
    · exact hun j' rc' g1 g2 g3 he hS
theorem getD_put_same {a:Act} {t:Nat} {v:Value} (h:t < a.tmps.size):(a.put (some t) v).tmps.getD t undef=v:=by simp[Act.put,Array.getD,h]
theorem getD_put_other {a:Act} {d:Option Tmp} {t:Nat} {v:Value} (h:d≠some t):(a.put d v).tmps.getD t undef=a.tmps.getD t undef:=by
 cases d with
 | none=>rfl
 | some u=>
  have hne:u≠t:=fun e=>h (by rw[e])
  rw[Array.getD_eq_getD_getElem?,Array.getD_eq_getD_getElem?]
  show((a.tmps.setIfInBounds u v)[t]?).getD undef=_
  rw[Array.getElem?_setIfInBounds_ne hne]
theorem inv_step (hall:AllOk ro P ops X W0 ρ fs rs st) (hl:rs.length=ops.toList.length) (h0:(st 0).fr≠ []) (hbase:Base st) {n m:Nat} (hn:n=ops.toList.length) (hdst:∀o∈ops.toList,∀t,o.dst=some t→t < m) {S:Nat→Prop} {φ:Names} {a:Act} {w:World} {q p:Nat} {hp:List (Nat×Ob)} (hI:Inv X W0 ρ fs n m rs st S φ a w q p hp)
    {i:Nat} {o:Oper} (ho:ops.toList[i]? =some o) (hni:¬S i)
    (hlt:∀j x y,j < i→rs[j]? =some x→rs[i]? =some y→apart2 x y=true∨S j) (hgt:∀j x y,i < j→rs[i]? =some x→rs[j]? =some y→apart2 x y=true∨¬S j)
    (hlate:∀j x y,j < i→rs[j]? =some x→rs[i]? =some y→late y x=true)
    {K:Act→World→Prop} {Q:Exit→Act→World→Prop} (hK:∀φ' a' w' q' p' hp',Inv X W0 ρ fs n m rs st (fun j=>S j∨j=i) φ' a' w' q' p' hp'→K a' w'):wpO ro P ops o K Q a w:=by
 obtain⟨rc,hrc,hs⟩:=hall i o ho
 have hi:i < n:=by rw[hn];exact(List.getElem?_eq_some_iff.1 ho).1
 have hpn:=hI.lep
 have hqp:=hI.le
 obtain⟨hne,htail⟩:=fr_shape hall hl h0 i (by omega)
 have hdm:∀t,o.dst=some t→t < a.tmps.size:=fun t ht=>by rw[hI.size];exact hdst o (List.mem_of_getElem? ho) t ht
 have hcut:FrR w X φ ρ (st p).nx (cutFr (st i).top rc.use) a.tmps:=by
  intro t s hs'
  obtain⟨hu,hlk⟩:=look_cut (look_mem _ _ _ hs')
  refine hI.fr i t s (by omega) (fun i' rc' hrc' hd'=>?_) hlk
  rcases Nat.lt_trichotomy i' i with h | h | h
  · refine⟨fun _=>h,fun _=>?_⟩
    rcases hlt i' rc' rc h hrc' hrc with h1 | h1
    · simp only[apart2,apart1,Bool.and_eq_true,hd',Option.all_some,Bool.not_eq_true',List.contains_eq_mem,decide_eq_false_iff_not]at h1
      exact absurd hu h1.1.1.1.1.1.1
    · exact h1
  · subst h
    exact⟨fun h=>absurd h hni,fun h=>absurd h (Nat.lt_irrefl _)⟩
  · refine⟨fun hS=>?_,fun h'=>by omega⟩
    rcases hgt i' rc rc' h hrc hrc' with h1 | h1
    · simp only[apart2,apart1,Bool.and_eq_true,hd',Option.all_some,Bool.not_eq_true',List.contains_eq_mem,decide_eq_false_iff_not]at h1
      exact absurd hu h1.1.1.1.1.2
    · exact absurd hS h1
 have hframe:∀ {φ':Names} {v:Value} {w':World} {nx':Nat},(∀j t s,j≤n→(∀i' rc',rs[i']? =some rc'→rc'.dst=some t→(S i'↔i' < j))→look (st j).top t=some s→∀u,SVR w X φ ρ (st p).nx s u→SVR w' X φ' ρ nx' s u)→SVR w' X φ' ρ nx' rc.sv v→
     ∀j t s,j≤n→(∀i' rc',rs[i']? =some rc'→rc'.dst=some t→((S i'∨i'=i)↔i' < j))→look (st j).top t=some s→SVR w' X φ' ρ nx' s ((a.put o.dst v).tmps.getD t undef):=by
  intro φ' v w' nx' hev hv j t s hj hcond hlk
  by_cases hd:o.dst=some t
  · have hij:i < j:=(hcond i rc hrc (hs.dst.trans hd)).1 (.inr rfl)
    have hlk':look (st j).top t=look (st (i+1)).top t:=by
     refine top_look hall hl t (i+1) j (by omega) (by omega) (fun j' rc' h1 h2 hrc' hd'=>?_)
     have hSj:S j':=((hcond j' rc' hrc' hd').2 h2).resolve_right (by omega)
     rcases hgt j' rc rc' (by omega) hrc hrc' with h3 | h3
     · simp only[apart2,apart1,Bool.and_eq_true,hs.dst,hd,Option.all_some,bne_iff_ne,ne_eq]at h3
       exact h3.1.1.1.1.1.2 hd'
     · exact h3 hSj
    rw[hlk',top_eq hs.fr,hd,put_top_same hne]at hlk
    cases hlk
    rw[hd,getD_put_same (hdm t hd)]
    exact hv
  · rw[getD_put_other hd]
    have hc':∀i' rc',rs[i']? =some rc'→rc'.dst=some t→(S i'↔i' < j):=by
     intro i' rc' hrc' hd'
     rw[←hcond i' rc' hrc' hd']
     refine⟨.inl,fun h=>h.resolve_right fun he=>?_⟩
     subst he
     rw[hrc]at hrc'
     cases hrc'
     exact hd (hs.dst▸hd')
    exact hev j t s hj hc' hlk _ (hI.fr j t s hj hc' hlk)
 have hneed:∀l o',look (keep (st i).heap rc.need) l=some o'→look hp l=some o':=by
  intro l o' hk
  obtain⟨hln,hk⟩:=look_keep hk
  rcases Nat.le_total q i with h | h
  · refine hI.look_in hall hl h (by omega) (fun j' rc' h1 h2 hrc' he' hS=>?_) hk
    rcases hlt j' rc' rc h2 hrc' hrc with h3 | h3
    · simp only[apart2,apart1,Bool.and_eq_true,he',Bool.not_true,Bool.false_or,List.all_eq_true,Bool.not_eq_true',List.contains_eq_mem,decide_eq_false_iff_not]at h3
      exact fun hm=>h3.1.1.2 l hm hln
    · exact absurd h3 hS
  · refine hI.hq l o' ?_
    rw[←hk]
    refine heap_look hall hl l i q h (by omega) (fun j rc' h1 h2 hrc'=>?_)
    cases he':rc'.eff with
    | false=>exact .inl rfl
    | true=>
     right
     have hS:S j:=(hI.eff j rc' hrc' he').1 h2
     have hij:i < j:=by
      rcases Nat.eq_or_lt_of_le h1 with h4 | h4
      · exact absurd (h4▸hS) hni
      · exact h4
     rcases hgt j rc rc' hij hrc hrc' with h3 | h3
     · simp only[apart2,apart1,Bool.and_eq_true,he',Bool.not_true,Bool.false_or,List.all_eq_true,Bool.not_eq_true',List.contains_eq_mem,decide_eq_false_iff_not]at h3
       exact fun hm=>h3.1.2 l hm hln
     · exact absurd hS h3
 cases heff:rc.eff with
 | false=>
  obtain⟨hh,hx,hfl⟩:=hs.float heff
  refine hfl φ (st p).nx a w K Q (by rw[htail];exact hI.rel.turn (n':=0) (j':=0) hcut hneed) fun v w' hb hv=>?_
  have hev:=Evo.ofBelow hb hI.rel
  have hno:∀ {j:Nat} {rc':Rec},rs[j]? =some rc'→rc'.eff=true→j≠i:=by
   intro j rc' hrc' he' he
   subst he
   rw[hrc]at hrc'
   cases hrc'
   rw[heff]at he'
   cases he'
  have hno':∀ {j:Nat} {rc':Rec} {l:Nat} {ob:Ob},rs[j]? =some rc'→rc'.neu=some (l,ob)→j≠i:=fun hrc' hnn=>hno hrc' (neu_at hall hl hrc' hnn).2.1
  refine hK φ _ w' q p hp ⟨hI.le,hI.lep,fun j rc' hrc' he'=>?_,fun hqp'=>?_,(hI.rel.after hb).turn (n':=0) (j':=0) (fun t s h=>by simp[look]at h) (fun _ _ h=>h),hI.hq,fun j rc' l ob h1 h2 h3 h4=>hI.hm j rc' l ob h1 (h2.resolve_right (hno' h3 h4)) h3 h4,fun l k hlk=>?_,hI.fit,
   hframe (fun j t s _ _ _ u h=>SVR.evo hev (List.prefix_refl _) (Nat.le_refl _) s u h) hv,by rw[put_size];exact hI.size⟩
  · obtain⟨e1,e2,e3⟩:=hI.eff j rc' hrc' he'
    exact⟨fun h=> .inl (e1 h),fun h=>e2 (h.resolve_right (hno hrc' he')),fun hnn h=>e3 hnn (h.resolve_right (hno hrc' he'))⟩
  · obtain⟨rc',h1,h2,h3⟩:=hI.last hqp'
    exact⟨rc',h1,h2,.inl h3⟩
  · rcases hI.names l k hlk with h1 | ⟨j,rc',ob,h1,h2,h3⟩
    · exact .inl h1
    · exact .inr ⟨j,rc',ob,h1,.inl h2,h3⟩
 | true =>
  have hqi:q≤i:=by
   rcases Nat.lt_or_ge i q with h | h
   · exact absurd ((hI.eff i rc hrc heff).1 h) hni
   · exact h
  cases hneu:rc.neu with
  | none=>
   have hhv:=hs.heavy heff hneu
   have hord:∀j rc',rs[j]? =some rc'→rc'.eff=true→(S j↔j < i):=by
    intro j rc' hrc' he'
    rcases Nat.lt_trichotomy j i with h | h | h
    · refine⟨fun _=>h,fun _=>?_⟩
      rcases hlt j rc' rc h hrc' hrc with h1 | h1
      · simp[apart2,apart1,heff,he',hneu]at h1
      · exact h1
    · subst h
      exact⟨fun h=>absurd h hni,fun h=>absurd h (Nat.lt_irrefl _)⟩
    · refine⟨fun hS=>?_,fun h'=>by omega⟩
      rcases hgt j rc rc' h hrc hrc' with h1 | h1
      · simp[apart2,apart1,heff,he',hneu]at h1
      · exact absurd hS h1
   have hpi:p≤i:=by
    rcases Nat.eq_or_lt_of_le hqp with h | h
    · omega
    · obtain⟨rc',h1,h2,h3⟩:=hI.last h
      have:=(hord _ rc' h1 h2).1 h3
      omega
   obtain⟨_,hx⟩:=heap_const hall hl p i hpi (by omega) (fun j rc' h1 h2 hrc'=>by
    cases he':rc'.eff with
    | false=>rfl
    | true=>
     have:=(hI.eff j rc' hrc' he').2.1 ((hord j rc' hrc' he').2 h2)
     omega)
   have hheap:∀l o',look (st i).heap l=some o'→look hp l=some o':=fun l o' hk=>hI.look_in hall hl hqi (by omega) (fun j' rc' h1 h2 hrc' he' hS=>absurd ((hord j' rc' hrc' he').2 h2) hS) hk
   refine hhv φ a w K Q (by rw[htail,hx];exact hI.rel.turn (n':=0) (j':=0) hcut hheap) fun φ' v w' hnx hev hrel hv=>?_
   rw[hx]at hev hnx
   rw[htail]at hrel
   have hrel':=hrel.turn (n':=0) (j':=0) (f':= []) (y:=a.put o.dst v) (hp':=(st (i+1)).heap) (fun t s h=>by simp[look]at h) (fun _ _ h=>h)
   refine hK φ' _ w' (i+1) (i+1) (st (i+1)).heap ⟨Nat.le_refl _,by omega,fun j rc' hrc' he'=>?_,fun h=>by omega,hrel',fun l o h=>h,fun j rc' l ob h1 h2 h3 h4=>?_,fun l k hlk=> .inl (hrel'.names l k hlk),fun l ob hlk=>?_,hframe (fun j t s _ _ _ u h=>SVR.evo hev (List.prefix_refl _) hnx s u h) hv,by rw[put_size];exact hI.size⟩
   · rw[hord j rc' hrc' he']
     exact⟨fun h=>by omega,fun h=>by omega,fun _ h=>by omega⟩
   · exfalso
     have he':=(neu_at hall hl h3 h4).2.1
     rw[hord j rc' h3 he']at h2
     omega
   · obtain⟨kk,_,hob⟩:=hrel'.heap l ob hlk
     exact Ob.fits_lt ob (ObR.fits ob hob)
  | some x =>
   obtain⟨m0,ob⟩:=x
   obtain⟨_,hm0,⟨ks,e,rfl⟩,hx1,hh1,htc,hsv,hmk⟩:=hs.make m0 ob hneu
   have hφm:φ m0=none:=by
    cases hc:φ m0 with
    | none=>rfl
    | some k=>
     exfalso
     rcases hI.names m0 k hc with h1 | ⟨j,rc',ob',h1,h2,h3,h4⟩
     · have:=nx_mono hall hl q i hqi (by omega)
       omega
     · have:=neu_one hall hl hrc hneu h3 h4
       subst this
       exact hni h2
   have hmono1:=nx_mono hall hl p (max p (i+1)) (Nat.le_max_left _ _) (by omega)
   have hmono2:=nx_mono hall hl (i+1) (max p (i+1)) (Nat.le_max_right _ _) (by omega)
   have hmono0:=nx_mono hall hl 0 i (by omega) (by omega)
   have hmonoq:=nx_mono hall hl q i hqi (by omega)
   refine hmk φ (st p).nx a w K Q (by rw[htail];exact hI.rel.turn (n':=0) (j':=0) hcut hneed) fun φ1 v w' k hev hbel hφ hk hg hob hv=>?_
   obtain⟨φ2,h2m,h2o,hrel2,hsv2,hown2⟩:=hI.rel.made (a':=a.put o.dst v) (nx':=(st (max p (i+1))).nx) (m:=m0) hev hbel hφ hk hg hob hφm (by omega) hmono1 (fun f hf t s hs' hm=>by have:=hbase.tail f hf t s hs' m0 hm;omega) (fun l o' hl' hm=>by have:=hI.fit l o' hl' m0 hm;omega) (put_defers _ _ _)
   refine hK φ2 _ w' q (max p (i+1)) ((m0,.rows ks e)::hp) ⟨Nat.le_trans hqp (Nat.le_max_left _ _),by omega,fun j rc' hrc' he'=>?_,fun _=>?_,hrel2,fun l o' hlk=>?_,fun j rc' l ob h1 h2 h3 h4=>?_,fun l kk hlk=>?_,fun l o' hlk=>?_,hframe (fun j t s hj hc hlk u h=>?_) (by rw[hsv];exact hown2 v hv),by rw[put_size];exact hI.size⟩
   · obtain⟨e1,e2,e3⟩:=hI.eff j rc' hrc' he'
     refine⟨fun h=> .inl (e1 h),fun h=>?_,fun hnn h=>?_⟩
     · rcases h with h | h
       · have:=e2 h;omega
       · omega
     · rcases h with h | h
       · exact e3 hnn h
       · subst h
         rw[hrc]at hrc'
         cases hrc'
         rw[hneu]at hnn
         cases hnn
   · rcases Nat.lt_or_ge (i+1) p with h | h
     · rw[Nat.max_eq_left (by omega)]
       obtain⟨rc',h1,h2,h3⟩:=hI.last (by omega)
       exact⟨rc',h1,h2,.inl h3⟩
     · rw[Nat.max_eq_right h]
       exact⟨rc,hrc,heff,.inr rfl⟩
   · simp only[look]
     rw[if_neg (by
      simp only[beq_iff_eq]
      intro he
      subst he
      obtain⟨kk,hkk,_⟩:=hI.rel.heap _ _ (hI.hq _ o' hlk)
      rw[hφm]at hkk
      cases hkk)]
     exact hI.hq l o' hlk
   · simp only[look]
     by_cases hji:j=i
     · subst hji
       rw[hrc]at h3
       cases h3
       rw[hneu]at h4
       cases h4
       rw[if_pos (by simp)]
     · rw[if_neg (by
        simp only[beq_iff_eq]
        intro he
        subst he
        exact hji (neu_one hall hl h3 h4 hrc hneu))]
       exact hI.hm j rc' l ob h1 (h2.resolve_right hji) h3 h4
   · by_cases hlm:l=m0
     · subst hlm
       exact .inr ⟨i,rc,_,hqi,.inr rfl,hrc,hneu⟩
     · rw[h2o l hlm]at hlk
       rcases hI.names l kk hlk with h1 | ⟨j,rc',ob,h1,h2,h3⟩
       · exact .inl h1
       · exact .inr ⟨j,rc',ob,h1,.inl h2,h3⟩
   · simp only[look]at hlk
     split at hlk
     · cases hlk
       intro x hx
       simp[Ob.names]at hx
     · exact hI.fit l o' hlk
   · refine hsv2 s u (fun hm=>?_) h
     rcases top_src hall hl h0 t s j (by omega) hlk with⟨i',rc',g1,g2,g3,rfl⟩ | g1
     · have hS:=(hc i' rc' g2 g3).2 g1
       rcases Nat.lt_trichotomy i' i with h' | h' | h'
       · have:=hlate i' rc' rc h' g2 hrc
         simp only[late,hneu,Option.all_some,Bool.not_eq_true',List.contains_eq_mem,decide_eq_false_iff_not]at this
         exact this hm
       · subst h'
         exact hni hS
       · rcases hgt i' rc rc' h' hrc g2 with h3 | h3
         · simp only[apart2,Bool.and_eq_true]at h3
           have:=h3.2.1
           simp only[late,hneu,Option.all_some,Bool.not_eq_true',List.contains_eq_mem,decide_eq_false_iff_not]at this
           exact this hm
         · exact h3 hS
     · have:=hbase.top t s g1 m0 hm
       omega
end
end Go.Proofs.YtckjdlmfibjpaaaGreat.Sx
set_option linter.unusedVariables false
set_option linter.unusedSimpArgs false
namespace Go.Proofs.YtckjdlmfibjpaaaGreat.Sx
open Go.RowKit
section
variable {ro:Option Nat} {P:Program} {X:Env} {W0:World} {ρ:List PV} {fs:List Act} {ops:Array Oper} {rs:List Rec} {st:Nat→St} {tab:List Nat}
theorem mem_ready {listed:Array Bool} {i:Nat} (h:i∈Region.ready .any ops listed):∃o,ops.toList[i]? =some o∧listed.getD i true=false∧∀e∈o.after.toList,Region.binds .any e=true→listed.getD e.on false=true:=by
 simp only[Region.ready,List.mem_filter,List.mem_range,Bool.and_eq_true,Bool.not_eq_true']at h
 obtain⟨h1,h2,h3⟩:=h
 refine⟨ops[i],by simp[h1],h2,?_⟩
 rw[Array.getElem?_eq_getElem h1]at h3
 simp only[Option.map_some,Option.getD_some]at h3
 intro e he hb
 rw[Array.all_eq_true_iff_forall_mem]at h3
 have:=h3 e (by simpa using he)
 rw[hb]at this
 simpa using this
theorem ready_all {listed:Array Bool} (ht:tabOk tab ops.toList 0=true) (hs:listed.size=ops.size) (h:Region.ready .any ops listed=[]):∀ (n i:Nat),i < n→i < ops.size→listed.getD i false=true:=by
 intro n
 induction n with
 | zero=>intro i h;omega
 | succ n ih=>
  intro i hin hi
  cases hli:listed.getD i false with
  | true=>rfl
  | false=>
   have hi':i < listed.size:=by omega
   have hmem:i∈Region.ready .any ops listed:=by
    simp only[Region.ready,List.mem_filter,List.mem_range,Bool.and_eq_true,Bool.not_eq_true']
    refine⟨hi,?_,?_⟩
    · rw[Array.getD_eq_getD_getElem?,Array.getElem?_eq_getElem hi']at hli ⊢
      exact hli
    · rw[Array.getElem?_eq_getElem hi]
      simp only[Option.map_some,Option.getD_some]
      rw[Array.all_eq_true_iff_forall_mem]
      intro e he
      cases hb:Region.binds .any e with
      | false=>rfl
      | true=>
       have:=(tabOk_spec ht (j:=i) (o:=ops[i]) (by simp[hi])).2 e (by simpa using he) hb
       simp only[Nat.zero_add]at this
       simp only[Bool.not_true,Bool.false_or]
       exact ih e.on (by omega) (by omega)
   rw[h]at hmem
   cases hmem
theorem wpAny_inv (hall:AllOk ro P ops X W0 ρ fs rs st) (hl:rs.length=ops.toList.length) (h0:(st 0).fr≠ []) (hbase:Base st) (ht:tabOk tab ops.toList 0=true) (hap:apartAll tab rs 0=true) {m:Nat} (hdst:∀o∈ops.toList,∀t,o.dst=some t→t < m) {Q:Exit→Act→World→Prop}
    (hfin:∀φ a w,Rel X W0 φ ρ ⟨ρ.length,0,(st ops.toList.length).nx,[],(st ops.toList.length).fr,(st ops.toList.length).heap⟩ (a::fs) w→True→a.tmps.size=m→Q .normal a w) :
    ∀ (fuel:Nat) (listed:Array Bool) φ a w q p hp,listed.size=ops.size→((List.range ops.size).filter fun i=>!listed.getD i false).length≤fuel→(∀j o,ops.toList[j]? =some o→listed.getD j false=true→∀e∈o.after.toList,Region.binds .any e=true→listed.getD e.on false=true)→
     Inv X W0 ρ fs ops.toList.length m rs st (fun j=>listed.getD j false=true) φ a w q p hp→wpAnyIn (Fr ro) 0 P .any ops Q fuel listed a w:=by
 have done:∀ (listed:Array Bool) φ a w q p hp,listed.size=ops.size→Inv X W0 ρ fs ops.toList.length m rs st (fun j=>listed.getD j false=true) φ a w q p hp→Region.ready .any ops listed=[]→Q .normal a w:=by
  intro listed φ a w q p hp hsz hI hr
  have hS:∀i,i < ops.toList.length→listed.getD i false=true:=fun i hi=>ready_all ht hsz hr (i+1) i (Nat.lt_succ_self i) (by simpa using hi)
  obtain⟨hne,htail⟩:=fr_shape hall hl h0 ops.toList.length (Nat.le_refl _)
  have hin:∀ {i:Nat} {rc:Rec},rs[i]? =some rc→i < ops.toList.length:=fun h=>by rw[←hl];exact(List.getElem?_eq_some_iff.1 h).1
  obtain⟨_,hx⟩:=heap_const hall hl p ops.toList.length hI.lep (Nat.le_refl _) (fun j rc' h1 h2 hrc'=>by
   cases he':rc'.eff with
   | false=>rfl
   | true=>
    have:=(hI.eff j rc' hrc' he').2.1 (hS j h2)
    omega)
  refine hfin φ a w ?_ trivial hI.size
  have hf:FrR w X φ ρ (st p).nx (st ops.toList.length).top a.tmps:=fun t s hs=>hI.fr _ t s (Nat.le_refl _) (fun i rc hrc _=>⟨fun _=>hin hrc,fun _=>hS i (hin hrc)⟩) hs
  have:=hI.rel.turn (n':=0) (j':=0) hf (hp':=(st ops.toList.length).heap) (fun l o h=>hI.look_in hall hl (Nat.le_trans hI.le hI.lep) (Nat.le_refl _) (fun j' rc' _ h2 _ _ hnS=>absurd (hS j' h2) hnS) h)
  have hfr:(st ops.toList.length).top::(st 0).fr.tail=(st ops.toList.length).fr:=by
   rw[←htail]
   unfold St.top
   cases hc:(st ops.toList.length).fr with
   | nil=>exact absurd hc hne
   | cons f r=>rfl
  rw[hfr,←hx]at this
  exact this
 intro fuel
 induction fuel with
 | zero=>
  intro listed φ a w q p hp hsz hcnt hdown hI
  have hr:Region.ready .any ops listed=[]:=by
   cases hr:Region.ready .any ops listed with
   | nil=>rfl
   | cons i r=>
    have hm:i∈Region.ready .any ops listed:=by rw[hr];simp
    obtain⟨o,ho,hli,_⟩:=mem_ready hm
    have hi:i < ops.size:=by have:=(List.getElem?_eq_some_iff.1 ho).1;simpa using this
    have:i∈(List.range ops.size).filter fun i=>!listed.getD i false:=by
     simp only[List.mem_filter,List.mem_range,Bool.not_eq_true']
     refine⟨hi,?_⟩
     rw[Array.getD_eq_getD_getElem?,Array.getElem?_eq_getElem (by omega)]at hli ⊢
     exact hli
    rw[List.length_eq_zero_iff.1 (Nat.le_zero.1 hcnt)]at this
    cases this
  exact⟨hr,done listed φ a w q p hp hsz hI hr⟩
 | succ fuel ih=>
  intro listed φ a w q p hp hsz hcnt hdown hI
  refine⟨fun hr=>done listed φ a w q p hp hsz hI hr,fun i hi=>?_⟩
  obtain⟨o,ho,hli,hedge⟩:=mem_ready hi
  have hi':i < ops.size:=by have:=(List.getElem?_eq_some_iff.1 ho).1;simpa using this
  have hlf:listed.getD i false=false:=by
   rw[Array.getD_eq_getD_getElem?,Array.getElem?_eq_getElem (by omega)]at hli ⊢
   exact hli
  have hset:∀j,(listed.setIfInBounds i true).getD j false=true↔(listed.getD j false=true∨j=i):=by
   intro j
   rw[Array.getD_eq_getD_getElem?,Array.getD_eq_getD_getElem?,Array.getElem?_setIfInBounds]
   by_cases hji:i=j
   · subst hji
     simp[show i < listed.size by omega]
   · rw[if_neg hji]
     constructor
     · exact .inl
     · rintro(h | h)
       · exact h
       · exact absurd h.symm hji
  have htab:=fun j i' o' hj h1 h2=>tab_ahead (S:=fun j=>listed.getD j false=true) ht hdown (j+1) j i' o' (Nat.lt_succ_self j) hj h1 h2
  have key:wpO ro P ops o (wpAnyIn (Fr ro) 0 P .any ops Q fuel (listed.setIfInBounds i true)) Q a w:=by
   refine inv_step hall hl h0 hbase rfl hdst hI ho (by rw[hlf];simp) (fun j x y hj hx hy=>?_) (fun j x y hj hx hy=>?_) (fun j x y hj hx hy=>(apartAll_spec hap hx hy hj).2) (fun φ' a' w' q' p' hp' hI'=>?_)
   · rcases(apartAll_spec hap hx hy hj).1 with h | h
     · simp only[Nat.zero_add]at h
       exact .inr (htab i j o ho hedge h)
     · exact .inl h
   · rcases(apartAll_spec hap hx hy hj).1 with h | h
     · right
       simp only[Nat.zero_add]at h
       intro hS
       have hjn:j < ops.toList.length:=by rw[←hl];exact(List.getElem?_eq_some_iff.1 hy).1
       have hoj:=List.getElem?_eq_getElem hjn
       have:=htab j i _ hoj (hdown j _ hoj hS) h
       rw[hlf]at this
       cases this
     · exact .inl h
   · refine ih (listed.setIfInBounds i true) φ' a' w' q' p' hp' (by simp[hsz]) ?_ (fun j o' hj hSj e he hb=>?_) ?_
     · have hlt:((List.range ops.size).filter fun j=>!(listed.setIfInBounds i true).getD j false).length < ((List.range ops.size).filter fun j=>!listed.getD j false).length:=by
        have heq:((List.range ops.size).filter fun j=>!(listed.setIfInBounds i true).getD j false)=((List.range ops.size).filter fun j=>!listed.getD j false).filter (fun j=>!(j == i)):=by
         rw[List.filter_filter]
         refine List.filter_congr fun j _=>?_
         have:=hset j
         cases h1:(listed.setIfInBounds i true).getD j false <;> cases h2:listed.getD j false <;> cases h3:(j == i) <;> simp_all
        rw[heq,List.length_filter_lt_length_iff_exists]
        exact⟨i,List.mem_filter.2 ⟨List.mem_range.2 hi',by rw[hlf];rfl⟩,by simp⟩
       omega
     · rw[hset]at hSj ⊢
       rcases hSj with hSj | rfl
       · exact .inl (hdown j o' hj hSj e he hb)
       · rw[ho]at hj
         cases hj
         exact .inl (hedge e he hb)
     · have hS:(fun j=>(listed.setIfInBounds i true).getD j false=true)=(fun j=>listed.getD j false=true∨j=i):=funext fun j=>propext (hset j)
       rw[hS]
       exact hI'
  unfold wpOpIn
  have ho':ops[i]? =some o:=by simpa using ho
  rw[ho']
  unfold wpO at key
  show if _ then _ else _
  split
  · rename_i hw;rw[if_pos hw]at key;exact key
  · rename_i hw;rw[if_neg hw]at key;exact⟨fun _ _=>trivial,key⟩
theorem drawn_sound {sigs:Nat→Option Sig} {C:Nat→List PV→Option (List PV)} {N:Nat} (hm:P.follows .mixedOrders=true) (hC:CallOk P sigs C) {inl:Inl} (hinl:∀X W0,InlOk P N C X W0 inl):DrawnOk P N C X W0 (sxDrawn P sigs inl):=by
 intro ro id ops n fs σ k φ ρ J r a w Q hdst h hJ hdf hsz hk hd
 simp only[sxDrawn]at hd
 split at hd
 · rename_i ht
   obtain⟨ρF,rs,st,g1,g2,g3,g4,g5,g6,g7,g8⟩:=drOps_sound hC hinl ops.toList σ ρ [] h.known h.nv hd
   simp only[List.nil_append]at g7
   split at g7
   · rename_i hap
     have hall:AllOk ro P ops X W0 ρF fs rs st:=fun i o ho=>by
      obtain⟨rc,h1,h2⟩:=g8 i o ho
      exact⟨rc,h1,h2 X W0 fs⟩
     have hne:(st 0).fr≠ []:=by
      rw[g3]
      intro hc
      have:=h.frames
      rw[hc]at this
      simp[FrsR]at this
     refine wpIn_region_any hm ?_
     have hdr:Rel X W0 φ ρF { σ with nv:=ρF.length } (a::fs) w.drew:=(h.after (Below.refl w.heap.size w).drew).grown g1
     have hfr:=hdr.frames
     have hsplit:({ σ with nv:=ρF.length }:St).fr=σ.top::σ.fr.tail:=by
      show σ.fr=_
      unfold St.top
      cases hc:σ.fr with
      | nil=>rw[g3]at hne;exact absurd hc hne
      | cons f r=>rfl
     rw[hsplit]at hfr
     simp only[FrsR]at hfr
     obtain⟨a0,as',he,hf1,hf2⟩:=hfr
     cases he
     have hbase:Base st:=by
      refine⟨fun t s hs x hx=>?_,fun f hf t s hs x hx=>?_⟩
      · rw[g3]at hs ⊢
        exact SV.fits_lt s (SVR.fits s _ (hf1 t s hs)) x hx
      · rw[g3]at hf ⊢
        have:∀ (l:List (List (Nat×SV))) (as:List Act),FrsR w.drew X φ ρF σ.nx l as→∀f∈l,∀t s,look f t=some s→∀x∈s.names,x < σ.nx:=by
         intro l
         induction l with
         | nil=>intro as _ f hf;cases hf
         | cons f0 r ih=>
          intro as hfs f hf t s hs x hx
          simp only[FrsR]at hfs
          obtain⟨b,bs,_,q1,_,q2⟩:=hfs
          rcases List.mem_cons.1 hf with rfl | hf
          · exact SV.fits_lt s (SVR.fits s _ (q1 t s hs)) x hx
          · exact ih bs q2 f hf t s hs x hx
        exact this _ _ hf2.2 f hf t s hs x hx
     refine wpAny_inv (tab:=tabGo ops.toList []) hall g2 hne hbase ht hap hdst (fun φ' a' w' hrel hd' hs'=>?_) ops.size _ φ a _ 0 0 (st 0).heap (by simp) (Nat.le_trans (List.length_filter_le _ _) (by simp)) (fun j o hj hS=>?_) ?_
     · have hfull:Rel X W0 φ' ρF (st ops.toList.length) (a'::fs) w':=⟨hrel.below,hrel.old,hrel.low,hrel.inj,hrel.names,g5,g4,hrel.frames,hrel.heap⟩
       exact hk φ' ρF J (st ops.toList.length) a' w' g1 (List.prefix_refl _) (by rw[g6,hJ]) hfull hd' hs' g7
     · rw[Array.getD_eq_getD_getElem?,Array.getElem?_replicate]at hS
       split at hS <;> cases hS
     · have hno:∀i,¬ ((Array.replicate ops.size false).getD i false=true):=fun i=>by
        rw[Array.getD_eq_getD_getElem?,Array.getElem?_replicate]
        split <;> simp
       refine⟨Nat.le_refl _,Nat.zero_le _,fun i rc _ _=>⟨fun hlt=>absurd hlt (Nat.not_lt_zero _),fun hS=>absurd hS (hno i),fun _ hS=>absurd hS (hno i)⟩,fun h=>absurd h (Nat.lt_irrefl _),?_,fun l o hl=>hl,fun i rc l ob _ hS=>absurd hS (hno i),fun l k hl=> .inl (by rw[g3];exact hdr.names l k hl),fun l o hl=>?_,fun j t s hj hcond hlk=>?_,hsz⟩
       · rw[g3]
         refine⟨hdr.below,hdr.old,hdr.low,hdr.inj,hdr.names,rfl,(fun c b hc=>by cases hc),?_,hdr.heap⟩
         simp only[FrsR]
         exact⟨_,_,rfl,(fun t s hs=>by simp[look]at hs),hf2⟩
       · rw[g3]at hl ⊢
         obtain⟨kk,_,hob⟩:=hdr.heap l o hl
         exact Ob.fits_lt o (ObR.fits o hob)
       · rw[top_look hall g2 t 0 j (Nat.zero_le _) hj (fun i rc _ hij hrc hd'=>hno i ((hcond i rc hrc hd').2 hij)),g3]at hlk
         rw[g3]
         exact hf1 t s hlk
   · simp[T.den]at g7
 · simp[T.den]at hd
end
end Go.Proofs.YtckjdlmfibjpaaaGreat.Sx
set_option linter.unusedVariables false
set_option linter.unusedSimpArgs false
namespace Go.Proofs.YtckjdlmfibjpaaaGreat.Sx
open Go.RowKit
def Ex.sames:List Ex→List Ex→Bool
 | [],[]=>true
 | a::as,b::bs=>a.same b&& Ex.sames as bs
 | _,_=>false
theorem Ex.sames_eq:∀ (a b:List Ex),Ex.sames a b=true→a=b
 | [],[],_=>rfl
 | a::as,b::bs,h=>by simp only[Ex.sames,Bool.and_eq_true]at h;rw[Ex.same_eq a b h.1,Ex.sames_eq as bs h.2]
 | [],_::_,h | _::_,[],h=>by simp[Ex.sames]at h
def T.same:T→T→Bool
 | .fail _,.fail _=>true
 | .ret a,.ret b=>Ex.sames a b
 | .ite c a b,.ite c' a' b'=>c.same c'&& a.same a'&& b.same b'
 | .call f es n k,.call f' es' n' k'=>f == f'&& Ex.sames es es'&& n == n'&& k.same k'
 | .loop es b,.loop es' b'=>Ex.sames es es'&& b.same b'
 | .letj b m,.letj b' m'=>b.same b'&& m.same m'
 | .jump j es,.jump j' es'=>j == j'&& Ex.sames es es'
 | .any k,.any k'=>k.same k'
 | .seq t n k,.seq t' n' k'=>t.same t'&& n == n'&& k.same k'
 | _,_=>false
theorem T.same_den (N:Nat) (C:Nat→List PV→Option (List PV)):∀ (a b:T),a.same b=true→∀ρ J,a.den N C ρ J=b.den N C ρ J:=by
 intro a
 induction a with
 | fail w=>intro b h ρ J;cases b <;> simp_all [T.same,T.den]
 | ret es=>intro b h ρ J;cases b <;> simp[T.same]at h;rw[Ex.sames_eq _ _ h]
 | ite c x y ih1 ih2=>
  intro b h ρ J
  cases b <;> simp[T.same]at h
  simp only[T.den,Ex.same_eq _ _ h.1.1,ih1 _ h.1.2,ih2 _ h.2]
 | call f es n k ih=>
  intro b h ρ J
  cases b <;> simp[T.same]at h
  obtain⟨⟨⟨rfl,h2⟩,rfl⟩,h4⟩:=h
  simp only[T.den,Ex.sames_eq _ _ h2,ih _ h4]
 | loop es b ih=>
  intro b' h ρ J
  cases b' <;> simp[T.same]at h
  simp only[T.den,Ex.sames_eq _ _ h.1,ih _ h.2]
 | letj b m ih1 ih2=>
  intro b' h ρ J
  cases b' <;> simp[T.same]at h
  simp only[T.den,ih1 _ h.1,ih2 _ h.2]
 | jump j es=>
  intro b h ρ J
  cases b <;> simp[T.same]at h
  obtain⟨rfl,h2⟩:=h
  simp only[T.den,Ex.sames_eq _ _ h2]
 | any k ih=>
  intro b h ρ J
  cases b <;> simp[T.same]at h
  simp only[T.den,ih _ h]
 | seq t n k ih1 ih2=>
  intro b h ρ J
  cases b <;> simp[T.same]at h
  obtain⟨⟨h1,rfl⟩,h3⟩:=h
  simp only[T.den,ih1 _ h1,ih2 _ h3]
 | mark σ=>intro b h ρ J;cases b <;> simp[T.same]at h
def T.child (i:Nat):T→T
 | .ite _ a b=>if i=0 then a else b
 | .call _ _ _ k=>k
 | .loop _ b=>b
 | .letj b m=>if i=0 then b else m
 | .any k=>k
 | .seq t _ k=>if i=0 then t else k
 | t=>t
def T.at:List Nat→T→T
 | [],t=>t
 | i::r,t=>(t.child i).at r
def cutsAt (i:Nat) (cuts:List (List Nat)):List (List Nat):=cuts.filterMap fun | j::r=>if j=i then some r else none | []=>none
def T.sameBut:T→T→List (List Nat)→Bool
 | .fail _,.fail _,_=>true
 | .ret a,.ret b,_=>Ex.sames a b
 | .ite c a b,.ite c' a' b',cs=>cs.contains []|| (c.same c'&& a.sameBut a' (cutsAt 0 cs)&& b.sameBut b' (cutsAt 1 cs))
 | .call f es n k,.call f' es' n' k',cs=>cs.contains []|| (f == f'&& Ex.sames es es'&& n == n'&& k.sameBut k' (cutsAt 0 cs))
 | .loop es b,.loop es' b',cs=>cs.contains []|| (Ex.sames es es'&& b.sameBut b' (cutsAt 0 cs))
 | .letj b m,.letj b' m',cs=>cs.contains []|| (b.sameBut b' (cutsAt 0 cs)&& m.sameBut m' (cutsAt 1 cs))
 | .jump j es,.jump j' es',_=>j == j'&& Ex.sames es es'
 | .any k,.any k',cs=>cs.contains []|| k.sameBut k' (cutsAt 0 cs)
 | .seq t n k,.seq t' n' k',cs=>cs.contains []|| (t.sameBut t' (cutsAt 0 cs)&& n == n'&& k.sameBut k' (cutsAt 1 cs))
 | _,_,_=>false
theorem cuts_mem {i:Nat} {cs:List (List Nat)} {p:List Nat} (h:p∈cutsAt i cs):(i::p)∈cs:=by
 simp only[cutsAt,List.mem_filterMap]at h
 obtain⟨q,hq,h⟩:=h
 split at h
 · split at h
   · rename_i hj
     cases h
     exact hj▸hq
   · cases h
 · cases h
theorem T.same_of_cuts:∀ (a b:T) (cs:List (List Nat)),a.sameBut b cs=true→(∀p∈cs,(a.at p).same (b.at p)=true)→a.same b=true:=by
 have top:∀ {a b:T} {cs:List (List Nat)},cs.contains []=true→(∀p∈cs,(a.at p).same (b.at p)=true)→a.same b=true:=fun hc hp=>hp [] (by simpa using hc)
 intro a
 induction a with
 | fail w=>intro b cs h hp;cases b <;> simp_all [T.sameBut,T.same]
 | ret es=>intro b cs h hp;cases b <;> simp_all [T.sameBut,T.same]
 | jump j es=>intro b cs h hp;cases b <;> simp_all [T.sameBut,T.same]
 | mark σ=>intro b cs h hp;cases b <;> simp[T.sameBut]at h
 | ite c x y ih1 ih2=>
  intro b cs h hp
  cases b <;> simp only[T.sameBut,Bool.false_eq_true]at h
  rename_i c' x' y'
  rw[Bool.or_eq_true]at h
  rcases h with h | h
  · exact top h hp
  · simp only[Bool.and_eq_true]at h
    simp only[T.same,Bool.and_eq_true]
    exact⟨⟨h.1.1,ih1 x' _ h.1.2 fun p hm=>by have:=hp _ (cuts_mem hm);simpa [T.at,T.child]using this⟩,ih2 y' _ h.2 fun p hm=>by have:=hp _ (cuts_mem hm);simpa [T.at,T.child]using this⟩
 | call f es n k ih=>
  intro b cs h hp
  cases b <;> simp only[T.sameBut,Bool.false_eq_true]at h
  rename_i f' es' n' k'
  rw[Bool.or_eq_true]at h
  rcases h with h | h
  · exact top h hp
  · simp only[Bool.and_eq_true]at h
    simp only[T.same,Bool.and_eq_true]
    exact⟨h.1,ih k' _ h.2 fun p hm=>by have:=hp _ (cuts_mem hm);simpa [T.at,T.child]using this⟩
 | loop es x ih=>
  intro b cs h hp
  cases b <;> simp only[T.sameBut,Bool.false_eq_true]at h
  rename_i es' x'
  rw[Bool.or_eq_true]at h
  rcases h with h | h
  · exact top h hp
  · simp only[Bool.and_eq_true]at h
    simp only[T.same,Bool.and_eq_true]
    exact⟨h.1,ih x' _ h.2 fun p hm=>by have:=hp _ (cuts_mem hm);simpa [T.at,T.child]using this⟩
 | letj x y ih1 ih2=>
  intro b cs h hp
  cases b <;> simp only[T.sameBut,Bool.false_eq_true]at h
  rename_i x' y'
  rw[Bool.or_eq_true]at h
  rcases h with h | h
  · exact top h hp
  · simp only[Bool.and_eq_true]at h
    simp only[T.same,Bool.and_eq_true]
    exact⟨ih1 x' _ h.1 fun p hm=>by have:=hp _ (cuts_mem hm);simpa [T.at,T.child]using this,ih2 y' _ h.2 fun p hm=>by have:=hp _ (cuts_mem hm);simpa [T.at,T.child]using this⟩
 | any k ih=>
  intro b cs h hp
  cases b <;> simp only[T.sameBut,Bool.false_eq_true]at h
  rename_i k'
  rw[Bool.or_eq_true]at h
  rcases h with h | h
  · exact top h hp
  · simp only[T.same]
    exact ih k' _ h fun p hm=>by have:=hp _ (cuts_mem hm);simpa [T.at,T.child]using this
 | seq t n k ih1 ih2=>
  intro b cs h hp
  cases b <;> simp only[T.sameBut,Bool.false_eq_true]at h
  rename_i t' n' k'
  rw[Bool.or_eq_true]at h
  rcases h with h | h
  · exact top h hp
  · simp only[Bool.and_eq_true]at h
    simp only[T.same,Bool.and_eq_true]
    exact⟨⟨ih1 t' _ h.1.1 fun p hm=>by have:=hp _ (cuts_mem hm);simpa [T.at,T.child]using this,h.1.2⟩,ih2 k' _ h.2 fun p hm=>by have:=hp _ (cuts_mem hm);simpa [T.at,T.child]using this⟩
def told (tr:Nat→Option T) (N:Nat):Nat→Nat→List PV→Option (List PV)
 | 0,_,_=>none
 | d+1,f,args=>match tr f with | some t=>t.den N (told tr N d) args [] | none=>none
theorem told_ok {P:Program} [SortOk P] {sigs:Nat→Option Sig} {tr:Nat→Option T} {depth:Nat} (hm:P.follows .mixedOrders=true)
    (htr:∀f sg t,sigs f=some sg→tr f=some t→∃orc,(treeOf P sigs (ofOrc orc) (sxDrawn P sigs) depth f sg).same t=true) (N:Nat):∀d,CallOk P sigs (told tr N d):=by
 intro d
 induction d with
 | zero=>intro f sg _ args rs h;cases h
 | succ d ih=>
  intro f sg hsg args rs h w vs X hX hA
  simp only[told]at h
  split at h
  · rename_i t ht
    obtain⟨orc,hs⟩:=htr f sg t hsg ht
    exact tree_calls ih (fun inl hinl X W0=>drawn_sound hm ih hinl) (by rw[T.same_den _ _ _ _ hs];exact h) hX hA
  · cases h
end Go.Proofs.YtckjdlmfibjpaaaGreat.Sx
set_option linter.unusedVariables false
namespace Go.Proofs.YtckjdlmfibjpaaaGreat.Sx
def hm (a b:Nat):Nat:=(a*1000003+b*7368787+17) % 2305843009213693951
def hb (b:Bool):Nat:=if b then 1 else 2
def hi (i:Int):Nat:=match i with | .ofNat n=>2*n | .negSucc n=>2*n+1
def hBin:BinOp→Nat
 | .add=>1 | .sub=>2 | .mul=>3 | .quo=>4 | .rem=>5 | .and=>6 | .or=>7 | .xor=>8 | .andNot=>9 | .shl=>10 | .shr=>11 | .eql=>12 | .neq=>13 | .lss=>14 | .leq=>15 | .gtr=>16 | .geq=>17
def hBO:BO→Nat
 | .ar o _=>100+hBin o | .cmp o=>200+hBin o | .beq=>3 | .seq=>4 | .and=>5 | .or=>6 | .max _=>7 | .min _=>8 | .cell j _=>1000+j | .snoc=>9 | .cat=>10 | .cons=>11 | .make=>12 | .copy=>13 | .plus=>14 | .minus=>15 | .byte=>16 | .mget=>17 | .mput=>18 | .rget=>19 | .mhas=>20
def hUO:UO→Nat
 | .not=>1 | .neg _=>2 | .cpl _=>3 | .conv _=>4 | .len=>5 | .slen=>6 | .sort=>7
def hEx:Nat→Ex→Nat
 | _,.var i=>10+7*i
 | _,.int _ n=>11+7*hi n
 | _,.bool b=>12+7*hb b
 | _,.str s=>13+7*s.size
 | _,.nil=>14
 | _,.nilc=>15
 | 0,_=>16
 | d+1,.un o a=>hm (hUO o) (hEx d a)
 | d+1,.bin o a b=>hm (hm (hBO o) (hEx d a)) (hEx d b)
 | d+1,.tri _ a b c=>hm (hm (hEx d a) (hEx d b)) (hEx d c)
def hOEx:Option (Ex×Ex)→Nat
 | none=>3
 | some (a,b)=>hm (hEx 3 a) (hEx 3 b)
mutual
def hSV:SV→Nat
 | .undef=>1 | .skip=>2 | .nilS=>3 | .nilP=>4 | .nilF=>41
 | .ex _ e=>hm 5 (hEx 4 e)
 | .gd c s=>hm (hEx 3 c) (hSV s)
 | .agg l=>hm 6 (hSVs l)
 | .tup l=>hm 7 (hSVs l)
 | .ptr l i o=>hm (hm l (hEx 3 i)) o
 | .rptr _ e i o=>hm (hm (hEx 3 e) (hEx 3 i)) o
 | .own l p=>hm l (hOEx p)
 | .fn f c=>hm (100+f) (hSVs c)
 | .yld m=>1000+m
 | .mp l=>2000+l
 | .alt c x y=>hm (hm (hEx 3 c) (hSV x)) (hSV y)
 | .bfn f c=>hm (200+f) (hSVs c)
 | .mrow l e=>hm (3000+l) (hEx 3 e)
 | .fbox c o=>hm (300+o) (hSVs c)
 | .mptr l e i o=>hm (hm (hm (4000+l) (hEx 3 e)) (hEx 3 i)) o
def hSVs:List SV→Nat
 | []=>9
 | s::r=>hm (hSV s) (hSVs r)
end
def hFr:List (Nat×SV)→Nat
 | []=>5
 | (t,s)::r=>hm (hm t (hSV s)) (hFr r)
def hFrs:List (List (Nat×SV))→Nat
 | []=>6
 | f::r=>hm (hFr f) (hFrs r)
def hOb:Ob→Nat
 | .box cs=>hm 1 (hSVs cs)
 | .rows _ e=>hm 2 (hEx 4 e)
 | .imap e=>hm 3 (hEx 4 e)
 | .rmap _ e h=>hm (hm 4 (hEx 4 e)) (match h with | none=>1 | some x=>hEx 3 x)
def hHeap:List (Nat×Ob)→Nat
 | []=>7
 | (l,o)::r=>hm (hm l (hOb o)) (hHeap r)
def hKn:List (Ex×Bool)→Nat
 | []=>8
 | (e,b)::r=>hm (hm (hEx 4 e) (hb b)) (hKn r)
def hLv:List Nat→Nat
 | []=>9
 | n::r=>hm n (hLv r)
def keyOf (live:List Nat) (σ:St):Nat:=hm (hm (hm (hm (hm σ.nv σ.nx) (hKn σ.known)) (hFrs σ.fr)) (hHeap σ.heap)) (hLv live)
structure Df where
 nv:Nat
 nx:Nat
 fr:List (List Nat×List (Nat×SV))
 hd:List Nat
 hn:List (Nat×Ob)
def dropL {α:Type} (l:List (Nat×α)) (d:List Nat):List (Nat×α):=l.filter fun x=>!d.contains x.1
def Df.frs:List (List Nat×List (Nat×SV))→List (List (Nat×SV))→List (List (Nat×SV))
 | (d,n)::r,f::fs=>(n++dropL f d)::Df.frs r fs
 | _,fs=>fs
def Df.on (live:List Nat) (σ:St) (d:Df):St:=
 { nv:=d.nv,jl:=σ.jl,nx:=d.nx,known:=σ.known,
   fr:=Df.frs d.fr (match σ.fr with | f::r=>(f.filter fun x=>live.contains x.1)::r | []=> []),
   heap:=d.hn++dropL σ.heap d.hd }
def preOf (σ:St):Nat:=hm (hm (hm (hm σ.nv σ.nx) σ.known.length) σ.heap.length) (hLv (σ.fr.map List.length))
def orcGo (live:List Nat) (σ:St):List (Nat×List (Nat×Df))→Nat→Option St
 | [],_=>none
 | (p,l)::r,n=>if p == n then(look l (keyOf live σ)).map (Df.on live σ)else orcGo live σ r n
def orcOf (l:List (Nat×List (Nat×Df))):Orc:=fun live σ=>orcGo live σ l (preOf σ)
end Go.Proofs.YtckjdlmfibjpaaaGreat.Sx
set_option linter.unusedVariables false
set_option linter.unusedSimpArgs false
namespace Go.Proofs.YtckjdlmfibjpaaaGreat.Sx
inductive JT where
 | join (b:T) (ρ:List PV)
 | loop (b:T) (ρ:List PV)
def run (tr:Nat→Option T):Nat→T→List PV→List JT→Option (List PV)
 | 0,_,_,_=>none
 | h+1,t,ρ,J=>
  match t with
  | .ret es=>some (es.map (·.den ρ))
  | .ite c a b=>if(c.den ρ).b=true then run tr h a ρ J else run tr h b ρ J
  | .call f es n k=>(tr f).bind fun t=>(run tr h t (es.map (·.den ρ)) []).bind fun vs=>if vs.length=n then run tr h k (ρ++vs) J else none
  | .loop es b=>run tr h b (ρ++es.map (·.den ρ)) (J++ [.loop b ρ])
  | .letj b m=>run tr h m ρ (J++ [.join b ρ])
  | .jump j es=>
   match J[j]? with
   | some (.join b ρ0)=>run tr h b (ρ0++es.map (·.den ρ)) (J.take j)
   | some (.loop b ρ0)=>run tr h b (ρ0++es.map (·.den ρ)) (J.take (j+1))
   | none=>none
  | .seq t n k=>(run tr h t ρ []).bind fun vs=>if vs.length=n then run tr h k (ρ++vs) J else none
  | .any k=>agree (run tr h k (ρ++ [.bool true]) J) (run tr h k (ρ++ [.bool false]) J)
  | _=>none
def JGood (C:Nat→List PV→Option (List PV)) (N h:Nat) (J:List JT) (Jf:List (List PV→Option (List PV))):Prop:=
 J.length=Jf.length∧∀ (j:Nat) (x:JT),J[j]? =some x→match x with
  | .join b ρ0=>Jf[j]? =some (fun vs=>b.den N C (ρ0++vs) (Jf.take j))
  | .loop b ρ0=>∃m,h≤m∧Jf[j]? =some (loopN (fun self vs=>b.den N C (ρ0++vs) (Jf.take j++ [self])) m)
theorem JGood.mono {C:Nat→List PV→Option (List PV)} {N h h':Nat} {J:List JT} {Jf:List (List PV→Option (List PV))} (hg:JGood C N h J Jf) (hh:h'≤h):JGood C N h' J Jf:=by
 refine⟨hg.1,fun j x hx=>?_⟩
 have:=hg.2 j x hx
 cases x with
 | join b ρ0=>exact this
 | loop b ρ0=>obtain⟨m,h1,h2⟩:=this;exact⟨m,by omega,h2⟩
theorem JGood.take {C:Nat→List PV→Option (List PV)} {N h:Nat} {J:List JT} {Jf:List (List PV→Option (List PV))} (hg:JGood C N h J Jf) (i:Nat):JGood C N h (J.take i) (Jf.take i):=by
 refine⟨by simp[hg.1],fun j x hx=>?_⟩
 rw[List.getElem?_take]at hx
 split at hx
 · rename_i hj
   have:=hg.2 j x hx
   have ht:(Jf.take i).take j=Jf.take j:=by rw[List.take_take];congr 1;omega
   cases x with
   | join b ρ0=>simp only at this ⊢;rw[List.getElem?_take,if_pos hj,this,ht]
   | loop b ρ0=>obtain⟨m,h1,h2⟩:=this;exact⟨m,h1,by rw[List.getElem?_take,if_pos hj,h2,ht]⟩
 · cases hx
theorem JGood.push {C:Nat→List PV→Option (List PV)} {N h:Nat} {J:List JT} {Jf:List (List PV→Option (List PV))} (hg:JGood C N h J Jf) {x:JT} {f:List PV→Option (List PV)}
    (hx:match x with | .join b ρ0=>f=(fun vs=>b.den N C (ρ0++vs) Jf) | .loop b ρ0=>∃m,h≤m∧f=loopN (fun self vs=>b.den N C (ρ0++vs) (Jf++ [self])) m):JGood C N h (J++ [x]) (Jf++ [f]):=by
 refine⟨by simp[hg.1],fun j y hy=>?_⟩
 by_cases hj:j < J.length
 · rw[List.getElem?_append_left hj]at hy
   have:=hg.2 j y hy
   have hj':j < Jf.length:=by rw[←hg.1];exact hj
   have ht:(Jf++ [f]).take j=Jf.take j:=List.take_append_of_le_length (by omega)
   cases y with
   | join b ρ0=>simp only at this ⊢;rw[List.getElem?_append_left hj',this,ht]
   | loop b ρ0=>obtain⟨m,h1,h2⟩:=this;exact⟨m,h1,by rw[List.getElem?_append_left hj',h2,ht]⟩
 · have hje:j=J.length:=by
    have:=(List.getElem?_eq_some_iff.1 hy).1
    simp at this
    omega
   subst hje
   rw[List.getElem?_append_right (Nat.le_refl _)]at hy
   simp only[Nat.sub_self,List.getElem?_cons_zero,Option.some.injEq]at hy
   subst hy
   have ht:(Jf++ [f]).take J.length=Jf:=by rw[hg.1,List.take_append_of_le_length (Nat.le_refl _),List.take_length]
   have hf:(Jf++ [f])[J.length]? =some f:=by rw[hg.1,List.getElem?_append_right (Nat.le_refl _)];simp
   cases x with
   | join b ρ0=>simp only at hx ⊢;rw[hf,ht,hx]
   | loop b ρ0=>obtain⟨m,h1,h2⟩:=hx;exact⟨m,h1,by rw[hf,ht,h2]⟩
theorem run_den {tr:Nat→Option T} {N:Nat}:∀ (h:Nat) (t:T) (ρ:List PV) (J:List JT) (r:List PV),run tr h t ρ J=some r→h≤N→∀ (d:Nat),h≤d→∀Jf,JGood (told tr N d) N h J Jf→t.den N (told tr N d) ρ Jf=some r:=by
 intro h
 induction h with
 | zero=>intro t ρ J r h;cases h
 | succ h ih=>
  intro t ρ J r hr hN d hd Jf hg
  have hg':=hg.mono (Nat.le_succ h)
  cases t with
  | fail w=>cases hr
  | mark σ=>cases hr
  | ret es=>exact hr
  | ite c a b=>
   simp only[run]at hr
   simp only[T.den]
   split
   · rename_i hc;rw[if_pos hc]at hr;exact ih a ρ J r hr (by omega) d (by omega) Jf hg'
   · rename_i hc;rw[if_neg hc]at hr;exact ih b ρ J r hr (by omega) d (by omega) Jf hg'
  | call f es n k=>
   simp only[run,Option.bind_eq_some_iff]at hr
   obtain⟨t,ht,vs,hv,hr⟩:=hr
   simp only[T.den,Option.bind_eq_some_iff]
   refine⟨vs,?_,?_⟩
   · cases d with
     | zero=>omega
     | succ d=>
      simp only[told,ht]
      exact ih t _ [] vs hv (by omega) d (by omega) [] ⟨rfl,fun j x hx=>by simp at hx⟩
   · split at hr
     · rename_i hl;rw[if_pos hl];exact ih k _ J r hr (by omega) d (by omega) Jf hg'
     · cases hr
  | loop es b=>
   simp only[run]at hr
   simp only[T.den]
   cases N with
   | zero=>omega
   | succ N=>
    simp only[loopN]
    exact ih b _ _ r hr (by omega) d (by omega) _ (hg'.push (x:= .loop b ρ) ⟨N,by omega,rfl⟩)
  | letj b m=>
   simp only[run]at hr
   simp only[T.den]
   exact ih m ρ _ r hr (by omega) d (by omega) _ (hg'.push (x:= .join b ρ) rfl)
  | seq t n k=>
   simp only[run,Option.bind_eq_some_iff]at hr
   obtain⟨vs,hv,hr⟩:=hr
   simp only[T.den,Option.bind_eq_some_iff]
   refine⟨vs,ih t _ [] vs hv (by omega) d (by omega) [] ⟨rfl,fun j x hx=>by simp at hx⟩,?_⟩
   split at hr
   · rename_i hl;rw[if_pos hl];exact ih k _ J r hr (by omega) d (by omega) Jf hg'
   · cases hr
  | any k=>
   simp only[run,agree_some]at hr
   simp only[T.den,agree_some]
   exact⟨ih k _ J r hr.1 (by omega) d (by omega) Jf hg',ih k _ J r hr.2 (by omega) d (by omega) Jf hg'⟩
  | jump j es=>
   simp only[run]at hr
   simp only[T.den]
   split at hr
   · rename_i b ρ0 hj
     have:=hg.2 j _ hj
     simp only at this
     rw[this]
     exact ih b _ _ r hr (by omega) d (by omega) _ (hg'.take j)
   · rename_i b ρ0 hj
     obtain⟨m,hm,hf⟩:=hg.2 j _ hj
     rw[hf]
     cases m with
     | zero=>omega
     | succ m=>
      simp only[loopN]
      have hpush:=(hg'.take j).push (x:= .loop b ρ0) (f:=loopN (fun self vs=>b.den N (told tr N d) (ρ0++vs) (Jf.take j++ [self])) m) ⟨m,by omega,rfl⟩
      have hJ:J.take (j+1)=J.take j++ [.loop b ρ0]:=by rw[List.take_add_one,hj];rfl
      rw[hJ]at hr
      exact ih b _ _ r hr (by omega) d (by omega) _ hpush
   · cases hr
theorem run_mono {tr:Nat→Option T}:∀ (h h':Nat) (t:T) (ρ:List PV) (J:List JT) (r:List PV),h≤h'→run tr h t ρ J=some r→run tr h' t ρ J=some r:=by
 intro h
 induction h with
 | zero=>intro h' t ρ J r _ hr;cases hr
 | succ h ih=>
  intro h' t ρ J r hh hr
  cases h' with
  | zero=>omega
  | succ h'=>
   have hle:h≤h':=by omega
   cases t with
   | fail w=>cases hr
   | mark σ=>cases hr
   | ret es=>exact hr
   | ite c a b=>
    simp only[run]at hr ⊢
    split
    · rename_i hc;rw[if_pos hc]at hr;exact ih h' _ _ _ _ hle hr
    · rename_i hc;rw[if_neg hc]at hr;exact ih h' _ _ _ _ hle hr
   | call f es n k=>
    simp only[run,Option.bind_eq_some_iff]at hr ⊢
    obtain⟨t,ht,vs,hv,hr⟩:=hr
    refine⟨t,ht,vs,ih h' _ _ _ _ hle hv,?_⟩
    split at hr
    · rename_i hl;rw[if_pos hl];exact ih h' _ _ _ _ hle hr
    · cases hr
   | loop es b=>simp only[run]at hr ⊢;exact ih h' _ _ _ _ hle hr
   | letj b m=>simp only[run]at hr ⊢;exact ih h' _ _ _ _ hle hr
   | seq t n k=>
    simp only[run,Option.bind_eq_some_iff]at hr ⊢
    obtain⟨vs,hv,hr⟩:=hr
    refine⟨vs,ih h' _ _ _ _ hle hv,?_⟩
    split at hr
    · rename_i hl;rw[if_pos hl];exact ih h' _ _ _ _ hle hr
    · cases hr
   | any k=>
    simp only[run,agree_some]at hr ⊢
    exact⟨ih h' _ _ _ _ hle hr.1,ih h' _ _ _ _ hle hr.2⟩
   | jump j es=>
    simp only[run]at hr ⊢
    split at hr
    · exact ih h' _ _ _ _ hle hr
    · exact ih h' _ _ _ _ hle hr
    · cases hr
def Run (tr:Nat→Option T) (t:T) (ρ:List PV) (J:List JT) (r:List PV):Prop:=∃h,run tr h t ρ J=some r
section
variable {tr:Nat→Option T} {ρ:List PV} {J:List JT} {r:List PV}
theorem Run.ret {es:List Ex} (h:es.map (·.den ρ)=r):Run tr (.ret es) ρ J r:=⟨1,by simp only[run,h]⟩
theorem Run.ite {c:Ex} {a b:T} (h:if(c.den ρ).b=true then Run tr a ρ J r else Run tr b ρ J r):Run tr (.ite c a b) ρ J r:=by
 split at h
 · rename_i hc;obtain⟨n,hn⟩:=h;exact⟨n+1,by simp only[run,if_pos hc,hn]⟩
 · rename_i hc;obtain⟨n,hn⟩:=h;exact⟨n+1,by simp only[run,if_neg hc,hn]⟩
theorem Run.call {f:Nat} {es:List Ex} {n:Nat} {k t:T} {vs:List PV} (ht:tr f=some t) (hv:Run tr t (es.map (·.den ρ)) [] vs) (hl:vs.length=n) (h:Run tr k (ρ++vs) J r):Run tr (.call f es n k) ρ J r:=by
 obtain⟨a,ha⟩:=hv
 obtain⟨b,hb⟩:=h
 refine⟨max a b+1,?_⟩
 simp only[run,ht,Option.bind_some,run_mono a (max a b) _ _ _ _ (Nat.le_max_left _ _) ha,if_pos hl]
 exact run_mono b (max a b) _ _ _ _ (Nat.le_max_right _ _) hb
theorem Run.seq {t k:T} {n:Nat} {vs:List PV} (hv:Run tr t ρ [] vs) (hl:vs.length=n) (h:Run tr k (ρ++vs) J r):Run tr (.seq t n k) ρ J r:=by
 obtain⟨a,ha⟩:=hv
 obtain⟨b,hb⟩:=h
 refine⟨max a b+1,?_⟩
 simp only[run,run_mono a (max a b) _ _ _ _ (Nat.le_max_left _ _) ha,Option.bind_some,if_pos hl]
 exact run_mono b (max a b) _ _ _ _ (Nat.le_max_right _ _) hb
theorem Run.loop {es:List Ex} {b:T} (h:Run tr b (ρ++es.map (·.den ρ)) (J++ [.loop b ρ]) r):Run tr (.loop es b) ρ J r:=by obtain⟨n,hn⟩:=h;exact⟨n+1,hn⟩
theorem Run.letj {b m:T} (h:Run tr m ρ (J++ [.join b ρ]) r):Run tr (.letj b m) ρ J r:=by obtain⟨n,hn⟩:=h;exact⟨n+1,hn⟩
theorem Run.toJoin {j:Nat} {es:List Ex} {b:T} {ρ0:List PV} (hj:J[j]? =some (.join b ρ0)) (h:Run tr b (ρ0++es.map (·.den ρ)) (J.take j) r):Run tr (.jump j es) ρ J r:=by
 obtain⟨n,hn⟩:=h;exact⟨n+1,by simp only[run,hj];exact hn⟩
theorem Run.toLoop {j:Nat} {es:List Ex} {b:T} {ρ0:List PV} (hj:J[j]? =some (.loop b ρ0)) (h:Run tr b (ρ0++es.map (·.den ρ)) (J.take (j+1)) r):Run tr (.jump j es) ρ J r:=by
 obtain⟨n,hn⟩:=h;exact⟨n+1,by simp only[run,hj];exact hn⟩
theorem Run.told {f:Nat} {t:T} {args:List PV} (ht:tr f=some t) (h:Run tr t args [] r):∃k,told tr k k f args=some r:=by
 obtain⟨n,hn⟩:=h
 refine⟨n+1,?_⟩
 simp only[Sx.told,ht]
 exact run_den n t args [] r hn (by omega) n (Nat.le_refl _) [] ⟨rfl,fun j x hx=>by simp at hx⟩
end
end Go.Proofs.YtckjdlmfibjpaaaGreat.Sx

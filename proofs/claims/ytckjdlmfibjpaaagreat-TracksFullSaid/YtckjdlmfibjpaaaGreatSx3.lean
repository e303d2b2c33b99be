/- Symbolic running of the program's code, over any program, with its proof (3 of 6): definitions and lemmas. No condition. -/
import Derived.Test.YtckjdlmfibjpaaaGreatSx2
import Derived.Tactics
import Derived.Scope
import Derived.TacticsIn
import Derived.OrdersIn
import Derived.LoopNIn
import Derived.OwnWalkIn
import Derived.RangeFuncIn
import Derived.RangeFuncLeaves
import Derived.RangeFuncRecord
import Derived.RangeFuncSeq
set_option linter.unusedVariables false
set_option linter.unusedSimpArgs false
namespace Go.Proofs.YtckjdlmfibjpaaaGreat.Sx
open Go.RowKit
section
variable {P:Program} {X:Env} {W0:World} {φ:Names} {ρ:List PV} {σ:St} {a:Act} {fs:List Act} {w:World} {nx:Nat} {U:Nat→Prop}
mutual
theorem RV.one:∀ (k:LK) (p:PV) (v:Value),RV w U k p v→v.oneCell'=true
 | .int k,p,v,h=>by simp only[RV]at h;obtain⟨_,_,rfl⟩:=h;rfl
 | .bool,p,v,h=>by simp only[RV]at h;obtain⟨_,_,rfl⟩:=h;rfl
 | .str,p,v,h=>by simp only[RV]at h;obtain⟨_,_,rfl⟩:=h;rfl
 | .any,p,v,h=>by simp only[RV]at h;exact h
 | .row ks,p,v,h=>by simp only[RV]at h;obtain⟨_,_,_,_,rfl,_⟩:=h;rfl
end
theorem RVs.one:∀ {ks:List LK} {ps:List PV} {vs:List Value},RVs w U ks ps vs→∀v∈vs,v.oneCell'=true
 | [],ps,vs,h,v,hv=>by simp only[RVs]at h;rw[h.2]at hv;cases hv
 | k::ks,ps,vs,h,v,hv=>by
  simp only[RVs]at h
  obtain⟨p,ps',u,vs',rfl,rfl,h1,h2⟩:=h
  rcases List.mem_cons.1 hv with rfl | hv
  · exact RV.one _ _ _ h1
  · exact RVs.one h2 v hv
def Rws (w:World) (U:Nat→Prop) (ks:List LK) (xs:List (List PV)) (L:List Value):Prop:=∀i x,xs[i]? =some x→RVs w U ks x ((L.drop (i*ks.length)).take ks.length)
theorem Rws.append {ks:List LK} {xs ys:List (List PV)} {L M R:List Value} (hx:Rws w U ks xs L) (hL:L.length=xs.length*ks.length) (hy:Rws w U ks ys M) (hM:M.length=ys.length*ks.length):Rws w U ks (xs++ys) (L++M++R):=by
 intro i x hi
 by_cases h:i < xs.length
 · rw[List.getElem?_append_left h]at hi
   have:=hx i x hi
   have hle:(i+1)*ks.length≤xs.length*ks.length:=Nat.mul_le_mul_right _ h
   rw[Nat.add_mul]at hle
   rw[List.append_assoc,List.drop_append_of_le_length (by omega),List.take_append_of_le_length (by simp;omega)]
   exact this
 · rw[List.getElem?_append_right (by omega)]at hi
   have:=hy _ x hi
   have hlt:i - xs.length < ys.length:=(List.getElem?_eq_some_iff.1 hi).1
   have hle:(i - xs.length+1)*ks.length≤ys.length*ks.length:=Nat.mul_le_mul_right _ hlt
   rw[Nat.add_mul]at hle
   have hid:i*ks.length=L.length+(i - xs.length)*ks.length:=by rw[hL,←Nat.add_mul];congr 1;omega
   rw[hid,List.append_assoc,←List.drop_drop,List.drop_left,List.drop_append_of_le_length (by omega),List.take_append_of_le_length (by simp;omega)]
   exact this
theorem Rws.take {ks:List LK} {xs:List (List PV)} {L:List Value} (h:Rws w U ks xs L):Rws w U ks xs (L.take (xs.length*ks.length)):=by
 intro i x hi
 have:=h i x hi
 have hlt:i < xs.length:=(List.getElem?_eq_some_iff.1 hi).1
 have hle:(i+1)*ks.length≤xs.length*ks.length:=Nat.mul_le_mul_right _ hlt
 rw[Nat.add_mul]at hle
 rw[List.drop_take,List.take_take,Nat.min_eq_left (by omega)]
 exact this
theorem Rws.one {ks:List LK} {xs:List (List PV)} {L:List Value} (h:Rws w U ks xs L) (hL:L.length=xs.length*ks.length):∀v∈L,v.oneCell'=true:=by
 intro v hv
 obtain⟨j,hj⟩:=List.getElem?_of_mem hv
 have hjl:j < xs.length*ks.length:=by have:=(List.getElem?_eq_some_iff.1 hj).1;omega
 have hkpos : 0 < ks.length := by rcases Nat.eq_zero_or_pos ks.length with hz | hz; · rw[hz]at hjl;omega
                                  · exact hz
 have hi:j / ks.length < xs.length:=by rw[Nat.div_lt_iff_lt_mul hkpos];exact hjl
 have hr:=h _ _ (List.getElem?_eq_getElem hi)
 refine hr.one v (List.mem_of_getElem? (i:=j % ks.length) ?_)
 rw[List.getElem?_take_of_lt (Nat.mod_lt _ hkpos),List.getElem?_drop,Nat.mul_comm,Nat.div_add_mod]
 exact hj
theorem Rws.mono {w':World} {U':Nat→Prop} {ks:List LK} {xs:List (List PV)} {L:List Value} (hs:w.heap.size≤w'.heap.size) (hb:∀b,b < w.heap.size→¬U b→w'.heap[b]? =w.heap[b]? ∧¬U' b) (h:Rws w U ks xs L):Rws w' U' ks xs L:=
 fun i x hi=>RVs.mono hs hb _ _ _ (h i x hi)
theorem flat_cells {ks:List LK} {b:Nat}:∀ (ys:List (List PV)) (off:Nat),(∀i x,ys[i]? =some x→∃vs:List Value,RVs w U ks x vs∧∀j u,vs[j]? =some u→w.cell? ⟨b,off+(i*ks.length+j),none⟩=some u)→
    ∃L:List Value,L.length=ys.length*ks.length∧Rws w U ks ys L∧(∀j u,L[j]? =some u→w.cell? ⟨b,off+j,none⟩=some u)∧∀v∈L,v.oneCell'=true
 | [],off,_=>⟨[],by simp,fun i x hi=>by simp at hi,fun j u hj=>by simp at hj,fun v hv=>by cases hv⟩
 | y ::r,off,h=>by
  obtain⟨vs,hvs,hc⟩:=h 0 y rfl
  obtain⟨L,hL,hR,hcell,hone⟩:=flat_cells r (off+ks.length) (fun i x hi=>by
   obtain⟨us,hus,hcu⟩:=h (i+1) x (by simpa using hi)
   refine⟨us,hus,fun j u hj=>?_⟩
   rw[←hcu j u hj,Nat.add_mul]
   congr 2
   omega)
  have hvl:=hvs.length.2
  refine⟨vs++L,by simp[hL,hvl,Nat.add_mul];omega,fun i x hi=>?_,fun j u hj=>?_,fun v hv=>?_⟩
  · cases i with
    | zero=>
     simp at hi
     subst hi
     rw[Nat.zero_mul,List.drop_zero,←hvl,List.take_left]
     exact hvs
    | succ i=>
     simp at hi
     rw[Nat.add_mul,Nat.one_mul,Nat.add_comm,←List.drop_drop]
     conv=>arg 5;rw[←hvl,List.drop_left,hvl]
     exact hR i x hi
  · by_cases hj':j < vs.length
    · rw[List.getElem?_append_left hj']at hj
      have:=hc j u hj
      simpa using this
    · rw[List.getElem?_append_right (by omega)]at hj
      have:=hcell _ u hj
      rw[←this]
      congr 2
      omega
  · rcases List.mem_append.1 hv with hv | hv
    · exact hvs.one v hv
    · exact hone v hv
theorem row_cells {ks:List LK} {p:PV} {v:Value} (h:RV w U (.row ks) p v):∃ys a cap,p= .row ys∧v= .slice a ys.length cap∧ys.length≤cap∧
    (ys=[]∨∃ad L,a=some ad∧ad.spot=none∧L.length=ys.length*ks.length∧Rws w U ks ys L∧(∀j u,L[j]? =some u→w.cell? (ad.add j)=some u)∧∀u∈L,u.oneCell'=true):=by
 simp only[RV]at h
 obtain⟨ys,a,cap,hp,hv,hc,hne⟩:=h
 refine⟨ys,a,cap,hp,hv,hc,?_⟩
 by_cases hy:ys=[]
 · exact .inl hy
 · obtain⟨ad,ha,hsp,_,_,hrows⟩:=hne hy
   obtain⟨L,h1,h2,h3,h4⟩:=flat_cells (b:=ad.block) ys ad.off hrows
   refine .inr ⟨ad,L,ha,hsp,h1,h2,fun j u hj=>?_,h4⟩
   obtain⟨b,off,sp⟩:=ad
   simp only at hsp h3
   subst hsp
   rw[add_none]
   exact h3 j u hj
theorem append_room {t ty e el:TypeId} {i:TypeInfo} (ht:P.underlying t=some (.slice e)) (hi:P.info? e=some i) {g sLen sCap:Nat} {cur:Array Value} (hg:w.heap[g]? =some (.cells cur el (0,0)))
    {a:Addr} {m c:Nat} {news:List Value} (hl:news.length=m*i.size) (hnews:∀j u,news[j]? =some u→w.cell? (a.add j)=some u) (h1:∀u∈news,u.oneCell'=true) (hroom:sLen+m≤sCap) (hfit:sLen*i.size+news.length≤cur.size) :
    (Builtin.append_ #[t,t] ty #[.slice (some ⟨g,0,none⟩) sLen sCap,.slice (some a) m c]).run P w =
     .ok (.slice (some ⟨g,0,none⟩) (sLen+m) sCap) (w.setRow g (cur.toList.take (sLen*i.size)++news++cur.toList.drop (sLen*i.size+news.length)).toArray):=by
 have hf:=run_firstCells_some (P:=P) w i.size m a m c news hl hnews
 have hst:=run_storeCells_at P g (sLen*i.size) el news 0 cur w hg (by simpa using hfit) h1
 simp only[Nat.add_zero]at hst
 simp[Builtin.append_,run_underlying ht,sizeOf,typeInfo,hi,Builtin.lenOf,hroom,hf,Addr.add_lit,hst]
theorem append_run {t ty e:TypeId} {i:TypeInfo} {z:Value} (ht:P.underlying t=some (.slice e)) (hi:P.info? e=some i) (hz:i.zero=some z) (hzs:z.cells.size=i.size) (hsz:0 < i.size)
    {k:Bk} {v:Value} (hown:OwnAt w k v) (hks:k.s=i.size) {a:Option Addr} {m c:Nat} {news:List Value} (hl:news.length=m*i.size) (hne:m=0∨∃ad,a=some ad∧∀j u,news[j]? =some u→w.cell? (ad.add j)=some u)
    (h1:∀u∈news,u.oneCell'=true) (h63:k.len+m≤maxLen) (hbytes:(k.len+m)*i.bytes≤140737488355328) :
    ∃v' w' k',(Builtin.append_ #[t,t] ty #[v,.slice a m c]).run P w= .ok v' w'∧OwnAt w' k' v'∧k'.s=k.s∧k'.len=k.len+m∧w'.os=w.os∧w'.tape=w.tape∧w'.output=w.output∧w.heap.size≤w'.heap.size∧
     (∀b,b < w.heap.size→some b≠k.g→w'.heap[b]? =w.heap[b]?)∧(∀b,k'.g=some b→k.g=some b∨b=w.heap.size)∧(∀b,k'.g=some b→b < w'.heap.size)∧(k'.g=none→k'.len=0)∧
     (∀g c,k.g=some g→w.heap[g]? =some (.cells c k.el (0,0))→∀b,k'.g=some b→∃c',w'.heap[b]? =some (.cells c' k'.el (0,0))∧c'.toList.take ((k.len+m)*i.size)=c.toList.take (k.len*i.size)++news)∧
     (k.g=none→∀b,k'.g=some b→∃c',w'.heap[b]? =some (.cells c' k'.el (0,0))∧c'.toList.take ((k.len+m)*i.size)=news):=by
 unfold OwnAt at hown
 rcases hne with rfl | ⟨ad,rfl,hnews⟩
 · -- nothing is appended
   have hn0:news=[]:=List.eq_nil_of_length_eq_zero (by simpa using hl)
   subst hn0
   refine⟨v,w,k,?_,by unfold OwnAt;exact hown,rfl,rfl,rfl,rfl,rfl,Nat.le_refl _,fun _ _ _=>rfl,fun b hb=> .inl hb,?_,?_,?_,?_⟩
   · cases hg:k.g with
     | none=>
      rw[hg]at hown
      simp only at hown
      rw[hown.2]
      cases a <;> simp[Builtin.append_,run_underlying ht,sizeOf,typeInfo,hi,Builtin.lenOf,Builtin.firstCells,loadCells,loadCellsFrom]
     | some g=>
      rw[hg]at hown
      simp only at hown
      obtain⟨cap,cc,rfl,hc,hle,_⟩:=hown
      cases a <;> simp[Builtin.append_,run_underlying ht,sizeOf,typeInfo,hi,Builtin.lenOf,Builtin.firstCells,loadCells,loadCellsFrom,storeCells,hle]
   · intro b hb
     rw[hb]at hown
     simp only at hown
     obtain⟨_,_,_,hc,_⟩:=hown
     exact(Array.getElem?_eq_some_iff.1 hc).1
   · intro hg;rw[hg]at hown;simpa using hown.1
   · intro g c hg hc b hb
     rw[hg]at hb
     cases hb
     exact⟨c,hc,by simp⟩
   · intro hg b hb;rw[hg]at hb;cases hb
 · cases hg:k.g with
   | none=>
    rw[hg]at hown
    simp only at hown
    obtain⟨hlen,rfl⟩:=hown
    rcases Nat.eq_zero_or_pos m with rfl | hm
    · have hn0:news=[]:=List.eq_nil_of_length_eq_zero (by simpa using hl)
      subst hn0
      refine⟨.slice none 0 0,w,k,by simp[Builtin.append_,run_underlying ht,sizeOf,typeInfo,hi,Builtin.lenOf,Builtin.firstCells,loadCells,loadCellsFrom],by unfold OwnAt;rw[hg];exact⟨hlen,rfl⟩,rfl,rfl,rfl,rfl,rfl,Nat.le_refl _,fun _ _ _=>rfl,
       (fun b hb=>by rw[hg]at hb;cases hb),(fun b hb=>by rw[hg]at hb;cases hb),fun _=>hlen,(fun g c hg'=>by cases hg'),(fun _ b hb=>by rw[hg]at hb;cases hb)⟩
    · rw[hlen]at h63 hbytes
      rw[Nat.zero_add]at h63 hbytes
      have hr:=run_append_nil (P:=P) w t ty e i z ht hi hz ad m c news hl hnews hm (by simp only[maxLen]at h63;omega) (by omega)
      have hge:=grownCap_ge w m 0 e
      have hmx:=grownCap_le_maxLen w m 0 e h63
      refine⟨_,_,(Bk.of (some w.heap.size) k.s (k.len+m) e),hr,?_,rfl,rfl,rfl,rfl,rfl,by simp,fun b hb _=>Below.heap_alloc w.drew _ b hb,fun b hb=> .inr (by simpa using hb.symm),fun b hb=>?_,(fun h=>by cases h),(fun g c hg'=>by cases hg'),fun _ b hb=>?_⟩
      · unfold OwnAt
        simp only
        refine⟨_,_,by rw[hlen,Nat.zero_add],heap_alloc_new w.drew _,by omega,hmx,?_⟩
        simp only[Array.size_append,List.size_toArray,size_zeroCells,hzs,hl,←Nat.add_mul,hks]
        congr 1
        omega
      · simp at hb;subst hb;simp
      · simp at hb
        subst hb
        refine⟨_,heap_alloc_new w.drew _,?_⟩
        rw[hlen,Nat.zero_add,←hl]
        simp
   | some g=>
    rw[hg]at hown
    simp only at hown
    obtain⟨cap,cc,rfl,hc,hle,hmx,hcs⟩:=hown
    by_cases hroom:k.len+m≤cap
    · have hfit:k.len*i.size+news.length≤cc.size:=by rw[hl,hcs,hks,←Nat.add_mul];exact Nat.mul_le_mul_right _ hroom
      have hr:=append_room (P:=P) (ty:=ty) ht hi hc hl hnews h1 hroom hfit (c:=c)
      refine⟨_,_,(Bk.of (some g) k.s (k.len+m) k.el),hr,?_,rfl,rfl,rfl,rfl,rfl,by simp,fun b _ hb=>setRow_other w g b _ (fun e=>hb (by rw[e])),fun b hb=> .inl (by simpa using hb),fun b hb=>?_,(fun h=>by cases h),fun g' c' hg' hc' b hb=>?_,(fun h=>by cases h)⟩
      · unfold OwnAt
        simp only
        refine⟨cap,_,rfl,setRow_heap w g cc _ _ _ hc,hroom,hmx,?_⟩
        simp only[List.size_toArray,List.length_append,List.length_take,List.length_drop,Array.length_toList]
        omega
      · simp at hb;subst hb;rw[size_setRow];exact(Array.getElem?_eq_some_iff.1 hc).1
      · cases hg'
        simp at hb
        subst hb
        rw[hc]at hc'
        cases hc'
        refine⟨_,setRow_heap w g _ _ _ _ hc,?_⟩
        simp only
        rw[Nat.add_mul,←hl,List.take_append_of_le_length (by simp;omega),List.take_of_length_le (by simp;omega)]
    · have holds:∀j u,(cc.toList.take (k.len*i.size))[j]? =some u→w.cell? ((⟨g,0,none⟩:Addr).add j)=some u:=by
       intro j u hj
       rw[List.getElem?_take]at hj
       split at hj
       · rw[add_none]
         simp only[World.cell?,hc,Nat.zero_add]
         simpa using hj
       · cases hj
      have hol:(cc.toList.take (k.len*i.size)).length=k.len*i.size:=by
       simp only[List.length_take,Array.length_toList,hcs,hks]
       exact Nat.min_eq_left (Nat.mul_le_mul_right _ hle)
      have hr:=run_append_grow (P:=P) w t ty e i z ht hi hz ⟨g,0,none⟩ k.len cap _ hol holds ad m c news hl hnews (by omega) (by simp only[maxLen]at h63;omega) (growslice_fits (by omega) hbytes)
      have hge:=grownCap_ge w (k.len+m) cap e
      have hmx':=grownCap_le_maxLen w (k.len+m) cap e h63
      refine⟨_,_,(Bk.of (some w.heap.size) k.s (k.len+m) e),hr,?_,rfl,rfl,rfl,rfl,rfl,by simp,fun b hb _=>Below.heap_alloc w.drew _ b hb,fun b hb=> .inr (by simpa using hb.symm),fun b hb=>?_,(fun h=>by cases h),fun g' c' hg' hc' b hb=>?_,(fun h=>by cases h)⟩
      · unfold OwnAt
        simp only
        refine⟨_,_,rfl,heap_alloc_new w.drew _,hge,hmx',?_⟩
        simp only[Array.size_append,List.size_toArray,size_zeroCells,hzs,hol,hl,←Nat.add_mul,hks]
        congr 1
        omega
      · simp at hb;subst hb;simp
      · cases hg'
        simp at hb
        subst hb
        rw[hc]at hc'
        cases hc'
        refine⟨_,heap_alloc_new w.drew _,?_⟩
        simp only[Array.toList_append,List.append_assoc]
        rw[←List.append_assoc,Nat.add_mul,←hl]
        conv=>lhs;arg 1;rw[←hol]
        rw[←List.length_append]
        exact List.take_left
theorem append_flat {t ty e:TypeId} {i:TypeInfo} {z:Value} (ht:P.underlying t=some (.slice e)) (hi:P.info? e=some i) (hz:i.zero=some z) (hzs:z.cells.size=i.size) (hsz:0 < i.size)
    {k:Bk} {v:Value} (hown:OwnAt w k v) (hks:k.s=i.size) {a:Option Addr} {m c:Nat} {news:List Value} (hl:news.length=m*i.size) (hne:m=0∨∃ad,a=some ad∧∀j u,news[j]? =some u→w.cell? (ad.add j)=some u)
    (h1:∀u∈news,u.oneCell'=true) (h63:k.len+m≤maxLen) (hbytes:(k.len+m)*i.bytes≤140737488355328) :
    ∃v' w' k',(∀b,k'.has b→k'.g=some b)∧(Builtin.append_ #[t,t] ty #[v,.slice a m c]).run P w= .ok v' w'∧OwnAt w' k' v'∧k'.s=k.s∧k'.len=k.len+m∧w'.os=w.os∧w'.tape=w.tape∧w'.output=w.output∧w.heap.size≤w'.heap.size∧
     (∀b,b < w.heap.size→some b≠k.g→w'.heap[b]? =w.heap[b]?)∧(∀b,k'.g=some b→k.g=some b∨b=w.heap.size)∧(∀b,k'.g=some b→b < w'.heap.size)∧(k'.g=none→k'.len=0)∧
     (∀g c,k.g=some g→w.heap[g]? =some (.cells c k.el (0,0))→∀b,k'.g=some b→∃c',w'.heap[b]? =some (.cells c' k'.el (0,0))∧c'.toList.take ((k.len+m)*i.size)=c.toList.take (k.len*i.size)++news)∧
     (k.g=none→∀b,k'.g=some b→∃c',w'.heap[b]? =some (.cells c' k'.el (0,0))∧c'.toList.take ((k.len+m)*i.size)=news):=by
 obtain⟨v',w',k',h⟩:=append_run (w:=w) (ty:=ty) ht hi hz hzs hsz hown hks hl hne h1 h63 hbytes
 exact⟨v',w',Bk.of k'.g k'.s k'.len k'.el,fun b hb=>Bk.of_has.1 hb,h⟩
def mv (φ:Names) (lo:Option Nat) (nx:Nat) (k:Bk):Names:=fun m=>if m=nx then some k else if lo=some m then none else φ m
theorem mv_new (φ:Names) (lo:Option Nat) (nx:Nat) (k:Bk):mv φ lo nx k nx=some k:=by simp[mv]
theorem mv_old {φ:Names} {lo:Option Nat} {nx m:Nat} {k:Bk} (h:m≠nx):mv φ lo nx k m=if lo=some m then none else φ m:=by simp[mv,h]
theorem Rel.grow (h:Rel X W0 φ ρ σ fs w) {lo:Option Nat} {H:List (Nat×Ob)} (hH:∀m,look H m=if lo=some m then none else look σ.heap m) {k k':Bk} (hlo:∀l,lo=some l→φ l=some k) (hnone:lo=none→k.g=none) {w':World} {ks:List LK} {e':Ex} {v':Value}
    (hos:w'.os=w.os) (htp:w'.tape=w.tape) (hou:w'.output=w.output) (hsz:w.heap.size≤w'.heap.size) (hblk:∀b,b < w.heap.size→some b≠k.g→w'.heap[b]? =w.heap[b]?) (hg':∀b,k'.g=some b→k.g=some b∨b=w.heap.size) (hlt:∀b,k'.g=some b→b < w'.heap.size)
    (hfl:∀b,k'.has b→k'.g=some b) (hown:OwnAt w' k' v') (ho:Evo X φ (mv φ lo σ.nx k') σ.nx w w'→ObR w' X (mv φ lo σ.nx k') ρ (σ.nx+1) k' (.rows ks e')) :
    Rel X W0 (mv φ lo σ.nx k') ρ { σ with nx:=σ.nx+1,heap:=(σ.nx,.rows ks e')::H } fs w'∧SVR w' X (mv φ lo σ.nx k') ρ (σ.nx+1) (.own σ.nx none) v'∧Evo X φ (mv φ lo σ.nx k') σ.nx w w':=by
 have klow:∀g,k.g=some g→W0.heap.size≤g∧g < w.heap.size∧∃l,lo=some l∧φ l=some k:=by
  intro g hg
  cases hl:lo with
  | none=>rw[hnone hl]at hg;cases hg
  | some l=>exact⟨(h.lowg l k g (hlo l hl) hg).1,(h.lowg l k g (hlo l hl) hg).2,l,rfl,hlo l hl⟩
 have hother:∀m kk g,m≠σ.nx→mv φ lo σ.nx k' m=some kk→kk.has g→φ m=some kk∧k.g≠some g:=by
  intro m kk g hm hmk hkg
  rw[mv_old hm]at hmk
  split at hmk
  · cases hmk
  · rename_i hne
    refine⟨hmk,fun hk=>?_⟩
    obtain⟨_,_,l,hl,hφl⟩:=klow g hk
    exact hne (by rw[hl,h.inj m l kk k g hmk hφl hkg (.inl hk)])
 have ev:Evo X φ (mv φ lo σ.nx k') σ.nx w w':=by
  refine⟨hsz,fun b hb hn=>hblk b hb (fun hk=>hn ?_),fun l kk g c hl hkk hkg hc=>?_,fun l hl=>?_,fun b hb hob=>?_⟩
  · obtain⟨_,_,l,_,hφl⟩:=klow b hk.symm
    exact .inr ⟨l,k,hφl,.inl hk.symm⟩
  · obtain⟨hφ,hne⟩:=hother l kk g (by omega) hkk (.inl hkg)
    exact⟨c,by rw[hblk g (h.lowg l kk g hφ hkg).2 (fun hc=>hne hc.symm)];exact hc,rfl⟩
  · rw[mv_old (by omega)]
    split
    · exact .inr rfl
    · exact .inl rfl
  · rcases hob with hx | ⟨l,kk,hkk,hkg⟩
    · exact .inl hx
    · by_cases hl:l=σ.nx
      · subst hl
        rw[mv_new]at hkk
        cases hkk
        rcases hg' b (hfl b hkg)with hk | hk
        · obtain⟨_,_,l,_,hφl⟩:=klow b hk
          exact .inr ⟨l,k,hφl,.inl hk⟩
        · omega
      · exact .inr ⟨l,kk,(hother l kk b hl hkk hkg).1,hkg⟩
 refine⟨⟨h.below.trans ⟨hos,htp,hou,hsz,fun b hb=>hblk b (Nat.lt_of_lt_of_le hb h.size_le) (fun hk=>?_)⟩,h.old,fun l kk g hl hg=>?_,fun l l' kk kk' g hl hl' hg1 hg2=>?_,fun l kk hl=>?_,h.nv,h.known,
  FrsR.evo ev (List.prefix_refl _) (Nat.le_succ _) _ _ h.frames,fun l ob hl=>?_⟩,?_,ev⟩
 · have:=(klow b hk.symm).1;omega
 · by_cases he:l=σ.nx
   · subst he
     rw[mv_new]at hl
     cases hl
     refine⟨?_,hlt g (hfl g hg)⟩
     rcases hg' g (hfl g hg)with hk | hk
     · exact(klow g hk).1
     · have:=h.size_le;omega
   · have:=h.low l kk g (hother l kk g he hl hg).1 hg
     omega
 · by_cases he:l=σ.nx
   · by_cases he':l'=σ.nx
     · omega
     · subst he
       rw[mv_new]at hl
       cases hl
       obtain⟨hφ,hne⟩:=hother l' kk' g he' hl' hg2
       rcases hg' g (hfl g hg1)with hk | hk
       · exact(hne hk).elim
       · have:=(h.low l' kk' g hφ hg2).2;omega
   · by_cases he':l'=σ.nx
     · subst he'
       rw[mv_new]at hl'
       cases hl'
       obtain⟨hφ,hne⟩:=hother l kk g he hl hg1
       rcases hg' g (hfl g hg2)with hk | hk
       · exact(hne hk).elim
       · have:=(h.low l kk g hφ hg1).2;omega
     · exact h.inj l l' kk kk' g (hother l kk g he hl hg1).1 (hother l' kk' g he' hl' hg2).1 hg1 hg2
 · by_cases he:l=σ.nx
   · subst he;simp
   · rw[mv_old he]at hl
     split at hl
     · cases hl
     · have:=h.names l kk hl;simp;omega
 · simp only[look]at hl
   split at hl
   · rename_i he
     have he':=eq_of_beq he
     subst he'
     cases hl
     exact⟨k',mv_new _ _ _ _,ho ev⟩
   · rename_i he
     have he':l≠σ.nx:=fun hc=>he (by simp[hc])
     rw[hH]at hl
     split at hl
     · cases hl
     · rename_i hne
       obtain⟨kk,hkk,hob⟩:=h.heap l ob hl
       refine⟨kk,by rw[mv_old he',if_neg hne];exact hkk,?_⟩
       exact ObR.evo ev (List.prefix_refl _) (Nat.le_succ _) (fun g hg=>hblk g (h.low l kk g hkk hg).2 (fun hc=>by
        obtain⟨_,_,l',hl',hφl⟩:=klow g hc.symm
        exact hne (by rw[hl',h.inj l l' kk k g hkk hφl hg (.inl hc.symm)]))) ob hob
 · simp only[SVR]
   refine⟨by omega,?_,fun kk hk=>?_⟩
   · unfold OwnAt at hown
     split at hown
     · exact⟨_,_,_,hown.2⟩
     · obtain⟨_,_,hv,_⟩:=hown;exact⟨_,_,_,hv⟩
   · rw[mv_new]at hk
     cases hk
     exact hown
theorem den_grow {e ey:Ex} {xs ys:List (List PV)} (h:e.den ρ= .row xs) (hy:ey.den ρ= .row ys):(growE e ey).den ρ= .row (xs++ys):=by
 unfold growE
 split
 · simp only[Ex.den,BO.on,PV.r,List.nil_append,PV.row.injEq]at hy
   simp only[Ex.den,BO.on,h,PV.r,hy]
 · simp only[Ex.den,BO.on,h,hy,PV.r]
theorem fits_grow {n:Nat} {e ey:Ex} (h:e.fits n=true) (hy:ey.fits n=true):(growE e ey).fits n=true:=by
 unfold growE
 split
 · simp only[Ex.fits,Bool.and_eq_true]at hy ⊢;exact⟨h,hy.2⟩
 · simp only[Ex.fits,Bool.and_eq_true];exact⟨h,hy⟩
theorem look_del {α:Type} (l:List (Nat×α)) (t m:Nat):look (del l t) m=if some t=some m then none else look l m:=by
 by_cases h:t=m
 · subst h;rw[if_pos rfl];exact look_del_same l t
 · rw[if_neg (by simpa using h)];exact look_del_other l t m (by omega)
theorem Rel.leafCells (h:Rel X W0 φ ρ σ fs w) {ks:List LK} {s:SV} {v:Value} {e:Ex} (hs:SVR w X φ ρ σ.nx s v) (hl:σ.leaf (.row ks) s=some e) :
    ∃ys ad cap L,e.den ρ= .row ys∧v= .slice ad ys.length cap∧L.length=ys.length*ks.length∧Rws w (Owned X φ) ks ys L∧(ys.length=0∨∃ad',ad=some ad'∧∀j u,L[j]? =some u→w.cell? (ad'.add j)=some u)∧∀u∈L,u.oneCell'=true:=by
 have plain:∀ {p:PV},RV w (Owned X φ) (.row ks) p v→∃ys ad cap L,p= .row ys∧v= .slice ad ys.length cap∧L.length=ys.length*ks.length∧Rws w (Owned X φ) ks ys L∧(ys.length=0∨∃ad',ad=some ad'∧∀j u,L[j]? =some u→w.cell? (ad'.add j)=some u)∧∀u∈L,u.oneCell'=true:=by
  intro p hp
  obtain⟨ys,ad,cap,h1,h2,h3,h4⟩:=row_cells hp
  rcases h4 with rfl | ⟨ad',L,ha,_,hL,hR,hc,ho⟩
  · exact⟨[],ad,cap,[],h1,h2,by simp,fun i x hi=>by simp at hi,.inl rfl,fun u hu=>by cases hu⟩
  · exact⟨ys,ad,cap,L,h1,h2,hL,hR,.inr ⟨ad',ha,hc⟩,ho⟩
 cases s with
 | ex k' e'=>
  simp only[St.leaf]at hl
  split at hl
  · rename_i hk
    cases hl
    have:=LK.same_eq _ _ hk
    subst this
    simp only[SVR]at hs
    exact plain hs.2
  · cases hl
 | nilS=>
  simp only[St.leaf,Option.some.injEq]at hl
  subst hl
  simp only[SVR]at hs
  subst hs
  exact⟨[],none,0,[],rfl,rfl,by simp,fun i x hi=>by simp at hi,.inl rfl,fun u hu=>by cases hu⟩
 | own l p =>
  simp only[St.leaf]at hl
  split at hl
  · rename_i ks' e' ks2 hlk hkeq
    cases hkeq
    split at hl
    · rename_i hk
      have:=LK.sames_eq _ _ hk
      subst this
      cases hl
      obtain⟨kk,hφ,ho⟩:=h.heap l _ hlk
      simp only[ObR]at ho
      obtain⟨hf,hks,xs,hx,hlen,hm⟩:=ho
      cases p with
      | none=>
       simp only[SVR]at hs
       have hat:=hs.2.2 kk hφ
       unfold OwnAt at hat
       cases hg:kk.g with
       | none=>
        rw[hg]at hat hm
        simp only at hat hm
        subst hm
        exact⟨[],none,0,[],hx,hat.2,by simp,fun i x hi=>by simp at hi,.inl rfl,fun u hu=>by cases hu⟩
       | some g=>
        rw[hg]at hat hm
        simp only at hat hm
        obtain⟨cap,c,rfl,hc,hcap,hmx,hcs⟩:=hat
        obtain⟨c',hc',hi⟩:=hm
        rw[hc]at hc'
        cases hc'
        have hR:Rws w (Owned X φ) ks' xs c.toList:=hi
        have hLl:(c.toList.take (xs.length*ks'.length)).length=xs.length*ks'.length:=by
         simp only[List.length_take,Array.length_toList,hcs,hks]
         exact Nat.min_eq_left (Nat.mul_le_mul_right _ (by omega))
        refine⟨xs,_,cap,_,hx,by rw[hlen],hLl,hR.take,.inr ⟨_,rfl,fun j u hj=>?_⟩,fun u hu=>?_⟩
        · rw[List.getElem?_take]at hj
          split at hj
          · rw[add_none]
            simp only[World.cell?,hc,Nat.zero_add]
            simpa using hj
          · cases hj
        · exact Rws.one hR.take hLl u hu
      | some q=>
       obtain⟨lo,n⟩:=q
       simp only[SVR]at hs
       obtain⟨hlo,hn,_,_,hat⟩:=hs
       obtain⟨h0,h1,hle,⟨mm,hmm⟩,ad,cap,rfl,hcap,had⟩:=hat kk hφ
       have hden:(Ex.tri .slice e' lo n).den ρ= .row ((xs.drop (lo.den ρ).i.toNat).take (n.den ρ).i.toNat):=by simp[Ex.den,TO.on,hx,PV.r]
       have hlen':((xs.drop (lo.den ρ).i.toNat).take (n.den ρ).i.toNat).length=(n.den ρ).i.toNat:=by simp;omega
       rcases Nat.eq_zero_or_pos (n.den ρ).i.toNat with hz | hpos
       · have h00:(xs.drop (lo.den ρ).i.toNat).take (n.den ρ).i.toNat=[]:=List.eq_nil_of_length_eq_zero (by omega)
         rw[h00]at hden
         exact⟨[],ad,cap,[],hden,by rw[hz];rfl,by simp,fun i x hi=>by simp at hi,.inl rfl,fun u hu=>by cases hu⟩
       · obtain⟨g,hg,rfl⟩:=had hpos
         rw[hg]at hm
         simp only at hm
         obtain⟨c,hc,hi⟩:=hm
         have hR:Rws w (Owned X φ) ks' xs c.toList:=hi
         have hfit:xs.length*ks'.length≤c.toList.length:=by
          rcases Nat.eq_zero_or_pos ks'.length with hk0 | hkp
          · rw[hk0];omega
          have hxp:0 < xs.length:=by omega
          have:=(hR (xs.length - 1) _ (List.getElem?_eq_getElem (by omega))).length.2
          simp only[List.length_take,List.length_drop]at this
          have h2:xs.length*ks'.length=(xs.length - 1)*ks'.length+ks'.length:=by
           conv=>lhs;rw[show xs.length=(xs.length - 1)+1 by omega,Nat.add_mul,Nat.one_mul]
          omega
         have hLl:((c.toList.drop ((lo.den ρ).i.toNat*ks'.length)).take ((n.den ρ).i.toNat*ks'.length)).length=(n.den ρ).i.toNat*ks'.length:=by
          have:((lo.den ρ).i.toNat+(n.den ρ).i.toNat)*ks'.length≤xs.length*ks'.length:=Nat.mul_le_mul_right _ (by omega)
          rw[Nat.add_mul]at this
          simp only[List.length_take,List.length_drop]
          omega
         have hR':Rws w (Owned X φ) ks' ((xs.drop (lo.den ρ).i.toNat).take (n.den ρ).i.toNat) ((c.toList.drop ((lo.den ρ).i.toNat*ks'.length)).take ((n.den ρ).i.toNat*ks'.length)):=by
          intro i x hix
          have hil:i < (n.den ρ).i.toNat:=by have:=(List.getElem?_eq_some_iff.1 hix).1;omega
          rw[List.getElem?_take_of_lt hil,List.getElem?_drop]at hix
          have:=hR _ x hix
          have hle2:(i+1)*ks'.length≤(n.den ρ).i.toNat*ks'.length:=Nat.mul_le_mul_right _ hil
          rw[Nat.add_mul]at hle2
          rw[List.drop_take,List.take_take,Nat.min_eq_left (by omega),List.drop_drop,←Nat.add_mul]
          exact this
         refine⟨_,_,cap,_,hden,by rw[hlen'],by rw[hLl,hlen'],hR',.inr ⟨_,rfl,fun j u hj=>?_⟩,fun u hu=>?_⟩
         · rw[List.getElem?_take]at hj
           split at hj
           · rw[List.getElem?_drop]at hj
             rw[add_none]
             simp only[World.cell?,hc,hks]
             simpa using hj
           · cases hj
         · exact Rws.one hR' (by rw[hLl,hlen']) u hu
    · cases hl
  · cases hl
 | _=>simp[St.leaf]at hl
theorem appendB_sound (h:Rel X W0 φ ρ σ (a::fs) w) {o:Oper} {args:Array Operand} {ts:Array TypeId} (hop:o.op= .call { callee:= .builtin .append,args,argTypes:=ts }) {ss:List SV} (hevs:SVRs w X φ ρ σ.nx ss (args.toList.map a.eval)) {gs:List Ex} {sv:SV} {σ':St} (hs:appendB P σ ts.toList ss=some (gs,sv,σ')) :
    (∀g∈gs,g.fits ρ.length=true)∧((∀g∈gs,(g.den ρ).b=true)→∃φ' v w',(execOp a.eval o).run P w= .ok (.value v) w'∧Rel X W0 φ' ρ σ' (a::fs) w'∧SVR w' X φ' ρ σ'.nx sv v∧Evo X φ φ' σ.nx w w'):=by
 obtain⟨consts,hrun⟩:=run_builtin (a:=a) hop
 unfold appendB at hs
 split at hs
 · rename_i x y hxy
   simp only[SVRs]at hevs
   obtain⟨vx,_,hl,hvx,vy,_,rfl,hvy,rfl⟩:=hevs
   have hargs:args.map a.eval= #[vx,vy]:=by apply Array.ext';simpa using hl
   split at hs
   · rename_i t u hts
     split at hs
     · rename_i el hu
       split at hs
       · rename_i ks ti hks hti
         split at hs
         · rename_i hc
           simp only[Bool.and_eq_true,beq_iff_eq,decide_eq_true_eq]at hc
           obtain⟨⟨⟨⟨rfl,hkl⟩,hpos⟩,hby⟩,hzc⟩:=hc
           simp only[Option.map_eq_some_iff]at hzc
           obtain⟨z,hz,hzs⟩:=hzc
           have hts':ts= #[t,t]:=by apply Array.ext';simpa using hts
           split at hs
           · rename_i ey hley
             obtain⟨fey,hRV⟩:=h.leaf hvy hley (U:=fun b=>False) (fun b hb=>hb.elim) (fun _ _ _ _ _ _ _ hb=>hb)
             obtain⟨ys,ad,cap,L0,dy,rfl,hL0⟩:=h.leafCells hvy hley
             have main:∀ (lo:Option Nat) (H:List (Nat×Ob)) (e:Ex) (k:Bk) (xs:List (List PV)),(∀m,look H m=if lo=some m then none else look σ.heap m)→(∀l,lo=some l→φ l=some k)→(lo=none→k.g=none)→OwnAt w k vx→k.s=ti.size→
                 e.den ρ= .row xs→e.fits ρ.length=true→xs.length=k.len→(k.g=none→xs=[])→(∀g,k.g=some g→∃c,w.heap[g]? =some (.cells c k.el (0,0))∧Rws w (Owned X φ) ks xs c.toList)→
                 (∃L:List Value,L.length=ys.length*ks.length∧Rws w (Owned X φ) ks ys L∧(ys.length=0∨∃ad',ad=some ad'∧∀j u,L[j]? =some u→w.cell? (ad'.add j)=some u)∧∀u∈L,u.oneCell'=true)→
                 (∀g∈roomE e ey,g.fits ρ.length=true)∧((∀g∈roomE e ey,(g.den ρ).b=true)→∃φ' v w',(execOp a.eval o).run P w= .ok (.value v) w'∧Rel X W0 φ' ρ { σ with nx:=σ.nx+1,heap:=(σ.nx,.rows ks (growE e ey))::H } (a::fs) w'∧
                  SVR w' X φ' ρ (σ.nx+1) (.own σ.nx none) v∧Evo X φ φ' σ.nx w w'):=by
              intro lo H e k xs hH hlo hnone hown hkss dx fe hxl hxnone hxrow hL
              obtain⟨L,hLl,hLr,hLc,hLo⟩:=hL
              refine⟨fun g hg=>?_,fun hg=>?_⟩
              · simp only[roomE,List.mem_singleton]at hg
                subst hg
                exact Ex.fits_mk2 (Ex.fits_mk2 (Ex.fits_mk1 fe) (Ex.fits_mk1 fey)) rfl
              · have hroom:=hg _ (List.mem_singleton.2 rfl)
                rw[Ex.den_mk2,Ex.den_mk2,den_len dx,den_len dy]at hroom
                have hroom':(xs.length:Int)+ys.length≤roomLen:=of_decide_eq_true hroom
                simp only[roomLen]at hroom'
                have hsum:k.len+ys.length≤4294967296:=by omega
                have hbb:(k.len+ys.length)*ti.bytes≤140737488355328:=by
                 have h1:(k.len+ys.length)*ti.bytes≤4294967296*4096:=Nat.mul_le_mul hsum hby
                 omega
                obtain⟨v',w',k',hfl,hr,hown',hks',hlen',hos,htp,hou,hsz,hblk,hg',hlt,hnone',hcont,hcont0⟩:=append_flat (P:=P) (ty:=o.type) (c:=cap) hu hti hz hzs hpos hown hkss (by rw[hLl,hkl]) hLc hLo (by simp only[maxLen];omega) hbb
                obtain⟨r1,r2,r3⟩:=Rel.grow (ks:=ks) (e':=growE e ey) h hH hlo hnone hos htp hou hsz hblk hg' hlt hfl hown' (fun ev=>by
                 simp only[ObR]
                 refine⟨fits_grow fe fey,by omega,xs++ys,den_grow dx dy,by simp;omega,?_⟩
                 cases hgk:k'.g with
                 | none=>
                  simp only
                  have:=hnone' hgk
                  have h1:xs=[]:=List.eq_nil_of_length_eq_zero (by omega)
                  have h2:ys=[]:=List.eq_nil_of_length_eq_zero (by omega)
                  rw[h1,h2];rfl
                 | some b=>
                  simp only
                  cases hgo:k.g with
                  | none=>
                   obtain⟨c',hc',htk⟩:=hcont0 hgo b hgk
                   refine⟨c',hc',?_⟩
                   have hx0:=hxnone hgo
                   have hk0:k.len=0:=by rw[←hxl,hx0];rfl
                   rw[hk0,Nat.zero_add]at htk
                   have:Rws w (Owned X φ) ks (xs++ys) c'.toList:=by
                    rw[hx0,List.nil_append,←List.take_append_drop (ys.length*ti.size) c'.toList,htk]
                    have:=Rws.append (w:=w) (U:=Owned X φ) (ks:=ks) (xs:= []) (ys:=ys) (L:= []) (M:=L) (R:=c'.toList.drop (ys.length*ti.size)) (fun i x hi=>by simp at hi) (by simp) hLr hLl
                    simpa using this
                   exact Rws.mono ev.size ev.rv this
                  | some g=>
                   obtain⟨c,hc,hcr⟩:=hxrow g hgo
                   obtain⟨c',hc',htk⟩:=hcont g c hgo hc b hgk
                   refine⟨c',hc',?_⟩
                   have htl:(c.toList.take (k.len*ti.size)).length=xs.length*ks.length:=by
                    unfold OwnAt at hown
                    rw[hgo]at hown
                    simp only at hown
                    obtain⟨cp,cc,_,hcc,hle,_,hcs⟩:=hown
                    rw[hc]at hcc
                    cases hcc
                    simp only[List.length_take,Array.length_toList,hcs,hkss,hxl,hkl]
                    exact Nat.min_eq_left (Nat.mul_le_mul_right _ hle)
                   have:Rws w (Owned X φ) ks (xs++ys) c'.toList:=by
                    rw[←List.take_append_drop ((k.len+ys.length)*ti.size) c'.toList,htk]
                    refine Rws.append ?_ htl hLr hLl
                    have:=hcr.take
                    rw[hxl,hkl]at this
                    exact this
                   exact Rws.mono ev.size ev.rv this)
                refine⟨_,v',w',?_,r1,r2,r3⟩
                rw[hrun,hargs,hts']
                simp only[Sem.run_bind,Sem.run_pure,Result.andThen_ok,invoke,builtin,hr]
             have hL:∃L:List Value,L.length=ys.length*ks.length∧Rws w (Owned X φ) ks ys L∧(ys.length=0∨∃ad',ad=some ad'∧∀j u,L[j]? =some u→w.cell? (ad'.add j)=some u)∧∀u∈L,u.oneCell'=true:=⟨L0,hL0⟩
             split at hs
             · simp only[Option.some.injEq,Prod.mk.injEq]at hs
               obtain⟨rfl,rfl,rfl⟩:=hs
               simp only[SVR]at hvx
               exact main none σ.heap .nil (Bk.of none ti.size 0 el) [] (fun m=>by simp) (fun l hl=>by cases hl) (fun _=>rfl) (by unfold OwnAt;exact⟨rfl,hvx⟩) rfl rfl rfl rfl (fun _=>rfl) (fun g hg=>by cases hg) hL
             · rename_i l
               split at hs
               · rename_i ks' e hlk
                 split at hs
                 · rename_i hkk
                   have:=LK.sames_eq _ _ hkk
                   subst this
                   simp only[Option.some.injEq,Prod.mk.injEq]at hs
                   obtain⟨rfl,rfl,rfl⟩:=hs
                   obtain⟨k,hφ,ho⟩:=h.heap l _ hlk
                   simp only[ObR]at ho
                   obtain⟨fe,hks2,xs,dx,hxl,hm⟩:=ho
                   simp only[SVR]at hvx
                   exact main (some l) (del σ.heap l) e k xs (fun m=>look_del _ _ _) (fun l' hl'=>by cases hl';exact hφ) (fun hc=>by cases hc) (hvx.2.2 k hφ) (by rw[hks2,hkl]) dx fe hxl (fun hg=>by rw[hg]at hm;exact hm)
                    (fun g hg=>by rw[hg]at hm;exact hm) hL
                 · cases hs
               · cases hs
             · cases hs
           · cases hs
         · cases hs
       · cases hs
     · cases hs
   · cases hs
 · cases hs
theorem append_sound (h:Rel X W0 φ ρ σ (a::fs) w) {o:Oper} {args:Array Operand} {ts:Array TypeId} (hop:o.op= .call { callee:= .builtin .append,args,argTypes:=ts }) {gs:List Ex} {sv:SV} {σ':St} (hs:simple P σ o.op=some (gs,sv,σ')) :
    (∀g∈gs,g.fits ρ.length=true)∧((∀g∈gs,(g.den ρ).b=true)→∃φ' v w',(execOp a.eval o).run P w= .ok (.value v) w'∧Rel X W0 φ' ρ σ' (a::fs) w'∧SVR w' X φ' ρ σ'.nx sv v∧Evo X φ φ' σ.nx w w'):=by
 refine appendB_sound h hop (SVRs.evs h args.toList) ?_
 rw[hop]at hs
 simpa only[simple,builtin1]using hs
end
end Go.Proofs.YtckjdlmfibjpaaaGreat.Sx
set_option linter.unusedVariables false
set_option linter.unusedSimpArgs false
namespace Go.Proofs.YtckjdlmfibjpaaaGreat.Sx
open Go.RowKit
section
variable {P:Program} {X:Env} {W0:World} {φ:Names} {ρ:List PV} {σ:St} {a:Act} {fs:List Act} {w:World} {nx:Nat} {U:Nat→Prop}
theorem min_nat (m n:Nat):(if(n:Int) < (m:Int)then(n:Int)else m)=(Nat.min m n:Nat):=by
 by_cases hlt:n < m
 · rw[if_pos (by omega),show Nat.min m n=n from Nat.min_eq_right (by omega)]
 · rw[if_neg (by omega),show Nat.min m n=m from Nat.min_eq_left (by omega)]
theorem copy_sound (h:Rel X W0 φ ρ σ (a::fs) w) {o:Oper} {args:Array Operand} {ts:Array TypeId} (hop:o.op= .call { callee:= .builtin .copy,args,argTypes:=ts }) {gs:List Ex} {sv:SV} {σ':St} (hs:simple P σ o.op=some (gs,sv,σ')) :
    gs=[]∧σ'.nx=σ.nx∧∃v w',(execOp a.eval o).run P w= .ok (.value v) w'∧Rel X W0 φ ρ σ' (a::fs) w'∧SVR w' X φ ρ σ'.nx sv v∧Evo X φ φ σ.nx w w':=by
 obtain⟨consts,hrun⟩:=run_builtin (a:=a) hop
 have hevs:=SVRs.evs h args.toList
 rw[hop]at hs
 simp only[simple,builtin1]at hs
 unfold copyB at hs
 split at hs
 · rename_i l y hxy
   rw[hxy]at hevs
   simp only[SVRs]at hevs
   obtain⟨vx,_,hl,hvx,vy,_,rfl,hvy,rfl⟩:=hevs
   have hargs:args.map a.eval= #[vx,vy]:=by apply Array.ext';simpa using hl
   split at hs
   · rename_i t u hts
     split at hs
     · rename_i el el2 ks e hu hu2 hlk
       split at hs
       · rename_i hsz
         have hsz':=eq_of_beq hsz
         have hts':ts= #[t,u]:=by apply Array.ext';simpa using hts
         split at hs
         · rename_i ey hley
           simp only[Option.some.injEq,Prod.mk.injEq]at hs
           obtain⟨rfl,rfl,rfl⟩:=hs
           obtain⟨fey,_⟩:=h.leaf hvy hley (U:=fun b=>False) (fun b hb=>hb.elim) (fun _ _ _ _ _ _ _ hb=>hb)
           obtain⟨ys,ad,cap,L,dy,rfl,hLl,hLr,hLc,hLo⟩:=h.leafCells hvy hley
           obtain⟨k,hφ,ho⟩:=h.heap l _ hlk
           simp only[ObR]at ho
           obtain⟨fe,hks,xs,dx,hxl,hm⟩:=ho
           simp only[SVR]at hvx
           have hown:=hvx.2.2 k hφ
           have hd:(Ex.bin .copy e ey).den ρ= .row (ys.take xs.length++xs.drop ys.length):=by simp only[Ex.den,BO.on,dx,dy,PV.r]
           have hfd:(Ex.bin .copy e ey).fits ρ.length=true:=by simp only[Ex.fits,Bool.and_eq_true];exact⟨fe,fey⟩
           have hcl:(ys.take xs.length++xs.drop ys.length).length=xs.length:=by simp;omega
           have hmin:(Ex.mk2 (.min .i64) (.mk1 .len ey) (.mk1 .len e)).den ρ= .int .i64 (Nat.min ys.length xs.length):=by
            rw[Ex.den_mk2,den_len dx,den_len dy]
            simp only[BO.on,i_int]
            congr 1
            exact min_nat ys.length xs.length
           have hn:Nat.min ys.length xs.length*ks.length≤L.length:=by rw[hLl];exact Nat.mul_le_mul_right _ (Nat.min_le_left _ _)
           have hfirst:(Builtin.firstCells ks.length (Nat.min ys.length xs.length) (.slice ad ys.length cap)).run P w= .ok (L.take (Nat.min ys.length xs.length*ks.length)).toArray w:=by
            have htl:(L.take (Nat.min ys.length xs.length*ks.length)).length=Nat.min ys.length xs.length*ks.length:=by rw[List.length_take];omega
            rcases hLc with h0 | ⟨ad',rfl,hc⟩
            · have:Nat.min ys.length xs.length=0:=by rw[h0];exact Nat.zero_min _
              rw[this]
              cases ad <;> simp[Builtin.firstCells,loadCells,loadCellsFrom]
            · have:=run_loadCells_list (P:=P) (w:=w) ad' (L.take (Nat.min ys.length xs.length*ks.length)) (fun j v hj=>by
               rw[List.getElem?_take]at hj
               split at hj
               · exact hc j v hj
               · cases hj)
              rw[htl]at this
              simpa [Builtin.firstCells]using this
           refine⟨rfl,rfl,.int .i64 (Nat.min ys.length xs.length),?_⟩
           unfold OwnAt at hown
           cases hg:k.g with
           | none=>
            rw[hg]at hown hm
            simp only at hown hm
            subst hm
            refine⟨w,?_,⟨h.below,h.old,h.low,h.inj,h.names,h.nv,h.known,h.frames,fun m ob hm=>?_⟩,int_svr (Ex.fits_mk2 (Ex.fits_mk1 fey) (Ex.fits_mk1 fe)) hmin,Evo.refl _ _ _ _⟩
            · rw[hrun,hargs,hts',hown.2]
              have h00:Nat.min ys.length 0=0:=Nat.min_zero _
              simp only[List.length_nil,h00]at hfirst ⊢
              simp only[Sem.run_bind,Sem.run_pure,Result.andThen_ok,invoke,builtin,Builtin.copy_,List.getElem?_toArray,List.getElem?_cons_zero,List.getElem?_cons_succ,run_underlying hu,Builtin.lenOf,run_size hsz',h00,hfirst,goInt]
            · by_cases he:m=l
              · subst he
                rw[look_put_same]at hm
                cases hm
                refine⟨k,hφ,?_⟩
                simp only[ObR]
                refine⟨hfd,hks,_,hd,by rw[hcl,hxl],?_⟩
                rw[hg]
                simp
              · rw[look_put_other _ _ _ _ he]at hm
                exact h.heap m ob hm
           | some g=>
            rw[hg]at hown hm
            simp only at hown hm
            obtain⟨cap',c,rfl,hc,hle,hmx,hcs⟩:=hown
            obtain⟨c',hc',hrow⟩:=hm
            rw[hc]at hc'
            cases hc'
            have htl:(L.take (Nat.min ys.length xs.length*ks.length)).length=Nat.min ys.length xs.length*ks.length:=by rw[List.length_take];omega
            have hfit:0+(L.take (Nat.min ys.length xs.length*ks.length)).length≤c.toList.length:=by
             have hcl':c.toList.length=cap'*ks.length:=by simp only[Array.length_toList,hcs,hks]
             rw[htl,hcl',Nat.zero_add]
             exact Nat.mul_le_mul_right _ (Nat.le_trans (Nat.min_le_right _ _) (by omega))
            have hst:=run_storeCells_at P g 0 k.el (L.take (Nat.min ys.length xs.length*ks.length)) 0 c w hc (by simpa using hfit) (fun v hv=>hLo v (List.mem_of_mem_take hv))
            simp only[Nat.add_zero,Nat.zero_add]at hst
            have hsp:=splice_len hfit
            have ev:Evo X φ φ σ.nx w (w.setRow g (splice c.toList 0 (L.take (Nat.min ys.length xs.length*ks.length))).toArray):=Evo.write hφ hg hc (by simpa using hsp)
            refine⟨w.setRow g (splice c.toList 0 (L.take (Nat.min ys.length xs.length*ks.length))).toArray,?_,h.write hφ hg hc (by simpa using hsp) ?_,int_svr (Ex.fits_mk2 (Ex.fits_mk1 fey) (Ex.fits_mk1 fe)) hmin,ev⟩
            · rw[hrun,hargs,hts']
              rw[←hxl]
              simp only[Sem.run_bind,Sem.run_pure,Result.andThen_ok,invoke,builtin,Builtin.copy_,List.getElem?_toArray,List.getElem?_cons_zero,List.getElem?_cons_succ,run_underlying hu,Builtin.lenOf,run_size hsz',hfirst,goInt,hst]
              simp[splice]
            · simp only[ObR]
              refine⟨hfd,hks,_,hd,by rw[hcl,hxl],?_⟩
              rw[hg]
              refine⟨_,setRow_heap w g c _ _ _ hc,?_⟩
              refine Rws.mono ev.size ev.rv ?_
              intro i x hi
              show RVs w (Owned X φ) ks x (((splice c.toList 0 (L.take (Nat.min ys.length xs.length*ks.length))).drop (i*ks.length)).take ks.length)
              have hil:i < xs.length:=by have:=(List.getElem?_eq_some_iff.1 hi).1;omega
              by_cases hiy:i < ys.length
              · rw[List.getElem?_append_left (by simp;omega),List.getElem?_take_of_lt hil]at hi
                have hr:=hLr i x hi
                have hmn:i < Nat.min ys.length xs.length:=Nat.lt_min.2 ⟨hiy,hil⟩
                have h2:(i+1)*ks.length≤Nat.min ys.length xs.length*ks.length:=Nat.mul_le_mul_right _ hmn
                rw[Nat.add_mul]at h2
                unfold splice
                rw[List.take_zero,List.nil_append,List.drop_append_of_le_length (by omega),List.take_append_of_le_length (by simp;omega),List.drop_take,List.take_take,Nat.min_eq_left (by omega)]
                exact hr
              · rw[List.getElem?_append_right (by simp;omega),List.getElem?_drop]at hi
                have hi':xs[i]? =some x:=by rw[←hi];congr 1;simp;omega
                have hr:=hrow i x hi'
                have hmn:Nat.min ys.length xs.length=ys.length:=Nat.min_eq_left (by omega)
                rw[hmn]at htl ⊢
                have h2:ys.length*ks.length≤i*ks.length:=Nat.mul_le_mul_right _ (by omega)
                unfold splice
                rw[List.take_zero,List.nil_append,Nat.zero_add,htl,List.drop_append,htl,List.drop_eq_nil_of_le (by omega),List.nil_append,List.drop_drop,show ys.length*ks.length+(i*ks.length - ys.length*ks.length)=i*ks.length by omega]
                exact hr
         · cases hs
       · cases hs
     · cases hs
   · cases hs
 · cases hs
def St.like (σ σ':St):Prop:=σ'.nv=σ.nv∧σ'.jl=σ.jl∧σ'.known=σ.known∧σ'.fr=σ.fr
theorem simple_sound (h:Rel X W0 φ ρ σ (a::fs) w) {o:Oper} {gs:List Ex} {sv:SV} {σ':St} (hs:simple P σ o.op=some (gs,sv,σ')) :
    (∀g∈gs,g.fits ρ.length=true)∧σ.like σ'∧σ.nx≤σ'.nx∧((∀g∈gs,(g.den ρ).b=true)→∃φ' v w',Ran P a o w v w'∧Rel X W0 φ' ρ σ' (a::fs) w'∧SVR w' X φ' ρ σ'.nx sv v∧Evo X φ φ' σ.nx w w'):=by
 by_cases hp:pureOp o.op=true
 · obtain⟨rfl,h1,h2⟩:=pure_sound h hp hs
   refine⟨h1,⟨rfl,rfl,rfl,rfl⟩,Nat.le_refl _,fun hg=>?_⟩
   obtain⟨v,hr,hv⟩:=h2 hg
   exact⟨φ,v,w,.inl hr,h,hv,Evo.refl _ _ _ _⟩
 · by_cases hn:newOp o.op=true
   · obtain⟨⟨ob,rfl⟩,h1,h2⟩:=new_sound h hn hs
     refine⟨h1,⟨rfl,rfl,rfl,rfl⟩,Nat.le_succ _,fun hg=>?_⟩
     obtain⟨φ',v,ob',hr,hrel,hv,hev,_⟩:=h2 hg
     exact⟨φ',v,_,.inl hr,hrel,hv,hev⟩
   · obtain⟨dst,op,ty,pos,aft,gd⟩:=o
     simp only at hp hn hs
     cases op with
     | store t ad x=>
      obtain⟨rfl,rfl,l,i,off,k,g,c,c',ob',_,hφ,hg,hc,hsz,_,rfl,hr,ho⟩:=store_sound (a:=a) h (o:={ dst,op:= .store t ad x,type:=ty,pos,after:=aft,guard:=gd }) rfl hs
      refine⟨List.forall_mem_nil _,⟨rfl,rfl,rfl,rfl⟩,Nat.le_refl _,fun _=>⟨φ,undef,_,.inr ⟨hr,rfl⟩,h.write hφ hg hc hsz ho,by simp[SVR],Evo.write hφ hg hc hsz⟩⟩
     | call c=>
      obtain⟨callee,args,ts⟩:=c
      cases callee with
      | builtin b=>
       cases b with
       | append=>
        have hlike:σ.like σ'∧σ.nx≤σ'.nx:=by
         have hs':=hs
         simp only[simple,builtin1]at hs'
         unfold appendB at hs'
         repeat' split at hs'
         all_goals first
          | (cases hs';done)
          | (simp only[Option.some.injEq,Prod.mk.injEq]at hs';obtain⟨_,_,rfl⟩:=hs';exact⟨⟨rfl,rfl,rfl,rfl⟩,Nat.le_succ _⟩)
        obtain⟨h1,h2⟩:=append_sound h (o:={ dst,op:= .call { callee:= .builtin .append,args,argTypes:=ts },type:=ty,pos,after:=aft,guard:=gd }) rfl hs
        refine⟨h1,hlike.1,hlike.2,fun hg=>?_⟩
        obtain⟨φ',v,w',hr,hrel,hv,hev⟩:=h2 hg
        exact⟨φ',v,w',.inl hr,hrel,hv,hev⟩
       | copy=>
        have hlike:σ.like σ':=by
         have hs':=hs
         simp only[simple,builtin1]at hs'
         unfold copyB at hs'
         repeat' split at hs'
         all_goals first
          | (cases hs';done)
          | (simp only[Option.some.injEq,Prod.mk.injEq]at hs';obtain⟨_,_,rfl⟩:=hs';exact⟨rfl,rfl,rfl,rfl⟩)
        obtain⟨rfl,hnx,v,w',hr,hrel,hv,hev⟩:=copy_sound h (o:={ dst,op:= .call { callee:= .builtin .copy,args,argTypes:=ts },type:=ty,pos,after:=aft,guard:=gd }) rfl hs
        exact⟨List.forall_mem_nil _,hlike,by omega,fun _=>⟨φ,v,w',.inl hr,hrel,hv,hev⟩⟩
       | len=>exact absurd rfl hp
       | max=>exact absurd rfl hp
       | min=>exact absurd rfl hp
       | _=>simp[simple,builtin1]at hs
      | _=>simp[simple]at hs
     | mapUpdate t m x v=>
      obtain⟨rfl,h1,⟨l,ob,rfl⟩,h2⟩:=mapUpdate_sound h (o:={ dst,op:= .mapUpdate t m x v,type:=ty,pos,after:=aft,guard:=gd }) rfl hs
      refine⟨h1,⟨rfl,rfl,rfl,rfl⟩,Nat.le_refl _,fun hg=>?_⟩
      obtain⟨w',hr,hrel,hev⟩:=h2 hg
      exact⟨φ,undef,w',.inr ⟨hr,rfl⟩,hrel,by simp[SVR],hev⟩
     | slice t x lo hi mx=>exact absurd rfl hp
     | _=>first | exact absurd rfl hp | exact absurd rfl hn | (simp[simple]at hs)
end
end Go.Proofs.YtckjdlmfibjpaaaGreat.Sx
set_option linter.unusedVariables false
set_option linter.unusedSimpArgs false
namespace Go.Proofs.YtckjdlmfibjpaaaGreat.Sx
open Go.RowKit
def ArgsR (w:World) (U:Nat→Prop):List Sh→List PV→List Value→Prop
 | [],ps,vs=>ps=[]∧vs=[]
 | .leaf k::r,ps,vs=>∃p ps' v vs',ps=p::ps'∧vs=v::vs'∧RV w U k p v∧ArgsR w U r ps' vs'
 | .own _::_,_,_=>False
 | .agg ks::r,ps,vs=>∃qs ps' cs vs',ps=qs++ps'∧vs= .agg cs::vs'∧RVs w U ks qs cs.toList∧ArgsR w U r ps' vs'
def RowOwn (w:World) (U:Nat→Prop) (k:Bk) (ks:List LK) (p:PV) (v:Value):Prop:=
 OwnAt w k v∧k.s=ks.length∧∃xs,p= .row xs∧xs.length=k.len∧
  match k.g with
  | none=>xs=[]
  | some g=>∃c,w.heap[g]? =some (.cells c k.el (0,0))∧Rws w U ks xs c.toList
def ResR (w:World) (U:Nat→Prop) (ψ:Names):Nat→List Sh→List PV→List Value→Prop
 | _,[],ps,vs=>ps=[]∧vs=[]
 | j,.leaf k::r,ps,vs=>∃p ps' v vs',ps=p::ps'∧vs=v::vs'∧RV w U k p v∧ResR w U ψ j r ps' vs'
 | j,.own ks::r,ps,vs=>∃p ps' v vs' k,ps=p::ps'∧vs=v::vs'∧ψ j=some k∧RowOwn w U k ks p v∧ResR w U ψ (j+1) r ps' vs'
 | j,.agg ks::r,ps,vs=>∃qs ps' cs vs',ps=qs++ps'∧vs= .agg cs::vs'∧RVs w U ks qs cs.toList∧ResR w U ψ j r ps' vs'
def oneV:List Value→Value
 | [v]=>v
 | l=> .tuple l.toArray
def ownCount:List Sh→Nat
 | []=>0
 | .own _::r=>ownCount r+1
 | _::r=>ownCount r
def OwnedU (U:Nat→Prop) (φ:Names) (b:Nat):Prop:=U b∨∃l k,φ l=some k∧k.has b
structure ResOk (w w':World) (X:Nat→Prop) (rs:List Sh) (ps:List PV) (v:Value):Prop where
 below:Below w.heap.size w w'
 vals:∃vs ψ,v=oneV vs∧ResR w' (OwnedU X ψ) ψ 0 rs ps vs∧(∀j k g,ψ j=some k→k.has g→w.heap.size≤g∧g < w'.heap.size)∧
  (∀i j k k' g,ψ i=some k→ψ j=some k'→k.has g→k'.has g→i=j)∧(∀j k,ψ j=some k→j < ownCount rs)
def CallOk (P:Program) (sigs:Nat→Option Sig) (C:Nat→List PV→Option (List PV)):Prop:=
 ∀f sg,sigs f=some sg→∀args rs,C f args=some rs→∀ (w:World) (vs:List Value) (X:Nat→Prop),(∀b,X b→b < w.heap.size)→ArgsR w X sg.ps args vs→
  Calls P f vs.toArray w fun e w'=>∃v,e= .returned v∧ResOk w w' X sg.rs rs v
section
variable {P:Program} {X:Env} {W0:World} {φ:Names} {ρ:List PV} {σ:St} {a:Act} {fs:List Act} {w:World} {nx:Nat} {U:Nat→Prop}
theorem zipLeaf_sound (h:Rel X W0 φ ρ σ fs w) (hU:∀b,U b→Owned X φ b):∀ (ks:List LK) (l:List SV) (es:List Ex) (vs:List Value),SVRs w X φ ρ σ.nx l vs→zipO σ.leaf ks l=some es→
    (∀m p,SV.own m p∈l→∀kk g,φ m=some kk→kk.g=some g→¬U g)→(∀e∈es,e.fits ρ.length=true)∧RVs w U ks (es.map (·.den ρ)) vs
 | [],[],es,vs,hs,hl,_=>by
  simp only[zipO,Option.some.injEq]at hl
  subst hl
  simp only[SVRs]at hs
  subst hs
  simp[RVs]
 | k::ks,s::l,es,vs,hs,hl,hown=>by
  simp only[SVRs]at hs
  obtain⟨v,vs',rfl,h1,h2⟩:=hs
  simp only[zipO]at hl
  split at hl
  · rename_i e es' he hes
    cases hl
    obtain⟨a1,a2⟩:=h.leaf h1 he hU (fun m p hm=>hown m p (by rw[hm];simp))
    obtain⟨b1,b2⟩:=zipLeaf_sound h hU ks l es' vs' h2 hes (fun m p hm=>hown m p (by simp[hm]))
    refine⟨fun x hx=>?_,?_⟩
    · rcases List.mem_cons.1 hx with rfl | hx
      · exact a1
      · exact b1 x hx
    · simp only[List.map_cons,RVs]
      exact⟨_,_,v,vs',rfl,rfl,a2,b2⟩
  · cases hl
 | [],_::_,es,vs,hs,hl,_=>by simp[zipO]at hl
 | _::_,[],es,vs,hs,hl,_=>by simp[zipO]at hl
theorem mem_ownNames:∀ {l:List SV} {m:Nat} {p:Option (Ex×Ex)},SV.own m p∈l→m∈ownNames l
 | s::r,m,p,h=>by
  rcases List.mem_cons.1 h with h | h
  · subst h;simp[ownNames]
  · have:=mem_ownNames h
    cases s <;> simp only[ownNames] <;> first | exact this | exact List.mem_cons_of_mem _ this | exact List.mem_append_right _ this
theorem mem_ownNames_agg:∀ {l:List SV} {cs:List SV} {m:Nat} {p:Option (Ex×Ex)},SV.agg cs∈l→SV.own m p∈cs→m∈ownNames l
 | s::r,cs,m,p,h,hc=>by
  rcases List.mem_cons.1 h with h | h
  · subst h
    simp only[ownNames]
    exact List.mem_append_left _ (List.mem_filterMap.2 ⟨_,hc,rfl⟩)
  · have:=mem_ownNames_agg h hc
    cases s <;> simp only[ownNames] <;> first | exact this | exact List.mem_cons_of_mem _ this | exact List.mem_append_right _ this
theorem argLeaves_sound (h:Rel X W0 φ ρ σ fs w) (hU:∀b,U b→Owned X φ b):∀ (sh:List Sh) (l:List SV) (es:List Ex) (vs:List Value),SVRs w X φ ρ σ.nx l vs→argLeaves σ sh l=some es→
    (∀m∈ownNames l,∀kk g,φ m=some kk→kk.g=some g→¬U g)→(∀e∈es,e.fits ρ.length=true)∧ArgsR w U sh (es.map (·.den ρ)) vs
 | [],[],es,vs,hs,hl,_=>by
  simp only[argLeaves,Option.some.injEq]at hl
  subst hl
  simp only[SVRs]at hs
  subst hs
  simp[ArgsR]
 | .leaf k::sh,s::l,es,vs,hs,hl,hown=>by
  simp only[SVRs]at hs
  obtain⟨v,vs',rfl,h1,h2⟩:=hs
  simp only[argLeaves]at hl
  split at hl
  · rename_i e es' he hes
    cases hl
    obtain⟨a1,a2⟩:=h.leaf h1 he hU (fun m p hm=>hown m (mem_ownNames (p:=p) (by rw[hm];simp)))
    obtain⟨b1,b2⟩:=argLeaves_sound h hU sh l es' vs' h2 hes (fun m hm=>hown m (by cases s <;> simp only[ownNames] <;> first | exact hm | exact List.mem_cons_of_mem _ hm | exact List.mem_append_right _ hm))
    refine⟨fun x hx=>?_,?_⟩
    · rcases List.mem_cons.1 hx with rfl | hx
      · exact a1
      · exact b1 x hx
    · simp only[List.map_cons,ArgsR]
      exact⟨_,_,v,vs',rfl,rfl,a2,b2⟩
  · cases hl
 | .agg ks::sh,s::l,es,vs,hs,hl,hown=>by
  simp only[SVRs]at hs
  obtain⟨v,vs',rfl,h1,h2⟩:=hs
  cases s with
  | agg cs=>
   simp only[argLeaves]at hl
   split at hl
   · rename_i e es' he hes
     cases hl
     simp only[SVR]at h1
     obtain⟨cv,rfl,hcs⟩:=h1
     obtain⟨a1,a2⟩:=zipLeaf_sound h hU ks cs e _ hcs he (fun m p hm=>hown m (mem_ownNames_agg (l:= .agg cs::l) (by simp) hm))
     obtain⟨b1,b2⟩:=argLeaves_sound h hU sh l es' vs' h2 hes (fun m hm=>hown m (by simp only[ownNames];exact List.mem_append_right _ hm))
     refine⟨fun x hx=>?_,?_⟩
     · rcases List.mem_append.1 hx with hx | hx
       · exact a1 x hx
       · exact b1 x hx
     · simp only[List.map_append,ArgsR]
       exact⟨_,_,cv,vs',rfl,rfl,a2,b2⟩
   · cases hl
  | _=>simp[argLeaves]at hl
 | .own ks::sh,s::l,es,vs,hs,hl,_=>by simp[argLeaves]at hl
 | [],_::_,es,vs,hs,hl,_=>by simp[argLeaves]at hl
 | .leaf _::_,[],es,vs,hs,hl,_=>by simp[argLeaves]at hl
 | .agg _::_,[],es,vs,hs,hl,_=>by simp[argLeaves]at hl
 | .own _::_,[],es,vs,hs,hl,_=>by simp[argLeaves]at hl
theorem RV.plain {w':World} {U U':Nat→Prop} {k:LK} {p:PV} {v:Value} (hk:k.isRow=false) (h:RV w U k p v):RV w' U' k p v:=by
 cases k with
 | row ks=>simp[LK.isRow]at hk
 | _=>simp only[RV]at *;exact h
theorem RVs.plain {w':World} {U U':Nat→Prop}:∀ {ks:List LK} {ps:List PV} {vs:List Value},ks.any LK.isRow=false→RVs w U ks ps vs→RVs w' U' ks ps vs
 | [],ps,vs,_,h=>by simp only[RVs]at *;exact h
 | k::ks,ps,vs,hk,h=>by
  simp only[List.any_cons,Bool.or_eq_false_iff]at hk
  simp only[RVs]at *
  obtain⟨p,ps',v,vs',h1,h2,h3,h4⟩:=h
  exact⟨p,ps',v,vs',h1,h2,h3.plain hk.1,RVs.plain hk.2 h4⟩
theorem RowOwn.turn {U U':Nat→Prop} {k:Bk} {ks:List LK} {p:PV} {v:Value} (h:RowOwn w U k ks p v) (ht:∀xs c,Rws w U ks xs c→Rws w U' ks xs c):RowOwn w U' k ks p v:=by
 obtain⟨h1,h2,xs,h3,h4,h5⟩:=h
 refine⟨h1,h2,xs,h3,h4,?_⟩
 split
 · rename_i hg;rw[hg]at h5;exact h5
 · rename_i g hg
   rw[hg]at h5
   obtain⟨c,hc,hr⟩:=h5
   exact⟨c,hc,ht _ _ hr⟩
theorem ResR.turn {U U':Nat→Prop} {ψ:Names} (ht:(∀b,b < w.heap.size→¬U b→¬U' b)):∀ (j:Nat) (sh:List Sh) (ps:List PV) (vs:List Value),ResR w U ψ j sh ps vs→ResR w U' ψ j sh ps vs
 | j,[],ps,vs,h=>by simp only[ResR]at *;exact h
 | j,.leaf k::r,ps,vs,h=>by
  simp only[ResR]at *
  obtain⟨p,ps',v,vs',h1,h2,h3,h4⟩:=h
  exact⟨p,ps',v,vs',h1,h2,RV.mono (Nat.le_refl _) (fun b hb hn=>⟨rfl,ht b hb hn⟩) _ _ _ h3,ResR.turn ht j r ps' vs' h4⟩
 | j,.own ks::r,ps,vs,h=>by
  simp only[ResR]at *
  obtain⟨p,ps',v,vs',k,h1,h2,h0,h3,h4⟩:=h
  exact⟨p,ps',v,vs',k,h1,h2,h0,h3.turn (fun xs c=>Rws.mono (Nat.le_refl _) (fun b hb hn=>⟨rfl,ht b hb hn⟩)),ResR.turn ht (j+1) r ps' vs' h4⟩
 | j,.agg ks::r,ps,vs,h=>by
  simp only[ResR]at *
  obtain⟨qs,ps',cs,vs',h1,h2,h3,h4⟩:=h
  exact⟨qs,ps',cs,vs',h1,h2,RVs.mono (Nat.le_refl _) (fun b hb hn=>⟨rfl,ht b hb hn⟩) _ _ _ h3,ResR.turn ht j r ps' vs' h4⟩
theorem ResR.plain {U U':Nat→Prop} {ψ:Names}:∀ (j:Nat) (sh:List Sh) (ps:List PV) (vs:List Value),sh.any Sh.frozen=false→ResR w U ψ j sh ps vs→ResR w U' ψ j sh ps vs
 | j,[],ps,vs,_,h=>by simp only[ResR]at *;exact h
 | j,.leaf k::r,ps,vs,hf,h=>by
  simp only[List.any_cons,Bool.or_eq_false_iff,Sh.frozen]at hf
  simp only[ResR]at *
  obtain⟨p,ps',v,vs',h1,h2,h3,h4⟩:=h
  exact⟨p,ps',v,vs',h1,h2,h3.plain hf.1,ResR.plain j r ps' vs' hf.2 h4⟩
 | j,.own ks::r,ps,vs,hf,h=>by
  simp only[List.any_cons,Bool.or_eq_false_iff,Sh.frozen]at hf
  simp only[ResR]at *
  obtain⟨p,ps',v,vs',k,h1,h2,h0,h3,h4⟩:=h
  exact⟨p,ps',v,vs',k,h1,h2,h0,h3.turn (fun xs c hr i x hi=>(hr i x hi).plain hf.1),ResR.plain (j+1) r ps' vs' hf.2 h4⟩
 | j,.agg ks::r,ps,vs,hf,h=>by
  simp only[List.any_cons,Bool.or_eq_false_iff,Sh.frozen]at hf
  simp only[ResR]at *
  obtain⟨qs,ps',cs,vs',h1,h2,h3,h4⟩:=h
  exact⟨qs,ps',cs,vs',h1,h2,h3.plain hf.1,ResR.plain j r ps' vs' hf.2 h4⟩
theorem look_dels {α:Type}:∀ (ns:List Nat) (l:List (Nat×α)) (m:Nat),look (dels l ns) m=if m∈ns then none else look l m
 | [],l,m=>by simp[dels]
 | t::r,l,m=>by
  rw[show dels l (t::r)=dels (del l t) r from rfl,look_dels r,look_del]
  by_cases h1:m∈r
  · simp[h1]
  · by_cases h2:t=m
    · simp[h2]
    · simp[h1,h2,Ne.symm h2]
end
end Go.Proofs.YtckjdlmfibjpaaaGreat.Sx
set_option linter.unusedVariables false
set_option linter.unusedSimpArgs false
namespace Go.Proofs.YtckjdlmfibjpaaaGreat.Sx
open Go.RowKit
section
variable {P:Program} {X:Env} {W0:World} {φ:Names} {ρ:List PV} {σ:St} {a:Act} {fs:List Act} {w:World} {nx:Nat} {U:Nat→Prop}
theorem getD_of {l:List PV} {i:Nat} {p:PV} (h:l[i]? =some p):l.getD i .bad=p:=by simp[h]
theorem leavesFrom_sound {ρ':List PV}:∀ (ks:List LK) (nv:Nat) (ps:List PV) (vs:List Value),RVs w (Owned X φ) ks ps vs→(∀i p,ps[i]? =some p→ρ'[nv+i]? =some p)→SVRs w X φ ρ' nx (leavesFrom nv ks) vs
 | [],nv,ps,vs,h,_=>by simp only[RVs]at h;simp[leavesFrom,SVRs,h.2]
 | k::ks,nv,ps,vs,h,hp=>by
  simp only[RVs]at h
  obtain⟨p,ps',v,vs',rfl,rfl,h1,h2⟩:=h
  have h0:ρ'[nv]? =some p:=hp 0 p rfl
  simp only[leavesFrom,SVRs]
  refine⟨v,vs',rfl,?_,leavesFrom_sound ks (nv+1) ps' vs' h2 (fun i q hq=>by have:=hp (i+1) q (by simpa using hq);rw[←this];congr 1;omega)⟩
  simp only[SVR,Ex.fits,Ex.den,decide_eq_true_eq]
  exact⟨(List.getElem?_eq_some_iff.1 h0).1,by rw[getD_of h0];exact h1⟩
theorem resSV_sound {ρ':List PV} {ψ:Names} {nx0 NX:Nat} (hψ:∀i k,ψ i=some k→φ (nx0+i)=some k):∀ (rs:List Sh) (j nv:Nat) (ps:List PV) (vs:List Value),ResR w (Owned X φ) ψ j rs ps vs→(∀i p,ps[i]? =some p→ρ'[nv+i]? =some p)→
    nx0+j+ownCount rs≤NX→SVRs w X φ ρ' NX (resSV rs nv (nx0+j)).1 vs∧(resSV rs nv (nx0+j)).2.2=ps.length∧(resSV rs nv (nx0+j)).2.1.length=ownCount rs∧
     (∀l o,look (resSV rs nv (nx0+j)).2.1 l=some o→nx0+j≤l∧∃k,φ l=some k∧ObR w X φ ρ' NX k o)
 | [],j,nv,ps,vs,h,_,_=>by
  simp only[ResR]at h
  simp only[resSV,h.1,h.2,ownCount]
  exact⟨by simp[SVRs],rfl,rfl,fun l o hl=>by simp[look]at hl⟩
 | .leaf k::r,j,nv,ps,vs,h,hp,hNX=>by
  simp only[ResR]at h
  obtain⟨p,ps',v,vs',rfl,rfl,h1,h2⟩:=h
  have h0:ρ'[nv]? =some p:=hp 0 p rfl
  obtain⟨i1,i2,i3,i4⟩:=resSV_sound hψ r j (nv+1) ps' vs' h2 (fun i q hq=>by have:=hp (i+1) q (by simpa using hq);rw[←this];congr 1;omega) hNX
  simp only[resSV,SVRs]
  refine⟨⟨v,vs',rfl,?_,i1⟩,by simp[i2],i3,i4⟩
  simp only[SVR,Ex.fits,Ex.den,decide_eq_true_eq]
  exact⟨(List.getElem?_eq_some_iff.1 h0).1,by rw[getD_of h0];exact h1⟩
 | .own ks::r,j,nv,ps,vs,h,hp,hNX=>by
  simp only[ResR]at h
  obtain⟨p,ps',v,vs',k,rfl,rfl,hk,⟨o1,o2,xs,o3,o4,o5⟩,h2⟩:=h
  have h0:ρ'[nv]? =some p:=hp 0 p rfl
  simp only[ownCount]at hNX
  obtain⟨i1,i2,i3,i4⟩:=resSV_sound (NX:=NX) hψ r (j+1) (nv+1) ps' vs' h2 (fun i q hq=>by have:=hp (i+1) q (by simpa using hq);rw[←this];congr 1;omega) (by omega)
  simp only[resSV,SVRs,ownCount]
  rw[show nx0+j+1=nx0+(j+1)by omega]
  refine⟨⟨v,vs',rfl,?_,i1⟩,by simp[i2],by simp[i3],fun l o hl=>?_⟩
  · simp only[SVR]
    refine⟨by omega,?_,fun k' hk'=>?_⟩
    · unfold OwnAt at o1
      split at o1
      · exact⟨_,_,_,o1.2⟩
      · obtain⟨_,_,hv,_⟩:=o1;exact⟨_,_,_,hv⟩
    · rw[hψ j k hk]at hk'
      cases hk'
      exact o1
  · simp only[look]at hl
    split at hl
    · rename_i he
      have he':=eq_of_beq he
      subst he'
      cases hl
      refine⟨Nat.le_refl _,k,hψ j k hk,?_⟩
      simp only[ObR,Ex.fits,Ex.den,decide_eq_true_eq]
      refine⟨(List.getElem?_eq_some_iff.1 h0).1,o2,xs,by rw[getD_of h0];exact o3,o4,?_⟩
      split
      · rename_i hg;rw[hg]at o5;exact o5
      · rename_i g hg;rw[hg]at o5;exact o5
    · obtain⟨hle,hk'⟩:=i4 l o hl
      exact⟨by omega,hk'⟩
 | .agg ks::r,j,nv,ps,vs,h,hp,hNX=>by
  simp only[ResR]at h
  obtain⟨qs,ps',cs,vs',rfl,rfl,h1,h2⟩:=h
  have hql:=h1.length.1
  obtain⟨i1,i2,i3,i4⟩:=resSV_sound hψ r j (nv+ks.length) ps' vs' h2 (fun i q hq=>by
   have:=hp (ks.length+i) q (by rw[List.getElem?_append_right (by omega),←hq];congr 1;omega)
   rw[←this];congr 1;omega) hNX
  simp only[resSV,SVRs]
  refine⟨⟨_,vs',rfl,?_,i1⟩,by simp[i2,hql];omega,i3,i4⟩
  simp only[SVR]
  refine⟨cs,rfl,leavesFrom_sound ks nv qs _ h1 (fun i q hq=>hp i q ?_)⟩
  rw[List.getElem?_append_left (List.getElem?_eq_some_iff.1 hq).1]
  exact hq
theorem oneOf_sound {l:List SV} {vs:List Value} (h:SVRs w X φ ρ nx l vs):SVR w X φ ρ nx (oneOf l) (oneV vs):=by
 cases l with
 | nil=>simp only[SVRs]at h;subst h;simp only[oneOf,oneV,SVR];exact⟨#[],rfl,by simp[SVRs]⟩
 | cons s r=>
  simp only[SVRs]at h
  obtain⟨v,vs',rfl,h1,h2⟩:=h
  cases r with
  | nil=>simp only[SVRs]at h2;subst h2;exact h1
  | cons s' r'=>
   have h2':=h2
   simp only[SVRs]at h2
   obtain⟨v',vs'',rfl,h3,h4⟩:=h2
   simp only[oneOf,oneV,SVR]
   refine⟨_,rfl,?_⟩
   simp only[SVRs]
   exact⟨v,v'::vs'',rfl,h1,v',vs'',rfl,h3,h4⟩
def called (φ ψ:Names) (nx:Nat) (killed:List Nat):Names:=fun m=>if m < nx then(if m∈killed then none else φ m)else ψ (m - nx)
theorem closedCall_sound {sigs:Nat→Option Sig} {C:Nat→List PV→Option (List PV)} (hC:CallOk P sigs C) {N:Nat} {J:List (List PV→Option (List PV))} {r:List PV} {k:SV→St→T} {f:Nat} {args:List SV} {vs:List Value}
    (h:Rel X W0 φ ρ σ fs w) (hargs:SVRs w X φ ρ σ.nx args vs) (hd:(closedCall sigs σ f args k).den N C ρ J=some r) :
    Calls P f vs.toArray w fun e w'=>∃v,e= .returned v∧∃φ' ρ' sv σ',ρ <+:ρ'∧Rel X W0 φ' ρ' σ' fs w'∧SVR w' X φ' ρ' σ'.nx sv v∧(k sv σ').den N C ρ' J=some r∧σ'.jl=σ.jl:=by
 unfold closedCall at hd
 split at hd
 · simp[T.den]at hd
 · rename_i sg hsg
   split at hd
   · simp[T.den]at hd
   · rename_i es hes
     simp only[T.den,Option.bind_eq_some_iff]at hd
     obtain⟨ps,hCf,hd⟩:=hd
     split at hd
     · rename_i hlen
       let Xc:Nat→Prop:=fun b=>Owned X φ b∧¬∃m∈ownNames args,∃kk,φ m=some kk∧kk.g=some b
       obtain⟨fes,hA⟩:=argLeaves_sound h (U:=Xc) (fun b hb=>hb.1) sg.ps args es vs hargs hes (fun m hm kk g hk hg hb=>hb.2 ⟨m,hm,kk,hk,hg⟩)
       have hXlt:∀b,Xc b→b < w.heap.size:=by
        intro b hb
        rcases hb.1 with hx | ⟨m,kk,hm,hg⟩
        · have:=h.old.1 b hx;have:=h.size_le;omega
        · exact(h.low m kk b hm hg).2
       refine(hC f sg hsg _ ps hCf w vs Xc hXlt hA).mono fun e w' hpost=>?_
       obtain⟨v,rfl,hbel,us,ψ,rfl,hR,hψlow,hψinj,hψn⟩:=hpost
       refine⟨_,rfl,?_⟩
       let killed:=if sg.rs.any Sh.frozen then ownNames args else []
       let φ':=called φ ψ σ.nx killed
       have hold:∀m kk,φ' m=some kk→m < σ.nx→φ m=some kk∧m∉killed:=by
        intro m kk hm hlt
        simp only[φ',called,if_pos hlt]at hm
        split at hm
        · cases hm
        · rename_i hnk;exact⟨hm,hnk⟩
       have hnew:∀m kk,φ' m=some kk→¬m < σ.nx→ψ (m - σ.nx)=some kk:=by
        intro m kk hm hlt
        simp only[φ',called,if_neg hlt]at hm
        exact hm
       have hsame:∀b,b < w.heap.size→w'.heap[b]? =w.heap[b]?:=fun b hb=>hbel.block b hb
       have ev:Evo X φ φ' σ.nx w w':=by
        refine⟨hbel.size,fun b hb _=>hsame b hb,fun l kk g c hl hk hg hc=>⟨c,by rw[hsame g (Array.getElem?_eq_some_iff.1 hc).1];exact hc,rfl⟩,fun l hl=>?_,fun b hb ho=>?_⟩
        · simp only[φ',called,if_pos hl]
          split
          · exact .inr rfl
          · exact .inl rfl
        · rcases ho with hx | ⟨m,kk,hm,hg⟩
          · exact .inl hx
          · by_cases hlt:m < σ.nx
            · exact .inr ⟨m,kk,(hold m kk hm hlt).1,hg⟩
            · have:=hψlow _ _ _ (hnew m kk hm hlt) hg
              omega
       have hR':ResR w' (Owned X φ') ψ 0 sg.rs ps us:=by
        by_cases hfz:sg.rs.any Sh.frozen=true
        · refine ResR.turn (fun b _ hn ho=>hn ?_) 0 sg.rs ps us hR
          rcases ho with hx | ⟨m,kk,hm,hg⟩
          · left
            refine⟨.inl hx,?_⟩
            rintro⟨m,_,kk,hm,hg⟩
            have:=h.old.1 b hx
            have:=(h.lowg m kk b hm hg).1
            omega
          · by_cases hlt:m < σ.nx
            · obtain⟨hφ,hnk⟩:=hold m kk hm hlt
              left
              refine⟨.inr ⟨m,kk,hφ,hg⟩,?_⟩
              rintro⟨m',hm',kk',hk',hg'⟩
              have:=h.inj m m' kk kk' b hφ hk' hg (.inl hg')
              subst this
              simp only[killed,hfz,if_true]at hnk
              exact hnk hm'
            · exact .inr ⟨_,kk,hnew m kk hm hlt,hg⟩
        · exact ResR.plain 0 sg.rs ps us (by simpa using hfz) hR
       have hψφ:∀i kk,ψ i=some kk→φ' (σ.nx+i)=some kk:=by
        intro i kk hk
        simp only[φ',called]
        rw[if_neg (by omega),show σ.nx+i - σ.nx=i by omega]
        exact hk
       have hρ:∀i p,ps[i]? =some p→(ρ++ps)[σ.nv+i]? =some p:=by
        intro i p hp
        rw[h.nv,List.getElem?_append_right (by omega),←hp]
        congr 1
        omega
       obtain⟨q1,q2,q3,q4⟩:=resSV_sound (NX:=σ.nx+ownCount sg.rs) hψφ sg.rs 0 σ.nv ps us hR' hρ (by omega)
       simp only[Nat.add_zero]at q1 q2 q3 q4
       refine⟨φ',ρ++ps,_,_,List.prefix_append _ _,?_,?_,hd,rfl⟩
       · have pre:ρ <+:ρ++ps:=List.prefix_append _ _
         have hnx:σ.nx+(resSV sg.rs σ.nv σ.nx).2.1.length=σ.nx+ownCount sg.rs:=by rw[q3]
         refine⟨h.below.trans (hbel.mono h.size_le),h.old,fun l kk g hl hg=>?_,fun l l' kk kk' g hl hl' hg hg'=>?_,fun l kk hl=>?_,(by show σ.nv+(resSV sg.rs σ.nv σ.nx).2.2=(ρ++ps).length;rw[q2,List.length_append,h.nv]),fun c b hc=>?_,?_,fun l o hl=>?_⟩
         · by_cases hlt:l < σ.nx
           · have:=h.low l kk g (hold l kk hl hlt).1 hg
             have:=hbel.size
             omega
           · have:=hψlow _ _ _ (hnew l kk hl hlt) hg
             have:=h.size_le
             omega
         · by_cases hlt:l < σ.nx
           · by_cases hlt':l' < σ.nx
             · exact h.inj l l' kk kk' g (hold l kk hl hlt).1 (hold l' kk' hl' hlt').1 hg hg'
             · have:=(h.low l kk g (hold l kk hl hlt).1 hg).2
               have:=hψlow _ _ _ (hnew l' kk' hl' hlt') hg'
               omega
           · by_cases hlt':l' < σ.nx
             · have:=(h.low l' kk' g (hold l' kk' hl' hlt').1 hg').2
               have:=hψlow _ _ _ (hnew l kk hl hlt) hg
               omega
             · have:=hψinj _ _ _ _ g (hnew l kk hl hlt) (hnew l' kk' hl' hlt') hg hg'
               omega
         · show l < σ.nx+(resSV sg.rs σ.nv σ.nx).2.1.length
           rw[hnx]
           by_cases hlt:l < σ.nx
           · omega
           · have:=hψn _ _ (hnew l kk hl hlt)
             omega
         · obtain⟨hf,hb⟩:=h.known c b hc
           exact⟨Ex.fits_mono pre.length_le c hf,by rw[Ex.den_ext pre c hf];exact hb⟩
         · show FrsR w' X φ' (ρ++ps) (σ.nx+(resSV sg.rs σ.nv σ.nx).2.1.length) σ.fr fs
           exact FrsR.evo ev pre (by omega) _ _ h.frames
         · show ∃k,φ' l=some k∧ObR w' X φ' (ρ++ps) (σ.nx+(resSV sg.rs σ.nv σ.nx).2.1.length) k o
           rw[hnx]
           have hl':look ((resSV sg.rs σ.nv σ.nx).2.1++(if sg.rs.any Sh.frozen then dels σ.heap (ownNames args)else σ.heap)) l=some o:=hl
           have look_app:∀ (x y:List (Nat×Ob)),look (x++y) l=match look x l with | some o=>some o | none=>look y l:=by
            intro x y
            induction x with
            | nil=>rfl
            | cons z x ih=>
             obtain⟨i,ob⟩:=z
             simp only[List.cons_append,look]
             split
             · rfl
             · exact ih
           rw[look_app]at hl'
           split at hl'
           · rename_i o' ho'
             cases hl'
             exact(q4 l o ho').2
           · have hk':look σ.heap l=some o∧l∉killed:=by
              simp only[killed]
              split at hl'
              · rename_i hfz
                rw[look_dels]at hl'
                split at hl'
                · cases hl'
                · rename_i hnm;rw[if_pos hfz];exact⟨hl',hnm⟩
              · rename_i hfz
                rw[if_neg hfz]
                exact⟨hl',by simp⟩
             obtain⟨kk,hkk,hob⟩:=h.heap l o hk'.1
             have hlt:=h.names l kk hkk
             refine⟨kk,?_,ObR.evo ev pre (by omega) (fun g hg=>hsame g (h.low l kk g hkk hg).2) o hob⟩
             simp only[φ',called,if_pos hlt,if_neg hk'.2]
             exact hkk
       · show SVR w' X φ' (ρ++ps) (σ.nx+(resSV sg.rs σ.nv σ.nx).2.1.length) (oneOf (resSV sg.rs σ.nv σ.nx).1) (oneV us)
         rw[q3]
         exact oneOf_sound q1
     · cases hd
end
end Go.Proofs.YtckjdlmfibjpaaaGreat.Sx
set_option linter.unusedVariables false
set_option linter.unusedSimpArgs false
namespace Go.Proofs.YtckjdlmfibjpaaaGreat.Sx
open Go.RowKit
def Fr (ro:Option Nat):Fence:={ Fence.wide with round:=ro }
theorem callsIn_fr {ro:Option Nat} {n:Nat} {P:Program} {f:FuncId} {args:Array Value} {w:World} {R:Ending→World→Prop}:CallsIn (Fr ro) n P f args w R↔Calls P f args w R:=
 callsIn_wide (n:=n)
section
variable {ro:Option Nat} {P:Program} {o:Oper} {a:Act} {w w':World} {next:Act→World→Prop} {Q:Exit→Act→World→Prop}
theorem wpr_value {v:Value} (hnd:∀c,o.op≠ .defer c) (h:(execOp a.eval o).run P w= .ok (.value v) w') (hk:next (a.put o.dst v) w'):o.wpIn (Fr ro) 0 P a w next Q:=by
 refine⟨fun _ _=>trivial,?_⟩
 rw[Oper.semAt_plain (Fr ro) _ _ hnd,h]
 exact hk
theorem wpr_skip (hnd:∀c,o.op≠ .defer c) (h:(execOp a.eval o).run P w= .ok .skip w') (hk:next (a.put o.dst undef) w'):o.wpIn (Fr ro) 0 P a w next Q:=by
 refine⟨fun _ _=>trivial,?_⟩
 rw[Oper.semAt_plain (Fr ro) _ _ hnd,h]
 exact hk
theorem wpr_enter {f:FuncId} {args:Array Value} (hnd:∀c,o.op≠ .defer c) (h:(execOp a.eval o).run P w= .ok (.enter f args) w')
    (hk:Calls P f args w' fun e w''=>∃v,e= .returned v∧next (a.put o.dst v) w''):o.wpIn (Fr ro) 0 P a w next Q:=by
 refine⟨fun _ _=>trivial,?_⟩
 rw[Oper.semAt_plain (Fr ro) _ _ hnd,h]
 refine⟨(fun hh=>by cases hh),(callsIn_fr (n:=0 - 1)).2 (hk.mono fun e w'' he=>?_)⟩
 obtain⟨v,rfl,hv⟩:=he
 exact hv
theorem wpr_round {l:Nat} {f:FuncId} {tmps:Array Value} {assign body:Code} (hnd:∀c,o.op≠ .defer c) (h:(execOp a.eval o).run P w= .ok (.round l f tmps assign body) w')
    (hk:RoundIn (Fr ro) 0 P l f tmps assign body w' fun e w''=>∃v,e= .returned v∧next (a.put o.dst v) w''):o.wpIn (Fr ro) 0 P a w next Q:=by
 refine⟨fun _ _=>trivial,?_⟩
 rw[Oper.semAt_plain (Fr ro) _ _ hnd,h]
 refine⟨(fun hh=>by cases hh),hk.mono fun e w'' he=>?_⟩
 obtain⟨v,rfl,hv⟩:=he
 exact hv
theorem stepR_scope {b:Frame} {k:List Item} {cs:List Frame} {c:Code}:step P (lone (b.atR a (.code (.scope c)::k)) cs w)= .next (lone (b.atR a (.code c:: .inScope c::k)) cs w):=
 step_lone_go (by simp[stepG,stepG.exec,Frame.atR])
theorem stepR_inScope {b:Frame} {k:List Item} {cs:List Frame} {c:Code}:step P (lone (b.atR a (.inScope c::k)) cs w)= .next (lone (b.atR a k) cs w):=
 step_lone_go (by simp[stepG,stepG.exec,Frame.atR])
theorem wpIn_scope_straight {F:Fence} {n:Nat} {c:Code} (h:c.wpIn F n P (Exit.noGoto Q) a w):(Code.scope c).wpIn F n P Q a w:=by
 intro b k cs hro hb hr
 obtain⟨e,a₁,w₁,hq,harr⟩:=h b (.inScope c::k) cs hro hb hr
 have s1:StepsIn (Machine.fenced P F) P (lone (b.atR a (.code (.scope c)::k)) cs w) (lone (b.atR a (.code c:: .inScope c::k)) cs w):= .one (fenced_calm hb hr rfl) stepR_scope
 cases e with
 | normal=>exact⟨.normal,a₁,w₁,hq,StepsIn.trans s1 (StepsIn.trans harr (.one (fenced_calm hb hr rfl) stepR_inScope))⟩
 | exit id=>exact⟨.exit id,a₁,w₁,hq,.of_steps s1 ⟨fun k' hk=>harr.1 k' (by simp[exitTo,hk]),fun hr hk=>harr.2 hr (by simp[exitTo,hk])⟩⟩
 | goto l=>exact hq.elim
 | ret=>exact⟨_,a₁,w₁,hq,.of_steps s1 harr⟩
 | panic ch=>exact⟨_,a₁,w₁,hq,.of_steps s1 harr⟩
 | outgrown=>exact⟨_,a₁,w₁,hq,.of_steps s1 harr⟩
end
theorem simple_nodefer {P:Program} {σ:St} {op:Op} {x:List Ex×SV×St} (h:simple P σ op=some x):∀c,op≠ .defer c:=by
 rintro c rfl
 simp[simple]at h
theorem pure_nodefer {op:Op} (h:pureOp op=true):∀c,op≠ .defer c:=by
 rintro c rfl
 simp[pureOp]at h
end Go.Proofs.YtckjdlmfibjpaaaGreat.Sx
set_option linter.unusedVariables false
set_option linter.unusedSimpArgs false
namespace Go.Proofs.YtckjdlmfibjpaaaGreat.Sx
open Go.RowKit
section
variable {P:Program} {X:Env} {W0:World} {φ φ':Names} {ρ:List PV} {σ:St} {a:Act} {fs:List Act} {w w' W W':World} {nx nx':Nat}
mutual
theorem SVR.ren {l l':Nat} {k k':Bk} (ev:Evo X φ φ' nx W W') (hn:nx≤nx') (hl:l' < nx') (hk:φ l=some k) (hk':φ' l'=some k') (hg:k'.g=k.g) :
    ∀ (s:SV) (v:Value),SVR W X φ ρ nx s v→SVR W' X φ' ρ nx' (s.ren l l') v
 | .undef,v,_=>by simp[SV.ren,SVR]
 | .skip,v,hv=>by simp only[SV.ren];exact SVR.evo ev (List.prefix_refl _) hn _ v hv
 | .nilS,v,hv=>by simp only[SV.ren];exact SVR.evo ev (List.prefix_refl _) hn _ v hv
 | .nilP,v,hv=>by simp only[SV.ren];exact SVR.evo ev (List.prefix_refl _) hn _ v hv
 | .nilF,v,hv=>by simp only[SV.ren];exact SVR.evo ev (List.prefix_refl _) hn _ v hv
 | .yld m,v,hv=>by simp only[SV.ren];exact SVR.evo ev (List.prefix_refl _) hn _ v hv
 | .ex q e,v,hv=>by simp only[SV.ren];exact SVR.evo ev (List.prefix_refl _) hn _ v hv
 | .ptr m i o,v,hv=>by simp only[SV.ren];exact SVR.evo ev (List.prefix_refl _) hn _ v hv
 | .rptr ks e i o,v,hv=>by simp only[SV.ren];exact SVR.evo ev (List.prefix_refl _) hn _ v hv
 | .own m p,v,hv=>by simp only[SV.ren];exact SVR.evo ev (List.prefix_refl _) hn _ v hv
 | .mp m,v,hv=>by
  simp only[SV.ren]
  split
  · rename_i hm
    have hm:=eq_of_beq hm
    subst hm
    simp only[SVR]at hv ⊢
    refine⟨hl,hv.2.1,fun kk hkk=>?_⟩
    rw[hk']at hkk
    cases hkk
    obtain⟨g,q1,q2⟩:=hv.2.2 k hk
    exact⟨g,hg.trans q1,q2⟩
  · exact SVR.evo ev (List.prefix_refl _) hn _ v hv
 | .mrow m e,v,hv=>by
  simp only[SV.ren]
  split
  · simp[SVR]
  · exact SVR.evo ev (List.prefix_refl _) hn _ v hv
 | .mptr m e i o,v,hv=>by
  simp only[SV.ren]
  split
  · simp[SVR]
  · exact SVR.evo ev (List.prefix_refl _) hn _ v hv
 | .gd c s,v,hv=>by
  simp only[SV.ren,SVR]at *
  refine⟨hv.1,?_,fun hc=>SVR.ren ev hn hl hk hk' hg s v (hv.2.2.1 hc),hv.2.2.2⟩
  exact SV.ren_fits hn hl s hv.2.1
 | .agg x,v,hv=>by
  simp only[SV.ren,SVR]at *
  obtain⟨cs,rfl,hs⟩:=hv
  exact⟨cs,rfl,SVRs.ren ev hn hl hk hk' hg x _ hs⟩
 | .tup x,v,hv=>by
  simp only[SV.ren,SVR]at *
  obtain⟨cs,rfl,hs⟩:=hv
  exact⟨cs,rfl,SVRs.ren ev hn hl hk hk' hg x _ hs⟩
 | .fn f x,v,hv=>by
  simp only[SV.ren,SVR]at *
  obtain⟨cs,rfl,hs⟩:=hv
  exact⟨cs,rfl,SVRs.ren ev hn hl hk hk' hg x _ hs⟩
 | .bfn f x,v,hv=>by
  simp only[SV.ren,SVR]at *
  obtain⟨cs,rfl,hs⟩:=hv
  exact⟨cs,rfl,SVRs.ren ev hn hl hk hk' hg x _ hs⟩
 | .fbox x o,v,hv=>by
  simp only[SV.ren,SVR]at *
  obtain⟨g,vs,rfl,h1,h2,hs,h3⟩:=hv
  exact⟨g,vs,rfl,(ev.rv g h2 h1).2,Nat.lt_of_lt_of_le h2 ev.size,SVRs.ren ev hn hl hk hk' hg x _ hs,fun j u hj=>(ev.w.blk g h2 h1) j u (h3 j u hj)⟩
 | .alt c x y,v,hv=>by
  simp only[SV.ren,SVR]at *
  exact⟨hv.1,SV.ren_fits hn hl x hv.2.1,SV.ren_fits hn hl y hv.2.2.1,fun hc=>SVR.ren ev hn hl hk hk' hg x v (hv.2.2.2.1 hc),fun hc=>SVR.ren ev hn hl hk hk' hg y v (hv.2.2.2.2 hc)⟩
theorem SVRs.ren {l l':Nat} {k k':Bk} (ev:Evo X φ φ' nx W W') (hn:nx≤nx') (hl:l' < nx') (hk:φ l=some k) (hk':φ' l'=some k') (hg:k'.g=k.g) :
    ∀ (x:List SV) (vs:List Value),SVRs W X φ ρ nx x vs→SVRs W' X φ' ρ nx' (rens l l' x) vs
 | [],vs,hv=>by simp only[rens,SVRs]at *;exact hv
 | s::r,vs,hv=>by
  simp only[rens,SVRs]at *
  obtain⟨v,vs',rfl,h1,h2⟩:=hv
  exact⟨v,vs',rfl,SVR.ren ev hn hl hk hk' hg s v h1,SVRs.ren ev hn hl hk hk' hg r vs' h2⟩
theorem SV.ren_fits {l l' n:Nat} {nx nx':Nat} (hn:nx≤nx') (hl:l' < nx'):∀ (s:SV),s.fits n nx=true→(s.ren l l').fits n nx'=true
 | .undef,_ | .skip,_ | .nilS,_ | .nilP,_ | .nilF,_ | .yld _,_=>by simp[SV.ren,SV.fits]
 | .ex q e,h=>by simp only[SV.ren];exact SV.fits_mono (Nat.le_refl _) hn _ h
 | .ptr m i o,h=>by simp only[SV.ren];exact SV.fits_mono (Nat.le_refl _) hn _ h
 | .rptr ks e i o,h=>by simp only[SV.ren];exact SV.fits_mono (Nat.le_refl _) hn _ h
 | .own m p,h=>by simp only[SV.ren];exact SV.fits_mono (Nat.le_refl _) hn _ h
 | .mp m,h=>by
  simp only[SV.ren]
  split
  · simp only[SV.fits,decide_eq_true_eq];exact hl
  · exact SV.fits_mono (Nat.le_refl _) hn _ h
 | .mrow m e,h=>by
  simp only[SV.ren]
  split
  · rfl
  · exact SV.fits_mono (Nat.le_refl _) hn _ h
 | .mptr m e i o,h=>by
  simp only[SV.ren]
  split
  · rfl
  · exact SV.fits_mono (Nat.le_refl _) hn _ h
 | .gd c s,h=>by
  simp only[SV.ren,SV.fits,Bool.and_eq_true]at *
  exact⟨h.1,SV.ren_fits hn hl s h.2⟩
 | .agg x,h=>by simp only[SV.ren,SV.fits]at *;exact rens_fits hn hl x h
 | .tup x,h=>by simp only[SV.ren,SV.fits]at *;exact rens_fits hn hl x h
 | .fn f x,h=>by simp only[SV.ren,SV.fits]at *;exact rens_fits hn hl x h
 | .bfn f x,h=>by simp only[SV.ren,SV.fits]at *;exact rens_fits hn hl x h
 | .fbox x o,h=>by simp only[SV.ren,SV.fits]at *;exact rens_fits hn hl x h
 | .alt c x y,h=>by
  simp only[SV.ren,SV.fits,Bool.and_eq_true]at *
  exact⟨⟨h.1.1,SV.ren_fits hn hl x h.1.2⟩,SV.ren_fits hn hl y h.2⟩
theorem rens_fits {l l' n:Nat} {nx nx':Nat} (hn:nx≤nx') (hl:l' < nx'):∀ (x:List SV),fitsAll n nx x=true→fitsAll n nx' (rens l l' x)=true
 | [],_=>rfl
 | s::r,h=>by
  simp only[rens,fitsAll,Bool.and_eq_true]at *
  exact⟨SV.ren_fits hn hl s h.1,rens_fits hn hl r h.2⟩
end
theorem look_renFr {l l' t:Nat}:∀ (f:List (Nat×SV)),look (renFr l l' f) t=(look f t).map (·.ren l l')
 | []=>rfl
 | (i,x)::r=>by
  have ih:=look_renFr (l:=l) (l':=l') (t:=t) r
  unfold renFr at ih ⊢
  simp only[List.map_cons,look]
  split
  · rfl
  · exact ih
theorem look_renHp {l l' t:Nat}:∀ (f:List (Nat×Ob)),look (renHp l l' f) t=(look f t).map (·.ren l l')
 | []=>rfl
 | (i,x)::r=>by
  have ih:=look_renHp (l:=l) (l':=l') (t:=t) r
  unfold renHp at ih ⊢
  simp only[List.map_cons,look]
  split
  · rfl
  · exact ih
theorem FrsR.ren {l l':Nat} {k k':Bk} (ev:Evo X φ φ' nx W W') (hn:nx≤nx') (hl:l' < nx') (hk:φ l=some k) (hk':φ' l'=some k') (hg:k'.g=k.g) :
    ∀ (L:List (List (Nat×SV))) (as:List Act),FrsR W X φ ρ nx L as→FrsR W' X φ' ρ nx' (L.map (renFr l l')) as
 | [],as,ha=>by simp only[FrsR,List.map_nil]at *;exact⟨ha.1,ha.2.evo ev⟩
 | f::r,as,ha=>by
  simp only[FrsR,List.map_cons]at *
  obtain⟨a,as',rfl,h1,hd,h2⟩:=ha
  refine⟨a,as',rfl,fun t s hs=>?_,⟨hd.1.evo ev,hd.2⟩,FrsR.ren ev hn hl hk hk' hg r as' h2⟩
  rw[look_renFr,Option.map_eq_some_iff]at hs
  obtain⟨s0,hs0,rfl⟩:=hs
  exact SVR.ren ev hn hl hk hk' hg s0 _ (h1 t s0 hs0)
theorem ObR.ren {l l':Nat} {k k' kk:Bk} (ev:Evo X φ φ' nx W W') (hn:nx≤nx') (hl:l' < nx') (hk:φ l=some k) (hk':φ' l'=some k') (hg:k'.g=k.g) (hsame:∀g,kk.has g→W'.heap[g]? =W.heap[g]?) :
    ∀ (o:Ob),ObR W X φ ρ nx kk o→ObR W' X φ' ρ nx' kk (o.ren l l')
 | .box cs,ho=>by
  obtain⟨h1,g,c,h2,h3,h4⟩:=ho
  exact⟨h1,g,c,h2,(hsame g (.inl h2)).trans h3,SVRs.ren ev hn hl hk hk' hg cs _ h4⟩
 | .rows ks e,ho=>ObR.evo ev (List.prefix_refl _) hn hsame _ ho
 | .imap e,ho=>ObR.evo ev (List.prefix_refl _) hn hsame _ ho
 | .rmap ks e hh,ho=>ObR.evo ev (List.prefix_refl _) hn hsame _ ho
theorem look_del' {α:Type} (h:List (Nat×α)) (l m:Nat):look (del h l) m=if l=m then none else look h m:=by
 have:=look_del h l m
 simpa using this
theorem Rel.take (h:Rel X W0 φ ρ σ fs w) {l:Nat} {ks:List LK} {e xe:Ex} (hl:look σ.heap l=some (.rmap ks e none)) {aa:Int} (fx:xe.fits ρ.length=true) (dx:(xe.den ρ).i=aa) {v:Value} (hv:SVR w X φ ρ σ.nx (.mrow l xe) v) :
    ∃φ',Rel X W0 φ' ρ (σ.take l xe ks e) fs w∧SVR w X φ' ρ (σ.nx+2) (.own σ.nx none) v∧∀s u,SVR w X φ ρ σ.nx s u→SVR w X φ' ρ (σ.nx+2) (s.ren l (σ.nx+1)) u:=by
 obtain⟨k,hk,hob⟩:=h.heap l _ hl
 simp only[ObR]at hob
 obtain⟨fe,_,hks,g,xs,hg,dxs,hown,hdis,hng,_,hrow⟩:=hob
 simp only[SVR]at hv
 obtain⟨hlnx,_,hsl,hvt⟩:=hv
 have hva:=hvt k hk
 rw[dx]at hva
 obtain⟨kk,hflat,hblk,hOwn,hs,hlen,hm⟩:=hrow aa (by simp)
 rw[←hva]at hblk hOwn
 let k1:Bk:={ k with tab:=fun b=>if b=aa then .slice none 0 0 else k.tab b }
 let φ':Names:=fun m=>if m=σ.nx then some kk else if m=σ.nx+1 then some k1 else if m=l then none else φ m
 have p0:φ' σ.nx=some kk:=if_pos rfl
 have p1:φ' (σ.nx+1)=some k1:=by show(if _ then _ else _)=_;rw[if_neg (by omega),if_pos rfl]
 have p2:∀m,m < σ.nx→m≠l→φ' m=φ m:=fun m h1 h2=>by show(if _ then _ else if _ then _ else if _ then _ else _)=_;rw[if_neg (by omega),if_neg (by omega),if_neg h2]
 have p3:φ' l=none:=by show(if _ then _ else if _ then _ else if _ then _ else _)=_;rw[if_neg (by omega),if_neg (by omega),if_pos rfl]
 have hcase:∀m q,φ' m=some q→(m=σ.nx∧q=kk)∨(m=σ.nx+1∧q=k1)∨(m≠l∧m < σ.nx∧φ m=some q):=by
  intro m q hq
  by_cases h0:m=σ.nx
  · subst h0;rw[p0]at hq;cases hq;exact .inl ⟨rfl,rfl⟩
  · by_cases h1:m=σ.nx+1
    · subst h1;rw[p1]at hq;cases hq;exact .inr (.inl ⟨rfl,rfl⟩)
    · have hq':(if m=l then none else φ m)=some q:=by
       have:φ' m=if m=l then none else φ m:=by show(if _ then _ else if _ then _ else _)=_;rw[if_neg h0,if_neg h1]
       rw[←this];exact hq
      split at hq'
      · cases hq'
      · rename_i h2
        exact .inr (.inr ⟨h2,h.names m q hq',hq'⟩)
 have hkk:∀b,kk.has b→k.has b∧blkOf (k.tab aa)=some b:=fun b hb=>by
  have h1:=(hblk b).2 ((hflat b).1 hb)
  rw[hva]at h1
  exact⟨.inr ⟨aa,h1⟩,h1⟩
 have hk1:∀b,k1.has b→k.has b∧blkOf (k.tab aa)≠some b:=fun b hb=>by
  rcases hb with hb | ⟨c,hb⟩
  · exact⟨.inl hb,fun hc=>hng aa (by rw[hc];exact hb.symm.trans hg)⟩
  · have hb':blkOf (if c=aa then .slice none 0 0 else k.tab c)=some b:=hb
    split at hb'
    · cases hb'
    · rename_i hne
      exact⟨.inr ⟨c,hb'⟩,fun hc=>hne (hdis c aa b hb' hc)⟩
 have hownd:∀b,Owned X φ' b→Owned X φ b:=by
  rintro b (hx | ⟨m,q,hm1,hm2⟩)
  · exact .inl hx
  · rcases hcase m q hm1 with⟨_,rfl⟩ | ⟨_,rfl⟩ | ⟨_,_,h3⟩
    · exact .inr ⟨l,k,hk,(hkk b hm2).1⟩
    · exact .inr ⟨l,k,hk,(hk1 b hm2).1⟩
    · exact .inr ⟨m,q,h3,hm2⟩
 have ev:Evo X φ φ' σ.nx w w:=⟨Nat.le_refl _,fun _ _ _=>rfl,fun _ _ _ c _ _ _ hc=>⟨c,hc,rfl⟩,fun m hm=>by
  by_cases hml:m=l
  · subst hml;exact .inr p3
  · exact .inl (p2 m hm hml),fun b _ hb=>hownd b hb⟩
 have hren:=fun s u hsu=>SVR.ren (ρ:=ρ) ev (Nat.le_add_right σ.nx 2) (by omega:σ.nx+1 < σ.nx+2) hk p1 rfl s u hsu
 have hUU:∀b,b < w.heap.size→¬Owned X φ b→(∀off u,w.cell? ⟨b,off,none⟩=some u→w.cell? ⟨b,off,none⟩=some u)∧¬Owned X φ' b:=fun b _ hb=>⟨fun _ _ hu=>hu,fun ho=>hb (hownd b ho)⟩
 refine⟨φ',⟨h.below,h.old,?_,?_,?_,h.nv,h.known,FrsR.ren ev (Nat.le_add_right σ.nx 2) (by omega) hk p1 rfl _ _ h.frames,?_⟩,?_,hren⟩
 · intro m q b hm1 hm2
   rcases hcase m q hm1 with⟨_,rfl⟩ | ⟨_,rfl⟩ | ⟨_,_,h3⟩
   · exact h.low l k b hk (hkk b hm2).1
   · exact h.low l k b hk (hk1 b hm2).1
   · exact h.low m q b h3 hm2
 · intro m m' q q' b hm1 hm1' hm2 hm2'
   rcases hcase m q hm1 with⟨rfl,rfl⟩ | ⟨rfl,rfl⟩ | ⟨h2,_,h3⟩ <;> rcases hcase m' q' hm1' with⟨rfl,rfl⟩ | ⟨rfl,rfl⟩ | ⟨h2',_,h3'⟩
   · rfl
   · exact absurd (hkk b hm2).2 (hk1 b hm2').2
   · exact absurd (h.inj m' l q' k b h3' hk hm2' (hkk b hm2).1) h2'
   · exact absurd (hkk b hm2').2 (hk1 b hm2).2
   · rfl
   · exact absurd (h.inj m' l q' k b h3' hk hm2' (hk1 b hm2).1) h2'
   · exact absurd (h.inj m l q k b h3 hk hm2 (hkk b hm2').1) h2
   · exact absurd (h.inj m l q k b h3 hk hm2 (hk1 b hm2').1) h2
   · exact h.inj m m' q q' b h3 h3' hm2 hm2'
 · intro m q hm1
   show m < σ.nx+2
   rcases hcase m q hm1 with⟨rfl,rfl⟩ | ⟨rfl,rfl⟩ | ⟨_,h2,_⟩ <;> omega
 · intro m o ho
   show ∃k,φ' m=some k∧ObR w X φ' ρ (σ.nx+2) k o
   have ho':look ((σ.nx,Ob.rows ks (.bin .rget e xe))::(σ.nx+1,.rmap ks e (some xe))::renHp l (σ.nx+1) (del σ.heap l)) m=some o:=ho
   simp only[look]at ho'
   split at ho'
   · rename_i hm0
     have hm0:=eq_of_beq hm0
     subst hm0
     cases ho'
     refine⟨kk,p0,?_⟩
     simp only[ObR]
     refine⟨by simp only[Ex.fits,Bool.and_eq_true];exact⟨fe,fx⟩,hs,mapGetR xs aa,by simp only[Ex.den,BO.on,dxs,dx,PV.r],hlen,?_⟩
     split at hm
     · rename_i hgk;exact hm
     · rename_i gg hgk
       obtain⟨c,q1,q2⟩:=hm
       exact⟨c,q1,fun i x hx=>RVs.monoC (Nat.le_refl _) hUU ks x _ (q2 i x hx)⟩
   · split at ho'
     · rename_i hm1
       have hm1:=eq_of_beq hm1
       subst hm1
       cases ho'
       refine⟨k1,p1,?_⟩
       simp only[ObR]
       refine⟨fe,fun x hx=>by cases hx;exact fx,hks,g,xs,hg,dxs,?_,?_,?_,?_,?_⟩
       · obtain⟨es,clock,a1,a2,a3,a4,a5,a6⟩:=hown
         refine⟨es,clock,a1,a2,a3,a4,fun x hx=>?_,fun b hb hne hh=>?_⟩
         · obtain⟨b,e1,e2,e3⟩:=a5 x hx
           refine⟨b,e1,e2,fun hne=>?_⟩
           have hba:b≠aa:=fun hc=>hne (by simp[dx,hc])
           show x.val=if b=aa then _ else k.tab b
           rw[if_neg hba]
           exact e3 (by simp)
         · have hba:b≠aa:=fun hc=>hne (by simp[dx,hc])
           show(if b=aa then _ else k.tab b)=_
           rw[if_neg hba]
           exact a6 b hb (by simp) hh
       · intro b1 b2 c hb1 hb2
         have h1:blkOf (if b1=aa then .slice none 0 0 else k.tab b1)=some c:=hb1
         have h2:blkOf (if b2=aa then .slice none 0 0 else k.tab b2)=some c:=hb2
         split at h1
         · cases h1
         · split at h2
           · cases h2
           · exact hdis b1 b2 c h1 h2
       · intro b hb
         have h1:blkOf (if b=aa then .slice none 0 0 else k.tab b)=some g:=hb
         split at h1
         · cases h1
         · exact hng b h1
       · intro x hx
         cases hx
         show(if _=aa then _ else _)=_
         rw[if_pos dx]
       · intro b hb
         have hba:b≠aa:=fun hc=>hb (by simp[dx,hc])
         show RowIn w _ ks (if b=aa then _ else k.tab b) _
         rw[if_neg hba]
         exact(hrow b (by simp)).mono (Nat.le_refl _) hUU (fun _ _=>rfl)
     · rename_i hm0 hm1
       rw[look_renHp,Option.map_eq_some_iff]at ho'
       obtain⟨o0,h0,rfl⟩:=ho'
       rw[look_del']at h0
       split at h0
       · cases h0
       · rename_i hml
         obtain⟨q,hq,hqo⟩:=h.heap m o0 h0
         have hmn:=h.names m q hq
         exact⟨q,by rw[p2 m hmn (Ne.symm hml)];exact hq,ObR.ren ev (Nat.le_add_right σ.nx 2) (by omega) hk p1 rfl (fun _ _=>rfl) o0 hqo⟩
 · simp only[SVR]
   refine⟨by omega,hsl,fun q hq=>?_⟩
   rw[p0]at hq
   cases hq
   exact hOwn
theorem mapR_spec {t:TypeId} {ks:List LK} (h:mapR P t=some ks):∃k e,P.underlying t=some (.map k e)∧P.underlying k=some (.int .i64)∧∀w:World,(zeroValue e).run P w= .ok (.slice none 0 0) w:=by
 unfold mapR at h
 split at h
 · rename_i k e hu
   split at h
   · rename_i el hk he hz
     refine⟨k,e,hu,hk,fun w=>?_⟩
     rw[Option.bind_eq_some_iff]at hz
     obtain⟨i,hi,hz⟩:=hz
     simp[zeroValue,run_type hi,hz]
   · cases h
 · cases h
theorem mapGetR_cons (a:Int) (ys:List (List PV)) (xs:List (List PV)) (b:Int):mapGetR ([PV.int .i64 a,PV.row ys]::xs) b=if a=b then ys else mapGetR xs b:=rfl
theorem OwnAt.blk {k:Bk} {v:Value} (h:OwnAt w k v):∀b,blkOf v=some b↔k.g=some b:=by
 unfold OwnAt at h
 split at h
 · rename_i hg
   intro b
   rw[h.2,hg]
   simp[blkOf]
 · rename_i g hg
   obtain⟨cap,c,rfl,_⟩:=h
   intro b
   rw[hg]
   simp[blkOf]
theorem Rel.putIn (h:Rel X W0 φ ρ σ fs w) {t:TypeId} {l l2:Nat} {ks:List LK} {e e2 xe:Ex} {hh:Option Ex} (hT:mapR P t=some ks) (hl:look σ.heap l=some (.rmap ks e hh)) (hl2:look σ.heap l2=some (.rows ks e2)) (hne:l≠l2)
    (hhole:∀x,hh=some x→x=xe) {aa:Int} (fx:xe.fits ρ.length=true) (dx:xe.den ρ= .int .i64 aa) (hw:Wf aa) (hroom:∀xs,e.den ρ= .row xs→xs.length < maxLen) {vm vv:Value} (hvm:SVR w X φ ρ σ.nx (.mp l) vm) (hvv:SVR w X φ ρ σ.nx (.own l2 none) vv) :
    ∃φ' w',(Instr.mapUpdate t vm (.int .i64 aa) vv).run P w= .ok () w'∧Rel X W0 φ' ρ (σ.putIn l l2 xe ks e e2) fs w':=by
 obtain⟨kt,et,ht,hkt,_⟩:=mapR_spec hT
 obtain⟨k,hk,hob⟩:=h.heap l _ hl
 obtain⟨k2,hk2,hob2⟩:=h.heap l2 _ hl2
 simp only[ObR]at hob hob2
 obtain⟨fe,fhh,hks,g,xs,hg,dxs,hown,hdis,hng,hnil,hrow⟩:=hob
 obtain⟨fe2,hks2,ys,dys,hyl,hym⟩:=hob2
 simp only[SVR]at hvm hvv
 obtain⟨g',hg',rfl⟩:=hvm.2.2 k hk
 rw[hg]at hg'
 cases hg'
 have hOwn:=hvv.2.2 k2 hk2
 have hblk:=hOwn.blk
 have hln:=h.names l k hk
 have hhole':∀b,(hh.map fun x=>(x.den ρ).i)=some b→b=aa:=by
  intro b hb
  rw[Option.map_eq_some_iff]at hb
  obtain⟨x,hx,rfl⟩:=hb
  rw[hhole x hx,dx]
  rfl
 obtain⟨w',hrun,hown',hgrow⟩:=hown.update hkt ht hw hhole' (hroom xs dxs) vv
 have hoth:∀b,b < w.heap.size→b≠g→w'.heap[b]? =w.heap[b]?:=fun b h1 h2=>hgrow.block b h1 (fun e=>h2 (by cases e;rfl))
 have hmapg:∀c t f,w.heap[g]? ≠some (.cells c t f):=by
  obtain⟨es,cl,a1,_⟩:=hown
  intro c t f hc
  rw[a1]at hc
  cases hc
 have hg2:∀b,k2.g=some b→b≠g:=fun b hb hc=>hne (h.injg l l2 k k2 g hk hk2 hg (hc▸hb))
 let k':Bk:={ k with tab:=fun b=>if b=aa then vv else k.tab b }
 let φ':Names:=fun m=>if m=σ.nx then some k' else if m=l then none else if m=l2 then none else φ m
 have p0:φ' σ.nx=some k':=if_pos rfl
 have p2:∀m,m < σ.nx→m≠l→m≠l2→φ' m=φ m:=fun m h1 h2 h3=>by show(if _ then _ else if _ then _ else if _ then _ else _)=_;rw[if_neg (by omega),if_neg h2,if_neg h3]
 have hcase:∀m q,φ' m=some q→(m=σ.nx∧q=k')∨(m≠l∧m≠l2∧m < σ.nx∧φ m=some q):=by
  intro m q hq
  by_cases h0:m=σ.nx
  · subst h0;rw[p0]at hq;cases hq;exact .inl ⟨rfl,rfl⟩
  · have hq':(if m=l then none else if m=l2 then none else φ m)=some q:=by
     have:φ' m=if m=l then none else if m=l2 then none else φ m:=by show(if _ then _ else _)=_;rw[if_neg h0]
     rw[←this];exact hq
    split at hq'
    · cases hq'
    · split at hq'
      · cases hq'
      · rename_i h2 h3
        exact .inr ⟨h2,h3,h.names m q hq',hq'⟩
 have hkh:∀b,k'.has b→k.has b∨k2.has b:=fun b hb=>by
  rcases hb with hb | ⟨c,hb⟩
  · exact .inl (.inl hb)
  · have hb':blkOf (if c=aa then vv else k.tab c)=some b:=hb
    split at hb'
    · exact .inr (.inl ((hblk b).1 hb'))
    · exact .inl (.inr ⟨c,hb'⟩)
 have hownd:∀b,Owned X φ' b→Owned X φ b:=by
  rintro b (hx | ⟨m,q,hm1,hm2⟩)
  · exact .inl hx
  · rcases hcase m q hm1 with⟨_,rfl⟩ | ⟨_,_,_,h3⟩
    · rcases hkh b hm2 with hb | hb
      · exact .inr ⟨l,k,hk,hb⟩
      · exact .inr ⟨l2,k2,hk2,hb⟩
    · exact .inr ⟨m,q,h3,hm2⟩
 have hgm:∀m q,m≠l→φ m=some q→¬q.has g:=fun m q hm hq hc=>hm (h.inj m l q k g hq hk hc (.inl hg))
 have ev:Evo X φ φ' σ.nx w w':=by
  refine⟨hgrow.size,fun b hlt hn=>hoth b hlt (fun e=>hn (e▸ .inr ⟨l,k,hk,.inl hg⟩)),fun m q g0 c hm hq hg0 hc=>⟨c,?_,rfl⟩,fun m hm=>?_,fun b _ hb=>hownd b hb⟩
  · rw[hoth g0 (Array.getElem?_eq_some_iff.1 hc).1 (fun e=>hmapg _ _ _ (e▸hc))]
    exact hc
  · by_cases h1:m=l
    · subst h1;exact .inr (by show(if _ then _ else if _ then _ else _)=_;rw[if_neg (by omega),if_pos rfl])
    · by_cases h2:m=l2
      · subst h2;exact .inr (by show(if _ then _ else if _ then _ else if _ then _ else _)=_;rw[if_neg (by omega),if_neg h1,if_pos rfl])
      · exact .inl (p2 m hm h1 h2)
 have hlow:=h.lowg l k g hk hg
 refine⟨φ',w',hrun,h.below.trans ⟨hgrow.os,hgrow.tape,hgrow.output,hgrow.size,fun b hlt=>hoth b (by omega) (by omega)⟩,h.old,?_,?_,?_,h.nv,h.known,FrsR.ren ev (Nat.le_succ σ.nx) (Nat.lt_succ_self _) hk p0 rfl _ _ h.frames,?_⟩
 · intro m q b hm1 hm2
   have:W0.heap.size≤b∧b < w.heap.size:=by
    rcases hcase m q hm1 with⟨_,rfl⟩ | ⟨_,_,_,h3⟩
    · rcases hkh b hm2 with hb | hb
      · exact h.low l k b hk hb
      · exact h.low l2 k2 b hk2 hb
    · exact h.low m q b h3 hm2
   exact⟨this.1,Nat.lt_of_lt_of_le this.2 hgrow.size⟩
 · intro m m' q q' b hm1 hm1' hm2 hm2'
   rcases hcase m q hm1 with⟨rfl,rfl⟩ | ⟨h2,h3,_,h4⟩ <;> rcases hcase m' q' hm1' with⟨rfl,rfl⟩ | ⟨h2',h3',_,h4'⟩
   · rfl
   · rcases hkh b hm2 with hb | hb
     · exact absurd (h.inj m' l q' k b h4' hk hm2' hb) h2'
     · exact absurd (h.inj m' l2 q' k2 b h4' hk2 hm2' hb) h3'
   · rcases hkh b hm2' with hb | hb
     · exact absurd (h.inj m l q k b h4 hk hm2 hb) h2
     · exact absurd (h.inj m l2 q k2 b h4 hk2 hm2 hb) h3
   · exact h.inj m m' q q' b h4 h4' hm2 hm2'
 · intro m q hm1
   show m < σ.nx+1
   rcases hcase m q hm1 with⟨rfl,rfl⟩ | ⟨_,_,h2,_⟩ <;> omega
 · intro m o ho
   show ∃k,φ' m=some k∧ObR w' X φ' ρ (σ.nx+1) k o
   have ho':look ((σ.nx,Ob.rmap ks (.bin .mput e (.bin .cons xe (.bin .cons e2 .nilc))) none)::renHp l σ.nx (del (del σ.heap l) l2)) m=some o:=ho
   simp only[look]at ho'
   split at ho'
   · rename_i hm0
     have hm0:=eq_of_beq hm0
     subst hm0
     cases ho'
     refine⟨k',p0,?_⟩
     simp only[ObR]
     refine⟨by simp only[Ex.fits,Bool.and_eq_true];exact⟨fe,fx,fe2,trivial⟩,(fun x hx=>by cases hx),hks,g,[.int .i64 aa,.row ys]::xs,hg,by simp only[Ex.den,BO.on,dxs,dx,dys,PV.r,PV.c],hown',?_,?_,(fun x hx=>by cases hx),?_⟩
     · intro b1 b2 c hb1 hb2
       have h1:blkOf (if b1=aa then vv else k.tab b1)=some c:=hb1
       have h2:blkOf (if b2=aa then vv else k.tab b2)=some c:=hb2
       split at h1
       · rename_i e1
         split at h2
         · rename_i e2';omega
         · exact absurd (h.inj l l2 k k2 c hk hk2 (.inr ⟨b2,h2⟩) (.inl ((hblk c).1 h1))) hne
       · split at h2
         · exact absurd (h.inj l l2 k k2 c hk hk2 (.inr ⟨b1,h1⟩) (.inl ((hblk c).1 h2))) hne
         · exact hdis b1 b2 c h1 h2
     · intro b hb
       have h1:blkOf (if b=aa then vv else k.tab b)=some g:=hb
       split at h1
       · exact hg2 g ((hblk g).1 h1) rfl
       · exact hng b h1
     · intro b _
       show RowIn w' _ ks (if b=aa then vv else k.tab b) (mapGetR _ b)
       rw[mapGetR_cons]
       by_cases hb:b=aa
       · subst hb
         rw[if_pos rfl,if_pos rfl]
         have hsrc:RowIn w (Owned X φ) ks vv ys:=by
          refine⟨Bk.of k2.g k2.s k2.len k2.el,fun b=>Bk.of_has,hblk,hOwn,hks2,hyl,?_⟩
          exact hym
         exact hsrc.mono hgrow.size ev.w.rv (fun c hc=>by
          have hc':=(hblk c).1 hc
          exact hoth c (h.lowg l2 k2 c hk2 hc').2 (hg2 c hc'))
       · rw[if_neg hb,if_neg (fun hc=>hb hc.symm)]
         exact(hrow b (fun hc=>hb (hhole' b hc))).mono hgrow.size ev.w.rv (fun c hc=>hoth c (h.low l k c hk (.inr ⟨b,hc⟩)).2 (fun e=>hng b (e▸hc)))
   · rename_i hm0
     rw[look_renHp,Option.map_eq_some_iff]at ho'
     obtain⟨o0,h0,rfl⟩:=ho'
     rw[look_del']at h0
     split at h0
     · cases h0
     · rename_i hml2
       rw[look_del']at h0
       split at h0
       · cases h0
       · rename_i hml
         obtain⟨q,hq,hqo⟩:=h.heap m o0 h0
         have hmn:=h.names m q hq
         exact⟨q,by rw[p2 m hmn (Ne.symm hml) (Ne.symm hml2)];exact hq,ObR.ren ev (Nat.le_succ σ.nx) (Nat.lt_succ_self _) hk p0 rfl (fun b hb=>hoth b (h.low m q b hq hb).2 (fun e=>hgm m q (Ne.symm hml) hq (e▸hb))) o0 hqo⟩
theorem rowOp_nodefer {op:Op} {x:List Ex×SV×St} (h:rowOp P σ op=some x):∀c,op≠ .defer c:=by
 rintro c rfl
 simp[rowOp]at h
theorem Rel.mrow_at (h:Rel X W0 φ ρ σ fs w) {l:Nat} {ks:List LK} {e xe:Ex} (hl:look σ.heap l=some (.rmap ks e none)) {v:Value} (hv:SVR w X φ ρ σ.nx (.mrow l xe) v) :
    ∃k xs kk,φ l=some k∧k.s=ks.length∧v=k.tab (xe.den ρ).i∧e.fits ρ.length=true∧xe.fits ρ.length=true∧e.den ρ= .row xs∧OwnAt w kk v∧kk.s=ks.length∧(mapGetR xs (xe.den ρ).i).length=kk.len∧
     (match kk.g with | none=>mapGetR xs (xe.den ρ).i=[] | some g=>∃c,w.heap[g]? =some (.cells c kk.el (0,0))∧∀i x,(mapGetR xs (xe.den ρ).i)[i]? =some x→RVs w (Owned X φ) ks x ((c.toList.drop (i*ks.length)).take ks.length)):=by
 obtain⟨k,hk,hob⟩:=h.heap l _ hl
 simp only[ObR]at hob
 obtain⟨fe,_,hks,g,xs,hg,dxs,hown,hdis,hng,_,hrow⟩:=hob
 simp only[SVR]at hv
 have hva:=hv.2.2.2 k hk
 obtain⟨kk,_,_,hOwn,hs,hlen,hm⟩:=hrow (xe.den ρ).i (by simp)
 rw[←hva]at hOwn
 exact⟨k,xs,kk,hk,hks,hva,fe,hv.2.1,dxs,hOwn,hs,hlen,hm⟩
theorem rowOp_sound (h:Rel X W0 φ ρ σ (a::fs) w) {o:Oper} {gs:List Ex} {sv:SV} {σ':St} (hs:rowOp P σ o.op=some (gs,sv,σ')) :
    (∀g∈gs,g.fits ρ.length=true)∧(σ'.jl=σ.jl∧σ'.known=σ.known∧σ'.nv=σ.nv)∧((∀g∈gs,(g.den ρ).b=true)→∃φ' v w',Ran P a o w v w'∧Rel X W0 φ' ρ σ' (a::fs) w'∧SVR w' X φ' ρ σ'.nx sv v):=by
 obtain⟨dst,op,ty,pos,aft,gd⟩:=o
 simp only at hs
 unfold rowOp at hs
 split at hs
 · -- makeMap
   rename_i t
   rw[Option.map_eq_some_iff]at hs
   obtain⟨ks,hT,hs⟩:=hs
   cases hs
   refine⟨List.forall_mem_nil _,⟨rfl,rfl,rfl⟩,fun _=>?_⟩
   have hrel:=h.newO (.rmap ks .nil none) (.map #[] 0) 0 ks.length 0 (by
    simp only[ObR]
    refine⟨rfl,(fun x hx=>by cases hx),trivial,w.heap.size,[],rfl,rfl,ownsR_new w _ (fun _=>rfl),?_,?_,(fun x hx=>by cases hx),?_⟩
    · intro a b c hc;cases hc
    · intro a hc;cases hc
    · intro a _
      exact⟨Bk.of none ks.length 0 0,fun b=>Bk.of_has,fun b=>by simp[blkOf],by unfold OwnAt;exact⟨rfl,rfl⟩,rfl,rfl,rfl⟩)
   refine⟨_,.map (some w.heap.size),_,.inl ?_,hrel,?_⟩
   · simp[execOp,Instr.makeMap,newObj,Sem.run]
   · simp only[SVR]
     refine⟨Nat.lt_succ_self _,⟨_,rfl⟩,fun k hk=>?_⟩
     rw[upd_same]at hk
     cases hk
     exact⟨_,rfl,rfl⟩
 · -- lookup
   rename_i t m x
   split at hs
   · rename_i l xe hm hx
     split at hs
     · rename_i ks e ks' hl hT
       split at hs
       · rename_i hkk
         have:=LK.sames_eq _ _ hkk
         subst this
         simp only[Option.some.injEq,Prod.mk.injEq]at hs
         obtain⟨rfl,rfl,rfl⟩:=hs
         have hmv:=h.ev m
         rw[hm]at hmv
         simp only[SVR]at hmv
         have hxv:=h.ev x
         rw[hx]at hxv
         obtain⟨fx,a',dx,hxe⟩:=svr_int hxv
         obtain⟨k,hk,hob⟩:=h.heap l _ hl
         simp only[ObR]at hob
         obtain⟨fe,_,hks,g,xs,hg,dxs,hown,hdis,hng,_,hrow⟩:=hob
         obtain⟨g',hg',hmval⟩:=hmv.2.2 k hk
         rw[hg]at hg'
         cases hg'
         obtain⟨kt,et,ht,hkt,hz⟩:=mapR_spec hT
         refine⟨in64_fits fx,⟨rfl,rfl,rfl⟩,fun hgd=>⟨φ,k.tab a',w,.inl ?_,h,?_⟩⟩
         · have hrun:=hown.lookup hkt ht (hz w) (in64_sound dx hgd)
           simp[execOp,hmval,hxe,hrun]
         · simp only[SVR]
           refine⟨h.names l k hk,fx,?_,fun q hq=>?_⟩
           · obtain⟨kk,_,_,hOwn,_⟩:=hrow a' (by simp)
             unfold OwnAt at hOwn
             split at hOwn
             · exact⟨_,_,_,hOwn.2⟩
             · obtain⟨cap,c,hv,_⟩:=hOwn
               exact⟨_,_,_,hv⟩
           · rw[hk]at hq
             cases hq
             rw[dx]
             rfl
       · cases hs
     · cases hs
   · cases hs
 · -- lookup with ok
   rename_i t m x
   split at hs
   · rename_i l xe hm hx
     split at hs
     · rename_i e hl
       split at hs
       · rename_i hT
         simp only[Option.some.injEq,Prod.mk.injEq]at hs
         obtain⟨rfl,rfl,rfl⟩:=hs
         have hmv:=h.ev m
         rw[hm]at hmv
         simp only[SVR]at hmv
         have hxv:=h.ev x
         rw[hx]at hxv
         obtain⟨fx,a',dx,hxe⟩:=svr_int hxv
         obtain⟨k',hk',hob⟩:=h.heap l _ hl
         obtain⟨fe,g,xs,hg,hxs,hown⟩:=hob
         obtain⟨g',hg',hmval⟩:=hmv.2.2 k' hk'
         rw[hg]at hg'
         cases hg'
         obtain⟨k,el,ht,hkt,het,hz⟩:=mapT_spec hT
         refine⟨in64_fits fx,⟨rfl,rfl,rfl⟩,fun hgd=>⟨φ,.tuple #[.int .i64 (mapGet xs a'),.bool (mapHas xs a')],w,.inl ?_,h,?_⟩⟩
         · have hrun:=hown.lookup2 hkt het ht (hz w) (in64_sound dx hgd)
           simp[execOp,hmval,hxe,hrun]
         · simp only[SVR,SVRs]
           refine⟨_,rfl,_,_,rfl,⟨by simp only[Ex.fits,Bool.and_eq_true];exact⟨fe,fx⟩,?_⟩,_,_,rfl,⟨by simp only[Ex.fits,Bool.and_eq_true];exact⟨fe,fx⟩,?_⟩,rfl⟩
           · simp only[RV]
             exact⟨mapGet xs a',by simp only[Ex.den,BO.on,hxs,dx,PV.r,PV.i],rfl⟩
           · simp only[RV]
             exact⟨mapHas xs a',by simp only[Ex.den,BO.on,hxs,dx,PV.r,PV.i],rfl⟩
       · cases hs
     · cases hs
   · cases hs
 · -- indexAddr
   rename_i t x i
   split at hs
   · rename_i el l xe ki ie hu hx hi
     split at hs
     · rename_i ks e hl
       split at hs
       · rename_i hsz
         have hsz':=eq_of_beq hsz
         simp only[Option.some.injEq,Prod.mk.injEq]at hs
         obtain⟨rfl,rfl,rfl⟩:=hs
         have hxv:=h.ev x
         rw[hx]at hxv
         have hiv:=h.ev i
         rw[hi]at hiv
         obtain⟨fi,n,di,hvi⟩:=svr_int hiv
         have hii:(ie.den ρ).i=n:=by rw[di];rfl
         obtain⟨k,xs,kk,hk,hks,hva,fe,fx,dxs,hOwn,hs2,hlen,hm⟩:=h.mrow_at hl hxv
         have hrd:(Ex.bin .rget e xe).den ρ= .row (mapGetR xs (xe.den ρ).i):=by simp only[Ex.den,BO.on,dxs,PV.r]
         have frg:(Ex.bin .rget e xe).fits ρ.length=true:=by simp only[Ex.fits,Bool.and_eq_true];exact⟨fe,fx⟩
         refine⟨inRange_fits fi (Ex.fits_mk1 frg),⟨rfl,rfl,rfl⟩,fun hg=>?_⟩
         obtain⟨h0,h1⟩:=inRange_sound hg
         rw[den_len hrd,hii]at h1
         rw[hii]at h0
         have h1':n < kk.len:=by have:n < (mapGetR xs (xe.den ρ).i).length:=h1;omega
         have hOwn':=hOwn
         unfold OwnAt at hOwn
         cases hgg:kk.g with
         | none=>rw[hgg]at hOwn;simp only at hOwn;omega
         | some g=>
          rw[hgg]at hOwn
          simp only at hOwn
          obtain⟨cap,c,hv,_⟩:=hOwn
          refine⟨φ,.pointer (some ((⟨g,0,none⟩:Addr).add (n.toNat*ks.length))),w,.inl ?_,h,?_⟩
          · have hrun:=run_indexAt (P:=P) (w:=w) (cap:=cap) (ad:=⟨g,0,none⟩) (k:=ki) hu hsz' h0 h1'
            simp only[execOp,hv,hvi]
            simp[hrun]
          · rw[add_none]
            simp only[SVR]
            refine⟨h.names l k hk,fx,fi,⟨_,rfl⟩,fun q hq=>?_⟩
            rw[hk]at hq
            cases hq
            refine⟨g,kk.len,cap,by rw[←hva];exact hv,by rw[hii];exact h0,by rw[hii];omega,?_⟩
            rw[hii,hks,Nat.zero_add,Nat.add_zero]
       · cases hs
     · cases hs
   · cases hs
 · -- load
   rename_i t ad
   split at hs
   · rename_i l xe i off had
     split at hs
     · rename_i ks e hl
       rw[Option.map_eq_some_iff]at hs
       obtain⟨s,hp,hs⟩:=hs
       cases hs
       have hav:=h.ev ad
       rw[had]at hav
       simp only[SVR]at hav
       obtain⟨hln,fx,fi,_,hat⟩:=hav
       obtain⟨k,hk,hob⟩:=h.heap l _ hl
       obtain⟨b,n,cp,htab,h0,hlt,hav⟩:=hat k hk
       obtain⟨k1,xs,kk,hk1,hks,hva,fe,_,dxs,hOwn,hs2,hlen,hm⟩:=h.mrow_at (xe:=xe) hl (v:=k.tab (xe.den ρ).i) (by
        simp only[SVR]
        refine⟨hln,fx,⟨_,_,_,htab⟩,fun q hq=>?_⟩
        rw[hk]at hq
        cases hq
        rfl)
       rw[hk]at hk1
       cases hk1
       refine⟨List.forall_mem_nil _,⟨rfl,rfl,rfl⟩,fun _=>?_⟩
       have hrd:(Ex.bin .rget e xe).den ρ= .row (mapGetR xs (xe.den ρ).i):=by simp only[Ex.den,BO.on,dxs,PV.r]
       have frg:(Ex.bin .rget e xe).fits ρ.length=true:=by simp only[Ex.fits,Bool.and_eq_true];exact⟨fe,fx⟩
       have hgb:kk.g=some b:=(hOwn.blk b).1 (by rw[htab];rfl)
       have hnl:n=kk.len:=by
        unfold OwnAt at hOwn
        rw[hgb]at hOwn
        simp only at hOwn
        obtain⟨cap,c,hv,_⟩:=hOwn
        rw[htab]at hv
        cases hv
        rfl
       rw[hgb]at hm
       obtain⟨c,hc,hrw⟩:=hm
       have hlt':(i.den ρ).i.toNat < (mapGetR xs (xe.den ρ).i).length:=by omega
       have hcs:SVRs w X φ ρ σ.nx (rowCells ks (.bin .rget e xe) i 0) ((c.toList.drop ((i.den ρ).i.toNat*ks.length)).take ks.length):=
        SVRs.rowCells (U:=X) frg fi hrd (List.getElem?_eq_getElem hlt') ks _ _ 0 (hrw _ _ (List.getElem?_eq_getElem hlt')) (fun m=>by simp)
       obtain⟨v,hrun,hsv⟩:=load_block (P:=P) (t:=t) (off:=(i.den ρ).i.toNat*ks.length) hc hcs (fun j u hj=>by
        have hjl:j < ks.length:=by have:=(List.getElem?_eq_some_iff.1 hj).1;simp at this;omega
        rw[List.getElem?_take_of_lt hjl,List.getElem?_drop]at hj
        simpa using hj) hp
       refine⟨φ,v,w,.inl ?_,h,hsv⟩
       rw[hks]at hav
       simp only[execOp,hav]
       simp[hrun]
     · cases hs
   · cases hs
 · -- mapUpdate
   rename_i t m x v
   split at hs
   · rename_i l xe l2 hm hx hv
     split at hs
     · rename_i ks e hh ks2 e2 ks' hl hl2 hT
       split at hs
       · rename_i hc
         simp only[Bool.and_eq_true,bne_iff_ne]at hc
         obtain⟨⟨⟨hc1,hc2⟩,hne⟩,hhole⟩:=hc
         have:=LK.sames_eq _ _ hc1
         subst this
         have:=LK.sames_eq _ _ hc2
         subst this
         simp only[Option.some.injEq,Prod.mk.injEq]at hs
         obtain⟨rfl,rfl,rfl⟩:=hs
         have hmv:=h.ev m
         rw[hm]at hmv
         have hxv:=h.ev x
         rw[hx]at hxv
         have hvv:=h.ev v
         rw[hv]at hvv
         obtain⟨fx,a',dx,hxe⟩:=svr_int hxv
         obtain⟨k,hk,hob⟩:=h.heap l _ hl
         simp only[ObR]at hob
         obtain⟨fe,_,_,g,xs,_,dxs,_⟩:=hob
         refine⟨fun g hgm=>?_,⟨rfl,rfl,rfl⟩,fun hgd=>?_⟩
         · simp only[List.mem_append,List.mem_singleton]at hgm
           rcases hgm with hgm | rfl
           · exact in64_fits fx g hgm
           · exact Ex.fits_mk2 (Ex.fits_mk1 fe) rfl
         · have w1:=in64_sound dx (fun g hgm=>hgd g (by simp[hgm]))
           have w3:=hgd (.mk2 (.cmp .leq) (.mk1 .len e) (.int .i64 roomLen)) (by simp)
           rw[Ex.den_mk2,Ex.den_mk1,dxs]at w3
           have hlen:(xs.length:Int)≤roomLen:=of_decide_eq_true w3
           obtain⟨φ',w',hrun,hrel⟩:=h.putIn hT hl hl2 hne (fun x hx=>by
            subst hx
            simp only[Option.all_some]at hhole
            exact Ex.same_eq _ _ hhole) fx dx w1 (fun ys hys=>by
            rw[dxs]at hys
            cases hys
            unfold roomLen at hlen
            unfold maxLen
            omega) hmv hvv
           refine⟨φ',undef,w',.inr ⟨?_,rfl⟩,hrel,by simp[SVR]⟩
           simp only[execOp,hxe]
           simp[hrun]
       · cases hs
     · cases hs
   · cases hs
 · -- len
   rename_i args ts
   split at hs
   · rename_i l xe el hargs hu
     split at hs
     · rename_i ks e hl
       simp only[Option.some.injEq,Prod.mk.injEq]at hs
       obtain⟨rfl,rfl,rfl⟩:=hs
       obtain⟨consts,hrun⟩:=run_builtin (a:=a) (o:={ dst,op:= .call { callee:= .builtin .len,args,argTypes:=ts },type:=ty,pos,after:=aft,guard:=gd }) rfl
       have hevs:=SVRs.evs h args.toList
       rw[hargs]at hevs
       simp only[SVRs]at hevs
       obtain⟨v,_,hl1,hv,rfl⟩:=hevs
       have hargs':args.map a.eval= #[v]:=by apply Array.ext';simpa using hl1
       obtain⟨k,xs,kk,hk,hks,hva,fe,fx,dxs,hOwn,hs2,hlen,hm⟩:=h.mrow_at hl hv
       have hrd:(Ex.bin .rget e xe).den ρ= .row (mapGetR xs (xe.den ρ).i):=by simp only[Ex.den,BO.on,dxs,PV.r]
       have frg:(Ex.bin .rget e xe).fits ρ.length=true:=by simp only[Ex.fits,Bool.and_eq_true];exact⟨fe,fx⟩
       refine⟨List.forall_mem_nil _,⟨rfl,rfl,rfl⟩,fun _=>⟨φ,.int .i64 kk.len,w,.inl ?_,h,?_⟩⟩
       · obtain⟨ad,cp,hvs⟩:∃ad cp,v= .slice ad kk.len cp:=by
          unfold OwnAt at hOwn
          split at hOwn
          · exact⟨_,_,by rw[hOwn.1];exact hOwn.2⟩
          · obtain⟨cap,c,hv,_⟩:=hOwn
            exact⟨_,_,hv⟩
         rw[Option.bind_eq_some_iff]at hu
         obtain⟨t,ht,hu⟩:=hu
         have ht':ts[0]? =some t:=by simpa using ht
         rw[hrun,hargs',hvs]
         simp[invoke,builtin,Builtin.len_,ht',run_underlying hu,goInt]
       · exact int_svr (Ex.fits_mk1 frg) (by rw[den_len hrd,hlen])
     · cases hs
   · cases hs
 · -- append
   rename_i args ts
   split at hs
   · rename_i l xe y hargs
     split at hs
     · rename_i ks e hl
       have hevs:=SVRs.evs h args.toList
       rw[hargs]at hevs
       simp only[SVRs]at hevs
       obtain⟨vx,_,hl1,hvx,vy,_,rfl,hvy,rfl⟩:=hevs
       obtain⟨k,xs,kk,hk,hks,hva,fe,fx,dxs,hOwn,hs2,hlen,hm⟩:=h.mrow_at hl hvx
       obtain⟨φ1,hrel1,hx1,hren⟩:=h.take hl fx rfl hvx
       have hargs2:SVRs w X φ1 ρ (σ.take l xe ks e).nx [.own σ.nx none,y.ren l (σ.nx+1)] (args.toList.map a.eval):=by
        rw[hl1]
        simp only[SVRs]
        exact⟨vx,[vy],rfl,hx1,vy,[],rfl,hren y vy hvy,rfl⟩
       obtain⟨h1,h2⟩:=appendB_sound hrel1 (o:={ dst,op:= .call { callee:= .builtin .append,args,argTypes:=ts },type:=ty,pos,after:=aft,guard:=gd }) rfl hargs2 hs
       have hlike:σ'.jl=σ.jl∧σ'.known=σ.known∧σ'.nv=σ.nv:=by
        have hs':=hs
        unfold appendB at hs'
        repeat' split at hs'
        all_goals first
         | (cases hs';done)
         | (simp only[Option.some.injEq,Prod.mk.injEq]at hs';obtain⟨_,_,rfl⟩:=hs';exact⟨rfl,rfl,rfl⟩)
       refine⟨h1,hlike,fun hg=>?_⟩
       obtain⟨φ',v,w',hr,hrel,hv,_⟩:=h2 hg
       exact⟨φ',v,w',.inl hr,hrel,hv⟩
     · cases hs
   · cases hs
 · cases hs
end
end Go.Proofs.YtckjdlmfibjpaaaGreat.Sx
set_option linter.unusedVariables false
set_option linter.unusedSimpArgs false
namespace Go.Proofs.YtckjdlmfibjpaaaGreat.Sx
open Go.RowKit
def IntsAt (w:World) (v:Value) (zs:List Int):Prop:=
 (v= .slice none 0 0∧zs=[])∨∃g cap c el,v= .slice (some ⟨g,0,none⟩) zs.length cap∧w.heap[g]? =some (.cells c el (0,0))∧zs.length≤cap∧c.size=cap∧∀ (i:Nat) (z:Int),zs[i]? =some z→c[i]? =some (Value.int .i64 z)
structure SortedW (w w':World) (v:Value) (zs:List Int):Prop where
 os:w'.os=w.os
 tape:w'.tape=w.tape
 output:w'.output=w.output
 size:w.heap.size≤w'.heap.size
 block:∀b,b < w.heap.size→blkOf v≠some b→w'.heap[b]? =w.heap[b]?
 own:∀g c el,blkOf v=some g→w.heap[g]? =some (.cells c el (0,0))→∃c',w'.heap[g]? =some (.cells c' el (0,0))∧c'.size=c.size∧∀ (i:Nat) (z:Int),(zs.mergeSort fun x y=>decide (x≤y))[i]? =some z→c'[i]? =some (Value.int .i64 z)
class SortOk (P:Program):Prop where
 ok:∀f,isSort P f=true→∀ (v:Value) (zs:List Int) (w:World),IntsAt w v zs→zs.length < 4611686018427387904→Calls P f #[v] w fun e w'=>e= .returned (.tuple #[])∧SortedW w w' v zs
theorem SortOk.none {P : Program} (h : P.funcs.toList.all (fun fn => fn.name != "slices.Sort[[]int,int]") = true) : SortOk P := ⟨fun f hf => by
 unfold isSort at hf
 split at hf
 · rename_i fn hfn
   rw[List.all_eq_true]at h
   have:=h fn (by rw[←Array.getElem?_toList]at hfn;exact List.mem_of_getElem? hfn)
   rw[bne_iff_ne]at this
   exact absurd (eq_of_beq hf) this
 · cases hf⟩
section
variable {P:Program} {X:Env} {W0:World} {φ:Names} {ρ:List PV} {σ:St} {a:Act} {fs:List Act} {w w':World} {N:Nat} {C:Nat→List PV→Option (List PV)} {J:List (List PV→Option (List PV))} {r:List PV}
theorem Rel.touch (h:Rel X W0 φ ρ σ fs w) {l:Nat} {ob':Ob} {k:Bk} {g:Nat} {c c':Array Value} (hk:φ l=some k) (hg:k.g=some g) (hc:w.heap[g]? =some (.cells c k.el (0,0))) (hc':w'.heap[g]? =some (.cells c' k.el (0,0))) (hs:c'.size=c.size)
    (hos:w'.os=w.os) (htp:w'.tape=w.tape) (hou:w'.output=w.output) (hsz:w.heap.size≤w'.heap.size) (hoth:∀b,b < w.heap.size→b≠g→w'.heap[b]? =w.heap[b]?) (ho:Evo X φ φ σ.nx w w'→ObR w' X φ ρ σ.nx k ob') :
    Rel X W0 φ ρ { σ with heap:=puta σ.heap l ob' } fs w':=by
 have hlow:=h.lowg l k g hk hg
 have ev:Evo X φ φ σ.nx w w':=by
  refine⟨hsz,fun b hb hn=>hoth b hb (fun e=>hn (e▸ .inr ⟨l,k,hk,.inl hg⟩)),fun m q g0 d hm hq hg0 hd=>?_,fun _ _=> .inl rfl,fun _ _ h=>h⟩
  by_cases he:g0=g
  · subst he
    have hml:=h.injg m l q k g0 hq hk hg0 hg
    subst hml
    rw[hk]at hq
    cases hq
    rw[hc]at hd
    cases hd
    exact⟨c',hc',hs⟩
  · exact⟨d,by rw[hoth g0 (Array.getElem?_eq_some_iff.1 hd).1 he];exact hd,rfl⟩
 refine⟨h.below.trans ⟨hos,htp,hou,hsz,fun b hb=>hoth b (by omega) (by omega)⟩,h.old,fun l' k' g' hl' hg'=>⟨(h.low l' k' g' hl' hg').1,Nat.lt_of_lt_of_le (h.low l' k' g' hl' hg').2 hsz⟩,h.inj,h.names,h.nv,h.known,
  FrsR.evo ev (List.prefix_refl _) (Nat.le_refl _) _ _ h.frames,fun l' ob hl'=>?_⟩
 by_cases he:l'=l
 · subst he
   rw[look_put_same]at hl'
   cases hl'
   exact⟨k,hk,ho ev⟩
 · rw[look_put_other _ _ _ _ he]at hl'
   obtain⟨k',hk',hob⟩:=h.heap l' ob hl'
   refine⟨k',hk',ObR.evo ev (List.prefix_refl _) (Nat.le_refl _) (fun g' hg'=>hoth g' (h.low l' k' g' hk' hg').2 (fun e=>he ?_)) ob hob⟩
   exact h.inj l' l k' k g hk' hk (e▸hg') (.inl hg)
theorem sort_rows (zs:List Int):(PV.row (zs.map fun z=> [PV.int .i64 z])).r.mergeSort (fun a b=>decide ((a.getD 0 .bad).i≤(b.getD 0 .bad).i))=(zs.mergeSort fun x y=>decide (x≤y)).map fun z=> [PV.int .i64 z]:=by
 refine(List.map_mergeSort ?_).symm
 intro a _ b _
 rfl
theorem one_rows (xs:List (List PV)) (U:Nat→Prop) (c:List Value) (h:∀ (i:Nat) (x:List PV),xs[i]? =some x→RVs w U [.int .i64] x ((c.drop (i*1)).take 1)):∃zs:List Int,xs=zs.map (fun z=> [PV.int .i64 z])∧∀ (i:Nat) (z:Int),zs[i]? =some z→c[i]? =some (Value.int .i64 z):=by
 refine⟨xs.map fun x=>(x.getD 0 .bad).i,?_,?_⟩
 · apply List.ext_getElem? 
   intro i
   rw[List.getElem?_map,List.getElem?_map]
   cases hx:xs[i]? with
   | none=>rfl
   | some x=>
    have h1:=h i x hx
    simp only[RVs,RV]at h1
    obtain⟨p,ps',v,vs',rfl,_,⟨n,rfl,rfl⟩,rfl,_⟩:=h1
    rfl
 · intro i z hz
   rw[List.getElem?_map,Option.map_eq_some_iff]at hz
   obtain⟨x,hx,rfl⟩:=hz
   have h1:=h i x hx
   simp only[RVs,RV]at h1
   obtain⟨p,ps',v,vs',rfl,hv,⟨n,rfl,rfl⟩,rfl,rfl⟩:=h1
   rw[Nat.mul_one]at hv
   have:(c.drop i)[0]? =some (.int .i64 n):=by
    have h2:((c.drop i).take 1)[0]? =some (.int .i64 n):=by rw[hv];rfl
    rwa [List.getElem?_take_of_lt (by omega)]at h2
   rw[List.getElem?_drop,Nat.add_zero]at this
   exact this
theorem sortCall_sound [SortOk P] (h:Rel X W0 φ ρ σ fs w) {g:Nat} (hg:isSort P g=true) {args:List SV} {vs:List Value} (hargs:SVRs w X φ ρ σ.nx args vs) {k:SV→St→T} (hd:(sortCall σ args k).den N C ρ J=some r)
    (gd:∀ {gs:List Ex} {σ:St} {k:St→T},Facts ρ σ.known→(∀g∈gs,g.fits ρ.length=true)→(guards gs σ k).den N C ρ J=some r→(∀g∈gs,(g.den ρ).b=true)∧∃K,Facts ρ K∧(k { σ with known:=K }).den N C ρ J=some r) :
    Calls P g vs.toArray w fun e w'=>∃v,e= .returned v∧∃σ' sv,σ'.jl=σ.jl∧Rel X W0 φ ρ σ' fs w'∧SVR w' X φ ρ σ'.nx sv v∧(k sv σ').den N C ρ J=some r:=by
 unfold sortCall at hd
 split at hd
 · rename_i l
   split at hd
   · rename_i e hl
     simp only[SVRs]at hargs
     obtain⟨v,_,rfl,hv,rfl⟩:=hargs
     obtain⟨kk,hk,hob⟩:=h.heap l _ hl
     simp only[ObR]at hob
     obtain⟨fe,hks,xs,dxs,hlen,hm⟩:=hob
     obtain⟨hb,K,hK,hd'⟩:=gd h.known (fun q hq=>by
      simp only[List.mem_singleton]at hq
      subst hq
      exact Ex.fits_mk2 (Ex.fits_mk1 fe) rfl) hd
     have hroom:=hb _ (List.mem_singleton.2 rfl)
     rw[Ex.den_mk2,Ex.den_mk1,dxs]at hroom
     have hroom':(xs.length:Int)≤roomLen:=of_decide_eq_true hroom
     simp only[roomLen]at hroom'
     simp only[SVR]at hv
     have hOwn:=hv.2.2 kk hk
     have fs':(Ex.un .sort e).fits ρ.length=true:=by simp only[Ex.fits];exact fe
     unfold OwnAt at hOwn
     cases hgg:kk.g with
     | none=>
      rw[hgg]at hOwn hm
      simp only at hOwn hm
      obtain⟨h0,rfl⟩:=hOwn
      subst hm
      refine(SortOk.ok g hg (.slice none 0 0) [] w (.inl ⟨rfl,rfl⟩) (by simp)).mono fun e' w1 hp=>?_
      obtain⟨rfl,q1,q2,q3,q4,q5,_⟩:=hp
      have hbel:Below w.heap.size w w1:=⟨q1,q2,q3,q4,fun b hb=>q5 b hb (by simp[blkOf])⟩
      have ev:Evo X φ φ σ.nx w w1:=⟨q4,fun b hb _=>hbel.block b hb,fun _ _ g0 c0 _ _ _ hc0=>⟨c0,by rw[hbel.block g0 (Array.getElem?_eq_some_iff.1 hc0).1];exact hc0,rfl⟩,fun _ _=> .inl rfl,fun _ _ h=>h⟩
      refine⟨_,rfl,{ σ with known:=K,heap:=puta σ.heap l (.rows [.int .i64] (.un .sort e)) },.tup [],rfl,⟨h.below.trans (hbel.mono h.size_le),h.old,fun m q b hm hq=>⟨(h.low m q b hm hq).1,Nat.lt_of_lt_of_le (h.low m q b hm hq).2 q4⟩,h.inj,h.names,h.nv,hK,FrsR.evo ev (List.prefix_refl _) (Nat.le_refl _) _ _ h.frames,fun m o ho=>?_⟩,by simp[SVR,SVRs],hd'⟩
      by_cases hml:m=l
      · subst hml
        rw[look_put_same]at ho
        cases ho
        refine⟨kk,hk,?_⟩
        simp only[ObR]
        refine⟨fs',hks,[],by simp only[Ex.den,UO.on,dxs,PV.r,List.mergeSort_nil],hlen,?_⟩
        rw[hgg]
      · rw[look_put_other _ _ _ _ hml]at ho
        obtain⟨q,hq,hqo⟩:=h.heap m o ho
        exact⟨q,hq,ObR.evo ev (List.prefix_refl _) (Nat.le_refl _) (fun b hb=>hbel.block b (h.low m q b hq hb).2) o hqo⟩
     | some gg=>
      rw[hgg]at hOwn hm
      simp only at hOwn hm
      obtain⟨cap,c,hvs,hh,hle,_,hsz⟩:=hOwn
      obtain⟨c0,hh0,hrow⟩:=hm
      rw[hh]at hh0
      cases hh0
      obtain⟨zs,hzs,hcz⟩:=one_rows (w:=w) xs (Owned X φ) c.toList hrow
      have hzl:zs.length=kk.len:=by rw[←hlen,hzs];simp
      have hs1:kk.s=1:=hks
      refine(SortOk.ok g hg v zs w (.inr ⟨gg,cap,c,kk.el,by rw[hzl];exact hvs,hh,by omega,by rw[hsz,hs1,Nat.mul_one],fun i z hz=>by have:=hcz i z hz;simpa using this⟩) (by omega)).mono fun e' w1 hp=>?_
      obtain⟨rfl,q⟩:=hp
      have hbv:blkOf v=some gg:=by rw[hvs];rfl
      obtain⟨c',hc',hcs,hcz'⟩:=q.own gg c kk.el hbv hh
      have hrel:=Rel.touch (σ:=σ) (ob':= .rows [.int .i64] (.un .sort e)) h hk hgg hh hc' hcs q.os q.tape q.output q.size (fun b hb hne=>q.block b hb (fun hc=>hne (by rw[hbv]at hc;cases hc;rfl))) (fun ev=>by
       simp only[ObR]
       refine⟨fs',hks,(zs.mergeSort fun x y=>decide (x≤y)).map fun z=> [PV.int .i64 z],?_,by simp[List.length_mergeSort,hzl],?_⟩
       · simp only[Ex.den,UO.on,dxs]
         rw[hzs,sort_rows]
       · rw[hgg]
         refine⟨c',hc',fun i x hx=>?_⟩
         rw[List.getElem?_map,Option.map_eq_some_iff]at hx
         obtain⟨z,hz,rfl⟩:=hx
         have h1:=hcz' i z hz
         simp only[List.length_cons,List.length_nil,Nat.zero_add,Nat.mul_one]
         have hi:i < c'.toList.length:=by
          have:=(Array.getElem?_eq_some_iff.1 h1).1
          simpa using this
         have h2:(c'.toList.drop i).take 1=[.int .i64 z]:=by
          rw[List.drop_eq_getElem_cons hi]
          have:c'.toList[i]= .int .i64 z:=by
           have h3:=(Array.getElem?_eq_some_iff.1 h1).2
           simpa using h3
          rw[this]
          rfl
         rw[h2]
         simp only[RVs,RV]
         exact⟨_,_,_,_,rfl,rfl,⟨z,rfl,rfl⟩,rfl,rfl⟩)
      exact⟨_,rfl,{ σ with known:=K,heap:=puta σ.heap l (.rows [.int .i64] (.un .sort e)) },.tup [],rfl,⟨hrel.below,hrel.old,hrel.low,hrel.inj,hrel.names,hrel.nv,hK,hrel.frames,hrel.heap⟩,by simp[SVR,SVRs],hd'⟩
   · simp[T.den]at hd
 · simp[T.den]at hd
end
end Go.Proofs.YtckjdlmfibjpaaaGreat.Sx

/- Symbolic running of the program's code, over any program, with its proof (6 of 6): definitions and lemmas. No condition. -/
import Derived.Test.YtckjdlmfibjpaaaGreatSx5
import Derived.OpenShut
import Derived.SizedLaws
import Derived.Deep.Slices
import Derived.Deep.Fields
import Derived.ChangeSame
set_option linter.unusedVariables false
set_option linter.unusedSimpArgs false
namespace Go.Proofs.YtckjdlmfibjpaaaGreat.Sx
open Go.ChangeShapes Go.WideShapes Go.RowKit Go.Deep
mutual
def LK.wf:LK→PV→Prop
 | .int k,p=>(Lit.int k p.i).wf=true
 | .bool,_=>True
 | .str,p=>p.s.size≤maxLen
 | .any,_=>True
 | .row ks,p=>p.r.length≤maxLen∧∀x∈p.r,LK.wfs ks x
def LK.wfs:List LK→List PV→Prop
 | [],_=>True
 | k::ks,ps=>∃p r,ps=p::r∧k.wf p∧LK.wfs ks r
end
section
variable {H:Type}
def OpensV (enc:TypeId×Value→H) (P:Program) (W:World) (t:TypeId) (ks:List LK):Prop:=
 ∀ (base:Nat) (spare:Nat→Bool) (held:Bool) (fuel:Nat) (cs:List Value) (y:DataW H×List MemPlace),DataW.trod enc P W base spare held fuel t cs=some y→∃ps,RVs W (fun _=>False) ks ps cs∧LK.wfs ks ps
variable {enc:TypeId×Value→H} {P:Program} {W:World}
theorem rvs_one {k:LK} {p:PV} {v:Value} {U:Nat→Prop} (h:RV W U k p v):RVs W U [k] [p] [v]:=by simp only[RVs];exact⟨p,[],v,[],rfl,rfl,h,rfl,rfl⟩
theorem wfs_one {k:LK} {p:PV} (h:k.wf p):LK.wfs [k] [p]:=by simp only[LK.wfs];exact⟨p,[],rfl,h,trivial⟩
theorem rvs_append {U:Nat→Prop}:∀ {a b:List LK} {p q:List PV} {c d:List Value},RVs W U a p c→RVs W U b q d→RVs W U (a++b) (p++q) (c++d)
 | [],b,p,q,c,d,h,h'=>by simp only[RVs]at h;obtain⟨rfl,rfl⟩:=h;exact h'
 | k::a,b,p,q,c,d,h,h'=>by
  simp only[RVs]at h
  obtain⟨x,r,v,s,rfl,rfl,h1,h2⟩:=h
  simp only[List.cons_append,RVs]
  exact⟨x,r++q,v,s++d,rfl,rfl,h1,rvs_append h2 h'⟩
theorem wfs_append {U:Nat→Prop}:∀ {a b:List LK} {p q:List PV} {c:List Value},RVs W U a p c→LK.wfs a p→LK.wfs b q→LK.wfs (a++b) (p++q)
 | [],b,p,q,c,h,h1,h'=>by simp only[RVs]at h;obtain⟨rfl,rfl⟩:=h;exact h'
 | k::a,b,p,q,c,h,h1,h'=>by
  simp only[RVs]at h
  obtain⟨x,r,v,s,rfl,rfl,_,h2⟩:=h
  simp only[LK.wfs]at h1
  obtain⟨x',r',he,hw,h1⟩:=h1
  cases he
  simp only[List.cons_append,LK.wfs]
  exact⟨x,r++q,rfl,hw,wfs_append h2 h1 h'⟩
theorem opensV_int {t:TypeId} {k:IntKind} (ht:P.underlying t=some (.int k)):OpensV enc P W t [.int k]:=by
 intro base spare held fuel cs y h
 obtain⟨n,hcs,_,hw⟩:=DataW.trod_int ht h
 subst hcs
 exact⟨[.int k n],rvs_one (by simp[RV]),wfs_one (by simpa [LK.wf,PV.i]using hw)⟩
theorem opensV_bool {t:TypeId} (ht:P.underlying t=some .bool):OpensV enc P W t [.bool]:=by
 intro base spare held fuel cs y h
 obtain⟨n,hcs,_⟩:=DataW.trod_bool ht h
 subst hcs
 exact⟨[.bool n],rvs_one (by simp[RV]),wfs_one (by simp[LK.wf])⟩
theorem opensV_string {t:TypeId} (ht:P.underlying t=some .string):OpensV enc P W t [.str]:=by
 intro base spare held fuel cs y h
 obtain⟨n,hcs,_,hw⟩:=DataW.trod_string ht h
 subst hcs
 exact⟨[.str n],rvs_one (by simp[RV]),wfs_one (by simpa [LK.wf,PV.s]using hw)⟩
theorem opensV_slice {t e:TypeId} {ks:List LK} (ht:P.underlying t=some (.slice e)) (hC:0 < P.cellsOf e) (he:OpensV enc P W e ks):OpensV enc P W t [.row ks]:=by
 intro base spare held fuel cs y h
 rcases open_slice ht h with⟨rfl,_⟩ | ⟨a,len,cap,m,n,D,Pl,rfl,_,hl,hm,hmm,_,hi⟩
 · refine⟨[.row []],rvs_one ?_,wfs_one ?_⟩
   · simp only[RV]
     exact⟨[],none,0,rfl,rfl,Nat.le_refl _,fun h=>absurd rfl h⟩
   · simp[LK.wf,PV.r]
 · have hlm:len≤m:=by rw[hmm];split <;> omega
   have hx:∀i,i < len→∃x,(∃c,c.length=P.cellsOf e∧RVs W (fun _=>False) ks x c∧∀j u,c[j]? =some u→W.cell? ((a.add (i*P.cellsOf e)).add j)=some u)∧LK.wfs ks x:=by
    intro i hil
    obtain⟨cs',hc,ht'⟩:=hi i (by omega)
    obtain⟨x,hK,hw⟩:=he _ _ _ _ _ _ ht'
    obtain⟨_,hcl,hat⟩:=World.cells?_some hc
    refine⟨x,⟨cs',hcl,hK,fun j u hu=>?_⟩,hw⟩
    have hj:j < cs'.length:=(List.getElem?_eq_some_iff.1 hu).1
    rw[hat j (by omega),hu]
   have hall:∀k,k≤len→∃xs:List (List PV),xs.length=k∧∀i x,xs[i]? =some x→(∃c,c.length=P.cellsOf e∧RVs W (fun _=>False) ks x c∧∀j u,c[j]? =some u→W.cell? ((a.add (i*P.cellsOf e)).add j)=some u)∧LK.wfs ks x:=by
    intro k
    induction k with
    | zero=>exact fun _=>⟨[],rfl,fun i x h=>by simp at h⟩
    | succ k ih=>
     intro hk
     obtain⟨xs,hxl,hxs⟩:=ih (by omega)
     obtain⟨x,hx1⟩:=hx k (by omega)
     refine⟨xs++ [x],by simp[hxl],fun i z hz=>?_⟩
     by_cases hik:i < xs.length
     · rw[List.getElem?_append_left hik]at hz
       exact hxs i z hz
     · have hi2:i=k:=by
        have:=(List.getElem?_eq_some_iff.1 hz).1
        simp at this
        omega
       subst hi2
       rw[List.getElem?_append_right (by omega)]at hz
       have:x=z:=by simpa [hxl]using hz
       subst this
       exact hx1
   obtain⟨xs,hxl,hxs⟩:=hall len (Nat.le_refl _)
   refine⟨[.row xs],rvs_one ?_,wfs_one ?_⟩
   · simp only[RV]
     refine⟨xs,some a,cap,rfl,by rw[hxl],by omega,fun hne=>?_⟩
     obtain⟨x0,r0,hx0⟩:=List.exists_cons_of_ne_nil hne
     obtain⟨⟨c0,hc0,hr0,hat0⟩,_⟩:=hxs 0 x0 (by rw[hx0];rfl)
     have hks:ks.length=P.cellsOf e:=by rw[←hr0.length.2,hc0]
     obtain⟨u0,hu0⟩:∃u,c0[0]? =some u:=⟨c0[0]'(by omega),List.getElem?_eq_getElem _⟩
     have h0:W.cell? a=some u0:=by have:=hat0 0 u0 hu0;simpa [Addr.add]using this
     have hsp:a.spot=none∧a.block < W.heap.size:=by
      unfold World.cell? at h0
      split at h0
      · rename_i c el fz hb
        split at h0
        · cases h0
        · rename_i hs
          refine⟨by cases hsp:a.spot with | none=>rfl | some q=>rw[hsp]at hs;simp at hs,(Array.getElem?_eq_some_iff.1 hb).1⟩
      · cases h0
     refine⟨a,rfl,hsp.1,fun h=>h,hsp.2,fun i x hx=>?_⟩
     obtain⟨⟨c,hc,hr,hat⟩,_⟩:=hxs i x hx
     refine⟨c,hr,fun j u hu=>?_⟩
     have:=hat j u hu
     rw[Go.Deep.add_add]at this
     rw[hks,←this]
     congr 1
     unfold Addr.add
     split
     · rename_i h00
       rw[h00,Nat.add_zero]
       obtain⟨b,o,s⟩:=a
       simp only at hsp
       rw[hsp.1]
     · rfl
   · simp only[LK.wf,PV.r]
     refine⟨by omega,fun x hx=>?_⟩
     obtain⟨i,hi⟩:=List.getElem?_of_mem hx
     exact(hxs i x hi).2
theorem opensV_any {t e:TypeId} (ht:P.underlying t=some (.slice e)):OpensV enc P W t [.any]:=by
 intro base spare held fuel cs y h
 rcases open_slice ht h with⟨rfl,_⟩ | ⟨a,len,cap,m,n,D,Pl,rfl,_,hl,hm,hmm,_,hi⟩
 · exact⟨[.bad],rvs_one (by simp only[RV];rfl),wfs_one (by simp[LK.wf])⟩
 · exact⟨[.bad],rvs_one (by simp only[RV];rfl),wfs_one (by simp[LK.wf])⟩
def FTs (enc:TypeId×Value→H) (P:Program) (W:World):List TypeId→List Value→Prop
 | [],cs=>cs=[]
 | t::ts,cs=>∃c1 c2,cs=c1++c2∧(∃base spare held fuel y,DataW.trod enc P W base spare held fuel t c1=some y)∧FTs enc P W ts c2
theorem ftsV:∀ (ts:List TypeId) (kss:List (List LK)),(∀ (i:Nat) t ks,ts[i]? =some t→kss[i]? =some ks→OpensV enc P W t ks)→ts.length=kss.length→∀cs,FTs enc P W ts cs→∃ps,RVs W (fun _=>False) kss.flatten ps cs∧LK.wfs kss.flatten ps
 | [],[],_,_,cs,h=>by
  simp only[FTs]at h
  subst h
  exact⟨[],by simp[RVs],by simp[LK.wfs]⟩
 | t::ts,ks::kss,ho,hl,cs,h=>by
  obtain⟨c1,c2,rfl,⟨b,s,hd,f,y,hy⟩,h2⟩:=h
  obtain⟨p1,r1,w1⟩:=ho 0 t ks rfl rfl _ _ _ _ _ _ hy
  obtain⟨p2,r2,w2⟩:=ftsV ts kss (fun i t ks h1 h2=>ho (i+1) t ks (by simpa using h1) (by simpa using h2)) (by simpa using hl) c2 h2
  exact⟨p1++p2,rvs_append r1 r2,wfs_append r1 w1 w2⟩
 | [],_::_,_,hl,_,_=>by simp at hl
 | _::_,[],_,hl,_,_=>by simp at hl
def inLineF (P:Program) (total:Nat):List Field→Nat→Bool
 | [],off=>off == total
 | f::r,off=>f.offset == off&& inLineF P total r (off+P.cellsOf f.type)
theorem fts_of (fs:List Field):∀ (total off:Nat) (cs:List Value),inLineF P total fs off=true→cs.length=total→
    (∀f∈fs,∃base spare held fuel y,DataW.trod enc P W base spare held fuel f.type ((cs.drop f.offset).take (P.cellsOf f.type))=some y)→FTs enc P W (fs.map (·.type)) (cs.drop off):=by
 induction fs with
 | nil=>
  intro total off cs hl hlen _
  simp[inLineF]at hl
  subst hl
  show cs.drop off=[]
  rw[List.drop_eq_nil_iff]
  omega
 | cons f r ih=>
  intro total off cs hl hlen hf
  simp[inLineF]at hl
  obtain⟨rfl,hl⟩:=hl
  obtain⟨b,s,hd,fu,y,hy⟩:=hf f (by simp)
  refine⟨(cs.drop f.offset).take (P.cellsOf f.type),cs.drop (f.offset+P.cellsOf f.type),?_,⟨b,s,hd,fu,y,hy⟩,ih total _ cs hl hlen (fun g hg=>hf g (by simp[hg]))⟩
  rw[←List.drop_drop,List.take_append_drop]
theorem fts_array {e:TypeId} {n:Nat} {cs:List Value} (hlen:cs.length=n*P.cellsOf e) (k:Nat):∀i,i+k=n→
    (∀j,j < n→∃base spare held fuel y,DataW.trod enc P W base spare held fuel e ((cs.drop (j*P.cellsOf e)).take (P.cellsOf e))=some y)→FTs enc P W (List.replicate k e) (cs.drop (i*P.cellsOf e)):=by
 induction k with
 | zero=>
  intro i hi _
  show cs.drop (i*P.cellsOf e)=[]
  rw[List.drop_eq_nil_iff,hlen,show i=n by omega]
  exact Nat.le_refl _
 | succ k ih=>
  intro i hi hf
  obtain⟨b,s,hd,fu,y,hy⟩:=hf i (by omega)
  refine⟨(cs.drop (i*P.cellsOf e)).take (P.cellsOf e),cs.drop ((i+1)*P.cellsOf e),?_,⟨b,s,hd,fu,y,hy⟩,ih (i+1) (by omega) hf⟩
  rw[Nat.add_mul,Nat.one_mul,←List.drop_drop,List.take_append_drop]
def laidV (P:Program):Nat→TypeId→Bool
 | 0,_=>false
 | d+1,t=>
  match P.underlying t with
  | some .bool | some (.int _) | some .string=>true
  | some (.slice e)=>match kindsOf P d e with | some _=>decide (0 < P.cellsOf e)&& laidV P d e | none=>true
  | some (.struct fs)=>inLineF P (P.cellsOf t) fs.toList 0&& fs.toList.all fun f=>laidV P d f.type
  | some (.array n e)=>P.cellsOf t == n*P.cellsOf e&& laidV P d e
  | _=>false
theorem mapO_get {α β:Type} {f:α→Option β}:∀ {l:List α} {r:List β},mapO f l=some r→l.length=r.length∧∀ (i:Nat) a b,l[i]? =some a→r[i]? =some b→f a=some b
 | [],r,h=>by simp only[mapO,Option.some.injEq]at h;subst h;exact⟨rfl,fun i a b h=>by simp at h⟩
 | a::l,r,h=>by
  simp only[mapO]at h
  split at h
  · rename_i b r' hb hr
    cases h
    obtain⟨h1,h2⟩:=mapO_get hr
    refine⟨by simp[h1],fun i x y hx hy=>?_⟩
    cases i with
    | zero=>simp at hx hy;subst hx hy;exact hb
    | succ i=>exact h2 i x y (by simpa using hx) (by simpa using hy)
  · cases h
theorem opensV_all:∀ (d:Nat) (t:TypeId) (ks:List LK),kindsOf P d t=some ks→laidV P d t=true→OpensV enc P W t ks:=by
 intro d
 induction d with
 | zero=>intro t ks h;cases h
 | succ d ih=>
  intro t ks h hl
  unfold kindsOf at h
  unfold laidV at hl
  split at h
  · rename_i hu;cases h;exact opensV_bool hu
  · rename_i k hu;cases h;exact opensV_int hu
  · rename_i hu;cases h;exact opensV_string hu
  · rename_i e hu
    rw[hu]at hl
    cases h
    split
    · rename_i ke hk
      simp only[hk,Bool.and_eq_true,decide_eq_true_eq]at hl
      exact opensV_slice hu hl.1 (ih e ke hk hl.2)
    · exact opensV_any hu
  · rename_i fs hu
    rw[hu]at hl
    simp only[Bool.and_eq_true,List.all_eq_true]at hl
    rw[Option.map_eq_some_iff]at h
    obtain⟨kss,hk,rfl⟩:=h
    obtain⟨hlen,hget⟩:=mapO_get hk
    intro base spare held fuel cs y hy
    obtain⟨xs,n,_,_,hcl,hxl,hg⟩:=DataW.trod_struct hu hy
    have hft:FTs enc P W (fs.toList.map (·.type)) (cs.drop 0):=by
     refine fts_of fs.toList _ 0 cs hl.1 hcl (fun g hgm=>?_)
     obtain⟨i,hi⟩:=List.getElem?_of_mem hgm
     have hi':fs[i]? =some g:=by simpa using hi
     have h1:=hg i g hi'
     have hil:i < xs.length:=by rw[hxl];exact(Array.getElem?_eq_some_iff.1 hi').1
     rw[List.getElem?_eq_getElem hil]at h1
     exact⟨_,_,_,_,_,h1⟩
    rw[List.drop_zero]at hft
    refine ftsV _ kss (fun i t ks h1 h2=>?_) (by simpa using hlen) cs hft
    rw[List.getElem?_map,Option.map_eq_some_iff]at h1
    obtain⟨f,hf,rfl⟩:=h1
    exact ih _ _ (hget i f ks hf h2) (hl.2 f (List.mem_of_getElem? hf))
  · rename_i n e hu
    rw[hu]at hl
    simp only[Bool.and_eq_true,beq_iff_eq]at hl
    rw[Option.map_eq_some_iff]at h
    obtain⟨ke,hk,rfl⟩:=h
    intro base spare held fuel cs y hy
    obtain⟨xs,m,_,_,hcl,hxl,hg⟩:=DataW.trod_array hu hy
    have hft:FTs enc P W (List.replicate n e) (cs.drop (0*P.cellsOf e)):=by
     refine fts_array (by rw[hcl,hl.1]) n 0 (by omega) (fun j hj=>?_)
     have h1:=hg j hj
     rw[List.getElem?_eq_getElem (by omega)]at h1
     exact⟨_,_,_,_,_,h1⟩
    rw[Nat.zero_mul,List.drop_zero]at hft
    refine ftsV _ (List.replicate n ke) (fun i t ks h1 h2=>?_) (by simp) cs hft
    rw[List.getElem?_replicate]at h1 h2
    split at h1 <;> cases h1
    rename_i hin
    rw[if_pos hin]at h2
    cases h2
    exact ih _ _ hk hl.2
  · cases h
theorem leaf_arg {t:TypeId} {k:LK} {base:Nat} {spare:Nat→Bool} {held:Bool} {v:Value} {D:DataW H} {ps:List MemPlace} (hv:v.cells= #[v]) (ho:OpensV enc P W t [k]) (h:DataW.Trod enc P W base spare held t v D ps) :
    ∃p,RV W (fun _=>False) k p v∧k.wf p:=by
 obtain⟨fuel,hf⟩:=h
 obtain⟨qs,hr,hw⟩:=ho _ _ _ _ _ _ hf
 rw[hv]at hr
 simp only[RVs]at hr
 obtain⟨p,r,v',vs',rfl,he,h1,_⟩:=hr
 cases he
 simp only[LK.wfs]at hw
 obtain⟨p',r',he,hw,_⟩:=hw
 cases he
 exact⟨p,h1,hw⟩
theorem agg_arg {t:TypeId} {ks:List LK} {base:Nat} {spare:Nat→Bool} {held:Bool} {cs:Array Value} {D:DataW H} {ps:List MemPlace} (ho:OpensV enc P W t ks) (h:DataW.Trod enc P W base spare held t (.agg cs) D ps) :
    ∃qs,RVs W (fun _=>False) ks qs cs.toList∧LK.wfs ks qs:=by
 obtain⟨fuel,hf⟩:=h
 exact ho _ _ _ _ _ _ hf
theorem sized_arg {t e:TypeId} {base:Nat} {spare:Nat→Bool} {held:Bool} {v:Value} {D:DataW H} {ps:List MemPlace} {ts:List TypeId} {ds:List (DataW H)} {j:Nat} {ks:List LK} {p:PV}
    (hsz:(DataW.weightsEach P ts ds).all (· ≤reachBytes)=true) (hts:ts[j]? =some t) (hds:ds[j]? =some D) (hu:P.underlying t=some (.slice e)) {B:Nat} (hB:P.bytesOf e=B)
    (h:DataW.Trod enc P W base spare held t v D ps) (hr:RV W (fun _=>False) (.row ks) p v):p.r.length*B≤140737488351232:=by
 simp only[RV]at hr
 obtain⟨xs,a,cap,rfl,rfl,_,_⟩:=hr
 obtain⟨fuel,hf⟩:=h
 show xs.length*B≤_
 rcases open_slice hu hf with⟨hcs,_⟩ | ⟨x,l,c,m,n,DD,Pl,hcs,_,hl,_,hmm,hx,_⟩
 · simp[Value.cells]at hcs
   obtain⟨_,hl,_⟩:=hcs
   simp[hl]
 · simp[Value.cells]at hcs
   obtain⟨rfl,hl',rfl⟩:=hcs
   obtain⟨hx,_⟩:=Prod.mk.inj hx
   subst hx
   have z:=sized_slice hsz hts hds hu
   rw[hB]at z
   simp only[List.length_map,List.length_range]at z
   exact Nat.le_trans (Nat.mul_le_mul_right _ (by omega)) z
theorem argsR_leaf {U:Nat→Prop} {k:LK} {p:PV} {v:Value} {sh:List Sh} {ps:List PV} {vs:List Value} (h:RV W U k p v) (h':ArgsR W U sh ps vs):ArgsR W U (.leaf k::sh) (p::ps) (v::vs):=by
 simp only[ArgsR];exact⟨p,ps,v,vs,rfl,rfl,h,h'⟩
theorem argsR_agg {U:Nat→Prop} {ks:List LK} {qs:List PV} {cs:Array Value} {sh:List Sh} {ps:List PV} {vs:List Value} (h:RVs W U ks qs cs.toList) (h':ArgsR W U sh ps vs):ArgsR W U (.agg ks::sh) (qs++ps) (.agg cs::vs):=by
 simp only[ArgsR];exact⟨qs,ps,cs,vs,rfl,rfl,h,h'⟩
theorem argsR_nil {U:Nat→Prop}:ArgsR W U [] [] []:=by simp[ArgsR]
theorem law_end {W':World} {X:Nat→Prop} {v:Value} (h:ResOk W W' X [.leaf .bool] [.bool true] v):v= .bool true∧Below W.heap.size W W':=by
 obtain⟨hb,vs,ψ,rfl,hr,_⟩:=h
 simp only[ResR,RV]at hr
 obtain⟨p,ps,u,us,he,rfl,⟨b,hp,rfl⟩,rfl,rfl⟩:=hr
 cases he
 cases hp
 exact⟨rfl,hb⟩
end
end Go.Proofs.YtckjdlmfibjpaaaGreat.Sx
set_option linter.unusedVariables false
set_option linter.unusedSimpArgs false
namespace Go.Proofs.YtckjdlmfibjpaaaGreat.Sx
abbrev I (x:Int):PV:= .int .i64 x
abbrev B (x:Bool):PV:= .bool x
theorem on_cmp (o:BinOp) (p q:PV):(BO.cmp o).on p q= .bool (Sx.compare o p.i q.i):=Eq.trans rfl rfl
theorem on_ar (o:BinOp) (k:IntKind) (p q:PV):(BO.ar o k).on p q= .int k (arith o k p.i q.i):=Eq.trans rfl rfl
theorem ev_lss (x y:Int):Sx.compare .lss x y=decide (x < y):=Eq.trans (b:=Sx.compare .lss x y) rfl rfl
theorem ev_leq (x y:Int):Sx.compare .leq x y=decide (x≤y):=Eq.trans (b:=Sx.compare .leq x y) rfl rfl
theorem ev_gtr (x y:Int):Sx.compare .gtr x y=decide (x > y):=Eq.trans (b:=Sx.compare .gtr x y) rfl rfl
theorem ev_geq (x y:Int):Sx.compare .geq x y=decide (x≥y):=Eq.trans (b:=Sx.compare .geq x y) rfl rfl
theorem ev_eql (x y:Int):Sx.compare .eql x y=(x == y):=Eq.trans (b:=Sx.compare .eql x y) rfl rfl
theorem ev_neq (x y:Int):Sx.compare .neq x y=(x != y):=Eq.trans (b:=Sx.compare .neq x y) rfl rfl
theorem ar_add (k:IntKind) (x y:Int):arith .add k x y=k.wrap (x+y):=Eq.trans rfl rfl
theorem ar_sub (k:IntKind) (x y:Int):arith .sub k x y=k.wrap (x - y):=Eq.trans rfl rfl
theorem ar_mul (k:IntKind) (x y:Int):arith .mul k x y=k.wrap (x*y):=Eq.trans rfl rfl
theorem ar_quo (k:IntKind) (x y:Int):arith .quo k x y=k.wrap (x.tdiv y):=Eq.trans rfl rfl
theorem ar_rem (k:IntKind) (x y:Int):arith .rem k x y=x.tmod y:=Eq.trans rfl rfl
theorem wrap_in {n:Int} (h1: -9223372036854775808≤n) (h2:n≤9223372036854775807):IntKind.i64.wrap n=n:=by
 unfold IntKind.wrap
 simp[IntKind.signed,IntKind.bits]
 omega
def rowOf {α:Type} (e:α→List PV) (l:List α):PV:= .row (l.map e)
section
variable {α:Type} {e:α→List PV}
theorem rowOf_put (l:List α) (i j:Nat) (p:PV) (f:α→α) (h:∀x,(e x).set j p=e (f x)):PV.row ((rowOf e l).r.modify i (·.set j p))=rowOf e (l.modify i f):=by
 simp only[rowOf,PV.r]
 congr 1
 apply List.ext_getElem?
 intro k
 simp only[List.getElem?_modify,List.getElem?_map]
 cases l[k]? with
 | none=>simp
 | some x=>by_cases hk:i=k <;> simp[hk,h]
end
theorem row_open {α:Type} {e:α→List PV} {ks:List LK} {W:List PV→Prop} (h:∀x,LK.oks ks x→W x→∃y,x=e y) {p:PV} (hk:(LK.row ks).ok p) (hw:∀x∈p.r,W x):∃l:List α,p=rowOf e l:=by
 cases p with
 | row xs=>
  simp only[LK.ok]at hk
  have hw':∀x∈xs,W x:=hw
  clear hw
  suffices hs:∃l:List α,xs=l.map e by
   obtain⟨l,rfl⟩:=hs
   exact⟨l,rfl⟩
  induction xs with
  | nil=>exact⟨[],rfl⟩
  | cons x xs ih=>
   obtain⟨y,hy⟩:=h x (hk x (by simp)) (hw' x (by simp))
   obtain⟨l,hl⟩:=ih (fun x hx=>hk x (by simp[hx])) (fun x hx=>hw' x (by simp[hx]))
   exact⟨y::l,by simp[hy,hl]⟩
 | _=>simp[LK.ok]at hk
end Go.Proofs.YtckjdlmfibjpaaaGreat.Sx
set_option linter.unusedVariables false
set_option linter.unusedSimpArgs false
namespace Go.Proofs.YtckjdlmfibjpaaaGreat.Sx
structure Br (c A B:Prop):Prop where
 t:c→A
 f:¬c→B
theorem br_split {c A B:Prop} (h1:c→A) (h2:¬c→B):Br c A B:=⟨h1,h2⟩
theorem br_pos {c A B:Prop} (h:c):Br c A B↔A:=⟨fun h'=>h'.t h,fun h'=>⟨fun _=>h',fun h''=>absurd h h''⟩⟩
theorem br_neg {c A B:Prop} (h:¬c):Br c A B↔B:=⟨fun h'=>h'.f h,fun h'=>⟨fun h''=>absurd h'' h,fun _=>h'⟩⟩
theorem br_true {A B:Prop}:Br True A B↔A:=br_pos trivial
theorem br_false {A B:Prop}:Br False A B↔B:=br_neg id
theorem br_fail {c A:Prop}:Br c A False↔c∧A:=⟨fun h=>⟨Classical.byContradiction h.f,h.t (Classical.byContradiction h.f)⟩,fun h=>⟨fun _=>h.2,fun h'=>h' h.1⟩⟩
section
variable {tr:Nat→Option T} {ρ:List PV} {J:List JT} {r:List PV}
theorem Run.det {t:T} {r':List PV} (h:Run tr t ρ J r) (h':Run tr t ρ J r'):r=r':=by
 obtain⟨a,ha⟩:=h
 obtain⟨b,hb⟩:=h'
 have h1:=run_mono a (max a b) _ _ _ _ (Nat.le_max_left _ _) ha
 have h2:=run_mono b (max a b) _ _ _ _ (Nat.le_max_right _ _) hb
 rw[h1]at h2
 exact Option.some.inj h2
def Says (tr:Nat→Option T) (f:Nat) (args vs:List PV):Prop:=∃t,tr f=some t∧Run tr t args [] vs
theorem Run.unf {t t':T} (h:t=t') (hr:Run tr t' ρ J r):Run tr t ρ J r:=by rw[h];exact hr
theorem Says.of {f:Nat} {t:T} {args vs:List PV} (ht:tr f=some t) (h:Run tr t args [] vs):Says tr f args vs:=⟨t,ht,h⟩
theorem Says.det {f:Nat} {args vs vs':List PV} (h:Says tr f args vs) (h':Says tr f args vs'):vs=vs':=by
 obtain⟨t,ht,h⟩:=h
 obtain⟨t',ht',h'⟩:=h'
 rw[ht]at ht'
 cases ht'
 exact h.det h'
def Callx (tr:Nat→Option T) (f:Nat) (args:List PV) (n:Nat) (k:T) (ρ:List PV) (J:List JT) (r:List PV):Prop:=
 ∃vs,Says tr f args vs∧vs.length=n∧Run tr k (ρ++vs) J r
theorem xcall_of {f:Nat} {args vs:List PV} (h:Says tr f args vs) {n:Nat} {k:T}:Callx tr f args n k ρ J r↔vs.length=n∧Run tr k (ρ++vs) J r:=by
 constructor
 · rintro⟨ws,hw,hl,hr⟩
   rw[h.det hw]
   exact⟨hl,hr⟩
 · rintro⟨hl,hr⟩
   exact⟨vs,h,hl,hr⟩
def Jmp (tr:Nat→Option T) (x:Option JT) (j:Nat) (vs:List PV) (J:List JT) (r:List PV):Prop:=
 match x with
 | some (.join b ρ0)=>Run tr b (ρ0++vs) (J.take j) r
 | some (.loop b ρ0)=>Run tr b (ρ0++vs) (J.take (j+1)) r
 | none=>False
theorem jmp_join {b:T} {ρ0 vs:List PV} {j:Nat}:Jmp tr (some (.join b ρ0)) j vs J r↔Run tr b (ρ0++vs) (J.take j) r:=Iff.rfl
theorem jmp_loop {b:T} {ρ0 vs:List PV} {j:Nat}:Jmp tr (some (.loop b ρ0)) j vs J r↔Run tr b (ρ0++vs) (J.take (j+1)) r:=Iff.rfl
theorem xrun_ret {es:List Ex}:Run tr (.ret es) ρ J r↔es.map (·.den ρ)=r:=by
 constructor
 · rintro⟨n,hn⟩
   cases n with
   | zero=>cases hn
   | succ n=>exact Option.some.inj hn
 · exact Run.ret
theorem run_fail {w:String}:Run tr (.fail w) ρ J r↔False:=by
 constructor
 · rintro⟨n,hn⟩
   cases n with
   | zero=>cases hn
   | succ n=>cases hn
 · exact False.elim
theorem run_ite {c:Ex} {a b:T}:Run tr (.ite c a b) ρ J r↔Br ((c.den ρ).b=true) (Run tr a ρ J r) (Run tr b ρ J r):=by
 constructor
 · rintro⟨n,hn⟩
   cases n with
   | zero=>cases hn
   | succ n=>
    simp only[run]at hn
    refine⟨fun h=>?_,fun h=>?_⟩
    · rw[if_pos h]at hn;exact⟨n,hn⟩
    · rw[if_neg h]at hn;exact⟨n,hn⟩
 · intro h
   refine Run.ite ?_
   split
   · rename_i hc;exact h.t hc
   · rename_i hc;exact h.f hc
theorem run_letj {b m:T}:Run tr (.letj b m) ρ J r↔Run tr m ρ (J++ [.join b ρ]) r:=by
 constructor
 · rintro⟨n,hn⟩
   cases n with
   | zero=>cases hn
   | succ n=>exact⟨n,hn⟩
 · exact Run.letj
theorem xrun_loop {es:List Ex} {b:T}:Run tr (.loop es b) ρ J r↔Run tr b (ρ++es.map (·.den ρ)) (J++ [.loop b ρ]) r:=by
 constructor
 · rintro⟨n,hn⟩
   cases n with
   | zero=>cases hn
   | succ n=>exact⟨n,hn⟩
 · exact Run.loop
theorem run_seq {t k:T} {n:Nat}:Run tr (.seq t n k) ρ J r↔∃vs,Run tr t ρ [] vs∧vs.length=n∧Run tr k (ρ++vs) J r:=by
 constructor
 · rintro⟨m,hm⟩
   cases m with
   | zero=>cases hm
   | succ m=>
    simp only[run,Option.bind_eq_some_iff]at hm
    obtain⟨vs,h1,h2⟩:=hm
    split at h2
    · rename_i hl;exact⟨vs,⟨m,h1⟩,hl,⟨m,h2⟩⟩
    · cases h2
 · rintro⟨vs,h1,h2,h3⟩
   exact Run.seq h1 h2 h3
theorem run_any {k:T}:Run tr (.any k) ρ J r↔Run tr k (ρ++ [.bool true]) J r∧Run tr k (ρ++ [.bool false]) J r:=by
 constructor
 · rintro⟨n,hn⟩
   cases n with
   | zero=>cases hn
   | succ n=>
    simp only[run,agree_some]at hn
    exact⟨⟨n,hn.1⟩,⟨n,hn.2⟩⟩
 · rintro⟨⟨a,ha⟩,⟨b,hb⟩⟩
   refine⟨max a b+1,?_⟩
   simp only[run,agree_some]
   exact⟨run_mono a (max a b) _ _ _ _ (Nat.le_max_left _ _) ha,run_mono b (max a b) _ _ _ _ (Nat.le_max_right _ _) hb⟩
theorem run_jump {j:Nat} {es:List Ex}:Run tr (.jump j es) ρ J r↔Jmp tr J[j]? j (es.map (·.den ρ)) J r:=by
 constructor
 · rintro⟨n,hn⟩
   cases n with
   | zero=>cases hn
   | succ n=>
    simp only[run]at hn
    split at hn
    · rename_i h;rw[h];exact⟨n,hn⟩
    · rename_i h;rw[h];exact⟨n,hn⟩
    · cases hn
 · intro h
   cases hj:J[j]? with
   | none=>rw[hj]at h;exact h.elim
   | some x=>
    rw[hj]at h
    cases x with
    | join b ρ0=>exact Run.toJoin hj h
    | loop b ρ0=>exact Run.toLoop hj h
theorem xrun_call {f:Nat} {es:List Ex} {n:Nat} {k:T}:Run tr (.call f es n k) ρ J r↔Callx tr f (es.map (·.den ρ)) n k ρ J r:=by
 constructor
 · rintro⟨h,hh⟩
   cases h with
   | zero=>cases hh
   | succ h=>
    simp only[run,Option.bind_eq_some_iff]at hh
    obtain⟨t,ht,vs,hv,hr⟩:=hh
    split at hr
    · rename_i hl;exact⟨vs,⟨t,ht,h,hv⟩,hl,h,hr⟩
    · cases hr
 · rintro⟨vs,⟨t,ht,hv⟩,hl,hr⟩
   exact Run.call ht hv hl hr
theorem Says.told {f:Nat} {args:List PV} (h:Says tr f args r):∃k,told tr k k f args=some r:=by
 obtain⟨t,ht,h⟩:=h
 exact h.told ht
end
theorem xup_ind {n:Nat} {P:Nat→Prop} (h:∀i,i≤n→(i < n→P (i+1))→P i):∀i,i≤n→P i:=by
 intro i hi
 obtain⟨d,hd⟩:∃d,i+d=n:=⟨n - i,by omega⟩
 induction d generalizing i with
 | zero=>exact h i hi (fun h'=>by omega)
 | succ d ih=>exact h i hi (fun h'=>ih (i+1) (by omega) (by omega))
theorem xden_var (ρ:List PV) (i:Nat):Ex.den ρ (.var i)=ρ.getD i .bad:=Eq.trans rfl rfl
theorem den_int (ρ:List PV) (k:IntKind) (x:Int):Ex.den ρ (.int k x)= .int k x:=Eq.trans rfl rfl
theorem den_bool (ρ:List PV) (x:Bool):Ex.den ρ (.bool x)= .bool x:=Eq.trans rfl rfl
theorem den_str (ρ:List PV) (x:ByteArray):Ex.den ρ (.str x)= .str x:=Eq.trans rfl rfl
theorem den_nil (ρ:List PV):Ex.den ρ .nil= .row []:=Eq.trans rfl rfl
theorem den_nilc (ρ:List PV):Ex.den ρ .nilc= .cells []:=Eq.trans rfl rfl
theorem xon_and (p q:PV):BO.and.on p q= .bool (p.b&& q.b):=Eq.trans rfl rfl
theorem xon_or (p q:PV):BO.or.on p q= .bool (p.b|| q.b):=Eq.trans rfl rfl
theorem on_beq (p q:PV):BO.beq.on p q= .bool (p.b == q.b):=Eq.trans rfl rfl
theorem xon_not (p:PV):UO.not.on p= .bool (!p.b):=Eq.trans rfl rfl
theorem on_len (p:PV):UO.len.on p=I p.r.length:=Eq.trans rfl rfl
theorem on_neg (k:IntKind) (p:PV):(UO.neg k).on p= .int k (k.wrap (0 - p.i)):=Eq.trans rfl rfl
theorem on_conv (k:IntKind) (p:PV):(UO.conv k).on p= .int k (k.wrap p.i):=Eq.trans rfl rfl
theorem on_max (k:IntKind) (p q:PV):(BO.max k).on p q= .int k (max p.i q.i):=by
 show PV.int k (if q.i > p.i then q.i else p.i)=_
 congr 1;rw[Int.max_def];split <;> split <;> omega
theorem on_min (k:IntKind) (p q:PV):(BO.min k).on p q= .int k (min p.i q.i):=by
 show PV.int k (if q.i < p.i then q.i else p.i)=_
 congr 1;rw[Int.min_def];split <;> split <;> omega
theorem on_snoc (p q:PV):BO.snoc.on p q= .row (p.r++ [q.c]):=Eq.trans rfl rfl
theorem on_cat (p q:PV):BO.cat.on p q= .row (p.r++q.r):=Eq.trans rfl rfl
theorem on_cons (p q:PV):BO.cons.on p q= .cells (p::q.c):=Eq.trans rfl rfl
theorem on_make (p q:PV):BO.make.on p q= .row (List.replicate q.i.toNat p.c):=Eq.trans rfl rfl
theorem on_copy (p q:PV):BO.copy.on p q= .row (q.r.take p.r.length++p.r.drop q.r.length):=Eq.trans rfl rfl
theorem on_plus (p q:PV):BO.plus.on p q=I (p.i+q.i):=Eq.trans rfl rfl
theorem on_minus (p q:PV):BO.minus.on p q=I (p.i - q.i):=Eq.trans rfl rfl
theorem on_cell (j:Nat) (k:LK) (p q:PV):(BO.cell j k).on p q=cellAt p.r q.i j k:=Eq.trans rfl rfl
theorem on_sel (p q r:PV):TO.sel.on p q r=if p.b then q else r:=Eq.trans rfl rfl
theorem on_slice (p q r:PV):TO.slice.on p q r= .row ((p.r.drop q.i.toNat).take r.i.toNat):=Eq.trans rfl rfl
theorem on_set (p q r:PV):TO.set.on p q r= .row (p.r.set q.i.toNat r.c):=Eq.trans rfl rfl
theorem on_put (j:Nat) (p q r:PV):(TO.put j).on p q r= .row (p.r.modify q.i.toNat (·.set j r)):=Eq.trans rfl rfl
theorem pi_int (k:IntKind) (x:Int):(PV.int k x).i=x:=Eq.trans rfl rfl
theorem b_bool (x:Bool):(PV.bool x).b=x:=Eq.trans rfl rfl
theorem r_row (x:List (List PV)):(PV.row x).r=x:=Eq.trans rfl rfl
theorem c_cells (x:List PV):(PV.cells x).c=x:=Eq.trans rfl rfl
theorem den_un (ρ:List PV) (o:UO) (a:Ex):Ex.den ρ (.un o a)=o.on (a.den ρ):=Eq.trans rfl rfl
theorem den_bin (ρ:List PV) (o:BO) (a b:Ex):Ex.den ρ (.bin o a b)=o.on (a.den ρ) (b.den ρ):=Eq.trans rfl rfl
theorem den_tri (ρ:List PV) (o:TO) (a b c:Ex):Ex.den ρ (.tri o a b c)=o.on (a.den ρ) (b.den ρ) (c.den ρ):=Eq.trans rfl rfl
def eI (x:Int):List PV:= [I x]
def eB (x:Bool):List PV:= [B x]
abbrev ints (l:List Int):PV:=rowOf eI l
abbrev bools (l:List Bool):PV:=rowOf eB l
theorem rowOf_r {α:Type} {e:α→List PV} (l:List α):(rowOf e l).r=l.map e:=Eq.trans rfl rfl
theorem xcell_at {α:Type} {e:α→List PV} (l:List α) (i:Nat) (h:i < l.length) (j:Nat) (k:LK):cellAt (l.map e) (i:Int) j k=((e l[i])[j]?).getD k.dflt:=by
 simp[cellAt,h]
theorem xints_at (l:List Int) (i:Nat) (h:i < l.length) (k:LK):cellAt (l.map eI) (i:Int) 0 k=I l[i]:=by rw[xcell_at l i h];rfl
theorem xbools_at (l:List Bool) (i:Nat) (h:i < l.length) (k:LK):cellAt (l.map eB) (i:Int) 0 k=B l[i]:=by rw[xcell_at l i h];rfl
theorem xmap_snoc {α:Type} {e:α→List PV} (l:List α) (x:α) {y:List PV} (hy:e x=y):PV.row (l.map e++ [y])=rowOf e (l++ [x]):=by subst hy;simp[rowOf]
theorem xmap_set {α:Type} {e:α→List PV} (l:List α) (i:Nat) (x:α) {y:List PV} (hy:e x=y):PV.row ((l.map e).set i y)=rowOf e (l.set i x):=by subst hy;simp[rowOf,List.map_set]
theorem xmap_make {α:Type} {e:α→List PV} (n:Nat) (x:α) {y:List PV} (hy:e x=y):PV.row (List.replicate n y)=rowOf e (List.replicate n x):=by subst hy;simp[rowOf]
theorem xints_snoc (l:List Int) (x:Int):PV.row (l.map eI++ [[I x]])=ints (l++ [x]):=xmap_snoc l x rfl
theorem xints_set (l:List Int) (i:Nat) (x:Int):PV.row ((l.map eI).set i [I x])=ints (l.set i x):=xmap_set l i x rfl
theorem xints_make (n:Nat) (x:Int):PV.row (List.replicate n [I x])=ints (List.replicate n x):=xmap_make n x rfl
theorem xints_nil:PV.row []=ints []:=rfl
theorem xbools_snoc (l:List Bool) (x:Bool):PV.row (l.map eB++ [[B x]])=bools (l++ [x]):=xmap_snoc l x rfl
theorem xbools_set (l:List Bool) (i:Nat) (x:Bool):PV.row ((l.map eB).set i [B x])=bools (l.set i x):=xmap_set l i x rfl
theorem xbools_make (n:Nat) (x:Bool):PV.row (List.replicate n [B x])=bools (List.replicate n x):=xmap_make n x rfl
theorem xnat_nonneg (i:Nat):(0≤(i:Int))↔True:=iff_true_intro (Int.natCast_nonneg i)
theorem xbret (a b:Bool):([PV.bool a]=[PV.bool b])↔(a=true↔b=true):=by
 rw[List.cons.injEq,PV.bool.injEq,←Bool.eq_iff_iff];simp
section
variable {α:Type}
def mix (a s:List α) (i:Nat):List α:=a.take i++s.drop i
theorem mix_len {a s:List α} (h:a.length=s.length) (i:Nat):(mix a s i).length=s.length:=by simp[mix];omega
theorem mix_zero (a s:List α):mix a s 0=s:=by simp[mix]
theorem mix_full {a s:List α} (h:a.length=s.length):mix a s s.length=a:=by simp[mix,←h]
theorem mix_full' {a s:List α} (h:a.length=s.length) {i:Nat} (hi:s.length≤i):mix a s i=a:=by simp[mix,List.take_of_length_le (show a.length≤i by omega),List.drop_of_length_le hi]
theorem mix_at {a s:List α} (h:a.length=s.length) {i:Nat} (hi:i < s.length) (hi':i < (mix a s i).length):(mix a s i)[i]=s[i]:=by
 simp only[mix]
 rw[List.getElem_append_right (by simp;omega)]
 simp[show i - min i a.length=0 by omega]
theorem mix_set {a s:List α} (h:a.length=s.length) {i:Nat} (hi:i < s.length) {v:α} (hv:v=a[i]'(by omega)):(mix a s i).set i v=mix a s (i+1):=by
 subst hv
 simp only[mix]
 rw[List.drop_eq_getElem_cons hi,List.set_append_right _ _ (by simp;omega),List.take_succ_eq_append_getElem (by omega)]
 simp only[List.length_take,show i - min i a.length=0 by omega,List.set_cons_zero,List.append_assoc,List.cons_append,List.nil_append]
theorem mix_modify {a s:List α} (h:a.length=s.length) {i:Nat} (hi:i < s.length) {f:α→α} (hf:f s[i]=a[i]'(by omega)):(mix a s i).modify i f=mix a s (i+1):=by
 rw[←mix_set h hi rfl]
 apply List.ext_getElem (by simp)
 intro j h1 h2
 rw[List.getElem_modify,List.getElem_set]
 split
 · rename_i hij
   subst hij
   rw[mix_at h hi,hf]
 · rfl
theorem xcopy_make {e:α→List PV} (l:List α) (y:List PV):PV.row ((l.map e).take l.length++(List.replicate l.length y).drop l.length)=rowOf e l:=by
 simp[rowOf,List.take_of_length_le]
end
def isTrueB (o:Option (List PV)):Bool:=match o with | some [.bool b]=>b | _=>false
theorem says_of_run {tr:Nat→Option T} {f:Nat} {t:T} {args:List PV} (ht:tr f=some t) {n:Nat} (h:isTrueB (run tr n t args [])=true):Says tr f args [.bool true]:=by
 refine⟨t,ht,n,?_⟩
 generalize run tr n t args []=o at h
 unfold isTrueB at h
 split at h
 · subst h;rfl
 · cases h
end Go.Proofs.YtckjdlmfibjpaaaGreat.Sx
set_option linter.unusedVariables false
set_option linter.unusedSimpArgs false
namespace Go.Proofs.YtckjdlmfibjpaaaGreat.Sx
def Ex.inst (σ:List Ex) (p nv:Nat):Ex→Ex
 | .var i=>bif Nat.blt i p then σ.getD i .nil else .var (nv+(i - p))
 | .un o a=> .un o (a.inst σ p nv)
 | .bin o a b=> .bin o (a.inst σ p nv) (b.inst σ p nv)
 | .tri o a b c=> .tri o (a.inst σ p nv) (b.inst σ p nv) (c.inst σ p nv)
 | .int k n=> .int k n
 | .bool b=> .bool b
 | .str s=> .str s
 | .nil=> .nil
 | .nilc=> .nilc
def addO:Option Nat→Nat→Option Nat
 | some d,n=>some (d+n)
 | none,_=>none
def arOk (ar:List (Option Nat)) (j n:Nat):Bool:=
 match ar[j]? with
 | some (some m)=>Nat.beq n m
 | some none=>true
 | none=>false
abbrev OkK:=Option Nat→Nat→List Ex→Bool
def T.ars (σ:List Ex) (p nv:Nat):T→OkK→Option Nat→List (Option Nat)→Bool
 | .ret es,ok,d,ar=>ok d ar.length (es.map (Ex.inst σ p nv))
 | .ite _ a b,ok,d,ar=>T.ars σ p nv a ok d ar&& T.ars σ p nv b ok d ar
 | .call _ _ n k,ok,d,ar=>T.ars σ p nv k ok (addO d n) ar
 | .loop es b,ok,d,ar=>T.ars σ p nv b ok (addO d es.length) (ar++ [some es.length])
 | .letj b m,ok,d,ar=>T.ars σ p nv b ok none ar&& T.ars σ p nv m ok d (ar++ [none])
 | .jump j es,_,_,ar=>arOk ar j es.length
 | .seq t n k,ok,d,ar=>T.ars σ p nv t (fun _ _ _=>true) none []&& T.ars σ p nv k ok (addO d n) ar
 | .any k,ok,d,ar=>T.ars σ p nv k ok (addO d 1) ar
 | _,_,_,_=>true
abbrev RetK:=Option Nat→Nat→List Ex→T
def T.inst (σ:List Ex) (p nv:Nat):T→Nat→RetK→Option Nat→List (Option Nat)→T
 | .ret es,_,rt,d,ar=>rt d ar.length (es.map (Ex.inst σ p nv))
 | .ite c a b,jl,rt,d,ar=> .ite (c.inst σ p nv) (T.inst σ p nv a jl rt d ar) (T.inst σ p nv b jl rt d ar)
 | .call f es n k,jl,rt,d,ar=> .call f (es.map (Ex.inst σ p nv)) n (T.inst σ p nv k jl rt (addO d n) ar)
 | .loop es b,jl,rt,d,ar=> .loop (es.map (Ex.inst σ p nv)) (T.inst σ p nv b jl rt (addO d es.length) (ar++ [some es.length]))
 | .letj b m,jl,rt,d,ar=> .letj (T.inst σ p nv b jl rt none ar) (T.inst σ p nv m jl rt d (ar++ [none]))
 | .jump j es,jl,rt,d,ar=> .jump (jl+j) (es.map (Ex.inst σ p nv))
 | .seq t n k,jl,rt,d,ar=> .seq (T.inst σ p nv t 0 (fun _ _ es=> .ret es) none []) n (T.inst σ p nv k jl rt (addO d n) ar)
 | .any k,jl,rt,d,ar=> .any (T.inst σ p nv k jl rt (addO d 1) ar)
 | .fail w,_,_,_,_=> .fail w
 | .mark s,_,_,_,_=> .mark s
section
variable {tr:Nat→Option T} {σ:List Ex} {P ρ:List PV}
theorem den_inst (hσ:∀β,σ.map (·.den (ρ++β))=P) (e:Ex) (β:List PV):(e.inst σ P.length ρ.length).den (ρ++β)=e.den (P++β):=by
 have hl:σ.length=P.length:=by rw[←hσ [],List.length_map]
 induction e with
 | var i=>
  simp only[Ex.inst]
  by_cases h:i < P.length
  · have:Nat.blt i P.length=true:=by simpa [Nat.blt_eq]using h
    rw[this,cond_true,xden_var]
    have h1:(P++β).getD i .bad=P.getD i .bad:=by simp[List.getD_eq_getElem?_getD,List.getElem?_append_left h]
    rw[h1]
    conv=>rhs;rw[←hσ β]
    have hi:i < σ.length:=by omega
    simp[List.getD_eq_getElem?_getD,hi]
  · have:Nat.blt i P.length=false:=by
     rw[Bool.eq_false_iff];intro hh;exact h (by simpa [Nat.blt_eq]using hh)
    rw[this,cond_false,xden_var,xden_var]
    simp only[List.getD_eq_getElem?_getD]
    rw[List.getElem?_append_right (by omega),List.getElem?_append_right (by omega)]
    congr 2
    omega
 | un o a ih=>simp only[Ex.inst,den_un,ih]
 | bin o a b iha ihb=>simp only[Ex.inst,den_bin,iha,ihb]
 | tri o a b c iha ihb ihc=>simp only[Ex.inst,den_tri,iha,ihb,ihc]
 | int k n=>rfl
 | bool b=>rfl
 | str s=>rfl
 | nil=>rfl
 | nilc=>rfl
theorem dens_inst (hσ:∀β,σ.map (·.den (ρ++β))=P) (es:List Ex) (β:List PV):(es.map (Ex.inst σ P.length ρ.length)).map (·.den (ρ++β))=es.map (·.den (P++β)):=by
 rw[List.map_map]
 exact List.map_congr_left fun e _=>den_inst hσ e β
def DOk (d:Option Nat) (β:List PV):Prop:=∀m,d=some m→β.length=m
theorem DOk.add {d:Option Nat} {β vs:List PV} {n:Nat} (h:DOk d β) (hn:vs.length=n):DOk (addO d n) (β++vs):=by
 intro m hm
 cases d with
 | none=>cases hm
 | some x=>
  simp only[addO,Option.some.injEq]at hm
  rw[List.length_append,h x rfl,hn,hm]
def JRel (σ:List Ex) (P ρ:List PV) (jl:Nat) (ret:RetK) (ok:OkK) (ar:List (Option Nat)) (J J':List JT):Prop:=
 ar.length=J.length∧J'.length=J.length∧∀ (j:Nat) (x:JT),J[j]? =some x→match x with
  | .join b ρ0=>∃β,ρ0=P++β∧b.ars σ P.length ρ.length ok none (ar.take j)=true∧J'[j]? =some (.join (T.inst σ P.length ρ.length b jl ret none (ar.take j)) (ρ++β))
  | .loop b ρ0=>∃β d n,ρ0=P++β∧DOk d β∧ar[j]? =some (some n)∧b.ars σ P.length ρ.length ok (addO d n) (ar.take (j+1))=true∧J'[j]? =some (.loop (T.inst σ P.length ρ.length b jl ret (addO d n) (ar.take (j+1))) (ρ++β))
theorem JRel.take {jl:Nat} {ret:RetK} {ok:OkK} {ar:List (Option Nat)} {J J':List JT} (h:JRel σ P ρ jl ret ok ar J J') (i:Nat):JRel σ P ρ jl ret ok (ar.take i) (J.take i) (J'.take i):=by
 refine⟨by simp[h.1],by simp[h.2.1],fun j x hx=>?_⟩
 rw[List.getElem?_take]at hx
 split at hx
 · rename_i hj
   have:=h.2.2 j x hx
   cases x with
   | join b ρ0=>
    obtain⟨β,h1,h0,h2⟩:=this
    refine⟨β,h1,by rw[List.take_take,Nat.min_eq_left (by omega)];exact h0,?_⟩
    rw[List.getElem?_take,if_pos hj,h2,List.take_take,Nat.min_eq_left (by omega)]
   | loop b ρ0=>
    obtain⟨β,d,n,h1,h2,h3,h0,h4⟩:=this
    refine⟨β,d,n,h1,h2,?_,by rw[List.take_take,Nat.min_eq_left (by omega)];exact h0,?_⟩
    · rw[List.getElem?_take,if_pos hj,h3]
    · rw[List.getElem?_take,if_pos hj,h4,List.take_take,Nat.min_eq_left (by omega)]
 · cases hx
theorem JRel.join {jl:Nat} {ret:RetK} {ok:OkK} {ar:List (Option Nat)} {J J':List JT} (h:JRel σ P ρ jl ret ok ar J J') (b:T) (β:List PV) (hb:b.ars σ P.length ρ.length ok none ar=true):JRel σ P ρ jl ret ok (ar++ [none]) (J++ [.join b (P++β)]) (J'++ [.join (T.inst σ P.length ρ.length b jl ret none ar) (ρ++β)]):=by
 refine⟨by simp[h.1],by simp[h.2.1],fun j x hx=>?_⟩
 by_cases hj:j < J.length
 · rw[List.getElem?_append_left hj]at hx
   have:=h.2.2 j x hx
   have ht:∀i,i≤ar.length→(ar++ [none]).take i=ar.take i:=fun i hi=>List.take_append_of_le_length hi
   cases x with
   | join b ρ0=>
    obtain⟨β,h1,h0,h2⟩:=this
    refine⟨β,h1,by rw[ht _ (by rw[h.1];omega)];exact h0,?_⟩
    rw[List.getElem?_append_left (by rw[h.2.1];exact hj),h2,ht _ (by rw[h.1];omega)]
   | loop b ρ0=>
    obtain⟨β,d,n,h1,h2,h3,h0,h4⟩:=this
    refine⟨β,d,n,h1,h2,?_,by rw[ht _ (by rw[h.1];omega)];exact h0,?_⟩
    · rw[List.getElem?_append_left (by rw[h.1];exact hj),h3]
    · rw[List.getElem?_append_left (by rw[h.2.1];exact hj),h4,ht _ (by rw[h.1];omega)]
 · have hje:j=J.length:=by
    have:=(List.getElem?_eq_some_iff.1 hx).1
    simp at this
    omega
   subst hje
   rw[List.getElem?_append_right (Nat.le_refl _)]at hx
   simp only[Nat.sub_self,List.getElem?_cons_zero,Option.some.injEq]at hx
   subst hx
   refine⟨β,rfl,by rw[←h.1,List.take_append_of_le_length (Nat.le_refl _),List.take_length];exact hb,?_⟩
   rw[←h.2.1,List.getElem?_append_right (Nat.le_refl _)]
   simp only[Nat.sub_self,List.getElem?_cons_zero]
   rw[h.2.1,←h.1,List.take_append_of_le_length (Nat.le_refl _),List.take_length]
theorem JRel.loop {jl:Nat} {ret:RetK} {ok:OkK} {ar:List (Option Nat)} {J J':List JT} (h:JRel σ P ρ jl ret ok ar J J') (b:T) (β:List PV) (d:Option Nat) (n:Nat) (hd:DOk d β) (hb:b.ars σ P.length ρ.length ok (addO d n) (ar++ [some n])=true):JRel σ P ρ jl ret ok (ar++ [some n]) (J++ [.loop b (P++β)]) (J'++ [.loop (T.inst σ P.length ρ.length b jl ret (addO d n) (ar++ [some n])) (ρ++β)]):=by
 refine⟨by simp[h.1],by simp[h.2.1],fun j x hx=>?_⟩
 by_cases hj:j < J.length
 · rw[List.getElem?_append_left hj]at hx
   have:=h.2.2 j x hx
   have ht:∀i,i≤ar.length→(ar++ [some n]).take i=ar.take i:=fun i hi=>List.take_append_of_le_length hi
   cases x with
   | join b ρ0=>
    obtain⟨β,h1,h0,h2⟩:=this
    refine⟨β,h1,by rw[ht _ (by rw[h.1];omega)];exact h0,?_⟩
    rw[List.getElem?_append_left (by rw[h.2.1];exact hj),h2,ht _ (by rw[h.1];omega)]
   | loop b ρ0=>
    obtain⟨β,d,n',h1,h2,h3,h0,h4⟩:=this
    refine⟨β,d,n',h1,h2,?_,by rw[ht _ (by rw[h.1];omega)];exact h0,?_⟩
    · rw[List.getElem?_append_left (by rw[h.1];exact hj),h3]
    · rw[List.getElem?_append_left (by rw[h.2.1];exact hj),h4,ht _ (by rw[h.1];omega)]
 · have hje:j=J.length:=by
    have:=(List.getElem?_eq_some_iff.1 hx).1
    simp at this
    omega
   subst hje
   rw[List.getElem?_append_right (Nat.le_refl _)]at hx
   simp only[Nat.sub_self,List.getElem?_cons_zero,Option.some.injEq]at hx
   subst hx
   refine⟨β,d,n,rfl,hd,?_,by rw[←h.1,show ar.length+1=(ar++ [some n]).length by simp,List.take_length];exact hb,?_⟩
   · rw[←h.1,List.getElem?_append_right (Nat.le_refl _)]
     simp
   · rw[←h.2.1,List.getElem?_append_right (Nat.le_refl _)]
     simp only[Nat.sub_self,List.getElem?_cons_zero]
     rw[h.2.1,←h.1,show ar.length+1=(ar++ [some n]).length by simp,List.take_length]
theorem inst_run (hσ:∀β,σ.map (·.den (ρ++β))=P):∀ (h:Nat) (t:T) (β:List PV) (d:Option Nat) (ar:List (Option Nat)) (J J' Jb:List JT) (ret:RetK) (ok:OkK) (vs r:List PV),
    run tr h t (P++β) J=some vs→t.ars σ P.length ρ.length ok d ar=true→DOk d β→JRel σ P ρ Jb.length ret ok ar J J'→
    (∀ (d:Option Nat) (β:List PV) (J':List JT) (es:List Ex),DOk d β→ok d J'.length es=true→es.map (·.den (ρ++β))=vs→Run tr (ret d J'.length es) (ρ++β) (Jb++J') r)→
    Run tr (T.inst σ P.length ρ.length t Jb.length ret d ar) (ρ++β) (Jb++J') r:=by
 intro h
 induction h with
 | zero=>intro t β d ar J J' Jb ret ok vs r h;cases h
 | succ h ih=>
  intro t β d ar J J' Jb ret ok vs r hr ha hd hJ hret
  cases t with
  | fail w=>cases hr
  | mark s=>cases hr
  | ret es=>
   simp only[run,Option.some.injEq]at hr
   simp only[T.ars]at ha
   simp only[T.inst]
   have hl:ar.length=J'.length:=by rw[hJ.1,hJ.2.1]
   rw[hl]at ha ⊢
   exact hret d β J' _ hd ha (by rw[dens_inst hσ,hr])
  | ite c a b=>
   simp only[run]at hr
   simp only[T.ars,Bool.and_eq_true]at ha
   simp only[T.inst]
   refine Run.ite ?_
   rw[den_inst hσ]
   split
   · rename_i hc;rw[if_pos hc]at hr;exact ih a β d ar J J' Jb ret ok vs r hr ha.1 hd hJ hret
   · rename_i hc;rw[if_neg hc]at hr;exact ih b β d ar J J' Jb ret ok vs r hr ha.2 hd hJ hret
  | call f es n k=>
   simp only[run,Option.bind_eq_some_iff]at hr
   obtain⟨t,ht,ws,hw,hr⟩:=hr
   simp only[T.ars]at ha
   simp only[T.inst]
   split at hr
   · rename_i hl
     refine Run.call ht (vs:=ws) ?_ hl ?_
     · rw[dens_inst hσ];exact⟨h,hw⟩
     · rw[List.append_assoc]at hr ⊢
       exact ih k (β++ws) _ ar J J' Jb ret ok vs r hr ha (hd.add hl) hJ hret
   · cases hr
  | loop es b=>
   simp only[run]at hr
   simp only[T.ars]at ha
   simp only[T.inst]
   refine Run.loop ?_
   rw[dens_inst hσ,List.append_assoc,List.append_assoc]
   rw[List.append_assoc]at hr
   exact ih b _ _ _ _ _ Jb ret ok vs r hr ha (hd.add (by simp)) (hJ.loop b β d es.length hd ha) hret
  | letj b m=>
   simp only[run]at hr
   simp only[T.ars,Bool.and_eq_true]at ha
   simp only[T.inst]
   refine Run.letj ?_
   rw[List.append_assoc]
   exact ih m _ _ _ _ _ Jb ret ok vs r hr ha.2 hd (hJ.join b β ha.1) hret
  | jump j es=>
   simp only[run]at hr
   simp only[T.ars]at ha
   simp only[T.inst]
   split at hr
   · rename_i b ρ0 hx
     obtain⟨β0,rfl,h0,h2⟩:=hJ.2.2 j _ hx
     have hj:j < J'.length:=(List.getElem?_eq_some_iff.1 h2).1
     refine Run.toJoin (b:=T.inst σ P.length ρ.length b Jb.length ret none (ar.take j)) (ρ0:=ρ++β0) ?_ ?_
     · rw[List.getElem?_append_right (by omega),Nat.add_sub_cancel_left,h2]
     · rw[dens_inst hσ,List.append_assoc]
       rw[List.append_assoc]at hr
       rw[show(Jb++J').take (Jb.length+j)=Jb++J'.take j by rw[List.take_append,List.take_of_length_le (by omega),Nat.add_sub_cancel_left]]
       exact ih b _ none _ _ _ Jb ret ok vs r hr h0 (fun m hm=>by cases hm) (hJ.take j) hret
   · rename_i b ρ0 hx
     obtain⟨β0,d0,n,rfl,hd0,har,h0,h2⟩:=hJ.2.2 j _ hx
     have hj:j < J'.length:=(List.getElem?_eq_some_iff.1 h2).1
     have hn:es.length=n:=by
      simp only[arOk,har]at ha
      exact Nat.eq_of_beq_eq_true ha
     refine Run.toLoop (b:=T.inst σ P.length ρ.length b Jb.length ret (addO d0 n) (ar.take (j+1))) (ρ0:=ρ++β0) ?_ ?_
     · rw[List.getElem?_append_right (by omega),Nat.add_sub_cancel_left,h2]
     · rw[dens_inst hσ,List.append_assoc]
       rw[List.append_assoc]at hr
       rw[show(Jb++J').take (Jb.length+j+1)=Jb++J'.take (j+1)by rw[Nat.add_assoc,List.take_append,List.take_of_length_le (by omega),Nat.add_sub_cancel_left]]
       exact ih b _ _ _ _ _ Jb ret ok vs r hr h0 (hd0.add (by simp[hn])) (hJ.take (j+1)) hret
   · cases hr
  | seq t n k=>
   simp only[run,Option.bind_eq_some_iff]at hr
   obtain⟨ws,hw,hr⟩:=hr
   simp only[T.ars,Bool.and_eq_true]at ha
   simp only[T.inst]
   split at hr
   · rename_i hl
     refine Run.seq (vs:=ws) ?_ hl ?_
     · have:=ih t β none [] [] [] [] (fun _ _ es=> .ret es) (fun _ _ _=>true) ws ws hw ha.1 (fun m hm=>by cases hm) ⟨rfl,rfl,fun j x hx=>by simp at hx⟩ (fun d β J' es _ _ he=>Run.ret he)
       simpa using this
     · rw[List.append_assoc]at hr ⊢
       exact ih k (β++ws) _ ar J J' Jb ret ok vs r hr ha.2 (hd.add hl) hJ hret
   · cases hr
  | any k=>
   simp only[run,agree_some]at hr
   simp only[T.ars]at ha
   simp only[T.inst]
   rw[run_any]
   have h1:=hr.1
   have h2:=hr.2
   rw[List.append_assoc]at h1 h2
   rw[List.append_assoc,List.append_assoc]
   exact⟨ih k _ _ ar J J' Jb ret ok vs r h1 ha (hd.add rfl) hJ hret,ih k _ _ ar J J' Jb ret ok vs r h2 ha (hd.add rfl) hJ hret⟩
def isVars:List Ex→List Nat→Bool
 | [],[]=>true
 | .var i::r,j::s=>Nat.beq i j&& isVars r s
 | _,_=>false
def kOk (d e:Nat) (is:List Nat):OkK:=fun d' e' es=>
 match d' with
 | some m=>Nat.beq m d&& Nat.beq e' e&& isVars es is
 | none=>false
theorem isVars_map {es:List Ex} {is:List Nat} (h:isVars es is=true) (ρ:List PV):es.map (·.den ρ)=is.map fun i=>ρ.getD i .bad:=by
 induction is generalizing es with
 | nil=>cases es with
  | nil=>rfl
  | cons e r=>cases e <;> cases h
 | cons i is ih=>
  cases es with
  | nil=>cases h
  | cons e r=>
   cases e with
   | var k=>
    simp only[isVars,Bool.and_eq_true]at h
    simp only[List.map_cons,xden_var,ih h.2,Nat.eq_of_beq_eq_true h.1]
   | _=>cases h
theorem Run.outK {t0 t K:T} {J:List JT} {vs r:List PV} (P:List PV) (σ:List Ex) (nv jl d e:Nat) (is:List Nat) (h0:Run tr t0 P [] vs)
    (hnv:ρ.length=nv) (hjl:J.length=jl) (hs:t0.ars σ P.length nv (kOk d e is) (some 0) []=true)
    (ht:T.inst σ P.length nv t0 jl (fun _ _ _=>K) (some 0) []=t) (hσ:∀β,σ.map (·.den (ρ++β))=P)
    (hK:∀ (β:List PV) (J':List JT),β.length=d→J'.length=e→(is.map fun i=>(ρ++β).getD i .bad)=vs→Run tr K (ρ++β) (J++J') r):Run tr t ρ J r:=by
 subst hnv hjl ht
 obtain⟨h,h0⟩:=h0
 have:=inst_run (tr:=tr) (ρ:=ρ) hσ h t0 [] (some 0) [] [] [] J (fun _ _ _=>K) (kOk d e is) vs r (by simpa using h0) hs (fun m hm=>by cases hm;rfl) ⟨rfl,rfl,fun j x hx=>by simp at hx⟩ (fun d' β J' es hd hok he=>?_)
 · simpa using this
 · cases d' with
   | none=>cases hok
   | some m=>
    simp only[kOk,Bool.and_eq_true]at hok
    refine hK β J' ?_ (Nat.eq_of_beq_eq_true hok.1.2) ?_
    · rw[hd m rfl,Nat.eq_of_beq_eq_true hok.1.1]
    · rw[←isVars_map hok.2,he]
end
end Go.Proofs.YtckjdlmfibjpaaaGreat.Sx
set_option linter.unusedVariables false
namespace Go.Proofs.YtckjdlmfibjpaaaGreat.Sx
theorem rs0:type_of% (And.intro (And.intro (And.intro @xrun_ret (And.intro @run_ite @run_fail)) (And.intro @run_letj (And.intro @xrun_loop @run_jump))) (And.intro (And.intro @xrun_call (And.intro @jmp_join @jmp_loop)) (And.intro @br_fail (And.intro @br_true @br_false)))):=(And.intro (And.intro (And.intro @xrun_ret (And.intro @run_ite @run_fail)) (And.intro @run_letj (And.intro @xrun_loop @run_jump))) (And.intro (And.intro @xrun_call (And.intro @jmp_join @jmp_loop)) (And.intro @br_fail (And.intro @br_true @br_false))))
theorem rs1:type_of% (And.intro (And.intro (And.intro @xden_var (And.intro @den_int @den_bool)) (And.intro @den_str (And.intro @den_nil @den_nilc))) (And.intro (And.intro @den_un (And.intro @den_bin @den_tri)) (And.intro @xon_and (And.intro @xon_or @on_beq)))):=(And.intro (And.intro (And.intro @xden_var (And.intro @den_int @den_bool)) (And.intro @den_str (And.intro @den_nil @den_nilc))) (And.intro (And.intro @den_un (And.intro @den_bin @den_tri)) (And.intro @xon_and (And.intro @xon_or @on_beq))))
theorem rs2:type_of% (And.intro (And.intro (And.intro @xon_not (And.intro @on_len @on_neg)) (And.intro @on_conv (And.intro @on_max @on_min))) (And.intro (And.intro @on_snoc (And.intro @on_cat @on_cons)) (And.intro @on_make (And.intro @on_copy @on_plus)))):=(And.intro (And.intro (And.intro @xon_not (And.intro @on_len @on_neg)) (And.intro @on_conv (And.intro @on_max @on_min))) (And.intro (And.intro @on_snoc (And.intro @on_cat @on_cons)) (And.intro @on_make (And.intro @on_copy @on_plus))))
theorem rs3:type_of% (And.intro (And.intro (And.intro @on_minus (And.intro @on_cell @on_sel)) (And.intro @on_slice (And.intro @on_set @on_put))) (And.intro (And.intro @on_cmp (And.intro @on_ar @ev_lss)) (And.intro @ev_leq (And.intro @ev_gtr @ev_geq)))):=(And.intro (And.intro (And.intro @on_minus (And.intro @on_cell @on_sel)) (And.intro @on_slice (And.intro @on_set @on_put))) (And.intro (And.intro @on_cmp (And.intro @on_ar @ev_lss)) (And.intro @ev_leq (And.intro @ev_gtr @ev_geq))))
theorem rs4:type_of% (And.intro (And.intro (And.intro @ev_eql (And.intro @ev_neq @ar_add)) (And.intro @ar_sub (And.intro @ar_mul @ar_quo))) (And.intro (And.intro @ar_rem (And.intro @pi_int @b_bool)) (And.intro @r_row (And.intro @c_cells @rowOf_r)))):=(And.intro (And.intro (And.intro @ev_eql (And.intro @ev_neq @ar_add)) (And.intro @ar_sub (And.intro @ar_mul @ar_quo))) (And.intro (And.intro @ar_rem (And.intro @pi_int @b_bool)) (And.intro @r_row (And.intro @c_cells @rowOf_r))))
theorem rs5:type_of% (And.intro (And.intro (And.intro @List.map_cons.{0,0} (And.intro @List.map_nil.{0,0} @List.cons_append.{0})) (And.intro @List.nil_append.{0} (And.intro @List.getD_cons_zero.{0} @List.getD_cons_succ.{0}))) (And.intro (And.intro @List.getElem?_cons_zero.{0} (And.intro @List.getElem?_cons_succ.{0} @List.take_zero.{0})) (And.intro @List.take_succ_cons.{0} (And.intro @List.length_map.{0,0} @Int.toNat_natCast)))):=(And.intro (And.intro (And.intro @List.map_cons.{0,0} (And.intro @List.map_nil.{0,0} @List.cons_append.{0})) (And.intro @List.nil_append.{0} (And.intro @List.getD_cons_zero.{0} @List.getD_cons_succ.{0}))) (And.intro (And.intro @List.getElem?_cons_zero.{0} (And.intro @List.getElem?_cons_succ.{0} @List.take_zero.{0})) (And.intro @List.take_succ_cons.{0} (And.intro @List.length_map.{0,0} @Int.toNat_natCast))))
theorem rs6:type_of% (And.intro (And.intro (And.intro @decide_eq_true_eq (And.intro @Int.ofNat_lt @Int.ofNat_le)) (And.intro @xnat_nonneg (And.intro @true_and @and_true))) (And.intro (And.intro @if_true.{1} (And.intro @if_false.{1} @wrap_in)) (And.intro @xints_at (And.intro @xbools_at @xints_set)))):=(And.intro (And.intro (And.intro @decide_eq_true_eq (And.intro @Int.ofNat_lt @Int.ofNat_le)) (And.intro @xnat_nonneg (And.intro @true_and @and_true))) (And.intro (And.intro @if_true.{1} (And.intro @if_false.{1} @wrap_in)) (And.intro @xints_at (And.intro @xbools_at @xints_set))))
theorem rs7:type_of% (And.intro (And.intro (And.intro @xints_snoc @xints_make) (And.intro @xints_nil (And.intro @xbools_set @xbools_snoc))) (And.intro (And.intro @xbools_make @xcopy_make) (And.intro @List.length_replicate.{0} (And.intro @List.length_cons.{0} @List.length_nil.{0})))):=(And.intro (And.intro (And.intro @xints_snoc @xints_make) (And.intro @xints_nil (And.intro @xbools_set @xbools_snoc))) (And.intro (And.intro @xbools_make @xcopy_make) (And.intro @List.length_replicate.{0} (And.intro @List.length_cons.{0} @List.length_nil.{0}))))
theorem bx0:type_of% (And.intro (And.intro (And.intro @Bool.not_and (And.intro @Bool.not_or @Bool.not_not)) (And.intro @Bool.and_eq_true (And.intro @Bool.or_eq_true @Bool.not_eq_true'))) (And.intro (And.intro @Bool.and_eq_false_imp (And.intro @Bool.or_eq_false_iff @decide_eq_false_iff_not)) (And.intro @decide_eq_true_eq (And.intro @beq_iff_eq.{0} @beq_eq_false_iff_ne.{0})))):=(And.intro (And.intro (And.intro @Bool.not_and (And.intro @Bool.not_or @Bool.not_not)) (And.intro @Bool.and_eq_true (And.intro @Bool.or_eq_true @Bool.not_eq_true'))) (And.intro (And.intro @Bool.and_eq_false_imp (And.intro @Bool.or_eq_false_iff @decide_eq_false_iff_not)) (And.intro @decide_eq_true_eq (And.intro @beq_iff_eq.{0} @beq_eq_false_iff_ne.{0}))))
theorem bx1:type_of% (And.intro (And.intro (And.intro @bne_iff_ne.{0} (And.intro @bne_eq_false_iff_eq.{0} @gt_iff_lt.{0})) (And.intro @ge_iff_le.{0} (And.intro @Bool.false_eq_true @Bool.true_eq_false))) (And.intro (And.intro @beq_self_eq_true.{0} (And.intro @beq_true @beq_false)) (And.intro @Bool.not_false (And.intro @Bool.not_true @Bool.false_and)))):=(And.intro (And.intro (And.intro @bne_iff_ne.{0} (And.intro @bne_eq_false_iff_eq.{0} @gt_iff_lt.{0})) (And.intro @ge_iff_le.{0} (And.intro @Bool.false_eq_true @Bool.true_eq_false))) (And.intro (And.intro @beq_self_eq_true.{0} (And.intro @beq_true @beq_false)) (And.intro @Bool.not_false (And.intro @Bool.not_true @Bool.false_and))))
theorem bx2:type_of% (And.intro (And.intro (And.intro @Bool.true_and (And.intro @Bool.and_true @Bool.and_false)) (And.intro @Bool.or_true (And.intro @Bool.true_or @Bool.or_false))) (And.intro (And.intro @Bool.false_or (And.intro @false_and @true_and)) (And.intro @and_false (And.intro @and_true @or_false)))):=(And.intro (And.intro (And.intro @Bool.true_and (And.intro @Bool.and_true @Bool.and_false)) (And.intro @Bool.or_true (And.intro @Bool.true_or @Bool.or_false))) (And.intro (And.intro @Bool.false_or (And.intro @false_and @true_and)) (And.intro @and_false (And.intro @and_true @or_false))))
theorem bx3:type_of% (And.intro (And.intro (And.intro @or_true (And.intro @false_or @true_or)) (And.intro @not_true_eq_false (And.intro @not_false_eq_true @false_iff))) (And.intro (And.intro @iff_false (And.intro @true_iff @iff_true)) (And.intro @false_imp_iff (And.intro @true_imp_iff @imp_false)))):=(And.intro (And.intro (And.intro @or_true (And.intro @false_or @true_or)) (And.intro @not_true_eq_false (And.intro @not_false_eq_true @false_iff))) (And.intro (And.intro @iff_false (And.intro @true_iff @iff_true)) (And.intro @false_imp_iff (And.intro @true_imp_iff @imp_false))))
theorem rs:type_of% (And.intro @rs0 (And.intro @rs1 (And.intro @rs2 (And.intro @rs3 (And.intro @rs4 (And.intro @rs5 (And.intro @rs6 @rs7))))))):=(And.intro @rs0 (And.intro @rs1 (And.intro @rs2 (And.intro @rs3 (And.intro @rs4 (And.intro @rs5 (And.intro @rs6 @rs7)))))))
theorem bx:type_of% (And.intro @bx0 (And.intro @bx1 (And.intro @bx2 @bx3))):=(And.intro @bx0 (And.intro @bx1 (And.intro @bx2 @bx3)))
theorem ln0:type_of% (And.intro @List.length_set.{0} (And.intro @List.length_map.{0,0} (And.intro @List.length_replicate.{0} (And.intro @List.length_append.{0} @List.length_modify.{0})))):=(And.intro @List.length_set.{0} (And.intro @List.length_map.{0,0} (And.intro @List.length_replicate.{0} (And.intro @List.length_append.{0} @List.length_modify.{0}))))
end Go.Proofs.YtckjdlmfibjpaaaGreat.Sx
set_option linter.unusedVariables false
namespace Go.Proofs.YtckjdlmfibjpaaaGreat.Sx
def OkL (P:Program) (sg:Nat→Option Sig) (d f:Nat) (t:T):Prop:=∃orc,(match sg f with | some g=>(treeOf P sg (ofOrc orc) (sxDrawn P sg) d f g).same t | none=>true)=true
def AllP (Q:Nat→T→Prop):List (Nat×T)→Prop
 | []=>True
 | (a,b)::l=>Q a b∧AllP Q l
theorem allP_look {Q:Nat→T→Prop} {f:Nat} {t:T}:∀ {l:List (Nat×T)},AllP Q l→Sx.look l f=some t→Q f t
 | [],_,h=>by cases h
 | (a,b)::l,h,h2=>by
  simp only[Sx.look]at h2
  by_cases hc:(a == f)=true
  · rw[if_pos hc]at h2
    cases h2
    rw[eq_of_beq hc]at h
    exact h.1
  · rw[if_neg hc]at h2
    exact allP_look h.2 h2
theorem ok_all {P:Program} {sg:Nat→Option Sig} {d:Nat} {l:List (Nat×T)} (h:AllP (OkL P sg d) l):∀f g t,sg f=some g→Sx.look l f=some t→∃orc,(treeOf P sg (ofOrc orc) (sxDrawn P sg) d f g).same t=true:=by
 intro f g t h1 h2
 obtain⟨orc,ho⟩:=allP_look h h2
 rw[h1]at ho
 exact⟨orc,ho⟩
end Go.Proofs.YtckjdlmfibjpaaaGreat.Sx

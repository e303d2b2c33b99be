/- Symbolic running of the program's code, over any program, with its proof (2 of 6): definitions and lemmas. No condition. -/
import Derived.Test.YtckjdlmfibjpaaaGreatSx1
set_option linter.unusedVariables false
namespace Go.Proofs.YtckjdlmfibjpaaaGreat.Sx
open Go.RowKit
section
variable {P:Program} {X:Env} {W0:World} {φ:Names} {ρ:List PV} {σ:St} {a:Act} {fs:List Act} {w:World} {nx:Nat}
theorem Rel.learn (h:Rel X W0 φ ρ σ fs w) {c:Ex} {b:Bool} (hc:c.fits ρ.length=true) (hb:(c.den ρ).b=b):Rel X W0 φ ρ { σ with known:=Sx.learn c b σ.known } fs w:=
 ⟨h.below,h.old,h.low,h.inj,h.names,h.nv,learn_sound c b σ.known h.known hc hb,h.frames,h.heap⟩
theorem svr_int {k:IntKind} {e:Ex} {v:Value} (h:SVR w X φ ρ nx (.ex (.int k) e) v):e.fits ρ.length=true∧∃n,e.den ρ= .int k n∧v= .int k n:=by
 simp only[SVR,RV]at h;exact h
theorem svr_bool {e:Ex} {v:Value} (h:SVR w X φ ρ nx (.ex .bool e) v):e.fits ρ.length=true∧∃b,e.den ρ= .bool b∧v= .bool b:=by
 simp only[SVR,RV]at h;exact h
theorem svr_str {e:Ex} {v:Value} (h:SVR w X φ ρ nx (.ex .str e) v):e.fits ρ.length=true∧∃s,e.den ρ= .str s∧v= .string s:=by
 simp only[SVR,RV]at h;exact h
theorem int_svr {k:IntKind} {e:Ex} {n:Int} (hf:e.fits ρ.length=true) (hd:e.den ρ= .int k n):SVR w X φ ρ nx (.ex (.int k) e) (.int k n):=by
 simp only[SVR,RV];exact⟨hf,n,hd,rfl⟩
theorem bool_svr {e:Ex} {b:Bool} (hf:e.fits ρ.length=true) (hd:e.den ρ= .bool b):SVR w X φ ρ nx (.ex .bool e) (.bool b):=by
 simp only[SVR,RV];exact⟨hf,b,hd,rfl⟩
theorem eqGuard_plain (op:BinOp) (t:TypeId) (x y:Operand) {vx vy:Value} (hx:∀c,vx≠ .agg c) (hn:vx≠ .nilIface):(eqGuard op t x y vx vy).run P w= .ok () w:=by
 unfold eqGuard
 cases op <;> cases vx <;> first | rfl | (exact absurd rfl hn) | (exact absurd rfl (hx _)) | (cases vy <;> rfl)
theorem int_arith {op:BinOp} {k:IntKind} (h:op= .add∨op= .sub∨op= .mul∨op= .and∨op= .or∨op= .xor∨op= .andNot) {t:TypeId} (x y:Int) :
    (binOp op t (.int k x) (.int k y)).run P w= .ok (.int k (arith op k x y)) w:=by
 rcases h with rfl | rfl | rfl | rfl | rfl | rfl | rfl <;> simp[binOp,Op.intArith,Op.intBits,arith]
theorem int_div {op:BinOp} {k:IntKind} (h:op= .quo∨op= .rem) {t:TypeId} (x y:Int) (hy:y≠0):(binOp op t (.int k x) (.int k y)).run P w= .ok (.int k (arith op k x y)) w:=by
 rcases h with rfl | rfl <;> simp[binOp,Op.intDiv,arith,hy]
theorem int_cmp {op:BinOp} {k:IntKind} (h:op= .eql∨op= .neq∨op= .lss∨op= .leq∨op= .gtr∨op= .geq) {t:TypeId} (x y:Int) :
    (binOp op t (.int k x) (.int k y)).run P w= .ok (.bool (compare op x y)) w:=by
 rcases h with rfl | rfl | rfl | rfl | rfl | rfl <;> simp[binOp,Op.intCmp,compare]
theorem int_shift {op:BinOp} {k k':IntKind} (h:op= .shl∨op= .shr) {t:TypeId} (x y:Int) (hy:0≤y):(binOp op t (.int k x) (.int k' y)).run P w= .ok (.int k (arith op k x y)) w:=by
 have:¬y < 0:=by omega
 rcases h with rfl | rfl <;> simp[binOp,Op.shift,arith,this]
theorem equalIn_bool (d:Nat) {t:TypeId} (ht:P.underlying t=some .bool) (x y:Bool):(Op.equalIn (d+1) t (.bool x) (.bool y)).run P w= .ok (x == y) w:=by
 simp[Op.equalIn,run_underlying ht]
theorem bool_eq {op:BinOp} (h:op= .eql∨op= .neq) {t:TypeId} (ht:P.underlying t=some .bool) (x y:Bool) :
    (binOp op t (.bool x) (.bool y)).run P w= .ok (.bool (if op= .eql then x == y else !(x == y))) w:=by
 have:=equalIn_bool (P:=P) (w:=w) 9999 ht x y
 rcases h with rfl | rfl <;> simp only[binOp,Op.equal,Op.maxDepth,Sem.run_bind,this,Result.andThen_ok,Sem.run_pure] <;> rfl
theorem str_eq {op:BinOp} (h:op= .eql∨op= .neq) {t:TypeId} (x y:ByteArray) :
    (binOp op t (.string x) (.string y)).run P w= .ok (.bool (if op= .eql then x.toList == y.toList else !(x.toList == y.toList))) w:=by
 rcases h with rfl | rfl <;> simp[binOp,Op.stringOp]
theorem andAll_b:∀ (es:List Ex),es≠ []→(∀e∈es,∃b,e.den ρ= .bool b)→(andAll es).den ρ= .bool (es.all fun e=>(e.den ρ).b)
 | [],h,_=>absurd rfl h
 | [e],_,h=>by
  obtain⟨b,hb⟩:=h e (by simp)
  simp[andAll,hb,PV.b]
 | e::f::r,_,h=>by
  have:=andAll_b (f::r) (by simp) (fun x hx=>h x (by simp at hx ⊢;right;exact hx))
  obtain⟨b,hb⟩:=h e (by simp)
  rw[show andAll (e::f::r)= .mk2 .and e (andAll (f::r))from rfl,Ex.den_mk2,this,hb]
  simp[BO.on,PV.b,hb]
theorem andAll_den (es:List Ex) (h:∀e∈es,∃b,e.den ρ= .bool b):(andAll es).den ρ= .bool (es.all fun e=>(e.den ρ).b):=by
 cases es with
 | nil=>rfl
 | cons e r=>exact andAll_b _ (by simp) h
theorem andAll_fits {n:Nat}:∀ (es:List Ex),(∀e∈es,e.fits n=true)→(andAll es).fits n=true
 | [],_=>rfl
 | [e],h=>h e (by simp)
 | e::f::r,h=>Ex.fits_mk2 (h e (by simp)) (andAll_fits (f::r) (fun x hx=>h x (by simp at hx ⊢;right;exact hx)))
theorem mapO_some {α β:Type} {f:α→Option β}:∀ {l:List α} {m:List β},mapO f l=some m→∀a∈l,∃b,f a=some b
 | [],m,_,a,ha=>by cases ha
 | x::r,m,h,a,ha=>by
  simp only[mapO]at h
  split at h
  · rename_i b s hb hs
    rcases List.mem_cons.1 ha with rfl | ha
    · exact⟨b,hb⟩
    · exact mapO_some hs a ha
  · cases h
theorem eqT_part {t:TypeId} {d:Nat} {s off:Nat} {sa:List SV} {xs:Array Value} {sb:List SV} {es:List Ex} (hs:szOf P t=some s) (hx:SVRs w X φ ρ nx sa xs.toList)
    (he:eqT P d t ((sa.drop off).take s) sb=some es) :
    ∃v,(part t xs off).run P w= .ok v w∧(∃l,SVRs w X φ ρ nx ((sa.drop off).take s) l∧((aggOf P t=some true∧v= .agg l.toArray)∨(aggOf P t=some false∧l=[v]))):=by
 have hsub:SVRs w X φ ρ nx ((sa.drop off).take s) ((xs.toList.drop off).take s):=(hx.drop off).take s
 cases d with
 | zero=>simp[eqT]at he
 | succ d=>
  have hcase:aggOf P t=some true∨(aggOf P t=some false∧∃z,(sa.drop off).take s=[z]):=by
   simp only[eqT]at he
   unfold aggOf
   split at he
   · rename_i hu;right;rw[hu];refine⟨rfl,?_⟩;split at he
     · rename_i hz;exact⟨_,hz⟩
     · cases he
   · rename_i hu;right;rw[hu];refine⟨rfl,?_⟩;split at he
     · rename_i hz;exact⟨_,hz⟩
     · cases he
   · rename_i hu;right;rw[hu];refine⟨rfl,?_⟩;split at he
     · rename_i hz;exact⟨_,hz⟩
     · cases he
   · rename_i hu;left;rw[hu]
   · rename_i hu;left;rw[hu]
   · cases he
  rcases hcase with ha | ⟨ha,z,hz⟩
  · refine⟨.agg (xs.extract off (off+s)),by simp[part,run_agg ha,run_size hs],_,hsub,.inl ⟨ha,?_⟩⟩
    congr 1
    apply Array.ext'
    simp[Array.toList_extract,List.extract_eq_take_drop]
  · rw[hz]at hsub ⊢
    simp only[SVRs]at hsub
    obtain⟨v,vs',hl,h1,rfl⟩:=hsub
    have hv:xs[off]? =some v:=by
     have h0:((xs.toList.drop off).take s)[0]? =some v:=by rw[hl];rfl
     rw[List.getElem?_take]at h0
     split at h0
     · rw[List.getElem?_drop]at h0;simpa using h0
     · cases h0
    exact⟨v,by simp[part,run_agg ha,hv],[v],by simp only[SVRs];exact⟨v,[],rfl,h1,rfl⟩,.inr ⟨ha,rfl⟩⟩
def eqIdx (D s:Nat) (e:TypeId) (xs ys:Array Value):List Nat→Sem Bool
 | []=>pure true
 | i::r=>do if !(←Op.equalIn D e (←part e xs (i*s)) (←part e ys (i*s)))then return false else eqIdx D s e xs ys r
theorem run_equalIn_array (d:Nat) (t e:TypeId) (n s:Nat) (xs ys:Array Value) (ht:P.underlying t=some (.array n e)) (hs:szOf P e=some s) :
    (Op.equalIn (d+1) t (.agg xs) (.agg ys)).run P w=(eqIdx d s e xs ys (List.range' 0 n)).run P w:=by
 simp only[Op.equalIn,Sem.run_bind,run_underlying ht,Result.andThen_ok,run_size hs]
 rw[Std.Legacy.Range.forIn_eq_forIn_range']
 simp only[Std.Legacy.Range.size,Nat.sub_zero,Nat.add_sub_cancel,Nat.div_one]
 generalize List.range' 0 n 1=L
 clear ht
 induction L generalizing w with
 | nil=>simp[eqIdx]
 | cons i L ih=>
  simp only[List.forIn_cons,eqIdx,Sem.run_bind]
  generalize (part e xs (i*s)).run P w=r1
  cases r1 with
  | ok a w1=>
   simp only[Result.andThen_ok]
   generalize (part e ys (i*s)).run P w1=r2
   cases r2 with
   | ok b w2=>
    simp only[Result.andThen_ok]
    generalize (Op.equalIn d e a b).run P w2=r3
    cases r3 with
    | ok r w3=>
     cases r
     · simp only[Result.andThen_ok,Bool.not_false,if_true,Sem.run_pure]
     · simp only[Result.andThen_ok,Bool.not_true,Bool.false_eq_true,if_false,Sem.run_pure]
       exact ih (w:=w3)
    | halt x w3=>simp[Result.andThen]
   | halt x w2=>simp[Result.andThen]
  | halt x w1=>simp[Result.andThen]
def EqAt (P:Program) (X:Env) (φ:Names) (ρ:List PV) (nx:Nat) (w:World) (d:Nat):Prop:=
 ∀ (t:TypeId) (sa sb:List SV) (es:List Ex),eqT P d t sa sb=some es→∀ (la lb:List Value),SVRs w X φ ρ nx sa la→SVRs w X φ ρ nx sb lb→
  (∀e∈es,e.fits ρ.length=true)∧(∀e∈es,∃b,e.den ρ= .bool b)∧
  (aggOf P t=some false→∀va vb,la=[va]→lb=[vb]→∀D,d≤D→(Op.equalIn D t va vb).run P w= .ok (es.all fun e=>(e.den ρ).b) w)∧
  (aggOf P t=some true→∀D,d≤D→(Op.equalIn D t (.agg la.toArray) (.agg lb.toArray)).run P w= .ok (es.all fun e=>(e.den ρ).b) w)
theorem eqT_both {t:TypeId} {d:Nat} {s off:Nat} {sa sb:List SV} {la lb:List Value} {es0:List Ex} (IH:EqAt P X φ ρ nx w d) (hs:szOf P t=some s) (ha:SVRs w X φ ρ nx sa la) (hb:SVRs w X φ ρ nx sb lb)
    (h0:eqT P d t ((sa.drop off).take s) ((sb.drop off).take s)=some es0) :
    (∀e∈es0,e.fits ρ.length=true)∧(∀e∈es0,∃b,e.den ρ= .bool b)∧∃va vb,(part t la.toArray off).run P w= .ok va w∧(part t lb.toArray off).run P w= .ok vb w∧
     ∀D,d≤D→(Op.equalIn D t va vb).run P w= .ok (es0.all fun e=>(e.den ρ).b) w:=by
 obtain⟨va,hva,la',hla,hca⟩:=eqT_part (xs:=la.toArray) hs (by simpa using ha) h0
 have h0':∃v,(part t lb.toArray off).run P w= .ok v w∧(∃l,SVRs w X φ ρ nx ((sb.drop off).take s) l∧((aggOf P t=some true∧v= .agg l.toArray)∨(aggOf P t=some false∧l=[v]))):=by
  have hsub:SVRs w X φ ρ nx ((sb.drop off).take s) ((lb.drop off).take s):=(hb.drop off).take s
  rcases hca with⟨hag',_⟩ | ⟨hag',hl1⟩
  · refine⟨.agg (lb.toArray.extract off (off+s)),by simp[part,run_agg hag',run_size hs],_,hsub,.inl ⟨hag',?_⟩⟩
    congr 1
    apply Array.ext'
    simp[List.extract_eq_take_drop]
  · obtain⟨z,hz⟩:∃z,(sb.drop off).take s=[z]:=by
     cases d with
     | zero=>simp[eqT]at h0
     | succ d=>
      simp only[eqT]at h0
      unfold aggOf at hag'
      split at h0
      · split at h0
        · rename_i hz;exact⟨_,hz⟩
        · cases h0
      · split at h0
        · rename_i hz;exact⟨_,hz⟩
        · cases h0
      · split at h0
        · rename_i hz;exact⟨_,hz⟩
        · cases h0
      · rename_i hu';rw[hu']at hag';cases hag'
      · rename_i hu';rw[hu']at hag';cases hag'
      · cases h0
    rw[hz]at hsub ⊢
    simp only[SVRs]at hsub
    obtain⟨v,vs',hl,h1',rfl⟩:=hsub
    have hv:lb[off]? =some v:=by
     have h0:((lb.drop off).take s)[0]? =some v:=by rw[hl];rfl
     rw[List.getElem?_take]at h0
     split at h0
     · rw[List.getElem?_drop]at h0;simpa using h0
     · cases h0
    exact⟨v,by simp[part,run_agg hag',hv],[v],by simp only[SVRs];exact⟨v,[],rfl,h1',rfl⟩,.inr ⟨hag',rfl⟩⟩
 obtain⟨vb,hvb,lb',hlb,hcb⟩:=h0'
 obtain⟨e1,e2,e3,e4⟩:=IH t _ _ es0 h0 la' lb' hla hlb
 refine⟨e1,e2,va,vb,hva,hvb,fun D hD=>?_⟩
 rcases hca with⟨hag1,rfl⟩ | ⟨hag1,rfl⟩
 · rcases hcb with⟨_,rfl⟩ | ⟨hag2,_⟩
   · exact e4 hag1 D hD
   · rw[hag1]at hag2;cases hag2
 · rcases hcb with⟨hag2,_⟩ | ⟨_,rfl⟩
   · rw[hag1]at hag2;cases hag2
   · exact e3 hag1 _ _ rfl rfl D hD
theorem eqT_array {n s d:Nat} {t e:TypeId} {sa sb:List SV} {la lb:List Value} {es:List Ex} (IH:EqAt P X φ ρ nx w d) (hu:P.underlying t=some (.array n e)) (hs:szOf P e=some s)
    (hm:(mapO (fun i=>eqT P d e ((sa.drop (i*s)).take s) ((sb.drop (i*s)).take s)) (List.range' 0 n)).map List.flatten=some es) (ha:SVRs w X φ ρ nx sa la) (hb:SVRs w X φ ρ nx sb lb) :
    (∀e∈es,e.fits ρ.length=true)∧(∀e∈es,∃b,e.den ρ= .bool b)∧∀D,d+1≤D→(Op.equalIn D t (.agg la.toArray) (.agg lb.toArray)).run P w= .ok (es.all fun e=>(e.den ρ).b) w:=by
 simp only[Option.map_eq_some_iff]at hm
 obtain⟨ess,hm,rfl⟩:=hm
 have key:∀ (L:List Nat) (ess:List (List Ex)),mapO (fun i=>eqT P d e ((sa.drop (i*s)).take s) ((sb.drop (i*s)).take s)) L=some ess→
     (∀e∈ess.flatten,e.fits ρ.length=true)∧(∀e∈ess.flatten,∃b,e.den ρ= .bool b)∧
     ∀D,d≤D→(eqIdx D s e la.toArray lb.toArray L).run P w= .ok (ess.flatten.all fun e=>(e.den ρ).b) w:=by
  intro L
  induction L with
  | nil=>intro ess hm;simp only[mapO,Option.some.injEq]at hm;subst hm;simp[eqIdx]
  | cons i r ih=>
   intro ess hm
   simp only[mapO]at hm
   split at hm
   · rename_i es0 es' h0 h1
     cases hm
     obtain⟨i1,i2,i3⟩:=ih es' h1
     obtain⟨e1,e2,va,vb,hva,hvb,heq⟩:=eqT_both IH hs ha hb h0
     refine⟨fun e he=>?_,fun e he=>?_,fun D hD=>?_⟩
     · simp only[List.flatten_cons,List.mem_append]at he
       rcases he with he | he
       · exact e1 e he
       · exact i1 e he
     · simp only[List.flatten_cons,List.mem_append]at he
       rcases he with he | he
       · exact e2 e he
       · exact i2 e he
     · simp only[eqIdx,Sem.run_bind,hva,hvb,Result.andThen_ok,heq D hD,List.flatten_cons,List.all_append]
       cases hes:(es0.all fun e=>(e.den ρ).b)with
       | true=>simp[i3 D hD]
       | false=>simp
   · cases hm
 obtain⟨k1,k2,k3⟩:=key _ ess hm
 refine⟨k1,k2,fun D hD=>?_⟩
 obtain⟨D',rfl⟩:∃m,D=m+1:=⟨D - 1,by omega⟩
 rw[run_equalIn_array D' t e n s _ _ hu hs]
 exact k3 D' (by omega)
theorem eqT_sound:∀ (d:Nat) (t:TypeId) (sa sb:List SV) (es:List Ex),eqT P d t sa sb=some es→∀ (la lb:List Value),SVRs w X φ ρ nx sa la→SVRs w X φ ρ nx sb lb→
    (∀e∈es,e.fits ρ.length=true)∧(∀e∈es,∃b,e.den ρ= .bool b)∧
    (aggOf P t=some false→∀va vb,la=[va]→lb=[vb]→∀D,d≤D→(Op.equalIn D t va vb).run P w= .ok (es.all fun e=>(e.den ρ).b) w)∧
    (aggOf P t=some true→∀D,d≤D→(Op.equalIn D t (.agg la.toArray) (.agg lb.toArray)).run P w= .ok (es.all fun e=>(e.den ρ).b) w)
 | 0,t,sa,sb,es,h,_,_,_,_=>by simp[eqT]at h
 | d + 1, t, sa, sb,es,h,la,lb,ha,hb=>by
  simp only[eqT]at h
  split at h
  · rename_i hu
    have hag:aggOf P t=some false:=by unfold aggOf;rw[hu]
    split at h
    · rename_i x y
      cases h
      simp only[SVRs]at ha hb
      obtain⟨va,_,rfl,h1,rfl⟩:=ha
      obtain⟨vb,_,rfl,h2,rfl⟩:=hb
      obtain⟨f1,b1,d1,rfl⟩:=svr_bool h1
      obtain⟨f2,b2,d2,rfl⟩:=svr_bool h2
      refine⟨fun e he=>?_,fun e he=>?_,fun _ va vb h3 h4 D hD=>?_,fun hc=>?_⟩
      · simp at he;subst he;exact Ex.fits_mk2 f1 f2
      · simp at he;subst he;rw[Ex.den_mk2];exact⟨_,rfl⟩
      · cases h3;cases h4
        obtain⟨D',rfl⟩:∃m,D=m+1:=⟨D - 1,by omega⟩
        simp[Op.equalIn,run_underlying hu,Ex.den_mk2,BO.on,d1,d2,PV.b]
      · rw[hag]at hc;cases hc
    · cases h
  · rename_i kk hu
    have hag:aggOf P t=some false:=by unfold aggOf;rw[hu]
    split at h
    · rename_i k x k' y
      split at h
      · rename_i hk
        have hk':k=k':=by simpa using hk
        subst hk'
        cases h
        simp only[SVRs]at ha hb
        obtain⟨va,_,rfl,h1,rfl⟩:=ha
        obtain⟨vb,_,rfl,h2,rfl⟩:=hb
        obtain⟨f1,b1,d1,rfl⟩:=svr_int h1
        obtain⟨f2,b2,d2,rfl⟩:=svr_int h2
        refine⟨fun e he=>?_,fun e he=>?_,fun _ va vb h3 h4 D hD=>?_,fun hc=>?_⟩
        · simp at he;subst he;exact Ex.fits_mk2 f1 f2
        · simp at he;subst he;rw[Ex.den_mk2];exact⟨_,rfl⟩
        · cases h3;cases h4
          obtain⟨D',rfl⟩:∃m,D=m+1:=⟨D - 1,by omega⟩
          simp[Op.equalIn,run_underlying hu,Ex.den_mk2,BO.on,d1,d2,PV.b,PV.i,compare]
        · rw[hag]at hc;cases hc
      · cases h
    · cases h
  · rename_i hu
    have hag:aggOf P t=some false:=by unfold aggOf;rw[hu]
    split at h
    · rename_i x y
      cases h
      simp only[SVRs]at ha hb
      obtain⟨va,_,rfl,h1,rfl⟩:=ha
      obtain⟨vb,_,rfl,h2,rfl⟩:=hb
      obtain⟨f1,b1,d1,rfl⟩:=svr_str h1
      obtain⟨f2,b2,d2,rfl⟩:=svr_str h2
      refine⟨fun e he=>?_,fun e he=>?_,fun _ va vb h3 h4 D hD=>?_,fun hc=>?_⟩
      · simp at he;subst he;exact Ex.fits_mk2 f1 f2
      · simp at he;subst he;rw[Ex.den_mk2];exact⟨_,rfl⟩
      · cases h3;cases h4
        obtain⟨D',rfl⟩:∃m,D=m+1:=⟨D - 1,by omega⟩
        have hbe:(b1 == b2)=(b1.toList == b2.toList):=beq_toListBytes b1 b2
        simp only[Op.equalIn,Sem.run_bind,run_underlying hu,Result.andThen_ok,Sem.run_pure,hbe,List.all_cons,List.all_nil,Ex.den_mk2,BO.on,d1,d2,PV.b,PV.s,Bool.and_true]
      · rw[hag]at hc;cases hc
    · cases h
  · rename_i fs hu
    have hag:aggOf P t=some true:=by unfold aggOf;rw[hu]
    split at h
    · cases h
    · rename_i hst
      have hst':P.stoodInHeld t=false:=by simpa using hst
      simp only[Option.map_eq_some_iff]at h
      obtain⟨ess,hm,rfl⟩:=h
      have key : ∀ (l : List Field) (ess : List (List Ex)), mapO (fun f => if f.name == "_" then none else (szOf P f.type).bind fun s => eqT P d f.type ((sa.drop f.offset).take s) ((sb.drop f.offset).take s)) l = some ess →
          (∀e∈ess.flatten,e.fits ρ.length=true)∧(∀e∈ess.flatten,∃b,e.den ρ= .bool b)∧
          ∀D,d≤D→(Op.eqFields D la.toArray lb.toArray l).run P w= .ok (ess.flatten.all fun e=>(e.den ρ).b) w:=by
       intro l
       induction l with
       | nil=>intro ess hm;simp only[mapO,Option.some.injEq]at hm;subst hm;simp[Op.eqFields]
       | cons f r ih=>
        intro ess hm
        simp only[mapO]at hm
        split at hm
        · rename_i es0 es' h0 h1
          cases hm
          split at h0
          · cases h0
          · rename_i hname
            rw[Option.bind_eq_some_iff]at h0
            obtain⟨s,hs,h0⟩:=h0
            obtain⟨i1,i2,i3⟩:=ih es' h1
            obtain⟨va,hva,la',hla,hca⟩:=eqT_part (xs:=la.toArray) hs (by simpa using ha) h0
            have h0':∃v,(part f.type lb.toArray f.offset).run P w= .ok v w∧(∃l,SVRs w X φ ρ nx ((sb.drop f.offset).take s) l∧((aggOf P f.type=some true∧v= .agg l.toArray)∨(aggOf P f.type=some false∧l=[v]))):=by
             have hsub:SVRs w X φ ρ nx ((sb.drop f.offset).take s) ((lb.drop f.offset).take s):=(hb.drop f.offset).take s
             rcases hca with⟨hag',_⟩ | ⟨hag',hl1⟩
             · refine⟨.agg (lb.toArray.extract f.offset (f.offset+s)),by simp[part,run_agg hag',run_size hs],_,hsub,.inl ⟨hag',?_⟩⟩
               congr 1
               apply Array.ext'
               simp[List.extract_eq_take_drop]
             · obtain⟨z,hz⟩:∃z,(sb.drop f.offset).take s=[z]:=by
                cases d with
                | zero=>simp[eqT]at h0
                | succ d=>
                 simp only[eqT]at h0
                 unfold aggOf at hag'
                 split at h0
                 · split at h0
                   · rename_i hz;exact⟨_,hz⟩
                   · cases h0
                 · split at h0
                   · rename_i hz;exact⟨_,hz⟩
                   · cases h0
                 · split at h0
                   · rename_i hz;exact⟨_,hz⟩
                   · cases h0
                 · rename_i hu';rw[hu']at hag';cases hag'
                 · rename_i hu';rw[hu']at hag';cases hag'
                 · cases h0
               rw[hz]at hsub ⊢
               simp only[SVRs]at hsub
               obtain⟨v,vs',hl,h1',rfl⟩:=hsub
               have hv:lb[f.offset]? =some v:=by
                have h0:((lb.drop f.offset).take s)[0]? =some v:=by rw[hl];rfl
                rw[List.getElem?_take]at h0
                split at h0
                · rw[List.getElem?_drop]at h0;simpa using h0
                · cases h0
               exact⟨v,by simp[part,run_agg hag',hv],[v],by simp only[SVRs];exact⟨v,[],rfl,h1',rfl⟩,.inr ⟨hag',rfl⟩⟩
            obtain⟨vb,hvb,lb',hlb,hcb⟩:=h0'
            obtain⟨e1,e2,e3,e4⟩:=eqT_sound d f.type _ _ es0 h0 la' lb' hla hlb
            refine⟨fun e he=>?_,fun e he=>?_,fun D hD=>?_⟩
            · simp only[List.flatten_cons,List.mem_append]at he
              rcases he with he | he
              · exact e1 e he
              · exact i1 e he
            · simp only[List.flatten_cons,List.mem_append]at he
              rcases he with he | he
              · exact e2 e he
              · exact i2 e he
            · have hne : f.name ≠ "_" := by simpa using hname
              have heq:(Op.equalIn D f.type va vb).run P w= .ok (es0.all fun e=>(e.den ρ).b) w:=by
               rcases hca with⟨hag1,rfl⟩ | ⟨hag1,rfl⟩
               · rcases hcb with⟨_,rfl⟩ | ⟨hag2,_⟩
                 · exact e4 hag1 D hD
                 · rw[hag1]at hag2;cases hag2
               · rcases hcb with⟨hag2,_⟩ | ⟨_,rfl⟩
                 · rw[hag1]at hag2;cases hag2
                 · exact e3 hag1 _ _ rfl rfl D hD
              simp only[Op.eqFields,hne,ne_eq,not_false_eq_true,if_true,Sem.run_bind,hva,hvb,Result.andThen_ok,heq,List.flatten_cons,List.all_append]
              cases hes:(es0.all fun e=>(e.den ρ).b)with
              | true=>simp[i3 D hD]
              | false=>simp
        · cases hm
      obtain⟨k1,k2,k3⟩:=key _ ess hm
      refine⟨k1,k2,(fun hc=>by rw[hag]at hc;cases hc),fun _ D hD=>?_⟩
      obtain⟨D',rfl⟩:∃m,D=m+1:=⟨D - 1,by omega⟩
      have hfs:P.fieldsOf t=fs:=by simp[Program.fieldsOf,hu]
      rw[run_equalIn_struct (P:=P) w D' t _ _ (by rw[hfs];exact hu) hst',hfs]
      exact k3 D' (by omega)
  · rename_i n e hu
    have hag:aggOf P t=some true:=by unfold aggOf;rw[hu]
    split at h
    · cases h
    · rw[Option.bind_eq_some_iff]at h
      obtain⟨s,hs,h⟩:=h
      obtain⟨k1,k2,k3⟩:=eqT_array (fun t sa sb es h la lb ha hb=>eqT_sound d t sa sb es h la lb ha hb) hu hs h ha hb
      exact⟨k1,k2,(fun hc=>by rw[hag]at hc;cases hc),fun _=>k3⟩
  · cases h
end
end Go.Proofs.YtckjdlmfibjpaaaGreat.Sx
set_option linter.unusedVariables false
namespace Go.Proofs.YtckjdlmfibjpaaaGreat.Sx
open Go.RowKit
section
variable {P:Program} {X:Env} {W0:World} {φ:Names} {ρ:List PV} {σ:St} {a:Act} {fs:List Act} {w:World} {nx:Nat}
theorem eqGuardType_of:∀ (d:Nat) (t:TypeId) (sa sb:List SV) (es:List Ex),eqT P d t sa sb=some es→∀D,d≤D→P.eqGuardType D t=false
 | 0,t,sa,sb,es,h,_,_=>by simp[eqT]at h
 | d+1,t,sa,sb,es,h,D,hD=>by
  obtain⟨D',rfl⟩:∃m,D=m+1:=⟨D - 1,by omega⟩
  simp only[eqT]at h
  unfold Program.eqGuardType
  split at h
  · rename_i hu;simp[hu]
  · rename_i hu;simp[hu]
  · rename_i hu;simp[hu]
  · rename_i fs hu
    split at h
    · cases h
    · simp only[Option.map_eq_some_iff]at h
      obtain⟨ess,hm,rfl⟩:=h
      simp only[hu]
      rw[Array.any_eq_false]
      intro i hi
      obtain⟨es0,h0⟩:=mapO_some hm fs[i] (by simp)
      split at h0
      · cases h0
      · rw[Option.bind_eq_some_iff]at h0
        obtain⟨s,_,h0⟩:=h0
        simp[eqGuardType_of d _ _ _ _ h0 D' (by omega)]
  · rename_i n e hu
    split at h
    · cases h
    · rename_i hn
      rw[Option.bind_eq_some_iff]at h
      obtain⟨s,_,h⟩:=h
      rw[Option.map_eq_some_iff]at h
      obtain⟨ess,hm,rfl⟩:=h
      simp only[hu]
      obtain⟨es0,h0⟩:=mapO_some hm 0 (by simp only[beq_iff_eq]at hn;simp[List.mem_range'];omega)
      exact eqGuardType_of d _ _ _ _ h0 D' (by omega)
  · cases h
theorem binary_sound {op:BinOp} {t:TypeId} {ox oy:Operand} {sx sy sv:SV} {gs:List Ex} {vx vy:Value} (hb:binary P op t sx sy=some (gs,sv)) (hx:SVR w X φ ρ nx sx vx) (hy:SVR w X φ ρ nx sy vy) :
    (∀g∈gs,g.fits ρ.length=true)∧((∀g∈gs,(g.den ρ).b=true)→∃v,(do eqGuard op t ox oy vx vy;binOp op t vx vy:Sem Value).run P w= .ok v w∧SVR w X φ ρ nx sv v):=by
 have plain:∀ {v:Value},(∀c,vx≠ .agg c)→vx≠ .nilIface→(binOp op t vx vy).run P w= .ok v w→(do eqGuard op t ox oy vx vy;binOp op t vx vy:Sem Value).run P w= .ok v w:=by
  intro v h1 h2 h3
  rw[Sem.run_bind,eqGuard_plain op t ox oy h1 h2,Result.andThen_ok,h3]
 unfold binary at hb
 split at hb
 · -- shl
   cases hb
   obtain⟨f1,x,d1,rfl⟩:=svr_int hx
   obtain⟨f2,y,d2,rfl⟩:=svr_int hy
   refine⟨fun g hg=>?_,fun hg=>?_⟩
   · simp only[List.mem_singleton]at hg;subst hg;exact Ex.fits_mk2 rfl f2
   · have h0:=hg _ (List.mem_singleton.2 rfl)
     rw[Ex.den_mk2,d2]at h0
     have h0':(0:Int)≤y:=of_decide_eq_true h0
     refine⟨_,plain (by intro c;simp) (by simp) (int_shift (.inl rfl) x y h0'),int_svr (Ex.fits_mk2 f1 f2) ?_⟩
     rw[Ex.den_mk2,d1,d2];rfl
 · -- shr
   cases hb
   obtain⟨f1,x,d1,rfl⟩:=svr_int hx
   obtain⟨f2,y,d2,rfl⟩:=svr_int hy
   refine⟨fun g hg=>?_,fun hg=>?_⟩
   · simp only[List.mem_singleton]at hg;subst hg;exact Ex.fits_mk2 rfl f2
   · have h0:=hg _ (List.mem_singleton.2 rfl)
     rw[Ex.den_mk2,d2]at h0
     have h0':(0:Int)≤y:=of_decide_eq_true h0
     refine⟨_,plain (by intro c;simp) (by simp) (int_shift (.inr rfl) x y h0'),int_svr (Ex.fits_mk2 f1 f2) ?_⟩
     rw[Ex.den_mk2,d1,d2];rfl
 · -- numbers
   split at hb
   · rename_i hk
     have hk':=eq_of_beq hk
     subst hk'
     obtain⟨f1,x,d1,rfl⟩:=svr_int hx
     obtain⟨f2,y,d2,rfl⟩:=svr_int hy
     split at hb
     all_goals first
      | (cases hb
         refine⟨List.forall_mem_nil _,fun _=>⟨_,plain (by intro c;simp) (by simp) (int_arith (by simp) x y),int_svr (Ex.fits_mk2 f1 f2) ?_⟩⟩
         rw[Ex.den_mk2,d1,d2];rfl)
      | (cases hb
         refine⟨List.forall_mem_nil _,fun _=>⟨_,plain (by intro c;simp) (by simp) (int_cmp (by simp) x y),bool_svr (Ex.fits_mk2 f1 f2) ?_⟩⟩
         rw[Ex.den_mk2,d1,d2];rfl)
      | (cases hb
         refine⟨fun g hg=>?_,fun hg=>?_⟩
         · simp only[List.mem_singleton]at hg;subst hg;exact Ex.fits_mk2 f2 rfl
         · have h0:=hg _ (List.mem_singleton.2 rfl)
           rw[Ex.den_mk2,d2]at h0
           have h0':y≠0:=by simpa [BO.on,compare,PV.b,PV.i,Ex.den]using h0
           refine⟨_,plain (by intro c;simp) (by simp) (int_div (by simp) x y h0'),int_svr (Ex.fits_mk2 f1 f2) ?_⟩
           rw[Ex.den_mk2,d1,d2];rfl)
      | (cases hb)
   · cases hb
 · cases hb
   obtain⟨f1,x,d1,rfl⟩:=svr_str hx
   obtain⟨f2,y,d2,rfl⟩:=svr_str hy
   refine⟨List.forall_mem_nil _,fun _=>⟨_,plain (by intro c;simp) (by simp) (str_eq (.inl rfl) x y),bool_svr (Ex.fits_mk2 f1 f2) ?_⟩⟩
   rw[Ex.den_mk2,d1,d2];rfl
 · cases hb
   obtain⟨f1,x,d1,rfl⟩:=svr_str hx
   obtain⟨f2,y,d2,rfl⟩:=svr_str hy
   refine⟨List.forall_mem_nil _,fun _=>⟨_,plain (by intro c;simp) (by simp) (str_eq (.inr rfl) x y),bool_svr (Ex.fits_mk1 (Ex.fits_mk2 f1 f2)) ?_⟩⟩
   rw[bnot,Ex.den_mk1,Ex.den_mk2,d1,d2];rfl
 · split at hb
   · rename_i hu'
     rw[if_pos rfl]at hb
     cases hb
     obtain⟨f1,x,d1,rfl⟩:=svr_bool hx
     obtain⟨f2,y,d2,rfl⟩:=svr_bool hy
     refine⟨List.forall_mem_nil _,fun _=>⟨_,plain (by intro c;simp) (by simp) (bool_eq (.inl rfl) hu' x y),bool_svr (Ex.fits_mk2 f1 f2) ?_⟩⟩
     rw[Ex.den_mk2,d1,d2];rfl
   · simp at hb
 · split at hb
   · rename_i hu'
     rw[if_pos rfl]at hb
     cases hb
     obtain⟨f1,x,d1,rfl⟩:=svr_bool hx
     obtain⟨f2,y,d2,rfl⟩:=svr_bool hy
     refine⟨List.forall_mem_nil _,fun _=>⟨_,plain (by intro c;simp) (by simp) (bool_eq (.inr rfl) hu' x y),bool_svr (Ex.fits_mk1 (Ex.fits_mk2 f1 f2)) ?_⟩⟩
     rw[bnot,Ex.den_mk1,Ex.den_mk2,d1,d2];rfl
   · cases hb
 · split at hb
   · cases hb
   · rename_i hd
     simp only[Bool.or_eq_true,decide_eq_true_eq,not_or,bne_iff_ne,ne_eq,Decidable.not_not]at hd
     simp only[Option.map_eq_some_iff]at hb
     obtain⟨es,he,hb⟩:=hb
     cases hb
     simp only[SVR]at hx hy
     obtain⟨cx,rfl,h1⟩:=hx
     obtain⟨cy,rfl,h2⟩:=hy
     obtain⟨e1,e2,e3,e4⟩:=eqT_sound depthT t _ _ es he _ _ h1 h2
     have hg:=eqGuardType_of depthT t _ _ es he P.depth (by omega)
     refine⟨List.forall_mem_nil _,fun _=>⟨_,?_,bool_svr (andAll_fits es e1) (andAll_den es e2)⟩⟩
     have:=e4 hd.2 Op.maxDepth (by decide)
     simp only[Array.toArray_toList]at this
     simp[eqGuard,hg,binOp,Op.equal,this]
 · split at hb
   · cases hb
   · rename_i hd
     simp only[Bool.or_eq_true,decide_eq_true_eq,not_or,bne_iff_ne,ne_eq,Decidable.not_not]at hd
     simp only[Option.map_eq_some_iff]at hb
     obtain⟨es,he,hb⟩:=hb
     cases hb
     simp only[SVR]at hx hy
     obtain⟨cx,rfl,h1⟩:=hx
     obtain⟨cy,rfl,h2⟩:=hy
     obtain⟨e1,e2,e3,e4⟩:=eqT_sound depthT t _ _ es he _ _ h1 h2
     have hg:=eqGuardType_of depthT t _ _ es he P.depth (by omega)
     refine⟨List.forall_mem_nil _,fun _=>⟨.bool (!(es.all fun e=>(e.den ρ).b)),?_,bool_svr (Ex.fits_mk1 (andAll_fits es e1)) ?_⟩⟩
     · have:=e4 hd.2 Op.maxDepth (by decide)
       simp only[Array.toArray_toList]at this
       simp[eqGuard,hg,binOp,Op.equal,this]
     · rw[bnot,Ex.den_mk1,andAll_den es e2];rfl
 · cases hb
end
end Go.Proofs.YtckjdlmfibjpaaaGreat.Sx
set_option linter.unusedVariables false
namespace Go.Proofs.YtckjdlmfibjpaaaGreat.Sx
open Go.RowKit
section
variable {P:Program} {X:Env} {W0:World} {φ:Names} {ρ:List PV} {σ:St} {a:Act} {fs:List Act} {w:World} {nx:Nat}
theorem Rel.ev_fits (h:Rel X W0 φ ρ σ (a::fs) w) (x:Operand) (l:List (Ex×Bool)):(({ σ with known:=l }:St).ev x).fits ρ.length σ.nx=true:=by
 cases x with
 | tmp t=>
  simp only[St.ev]
  refine strip_fits _ ?_
  have:({ σ with known:=l }:St).tmp t=σ.tmp t:=rfl
  rw[this]
  unfold St.tmp
  have hf:=h.frames
  split
  · rename_i f r he
    rw[he]at hf
    simp only[FrsR]at hf
    obtain⟨a0,as',ha,hfr,_⟩:=hf
    cases hl:look f t with
    | none=>simp[SV.fits]
    | some s=>simpa using SVR.fits _ _ (hfr t s hl)
  · simp[SV.fits]
 | const v=>exact SVR.fits (W:=w) (X:=X) (φ:=φ) _ _ (ofValue_sound v)
 | func f=>simp[St.ev,SV.fits,fitsAll]
 | global g=>simp[St.ev,SV.fits]
theorem inRange_sound {i n:Ex} (h:∀g∈inRange i n,(g.den ρ).b=true):0≤(i.den ρ).i∧(i.den ρ).i < (n.den ρ).i:=by
 have h1:=h _ (List.mem_cons_self ..)
 have h2:=h _ (List.mem_cons_of_mem _ (List.mem_singleton.2 rfl))
 rw[Ex.den_mk2]at h1 h2
 exact⟨of_decide_eq_true h1,of_decide_eq_true h2⟩
theorem inRange_fits {i n:Ex} {m:Nat} (hi:i.fits m=true) (hn:n.fits m=true):∀g∈inRange i n,g.fits m=true:=by
 intro g hg
 simp only[inRange,List.mem_cons,List.not_mem_nil,or_false]at hg
 rcases hg with rfl | rfl
 · exact Ex.fits_mk2 rfl hi
 · exact Ex.fits_mk2 hi hn
theorem den_len {e:Ex} {xs:List (List PV)} (h:e.den ρ= .row xs):(Ex.mk1 .len e).den ρ= .int .i64 xs.length:=by
 rw[Ex.den_mk1,h];rfl
theorem run_indexAt {t el:TypeId} {ad:Addr} {len cap s:Nat} {k:IntKind} {i:Int} (hu:P.underlying t=some (.slice el)) (hs:szOf P el=some s) (h0:0≤i) (h1:i < len) :
    (Instr.indexAt t (.slice (some ad) len cap) (.int k i)).run P w= .ok (.pointer (some (ad.add (i.toNat*s)))) w:=by
 simp[Instr.indexAt,asIntOf,run_underlying hu,run_size hs,h0,h1]
theorem add_none {b off n:Nat}:(⟨b,off,none⟩:Addr).add n=⟨b,off+n,none⟩:=by unfold Addr.add;split <;> simp_all
theorem row_at {ks:List LK} {e:Ex} {v:Value} (h:SVR w X φ ρ nx (.ex (.row ks) e) v):e.fits ρ.length=true∧∃xs a cap,e.den ρ= .row xs∧v= .slice a xs.length cap∧xs.length≤cap∧
    (xs≠ []→∃ad,a=some ad∧RowAt w (Owned X φ) ks xs ad):=by
 simp only[SVR,RV]at h
 obtain⟨hf,xs,ao,cap,hx,hv,hc,hne⟩:=h
 exact⟨hf,xs,ao,cap,hx,hv,hc,fun hn=>by obtain⟨ad,h1,h2,h3,h4,h5⟩:=hne hn;exact⟨ad,h1,h2,h3,h4,h5⟩⟩
theorem indexAddr_sound (h:Rel X W0 φ ρ σ (a::fs) w) {t:TypeId} {x i:Operand} {gs:List Ex} {sv:SV} {σ':St} (hs:simple P σ (.indexAddr t x i)=some (gs,sv,σ')) :
    σ'=σ∧(∀g∈gs,g.fits ρ.length=true)∧((∀g∈gs,(g.den ρ).b=true)→∃v,(Instr.indexAt t (a.eval x) (a.eval i)).run P w= .ok v w∧SVR w X φ ρ σ.nx sv v):=by
 have hx:=h.ev x
 have hi:=h.ev i
 simp only[simple]at hs
 split at hs
 · rename_i el k ie hu hie
   rw[hie]at hi
   obtain⟨fi,n,di,hvi⟩:=svr_int hi
   have hii:(ie.den ρ).i=n:=by rw[di];rfl
   split at hs
   · rename_i ks e hxe
     rw[hxe]at hx
     split at hs
     · rename_i hsz
       cases hs
       obtain⟨fe,xs,ao,cap,dx,hv,hc,hne⟩:=row_at hx
       refine⟨rfl,inRange_fits fi (Ex.fits_mk1 fe),fun hg=>?_⟩
       obtain⟨h0,h1⟩:=inRange_sound hg
       rw[den_len dx,hii]at h1
       rw[hii]at h0
       have h1':n < xs.length:=h1
       obtain⟨ad,rfl,hrow⟩:=hne (by intro hz;rw[hz]at h1';simp at h1';omega)
       have hsz':=eq_of_beq hsz
       rw[hv,hvi]
       obtain⟨b,off,sp⟩:=ad
       have hsp:sp=none:=hrow.1
       subst hsp
       refine⟨_,run_indexAt hu hsz' h0 h1',?_⟩
       rw[add_none]
       simp only[SVR]
       refine⟨fe,fi,xs,_,dx,hrow,by rw[hii];exact h0,by rw[hii];omega,?_⟩
       rw[hii];rfl
     · cases hs
   · rename_i l p hxe
     rw[hxe]at hx
     split at hs
     · rename_i ks e hl
       split at hs
       · rename_i hsz
         have hsz':=eq_of_beq hsz
         obtain⟨kk,hφ,ho⟩:=h.heap l _ hl
         have ho':=ho
         simp only[ObR]at ho
         obtain⟨fe,hks,xs,dx,hlen,hm⟩:=ho
         split at hs
         · cases hs
           simp only[SVR]at hx
           have hat:=hx.2.2 kk hφ
           refine⟨rfl,inRange_fits fi (Ex.fits_mk1 fe),fun hg=>?_⟩
           obtain⟨h0,h1⟩:=inRange_sound hg
           rw[den_len dx,hii]at h1
           rw[hii]at h0
           have h1':n < kk.len:=by have:n < xs.length:=h1;omega
           unfold OwnAt at hat
           cases hgg:kk.g with
           | none=>rw[hgg]at hat;simp only at hat;omega
           | some g=>
            rw[hgg]at hat
            simp only at hat
            obtain⟨cap,c,hv,_⟩:=hat
            rw[hv,hvi]
            refine⟨_,run_indexAt hu hsz' h0 h1',?_⟩
            rw[add_none]
            simp only[SVR]
            refine⟨fi,hx.1,⟨_,rfl⟩,fun k' hk'=>?_⟩
            rw[hφ]at hk'
            cases hk'
            refine⟨g,hgg,by rw[hii];exact h0,by rw[hii];omega,?_⟩
            rw[hii,hks,Nat.zero_add,Nat.add_zero]
         · rename_i lo nn
           cases hs
           simp only[SVR]at hx
           obtain⟨flo,fn,hlt,_,hat⟩:=hx
           obtain⟨l0,l1,hle,⟨m,hmm⟩,ad,cap,hv,hcap,had⟩:=hat kk hφ
           refine⟨rfl,inRange_fits fi fn,fun hg=>?_⟩
           obtain⟨h0,h1⟩:=inRange_sound hg
           rw[hii]at h0 h1
           have hpos:0 < (nn.den ρ).i.toNat:=by omega
           obtain⟨g,hgg,rfl⟩:=had hpos
           rw[hv,hvi]
           refine⟨_,run_indexAt hu hsz' h0 (by omega),?_⟩
           rw[add_none]
           simp only[SVR]
           refine⟨Ex.fits_mk2 flo fi,hlt,⟨_,rfl⟩,fun k' hk'=>?_⟩
           rw[hφ]at hk'
           cases hk'
           have hd:((Ex.mk2 .plus lo ie).den ρ).i=(lo.den ρ).i+n:=by rw[Ex.den_mk2,di];rfl
           have htn:((lo.den ρ).i+n).toNat=(lo.den ρ).i.toNat+n.toNat:=by omega
           refine⟨g,hgg,by rw[hd];omega,by rw[hd,htn];omega,?_⟩
           rw[hd,htn,hks,Nat.add_zero,Nat.add_mul]
       · cases hs
     · cases hs
   · cases hs
 · rename_i n el k k' j hu hie
   rw[hie]at hi
   obtain⟨fi,m,di,hvi⟩:=svr_int hi
   simp only[Ex.den,PV.int.injEq]at di
   obtain⟨rfl,rfl⟩:=di
   split at hs
   · rename_i s l ie o hsz hxe
     rw[hxe]at hx
     split at hs
     · rename_i hj
       simp only[Bool.and_eq_true,decide_eq_true_eq]at hj
       obtain⟨hj,hsome⟩:=hj
       cases hs
       refine⟨rfl,List.forall_mem_nil _,fun _=>?_⟩
       simp only[SVR]at hx
       obtain⟨f1,hl,_,hk⟩:=hx
       obtain⟨ob,hob⟩:=Option.isSome_iff_exists.1 hsome
       obtain⟨kk,hφ,_⟩:=h.heap l ob hob
       · obtain⟨g,hg,h0,hlt,hv⟩:=hk kk hφ
         rw[hv,hvi]
         refine⟨.pointer (some ((⟨g,(ie.den ρ).i.toNat*kk.s+o,none⟩:Addr).add (j.toNat*s))),?_,?_⟩
         · simp[Instr.indexAt,asIntOf,run_underlying hu,run_size hsz,hj.1,hj.2,Instr.sureAddr]
         · rw[add_none]
           simp only[SVR]
           refine⟨f1,hl,⟨_,rfl⟩,fun k' hk'=>?_⟩
           rw[hφ]at hk'
           cases hk'
           exact⟨g,hg,h0,hlt,by rw[Nat.add_assoc]⟩
     · cases hs
   · cases hs
 · cases hs
theorem fieldAddr_sound (h:Rel X W0 φ ρ σ (a::fs) w) {t:TypeId} {x:Operand} {f:Nat} {gs:List Ex} {sv:SV} {σ':St} (hs:simple P σ (.fieldAddr t x f)=some (gs,sv,σ')) :
    σ'=σ∧gs=[]∧∃v,(Instr.fieldAt t (a.eval x) f).run P w= .ok v w∧SVR w X φ ρ σ.nx sv v:=by
 have hx:=h.ev x
 simp only[simple]at hs
 split at hs
 · rename_i fds hu
   split at hs
   · rename_i fd hf
     split at hs
     · rename_i s l i o hsz hxe
       rw[hxe]at hx
       split at hs
       · rename_i hsome
         cases hs
         refine⟨rfl,rfl,?_⟩
         obtain⟨ob,hob⟩:=Option.isSome_iff_exists.1 hsome
         obtain⟨kk,hφ,_⟩:=h.heap l ob hob
         simp only[SVR]at hx
         obtain⟨f1,hl,_,hk⟩:=hx
         obtain⟨g,hg,h0,hlt,hv⟩:=hk kk hφ
         rw[hv]
         refine⟨.pointer (some ((⟨g,(i.den ρ).i.toNat*kk.s+o,none⟩:Addr).add fd.offset)),?_,?_⟩
         · simp[Instr.fieldAt,run_underlying hu,hf,Instr.sureAddr,fieldPlace,run_size hsz]
         · rw[add_none]
           simp only[SVR]
           refine⟨f1,hl,⟨_,rfl⟩,fun k' hk'=>?_⟩
           rw[hφ]at hk'
           cases hk'
           exact⟨g,hg,h0,hlt,by rw[Nat.add_assoc]⟩
       · cases hs
     · rename_i s ks e i o hsz hxe
       rw[hxe]at hx
       cases hs
       refine⟨rfl,rfl,?_⟩
       simp only[SVR]at hx
       obtain⟨f1,f2,xs,ad,h1,h2,h3,h4,hv⟩:=hx
       rw[hv]
       refine⟨.pointer (some ((⟨ad.block,ad.off+(i.den ρ).i.toNat*ks.length+o,none⟩:Addr).add fd.offset)),?_,?_⟩
       · simp[Instr.fieldAt,run_underlying hu,hf,Instr.sureAddr,fieldPlace,run_size hsz]
       · rw[add_none]
         simp only[SVR]
         exact⟨f1,f2,xs,ad,h1,h2,h3,h4,by rw[Nat.add_assoc]⟩
     · rename_i s cs o hsz hxe
       rw[hxe]at hx
       cases hs
       refine⟨rfl,rfl,?_⟩
       simp only[SVR]at hx
       obtain⟨g,vs,hv,h1,h2,h3,h4⟩:=hx
       rw[hv]
       refine⟨.pointer (some ((⟨g,o,none⟩:Addr).add fd.offset)),?_,?_⟩
       · simp[Instr.fieldAt,run_underlying hu,hf,Instr.sureAddr,fieldPlace,run_size hsz]
       · rw[add_none]
         simp only[SVR]
         exact⟨g,vs,rfl,h1,h2,h3,h4⟩
     · cases hs
   · cases hs
 · cases hs
theorem solid_cell0 {s:SV} {v:Value} (hn:∀c x y,s≠ .alt c x y) (hs:SVR w X φ ρ nx s v) (hc:solid s=true):v.cells= #[v]∧v.oneCell'=true:=by
 cases s with
 | alt c x y=>exact absurd rfl (hn c x y)
 | nilF=>simp only[SVR]at hs;subst hs;exact⟨rfl,rfl⟩
 | bfn f caps=>simp only[SVR]at hs;obtain⟨_,rfl,_⟩:=hs;exact⟨rfl,rfl⟩
 | ex k e=>
  cases k <;> simp only[SVR,RV]at hs
  · obtain⟨_,_,_,rfl⟩:=hs;exact⟨rfl,rfl⟩
  · obtain⟨_,_,_,rfl⟩:=hs;exact⟨rfl,rfl⟩
  · obtain⟨_,_,_,rfl⟩:=hs;exact⟨rfl,rfl⟩
  · obtain⟨_,hs⟩:=hs
    refine⟨?_,hs⟩
    cases v <;> first | rfl | cases hs
  · obtain⟨_,_,_,_,_,rfl,_⟩:=hs;exact⟨rfl,rfl⟩
 | nilS=>simp only[SVR]at hs;subst hs;exact⟨rfl,rfl⟩
 | nilP=>simp only[SVR]at hs;subst hs;exact⟨rfl,rfl⟩
 | ptr l i o=>simp only[SVR]at hs;obtain⟨_,_,⟨_,rfl⟩,_⟩:=hs;exact⟨rfl,rfl⟩
 | rptr ks e i o=>simp only[SVR]at hs;obtain⟨_,_,_,_,_,_,_,_,rfl⟩:=hs;exact⟨rfl,rfl⟩
 | fbox cs o=>simp only[SVR]at hs;obtain⟨_,_,rfl,_⟩:=hs;exact⟨rfl,rfl⟩
 | own l p=>
  cases p with
  | none=>simp only[SVR]at hs;obtain⟨_,⟨_,_,_,rfl⟩,_⟩:=hs;exact⟨rfl,rfl⟩
  | some q=>obtain⟨lo,n⟩:=q;simp only[SVR]at hs;obtain⟨_,_,_,⟨_,_,_,rfl⟩,_⟩:=hs;exact⟨rfl,rfl⟩
 | fn f caps=>simp only[SVR]at hs;obtain⟨_,rfl,_⟩:=hs;exact⟨rfl,rfl⟩
 | mp l=>simp only[SVR]at hs;obtain⟨_,⟨_,rfl⟩,_⟩:=hs;exact⟨rfl,rfl⟩
 | _=>simp[solid]at hc
theorem solid_cellA:∀ (s:SV) (v:Value),SVR w X φ ρ nx s v→solid s=true→v.cells= #[v]∧v.oneCell'=true
 | .alt c x y,v,hs,hc=>by
  simp only[SVR]at hs
  simp only[solid,Bool.and_eq_true]at hc
  cases hb:(c.den ρ).b with
  | true=>exact solid_cellA x v (hs.2.2.2.1 hb) hc.1
  | false=>exact solid_cellA y v (hs.2.2.2.2 hb) hc.2
 | .undef,v,hs,hc=>solid_cell0 (by intros;simp) hs hc
 | .skip,v,hs,hc=>solid_cell0 (by intros;simp) hs hc
 | .ex _ _,v,hs,hc=>solid_cell0 (by intros;simp) hs hc
 | .gd _ _,v,hs,hc=>solid_cell0 (by intros;simp) hs hc
 | .nilS,v,hs,hc=>solid_cell0 (by intros;simp) hs hc
 | .nilP,v,hs,hc=>solid_cell0 (by intros;simp) hs hc
 | .nilF,v,hs,hc=>solid_cell0 (by intros;simp) hs hc
 | .agg _,v,hs,hc=>solid_cell0 (by intros;simp) hs hc
 | .tup _,v,hs,hc=>solid_cell0 (by intros;simp) hs hc
 | .ptr _ _ _,v,hs,hc=>solid_cell0 (by intros;simp) hs hc
 | .rptr _ _ _ _,v,hs,hc=>solid_cell0 (by intros;simp) hs hc
 | .own _ _,v,hs,hc=>solid_cell0 (by intros;simp) hs hc
 | .fn _ _,v,hs,hc=>solid_cell0 (by intros;simp) hs hc
 | .yld _,v,hs,hc=>solid_cell0 (by intros;simp) hs hc
 | .mp _,v,hs,hc=>solid_cell0 (by intros;simp) hs hc
 | .bfn _ _,v,hs,hc=>solid_cell0 (by intros;simp) hs hc
 | .mrow _ _,v,hs,hc=>solid_cell0 (by intros;simp) hs hc
 | .fbox _ _,v,hs,hc=>solid_cell0 (by intros;simp) hs hc
 | .mptr _ _ _ _,v,hs,hc=>solid_cell0 (by intros;simp) hs hc
theorem solid_cell {s:SV} {v:Value} (hs:SVR w X φ ρ nx s v) (hc:solid s=true):v.cells= #[v]∧v.oneCell'=true:=solid_cellA s v hs hc
theorem cellsOfSV_sound {s:SV} {v:Value} {l:List SV} (hs:SVR w X φ ρ nx s v) (hc:cellsOfSV s=some l):SVRs w X φ ρ nx l v.cells.toList∧l.all solid=true:=by
 unfold cellsOfSV at hc
 split at hc
 · split at hc
   · rename_i hall
     cases hc
     simp only[SVR]at hs
     obtain⟨cs,rfl,hl⟩:=hs
     exact⟨hl,hall⟩
   · cases hc
 · split at hc
   · rename_i hsol
     cases hc
     rw[(solid_cell hs hsol).1]
     exact⟨by simp only[SVRs];exact⟨v,[],rfl,hs,rfl⟩,by simp[hsol]⟩
   · cases hc
theorem solid_cells:∀ {l:List SV} {vs:List Value},SVRs w X φ ρ nx l vs→l.all solid=true→∀v∈vs,v.oneCell'=true
 | [],vs,h,_,v,hv=>by simp only[SVRs]at h;subst h;cases hv
 | s::r,vs,h,hs,v,hv=>by
  simp only[SVRs]at h
  obtain⟨u,vs',rfl,h1,h2⟩:=h
  simp only[List.all_cons,Bool.and_eq_true]at hs
  rcases List.mem_cons.1 hv with rfl | hv
  · exact(solid_cell h1 hs.1).2
  · exact solid_cells h2 hs.2 v hv
end
end Go.Proofs.YtckjdlmfibjpaaaGreat.Sx
set_option linter.unusedVariables false
namespace Go.Proofs.YtckjdlmfibjpaaaGreat.Sx
open Go.RowKit
section
variable {P:Program} {X:Env} {W0:World} {φ:Names} {ρ:List PV} {σ:St} {a:Act} {fs:List Act} {w:World} {nx:Nat}
def Pure1 (P:Program) (w:World) (X:Env) (φ:Names) (ρ:List PV) (nx:Nat) (a:Act) (o:Oper) (gs:List Ex) (sv:SV):Prop:=
 (∀g∈gs,g.fits ρ.length=true)∧((∀g∈gs,(g.den ρ).b=true)→∃v,(execOp a.eval o).run P w= .ok (.value v) w∧SVR w X φ ρ nx sv v)
theorem pure1_of {o:Oper} {s:Sem Value} (he:execOp a.eval o=(do pure (Next.value (←s)))) {gs:List Ex} {sv:SV} (hf:∀g∈gs,g.fits ρ.length=true)
    (h:(∀g∈gs,(g.den ρ).b=true)→∃v,s.run P w= .ok v w∧SVR w X φ ρ nx sv v):Pure1 P w X φ ρ nx a o gs sv:=by
 refine⟨hf,fun hg=>?_⟩
 obtain⟨v,hr,hv⟩:=h hg
 refine⟨v,?_,hv⟩
 rw[he,Sem.run_bind,hr]
 rfl
theorem selCells_sound {c:Ex} {b:Bool} {x y sv:SV} {vx vy:Value} (hc:c.fits ρ.length=true) (hb:(c.den ρ).b=b) (fx:x.fits ρ.length nx=true) (fy:y.fits ρ.length nx=true)
    (hx:b=true→SVR w X φ ρ nx x vx) (hy:b=false→SVR w X φ ρ nx y vy) (hs:selCells c x y=some sv):SVR w X φ ρ nx sv (if b then vx else vy):=by
 unfold selCells at hs
 split at hs
 · rename_i k a k' a'
   split at hs
   · rename_i hk
     have:=LK.same_eq _ _ hk
     subst this
     simp only[SV.fits]at fx fy
     split at hs
     · cases hs
       refine(?_:SVR w X φ ρ nx (.ex .bool (.mk2 .and c a)) _)
       cases b with
       | true=>
        obtain⟨_,z,dz,rfl⟩:=svr_bool (hx rfl)
        refine bool_svr (Ex.fits_mk2 hc fx) ?_
        rw[Ex.den_mk2,dz]
        show PV.bool ((c.den ρ).b&& z)=_
        rw[hb,Bool.true_and]
       | false=>
        obtain⟨_,z,dz,rfl⟩:=svr_bool (hy rfl)
        simp only[Ex.den,PV.bool.injEq]at dz
        subst dz
        refine bool_svr (Ex.fits_mk2 hc fx) ?_
        rw[Ex.den_mk2]
        show PV.bool ((c.den ρ).b&& _)=_
        rw[hb,Bool.false_and]
     · cases hs
       cases b with
       | true=>
        obtain⟨_,z,dz,rfl⟩:=svr_bool (hx rfl)
        simp only[Ex.den,PV.bool.injEq]at dz
        subst dz
        refine bool_svr (Ex.fits_mk2 hc fy) ?_
        rw[Ex.den_mk2]
        show PV.bool ((c.den ρ).b|| _)=_
        rw[hb,Bool.true_or]
       | false=>
        obtain⟨_,z,dz,rfl⟩:=svr_bool (hy rfl)
        refine bool_svr (Ex.fits_mk2 hc fy) ?_
        rw[Ex.den_mk2,dz]
        show PV.bool ((c.den ρ).b|| z)=_
        rw[hb,Bool.false_or]
     · cases hs
       cases b with
       | true=>
        have:=hx rfl
        simp only[SVR]at this ⊢
        refine⟨by simp[Ex.fits,hc,fx,fy],?_⟩
        simp only[Ex.den,TO.on,hb,if_true]
        exact this.2
       | false=>
        have:=hy rfl
        simp only[SVR]at this ⊢
        refine⟨by simp[Ex.fits,hc,fx,fy],?_⟩
        simp only[Ex.den,TO.on,hb,if_false,Bool.false_eq_true]
        exact this.2
   · cases hs
 · cases hs
theorem fold_set (off:Nat):∀ (l:List Value) (k:Nat) (vs:Array Value),off+k+l.length≤vs.size→
    ((l.zipIdx k).foldl (fun(cs:Array Value) (p:Value×Nat)=>cs.setIfInBounds (off+p.2) p.1) vs).toList=vs.toList.take (off+k)++l++vs.toList.drop (off+k+l.length)
 | [],k,vs,_=>by simp
 | v::r,k,vs,h=>by
  simp only[List.length_cons]at h
  rw[List.zipIdx_cons,List.foldl_cons,fold_set off r (k+1) _ (by simp;omega)]
  have h1:(vs.setIfInBounds (off+k) v).toList=vs.toList.set (off+k) v:=by simp
  rw[h1]
  have h2:off+k < vs.toList.length:=by simp;omega
  rw[←Nat.add_assoc,List.take_succ_eq_append_getElem (by simpa using h2),List.getElem_set_self,List.take_set_of_le (Nat.le_refl _),List.drop_set_of_lt (by omega)]
  simp only[List.append_assoc,List.cons_append,List.nil_append,List.length_cons]
  rw[show off+k+1+r.length=off+k+(r.length+1)by omega]
theorem fill_sound {place:Nat→Option (Nat×Nat)} {ev:Operand→SV} {rv:Operand→Value} (hev:∀x,SVR w X φ ρ nx (ev x) (rv x)) :
    ∀ (ps:List (Nat×Operand)) (cs cs':List SV) (vs:Array Value),SVRs w X φ ρ nx cs vs.toList→fillSV place ev ps cs=some cs'→
     ∃vs',Instr.fill place vs (ps.map fun p=>(p.1,rv p.2))=some vs'∧SVRs w X φ ρ nx cs' vs'.toList∧(cs.all solid=true→cs'.all solid=true)∧cs'.length=cs.length
 | [],cs,cs',vs,h,hf=>by simp only[fillSV,Option.some.injEq]at hf;subst hf;exact⟨vs,rfl,h,id,rfl⟩
 | (i, x) ::ps,cs,cs',vs,h,hf=>by
  simp only[fillSV]at hf
  split at hf
  · rename_i off s ws hp hcs
    split at hf
    · rename_i hc
      simp only[Bool.and_eq_true,beq_iff_eq,decide_eq_true_eq]at hc
      obtain⟨rfl,hle⟩:=hc
      obtain⟨h1,hs1⟩:=cellsOfSV_sound (hev x) hcs
      have hl1:=h1.length
      have hl:=h.length
      have hsz:(rv x).cells.size=ws.length:=by simpa using hl1
      have hv:vs.size=cs.length:=by simpa using hl
      have hfold:((rv x).cells.zipIdx.foldl (fun cs (c,j)=>cs.setIfInBounds (off+j) c) vs).toList=splice vs.toList off (rv x).cells.toList:=by
       rw[←Array.foldl_toList,Array.toList_zipIdx]
       have:=fold_set off (rv x).cells.toList 0 vs (by simp only[Nat.add_zero,Array.length_toList];omega)
       simp only[Nat.add_zero]at this
       exact this
      have hnew:SVRs w X φ ρ nx (splice cs off ws) ((rv x).cells.zipIdx.foldl (fun cs (c,j)=>cs.setIfInBounds (off+j) c) vs).toList:=by
       rw[hfold]
       unfold splice
       rw[hl1]
       exact((h.take off).append h1).append (h.drop _)
      have hsp:(splice cs off ws).length=cs.length:=by unfold splice;simp;omega
      obtain⟨vs',hf',hr,hsr,hlen⟩:=fill_sound hev ps _ cs' _ hnew hf
      refine⟨vs',?_,hr,fun hsol=>hsr ?_,by omega⟩
      · simp only[List.map_cons,Instr.fill,hp]
        rw[if_neg]
        · exact hf'
        · simp only[ne_eq,Bool.or_eq_true,decide_eq_true_eq,not_or,Decidable.not_not,hsz]
          exact⟨by simp,by omega⟩
      · unfold splice
        simp only[List.all_append,Bool.and_eq_true]
        refine⟨⟨?_,hs1⟩,?_⟩
        · rw[List.all_eq_true]at hsol ⊢;exact fun x hx=>hsol x (List.mem_of_mem_take hx)
        · rw[List.all_eq_true]at hsol ⊢;exact fun x hx=>hsol x (List.mem_of_mem_drop hx)
    · cases hf
  · cases hf
theorem ofCell_ne (v:Value) (l:List SV):ofCell v≠ .agg l:=by
 unfold ofCell
 split <;> (try split) <;> simp
theorem zero_sound {t:TypeId} {l:List SV} (h:zeroOf P t=some l):∃z i,P.info? t=some i∧i.zero=some z∧(zeroValue t).run P w= .ok z w∧SVRs w X φ ρ nx l z.cells.toList:=by
 unfold zeroOf at h
 simp only[Option.map_eq_some_iff,Option.bind_eq_some_iff]at h
 obtain⟨z,⟨i,hi,hz⟩,rfl⟩:=h
 refine⟨z,i,hi,hz,by simp[zeroValue,run_type hi,hz],?_⟩
 have hv:=ofValue_sound (W:=w) (X:=X) (φ:=φ) (ρ:=ρ) (nx:=nx) z
 cases z with
 | agg cs=>simp only[ofValue]at hv ⊢;simp only[SVR]at hv;obtain⟨cs',hc,hl⟩:=hv;cases hc;exact hl
 | _=>
  have hc:∀s,ofValue _=s→SVRs w X φ ρ nx [s] [_]:=fun s hs=>by simp only[SVRs];exact⟨_,[],rfl,hs▸hv,rfl⟩
  simp only[Value.cells]
  split
  · rename_i l hl
    simp only[ofValue]at hl
    exact(ofCell_ne _ _ hl).elim
  · exact hc _ rfl
theorem run_places (P:Program) (w:World):∀ (l:List Field),(l.all fun f=>(szOf P f.type).isSome)=true→
    (l.mapM (fun f=>do pure (f.offset,←sizeOf f.type):Field→Sem (Nat×Nat))).run P w= .ok (l.map fun f=>(f.offset,(szOf P f.type).getD 0)) w
 | [],_=>by simp
 | f::r,h=>by
  simp only[List.all_cons,Bool.and_eq_true]at h
  obtain⟨s,hs⟩:=Option.isSome_iff_exists.1 h.1
  rw[List.mapM_cons]
  simp only[Sem.run_bind,run_size hs,Result.andThen_ok,Sem.run_pure,run_places P w r h.2,List.map_cons,hs,Option.getD_some]
theorem build_sound (h:Rel X W0 φ ρ σ (a::fs) w) {t:TypeId} {parts:Array (Nat×Operand)} {gs:List Ex} {sv:SV} {σ':St} (hs:simple P σ (.build t parts)=some (gs,sv,σ')) :
    σ'=σ∧gs=[]∧∃v,(Instr.build t (parts.map fun(i,x)=>(i,a.eval x))).run P w= .ok v w∧SVR w X φ ρ σ.nx sv v:=by
 simp only[simple]at hs
 have hparts:(parts.map fun(i,x)=>(i,a.eval x)).toList=parts.toList.map fun p=>(p.1,a.eval p.2):=by simp
 split at hs
 · rename_i z fds hz hu
   split at hs
   · rename_i hall
     simp only[Option.map_eq_some_iff,Prod.mk.injEq]at hs
     obtain⟨cs,hf,rfl,rfl,rfl⟩:=hs
     obtain⟨zv,i,hi,hzi,hrun,hzs⟩:=zero_sound (w:=w) (X:=X) (φ:=φ) (ρ:=ρ) (nx:=σ.nx) hz
     obtain⟨vs',hf',hr,_,_⟩:=fill_sound (fun x=>h.ev x) _ _ _ _ hzs hf
     refine⟨rfl,rfl,.agg vs',?_,by simp only[SVR];exact⟨_,rfl,hr⟩⟩
     have hpl:=run_places P w fds.toList (by simpa using hall)
     have hplace:(fun i=>(fds.toList.map fun f=>(f.offset,(szOf P f.type).getD 0)).toArray[i]?)=fun(i:Nat)=>(fds[i]?).map fun(f:Field)=>(f.offset,(szOf P f.type).getD 0):=by
      funext i;simp
     simp only[Instr.build,Sem.run_bind,hrun,Result.andThen_ok,run_underlying hu,Array.mapM_eq_mapM_toList,Sem.run_map,hpl,hplace,hparts,hf']
     rfl
   · cases hs
 · rename_i z n e hz hu
   split at hs
   · rename_i s hsz
     simp only[Option.map_eq_some_iff,Prod.mk.injEq]at hs
     obtain⟨cs,hf,rfl,rfl,rfl⟩:=hs
     obtain⟨zv,i,hi,hzi,hrun,hzs⟩:=zero_sound (w:=w) (X:=X) (φ:=φ) (ρ:=ρ) (nx:=σ.nx) hz
     obtain⟨vs',hf',hr,_,_⟩:=fill_sound (fun x=>h.ev x) _ _ _ _ hzs hf
     refine⟨rfl,rfl,.agg vs',?_,by simp only[SVR];exact⟨_,rfl,hr⟩⟩
     simp only[Instr.build,Sem.run_bind,hrun,Result.andThen_ok,run_underlying hu,run_size hsz,hparts,hf']
     rfl
   · cases hs
 · cases hs
theorem bnd_sound (h:Rel X W0 φ ρ σ (a::fs) w) {o:Option Operand} {d e:Ex} (hb:bndSV σ.ev o d=some e):(o=none∧e=d)∨∃x k n,o=some x∧e.fits ρ.length=true∧e.den ρ= .int k n∧a.eval x= .int k n:=by
 cases o with
 | none=>simp only[bndSV,Option.some.injEq]at hb;exact .inl ⟨rfl,hb.symm⟩
 | some x=>
  simp only[bndSV]at hb
  split at hb
  · rename_i k e' he
    cases hb
    have hx:=h.ev x
    rw[he]at hx
    obtain⟨f,n,d,hv⟩:=svr_int hx
    exact .inr ⟨x,k,n,rfl,f,d,hv⟩
  · cases hb
theorem run_bounds (h:Rel X W0 φ ρ σ (a::fs) w) {lo hi:Option Operand} {l r:Ex} {n cap:Nat} {d:Ex} (hd:d.den ρ= .int .i64 n) (hdf:d.fits ρ.length=true) (hl:bndSV σ.ev lo i0=some l) (hr:bndSV σ.ev hi d=some r)
    (h0:0≤(l.den ρ).i) (h1:(l.den ρ).i≤(r.den ρ).i) (h2:(r.den ρ).i≤n) (hcap:n≤cap) :
    (Instr.sliceBounds true n cap (lo.map a.eval) (hi.map a.eval) none).run P w= .ok ((l.den ρ).i.toNat,(r.den ρ).i.toNat,cap) w∧l.fits ρ.length=true∧r.fits ρ.length=true:=by
 rcases bnd_sound h hl with⟨rfl,rfl⟩ | ⟨x,k,m,rfl,f,dm,hv⟩
 · rcases bnd_sound h hr with⟨rfl,rfl⟩ | ⟨x',k',m',rfl,f',dm',hv'⟩
   · refine⟨?_,rfl,hdf⟩
     simp[Instr.sliceBounds,hd,PV.i,i0,Ex.den]
   · refine⟨?_,rfl,f'⟩
     have hm:(r.den ρ).i=m':=by rw[dm'];rfl
     rw[hm]at h2 h1 ⊢
     have h1':0≤m':=h1
     have h3:m'≤(cap:Int):=by omega
     simp[Instr.sliceBounds,Instr.sliceBound,asIntOf,hv',h1',h3,i0,Ex.den,PV.i]
 · have hml:(l.den ρ).i=m:=by rw[dm];rfl
   rw[hml]at h0 h1 ⊢
   rcases bnd_sound h hr with⟨rfl,rfl⟩ | ⟨x',k',m',rfl,f',dm',hv'⟩
   · refine⟨?_,f,hdf⟩
     have hm:(r.den ρ).i=n:=by rw[hd];rfl
     rw[hm]at h1 ⊢
     simp[Instr.sliceBounds,Instr.sliceBound,asIntOf,hv,h0,h1]
   · refine⟨?_,f,f'⟩
     have hm:(r.den ρ).i=m':=by rw[dm'];rfl
     rw[hm]at h2 h1 ⊢
     have h1':0≤m':=by omega
     have h3:m'≤(cap:Int):=by omega
     have h4:m≤(m'.toNat:Int):=by omega
     have h5:((m'.toNat:Nat):Int)=m':=by omega
     simp only[Instr.sliceBounds,Instr.sliceBound,asIntOf,hv,hv',Option.map_some,Sem.run_bind,Sem.run_pure,Result.andThen_ok,h1',h3,and_self,if_true,h5,h0,h1]
theorem i_int (k:IntKind) (n:Int):(PV.int k n).i=n:=rfl
theorem slice_sound (h:Rel X W0 φ ρ σ (a::fs) w) {t:TypeId} {x:Operand} {lo hi:Option Operand} {gs:List Ex} {sv:SV} {σ':St} (hs:simple P σ (.slice t x lo hi none)=some (gs,sv,σ')) :
    σ'=σ∧(∀g∈gs,g.fits ρ.length=true)∧((∀g∈gs,(g.den ρ).b=true)→∃v,(Instr.sliceAt t (a.eval x) (lo.map a.eval) (hi.map a.eval) none).run P w= .ok v w∧SVR w X φ ρ σ.nx sv v):=by
 have hx:=h.ev x
 simp only[simple]at hs
 split at hs
 · rename_i el hu
   have fit3:∀ {l r d:Ex},bndSV σ.ev lo i0=some l→bndSV σ.ev hi d=some r→d.fits ρ.length=true→l.fits ρ.length=true∧r.fits ρ.length=true:=by
    intro l r d h1 h2 hd
    refine⟨?_,?_⟩
    · rcases bnd_sound h h1 with⟨_,rfl⟩ | ⟨_,_,_,_,f,_⟩
      · rfl
      · exact f
    · rcases bnd_sound h h2 with⟨_,rfl⟩ | ⟨_,_,_,_,f,_⟩
      · exact hd
      · exact f
   have gfits:∀ {l r d:Ex},l.fits ρ.length=true→r.fits ρ.length=true→d.fits ρ.length=true→∀g∈ [Ex.mk2 (.cmp .leq) i0 l,.mk2 (.cmp .leq) l r,.mk2 (.cmp .leq) r d],g.fits ρ.length=true:=by
    intro l r d hl hr hd g hg
    simp only[List.mem_cons,List.not_mem_nil,or_false]at hg
    rcases hg with rfl | rfl | rfl
    · exact Ex.fits_mk2 rfl hl
    · exact Ex.fits_mk2 hl hr
    · exact Ex.fits_mk2 hr hd
   have gden:∀ {l r d:Ex} {n:Nat},d.den ρ= .int .i64 n→(∀g∈ [Ex.mk2 (.cmp .leq) i0 l,.mk2 (.cmp .leq) l r,.mk2 (.cmp .leq) r d],(g.den ρ).b=true)→0≤(l.den ρ).i∧(l.den ρ).i≤(r.den ρ).i∧(r.den ρ).i≤n:=by
    intro l r d n hd hg
    have h1:=hg _ (by simp:Ex.mk2 (.cmp .leq) i0 l∈_)
    have h2:=hg (.mk2 (.cmp .leq) l r) (by simp)
    have h3:=hg (.mk2 (.cmp .leq) r d) (by simp)
    rw[Ex.den_mk2]at h1 h2 h3
    rw[hd]at h3
    exact⟨of_decide_eq_true h1,of_decide_eq_true h2,of_decide_eq_true h3⟩
   have dminus:∀ {l r:Ex},(Ex.mk2 .minus r l).den ρ= .int .i64 ((r.den ρ).i - (l.den ρ).i):=by intro l r;rw[Ex.den_mk2];rfl
   split at hs
   · rename_i ks e hxe
     rw[hxe]at hx
     split at hs
     · rename_i hsz
       split at hs
       · rename_i l r hl hr
         simp only[Option.some.injEq,Prod.mk.injEq]at hs
         obtain⟨rfl,rfl,rfl⟩:=hs
         obtain⟨fe,xs,ao,cap,dx,hv,hc,hne⟩:=row_at hx
         have hd:=den_len dx
         obtain⟨fl,fr⟩:=fit3 hl hr (Ex.fits_mk1 fe)
         refine⟨rfl,gfits fl fr (Ex.fits_mk1 fe),fun hg=>?_⟩
         obtain⟨g0,g1,g2⟩:=gden hd hg
         obtain⟨hb,_,_⟩:=run_bounds (P:=P) h hd (Ex.fits_mk1 fe) hl hr g0 g1 g2 hc
         have hsz':=eq_of_beq hsz
         refine⟨.slice (if cap=(l.den ρ).i.toNat then ao else ao.map (·.add ((l.den ρ).i.toNat*ks.length))) ((r.den ρ).i.toNat - (l.den ρ).i.toNat) (cap - (l.den ρ).i.toNat),?_,?_⟩
         · simp only[Instr.sliceAt,Sem.run_bind,run_underlying hu,Result.andThen_ok,Instr.slice,hv,hb,run_size hsz']
           rfl
         · simp only[SVR,RV]
           refine⟨by simp only[Ex.fits,fe,fl,Ex.fits_mk2 fr fl,Bool.and_self],?_⟩
           have hden:(Ex.tri .slice e l (.mk2 .minus r l)).den ρ= .row ((xs.drop (l.den ρ).i.toNat).take ((r.den ρ).i.toNat - (l.den ρ).i.toNat)):=by
            simp only[Ex.den,TO.on,dx,PV.r,dminus,i_int]
            congr 2
            omega
           have hlen:((xs.drop (l.den ρ).i.toNat).take ((r.den ρ).i.toNat - (l.den ρ).i.toNat)).length=(r.den ρ).i.toNat - (l.den ρ).i.toNat:=by simp;omega
           refine⟨_,_,_,hden,by rw[hlen],by omega,fun hn=>?_⟩
           have hpos:0 < (r.den ρ).i.toNat - (l.den ρ).i.toNat:=by
            rcases Nat.eq_zero_or_pos ((r.den ρ).i.toNat - (l.den ρ).i.toNat)with hz | hz
            · rw[hz]at hn;simp at hn
            · exact hz
           obtain⟨ad,rfl,hsp,hu',hblt,hrows⟩:=hne (by intro hz;rw[hz]at hn;simp at hn)
           rw[if_neg (by omega)]
           obtain⟨b,off,sp⟩:=ad
           simp only at hsp hu' hblt hrows
           subst hsp
           refine⟨⟨b,off+(l.den ρ).i.toNat*ks.length,none⟩,by simp only[Option.map_some,add_none],rfl,hu',hblt,fun i y hiy=>?_⟩
           have hil:i < (r.den ρ).i.toNat - (l.den ρ).i.toNat:=by have:=(List.getElem?_eq_some_iff.1 hiy).1;omega
           rw[List.getElem?_take_of_lt hil,List.getElem?_drop]at hiy
           obtain⟨vs,hvs,hcell⟩:=hrows _ y hiy
           refine⟨vs,hvs,fun j u hj=>?_⟩
           dsimp only
           rw[←hcell j u hj,Nat.add_mul]
           congr 2
           omega
       · cases hs
     · cases hs
   · rename_i ln hxe
     rw[hxe]at hx
     split at hs
     · rename_i ks e hlk
       split at hs
       · rename_i hsz
         split at hs
         · rename_i l r hl hr
           simp only[Option.some.injEq,Prod.mk.injEq]at hs
           obtain⟨rfl,rfl,rfl⟩:=hs
           obtain⟨kk,hφ,ho⟩:=h.heap ln _ hlk
           simp only[ObR]at ho
           obtain⟨fe,hks,xs,dx,hlen,hm⟩:=ho
           have hd:=den_len dx
           obtain⟨fl,fr⟩:=fit3 hl hr (Ex.fits_mk1 fe)
           refine⟨rfl,gfits fl fr (Ex.fits_mk1 fe),fun hg=>?_⟩
           obtain⟨g0,g1,g2⟩:=gden hd hg
           simp only[SVR]at hx
           obtain⟨hlt,_,hat'⟩:=hx
           have hown:=hat' kk hφ
           have hsz':=eq_of_beq hsz
           have hcap:∃ao cap,a.eval x= .slice ao kk.len cap∧kk.len≤cap∧(0 < kk.len→∃g,kk.g=some g∧ao=some ⟨g,0,none⟩):=by
            unfold OwnAt at hown
            cases hgg:kk.g with
            | none=>rw[hgg]at hown;simp only at hown;exact⟨none,0,by rw[hown.1];exact hown.2,by omega,fun hp=>by omega⟩
            | some g=>rw[hgg]at hown;simp only at hown;obtain⟨cap,c,hv,hc,hle,_⟩:=hown;exact⟨_,cap,hv,hle,fun _=>⟨g,rfl,rfl⟩⟩
           obtain⟨ao,cap,hv,hc,hao⟩:=hcap
           obtain⟨hb,_,_⟩:=run_bounds (P:=P) (n:=kk.len) h (by rw[hd,hlen]) (Ex.fits_mk1 fe) hl hr g0 g1 (by omega) hc
           refine⟨.slice (if cap=(l.den ρ).i.toNat then ao else ao.map (·.add ((l.den ρ).i.toNat*ks.length))) ((r.den ρ).i.toNat - (l.den ρ).i.toNat) (cap - (l.den ρ).i.toNat),?_,?_⟩
           · simp only[Instr.sliceAt,Sem.run_bind,run_underlying hu,Result.andThen_ok,Instr.slice,hv,hb,run_size hsz']
             rfl
           · simp only[SVR]
             refine⟨fl,Ex.fits_mk2 fr fl,hlt,⟨_,_,_,rfl⟩,fun k' hk'=>?_⟩
             rw[hφ]at hk'
             cases hk'
             rw[dminus]
             simp only[i_int]
             have htn:((r.den ρ).i - (l.den ρ).i).toNat=(r.den ρ).i.toNat - (l.den ρ).i.toNat:=by omega
             rw[htn]
             refine⟨g0,by omega,by omega,⟨_,rfl⟩,_,_,rfl,by omega,fun hpos=>?_⟩
             obtain⟨g,hg',rfl⟩:=hao (by omega)
             refine⟨g,hg',?_⟩
             rw[if_neg (by omega)]
             simp only[Option.map_some,add_none,hks,Nat.zero_add]
         · cases hs
       · cases hs
     · cases hs
   · cases hs
 · cases hs
theorem foldMM_sound {mx:Bool} {k:IntKind}:∀ (l:List SV) (e r:Ex) (n:Int) (vs:List Value),e.fits ρ.length=true→e.den ρ= .int k n→SVRs w X φ ρ nx l vs→foldMM mx k e l=some r→
    ∃m,r.fits ρ.length=true∧r.den ρ= .int k m∧(List.foldlM (if mx then Builtin.max2 else Builtin.min2) (.int k n) vs).run P w= .ok (.int k m) w
 | [],e,r,n,vs,hf,hd,h,hs=>by
  simp only[foldMM,Option.some.injEq]at hs
  subst hs
  simp only[SVRs]at h
  subst h
  exact⟨n,hf,hd,rfl⟩
 | s :: l,e,r,n,vs,hf,hd,h,hs=>by
  cases s with
  | ex κ b=>
   cases κ with
   | int k'=>
    simp only[foldMM]at hs
    split at hs
    · rename_i hk
      have:=eq_of_beq hk
      subst this
      simp only[SVRs]at h
      obtain⟨v,vs',rfl,h1,h2⟩:=h
      obtain⟨fb,m,dm,rfl⟩:=svr_int h1
      have hd':(Ex.mk2 (if mx then BO.max k else .min k) e b).den ρ= .int k (if mx then(if m > n then m else n)else(if m < n then m else n)):=by
       rw[Ex.den_mk2,hd,dm]
       cases mx <;> rfl
      obtain⟨z,hz1,hz2,hz3⟩:=foldMM_sound l _ r _ vs' (Ex.fits_mk2 hf fb) hd' h2 hs
      refine⟨z,hz1,hz2,?_⟩
      rw[List.foldlM_cons,Sem.run_bind]
      cases mx
      · simp only[Bool.false_eq_true,if_false,Builtin.min2,Sem.run_pure,Result.andThen_ok]at hz3 ⊢
        exact hz3
      · simp only[if_true,Builtin.max2,Sem.run_pure,Result.andThen_ok]at hz3 ⊢
        exact hz3
    · cases hs
   | _=>simp[foldMM]at hs
  | _=>simp[foldMM]at hs
theorem lenOf_sound (h:Rel X W0 φ ρ σ fs w) {s:SV} {v:Value} {e:Ex} (hs:SVR w X φ ρ σ.nx s v) (hl:lenOf σ s=some e):e.fits ρ.length=true∧∃a n c,v= .slice a n c∧e.den ρ= .int .i64 n:=by
 cases s with
 | ex k x=>
  cases k with
  | row ks=>
   simp only[lenOf,Option.some.injEq]at hl
   subst hl
   obtain⟨fe,xs,a,cap,dx,hv,_,_⟩:=row_at hs
   exact⟨Ex.fits_mk1 fe,a,xs.length,cap,hv,den_len dx⟩
  | _=>simp[lenOf]at hl
 | nilS=>
  simp only[lenOf,Option.some.injEq]at hl
  subst hl
  simp only[SVR]at hs
  exact⟨rfl,none,0,0,hs,rfl⟩
 | own l p=>
  simp only[lenOf]at hl
  split at hl
  · rename_i ks x hlk
    cases hl
    obtain⟨kk,hφ,ho⟩:=h.heap l _ hlk
    simp only[ObR]at ho
    obtain⟨fe,_,xs,dx,hlen,_⟩:=ho
    simp only[SVR]at hs
    have:=hs.2.2 kk hφ
    unfold OwnAt at this
    refine⟨Ex.fits_mk1 fe,?_⟩
    cases hg:kk.g with
    | none=>
     rw[hg]at this
     simp only at this
     exact⟨none,0,0,this.2,by rw[den_len dx,hlen,this.1]⟩
    | some g=>
     rw[hg]at this
     simp only at this
     obtain⟨cap,c,hv,_⟩:=this
     exact⟨_,_,_,hv,by rw[den_len dx,hlen]⟩
  · rename_i ks x lo n hlk
    cases hl
    obtain⟨kk,hφ,ho⟩:=h.heap l _ hlk
    simp only[SVR]at hs
    obtain⟨_,fn,_,_,hat⟩:=hs
    obtain⟨_,h1,_,⟨m,hm⟩,ad,cap,hv,_⟩:=hat kk hφ
    refine⟨fn,ad,_,cap,hv,?_⟩
    rw[hm]at h1 ⊢
    simp only[i_int]at h1 ⊢
    congr 1
    omega
  · cases hl
 | _=>simp[lenOf]at hl
theorem SVRs.evs (h:Rel X W0 φ ρ σ (a::fs) w):∀l:List Operand,SVRs w X φ ρ σ.nx (l.map σ.ev) (l.map a.eval)
 | []=>by simp[SVRs]
 | x::r=>by simp only[List.map_cons,SVRs];exact⟨_,_,rfl,h.ev x,SVRs.evs h r⟩
theorem run_builtin {b:Builtin} {args:Array Operand} {ts:Array TypeId} {o:Oper} (ho:o.op= .call { callee:= .builtin b,args,argTypes:=ts }) :
    ∃consts,(execOp a.eval o)=(do let d←(pure { target:= .builtin b ts o.type consts,args:=args.map a.eval }:Sem Deferred);invoke d.target d.args):=by
 refine⟨args.map fun | .const _=>true | _=>false,?_⟩
 unfold execOp
 rw[ho]
 rfl
theorem mapT_spec {t:TypeId} (h:mapT P t=true):∃k e,P.underlying t=some (.map k e)∧P.underlying k=some (.int .i64)∧P.underlying e=some (.int .i64)∧∀w:World,(zeroValue e).run P w= .ok (.int .i64 0) w:=by
 unfold mapT at h
 split at h
 · rename_i k e hu
   simp only[Bool.and_eq_true]at h
   obtain⟨⟨h1,h2⟩,h3⟩:=h
   refine⟨k,e,hu,?_,?_,fun w=>?_⟩
   · split at h1
     · assumption
     · cases h1
   · split at h2
     · assumption
     · cases h2
   · split at h3
     · rename_i hz
       rw[Option.bind_eq_some_iff]at hz
       obtain⟨i,hi,hz⟩:=hz
       simp[zeroValue,run_type hi,hz]
     · cases h3
 · cases h
theorem wf_i64 {a:Int} (h1: -9223372036854775808≤a) (h2:a≤9223372036854775807):Wf a:=by
 show(Lit.int .i64 a).wf=true
 simp[Lit.wf,IntKind.min,IntKind.max,IntKind.signed,IntKind.bits]
 omega
theorem in64_sound {e:Ex} {a:Int} (he:e.den ρ= .int .i64 a) (h:∀g∈in64 e,(g.den ρ).b=true):Wf a:=by
 have h1:=h _ (List.mem_cons_self)
 have h2:=h _ (List.mem_cons_of_mem _ List.mem_cons_self)
 rw[Ex.den_mk2,he]at h1 h2
 exact wf_i64 (of_decide_eq_true h1) (of_decide_eq_true h2)
theorem in64_fits {e:Ex} {n:Nat} (he:e.fits n=true):∀g∈in64 e,g.fits n=true:=by
 intro g hg
 simp only[in64,List.mem_cons,List.not_mem_nil,or_false]at hg
 rcases hg with rfl | rfl
 · exact Ex.fits_mk2 rfl he
 · exact Ex.fits_mk2 he rfl
theorem pure_sound (h:Rel X W0 φ ρ σ (a::fs) w) {o:Oper} (hp:pureOp o.op=true) {gs:List Ex} {sv:SV} {σ':St} (hs:simple P σ o.op=some (gs,sv,σ')):σ'=σ∧Pure1 P w X φ ρ σ.nx a o gs sv:=by
 obtain⟨dst,op,ty,pos,aft,gd⟩:=o
 simp only at hp hs
 cases op with
 | move x=>
  simp only[simple,Option.some.injEq,Prod.mk.injEq]at hs
  obtain⟨rfl,rfl,rfl⟩:=hs
  exact⟨rfl,List.forall_mem_nil _,fun _=>⟨_,rfl,h.ev x⟩⟩
 | assign x=>
  simp only[simple,Option.some.injEq,Prod.mk.injEq]at hs
  obtain⟨rfl,rfl,rfl⟩:=hs
  exact⟨rfl,List.forall_mem_nil _,fun _=>⟨_,rfl,h.ev x⟩⟩
 | pick c x y=>
  simp only[simple]at hs
  have hc:=h.ev c
  split at hs
  · rename_i ce hce
    rw[hce]at hc
    obtain⟨fc,b,dc,hv⟩:=svr_bool hc
    have hrun:∀z,(if b=true then a.eval x else a.eval y)=z→(execOp a.eval { dst,op:= .pick c x y,type:=ty,pos,after:=aft,guard:=gd }).run P w= .ok (.value z) w:=by
     intro z hz
     simp[execOp,hv,asBool,hz]
    have hcb:(ce.den ρ).b=b:=by rw[dc];rfl
    split at hs
    · rename_i hk
      simp only[Option.some.injEq,Prod.mk.injEq]at hs
      obtain⟨rfl,rfl,rfl⟩:=hs
      have:b=true:=by rw[←hcb];exact knownIs_sound h.known _ _ hk
      subst this
      exact⟨rfl,List.forall_mem_nil _,fun _=>⟨_,hrun _ rfl,h.ev x⟩⟩
    · rename_i hk
      simp only[Option.some.injEq,Prod.mk.injEq]at hs
      obtain⟨rfl,rfl,rfl⟩:=hs
      have:b=false:=by rw[←hcb];exact knownIs_sound h.known _ _ hk
      subst this
      exact⟨rfl,List.forall_mem_nil _,fun _=>⟨_,hrun _ rfl,h.ev y⟩⟩
    · simp only[Option.map_eq_some_iff,Prod.mk.injEq]at hs
      obtain⟨s,hsel,rfl,rfl,rfl⟩:=hs
      refine⟨rfl,List.forall_mem_nil _,fun _=>⟨_,hrun _ rfl,?_⟩⟩
      refine selCells_sound (cond_fits _ _ fc) (by rw[cond_b,hcb]) (h.ev_fits x _) (h.ev_fits y _) (fun hb=>?_) (fun hb=>?_) hsel
      · exact(h.learn fc (hcb.trans hb)).ev x
      · exact(h.learn fc (hcb.trans hb)).ev y
  · cases hs
 | binOp op t x y yt=>
  simp only[simple,Option.map_eq_some_iff,Prod.mk.injEq]at hs
  obtain⟨⟨gs0,sv0⟩,hb,rfl,rfl,rfl⟩:=hs
  obtain⟨h1,h2⟩:=binary_sound (P:=P) (ox:=x) (oy:=y) hb (h.ev x) (h.ev y)
  exact⟨rfl,pure1_of rfl h1 h2⟩
 | unOp u t x=>
  have hx:=h.ev x
  cases u with
  | not=>
   simp only[simple]at hs
   split at hs
   · rename_i e he
     rw[he]at hx
     simp only[Option.some.injEq,Prod.mk.injEq]at hs
     obtain⟨rfl,rfl,rfl⟩:=hs
     obtain⟨fe,b,de,hv⟩:=svr_bool hx
     refine⟨rfl,pure1_of rfl (List.forall_mem_nil _) fun _=>⟨.bool !b,by simp[hv,Op.unary],bool_svr (Ex.fits_mk1 fe) ?_⟩⟩
     rw[bnot,Ex.den_mk1,de];rfl
   · cases hs
  | neg=>
   simp only[simple]at hs
   split at hs
   · rename_i k e he
     rw[he]at hx
     simp only[Option.some.injEq,Prod.mk.injEq]at hs
     obtain⟨rfl,rfl,rfl⟩:=hs
     obtain⟨fe,n,de,hv⟩:=svr_int hx
     refine⟨rfl,pure1_of rfl (List.forall_mem_nil _) fun _=>⟨.int k (k.wrap (0 - n)),by simp[hv,Op.unary,Op.intArith],int_svr (Ex.fits_mk1 fe) ?_⟩⟩
     rw[Ex.den_mk1,de];rfl
   · cases hs
  | xor=>
   simp only[simple]at hs
   split at hs
   · rename_i k e he
     rw[he]at hx
     simp only[Option.some.injEq,Prod.mk.injEq]at hs
     obtain⟨rfl,rfl,rfl⟩:=hs
     obtain⟨fe,n,de,hv⟩:=svr_int hx
     refine⟨rfl,pure1_of rfl (List.forall_mem_nil _) fun _=>⟨.int k (arith .xor k (if k.signed then -1 else k.max) n),?_,int_svr (Ex.fits_mk1 fe) ?_⟩⟩
     · simp[hv,Op.unary,Op.intBits,arith]
     · rw[Ex.den_mk1,de];rfl
   · cases hs
  | plus=>simp[simple]at hs
 | convert src dst' x=>
  have hx:=h.ev x
  simp only[simple]at hs
  split at hs
  · rename_i hu1 hu2 he
    rw[he]at hx
    simp only[Option.some.injEq,Prod.mk.injEq]at hs
    obtain⟨rfl,rfl,rfl⟩:=hs
    obtain⟨fe,n,de,hv⟩:=svr_int hx
    refine⟨rfl,pure1_of rfl (List.forall_mem_nil _) fun _=>⟨_,?_,int_svr (Ex.fits_mk1 fe) (by rw[Ex.den_mk1,de];rfl)⟩⟩
    simp only[convert,Sem.run_bind,run_underlying hu1,run_underlying hu2,Result.andThen_ok,hv]
    rfl
  · rename_i hu1 hu2 he
    rw[he]at hx
    simp only[Option.some.injEq,Prod.mk.injEq]at hs
    obtain⟨rfl,rfl,rfl⟩:=hs
    obtain⟨fe,n,de,hv⟩:=svr_str hx
    refine⟨rfl,pure1_of rfl (List.forall_mem_nil _) fun _=>⟨_,?_,hx⟩⟩
    simp only[convert,Sem.run_bind,run_underlying hu1,run_underlying hu2,Result.andThen_ok,hv]
    rfl
  · cases hs
 | extract x i=>
  have hx:=h.ev x
  simp only[simple]at hs
  split at hs
  · rename_i l he
    rw[he]at hx
    simp only[Option.map_eq_some_iff,Prod.mk.injEq]at hs
    obtain⟨s,hi,rfl,rfl,rfl⟩:=hs
    simp only[SVR]at hx
    obtain⟨cs,hv,hl⟩:=hx
    obtain⟨v,hvi,hr⟩:=hl.get i s hi
    refine⟨rfl,pure1_of rfl (List.forall_mem_nil _) fun _=>⟨v,?_,hr⟩⟩
    have:cs[i]? =some v:=by simpa using hvi
    simp[hv,Instr.extract,this]
  · cases hs
 | field t x f=>
  have hx:=h.ev x
  simp only[simple]at hs
  split at hs
  · rename_i fds cs hu he
    rw[he]at hx
    rw[Option.bind_eq_some_iff]at hs
    obtain⟨fd,hf,hs⟩:=hs
    simp only[Option.map_eq_some_iff,Prod.mk.injEq]at hs
    obtain⟨s,hpt,rfl,rfl,rfl⟩:=hs
    simp only[SVR]at hx
    obtain⟨vs,hv,hl⟩:=hx
    obtain⟨v,hr,hvr⟩:=part_sound (P:=P) hl hpt
    refine⟨rfl,pure1_of rfl (List.forall_mem_nil _) fun _=>⟨v,?_,hvr⟩⟩
    simp[Instr.field,run_underlying hu,hf,hv,asAgg,hr]
  · cases hs
 | index t x i=>
  have hx:=h.ev x
  have hi:=h.ev i
  simp only[simple]at hs
  split at hs
  · rename_i n el cs k k' j hu he hie
    rw[he]at hx
    rw[hie]at hi
    split at hs
    · rename_i s hsz
      split at hs
      · rename_i hj
        simp only[Bool.and_eq_true,decide_eq_true_eq]at hj
        simp only[Option.map_eq_some_iff,Prod.mk.injEq]at hs
        obtain⟨s',hpt,rfl,rfl,rfl⟩:=hs
        simp only[SVR]at hx
        obtain⟨vs,hv,hl⟩:=hx
        obtain⟨_,m,dm,hvi⟩:=svr_int hi
        simp only[Ex.den,PV.int.injEq]at dm
        obtain⟨rfl,rfl⟩:=dm
        obtain⟨v,hr,hvr⟩:=part_sound (P:=P) hl hpt
        refine⟨rfl,pure1_of rfl (List.forall_mem_nil _) fun _=>⟨v,?_,hvr⟩⟩
        simp[Instr.index,asIntOf,run_underlying hu,hvi,hv,hj.1,hj.2,run_size hsz,hr]
      · cases hs
    · cases hs
  · rename_i e k ie hu he hie
    rw[he]at hx
    rw[hie]at hi
    simp only[Option.some.injEq,Prod.mk.injEq]at hs
    obtain⟨rfl,rfl,rfl⟩:=hs
    obtain⟨fi,m,dm,hvi⟩:=svr_int hi
    have hx':=hx
    simp only[SVR,RV]at hx'
    obtain⟨fe,s,de,hv⟩:=hx'
    refine⟨rfl,inRange_fits fi (Ex.fits_mk1 fe),fun hg=>?_⟩
    obtain⟨h0,h1⟩:=inRange_sound hg
    rw[Ex.den_mk1,de,dm]at h1
    rw[dm]at h0
    simp only[UO.on,PV.i,PV.s]at h0 h1
    have hlt:m.toNat < s.size:=by omega
    have hget:s[m.toNat]? =some s[m.toNat]:=getElem?_pos s m.toNat hlt
    refine⟨.int .u8 (s[m.toNat]).toNat,?_,?_⟩
    · simp[execOp,Instr.index,asIntOf,run_underlying hu,hvi,hv,h0,hget]
    · simp only[SVR,RV,Ex.fits,Ex.den,BO.on,de,dm,PV.s,PV.i,hget,Option.map_some,Option.getD_some]
      exact⟨by simp[fe,fi],_,rfl,rfl⟩
  · cases hs
 | fieldAddr t x f=>
  obtain⟨rfl,rfl,v,hr,hv⟩:=fieldAddr_sound h hs
  exact⟨rfl,pure1_of rfl (List.forall_mem_nil _) fun _=>⟨v,hr,hv⟩⟩
 | indexAddr t x i=>
  obtain⟨rfl,h1,h2⟩:=indexAddr_sound h hs
  exact⟨rfl,pure1_of rfl h1 h2⟩
 | load t x=>
  simp only[simple,Option.map_eq_some_iff,Prod.mk.injEq]at hs
  obtain⟨s,hm,rfl,rfl,rfl⟩:=hs
  obtain⟨v,hr,hv⟩:=load_sound (P:=P) h (h.ev x) hm
  exact⟨rfl,pure1_of rfl (List.forall_mem_nil _) fun _=>⟨v,hr,hv⟩⟩
 | nilCheck x=>
  have hx:=h.ev x
  simp only[simple]at hs
  split at hs
  · rename_i l i o he
    rw[he]at hx
    split at hs
    · rename_i hsome
      simp only[Option.some.injEq,Prod.mk.injEq]at hs
      obtain⟨rfl,rfl,rfl⟩:=hs
      obtain⟨ob,hob⟩:=Option.isSome_iff_exists.1 hsome
      obtain⟨kk,hφ,_⟩:=h.heap l ob hob
      have hx':=hx
      simp only[SVR]at hx'
      obtain⟨f1,hl,_,hk⟩:=hx'
      obtain⟨g,hg,h0,hlt,hv⟩:=hk kk hφ
      refine⟨rfl,List.forall_mem_nil _,fun _=>⟨_,?_,hx⟩⟩
      simp[execOp,hv]
    · cases hs
  · rename_i ks e i o he
    rw[he]at hx
    simp only[Option.some.injEq,Prod.mk.injEq]at hs
    obtain⟨rfl,rfl,rfl⟩:=hs
    have hx':=hx
    simp only[SVR]at hx'
    obtain⟨f1,f2,xs,ad,h1,h2,h3,h4,hv⟩:=hx'
    refine⟨rfl,List.forall_mem_nil _,fun _=>⟨_,?_,hx⟩⟩
    simp[execOp,hv]
  · rename_i c o he
    rw[he]at hx
    simp only[Option.some.injEq,Prod.mk.injEq]at hs
    obtain⟨rfl,rfl,rfl⟩:=hs
    have hx':=hx
    simp only[SVR]at hx'
    obtain⟨g,vs,hv,_⟩:=hx'
    refine⟨rfl,List.forall_mem_nil _,fun _=>⟨_,?_,hx⟩⟩
    simp[execOp,hv]
  · rename_i f c he
    rw[he]at hx
    simp only[Option.some.injEq,Prod.mk.injEq]at hs
    obtain⟨rfl,rfl,rfl⟩:=hs
    have hx':=hx
    simp only[SVR]at hx'
    obtain⟨cs,hv,_⟩:=hx'
    refine⟨rfl,List.forall_mem_nil _,fun _=>⟨_,?_,hx⟩⟩
    simp[execOp,hv]
  · cases hs
 | lookup t m x ok=>
  cases ok with
  | true=>simp[simple]at hs
  | false=>
   simp only[simple]at hs
   split at hs
   · rename_i l xe hm hx
     split at hs
     · rename_i e hl
       split at hs
       · rename_i hT
         simp only[Option.some.injEq,Prod.mk.injEq]at hs
         obtain⟨rfl,rfl,rfl⟩:=hs
         have hmv:=h.ev m
         rw[hm]at hmv
         simp only[SVR]at hmv
         have hxv:=h.ev x
         rw[hx]at hxv
         obtain⟨fx,a',dx,hxe⟩:=svr_int hxv
         obtain⟨k',hk',hob⟩:=h.heap l _ hl
         obtain⟨fe,g,xs,hg,hxs,hown⟩:=hob
         obtain⟨g',hg',hmval⟩:=hmv.2.2 k' hk'
         rw[hg]at hg'
         cases hg'
         obtain⟨k,el,ht,hkt,het,hz⟩:=mapT_spec hT
         refine⟨rfl,in64_fits fx,fun hgd=>⟨.int .i64 (mapGet xs a'),?_,?_⟩⟩
         · have hrun:=hown.lookup hkt het ht (hz w) (in64_sound dx hgd)
           simp[execOp,hmval,hxe,hrun]
         · refine int_svr (by simp only[Ex.fits,Bool.and_eq_true];exact⟨fe,fx⟩) ?_
           simp only[Ex.den,BO.on,hxs,dx,PV.r,PV.i]
       · cases hs
     · cases hs
   · cases hs
 | makeFunc fn first caps=>
  cases fn with
  | func f=>
   simp only[simple]at hs
   split at hs
   · rename_i he
     have he':first= #[]:=by simpa using he
     subst he'
     simp only[Option.some.injEq,Prod.mk.injEq]at hs
     obtain⟨rfl,rfl,rfl⟩:=hs
     refine⟨rfl,pure1_of rfl (List.forall_mem_nil _) fun _=>⟨_,rfl,?_⟩⟩
     simp only[SVR]
     refine⟨caps.map a.eval,by simp,?_⟩
     have:∀l:List Operand,SVRs w X φ ρ σ.nx (l.map σ.ev) (l.map a.eval):=by
      intro l
      induction l with
      | nil=>simp[SVRs]
      | cons x r ih=>simp only[List.map_cons,SVRs];exact⟨_,_,rfl,h.ev x,ih⟩
     simpa using this caps.toList
   · split at hs
     · rename_i he
       have he':caps= #[]:=by simpa using he
       subst he'
       simp only[Option.some.injEq,Prod.mk.injEq]at hs
       obtain⟨rfl,rfl,rfl⟩:=hs
       refine⟨rfl,pure1_of rfl (List.forall_mem_nil _) fun _=>⟨_,rfl,?_⟩⟩
       simp only[SVR]
       refine⟨first.map a.eval,by simp,?_⟩
       have:∀l:List Operand,SVRs w X φ ρ σ.nx (l.map σ.ev) (l.map a.eval):=by
        intro l
        induction l with
        | nil=>simp[SVRs]
        | cons x r ih=>simp only[List.map_cons,SVRs];exact⟨_,_,rfl,h.ev x,ih⟩
       simpa using this first.toList
     · cases hs
  | _=>simp[simple]at hs
 | build t parts=>
  obtain⟨rfl,rfl,v,hr,hv⟩:=build_sound h hs
  exact⟨rfl,pure1_of rfl (List.forall_mem_nil _) fun _=>⟨v,hr,hv⟩⟩
 | slice t x lo hi mx=>
  cases mx with
  | some m=>simp[simple]at hs
  | none=>
   obtain⟨rfl,h1,h2⟩:=slice_sound h hs
   exact⟨rfl,pure1_of rfl h1 h2⟩
 | call c=>
  obtain⟨callee,args,ts⟩:=c
  cases callee with
  | builtin b=>
   obtain⟨consts,hrun⟩:=run_builtin (a:=a) (b:=b) (args:=args) (ts:=ts) (o:={ dst,op:= .call { callee:= .builtin b,args,argTypes:=ts },type:=ty,pos,after:=aft,guard:=gd }) rfl
   have hevs:=SVRs.evs h args.toList
   simp only[simple]at hs
   cases b with
   | len=>
    simp only[builtin1]at hs
    split at hs
    · rename_i x hx
      rw[hx]at hevs
      have hax:∃v,args.map a.eval= #[v]∧SVR w X φ ρ σ.nx x v:=by
       simp only[SVRs]at hevs
       obtain⟨v,vs',hl,h1,rfl⟩:=hevs
       refine⟨v,?_,h1⟩
       apply Array.ext'
       simpa using hl
      obtain⟨v,hav,hxv⟩:=hax
      split at hs
      · rename_i el hu
        simp only[Option.map_eq_some_iff,Prod.mk.injEq]at hs
        obtain⟨e,hl,rfl,rfl,rfl⟩:=hs
        obtain⟨fe,ad,n,cp,rfl,hd⟩:=lenOf_sound h hxv hl
        refine⟨rfl,List.forall_mem_nil _,fun _=>⟨.int .i64 n,?_,int_svr fe hd⟩⟩
        rw[Option.bind_eq_some_iff]at hu
        obtain⟨t,ht,hu⟩:=hu
        have ht':ts[0]? =some t:=by simpa using ht
        rw[hrun,hav]
        simp[invoke,builtin,Builtin.len_,ht',run_underlying hu,goInt]
      · rename_i n el hu
        simp only[Option.some.injEq,Prod.mk.injEq]at hs
        obtain⟨rfl,rfl,rfl⟩:=hs
        refine⟨rfl,List.forall_mem_nil _,fun _=>⟨.int .i64 n,?_,int_svr rfl rfl⟩⟩
        rw[Option.bind_eq_some_iff]at hu
        obtain⟨t,ht,hu⟩:=hu
        have ht':ts[0]? =some t:=by simpa using ht
        rw[hrun,hav]
        simp[invoke,builtin,Builtin.len_,ht',run_underlying hu,goInt]
      · cases hs
    · cases hs
   | max=>
    simp only[builtin1]at hs
    split at hs
    · rename_i k e r hx
      rw[hx]at hevs
      simp only[SVRs]at hevs
      obtain⟨v,vs',hl,h1,h2⟩:=hevs
      obtain⟨fe,n,dn,rfl⟩:=svr_int h1
      simp only[Option.map_eq_some_iff,Prod.mk.injEq]at hs
      obtain⟨r',hf,rfl,rfl,rfl⟩:=hs
      obtain⟨m,hm1,hm2,hm3⟩:=foldMM_sound (P:=P) (mx:=true) r e r' n vs' fe dn h2 hf
      refine⟨rfl,List.forall_mem_nil _,fun _=>⟨.int k m,?_,int_svr hm1 hm2⟩⟩
      have hl':(args.map a.eval).toList= .int k n::vs':=by simpa using hl
      simp only[if_true]at hm3
      rw[hrun]
      simp[invoke,builtin,Builtin.max_,hl,hm3]
    · cases hs
   | min=>
    simp only[builtin1]at hs
    split at hs
    · rename_i k e r hx
      rw[hx]at hevs
      simp only[SVRs]at hevs
      obtain⟨v,vs',hl,h1,h2⟩:=hevs
      obtain⟨fe,n,dn,rfl⟩:=svr_int h1
      simp only[Option.map_eq_some_iff,Prod.mk.injEq]at hs
      obtain⟨r',hf,rfl,rfl,rfl⟩:=hs
      obtain⟨m,hm1,hm2,hm3⟩:=foldMM_sound (P:=P) (mx:=false) r e r' n vs' fe dn h2 hf
      refine⟨rfl,List.forall_mem_nil _,fun _=>⟨.int k m,?_,int_svr hm1 hm2⟩⟩
      have hl':(args.map a.eval).toList= .int k n::vs':=by simpa using hl
      simp only[Bool.false_eq_true,if_false]at hm3
      rw[hrun]
      simp[invoke,builtin,Builtin.min_,hl,hm3]
    · cases hs
   | _=>simp[pureOp]at hp
  | _=>simp[pureOp]at hp
 | _=>simp[pureOp]at hp
end
end Go.Proofs.YtckjdlmfibjpaaaGreat.Sx
set_option linter.unusedVariables false
namespace Go.Proofs.YtckjdlmfibjpaaaGreat.Sx
open Go.RowKit
def upd (φ:Names) (l:Nat) (k:Bk):Names:=fun m=>if m=l then some k else φ m
theorem upd_same (φ:Names) (l:Nat) (k:Bk):upd φ l k l=some k:=by simp[upd]
theorem upd_other (φ:Names) (l m:Nat) (k:Bk) (h:m≠l):upd φ l k m=φ m:=by simp[upd,h]
def Ran (P:Program) (a:Act) (o:Oper) (w:World) (v:Value) (w':World):Prop:=
 (execOp a.eval o).run P w= .ok (.value v) w'∨((execOp a.eval o).run P w= .ok .skip w'∧v=undef)
section
variable {P:Program} {X:Env} {W0:World} {φ:Names} {ρ:List PV} {σ:St} {a:Act} {fs:List Act} {w:World} {nx:Nat}
theorem Evo.alloc (ob:Obj) {s len:Nat} {el:TypeId}:Evo X φ (upd φ nx (Bk.of (some w.heap.size) s len el)) nx w (w.alloc ob):=by
 refine⟨by simp,fun b hb _=>Below.heap_alloc w ob b hb,fun l k g c hl hk hg h=>?_,fun l hl=> .inl (upd_other _ _ _ _ (by omega)),fun b hb ho=>?_⟩
 · have hlt:g < w.heap.size:=(Array.getElem?_eq_some_iff.1 h).1
   exact⟨c,by rw[Below.heap_alloc w ob g hlt];exact h,rfl⟩
 · rcases ho with hx | ⟨l,k,hk,hg⟩
   · exact .inl hx
   · by_cases hl:l=nx
     · subst hl
       rw[upd_same]at hk
       cases hk
       simp at hg
       omega
     · rw[upd_other _ _ _ _ hl]at hk
       exact .inr ⟨l,k,hk,hg⟩
theorem Rel.size_le (h:Rel X W0 φ ρ σ fs w):W0.heap.size≤w.heap.size:=h.below.size
theorem Rel.newO (h:Rel X W0 φ ρ σ fs w) (o:Ob) (O:Obj) (el:TypeId) (s len:Nat)
    (ho:ObR (w.alloc O) X (upd φ σ.nx (Bk.of (some w.heap.size) s len el)) ρ (σ.nx+1) (Bk.of (some w.heap.size) s len el) o) :
    Rel X W0 (upd φ σ.nx (Bk.of (some w.heap.size) s len el)) ρ (σ.new o) fs (w.alloc O):=by
 have ev:Evo X φ (upd φ σ.nx (Bk.of (some w.heap.size) s len el)) σ.nx w (w.alloc O):=Evo.alloc _
 refine⟨h.below.alloc h.size_le _,h.old,fun l k g hl hg=>?_,fun l l' k k' g hl hl' hg hg'=>?_,fun l k hl=>?_,h.nv,h.known,FrsR.evo ev (List.prefix_refl _) (Nat.le_succ _) _ _ h.frames,fun l ob hl=>?_⟩
 · by_cases he:l=σ.nx
   · subst he
     rw[upd_same]at hl
     cases hl
     simp at hg
     subst hg
     have:=h.size_le
     simp
     exact this
   · rw[upd_other _ _ _ _ he]at hl
     have:=h.low l k g hl hg
     simp
     omega
 · by_cases he:l=σ.nx
   · by_cases he':l'=σ.nx
     · omega
     · rw[he,upd_same]at hl
       cases hl
       rw[upd_other _ _ _ _ he']at hl'
       have:=h.low l' k' g hl' hg'
       simp at hg
       omega
   · by_cases he':l'=σ.nx
     · rw[he',upd_same]at hl'
       cases hl'
       rw[upd_other _ _ _ _ he]at hl
       have:=h.low l k g hl hg
       simp at hg'
       omega
     · rw[upd_other _ _ _ _ he]at hl
       rw[upd_other _ _ _ _ he']at hl'
       exact h.inj l l' k k' g hl hl' hg hg'
 · by_cases he:l=σ.nx
   · subst he;simp[St.new]
   · rw[upd_other _ _ _ _ he]at hl
     have:=h.names l k hl
     simp[St.new]
     omega
 · simp only[St.new,look]at hl
   split at hl
   · rename_i he
     have he':=eq_of_beq he
     subst he'
     cases hl
     exact⟨_,upd_same _ _ _,ho⟩
   · rename_i he
     have he':l≠σ.nx:=fun hc=>he (by simp[hc])
     obtain⟨k,hk,hob⟩:=h.heap l ob hl
     refine⟨k,by rw[upd_other _ _ _ _ he'];exact hk,?_⟩
     exact ObR.evo ev (List.prefix_refl _) (Nat.le_succ _) (fun g hg=>Below.heap_alloc w _ g (h.low l k g hk hg).2) ob hob
theorem Rel.new (h:Rel X W0 φ ρ σ fs w) (o:Ob) (c:Array Value) (el:TypeId) (s len:Nat)
    (ho:ObR (w.alloc (.cells c el)) X (upd φ σ.nx (Bk.of (some w.heap.size) s len el)) ρ (σ.nx+1) (Bk.of (some w.heap.size) s len el) o) :
    Rel X W0 (upd φ σ.nx (Bk.of (some w.heap.size) s len el)) ρ (σ.new o) fs (w.alloc (.cells c el)):=h.newO o _ el s len ho
theorem Rel.newMap (h:Rel X W0 φ ρ σ fs w):Rel X W0 (upd φ σ.nx (Bk.of (some w.heap.size) 0 0 0)) ρ (σ.new (.imap .nil)) fs (w.alloc (.map #[] 0)):=
 h.newO _ _ 0 0 0 ⟨rfl,w.heap.size,[],rfl,rfl,ownsI_new w⟩
theorem run_newVar (t:TypeId) (v:Value):(newVar t v).run P w= .ok ⟨w.heap.size,0,none⟩ (w.alloc (.cells v.cells t)):=by
 simp[newVar,newRow]
theorem Rel.box (h:Rel X W0 φ ρ σ fs w) {l:List SV} {v:Value} {t:TypeId} (hl:SVRs w X φ ρ σ.nx l v.cells.toList) :
    ∃φ',Rel X W0 φ' ρ (σ.new (.box l)) fs (w.alloc (.cells v.cells t))∧SVR (w.alloc (.cells v.cells t)) X φ' ρ (σ.nx+1) (.ptr σ.nx i0 0) (.pointer (some ⟨w.heap.size,0,none⟩))∧Evo X φ φ' σ.nx w (w.alloc (.cells v.cells t))∧
     (∀m,m≠σ.nx→φ' m=φ m):=by
 have ev:Evo X φ (upd φ σ.nx (Bk.of (some w.heap.size) 0 1 t)) σ.nx w (w.alloc (.cells v.cells t)):=Evo.alloc _
 refine⟨upd φ σ.nx (Bk.of (some w.heap.size) 0 1 t),h.new (.box l) v.cells t 0 1 ?_,?_,ev,fun m hm=>upd_other _ _ _ _ hm⟩
 · simp only[ObR]
   exact⟨trivial,w.heap.size,v.cells,rfl,heap_alloc_new w _,SVRs.evo ev (List.prefix_refl _) (Nat.le_succ _) _ _ hl⟩
 · simp only[SVR]
   refine⟨rfl,by omega,⟨_,rfl⟩,fun k hk=>?_⟩
   rw[upd_same]at hk
   cases hk
   exact⟨w.heap.size,rfl,by simp[i0,Ex.den,PV.i],by simp[i0,Ex.den,PV.i],by simp[i0,Ex.den,PV.i]⟩
theorem flat_get {α:Type} (l:List α) (hl:0 < l.length):∀ (n j:Nat),j < n*l.length→(List.replicate n l).flatten[j]? =l[j % l.length]?
 | 0,j,h=>by omega
 | n+1,j,h=>by
  rw[List.replicate_succ,List.flatten_cons]
  by_cases hj:j < l.length
  · rw[List.getElem?_append_left hj,Nat.mod_eq_of_lt hj]
  · rw[List.getElem?_append_right (by omega),flat_get l hl n (j - l.length) (by rw[Nat.add_mul,Nat.one_mul]at h;omega),←Nat.mod_eq_sub_mod (by omega:j≥l.length)]
theorem made_flat (z:Array Value) (n:Nat) (hz:0 < z.size):(madeCells z (n*z.size)).toList=(List.replicate n z.toList).flatten:=by
 apply List.ext_getElem?
 intro j
 by_cases hj:j < n*z.size
 · have h1:j % z.size < z.size:=Nat.mod_lt _ hz
   rw[flat_get z.toList (by simpa using hz) n j (by simpa using hj)]
   simp[madeCells,hj,h1]
 · rw[List.getElem?_eq_none (by simp[madeCells];omega),List.getElem?_eq_none (by simp;omega)]
theorem SVRs.flat {l:List SV} {vs:List Value} (h:SVRs w X φ ρ nx l vs):∀n,SVRs w X φ ρ nx (List.replicate n l).flatten (List.replicate n vs).flatten
 | 0=>by simp[SVRs]
 | n+1=>by rw[List.replicate_succ,List.replicate_succ,List.flatten_cons,List.flatten_cons];exact h.append (SVRs.flat h n)
theorem RVs.split {U:Nat→Prop}:∀ {k1 k2:List LK} {ps:List PV} {vs:List Value},RVs w U (k1++k2) ps vs→
    RVs w U k1 (ps.take k1.length) (vs.take k1.length)∧RVs w U k2 (ps.drop k1.length) (vs.drop k1.length)
 | [],k2,ps,vs,h=>by simp only[List.nil_append]at h;simp[RVs,h]
 | k::k1,k2,ps,vs,h=>by
  simp only[List.cons_append,RVs]at h
  obtain⟨p,ps',v,vs',rfl,rfl,h1,h2⟩:=h
  obtain⟨h3,h4⟩:=RVs.split h2
  simp only[List.length_cons,List.take_succ_cons,List.drop_succ_cons,RVs]
  exact⟨⟨p,_,v,_,rfl,rfl,h1,h3⟩,h4⟩
theorem RVs.join {U:Nat→Prop}:∀ {k1 k2:List LK} {ps qs:List PV} {vs us:List Value},RVs w U k1 ps vs→RVs w U k2 qs us→RVs w U (k1++k2) (ps++qs) (vs++us)
 | [],k2,ps,qs,vs,us,h,h'=>by simp only[RVs]at h;rw[h.1,h.2];simpa using h'
 | k::k1,k2,ps,qs,vs,us,h,h'=>by
  simp only[RVs]at h
  obtain⟨p,ps',v,vs',rfl,rfl,h1,h2⟩:=h
  simp only[List.cons_append,RVs]
  exact⟨p,_,v,_,rfl,rfl,h1,RVs.join h2 h'⟩
theorem RVs.rows {U:Nat→Prop} {ks:List LK}:∀ (n:Nat) (ps:List PV) (vs:List Value),RVs w U (List.replicate n ks).flatten ps vs→
    ∀i x,(chunks n ks.length ps)[i]? =some x→RVs w U ks x ((vs.drop (i*ks.length)).take ks.length)
 | 0,ps,vs,_,i,x,hx=>by simp[chunks]at hx
 | n+1,ps,vs,h,i,x,hx=>by
  rw[List.replicate_succ,List.flatten_cons]at h
  obtain⟨h1,h2⟩:=RVs.split h
  cases i with
  | zero=>simp only[chunks,List.getElem?_cons_zero,Option.some.injEq]at hx;subst hx;simpa using h1
  | succ i=>
   simp only[chunks,List.getElem?_cons_succ]at hx
   have:=RVs.rows n _ _ h2 i x hx
   rw[List.drop_drop]at this
   rw[Nat.add_mul,Nat.one_mul,Nat.add_comm (i*ks.length)]
   exact this
theorem chunks_map {α β:Type} (f:α→β) (s:Nat):∀ (n:Nat) (l:List α),chunks n s (l.map f)=(chunks n s l).map (·.map f)
 | 0,l=>rfl
 | n+1,l=>by simp only[chunks,List.map_cons,←List.map_take,←List.map_drop,chunks_map f s n]
theorem chunks_len {α:Type} (s:Nat):∀ (n:Nat) (l:List α),(chunks n s l).length=n
 | 0,l=>rfl
 | n+1,l=>by simp[chunks,chunks_len s n]
theorem den_consCells:∀es:List Ex,(consCells es).den ρ= .cells (es.map (·.den ρ))
 | []=>rfl
 | e::r=>by simp only[consCells,Ex.den,BO.on,den_consCells r,PV.c,List.map_cons]
theorem fits_consCells {n:Nat}:∀es:List Ex,(∀e∈es,e.fits n=true)→(consCells es).fits n=true
 | [],_=>rfl
 | e::r,h=>by simp only[consCells,Ex.fits,Bool.and_eq_true];exact⟨h e (by simp),fits_consCells r (fun x hx=>h x (by simp[hx]))⟩
theorem den_snocs:∀ (cs:List (List Ex)) (r:Ex) (xs:List (List PV)),r.den ρ= .row xs→(snocs r cs).den ρ= .row (xs++cs.map (·.map (·.den ρ)))
 | [],r,xs,h=>by simp[snocs,h]
 | c::cs,r,xs,h=>by
  rw[show snocs r (c::cs)=snocs (.bin .snoc r (consCells c)) cs from rfl,den_snocs cs _ (xs++ [c.map (·.den ρ)]) (by simp only[Ex.den,BO.on,h,den_consCells,PV.r,PV.c])]
  simp
theorem fits_snocs {n:Nat}:∀ (cs:List (List Ex)) (r:Ex),r.fits n=true→(∀c∈cs,∀e∈c,e.fits n=true)→(snocs r cs).fits n=true
 | [],r,h,_=>h
 | c::cs,r,h,hc=>fits_snocs cs _ (by simp only[Ex.fits,Bool.and_eq_true];exact⟨h,fits_consCells c (hc c (by simp))⟩) (fun d hd=>hc d (by simp[hd]))
theorem chunks_mem {α:Type} (s:Nat):∀ (n:Nat) (l:List α),∀c∈chunks n s l,∀e∈c,e∈l
 | 0,l,c,hc,_,_=>by simp[chunks]at hc
 | n+1,l,c,hc,e,he=>by
  simp only[chunks,List.mem_cons]at hc
  rcases hc with rfl | hc
  · exact List.mem_of_mem_take he
  · exact List.mem_of_mem_drop (chunks_mem s n _ c hc e he)
theorem Rel.rowNew (h:Rel X W0 φ ρ σ fs w) {ks:List LK} {e:Ex} {xs:List (List PV)} {c:Array Value} {el:TypeId} {n cap:Nat} (fe:e.fits ρ.length=true) (de:e.den ρ= .row xs) (hn:xs.length=n) (hcap:n≤cap) (hmax:cap≤maxLen)
    (hc:c.size=cap*ks.length) (hr:∀i x,xs[i]? =some x→RVs w (Owned X φ) ks x ((c.toList.drop (i*ks.length)).take ks.length)) :
    ∃φ',Rel X W0 φ' ρ (σ.new (.rows ks e)) fs (w.alloc (.cells c el))∧SVR (w.alloc (.cells c el)) X φ' ρ (σ.nx+1) (.own σ.nx none) (.slice (some ⟨w.heap.size,0,none⟩) n cap)∧Evo X φ φ' σ.nx w (w.alloc (.cells c el))∧
     (∀m,m≠σ.nx→φ' m=φ m):=by
 have ev:Evo X φ (upd φ σ.nx (Bk.of (some w.heap.size) ks.length n el)) σ.nx w (w.alloc (.cells c el)):=Evo.alloc _
 refine⟨upd φ σ.nx (Bk.of (some w.heap.size) ks.length n el),h.new (.rows ks e) c el ks.length n ?_,?_,ev,fun m hm=>upd_other _ _ _ _ hm⟩
 · simp only[ObR]
   exact⟨fe,trivial,xs,de,hn,c,heap_alloc_new w _,fun i x hx=>RVs.mono ev.size ev.rv ks x _ (hr i x hx)⟩
 · simp only[SVR]
   refine⟨by omega,⟨_,_,_,rfl⟩,fun k hk=>?_⟩
   rw[upd_same]at hk
   cases hk
   simp only[OwnAt]
   exact⟨cap,c,rfl,heap_alloc_new w _,hcap,hmax,hc⟩
end
end Go.Proofs.YtckjdlmfibjpaaaGreat.Sx
set_option linter.unusedVariables false
set_option linter.unusedSimpArgs false
namespace Go.Proofs.YtckjdlmfibjpaaaGreat.Sx
open Go.RowKit
def newOp:Op→Bool
 | .alloc _ | .box .. | .buildSlice .. | .makeSlice .. | .makeMap ..=>true
 | _=>false
section
variable {P:Program} {X:Env} {W0:World} {φ:Names} {ρ:List PV} {σ:St} {a:Act} {fs:List Act} {w:World} {nx:Nat}
def New1 (P:Program) (X:Env) (W0:World) (φ:Names) (ρ:List PV) (σ:St) (a:Act) (fs:List Act) (w:World) (o:Oper) (sv:SV) (σ':St):Prop:=
 ∃φ' v ob,(execOp a.eval o).run P w= .ok (.value v) (w.alloc ob)∧Rel X W0 φ' ρ σ' (a::fs) (w.alloc ob)∧SVR (w.alloc ob) X φ' ρ σ'.nx sv v∧Evo X φ φ' σ.nx w (w.alloc ob)∧(∀m,m≠σ.nx→φ' m=φ m)
theorem den_make {zs:List Ex} {ne:Ex} {k:IntKind} {n:Int} (hn:ne.den ρ= .int k n):(Ex.bin .make (consCells zs) ne).den ρ= .row (List.replicate n.toNat (zs.map (·.den ρ))):=by
 simp only[Ex.den,BO.on,den_consCells,hn,PV.i,PV.c]
theorem new_sound (h:Rel X W0 φ ρ σ (a::fs) w) {o:Oper} (hp:newOp o.op=true) {gs:List Ex} {sv:SV} {σ':St} (hs:simple P σ o.op=some (gs,sv,σ')) :
    (∃ob,σ'=σ.new ob)∧(∀g∈gs,g.fits ρ.length=true)∧((∀g∈gs,(g.den ρ).b=true)→New1 P X W0 φ ρ σ a fs w o sv σ'):=by
 obtain⟨dst,op,ty,pos,aft,gd⟩:=o
 simp only at hp hs
 cases op with
 | alloc t=>
  simp only[simple,Option.bind_eq_some_iff]at hs
  obtain⟨l,hz,hs⟩:=hs
  split at hs
  · simp only[Option.some.injEq,Prod.mk.injEq]at hs
    obtain⟨rfl,rfl,rfl⟩:=hs
    refine⟨⟨_,rfl⟩,List.forall_mem_nil _,fun _=>?_⟩
    obtain⟨z,i,hi,hzi,hrun,hzs⟩:=zero_sound (w:=w) (X:=X) (φ:=φ) (ρ:=ρ) (nx:=σ.nx) hz
    obtain⟨φ',h1,h2,h3,h4⟩:=h.box (t:=t) hzs
    refine⟨φ',_,_,?_,h1,h2,h3,h4⟩
    simp only[execOp,Instr.alloc,Sem.run_bind,hrun,Result.andThen_ok,run_newVar,Sem.run_pure]
  · cases hs
 | makeMap t r=>
  cases r with
  | some r=>simp[simple]at hs
  | none=>
   simp only[simple]at hs
   split at hs
   · simp only[Option.some.injEq,Prod.mk.injEq]at hs
     obtain⟨rfl,rfl,rfl⟩:=hs
     refine⟨⟨_,rfl⟩,List.forall_mem_nil _,fun _=>⟨upd φ σ.nx (Bk.of (some w.heap.size) 0 0 0),.map (some w.heap.size),.map #[] 0,?_,h.newMap,?_,Evo.alloc _,fun m hm=>upd_other _ _ _ _ hm⟩⟩
     · simp[execOp,Instr.makeMap,newObj,Sem.run]
     · simp only[SVR]
       refine⟨Nat.lt_succ_self _,⟨_,rfl⟩,fun k hk=>?_⟩
       rw[upd_same]at hk
       cases hk
       exact⟨_,rfl,rfl⟩
   · cases hs
 | box t x=>
  simp only[simple,Option.map_eq_some_iff,Prod.mk.injEq]at hs
  obtain⟨l,hc,rfl,rfl,rfl⟩:=hs
  refine⟨⟨_,rfl⟩,List.forall_mem_nil _,fun _=>?_⟩
  obtain⟨hzs,_⟩:=cellsOfSV_sound (h.ev x) hc
  obtain⟨φ',h1,h2,h3,h4⟩:=h.box (t:=t) hzs
  refine⟨φ',_,_,?_,h1,h2,h3,h4⟩
  simp only[execOp,Instr.box,Sem.run_bind,Result.andThen_ok,run_newVar,Sem.run_pure]
 | buildSlice t n parts=>
  simp only[simple]at hs
  split at hs
  · rename_i el hu
    split at hs
    · rename_i ks z s hk hz hsz
      split at hs
      · rename_i hc
        simp only[Bool.and_eq_true,beq_iff_eq,decide_eq_true_eq]at hc
        obtain⟨⟨⟨rfl,hzl⟩,hpos⟩,hsmall⟩:=hc
        split at hs
        · rename_i cs hf
          simp only[Option.map_eq_some_iff,Prod.mk.injEq]at hs
          obtain⟨es,hes,rfl,rfl,rfl⟩:=hs
          refine⟨⟨_,rfl⟩,List.forall_mem_nil _,fun _=>?_⟩
          obtain⟨zv,i,hi,hzi,hrun,hzs⟩:=zero_sound (w:=w) (X:=X) (φ:=φ) (ρ:=ρ) (nx:=σ.nx) hz
          have hzsz:zv.cells.size=ks.length:=by have:=hzs.length;simp at this;omega
          have hmade:SVRs w X φ ρ σ.nx (List.replicate n z).flatten (madeCells zv.cells (n*ks.length)).toList:=by
           rw[←hzsz,made_flat _ _ (by omega)]
           exact hzs.flat n
          obtain⟨vs',hf',hr,_,hlen⟩:=fill_sound (fun x=>h.ev x) _ _ _ _ hmade hf
          obtain⟨fes,hrv⟩:=leavesS_sound hr hes
          have hvl:=hrv.length
          have hkl:(List.replicate n ks).flatten.length=n*ks.length:=by simp
          have hrows:=RVs.rows n _ _ hrv
          have hcsz:vs'.size=n*ks.length:=by have:=hvl.2;rw[hkl]at this;simpa using this
          have hden:(snocs .nil (chunks n ks.length es)).den ρ= .row (chunks n ks.length (es.map (·.den ρ))):=by
           rw[den_snocs _ _ [] rfl,chunks_map];simp
          obtain⟨φ',h1,h2,h3,h4⟩:=h.rowNew (el:=el) (fits_snocs _ _ rfl (fun c hc e he=>fes e (chunks_mem _ _ _ c hc e he))) hden (chunks_len _ _ _) (Nat.le_refl _)
           (by simp only[maxLen];have:n≤n*ks.length:=Nat.le_mul_of_pos_right _ (by omega);omega) hcsz hrows
          refine⟨φ',_,_,?_,h1,h2,h3,h4⟩
          have hnot:¬ (n*ks.length > 2 ^ 24):=by omega
          have hparts:(parts.map fun(i,x)=>(i,a.eval x)).toList=parts.toList.map fun p=>(p.1,a.eval p.2):=by simp
          simp only[execOp,Instr.buildSlice,Sem.run_bind,run_underlying hu,Result.andThen_ok,run_size hsz,Sem.run_ite,hnot,if_false,Sem.run_pure]
          by_cases hn0:n*ks.length=0
          · have hm0:madeCells zv.cells (n*ks.length)= #[]:=by rw[hn0];simp[madeCells]
            rw[hm0]at hf'
            simp only[hn0,if_true,Result.andThen_ok,Sem.run_pure,hparts]
            have:(Array.range 0).map (fun x=>(#[]:Array Value)[x % (#[]:Array Value).size]!)= #[]:=by simp
            rw[this,hf']
            simp[newRow]
          · simp only[hn0,if_false,Sem.run_bind,hrun,Result.andThen_ok,Sem.run_pure,hparts]
            rw[show(Array.range (n*ks.length)).map (fun x=>zv.cells[x % zv.cells.size]!)=madeCells zv.cells (n*ks.length)from rfl,hf']
            simp[newRow]
        · cases hs
      · cases hs
    · cases hs
  · cases hs
 | makeSlice t n c=>
  simp only[simple]at hs
  split at hs
  · rename_i el hu
    split at hs
    · rename_i ks z ti hk hz hti
      split at hs
      · rename_i zs k1 ne k2 ce hzs hne hce
        split at hs
        · rename_i hc
          simp only[Bool.and_eq_true,beq_iff_eq,decide_eq_true_eq]at hc
          obtain⟨⟨⟨hks,hzl⟩,hpos⟩,hby⟩:=hc
          simp only[Option.some.injEq,Prod.mk.injEq]at hs
          obtain⟨rfl,rfl,rfl⟩:=hs
          have hn:=h.ev n
          have hc':=h.ev c
          rw[hne]at hn
          rw[hce]at hc'
          obtain⟨fn,nn,dn,hvn⟩:=svr_int hn
          obtain⟨fc,cc,dc,hvc⟩:=svr_int hc'
          refine⟨⟨_,rfl⟩,fun g hg=>?_,fun hg=>?_⟩
          · simp only[List.mem_cons,List.not_mem_nil,or_false]at hg
            rcases hg with rfl | rfl | rfl
            · exact Ex.fits_mk2 rfl fn
            · exact Ex.fits_mk2 fn fc
            · exact Ex.fits_mk2 fc rfl
          · have g1:=hg _ (by simp:Ex.mk2 (.cmp .leq) i0 ne∈_)
            have g2:=hg (.mk2 (.cmp .leq) ne ce) (by simp)
            have g3:=hg (.mk2 (.cmp .leq) ce (.int .i64 (2 ^ 47 / ti.bytes:Nat))) (by simp)
            rw[Ex.den_mk2]at g1 g2 g3
            rw[dn]at g1 g2
            rw[dc]at g2 g3
            have n0:0≤nn:=of_decide_eq_true g1
            have nc:nn≤cc:=of_decide_eq_true g2
            have cm:cc≤((2 ^ 47 / ti.bytes:Nat):Int):=of_decide_eq_true g3
            obtain⟨zv,i,hi,hzi,hrun,hzsv⟩:=zero_sound (w:=w) (X:=X) (φ:=φ) (ρ:=ρ) (nx:=σ.nx) hz
            rw[hti]at hi
            cases hi
            have hq:(2 ^ 47 / ti.bytes)*ti.bytes≤2 ^ 47:=Nat.div_mul_le_self _ _
            have hcn:cc.toNat≤2 ^ 47 / ti.bytes:=by omega
            have hbytes:(ti.bytes:Int)*cc≤281474976710656:=by
             have h1:cc.toNat*ti.bytes≤2 ^ 47:=Nat.le_trans (Nat.mul_le_mul_right _ hcn) hq
             have h2:(ti.bytes:Int)*cc=((cc.toNat*ti.bytes:Nat):Int):=by
              rw[Int.natCast_mul,Int.toNat_of_nonneg (by omega),Int.mul_comm]
             rw[h2]
             have h3:(2:Nat) ^ 47=140737488355328:=rfl
             omega
            have h63:cc.toNat≤2 ^ 47:=Nat.le_trans hcn (Nat.div_le_self _ _)
            have h3:(2:Nat) ^ 47=140737488355328:=rfl
            have hmk:=run_make (P:=P) w t el ti zv hu hti hzi k1 k2 nn cc n0 nc hbytes (by omega)
            have hzsz:zv.cells.size=ks.length:=by have:=hzsv.length;simp at this;omega
            obtain⟨fzs,hzr⟩:=leavesS_sound hzsv hzs
            have hmade:(madeCells zv.cells (cc.toNat*ti.size)).toList=(List.replicate cc.toNat zv.cells.toList).flatten:=by
             rw[←hks,←hzsz];exact made_flat _ _ (by omega)
            obtain⟨φ',h1,h2,h3,h4⟩:=h.rowNew (el:=el) (ks:=ks) (e:= .bin .make (consCells zs) ne) (xs:=List.replicate nn.toNat (zs.map (·.den ρ))) (c:=madeCells zv.cells (cc.toNat*ti.size)) (n:=nn.toNat) (cap:=cc.toNat)
             (by simp only[Ex.fits,Bool.and_eq_true];exact⟨fits_consCells _ fzs,fn⟩) (den_make dn) (by simp) (by omega) (by simp only[maxLen];omega) (by rw[size_madeCells,hks])
             (fun i x hx=>by
              have hil:i < nn.toNat:=by have:=(List.getElem?_eq_some_iff.1 hx).1;simpa using this
              have hxe:x=zs.map (·.den ρ):=by rw[List.getElem?_replicate]at hx;split at hx <;> simp_all
              subst hxe
              have:((madeCells zv.cells (cc.toNat*ti.size)).toList.drop (i*ks.length)).take ks.length=zv.cells.toList:=by
               rw[hmade]
               apply List.ext_getElem?
               intro j
               have hzl':zv.cells.toList.length=ks.length:=by simpa using hzsz
               by_cases hj:j < ks.length
               · rw[List.getElem?_take_of_lt hj,List.getElem?_drop]
                 have hlt:i*ks.length+j < cc.toNat*zv.cells.toList.length:=by
                  rw[hzl']
                  have:(i+1)*ks.length≤cc.toNat*ks.length:=Nat.mul_le_mul_right _ (by omega)
                  rw[Nat.add_mul]at this
                  omega
                 rw[flat_get _ (by omega) _ _ hlt,hzl',Nat.mul_comm,Nat.mul_add_mod,Nat.mod_eq_of_lt hj]
               · rw[List.getElem?_eq_none (by simp;omega),List.getElem?_eq_none (by omega)]
              rw[this]
              exact hzr)
            refine⟨φ',_,_,?_,h1,h2,h3,h4⟩
            simp only[execOp,hvn,hvc,Sem.run_bind,hmk,Result.andThen_ok,Sem.run_pure]
        · cases hs
      · cases hs
    · cases hs
  · cases hs
 | _=>simp[newOp]at hp
end
end Go.Proofs.YtckjdlmfibjpaaaGreat.Sx
set_option linter.unusedVariables false
set_option linter.unusedSimpArgs false
namespace Go.Proofs.YtckjdlmfibjpaaaGreat.Sx
open Go.RowKit
section
variable {P:Program} {X:Env} {W0:World} {φ:Names} {ρ:List PV} {σ:St} {a:Act} {fs:List Act} {w:World} {nx:Nat}
theorem splice_get {α:Type} {L vs:List α} {p:Nat} (h:p+vs.length≤L.length) (j:Nat):(splice L p vs)[j]? =if j < p then L[j]? else if j < p+vs.length then vs[j - p]? else L[j]?:=by
 unfold splice
 by_cases h1:j < p
 · rw[if_pos h1,List.append_assoc,List.getElem?_append_left (by simp;omega),List.getElem?_take_of_lt h1]
 · rw[if_neg h1]
   by_cases h2:j < p+vs.length
   · rw[if_pos h2,List.getElem?_append_left (by simp;omega),List.getElem?_append_right (by simp;omega)]
     congr 1
     simp
     omega
   · rw[if_neg h2,List.getElem?_append_right (by simp;omega),List.getElem?_drop]
     congr 1
     simp
     omega
theorem splice_len {α:Type} {L vs:List α} {p:Nat} (h:p+vs.length≤L.length):(splice L p vs).length=L.length:=by unfold splice;simp;omega
theorem elem_splice {α:Type} {L vs:List α} {s i o m:Nat} (ho:o+vs.length≤s) (hL:(i+1)*s≤L.length) (hm:(m+1)*s≤L.length) :
    ((splice L (i*s+o) vs).drop (m*s)).take s=if m=i then splice ((L.drop (i*s)).take s) o vs else(L.drop (m*s)).take s:=by
 have hfit:i*s+o+vs.length≤L.length:=by rw[Nat.add_mul]at hL;omega
 have hlen:((L.drop (i*s)).take s).length=s:=by rw[Nat.add_mul]at hL;simp;omega
 apply List.ext_getElem?
 intro j
 by_cases hj:j < s
 · rw[List.getElem?_take_of_lt hj,List.getElem?_drop,splice_get (by omega)]
   by_cases hmi:m=i
   · subst hmi
     rw[if_pos rfl,splice_get (by omega),List.getElem?_take_of_lt hj,List.getElem?_drop]
     by_cases h1:j < o
     · rw[if_pos (by omega),if_pos h1]
     · rw[if_neg (by omega),if_neg h1]
       by_cases h2:j < o+vs.length
       · rw[if_pos (by omega),if_pos h2];congr 1;omega
       · rw[if_neg (by omega),if_neg h2]
   · rw[if_neg hmi,List.getElem?_take_of_lt hj,List.getElem?_drop]
     rcases Nat.lt_or_gt_of_ne hmi with hlt | hgt
     · have:(m+1)*s≤i*s:=Nat.mul_le_mul_right _ hlt
       rw[Nat.add_mul]at this
       rw[if_pos (by omega)]
     · have:(i+1)*s≤m*s:=Nat.mul_le_mul_right _ hgt
       rw[Nat.add_mul]at this
       rw[if_neg (by omega),if_neg (by omega)]
 · rw[List.getElem?_eq_none (by simp;omega)]
   symm
   apply List.getElem?_eq_none
   split
   · rw[splice_len (by omega)];omega
   · simp;omega
theorem RVs.splice {U:Nat→Prop} {ks:List LK} {x ps:List PV} {L vs:List Value} {o m:Nat} (hx:RVs w U ks x L) (hp:RVs w U ((ks.drop o).take m) ps vs) (ho:o+m≤ks.length) :
    RVs w U ks (splice x o ps) (Sx.splice L o vs):=by
 have hpl:=hp.length
 have hm:((ks.drop o).take m).length=m:=by simp;omega
 have e:ks=ks.take o++((ks.drop o).take m++ks.drop (o+m)):=by
  rw[←List.drop_drop,List.take_append_drop,List.take_append_drop]
 rw[e]at hx
 obtain⟨h1,h2⟩:=RVs.split hx
 obtain⟨_,h3⟩:=RVs.split h2
 have ht:(ks.take o).length=o:=by simp;omega
 rw[ht]at h1 h3
 rw[hm]at h3
 rw[List.drop_drop,List.drop_drop]at h3
 unfold Sx.splice
 rw[hpl.1,hpl.2,hm]
 conv=>arg 3;rw[e]
 rw[List.append_assoc,List.append_assoc]
 exact h1.join (hp.join h3)
def putl {α:Type} (c:List α):Nat→List α→List α
 | _,[]=>c
 | o,p::r=>putl (c.set o p) (o+1) r
theorem putl_splice {α:Type}:∀ (ps c:List α) (o:Nat),o+ps.length≤c.length→putl c o ps=splice c o ps
 | [],c,o,_=>by simp[putl,splice]
 | p::r,c,o,h=>by
  simp only[List.length_cons]at h
  simp only[putl]
  rw[putl_splice r _ _ (by simp;omega)]
  apply List.ext_getElem?
  intro j
  rw[splice_get (by simp;omega),splice_get (by simpa using h)]
  by_cases h1:j < o
  · rw[if_pos (by omega),if_pos h1,List.getElem?_set_ne (by omega)]
  · rw[if_neg h1]
    by_cases h2:j=o
    · subst h2
      rw[if_pos (by omega),if_pos (by simp),List.getElem?_set_self (by omega)]
      simp
    · rw[if_neg (by omega)]
      by_cases h3:j < o+1+r.length
      · rw[if_pos h3,if_pos (by simp;omega),show j - o=(j - (o+1))+1 by omega];rfl
      · rw[if_neg h3,if_neg (by simp;omega),List.getElem?_set_ne (by omega)]
theorem den_putCells {i:Ex}:∀ (es:List Ex) (e:Ex) (o:Nat) (rows:List (List PV)),e.den ρ= .row rows→(putCells e i o es).den ρ= .row (rows.modify (i.den ρ).i.toNat fun c=>putl c o (es.map (·.den ρ)))
 | [],e,o,rows,h=>by simp only[putCells,putl,h,List.map_nil];congr 1;exact(List.modify_id _ _).symm
 | x::r,e,o,rows,h=>by
  rw[show putCells e i o (x::r)=putCells (.tri (.put o) e i x) i (o+1) r from rfl,
   den_putCells r _ (o+1) (rows.modify (i.den ρ).i.toNat (·.set o (x.den ρ))) (by simp only[Ex.den,TO.on,h,PV.r])]
  congr 1
  rw[List.modify_modify_eq]
  rfl
theorem fits_putCells {n:Nat} {i:Ex} (hi:i.fits n=true):∀ (es:List Ex) (e:Ex) (o:Nat),e.fits n=true→(∀x∈es,x.fits n=true)→(putCells e i o es).fits n=true
 | [],e,o,h,_=>h
 | x::r,e,o,h,hx=>fits_putCells hi r _ _ (by simp only[Ex.fits,Bool.and_eq_true];exact⟨⟨h,hi⟩,hx x (by simp)⟩) (fun y hy=>hx y (by simp[hy]))
theorem Evo.write {l:Nat} {k:Bk} {g:Nat} {c c':Array Value} {el:TypeId} (hk:φ l=some k) (hg:k.g=some g) (hc:w.heap[g]? =some (.cells c el (0,0))) (hs:c'.size=c.size):Evo X φ φ nx w (w.setRow g c'):=by
 refine⟨by simp,fun b hb hn=>setRow_other w g b c' (fun e=>hn (.inr ⟨l,k,hk,.inl (by rw[hg,e])⟩)),fun l' k' g' d hl' hk' hg' hd=>?_,fun _ _=> .inl rfl,fun b _ h=>h⟩
 by_cases he:g'=g
 · subst he
   rw[hc]at hd
   cases hd
   exact⟨c',setRow_heap w g' c c' _ _ hc,hs⟩
 · exact⟨d,by rw[setRow_other w g g' c' he];exact hd,rfl⟩
theorem Rel.write (h:Rel X W0 φ ρ σ fs w) {l:Nat} {ob':Ob} {k:Bk} {g:Nat} {c c':Array Value} (hk:φ l=some k) (hg:k.g=some g) (hc:w.heap[g]? =some (.cells c k.el (0,0))) (hs:c'.size=c.size)
    (ho:ObR (w.setRow g c') X φ ρ σ.nx k ob'):Rel X W0 φ ρ { σ with heap:=puta σ.heap l ob' } fs (w.setRow g c'):=by
 have ev:Evo X φ φ σ.nx w (w.setRow g c'):=Evo.write hk hg hc hs
 have hlow:=h.lowg l k g hk hg
 refine⟨h.below.trans ⟨rfl,rfl,rfl,by simp,fun b hb=>setRow_other w g b c' (by omega)⟩,h.old,fun l' k' g' hl' hg'=>by rw[size_setRow];exact h.low l' k' g' hl' hg',h.inj,h.names,h.nv,h.known,
  FrsR.evo ev (List.prefix_refl _) (Nat.le_refl _) _ _ h.frames,fun l' ob hl'=>?_⟩
 by_cases he:l'=l
 · subst he
   rw[look_put_same]at hl'
   cases hl'
   exact⟨k,hk,ho⟩
 · rw[look_put_other _ _ _ _ he]at hl'
   obtain⟨k',hk',hob⟩:=h.heap l' ob hl'
   refine⟨k',hk',ObR.evo ev (List.prefix_refl _) (Nat.le_refl _) (fun g' hg'=>setRow_other w g g' c' (fun e=>he ?_)) ob hob⟩
   exact h.inj l' l k' k g hk' hk (e▸hg') (.inl hg)
theorem Rel.writeMap (h:Rel X W0 φ ρ σ fs w) {l:Nat} {ob':Ob} {k:Bk} {g:Nat} {w':World} (hk:φ l=some k) (hg:k.g=some g) (hc:∀c t f,w.heap[g]? ≠some (.cells c t f)) (hb:w.grownBy w' (some g))
    (ho:ObR w' X φ ρ σ.nx k ob'):Evo X φ φ σ.nx w w'∧Rel X W0 φ ρ { σ with heap:=puta σ.heap l ob' } fs w':=by
 have hlow:=h.lowg l k g hk hg
 have hoth:∀b,b < w.heap.size→b≠g→w'.heap[b]? =w.heap[b]?:=fun b h1 h2=>hb.block b h1 (fun e=>h2 (by cases e;rfl))
 have ev:Evo X φ φ σ.nx w w':=by
  refine⟨hb.size,fun b hlt hn=>hoth b hlt (fun e=>hn (e▸ .inr ⟨l,k,hk,.inl hg⟩)),fun l' k' g' c _ hk' hg' hh=>⟨c,?_,rfl⟩,fun _ _=> .inl rfl,fun _ _ h=>h⟩
  rw[hoth g' (Array.getElem?_eq_some_iff.1 hh).1 (fun e=>hc _ _ _ (e▸hh))]
  exact hh
 refine⟨ev,h.below.trans ⟨hb.os,hb.tape,hb.output,hb.size,fun b hlt=>hoth b (by omega) (by omega)⟩,h.old,fun l' k' g' hl' hg'=>⟨(h.low l' k' g' hl' hg').1,Nat.lt_of_lt_of_le (h.low l' k' g' hl' hg').2 hb.size⟩,h.inj,h.names,h.nv,h.known,
  FrsR.evo ev (List.prefix_refl _) (Nat.le_refl _) _ _ h.frames,fun l' ob hl'=>?_⟩
 by_cases he:l'=l
 · subst he
   rw[look_put_same]at hl'
   cases hl'
   exact⟨k,hk,ho⟩
 · rw[look_put_other _ _ _ _ he]at hl'
   obtain⟨k',hk',hob⟩:=h.heap l' ob hl'
   refine⟨k',hk',ObR.evo ev (List.prefix_refl _) (Nat.le_refl _) (fun g' hg'=>hoth g' (h.low l' k' g' hk' hg').2 (fun e=>he ?_)) ob hob⟩
   exact h.inj l' l k' k g hk' hk (e▸hg') (.inl hg)
theorem mapUpdate_sound (h:Rel X W0 φ ρ σ (a::fs) w) {o:Oper} {t:TypeId} {m x v:Operand} (hop:o.op= .mapUpdate t m x v) {gs:List Ex} {sv:SV} {σ':St} (hs:simple P σ o.op=some (gs,sv,σ')) :
    sv= .undef∧(∀g∈gs,g.fits ρ.length=true)∧(∃l ob,σ'= { σ with heap:=puta σ.heap l ob })∧((∀g∈gs,(g.den ρ).b=true)→∃w',(execOp a.eval o).run P w= .ok .skip w'∧Rel X W0 φ ρ σ' (a::fs) w'∧Evo X φ φ σ.nx w w'):=by
 rw[hop]at hs
 simp only[simple]at hs
 split at hs
 · rename_i l xe ve hm hx hv
   split at hs
   · rename_i e hl
     split at hs
     · rename_i hT
       simp only[Option.some.injEq,Prod.mk.injEq]at hs
       obtain⟨rfl,rfl,rfl⟩:=hs
       have hmv:=h.ev m
       rw[hm]at hmv
       simp only[SVR]at hmv
       have hxv:=h.ev x
       rw[hx]at hxv
       obtain⟨fx,a',dx,hxe⟩:=svr_int hxv
       have hvv:=h.ev v
       rw[hv]at hvv
       obtain⟨fv,c',dv,hve⟩:=svr_int hvv
       obtain⟨k',hk',hob⟩:=h.heap l _ hl
       obtain⟨fe,g,xs,hg,hxs,hown⟩:=hob
       obtain⟨g',hg',hmval⟩:=hmv.2.2 k' hk'
       rw[hg]at hg'
       cases hg'
       obtain⟨k,el,ht,hkt,het,hz⟩:=mapT_spec hT
       have hcf:(consCells [xe,ve]).fits ρ.length=true:=by simp only[consCells,Ex.fits,Bool.and_eq_true];exact⟨fx,fv,trivial⟩
       refine⟨rfl,fun g hgm=>?_,⟨_,_,rfl⟩,fun hgd=>?_⟩
       · simp only[List.mem_append,List.mem_singleton]at hgm
         rcases hgm with(hgm | hgm) | rfl
         · exact in64_fits fx g hgm
         · exact in64_fits fv g hgm
         · exact Ex.fits_mk2 (Ex.fits_mk1 fe) rfl
       · have w1:=in64_sound dx (fun g hgm=>hgd g (by simp[hgm]))
         have w2:=in64_sound dv (fun g hgm=>hgd g (by simp[hgm]))
         have w3:=hgd (.mk2 (.cmp .leq) (.mk1 .len e) (.int .i64 roomLen)) (by simp)
         rw[Ex.den_mk2,Ex.den_mk1,hxs]at w3
         have hlen:(xs.length:Int)≤roomLen:=of_decide_eq_true w3
         obtain⟨w',hrun,hown',hgrow⟩:=hown.update hkt het ht w1 w2 (by unfold roomLen at hlen;unfold maxLen;omega)
         have hnc:∀c t f,w.heap[g]? ≠some (.cells c t f):=by
          obtain⟨es,cl,hh,_⟩:=hown
          intro c t f hcc
          rw[hh]at hcc
          cases hcc
         obtain⟨ev,hrel⟩:=h.writeMap (ob':= .imap (.bin .mput e (consCells [xe,ve]))) hk' hg hnc hgrow ⟨by simp only[Ex.fits,Bool.and_eq_true];exact⟨fe,hcf⟩,g,[.int .i64 a',.int .i64 c']::xs,hg,by
          simp only[Ex.den,BO.on,hxs,PV.r,den_consCells,PV.c,List.map_cons,List.map_nil,dx,dv],hown'⟩
         refine⟨w',?_,hrel,ev⟩
         rw[execOp,hop]
         simp[hmval,hxe,hve,hrun]
     · cases hs
   · cases hs
 · cases hs
theorem run_storeAt {t:TypeId} {g o s:Nat} {v:Value} {c:Array Value} {el:TypeId} (hsz:szOf P t=some s) (hv:v.cells.size=s) (hc:w.heap[g]? =some (.cells c el (0,0))) (hf:o+s≤c.size) (h1:∀u∈v.cells.toList,u.oneCell'=true) :
    (Instr.storeAt t (.pointer (some ⟨g,o,none⟩)) v).run P w= .ok () (w.setRow g (splice c.toList o v.cells.toList).toArray):=by
 have hst:=run_storeCells_at P g o el v.cells.toList 0 c w hc (by simp;omega) h1
 simp only[Nat.add_zero]at hst
 simp only[Instr.storeAt,Instr.sureAddr,Sem.run_bind,Sem.run_pure,Result.andThen_ok,storeVar,run_size hsz,hv,ne_eq,not_true_eq_false,if_false,hst]
 rfl
theorem store_sound (h:Rel X W0 φ ρ σ (a::fs) w) {o:Oper} {t:TypeId} {ad x:Operand} (hop:o.op= .store t ad x) {gs:List Ex} {sv:SV} {σ':St} (hs:simple P σ o.op=some (gs,sv,σ')) :
    gs=[]∧sv= .undef∧∃l i off k g c c' ob',σ.ev ad= .ptr l i off∧φ l=some k∧k.g=some g∧w.heap[g]? =some (.cells c k.el (0,0))∧c'.size=c.size∧(look σ.heap l).isSome=true∧
     σ'= { σ with heap:=puta σ.heap l ob' } ∧(execOp a.eval o).run P w= .ok .skip (w.setRow g c')∧ObR (w.setRow g c') X φ ρ σ.nx k ob':=by
 have hrun:∀ {w':World},(Instr.storeAt t (a.eval ad) (a.eval x)).run P w= .ok () w'→(execOp a.eval o).run P w= .ok .skip w':=by
  intro w' hr
  unfold execOp
  rw[hop]
  simp only[Sem.run_bind,hr,Result.andThen_ok,Sem.run_pure]
 rw[hop]at hs
 simp only[simple]at hs
 split at hs
 · rename_i l i off vs s hp hcs hsz
   have hpt:=h.ev ad
   rw[hp]at hpt
   obtain⟨hvs,hsol⟩:=cellsOfSV_sound (h.ev x) hcs
   have hone:=solid_cells hvs hsol
   have hvl:=hvs.length
   split at hs
   · rename_i hsl
     have hsl':=eq_of_beq hsl
     have hvc:(a.eval x).cells.size=s:=by rw[hsl',←hvl];simp
     split at hs
     · rename_i cs hlk
       split at hs
       · rename_i hc0
         simp only[Bool.and_eq_true,decide_eq_true_eq]at hc0
         simp only[Option.some.injEq,Prod.mk.injEq]at hs
         obtain⟨rfl,rfl,rfl⟩:=hs
         have hi0:=same_i0 hc0.1
         subst hi0
         obtain⟨k,hφ,ho⟩:=h.heap l _ hlk
         simp only[ObR]at ho
         obtain⟨hlen,g,c,hg,hc,hcr⟩:=ho
         simp only[SVR]at hpt
         obtain⟨_,_,_,hk⟩:=hpt
         obtain⟨g',hg',_,_,hv⟩:=hk k hφ
         rw[hg]at hg'
         cases hg'
         rw[den_i0]at hv
         have hcl:=hcr.length
         have hcsz:c.size=cs.length:=by simpa using hcl
         have hfit:off+s≤c.size:=by omega
         have hst:=run_storeAt (P:=P) (w:=w) hsz hvc hc hfit hone
         refine⟨rfl,rfl,l,i0,off,k,g,c,(splice c.toList off (a.eval x).cells.toList).toArray,.box (splice cs off vs),hp,hφ,hg,hc,?_,by rw[hlk];rfl,rfl,hrun ?_,?_⟩
         · have:=splice_len (L:=c.toList) (vs:=(a.eval x).cells.toList) (p:=off) (by simp;omega)
           simpa using this
         · rw[hv];simpa using hst
         · have ev:Evo X φ φ σ.nx w (w.setRow g (splice c.toList off (a.eval x).cells.toList).toArray):=Evo.write hφ hg hc (by
            have:=splice_len (L:=c.toList) (vs:=(a.eval x).cells.toList) (p:=off) (by simp;omega)
            simpa using this)
           simp only[ObR]
           refine⟨hlen,g,_,hg,setRow_heap w g c _ _ _ hc,?_⟩
           refine SVRs.evo ev (List.prefix_refl _) (Nat.le_refl _) _ _ ?_
           unfold splice
           rw[hvl]
           exact((hcr.take off).append hvs).append (hcr.drop _)
       · cases hs
     · rename_i ks e hlk
       split at hs
       · rename_i hos
         simp only[Option.map_eq_some_iff,Prod.mk.injEq]at hs
         obtain⟨xs,hxs,rfl,rfl,rfl⟩:=hs
         obtain⟨k,hφ,ho⟩:=h.heap l _ hlk
         have ho':=ho
         simp only[ObR]at ho
         obtain⟨fe,hks,rows,dx,hlen,hm⟩:=ho
         simp only[SVR]at hpt
         obtain⟨fi,_,_,hk⟩:=hpt
         obtain⟨g,hg,h0,hlt,hv⟩:=hk k hφ
         rw[hg]at hm
         simp only at hm
         obtain⟨c,hc,hrow⟩:=hm
         obtain⟨fxs,hxr⟩:=leavesS_sound hvs hxs
         generalize hi:(i.den ρ).i.toNat=n at *
         have hnl:n < rows.length:=by omega
         have hel:∀m,m < rows.length→(m+1)*ks.length≤c.toList.length∨ks.length=0:=by
          intro m hm
          have:=(hrow m _ (List.getElem?_eq_getElem hm)).length.2
          simp only[List.length_take,List.length_drop]at this
          rw[Nat.add_mul]
          omega
         have hfit:n*ks.length+off+s≤c.size:=by
          rcases hel n hnl with hh | hh
          · rw[Nat.add_mul]at hh;simp at hh;omega
          · rw[hh]at hos ⊢;omega
         have hst:=run_storeAt (P:=P) (w:=w) hsz hvc hc hfit hone
         have hvl':(a.eval x).cells.toList.length=s:=by simpa using hvc
         have hsplen:(splice c.toList (n*ks.length+off) (a.eval x).cells.toList).length=c.toList.length:=splice_len (by rw[hvl'];simp;omega)
         have hxl:=hxr.length
         have hms:((ks.drop off).take s).length=s:=by simp;omega
         obtain ⟨rows',hd',hf',hget⟩:∃rows',(if off == 0&& s == ks.length then Ex.tri .set e i (consCells xs)else putCells e i off xs).den ρ= .row rows'∧
             (if off == 0&& s == ks.length then Ex.tri .set e i (consCells xs)else putCells e i off xs).fits ρ.length=true∧
             (∀m y,rows'[m]? =some y→∃z,rows[m]? =some z∧y=if m=n then splice z off (xs.map (·.den ρ))else z)∧rows'.length=rows.length:=by
          split
          · rename_i hfull
            simp only[Bool.and_eq_true,beq_iff_eq]at hfull
            refine⟨rows.set n (xs.map (·.den ρ)),by simp only[Ex.den,TO.on,dx,PV.r,den_consCells,PV.c];rw[←hi],by simp only[Ex.fits,Bool.and_eq_true];exact⟨⟨fe,fi⟩,fits_consCells _ fxs⟩,fun m y hy=>?_,by simp⟩
            by_cases hmn:m=n
            · subst hmn
              rw[List.getElem?_set_self hnl]at hy
              cases hy
              refine⟨rows[m],List.getElem?_eq_getElem hnl,?_⟩
              rw[if_pos rfl,hfull.1]
              have hzl:=(hrow m _ (List.getElem?_eq_getElem hnl)).length.1
              unfold splice
              rw[List.take_zero,List.nil_append,Nat.zero_add,List.drop_eq_nil_of_le (by omega),List.append_nil]
            · rw[List.getElem?_set_ne (by omega)]at hy
              exact⟨y,hy,by rw[if_neg hmn]⟩
          · refine⟨rows.modify n fun c=>putl c off (xs.map (·.den ρ)),by rw[←hi];exact den_putCells xs e off rows dx,fits_putCells fi _ _ _ fe fxs,fun m y hy=>?_,by simp⟩
            rw[List.getElem?_modify]at hy
            by_cases hmn:n=m
            · subst hmn
              rw[List.getElem?_eq_getElem hnl]at hy
              have hy':(if n=n then putl rows[n] off (xs.map (·.den ρ))else rows[n])=y:=Option.some.inj hy
              rw[if_pos rfl]at hy'
              subst hy'
              refine⟨rows[n],List.getElem?_eq_getElem hnl,?_⟩
              rw[if_pos rfl]
              have hzl:=(hrow n _ (List.getElem?_eq_getElem hnl)).length.1
              exact putl_splice _ _ _ (by omega)
            · have:rows[m]? =some y:=by
               cases hz:rows[m]? with
               | none=>rw[hz]at hy;cases hy
               | some z=>
                rw[hz]at hy
                have hy':(if n=m then putl z off (xs.map (·.den ρ))else z)=y:=Option.some.inj hy
                rw[if_neg hmn]at hy'
                rw[hy']
              exact⟨y,this,by rw[if_neg (by omega)]⟩
         refine⟨rfl,rfl,l,i,off,k,g,c,(splice c.toList (n*ks.length+off) (a.eval x).cells.toList).toArray,.rows ks _,hp,hφ,hg,hc,by simpa using hsplen,by rw[hlk];rfl,rfl,hrun ?_,?_⟩
         · rw[hv,hks];exact hst
         · have ev:Evo X φ φ σ.nx w (w.setRow g (splice c.toList (n*ks.length+off) (a.eval x).cells.toList).toArray):=Evo.write hφ hg hc (by simpa using hsplen)
           simp only[ObR]
           refine⟨hf',hks,rows',hd',by omega,?_⟩
           rw[hg]
           refine⟨_,setRow_heap w g c _ _ _ hc,fun m y hy=>?_⟩
           refine RVs.mono ev.size ev.rv _ _ _ ?_
           obtain⟨z,hz,rfl⟩:=hget.1 m y hy
           have hml:m < rows.length:=(List.getElem?_eq_some_iff.1 hz).1
           have hzr:=hrow m z hz
           rcases Nat.eq_zero_or_pos ks.length with h00 | hkpos
           · -- elements without cells
             have hk0:ks=[]:=List.eq_nil_of_length_eq_zero h00
             subst hk0
             have hs0:s=0:=by simp at hos;omega
             have hxs0:xs=[]:=by have:=hxl.1;simp[hs0]at this;exact this
             subst hxs0
             simp only[RVs]at hzr ⊢
             refine⟨?_,by simp⟩
             split
             · rw[hzr.1];simp[splice]
             · exact hzr.1
           · have hn1:(n+1)*ks.length≤c.toList.length:=(hel n hnl).resolve_right (by omega)
             have hm1:(m+1)*ks.length≤c.toList.length:=(hel m hml).resolve_right (by omega)
             show RVs w (Owned X φ) ks _ ((List.drop (m*ks.length) (splice c.toList (n*ks.length+off) (a.eval x).cells.toList)).take ks.length)
             rw[elem_splice (by omega) hn1 hm1]
             by_cases hmn:m=n
             · subst hmn
               rw[if_pos rfl,if_pos rfl]
               exact hzr.splice (m:=s) hxr hos
             · rw[if_neg hmn,if_neg hmn]
               exact hzr
       · cases hs
     · cases hs
   · cases hs
 · cases hs
end
end Go.Proofs.YtckjdlmfibjpaaaGreat.Sx

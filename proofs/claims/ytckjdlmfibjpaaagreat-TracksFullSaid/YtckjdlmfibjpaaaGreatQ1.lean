/- Plain laws that the claim needs (texts joined to one). No condition. -/
import Derived.Test.YtckjdlmfibjpaaaGreatT
import Derived.Test.YtckjdlmfibjpaaaGreatSx6
import Derived.Laws.BitsLemmas
import Derived.Laws.Bits64
set_option linter.unusedVariables false
set_option maxRecDepth 100000
namespace Go.Proofs.YtckjdlmfibjpaaaGreat.T
open Go Go.Proofs.YtckjdlmfibjpaaaGreat.Sx
theorem lives_sp:Says tr c_law27_lives [] [B true]:=says_of_run (t:=law27_lives) rfl (n:=4000) (by kernel_rfl)
end Go.Proofs.YtckjdlmfibjpaaaGreat.T
set_option linter.unusedSimpArgs false
namespace Go.Proofs.YtckjdlmfibjpaaaGreat.M
open Go Go.Proofs.YtckjdlmfibjpaaaGreat.Sx
structure Sz where
 mn:Int
 mx:Int
 fr:Int
 fit:Bool
 cap:Int
 base:Int
 lim:Int
 deriving DecidableEq
@[reducible] def eSz (x:Sz):List PV:= [I x.mn,I x.mx,I x.fr,B x.fit,I x.cap,I x.base,I x.lim]
theorem sz_at0 (l:List Sz) (i:Nat) (h:i < l.length) (k:LK):cellAt (l.map eSz) (i:Int) 0 k=I l[i].mn:=by rw[xcell_at l i h];rfl
theorem sz_at1 (l:List Sz) (i:Nat) (h:i < l.length) (k:LK):cellAt (l.map eSz) (i:Int) 1 k=I l[i].mx:=by rw[xcell_at l i h];rfl
theorem sz_at2 (l:List Sz) (i:Nat) (h:i < l.length) (k:LK):cellAt (l.map eSz) (i:Int) 2 k=I l[i].fr:=by rw[xcell_at l i h];rfl
theorem sz_at3 (l:List Sz) (i:Nat) (h:i < l.length) (k:LK):cellAt (l.map eSz) (i:Int) 3 k=B l[i].fit:=by rw[xcell_at l i h];rfl
theorem sz_at4 (l:List Sz) (i:Nat) (h:i < l.length) (k:LK):cellAt (l.map eSz) (i:Int) 4 k=I l[i].cap:=by rw[xcell_at l i h];rfl
theorem sz_at5 (l:List Sz) (i:Nat) (h:i < l.length) (k:LK):cellAt (l.map eSz) (i:Int) 5 k=I l[i].base:=by rw[xcell_at l i h];rfl
theorem sz_at6 (l:List Sz) (i:Nat) (h:i < l.length) (k:LK):cellAt (l.map eSz) (i:Int) 6 k=I l[i].lim:=by rw[xcell_at l i h];rfl
theorem sz_snoc (l:List Sz) (a b c:Int) (d:Bool) (e f g:Int):PV.row (l.map eSz++ [[I a,I b,I c,B d,I e,I f,I g]])=rowOf eSz (l++ [⟨a,b,c,d,e,f,g⟩]):=xmap_snoc l _ rfl
theorem sz_set (l:List Sz) (i:Nat) (a b c:Int) (d:Bool) (e f g:Int):PV.row ((l.map eSz).set i [I a,I b,I c,B d,I e,I f,I g])=rowOf eSz (l.set i ⟨a,b,c,d,e,f,g⟩):=xmap_set l i _ rfl
theorem sz_put5 (l:List Sz) (i:Nat) (x:Int):PV.row ((l.map eSz).modify i (·.set 5 (I x)))=rowOf eSz (l.modify i fun y=>{ y with base:=x }):=rowOf_put l i 5 (I x) _ (fun y=>rfl)
theorem sz_put6 (l:List Sz) (i:Nat) (x:Int):PV.row ((l.map eSz).modify i (·.set 6 (I x)))=rowOf eSz (l.modify i fun y=>{ y with lim:=x }):=rowOf_put l i 6 (I x) _ (fun y=>rfl)
theorem szs:type_of% (And.intro (And.intro (And.intro @sz_at0 @sz_at1) (And.intro @sz_at2 (And.intro @sz_at3 @sz_at4))) (And.intro (And.intro @sz_at5 (And.intro @sz_at6 @sz_snoc)) (And.intro @sz_set (And.intro @sz_put5 @sz_put6)))):=(And.intro (And.intro (And.intro @sz_at0 @sz_at1) (And.intro @sz_at2 (And.intro @sz_at3 @sz_at4))) (And.intro (And.intro @sz_at5 (And.intro @sz_at6 @sz_snoc)) (And.intro @sz_set (And.intro @sz_put5 @sz_put6))))
def Gd (x:Sz):Prop:=
 1≤x.mn∧x.mn≤4∧1≤x.mx∧x.mx≤5∧0≤x.fr∧x.fr≤1073741824∧(x.mx≠5→x.fr=0)∧0≤x.cap∧x.cap≤68719476736∧(x.fit=false→x.cap=0)∧(x.fit=true→x.mn=2∧x.mx=4)∧
 0≤x.base∧x.base < 1125899906842624∧x.base≤x.lim∧x.lim≤1125899906842624
instance (x:Sz):Decidable (Gd x):=by unfold Gd;infer_instance
def goodB (l:List Sz):Bool:=l.all fun x=>decide (Gd x)
theorem goodB_iff (l:List Sz):goodB l=true↔∀x∈l,Gd x:=by simp[goodB]
theorem gd_in {x:Sz} (h:Gd x):0≤x.base∧x.base < 1125899906842624∧x.base≤x.lim∧x.lim≤1125899906842624:=by
 unfold Gd at h
 omega
def sumS:List Int→List Int→Int→Int×Int
 | b::bs,a::as,n=>if n+b+a≤68719476736 then sumS bs as (n+b+a)else(0,10)
 | _,_,n=>(n,0)
def lensB (l:List Int):Bool:=l.all fun a=>decide (0≤a)&& decide (a≤68719476736)
theorem lensB_iff (l:List Int):lensB l=true↔∀a∈l,0≤a∧a≤68719476736:=by simp[lensB]
theorem lensB_drop (l:List Int) (i:Nat) (h:i < l.length):lensB (l.drop i)=(decide (0≤l[i])&& decide (l[i]≤68719476736)&& lensB (l.drop (i+1))):=by rw[List.drop_eq_getElem_cons h];rfl
structure Tr where
 k0:Int
 n0:Int
 k1:Int
 n1:Int
 fit:Bool
 k2:Int
 n2:Int
 deriving DecidableEq
@[reducible] def eTr (x:Tr):List PV:= [I x.k0,I x.n0,I x.k1,I x.n1,B x.fit,I x.k2,I x.n2]
theorem tr_at0 (l:List Tr) (i:Nat) (h:i < l.length) (k:LK):cellAt (l.map eTr) (i:Int) 0 k=I l[i].k0:=by rw[xcell_at l i h];rfl
theorem tr_at1 (l:List Tr) (i:Nat) (h:i < l.length) (k:LK):cellAt (l.map eTr) (i:Int) 1 k=I l[i].n0:=by rw[xcell_at l i h];rfl
theorem tr_at2 (l:List Tr) (i:Nat) (h:i < l.length) (k:LK):cellAt (l.map eTr) (i:Int) 2 k=I l[i].k1:=by rw[xcell_at l i h];rfl
theorem tr_at3 (l:List Tr) (i:Nat) (h:i < l.length) (k:LK):cellAt (l.map eTr) (i:Int) 3 k=I l[i].n1:=by rw[xcell_at l i h];rfl
theorem tr_at4 (l:List Tr) (i:Nat) (h:i < l.length) (k:LK):cellAt (l.map eTr) (i:Int) 4 k=B l[i].fit:=by rw[xcell_at l i h];rfl
theorem tr_at5 (l:List Tr) (i:Nat) (h:i < l.length) (k:LK):cellAt (l.map eTr) (i:Int) 5 k=I l[i].k2:=by rw[xcell_at l i h];rfl
theorem tr_at6 (l:List Tr) (i:Nat) (h:i < l.length) (k:LK):cellAt (l.map eTr) (i:Int) 6 k=I l[i].n2:=by rw[xcell_at l i h];rfl
theorem tr_snoc (l:List Tr) (a b c d:Int) (e:Bool) (f g:Int):PV.row (l.map eTr++ [[I a,I b,I c,I d,B e,I f,I g]])=rowOf eTr (l++ [⟨a,b,c,d,e,f,g⟩]):=xmap_snoc l _ rfl
theorem trs:type_of% (And.intro (And.intro (And.intro @tr_at0 @tr_at1) (And.intro @tr_at2 @tr_at3)) (And.intro (And.intro @tr_at4 @tr_at5) (And.intro @tr_at6 @tr_snoc))):=(And.intro (And.intro (And.intro @tr_at0 @tr_at1) (And.intro @tr_at2 @tr_at3)) (And.intro (And.intro @tr_at4 @tr_at5) (And.intro @tr_at6 @tr_snoc)))
theorem tr_open {p:PV} (h:(LK.row [.int .i64,.int .i64,.int .i64,.int .i64,.bool,.int .i64,.int .i64]).ok p):∃l:List Tr,p=rowOf eTr l:=by
 refine row_open (W:=fun _=>True) (fun x hx _=>?_) h (fun _ _=>trivial)
 match x,hx with
 | [.int k0 a,.int k1 b,.int k2 c,.int k3 d,.bool e,.int k5 f,.int k6 g],hx=>
  simp only[LK.oks,LK.ok]at hx
  obtain⟨rfl,rfl,rfl,rfl,_,rfl,rfl,_⟩:=hx
  exact⟨⟨a,b,c,d,e,f,g⟩,rfl⟩
theorem trks_open {q:List PV} (h:LK.oks [.int .i64,.row [.int .i64,.int .i64,.int .i64,.int .i64,.bool,.int .i64,.int .i64],.row [.bool],.row [.int .i64]] q) (hw:LK.wfs [.int .i64,.row [.int .i64,.int .i64,.int .i64,.int .i64,.bool,.int .i64,.int .i64],.row [.bool],.row [.int .i64]] q) :
    ∃ (low:PV) (l:List Tr) (g a:PV),q=[low,rowOf eTr l,g,a]∧(LK.int .i64).ok low∧(LK.row [.bool]).ok g∧(LK.row [.int .i64]).ok a∧(LK.int .i64).wf low∧(LK.row [.int .i64,.int .i64,.int .i64,.int .i64,.bool,.int .i64,.int .i64]).wf (rowOf eTr l)∧(LK.row [.bool]).wf g∧(LK.row [.int .i64]).wf a:=by
 match q,h with
 | [low,r,g,a],h=>
  simp only[LK.oks]at h
  simp only[LK.wfs]at hw
  obtain⟨_,_,e,w1,_,_,e2,w2,_,_,e3,w3,_,_,e4,w4,_⟩:=hw
  cases e
  cases e2
  cases e3
  cases e4
  obtain⟨l,rfl⟩:=tr_open h.2.1
  exact⟨low,l,g,a,rfl,h.1,h.2.2.1,h.2.2.2.1,w1,w2,w3,w4⟩
theorem int_open {p:PV} (h:(LK.int .i64).ok p):∃x:Int,p=I x:=by
 match p,h with
 | .int k x,h=>simp only[LK.ok]at h;subst h;exact⟨x,rfl⟩
theorem bool_open {p:PV} (h:(LK.bool).ok p):∃x:Bool,p=B x:=by
 match p,h with
 | .bool x,h=>exact⟨x,rfl⟩
theorem ints_open {p:PV} (h:(LK.row [.int .i64]).ok p):∃l:List Int,p=ints l:=by
 refine row_open (W:=fun _=>True) (fun x hx _=>?_) h (fun _ _=>trivial)
 match x,hx with
 | [.int k0 a],hx=>simp only[LK.oks,LK.ok]at hx;obtain⟨rfl,_⟩:=hx;exact⟨a,rfl⟩
theorem bools_open {p:PV} (h:(LK.row [.bool]).ok p):∃l:List Bool,p=bools l:=by
 refine row_open (W:=fun _=>True) (fun x hx _=>?_) h (fun _ _=>trivial)
 match x,hx with
 | [.bool a],hx=>exact⟨a,rfl⟩
theorem int_wf {x:Int} (h:(LK.int .i64).wf (I x)): -9223372036854775808≤x∧x≤9223372036854775807:=Go.bounds_i64 h
end Go.Proofs.YtckjdlmfibjpaaaGreat.M
namespace Go.Proofs.YtckjdlmfibjpaaaGreat.T
open Go Go.Proofs.YtckjdlmfibjpaaaGreat.Sx Go.Proofs.YtckjdlmfibjpaaaGreat.M
theorem bg1_sp (a lo hi:Int):Says tr c_base_Good_1 [I a,I lo,I hi] [B (decide (lo≤a)&& decide (a≤hi))]:=by
 refine Says.of (t:=base_Good_1) rfl ?_
 rw[u_base_Good_1]
 simp (disch:=first | omega | (simp only[ln0];omega)) only[rs,reduceIte,Nat.reduceAdd,ge_iff_le]
theorem bgood_sp (x:Sz):Says tr c_base_Good (eSz x) [B (decide (Gd x))]:=by
 refine Says.of (t:=base_Good) rfl ?_
 rw[u_base_Good]
 obtain⟨mn,mx,fr,fit,cap,base,lim⟩:=x
 simp only[eSz]
 simp (disch:=first | omega | (simp only[ln0];omega)) only[rs,reduceIte,Nat.reduceAdd,xcall_of (bg1_sp _ _ _),base_Good_j0,List.length_cons,List.length_nil,bx,reduceCtorEq,forall_const,ne_eq]
 unfold Gd
 cases fit <;> (repeat' (refine br_split ?_ ?_ <;> intro _)) <;> simp only[xbret,bx,reduceCtorEq,forall_const,ne_eq]at* <;> omega
theorem braise_sp (x:Sz):Says tr c_base_Raise (eSz x) (eSz { x with lim:=max x.lim x.base }):=by
 refine Says.of (t:=base_Raise) rfl ?_
 rw[u_base_Raise]
 simp only[eSz]
 simp (disch:=first | omega | (simp only[ln0];omega)) only[rs,reduceIte,Nat.reduceAdd,base_Raise_j0]
 refine br_split ?_ ?_ <;> intro _
 · have:max x.lim x.base=x.base:=by omega
   rw[this]
 · have:max x.lim x.base=x.lim:=by omega
   rw[this]
theorem is_sp (x:Int):Says tr c_fixed_Is [I x] [B (decide (-68719476736≤x)&& decide (x≤68719476736))]:=by
 refine Says.of (t:=fixed_Is) rfl ?_
 rw[u_fixed_Is]
 simp (disch:=first | omega | (simp only[ln0];omega)) only[rs,reduceIte,Nat.reduceAdd,ge_iff_le]
theorem mwithin_sp (x:Int):Says tr c_maximise_within [I x] [B (decide (0≤x)&& decide (x≤68719476736))]:=by
 refine Says.of (t:=maximise_within) rfl ?_
 rw[u_maximise_within]
 simp (disch:=first | omega | (simp only[ln0];omega)) only[rs,reduceIte,Nat.reduceAdd,xcall_of (is_sp _),ge_iff_le,List.length_cons,List.length_nil]
 refine br_split ?_ ?_ <;> intro _
 · rename_i h
   simp[h]
   omega
 · rename_i h
   simp[h]
end Go.Proofs.YtckjdlmfibjpaaaGreat.T
set_option maxRecDepth 10000
namespace Go.Proofs.YtckjdlmfibjpaaaGreat.T
open Go Go.Proofs.YtckjdlmfibjpaaaGreat.Sx Go.Proofs.YtckjdlmfibjpaaaGreat.M
structure Wn where
 fm:Int
 to:Int
 least:Int
 mn:Int
 mx:Int
 deriving DecidableEq
@[reducible] def eWn (x:Wn):List PV:= [I x.fm,I x.to,I x.least,I x.mn,I x.mx]
theorem wn_at0 (l:List Wn) (i:Nat) (h:i < l.length) (k:LK):cellAt (l.map eWn) (i:Int) 0 k=I l[i].fm:=by rw[xcell_at l i h];rfl
theorem wn_at1 (l:List Wn) (i:Nat) (h:i < l.length) (k:LK):cellAt (l.map eWn) (i:Int) 1 k=I l[i].to:=by rw[xcell_at l i h];rfl
theorem wn_at2 (l:List Wn) (i:Nat) (h:i < l.length) (k:LK):cellAt (l.map eWn) (i:Int) 2 k=I l[i].least:=by rw[xcell_at l i h];rfl
theorem wn_at3 (l:List Wn) (i:Nat) (h:i < l.length) (k:LK):cellAt (l.map eWn) (i:Int) 3 k=I l[i].mn:=by rw[xcell_at l i h];rfl
theorem wn_at4 (l:List Wn) (i:Nat) (h:i < l.length) (k:LK):cellAt (l.map eWn) (i:Int) 4 k=I l[i].mx:=by rw[xcell_at l i h];rfl
theorem wn_open {p:PV} (h:(LK.row [.int .i64,.int .i64,.int .i64,.int .i64,.int .i64]).ok p):∃l:List Wn,p=rowOf eWn l:=by
 refine row_open (W:=fun _=>True) (fun x hx _=>?_) h (fun _ _=>trivial)
 match x,hx with
 | [.int k0 a,.int k1 b,.int k2 c,.int k3 d,.int k4 e],hx=>
  simp only[LK.oks,LK.ok]at hx
  obtain⟨rfl,rfl,rfl,rfl,rfl,_⟩:=hx
  exact⟨⟨a,b,c,d,e⟩,rfl⟩
def wi (x:Int):Bool:=decide (0≤x)&& decide (x≤68719476736)
theorem iw_sp (x:Int):Says tr c_intrinsic_within [I x] [B (wi x)]:=by
 refine Says.of (t:=intrinsic_within) rfl ?_
 rw[u_intrinsic_within]
 simp (disch:=first | omega | (simp only[ln0];omega)) only[rs,reduceIte,Nat.reduceAdd,xcall_of (is_sp _),ge_iff_le,List.length_cons,List.length_nil]
 unfold wi
 refine br_split ?_ ?_ <;> intro _
 · rename_i h
   simp[h]
   omega
 · rename_i h
   simp[h]
theorem ig1_sp (x:Sz):Says tr c_intrinsic_Good_1 (eSz x) [B (!decide (Gd x))]:=by
 refine Says.of (t:=intrinsic_Good_1) rfl ?_
 rw[u_intrinsic_Good_1]
 have h:=bgood_sp x
 simp (disch:=first | omega | (simp only[ln0];omega)) only[rs,reduceIte,Nat.reduceAdd,xcall_of h]
theorem ig2_sp (x:Int):Says tr c_intrinsic_Good_2 [I x] [B (!wi x)]:=by
 refine Says.of (t:=intrinsic_Good_2) rfl ?_
 rw[u_intrinsic_Good_2]
 simp (disch:=first | omega | (simp only[ln0];omega)) only[rs,reduceIte,Nat.reduceAdd,xcall_of (iw_sp _)]
def okW (n:Nat) (w:Wn):Bool:=decide (0≤w.fm)&& decide (w.fm < w.to)&& decide (w.to≤(n:Int))&& wi w.least&& wi w.mn&& wi w.mx
def goodI (s:List Sz) (a:List Int) (ws:List Wn) (mode:Int):Bool:=
 decide (a.length=s.length)&& decide (ws.length≤4096)&& decide (0≤mode)&& decide (mode≤2)&& s.all (fun x=>decide (Gd x))&& a.all wi&& ws.all (okW s.length)
theorem igood_sp (s:List Sz) (a:List Int) (ws:List Wn) (mode:Int) (hs:s.length≤1000000) (ha:a.length≤1000000):Says tr c_intrinsic_Good [rowOf eSz s,ints a,rowOf eWn ws,I mode] [B (goodI s a ws mode)]:=by
 refine Says.of (t:=intrinsic_Good) rfl ?_
 have hw :ws.length≤4096→∀j,j≤ws.length→Run tr intrinsic_Good_l1 [rowOf eSz s,ints a,rowOf eWn ws,I mode,B false,I j] [.loop intrinsic_Good_l1 [rowOf eSz s,ints a,rowOf eWn ws,I mode,B false]] [B ((ws.drop j).all (okW s.length))]:=by
  intro hwl
  refine xup_ind fun j hj ih=>?_
  rw[u_intrinsic_Good_l1]
  by_cases h:j < ws.length
  · rw [List.drop_eq_getElem_cons h,List.all_cons]
    simp (disch:=first | omega | (simp only[ln0];omega)) only[rs,reduceIte,Nat.reduceAdd,h,wn_at0,wn_at1,wn_at2,wn_at3,wn_at4,xcall_of (iw_sp _),intrinsic_Good_j2,List.length_cons,List.length_nil,Bool.or_eq_true,decide_eq_true_eq,gt_iff_lt,ge_iff_le]
    have e:okW s.length ws[j]=(decide (0≤ws[j].fm)&& decide (ws[j].fm < ws[j].to)&& decide (ws[j].to≤(s.length:Int))&& wi ws[j].least&& wi ws[j].mn&& wi ws[j].mx):=rfl
    by_cases h1:(ws[j].fm < 0∨ws[j].to≤ws[j].fm)∨(s.length:Int) < ws[j].to
    · rw[br_pos h1]
      have:okW s.length ws[j]=false:=by
       rw[e]
       rcases h1 with(h1 | h1) | h1
       · rw[decide_eq_false (by omega:¬0≤ws[j].fm)];rfl
       · rw[decide_eq_false (by omega:¬ws[j].fm < ws[j].to)];simp
       · rw[decide_eq_false (by omega:¬ws[j].to≤(s.length:Int))];simp
      rw[this]
      simp
    · rw [br_neg h1]
      have e1:(decide (0≤ws[j].fm)&& decide (ws[j].fm < ws[j].to)&& decide (ws[j].to≤(s.length:Int)))=true:=by
       simp only[Bool.and_eq_true,decide_eq_true_eq]
       omega
      rw[e,e1]
      have hj1:=ih h
      cases h2:wi ws[j].least with
      | false=>rw[br_neg (by simp)];simp
      | true=>
       rw[br_pos rfl]
       cases h3:wi ws[j].mn with
       | false=>rw[br_neg (by simp)];simp
       | true=>
        rw[br_pos rfl]
        cases h4:wi ws[j].mx with
        | false=>rw[br_pos (by simp)];simp
        | true=>
         rw[br_neg (by simp)]
         simpa using hj1
  · simp (disch:=first | omega | (simp only[ln0];omega)) only[rs,reduceIte,Nat.reduceAdd,h]
    rw[List.drop_of_length_le (by omega)]
    rfl
 have hl:∀j,j≤s.length→∃x:Int,(decide (0≤x)= !(s.drop j).all (fun x=>decide (Gd x)))∧∀J0 r,Run tr intrinsic_Good_j3 [rowOf eSz s,ints a,rowOf eWn ws,I mode,I x] [J0] r→Run tr intrinsic_Good_l6 [rowOf eSz s,ints a,rowOf eWn ws,I mode,I j] [J0,.join intrinsic_Good_j3 [rowOf eSz s,ints a,rowOf eWn ws,I mode],.loop intrinsic_Good_l6 [rowOf eSz s,ints a,rowOf eWn ws,I mode]] r:=by
  refine xup_ind fun j hj ih=>?_
  by_cases h:j < s.length
  · have h1:=ig1_sp s[j]
    rw[List.drop_eq_getElem_cons h]
    by_cases hr:Gd s[j]
    · obtain⟨x,hx1,hx⟩:=ih h
      refine⟨x,by rw[hx1,List.all_cons,decide_eq_true hr,Bool.true_and],fun J0 r hh=>?_⟩
      rw[u_intrinsic_Good_l6]
      rw[decide_eq_true hr]at h1
      simp (disch:=first | omega | (simp only[ln0];omega)) only[rs,reduceIte,Nat.reduceAdd,h,szs,xcall_of h1,Bool.not_true,Bool.false_eq_true]
      repeat rw[br_neg (by simp)]
      exact hx J0 r hh
    · refine⟨j,by rw[List.all_cons,decide_eq_false hr,Bool.false_and];exact decide_eq_true (by omega),fun J0 r hh=>?_⟩
      rw[u_intrinsic_Good_l6]
      rw[decide_eq_false hr]at h1
      simp (disch:=first | omega | (simp only[ln0];omega)) only[rs,reduceIte,Nat.reduceAdd,h,szs,xcall_of h1,Bool.not_false]
      exact hh
  · refine⟨-1,by rw[List.drop_of_length_le (by omega)];rfl,fun J0 r hh=>?_⟩
    rw[u_intrinsic_Good_l6]
    simp (disch:=first | omega | (simp only[ln0];omega)) only[rs,reduceIte,Nat.reduceAdd,h]
    exact hh
 have ha':∀ (y:Int) j,j≤a.length→∃x:Int,(decide (0≤x)= !(a.drop j).all wi)∧∀J0 r,Run tr intrinsic_Good_j4 [rowOf eSz s,ints a,rowOf eWn ws,I mode,I y,I x] [J0] r→Run tr intrinsic_Good_l5 [rowOf eSz s,ints a,rowOf eWn ws,I mode,I y,I j] [J0,.join intrinsic_Good_j4 [rowOf eSz s,ints a,rowOf eWn ws,I mode,I y],.loop intrinsic_Good_l5 [rowOf eSz s,ints a,rowOf eWn ws,I mode,I y]] r:=by
  intro y
  refine xup_ind fun j hj ih=>?_
  by_cases h:j < a.length
  · have h1:=ig2_sp a[j]
    rw[List.drop_eq_getElem_cons h]
    cases hr:wi a[j]with
    | true=>
     obtain⟨x,hx1,hx⟩:=ih h
     refine⟨x,by rw[hx1,List.all_cons,hr,Bool.true_and],fun J0 r hh=>?_⟩
     rw[u_intrinsic_Good_l5]
     rw[hr]at h1
     simp (disch:=first | omega | (simp only[ln0];omega)) only[rs,reduceIte,Nat.reduceAdd,h,xcall_of h1,Bool.not_true,Bool.false_eq_true]
     repeat rw[br_neg (by simp)]
     exact hx J0 r hh
    | false=>
     refine⟨j,by rw[List.all_cons,hr,Bool.false_and];exact decide_eq_true (by omega),fun J0 r hh=>?_⟩
     rw[u_intrinsic_Good_l5]
     rw[hr]at h1
     simp (disch:=first | omega | (simp only[ln0];omega)) only[rs,reduceIte,Nat.reduceAdd,h,xcall_of h1,Bool.not_false]
     exact hh
  · refine⟨-1,by rw[List.drop_of_length_le (by omega)];rfl,fun J0 r hh=>?_⟩
    rw[u_intrinsic_Good_l5]
    simp (disch:=first | omega | (simp only[ln0];omega)) only[rs,reduceIte,Nat.reduceAdd,h]
    exact hh
 have fin:∀b:Bool,(b=false→ws.length≤4096)→Run tr intrinsic_Good_j0 [rowOf eSz s,ints a,rowOf eWn ws,I mode,B b] [] [B (!b&& ws.all (okW s.length))]:=by
  intro b hb
  rw[u_intrinsic_Good_j0]
  cases b with
  | true=>simp (disch:=first | omega | (simp only[ln0];omega)) only[rs,reduceIte,Nat.reduceAdd] <;> (try rw[br_pos rfl]) <;> simp
  | false=>
   simp (disch:=first | omega | (simp only[ln0];omega)) only[rs,reduceIte,Nat.reduceAdd]
   try rw[br_neg (by simp)]
   have:=hw (hb rfl) 0 (Nat.zero_le _)
   simpa using this
 rw[u_intrinsic_Good]
 simp (disch:=first | omega | (simp only[ln0];omega)) only[rs,reduceIte,Nat.reduceAdd,bx,reduceCtorEq,forall_const,ne_eq]
 unfold goodI
 by_cases hc:a.length=s.length∧ws.length≤4096∧0≤mode∧mode≤2
 · rw[br_neg (by omega)]
   have e1:(decide (a.length=s.length)&& decide (ws.length≤4096)&& decide (0≤mode)&& decide (mode≤2))=true:=by simp[hc]
   rw[e1,Bool.true_and]
   obtain⟨x,hx1,hx⟩:=hl 0 (Nat.zero_le _)
   rw[List.drop_zero]at hx1
   refine hx _ _ ?_
   rw[u_intrinsic_Good_j3]
   simp (disch:=first | omega | (simp only[ln0];omega)) only[rs,reduceIte,Nat.reduceAdd,ge_iff_le]
   cases hall:s.all (fun x=>decide (Gd x))with
   | false=>
    rw[hall]at hx1
    rw[br_pos (by simpa using hx1)]
    simpa using fin true (fun h=>by cases h)
   | true=>
    rw[hall]at hx1
    rw[br_neg (by simpa using hx1)]
    obtain⟨z,hz1,hz⟩:=ha' x 0 (Nat.zero_le _)
    rw[List.drop_zero]at hz1
    refine hz _ _ ?_
    rw[u_intrinsic_Good_j4]
    simp (disch:=first | omega | (simp only[ln0];omega)) only[rs,reduceIte,Nat.reduceAdd,ge_iff_le]
    have:=fin (decide (0≤z)) (fun _=>hc.2.1)
    rw[hz1]at this ⊢
    simpa using this
 · rw[br_pos (by omega)]
   have e1:(decide (a.length=s.length)&& decide (ws.length≤4096)&& decide (0≤mode)&& decide (mode≤2))=false:=by
    rw[Bool.eq_false_iff]
    intro hh
    simp only[Bool.and_eq_true,decide_eq_true_eq]at hh
    exact hc ⟨hh.1.1.1,hh.1.1.2,hh.1.2,hh.2⟩
   rw[e1]
   simpa using fin true (fun h=>by cases h)
theorem row_cut {α:Type} (e:α→List PV) (l:List α) (i n:Nat):((l.map e).drop i).take n=((l.drop i).take n).map e:=by rw[List.map_take,List.map_drop]
def limit (x:Sz):Int:=if x.fit then max x.cap x.base else x.lim
theorem loose_sp (x:Sz):Says tr c_intrinsic_loose (eSz x) [B (decide (x.mx≠1))]:=by
 refine Says.of (t:=intrinsic_loose) rfl ?_
 rw[u_intrinsic_loose]
 simp only[eSz]
 simp (disch:=first | omega | (simp only[ln0];omega)) only[rs,reduceIte,Nat.reduceAdd]
 have:(x.mx != 1)=decide (x.mx≠1):=by by_cases h:x.mx=1 <;> simp[h]
 rw[this]
theorem limit_sp (x:Sz):Says tr c_intrinsic_limit (eSz x) [I (limit x)]:=by
 refine Says.of (t:=intrinsic_limit) rfl ?_
 rw[u_intrinsic_limit]
 simp only[eSz]
 simp (disch:=first | omega | (simp only[ln0];omega)) only[rs,reduceIte,Nat.reduceAdd]
 unfold limit
 refine br_split ?_ ?_ <;> intro _ <;> rename_i h <;> simp[h]
def gapsW:List Int→Int→Int
 | [],n=>n
 | x::r,n=>gapsW r (IntKind.i64.wrap (n+x))
def limG (w:Wn) (n:Int):List Sz→Int→Int
 | [],most=>max (min n most) w.least
 | x::r,most=>if x.mx≠1∧x.fit=false then max n w.least else limG w n r (IntKind.i64.wrap (most+limit x))
end Go.Proofs.YtckjdlmfibjpaaaGreat.T
namespace Go.Proofs.YtckjdlmfibjpaaaGreat.M
def Tk (L:Int):List Int→Int
 | []=>0
 | r::rs=>min r L+Tk L rs
def op (L:Int):List Int→Int
 | []=>0
 | r::rs=>(if L < r then 1 else 0)+op L rs
def lv (L:Int):Int→List Int→List Int
 | _,[]=> []
 | t,r::rs=>if L < r then(if 0 < t then(L+1)::lv L (t - 1) rs else L::lv L t rs)else r::lv L t rs
theorem lv_zero (L:Int) (rs:List Int):lv L 0 rs=rs.map (fun r=>min r L):=by
 induction rs with
 | nil=>rfl
 | cons r rs ih=>
  simp only[lv,List.map_cons,ih]
  split <;> simp <;> omega
theorem op_nonneg (L:Int) (rs:List Int):0≤op L rs∧op L rs≤rs.length:=by
 induction rs with
 | nil=>simp[op]
 | cons r rs ih=>simp only[op,List.length_cons];split <;> omega
theorem op_zero {L:Int}:∀ {rs:List Int},op L rs=0→∀r∈rs,r≤L
 | [],_,r,h=>by simp at h
 | x::rs,h,r,hr=>by
  have:=op_nonneg L rs
  simp only[op]at h
  rcases List.mem_cons.mp hr with rfl | hr
  · split at h <;> omega
  · exact op_zero (by split at h <;> omega) r hr
theorem lv_all {L:Int} (t:Int):∀ {rs:List Int},(∀r∈rs,r≤L)→lv L t rs=rs
 | [],_=>rfl
 | r::rs,h=>by
  have h1:=h r (by simp)
  simp only[lv]
  rw[if_neg (by omega),lv_all t (fun x hx=>h x (by simp[hx]))]
theorem lv_length (L:Int) (rs:List Int):∀t,(lv L t rs).length=rs.length:=by
 induction rs with
 | nil=>intro t;rfl
 | cons r rs ih=>intro t;simp only[lv];split <;> (try split) <;> simp[ih]
def gv (e:Int):Int→List Int→List Int→List Int×Int
 | left,r::rs,o::os=>if min (max e 1) (r - o)=0 then(o::(gv e left rs os).1,(gv e left rs os).2)else if left < min (max e 1) (r - o)then(o::os,left)else((o+min (max e 1) (r - o))::(gv e (left - min (max e 1) (r - o)) rs os).1,(gv e (left - min (max e 1) (r - o)) rs os).2)
 | left,_,os=>(os,left)
theorem gv_each (e L:Int) (he:1≤e) (hL:0≤L) (rs:List Int):∀left:Int,(∀r∈rs,0≤r)→e*op L rs≤left→
    gv e left rs (rs.map fun r=>min r L)=(rs.map (fun r=>min r (L+e)),left - (Tk (L+e) rs - Tk L rs))∧Tk (L+e) rs - Tk L rs≤e*op L rs∧op L rs≤Tk (L+e) rs - Tk L rs:=by
 induction rs with
 | nil=>intro left _ _;simp[gv,Tk,op]
 | cons r rs ih=>
  intro left h0 hl
  have hr:=h0 r (by simp)
  have hop:=op_nonneg L rs
  have hee:0≤e*op L rs:=Int.mul_nonneg (by omega) hop.1
  simp only[op]at hl
  simp only[List.map_cons,gv,Tk,op]
  by_cases hlt:L < r
  · rw[if_pos hlt]at hl ⊢
    rw[Int.mul_add,Int.mul_one]at hl
    rw[Int.mul_add,Int.mul_one]
    have e1:min r L=L:=by omega
    have hm:min (max e 1) (r - L)=min r (L+e) - L:=by omega
    have hm1:1≤min r (L+e) - L∧min r (L+e) - L≤e:=by omega
    obtain⟨i1,i2,i3⟩:=ih (left - (min r (L+e) - L)) (fun x hx=>h0 x (by simp[hx])) (by omega)
    rw[e1,hm,if_neg (by omega),if_neg (by omega),i1]
    refine⟨?_,by omega,by omega⟩
    refine Prod.ext ?_ ?_
    · show(L+(min r (L+e) - L))::_=_
      congr 1
      omega
    · show left - (min r (L+e) - L) - _=_
      omega
  · rw[if_neg hlt]at hl ⊢
    rw[Int.zero_add]at hl ⊢
    have e1:min r L=r:=by omega
    have e2:min r (L+e)=r:=by omega
    have hm:min (max e 1) (r - r)=0:=by omega
    obtain⟨i1,i2,i3⟩:=ih left (fun x hx=>h0 x (by simp[hx])) hl
    rw[e1,hm,if_pos rfl,i1,e2]
    refine⟨?_,by omega,by omega⟩
    refine Prod.ext rfl ?_
    show left - _=_
    omega
theorem gv_one (L:Int) (rs:List Int):∀left:Int,0≤left→left < op L rs→gv 0 left rs (rs.map fun r=>min r L)=(lv L left rs,0):=by
 induction rs with
 | nil=>intro left h0 h1;simp[op]at h1;omega
 | cons r rs ih=>
  intro left h0 h1
  simp only[op]at h1
  simp only[List.map_cons,gv,lv]
  by_cases hlt:L < r
  · have e1:min r L=L:=by omega
    have hm:min (max 0 1) (r - L)=1:=by omega
    rw[if_pos hlt]at h1 ⊢
    rw[e1,hm,if_neg (by omega)]
    by_cases hz:left=0
    · subst hz
      rw[if_pos (by omega),if_neg (by omega),lv_zero]
    · rw[if_neg (by omega),if_pos (by omega),ih (left - 1) (by omega) (by omega)]
  · have e1:min r L=r:=by omega
    have hm:min (max 0 1) (r - r)=0:=by omega
    rw[if_neg hlt]at h1 ⊢
    rw[e1,hm,if_pos rfl,ih left h0 (by omega)]
def cnt:List Int→List Int→Int
 | r::rs,o::os=>(if o < r then 1 else 0)+cnt rs os
 | _,_=>0
theorem cnt_map (L:Int) (rs:List Int):cnt rs (rs.map fun r=>min r L)=op L rs:=by
 induction rs with
 | nil=>rfl
 | cons r rs ih=>
  simp only[List.map_cons,cnt,op,ih]
  have:min r L < r↔L < r:=by omega
  simp only[this]
theorem cnt_in (rs:List Int):∀os:List Int,0≤cnt rs os∧cnt rs os≤rs.length:=by
 induction rs with
 | nil=>intro os;simp[cnt]
 | cons r rs ih=>
  intro os
  cases os with
  | nil=>simp[cnt];omega
  | cons o os=>have:=ih os;simp only[cnt,List.length_cons];split <;> omega
def IsUp (S:Int) (room out:List Int):Prop:=∃L t:Int,0≤L∧0≤t∧Tk L room+t=S∧(t < op L room∨∀r∈room,r≤L)∧out=lv L t room
theorem Tk_step (L:Int) (rs:List Int):Tk (L+1) rs=Tk L rs+op L rs:=by
 induction rs with
 | nil=>rfl
 | cons r rs ih=>
  simp only[Tk,op,ih]
  (repeat' split) <;> omega
theorem Tk_mono {L M:Int} (h:L≤M) (rs:List Int):Tk L rs≤Tk M rs:=by
 induction rs with
 | nil=>exact Int.le_refl _
 | cons r rs ih=>
  simp only[Tk]
  (repeat' split) <;> omega
theorem isup_level {S S':Int} {room:List Int} {L t L' t':Int} (h:Tk L room+t=S) (h':Tk L' room+t'=S') (hS:S≤S') (ht:0≤t) (ht':t' < op L' room):L < L'∨(L=L'∧t≤t'):=by
 rcases Int.lt_trichotomy L L' with h1 | h1 | h1
 · exact Or.inl h1
 · subst h1;exact Or.inr ⟨rfl,by omega⟩
 · exfalso
   have h2:=Tk_mono (show L'+1≤L by omega) room
   rw[Tk_step]at h2
   omega
theorem isup_full {S S':Int} {room:List Int} {L t L' t':Int} (hL:∀r∈room,r≤L) (h:Tk L room+t=S) (h':Tk L' room+t'=S') (hS:S≤S') (ht:0≤t) (ht':t' < op L' room):False:=by
 have h2:Tk (L'+1) room≤Tk L room:=by
  clear h h' hS ht ht'
  induction room with
  | nil=>exact Int.le_refl _
  | cons r rs ih=>
   have:=ih (fun x hx=>hL x (by simp[hx]))
   have hr:=hL r (by simp)
   simp only[Tk]
   (repeat' split) <;> omega
 rw[Tk_step]at h2
 omega
theorem isup_unique {S:Int} {room a b:List Int} (ha:IsUp S room a) (hb:IsUp S room b):a=b:=by
 obtain⟨L,t,hL,ht,h1,h2,rfl⟩:=ha
 obtain⟨L',t',hL',ht',h1',h2',rfl⟩:=hb
 rcases h2 with h2 | h2
 · rcases h2' with h2' | h2'
   · rcases isup_level h1 h1' (Int.le_refl _) ht h2' with h | ⟨rfl,_⟩
     · rcases isup_level h1' h1 (Int.le_refl _) ht' h2 with g | ⟨g,_⟩
       · omega
       · omega
     · have:t=t':=by omega
       rw[this]
   · exact(isup_full h2' h1' h1 (Int.le_refl _) ht' h2).elim
 · rcases h2' with h2' | h2'
   · exact(isup_full h2 h1 h1' (Int.le_refl _) ht h2').elim
   · rw[lv_all t h2,lv_all t' h2']
def tot:List Int→Int
 | []=>0
 | x::xs=>x+tot xs
theorem lv_tot (L:Int) (rs:List Int):∀t:Int,0≤t→(t≤op L rs→tot (lv L t rs)=Tk L rs+t)∧(op L rs≤t→tot (lv L t rs)=Tk L rs+op L rs):=by
 induction rs with
 | nil=>intro t ht;simp[lv,tot,Tk,op];omega
 | cons r rs ih=>
  intro t ht
  have hop:=op_nonneg L rs
  simp only[lv,Tk,op]
  by_cases hlt:L < r
  · have e1:min r L=L:=by omega
    simp only[hlt,if_true,e1]
    by_cases hz:0 < t
    · simp only[hz,if_true,tot]
      have:=ih (t - 1) (by omega)
      constructor <;> intro h
      · have:=this.1 (by omega);omega
      · have:=this.2 (by omega);omega
    · have:t=0:=by omega
      subst this
      simp only[Int.lt_irrefl,if_false,tot]
      have:=(ih 0 (by omega)).1 hop.1
      constructor <;> intro h <;> omega
  · have e1:min r L=r:=by omega
    simp only[hlt,if_false,e1,tot]
    have:=ih t ht
    constructor <;> intro h
    · have:=this.1 (by omega);omega
    · have:=this.2 (by omega);omega
theorem lv_in (L:Int) (hL:0≤L) (rs:List Int):∀ (t:Int) (i:Nat) (h:i < (lv L t rs).length) (h':i < rs.length),(0≤rs[i]→0≤(lv L t rs)[i])∧(lv L t rs)[i]≤rs[i]:=by
 induction rs with
 | nil=>intro t i h h';simp at h'
 | cons r rs ih=>
  intro t i h h'
  simp only[lv]at h ⊢
  by_cases hlt:L < r
  · simp only[hlt,if_true]at h ⊢
    by_cases hz:0 < t
    · simp only[hz,if_true]at h ⊢
      cases i with
      | zero=>simp;omega
      | succ i=>simpa using ih (t - 1) i (by simpa using h) (by simpa using h')
    · simp only[hz,if_false]at h ⊢
      cases i with
      | zero=>simp;omega
      | succ i=>simpa using ih t i (by simpa using h) (by simpa using h')
  · simp only[hlt,if_false]at h ⊢
    cases i with
    | zero=>simp
    | succ i=>simpa using ih t i (by simpa using h) (by simpa using h')
theorem isup_length {S:Int} {room out:List Int} (h:IsUp S room out):out.length=room.length:=by
 obtain⟨L,t,hL,ht,e1,e2,rfl⟩:=h
 exact lv_length L room t
theorem isup_in {S:Int} {room out:List Int} (h:IsUp S room out) (hr:∀r∈room,0≤r) (i:Nat) (hi:i < room.length) (h1:i < out.length):0≤out[i]∧out[i]≤room[i]:=by
 obtain⟨L,t,hL,ht,e1,e2,rfl⟩:=h
 have:=lv_in L hL room t i h1 hi
 exact⟨this.1 (hr _ (List.getElem_mem hi)),this.2⟩
theorem isup_tot {S:Int} {room out:List Int} (h:IsUp S room out):tot out≤S∧(tot out=S∨out=room):=by
 obtain⟨L,t,hL,ht,e1,e2,rfl⟩:=h
 have a:=lv_tot L room t ht
 have b:=op_nonneg L room
 by_cases hc:t≤op L room
 · have:=a.1 hc
   omega
 · have h3:=a.2 (by omega)
   rcases e2 with e2 | e2
   · omega
   · refine⟨by omega,Or.inr (lv_all t e2)⟩
def spl (n p:Int) (i:Nat):Int:=n / p+(if(i:Int) < n % p then 1 else 0)
def splitS (n p:Int):List Int:=if n < 0∨p < 1∨65536 < p then []else(List.range p.toNat).map (spl n p)
theorem tot_append (a b:List Int):tot (a++b)=tot a+tot b:=by
 induction a with
 | nil=>simp[tot]
 | cons x a ih=>simp only[List.cons_append,tot,ih];omega
theorem spl_tot (n p:Int) (m:Nat):tot ((List.range m).map (spl n p))=(m:Int)*(n / p)+(if(m:Int)≤n % p then(m:Int)else if 0≤n % p then n % p else 0):=by
 induction m with
 | zero=>simp[tot];omega
 | succ m ih=>
  rw[List.range_succ,List.map_append,tot_append,ih]
  simp only[List.map_cons,List.map_nil,tot,spl]
  have e:((m+1:Nat):Int)*(n / p)=(m:Int)*(n / p)+n / p:=by rw[Int.natCast_succ,Int.add_mul];omega
  rw[e]
  repeat' split
  all_goals omega
def idx:List Bool→List Nat
 | []=> []
 | b::bs=>if b=true then 0::(idx bs).map (· +1)else(idx bs).map (· +1)
theorem idx_append (a:List Bool) (b:Bool):idx (a++ [b])=idx a++(if b=true then [a.length]else []):=by
 induction a with
 | nil=>cases b <;> rfl
 | cons x a ih=>
  cases x <;> cases b <;> simp[idx,ih]
def addp:List Int→List Bool→List Int→List Int
 | o::os,true::bs,y::ys=>(o+y)::addp os bs ys
 | o::os,true::bs,[]=>o::addp os bs []
 | o::os,false::bs,ys=>o::addp os bs ys
 | os,[],_=>os
 | [],_,_=> []
theorem addp_nil:∀ (os:List Int) (bs:List Bool),addp os bs []=os
 | [],[]=>rfl
 | [],_::_=>rfl
 | _::_,[]=>rfl
 | o::os,true::bs=>by simp[addp,addp_nil os bs]
 | o::os,false::bs=>by simp[addp,addp_nil os bs]
theorem addp_length:∀ (os:List Int) (bs:List Bool) (ys:List Int),(addp os bs ys).length=os.length
 | [],[],_=>rfl
 | [],_::_,_=>by simp[addp]
 | _::_,[],_=>rfl
 | o::os,true::bs,y::ys=>by simp[addp,addp_length os bs ys]
 | o::os,true::bs,[]=>by simp[addp,addp_length os bs []]
 | o::os,false::bs,ys=>by simp[addp,addp_length os bs ys]
theorem addp_step:∀ (os:List Int) (bs:List Bool) (ys:List Int) (k:Nat) (hl:os.length=bs.length) (hk:k < ys.length) (hw:k < (idx bs).length),
    ∃h1:(idx bs)[k] < (addp os bs (ys.take k)).length,∃h2:(idx bs)[k] < os.length,(addp os bs (ys.take k))[(idx bs)[k]]=os[(idx bs)[k]]∧
     (addp os bs (ys.take k)).set (idx bs)[k] (os[(idx bs)[k]]+ys[k])=addp os bs (ys.take (k+1))
 | [],[],ys,k,hl,hk,hw=>by simp[idx]at hw
 | o::os,true::bs,ys,k,hl,hk,hw=>by
  cases ys with
  | nil=>simp at hk
  | cons y ys=>
   cases k with
   | zero=>simp[idx,addp,addp_nil]
   | succ k=>
    simp only[idx,if_true,List.length_cons,List.length_map]at hw hl hk
    obtain⟨h1,h2,h3,h4⟩:=addp_step os bs ys k (by simpa using hl) (by omega) (by omega)
    simp only[idx,if_true,List.getElem_cons_succ,List.getElem_map,List.take_succ_cons,addp,List.length_cons,List.set_cons_succ]
    exact⟨by omega,by omega,h3,by rw[h4]⟩
 | o::os,false::bs,ys,k,hl,hk,hw=>by
  simp only[idx,Bool.false_eq_true,if_false,List.length_map]at hw
  obtain⟨h1,h2,h3,h4⟩:=addp_step os bs ys k (by simpa using hl) hk hw
  simp only[idx,Bool.false_eq_true,if_false,List.getElem_cons_succ,List.getElem_map,addp,List.length_cons,List.set_cons_succ]
  exact⟨by omega,by omega,h3,by rw[h4]⟩
theorem idx_le (bs:List Bool):(idx bs).length≤bs.length:=by
 induction bs with
 | nil=>simp[idx]
 | cons b bs ih=>cases b <;> simp[idx] <;> omega
theorem tot_addp:∀ (os:List Int) (bs:List Bool) (ys:List Int),os.length=bs.length→ys.length=(idx bs).length→tot (addp os bs ys)=tot os+tot ys
 | [],[],ys,hl,hy=>by
  simp only[idx,List.length_nil,List.length_eq_zero_iff]at hy
  subst hy
  simp[addp,tot]
 | o::os,true::bs,ys,hl,hy=>by
  cases ys with
  | nil=>simp[idx]at hy
  | cons y ys=>
   simp only[idx,if_true,List.length_cons,List.length_map]at hy hl
   have:=tot_addp os bs ys (by omega) (by omega)
   simp only[addp,tot]
   omega
 | o::os,false::bs,ys,hl,hy=>by
  simp only[idx,Bool.false_eq_true,if_false,List.length_map,List.length_cons]at hy hl
  have:=tot_addp os bs ys (by omega) hy
  simp only[addp,tot]
  omega
theorem tot_nonneg:∀ {l:List Int},(∀x∈l,0≤x)→0≤tot l
 | [],_=>by simp[tot]
 | x::xs,h=>by
  have h1:=h x (by simp)
  have h2:=tot_nonneg (l:=xs) (fun y hy=>h y (by simp[hy]))
  simp only[tot]
  omega
theorem tot_drop {l:List Int} (i:Nat) (h:i < l.length):tot (l.drop i)=l[i]+tot (l.drop (i+1)):=by rw[List.drop_eq_getElem_cons h];rfl
theorem tot_at {l:List Int} (h0:∀x∈l,0≤x) (i:Nat) (h:i < l.length):l[i]≤tot (l.drop i)∧0≤tot (l.drop (i+1)):=by
 have h2:0≤tot (l.drop (i+1)):=tot_nonneg (fun y hy=>h0 y (List.mem_of_mem_drop hy))
 rw[tot_drop i h]
 omega
theorem splitS_length (n p:Int):(splitS n p).length≤p.toNat:=by
 unfold splitS
 split <;> simp
theorem splitS_in {n p:Int}:∀y∈splitS n p,0≤y∧y≤n+1:=by
 intro y hy
 unfold splitS at hy
 split at hy
 · simp at hy
 · rename_i h
   obtain⟨i,hi,rfl⟩:=List.mem_map.mp hy
   have h1:0≤n / p:=Int.ediv_nonneg (by omega) (by omega)
   have h2:n / p≤n:=Int.ediv_le_self p (by omega)
   unfold spl
   split <;> omega
theorem split_tot {n:Int} {p:Nat} (hn:0≤n) (hp:1≤p) (hp1:p≤65536):(splitS n p).length=p∧tot (splitS n p)=n:=by
 have e:splitS n p=(List.range p).map (spl n p):=by
  unfold splitS
  rw[if_neg (by omega)]
  simp
 rw[e]
 refine⟨by simp,?_⟩
 rw[spl_tot]
 have h1:=Int.mul_ediv_add_emod n p
 have h2:=Int.emod_nonneg n (b:=(p:Int)) (by omega)
 have h3:=Int.emod_lt_of_pos n (b:=(p:Int)) (by omega)
 rw[if_neg (by omega),if_pos h2]
 exact h1
def anyB (bs:List Bool):Bool:=bs.any id
theorem idx_pos (bs:List Bool):anyB bs=true↔0 < (idx bs).length:=by
 induction bs with
 | nil=>simp[anyB,idx]
 | cons b bs ih=>cases b <;> simp_all [anyB,idx]
end Go.Proofs.YtckjdlmfibjpaaaGreat.M
namespace Go.Proofs.YtckjdlmfibjpaaaGreat.T
open Go Go.Proofs.YtckjdlmfibjpaaaGreat.Sx Go.Proofs.YtckjdlmfibjpaaaGreat.M
theorem right_sp (S n:Int):Says tr c_spread_right [I S,I n] [B (decide (0≤S)&& decide (S < 1125899906842624)&& decide (n≤65536))]:=by
 refine Says.of (t:=spread_right) rfl ?_
 rw[u_spread_right]
 simp (disch:=first | omega | (simp only[ln0];omega)) only[rs,reduceIte,Nat.reduceAdd,ge_iff_le]
def roomsB (l:List Int):Bool:=l.all fun x=>decide (0≤x)&& decide (x≤1125899906842624)
theorem roomsB_iff (l:List Int):roomsB l=true↔∀r∈l,0≤r∧r≤1125899906842624:=by simp[roomsB]
theorem rooms_sp (l:List Int) (hl:l.length≤1000000000):Says tr c_spread_rooms [ints l] [B (roomsB l)]:=by
 refine Says.of (t:=spread_rooms) rfl ?_
 rw[u_spread_rooms]
 simp (disch:=first | omega | (simp only[ln0];omega)) only[rs,reduceIte,Nat.reduceAdd]
 have key:=xup_ind (n:=l.length) (P:=fun i=>Run tr spread_rooms_l0 [ints l,I i] [.loop spread_rooms_l0 [ints l]] [B (roomsB (l.drop i))]) ?_ 0 (Nat.zero_le _)
 · simpa using key
 intro i hi ih
 rw[u_spread_rooms_l0]
 by_cases h:i < l.length
 · have hb:roomsB (l.drop i)=(decide (0≤l[i])&& decide (l[i]≤1125899906842624)&& roomsB (l.drop (i+1))):=by rw[List.drop_eq_getElem_cons h];rfl
   simp (disch:=first | omega | (simp only[ln0];omega)) only[rs,reduceIte,Nat.reduceAdd,h,hb,gt_iff_lt,Bool.or_eq_true]
   refine br_split ?_ ?_ <;> intro _
   · have:(decide (0≤l[i])&& decide (l[i]≤1125899906842624))=false:=by simp;omega
     rw[this];rfl
   · have:(decide (0≤l[i])&& decide (l[i]≤1125899906842624))=true:=by simp;omega
     rw[this]
     exact ih h
 · simp (disch:=first | omega | (simp only[ln0];omega)) only[rs,reduceIte,Nat.reduceAdd,h]
   rw[List.drop_of_length_le (by omega)]
   rfl
def UpOk (S:Int) (room:List Int):Prop:=0≤S∧S < 1125899906842624∧room.length≤65536∧∀r∈room,0≤r∧r≤1125899906842624
abbrev upJ (S0:Int) (room:List Int):List JT:= [.loop spread_Up_l1 [I S0,ints room,B false]]
abbrev upJ4 (S0:Int) (room:List Int) (S:Int) (out:List Int):List JT:=
 [.loop spread_Up_l1 [I S0,ints room,B false],.join spread_Up_j2 [I S0,ints room,B false,I S,ints out],.join spread_Up_j3 [I S0,ints room,B false,I S,ints out],.loop spread_Up_l4 [I S0,ints room,B false,I S,ints out]]
abbrev upJ7 (S0:Int) (room:List Int) (S:Int) (out:List Int) (i c:Int):List JT:=
 [.loop spread_Up_l1 [I S0,ints room,B false],.join spread_Up_j2 [I S0,ints room,B false,I S,ints out],.join spread_Up_j3 [I S0,ints room,B false,I S,ints out],.loop spread_Up_l4 [I S0,ints room,B false,I S,ints out],.join spread_Up_j6 [I S0,ints room,B false,I S,ints out,I i,I c],.loop spread_Up_l7 [I S0,ints room,B false,I S,ints out,I i,I c]]
theorem give_loop (S0 S i0 c:Int) (out:List Int) (room:List Int) (hm:room.length≤65536) (hroom:∀r∈room,0≤r∧r≤1125899906842624) (hc0:c≠0) (hq0:0≤S / c) (hq1:S / c≤1125899906842624) (hS:0≤S)
    (R:List PV) (G:List Int) (lf:Int) (hc:Run tr spread_Up_l1 [I S0,ints room,B false,I lf,ints G] (upJ S0 room) R) (d:Nat) :
    ∀ (i:Nat) (left:Int) (done os:List Int),i+d=room.length→done.length=i→os.length=d→0≤left→left≤1125899906842624→(∀j (h:j < os.length) (h':i+j < room.length),0≤os[j]∧os[j]≤room[i+j])→
     (done++(gv (S / c) left (room.drop i) os).1,(gv (S / c) left (room.drop i) os).2)=(G,lf)→
     Run tr spread_Up_l7 [I S0,ints room,B false,I S,ints out,I i0,I c,I i,I left,ints (done++os)] (upJ7 S0 room S out i0 c) R:=by
 have hdiv:S.tdiv c=S / c:=Int.tdiv_eq_ediv_of_nonneg hS
 induction d with
 | zero=>
  intro i left done os hi hd ho h0 h1 _ hg
  have:os=[]:=List.length_eq_zero_iff.mp ho
  subst this
  rw[List.drop_of_length_le (by omega)]at hg
  simp only[gv,Prod.mk.injEq]at hg
  obtain⟨rfl,rfl⟩:=hg
  rw[u_spread_Up_l7]
  have hn:¬i < room.length:=by omega
  simp (disch:=first | omega | (simp only[ln0];omega)) only[rs,reduceIte,Nat.reduceAdd,hn,spread_Up_j6,spread_Up_j3,spread_Up_j2]
  exact hc
 | succ d ih=>
  intro i left done os hi hd ho h0 h1 hos hg
  obtain⟨o,os,rfl⟩:∃o os',os=o::os':=by cases os with
   | nil=>simp at ho
   | cons o os=>exact⟨o,os,rfl⟩
  have hil:i < room.length:=by omega
  have hr:room.drop i=room[i]::room.drop (i+1):=List.drop_eq_getElem_cons (by omega)
  have hri:=hroom room[i] (List.getElem_mem _)
  have ho0:=hos 0 (by simp) (by omega)
  simp only[List.getElem_cons_zero,Nat.add_zero]at ho0
  have hold:∀j (h:j < os.length) (h':i+1+j < room.length),0≤os[j]∧os[j]≤room[i+1+j]:=by
   intro j h h'
   have:=hos (j+1) (by simp;omega) (by omega)
   simp only[List.getElem_cons_succ]at this
   have e3:i+(j+1)=i+1+j:=by omega
   simp only[e3]at this
   exact this
  have hlen:i < (done++o::os).length:=by simp at ho ⊢;omega
  have hget:(done++o::os)[i]=o:=by simp[List.getElem_append_right,hd]
  rw[hr]at hg
  simp only[gv]at hg
  obtain⟨n,hnn⟩:∃n,min (max (S / c) 1) (room[i] - o)=n:=⟨_,rfl⟩
  rw[hnn]at hg
  have happ:∀v:Int,done++v::os=(done++ [v])++os:=by intro v;simp
  have hset:(done++o::os).set i (o+n)=(done++ [o+n])++os:=by
   rw[List.set_append_right _ _ (by omega),hd]
   simp
  rw[u_spread_Up_l7]
  simp (disch:=first | omega | (simp only[ln0];omega)) only[rs,reduceIte,Nat.reduceAdd,hil,hlen,hget,hdiv,hnn,beq_iff_eq,spread_Up_j8]
  by_cases hz:n=0
  · rw[if_pos hz]at hg
    rw[br_pos hz]
    rw[happ o]
    refine ih (i+1) left (done++ [o]) os (by omega) (by simp;omega) (by simpa using ho) h0 h1 hold ?_
    rw[←hg]
    simp
  · rw[if_neg hz]at hg
    rw[br_neg hz]
    by_cases hl:left < n
    · rw[if_pos hl]at hg
      rw[br_pos hl]
      simp only[Prod.mk.injEq]at hg
      obtain⟨rfl,rfl⟩:=hg
      simp (disch:=first | omega | (simp only[ln0];omega)) only[rs,reduceIte,Nat.reduceAdd,spread_Up_j6,spread_Up_j3,spread_Up_j2]
      exact hc
    · rw[if_neg hl]at hg
      rw[br_neg hl]
      rw[hset]
      refine ih (i+1) (left - n) (done++ [o+n]) os (by omega) (by simp;omega) (by simpa using ho) (by omega) (by omega) hold ?_
      rw[←hg]
      simp
theorem count_loop (S0 S:Int) (room out:List Int) (hlen:out.length=room.length) (hm:room.length≤65536) (R:List PV)
    (hc:if cnt room out=0 then [ints out]=R else Run tr spread_Up_l7 [I S0,ints room,B false,I S,ints out,I room.length,I (cnt room out),I 0,I S,ints out] (upJ7 S0 room S out room.length (cnt room out)) R) (d:Nat) :
    ∀ (i:Nat) (c:Int),i+d=room.length→0≤c→c+cnt (room.drop i) (out.drop i)=cnt room out→Run tr spread_Up_l4 [I S0,ints room,B false,I S,ints out,I i,I c] (upJ4 S0 room S out) R:=by
 have hcr:=cnt_in room out
 induction d with
 | zero=>
  intro i c hi h0 h
  rw[List.drop_of_length_le (by omega),List.drop_of_length_le (by omega)]at h
  simp only[cnt,Int.add_zero]at h
  subst h
  have hn:¬i < room.length:=by omega
  have hi':i=room.length:=by omega
  subst hi'
  rw[u_spread_Up_l4]
  by_cases hz:cnt room out=0
  · rw[if_pos hz]at hc
    simp (disch:=first | omega | (simp only[ln0];omega)) only[rs,reduceIte,Nat.reduceAdd,hn,hz,beq_self_eq_true,spread_Up_j3,spread_Up_j2,Bool.false_eq_true]
    exact hc
  · rw[if_neg hz]at hc
    have hz':(cnt room out == 0)=false:=by simpa using hz
    simp (disch:=first | omega | (simp only[ln0];omega)) only[rs,reduceIte,Nat.reduceAdd,hn,hz',bne,Bool.not_false,Bool.false_eq_true]
    exact hc
 | succ d ih=>
  intro i c hi h0 h
  have hil:i < room.length:=by omega
  have hio:i < out.length:=by omega
  have hr:room.drop i=room[i]::room.drop (i+1):=List.drop_eq_getElem_cons (by omega)
  have ho:out.drop i=out[i]::out.drop (i+1):=List.drop_eq_getElem_cons (by omega)
  have hci:=cnt_in (room.drop (i+1)) (out.drop (i+1))
  have hcl:((room.drop (i+1)).length:Int)≤65536:=by simp;omega
  rw[hr,ho]at h
  simp only[cnt]at h
  rw[u_spread_Up_l4]
  by_cases hlt:out[i] < room[i]
  · rw[if_pos hlt]at h
    simp (disch:=first | omega | (simp only[ln0];omega)) only[rs,reduceIte,Nat.reduceAdd,hil,hio,hlt,spread_Up_j5]
    exact ih (i+1) (c+1) (by omega) (by omega) (by omega)
  · rw[if_neg hlt]at h
    simp (disch:=first | omega | (simp only[ln0];omega)) only[rs,reduceIte,Nat.reduceAdd,hil,hio,hlt,spread_Up_j5]
    exact ih (i+1) c (by omega) (by omega) (by omega)
theorem up_loop (S0:Int) (room:List Int) (hm:room.length≤65536) (hroom:∀r∈room,0≤r∧r≤1125899906842624) (n:Nat) :
    ∀ (S L:Int),0≤S→S≤n→S < 1125899906842624→0≤L→∃out,Run tr spread_Up_l1 [I S0,ints room,B false,I S,ints (room.map fun r=>min r L)] (upJ S0 room) [ints out]∧IsUp (Tk L room+S) room out:=by
 induction n with
 | zero=>
  intro S L h0 h1 h2 hL
  have:S=0:=by omega
  subst this
  refine⟨_,?_,L,0,hL,by omega,rfl,?_,(lv_zero L room).symm⟩
  · rw[u_spread_Up_l1]
    simp (disch:=first | omega | (simp only[ln0];omega)) only[rs,reduceIte,Nat.reduceAdd,spread_Up_j2,Int.lt_irrefl,gt_iff_lt,Bool.false_eq_true]
  have:=op_nonneg L room
  by_cases h:op L room=0
  · right;exact op_zero h
  · left;omega
 | succ n ih=>
  intro S L h0 h1 h2 hL
  have hopn:=op_nonneg L room
  by_cases hS:S=0
  · exact ih S L h0 (by omega) h2 hL
  have hlen:(room.map fun r=>min r L).length=room.length:=by simp
  have hmem:∀j (h:j < (room.map fun r=>min r L).length) (h':0+j < room.length),0≤(room.map fun r=>min r L)[j]∧(room.map fun r=>min r L)[j]≤room[0+j]:=by
   intro j h h'
   have hj:=hroom room[j] (List.getElem_mem (by omega))
   simp only[List.getElem_map,Nat.zero_add]
   omega
  have hgo:∀R,(if cnt room (room.map fun r=>min r L)=0 then [ints (room.map fun r=>min r L)]=R else Run tr spread_Up_l7 [I S0,ints room,B false,I S,ints (room.map fun r=>min r L),I room.length,I (cnt room (room.map fun r=>min r L)),I 0,I S,ints (room.map fun r=>min r L)] (upJ7 S0 room S (room.map fun r=>min r L) room.length (cnt room (room.map fun r=>min r L))) R)→
      Run tr spread_Up_l1 [I S0,ints room,B false,I S,ints (room.map fun r=>min r L)] (upJ S0 room) R:=by
   intro out h
   have key:=count_loop S0 S room _ hlen hm out h room.length 0 0 (by omega) (by omega) (by simp)
   have hS':S > 0:=by omega
   rw[u_spread_Up_l1]
   simp (disch:=first | omega | (simp only[ln0];omega)) only[rs,reduceIte,Nat.reduceAdd,hS']
   exact key
  rw[cnt_map]at hgo
  by_cases hz:op L room=0
  · refine⟨_,hgo [ints (room.map fun r=>min r L)] (by rw[if_pos hz]),L,S,hL,h0,rfl,Or.inr (op_zero hz),?_⟩
    rw[lv_all S (op_zero hz),←lv_zero,lv_all 0 (op_zero hz)]
  · have hq0:0≤S / op L room:=Int.ediv_nonneg h0 (by omega)
    have hq1:S / op L room≤S:=Int.ediv_le_self _ h0
    have hqr:=Int.mul_ediv_add_emod S (op L room)
    have hr0:=Int.emod_nonneg S (b:=op L room) (by omega)
    have hr1:=Int.emod_lt_of_pos S (b:=op L room) (by omega)
    simp only[hz,if_false]at hgo
    by_cases he:S / op L room=0
    · rw[he]at hqr
      have hg:=gv_one L room S h0 (by omega)
      have hend:Run tr spread_Up_l1 [I S0,ints room,B false,I 0,ints (lv L S room)] (upJ S0 room) [ints (lv L S room)]:=by
       rw[u_spread_Up_l1]
       simp (disch:=first | omega | (simp only[ln0];omega)) only[rs,reduceIte,Nat.reduceAdd,spread_Up_j2,Int.lt_irrefl,gt_iff_lt,Bool.false_eq_true]
      refine⟨_,hgo _ ?_,L,S,hL,h0,rfl,Or.inl (by omega),rfl⟩
      have:=give_loop S0 S room.length (op L room) (room.map fun r=>min r L) room hm hroom hz hq0 (by omega) h0 _ (lv L S room) 0 hend room.length 0 S [] (room.map fun r=>min r L) (by omega) rfl hlen h0 (by omega) hmem (by simp[he,hg])
      simpa using this
    · obtain⟨hg,hg1,hg2⟩:=gv_each (S / op L room) L (by omega) hL room S (fun r hr=>(hroom r hr).1) (by rw[Int.mul_comm];omega)
      rw[Int.mul_comm]at hg1
      obtain⟨out,hev,hup⟩:=ih (S - (Tk (L+S / op L room) room - Tk L room)) (L+S / op L room) (by omega) (by omega) (by omega) (by omega)
      refine⟨out,hgo _ ?_,?_⟩
      · have:=give_loop S0 S room.length (op L room) (room.map fun r=>min r L) room hm hroom hz hq0 (by omega) h0 _ _ _ hev room.length 0 S [] (room.map fun r=>min r L) (by omega) rfl hlen h0 (by omega) hmem (by simp[hg])
        simpa using this
      · have e:Tk (L+S / op L room) room+(S - (Tk (L+S / op L room) room - Tk L room))=Tk L room+S:=by omega
        rw[e]at hup
        exact hup
theorem Tk_zero {rs:List Int} (h:∀r∈rs,0≤r):Tk 0 rs=0:=by
 induction rs with
 | nil=>rfl
 | cons r rs ih=>
  have:=h r (by simp)
  simp only[Tk,ih (fun x hx=>h x (by simp[hx]))]
  omega
theorem up_bad (S:Int) (room:List Int) (hl:room.length≤1000000000) (h:¬UpOk S room):Says tr c_spread_Up [I S,ints room] [ints (List.replicate room.length 0)]:=by
 refine Says.of (t:=spread_Up) rfl ?_
 rw[u_spread_Up]
 have h1:(room.length:Int)≤17592186044416:=by omega
 simp (disch:=first | omega | (simp only[ln0];omega)) only[rs,reduceIte,Nat.reduceAdd,h1,xcall_of (right_sp _ _)]
 refine br_split ?_ ?_ <;> intro _
 · simp (disch:=first | omega | (simp only[ln0];omega)) only[rs,reduceIte,Nat.reduceAdd,xcall_of (rooms_sp room hl)]
   have hb:roomsB room=false:=by
    cases hr:roomsB room with
    | false=>rfl
    | true=>
     rw[roomsB_iff]at hr
     rename_i h2
     simp at h2
     exact absurd ⟨by omega,by omega,by omega,hr⟩ h
   simp (disch:=first | omega | (simp only[ln0];omega)) only[rs,reduceIte,Nat.reduceAdd,hb,Bool.not_false,spread_Up_j0]
 · simp (disch:=first | omega | (simp only[ln0];omega)) only[rs,reduceIte,Nat.reduceAdd,spread_Up_j0]
theorem up_ok (S:Int) (room:List Int) (h:UpOk S room):∃out,Says tr c_spread_Up [I S,ints room] [ints out]∧IsUp S room out:=by
 obtain⟨h0,h1,hm,hroom⟩:=h
 have hz:List.replicate room.length (0:Int)=room.map fun r=>min r 0:=by
  refine List.ext_getElem (by simp) (fun i a b=>?_)
  have hi:i < room.length:=by simpa using b
  have:=hroom room[i] (List.getElem_mem hi)
  simp only[List.getElem_replicate,List.getElem_map]
  omega
 obtain⟨out,hev,hup⟩:=up_loop S room hm hroom S.toNat S 0 h0 (by omega) h1 (by omega)
 rw[Tk_zero (fun r hr=>(hroom r hr).1),Int.zero_add]at hup
 refine⟨out,?_,hup⟩
 refine Says.of (t:=spread_Up) rfl ?_
 rw[u_spread_Up]
 have hl:(room.length:Int)≤17592186044416:=by omega
 have hr:roomsB room=true:=(roomsB_iff room).2 hroom
 have hm':((room.length:Int)≤65536):=by omega
 simp (disch:=first | omega | (simp only[ln0];omega)) only[rs,reduceIte,Nat.reduceAdd,hl,xcall_of (right_sp _ _),xcall_of (rooms_sp room (by omega)),h0,h1,hm',hr,decide_true,Bool.and_true,List.length_cons,List.length_nil,Bool.not_true,spread_Up_j0,Bool.false_eq_true]
 rw[hz]
 exact hev
def RightB (S:Int) (l:List Int):Bool:=decide (0≤S)&& decide (S < 1125899906842624)&& decide (l.length≤65536)&& roomsB l
theorem RightB_iff (S:Int) (l:List Int):RightB S l=true↔UpOk S l:=by
 simp only[RightB,UpOk,Bool.and_eq_true,decide_eq_true_eq,roomsB_iff,and_assoc]
theorem splits_eq {n p:Int} (hn:0≤n) (hp:1≤p) (hp1:p≤65536):splitS n p=(List.range p.toNat).map (spl n p):=by
 unfold splitS
 rw[if_neg (by omega)]
theorem split_sp (n p:Int) (hn1:n≤9223372036854775806):Says tr c_fixed_Split [I n,I p] [ints (splitS n p)]:=by
 refine Says.of (t:=fixed_Split) rfl ?_
 rw[u_fixed_Split]
 by_cases hbad:n < 0∨p < 1∨65536 < p
 · have e:splitS n p=[]:=by unfold splitS;rw[if_pos hbad]
   have hc:(n < 0∨p < 1)∨p > 65536:=by omega
   simp (disch:=first | omega | (simp only[ln0];omega)) only[rs,reduceIte,Nat.reduceAdd,bx,reduceCtorEq,forall_const,ne_eq,e]
   simp only[gt_iff_lt]at hc
   simp only[hc,br_true]
 · have hc:¬ ((n < 0∨p < 1)∨65536 < p):=by omega
   have hp0:0≤p:=by omega
   have hp1:p≤17592186044416:=by omega
   have hq0:0≤n / p:=Int.ediv_nonneg (by omega) (by omega)
   have hq1:n / p≤n:=Int.ediv_le_self p (by omega)
   have hdiv:n.tdiv p=n / p:=Int.tdiv_eq_ediv_of_nonneg (by omega)
   have hmod:n.tmod p=n % p:=Int.tmod_eq_emod_of_nonneg (by omega)
   simp (disch:=first | omega | (simp only[ln0];omega)) only[rs,reduceIte,Nat.reduceAdd,bx,reduceCtorEq,forall_const,ne_eq,hc,hp0,hp1]
   rw[splits_eq (by omega) (by omega) (by omega)]
   have hl:((List.range p.toNat).map (spl n p)).length=(List.replicate p.toNat (0:Int)).length:=by simp
   have key:=xup_ind (n:=p.toNat) (P:=fun i=>Run tr fixed_Split_l0 [I n,I p,I i,ints (mix ((List.range p.toNat).map (spl n p)) (List.replicate p.toNat 0) i)] [.loop fixed_Split_l0 [I n,I p]] [ints ((List.range p.toNat).map (spl n p))]) ?_ 0 (Nat.zero_le _)
   · simpa [mix_zero]using key
   intro i hi ih
   rw[u_fixed_Split_l0]
   by_cases h:i < p.toNat
   · have hm:=mix_len hl i
     rw[List.length_replicate]at hm
     have hne:p≠0:=by omega
     have hset:=mix_set (a:=(List.range p.toNat).map (spl n p)) (s:=List.replicate p.toNat (0:Int)) (v:=spl n p i) hl (by simpa using h) (by simp)
     have hs:spl n p i=n / p+(if(i:Int) < n % p then 1 else 0):=rfl
     rw[hs]at hset
     simp (disch:=first | omega | (simp only[ln0];omega)) only[rs,reduceIte,Nat.reduceAdd,h,hm,hne,hdiv,hmod,fixed_Split_j1,bne_iff_ne,ne_eq,not_false_eq_true,List.length_set,List.getElem_set_self,List.set_set]
     refine br_split ?_ ?_ <;> intro _
     · rename_i hlt
       rw[if_pos hlt]at hset
       rw[hset]
       exact ih h
     · rename_i hlt
       rw[if_neg hlt,Int.add_zero]at hset
       rw[hset]
       exact ih h
   · have:i=p.toNat:=by omega
     subst this
     simp (disch:=first | omega | (simp only[ln0];omega)) only[rs,reduceIte,Nat.reduceAdd,Nat.lt_irrefl]
     rw[mix_full' hl (by simp)]
end Go.Proofs.YtckjdlmfibjpaaaGreat.T
namespace Go.Proofs.YtckjdlmfibjpaaaGreat.M
open Go Go.Proofs.YtckjdlmfibjpaaaGreat.Sx
theorem u64_in (n:Int) (h0:0≤n) (h1:n < 18446744073709551616):IntKind.u64.wrap n=n:=by rw[IntKind.wrap_u64];exact Int.emod_eq_of_lt h0 h1
theorem u64_same (n m:Int) (h:n % 18446744073709551616=m % 18446744073709551616) (h0:0≤m) (h1:m < 18446744073709551616):IntKind.u64.wrap n=m:=by rw[IntKind.wrap_u64,h];exact Int.emod_eq_of_lt h0 h1
theorem digit_eq (u d yn1 yn0 q r:Int) (hu:u=q*yn1+r):u*4294967296+d - q*(yn1*4294967296+yn0)=r*4294967296+d - q*yn0:=by
 subst hu
 grind
theorem digit_small {u d yn1 yn0 q r Y:Int} (hY:Y=yn1*4294967296+yn0) (hu:u=q*yn1+r) (hY0:0 < Y) (h:q*yn0≤r*4294967296+d):q≤(u*4294967296+d) / Y:=by
 rw[Int.le_ediv_iff_mul_le hY0]
 have:=digit_eq u d yn1 yn0 q r hu
 rw[←hY]at this
 omega
theorem digit_great {u d yn1 yn0 q r Y:Int} (hY:Y=yn1*4294967296+yn0) (hu:u=q*yn1+r) (hY0:0 < Y) (h:r*4294967296+d < q*yn0):(u*4294967296+d) / Y < q:=by
 rw[Int.ediv_lt_iff_lt_mul hY0]
 have:=digit_eq u d yn1 yn0 q r hu
 rw[←hY]at this
 omega
theorem digit_lt {u d Y:Int} (hY0:0 < Y) (hu:u < Y) (hd:d < 4294967296):(u*4294967296+d) / Y < 4294967296:=by
 rw[Int.ediv_lt_iff_lt_mul hY0]
 have:(u+1)*4294967296≤Y*4294967296:=Int.mul_le_mul_of_nonneg_right (by omega) (by omega)
 rw[Int.mul_comm 4294967296 Y]
 omega
theorem mul_lt' {a b A B:Int} (h0:0≤a) (h1:a≤A) (h2:0≤b) (h3:b≤B):a*b≤A*B:=Int.mul_le_mul h1 h3 h2 (by omega)
theorem two_digits (Y U A b q1 u2 q0:Int) (hY0:0 < Y) (e1:q1=(U*4294967296+A) / Y) (e2:u2=U*4294967296+A - q1*Y) (e3:q0=(u2*4294967296+b) / Y) :
    q1*4294967296+q0=(U*18446744073709551616+(A*4294967296+b)) / Y∧u2*4294967296+b - q0*Y=(U*18446744073709551616+(A*4294967296+b)) % Y:=by
 have h1:=Int.emod_nonneg (u2*4294967296+b) (b:=Y) (by omega)
 have h2:=Int.emod_lt_of_pos (u2*4294967296+b) hY0
 have h3:=Int.mul_ediv_add_emod (u2*4294967296+b) Y
 rw[←e3]at h3
 have e:U*18446744073709551616+(A*4294967296+b)=(u2*4294967296+b) % Y+Y*(q1*4294967296+q0):=by
  rw[Int.mul_comm Y,Int.add_mul]
  have:q1*4294967296*Y=(U*4294967296+A - u2)*4294967296:=by rw[e2];grind
  rw[Int.mul_comm Y q0]at h3
  omega
 constructor
 · rw[e,Int.add_mul_ediv_left _ _ (by omega),Int.ediv_eq_zero_of_lt h1 h2]
   omega
 · rw[e,Int.add_mul_emod_self_left,Int.emod_eq_of_lt h1 h2]
   rw[Int.mul_comm Y q0]at h3
   omega
theorem digit_start (U A Y yn1 yn0:Int) (hY:Y=yn1*4294967296+yn0) (h1:2147483648≤yn1) (h2:yn1 < 4294967296) (h3:0≤yn0) (h4:yn0 < 4294967296) (hu0:0≤U) (hu:U < Y) (hA0:0≤A) (hA:A < 4294967296) :
    0≤U / yn1∧U / yn1≤4294967297∧0≤U - U / yn1*yn1∧U - U / yn1*yn1 < yn1∧(U*4294967296+A) / Y≤U / yn1:=by
 have hp:0 < yn1:=by omega
 have hm:=Int.mul_ediv_add_emod U yn1
 have hm0:=Int.emod_nonneg U (b:=yn1) (by omega)
 have hm1:=Int.emod_lt_of_pos U hp
 rw[Int.mul_comm]at hm
 refine⟨Int.ediv_nonneg hu0 (by omega),?_,by omega,by omega,?_⟩
 · have:U / yn1 < 4294967298:=by
    rw[Int.ediv_lt_iff_lt_mul hp]
    omega
   omega
 · have:(U*4294967296+A) / Y < U / yn1+1:=by
    rw[Int.ediv_lt_iff_lt_mul (by omega)]
    have e:(U / yn1+1)*Y=(U / yn1*yn1+yn1)*4294967296+(U / yn1+1)*yn0:=by rw[hY];grind
    have h5:0≤(U / yn1+1)*yn0:=Int.mul_nonneg (by have:=Int.ediv_nonneg hu0 (by omega:0≤yn1);omega) h3
    rw[e]
    omega
   omega
def ab (x:Int):Int:=if x < 0 then -x else x
def mdN (neg:Bool) (Q R:Int):Int×Int:=
 if neg=true then(if 0 < R then(if 9223372036854775808≤Q then(0,10)else(-(Q+1),0))else(if Q≤9223372036854775808 then(-Q,0)else(0,10)))
 else(if 9223372036854775808≤Q then(0,10)else(Q,0))
def ng (a b c:Int):Bool:=((decide (a < 0)) != (decide (b < 0))) != (decide (c < 0))
def md (a b c:Int):Int×Int:=if c=0 then(0,2)else mdN (ng a b c) (ab a*ab b / ab c) (ab a*ab b % ab c)
theorem ab_in {a:Int} (h: -9223372036854775808≤a∧a≤9223372036854775807):0≤ab a∧ab a≤9223372036854775808:=by
 unfold ab
 split <;> omega
theorem pr_in {a b:Int} (ha:0≤a) (ha1:a≤9223372036854775808) (hb:0≤b) (hb1:b≤9223372036854775808):0≤a*b∧a*b≤85070591730234615865843651857942052864:=
 ⟨Int.mul_nonneg ha hb,Int.mul_le_mul ha1 hb1 hb (by decide)⟩
theorem mdN_great (neg:Bool) (Q R:Int) (h:18446744073709551616≤Q):mdN neg Q R=(0,10):=by
 unfold mdN
 cases neg <;> simp <;> (repeat' split) <;> first | rfl | omega
theorem md_pos {a b c:Int} (ha:0≤a) (hb:0≤b) (hc:0 < c) (hq:a*b / c < 9223372036854775808):md a b c=(a*b / c,0):=by
 unfold md mdN ng ab
 simp[show ¬c=0 by omega,show ¬a < 0 by omega,show ¬b < 0 by omega,show ¬c < 0 by omega]
 omega
theorem mul_halves (a b:Int) (ha:0≤a) (ha1:a < 18446744073709551616) (hb:0≤b) (hb1:b < 18446744073709551616) :
    let p00:=a % 4294967296*(b % 4294967296);let p10:=a / 4294967296*(b % 4294967296);let p01:=a % 4294967296*(b / 4294967296);let p11:=a / 4294967296*(b / 4294967296)
    0≤p00∧p00≤18446744065119617025∧0≤p10∧p10≤18446744065119617025∧0≤p01∧p01≤18446744065119617025∧0≤p11∧p11≤18446744065119617025∧a*b=p11*18446744073709551616+(p10+p01)*4294967296+p00:=by
 intro p00 p10 p01 p11
 have h:∀x y:Int,0≤x→x≤4294967295→0≤y→y≤4294967295→0≤x*y∧x*y≤18446744065119617025:=fun x y h1 h2 h3 h4=>⟨Int.mul_nonneg h1 h3,Int.mul_le_mul h2 h4 h3 (by decide)⟩
 have h00:=h (a % 4294967296) (b % 4294967296) (by omega) (by omega) (by omega) (by omega)
 have h10:=h (a / 4294967296) (b % 4294967296) (by omega) (by omega) (by omega) (by omega)
 have h01:=h (a % 4294967296) (b / 4294967296) (by omega) (by omega) (by omega) (by omega)
 have h11:=h (a / 4294967296) (b / 4294967296) (by omega) (by omega) (by omega) (by omega)
 refine⟨h00.1,h00.2,h10.1,h10.2,h01.1,h01.2,h11.1,h11.2,?_⟩
 have e1:a=a / 4294967296*4294967296+a % 4294967296:=by omega
 have e2:b=b / 4294967296*4294967296+b % 4294967296:=by omega
 show a*b=a / 4294967296*(b / 4294967296)*18446744073709551616+(a / 4294967296*(b % 4294967296)+a % 4294967296*(b / 4294967296))*4294967296+a % 4294967296*(b % 4294967296)
 generalize a / 4294967296=x at *
 generalize a % 4294967296=y at *
 generalize b / 4294967296=z at *
 generalize b % 4294967296=w at *
 subst e1 e2
 grind
end Go.Proofs.YtckjdlmfibjpaaaGreat.M

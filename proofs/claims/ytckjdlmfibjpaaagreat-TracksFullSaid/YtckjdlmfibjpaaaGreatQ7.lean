/- Plain laws that the claim needs (texts joined to one). No condition. -/
import Derived.Test.YtckjdlmfibjpaaaGreatT
import Derived.Test.YtckjdlmfibjpaaaGreatQ6
import Derived.Test.YtckjdlmfibjpaaaGreatQ3
import Derived.Test.YtckjdlmfibjpaaaGreatQ5
set_option linter.unusedVariables false
set_option linter.unusedSimpArgs false
set_option maxRecDepth 10000
namespace Go.Proofs.YtckjdlmfibjpaaaGreat.T
open Go Go.Proofs.YtckjdlmfibjpaaaGreat.Sx Go.Proofs.YtckjdlmfibjpaaaGreat.M
def u3W (s:List Sz) (a:List Int) (w:Wn):Int:=unitS ((s.drop w.fm.toNat).take (w.to - w.fm).toNat) (lessS w.mx ((a.drop (w.fm+1).toNat).take (w.to - (w.fm+1)).toNat))
def u3S (s:List Sz) (a:List Int):List Wn→Int→Int
 | [],n=>n
 | w::ws,n=>u3S s a ws (max n (u3W s a w))
theorem row_sl {α:Type} (e:α→List PV) (l:List α) (i n:Nat):PV.row (List.take n (List.drop i (l.map e)))=rowOf e ((l.drop i).take n):=by simp[rowOf,List.map_take,List.map_drop]
theorem all_part {l:List Int} (h:l.all lenB=true) (i n:Nat):((l.drop i).take n).all lenG=true:=by
 rw[List.all_eq_true]at h ⊢
 intro x hx
 exact h x (List.mem_of_mem_drop (List.mem_of_mem_take hx))
theorem g3_run (s:List Sz) (a:List Int) (ws:List Wn) (p3 p4 p5:PV) (J0:JT) (r:List PV) (hs:s.all okF=true) (hl:s.length≤10000) (ha:a.all lenB=true) (hal:a.length=s.length) (hwl:ws.length≤4096) (hw:ws.all (wOkF s.length)=true) :
    ∀k,k≤ws.length→∀n:Int,
     Run tr flex_Grow_l4 [rowOf eSz s,ints a,rowOf eWn ws,p3,p4,p5,I ws.length,I (u3S s a (ws.drop k) n),I 0,.row []] [J0,.loop flex_Grow_l3 [rowOf eSz s,ints a,rowOf eWn ws,p3,p4,p5],.loop flex_Grow_l4 [rowOf eSz s,ints a,rowOf eWn ws,p3,p4,p5,I ws.length,I (u3S s a (ws.drop k) n)]] r→
     Run tr flex_Grow_l3 [rowOf eSz s,ints a,rowOf eWn ws,p3,p4,p5,I k,I n] [J0,.loop flex_Grow_l3 [rowOf eSz s,ints a,rowOf eWn ws,p3,p4,p5]] r:=by
 refine xup_ind fun k hk ih=>?_
 intro n hrun
 by_cases h:k < ws.length
 · have hok:=List.all_eq_true.1 hw _ (List.getElem_mem h)
   simp only[wOkF,lenB,Bool.and_eq_true,Bool.not_eq_true',decide_eq_false_iff_not,decide_eq_true_eq]at hok
   obtain⟨hq, -, -,hmx⟩:=hok
   have hless:=less_sp ws[k].mx ((a.drop (ws[k].fm+1).toNat).take (ws[k].to - (ws[k].fm+1)).toNat) hmx (all_part ha _ _) (by simp;omega)
   have hunit:=unit_sp ((s.drop ws[k].fm.toNat).take (ws[k].to - ws[k].fm).toNat) (lessS ws[k].mx ((a.drop (ws[k].fm+1).toNat).take (ws[k].to - (ws[k].fm+1)).toNat)) (by simp;omega)
   rw[List.drop_eq_getElem_cons h]at hrun
   simp only[u3S]at hrun
   have hi:=ih h _ hrun
   have e2:(if u3W s a ws[k] > n then u3W s a ws[k]else n)=max n (u3W s a ws[k]):=by omega
   unfold u3W at e2 hi
   have g0:0≤ws[k].fm:=by omega
   have g1:ws[k].fm≤ws[k].to:=by omega
   have g2:ws[k].to≤s.length:=by omega
   have g3:0≤ws[k].fm+1:=by omega
   have g4:ws[k].fm+1≤ws[k].to:=by omega
   rw[u_flex_Grow_l3]
   simp (disch:=first | omega | (simp only[ln0];omega)) only[rs,reduceIte,Nat.reduceAdd,h,wn_at0 _ _ h,wn_at1 _ _ h,wn_at4 _ _ h,g0,g1,g2,g3,g4,hal,row_sl,xcall_of hless,xcall_of hunit,e2,bx,reduceCtorEq,forall_const,ne_eq]
   first | exact hi | exact⟨by omega,hi⟩
 · rw[List.drop_of_length_le (by omega)]at hrun
   simp only[u3S]at hrun
   obtain rfl:k=ws.length:=by omega
   rw[u_flex_Grow_l3]
   simp (disch:=first | omega | (simp only[ln0];omega)) only[rs,reduceIte,Nat.reduceAdd,h]
   first | exact hrun | exact⟨by omega,hrun⟩
def mapU (unit:Int):Nat→List Sz→List (List PV)→List (List PV)
 | _,[],m=>m
 | i,x::s,m=>mapU unit (i+1) s (if x.mx=5 then [I i,I (gU unit x)]::m else m)
theorem mapU_out (unit:Int):∀ (s:List Sz) (i:Nat) (m:List (List PV)) (j:Int),(j < i∨i+s.length≤j)→mapGet (mapU unit i s m) j=mapGet m j
 | [],_,_,_,_=>rfl
 | x::s,i,m,j,h=>by
  simp only[List.length_cons]at h
  rw[mapU,mapU_out unit s (i+1) _ j (by omega)]
  split
  · rw[mapGet]
    have:¬ (i:Int)=j:=by omega
    show(if(i:Int)=j then _ else _)=_
    rw[if_neg this]
  · rfl
theorem growU_eq (unit:Int):∀ (s:List Sz) (i:Nat) (m:List (List PV)),(∀j:Int,i≤j→mapGet m j=0)→∀g:Int→Int,(∀j:Int,i≤j→g j=mapGet (mapU unit i s m) j)→growS g i s=growU unit s
 | [],_,_,_,_,_=>rfl
 | x ::s,i,m,hm,g,hg=>by
  have hh:mapGet (mapU unit i (x::s) m) i=gU unit x:=by
   rw[mapU,mapU_out unit s (i+1) _ i (by omega)]
   split
   · show(if(i:Int)=i then gU unit x else _)=_
     rw[if_pos rfl]
   · rename_i hx
     rw[hm i (Int.le_refl _),gU,if_neg hx]
  simp only[growS,growU,List.map_cons]
  rw[hg i (Int.le_refl _),hh]
  congr 1
  refine growU_eq unit s (i+1) (if x.mx=5 then [I i,I (gU unit x)]::m else m) (fun j hj=>?_) g (fun j hj=>hg j (by omega))
  split
  · show(if(i:Int)=j then _ else mapGet m j)=0
    rw[if_neg (by omega)]
    exact hm j (by omega)
  · exact hm j (by omega)
theorem md_nn {a b:Int} (ha:0≤a) (hb:0≤b):0≤(md a b 1000).1:=by
 have h1:ab a=a:=by unfold ab;rw[if_neg (by omega)]
 have h2:ab b=b:=by unfold ab;rw[if_neg (by omega)]
 have h3:ab 1000=1000:=rfl
 have hq0:0≤a*b / 1000:=Int.ediv_nonneg (Int.mul_nonneg ha hb) (by omega)
 unfold md
 have h4:ng a b 1000=false:=by
  unfold ng
  rw[decide_eq_false (by omega:¬a < 0),decide_eq_false (by omega:¬b < 0)]
  rfl
 rw[if_neg (by omega),h1,h2,h3,h4]
 unfold mdN
 rw[if_neg (by simp)]
 (repeat' split) <;> simp only <;> omega
theorem mput_on (m:List (List PV)) (a b:Int):BO.mput.on (.row m) (.cells [I a,.int .i64 b])= .row ([I a,I b]::m):=rfl
theorem g4_run (s:List Sz) (p1 p2 p3 p4 p5 p6:PV) (unit:Int) (J0 J1:JT) (r:List PV) (hs:s.all okF=true) (hl:s.length≤10000) (hu:0≤unit∧unit≤100000000000000) :
    ∀j,j≤s.length→∀m:List (List PV),m.length≤j→
     Run tr flex_Grow_l6 [rowOf eSz s,p1,p2,p3,p4,p5,p6,I unit,I s.length,.row (mapU unit j (s.drop j) m),I 0,rowOf eSz s] [J0,J1,.loop flex_Grow_l4 [rowOf eSz s,p1,p2,p3,p4,p5,p6,I unit],.loop flex_Grow_l6 [rowOf eSz s,p1,p2,p3,p4,p5,p6,I unit,I s.length,.row (mapU unit j (s.drop j) m)]] r→
     Run tr flex_Grow_l4 [rowOf eSz s,p1,p2,p3,p4,p5,p6,I unit,I j,.row m] [J0,J1,.loop flex_Grow_l4 [rowOf eSz s,p1,p2,p3,p4,p5,p6,I unit]] r:=by
 refine xup_ind fun j hj ih=>?_
 intro m hm hrun
 by_cases h:j < s.length
 · have hok:=okF_in (List.all_eq_true.1 hs _ (List.getElem_mem h))
   have hmd:=muldiv_sp unit s[j].fr 1000 (by omega) (by omega) (by omega)
   have hb:=md_nn hu.1 hok.2.2.2.1
   rw[List.drop_eq_getElem_cons h]at hrun
   simp only[mapU]at hrun
   rw[u_flex_Grow_l4]
   simp (disch:=first | omega | (simp only[ln0];omega)) only[rs,reduceIte,Nat.reduceAdd,h,szs,bx,reduceCtorEq,forall_const,ne_eq]
   by_cases hx:s[j].mx=5
   · rw[if_pos hx,gU,if_pos hx]at hrun
     have hi:=ih h _ (by simp;omega) hrun
     have e1:(if 68719476736 < (md unit s[j].fr 1000).1 then 68719476736 else(md unit s[j].fr 1000).1)=min (md unit s[j].fr 1000).1 68719476736:=by omega
     rw[br_pos hx]
     simp (disch:=first | omega | (simp only[ln0];omega)) only[rs,reduceIte,Nat.reduceAdd,h,szs,xcall_of hmd,e1,bx,reduceCtorEq,forall_const,ne_eq]
     try (refine⟨by omega,by omega,by omega,by omega,by omega,?_⟩)
     rw[mput_on]
     rw[u_flex_Grow_j5]
     try simp (disch:=first | omega | (simp only[ln0];omega)) only[rs,reduceIte,Nat.reduceAdd]
     first | exact hi | exact⟨by omega,hi⟩
   · rw[if_neg hx]at hrun
     have hi:=ih h _ (by omega) hrun
     rw[br_neg hx]
     rw[u_flex_Grow_j5]
     try simp (disch:=first | omega | (simp only[ln0];omega)) only[rs,reduceIte,Nat.reduceAdd]
     first | exact hi | exact⟨by omega,hi⟩
 · rw[List.drop_of_length_le (by omega)]at hrun
   simp only[mapU]at hrun
   obtain rfl:j=s.length:=by omega
   rw[u_flex_Grow_l4]
   simp (disch:=first | omega | (simp only[ln0];omega)) only[rs,reduceIte,Nat.reduceAdd,h]
   first | exact hrun | exact⟨by omega,hrun⟩
theorem upS_in {a c:Int} (ha:0≤a∧a≤68719476736) (hc:1≤c∧c≤4611686018427387904):upF a 1000 c≤100000000000000:=by
 have:=md_bd (a:= -a) (c:=c) (by omega) hc
 unfold upF
 omega
theorem u1S_in:∀ (s:List Sz) (n:Int),s.all okF=true→0≤n→n≤100000000000000→0≤u1S s n∧u1S s n≤100000000000000
 | [],n,_,h0,h1=>⟨h0,h1⟩
 | x::s,n,h,h0,h1=>by
  simp only[List.all_cons,Bool.and_eq_true]at h
  have hx:=okF_in h.1
  have:=upS_in (a:=x.base) (c:=max x.fr 1000) (by omega) (by omega)
  rw[u1S]
  refine u1S_in s _ h.2 ?_ ?_ <;> split <;> omega
theorem unitS_in (s:List Sz) (space:Int) (hl:s.length≤10000):unitS s space≤100000000000000:=by
 unfold unitS
 split
 · omega
 · rename_i hb
   obtain⟨hsp,hs⟩:=rightB_in (show rightB s space=true by cases h:rightB s space with | true=>rfl | false=>exact absurd h hb)
   split
   · omega
   · have hL:=leftS_in s (finS s space) space hs hsp.1 hsp.2
     have hN:=partsF_in s (finS s space) 0 hs (Int.le_refl _)
     exact upS_in hL (by omega)
theorem u3S_in (s:List Sz) (a:List Int) (hl:s.length≤10000):∀ (ws:List Wn) (n:Int),0≤n→n≤100000000000000→0≤u3S s a ws n∧u3S s a ws n≤100000000000000
 | [],n,h0,h1=>⟨h0,h1⟩
 | w::ws,n,h0,h1=>by
  rw[u3S]
  have:u3W s a w≤100000000000000:=by unfold u3W;exact unitS_in _ _ (by simp;omega)
  exact u3S_in s a hl ws _ (by omega) (by omega)
def growR (s:List Sz) (a:List Int) (ws:List Wn):List Sz:=
 if rightB s 0&& goodF s a ws 0 then growU (u3S s a ws (u1S s 0)) s else s
theorem goodI_in {s:List Sz} {a:List Int} {ws:List Wn} {m:Int} (h:goodF s a ws m=true):a.length=s.length∧ws.length≤4096∧a.all lenB=true∧ws.all (wOkF s.length)=true:=by
 simp only[goodF,Bool.and_eq_true,decide_eq_true_eq]at h
 exact⟨h.1.1.1.1.1.1,h.1.1.1.1.1.2,h.1.2,h.2⟩
theorem fgrow_sp (s:List Sz) (a:List Int) (ws:List Wn) (hl:s.length≤10000) (ha:a.length≤1000000) (hw:ws.length≤1000000):Says tr c_flex_Grow [rowOf eSz s,ints a,rowOf eWn ws] [rowOf eSz (growR s a ws)]:=by
 refine Says.of (t:=flex_Grow) rfl ?_
 rw[u_flex_Grow]
 have h1:=fright_sp s 0 (by omega)
 have h2:=fgood_sp s a ws 0 (by omega) ha hw
 unfold growR
 have hbad:Run tr flex_Grow_j0 [rowOf eSz s,ints a,rowOf eWn ws,B true] [] [rowOf eSz s]:=by
  rw[u_flex_Grow_j0]
  simp (disch:=first | omega | (simp only[ln0];omega)) only[rs,reduceIte,Nat.reduceAdd]
 cases hb:rightB s 0 with
 | false=>
  rw[hb]at h1
  simp (disch:=first | omega | (simp only[ln0];omega)) only[rs,reduceIte,Nat.reduceAdd,xcall_of h1,Bool.false_eq_true]
  repeat rw[br_neg (by simp)]
  exact hbad
 | true=>
  rw[hb]at h1
  cases hg:goodF s a ws 0 with
  | false=>
   rw[hg]at h2
   simp (disch:=first | omega | (simp only[ln0];omega)) only[rs,reduceIte,Nat.reduceAdd,xcall_of h1,xcall_of h2,xints_nil,Bool.not_false]
   exact hbad
  | true=>
   rw[hg]at h2
   obtain⟨-,hs⟩:=rightB_in hb
   obtain⟨e1,e2,e3,e4⟩:=goodI_in hg
   simp (disch:=first | omega | (simp only[ln0];omega)) only[rs,reduceIte,Nat.reduceAdd,xcall_of h1,xcall_of h2,Bool.not_true,Bool.and_self]
   rw[u_flex_Grow_j0]
   have hu1:=u1S_in s 0 hs (Int.le_refl _) (by omega)
   have hu3:=u3S_in s a hl ws (u1S s 0) hu1.1 hu1.2
   have k6:=gl6_run s (ints a) (rowOf eWn ws) (B false) (I s.length) (I (u1S s 0)) (I ws.length) (I (u3S s a ws (u1S s 0))) (I s.length) (mapU (u3S s a ws (u1S s 0)) 0 s []) (.loop flex_Grow_l1 [rowOf eSz s,ints a,rowOf eWn ws,B false]) (.loop flex_Grow_l3 [rowOf eSz s,ints a,rowOf eWn ws,B false,I s.length,I (u1S s 0)]) (.loop flex_Grow_l4 [rowOf eSz s,ints a,rowOf eWn ws,B false,I s.length,I (u1S s 0),I ws.length,I (u3S s a ws (u1S s 0))]) hl 0 (Nat.zero_le _) [] rfl
   rw[List.drop_zero,List.nil_append,List.nil_append,growU_eq (u3S s a ws (u1S s 0)) s 0 [] (fun _ _=>rfl) _ (fun _ _=>rfl)]at k6
   have k4:=g4_run s (ints a) (rowOf eWn ws) (B false) (I s.length) (I (u1S s 0)) (I ws.length) (u3S s a ws (u1S s 0)) _ _ _ hs hl hu3 0 (Nat.zero_le _) [] (by simp) k6
   have k3:=g3_run s a ws (B false) (I s.length) (I (u1S s 0)) _ _ hs hl e3 e1 e2 e4 0 (Nat.zero_le _) (u1S s 0) k4
   have k1:=g1_run s (ints a) (rowOf eWn ws) (B false) _ hs hl 0 (Nat.zero_le _) 0 k3
   simp (disch:=first | omega | (simp only[ln0];omega)) only[rs,reduceIte,Nat.reduceAdd,Bool.false_eq_true]
   try rw[br_neg (by simp)]
   exact k1
theorem ab_nn (a:Int):0≤ab a:=by unfold ab;split <;> omega
theorem md_in (a b c:Int): -9223372036854775808≤(md a b c).1∧(md a b c).1≤9223372036854775807:=by
 have hq:0≤ab a*ab b / ab c:=Int.ediv_nonneg (Int.mul_nonneg (ab_nn a) (ab_nn b)) (ab_nn c)
 unfold md
 split
 · simp
 · unfold mdN
   (repeat' split) <;> simp only <;> omega
def pushP:List (Int×Int)→List (List PV)→List (List PV)
 | [],m=>m
 | (i,v)::r,m=>pushP r ([I i,I v]::m)
theorem mapGet_cons (i v j:Int) (m:List (List PV)):mapGet ([I i,I v]::m) j=if i=j then v else mapGet m j:=rfl
theorem pushP_len:∀ (l:List (Int×Int)) (m:List (List PV)),(pushP l m).length=l.length+m.length
 | [],m=>by simp[pushP]
 | (i,v)::r,m=>by rw[pushP,pushP_len r];simp;omega
theorem pushP_out:∀ (l:List (Int×Int)) (m:List (List PV)) (j:Int),(∀x∈l,x.1≠j)→mapGet (pushP l m) j=mapGet m j
 | [],_,_,_=>rfl
 | (i,v)::r,m,j,h=>by
  rw[pushP,pushP_out r _ j (fun x hx=>h x (List.mem_cons_of_mem _ hx)),mapGet_cons,if_neg (h (i,v) (List.mem_cons_self ..))]
def frF:List Sz→List Bool→List Int
 | x::s,b::st=>if x.mx≠5∨b=true then frF s st else x.fr::frF s st
 | _,_=> []
def wtF:List Sz→List Bool→List Int
 | x::s,b::st=>(if x.mx≠5∨b=true then 0 else x.fr)::wtF s st
 | _,_=> []
def spreadF:List Sz→List Bool→List Int→List Int
 | x::s,b::st,vs=>if x.mx≠5∨b=true then 0::spreadF s st vs else vs.headD 0::spreadF s st vs.tail
 | _,_,_=> []
def growV:List Sz→List Int→List Sz
 | x::s,v::vs=>raiseS x v::growV s vs
 | _,_=> []
theorem frF_len:∀ (s:List Sz) (st:List Bool) (i:Nat),(frF s st).length=(whoF i s st).length
 | [],st,i=>by cases st <;> rfl
 | x::s,[],i=>rfl
 | x::s,b::st,i=>by
  simp only[frF,whoF]
  split
  · exact frF_len s st (i+1)
  · simp[frF_len s st (i+1)]
theorem who_at:∀ (s:List Sz) (st:List Bool) (i k:Nat) (h:k < (whoF i s st).length),∃q:Nat,(whoF i s st)[k]=((i+q:Nat):Int)∧∃ (h1:q < s.length) (h2:k < (frF s st).length),s[q].fr=(frF s st)[k]
 | [],st,i,k,h=>by cases st <;> simp[whoF]at h
 | x::s,[],i,k,h=>by simp[whoF]at h
 | x ::s,b::st,i,k,h=>by
  have e1:whoF i (x::s) (b::st)=if x.mx≠5∨b=true then whoF (i+1) s st else(i:Int)::whoF (i+1) s st:=rfl
  have e2:frF (x::s) (b::st)=if x.mx≠5∨b=true then frF s st else x.fr::frF s st:=rfl
  by_cases hc:x.mx≠5∨b=true
  · rw[if_pos hc]at e1 e2
    simp only[e1,e2]at h ⊢
    obtain⟨q,g1,g2,g3,g4⟩:=who_at s st (i+1) k h
    exact⟨q+1,by rw[g1];congr 1;omega,by simp;omega,g3,by simpa using g4⟩
  · rw[if_neg hc]at e1 e2
    simp only[e1,e2]at h ⊢
    cases k with
    | zero=>exact⟨0,rfl,by simp,by simp,rfl⟩
    | succ k=>
     obtain⟨q,g1,g2,g3,g4⟩:=who_at s st (i+1) k (by simpa using h)
     exact⟨q+1,by simp only[List.getElem_cons_succ,g1];congr 1;omega,by simp;omega,by simpa using g3,by simpa using g4⟩
theorem growV_eq:∀ (s:List Sz) (st:List Bool) (i:Nat) (vs:List Int) (m:List (List PV)),st.length=s.length→vs.length=(whoF i s st).length→(∀j:Int,i≤j→j∉whoF i s st→mapGet m j=0)→
    ∀g:Int→Int,(∀j:Int,i≤j→g j=mapGet (pushP ((whoF i s st).zip vs) m) j)→growS g i s=growV s (spreadF s st vs)
 | [],st,i,vs,m,_,_,_,g,_=>by cases st <;> rfl
 | x::s,[],i,vs,m,h,_,_,g,_=>by simp at h
 | x ::s,b::st,i,vs,m,h,hv,hm,g,hg=>by
  have e1:whoF i (x::s) (b::st)=if x.mx≠5∨b=true then whoF (i+1) s st else(i:Int)::whoF (i+1) s st:=rfl
  have hw:=(whoF_in s st (i+1)).2
  have hout:∀ (l:List Int) (m:List (List PV)),mapGet (pushP ((whoF (i+1) s st).zip l) m) i=mapGet m i:=fun l m=>
   pushP_out _ _ _ fun x hx hh=>by
    obtain⟨q,e,g1,_⟩:=hw _ (List.of_mem_zip hx).1
    omega
  by_cases hc:x.mx≠5∨b=true
  · rw[if_pos hc]at e1
    rw[e1]at hv hm hg
    simp only[growS,spreadF,if_pos hc,growV]
    rw[hg i (Int.le_refl _),hout,hm i (Int.le_refl _) (fun hh=>by obtain⟨q,e,g1,_⟩:=hw _ hh;omega)]
    congr 1
    exact growV_eq s st (i+1) vs m (by simpa using h) hv (fun j hj hn=>hm j (by omega) hn) g (fun j hj=>hg j (by omega))
  · rw[if_neg hc]at e1
    rw[e1]at hv hm hg
    cases vs with
    | nil=>simp at hv
    | cons v vs=>
     simp only[List.zip_cons_cons,pushP]at hg
     simp only[growS,spreadF,if_neg hc,growV,List.headD_cons,List.tail_cons]
     rw[hg i (Int.le_refl _),hout,mapGet_cons,if_pos rfl]
     congr 1
     refine growV_eq s st (i+1) vs ([I i,I v]::m) (by simpa using h) (by simpa using hv) (fun j hj hn=>?_) g (fun j hj=>hg j (by omega))
     rw[mapGet_cons,if_neg (by omega)]
     refine hm j (by omega) fun hh=>?_
     rcases List.mem_cons.1 hh with hh | hh
     · omega
     · exact hn hh
theorem partsF_fr:∀ (s:List Sz) (st:List Bool) (n:Int),partsF s st n=n+sumI (frF s st)
 | [],st,n=>by cases st <;> simp[partsF,frF,sumI]
 | x::s,[],n=>by simp[partsF,frF,sumI]
 | x::s,b::st,n=>by
  simp only[partsF,frF]
  split
  · exact partsF_fr s st n
  · rw[partsF_fr s st,sumI];omega
theorem frF_wg:∀ (s:List Sz) (st:List Bool),s.all okF=true→(frF s st).all wgB=true∧(wtF s st).all wgB=true
 | [],st,_=>by cases st <;> exact⟨rfl,rfl⟩
 | x::s,[],_=>⟨rfl,rfl⟩
 | x::s,b::st,h=>by
  simp only[List.all_cons,Bool.and_eq_true]at h
  obtain⟨h1,h2⟩:=frF_wg s st h.2
  have hx:=okF_in h.1
  have hw:wgB x.fr=true:=by simp[wgB];omega
  simp only[wtF,frF]
  split
  · exact⟨h1,by simp[List.all_cons,h2,wgB]⟩
  · exact⟨by simp[List.all_cons,h1,hw],by simp[List.all_cons,h2,hw]⟩
theorem shareS_eq {n:Int} {ws:List Int} (hn:0≤n∧n≤68719476736) (hl:ws.length≤65536) (hw:ws.all wgB=true) (hs:sumI ws≠0):shareS n ws=partsS n (sumI ws) 0 0 ws:=by
 unfold shareS
 rw[if_neg (by omega),if_neg (by rw[hw];simp),if_neg hs]
def valsF (s:List Sz) (st:List Bool) (L N:Int):List Int:=
 if 1000≤N then partsS L N 0 0 (frF s st)else(frF s st).map (partF L N)
def fillR (s:List Sz) (a:List Int) (size:Int):List Sz:=
 if rightB s size&& goodF s a [] 0 then growV s (spreadF s (finS s (lessS size a)) (valsF s (finS s (lessS size a)) (leftS s (finS s (lessS size a)) (lessS size a)) (partsF s (finS s (lessS size a)) 0)))else s
theorem lessS_in:∀ (a:List Int) (n:Int),a.all lenB=true→0≤n→n≤68719476736→0≤lessS n a∧lessS n a≤68719476736
 | [],n,_,h0,h1=>⟨h0,h1⟩
 | x::a,n,h,h0,h1=>by
  simp only[List.all_cons,Bool.and_eq_true,lenB,decide_eq_true_eq]at h
  rw[lessS]
  exact lessS_in a _ (by simpa [lenB]using h.2) (by omega) (by omega)
theorem finS_len (s:List Sz) (space:Int):(finS s space).length=s.length:=by
 unfold finS
 generalize s.length+1=k
 have:∀ (k:Nat) (st:List Bool),(iterS s space k st).length=st.length:=by
  intro k
  induction k with
  | zero=>intro st;rfl
  | succ k ih=>intro st;rw[iterS,ih,stepS_length]
 rw[this]
 simp
theorem mput_on2 (m:List (List PV)) (a b:Int):BO.mput.on (.row m) (.cells [I a,I b])= .row ([I a,I b]::m):=rfl
theorem ff1_run (s:List Sz) (st:List Bool) (p1 p2 p3 p4:PV) (L N:Int) (r:List PV) (hs:s.all okF=true) (hl:s.length≤10000) (hL:0≤L∧L≤68719476736) (hN:0≤N∧N≤109951162777600) :
    ∀k,k≤(whoF 0 s st).length→∀m:List (List PV),m.length≤k→
     Run tr (.letj flex_Fill_j2 (.ite (cmp .geq (v 6) (n 1000)) (.call c_fixed_Share [(v 5),(v 9)] 1 (.loop [(n 0),(v 10)] flex_Fill_l5)) (.jump 1 [(v 10)]))) [rowOf eSz s,p1,p2,p3,p4,I L,I N,ints (whoF 0 s st),I (whoF 0 s st).length,ints (frF s st),.row (pushP (((whoF 0 s st).drop k).zip (((frF s st).drop k).map (partF L N))) m)] [.loop flex_Fill_l1 [rowOf eSz s,p1,p2,p3,p4,I L,I N,ints (whoF 0 s st)]] r→
     Run tr flex_Fill_l1 [rowOf eSz s,p1,p2,p3,p4,I L,I N,ints (whoF 0 s st),I k,ints (mix (frF s st) (List.replicate (whoF 0 s st).length 0) k),.row m] [.loop flex_Fill_l1 [rowOf eSz s,p1,p2,p3,p4,I L,I N,ints (whoF 0 s st)]] r:=by
 have hfl:=frF_len s st 0
 have hfl2:(frF s st).length=(List.replicate (whoF 0 s st).length (0:Int)).length:=by simp[hfl]
 have hwl:=(whoF_in s st 0).1
 refine xup_ind fun k hk ih=>?_
 intro m hm hrun
 by_cases h:k < (whoF 0 s st).length
 · obtain⟨q,hq,hqs,hkf,hfr⟩:=who_at s st 0 k h
   rw[Nat.zero_add]at hq
   have hok:=okF_in (List.all_eq_true.1 hs _ (List.getElem_mem hqs))
   have hcall:=part_sp L N s[q].fr (whoF 0 s st) hL hN hok.2.2.2
   have hb:=md_in L s[q].fr (max N 1000)
   have hb1: -9223372036854775808≤partF L N s[q].fr:=hb.1
   have hb2:partF L N s[q].fr≤9223372036854775807:=hb.2
   rw[List.drop_eq_getElem_cons h,List.drop_eq_getElem_cons hkf,List.map_cons,List.zip_cons_cons,pushP,hq,←hfr]at hrun
   have hi:=ih h ([I q,I (partF L N s[q].fr)]::m) (by simp;omega) hrun
   have hms:=mix_set hfl2 (i:=k) (by simpa using h) hfr
   have hml:k < (mix (frF s st) (List.replicate (whoF 0 s st).length 0) k).length:=by rw[mix_len hfl2];simpa using h
   rw[←hms]at hi
   generalize mix (frF s st) (List.replicate (whoF 0 s st).length 0) k=X at hi hml
   rw[u_flex_Fill_l1]
   simp (disch:=first | omega | (simp only[ln0];omega)) only[rs,reduceIte,Nat.reduceAdd,h,hq,hqs,hml,szs,xcall_of hcall,bx,reduceCtorEq,forall_const,ne_eq]
   try (refine⟨by omega,by omega,by omega,by omega,by omega,?_⟩)
   rw[mput_on2]
   first | exact hi | exact⟨by omega,hi⟩
 · have e1:(whoF 0 s st).drop k=[]:=List.drop_of_length_le (by omega)
   have e2:mix (frF s st) (List.replicate (whoF 0 s st).length (0:Int)) k=frF s st:=mix_full' hfl2 (by simp;omega)
   rw[e1]at hrun
   simp only[List.zip_nil_left,pushP]at hrun
   obtain rfl:k=(whoF 0 s st).length:=by omega
   rw[e2]
   rw[u_flex_Fill_l1]
   simp only[run_ite,xden_var,den_bin,den_un,on_cmp,ev_lss,List.getD_cons_succ,List.getD_cons_zero,pi_int,b_bool,on_len,rowOf_r,List.length_map]
   rw[br_neg (by simp)]
   exact hrun
theorem ff5_run (s:List Sz) (p1 p2 p3 p4 p5 p6 p8 p9 p10:PV) (who vs:List Int) (J0:JT) (r:List PV) (hw:∀x∈who,0≤x∧x≤10000) (hwl:who.length≤10000) (hv:vs.length=who.length) (hvb:∀x∈vs, -9223372036854775808≤x∧x≤9223372036854775807) :
    ∀k,k≤who.length→∀m:List (List PV),m.length≤10000+k→
     Run tr flex_Fill_j2 [rowOf eSz s,p1,p2,p3,p4,p5,p6,ints who,p8,p9,p10,.row (pushP ((who.drop k).zip (vs.drop k)) m)] [J0] r→
     Run tr flex_Fill_l5 [rowOf eSz s,p1,p2,p3,p4,p5,p6,ints who,p8,p9,p10,ints vs,I k,.row m] [J0,.join flex_Fill_j2 [rowOf eSz s,p1,p2,p3,p4,p5,p6,ints who,p8,p9,p10],.loop flex_Fill_l5 [rowOf eSz s,p1,p2,p3,p4,p5,p6,ints who,p8,p9,p10,ints vs]] r:=by
 refine xup_ind fun k hk ih=>?_
 intro m hm hrun
 by_cases h:k < who.length
 · have hkv:k < vs.length:=by omega
   have g1:=hw _ (List.getElem_mem h)
   have g2:=hvb _ (List.getElem_mem hkv)
   rw[List.drop_eq_getElem_cons h,List.drop_eq_getElem_cons hkv,List.zip_cons_cons,pushP]at hrun
   have hi:=ih h ([I who[k],I vs[k]]::m) (by simp;omega) hrun
   rw[u_flex_Fill_l5]
   simp (disch:=first | omega | (simp only[ln0];omega)) only[rs,reduceIte,Nat.reduceAdd,h,hkv,bx,reduceCtorEq,forall_const,ne_eq]
   try (refine⟨by omega,by omega,by omega,by omega,by omega,?_⟩)
   try rw[mput_on2]
   first | exact hi | exact⟨by omega,hi⟩
 · have e1:who.drop k=[]:=List.drop_of_length_le (by omega)
   rw[e1]at hrun
   simp only[List.zip_nil_left,pushP]at hrun
   have hkv:¬k < vs.length:=by omega
   rw[u_flex_Fill_l5]
   simp (disch:=first | omega | (simp only[ln0];omega)) only[rs,reduceIte,Nat.reduceAdd,hkv]
   first | exact hrun | exact⟨by omega,hrun⟩
theorem partsS_in {L all:Int} (hL:0≤L∧L≤68719476736) (ha:0 < all):∀ (ws:List Int) (was sum:Int),0≤was→was≤L→0≤sum→sum+sumI ws≤all→ws.all wgB=true→∀x∈partsS L all was sum ws, -68719476736≤x∧x≤68719476736
 | [],_,_,_,_,_,_,_,x,hx=>by simp[partsS]at hx
 | w::r,was,sum,h0,h1,h2,h3,hw,x,hx=>by
  simp only[List.all_cons,Bool.and_eq_true]at hw
  have hw1:=hw.1
  simp only[wgB,Bool.and_eq_true,decide_eq_true_eq]at hw1
  have hr:=sumI_in r hw.2
  simp only[sumI]at h3
  have hm:=md_part (s:=sum+w) hL (by omega) ha
  rw[partsS]at hx
  rcases List.mem_cons.1 hx with rfl | hx
  · omega
  · exact partsS_in hL ha r _ _ hm.1 hm.2 (by omega) (by omega) hw.2 x hx
theorem ffill_sp (s:List Sz) (a:List Int) (size:Int) (hl:s.length≤10000) (ha:a.length≤1000000):Says tr c_flex_Fill [rowOf eSz s,ints a,I size] [rowOf eSz (fillR s a size)]:=by
 refine Says.of (t:=flex_Fill) rfl ?_
 rw[u_flex_Fill]
 have h1:=fright_sp s size (by omega)
 have h2:=fgood_sp s a [] 0 (by omega) ha (by simp)
 unfold fillR
 have hbad:Run tr flex_Fill_j0 [rowOf eSz s,ints a,I size,B true] [] [rowOf eSz s]:=by
  rw[u_flex_Fill_j0]
  simp (disch:=first | omega | (simp only[ln0];omega)) only[rs,reduceIte,Nat.reduceAdd]
 cases hb:rightB s size with
 | false=>
  rw[hb]at h1
  simp (disch:=first | omega | (simp only[ln0];omega)) only[rs,reduceIte,Nat.reduceAdd,xcall_of h1,Bool.false_eq_true]
  repeat rw[br_neg (by simp)]
  exact hbad
 | true=>
  rw[hb]at h1
  cases hg:goodF s a [] 0 with
  | false=>
   rw[hg]at h2
   simp (disch:=first | omega | (simp only[ln0];omega)) only[rs,reduceIte,Nat.reduceAdd,xcall_of h1,show PV.row []=rowOf eWn []from rfl,xcall_of h2,Bool.not_false]
   exact hbad
  | true=>
   rw[hg]at h2
   obtain⟨hsz,hs⟩:=rightB_in hb
   obtain⟨e1,e2,e3,e4⟩:=goodI_in hg
   simp (disch:=first | omega | (simp only[ln0];omega)) only[rs,reduceIte,Nat.reduceAdd,xcall_of h1,show PV.row []=rowOf eWn []from rfl,xcall_of h2,Bool.not_true,Bool.and_self]
   rw[u_flex_Fill_j0]
   have h3:=less_sp size a hsz e3 ha
   have hsp:=lessS_in a size e3 hsz.1 hsz.2
   have h4:=fshared_sp s (lessS size a) hs hl hsp
   have hst:=finS_len s (lessS size a)
   generalize lessS size a=sp at h3 hsp h4 hst
   generalize finS s sp=st at h4 hst
   have hL:=leftS_in s st sp hs hsp.1 hsp.2
   have hN:=partsF_in s st 0 hs (Int.le_refl _)
   have hfr:=partsF_fr s st 0
   have hwg:=(frF_wg s st hs).1
   generalize leftS s st sp=L at h4 hL
   generalize partsF s st 0=N at h4 hN hfr
   obtain⟨w1,w2⟩:=whoF_in s st 0
   have hfl:=frF_len s st 0
   have k1:=ff1_run s st (ints a) (I size) (B false) (I sp) L N [rowOf eSz (growV s (spreadF s st (valsF s st L N)))] hs hl hL (by omega) 0 (Nat.zero_le _) [] (by simp) ?_
   · rw[mix_zero]at k1
     simp (disch:=first | omega | (simp only[ln0];omega)) only[rs,reduceIte,Nat.reduceAdd,Bool.false_eq_true,xcall_of h3,xcall_of h4]
     try rw[br_neg (by simp)]
     first | exact k1 | exact⟨by omega,k1⟩
   rw[List.drop_zero,List.drop_zero]
   simp (disch:=first | omega | (simp only[ln0];omega)) only[rs,reduceIte,Nat.reduceAdd,ge_iff_le]
   have hout:∀ (vs:List Int) (m:List (List PV)) (j:Int),j∉whoF 0 s st→mapGet (pushP ((whoF 0 s st).zip vs) m) j=mapGet m j:=fun vs m j hj=>
    pushP_out _ _ _ fun x hx hh=>hj (hh▸(List.of_mem_zip hx).1)
   have hj2:∀ (p8 p9 p10:PV) (xs:List (List PV)) (vs:List Int),growS (mapGet xs) 0 s=growV s (spreadF s st vs)→
       Run tr flex_Fill_j2 [rowOf eSz s,ints a,I size,B false,I sp,I L,I N,ints (whoF 0 s st),p8,p9,p10,.row xs] [.loop flex_Fill_l1 [rowOf eSz s,ints a,I size,B false,I sp,I L,I N,ints (whoF 0 s st)]] [rowOf eSz (growV s (spreadF s st vs))]:=by
    intro p8 p9 p10 xs vs he
    have k3:=fl3_run s (ints a) (I size) (B false) (I sp) (I L) (I N) (ints (whoF 0 s st)) p8 p9 p10 xs (.loop flex_Fill_l1 [rowOf eSz s,ints a,I size,B false,I sp,I L,I N,ints (whoF 0 s st)]) hl 0 (Nat.zero_le _) [] rfl
    rw[List.drop_zero,List.nil_append,List.nil_append,he]at k3
    rw[u_flex_Fill_j2]
    simp (disch:=first | omega | (simp only[ln0];omega)) only[rs,reduceIte,Nat.reduceAdd]
    first | exact k3 | exact⟨by omega,k3⟩
   have hv1:((frF s st).map (partF L N)).length=(whoF 0 s st).length:=by simp[hfl]
   unfold valsF
   by_cases hc:1000≤N
   · rw[br_pos hc,if_pos hc]
     have hsum:sumI (frF s st)=N:=by omega
     have hsh:=share_sp L (frF s st) (by omega)
     rw[shareS_eq hL (by omega) hwg (by omega),hsum]at hsh
     have hpl:=partsS_len L N (frF s st) 0 0
     have k5:=ff5_run s (ints a) (I size) (B false) (I sp) (I L) (I N) (I (whoF 0 s st).length) (ints (frF s st)) (.row (pushP ((whoF 0 s st).zip ((frF s st).map (partF L N))) [])) (whoF 0 s st) (partsS L N 0 0 (frF s st)) (.loop flex_Fill_l1 [rowOf eSz s,ints a,I size,B false,I sp,I L,I N,ints (whoF 0 s st)]) [rowOf eSz (growV s (spreadF s st (partsS L N 0 0 (frF s st))))]
      (fun x hx=>by obtain⟨q,e,_,g⟩:=w2 x hx;omega) (by omega) (by omega)
      (fun x hx=>by have:=partsS_in hL (by omega) (frF s st) 0 0 (Int.le_refl _) hL.1 (Int.le_refl _) (by omega) hwg x hx;omega) 0 (Nat.zero_le _) (pushP ((whoF 0 s st).zip ((frF s st).map (partF L N))) []) (by rw[pushP_len];simp;omega)
      (by
       rw[List.drop_zero,List.drop_zero]
       refine hj2 _ _ _ _ _ ?_
       exact growV_eq s st 0 _ (pushP ((whoF 0 s st).zip ((frF s st).map (partF L N))) []) hst (by rw[hpl];exact hfl) (fun j _ hj=>by rw[hout _ _ _ hj];rfl) _ (fun _ _=>rfl))
     simp (disch:=first | omega | (simp only[ln0];omega)) only[rs,reduceIte,Nat.reduceAdd,xcall_of hsh]
     first | exact k5 | exact⟨by omega,k5⟩
   · rw[br_neg hc,if_neg hc]
     exact hj2 _ _ _ _ _ (growV_eq s st 0 _ [] hst hv1 (fun _ _ _=>rfl) _ (fun _ _=>rfl))
end Go.Proofs.YtckjdlmfibjpaaaGreat.T
set_option maxRecDepth 100000
namespace Go.Proofs.YtckjdlmfibjpaaaGreat.T
open Go Go.Proofs.YtckjdlmfibjpaaaGreat.Sx Go.Proofs.YtckjdlmfibjpaaaGreat.M
def Mo1 (x y:Sz):Prop:=y.mn=x.mn∧y.mx=x.mx∧x.base≤y.base∧(Fxd x→y=x)
def Mo (s s':List Sz):Prop:=s'.length=s.length∧∀i (h:i < s.length) (h':i < s'.length),Mo1 s[i] s'[i]
theorem Mo1.rfl (x:Sz):Mo1 x x:=⟨_root_.rfl,_root_.rfl,Int.le_refl _,fun _=>_root_.rfl⟩
theorem Mo.rfl (s:List Sz):Mo s s:=⟨_root_.rfl,fun i h h'=>Mo1.rfl _⟩
theorem Mo.trans {s s' s'':List Sz} (h:Mo s s') (h':Mo s' s''):Mo s s'':=by
 refine⟨by rw[h'.1,h.1],fun i hi hi'=>?_⟩
 have h1:=h.2 i hi (by rw[h.1];exact hi)
 have h2:=h'.2 i (by rw[h.1];exact hi) hi'
 refine⟨by rw[h2.1,h1.1],by rw[h2.2.1,h1.2.1],by have:=h1.2.2.1;have:=h2.2.2.1;omega,fun hf=>?_⟩
 have e:=h1.2.2.2 hf
 rw[h2.2.2.2 (by rw[e];exact hf),e]
theorem mo_map {s:List Sz} {f:Sz→Sz} (h:∀x∈s,Mo1 x (f x)):Mo s (s.map f):=⟨by simp,fun i hi hi'=>by rw[List.getElem_map];exact h _ (List.getElem_mem hi)⟩
theorem raiseS_mo {x:Sz} (hx:Gd x) (v:Int) (hv:x.mx=1→v=0):Mo1 x (raiseS x v):=by
 have:=gd_in hx
 refine⟨rfl,rfl,by show x.base≤max x.base v;omega,fun hf=>?_⟩
 rw[hv hf.2.1]
 unfold raiseS
 have e1:max x.base 0=x.base:=by omega
 have e2:max x.lim x.base=x.lim:=by omega
 rw[e1,e2]
theorem okF_gd {s:List Sz} (h:s.all okF=true):∀x∈s,Gd x:=by
 intro x hx
 have:=List.all_eq_true.1 h x hx
 simp only[okF,Bool.and_eq_true,decide_eq_true_eq]at this
 exact this.1
theorem fgrowR_mo (s:List Sz) (a:List Int) (ws:List Wn):Mo s (growR s a ws):=by
 unfold growR
 split
 · rename_i h
   simp only[Bool.and_eq_true]at h
   have hg:=okF_gd (rightB_in h.1).2
   exact mo_map fun x hx=>raiseS_mo (hg x hx) _ (fun h1=>by unfold gU;rw[if_neg (by omega)])
 · exact Mo.rfl s
theorem growV_mo:∀ (s:List Sz) (st:List Bool) (vs:List Int),st.length=s.length→(∀x∈s,Gd x)→Mo s (growV s (spreadF s st vs))
 | [],st,vs,_,_=>by cases st <;> exact⟨rfl,fun i h=>by simp at h⟩
 | x::s,[],vs,h,_=>by simp at h
 | x::s,b::st,vs,h,hg=>by
  have hx:=hg x (by simp)
  have hs:=fun y hy=>hg y (List.mem_cons_of_mem x hy)
  have key:∀ (v:Int) (vs':List Int),(x.mx=1→v=0)→Mo (x::s) (growV (x::s) (v::spreadF s st vs')):=by
   intro v vs' hv
   have ih:=growV_mo s st vs' (by simpa using h) hs
   refine⟨by simp[growV,ih.1],fun i hi hi'=>?_⟩
   cases i with
   | zero=>exact raiseS_mo hx v hv
   | succ i=>exact ih.2 i (by simpa using hi) (by simpa [growV]using hi')
  unfold spreadF
  split
  · exact key 0 vs (fun _=>rfl)
  · rename_i hc
    exact key _ _ (fun h1=>absurd (Or.inl (by omega)) hc)
theorem ffillR_mo (s:List Sz) (a:List Int) (size:Int):Mo s (fillR s a size):=by
 unfold fillR
 split
 · rename_i h
   simp only[Bool.and_eq_true]at h
   exact growV_mo _ _ _ (finS_len _ _) (okF_gd (rightB_in h.1).2)
 · exact Mo.rfl s
theorem trs_wf {l:List Tr} (h:(LK.row [.int .i64,.int .i64,.int .i64,.int .i64,.bool,.int .i64,.int .i64]).wf (rowOf eTr l)):∀x∈l,TrIn x:=by
 intro x hx
 have:=h.2 (eTr x) (by simp only[rowOf,PV.r];exact List.mem_map.2 ⟨x,hx,rfl⟩)
 simp only[LK.wfs]at this
 obtain⟨_,_,e0,w0,_,_,e1,w1,_,_,e2,w2,_,_,e3,w3,_,_,e4,w4,_,_,e5,w5,_,_,e6,w6,_⟩:=this
 cases e0;cases e1;cases e2;cases e3;cases e4;cases e5;cases e6
 exact⟨int_wf w1,int_wf w3,int_wf w6⟩
theorem light_sp (low:Int) (l:List Tr) (g:List Bool) (a:List Int) (ws:List Wn):Says tr c_law27_light [I low,rowOf eTr l,bools g,ints a,rowOf eWn ws] [B (decide (l.length≤60)&& decide (g.length≤100)&& decide (a.length≤100)&& decide (ws.length≤60))]:=by
 refine Says.of (t:=law27_light) rfl ?_
 rw[u_law27_light]
 have h:∀x:Nat,decide ((x:Int)≤60)=decide (x≤60):=fun x=>by rw[decide_eq_decide];omega
 have h':∀x:Nat,decide ((x:Int)≤100)=decide (x≤100):=fun x=>by rw[decide_eq_decide];omega
 simp (disch:=first | omega | (simp only[ln0];omega)) only[rs,reduceIte,Nat.reduceAdd,h,h']
theorem begin_fix {x:Tr} {size:Int} {d:Bool} (h:(startT x size d).2=0) (hk:x.k0=2):(startT x size d).1.base=x.n0∧(x.k1=x.k0∧x.n1=x.n0→Fxd (startT x size d).1):=by
 unfold startT at h ⊢
 by_cases h1:rtB x=false∨d=true∧(size < 0∨68719476736 < size)
 · rw[if_pos h1]at h;cases h
 rw[if_neg h1]at h ⊢
 by_cases h2:(resS x.k0 x.n0 size d).2.2≠0
 · rw[if_pos h2]at h;exact absurd h h2
 rw[if_neg h2]at h ⊢
 by_cases h3:(resS x.k1 x.n1 size d).2.2≠0
 · rw[if_pos h3]at h;exact absurd h h3
 rw[if_neg h3]at h ⊢
 by_cases h4:(resS x.k2 x.n2 size d).2.2≠0
 · rw[if_pos h4]at h;exact absurd h h4
 rw[if_neg h4]
 have hr:rtB x=true:=by
  cases hh:rtB x with
  | true=>rfl
  | false=>exact absurd (Or.inl hh) h1
 have hfit:x.fit=false:=by
  cases hf:x.fit with
  | false=>rfl
  | true=>
   unfold rtB at hr
   rw[if_pos hf]at hr
   simp only[Bool.and_eq_true,decide_eq_true_eq]at hr
   omega
 have e0:(resS x.k0 x.n0 size d)=(x.n0,true,0):=by unfold resS;rw[if_pos hk]
 unfold begin1
 simp only[e0]
 refine⟨trivial,?_⟩
 rintro⟨hk1,hn1⟩
 have e1:(resS x.k1 x.n1 size d)=(x.n0,true,0):=by unfold resS;rw[if_pos (by omega),hn1]
 refine⟨?_,?_,?_,?_⟩
 · show kindS x.k0 d=1
   unfold kindS
   rw[if_pos (Or.inl hk)]
 · show kindS x.k1 d=1
   unfold kindS
   rw[if_pos (Or.inl (by omega))]
 · show(x.fit&& _)=false
   rw[hfit];rfl
 · simp only[e1,if_true]
   show max x.n0 x.n0=x.n0
   omega
theorem all_fix {low:Int} {l:List Tr} {g:List Bool} {a:List Int} {size:Int} {d:Bool} (h:(allT low l g a size d).2=0):g.length=l.length∧(allT low l g a size d).1.length=l.length∧∀i (hi:i < l.length) (hg:i < g.length) (h':i < (allT low l g a size d).1.length),
    (g[i]=true→Fxd (allT low l g a size d).1[i]∧(allT low l g a size d).1[i].base=0)∧(g[i]=false→l[i].k0=2→(allT low l g a size d).1[i].base=l[i].n0∧(l[i].k1=l[i].k0∧l[i].n1=l[i].n0→Fxd (allT low l g a size d).1[i])):=by
 have key:∃_:TkOk low l g a,firstE (startA l g size d)=0∧allT low l g a size d=((startA l g size d).map Prod.fst,0):=by
  unfold allT at h ⊢
  by_cases h1:¬TkOk low l g a
  · rw[if_pos h1]at h;cases h
  rw[if_neg h1]at h ⊢
  by_cases h2:firstE (startA l g size d)≠0
  · rw[if_pos h2]at h;exact absurd h h2
  · rw[if_neg h2]
    exact⟨Classical.not_not.1 h1,by simpa using h2,rfl⟩
 obtain⟨hok,hz,he⟩:=key
 have hgl:g.length=l.length:=hok.2.1
 have hl:(startA l g size d).length=l.length:=by simp[startA,hgl]
 rw[he]
 refine⟨hgl,by simp[hl],fun i hi hg h'=>?_⟩
 have hi2:i < (startA l g size d).length:=by omega
 have hz2:=firstE_zero hz _ (List.getElem_mem hi2)
 simp only[List.getElem_map]
 simp only[startA,List.getElem_zipWith]at hz2 ⊢
 constructor
 · intro hgt
   rw[if_pos hgt]at hz2 ⊢
   have:=begin_fix hz2 rfl
   exact⟨this.2 ⟨rfl,rfl⟩,this.1⟩
 · intro hgf hk
   have hgn:¬g[i]=true:=by rw[hgf];simp
   rw[if_neg hgn]at hz2 ⊢
   exact begin_fix hz2 hk
theorem begin_kind {x:Tr} {size:Int} {d:Bool} (h:(startT x size d).2=0):(startT x size d).1.mn=kindS x.k0 d∧(startT x size d).1.mx=kindS x.k1 d∧(startT x size d).1.fr=if kindS x.k1 d=5 then x.n1 else 0:=by
 unfold startT at h ⊢
 by_cases h1:rtB x=false∨d=true∧(size < 0∨68719476736 < size)
 · rw[if_pos h1]at h;cases h
 rw[if_neg h1]at h ⊢
 by_cases h2:(resS x.k0 x.n0 size d).2.2≠0
 · rw[if_pos h2]at h;exact absurd h h2
 rw[if_neg h2]at h ⊢
 by_cases h3:(resS x.k1 x.n1 size d).2.2≠0
 · rw[if_pos h3]at h;exact absurd h h3
 rw[if_neg h3]at h ⊢
 by_cases h4:(resS x.k2 x.n2 size d).2.2≠0
 · rw[if_pos h4]at h;exact absurd h h4
 rw[if_neg h4]
 exact⟨rfl,rfl,rfl⟩
theorem all_key {low:Int} {l:List Tr} {g:List Bool} {a:List Int} {size:Int} {d:Bool} (h:(allT low l g a size d).2=0):∃_:TkOk low l g a,firstE (startA l g size d)=0∧allT low l g a size d=((startA l g size d).map Prod.fst,0):=by
 unfold allT at h ⊢
 by_cases h1:¬TkOk low l g a
 · rw[if_pos h1]at h;cases h
 rw[if_neg h1]at h ⊢
 by_cases h2:firstE (startA l g size d)≠0
 · rw[if_pos h2]at h;exact absurd h h2
 · rw[if_neg h2]
   exact⟨Classical.not_not.1 h1,by simpa using h2,rfl⟩
theorem all_kind {low:Int} {l:List Tr} {g:List Bool} {a:List Int} {size:Int} {d:Bool} (h:(allT low l g a size d).2=0):∀i (hi:i < l.length) (hg:i < g.length) (h':i < (allT low l g a size d).1.length),g[i]=false→(allT low l g a size d).1[i].mn=kindS l[i].k0 d∧(allT low l g a size d).1[i].mx=kindS l[i].k1 d∧(allT low l g a size d).1[i].fr=if kindS l[i].k1 d=5 then l[i].n1 else 0:=by
 obtain⟨hok,hz,he⟩:=all_key h
 have hgl:g.length=l.length:=hok.2.1
 have hl:(startA l g size d).length=l.length:=by simp[startA,hgl]
 rw[he]
 intro i hi hg h' hgf
 have hi2:i < (startA l g size d).length:=by omega
 have hz2:=firstE_zero hz _ (List.getElem_mem hi2)
 simp only[List.getElem_map]
 simp only[startA,List.getElem_zipWith]at hz2 ⊢
 have hgn:¬g[i]=true:=by rw[hgf];simp
 rw[if_neg hgn]at hz2 ⊢
 exact begin_kind hz2
instance (s:List Sz) (free:Int):Decidable (GrowOk s free):=by unfold GrowOk;infer_instance
noncomputable def growT (s:List Sz) (free:Int):List Sz:=if h:s.length≤65536∧GrowOk s free then grown s (Classical.choose (grow_ok s free h.1 h.2))else s
noncomputable def stretT (s:List Sz) (free:Int):List Sz:=if GrowOk s free then stret s (gotS s free)else s
def fullT (s:List Sz):List Sz:=if ∀x∈s,Gd x then s.map full1 else s
theorem growT_sp (s:List Sz) (free:Int) (hm:s.length≤60):Says tr c_maximise_Grow [rowOf eSz s,I free] [rowOf eSz (growT s free)]:=by
 unfold growT
 by_cases h:s.length≤65536∧GrowOk s free
 · rw[dif_pos h]
   exact(Classical.choose_spec (grow_ok s free h.1 h.2)).2
 · rw[dif_neg h]
   exact grow_bad s free (by omega) (fun hh=>h ⟨by omega,hh⟩)
theorem stretT_sp (s:List Sz) (free:Int) (hm:s.length≤60):Says tr c_maximise_Stretch [rowOf eSz s,I free] [rowOf eSz (stretT s free)]:=by
 unfold stretT
 by_cases h:GrowOk s free
 · rw[if_pos h];exact stretch_ok s free (by omega) h
 · rw[if_neg h];exact stretch_bad s free (by omega) h
theorem fullT_sp (s:List Sz) (hm:s.length≤60):Says tr c_maximise_Full [rowOf eSz s] [rowOf eSz (fullT s)]:=by
 unfold fullT
 by_cases h:∀x∈s,Gd x
 · rw[if_pos h];exact full_ok s (by omega) h
 · rw[if_neg h];exact full_bad s (by omega) h
theorem growT_len (s:List Sz) (free:Int):(growT s free).length=s.length:=by
 unfold growT
 split
 · rename_i h
   have hu:=(Classical.choose_spec (grow_ok s free h.1 h.2)).1
   have:=isup_length hu
   exact grown_length (by rw[this];simp[roomM])
 · rfl
theorem stretT_len (s:List Sz) (free:Int):(stretT s free).length=s.length:=by
 unfold stretT
 split
 · rename_i h
   exact stret_length (got_in s free h.2.1 h.2.2).1
 · rfl
theorem fullT_len (s:List Sz):(fullT s).length=s.length:=by
 unfold fullT
 split <;> simp
def basesR (S:List Sz) (a:List Int):List Int×Int:=if(totalS S a).2=0 then(S.map (·.base),0)else([],(totalS S a).2)
noncomputable def stretR (S:List Sz) (a:List Int) (size:Int):List Sz:=if(totalS S a).1 < size then stretT S (IntKind.i64.wrap (size - (totalS S a).1))else S
noncomputable def grwR (S:List Sz) (a:List Int) (size:Int):List Sz:=if(totalS S a).1 < size then growT S (IntKind.i64.wrap (size - (totalS S a).1))else S
noncomputable def plainR (S:List Sz) (a:List Int) (size:Int) (st:Bool):List Int×Int:=
 if(totalS S a).2≠0 then([],(totalS S a).2)
 else if st=true then(if(totalS (fillR (grwR S a size) a size) a).2≠0 then([],(totalS (fillR (grwR S a size) a size) a).2)else basesR (stretR (fillR (grwR S a size) a size) a size) a)
 else basesR (fillR (grwR S a size) a size) a
noncomputable def tailR (S:List Sz) (a:List Int) (size mode:Int) (ws:List Wn) (st:Bool):List Int×Int:=
 if mode=0 then plainR S a size st else if mode=2 then basesR (growR (fullT S) a ws) a else basesR S a
noncomputable def tmainR (A:List Sz×Int) (a:List Int) (size mode:Int) (ws:List Wn) (st:Bool):List Int×Int:=
 if A.2≠0 then([],A.2)else if goodI A.1 a ws mode=true then tailR (sizeS A.1 a ws (decide (mode≠0)) (decide (mode=2))) a size mode ws st else([],2)
noncomputable def tsizeR (low:Int) (l:List Tr) (g:List Bool) (a:List Int) (size mode:Int) (ws:List Wn) (st:Bool):List Int×Int:=
 if(mode < 0∨2 < mode)∨(if TkOk low l g a∧mode=0 then !inB size else !decide (TkOk low l g a))=true then([],2)else tmainR (allT low l g a size (decide (mode=0))) a size mode ws st
theorem bases_run (low:Int) (l:List Tr) (g:List Bool) (a:List Int) (size mode:Int) (ws:List Wn) (st:Bool) (x8 x9 x10 x11 x12:PV) (S:List Sz) (hS:S.length≤60) (ha:a.length≤100) (J:List JT) (hJ:J.length=1) :
    Run tr tracks_Size_j2 [I low,rowOf eTr l,bools g,ints a,I size,I mode,rowOf eWn ws,B st,x8,x9,x10,x11,x12,rowOf eSz S] J [ints (basesR S a).1,I (basesR S a).2]:=by
 have ht:=total_sp S a (by omega) (by omega)
 obtain⟨j0,rfl⟩:∃j0,J=[j0]:=by
  cases J with
  | nil=>simp at hJ
  | cons j r=>cases r with
   | nil=>exact⟨j,rfl⟩
   | cons _ _=>simp at hJ
 unfold basesR
 by_cases he:(totalS S a).2=0
 · rw[if_pos he]
   rw[u_tracks_Size_j2]
   have hl:(S.length:Int)≤17592186044416:=by omega
   have hn:((totalS S a).2 != 0)=false:=by rw[he];rfl
   simp (disch:=first | omega | (simp only[ln0];omega)) only[rs,reduceIte,Nat.reduceAdd,xcall_of ht,hn,hl,Bool.false_eq_true]
   have hal:(S.map (·.base)).length=(List.replicate S.length (0:Int)).length:=by simp
   have key:=xup_ind (n:=S.length) (P:=fun i=>Run tr tracks_Size_l3 [I low,rowOf eTr l,bools g,ints a,I size,I mode,rowOf eWn ws,B st,x8,x9,x10,x11,x12,rowOf eSz S,I (totalS S a).1,I (totalS S a).2,I i,ints (mix (S.map (·.base)) (List.replicate S.length 0) i)] [j0,.loop tracks_Size_l3 [I low,rowOf eTr l,bools g,ints a,I size,I mode,rowOf eWn ws,B st,x8,x9,x10,x11,x12,rowOf eSz S,I (totalS S a).1,I (totalS S a).2]] [ints (S.map (·.base)),I 0]) ?_ 0 (Nat.zero_le _)
   · rw[mix_zero]at key
     exact key
   intro i hi ih
   rw[u_tracks_Size_l3]
   have hml:(mix (S.map (·.base)) (List.replicate S.length (0:Int)) i).length=S.length:=by rw[mix_len hal];simp
   by_cases hx:i < S.length
   · have hset:=mix_set hal (i:=i) (by simpa using hx) (v:=S[i].base) (by simp)
     have ih':=ih hx
     rw[←hset]at ih'
     simp (disch:=first | omega | (simp only[ln0];omega)) only[rs,reduceIte,Nat.reduceAdd,hx,hml,szs]
     exact ih'
   · obtain rfl:i=S.length:=by omega
     have hm0:mix (S.map (·.base)) (List.replicate S.length (0:Int)) S.length=S.map (·.base):=mix_full' hal (by simp)
     simp (disch:=first | omega | (simp only[ln0];omega)) only[rs,reduceIte,Nat.reduceAdd,Nat.lt_irrefl,hm0]
 · rw[if_neg he]
   rw[u_tracks_Size_j2]
   have hn:((totalS S a).2 != 0)=true:=by rw[bne_iff_ne];exact he
   simp (disch:=first | omega | (simp only[ln0];omega)) only[rs,reduceIte,Nat.reduceAdd,xcall_of ht,hn]
   try rfl
theorem tsize_sp (low:Int) (l:List Tr) (g:List Bool) (a:List Int) (size mode:Int) (ws:List Wn) (st:Bool) (hl:l.length≤60) (hg:g.length≤100) (ha:a.length≤100) (hw:ws.length≤60) (hx:∀x∈l,TrIn x) (hs:I64 size) :
    Says tr c_tracks_Size [I low,rowOf eTr l,bools g,ints a,I size,I mode,rowOf eWn ws,B st] [ints (tsizeR low l g a size mode ws st).1,I (tsizeR low l g a size mode ws st).2]:=by
 have hall:=all_sp low l g a size (decide (mode=0)) (by omega) hx hs
 have hlen:(allT low l g a size (decide (mode=0))).1.length≤60:=by
  unfold allT
  split
  · simp
  · split
    · simp
    · simp[startA];omega
 unfold tsizeR
 generalize hA:allT low l g a size (decide (mode=0))=A at *
 have hsz:=isize_sp A.1 a ws mode (by omega) (by omega)
 have main : Run tr tracks_Size_j1 [I low,rowOf eTr l,bools g,ints a,I size,I mode,rowOf eWn ws,B st,B false] [.join tracks_Size_j0 [I low,rowOf eTr l,bools g,ints a,I size,I mode,rowOf eWn ws,B st]] [ints (tmainR A a size mode ws st).1,I (tmainR A a size mode ws st).2]:=by
  have hd:(mode == 0)=decide (mode=0):=by by_cases h:mode=0 <;> simp[h]
  unfold tmainR
  by_cases he:A.2=0
  · have hn1 : (A.2 != 0)=false:=by rw[he];rfl
    rw[if_neg (fun h=>h he)]
    by_cases hgood:goodI A.1 a ws mode=true
    · rw [if_pos hgood]
      have hR:sizeR A.1 a ws mode=(sizeS A.1 a ws (decide (mode≠0)) (decide (mode=2)),0):=by unfold sizeR;rw[if_pos hgood]
      have hRl:=sizeR_len A.1 a ws mode hgood
      rw[hR]at hsz hRl
      simp only at hsz hRl
      generalize sizeS A.1 a ws (decide (mode≠0)) (decide (mode=2))=S at *
      have hS:S.length≤60:=by omega
      have hj2:=fun(S':List Sz) (h:S'.length≤60)=>bases_run low l g a size mode ws st (B false) (rowOf eSz A.1) (I A.2) (rowOf eSz S) (I 0) S' h ha [.join tracks_Size_j0 [I low,rowOf eTr l,bools g,ints a,I size,I mode,rowOf eWn ws,B st]] rfl
      unfold tailR
      by_cases hm0:mode=0
      · have ht :=total_sp S a (by omega) (by omega)
        rw[if_pos hm0]
        have hj4 :∀S3:List Sz,S3.length≤60→Run tr tracks_Size_j4 [I low,rowOf eTr l,bools g,ints a,I size,I mode,rowOf eWn ws,B st,B false,rowOf eSz A.1,I A.2,rowOf eSz S,I 0,I (totalS S a).1,I (totalS S a).2,rowOf eSz S3] [.join tracks_Size_j0 [I low,rowOf eTr l,bools g,ints a,I size,I mode,rowOf eWn ws,B st],.join tracks_Size_j2 [I low,rowOf eTr l,bools g,ints a,I size,I mode,rowOf eWn ws,B st,B false,rowOf eSz A.1,I A.2,rowOf eSz S,I 0]]
            (let r:=if(totalS S a).2≠0 then([],(totalS S a).2)else if st=true then(if(totalS (fillR S3 a size) a).2≠0 then([],(totalS (fillR S3 a size) a).2)else basesR (stretR (fillR S3 a size) a size) a)else basesR (fillR S3 a size) a
             [ints r.1,I r.2]):=by
         intro S3 h3
         by_cases he2:(totalS S a).2=0
         · have hn2:((totalS S a).2 != 0)=false:=by rw[he2];rfl
           have hfm:=ffillR_mo S3 a size
           have hff:=ffill_sp S3 a size (by omega) (by omega)
           have hl4:(fillR S3 a size).length≤60:=by rw[hfm.1];exact h3
           rw[if_neg (fun h=>h he2)]
           generalize fillR S3 a size=S4 at *
           cases st with
           | false=>
            have h1:=hj2 S4 hl4
            rw[if_neg (by simp)]
            rw[u_tracks_Size_j4]
            simp (disch:=first | omega | (simp only[ln0];omega)) only[rs,reduceIte,Nat.reduceAdd,hn2,Bool.false_eq_true,xcall_of hff]
            exact h1
           | true=>
            have ht4:=total_sp S4 a (by omega) (by omega)
            rw[if_pos rfl]
            have hj5:∀S5:List Sz,S5.length≤60→Run tr tracks_Size_j5 [I low,rowOf eTr l,bools g,ints a,I size,I mode,rowOf eWn ws,B true,B false,rowOf eSz A.1,I A.2,rowOf eSz S,I 0,I (totalS S a).1,I (totalS S a).2,rowOf eSz S3,rowOf eSz S4,I (totalS S4 a).1,I (totalS S4 a).2,rowOf eSz S5] [.join tracks_Size_j0 [I low,rowOf eTr l,bools g,ints a,I size,I mode,rowOf eWn ws,B true],.join tracks_Size_j2 [I low,rowOf eTr l,bools g,ints a,I size,I mode,rowOf eWn ws,B true,B false,rowOf eSz A.1,I A.2,rowOf eSz S,I 0]]
                (let r:=if(totalS S4 a).2≠0 then([],(totalS S4 a).2)else basesR S5 a
                 [ints r.1,I r.2]):=by
             intro S5 h5
             by_cases he4:(totalS S4 a).2=0
             · have hn4:((totalS S4 a).2 != 0)=false:=by rw[he4];rfl
               have h1:=hj2 S5 h5
               rw[if_neg (fun h=>h he4)]
               rw[u_tracks_Size_j5]
               simp (disch:=first | omega | (simp only[ln0];omega)) only[rs,reduceIte,Nat.reduceAdd,hn4,Bool.false_eq_true]
               exact h1
             · have hn4:((totalS S4 a).2 != 0)=true:=by rw[bne_iff_ne];exact he4
               rw[if_pos he4]
               rw[u_tracks_Size_j5]
               simp (disch:=first | omega | (simp only[ln0];omega)) only[rs,reduceIte,Nat.reduceAdd,hn4]
               try rfl
            by_cases hc:((totalS S4 a).2=0)∧(totalS S4 a).1 < size
            · have hs5:=stretT_sp S4 (IntKind.i64.wrap (size - (totalS S4 a).1)) hl4
              have h1:=hj5 (stretT S4 (IntKind.i64.wrap (size - (totalS S4 a).1))) (by rw[stretT_len];exact hl4)
              have e5:stretR S4 a size=stretT S4 (IntKind.i64.wrap (size - (totalS S4 a).1)):=by unfold stretR;rw[if_pos hc.2]
              rw[e5]
              rw[u_tracks_Size_j4]
              simp (disch:=first | omega | (simp only[ln0];omega)) only[rs,reduceIte,Nat.reduceAdd,hn2,Bool.false_eq_true,xcall_of hff,xcall_of ht4,bx,reduceCtorEq,forall_const,ne_eq]
              rw[br_pos hc]
              simp (disch:=first | omega | (simp only[ln0];omega)) only[rs,reduceIte,Nat.reduceAdd,xcall_of hs5]
              exact h1
            · have h1:=hj5 S4 hl4
              have e5:(totalS S4 a).2=0→stretR S4 a size=S4:=by intro h0;unfold stretR;rw[if_neg (fun hh=>hc ⟨h0,hh⟩)]
              have e6:(if(totalS S4 a).2≠0 then([],(totalS S4 a).2)else basesR (stretR S4 a size) a)=(if(totalS S4 a).2≠0 then([],(totalS S4 a).2)else basesR S4 a):=by
               split
               · rfl
               · rename_i hh;rw[e5 (Classical.not_not.1 hh)]
              rw[e6]
              rw[u_tracks_Size_j4]
              simp (disch:=first | omega | (simp only[ln0];omega)) only[rs,reduceIte,Nat.reduceAdd,hn2,Bool.false_eq_true,xcall_of hff,xcall_of ht4,bx,reduceCtorEq,forall_const,ne_eq]
              rw[br_neg hc]
              try simp (disch:=first | omega | (simp only[ln0];omega)) only[rs,reduceIte,Nat.reduceAdd]
              exact h1
         · have hn2:((totalS S a).2 != 0)=true:=by rw[bne_iff_ne];exact he2
           rw[if_pos he2]
           rw[u_tracks_Size_j4]
           simp (disch:=first | omega | (simp only[ln0];omega)) only[rs,reduceIte,Nat.reduceAdd,hn2]
           try rfl
        unfold plainR
        by_cases hc:((totalS S a).2=0)∧(totalS S a).1 < size
        · have hs3:=growT_sp S (IntKind.i64.wrap (size - (totalS S a).1)) hS
          have h1:=hj4 (growT S (IntKind.i64.wrap (size - (totalS S a).1))) (by rw[growT_len];exact hS)
          have e3:grwR S a size=growT S (IntKind.i64.wrap (size - (totalS S a).1)):=by unfold grwR;rw[if_pos hc.2]
          rw[e3]
          rw[u_tracks_Size_j1]
          simp (disch:=first | omega | (simp only[ln0];omega)) only[rs,reduceIte,Nat.reduceAdd,hd,xcall_of hall,hn1,xcall_of hsz,Bool.false_eq_true,bx,reduceCtorEq,forall_const,ne_eq]
          try rw[br_pos hm0]
          simp (disch:=first | omega | (simp only[ln0];omega)) only[rs,reduceIte,Nat.reduceAdd,xcall_of ht,bx,reduceCtorEq,forall_const,ne_eq]
          rw[br_pos hc]
          simp (disch:=first | omega | (simp only[ln0];omega)) only[rs,reduceIte,Nat.reduceAdd,xcall_of hs3]
          exact h1
        · have h1:=hj4 S hS
          have e3:(totalS S a).2=0→grwR S a size=S:=by intro h0;unfold grwR;rw[if_neg (fun hh=>hc ⟨h0,hh⟩)]
          have h1':Run tr tracks_Size_j4 [I low,rowOf eTr l,bools g,ints a,I size,I mode,rowOf eWn ws,B st,B false,rowOf eSz A.1,I A.2,rowOf eSz S,I 0,I (totalS S a).1,I (totalS S a).2,rowOf eSz S] [.join tracks_Size_j0 [I low,rowOf eTr l,bools g,ints a,I size,I mode,rowOf eWn ws,B st],.join tracks_Size_j2 [I low,rowOf eTr l,bools g,ints a,I size,I mode,rowOf eWn ws,B st,B false,rowOf eSz A.1,I A.2,rowOf eSz S,I 0]]
           (let r:=if(totalS S a).2≠0 then([],(totalS S a).2)else if st=true then(if(totalS (fillR (grwR S a size) a size) a).2≠0 then([],(totalS (fillR (grwR S a size) a size) a).2)else basesR (stretR (fillR (grwR S a size) a size) a size) a)else basesR (fillR (grwR S a size) a size) a
            [ints r.1,I r.2]):=by
           by_cases h0:(totalS S a).2=0
           · rw[e3 h0];exact h1
           · rw[if_pos h0]at h1 ⊢;exact h1
          rw[u_tracks_Size_j1]
          simp (disch:=first | omega | (simp only[ln0];omega)) only[rs,reduceIte,Nat.reduceAdd,hd,xcall_of hall,hn1,xcall_of hsz,Bool.false_eq_true,bx,reduceCtorEq,forall_const,ne_eq]
          try rw[br_pos hm0]
          simp (disch:=first | omega | (simp only[ln0];omega)) only[rs,reduceIte,Nat.reduceAdd,xcall_of ht,bx,reduceCtorEq,forall_const,ne_eq]
          rw[br_neg hc]
          try simp (disch:=first | omega | (simp only[ln0];omega)) only[rs,reduceIte,Nat.reduceAdd]
          exact h1'
      · rw[if_neg hm0]
        by_cases hm2:mode=2
        · rw[if_pos hm2]
          have hs3:=fullT_sp S hS
          have hm4:=fgrowR_mo (fullT S) a ws
          have hff:=fgrow_sp (fullT S) a ws (by rw[fullT_len];omega) (by omega) (by omega)
          have h1:=hj2 (growR (fullT S) a ws) (by rw[hm4.1,fullT_len];exact hS)
          rw[u_tracks_Size_j1]
          simp (disch:=first | omega | (simp only[ln0];omega)) only[rs,reduceIte,Nat.reduceAdd,hd,xcall_of hall,hn1,xcall_of hsz,Bool.false_eq_true,bx,reduceCtorEq,forall_const,ne_eq]
          try rw[br_neg hm0]
          try simp (disch:=first | omega | (simp only[ln0];omega)) only[rs,reduceIte,Nat.reduceAdd,bx,reduceCtorEq,forall_const,ne_eq]
          try rw[br_pos hm2]
          simp (disch:=first | omega | (simp only[ln0];omega)) only[rs,reduceIte,Nat.reduceAdd,xcall_of hs3,xcall_of hff]
          exact h1
        · rw[if_neg hm2]
          have h1:=hj2 S hS
          rw[u_tracks_Size_j1]
          simp (disch:=first | omega | (simp only[ln0];omega)) only[rs,reduceIte,Nat.reduceAdd,hd,xcall_of hall,hn1,xcall_of hsz,Bool.false_eq_true,bx,reduceCtorEq,forall_const,ne_eq]
          try rw[br_neg hm0]
          try simp (disch:=first | omega | (simp only[ln0];omega)) only[rs,reduceIte,Nat.reduceAdd,bx,reduceCtorEq,forall_const,ne_eq]
          try rw[br_neg hm2]
          try simp (disch:=first | omega | (simp only[ln0];omega)) only[rs,reduceIte,Nat.reduceAdd]
          exact h1
    · have hR:sizeR A.1 a ws mode=([],2):=by unfold sizeR;rw[if_neg hgood]
      rw[hR]at hsz
      rw[if_neg hgood]
      rw[u_tracks_Size_j1]
      have hn2:((2:Int) != 0)=true:=rfl
      simp (disch:=first | omega | (simp only[ln0];omega)) only[rs,reduceIte,Nat.reduceAdd,hd,xcall_of hall,hn1,xcall_of hsz,hn2,Bool.false_eq_true]
      try rfl
  · have hn1:(A.2 != 0)=true:=by rw[bne_iff_ne];exact he
    rw[if_pos he]
    rw[u_tracks_Size_j1]
    simp (disch:=first | omega | (simp only[ln0];omega)) only[rs,reduceIte,Nat.reduceAdd,hd,xcall_of hall,hn1,Bool.false_eq_true]
    try rfl
 have bad:∀r:List Int×Int,r=([],2)→Run tr tracks_Size_j0 [I low,rowOf eTr l,bools g,ints a,I size,I mode,rowOf eWn ws,B st] [] [ints r.1,I r.2]:=by
  intro r hr
  subst hr
  rw[u_tracks_Size_j0]
  simp (disch:=first | omega | (simp only[ln0];omega)) only[rs,reduceIte,Nat.reduceAdd]
  try rfl
 have hbad2:=bad ([],2) rfl
 have hj1t:Run tr tracks_Size_j1 [I low,rowOf eTr l,bools g,ints a,I size,I mode,rowOf eWn ws,B st,B true] [.join tracks_Size_j0 [I low,rowOf eTr l,bools g,ints a,I size,I mode,rowOf eWn ws,B st]] [ints [],I 2]:=by
  rw[u_tracks_Size_j1]
  simp (disch:=first | omega | (simp only[ln0];omega)) only[rs,reduceIte,Nat.reduceAdd]
  exact hbad2
 have fin:∀c:Bool,Run tr tracks_Size_j1 [I low,rowOf eTr l,bools g,ints a,I size,I mode,rowOf eWn ws,B st,B c] [.join tracks_Size_j0 [I low,rowOf eTr l,bools g,ints a,I size,I mode,rowOf eWn ws,B st]]
     (let r:=if c=true then([],2)else tmainR A a size mode ws st
      [ints r.1,I r.2]):=by
  intro c
  cases c with
  | true=>exact hj1t
  | false=>exact main
 by_cases hmode:mode < 0∨2 < mode
 · rw[if_pos (Or.inl hmode)]
   refine Says.of (t:=tracks_Size) rfl ?_
   rw[u_tracks_Size]
   simp (disch:=first | omega | (simp only[ln0];omega)) only[rs,reduceIte,Nat.reduceAdd,bx,reduceCtorEq,forall_const,ne_eq]
   rw[br_pos hmode]
   try simp (disch:=first | omega | (simp only[ln0];omega)) only[rs,reduceIte,Nat.reduceAdd]
   exact hbad2
 · have htg:=tgood_sp low l g a
   have hwi:=twithin_sp size
   by_cases hc:TkOk low l g a∧mode=0
   · have h1:=fin (!inB size)
     have e:(if(mode < 0∨2 < mode)∨(if TkOk low l g a∧mode=0 then !inB size else !decide (TkOk low l g a))=true then(([]:List Int),(2:Int))else tmainR A a size mode ws st)=if(!inB size)=true then([],2)else tmainR A a size mode ws st:=by
      rw[if_pos hc]
      by_cases hb:(!inB size)=true
      · rw[if_pos (Or.inr hb),if_pos hb]
      · rw[if_neg (fun h=>h.elim hmode hb),if_neg hb]
     rw[e]
     refine Says.of (t:=tracks_Size) rfl ?_
     rw[u_tracks_Size]
     simp (disch:=first | omega | (simp only[ln0];omega)) only[rs,reduceIte,Nat.reduceAdd,bx,reduceCtorEq,forall_const,ne_eq]
     rw[br_neg hmode]
     simp (disch:=first | omega | (simp only[ln0];omega)) only[rs,reduceIte,Nat.reduceAdd,xcall_of htg,bx,reduceCtorEq,forall_const,ne_eq]
     rw[br_pos hc]
     simp (disch:=first | omega | (simp only[ln0];omega)) only[rs,reduceIte,Nat.reduceAdd,xcall_of hwi]
     first | exact h1 | simpa using h1
   · have h1:=fin (!decide (TkOk low l g a)&& true)
     rw[Bool.and_true]at h1
     have e:(if(mode < 0∨2 < mode)∨(if TkOk low l g a∧mode=0 then !inB size else !decide (TkOk low l g a))=true then(([]:List Int),(2:Int))else tmainR A a size mode ws st)=if(!decide (TkOk low l g a))=true then([],2)else tmainR A a size mode ws st:=by
      rw[if_neg hc]
      by_cases hb:(!decide (TkOk low l g a))=true
      · rw[if_pos (Or.inr hb),if_pos hb]
      · rw[if_neg (fun h=>h.elim hmode hb),if_neg hb]
     rw[e]
     refine Says.of (t:=tracks_Size) rfl ?_
     rw[u_tracks_Size]
     simp (disch:=first | omega | (simp only[ln0];omega)) only[rs,reduceIte,Nat.reduceAdd,bx,reduceCtorEq,forall_const,ne_eq]
     rw[br_neg hmode]
     simp (disch:=first | omega | (simp only[ln0];omega)) only[rs,reduceIte,Nat.reduceAdd,xcall_of htg,bx,reduceCtorEq,forall_const,ne_eq]
     rw[br_neg hc]
     try simp (disch:=first | omega | (simp only[ln0];omega)) only[rs,reduceIte,Nat.reduceAdd]
     first | exact h1 | simpa using h1
end Go.Proofs.YtckjdlmfibjpaaaGreat.T

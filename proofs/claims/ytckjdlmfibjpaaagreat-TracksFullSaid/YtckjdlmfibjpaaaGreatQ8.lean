/- Plain laws that the claim needs (texts joined to one). No condition. -/
import Derived.Test.YtckjdlmfibjpaaaGreatT
import Derived.Test.YtckjdlmfibjpaaaGreatQ7
set_option linter.unusedVariables false
set_option linter.unusedSimpArgs false
set_option maxRecDepth 10000
namespace Go.Proofs.YtckjdlmfibjpaaaGreat.T
open Go Go.Proofs.YtckjdlmfibjpaaaGreat.Sx Go.Proofs.YtckjdlmfibjpaaaGreat.M
def stB:List Sz→List Bool→Int
 | x::s,b::st=>(if x.mx≠5∨b=true then x.base else 0)+stB s st
 | _,_=>0
theorem stB_nn:∀ (s:List Sz) (st:List Bool),s.all okF=true→0≤stB s st
 | [],st,_=>by cases st <;> exact Int.le_refl _
 | x::s,[],_=>Int.le_refl _
 | x::s,b::st,h=>by
  simp only[List.all_cons,Bool.and_eq_true]at h
  have hx:=okF_in h.1
  have:=stB_nn s st h.2
  rw[stB]
  split <;> omega
theorem leftS_eq:∀ (s:List Sz) (st:List Bool) (n:Int),s.all okF=true→0≤n→leftS s st n=max 0 (n - stB s st)
 | [],st,n,_,h0=>by cases st <;> (simp only[leftS,stB];omega)
 | x::s,[],n,_,h0=>by simp only[leftS,stB];omega
 | x::s,b::st,n,h,h0=>by
  simp only[List.all_cons,Bool.and_eq_true]at h
  have hx:=okF_in h.1
  have hn:=stB_nn s st h.2
  rw[leftS,stB]
  split
  · rw[leftS_eq s st _ h.2 (by omega)];omega
  · rw[leftS_eq s st _ h.2 h0];omega
theorem sumI_nn:∀ (a:List Int),a.all lenB=true→0≤sumI a
 | [],_=>Int.le_refl _
 | x::a,h=>by
  simp only[List.all_cons,Bool.and_eq_true,lenB,decide_eq_true_eq]at h
  have:=sumI_nn a (by simpa [lenB]using h.2)
  rw[sumI]
  omega
theorem lessS_eq:∀ (a:List Int) (n:Int),a.all lenB=true→0≤n→lessS n a=max 0 (n - sumI a)
 | [],n,_,h0=>by simp only[lessS,sumI];omega
 | x::a,n,h,h0=>by
  simp only[List.all_cons,Bool.and_eq_true,lenB,decide_eq_true_eq]at h
  have hn:=sumI_nn a (by simpa [lenB]using h.2)
  rw[lessS,sumI,lessS_eq a _ (by simpa [lenB]using h.2) (by omega)]
  omega
def sumB:List Sz→Int
 | []=>0
 | x::s=>x.base+sumB s
def coverF (q:Int→Int):List Sz→List Bool→List Int→Prop
 | x::s,b::st,vs=>if x.mx≠5∨b=true then coverF q s st vs else match vs with
  | v::vs=>(q x.fr≤v∧v≤q x.fr+1∧x.base≤v)∧coverF q s st vs
  | []=>False
 | _,_,vs=>vs=[]
theorem coverF_sum (q:Int→Int):∀ (s:List Sz) (st:List Bool) (vs:List Int),st.length=s.length→s.all okF=true→coverF q s st vs→sumB (growV s (spreadF s st vs))=stB s st+sumI vs
 | [],[],vs,_,_,h=>by subst h;rfl
 | [],_::_,_,h,_,_=>by simp at h
 | _::_,[],_,h,_,_=>by simp at h
 | x ::s,b::st,vs,hl,hs,h=>by
  simp only[List.all_cons,Bool.and_eq_true]at hs
  have hx:=okF_in hs.1
  by_cases hc:x.mx≠5∨b=true
  · simp only[coverF,if_pos hc]at h
    have:=coverF_sum q s st vs (by simpa using hl) hs.2 h
    simp only[spreadF,if_pos hc,growV,sumB,stB,raiseS]
    omega
  · simp only[coverF,if_neg hc]at h
    cases vs with
    | nil=>exact h.elim
    | cons v vs=>
     have:=coverF_sum q s st vs (by simpa using hl) hs.2 h.2
     simp only[spreadF,if_neg hc,growV,sumB,stB,raiseS,List.headD_cons,List.tail_cons,sumI]
     omega
theorem coverF_at (q:Int→Int):∀ (s:List Sz) (st:List Bool) (vs:List Int),st.length=s.length→s.all okF=true→coverF q s st vs→
    (growV s (spreadF s st vs)).length=s.length∧∀ (i:Nat) (h:i < s.length) (h':i < (growV s (spreadF s st vs)).length),s[i].base≤(growV s (spreadF s st vs))[i].base∧(growV s (spreadF s st vs))[i].mx=s[i].mx∧(growV s (spreadF s st vs))[i].fr=s[i].fr∧
     ((growV s (spreadF s st vs))[i].base=s[i].base∨(s[i].mx=5∧q s[i].fr≤(growV s (spreadF s st vs))[i].base∧(growV s (spreadF s st vs))[i].base≤q s[i].fr+1))
 | [],[],vs,_,_,h=>by subst h;exact⟨rfl,fun i h=>by simp at h⟩
 | [],_::_,_,h,_,_=>by simp at h
 | _::_,[],_,h,_,_=>by simp at h
 | x ::s,b::st,vs,hl,hs,h=>by
  simp only[List.all_cons,Bool.and_eq_true]at hs
  have hx:=okF_in hs.1
  by_cases hc:x.mx≠5∨b=true
  · simp only[coverF,if_pos hc]at h
    obtain⟨h1,h2⟩:=coverF_at q s st vs (by simpa using hl) hs.2 h
    have e:growV (x::s) (spreadF (x::s) (b::st) vs)=raiseS x 0::growV s (spreadF s st vs):=by simp only[spreadF,if_pos hc,growV]
    rw[e]
    refine⟨by simp[h1],fun i hi hi'=>?_⟩
    cases i with
    | zero=>
     simp only[List.getElem_cons_zero,raiseS]
     exact⟨by omega,trivial,trivial,.inl (by omega)⟩
    | succ i=>exact h2 i (by simpa using hi) (by simpa using hi')
  · simp only[coverF,if_neg hc]at h
    cases vs with
    | nil=>exact h.elim
    | cons v vs=>
     obtain⟨h1,h2⟩:=coverF_at q s st vs (by simpa using hl) hs.2 h.2
     have e:growV (x::s) (spreadF (x::s) (b::st) (v::vs))=raiseS x v::growV s (spreadF s st vs):=by simp only[spreadF,if_neg hc,growV,List.headD_cons,List.tail_cons]
     rw[e]
     refine⟨by simp[h1],fun i hi hi'=>?_⟩
     cases i with
     | zero=>
      simp only[List.getElem_cons_zero,raiseS]
      have hm:x.mx=5:=Classical.byContradiction fun hh=>hc (.inl hh)
      exact⟨by omega,trivial,trivial,.inr ⟨hm,by omega,by omega⟩⟩
     | succ i=>exact h2 i (by simpa using hi) (by simpa using hi')
theorem fix_base (L N:Int):∀ (s:List Sz) (st:List Bool),st.length=s.length→stepF L N s st=st→∀ (i:Nat) (h:i < s.length) (h':i < st.length),¬ (s[i].mx≠5∨st[i]=true)→s[i].base≤partF L N s[i].fr
 | [],_,_,_,i,h,_,_=>by simp at h
 | _::_,[],h,_,_,_,_,_=>by simp at h
 | x::s,b::st,hl,hf,i,h,h',hc=>by
  simp only[stepF,List.cons.injEq]at hf
  cases i with
  | zero=>
   simp only[List.getElem_cons_zero]at hc ⊢
   have hm:x.mx=5:=Classical.byContradiction fun hh=>hc (.inl hh)
   have hb:b=false:=by cases b with | false=>rfl | true=>exact absurd (.inr rfl) hc
   rw[hb,hm]at hf
   simp only[Bool.false_or,decide_true,Bool.true_and,decide_eq_false_iff_not]at hf
   omega
  | succ i=>exact fix_base L N s st (by simpa using hl) hf.2 i (by simpa using h) (by simpa using h') (by simpa using hc)
theorem finS_fix (s:List Sz) (space:Int):stepS s space (finS s space)=finS s space:=
 iterS_done s space (s.length+1) (List.replicate s.length false) (by simp;omega)
theorem partF_eq {L N fr:Int} (hL:0≤L∧L≤68719476736) (hN:0≤N) (hf:0≤fr∧fr≤1073741824):partF L N fr=L*fr / max N 1000:=by
 have h1:L*fr≤68719476736*1073741824:=mul_lt' hL.1 hL.2 hf.1 hf.2
 have h0:0≤L*fr:=Int.mul_nonneg hL.1 hf.1
 have h2:L*fr / max N 1000≤L*fr / 1000:=by
  rw[Int.le_ediv_iff_mul_le (by omega)]
  have h3:=Int.ediv_mul_le (L*fr) (b:=max N 1000) (by omega)
  have h4:L*fr / max N 1000*1000≤L*fr / max N 1000*max N 1000:=Int.mul_le_mul_of_nonneg_left (by omega) (Int.ediv_nonneg h0 (by omega))
  omega
 unfold partF
 rw[md_pos hL.1 hf.1 (by omega) (by omega)]
theorem cover_parts (L N:Int) (hL:0≤L∧L≤68719476736) (hN:1000≤N):∀ (s:List Sz) (st:List Bool) (sum:Int),st.length=s.length→s.all okF=true→0≤sum→sum+sumI (frF s st)≤N→
    (∀ (i:Nat) (h:i < s.length) (h':i < st.length),¬ (s[i].mx≠5∨st[i]=true)→s[i].base≤partF L N s[i].fr)→
    coverF (partF L N) s st (partsS L N (L*sum / N) sum (frF s st))∧sumI (partsS L N (L*sum / N) sum (frF s st))=L*(sum+sumI (frF s st)) / N - L*sum / N
 | [],[],sum,_,_,_,_,_=>by
  simp only[frF,partsS,coverF,sumI,true_and,Int.add_zero]
  omega
 | [],_::_,_,h,_,_,_,_=>by simp at h
 | _::_,[],_,h,_,_,_,_=>by simp at h
 | x :: s,b::st,sum,hl,hs,h0,hN2,hb=>by
  simp only[List.all_cons,Bool.and_eq_true]at hs
  have hx:=okF_in hs.1
  have hb':∀ (i:Nat) (h:i < s.length) (h':i < st.length),¬ (s[i].mx≠5∨st[i]=true)→s[i].base≤partF L N s[i].fr:=fun i h h' hc=>hb (i+1) (by simpa using h) (by simpa using h') hc
  by_cases hc:x.mx≠5∨b=true
  · simp only[frF,if_pos hc]at hN2 ⊢
    simp only[coverF,if_pos hc]
    exact cover_parts L N hL hN s st sum (by simpa using hl) hs.2 h0 hN2 hb'
  · simp only[frF,if_neg hc,sumI]at hN2 ⊢
    have hbx:=hb 0 (by simp) (by simp) hc
    simp only[List.getElem_cons_zero]at hbx
    have hnn:=(sumI_in _ (frF_wg s st hs.2).1).1
    have hm:=md_part (n:=L) (s:=sum+x.fr) (all:=N) hL (by omega) (by omega)
    have hmd:(md L (sum+x.fr) N).1=L*(sum+x.fr) / N:=by
     have:L*(sum+x.fr) / N≤L:=by
      have:L*(sum+x.fr)≤L*N:=Int.mul_le_mul_of_nonneg_left (by omega) hL.1
      exact Int.ediv_le_of_le_mul (by omega) this
     rw[md_pos hL.1 (by omega) (by omega) (by omega)]
    obtain⟨i1,i2⟩:=cover_parts L N hL hN s st (sum+x.fr) (by simpa using hl) hs.2 (by omega) (by omega) hb'
    simp only[partsS,hmd,coverF,if_neg hc,sumI]
    refine⟨⟨?_,i1⟩,?_⟩
    · have e:partF L N x.fr=L*x.fr / N:=by rw[partF_eq hL (by omega) hx.2.2.2,show max N 1000=N by omega]
      rw[e]at hbx ⊢
      have hN0:0 < N:=by omega
      have a1:=Int.mul_ediv_add_emod (L*sum) N
      have a2:=Int.emod_nonneg (L*sum) (show N≠0 by omega)
      have a3:=Int.emod_lt_of_pos (L*sum) hN0
      have b1:=Int.mul_ediv_add_emod (L*x.fr) N
      have b2:=Int.emod_nonneg (L*x.fr) (show N≠0 by omega)
      have b3:=Int.emod_lt_of_pos (L*x.fr) hN0
      have hsplit:L*(sum+x.fr) / N=L*sum / N+L*x.fr / N+(L*sum % N+L*x.fr % N) / N:=by
       have:L*(sum+x.fr)=(L*sum % N+L*x.fr % N)+N*(L*sum / N+L*x.fr / N):=by
        rw[Int.mul_add,Int.mul_add]
        omega
       rw[this,Int.add_mul_ediv_left _ _ (by omega)]
       omega
      have c0:0≤(L*sum % N+L*x.fr % N) / N:=Int.ediv_nonneg (by omega) (by omega)
      have c1:(L*sum % N+L*x.fr % N) / N < 2:=by
       rw[Int.ediv_lt_iff_lt_mul hN0]
       omega
      omega
    · rw[i2,show sum+(x.fr+sumI (frF s st))=sum+x.fr+sumI (frF s st)by omega]
      omega
theorem cover_plain (L N:Int):∀ (s:List Sz) (st:List Bool),st.length=s.length→
    (∀ (i:Nat) (h:i < s.length) (h':i < st.length),¬ (s[i].mx≠5∨st[i]=true)→s[i].base≤partF L N s[i].fr)→
    coverF (partF L N) s st ((frF s st).map (partF L N))
 | [],[],_,_=>rfl
 | [],_::_,h,_=>by simp at h
 | _::_,[],h,_=>by simp at h
 | x::s,b::st,hl,hb=>by
  have hb':∀ (i:Nat) (h:i < s.length) (h':i < st.length),¬ (s[i].mx≠5∨st[i]=true)→s[i].base≤partF L N s[i].fr:=fun i h h' hc=>hb (i+1) (by simpa using h) (by simpa using h') hc
  have hi:=cover_plain L N s st (by simpa using hl) hb'
  by_cases hc:x.mx≠5∨b=true
  · simpa only[frF,coverF,if_pos hc]using hi
  · have hbx:=hb 0 (by simp) (by simp) hc
    simp only[List.getElem_cons_zero]at hbx
    simp only[frF,coverF,if_neg hc,List.map_cons]
    exact⟨⟨Int.le_refl _,by omega,hbx⟩,hi⟩
def opB:List Sz→List Bool→Int
 | x::s,b::st=>(if x.mx≠5∨b=true then 0 else x.base)+opB s st
 | _,_=>0
theorem sumB_op:∀ (s:List Sz) (st:List Bool),st.length=s.length→sumB s=stB s st+opB s st
 | [],[],_=>rfl
 | [],_::_,h=>by simp at h
 | _::_,[],h=>by simp at h
 | x::s,b::st,h=>by
  have:=sumB_op s st (by simpa using h)
  simp only[sumB,stB,opB]
  split <;> omega
theorem opB_nn:∀ (s:List Sz) (st:List Bool),s.all okF=true→0≤opB s st
 | [],st,_=>by cases st <;> exact Int.le_refl _
 | x::s,[],_=>Int.le_refl _
 | x::s,b::st,h=>by
  simp only[List.all_cons,Bool.and_eq_true]at h
  have hx:=okF_in h.1
  have:=opB_nn s st h.2
  simp only[opB]
  split <;> omega
def frBig (s:List Sz):Prop:=∀x∈s,x.mx=5→1000≤x.fr
theorem frF_big:∀ (s:List Sz) (st:List Bool),s.all okF=true→frBig s→frF s st≠ []→1000≤sumI (frF s st)
 | [],st,_,_,h=>by cases st <;> exact absurd rfl h
 | x::s,[],_,_,h=>absurd rfl h
 | x::s,b::st,hs,hb,h=>by
  simp only[List.all_cons,Bool.and_eq_true]at hs
  have hx:=okF_in hs.1
  have hb':frBig s:=fun y hy=>hb y (List.mem_cons_of_mem _ hy)
  by_cases hc:x.mx≠5∨b=true
  · simp only[frF,if_pos hc]at h ⊢
    exact frF_big s st hs.2 hb' h
  · have hm:x.mx=5:=Classical.byContradiction fun hh=>hc (.inl hh)
    have h1:=hb x (by simp) hm
    have h2:=(sumI_in _ (frF_wg s st hs.2).1).1
    simp only[frF,if_neg hc,sumI]
    omega
theorem step_all {L N:Int} (hL:0≤L∧L≤68719476736) (hN:0≤N):∀ (s:List Sz) (st:List Bool),st.length=s.length→s.all okF=true→frF s (stepF L N s st)=[]→L*sumI (frF s st)≤max N 1000*opB s st
 | [],[],_,_,_=>by simp[frF,sumI,opB]
 | [],_::_,h,_,_=>by simp at h
 | _::_,[],h,_,_=>by simp at h
 | x ::s,b::st,hl,hs,h=>by
  simp only[List.all_cons,Bool.and_eq_true]at hs
  have hx:=okF_in hs.1
  simp only[stepF]at h
  by_cases hc:x.mx≠5∨b=true
  · have hc2:x.mx≠5∨(b|| (decide (x.mx=5)&& decide (partF L N x.fr < x.base)))=true:=by
     rcases hc with hc | hc
     · exact .inl hc
     · exact .inr (by rw[hc];rfl)
    simp only[frF,if_pos hc2]at h
    have:=step_all hL hN s st (by simpa using hl) hs.2 h
    simp only[frF,if_pos hc,opB]
    rw[Int.zero_add]
    exact this
  · have hm:x.mx=5:=Classical.byContradiction fun hh=>hc (.inl hh)
    have hbf:b=false:=by cases b with | false=>rfl | true=>exact absurd (.inr rfl) hc
    by_cases hp:partF L N x.fr < x.base
    · have hc2:x.mx≠5∨(b|| (decide (x.mx=5)&& decide (partF L N x.fr < x.base)))=true:= .inr (by simp[hm,hp])
      simp only[frF,if_pos hc2]at h
      have ih:=step_all hL hN s st (by simpa using hl) hs.2 h
      simp only[frF,if_neg hc,opB,sumI]
      rw[partF_eq hL hN hx.2.2.2]at hp
      have h1:L*x.fr < x.base*max N 1000:=(Int.ediv_lt_iff_lt_mul (by omega)).1 hp
      rw[Int.mul_add,Int.mul_add]
      have h2:max N 1000*x.base=x.base*max N 1000:=Int.mul_comm _ _
      omega
    · have hc2:¬ (x.mx≠5∨(b|| (decide (x.mx=5)&& decide (partF L N x.fr < x.base)))=true):=by
       rw[hbf]
       simp[hm,hp]
      simp only[frF,if_neg hc2]at h
      cases h
theorem step_some {s:List Sz} {sp:Int} {st:List Bool} (hs:s.all okF=true) (hb:frBig s) (hsp:0≤sp∧sp≤68719476736) (hl:st.length=s.length) (h:frF s st≠ []):frF s (stepS s sp st)≠ []∨sp≤sumB s:=by
 by_cases hz:frF s (stepS s sp st)=[]
 · right
   have hL:=leftS_in s st sp hs hsp.1 hsp.2
   have hLe:=leftS_eq s st sp hs hsp.1
   have hN:=partsF_in s st 0 hs (Int.le_refl _)
   have hfr:=partsF_fr s st 0
   have hbig:=frF_big s st hs hb h
   have hz':frF s (stepF (leftS s st sp) (partsF s st 0) s st)=[]:=hz
   have hall:=step_all hL hN.1 s st hl hs hz'
   have hop:=opB_nn s st hs
   rw[sumB_op s st hl]
   generalize leftS s st sp=L at *
   generalize partsF s st 0=N at *
   have e:sumI (frF s st)=N:=by omega
   rw[e,show max N 1000=N by omega,Int.mul_comm L N]at hall
   have:=Int.le_of_mul_le_mul_left hall (by omega)
   omega
 · exact .inl hz
theorem iter_some {s:List Sz} {sp:Int} (hs:s.all okF=true) (hb:frBig s) (hsp:0≤sp∧sp≤68719476736):∀ (k:Nat) (st:List Bool),st.length=s.length→(frF s st≠ []∨sp≤sumB s)→(frF s (iterS s sp k st)≠ []∨sp≤sumB s)
 | 0,st,_,h=>h
 | k+1,st,hl,h=>by
  rw[iterS]
  refine iter_some hs hb hsp k _ (by rw[stepS_length,hl]) ?_
  rcases h with h | h
  · exact step_some hs hb hsp hl h
  · exact .inr h
theorem frF_any:∀ (s:List Sz),(∃x∈s,x.mx=5)→frF s (List.replicate s.length false)≠ []
 | [],h=>by obtain⟨x,hx,_⟩:=h;simp at hx
 | x::s,h=>by
  rw[List.length_cons,List.replicate_succ]
  by_cases hm:x.mx=5
  · have hc:¬ (x.mx≠5∨false=true):=by simp[hm]
    simp only[frF,if_neg hc]
    simp
  · have hc:x.mx≠5∨false=true:= .inl hm
    simp only[frF,if_pos hc]
    refine frF_any s ?_
    obtain⟨y,hy,h5⟩:=h
    rcases List.mem_cons.1 hy with rfl | hy
    · exact absurd h5 hm
    · exact⟨y,hy,h5⟩
theorem stB_le:∀ (s:List Sz) (st:List Bool),s.all okF=true→stB s st≤sumB s
 | [],st,_=>by cases st <;> exact Int.le_refl _
 | x::s,[],h=>by
  simp only[List.all_cons,Bool.and_eq_true]at h
  have hx:=okF_in h.1
  have:=stB_le s [] h.2
  have e:stB s []=0:=by cases s <;> rfl
  simp only[stB,sumB]
  omega
 | x::s,b::st,h=>by
  simp only[List.all_cons,Bool.and_eq_true]at h
  have hx:=okF_in h.1
  have:=stB_le s st h.2
  simp only[stB,sumB]
  split <;> omega
theorem sumB_le:∀ (s l:List Sz),l.length=s.length→(∀ (i:Nat) (h:i < s.length) (h':i < l.length),s[i].base≤l[i].base)→sumB s≤sumB l
 | [],[],_,_=>Int.le_refl _
 | [],_::_,h,_=>by simp at h
 | _::_,[],h,_=>by simp at h
 | x::s,y::l,h,hb=>by
  have h1:=sumB_le s l (by simpa using h) (fun i h h'=>hb (i+1) (by simpa using h) (by simpa using h'))
  have h0:=hb 0 (by simp) (by simp)
  simp only[List.getElem_cons_zero]at h0
  simp only[sumB]
  omega
theorem fill_full {s:List Sz} {a:List Int} {size:Int} (hr:rightB s size=true) (hg:goodF s a [] 0=true) (hany:∃x∈s,x.mx=5) (hbig:frBig s):size≤sumB (fillR s a size)+sumI a:=by
 obtain⟨hsz,hs⟩:=rightB_in hr
 obtain⟨e1,e2,e3,e4⟩:=goodI_in hg
 unfold fillR
 rw[if_pos (by rw[hr,hg];rfl)]
 have hsp:=lessS_in a size e3 hsz.1 hsz.2
 have hspe:=lessS_eq a size e3 hsz.1
 have hA:=sumI_nn a e3
 generalize lessS size a=sp at hsp hspe
 have hst:=finS_len s sp
 have hfix:=finS_fix s sp
 have hsome:frF s (finS s sp)≠ []∨sp≤sumB s:=iter_some hs hbig hsp _ _ (by simp) (.inl (frF_any s hany))
 generalize finS s sp=st at hst hfix hsome
 have hL:=leftS_in s st sp hs hsp.1 hsp.2
 have hLe:=leftS_eq s st sp hs hsp.1
 have hN:=partsF_in s st 0 hs (Int.le_refl _)
 have hfr:=partsF_fr s st 0
 have hwg:=(frF_wg s st hs).1
 have hfix':stepF (leftS s st sp) (partsF s st 0) s st=st:=hfix
 have hbg:=frF_big s st hs hbig
 generalize leftS s st sp=L at hL hLe hfix'
 generalize partsF s st 0=N at hN hfr hfix'
 have hb:=fix_base L N s st hst hfix'
 have hstl:=stB_le s st hs
 have hcov:coverF (partF L N) s st (valsF s st L N)∧(1000≤N→sumI (valsF s st L N)=L):=by
  unfold valsF
  by_cases hc:1000≤N
  · rw[if_pos hc]
    obtain⟨c1,c2⟩:=cover_parts L N hL hc s st 0 hst hs (Int.le_refl _) (by omega) hb
    have e0:L*0 / N=0:=by simp
    rw[e0]at c1 c2
    have e1:L*(0+sumI (frF s st)) / N=L:=by
     rw[show 0+sumI (frF s st)=N by omega]
     exact Int.mul_ediv_cancel _ (by omega)
    rw[e1]at c2
    exact⟨c1,fun _=>by omega⟩
  · rw[if_neg hc]
    exact⟨cover_plain L N s st hst hb,fun h=>absurd h hc⟩
 obtain⟨hcov,hv2⟩:=hcov
 generalize valsF s st L N=vs at hcov hv2
 have hsum:=coverF_sum _ s st vs hst hs hcov
 obtain⟨hlen,hat⟩:=coverF_at _ s st vs hst hs hcov
 generalize growV s (spreadF s st vs)=l at hsum hlen hat
 have hm1:=sumB_le s l hlen (fun i h h'=>(hat i h h').1)
 by_cases hc:1000≤N
 · have:=hv2 hc
   omega
 · rcases hsome with h | h
   · have:=hbg h
     omega
   · omega
end Go.Proofs.YtckjdlmfibjpaaaGreat.T
set_option maxRecDepth 100000
namespace Go.Proofs.YtckjdlmfibjpaaaGreat.T
open Go Go.Proofs.YtckjdlmfibjpaaaGreat.Sx Go.Proofs.YtckjdlmfibjpaaaGreat.M
theorem sumS_tot:∀ (s:List Sz) (a:List Int) (n:Int),a.length=s.length→n≤68719476736→0≤n→(∀x∈s,0≤x.base)→(∀y∈a,0≤y)→(sumS (basesL s) a n).2=0→(sumS (basesL s) a n).1=n+sumB s+sumI a∧n+sumB s+sumI a≤68719476736∧∀x∈s,x.base≤68719476736
 | [],[],n,_,hn,h0,_,_,_=>by simp[basesL,sumS,sumB,sumI,hn]
 | [],_::_,_,h,_,_,_,_,_=>by simp at h
 | _::_,[],_,h,_,_,_,_,_=>by simp at h
 | x::s,y::a,n,hl,hn,h0,hs,ha,h=>by
  have hx:=hs x (by simp)
  have hy:=ha y (by simp)
  simp only[basesL,List.map_cons,sumS]at h ⊢
  by_cases hc:n+x.base+y≤68719476736
  · rw[if_pos hc]at h ⊢
    obtain⟨h1,h2,h3⟩:=sumS_tot s a (n+x.base+y) (by simpa using hl) hc (by omega) (fun z hz=>hs z (by simp[hz])) (fun z hz=>ha z (by simp[hz])) h
    simp only[sumB,sumI]
    refine⟨by rw[show sumS (s.map Sz.base) a (n+x.base+y)=sumS (basesL s) a (n+x.base+y)from rfl,h1];omega,by omega,fun z hz=>?_⟩
    rcases List.mem_cons.1 hz with rfl | hz
    · omega
    · exact h3 z hz
  · rw[if_neg hc]at h
    cases h
theorem total_ok {s:List Sz} {a:List Int} (h:(totalS s a).2=0):TotOk s a∧(totalS s a).1=sumB s+sumI a∧sumB s+sumI a≤68719476736∧∀x∈s,x.base≤68719476736:=by
 unfold totalS at h ⊢
 by_cases hok:TotOk s a
 · rw[if_pos hok]at h ⊢
   obtain⟨h1,h2,h3⟩:=hok
   have:=sumS_tot s a 0 h2 (by omega) (Int.le_refl _) (fun x hx=>by have:=gd_in (h1 x hx);omega) (fun y hy=>(h3 y hy).1) h
   refine⟨⟨h1,h2,h3⟩,by omega,by omega,this.2.2⟩
 · rw[if_neg hok]at h
   cases h
theorem tot_zeros:∀n:Nat,tot (List.replicate n 0)=0
 | 0=>rfl
 | n+1=>by rw[List.replicate_succ];simp only[tot,tot_zeros n,Int.add_zero]
theorem got_all (s:List Sz) (free:Int) (hm:s.length≤300) (h0:0≤free) (h:∃x∈s,x.mx=2):tot (gotS s free)=free:=by
 have hil:=idx_le (autoL s)
 have hal:(autoL s).length=s.length:=by simp[autoL]
 have ha:anyB (autoL s)=true:=by
  obtain⟨x,hx,h2⟩:=h
  unfold anyB
  rw[List.any_eq_true]
  exact⟨true,by unfold autoL;rw[List.mem_map];exact⟨x,hx,by simp[h2]⟩,rfl⟩
 unfold gotS
 have hp:=(idx_pos (autoL s)).mp ha
 have hsp:=split_tot (n:=free) (p:=(idx (autoL s)).length) h0 (by omega) (by omega)
 rw[tot_addp _ _ _ (by simp[hal]) hsp.1,tot_zeros,hsp.2]
 omega
theorem sumB_stret:∀ (s:List Sz) (g:List Int),g.length=s.length→sumB (stret s g)=sumB s+tot g
 | [],[],_=>rfl
 | [],_::_,h=>by simp at h
 | _::_,[],h=>by simp at h
 | x::s,y::g,h=>by
  have:=sumB_stret s g (by simpa using h)
  have e:stret (x::s) (y::g)=st1 x y::stret s g:=rfl
  have e2:(st1 x y).base=x.base+y:=rfl
  rw[e]
  simp only[sumB,tot,e2]
  omega
theorem stret_full {S:List Sz} {a:List Int} {size:Int} (ht:(totalS S a).2=0) (hl:S.length≤60) (hs:size≤68719476736) (h:∃x∈S,x.mx=2):size≤sumB (stretR S a size)+sumI a:=by
 obtain⟨hok,e,hle,_⟩:=total_ok ht
 unfold stretR
 by_cases hc:(totalS S a).1 < size
 · rw [if_pos hc]
   have hA:0≤(totalS S a).1:=by
    rw[e]
    have h1:0≤sumB S:=by
     have:∀ (l:List Sz),(∀x∈l,0≤x.base)→0≤sumB l:=by
      intro l
      induction l with
      | nil=>intro _;exact Int.le_refl _
      | cons x l ih=>intro hx;have:=hx x (by simp);have:=ih (fun y hy=>hx y (by simp[hy]));simp only[sumB];omega
     exact this S (fun x hx=>by have:=gd_in (hok.1 x hx);omega)
    have h2:0≤sumI a:=by
     have:∀ (l:List Int),(∀x∈l,0≤x)→0≤sumI l:=by
      intro l
      induction l with
      | nil=>intro _;exact Int.le_refl _
      | cons x l ih=>intro hx;have:=hx x (by simp);have:=ih (fun y hy=>hx y (by simp[hy]));simp only[sumI];omega
     exact this a (fun x hx=>(hok.2.2 x hx).1)
    omega
   have ew:IntKind.i64.wrap (size - (totalS S a).1)=size - (totalS S a).1:=wrap_in (by omega) (by omega)
   rw[ew]
   have hg:GrowOk S (size - (totalS S a).1):=⟨hok.1,by omega,by omega⟩
   unfold stretT
   rw[if_pos hg,sumB_stret _ _ (got_in S _ hg.2.1 hg.2.2).1,got_all S _ (by omega) hg.2.1 h]
   omega
 · rw[if_neg hc]
   omega
def Gk (s s':List Sz):Prop:=s'.length=s.length∧∀i (h:i < s.length) (h':i < s'.length),s'[i].mx=s[i].mx∧s'[i].fr=s[i].fr∧s[i].base≤s'[i].base∧(Gd s[i]→s'[i].base < 1125899906842624→Gd s'[i])
theorem Gk.rfl (s:List Sz):Gk s s:=⟨_root_.rfl,fun i h h'=>⟨_root_.rfl,_root_.rfl,Int.le_refl _,fun h _=>h⟩⟩
theorem growT_gk (s:List Sz) (free:Int):Gk s (growT s free):=by
 unfold growT
 by_cases h:s.length≤65536∧GrowOk s free
 · rw[dif_pos h]
   have hu:=(Classical.choose_spec (grow_ok s free h.1 h.2)).1
   generalize Classical.choose (grow_ok s free h.1 h.2)=got at hu
   have hroom:∀r∈roomM s,0≤r:=by
    intro r hr
    unfold roomM at hr
    rw[List.mem_map]at hr
    obtain⟨x,hx,rfl⟩:=hr
    have:=gd_in (h.2.1 x hx)
    omega
   have hl:got.length=s.length:=by have:=isup_length hu;rw[this];simp[roomM]
   refine⟨grown_length hl,fun i hi hi'=>?_⟩
   have h1:=isup_in hu hroom i (by simp[roomM];exact hi) (by omega)
   have e:(roomM s)[i]'(by simp[roomM];exact hi)=s[i].lim - s[i].base:=by simp[roomM]
   rw[e]at h1
   have e2:(grown s got)[i]= { s[i]with base:=s[i].base+got[i]'(by omega) }:=by simp[grown]
   rw[e2]
   refine⟨_root_.rfl,_root_.rfl,by show s[i].base≤s[i].base+got[i]'(by omega);omega,fun hg hb=>?_⟩
   unfold Gd at hg ⊢
   simp only at hb ⊢
   obtain⟨g1,g2,g3,g4,g5,g6,g7,g8,g9,g10,g11,g12,g13,g14,g15⟩:=hg
   exact⟨g1,g2,g3,g4,g5,g6,g7,g8,g9,g10,g11,by omega,by omega,by omega,g15⟩
 · rw[dif_neg h]
   exact Gk.rfl s
theorem grwR_gk (s:List Sz) (a:List Int) (size:Int):Gk s (grwR s a size):=by
 unfold grwR
 split
 · exact growT_gk _ _
 · exact Gk.rfl s
theorem stretR_le (s:List Sz) (a:List Int) (size:Int):(stretR s a size).length=s.length∧∀i (h:i < s.length) (h':i < (stretR s a size).length),s[i].base≤(stretR s a size)[i].base:=by
 unfold stretR
 split
 · unfold stretT
   split
   · rename_i h
     obtain⟨hgl,hgb⟩:=got_in s _ h.2.1 h.2.2
     refine⟨stret_length hgl,fun i hi hi'=>?_⟩
     have hi2:i < (gotS s (IntKind.i64.wrap (size - (totalS s a).1))).length:=by omega
     have h0:=hgb _ (List.getElem_mem hi2)
     generalize gotS s (IntKind.i64.wrap (size - (totalS s a).1))=gg at *
     have e2:(stret s gg)[i]=st1 s[i] gg[i]:=by simp[stret]
     rw[e2]
     show s[i].base≤s[i].base+gg[i]
     omega
   · exact⟨rfl,fun i h h'=>Int.le_refl _⟩
 · exact⟨rfl,fun i h h'=>Int.le_refl _⟩
theorem bases_ok {F:List Sz} {a out:List Int} (h:basesR F a=(out,0)):(totalS F a).2=0∧out=F.map (·.base):=by
 unfold basesR at h
 by_cases ht:(totalS F a).2=0
 · rw[if_pos ht]at h
   exact⟨ht,(congrArg Prod.fst h).symm⟩
 · rw[if_neg ht]at h
   exact absurd (congrArg Prod.snd h) ht
theorem plain_full {S:List Sz} {a out:List Int} {size:Int} {st:Bool} (h:plainR S a size st=(out,0)) (h0:0≤size) (h1:size≤68719476736) (hl:S.length≤60) :
    ∃F:List Sz,out=F.map (·.base)∧(totalS F a).2=0∧F.length=S.length∧(st=true→(∃x∈S,x.mx=2)→size≤sumB F+sumI a)∧((∃x∈S,x.mx=5)→frBig S→size≤sumB F+sumI a):=by
 unfold plainR at h
 by_cases ht:(totalS S a).2≠0
 · rw[if_pos ht]at h
   exact absurd (congrArg Prod.snd h) ht
 rw[if_neg ht]at h
 have ht':=Classical.not_not.1 ht
 have hS:=total_ok ht'
 have hG:=grwR_gk S a size
 generalize grwR S a size=S3 at *
 have hM:=ffillR_mo S3 a size
 have hflex:∀F:List Sz,F.length=S3.length→(∀i (h:i < (fillR S3 a size).length) (h':i < F.length),(fillR S3 a size)[i].base≤F[i].base)→(totalS F a).2=0→(∃x∈S,x.mx=5)→frBig S→size≤sumB F+sumI a:=by
  intro F hFl hFb hFt hany hbig
  obtain⟨hok,e,hle,hmax⟩:=total_ok hFt
  have h3:∀i (h:i < S3.length),Gd S3[i]∧S3[i].base≤68719476736:=by
   intro i hi
   have hiS:i < S.length:=by rw[←hG.1];exact hi
   have hi4:i < (fillR S3 a size).length:=by rw[hM.1];exact hi
   have hiF:i < F.length:=by rw[hFl];exact hi
   have b1:=(hM.2 i hi hi4).2.2.1
   have b2:=hFb i hi4 hiF
   have b3:=hmax _ (List.getElem_mem hiF)
   exact⟨(hG.2 i hiS hi).2.2.2 (hS.1.1 _ (List.getElem_mem hiS)) (by omega),by omega⟩
  have hr:rightB S3 size=true:=by
   unfold rightB
   rw[Bool.and_eq_true,Bool.and_eq_true]
   refine⟨⟨decide_eq_true h0,decide_eq_true h1⟩,?_⟩
   rw[List.all_eq_true]
   intro x hx
   obtain⟨i,hi,rfl⟩:=List.mem_iff_getElem.1 hx
   obtain⟨g1,g2⟩:=h3 i hi
   have:=gd_in g1
   simp only[okF,isB,Bool.and_eq_true,decide_eq_true_eq]
   exact⟨g1,by omega,g2⟩
  have hgd:goodF S3 a [] 0=true:=by
   have hal:a.length=S3.length:=by rw[hok.2.1,hFl]
   simp only[goodF,Bool.and_eq_true,decide_eq_true_eq,List.all_eq_true,List.length_nil,lenB]
   refine⟨⟨⟨⟨⟨⟨hal,by omega⟩,by omega⟩,by omega⟩,fun x hx=>?_⟩,fun y hy=>hok.2.2 y hy⟩,fun w hw=>by simp at hw⟩
   obtain⟨i,hi,rfl⟩:=List.mem_iff_getElem.1 hx
   exact(h3 i hi).1
  have hf:=fill_full hr hgd (by
   obtain⟨x,hx,h5⟩:=hany
   obtain⟨i,hi,rfl⟩:=List.mem_iff_getElem.1 hx
   have hi3:i < S3.length:=by rw[hG.1];exact hi
   exact⟨_,List.getElem_mem hi3,by rw[(hG.2 i hi hi3).1];exact h5⟩) (by
   intro x hx h5
   obtain⟨i,hi3,rfl⟩:=List.mem_iff_getElem.1 hx
   have hi:i < S.length:=by rw[←hG.1];exact hi3
   have hg:=hG.2 i hi hi3
   rw[hg.2.1]
   exact hbig _ (List.getElem_mem hi) (by rw[←hg.1];exact h5))
  have:=sumB_le (fillR S3 a size) F (by rw[hFl,hM.1]) hFb
  omega
 by_cases hst:st=true
 · rw[if_pos hst]at h
   by_cases ht4:(totalS (fillR S3 a size) a).2≠0
   · rw[if_pos ht4]at h
     exact absurd (congrArg Prod.snd h) ht4
   rw[if_neg ht4]at h
   have ht4':=Classical.not_not.1 ht4
   obtain⟨hb1,hb2⟩:=bases_ok h
   obtain⟨hsl,hsb⟩:=stretR_le (fillR S3 a size) a size
   refine⟨_,hb2,hb1,by rw[hsl,hM.1,hG.1],fun _ hany=>?_,fun hany hbig=>?_⟩
   · refine stret_full ht4' (by rw[hM.1,hG.1];exact hl) h1 ?_
     obtain⟨x,hx,h2⟩:=hany
     obtain⟨i,hi,rfl⟩:=List.mem_iff_getElem.1 hx
     have hi3:i < S3.length:=by rw[hG.1];exact hi
     have hi4:i < (fillR S3 a size).length:=by rw[hM.1];exact hi3
     exact⟨_,List.getElem_mem hi4,by rw[(hM.2 i hi3 hi4).2.1,(hG.2 i hi hi3).1];exact h2⟩
   · exact hflex _ (by rw[hsl,hM.1]) hsb hb1 hany hbig
 · rw[if_neg hst]at h
   obtain⟨hb1,hb2⟩:=bases_ok h
   refine⟨_,hb2,hb1,by rw[hM.1,hG.1],fun hh=>absurd hh hst,fun hany hbig=>?_⟩
   exact hflex _ hM.1 (fun i h h'=>Int.le_refl _) hb1 hany hbig
theorem bases_bad {F:List Sz} {a out:List Int} {e:Int} (h:basesR F a=(out,e)) (he:e≠0):out=[]:=by
 unfold basesR at h
 split at h <;> cases h
 · exact absurd rfl he
 · rfl
theorem tsize_bad {low:Int} {l:List Tr} {g:List Bool} {a:List Int} {size mode:Int} {ws:List Wn} {st:Bool} {out:List Int} {e:Int} (h:tsizeR low l g a size mode ws st=(out,e)) (he:e≠0):out=[]:=by
 unfold tsizeR tmainR tailR plainR at h
 (repeat' split at h) <;> first | exact bases_bad h he | (cases h;rfl)
theorem sum_ok {low:Int} {l:List Tr} {g:List Bool} {a:List Int} {F:List Sz} (hk:TkOk low l g a) (hl:F.length=l.length) (h:(totalS F a).2=0):tkSum low l g a (F.map (·.base))=(sumB F+sumI a,0):=by
 obtain⟨hok,e,hle,hmax⟩:=total_ok h
 have hs:SumOk low l g a (F.map (·.base)):=⟨hk,by simp[hl],fun x hx=>by
  rw[List.mem_map]at hx
  obtain⟨y,hy,rfl⟩:=hx
  have:=gd_in (hok.1 y hy)
  have:=hmax y hy
  omega⟩
 unfold tkSum
 rw[if_pos hs]
 unfold totalS at h e
 rw[if_pos hok]at h e
 have e2:sumS (F.map (·.base)) a 0=sumS (basesL F) a 0:=rfl
 rw[e2]
 exact Prod.ext e h
end Go.Proofs.YtckjdlmfibjpaaaGreat.T

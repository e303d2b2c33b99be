/- The plain law of TracksFull: what the trees come to answers as the statement says. No condition. -/
import Derived.Test.YtckjdlmfibjpaaaGreatT
import Derived.Test.YtckjdlmfibjpaaaGreatQ1
import Derived.Test.YtckjdlmfibjpaaaGreatQ7
import Derived.Test.YtckjdlmfibjpaaaGreatQ8
set_option linter.unusedVariables false
set_option linter.unusedSimpArgs false
set_option maxRecDepth 100000
namespace Go.Proofs.YtckjdlmfibjpaaaGreat
open Go Go.Proofs.YtckjdlmfibjpaaaGreat.Sx Go.Proofs.YtckjdlmfibjpaaaGreat.M Go.Proofs.YtckjdlmfibjpaaaGreat.T
def auT (st:Bool) (l:List Tr) (g:List Bool):List Bool:=List.zipWith (fun x b=>!b&& (st&& (x.k1 == 1))) l g
def smT (l:List Tr) (g:List Bool):List Bool:=List.zipWith (fun x b=>!b&& ((x.k1 == 6)&& decide (x.n1 < 1000))) l g
def flT (l:List Tr) (g:List Bool):List Bool:=List.zipWith (fun x b=>!b&& (x.k1 == 6)) l g
theorem any_snoc (l:List Bool) {i:Nat} (hi:i < l.length):(l.take (i+1)).any id=((l.take i).any id|| l[i]):=by
 rw[List.take_succ_eq_append_getElem hi,List.any_append]
 simp only[List.any_cons,List.any_nil,Bool.or_false,id]
theorem any_at {l:List Bool} (h:l.any id=true):∃i,∃hi:i < l.length,l[i]=true:=by
 rw[List.any_eq_true]at h
 obtain⟨x,hx,h1⟩:=h
 obtain⟨i,hi,rfl⟩:=List.mem_iff_getElem.1 hx
 exact⟨i,hi,h1⟩
theorem PureTracksFull : Pure_TracksFull:=by
 intro q0 p1 p2 p3 hq0 hw0 hp1 hw1 hp2 hw2 hb2 hp3 hw3
 obtain⟨low,l,g,a,rfl,h1,h2,h3,_,hwl,_,_⟩:=trks_open hq0 hw0
 obtain⟨low,rfl⟩:=int_open h1
 obtain⟨g,rfl⟩:=bools_open h2
 obtain⟨a,rfl⟩:=ints_open h3
 obtain⟨size,rfl⟩:=int_open hp1
 obtain⟨ws,rfl⟩:=wn_open hp2
 obtain⟨st,rfl⟩:=bool_open hp3
 have hs:I64 size:=int_wf hw1
 have hx:=trs_wf hwl
 refine Says.told (tr:=tr) (f:=c_law27_TracksFull) (args:= [I low,rowOf eTr l,bools g,ints a,I size,rowOf eWn ws,B st]) ?_
 refine Says.of (t:=law27_TracksFull) rfl ?_
 rw[u_law27_TracksFull]
 simp (disch:=first | omega | (simp only[ln0];omega)) only[rs,reduceIte,Nat.reduceAdd,xcall_of (light_sp low l g a ws),xcall_of lives_sp,bx,reduceCtorEq,forall_const,ne_eq]
 refine br_split ?_ ?_ <;> intro _
 · rename_i hlen
   have hll:l.length≤60:=by omega
   have hsay:=tsize_sp low l g a size 0 ws st hll (by omega) (by omega) (by omega) hx hs
   obtain⟨out,e,hR⟩:∃out e,tsizeR low l g a size 0 ws st=(out,e):=⟨_,_,rfl⟩
   rw[hR]at hsay
   simp only at hsay
   have hbad:e≠0→out=[]:=tsize_bad hR
   simp (disch:=first | omega | (simp only[ln0];omega)) only[rs,reduceIte,Nat.reduceAdd,xcall_of hsay,bx,reduceCtorEq,forall_const,ne_eq]
   by_cases he:e=0
   · subst he
     rw[br_neg (by simp)]
     unfold tsizeR at hR
     by_cases hc1:((0:Int) < 0∨(2:Int) < 0)∨(if TkOk low l g a∧(0:Int)=0 then !inB size else !decide (TkOk low l g a))=true
     · rw[if_pos hc1]at hR
       cases hR
     rw[if_neg hc1]at hR
     have hk:TkOk low l g a:=by
      refine Classical.byContradiction fun hn=>hc1 (.inr ?_)
      rw[if_neg (fun h=>hn h.1)]
      simp[hn]
     have hin:inB size=true:=by
      cases hb:inB size with
      | true=>rfl
      | false=>
       refine absurd (.inr ?_) hc1
       rw[if_pos ⟨hk,rfl⟩,hb]
       rfl
     unfold tmainR at hR
     by_cases hA:(allT low l g a size (decide ((0:Int)=0))).2≠0
     · rw[if_pos hA]at hR
       exact absurd (congrArg Prod.snd hR) hA
     rw[if_neg hA]at hR
     have hA':=Classical.not_not.1 hA
     by_cases hG:goodI (allT low l g a size (decide ((0:Int)=0))).1 a ws 0=true
     · rw [if_pos hG] at hR
       unfold tailR at hR
       rw[if_pos rfl]at hR
       obtain⟨hgl,hAl,hfix⟩:=all_fix hA'
       have hkind:=all_kind hA'
       generalize allT low l g a size (decide ((0:Int)=0))=A at *
       obtain⟨hf,hb⟩:=good_fit hG (by omega)
       have hu:=sizeS_up hf hb (decide ((0:Int)≠0)) (decide ((0:Int)=2))
       generalize sizeS A.1 a ws (decide ((0:Int)≠0)) (decide ((0:Int)=2))=S at *
       have hSl:S.length=l.length:=by rw[hu.1,hAl]
       have hsz:0≤size∧size≤68719476736:=by
        simp only[inB,Bool.and_eq_true,decide_eq_true_eq]at hin
        omega
       obtain⟨F,hout,hFt,hFl,hauto,hflex⟩:=plain_full hR hsz.1 hsz.2 (by omega)
       have hsum:=sum_ok hk (by omega:F.length=l.length) hFt
       have hts:=tsum_sp low l g a out
       rw[hout,hsum]at hts
       rw[←hout]at hts
       simp only at hts
       have hn0:((0:Int) != 0)=false:=rfl
       simp (disch:=first | omega | (simp only[ln0];omega)) only[rs,reduceIte,Nat.reduceAdd,xcall_of hts,hn0,Bool.false_eq_true]
       try rw[br_neg (by simp)]
       have hfin:(size≤sumB F+sumI a)∨((auT st l g).any id=false∧((flT l g).any id=false∨(smT l g).any id=true)):=by
        by_cases hge:size≤sumB F+sumI a
        · exact .inl hge
        right
        refine⟨?_,?_⟩
        · rw[Bool.eq_false_iff]
          intro hh
          obtain⟨i,hi,h1⟩:=any_at hh
          have hil:i < l.length:=by simp[auT]at hi;omega
          have hig:i < g.length:=by omega
          have hiA:i < A.1.length:=by omega
          have hiS:i < S.length:=by omega
          simp only[auT,List.getElem_zipWith,Bool.and_eq_true,Bool.not_eq_true',beq_iff_eq]at h1
          obtain⟨x1,x2,x3⟩:=h1
          refine hge (hauto x2 ⟨_,List.getElem_mem hiS,?_⟩)
          rw[(hu.2 i hiA hiS).2.1,(hkind i hil hig hiA x1).2.1,x3]
          rfl
        · by_cases hfl:(flT l g).any id=false
          · exact .inl hfl
          right
          rw[Bool.not_eq_false]at hfl
          cases hsm:(smT l g).any id with
          | true=>rfl
          | false =>
           exfalso
           obtain⟨i,hi,h1⟩:=any_at hfl
           have hil:i < l.length:=by simp[flT]at hi;omega
           have hig:i < g.length:=by omega
           have hiA:i < A.1.length:=by omega
           have hiS:i < S.length:=by omega
           simp only[flT,List.getElem_zipWith,Bool.and_eq_true,Bool.not_eq_true',beq_iff_eq]at h1
           refine hge (hflex ⟨_,List.getElem_mem hiS,?_⟩ ?_)
           · rw[(hu.2 i hiA hiS).2.1,(hkind i hil hig hiA h1.1).2.1,h1.2]
             rfl
           · intro x hxS h5
             obtain⟨j,hjS,rfl⟩:=List.mem_iff_getElem.1 hxS
             have hjl:j < l.length:=by omega
             have hjg:j < g.length:=by omega
             have hjA:j < A.1.length:=by omega
             have hj:=hu.2 j hjA hjS
             rw[hj.2.1]at h5
             have hgf:g[j]=false:=by
              cases hgj:g[j]with
              | false=>rfl
              | true=>
               have:=((hfix j hjl hjg hjA).1 hgj).1.2.1
               omega
             have hkj:=hkind j hjl hjg hjA hgf
             have hk5:kindS l[j].k1 (decide ((0:Int)=0))=5:=by rw[←hkj.2.1];exact h5
             rw[hj.2.2.1,hkj.2.2,if_pos hk5]
             have h6:l[j].k1=6:=by
              unfold kindS at hk5
              split at hk5
              · omega
              · split at hk5
                · omega
                · split at hk5
                  · omega
                  · split at hk5
                    · assumption
                    · omega
             refine Classical.byContradiction fun hlt=>?_
             have:(smT l g).any id=true:=by
              rw[List.any_eq_true]
              refine⟨true,?_,rfl⟩
              rw[List.mem_iff_getElem]
              refine⟨j,by simp[smT];omega,?_⟩
              simp[smT,hgf,h6]
              omega
             rw[this]at hsm
             cases hsm
       generalize (decide (l.length≤60)&& decide (g.length≤100)&& decide (a.length≤100)&& decide (ws.length≤60))=lb at *
       generalize sumB F+sumI a=nn at *
       have hal1:(auT st l g).length=l.length:=by simp[auT,hgl]
       have hal2:(smT l g).length=l.length:=by simp[smT,hgl]
       have hal3:(flT l g).length=l.length:=by simp[flT,hgl]
       have key : ∀ i, i ≤l.length→Run tr law27_TracksFull_l0 [I low,rowOf eTr l,bools g,ints a,I size,rowOf eWn ws,B st,B lb,ints out,I 0,I nn,I 0,I i,B (((auT st l g).take i).any id),B (((smT l g).take i).any id),B (((flT l g).take i).any id)] [.loop law27_TracksFull_l0 [I low,rowOf eTr l,bools g,ints a,I size,rowOf eWn ws,B st,B lb,ints out,I 0,I nn,I 0]] [B true]:=by
        refine xup_ind fun i hi ih=>?_
        rw[u_law27_TracksFull_l0]
        by_cases h:i < l.length
        · have ih':=ih h
          have hgi:i < g.length:=by omega
          rw[any_snoc _ (by omega:i < (auT st l g).length),any_snoc _ (by omega:i < (smT l g).length),any_snoc _ (by omega:i < (flT l g).length)]at ih'
          have e1:(auT st l g)[i]'(by omega)=(!g[i]&& (st&& (l[i].k1 == 1))):=by simp[auT]
          have e2:(smT l g)[i]'(by omega)=(!g[i]&& ((l[i].k1 == 6)&& decide (l[i].n1 < 1000))):=by simp[smT]
          have e3:(flT l g)[i]'(by omega)=(!g[i]&& (l[i].k1 == 6)):=by simp[flT]
          rw[e1,e2,e3]at ih'
          generalize ((auT st l g).take i).any id=ba at *
          generalize ((smT l g).take i).any id=bs at *
          generalize ((flT l g).take i).any id=bf at *
          simp (disch:=first | omega | (simp only[ln0];omega)) only[rs,reduceIte,Nat.reduceAdd,h,hgi]
          by_cases hgt:g[i]=true
          · rw[br_pos hgt]
            simp (disch:=first | omega | (simp only[ln0];omega)) only[rs,reduceIte,Nat.reduceAdd,u_law27_TracksFull_j1]
            simpa [hgt]using ih'
          · rw[br_neg hgt]
            rw[Bool.not_eq_true]at hgt
            simp (disch:=first | omega | (simp only[ln0];omega)) only[rs,reduceIte,Nat.reduceAdd,h,trs,u_law27_TracksFull_j2,u_law27_TracksFull_j1,beq_iff_eq]
            by_cases h6:l[i].k1=6
            · rw[br_pos h6]
              try simp (disch:=first | omega | (simp only[ln0];omega)) only[rs,reduceIte,Nat.reduceAdd,h,trs,u_law27_TracksFull_j2,u_law27_TracksFull_j1]
              have:¬ (6:Int)=1:=by decide
              simpa [hgt,h6]using ih'
            · rw[br_neg h6]
              try simp (disch:=first | omega | (simp only[ln0];omega)) only[rs,reduceIte,Nat.reduceAdd,h,trs,u_law27_TracksFull_j2,u_law27_TracksFull_j1]
              have h6':(l[i].k1 == 6)=false:=by simp[h6]
              simpa [hgt,h6,h6']using ih'
        · obtain rfl : i =l.length:=by omega
          have t1:(auT st l g).take l.length=auT st l g:=List.take_of_length_le (by omega)
          have t2:(smT l g).take l.length=smT l g:=List.take_of_length_le (by omega)
          have t3:(flT l g).take l.length=flT l g:=List.take_of_length_le (by omega)
          rw[t1,t2,t3]
          simp (disch:=first | omega | (simp only[ln0];omega)) only[rs,reduceIte,Nat.reduceAdd,Nat.lt_irrefl,bx,reduceCtorEq,forall_const,ne_eq,xcall_of lives_sp]
          rw [br_pos (by rcases hfin with hh | ⟨h1,h2⟩
                         · exact .inl (by omega)
                         · exact .inr ⟨h1,h2⟩)]
          try simp (disch:=first | omega | (simp only[ln0];omega)) only[rs,reduceIte,Nat.reduceAdd,xcall_of lives_sp]
          try trivial
       have:=key 0 (Nat.zero_le _)
       simpa using this
     · rw[if_neg hG]at hR
       cases hR
   · rw[br_pos he]
     have ho:=hbad he
     subst ho
     simp (disch:=first | omega | (simp only[ln0];omega)) only[rs,reduceIte,Nat.reduceAdd,bx,reduceCtorEq,forall_const,ne_eq,List.length_nil,xcall_of lives_sp]
     try rw[br_pos (by simp)]
     try trivial
 · trivial
end Go.Proofs.YtckjdlmfibjpaaaGreat

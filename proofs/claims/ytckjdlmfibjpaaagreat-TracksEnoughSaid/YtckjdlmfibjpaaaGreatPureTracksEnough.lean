/- The plain law of TracksEnough: what the trees come to answers as the statement says. No condition. -/
import Derived.Test.YtckjdlmfibjpaaaGreatT
import Derived.Test.YtckjdlmfibjpaaaGreatQ1
import Derived.Test.YtckjdlmfibjpaaaGreatQ7
import Derived.Test.YtckjdlmfibjpaaaGreatQ8
set_option linter.unusedVariables false
set_option linter.unusedSimpArgs false
set_option maxRecDepth 100000
namespace Go.Proofs.YtckjdlmfibjpaaaGreat
open Go Go.Proofs.YtckjdlmfibjpaaaGreat.Sx Go.Proofs.YtckjdlmfibjpaaaGreat.M Go.Proofs.YtckjdlmfibjpaaaGreat.T
theorem take_cut {α:Type} (l:List α) {f i:Nat} (h:f≤i) (hi:i < l.length):(l.drop f).take (i+1 - f)=(l.drop f).take (i - f)++ [l[i]]:=by
 rw[show i+1 - f=(i - f)+1 by omega,List.take_succ_eq_append_getElem (by simp;omega)]
 simp[show f+(i - f)=i by omega]
theorem tot_in:∀ (l:List Int),(∀x∈l,0≤x∧x≤1125899906842624)→0≤tot l∧tot l≤1125899906842624*l.length
 | [],_=>by simp[tot]
 | x::l,h=>by
  have h1:=h x (by simp)
  have h2:=tot_in l (fun y hy=>h y (by simp[hy]))
  simp only[tot,List.length_cons]
  omega
def frT (l:List Tr) (g:List Bool):List Bool:=List.zipWith (fun x b=>!b&& (x.k1 == 6)) l g
def grT (l:List Tr) (g:List Bool):List Bool:=List.zipWith (fun x b=>!b&& (x.k0 != 2&& x.k0 != 3)) l g
theorem PureTracksEnough:Pure_TracksEnough:=by
 intro q0 p1 p2 p3 p4 hq0 hw0 hp1 hw1 hp2 hw2 hp3 hw3 hb3 hp4 hw4
 obtain⟨low,l,g,a,rfl,h1,h2,h3,_,hwl,_,_⟩:=trks_open hq0 hw0
 obtain⟨low,rfl⟩:=int_open h1
 obtain⟨g,rfl⟩:=bools_open h2
 obtain⟨a,rfl⟩:=ints_open h3
 obtain⟨size,rfl⟩:=int_open hp1
 obtain⟨mode,rfl⟩:=int_open hp2
 obtain⟨ws,rfl⟩:=wn_open hp3
 obtain⟨st,rfl⟩:=bool_open hp4
 have hs:I64 size:=int_wf hw1
 have hx:=trs_wf hwl
 refine Says.told (tr:=tr) (f:=c_law27_TracksEnough) (args:= [I low,rowOf eTr l,bools g,ints a,I size,I mode,rowOf eWn ws,B st]) ?_
 refine Says.of (t:=law27_TracksEnough) rfl ?_
 rw[u_law27_TracksEnough]
 simp (disch:=first | omega | (simp only[ln0];omega)) only[rs,reduceIte,Nat.reduceAdd,xcall_of (light_sp low l g a ws),xcall_of lives_sp,bx,reduceCtorEq,forall_const,ne_eq]
 refine br_split ?_ ?_ <;> intro _
 · rename_i hlen
   have hll:l.length≤60:=by omega
   obtain⟨out,e,hsay,hbad,hgood⟩:=tsize_ex low l g a size mode ws st hll (by omega) (by omega) (by omega) hx hs
   simp (disch:=first | omega | (simp only[ln0];omega)) only[rs,reduceIte,Nat.reduceAdd,xcall_of hsay,bx,reduceCtorEq,forall_const,ne_eq]
   by_cases he:e=0
   · obtain ⟨hA,hG,F,hout,hmo,hgd⟩:=hgood he
     obtain⟨hgl,hAl,hfix⟩:=all_fix hA
     have hkind:=all_kind hA
     generalize allT low l g a size (decide (mode=0))=A at *
     obtain⟨hf,hb⟩:=good_fit hG (by omega)
     have hu:=sizeS_up hf hb (decide (mode≠0)) (decide (mode=2))
     have hen:=fun w hw=>size_enough (w:=w) hG (by omega) (decide (mode≠0)) (decide (mode=2)) hw
     generalize sizeS A.1 a ws (decide (mode≠0)) (decide (mode=2))=S at *
     have hSl:=hu.1
     have hFl:F.length=l.length:=by rw[hmo.1,hu.1,hAl]
     have hol:out.length=l.length:=by rw[hout];simp[hFl]
     have hal:a.length=l.length:=by rw[hf.ha,hAl]
     have hob:∀x∈out,0≤x∧x≤1125899906842624:=by
      intro x hxo
      rw[hout,List.mem_map]at hxo
      obtain⟨y,hy,rfl⟩:=hxo
      have:=gd_in (hgd y hy)
      omega
     have hsum:∀f n,sumR (S.map ownB) f n≤sumR out f n:=by
      intro f n
      refine sumR_le (by simp[hol,hSl,hAl]) (fun i hi=>?_) f n
      have hi1:i < S.length:=by simpa using hi
      have hi2:i < F.length:=by rw[hmo.1];exact hi1
      have:=(hmo.2 i hi1 hi2).2.2.1
      rw[hout]
      simpa [List.getD_eq_getElem?_getD,hi1,hi2,ownB]using this
     rw[br_neg (by simp[he,hol])]
     generalize (decide (l.length≤60)&& decide (g.length≤100)&& decide (a.length≤100)&& decide (ws.length≤60))=lb at *
     have hfl:(frT l g).length=l.length:=by simp[frT,hgl]
     have hgrl:(grT l g).length=l.length:=by simp[grT,hgl]
     have key : ∀ k,k≤ws.length→Run tr law27_TracksEnough_l0 [I low,rowOf eTr l,bools g,ints a,I size,I mode,rowOf eWn ws,B st,B lb,ints out,I e,I k] [.loop law27_TracksEnough_l0 [I low,rowOf eTr l,bools g,ints a,I size,I mode,rowOf eWn ws,B st,B lb,ints out,I e]] [B true]:=by
      refine xup_ind fun k hk ih=>?_
      rw[u_law27_TracksEnough_l0]
      by_cases h:k < ws.length
      · have ih' := ih h
        have hwm:=List.getElem_mem h
        obtain⟨i0,i1,i2⟩:=hf.hi _ hwm
        have hew:=hen ws[k] hwm
        obtain⟨f,hfm⟩:∃f:Nat,ws[k].fm=f:=⟨ws[k].fm.toNat,by omega⟩
        obtain⟨t,hto⟩:∃t:Nat,ws[k].to=t:=⟨ws[k].to.toNat,by omega⟩
        have hft:f < t:=by omega
        have hts:t≤l.length:=by omega
        simp (disch:=first | omega | (simp only[ln0];omega)) only[rs,reduceIte,Nat.reduceAdd,h,wn_at0,wn_at1,hfm]
        have key2:=xup_ind (n:=t) (P:=fun i=>f≤i→Run tr law27_TracksEnough_l1 [I low,rowOf eTr l,bools g,ints a,I size,I mode,rowOf eWn ws,B st,B lb,ints out,I e,I k,I i,B ((((frT l g).drop f).take (i - f)).any id),B ((((grT l g).drop f).take (i - f)).any id),I (tot ((out.drop f).take (i - f))+tot ((a.drop (f+1)).take (i - (f+1))))] [.loop law27_TracksEnough_l0 [I low,rowOf eTr l,bools g,ints a,I size,I mode,rowOf eWn ws,B st,B lb,ints out,I e],.loop law27_TracksEnough_l1 [I low,rowOf eTr l,bools g,ints a,I size,I mode,rowOf eWn ws,B st,B lb,ints out,I e,I k]] [B true]) ?_ f (by omega)
        · have:=key2 (Nat.le_refl _)
          rw[Nat.sub_self,show f - (f+1)=0 by omega,List.take_zero,List.take_zero]at this
          simpa [tot]using this
        intro i hi ih2 hfi
        rw[u_law27_TracksEnough_l1]
        by_cases hit:i < t
        · have hil:i < l.length:=by omega
          have hio:i < out.length:=by omega
          have hia:i < a.length:=by omega
          have hig:i < g.length:=by omega
          have ih2':=ih2 hit (by omega)
          rw[take_cut out hfi hio,take_cut (frT l g) hfi (by omega),take_cut (grT l g) hfi (by omega),List.any_append,List.any_append,tot_append]at ih2'
          have ef:(frT l g)[i]'(by omega)=(!g[i]&& (l[i].k1 == 6)):=by simp[frT]
          have eg':(grT l g)[i]'(by omega)=(!g[i]&& (l[i].k0 != 2&& l[i].k0 != 3)):=by simp[grT]
          rw[ef,eg']at ih2'
          have hS:=tot_in ((out.drop f).take (i - f)) (fun x hx=>hob x (List.mem_of_mem_drop (List.mem_of_mem_take hx)))
          have hG2:=tot_in ((a.drop (f+1)).take (i - (f+1))) (fun x hx=>by have:=hf.hg x (List.mem_of_mem_drop (List.mem_of_mem_take hx));omega)
          have hSl2:((out.drop f).take (i - f)).length≤60:=by simp;omega
          have hGl:((a.drop (f+1)).take (i - (f+1))).length≤60:=by simp;omega
          have hoi:=hob _ (List.getElem_mem hio)
          have hai:=hf.hg _ (List.getElem_mem hia)
          have hc:(i:Int) < (t:Int):=by omega
          simp only[List.any_cons,List.any_nil,Bool.or_false,id,tot,Int.add_zero]at ih2'
          generalize (((frT l g).drop f).take (i - f)).any id=bf at *
          generalize (((grT l g).drop f).take (i - f)).any id=bg at *
          have j3:∀y:Int,y=tot ((out.drop f).take (i - f))+out[i]+tot ((a.drop (f+1)).take (i+1 - (f+1)))→Run tr law27_TracksEnough_j3 [I low,rowOf eTr l,bools g,ints a,I size,I mode,rowOf eWn ws,B st,B lb,ints out,I e,I k,I i,B bf,B bg,I (tot ((out.drop f).take (i - f))+tot ((a.drop (f+1)).take (i - (f+1)))),I y] [.loop law27_TracksEnough_l0 [I low,rowOf eTr l,bools g,ints a,I size,I mode,rowOf eWn ws,B st,B lb,ints out,I e],.loop law27_TracksEnough_l1 [I low,rowOf eTr l,bools g,ints a,I size,I mode,rowOf eWn ws,B st,B lb,ints out,I e,I k],.join law27_TracksEnough_j2 [I low,rowOf eTr l,bools g,ints a,I size,I mode,rowOf eWn ws,B st,B lb,ints out,I e,I k,I i,B bf,B bg,I (tot ((out.drop f).take (i - f))+tot ((a.drop (f+1)).take (i - (f+1))))]] [B true]:=by
           intro y hy
           subst hy
           rw[u_law27_TracksEnough_j3]
           simp (disch:=first | omega | (simp only[ln0];omega)) only[rs,reduceIte,Nat.reduceAdd,hig]
           by_cases hgt:g[i]=true
           · rw[br_pos hgt]
             simp (disch:=first | omega | (simp only[ln0];omega)) only[rs,reduceIte,Nat.reduceAdd,u_law27_TracksEnough_j2]
             simpa [hgt]using ih2'
           · rw[br_neg hgt]
             rw[Bool.not_eq_true]at hgt
             simp (disch:=first | omega | (simp only[ln0];omega)) only[rs,reduceIte,Nat.reduceAdd,hil,trs,u_law27_TracksEnough_j2]
             simpa [hgt]using ih2'
          simp (disch:=first | omega | (simp only[ln0];omega)) only[rs,reduceIte,Nat.reduceAdd,h,wn_at0,wn_at1,hfm,hto,hc,hil,hio,gt_iff_lt]
          by_cases hfi2:f < i
          · rw[br_pos hfi2]
            have eg:tot ((a.drop (f+1)).take (i+1 - (f+1)))=tot ((a.drop (f+1)).take (i - (f+1)))+a[i]:=by
             rw[take_cut a (by omega) hia,tot_append]
             simp[tot]
            simp (disch:=first | omega | (simp only[ln0];omega)) only[rs,reduceIte,Nat.reduceAdd,hio,hia]
            exact j3 _ (by rw[eg];omega)
          · rw[br_neg hfi2]
            obtain rfl:i=f:=by omega
            have eg:tot ((a.drop (i+1)).take (i+1 - (i+1)))=tot ((a.drop (i+1)).take (i - (i+1))):=by
             rw[show i+1 - (i+1)=i - (i+1)by omega]
            try simp (disch:=first | omega | (simp only[ln0];omega)) only[rs,reduceIte,Nat.reduceAdd,hio]
            exact j3 _ (by rw[eg];omega)
        · obtain rfl:i=t:=by omega
          have hc:¬ (i:Int) < (i:Int):=by omega
          simp (disch:=first | omega | (simp only[ln0];omega)) only[rs,reduceIte,Nat.reduceAdd,h,wn_at1,wn_at2,wn_at3,wn_at4,hto,hc,bx,reduceCtorEq,forall_const,ne_eq]
          rw[br_neg ?_]
          · exact ih'
          · rintro⟨⟨⟨⟨hgr,hnf⟩,ho1⟩,ho2⟩,hlt⟩
            have hgw:growW A.1 ws[k]:=by
             rw[List.any_eq_true]at hgr
             obtain⟨x,hx,hx1⟩:=hgr
             obtain⟨j,hj,rfl⟩:=List.mem_iff_getElem.1 hx
             have hjl:j < i - f:=by simp at hj;omega
             have hjs:f+j < l.length:=by omega
             have hjg:f+j < g.length:=by omega
             have hjA:f+j < A.1.length:=by omega
             refine⟨f+j,by omega,by omega,?_⟩
             rw[atS_lt hjA]
             simp only[List.getElem_take,List.getElem_drop,grT,List.getElem_zipWith,id,Bool.and_eq_true,Bool.not_eq_true',bne_iff_ne]at hx1
             obtain⟨x1,x2,x3⟩:=hx1
             have hk1:=(hkind (f+j) hjs hjg hjA x1).1
             simp only[of1,decide_eq_true_eq]
             rw[hk1]
             unfold kindS
             rw[if_neg (by omega)]
             split
             · decide
             · split
               · decide
               · split <;> decide
            have hfw:flexW A.1 ws[k]=false:=by
             unfold flexW
             rw[hfm,hto]
             simp only[Int.toNat_natCast]
             rw[Bool.eq_false_iff]
             intro hh
             rw[List.any_eq_true]at hh
             obtain⟨x,hx,hx1⟩:=hh
             obtain⟨j,hj,rfl⟩:=List.mem_iff_getElem.1 hx
             have hjl:j < i - f:=by simp at hj;omega
             have hjs:f+j < l.length:=by omega
             have hjg:f+j < g.length:=by omega
             have hjA:f+j < A.1.length:=by omega
             simp only[List.getElem_take,List.getElem_drop,isFr,decide_eq_true_eq]at hx1
             have hgf:g[f+j]=false:=by
              cases hgj:g[f+j]with
              | false=>rfl
              | true=>
               have:=((hfix (f+j) hjs hjg hjA).1 hgj).1.2.1
               omega
             have hk1:=(hkind (f+j) hjs hjg hjA hgf).2.1
             rw[hk1]at hx1
             have h6:l[f+j].k1=6:=by
              unfold kindS at hx1
              split at hx1
              · omega
              · split at hx1
                · omega
                · split at hx1
                  · omega
                  · split at hx1
                    · assumption
                    · omega
             have:(((frT l g).drop f).take (i - f)).any id=true:=by
              rw[List.any_eq_true]
              refine⟨(frT l g)[f+j]'(by omega),?_,by simp[frT,hgf,h6]⟩
              rw[List.mem_iff_getElem]
              exact⟨j,by simp;omega,by simp⟩
             rw[this]at hnf
             cases hnf
            have hfin:=hew hgw hfw ⟨ho1,ho2⟩
            have hgp:=(gaps_in hf ws[k]).2.2
            have hbs:=hsum ws[k].fm.toNat (ws[k].to.toNat - ws[k].fm.toNat)
            rw[baseW_tot]at hfin
            unfold sumR at hfin hbs
            rw[hgp]at hfin
            simp only[hfm,hto,Int.toNat_natCast]at hfin hbs
            omega
      · simp (disch:=first | omega | (simp only[ln0];omega)) only[rs,reduceIte,Nat.reduceAdd,h,xcall_of lives_sp]
     exact key 0 (Nat.zero_le _)
   · have ho:=hbad he
     subst ho
     rw[br_pos (Or.inl he)]
     simp (disch:=first | omega | (simp only[ln0];omega)) only[rs,reduceIte,Nat.reduceAdd,bx,reduceCtorEq,forall_const,ne_eq,List.length_nil,xcall_of lives_sp]
     try rw[br_pos (by simp[he])]
     try trivial
 · trivial
end Go.Proofs.YtckjdlmfibjpaaaGreat

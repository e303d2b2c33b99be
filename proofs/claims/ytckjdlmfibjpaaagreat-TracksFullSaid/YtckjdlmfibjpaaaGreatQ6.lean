/- Plain laws that the claim needs (texts joined to one). No condition. -/
import Derived.Test.YtckjdlmfibjpaaaGreatT
import Derived.Test.YtckjdlmfibjpaaaGreatQ5
import Derived.Test.YtckjdlmfibjpaaaGreatQ1
import Derived.Test.YtckjdlmfibjpaaaGreatQ2
set_option linter.unusedVariables false
set_option linter.unusedSimpArgs false
namespace Go.Proofs.YtckjdlmfibjpaaaGreat.T
open Go Go.Proofs.YtckjdlmfibjpaaaGreat.Sx Go.Proofs.YtckjdlmfibjpaaaGreat.M
def autoL (s:List Sz):List Bool:=s.map fun x=>decide (x.mx=2)
def st1 (x:Sz) (g:Int):Sz:={ x with base:=x.base+g,lim:=max x.lim (x.base+g) }
def stret (s:List Sz) (gs:List Int):List Sz:=List.zipWith st1 s gs
theorem stret_length {s:List Sz} {gs:List Int} (h:gs.length=s.length):(stret s gs).length=s.length:=by simp[stret,h]
def gotS (s:List Sz) (free:Int):List Int:=addp (List.replicate s.length 0) (autoL s) (splitS free (idx (autoL s)).length)
theorem addp_zero_in (M:Int):∀ (os:List Int) (bs:List Bool) (ys:List Int),0≤M→(∀o∈os,o=0)→(∀y∈ys,0≤y∧y≤M)→∀g∈addp os bs ys,0≤g∧g≤M:=by
 intro os
 induction os with
 | nil=>intro bs ys _ _ _ g hg;cases bs <;> simp[addp]at hg
 | cons o os ih=>
  intro bs ys hM ho hy g hg
  have ho0:=ho o (by simp)
  have ho':∀x∈os,x=0:=fun x hx=>ho x (by simp[hx])
  cases bs with
  | nil=>
   simp only[addp]at hg
   have:=ho g hg
   omega
  | cons b bs=>
   cases b with
   | true=>
    cases ys with
    | nil=>
     simp only[addp,List.mem_cons]at hg
     rcases hg with rfl | hg
     · omega
     · exact ih bs [] hM ho' (by simp) g hg
    | cons y ys=>
     have hy0:=hy y (by simp)
     simp only[addp,List.mem_cons]at hg
     rcases hg with rfl | hg
     · omega
     · exact ih bs ys hM ho' (fun z hz=>hy z (by simp[hz])) g hg
   | false=>
    simp only[addp,List.mem_cons]at hg
    rcases hg with rfl | hg
    · omega
    · exact ih bs ys hM ho' hy g hg
theorem got_in (s:List Sz) (free:Int) (h0:0≤free) (h1:free≤68719476736):(gotS s free).length=s.length∧∀g∈gotS s free,0≤g∧g≤68719476737:=by
 refine⟨by unfold gotS;rw[addp_length];simp,?_⟩
 refine addp_zero_in _ _ _ _ (by omega) (fun o ho=>List.eq_of_mem_replicate ho) (fun y hy=>?_)
 have:=splitS_in y hy
 omega
theorem stretch_bad (s:List Sz) (free:Int) (hl:s.length≤1000000000) (h:¬GrowOk s free):Says tr c_maximise_Stretch [rowOf eSz s,I free] [rowOf eSz s]:=by
 refine Says.of (t:=maximise_Stretch) rfl ?_
 rw[u_maximise_Stretch]
 simp (disch:=first | omega | (simp only[ln0];omega)) only[rs,reduceIte,Nat.reduceAdd,xcall_of (mgood_sp s hl),xcall_of (mwithin_sp _)]
 refine br_split ?_ ?_ <;> intro _
 · rename_i hg
   have hb:(decide (0≤free)&& decide (free≤68719476736))=false:=by
    cases hb:(decide (0≤free)&& decide (free≤68719476736))with
    | false=>rfl
    | true=>
     simp at hb
     exact absurd ⟨(goodB_iff s).1 hg,hb.1,hb.2⟩ h
   simp (disch:=first | omega | (simp only[ln0];omega)) only[rs,reduceIte,Nat.reduceAdd,u_maximise_Stretch_j0,hb,Bool.not_false]
 · simp (disch:=first | omega | (simp only[ln0];omega)) only[rs,reduceIte,Nat.reduceAdd,u_maximise_Stretch_j0]
theorem stretch_ok (s:List Sz) (free:Int) (hm:s.length≤65536) (h:GrowOk s free):Says tr c_maximise_Stretch [rowOf eSz s,I free] [rowOf eSz (stret s (gotS s free))]:=by
 obtain⟨hs,h0,h1⟩:=h
 obtain⟨hgl,hgb⟩:=got_in s free h0 h1
 have hal:(autoL s).length=s.length:=by simp[autoL]
 have hix:=idx_le (autoL s)
 refine Says.of (t:=maximise_Stretch) rfl ?_
 rw[u_maximise_Stretch]
 have hg:goodB s=true:=(goodB_iff s).2 hs
 have hl:(s.length:Int)≤17592186044416:=by omega
 have hl2:(s.length:Int)≤2513169434916:=by omega
 simp (disch:=first | omega | (simp only[ln0];omega)) only[rs,reduceIte,Nat.reduceAdd,xcall_of (mgood_sp s (by omega)),xcall_of (mwithin_sp _),hg,h0,h1,decide_true,Bool.not_true,Bool.and_true,u_maximise_Stretch_j0,Bool.false_eq_true,hl]
 have key:=xup_ind (n:=s.length) (P:=fun i=>Run tr maximise_Stretch_l1 [rowOf eSz s,I free,B false,I i,ints ((idx ((autoL s).take i)).map Int.ofNat)] [.loop maximise_Stretch_l1 [rowOf eSz s,I free,B false]] [rowOf eSz (stret s (gotS s free))]) ?_ 0 (Nat.zero_le _)
 · simpa [idx]using key
 intro i hi ih
 rw[u_maximise_Stretch_l1]
 by_cases h:i < s.length
 · have htk:(autoL s).take (i+1)=(autoL s).take i++ [decide (s[i].mx=2)]:=by
    rw[List.take_succ_eq_append_getElem (by omega)]
    simp[autoL]
   have hlk:((autoL s).take i).length=i:=by simp;omega
   have hcl:=idx_le ((autoL s).take i)
   have hcl2:((idx ((autoL s).take i)).length:Int)+1≤4294967296:=by omega
   simp (disch:=first | omega | (simp only[ln0];omega)) only[rs,reduceIte,Nat.reduceAdd,h,szs,u_maximise_Stretch_j2,beq_iff_eq]
   refine br_split ?_ ?_ <;> intro _
   · rename_i hx
     have e:(idx ((autoL s).take (i+1))).map Int.ofNat=(idx ((autoL s).take i)).map Int.ofNat++ [(i:Int)]:=by rw[htk,idx_append,hlk];simp[hx]
     refine⟨by omega,?_⟩
     rw[←e]
     exact ih h
   · rename_i hx
     have e:(idx ((autoL s).take (i+1))).map Int.ofNat=(idx ((autoL s).take i)).map Int.ofNat:=by rw[htk,idx_append];simp[hx]
     rw[←e]
     exact ih h
 · have : i=s.length:=by omega
   subst this
   rw[List.take_of_length_le (by omega)]
   simp (disch:=first | omega | (simp only[ln0];omega)) only[rs,reduceIte,Nat.reduceAdd,Nat.lt_irrefl,hl,xcall_of (split_sp _ _ (by omega:free≤9223372036854775806))]
   have hsl:=splitS_length free ((idx (autoL s)).length:Int)
   rw[Int.toNat_natCast]at hsl
   obtain⟨ys,hys⟩:∃ys,splitS free ((idx (autoL s)).length:Int)=ys:=⟨_,rfl⟩
   have hgot:gotS s free=addp (List.replicate s.length 0) (autoL s) ys:=by rw[←hys];rfl
   rw[hys]at hsl ⊢
   obtain⟨J,hJ⟩:∃J,J=JT.loop maximise_Stretch_l1 [rowOf eSz s,I free,B false]:=⟨_,rfl⟩
   rw[←hJ]
   have key:=xup_ind (n:=ys.length) (P:=fun i=>Run tr maximise_Stretch_l3 [rowOf eSz s,I free,B false,I s.length,ints ((idx (autoL s)).map Int.ofNat),ints ys,I i,ints (addp (List.replicate s.length 0) (autoL s) (ys.take i))] [J,.loop maximise_Stretch_l3 [rowOf eSz s,I free,B false,I s.length,ints ((idx (autoL s)).map Int.ofNat),ints ys]] [rowOf eSz (stret s (gotS s free))]) ?_ 0 (Nat.zero_le _)
   · simpa [addp_nil]using key
   intro i hi ih
   rw[u_maximise_Stretch_l3]
   by_cases h:i < ys.length
   · obtain⟨h1',h2',h3',h4'⟩:=addp_step (List.replicate s.length 0) (autoL s) ys i (by simp[hal]) h (by omega)
     have hz:(List.replicate s.length (0:Int))[(idx (autoL s))[i]'(by omega)]=0:=by simp
     rw[hz,Int.zero_add]at h4'
     have hil:i < (idx (autoL s)).length:=by omega
     have hla:(addp (List.replicate s.length 0) (autoL s) (ys.take i)).length=s.length:=by rw[addp_length];simp
     rw[hla]at h1'
     simp (disch:=first | omega | (simp only[ln0];omega)) only[rs,reduceIte,Nat.reduceAdd,h,hil,List.getElem_map,hla,Int.ofNat_eq_natCast,h1',h4']
     exact ih h
   · have :i=ys.length:=by omega
     subst this
     rw[List.take_of_length_le (Nat.le_refl _),←hgot]
     simp (disch:=first | omega | (simp only[ln0];omega)) only[rs,reduceIte,Nat.reduceAdd,Nat.lt_irrefl,hl2]
     obtain⟨J',hJ'⟩:∃J',J'=JT.loop maximise_Stretch_l3 [rowOf eSz s,I free,B false,I s.length,ints ((idx (autoL s)).map Int.ofNat),ints ys]:=⟨_,rfl⟩
     rw[←hJ']
     have hsr:(stret s (gotS s free)).length=s.length:=stret_length hgl
     have key:=xup_ind (n:=s.length) (P:=fun i=>Run tr maximise_Stretch_l4 [rowOf eSz s,I free,B false,I s.length,ints ((idx (autoL s)).map Int.ofNat),ints ys,I ys.length,ints (gotS s free),I i,rowOf eSz (mix (stret s (gotS s free)) s i)] [J,J',.loop maximise_Stretch_l4 [rowOf eSz s,I free,B false,I s.length,ints ((idx (autoL s)).map Int.ofNat),ints ys,I ys.length,ints (gotS s free)]] [rowOf eSz (stret s (gotS s free))]) ?_ 0 (Nat.zero_le _)
     · simpa [mix_zero]using key
     intro i hi ih
     rw[u_maximise_Stretch_l4]
     have hml:=mix_len hsr i
     by_cases h:i < s.length
     · have hx:=gd_in (hs s[i] (List.getElem_mem _))
       have hgi:i < (gotS s free).length:=by omega
       have hg2:=hgb (gotS s free)[i] (List.getElem_mem _)
       have hat:=mix_at hsr h (by omega)
       have hml2:i < ((mix (stret s (gotS s free)) s i).modify i fun y=>{ y with base:=s[i].base+(gotS s free)[i] }).length:=by simp[hml,h]
       have hat2:((mix (stret s (gotS s free)) s i).modify i fun y=>{ y with base:=s[i].base+(gotS s free)[i] })[i]= { s[i]with base:=s[i].base+(gotS s free)[i] }:=by
        rw[List.getElem_modify,if_pos rfl,hat]
       have hse:((mix (stret s (gotS s free)) s i).modify i fun y=>{ y with base:=s[i].base+(gotS s free)[i] }).set i (st1 s[i] (gotS s free)[i])=mix (stret s (gotS s free)) s (i+1):=by
        rw[←mix_set hsr h rfl]
        apply List.ext_getElem (by simp)
        intro j h1 h2
        rw[List.getElem_set,List.getElem_set]
        split
        · simp[stret]
        · rw[List.getElem_modify]
          rename_i hne
          simp[hne]
       have hb:=braise_sp { s[i]with base:=s[i].base+(gotS s free)[i] }
       simp (disch:=first | omega | (simp only[ln0];omega)) only[rs,reduceIte,Nat.reduceAdd,h,hml,hgi,szs,hat,hat2,xcall_of hb,u_maximise_Stretch_j2]
       simp only[st1]at hse
       rw[hse]
       exact ih h
     · simp (disch:=first | omega | (simp only[ln0];omega)) only[rs,reduceIte,Nat.reduceAdd,h]
       rw[mix_full' hsr (by omega)]
def basesL (s:List Sz):List Int:=s.map Sz.base
def TotOk (s:List Sz) (ahead:List Int):Prop:=(∀x∈s,Gd x)∧ahead.length=s.length∧∀a∈ahead,0≤a∧a≤68719476736
instance (s:List Sz) (ahead:List Int):Decidable (TotOk s ahead):=by unfold TotOk;infer_instance
def totalS (s:List Sz) (ahead:List Int):Int×Int:=if TotOk s ahead then sumS (basesL s) ahead 0 else(0,2)
theorem mtot1_sp (x:Int):Says tr c_maximise_Total_1 [I x] [B (!(decide (0≤x)&& decide (x≤68719476736)))]:=by
 refine Says.of (t:=maximise_Total_1) rfl ?_
 rw[u_maximise_Total_1]
 simp (disch:=first | omega | (simp only[ln0];omega)) only[rs,reduceIte,Nat.reduceAdd,xcall_of (mwithin_sp _)]
theorem tot_l1 (s:List Sz) (ahead:List Int) (x:PV) (hl:s.length≤65536) (hok:TotOk s ahead):Run tr maximise_Total_l1 [rowOf eSz s,ints ahead,x,I 0,I 0] [.loop maximise_Total_l1 [rowOf eSz s,ints ahead,x]] [I (sumS (basesL s) ahead 0).1,I (sumS (basesL s) ahead 0).2]:=by
 obtain⟨hs,ha,hal⟩:=hok
 have key:=xup_ind (n:=s.length) (P:=fun i=>∀n:Int,0≤n→n≤68719476736→Run tr maximise_Total_l1 [rowOf eSz s,ints ahead,x,I i,I n] [.loop maximise_Total_l1 [rowOf eSz s,ints ahead,x]] [I (sumS ((basesL s).drop i) (ahead.drop i) n).1,I (sumS ((basesL s).drop i) (ahead.drop i) n).2]) ?_ 0 (Nat.zero_le _)
 · simpa using key 0 (by omega) (by omega)
 intro i hi ih n h0 h1
 rw[u_maximise_Total_l1]
 have hbl:(basesL s).length=s.length:=by simp[basesL]
 by_cases h:i < s.length
 · have hx:=gd_in (hs s[i] (List.getElem_mem _))
   have hia:i < ahead.length:=by omega
   have hai:=hal ahead[i] (List.getElem_mem _)
   have hd1:(basesL s).drop i=s[i].base::(basesL s).drop (i+1):=by
    rw[List.drop_eq_getElem_cons (by omega)]
    simp[basesL]
   rw[hd1,List.drop_eq_getElem_cons hia]
   simp only[sumS]
   have e:n+(s[i].base+ahead[i])=n+s[i].base+ahead[i]:=by omega
   have hlo: -68719476736≤n+s[i].base+ahead[i]:=by omega
   simp (disch:=first | omega | (simp only[ln0];omega)) only[rs,reduceIte,Nat.reduceAdd,h,szs,hia,e,xcall_of (is_sp _),hlo,decide_true,Bool.true_and]
   refine br_split ?_ ?_ <;> intro _
   · rename_i hc
     rw[if_pos hc]
     exact ih h _ (by omega) (by omega)
   · rename_i hc
     rw[if_neg hc]
 · simp (disch:=first | omega | (simp only[ln0];omega)) only[rs,reduceIte,Nat.reduceAdd,h]
   rw[List.drop_of_length_le (by omega)]
   rfl
theorem total_sp (s:List Sz) (ahead:List Int) (hl:s.length≤65536) (hl2:ahead.length≤1000000000):Says tr c_maximise_Total [rowOf eSz s,ints ahead] [I (totalS s ahead).1,I (totalS s ahead).2]:=by
 refine Says.of (t:=maximise_Total) rfl ?_
 rw[u_maximise_Total]
 simp (disch:=first | omega | (simp only[ln0];omega)) only[rs,reduceIte,Nat.reduceAdd,xcall_of (mgood_sp s (by omega)),bx,reduceCtorEq,forall_const,ne_eq]
 refine br_split ?_ ?_ <;> intro _
 · rename_i hc
   have hno:¬TotOk s ahead:=by
    rintro⟨h1,h2,h3⟩
    rcases hc with hc | hc
    · rw[(goodB_iff s).2 h1]at hc;cases hc
    · omega
   simp (disch:=first | omega | (simp only[ln0];omega)) only[rs,reduceIte,Nat.reduceAdd,u_maximise_Total_j0,totalS,hno]
 · rename_i hc
   have hg:goodB s=true:=by
    cases h:goodB s with
    | false=>exact absurd (Or.inl h) hc
    | true=>rfl
   have ha:ahead.length=s.length:=by omega
   have hs:=(goodB_iff s).1 hg
   have hex:Run tr maximise_Total_j0 [rowOf eSz s,ints ahead,B (!lensB ahead)] [] [I (totalS s ahead).1,I (totalS s ahead).2]:=by
    rw[u_maximise_Total_j0]
    simp (disch:=first | omega | (simp only[ln0];omega)) only[rs,reduceIte,Nat.reduceAdd,bx,reduceCtorEq,forall_const,ne_eq]
    refine br_split ?_ ?_ <;> intro _
    · rename_i hb
      have hno:¬TotOk s ahead:=by
       rintro⟨_,_,h3⟩
       rw[(lensB_iff ahead).2 h3]at hb
       cases hb
      simp (disch:=first | omega | (simp only[ln0];omega)) only[rs,reduceIte,Nat.reduceAdd,totalS,hno]
    · rename_i hb
      have hok:TotOk s ahead:=⟨hs,ha,(lensB_iff ahead).1 (by simpa using hb)⟩
      simp only[totalS,hok,if_true]
      exact tot_l1 s ahead _ hl hok
   have key:=xup_ind (n:=ahead.length) (P:=fun i=>lensB (ahead.drop i)=lensB ahead→Run tr maximise_Total_l3 [rowOf eSz s,ints ahead,B (goodB s),I i] [.join maximise_Total_j0 [rowOf eSz s,ints ahead],.join maximise_Total_j2 [rowOf eSz s,ints ahead,B (goodB s)],.loop maximise_Total_l3 [rowOf eSz s,ints ahead,B (goodB s)]] [I (totalS s ahead).1,I (totalS s ahead).2]) ?_ 0 (Nat.zero_le _)
   · simpa using key rfl
   intro i hi ih hall
   rw[u_maximise_Total_l3]
   by_cases h:i < ahead.length
   · rw [lensB_drop ahead i h]at hall
     simp (disch:=first | omega | (simp only[ln0];omega)) only[rs,reduceIte,Nat.reduceAdd,h,xcall_of (mtot1_sp _),bx,reduceCtorEq,forall_const,ne_eq]
     refine br_split ?_ ?_ <;> intro _
     · rename_i hc
       have hb:lensB ahead=false:=by
        rw[←hall]
        have:(decide (0≤ahead[i])&& decide (ahead[i]≤68719476736))=false:=by simp;omega
        rw[this,Bool.false_and]
       have e:decide ((0:Int)≤(i:Int))=true:=by simp
       simp (disch:=first | omega | (simp only[ln0];omega)) only[rs,reduceIte,Nat.reduceAdd,u_maximise_Total_j2,ge_iff_le,e]
       rw[hb]at hex
       exact hex
     · rename_i hc
       refine ih h ?_
       rw[←hall]
       have:(decide (0≤ahead[i])&& decide (ahead[i]≤68719476736))=true:=by simp;omega
       rw[this,Bool.true_and]
   · rw[List.drop_of_length_le (by omega)]at hall
     have hb:lensB ahead=true:=by rw[←hall];rfl
     rw[hb]at hex
     have e:decide ((-1:Int)≥0)=false:=by decide
     simp (disch:=first | omega | (simp only[ln0];omega)) only[rs,reduceIte,Nat.reduceAdd,h,u_maximise_Total_j2,e]
     exact hex
end Go.Proofs.YtckjdlmfibjpaaaGreat.T
set_option maxRecDepth 10000
namespace Go.Proofs.YtckjdlmfibjpaaaGreat.T
open Go Go.Proofs.YtckjdlmfibjpaaaGreat.Sx Go.Proofs.YtckjdlmfibjpaaaGreat.M
def isB (x:Int):Bool:=decide (-68719476736≤x)&& decide (x≤68719476736)
def okF (x:Sz):Bool:=decide (Gd x)&& isB x.base
theorem fr1_sp (x:Sz):Says tr c_flex_right_1 (eSz x) [B (!okF x)]:=by
 refine Says.of (t:=flex_right_1) rfl ?_
 rw[u_flex_right_1]
 have h:=bgood_sp x
 simp (disch:=first | omega | (simp only[ln0];omega)) only[rs,reduceIte,Nat.reduceAdd,xcall_of h,xcall_of (is_sp _),decide_eq_true_eq]
 unfold okF isB
 by_cases hg:Gd x
 · rw[br_pos hg]
   simp[hg]
 · rw[br_neg hg]
   simp[hg]
def rightB (s:List Sz) (space:Int):Bool:=decide (0≤space)&& decide (space≤68719476736)&& s.all okF
theorem fright_sp (s:List Sz) (space:Int) (hs:s.length≤1000000):Says tr c_flex_right [rowOf eSz s,I space] [B (rightB s space)]:=by
 refine Says.of (t:=flex_right) rfl ?_
 rw[u_flex_right]
 have hl:∀j,j≤s.length→∃x:Int,(decide (0≤x)= !(s.drop j).all okF)∧∀r,Run tr flex_right_j0 [rowOf eSz s,I space,B true,I x] [] r→Run tr flex_right_l1 [rowOf eSz s,I space,B true,I j] [.join flex_right_j0 [rowOf eSz s,I space,B true],.loop flex_right_l1 [rowOf eSz s,I space,B true]] r:=by
  refine xup_ind fun j hj ih=>?_
  by_cases h:j < s.length
  · have h1:=fr1_sp s[j]
    rw[List.drop_eq_getElem_cons h]
    cases hr:okF s[j]with
    | true=>
     obtain⟨x,hx1,hx⟩:=ih h
     refine⟨x,by rw[hx1,List.all_cons,hr,Bool.true_and],fun r hh=>?_⟩
     rw[u_flex_right_l1]
     rw[hr]at h1
     simp (disch:=first | omega | (simp only[ln0];omega)) only[rs,reduceIte,Nat.reduceAdd,h,szs,xcall_of h1,Bool.not_true,Bool.false_eq_true]
     repeat rw[br_neg (by simp)]
     exact hx r hh
    | false=>
     refine⟨j,by rw[List.all_cons,hr,Bool.false_and];exact decide_eq_true (by omega),fun r hh=>?_⟩
     rw[u_flex_right_l1]
     rw[hr]at h1
     simp (disch:=first | omega | (simp only[ln0];omega)) only[rs,reduceIte,Nat.reduceAdd,h,szs,xcall_of h1,Bool.not_false]
     exact hh
  · refine⟨-1,by rw[List.drop_of_length_le (by omega)];rfl,fun r hh=>?_⟩
    rw[u_flex_right_l1]
    simp (disch:=first | omega | (simp only[ln0];omega)) only[rs,reduceIte,Nat.reduceAdd,h]
    exact hh
 obtain⟨x,hx1,hx⟩:=hl 0 (Nat.zero_le _)
 rw[List.drop_zero]at hx1
 simp (disch:=first | omega | (simp only[ln0];omega)) only[rs,reduceIte,Nat.reduceAdd,xcall_of (is_sp _),bx,reduceCtorEq,forall_const,ne_eq]
 unfold rightB
 by_cases h0:0≤space
 · rw[br_pos h0]
   by_cases h1:space≤68719476736
   · rw[br_pos (by omega)]
     have hb:(decide (-68719476736≤space)&& decide (space≤68719476736))=true:=by simp;omega
     rw[hb]
     refine hx _ ?_
     rw[u_flex_right_j0]
     simp (disch:=first | omega | (simp only[ln0];omega)) only[rs,reduceIte,Nat.reduceAdd,ge_iff_le]
     rw[hx1]
     simp[h0,h1]
   · rw[br_neg (by omega)]
     simp[h0,h1]
 · rw[br_neg h0]
   simp[h0]
def lenG (n:Int):Bool:=decide (0≤n)&& decide (n≤68719476736)
def lessS:Int→List Int→Int
 | n,[]=>n
 | n,g::r=>lessS (max 0 (n - g)) r
theorem less_sp (n:Int) (a:List Int) (hn:0≤n∧n≤68719476736) (ha:a.all lenG=true) (hl:a.length≤1000000):Says tr c_flex_less [I n,ints a] [I (lessS n a)]:=by
 refine Says.of (t:=flex_less) rfl ?_
 rw[u_flex_less]
 simp (disch:=first | omega | (simp only[ln0];omega)) only[rs,reduceIte,Nat.reduceAdd]
 have key:=xup_ind (n:=a.length) (P:=fun j=>∀m:Int,0≤m→m≤68719476736→Run tr flex_less_l0 [I n,ints a,I j,I m] [.loop flex_less_l0 [I n,ints a]] [I (lessS m (a.drop j))]) ?_ 0 (Nat.zero_le _)
 · simpa using key n hn.1 hn.2
 intro j hj ih m h0 h1
 rw[u_flex_less_l0]
 by_cases h:j < a.length
 · rw[List.drop_eq_getElem_cons h]
   have hg:lenG a[j]=true:=List.all_eq_true.1 ha _ (List.getElem_mem h)
   simp only[lenG,Bool.and_eq_true,decide_eq_true_eq]at hg
   have hi:=ih h (max 0 (m - a[j])) (by omega) (by omega)
   simp only[lessS]
   simp (disch:=first | omega | (simp only[ln0];omega)) only[rs,reduceIte,Nat.reduceAdd,h]
   exact hi
 · simp (disch:=first | omega | (simp only[ln0];omega)) only[rs,reduceIte,Nat.reduceAdd,h]
   rw[List.drop_of_length_le (by omega)]
   rfl
end Go.Proofs.YtckjdlmfibjpaaaGreat.T
namespace Go.Proofs.YtckjdlmfibjpaaaGreat.M
open Go Go.Proofs.YtckjdlmfibjpaaaGreat.Sx
def leftS:List Sz→List Bool→Int→Int
 | x::s,b::st,n=>leftS s st (if x.mx≠5∨b=true then max 0 (n - x.base)else n)
 | _,_,n=>n
def partsF:List Sz→List Bool→Int→Int
 | x::s,b::st,n=>partsF s st (if x.mx≠5∨b=true then n else n+x.fr)
 | _,_,n=>n
def whoF:Nat→List Sz→List Bool→List Int
 | i,x::s,b::st=>if x.mx≠5∨b=true then whoF (i+1) s st else(i:Int)::whoF (i+1) s st
 | _,_,_=> []
def partF (L N fr:Int):Int:=(md L fr (max N 1000)).1
def stepF (L N:Int):List Sz→List Bool→List Bool
 | x::s,b::st=>(b|| (decide (x.mx=5)&& decide (partF L N x.fr < x.base)))::stepF L N s st
 | _,st=>st
def stepS (s:List Sz) (space:Int) (st:List Bool):List Bool:=stepF (leftS s st space) (partsF s st 0) s st
def iterS (s:List Sz) (space:Int):Nat→List Bool→List Bool
 | 0,st=>st
 | k+1,st=>iterS s space k (stepS s space st)
def cntT:List Bool→Nat
 | []=>0
 | true::r=>cntT r+1
 | false::r=>cntT r
theorem cntT_le:∀st:List Bool,cntT st≤st.length
 | []=>Nat.le_refl _
 | true::r=>by simp only[cntT,List.length_cons];have:=cntT_le r;omega
 | false::r=>by simp only[cntT,List.length_cons];have:=cntT_le r;omega
theorem stepF_length (L N:Int):∀ (s:List Sz) (st:List Bool),(stepF L N s st).length=st.length
 | [],st=>by cases st <;> rfl
 | x::s,[]=>rfl
 | x::s,b::st=>by simp[stepF,stepF_length L N s st]
theorem stepF_cnt (L N:Int):∀ (s:List Sz) (st:List Bool),cntT st≤cntT (stepF L N s st)∧(cntT st=cntT (stepF L N s st)→stepF L N s st=st)
 | [],st=>by cases st <;> simp[stepF]
 | x::s,[]=>by simp[stepF]
 | x::s,b::st=>by
  obtain⟨h1,h2⟩:=stepF_cnt L N s st
  simp only[stepF]
  cases b with
  | true=>simp only[Bool.true_or,cntT];exact⟨by omega,fun h=>by rw[h2 (by omega)]⟩
  | false=>
   cases hc:(decide (x.mx=5)&& decide (partF L N x.fr < x.base))with
   | true=>simp only[Bool.false_or,cntT];exact⟨by omega,fun h=>by omega⟩
   | false=>simp only[Bool.false_or,cntT];exact⟨h1,fun h=>by rw[h2 h]⟩
theorem iterS_fix {s:List Sz} {space:Int} {st:List Bool} (h:stepS s space st=st):∀k,iterS s space k st=st
 | 0=>rfl
 | k+1=>by rw[iterS,h,iterS_fix h k]
theorem stepS_length (s:List Sz) (space:Int) (st:List Bool):(stepS s space st).length=st.length:=stepF_length _ _ _ _
theorem iterS_done (s:List Sz) (space:Int):∀ (k:Nat) (st:List Bool),st.length < k+cntT st+1→stepS s space (iterS s space k st)=iterS s space k st
 | 0,st,h=>by
  have h1:=(stepF_cnt (leftS s st space) (partsF s st 0) s st)
  have h2:=cntT_le (stepF (leftS s st space) (partsF s st 0) s st)
  rw[stepF_length]at h2
  exact h1.2 (by omega)
 | k+1,st,h=>by
  have h1:=(stepF_cnt (leftS s st space) (partsF s st 0) s st)
  by_cases hf:stepS s space st=st
  · rw[iterS_fix hf]
    exact hf
  · rw[iterS]
    refine iterS_done s space k _ ?_
    rw[stepS_length]
    have:cntT st≠cntT (stepF (leftS s st space) (partsF s st 0) s st):=fun e=>hf (h1.2 e)
    show st.length < k+cntT (stepF _ _ s st)+1
    omega
theorem iterS_eq {s:List Sz} {space:Int}:∀ (a b:Nat) (st:List Bool),stepS s space (iterS s space a st)=iterS s space a st→a≤b→iterS s space b st=iterS s space a st
 | 0,b,st,h,_=>iterS_fix h b
 | a+1,0,st,h,hb=>by omega
 | a+1,b+1,st,h,hb=>by rw[iterS,iterS];exact iterS_eq a b _ h (by omega)
end Go.Proofs.YtckjdlmfibjpaaaGreat.M
namespace Go.Proofs.YtckjdlmfibjpaaaGreat.T
open Go Go.Proofs.YtckjdlmfibjpaaaGreat.Sx Go.Proofs.YtckjdlmfibjpaaaGreat.M
theorem okF_in {x:Sz} (h:okF x=true):Gd x∧0≤x.base∧x.base≤68719476736∧0≤x.fr∧x.fr≤1073741824:=by
 simp only[okF,isB,Bool.and_eq_true,decide_eq_true_eq]at h
 have hg:=h.1
 unfold Gd at hg
 exact⟨h.1,by omega,by omega,by omega,by omega⟩
theorem l1_run (s:List Sz) (space:Int) (p2 p3 p4:PV) (st:List Bool) (J0:JT) (r:List PV) (hs:s.all okF=true) (hl:s.length≤10000) (hst:st.length=s.length) :
    ∀j,j≤s.length→∀ (L N:Int) (W:List Int),0≤L→L≤68719476736→0≤N→N≤1073741824*j→W.length≤j→
     Run tr flex_shared_l3 [rowOf eSz s,I space,p2,p3,p4,bools st,I s.length,I (leftS (s.drop j) (st.drop j) L),I (partsF (s.drop j) (st.drop j) N),ints (W++whoF j (s.drop j) (st.drop j)),I 0,I (W++whoF j (s.drop j) (st.drop j)).length,bools st] [J0,.loop flex_shared_l1 [rowOf eSz s,I space,p2,p3,p4,bools st],.loop flex_shared_l3 [rowOf eSz s,I space,p2,p3,p4,bools st,I s.length,I (leftS (s.drop j) (st.drop j) L),I (partsF (s.drop j) (st.drop j) N),ints (W++whoF j (s.drop j) (st.drop j))]] r→
     Run tr flex_shared_l1 [rowOf eSz s,I space,p2,p3,p4,bools st,I j,I L,I N,ints W] [J0,.loop flex_shared_l1 [rowOf eSz s,I space,p2,p3,p4,bools st]] r:=by
 refine xup_ind fun j hj ih=>?_
 intro L N W h0 h1 h2 h3 hW hrun
 by_cases h:j < s.length
 · have hjs:j < st.length:=by omega
   have hok:=okF_in (List.all_eq_true.1 hs _ (List.getElem_mem h))
   rw[List.drop_eq_getElem_cons h,List.drop_eq_getElem_cons hjs]at hrun
   simp only[leftS,partsF,whoF]at hrun
   rw[u_flex_shared_l1]
   simp (disch:=first | omega | (simp only[ln0];omega)) only[rs,reduceIte,Nat.reduceAdd,h,hjs,szs,bx,reduceCtorEq,forall_const,ne_eq]
   have hguard:¬s[j].mx=5∨j < st.length:=Or.inr hjs
   by_cases hc:¬s[j].mx=5∨st[j]=true
   · rw[if_pos hc,if_pos hc,if_pos hc]at hrun
     have hi:=ih h (max 0 (L - s[j].base)) N W (by omega) (by omega) h2 (by omega) (by omega) hrun
     first | rw[br_pos hc] | (rw[br_pos hguard,br_pos hc])
     rw[u_flex_shared_j2]
     try simp (disch:=first | omega | (simp only[ln0];omega)) only[rs,reduceIte,Nat.reduceAdd]
     first | exact hi | exact⟨by omega,hi⟩ | exact⟨hguard,hi⟩
   · rw[if_neg hc,if_neg hc,if_neg hc]at hrun
     have hi:=ih h L (N+s[j].fr) (W++ [(j:Int)]) h0 h1 (by omega) (by omega) (by simp;omega) (by simpa using hrun)
     first | rw[br_neg hc] | (rw[br_pos hguard,br_neg hc])
     try simp (disch:=first | omega | (simp only[ln0];omega)) only[rs,reduceIte,Nat.reduceAdd,hW]
     rw[u_flex_shared_j2]
     try simp (disch:=first | omega | (simp only[ln0];omega)) only[rs,reduceIte,Nat.reduceAdd]
     first | exact hi | exact⟨by omega,hi⟩ | exact⟨hguard,hi⟩ | exact⟨hguard,by omega,hi⟩
 · rw[List.drop_of_length_le (by omega),List.drop_of_length_le (by omega)]at hrun
   simp only[leftS,partsF,whoF,List.append_nil]at hrun
   obtain rfl:j=s.length:=by omega
   rw[u_flex_shared_l1]
   simp (disch:=first | omega | (simp only[ln0];omega)) only[rs,reduceIte,Nat.reduceAdd,h]
   exact hrun
def hitF (L N:Int) (s:List Sz) (i:Int):Bool:=match s[i.toNat]? with | some x=>decide (partF L N x.fr < x.base) | none=>false
def setW (L N:Int) (s:List Sz):List Int→List Bool→List Bool
 | [],st=>st
 | i::r,st=>setW L N s r (if hitF L N s i then st.set i.toNat true else st)
def cntW (L N:Int) (s:List Sz):List Int→Nat
 | []=>0
 | i::r=>(if hitF L N s i then 1 else 0)+cntW L N s r
theorem setW_eq (L N:Int):∀ (s2:List Sz) (st2:List Bool) (spre:List Sz) (pre:List Bool),st2.length=s2.length→pre.length=spre.length→
    setW L N (spre++s2) (whoF spre.length s2 st2) (pre++st2)=pre++stepF L N s2 st2∧cntT (stepF L N s2 st2)=cntT st2+cntW L N (spre++s2) (whoF spre.length s2 st2)
 | [],[],spre,pre,_,_=>by simp[whoF,setW,stepF,cntW]
 | [],_::_,_,_,h,_=>by simp at h
 | _::_,[],_,_,h,_=>by simp at h
 | x ::s2,b::st2,spre,pre,h,hp=>by
  obtain⟨i1,i2⟩:=setW_eq L N s2 st2 (spre++ [x]) (pre++ [b]) (by simpa using h) (by simp[hp])
  obtain⟨k1,k2⟩:=setW_eq L N s2 st2 (spre++ [x]) (pre++ [true]) (by simpa using h) (by simp[hp])
  simp only[List.append_assoc,List.singleton_append,List.length_append,List.length_cons,List.length_nil,Nat.zero_add]at i1 i2 k1 k2
  by_cases hc:x.mx≠5∨b=true
  · have hb:(b|| (decide (x.mx=5)&& decide (partF L N x.fr < x.base)))=b:=by
     cases b with
     | true=>rfl
     | false=>
      have:¬x.mx=5:=by rcases hc with h | h;exact h;cases h
      simp[this]
    simp only[whoF,if_pos hc,stepF,hb]
    refine⟨i1,?_⟩
    cases b <;> simp only[cntT] <;> omega
  · have hm:x.mx=5:=Classical.byContradiction fun h=>hc (.inl h)
    have hbf:b=false:=by cases b with | false=>rfl | true=>exact absurd (.inr rfl) hc
    subst hbf
    simp only[whoF,if_neg hc,stepF,setW,cntW,Int.toNat_natCast]
    have hx:(spre++x::s2)[spre.length]? =some x:=by simp
    have hhit:hitF L N (spre++x::s2) (spre.length:Int)=decide (partF L N x.fr < x.base):=by unfold hitF;rw[Int.toNat_natCast,hx]
    have hset:(pre++false::st2).set spre.length true=pre++true::st2:=by
     rw[List.set_append_right _ _ (by omega),hp,Nat.sub_self]
     rfl
    rw[hhit,hm]
    cases hd:decide (partF L N x.fr < x.base)with
    | true=>
     simp only[if_true,hset,decide_true,Bool.true_and,Bool.false_or,cntT]
     exact⟨k1,by omega⟩
    | false=>
     simp only[Bool.false_eq_true,if_false,decide_true,Bool.true_and,Bool.false_or,cntT]
     exact⟨i1,by omega⟩
theorem part_sp (L N fr:Int) (who:List Int) (hL:0≤L∧L≤68719476736) (hN:0≤N∧N≤109951162777600) (hf:0≤fr∧fr≤1073741824):Says tr c_flex_share_part [I L,I N,ints who,I fr] [I (partF L N fr)]:=by
 refine Says.of (t:=flex_share_part) rfl ?_
 rw[u_flex_share_part]
 have h:=muldiv_sp L fr (max N 1000) (by omega) (by omega) (by omega)
 have e:(if 1000 > N then(1000:Int)else N)=max N 1000:=by omega
 simp (disch:=first | omega | (simp only[ln0];omega)) only[rs,reduceIte,Nat.reduceAdd,e,xcall_of h]
 try rfl
theorem l3_run (s:List Sz) (space:Int) (p2 p3 p4:PV) (st:List Bool) (L N:Int) (who:List Int) (J0:JT) (J1:JT) (r:List PV) (hs:s.all okF=true) (hl:s.length≤10000) (hL:0≤L∧L≤68719476736) (hN:0≤N∧N≤109951162777600)
    (hwho:∀x∈who,∃q:Nat,x=q∧q < s.length) (hwl:who.length≤10000) :
    ∀k,k≤who.length→∀ (c:Nat) (st':List Bool),st'.length=s.length→c≤k→
     (c+cntW L N s (who.drop k)=0→r=[I L,I N,ints who])→
     (c+cntW L N s (who.drop k)≠0→Run tr flex_shared_l0 [rowOf eSz s,I space,I L,I N,ints who,bools (setW L N s (who.drop k) st')] [.loop flex_shared_l0 [rowOf eSz s,I space]] r)→
     Run tr flex_shared_l3 [rowOf eSz s,I space,p2,p3,p4,bools st,I s.length,I L,I N,ints who,I k,I ((who.length:Int) - c),bools st'] [.loop flex_shared_l0 [rowOf eSz s,I space],J1,.loop flex_shared_l3 [rowOf eSz s,I space,p2,p3,p4,bools st,I s.length,I L,I N,ints who]] r:=by
 refine xup_ind fun k hk ih=>?_
 intro c st' hst hck hz hnz
 by_cases h:k < who.length
 · obtain⟨q,hq,hqs⟩:=hwho _ (List.getElem_mem h)
   have hqt:q < st'.length:=by omega
   have hok:=okF_in (List.all_eq_true.1 hs _ (List.getElem_mem hqs))
   have hcall:=part_sp L N s[q].fr who hL hN hok.2.2.2
   rw[List.drop_eq_getElem_cons h]at hz hnz
   simp only[cntW,setW]at hz hnz
   rw[hq]at hz hnz
   have hhit:hitF L N s (q:Int)=decide (partF L N s[q].fr < s[q].base):=by unfold hitF;rw[Int.toNat_natCast,List.getElem?_eq_getElem hqs]
   rw[hhit]at hz hnz
   rw[Int.toNat_natCast]at hnz
   rw[u_flex_shared_l3]
   simp (disch:=first | omega | (simp only[ln0];omega)) only[rs,reduceIte,Nat.reduceAdd,h,hq,hqs,szs,xcall_of hcall,bx,reduceCtorEq,forall_const,ne_eq]
   by_cases hb:partF L N s[q].fr < s[q].base
   · simp only[decide_eq_true hb,if_true]at hz hnz
     have hi:=ih h (c+1) (st'.set q true) (by simp[hst]) (by omega) (fun hh=>hz (by omega)) (fun hh=>hnz (by omega))
     rw[br_pos hb]
     rw[u_flex_shared_j4]
     have e:(who.length:Int) - ((c+1:Nat):Int)=(who.length:Int) - c - 1:=by omega
     rw[e]at hi
     simp (disch:=first | omega | (simp only[ln0];omega)) only[rs,reduceIte,Nat.reduceAdd,hqt]
     first | exact hi | exact⟨by omega,hi⟩
   · rw[decide_eq_false hb]at hz hnz
     simp only[Bool.false_eq_true,if_false]at hz hnz
     have hi:=ih h c st' hst (by omega) (fun hh=>hz (by omega)) (fun hh=>hnz (by omega))
     rw[br_neg hb]
     rw[u_flex_shared_j4]
     simp (disch:=first | omega | (simp only[ln0];omega)) only[rs,reduceIte,Nat.reduceAdd]
     first | exact hi | exact⟨by omega,hi⟩
 · rw[List.drop_of_length_le (by omega)]at hz hnz
   simp only[cntW,setW,Nat.add_zero]at hz hnz
   rw[u_flex_shared_l3]
   simp (disch:=first | omega | (simp only[ln0];omega)) only[rs,reduceIte,Nat.reduceAdd,h,bx,reduceCtorEq,forall_const,ne_eq]
   by_cases hc0:c=0
   · subst hc0
     rw[br_pos (by omega)]
     exact(hz rfl).symm
   · rw[br_neg (by omega)]
     exact hnz hc0
theorem leftS_in:∀ (s:List Sz) (st:List Bool) (n:Int),s.all okF=true→0≤n→n≤68719476736→0≤leftS s st n∧leftS s st n≤68719476736
 | [],st,n,_,h0,h1=>by cases st <;> exact⟨h0,h1⟩
 | x::s,[],n,_,h0,h1=>⟨h0,h1⟩
 | x::s,b::st,n,h,h0,h1=>by
  simp only[List.all_cons,Bool.and_eq_true]at h
  have hx:=okF_in h.1
  rw[leftS]
  refine leftS_in s st _ h.2 ?_ ?_ <;> split <;> omega
theorem partsF_in:∀ (s:List Sz) (st:List Bool) (n:Int),s.all okF=true→0≤n→n≤partsF s st n∧partsF s st n≤n+1073741824*s.length
 | [],st,n,_,h0=>by cases st <;> simp[partsF]
 | x::s,[],n,_,h0=>by simp only[partsF,List.length_cons];omega
 | x::s,b::st,n,h,h0=>by
  simp only[List.all_cons,Bool.and_eq_true]at h
  have hx:=okF_in h.1
  rw[partsF]
  simp only[List.length_cons]
  split
  · have:=partsF_in s st n h.2 h0
    omega
  · have:=partsF_in s st (n+x.fr) h.2 (by omega)
    omega
theorem whoF_in:∀ (s:List Sz) (st:List Bool) (i:Nat),(whoF i s st).length≤s.length∧∀x∈whoF i s st,∃q:Nat,x=q∧i≤q∧q < i+s.length
 | [],st,i=>by cases st <;> simp[whoF]
 | x::s,[],i=>by simp[whoF]
 | x::s,b::st,i=>by
  obtain⟨h1,h2⟩:=whoF_in s st (i+1)
  simp only[whoF,List.length_cons]
  split
  · refine⟨by omega,fun y hy=>?_⟩
    obtain⟨q,e,g1,g2⟩:=h2 y hy
    exact⟨q,e,by omega,by omega⟩
  · refine⟨by simp only[List.length_cons];omega,fun y hy=>?_⟩
    rcases List.mem_cons.1 hy with rfl | hy
    · exact⟨i,rfl,by omega,by omega⟩
    · obtain⟨q,e,g1,g2⟩:=h2 y hy
      exact⟨q,e,by omega,by omega⟩
theorem l0_run (s:List Sz) (space:Int) (hs:s.all okF=true) (hl:s.length≤10000) (hsp:0≤space∧space≤68719476736):∀ (m:Nat) (st:List Bool) (p2 p3 p4:PV),st.length=s.length→s.length≤m+cntT st→
    ∃k,stepS s space (iterS s space k st)=iterS s space k st∧Run tr flex_shared_l0 [rowOf eSz s,I space,p2,p3,p4,bools st] [.loop flex_shared_l0 [rowOf eSz s,I space]] [I (leftS s (iterS s space k st) space),I (partsF s (iterS s space k st) 0),ints (whoF 0 s (iterS s space k st))]:=by
 intro m
 induction m with
 | zero=>
  intro st p2 p3 p4 hst hm
  obtain⟨e1,e2⟩:=setW_eq (leftS s st space) (partsF s st 0) s st [] [] hst rfl
  simp only[List.nil_append,List.length_nil]at e1 e2
  obtain⟨c1,c2⟩:=stepF_cnt (leftS s st space) (partsF s st 0) s st
  have c3:=cntT_le (stepF (leftS s st space) (partsF s st 0) s st)
  rw[stepF_length]at c3
  have hfix:stepS s space st=st:=c2 (by omega)
  obtain⟨w1,w2⟩:=whoF_in s st 0
  have hL:=leftS_in s st space hs hsp.1 hsp.2
  have hN:=partsF_in s st 0 hs (Int.le_refl _)
  refine⟨0,hfix,?_⟩
  simp only[iterS]
  rw[u_flex_shared_l0]
  simp (disch:=first | omega | (simp only[ln0];omega)) only[rs,reduceIte,Nat.reduceAdd]
  refine l1_run s space p2 p3 p4 st (.loop flex_shared_l0 [rowOf eSz s,I space]) _ hs hl hst 0 (Nat.zero_le _) space 0 [] hsp.1 hsp.2 (Int.le_refl _) (by omega) (Nat.le_refl _) ?_
  simp only[List.drop_zero,List.nil_append]
  have h3:=l3_run s space p2 p3 p4 st (leftS s st space) (partsF s st 0) (whoF 0 s st) (.loop flex_shared_l0 [rowOf eSz s,I space]) (.loop flex_shared_l1 [rowOf eSz s,I space,p2,p3,p4,bools st]) [I (leftS s st space),I (partsF s st 0),ints (whoF 0 s st)] hs hl hL (by omega) (fun x hx=>by obtain⟨q,e,_,g⟩:=w2 x hx;exact⟨q,e,by omega⟩) (by omega) 0 (Nat.zero_le _) 0 st hst (Nat.le_refl _) (fun _=>rfl) (fun hh=>by rw[List.drop_zero]at hh;omega)
  simpa using h3
 | succ m ih=>
  intro st p2 p3 p4 hst hm
  obtain⟨e1,e2⟩:=setW_eq (leftS s st space) (partsF s st 0) s st [] [] hst rfl
  simp only[List.nil_append,List.length_nil]at e1 e2
  obtain⟨c1,c2⟩:=stepF_cnt (leftS s st space) (partsF s st 0) s st
  obtain⟨w1,w2⟩:=whoF_in s st 0
  have hL:=leftS_in s st space hs hsp.1 hsp.2
  have hN:=partsF_in s st 0 hs (Int.le_refl _)
  by_cases hz:cntW (leftS s st space) (partsF s st 0) s (whoF 0 s st)=0
  · have hfix:stepS s space st=st:=c2 (by omega)
    refine⟨0,hfix,?_⟩
    simp only[iterS]
    rw[u_flex_shared_l0]
    simp (disch:=first | omega | (simp only[ln0];omega)) only[rs,reduceIte,Nat.reduceAdd]
    refine l1_run s space p2 p3 p4 st (.loop flex_shared_l0 [rowOf eSz s,I space]) _ hs hl hst 0 (Nat.zero_le _) space 0 [] hsp.1 hsp.2 (Int.le_refl _) (by omega) (Nat.le_refl _) ?_
    simp only[List.drop_zero,List.nil_append]
    have h3:=l3_run s space p2 p3 p4 st (leftS s st space) (partsF s st 0) (whoF 0 s st) (.loop flex_shared_l0 [rowOf eSz s,I space]) (.loop flex_shared_l1 [rowOf eSz s,I space,p2,p3,p4,bools st]) [I (leftS s st space),I (partsF s st 0),ints (whoF 0 s st)] hs hl hL (by omega) (fun x hx=>by obtain⟨q,e,_,g⟩:=w2 x hx;exact⟨q,e,by omega⟩) (by omega) 0 (Nat.zero_le _) 0 st hst (Nat.le_refl _) (fun _=>rfl) (fun hh=>by rw[List.drop_zero]at hh;omega)
    simpa using h3
  · obtain⟨k,hk1,hk2⟩:=ih (stepS s space st) (I (leftS s st space)) (I (partsF s st 0)) (ints (whoF 0 s st)) (by rw[stepS_length];exact hst) (by
     have:cntT (stepS s space st)=cntT st+cntW (leftS s st space) (partsF s st 0) s (whoF 0 s st):=e2
     omega)
    refine⟨k+1,hk1,?_⟩
    simp only[iterS]
    rw[u_flex_shared_l0]
    simp (disch:=first | omega | (simp only[ln0];omega)) only[rs,reduceIte,Nat.reduceAdd]
    refine l1_run s space p2 p3 p4 st (.loop flex_shared_l0 [rowOf eSz s,I space]) _ hs hl hst 0 (Nat.zero_le _) space 0 [] hsp.1 hsp.2 (Int.le_refl _) (by omega) (Nat.le_refl _) ?_
    simp only[List.drop_zero,List.nil_append]
    have h3:=l3_run s space p2 p3 p4 st (leftS s st space) (partsF s st 0) (whoF 0 s st) (.loop flex_shared_l0 [rowOf eSz s,I space]) (.loop flex_shared_l1 [rowOf eSz s,I space,p2,p3,p4,bools st]) [I (leftS s (iterS s space k (stepS s space st)) space),I (partsF s (iterS s space k (stepS s space st)) 0),ints (whoF 0 s (iterS s space k (stepS s space st)))] hs hl hL (by omega) (fun x hx=>by obtain⟨q,e,_,g⟩:=w2 x hx;exact⟨q,e,by omega⟩) (by omega) 0 (Nat.zero_le _) 0 st hst (Nat.le_refl _) (fun hh=>by rw[List.drop_zero]at hh;omega) (fun _=>by rw[List.drop_zero,e1];exact hk2)
    simpa using h3
def finS (s:List Sz) (space:Int):List Bool:=iterS s space (s.length+1) (List.replicate s.length false)
theorem fshared_sp (s:List Sz) (space:Int) (hs:s.all okF=true) (hl:s.length≤10000) (hsp:0≤space∧space≤68719476736):Says tr c_flex_shared [rowOf eSz s,I space] [I (leftS s (finS s space) space),I (partsF s (finS s space) 0),ints (whoF 0 s (finS s space))]:=by
 refine Says.of (t:=flex_shared) rfl ?_
 obtain⟨k,h1,h2⟩:=l0_run s space hs hl hsp s.length (List.replicate s.length false) (I 0) (I 0) (ints []) (by simp) (by omega)
 have hd:=iterS_done s space (s.length+1) (List.replicate s.length false) (by simp;omega)
 have he:iterS s space k (List.replicate s.length false)=finS s space:=by
  rcases Nat.le_total k (s.length+1)with h | h
  · exact(iterS_eq k _ _ h1 h).symm
  · exact iterS_eq _ k _ hd h
 rw[he]at h2
 rw[u_flex_shared]
 simp (disch:=first | omega | (simp only[ln0];omega)) only[rs,reduceIte,Nat.reduceAdd]
 first | exact h2 | exact⟨by omega,h2⟩
def upF (a b c:Int):Int:= -(md (-a) b c).1
theorem md_bd {a c:Int} (ha: -68719476736≤a∧a≤68719476736) (hc:1≤c∧c≤4611686018427387904): -100000000000000≤(md a 1000 c).1∧(md a 1000 c).1≤100000000000000:=by
 have hab:0≤ab a∧ab a≤68719476736:=by unfold ab;split <;> omega
 have hb:ab 1000=1000:=rfl
 have hcc:ab c=c:=by unfold ab;rw[if_neg (by omega)]
 have hq0:0≤ab a*1000 / c:=Int.ediv_nonneg (by omega) (by omega)
 have hq1:ab a*1000 / c≤ab a*1000:=Int.ediv_le_self _ (by omega)
 unfold md
 rw[if_neg (by omega),hb,hcc]
 unfold mdN
 (repeat' split) <;> simp only <;> omega
theorem upF_sp (a c:Int) (ha:0≤a∧a≤68719476736) (hc:1≤c∧c≤4611686018427387904):Says tr c_flex_up [I a,I 1000,I c] [I (upF a 1000 c)]:=by
 refine Says.of (t:=flex_up) rfl ?_
 rw[u_flex_up]
 have h:=muldiv_sp (-a) 1000 c (by omega) (by omega) (by omega)
 have hb:=md_bd (a:= -a) (c:=c) (by omega) hc
 have e:IntKind.i64.wrap (0 - a)= -a:=by rw[wrap_in (by omega) (by omega)];omega
 have e2:IntKind.i64.wrap (0 - (md (-a) 1000 c).1)=upF a 1000 c:=by rw[wrap_in (by omega) (by omega)];unfold upF;omega
 simp (disch:=first | omega | (simp only[ln0];omega)) only[rs,reduceIte,Nat.reduceAdd,e,xcall_of h,e2]
 try (simp only[upF];done)
def unitS (s:List Sz) (space:Int):Int:=
 if rightB s space=false then 0 else if whoF 0 s (finS s space)=[]then 0 else upF (leftS s (finS s space) space) 1000 (max (partsF s (finS s space) 0) 1000)
theorem rightB_in {s:List Sz} {space:Int} (h:rightB s space=true):(0≤space∧space≤68719476736)∧s.all okF=true:=by
 simp only[rightB,Bool.and_eq_true,decide_eq_true_eq]at h
 exact⟨⟨h.1.1,h.1.2⟩,h.2⟩
theorem unit_sp (s:List Sz) (space:Int) (hl:s.length≤10000):Says tr c_flex_Unit [rowOf eSz s,I space] [I (unitS s space)]:=by
 refine Says.of (t:=flex_Unit) rfl ?_
 rw[u_flex_Unit]
 have hr:=fright_sp s space (by omega)
 unfold unitS
 cases hb:rightB s space with
 | false=>
  rw[hb]at hr
  simp (disch:=first | omega | (simp only[ln0];omega)) only[rs,reduceIte,Nat.reduceAdd,xcall_of hr,Bool.false_eq_true]
  repeat rw[br_neg (by simp)]
  try rfl
 | true=>
  rw[hb]at hr
  obtain⟨hsp,hs⟩:=rightB_in hb
  have hL:=leftS_in s (finS s space) space hs hsp.1 hsp.2
  have hN:=partsF_in s (finS s space) 0 hs (Int.le_refl _)
  have hsh:=fshared_sp s space hs hl hsp
  have hup:=upF_sp (leftS s (finS s space) space) (max (partsF s (finS s space) 0) 1000) hL (by omega)
  have e:(if 1000 > partsF s (finS s space) 0 then(1000:Int)else partsF s (finS s space) 0)=max (partsF s (finS s space) 0) 1000:=by omega
  rw[if_neg (by simp)]
  by_cases hw:whoF 0 s (finS s space)=[]
  · rw[if_pos hw]
    rw[hw]at hsh
    simp (disch:=first | omega | (simp only[ln0];omega)) only[rs,reduceIte,Nat.reduceAdd,xcall_of hr,xcall_of hsh,bx,reduceCtorEq,forall_const,ne_eq]
    try (rw[br_pos (by rfl)])
    try trivial
  · have hwl:¬ ((whoF 0 s (finS s space)).length:Int)=0:=fun hh=>hw (List.length_eq_zero_iff.1 (by omega))
    rw[if_neg hw]
    simp (disch:=first | omega | (simp only[ln0];omega)) only[rs,reduceIte,Nat.reduceAdd,xcall_of hr,xcall_of hsh,bx,reduceCtorEq,forall_const,ne_eq]
    rw[br_neg hwl]
    simp (disch:=first | omega | (simp only[ln0];omega)) only[rs,reduceIte,Nat.reduceAdd,e,xcall_of hup]
def raiseS (x:Sz) (v:Int):Sz:={ x with base:=max x.base v,lim:=max x.lim (max x.base v) }
def growS (g:Int→Int):Nat→List Sz→List Sz
 | _,[]=> []
 | i,x::s=>raiseS x (g i)::growS g (i+1) s
theorem mget_on (xs:List (List PV)) (i:Int):BO.mget.on (.row xs) (I i)=I (mapGet xs i):=rfl
theorem fl3_run (s:List Sz) (p1 p2 p3 p4 p5 p6 p7 p8 p9 p10:PV) (xs:List (List PV)) (J0:JT) (hl:s.length≤10000) :
    ∀j,j≤s.length→∀pre:List Sz,pre.length=j→
     Run tr flex_Fill_l3 [rowOf eSz s,p1,p2,p3,p4,p5,p6,p7,p8,p9,p10,.row xs,I j,rowOf eSz (pre++s.drop j)] [J0,.loop flex_Fill_l3 [rowOf eSz s,p1,p2,p3,p4,p5,p6,p7,p8,p9,p10,.row xs]] [rowOf eSz (pre++growS (mapGet xs) j (s.drop j))]:=by
 refine xup_ind fun j hj ih=>?_
 intro pre hp
 by_cases h:j < s.length
 · have hd:=List.drop_eq_getElem_cons h
   have hlen:j < (pre++s.drop j).length:=by simp;omega
   have hat:(pre++s.drop j)[j]'hlen=s[j]:=by
    rw[List.getElem_append_right (by omega)]
    simp[hp]
   have hg:growS (mapGet xs) j (s.drop j)=raiseS s[j] (mapGet xs j)::growS (mapGet xs) (j+1) (s.drop (j+1)):=by rw[hd];rfl
   have hset:(pre++s.drop j).set j (raiseS s[j] (mapGet xs j))=(pre++ [raiseS s[j] (mapGet xs j)])++s.drop (j+1):=by
    rw[hd,List.set_append_right _ _ (by omega),hp,Nat.sub_self]
    simp only[List.set_cons_zero,List.append_assoc,List.singleton_append]
   have hi:=ih h (pre++ [raiseS s[j] (mapGet xs j)]) (by simp[hp])
   rw[←hset]at hi
   rw[hg,show pre++raiseS s[j] (mapGet xs j)::growS (mapGet xs) (j+1) (s.drop (j+1))=(pre++ [raiseS s[j] (mapGet xs j)])++growS (mapGet xs) (j+1) (s.drop (j+1))by simp]
   generalize (pre++ [raiseS s[j] (mapGet xs j)])++growS (mapGet xs) (j+1) (s.drop (j+1))=R at hi
   generalize pre++s.drop j=T at hlen hat hi
   generalize hv:mapGet xs (j:Int)=v at hi
   have hb:=braise_sp ⟨s[j].mn,s[j].mx,s[j].fr,s[j].fit,s[j].cap,max s[j].base v,s[j].lim⟩
   have em:(if v > s[j].base then v else s[j].base)=max s[j].base v:=by omega
   have hlen2:j < (T.modify j fun y=>{ y with base:=max s[j].base v }).length:=by simpa using hlen
   have hat2:(T.modify j fun y=>{ y with base:=max s[j].base v })[j]'hlen2=⟨s[j].mn,s[j].mx,s[j].fr,s[j].fit,s[j].cap,max s[j].base v,s[j].lim⟩:=by
    rw[List.getElem_modify,if_pos rfl,hat]
   rw[u_flex_Fill_l3]
   simp (disch:=first | omega | (simp only[ln0];omega)) only[rs,reduceIte,Nat.reduceAdd,h,hlen,szs,hat,mget_on,hv,em,hlen2,hat2,xcall_of hb,bx,reduceCtorEq,forall_const,ne_eq]
   try (refine⟨by omega,by omega,?_⟩)
   have hme:(T.modify j fun y=>{ y with base:=max s[j].base v })=T.set j ⟨s[j].mn,s[j].mx,s[j].fr,s[j].fit,s[j].cap,max s[j].base v,s[j].lim⟩:=by
    apply List.ext_getElem (by simp)
    intro i h1 h2
    rw[List.getElem_set,List.getElem_modify]
    split
    · rename_i hij
      subst hij
      rw[hat]
    · rfl
   rw[hme,List.set_set]
   by_cases hc:max s[j].lim (max s[j].base v)=s[j].lim
   · rw[br_pos hc]
     have e:raiseS s[j] v=⟨s[j].mn,s[j].mx,s[j].fr,s[j].fit,s[j].cap,max s[j].base v,s[j].lim⟩:=by unfold raiseS;rw[hc]
     rw[e]at hi
     rw[u_flex_Fill_j4]
     try simp (disch:=first | omega | (simp only[ln0];omega)) only[rs,reduceIte,Nat.reduceAdd]
     first | exact hi | exact⟨by omega,hi⟩
   · rw[br_neg hc]
     have e:raiseS s[j] v=⟨s[j].mn,s[j].mx,s[j].fr,s[j].fit,s[j].cap,max s[j].base v,max s[j].lim (max s[j].base v)⟩:=rfl
     rw[e]at hi
     rw[u_flex_Fill_j4]
     try simp (disch:=first | omega | (simp only[ln0];omega)) only[rs,reduceIte,Nat.reduceAdd]
     first | exact hi | exact⟨by omega,hi⟩
 · have e1:s.drop j=[]:=List.drop_of_length_le (by omega)
   rw[e1]
   simp only[growS]
   rw[u_flex_Fill_l3]
   simp (disch:=first | omega | (simp only[ln0];omega)) only[rs,reduceIte,Nat.reduceAdd,h]
theorem gl6_run (s:List Sz) (p1 p2 p3 p4 p5 p6 p7 p8:PV) (xs:List (List PV)) (J0 J1 J2:JT) (hl:s.length≤10000) :
    ∀j,j≤s.length→∀pre:List Sz,pre.length=j→
     Run tr flex_Grow_l6 [rowOf eSz s,p1,p2,p3,p4,p5,p6,p7,p8,.row xs,I j,rowOf eSz (pre++s.drop j)] [J0,J1,J2,.loop flex_Grow_l6 [rowOf eSz s,p1,p2,p3,p4,p5,p6,p7,p8,.row xs]] [rowOf eSz (pre++growS (mapGet xs) j (s.drop j))]:=by
 refine xup_ind fun j hj ih=>?_
 intro pre hp
 by_cases h:j < s.length
 · have hd:=List.drop_eq_getElem_cons h
   have hlen:j < (pre++s.drop j).length:=by simp;omega
   have hat:(pre++s.drop j)[j]'hlen=s[j]:=by
    rw[List.getElem_append_right (by omega)]
    simp[hp]
   have hg:growS (mapGet xs) j (s.drop j)=raiseS s[j] (mapGet xs j)::growS (mapGet xs) (j+1) (s.drop (j+1)):=by rw[hd];rfl
   have hset:(pre++s.drop j).set j (raiseS s[j] (mapGet xs j))=(pre++ [raiseS s[j] (mapGet xs j)])++s.drop (j+1):=by
    rw[hd,List.set_append_right _ _ (by omega),hp,Nat.sub_self]
    simp only[List.set_cons_zero,List.append_assoc,List.singleton_append]
   have hi:=ih h (pre++ [raiseS s[j] (mapGet xs j)]) (by simp[hp])
   rw[←hset]at hi
   rw[hg,show pre++raiseS s[j] (mapGet xs j)::growS (mapGet xs) (j+1) (s.drop (j+1))=(pre++ [raiseS s[j] (mapGet xs j)])++growS (mapGet xs) (j+1) (s.drop (j+1))by simp]
   generalize (pre++ [raiseS s[j] (mapGet xs j)])++growS (mapGet xs) (j+1) (s.drop (j+1))=R at hi
   generalize pre++s.drop j=T at hlen hat hi
   generalize hv:mapGet xs (j:Int)=v at hi
   have hb:=braise_sp ⟨s[j].mn,s[j].mx,s[j].fr,s[j].fit,s[j].cap,max s[j].base v,s[j].lim⟩
   have em:(if v > s[j].base then v else s[j].base)=max s[j].base v:=by omega
   have hlen2:j < (T.modify j fun y=>{ y with base:=max s[j].base v }).length:=by simpa using hlen
   have hat2:(T.modify j fun y=>{ y with base:=max s[j].base v })[j]'hlen2=⟨s[j].mn,s[j].mx,s[j].fr,s[j].fit,s[j].cap,max s[j].base v,s[j].lim⟩:=by
    rw[List.getElem_modify,if_pos rfl,hat]
   rw[u_flex_Grow_l6]
   simp (disch:=first | omega | (simp only[ln0];omega)) only[rs,reduceIte,Nat.reduceAdd,h,hlen,szs,hat,mget_on,hv,em,hlen2,hat2,xcall_of hb,bx,reduceCtorEq,forall_const,ne_eq]
   try (refine⟨by omega,by omega,?_⟩)
   have hme:(T.modify j fun y=>{ y with base:=max s[j].base v })=T.set j ⟨s[j].mn,s[j].mx,s[j].fr,s[j].fit,s[j].cap,max s[j].base v,s[j].lim⟩:=by
    apply List.ext_getElem (by simp)
    intro i h1 h2
    rw[List.getElem_set,List.getElem_modify]
    split
    · rename_i hij
      subst hij
      rw[hat]
    · rfl
   rw[hme,List.set_set]
   by_cases hc:max s[j].lim (max s[j].base v)=s[j].lim
   · rw[br_pos hc]
     have e:raiseS s[j] v=⟨s[j].mn,s[j].mx,s[j].fr,s[j].fit,s[j].cap,max s[j].base v,s[j].lim⟩:=by unfold raiseS;rw[hc]
     rw[e]at hi
     rw[u_flex_Grow_j7]
     try simp (disch:=first | omega | (simp only[ln0];omega)) only[rs,reduceIte,Nat.reduceAdd]
     first | exact hi | exact⟨by omega,hi⟩
   · rw[br_neg hc]
     have e:raiseS s[j] v=⟨s[j].mn,s[j].mx,s[j].fr,s[j].fit,s[j].cap,max s[j].base v,max s[j].lim (max s[j].base v)⟩:=rfl
     rw[e]at hi
     rw[u_flex_Grow_j7]
     try simp (disch:=first | omega | (simp only[ln0];omega)) only[rs,reduceIte,Nat.reduceAdd]
     first | exact hi | exact⟨by omega,hi⟩
 · have e1:s.drop j=[]:=List.drop_of_length_le (by omega)
   rw[e1]
   simp only[growS]
   rw[u_flex_Grow_l6]
   simp (disch:=first | omega | (simp only[ln0];omega)) only[rs,reduceIte,Nat.reduceAdd,h]
def gU (unit:Int) (x:Sz):Int:=if x.mx=5 then min (md unit x.fr 1000).1 68719476736 else 0
def growU (unit:Int) (s:List Sz):List Sz:=s.map fun x=>raiseS x (gU unit x)
def u1S:List Sz→Int→Int
 | [],n=>n
 | x::s,n=>u1S s (if x.mx=5 then max n (upF x.base 1000 (max x.fr 1000))else n)
theorem g1_run (s:List Sz) (p1 p2 p3:PV) (r:List PV) (hs:s.all okF=true) (hl:s.length≤10000) :
    ∀j,j≤s.length→∀n:Int,
     Run tr flex_Grow_l3 [rowOf eSz s,p1,p2,p3,I s.length,I (u1S (s.drop j) n),I 0,I (u1S (s.drop j) n)] [.loop flex_Grow_l1 [rowOf eSz s,p1,p2,p3],.loop flex_Grow_l3 [rowOf eSz s,p1,p2,p3,I s.length,I (u1S (s.drop j) n)]] r→
     Run tr flex_Grow_l1 [rowOf eSz s,p1,p2,p3,I j,I n] [.loop flex_Grow_l1 [rowOf eSz s,p1,p2,p3]] r:=by
 refine xup_ind fun j hj ih=>?_
 intro n hrun
 by_cases h:j < s.length
 · have hok:=okF_in (List.all_eq_true.1 hs _ (List.getElem_mem h))
   have hup:=upF_sp s[j].base (max s[j].fr 1000) (by omega) (by omega)
   have e:(if 1000 > s[j].fr then(1000:Int)else s[j].fr)=max s[j].fr 1000:=by omega
   rw[List.drop_eq_getElem_cons h]at hrun
   simp only[u1S]at hrun
   rw[u_flex_Grow_l1]
   simp (disch:=first | omega | (simp only[ln0];omega)) only[rs,reduceIte,Nat.reduceAdd,h,szs,bx,reduceCtorEq,forall_const,ne_eq]
   by_cases hx:s[j].mx=5
   · have e2:(if upF s[j].base 1000 (max s[j].fr 1000) > n then upF s[j].base 1000 (max s[j].fr 1000)else n)=max n (upF s[j].base 1000 (max s[j].fr 1000)):=by omega
     rw[if_pos hx]at hrun
     have hi:=ih h _ hrun
     rw[br_pos hx]
     simp (disch:=first | omega | (simp only[ln0];omega)) only[rs,reduceIte,Nat.reduceAdd,h,szs,e,xcall_of hup,e2]
     rw[u_flex_Grow_j2]
     try simp (disch:=first | omega | (simp only[ln0];omega)) only[rs,reduceIte,Nat.reduceAdd,e2]
     first | exact hi | exact⟨by omega,hi⟩
   · rw[if_neg hx]at hrun
     have hi:=ih h _ hrun
     rw[br_neg hx]
     rw[u_flex_Grow_j2]
     try simp (disch:=first | omega | (simp only[ln0];omega)) only[rs,reduceIte,Nat.reduceAdd]
     first | exact hi | exact⟨by omega,hi⟩
 · rw[List.drop_of_length_le (by omega)]at hrun
   simp only[u1S]at hrun
   obtain rfl:j=s.length:=by omega
   rw[u_flex_Grow_l1]
   simp (disch:=first | omega | (simp only[ln0];omega)) only[rs,reduceIte,Nat.reduceAdd,h]
   first | exact hrun | exact⟨by omega,hrun⟩
def lenB (n:Int):Bool:=decide (0≤n)&& decide (n≤68719476736)
def wOkF (n:Nat) (w:Wn):Bool:=!decide ((w.fm < 0∨w.to≤w.fm)∨(n:Int) < w.to)&& (lenB w.least&& (lenB w.mn&& lenB w.mx))
def goodF (s:List Sz) (a:List Int) (ws:List Wn) (mode:Int):Bool:=
 decide (a.length=s.length)&& decide (ws.length≤4096)&& decide (0≤mode)&& decide (mode≤2)&& s.all (fun x=>decide (Gd x))&& a.all lenB&& ws.all (wOkF s.length)
theorem iwith_sp (x:Int):Says tr c_intrinsic_within [I x] [B (lenB x)]:=by
 refine Says.of (t:=intrinsic_within) rfl ?_
 rw[u_intrinsic_within]
 simp (disch:=first | omega | (simp only[ln0];omega)) only[rs,reduceIte,Nat.reduceAdd,xcall_of (is_sp _),ge_iff_le]
 unfold lenB
 by_cases h:0≤x
 · rw[br_pos h]
   have:decide (-68719476736≤x)=true:=decide_eq_true (by omega)
   simp[h,this]
 · rw[br_neg h]
   simp[h]
theorem fg2_sp (x:Int):Says tr c_intrinsic_Good_2 [I x] [B (!lenB x)]:=by
 refine Says.of (t:=intrinsic_Good_2) rfl ?_
 rw[u_intrinsic_Good_2]
 simp (disch:=first | omega | (simp only[ln0];omega)) only[rs,reduceIte,Nat.reduceAdd,xcall_of (iwith_sp x)]
theorem igw_run (s:List Sz) (a:List Int) (ws:List Wn) (mode:Int) (hw:ws.length≤1000000) (g:Bool) (hg:g=ws.all (wOkF s.length)):Run tr intrinsic_Good_j0 [rowOf eSz s,ints a,rowOf eWn ws,I mode,B false] [] [B g]:=by
 have key:=xup_ind (n:=ws.length) (P:=fun j=>(ws.drop j).all (wOkF s.length)=g→Run tr intrinsic_Good_l1 [rowOf eSz s,ints a,rowOf eWn ws,I mode,B false,I j] [.loop intrinsic_Good_l1 [rowOf eSz s,ints a,rowOf eWn ws,I mode,B false]] [B g]) ?_ 0 (Nat.zero_le _)
 · rw[u_intrinsic_Good_j0]
   simp (disch:=first | omega | (simp only[ln0];omega)) only[rs,reduceIte,Nat.reduceAdd,Bool.false_eq_true]
   repeat rw[br_neg (by simp)]
   exact key hg.symm
 intro j hj ih hall
 rw[u_intrinsic_Good_l1]
 by_cases h:j < ws.length
 · rw [List.drop_eq_getElem_cons h,List.all_cons]at hall
   have hj2:∀b:Bool,wOkF s.length ws[j]= !b→Run tr intrinsic_Good_j2 [rowOf eSz s,ints a,rowOf eWn ws,I mode,B false,I j,B b] [.loop intrinsic_Good_l1 [rowOf eSz s,ints a,rowOf eWn ws,I mode,B false]] [B g]:=by
    intro b hb
    rw[hb]at hall
    rw[u_intrinsic_Good_j2]
    cases b with
    | true=>simp (disch:=first | omega | (simp only[ln0];omega)) only[rs,reduceIte,Nat.reduceAdd];rw[←hall];rfl
    | false=>
     have:=ih h (by simpa using hall)
     simp (disch:=first | omega | (simp only[ln0];omega)) only[rs,reduceIte,Nat.reduceAdd,Bool.false_eq_true]
     repeat rw[br_neg (by simp)]
     exact this
   simp (disch:=first | omega | (simp only[ln0];omega)) only[rs,reduceIte,Nat.reduceAdd,h,wn_at0,wn_at1,wn_at2,wn_at3,wn_at4,bx,reduceCtorEq,forall_const,ne_eq,xcall_of (iwith_sp _)]
   unfold wOkF at hj2
   by_cases h1:(ws[j].fm < 0∨ws[j].to≤ws[j].fm)∨(s.length:Int) < ws[j].to
   · rw[br_pos h1]
     exact hj2 true (by simp[h1])
   · rw[br_neg h1]
     have hd:decide ((ws[j].fm < 0∨ws[j].to≤ws[j].fm)∨(s.length:Int) < ws[j].to)=false:=decide_eq_false h1
     rw[hd]at hj2
     cases h2:lenB ws[j].least with
     | false=>
      rw[h2]at hj2
      repeat rw[br_neg (by simp)]
      exact hj2 true rfl
     | true=>
      rw[h2]at hj2
      rw[br_pos rfl]
      cases h3:lenB ws[j].mn with
      | false=>
       rw[h3]at hj2
       repeat rw[br_neg (by simp)]
       exact hj2 true rfl
      | true=>
       rw[h3]at hj2
       rw[br_pos rfl]
       exact hj2 _ (by simp)
 · rw[List.drop_of_length_le (by omega)]at hall
   simp (disch:=first | omega | (simp only[ln0];omega)) only[rs,reduceIte,Nat.reduceAdd,h]
   rw[←hall]
   rfl
theorem fgood_sp (s:List Sz) (a:List Int) (ws:List Wn) (mode:Int) (hs:s.length≤1000000) (ha:a.length≤1000000) (hw:ws.length≤1000000):Says tr c_intrinsic_Good [rowOf eSz s,ints a,rowOf eWn ws,I mode] [B (goodF s a ws mode)]:=by
 refine Says.of (t:=intrinsic_Good) rfl ?_
 have hbad:goodF s a ws mode=false→Run tr intrinsic_Good_j0 [rowOf eSz s,ints a,rowOf eWn ws,I mode,B true] [] [B (goodF s a ws mode)]:=by
  intro hb
  rw[hb]
  rw[u_intrinsic_Good_j0]
  simp (disch:=first | omega | (simp only[ln0];omega)) only[rs,reduceIte,Nat.reduceAdd]
 rw[u_intrinsic_Good]
 simp (disch:=first | omega | (simp only[ln0];omega)) only[rs,reduceIte,Nat.reduceAdd,bx,reduceCtorEq,forall_const,ne_eq]
 by_cases hc:((¬ (a.length:Int)=s.length∨4096 < (ws.length:Int))∨mode < 0)∨2 < mode
 · rw[br_pos hc]
   refine hbad ?_
   unfold goodF
   rcases hc with((h | h) | h) | h
   · have:¬a.length=s.length:=by omega
     simp[this]
   · have:¬ws.length≤4096:=by omega
     simp[this]
   · have:¬0≤mode:=by omega
     simp[this]
   · have:¬mode≤2:=by omega
     simp[this]
 rw[br_neg hc]
 have e1:a.length=s.length:=by omega
 have e2:ws.length≤4096:=by omega
 have e3:0≤mode:=by omega
 have e4:mode≤2:=by omega
 have hgo:goodF s a ws mode=(s.all (fun x=>decide (Gd x))&& a.all lenB&& ws.all (wOkF s.length)):=by simp[goodF,e1,e2,e3,e4]
 have h6:∀j,j≤s.length→∃x:Int,(decide (0≤x)= !(s.drop j).all (fun x=>decide (Gd x)))∧∀r,Run tr intrinsic_Good_j3 [rowOf eSz s,ints a,rowOf eWn ws,I mode,I x] [.join intrinsic_Good_j0 [rowOf eSz s,ints a,rowOf eWn ws,I mode]] r→Run tr intrinsic_Good_l6 [rowOf eSz s,ints a,rowOf eWn ws,I mode,I j] [.join intrinsic_Good_j0 [rowOf eSz s,ints a,rowOf eWn ws,I mode],.join intrinsic_Good_j3 [rowOf eSz s,ints a,rowOf eWn ws,I mode],.loop intrinsic_Good_l6 [rowOf eSz s,ints a,rowOf eWn ws,I mode]] r:=by
  refine xup_ind fun j hj ih=>?_
  by_cases h:j < s.length
  · have h1:=ig1_sp s[j]
    rw[List.drop_eq_getElem_cons h]
    by_cases hr:Gd s[j]
    · obtain⟨x,hx1,hx⟩:=ih h
      refine⟨x,by rw[hx1,List.all_cons,decide_eq_true hr,Bool.true_and],fun r hh=>?_⟩
      rw[u_intrinsic_Good_l6]
      rw[decide_eq_true hr]at h1
      simp (disch:=first | omega | (simp only[ln0];omega)) only[rs,reduceIte,Nat.reduceAdd,h,szs,xcall_of h1,Bool.not_true,Bool.false_eq_true]
      repeat rw[br_neg (by simp)]
      exact hx r hh
    · refine⟨j,by rw[List.all_cons,decide_eq_false hr,Bool.false_and];exact decide_eq_true (by omega),fun r hh=>?_⟩
      rw[u_intrinsic_Good_l6]
      rw[decide_eq_false hr]at h1
      simp (disch:=first | omega | (simp only[ln0];omega)) only[rs,reduceIte,Nat.reduceAdd,h,szs,xcall_of h1,Bool.not_false]
      exact hh
  · refine⟨-1,by rw[List.drop_of_length_le (by omega)];rfl,fun r hh=>?_⟩
    rw[u_intrinsic_Good_l6]
    simp (disch:=first | omega | (simp only[ln0];omega)) only[rs,reduceIte,Nat.reduceAdd,h]
    exact hh
 have h5:∀x:Int,∀j,j≤a.length→∃y:Int,(decide (0≤y)= !(a.drop j).all lenB)∧∀r,Run tr intrinsic_Good_j4 [rowOf eSz s,ints a,rowOf eWn ws,I mode,I x,I y] [.join intrinsic_Good_j0 [rowOf eSz s,ints a,rowOf eWn ws,I mode]] r→Run tr intrinsic_Good_l5 [rowOf eSz s,ints a,rowOf eWn ws,I mode,I x,I j] [.join intrinsic_Good_j0 [rowOf eSz s,ints a,rowOf eWn ws,I mode],.join intrinsic_Good_j4 [rowOf eSz s,ints a,rowOf eWn ws,I mode,I x],.loop intrinsic_Good_l5 [rowOf eSz s,ints a,rowOf eWn ws,I mode,I x]] r:=by
  intro x
  refine xup_ind fun j hj ih=>?_
  by_cases h:j < a.length
  · have h1:=fg2_sp a[j]
    rw[List.drop_eq_getElem_cons h]
    cases hr:lenB a[j]with
    | true=>
     obtain⟨y,hx1,hx⟩:=ih h
     refine⟨y,by rw[hx1,List.all_cons,hr,Bool.true_and],fun r hh=>?_⟩
     rw[u_intrinsic_Good_l5]
     rw[hr]at h1
     simp (disch:=first | omega | (simp only[ln0];omega)) only[rs,reduceIte,Nat.reduceAdd,h,xcall_of h1,Bool.not_true,Bool.false_eq_true]
     repeat rw[br_neg (by simp)]
     exact hx r hh
    | false=>
     refine⟨j,by rw[List.all_cons,hr,Bool.false_and];exact decide_eq_true (by omega),fun r hh=>?_⟩
     rw[u_intrinsic_Good_l5]
     rw[hr]at h1
     simp (disch:=first | omega | (simp only[ln0];omega)) only[rs,reduceIte,Nat.reduceAdd,h,xcall_of h1,Bool.not_false]
     exact hh
  · refine⟨-1,by rw[List.drop_of_length_le (by omega)];rfl,fun r hh=>?_⟩
    rw[u_intrinsic_Good_l5]
    simp (disch:=first | omega | (simp only[ln0];omega)) only[rs,reduceIte,Nat.reduceAdd,h]
    exact hh
 obtain⟨x,hx1,hx⟩:=h6 0 (Nat.zero_le _)
 rw[List.drop_zero]at hx1
 refine hx _ ?_
 rw[u_intrinsic_Good_j3]
 simp (disch:=first | omega | (simp only[ln0];omega)) only[rs,reduceIte,Nat.reduceAdd,ge_iff_le]
 by_cases hx0:0≤x
 · rw[br_pos hx0]
   refine hbad ?_
   rw[decide_eq_true hx0]at hx1
   have:s.all (fun x=>decide (Gd x))=false:=by simpa using hx1.symm
   rw[hgo,this]
   rfl
 · rw[br_neg hx0]
   rw[decide_eq_false hx0]at hx1
   have hsall:s.all (fun x=>decide (Gd x))=true:=by
    cases hq:s.all (fun x=>decide (Gd x))with
    | true=>rfl
    | false=>rw[hq]at hx1;cases hx1
   obtain⟨y,hy1,hy⟩:=h5 x 0 (Nat.zero_le _)
   rw[List.drop_zero]at hy1
   refine hy _ ?_
   rw[u_intrinsic_Good_j4]
   simp (disch:=first | omega | (simp only[ln0];omega)) only[rs,reduceIte,Nat.reduceAdd,ge_iff_le]
   rw[hy1]
   cases hq:a.all lenB with
   | false=>exact hbad (by rw[hgo,hq];simp)
   | true=>exact igw_run s a ws mode hw _ (by rw[hgo,hsall,hq];simp)
end Go.Proofs.YtckjdlmfibjpaaaGreat.T

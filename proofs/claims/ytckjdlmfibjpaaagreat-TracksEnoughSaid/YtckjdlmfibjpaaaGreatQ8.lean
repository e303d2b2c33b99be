/- Plain laws that the claim needs (texts joined to one). No condition. -/
import Derived.Test.YtckjdlmfibjpaaaGreatT
import Derived.Test.YtckjdlmfibjpaaaGreatQ5
set_option linter.unusedVariables false
set_option linter.unusedSimpArgs false
set_option maxRecDepth 100000
namespace Go.Proofs.YtckjdlmfibjpaaaGreat.T
open Go Go.Proofs.YtckjdlmfibjpaaaGreat.Sx Go.Proofs.YtckjdlmfibjpaaaGreat.M
def sumR (l:List Int) (f n:Nat):Int:=tot ((l.drop f).take n)
theorem tot_set:∀ (l:List Int) (i:Nat) (y:Int) (h:i < l.length),tot (l.set i y)=tot l+y - l[i]
 | x::l,0,y,h=>by simp[tot];omega
 | x::l,i+1,y,h=>by
  have:=tot_set l i y (by simpa using h)
  simp only[List.set_cons_succ,tot,this,List.getElem_cons_succ]
  omega
theorem sumR_set {l:List Int} {f n i:Nat} (y:Int) (h1:f≤i) (h2:i < f+n) (h3:i < l.length):sumR (l.set i y) f n=sumR l f n+y - l[i]:=by
 unfold sumR
 have e:((l.set i y).drop f).take n=((l.drop f).take n).set (i - f) y:=by
  apply List.ext_getElem?
  intro j
  simp only[List.getElem?_take,List.getElem?_drop,List.getElem?_set,List.length_take,List.length_drop]
  by_cases hj:j < n
  · rw[if_pos hj]
    by_cases hij:i=f+j
    · have:i - f=j:=by omega
      rw[if_pos hij,if_pos this,if_pos (by omega),if_pos (by omega)]
    · have:¬i - f=j:=by omega
      rw[if_neg hij,if_neg this,if_pos hj]
  · rw[if_neg hj]
    have:¬i - f=j:=by omega
    rw[if_neg this,if_neg hj]
 have hl:i - f < ((l.drop f).take n).length:=by simp;omega
 rw[e,tot_set _ _ _ hl]
 have:((l.drop f).take n)[i - f]=l[i]:=by simp[show f+(i - f)=i by omega]
 rw[this]
theorem outU_sum:∀ (who:List Nat) (xs z:List Int) (f n:Nat),who.Nodup→xs.length=who.length→(∀x∈xs,0≤x)→(∀j∈who,f≤j∧j < f+n∧j < z.length∧z.getD j 0=0)→sumR (outU who xs z) f n=sumR z f n+tot xs
 | [],[],z,f,n,_,_,_,_=>by cases z <;> simp[outU,tot]
 | j::who,x::xs,z,f,n,hn,hl,hx,hz=>by
  rw[List.nodup_cons]at hn
  obtain⟨h1,h2,h3,h4⟩:=hz j (by simp)
  have hx0:=hx x (by simp)
  simp only[outU,tot]
  rw[outU_sum who xs _ f n hn.2 (by simpa using hl) (fun y hy=>hx y (by simp[hy])) (fun k hk=>?_),sumR_set _ h1 h2 h3]
  · have e:z[j]=0:=by simpa [List.getD_eq_getElem?_getD,h3]using h4
    rw[h4,e]
    omega
  · obtain⟨k1,k2,k3,k4⟩:=hz k (by simp[hk])
    have hjk:¬j=k:=fun hh=>hn.1 (by rw[hh];exact hk)
    refine⟨k1,k2,by simpa using k3,?_⟩
    simpa [List.getD_eq_getElem?_getD,List.getElem?_set,hjk]using k4
 | [],_::_,_,_,_,_,hl,_,_=>by simp at hl
 | _::_,[],_,_,_,_,hl,_,_=>by simp at hl
theorem tot_le:∀ (a b:List Int),a.length=b.length→(∀i (h:i < a.length) (h':i < b.length),a[i]≤b[i])→tot a≤tot b
 | [],[],_,_=>Int.le_refl _
 | x::a,y::b,hl,h=>by
  have h0:=h 0 (by simp) (by simp)
  have:=tot_le a b (by simpa using hl) (fun i h1 h2=>by have:=h (i+1) (by simpa using h1) (by simpa using h2);simpa using this)
  simp only[tot]
  simp at h0
  omega
 | [],_::_,hl,_=>by simp at hl
 | _::_,[],hl,_=>by simp at hl
theorem sumR_le {a b:List Int} (hl:a.length=b.length) (h:∀i,i < a.length→a.getD i 0≤b.getD i 0) (f n:Nat):sumR a f n≤sumR b f n:=by
 unfold sumR
 refine tot_le _ _ (by simp[hl]) (fun i h1 h2=>?_)
 have hi:f+i < a.length:=by simp at h1;omega
 have hi':f+i < b.length:=by omega
 have:=h (f+i) hi
 simp only[List.getElem_take,List.getElem_drop]
 simpa [List.getD_eq_getElem?_getD,hi,hi']using this
def baseW (s:List Sz) (w:Wn):Int:=sumZ ownB ((s.drop w.fm.toNat).take (w.to.toNat - w.fm.toNat))
theorem sumZ_tot:∀ (l:List Sz),sumZ ownB l=tot (l.map ownB)
 | []=>rfl
 | x::l=>by simp only[sumZ,List.map_cons,tot,sumZ_tot l]
theorem baseW_tot (s:List Sz) (w:Wn):baseW s w=sumR (s.map ownB) w.fm.toNat (w.to.toNat - w.fm.toNat):=by
 unfold baseW sumR
 rw[sumZ_tot,List.map_take,List.map_drop]
theorem baseW_up {s s':List Sz} (h:Up s s') (w:Wn):baseW s w≤baseW s' w:=by
 rw[baseW_tot,baseW_tot]
 refine sumR_le (by simp[h.1]) (fun i hi=>?_) _ _
 have hi1:i < s.length:=by simpa using hi
 have hi2:i < s'.length:=by rw[h.1];exact hi1
 have:=(h.2 i hi1 hi2).2.2.2.2.2.1
 simpa [List.getD_eq_getElem?_getD,hi1,hi2,ownB]using this
theorem sumR_add {a b c:List Int} (hb:b.length=a.length) (hc:c.length=a.length) (h:∀i,i < a.length→c.getD i 0=a.getD i 0+b.getD i 0) (f n:Nat):sumR c f n=sumR a f n+sumR b f n:=by
 have key:∀ (a b c:List Int),b.length=a.length→c.length=a.length→(∀i,i < a.length→c.getD i 0=a.getD i 0+b.getD i 0)→tot c=tot a+tot b:=by
  intro a
  induction a with
  | nil=>intro b c hb hc _;rw[List.length_nil]at hb hc;rw[List.length_eq_zero_iff.1 hb,List.length_eq_zero_iff.1 hc];rfl
  | cons x a ih=>
   intro b c hb hc h
   cases b with
   | nil=>simp at hb
   | cons y b=>
    cases c with
    | nil=>simp at hc
    | cons z c=>
     have h0:=h 0 (by simp)
     have:=ih b c (by simpa using hb) (by simpa using hc) (fun i hi=>by have:=h (i+1) (by simpa using hi);simpa using this)
     simp only[tot]
     simp at h0
     omega
 unfold sumR
 refine key _ _ _ (by simp[hb]) (by simp[hc]) (fun i hi=>?_)
 have hi':i < n∧f+i < a.length:=by simp at hi;omega
 have:=h (f+i) hi'.2
 simpa [List.getD_eq_getElem?_getD,List.getElem?_take,hi'.1,List.getElem?_drop]using this
section
variable {s:List Sz} {a:List Int} {ws:List Wn}
theorem addS_sum (hb:∀x∈s,Bd x) {l:List Int} (hl:l.length=s.length) (hg:Gv s ownB l) (w:Wn):baseW (addS s l) w=baseW s w+sumR l w.fm.toNat (w.to.toNat - w.fm.toNat):=by
 rw[baseW_tot,baseW_tot]
 refine sumR_add (by simp[hl]) (by simp[addS_len]) (fun i hi=>?_) _ _
 have hi1:i < s.length:=by simpa using hi
 have hi2:i < l.length:=by omega
 have hi3:i < (addS s l).length:=by rw[addS_len];exact hi1
 have h1:=hb _ (List.getElem_mem hi1)
 have h2:=hg i hi2
 rw[atS_lt hi1]at h2
 unfold ownB at h2
 unfold Bd at h1
 have e:=addS_at s l hl i hi1
 have e1:((addS s l).map ownB).getD i 0=ownB (addS s l)[i]:=by simp[List.getD_eq_getElem?_getD,hi3]
 have e2:(s.map ownB).getD i 0=ownB s[i]:=by simp[List.getD_eq_getElem?_getD,hi1]
 have e3:l.getD i 0=l[i]:=by simp[List.getD_eq_getElem?_getD,hi2]
 rw[e1,e2,e3,e]
 show IntKind.i64.wrap (s[i].base+l[i])=s[i].base+l[i]
 exact wrap_in (by omega) (by omega)
theorem give_enough (h:Fit s a ws) (hb:∀x∈s,Bd x) {wanted:Wn→Int} (hwt:WnIn ws wanted) {of:Nat→Bool} {far:Nat→Bool} {w:Wn} (hw:w∈ws) (hof:∃i,w.fm.toNat≤i∧i < w.to.toNat∧of i=true) :
    wanted w≤baseW s w+sumR (giveS s a wanted ownB of (shareF (roomB s) far) ws (List.replicate s.length 0)) w.fm.toNat (w.to.toNat - w.fm.toNat)+gapsI a w:=by
 obtain⟨i0,i1,i2⟩:=h.hi w hw
 have h0:∀x∈List.replicate s.length (0:Int),0≤x:=fun x hx=>by rw[List.eq_of_mem_replicate hx];exact Int.le_refl _
 have hge:sumR (oneS s a wanted ownB of (shareF (roomB s) far) w (List.replicate s.length 0)) w.fm.toNat (w.to.toNat - w.fm.toNat)≤sumR (giveS s a wanted ownB of (shareF (roomB s) far) ws (List.replicate s.length 0)) w.fm.toNat (w.to.toNat - w.fm.toNat):=by
  refine sumR_le (by rw[oneS_len,giveS_len]) (fun i hi=>?_) _ _
  rw[oneS_len]at hi
  rw[giveS_max ws h0 i hi]
  have:=(fmax_char (fun w=>(oneS s a wanted ownB of (shareF (roomB s) far) w (List.replicate (List.replicate s.length (0:Int)).length 0)).getD i 0) ws ((List.replicate s.length (0:Int)).getD i 0)).2.1 w hw
  simpa using this
 have hzs:sumR (List.replicate s.length (0:Int)) w.fm.toNat (w.to.toNat - w.fm.toNat)=0:=by
  unfold sumR
  have:∀ (l:List Int),(∀x∈l,x=0)→tot l=0:=by
   intro l
   induction l with
   | nil=>intro _;rfl
   | cons x l ih=>intro hx;simp only[tot];rw[hx x (by simp),ih (fun y hy=>hx y (by simp[hy]))];rfl
  exact this _ (fun x hx=>List.eq_of_mem_replicate (List.mem_of_mem_drop (List.mem_of_mem_take hx)))
 have hsp:=space_eq h (ownB_in hb) hwt hw
 have hbw:sumZ ownB ((s.drop w.fm.toNat).take (w.to.toNat - w.fm.toNat))=baseW s w:=rfl
 rw[hbw]at hsp
 by_cases hc:wanted w - gapsI a w - baseW s w≤0
 · have hnn:0≤sumR (oneS s a wanted ownB of (shareF (roomB s) far) w (List.replicate s.length 0)) w.fm.toNat (w.to.toNat - w.fm.toNat):=by
    unfold sumR
    exact tot_nonneg (fun x hx=>oneS_nn' h0 x (List.mem_of_mem_drop (List.mem_of_mem_take hx)))
   omega
 · obtain⟨i,hi1,hi2,hi3⟩:=hof
   have hmem:i∈whoU of (w.to.toNat - w.fm.toNat) w.fm.toNat:=by
    have key:∀ (c f:Nat),f≤i→i < f+c→i∈whoU of c f:=by
     intro c
     induction c with
     | zero=>intro f h1 h2;omega
     | succ c ih=>
      intro f h1 h2
      simp only[whoU]
      by_cases hif:i=f
      · subst hif
        rw[if_pos hi3]
        simp
      · have:=ih (f+1) (by omega) (by omega)
        split
        · simp[this]
        · exact this
    exact key _ _ hi1 (by omega)
   have hin:=whoU_in of (w.to.toNat - w.fm.toNat) w.fm.toNat
   have hnd:=tU_nodup of (w.to.toNat - w.fm.toNat) w.fm.toNat
   have hwl:=whoU_len of (w.to.toNat - w.fm.toNat) w.fm.toNat
   have hs:=h.hs
   have hwi:=hwt w hw
   have hgp:=gaps_in h w
   have hbn:0≤baseW s w:=by
    rw[baseW_tot]
    unfold sumR
    refine tot_nonneg (fun x hx=>?_)
    have hx':=List.mem_of_mem_drop (List.mem_of_mem_take hx)
    rw[List.mem_map]at hx'
    obtain⟨y,hy,rfl⟩:=hx'
    exact(ownB_in hb y hy).1
   have e1:oneS s a wanted ownB of (shareF (roomB s) far) w (List.replicate s.length 0)=outU (whoU of (w.to.toNat - w.fm.toNat) w.fm.toNat) (shareF (roomB s) far (wanted w - gapsI a w - baseW s w) (whoU of (w.to.toNat - w.fm.toNat) w.fm.toNat)) (List.replicate s.length 0):=by
    simp only[oneS]
    rw[hsp,if_neg]
    rintro(hh | hh)
    · exact hc hh
    · rw[List.length_eq_zero_iff.1 hh]at hmem
      simp at hmem
   generalize whoU of (w.to.toNat - w.fm.toNat) w.fm.toNat=who at *
   have hS0:0≤wanted w - gapsI a w - baseW s w:=by omega
   have hS1:wanted w - gapsI a w - baseW s w < 1125899906842624:=by omega
   generalize hSe:wanted w - gapsI a w - baseW s w=S at *
   have hsh:=shareF_in (roomB s) far S who hS0
   have htot:tot (shareF (roomB s) far S who)=S:=by
    unfold shareF
    have hu:UpOk S (who.map (roomB s)):=by
     refine⟨hS0,hS1,by simp;omega,fun r hr=>?_⟩
     rw[List.mem_map]at hr
     obtain⟨j,hj,rfl⟩:=hr
     have hjs:j < s.length:=by have:=hin j hj;omega
     have hbj:=hb _ (List.getElem_mem hjs)
     unfold Bd at hbj
     unfold roomB limit
     rw[atS_lt hjs]
     split
     · rw[wrap_in (by omega) (by omega)];omega
     · rw[wrap_in (by omega) (by omega)];omega
    refine(fill_tot hu (by simp)).2.2 ?_
    rw[←idx_pos]
    unfold anyB
    rw[List.any_eq_true]
    by_cases hf:who.any far=true
    · rw[List.any_eq_true]at hf
      obtain⟨j,hj,hfj⟩:=hf
      exact⟨true,by rw[List.mem_map];exact⟨j,hj,by simp[hfj]⟩,rfl⟩
    · rw[Bool.not_eq_true]at hf
      exact⟨true,by rw[List.mem_map];exact⟨i,hmem,by simp[hf]⟩,rfl⟩
   have hsum:=outU_sum who (shareF (roomB s) far S who) (List.replicate s.length 0) w.fm.toNat (w.to.toNat - w.fm.toNat) hnd hsh.1 (fun x hx=>(hsh.2 x hx).1) (fun j hj=>by
    have:=hin j hj
    exact⟨this.1,this.2.1,by simp;omega,zero_getD _ _⟩)
   rw[e1,hsum,hzs,htot]at hge
   omega
end
def growW (s:List Sz) (w:Wn):Prop:=∃i,w.fm.toNat≤i∧i < w.to.toNat∧of1 (atS s i)=true
theorem growW_up {s s':List Sz} (h:Up s s') {w:Wn} (hi:InW s.length w):growW s w→growW s' w:=by
 rintro⟨i,h1,h2,h3⟩
 obtain⟨i0,i1,i2⟩:=hi
 have hi1:i < s.length:=by omega
 have hi2:i < s'.length:=by rw[h.1];exact hi1
 refine⟨i,h1,h2,?_⟩
 rw[atS_lt hi1]at h3
 rw[atS_lt hi2]
 have:=(h.2 i hi1 hi2).1
 simpa [of1,this]using h3
theorem wanted1_least (s:List Sz) (a:List Int) (f:Bool) (w:Wn):w.least≤wanted1 s a f w:=by
 unfold wanted1 limI'
 split
 · have key : ∀ (l : List Sz) (most:Int),w.least≤limG w w.mn l most:=by
    intro l
    induction l with
    | nil=>intro most;simp only[limG];omega
    | cons x l ih => intro most;simp only[limG];split
                     · omega
                     · exact ih _
   exact key _ _
 · exact Int.le_refl _
section
variable {s:List Sz} {a:List Int} {ws:List Wn}
theorem rd1_enough (h:Fit s a ws) (hb:∀x∈s,Bd x) (f:Bool) {w:Wn} (hw:w∈ws) (hg:growW s w):w.least≤baseW (rd1 s a ws f) w+gapsI a w:=by
 have h1:=give_enough h hb (wanted1_in h s a f) (of:=fun i=>of1 (atS s i)) (far:=fun i=>looseB (atS s i)) hw hg
 have h2:=wanted1_least s a f w
 have h3:baseW (rd1 s a ws f) w=_:=addS_sum hb (by rw[giveS_len];simp) (giveB_gv h hb (wanted1_in h s a f) (fun i=>of1 (atS s i)) (shareF_in (roomB s) fun i=>looseB (atS s i))) w
 rw[h3]
 omega
theorem several_from (h:Fit s a ws) (hb:∀x∈s,Bd x) (f m:Bool):Up (rd1 s a ws f) (severalS s a ws f m):=by
 have u1:=rd1_up h hb f
 have h1:=h.of u1.1
 have u2:=rd2_up h1 u1.bd
 have u3:=rd3_up (h1.of u2.1) u2.bd m
 have u123:=(u2.trans u3).trans (raise_up u3.bd)
 have e:(rd3 (rd2 (rd1 s a ws f) a ws) a ws m).map raise1=bases3 s a ws f m:=rfl
 rw[e]at u123
 have u:=bases3_up h hb f m
 have u4:=lm4_up (h.of u.1) u.bd
 have u5:=lm5_up ((h.of u.1).of u4.1) u4.bd (hadS (bases3 s a ws f m) (fun i=>looseB (atS (bases3 s a ws f m) i)) ws (List.replicate s.length false))
 exact((u123.trans u4).trans u5).trans (fit_up u5.bd)
end
theorem spans_enough {a:List Int} {ws:List Wn} (f m:Bool) (g:Int→List Wn) (hg:∀n,∀w∈g n,w∈ws) {w:Wn} {n:Int} (hw:w∈g n):∀ (l:List Int) {s:List Sz},n∈l→Fit s a ws→(∀x∈s,Bd x)→growW s w→w.least≤baseW (spansS a f m g l s) w+gapsI a w
 | [],s,hn,_,_,_=>by simp at hn
 | k ::l,s,hn,h,hb,hgr=>by
  have u:=several_up (h.sub (hg k)) hb f m
  have hin:InW s.length w:=h.hi w (hg n w hw)
  simp only[spansS]
  by_cases hk:n=k
  · subst hk
    have e1:=rd1_enough (h.sub (hg n)) hb f hw hgr
    have e2:=baseW_up (several_from (h.sub (hg n)) hb f m) w
    have e3:=baseW_up (spans_up f m g hg l (h.of u.1) u.bd) w
    omega
  · have hn':n∈l:=by
     rcases List.mem_cons.1 hn with h' | h'
     · exact absurd h' hk
     · exact h'
    exact spans_enough f m g hg hw l hn' (h.of u.1) u.bd (growW_up u hin hgr)
theorem alone_enough {s:List Sz} {a:List Int} {ws:List Wn} (h:Fit s a ws) (hb:∀x∈s,Bd x) (f:Bool) {w:Wn} (hw:w∈ws) (h1:w.to=w.fm+1) (hgd:Gd (atS s w.fm.toNat)) (hg:growW s w) (hf:¬ (atS s w.fm.toNat).mx=5) (ho:w.least≤w.mn∧w.mn≤w.mx):w.least≤baseW (aloneS s a ws f) w+gapsI a w:=by
 obtain⟨i0,i1,i2⟩:=h.hi w hw
 obtain⟨j,hj1,hj2,hj3⟩:=hg
 have hj:j=w.fm.toNat:=by omega
 subst hj
 have hi:w.fm.toNat < s.length:=by omega
 have hgp:=(gaps_in h w).1
 have l1:=topS_len s a f ws (List.replicate s.length ⟨0,0,0⟩,List.replicate s.length false)
 have hm:=topS_max (s:=s) (a:=a) (f:=f) ws (List.replicate s.length ⟨0,0,0⟩,List.replicate s.length false) w.fm.toNat (fun v hv=>(h.hi v hv).1) (by simpa using hi) (by simpa using hi) (by rw[l1.1,List.length_replicate];exact hi) (by rw[l1.2,List.length_replicate];exact hi)
 simp only[List.length_replicate]at l1
 have e:(aloneS s a ws f)[w.fm.toNat]'(by rw[aloneS_len];exact hi)=_:=alS_at s _ _ l1.1 l1.2 w.fm.toNat hi
 have hal:alB w w.fm.toNat=true:=by unfold alB;exact decide_eq_true ⟨by omega,by omega⟩
 have hmem:w∈ws.filter (alB · w.fm.toNat):=List.mem_filter.2 ⟨hw,hal⟩
 have hany:ws.any (alB · w.fm.toNat)=true:=List.any_eq_true.2 ⟨w,hw,hal⟩
 obtain⟨hm1,hm2⟩:=hm
 rw[hany,Bool.or_true]at hm2
 rw[hm1,hm2]at e
 have ha:=(fmax_char (wanted1 s a f) (ws.filter (alB · w.fm.toNat)) ((List.replicate s.length (⟨0,0,0⟩:Tp))[w.fm.toNat]'(by simpa using hi)).a).2.1 w hmem
 have hb2:=(fmax_char (fun w=>w.mn) (ws.filter (alB · w.fm.toNat)) ((List.replicate s.length (⟨0,0,0⟩:Tp))[w.fm.toNat]'(by simpa using hi)).b).2.1 w hmem
 have hc:=(fmax_char (fun w=>w.mx) (ws.filter (alB · w.fm.toNat)) ((List.replicate s.length (⟨0,0,0⟩:Tp))[w.fm.toNat]'(by simpa using hi)).c).2.1 w hmem
 generalize fmax (wanted1 s a f) (ws.filter (alB · w.fm.toNat)) ((List.replicate s.length (⟨0,0,0⟩:Tp))[w.fm.toNat]'(by simpa using hi)).a=A at *
 generalize fmax (fun w=>w.mn) (ws.filter (alB · w.fm.toNat)) ((List.replicate s.length (⟨0,0,0⟩:Tp))[w.fm.toNat]'(by simpa using hi)).b=Bv at *
 generalize fmax (fun w=>w.mx) (ws.filter (alB · w.fm.toNat)) ((List.replicate s.length (⟨0,0,0⟩:Tp))[w.fm.toNat]'(by simpa using hi)).c=Cv at *
 have hle:=wanted1_least s a f w
 rw[atS_lt hi]at hgd hf hj3
 have hbw:baseW (aloneS s a ws f) w=((aloneS s a ws f)[w.fm.toNat]'(by rw[aloneS_len];exact hi)).base:=by
  unfold baseW
  have hl:(aloneS s a ws f).length=s.length:=aloneS_len s a ws f
  rw[show w.to.toNat - w.fm.toNat=0+1 by omega,List.drop_eq_getElem_cons (by omega),List.take_succ_cons]
  simp[sumZ,ownB]
 rw[hbw,e]
 unfold alone1
 rw[if_neg (by simp[hf])]
 show _≤(if s[w.fm.toNat].mn=2 then _ else if s[w.fm.toNat].mn=3 then _ else if s[w.fm.toNat].mn=4 then _ else _)+_
 simp only[of1,decide_eq_true_eq]at hj3
 unfold Gd at hgd
 by_cases c2:s[w.fm.toNat].mn=2
 · rw[if_pos c2];simp only;omega
 · rw[if_neg c2]
   by_cases c3:s[w.fm.toNat].mn=3
   · rw[if_pos c3];simp only at hb2 ⊢;omega
   · rw[if_neg c3,if_pos (by omega)];simp only at hc ⊢;omega
theorem size_enough {s:List Sz} {a:List Int} {ws:List Wn} {mode:Int} (hgood:goodI s a ws mode=true) (hs:s.length≤60) (f m:Bool) {w:Wn} (hw:w∈ws) (hg:growW s w) (hf:flexW s w=false) (ho:w.least≤w.mn∧w.mn≤w.mx):w.least≤baseW (sizeS s a ws f m) w+gapsI a w:=by
 obtain⟨h,hb⟩:=good_fit hgood hs
 obtain⟨i0,i1,i2⟩:=h.hi w hw
 have u1:=alone_up h hb f
 have u2:=spans_up f m (grp s ws) (fun n w hw=>(grp_in hw).1) (spanL s ws) (h.of u1.1) u1.bd
 have u3:=flexS_up ((h.sub (ws':=ws.filter (flexW s)) (fun w hw=>(List.mem_filter.1 hw).1)).of (by rw[u2.1,u1.1])) u2.bd f m
 have e3:=baseW_up u3 w
 by_cases h1:w.to=w.fm+1
 · have hi:w.fm.toNat < s.length:=by omega
   have hgd:Gd (atS s w.fm.toNat):=by
    rw[atS_lt hi]
    simp only[goodI,Bool.and_eq_true,decide_eq_true_eq,List.all_eq_true]at hgood
    exact hgood.1.1.2 _ (List.getElem_mem hi)
   have hfr:¬ (atS s w.fm.toNat).mx=5:=by
    intro hh
    have hm:=cut_mem (s:=s) (f:=w.fm.toNat) (t:=w.to.toNat) (Nat.le_refl _) (by omega) hi
    have:flexW s w=true:=by
     unfold flexW
     rw[List.any_eq_true]
     exact⟨_,hm,by simp[isFr,hh]⟩
    rw[this]at hf
    cases hf
   have e1:=alone_enough h hb f hw h1 hgd hg hfr ho
   have e2:=baseW_up u2 w
   unfold sizeS
   omega
 · have hin:w∈grp s ws (w.to - w.fm):=by
    unfold grp
    rw[List.mem_filter]
    refine⟨hw,?_⟩
    have c1:decide (1 < w.to - w.fm)=true:=decide_eq_true (by omega)
    simp[hf,c1]
   have hsp:(w.to - w.fm)∈spanL s ws:=(mem_spanL h.hi _).2 (List.ne_nil_of_mem hin)
   have e1:=spans_enough f m (grp s ws) (fun n w hw=>(grp_in hw).1) hin (spanL s ws) hsp (h.of u1.1) u1.bd (growW_up u1 (h.hi w hw) hg)
   unfold sizeS
   omega
end Go.Proofs.YtckjdlmfibjpaaaGreat.T

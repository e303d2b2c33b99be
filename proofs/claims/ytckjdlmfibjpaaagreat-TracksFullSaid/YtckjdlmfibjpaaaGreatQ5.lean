/- Plain laws that the claim needs (texts joined to one). No condition. -/
import Derived.Test.YtckjdlmfibjpaaaGreatT
import Derived.Test.YtckjdlmfibjpaaaGreatQ4
import Derived.Test.YtckjdlmfibjpaaaGreatQ1
import Derived.Test.YtckjdlmfibjpaaaGreatQ2
set_option linter.unusedVariables false
set_option linter.unusedSimpArgs false
set_option maxRecDepth 100000
namespace Go.Proofs.YtckjdlmfibjpaaaGreat.T
open Go Go.Proofs.YtckjdlmfibjpaaaGreat.Sx Go.Proofs.YtckjdlmfibjpaaaGreat.M
theorem mem_le_tot {l:List Int} (h:∀x∈l,0≤x):∀y∈l,y≤tot l:=by
 intro y hy
 obtain⟨i,hi,rfl⟩:=List.mem_iff_getElem.1 hy
 have h1:=tot_at h i hi
 have h2:=tot_take_drop l i
 have h3:0≤tot (l.take i):=tot_nonneg (fun x hx=>h x (List.mem_of_mem_take hx))
 omega
theorem addp_nonneg:∀ (os:List Int) (bs:List Bool) (ys:List Int),(∀x∈os,0≤x)→(∀y∈ys,0≤y)→∀x∈addp os bs ys,0≤x
 | [],[],_,_,_=>by simp[addp]
 | [],_::_,_,_,_=>by simp[addp]
 | o::os,[],_,h,_=>by simpa [addp]using h
 | o::os,true::bs,y::ys,h,hy=>by
  intro x hx
  simp only[addp,List.mem_cons]at hx
  rcases hx with rfl | hx
  · have:=h o (by simp);have:=hy y (by simp);omega
  · exact addp_nonneg os bs ys (fun z hz=>h z (by simp[hz])) (fun z hz=>hy z (by simp[hz])) x hx
 | o::os,true::bs,[],h,hy=>by
  intro x hx
  simp only[addp,List.mem_cons]at hx
  rcases hx with rfl | hx
  · exact h _ (by simp)
  · exact addp_nonneg os bs [] (fun z hz=>h z (by simp[hz])) hy x hx
 | o::os,false::bs,ys,h,hy=>by
  intro x hx
  simp only[addp,List.mem_cons]at hx
  rcases hx with rfl | hx
  · exact h _ (by simp)
  · exact addp_nonneg os bs ys (fun z hz=>h z (by simp[hz])) hy x hx
theorem fill_tot {S:Int} {room:List Int} {bey:List Bool} (hu:UpOk S room) (hb:bey.length=room.length) :
    (∀x∈fillS S room bey,0≤x)∧tot (fillS S room bey)≤S∧(0 < (idx bey).length→tot (fillS S room bey)=S):=by
 obtain⟨_,h2⟩:=up_sp S room hu
 have hul:=isup_length h2
 obtain⟨h00,h01,h02⟩:=left_in hu h2
 have e:fillS S room bey=addp (upS S room) bey (splitS (S - tot (upS S room)) (idx bey).length):=by unfold fillS;rw[if_pos ⟨hu,hb⟩]
 rw[e]
 have hix:=idx_le bey
 have hm:=hu.2.2.1
 refine⟨addp_nonneg _ _ _ h00 (fun y hy=>(splitS_in y hy).1),?_,?_⟩
 · by_cases hp:1≤(idx bey).length
   · obtain⟨s1,s2⟩:=split_tot (n:=S - tot (upS S room)) (p:=(idx bey).length) (by omega) hp (by omega)
     rw[tot_addp _ _ _ (by omega) s1,s2]
     omega
   · have:(idx bey).length=0:=by omega
     have h0:splitS (S - tot (upS S room)) ((idx bey).length:Int)=[]:=by unfold splitS;rw[if_pos (by omega)]
     rw[h0,addp_nil]
     exact h02
 · intro hp
   obtain⟨s1,s2⟩:=split_tot (n:=S - tot (upS S room)) (p:=(idx bey).length) (by omega) hp (by omega)
   rw[tot_addp _ _ _ (by omega) s1,s2]
   omega
theorem fill_in {S:Int} (hS:0≤S) (room:List Int) (bey:List Bool):∀y∈fillS S room bey,0≤y∧y≤S:=by
 intro y hy
 by_cases hc:UpOk S room∧bey.length=room.length
 · obtain⟨h1,h2,_⟩:=fill_tot hc.1 hc.2
   have:=mem_le_tot h1 y hy
   exact⟨h1 y hy,by omega⟩
 · unfold fillS at hy
   rw[if_neg hc]at hy
   have:=List.eq_of_mem_replicate hy
   omega
theorem md_mono {n s s' all:Int} (hn:0≤n∧n≤68719476736) (hs:0≤s) (hss:s≤s') (hs':s'≤all) (ha:0 < all):(md n s all).1≤(md n s' all).1:=by
 have hq:n*s' / all≤n:=by
  have:n*s'≤n*all:=Int.mul_le_mul_of_nonneg_left hs' hn.1
  exact Int.ediv_le_of_le_mul ha this
 have hq2:n*s / all≤n:=by
  have:n*s≤n*all:=Int.mul_le_mul_of_nonneg_left (by omega) hn.1
  exact Int.ediv_le_of_le_mul ha this
 rw[md_pos hn.1 hs ha (by omega),md_pos hn.1 (by omega) ha (by omega)]
 exact Int.ediv_le_ediv ha (Int.mul_le_mul_of_nonneg_left hss hn.1)
theorem parts_in {n all:Int} (hn:0≤n∧n≤68719476736) (ha:0 < all):∀ (ws:List Int) (was sum:Int),ws.all wgB=true→0≤sum→sum+sumI ws≤all→was=(md n sum all).1→∀y∈partsS n all was sum ws,0≤y∧y≤n
 | [],_,_,_,_,_,_=>by simp[partsS]
 | w::r,was,sum,hw,hs,hle,hwas=>by
  simp only[List.all_cons,Bool.and_eq_true,wgB,decide_eq_true_eq]at hw
  have hr:r.all wgB=true:=hw.2
  have hsi:=sumI_in r hr
  simp only[sumI]at hle
  intro y hy
  simp only[partsS,List.mem_cons]at hy
  have h1:=md_part (s:=sum+w) hn (by omega) ha
  have h2:=md_part (s:=sum) hn (by omega) ha
  have h3:=md_mono (s:=sum) (s':=sum+w) hn hs (by omega) (by omega) ha
  rcases hy with rfl | hy
  · omega
  · exact parts_in hn ha r _ _ hr (by omega) (by omega) rfl y hy
theorem by_in {S:Int} (hS:0≤S) (ws:List Int):∀y∈byS S ws,0≤y∧y≤S:=by
 intro y hy
 unfold byS at hy
 split at hy
 · rename_i hc
   split at hy
   · unfold shareS at hy
     split at hy
     · simp at hy
     · split at hy
       · simp at hy
       · split at hy
         · simp at hy
         · rename_i h1 h2 h3
           have hw:ws.all wgB=true:=by simpa using h2
           have hsi:=sumI_in ws hw
           have hn:0≤min S 68719476736∧min S 68719476736≤68719476736:=by omega
           have:=parts_in hn (by omega) ws 0 0 hw (by omega) (by omega) (by
            rw[md_pos hn.1 (by omega) (by omega) (by simp)]
            simp) y hy
           omega
   · split at hy
     · rename_i h1 h2
       have hp:1≤ws.length:=by
        refine Classical.byContradiction fun hh=>?_
        have:splitS S (ws.length:Int)=[]:=by unfold splitS;rw[if_pos (by omega)]
        rw[this]at h2
        simp at h2
       obtain⟨s1,s2⟩:=split_tot (n:=S) (p:=ws.length) hS hp hc.2.2
       have h0:∀x∈splitS S (ws.length:Int),0≤x:=fun x hx=>(splitS_in x hx).1
       have:=mem_le_tot h0 y hy
       exact⟨h0 y hy,by omega⟩
     · have:=List.eq_of_mem_replicate hy
       omega
 · have:=List.eq_of_mem_replicate hy
   omega
def ShIn (share:Int→List Nat→List Int):Prop:=∀S who,0≤S→(share S who).length=who.length∧∀y∈share S who,0≤y∧y≤S
theorem shareF_in (room:Nat→Int) (far:Nat→Bool):ShIn (shareF room far):=fun S who hS=>⟨by unfold shareF;rw[fillS_length];simp,fill_in hS _ _⟩
theorem shareB_in (s:List Sz):ShIn (shareB s):=fun S who hS=>⟨by unfold shareB;rw[byS_length];simp,by_in hS _⟩
def sumZ (size:Sz→Int):List Sz→Int
 | []=>0
 | x::r=>size x+sumZ size r
theorem spaceS_eq {size:Sz→Int} (l:List Sz):∀ (n:Int),(∀x∈l,0≤size x∧size x≤1125899906842624)→l.length≤60→ -1000000000000000000+1125899906842624*(60 - (l.length:Int))*(-1)≤n→n≤1000000000000000000→spaceS size l n=n - sumZ size l:=by
 induction l with
 | nil=>intro n _ _ _ _;simp[spaceS,sumZ]
 | cons x r ih=>
  intro n h hl h1 h2
  have hx:=h x (by simp)
  simp only[List.length_cons]at h1 hl
  simp only[spaceS,sumZ]
  rw[wrap_in (by omega) (by omega),ih _ (fun y hy=>h y (by simp[hy])) (by omega) (by omega) (by omega)]
  omega
theorem sumZ_at {size:Sz→Int}:∀ {l:List Sz},(∀x∈l,0≤size x)→∀x∈l,size x≤sumZ size l
 | y::r,h,x,hx=>by
  have h0:∀ {l:List Sz},(∀x∈l,0≤size x)→0≤sumZ size l:=by
   intro l
   induction l with
   | nil=>intro _;simp[sumZ]
   | cons z l ih=>intro h;have:=h z (by simp);have:=ih (fun w hw=>h w (by simp[hw]));simp only[sumZ];omega
  have h1:=h y (by simp)
  have h2:=h0 (l:=r) (fun z hz=>h z (by simp[hz]))
  simp only[sumZ]
  rcases List.mem_cons.1 hx with rfl | hx
  · omega
  · have:=sumZ_at (fun z hz=>h z (by simp[hz])) x hx
    omega
theorem gapsW_in:∀ (l:List Int) (n:Int),(∀x∈l,0≤x∧x≤68719476736)→0≤n→n+68719476736*l.length≤9223372036854775807→n≤gapsW l n∧gapsW l n≤n+68719476736*l.length∧gapsW l n=n+tot l
 | [],n,_,_,_=>by simp[gapsW,tot]
 | x::r,n,h,h0,h1=>by
  have hx:=h x (by simp)
  simp only[List.length_cons]at h1
  have:=gapsW_in r (n+x) (fun y hy=>h y (by simp[hy])) (by omega) (by omega)
  simp only[gapsW,tot,List.length_cons]
  rw[wrap_in (by omega) (by omega)]
  omega
structure Fit (s:List Sz) (a:List Int) (ws:List Wn):Prop where
 hs:s.length≤60
 ha:a.length=s.length
 hg:∀x∈a,0≤x∧x≤68719476736
 hi:∀w∈ws,InW s.length w
 hw:∀w∈ws,(0≤w.least∧w.least≤68719476736)∧(0≤w.mn∧w.mn≤68719476736)∧(0≤w.mx∧w.mx≤68719476736)
def Bd (x:Sz):Prop:=0≤x.base∧x.base < 1125899906842624∧0≤x.lim∧x.lim≤1125899906842624∧0≤x.cap∧x.cap≤68719476736
theorem Fit.of {s s':List Sz} {a:List Int} {ws:List Wn} (h:Fit s a ws) (hl:s'.length=s.length):Fit s' a ws:=⟨by rw[hl];exact h.hs,by rw[hl];exact h.ha,h.hg,by rw[hl];exact h.hi,h.hw⟩
theorem Fit.sub {s:List Sz} {a:List Int} {ws ws':List Wn} (h:Fit s a ws) (hl:∀w∈ws',w∈ws):Fit s a ws':=⟨h.hs,h.ha,h.hg,fun w hw=>h.hi w (hl w hw),fun w hw=>h.hw w (hl w hw)⟩
theorem gaps_in {s:List Sz} {a:List Int} {ws:List Wn} (h:Fit s a ws) (w:Wn):0≤gapsI a w∧gapsI a w≤68719476736*60∧gapsI a w=tot ((a.drop (w.fm.toNat+1)).take (w.to.toNat - (w.fm.toNat+1))):=by
 unfold gapsI
 have hl:((a.drop (w.fm.toNat+1)).take (w.to.toNat - (w.fm.toNat+1))).length≤60:=by
  have:=h.hs
  have:=h.ha
  simp
  omega
 have:=gapsW_in ((a.drop (w.fm.toNat+1)).take (w.to.toNat - (w.fm.toNat+1))) 0 (fun x hx=>h.hg x (List.mem_of_mem_drop (List.mem_of_mem_take hx))) (by omega) (by omega)
 omega
theorem limG_in (w:Wn) (n:Int) (h1:0≤w.least∧w.least≤68719476736) (h2:n≤68719476736):∀ (l:List Sz) (most:Int),w.least≤limG w n l most∧limG w n l most≤68719476736
 | [],most=>by simp only[limG];omega
 | x::r,most=>by
  simp only[limG]
  split
  · omega
  · exact limG_in w n h1 h2 r _
def WnIn (ws:List Wn) (wanted:Wn→Int):Prop:=∀w∈ws,0≤wanted w∧wanted w≤68719476736
theorem wanted1_in {s:List Sz} {a:List Int} {ws:List Wn} (h:Fit s a ws) (s':List Sz) (a':List Int) (f:Bool):WnIn ws (wanted1 s' a' f):=by
 intro w hw
 obtain⟨h1,h2,h3⟩:=h.hw w hw
 unfold wanted1 limI'
 split
 · have:=limG_in w w.mn h1 h2.2 ((s'.drop w.fm.toNat).take (w.to.toNat - w.fm.toNat)) (gapsI a' w);omega
 · exact h1
theorem wanted3_in {s:List Sz} {a:List Int} {ws:List Wn} (h:Fit s a ws) (s':List Sz) (a':List Int) (f:Bool):WnIn ws (wanted3 s' a' f):=by
 intro w hw
 obtain⟨h1,h2,h3⟩:=h.hw w hw
 unfold wanted3 limI'
 split
 · have:=limG_in w w.mx h1 h3.2 ((s'.drop w.fm.toNat).take (w.to.toNat - w.fm.toNat)) (gapsI a' w);omega
 · exact h3
theorem mn_in {s:List Sz} {a:List Int} {ws:List Wn} (h:Fit s a ws):WnIn ws (fun w=>w.mn):=fun w hw=>(h.hw w hw).2.1
theorem mx_in {s:List Sz} {a:List Int} {ws:List Wn} (h:Fit s a ws):WnIn ws (fun w=>w.mx):=fun w hw=>(h.hw w hw).2.2
def Gv (s:List Sz) (size:Sz→Int) (out:List Int):Prop:=∀i (h:i < out.length),0≤out[i]∧(out[i]=0∨size (atS s i)+out[i]≤68719476736)
theorem outU_gv (s:List Sz) (size:Sz→Int):∀ (who:List Nat) (xs out:List Int),Gv s size out→(∀k (h1:k < who.length) (h2:k < xs.length),0≤xs[k]∧size (atS s who[k])+xs[k]≤68719476736)→Gv s size (outU who xs out)
 | [],_,out,h,_=>by cases out <;> exact h
 | _::_,[],out,h,_=>h
 | i::is,x::xs,out,h,hx=>by
  simp only[outU]
  refine outU_gv s size is xs _ ?_ (fun k h1 h2=>hx (k+1) (by simpa using h1) (by simpa using h2))
  intro j hj
  have hj':j < out.length:=by simpa using hj
  have h0:=hx 0 (by simp) (by simp)
  simp only[List.getElem_cons_zero]at h0
  have hjj:=h j hj'
  rw[List.getElem_set]
  split
  · rename_i hij
    subst hij
    have:out.getD i 0=out[i]:=by simp[hj']
    rw[this]
    omega
  · exact hjj
theorem cut_mem {s:List Sz} {f t i:Nat} (h1:f≤i) (h2:i < t) (h3:i < s.length):atS s i∈(s.drop f).take (t - f):=by
 rw[atS_lt h3,List.mem_iff_getElem]
 refine⟨i - f,by simp;omega,?_⟩
 simp[show f+(i - f)=i by omega]
theorem space_eq {s:List Sz} {a:List Int} {ws:List Wn} (h:Fit s a ws) {size:Sz→Int} (hsz:∀x∈s,0≤size x∧size x≤1125899906842624) {wanted:Wn→Int} (hwt:WnIn ws wanted) {w:Wn} (hw:w∈ws) :
    spaceS size ((s.drop w.fm.toNat).take (w.to.toNat - w.fm.toNat)) (IntKind.i64.wrap (wanted w - gapsI a w))=wanted w - gapsI a w - sumZ size ((s.drop w.fm.toNat).take (w.to.toNat - w.fm.toNat)):=by
 have hg:=gaps_in h w
 have h1:=hwt w hw
 have hs:=h.hs
 have hl:((s.drop w.fm.toNat).take (w.to.toNat - w.fm.toNat)).length≤60:=by simp;omega
 rw[wrap_in (by omega) (by omega),spaceS_eq _ _ (fun x hx=>hsz x (List.mem_of_mem_drop (List.mem_of_mem_take hx))) hl (by omega) (by omega)]
theorem oneS_gv {s:List Sz} {a:List Int} {ws:List Wn} (h:Fit s a ws) {size:Sz→Int} (hsz:∀x∈s,0≤size x∧size x≤1125899906842624) {wanted:Wn→Int} (hwt:WnIn ws wanted) {of:Nat→Bool} {share:Int→List Nat→List Int} (hsh:ShIn share)
    {w:Wn} (hw:w∈ws) {out:List Int} (ho:Gv s size out):Gv s size (oneS s a wanted size of share w out):=by
 simp only[oneS]
 rw[space_eq h hsz hwt hw]
 split
 · exact ho
 · rename_i hc
   have hc1:=not_or.1 hc
   obtain⟨i0,i1,i2⟩:=h.hi w hw
   have hs:=h.hs
   obtain⟨h1,h2⟩:=hsh (wanted w - gapsI a w - sumZ size ((s.drop w.fm.toNat).take (w.to.toNat - w.fm.toNat))) (whoU of (w.to.toNat - w.fm.toNat) w.fm.toNat) (by omega)
   refine outU_gv s size _ _ _ ho (fun k hk1 hk2=>?_)
   have hin:=whoU_in of _ _ _ (List.getElem_mem hk1)
   have hy:=h2 _ (List.getElem_mem hk2)
   have hm:=cut_mem (s:=s) (f:=w.fm.toNat) (t:=w.to.toNat) hin.1 (by omega) (by omega)
   have hle:=sumZ_at (size:=size) (fun x hx=>(hsz x (List.mem_of_mem_drop (List.mem_of_mem_take hx))).1) _ hm
   have hg:=gaps_in h w
   have hwi:=hwt w hw
   omega
theorem giveS_gv {s:List Sz} {a:List Int} {ws0:List Wn} (h:Fit s a ws0) {size:Sz→Int} (hsz:∀x∈s,0≤size x∧size x≤1125899906842624) {wanted:Wn→Int} (hwt:WnIn ws0 wanted) {of:Nat→Bool} {share:Int→List Nat→List Int} (hsh:ShIn share) :
    ∀ (ws:List Wn) (out:List Int),(∀w∈ws,w∈ws0)→Gv s size out→Gv s size (giveS s a wanted size of share ws out)
 | [],out,_,ho=>ho
 | w::ws,out,hsub,ho=>by
  simp only[giveS]
  exact giveS_gv h hsz hwt hsh ws _ (fun v hv=>hsub v (by simp[hv])) (oneS_gv h hsz hwt hsh (hsub w (by simp)) ho)
theorem gv_zero (s:List Sz) (size:Sz→Int) (n:Nat):Gv s size (List.replicate n 0):=by
 intro i h
 simp
def Up1 (x y:Sz):Prop:=y.mn=x.mn∧y.mx=x.mx∧y.fr=x.fr∧y.fit=x.fit∧y.cap=x.cap∧x.base≤y.base∧Bd y
def Up (s s':List Sz):Prop:=s'.length=s.length∧∀i (h:i < s.length) (h':i < s'.length),Up1 s[i] s'[i]
theorem Up.trans {s s' s'':List Sz} (h:Up s s') (h':Up s' s''):Up s s'':=by
 refine⟨by rw[h'.1,h.1],fun i hi hi'=>?_⟩
 have h1:=h.2 i hi (by rw[h.1];exact hi)
 have h2:=h'.2 i (by rw[h.1];exact hi) hi'
 unfold Up1 at *
 refine⟨by rw[h2.1,h1.1],by rw[h2.2.1,h1.2.1],by rw[h2.2.2.1,h1.2.2.1],by rw[h2.2.2.2.1,h1.2.2.2.1],by rw[h2.2.2.2.2.1,h1.2.2.2.2.1],by omega,h2.2.2.2.2.2.2⟩
theorem Up.bd {s s':List Sz} (h:Up s s'):∀x∈s',Bd x:=by
 intro x hx
 obtain⟨i,hi,rfl⟩:=List.mem_iff_getElem.1 hx
 exact(h.2 i (by rw[←h.1];exact hi) hi).2.2.2.2.2.2
theorem up_map {s:List Sz} {f:Sz→Sz} (h:∀x∈s,Up1 x (f x)):Up s (s.map f):=⟨by simp,fun i hi hi'=>by rw[List.getElem_map];exact h _ (List.getElem_mem hi)⟩
theorem Up.rfl {s:List Sz} (h:∀x∈s,Bd x):Up s s:=⟨_root_.rfl,fun i hi hi'=>⟨_root_.rfl,_root_.rfl,_root_.rfl,_root_.rfl,_root_.rfl,Int.le_refl _,h _ (List.getElem_mem hi)⟩⟩
theorem add_up {s:List Sz} {l:List Int} (hb:∀x∈s,Bd x) (hl:l.length=s.length) (hg:Gv s ownB l):Up s (addS s l):=by
 refine⟨addS_len s l,fun i hi hi'=>?_⟩
 have h1:=hb _ (List.getElem_mem hi)
 have h2:=hg i (by omega)
 rw[addS_at s l hl i hi]
 rw[atS_lt hi]at h2
 unfold ownB at h2
 unfold Bd at h1
 have hw:IntKind.i64.wrap (s[i].base+l[i])=s[i].base+l[i]:=wrap_in (by omega) (by omega)
 refine⟨rfl,rfl,rfl,rfl,rfl,?_,?_⟩
 · show s[i].base≤IntKind.i64.wrap (s[i].base+l[i])
   rw[hw];omega
 · refine⟨?_,?_,h1.2.2.1,h1.2.2.2.1,h1.2.2.2.2.1,h1.2.2.2.2.2⟩
   · show 0≤IntKind.i64.wrap (s[i].base+l[i])
     rw[hw];omega
   · show IntKind.i64.wrap (s[i].base+l[i]) < _
     rw[hw];omega
theorem limA_up {s:List Sz} {h:List Bool} {l:List Int} (hb:∀x∈s,Bd x) (hh:h.length=s.length) (hl:l.length=s.length) (hg:Gv s ownL l):Up s (limAS s h l):=by
 refine⟨limAS_len s h l,fun i hi hi'=>?_⟩
 have h1:=hb _ (List.getElem_mem hi)
 have h2:=hg i (by omega)
 rw[limAS_at s h l hh hl i hi]
 rw[atS_lt hi]at h2
 unfold Bd at h1
 unfold limA1
 split
 · have ho:0≤ownL s[i]∧ownL s[i]≤1125899906842624:=by unfold ownL;split <;> omega
   have hw:IntKind.i64.wrap (ownL s[i]+l[i])=ownL s[i]+l[i]:=wrap_in (by omega) (by omega)
   refine⟨rfl,rfl,rfl,rfl,rfl,Int.le_refl _,h1.1,h1.2.1,?_,?_,h1.2.2.2.2.1,h1.2.2.2.2.2⟩
   · show 0≤IntKind.i64.wrap (ownL s[i]+l[i])
     rw[hw];omega
   · show IntKind.i64.wrap (ownL s[i]+l[i])≤_
     rw[hw];omega
 · exact⟨rfl,rfl,rfl,rfl,rfl,Int.le_refl _,h1⟩
theorem raise_up {s:List Sz} (hb:∀x∈s,Bd x):Up s (s.map raise1):=up_map fun x hx=>by
 have h1:=hb x hx
 unfold Bd at h1
 refine⟨rfl,rfl,rfl,rfl,rfl,Int.le_refl _,h1.1,h1.2.1,?_,?_,h1.2.2.2.2.1,h1.2.2.2.2.2⟩
 · show 0≤max x.lim x.base;omega
 · show max x.lim x.base≤_;omega
theorem fit_up {s:List Sz} (hb:∀x∈s,Bd x):Up s (s.map fit1):=up_map fun x hx=>by
 have h1:=hb x hx
 unfold Bd at h1
 unfold fit1
 split
 · refine⟨rfl,rfl,rfl,rfl,rfl,Int.le_refl _,h1.1,h1.2.1,?_,?_,h1.2.2.2.2.1,h1.2.2.2.2.2⟩
   · show 0≤min x.lim (limit x)
     unfold limit
     split <;> omega
   · show min x.lim (limit x)≤_;omega
 · exact⟨rfl,rfl,rfl,rfl,rfl,Int.le_refl _,h1⟩
theorem end_up {s:List Sz} (hb:∀x∈s,Bd x):Up s (s.map end1):=up_map fun x hx=>by
 have h1:=hb x hx
 unfold Bd at h1
 unfold end1
 split
 · refine⟨rfl,rfl,rfl,rfl,rfl,Int.le_refl _,h1.1,h1.2.1,h1.1,?_,h1.2.2.2.2.1,h1.2.2.2.2.2⟩
   show x.base≤_;omega
 · exact⟨rfl,rfl,rfl,rfl,rfl,Int.le_refl _,h1⟩
theorem ownB_in {s:List Sz} (hb:∀x∈s,Bd x):∀x∈s,0≤ownB x∧ownB x≤1125899906842624:=fun x hx=>by have:=hb x hx;unfold Bd at this;unfold ownB;omega
theorem ownL_in {s:List Sz} (hb:∀x∈s,Bd x):∀x∈s,0≤ownL x∧ownL x≤1125899906842624:=fun x hx=>by have:=hb x hx;unfold Bd at this;unfold ownL;split <;> omega
theorem giveB_gv {s:List Sz} {a:List Int} {ws:List Wn} (h:Fit s a ws) (hb:∀x∈s,Bd x) {wanted:Wn→Int} (hwt:WnIn ws wanted) (of:Nat→Bool) {share:Int→List Nat→List Int} (hsh:ShIn share):Gv s ownB (giveS s a wanted ownB of share ws (List.replicate s.length 0)):=
 giveS_gv h (ownB_in hb) hwt hsh ws _ (fun w hw=>hw) (gv_zero s ownB _)
theorem giveL_gv {s:List Sz} {a:List Int} {ws:List Wn} (h:Fit s a ws) (hb:∀x∈s,Bd x) {wanted:Wn→Int} (hwt:WnIn ws wanted) (of:Nat→Bool) {share:Int→List Nat→List Int} (hsh:ShIn share):Gv s ownL (giveS s a wanted ownL of share ws (List.replicate s.length 0)):=
 giveS_gv h (ownL_in hb) hwt hsh ws _ (fun w hw=>hw) (gv_zero s ownL _)
theorem rd1_up {s:List Sz} {a:List Int} {ws:List Wn} (h:Fit s a ws) (hb:∀x∈s,Bd x) (f:Bool):Up s (rd1 s a ws f):=add_up hb (by rw[giveS_len];simp) (giveB_gv h hb (wanted1_in h s a f) _ (shareF_in _ _))
theorem rd2_up {s:List Sz} {a:List Int} {ws:List Wn} (h:Fit s a ws) (hb:∀x∈s,Bd x):Up s (rd2 s a ws):=add_up hb (by rw[giveS_len];simp) (giveB_gv h hb (mn_in h) _ (shareF_in _ _))
theorem rd3_up {s:List Sz} {a:List Int} {ws:List Wn} (h:Fit s a ws) (hb:∀x∈s,Bd x) (m:Bool):Up s (rd3 s a ws m):=add_up hb (by rw[giveS_len];simp) (giveB_gv h hb (wanted3_in h s a m) _ (shareF_in _ _))
theorem fr1_up {s:List Sz} {a:List Int} {ws:List Wn} (h:Fit s a ws) (hb:∀x∈s,Bd x) (f:Bool):Up s (fr1 s a ws f):=add_up hb (by rw[giveS_len];simp) (giveB_gv h hb (wanted1_in h s a f) _ (shareB_in s))
theorem fr2_up {s:List Sz} {a:List Int} {ws:List Wn} (h:Fit s a ws) (hb:∀x∈s,Bd x):Up s (fr2 s a ws):=add_up hb (by rw[giveS_len];simp) (giveB_gv h hb (mn_in h) _ (shareB_in s))
theorem fr3_up {s:List Sz} {a:List Int} {ws:List Wn} (h:Fit s a ws) (hb:∀x∈s,Bd x) (m:Bool):Up s (fr3 s a ws m):=add_up hb (by rw[giveS_len];simp) (giveB_gv h hb (wanted3_in h s a m) _ (shareB_in s))
theorem lm4_up {s:List Sz} {a:List Int} {ws:List Wn} (h:Fit s a ws) (hb:∀x∈s,Bd x):Up s (lm4 s a ws):=limA_up hb (by rw[hadS_len];simp) (by rw[giveS_len];simp) (giveL_gv h hb (mn_in h) _ (shareF_in _ _))
theorem lm5_up {s:List Sz} {a:List Int} {ws:List Wn} (h:Fit s a ws) (hb:∀x∈s,Bd x) (g:List Bool):Up s (lm5 s a ws g):=limA_up hb (by rw[hadS_len];simp) (by rw[giveS_len];simp) (giveL_gv h hb (mx_in h) _ (shareF_in _ _))
theorem r3_up {s:List Sz} {a:List Int} {ws:List Wn} (h:Fit s a ws) (hb:∀x∈s,Bd x) (f m:Bool):Up s (rd3 (rd2 (rd1 s a ws f) a ws) a ws m):=by
 have u1:=rd1_up h hb f
 have u2:=rd2_up (h.of u1.1) u1.bd
 have u3:=rd3_up ((h.of u1.1).of u2.1) u2.bd m
 exact(u1.trans u2).trans u3
theorem f3_up {s:List Sz} {a:List Int} {ws:List Wn} (h:Fit s a ws) (hb:∀x∈s,Bd x) (f m:Bool):Up s (fr3 (fr2 (fr1 s a ws f) a ws) a ws m):=by
 have u1:=fr1_up h hb f
 have u2:=fr2_up (h.of u1.1) u1.bd
 have u3:=fr3_up ((h.of u1.1).of u2.1) u2.bd m
 exact(u1.trans u2).trans u3
theorem bases3_up {s:List Sz} {a:List Int} {ws:List Wn} (h:Fit s a ws) (hb:∀x∈s,Bd x) (f m:Bool):Up s (bases3 s a ws f m):=(r3_up h hb f m).trans (raise_up (r3_up h hb f m).bd)
theorem several_up {s:List Sz} {a:List Int} {ws:List Wn} (h:Fit s a ws) (hb:∀x∈s,Bd x) (f m:Bool):Up s (severalS s a ws f m):=by
 have u1:=bases3_up h hb f m
 have u2:=lm4_up (h.of u1.1) u1.bd
 have u3:=lm5_up ((h.of u1.1).of u2.1) u2.bd (hadS (bases3 s a ws f m) (fun i=>looseB (atS (bases3 s a ws f m) i)) ws (List.replicate s.length false))
 exact((u1.trans u2).trans u3).trans (fit_up u3.bd)
theorem flexS_up {s:List Sz} {a:List Int} {ws:List Wn} (h:Fit s a ws) (hb:∀x∈s,Bd x) (f m:Bool):Up s (flexS s a ws f m):=by
 have u1:=f3_up h hb f m
 have u2:=raise_up u1.bd
 exact(u1.trans u2).trans (end_up u2.bd)
theorem spans_up {a:List Int} {ws:List Wn} (f m:Bool) (g:Int→List Wn) (hg:∀n,∀w∈g n,w∈ws):∀ (l:List Int) {s:List Sz},Fit s a ws→(∀x∈s,Bd x)→Up s (spansS a f m g l s)
 | [],s,h,hb=>Up.rfl hb
 | n::l,s,h,hb=>by
  have u:=several_up (h.sub (hg n)) hb f m
  exact u.trans (spans_up f m g hg l (h.of u.1) u.bd)
def TpIn (t:Tp):Prop:=(0≤t.a∧t.a≤68719476736)∧(0≤t.b∧t.b≤68719476736)∧(0≤t.c∧t.c≤68719476736)
theorem topS_in {s:List Sz} {a:List Int} {ws0:List Wn} (h:Fit s a ws0) (f:Bool):∀ (ws:List Wn) (ts:List Tp×List Bool),(∀w∈ws,w∈ws0)→(∀t∈ts.1,TpIn t)→∀t∈(topS s a f ws ts).1,TpIn t
 | [],ts,_,ht=>ht
 | w::ws,ts,hsub,ht=>by
  simp only[topS]
  refine topS_in h f ws _ (fun v hv=>hsub v (by simp[hv])) ?_
  unfold topStep
  split
  · intro t hm
    obtain⟨i,hi,rfl⟩:=List.mem_iff_getElem.1 hm
    have hi':i < ts.1.length:=by simpa using hi
    have h0:=ht _ (List.getElem_mem hi')
    obtain⟨h1,h2,h3⟩:=h.hw w (hsub w (by simp))
    have h4:=wanted1_in h s a f w (hsub w (by simp))
    simp only[List.getElem_modify]
    split
    · unfold TpIn at *
      simp only
      omega
    · exact h0
  · exact ht
theorem alone_up1 {x:Sz} {t:Tp} {met:Bool} (hx:Bd x) (ht:TpIn t):Up1 x (alone1 x t met):=by
 unfold alone1
 split
 · exact⟨rfl,rfl,rfl,rfl,rfl,Int.le_refl _,hx⟩
 · unfold Bd at hx
   unfold TpIn at ht
   have hb:x.base≤(if x.mn=2 then max x.base t.a else if x.mn=3 then max x.base t.b else if x.mn=4 then max x.base t.c else x.base)∧(if x.mn=2 then max x.base t.a else if x.mn=3 then max x.base t.b else if x.mn=4 then max x.base t.c else x.base) < 1125899906842624:=by
    split
    · omega
    · split
      · omega
      · split <;> omega
   have hl:0≤(if x.fit=true then min t.c x.cap else if x.mx=3 then t.b else if contentB x=true then t.c else x.lim)∧(if x.fit=true then min t.c x.cap else if x.mx=3 then t.b else if contentB x=true then t.c else x.lim)≤1125899906842624:=by
    split
    · omega
    · split
      · omega
      · split <;> omega
   generalize (if x.mn=2 then max x.base t.a else if x.mn=3 then max x.base t.b else if x.mn=4 then max x.base t.c else x.base)=b at *
   generalize (if x.fit=true then min t.c x.cap else if x.mx=3 then t.b else if contentB x=true then t.c else x.lim)=l at *
   refine⟨rfl,rfl,rfl,rfl,rfl,hb.1,?_,hb.2,?_,?_,hx.2.2.2.2.1,hx.2.2.2.2.2⟩
   · show 0≤b;omega
   · show 0≤max l b;omega
   · show max l b≤_;omega
theorem alone_up {s:List Sz} {a:List Int} {ws:List Wn} (h:Fit s a ws) (hb:∀x∈s,Bd x) (f:Bool):Up s (aloneS s a ws f):=by
 refine⟨aloneS_len s a ws f,fun i hi hi'=>?_⟩
 have hl:=topS_len s a f ws (List.replicate s.length ⟨0,0,0⟩,List.replicate s.length false)
 simp only[List.length_replicate]at hl
 have e:(aloneS s a ws f)[i]=_:=alS_at s _ _ hl.1 hl.2 i hi
 rw[e]
 refine alone_up1 (hb _ (List.getElem_mem hi)) (topS_in h f ws _ (fun w hw=>hw) ?_ _ (List.getElem_mem _))
 intro t ht
 have:=List.eq_of_mem_replicate ht
 subst this
 unfold TpIn
 simp
theorem sizeS_up {s:List Sz} {a:List Int} {ws:List Wn} (h:Fit s a ws) (hb:∀x∈s,Bd x) (f m:Bool):Up s (sizeS s a ws f m):=by
 have u1:=alone_up h hb f
 have u2:=spans_up f m (grp s ws) (fun n w hw=>(grp_in hw).1) (spanL s ws) (h.of u1.1) u1.bd
 have u3:=flexS_up ((h.sub (ws':=ws.filter (flexW s)) (fun w hw=>(List.mem_filter.1 hw).1)).of (by rw[u2.1,u1.1])) u2.bd f m
 exact(u1.trans u2).trans u3
theorem good_fit {s:List Sz} {a:List Int} {ws:List Wn} {mode:Int} (h:goodI s a ws mode=true) (hs:s.length≤60):Fit s a ws∧∀x∈s,Bd x:=by
 simp only[goodI,Bool.and_eq_true,decide_eq_true_eq,List.all_eq_true]at h
 have hwi:∀x,wi x=true→0≤x∧x≤68719476736:=fun x hx=>by simpa [wi]using hx
 refine⟨⟨hs,h.1.1.1.1.1.1,fun x hx=>hwi x (h.1.2 x hx),fun w hw=>okW_in (h.2 w hw),fun w hw=>?_⟩,fun x hx=>?_⟩
 · have:=h.2 w hw
   simp only[okW,Bool.and_eq_true]at this
   exact⟨hwi _ this.1.1.2,hwi _ this.1.2,hwi _ this.2⟩
 · have:=h.1.1.2 x hx
   unfold Gd at this
   unfold Bd
   omega
def Same (ws ws':List Wn):Prop:=∀w,w∈ws↔w∈ws'
theorem Same.filter {ws ws':List Wn} (h:Same ws ws') (p:Wn→Bool):Same (ws.filter p) (ws'.filter p):=fun w=>by
 rw[List.mem_filter,List.mem_filter,h w]
section
variable {s:List Sz} {a:List Int} {wanted:Wn→Int} {size:Sz→Int} {of:Nat→Bool} {share:Int→List Nat→List Int}
end
section
variable {ws ws':List Wn} (h:Same ws ws') (s:List Sz) (a:List Int) (f m:Bool)
end
def Fxd (x:Sz):Prop:=x.mn=1∧x.mx=1∧x.fit=false∧x.lim=x.base
def Fx (s s':List Sz):Prop:=s'.length=s.length∧∀i (h:i < s.length) (h':i < s'.length),Fxd s[i]→s'[i]=s[i]
theorem Fx.trans {s s' s'':List Sz} (h:Fx s s') (h':Fx s' s''):Fx s s'':=by
 refine⟨by rw[h'.1,h.1],fun i hi hi' hf=>?_⟩
 have e:=h.2 i hi (by rw[h.1];exact hi) hf
 rw[h'.2 i (by rw[h.1];exact hi) hi' (by rw[e];exact hf),e]
theorem Fx.rfl (s:List Sz):Fx s s:=⟨_root_.rfl,fun i hi hi' hf=>_root_.rfl⟩
section
variable {s:List Sz}
variable {a:List Int} {ws:List Wn}
end
def valB (au fr:Bool) (k n:Int):Bool:=
 decide (k=2∧0≤n∧n≤68719476736∨k=3∧0≤n∧n≤1073741824∨fr=true∧k=6∧0≤n∧n≤1073741824∨au=true∧n=0∧(k=1∨k=4∨k=5))
def AlB (c:Int) (au fr:Bool):Prop:=c=1∧au=false∧fr=false∨c=13∧au=true∧fr=false∨c=29∧au=true∧fr=true
def rtB (x:Tr):Bool:=
 if x.fit=true then decide (x.k0=1∧x.n0=0∧x.k1=5∧x.n1=0∧(x.k2=2∨x.k2=3))&& valB false false x.k2 x.n2
 else decide (x.k2=0∧x.n2=0)&& valB true false x.k0 x.n0&& valB true true x.k1 x.n1
theorem keybit_sp (k:Int):Says tr c_value_keyBit [I k] [I (if k=1 then 4 else if k=4∨k=5 then 8 else if k=7 then 32 else 0)]:=by
 refine Says.of (t:=value_keyBit) rfl ?_
 rw[u_value_keyBit]
 simp (disch:=first | omega | (simp only[ln0];omega)) only[rs,reduceIte,Nat.reduceAdd,beq_iff_eq,u_value_keyBit_j0]
 by_cases h1:k=1
 · rw[br_pos h1,if_pos h1]
 rw[br_neg h1,if_neg h1]
 by_cases h4:k=4
 · subst h4;simp (disch:=first | omega | (simp only[ln0];omega)) only[rs,reduceIte,Nat.reduceAdd,br_true];simp
 by_cases h5:k=5
 · subst h5;simp[br_pos,br_neg,br_true,br_false]
 by_cases h7:k=7
 · subst h7;simp[br_pos,br_neg,br_true,br_false]
 · simp[h4,h5,h7,br_false]
theorem val_sp {c:Int} {au fr:Bool} (h:AlB c au fr) (k n:Int):Says tr c_value_Good [I k,I n,I c] [B (valB au fr k n)]:=by
 have a1:arith .and .i64 1 2=0∧arith .and .i64 1 1=1∧arith .and .i64 1 16=0∧arith .and .i64 1 4=0∧arith .and .i64 1 8=0∧arith .and .i64 1 32=0∧arith .and .i64 1 0=0:=by decide
 have a2:arith .and .i64 13 2=0∧arith .and .i64 13 1=1∧arith .and .i64 13 16=0∧arith .and .i64 13 4=4∧arith .and .i64 13 8=8∧arith .and .i64 13 32=0∧arith .and .i64 13 0=0:=by decide
 have a3:arith .and .i64 29 2=0∧arith .and .i64 29 1=1∧arith .and .i64 29 16=16∧arith .and .i64 29 4=4∧arith .and .i64 29 8=8∧arith .and .i64 29 32=0∧arith .and .i64 29 0=0:=by decide
 obtain⟨b1,b2,b3,b4,b5,b6,b7⟩:=a1
 obtain⟨c1,c2,c3,c4,c5,c6,c7⟩:=a2
 obtain⟨d1,d2,d3,d4,d5,d6,d7⟩:=a3
 have hif:∀e x y z w:Int,arith .and .i64 e (if k=1 then x else if k=4∨k=5 then y else if k=7 then z else w)=if k=1 then arith .and .i64 e x else if k=4∨k=5 then arith .and .i64 e y else if k=7 then arith .and .i64 e z else arith .and .i64 e w:=by
  intro e x y z w
  (repeat' split) <;> rfl
 refine Says.of (t:=value_Good) rfl ?_
 rw[u_value_Good]
 unfold valB
 rcases h with⟨rfl,rfl,rfl⟩ | ⟨rfl,rfl,rfl⟩ | ⟨rfl,rfl,rfl⟩
 all_goals
  simp (disch:=first | omega | (simp only[ln0];omega)) only[rs,reduceIte,Nat.reduceAdd,bx,reduceCtorEq,forall_const,ne_eq,u_value_Good_j0,u_value_Good_j1,xcall_of (keybit_sp k),hif,b1,b2,b3,b4,b5,b6,b7,c1,c2,c3,c4,c5,c6,c7,d1,d2,d3,d4,d5,d6,d7,Int.lt_irrefl]
  (repeat' (refine br_split ?_ ?_ <;> intro _)) <;> simp only[xbret,bx,reduceCtorEq,forall_const,ne_eq]at* <;> (try (repeat' split)) <;> omega
theorem tauto_sp:Says tr c_track_auto [] [I 1,I 0]:=by
 refine Says.of (t:=track_auto) rfl ?_
 rw[u_track_auto]
 simp (disch:=first | omega | (simp only[ln0];omega)) only[rs,reduceIte,Nat.reduceAdd]
theorem tfit_sp (a b:Int):Says tr c_track_fit [I a,I b] [I 1,I 0,I 5,I 0,B true,I a,I b]:=by
 refine Says.of (t:=track_fit) rfl ?_
 rw[u_track_fit]
 simp (disch:=first | omega | (simp only[ln0];omega)) only[rs,reduceIte,Nat.reduceAdd,xcall_of tauto_sp]
theorem tislen_sp (a b:Int):Says tr c_track_isLen [I a,I b] [B (decide (a=2∨a=3))]:=by
 refine Says.of (t:=track_isLen) rfl ?_
 rw[u_track_isLen]
 simp (disch:=first | omega | (simp only[ln0];omega)) only[rs,reduceIte,Nat.reduceAdd,xbret,bx,reduceCtorEq,forall_const,ne_eq]
theorem right_tr_sp (x:Tr):Says tr c_track_Right (eTr x) [B (rtB x)]:=by
 refine Says.of (t:=track_Right) rfl ?_
 rw[u_track_Right]
 obtain⟨k0,n0,k1,n1,fit,k2,n2⟩:=x
 cases fit with
 | true=>
  simp (disch:=first | omega | (simp only[ln0];omega)) only[rs,reduceIte,Nat.reduceAdd,xcall_of (tfit_sp k2 n2),xcall_of (tislen_sp k2 n2),xcall_of (val_sp (Or.inl ⟨rfl,rfl,rfl⟩) k2 n2),bx,reduceCtorEq,forall_const,ne_eq,rtB,xbret]
  generalize valB false false k2 n2=b
  cases b <;> (repeat' (refine br_split ?_ ?_ <;> intro _)) <;> simp only[xbret,bx,reduceCtorEq,forall_const,ne_eq]at* <;> omega
 | false=>
  simp (disch:=first | omega | (simp only[ln0];omega)) only[rs,reduceIte,Nat.reduceAdd,xcall_of (val_sp (Or.inr (Or.inl ⟨rfl,rfl,rfl⟩)) k0 n0),xcall_of (val_sp (Or.inr (Or.inr ⟨rfl,rfl,rfl⟩)) k1 n1),bx,reduceCtorEq,forall_const,ne_eq,rtB,xbret,Bool.false_eq_true,if_false]
  generalize valB true false k0 n0=b
  generalize valB true true k1 n1=c
  cases b <;> cases c <;> (repeat' (refine br_split ?_ ?_ <;> intro _)) <;> simp only[xbret,bx,reduceCtorEq,forall_const,ne_eq]at* <;> omega
def inB (n:Int):Bool:=decide (0≤n)&& decide (n≤68719476736)
def okAt (first:Bool) (x:Tr) (g:Bool) (a:Int):Bool:=rtB x&& inB a&& !((first|| g)&& decide (0 < a))
def gdi:Bool→List Tr→List Bool→List Int→Bool
 | f,x::xs,g::gs,a::as=>okAt f x g a&& gdi false xs gs as
 | _,_,_,_=>true
def TkOk (low:Int) (l:List Tr) (g:List Bool) (a:List Int):Prop:=l.length≤40000∧g.length=l.length∧a.length=l.length∧low≤0∧ -10000≤low∧gdi true l g a=true
instance (low:Int) (l:List Tr) (g:List Bool) (a:List Int):Decidable (TkOk low l g a):=by unfold TkOk;infer_instance
theorem gdi_at:∀ {f:Bool} {l:List Tr} {g:List Bool} {a:List Int},g.length=l.length→a.length=l.length→gdi f l g a=true→∀ (i:Nat) (h:i < l.length) (h1:i < g.length) (h2:i < a.length),okAt (f&& decide (i=0)) l[i] g[i] a[i]=true
 | f,x::xs,g::gs,a::as,hg,ha,h,i,h0,h1,h2=>by
  simp only[gdi,Bool.and_eq_true]at h
  cases i with
  | zero=>simpa using h.1
  | succ i=>
   have:=gdi_at (by simpa using hg) (by simpa using ha) h.2 i (by simpa using h0) (by simpa using h1) (by simpa using h2)
   simpa using this
theorem gdi_in {low:Int} {l:List Tr} {g:List Bool} {a:List Int} (h:TkOk low l g a):∀x∈a,0≤x∧x≤68719476736:=by
 intro x hx
 obtain⟨i,hi,rfl⟩:=List.mem_iff_getElem.mp hx
 obtain⟨_,h2,h3,_,_,h6⟩:=h
 have:=gdi_at h2 h3 h6 i (by omega) (by omega) hi
 simp only[okAt,inB,Bool.and_eq_true,decide_eq_true_eq]at this
 exact this.1.2
theorem iwithin_sp (x:Int):Says tr c_implicit_within [I x] [B (inB x)]:=by
 refine Says.of (t:=implicit_within) rfl ?_
 rw[u_implicit_within]
 have his:Says tr c_fixed_Is [I x] [B (decide (-68719476736≤x)&& decide (x≤68719476736))]:=by
  refine Says.of (t:=fixed_Is) rfl ?_
  rw[u_fixed_Is]
  simp (disch:=first | omega | (simp only[ln0];omega)) only[rs,reduceIte,Nat.reduceAdd,ge_iff_le]
 simp (disch:=first | omega | (simp only[ln0];omega)) only[rs,reduceIte,Nat.reduceAdd,xcall_of his,ge_iff_le]
 (repeat' (refine br_split ?_ ?_ <;> intro _)) <;> simp only[xbret,inB,bx,reduceCtorEq,forall_const,ne_eq] <;> omega
theorem tgood_sp (low:Int) (l:List Tr) (g:List Bool) (a:List Int):Says tr c_implicit_Good [I low,rowOf eTr l,bools g,ints a] [B (decide (TkOk low l g a))]:=by
 refine Says.of (t:=implicit_Good) rfl ?_
 rw[u_implicit_Good]
 simp (disch:=first | omega | (simp only[ln0];omega)) only[rs,reduceIte,Nat.reduceAdd,bx,reduceCtorEq,forall_const,ne_eq]
 refine br_split ?_ ?_ <;> intro _
 · rename_i h
   have:¬TkOk low l g a:=by
    rintro⟨h1,h2,h3,h4,h5,_⟩
    omega
   simp only[this,decide_false]
 rename_i h
 have hg:g.length=l.length:=by omega
 have ha:a.length=l.length:=by omega
 have hl:l.length≤40000:=by omega
 have key:=xup_ind (n:=l.length) (P:=fun i=>gdi (decide (i=0)) (l.drop i) (g.drop i) (a.drop i)=gdi true l g a→Run tr implicit_Good_l0 [I low,rowOf eTr l,bools g,ints a,I i] [.loop implicit_Good_l0 [I low,rowOf eTr l,bools g,ints a]] [B (decide (TkOk low l g a))]) ?_ 0 (Nat.zero_le _)
 · simpa using key rfl
 intro i hi ih hall
 rw[u_implicit_Good_l0]
 by_cases h':i < l.length
 · have hgi:i < g.length:=by omega
   have hai:i < a.length:=by omega
   rw[List.drop_eq_getElem_cons h',List.drop_eq_getElem_cons hgi,List.drop_eq_getElem_cons hai]at hall
   simp only[gdi]at hall
   have hfalse:okAt (decide (i=0)) l[i] g[i] a[i]=false→decide (TkOk low l g a)=false:=by
    intro hf
    rw[hf,Bool.false_and]at hall
    rw[decide_eq_false_iff_not]
    rintro⟨_,_,_,_,_,h6⟩
    rw[h6]at hall
    cases hall
   have htrue:okAt (decide (i=0)) l[i] g[i] a[i]=true→Run tr implicit_Good_l0 [I low,rowOf eTr l,bools g,ints a,I ((i:Int)+1)] [.loop implicit_Good_l0 [I low,rowOf eTr l,bools g,ints a]] [B (decide (TkOk low l g a))]:=by
    intro ht
    have:=ih h' (by rw[←hall,ht,Bool.true_and];rfl)
    simpa using this
   have ei:((i:Int)=0)↔i=0:=by omega
   simp (disch:=first | omega | (simp only[ln0];omega)) only[rs,reduceIte,Nat.reduceAdd,h',hgi,hai,trs,xcall_of (right_tr_sp l[i]),xcall_of (iwithin_sp a[i]),or_true,bx,reduceCtorEq,forall_const,ne_eq,u_implicit_Good_j1,ei]
   simp only[okAt]at hfalse htrue
   clear hall ih
   obtain⟨ai,eai⟩:∃x,a[i]=x:=⟨_,rfl⟩
   rw[eai]at hfalse htrue ⊢
   generalize rtB l[i]=r at *
   generalize inB ai=w at *
   generalize g[i]=gg at *
   by_cases hz:i=0 <;> by_cases hp:0 < ai <;> cases r <;> cases w <;> cases gg <;> simp[hz,hp,br_true,br_false]at hfalse htrue ⊢ <;> first | assumption | (simpa [hz]using hfalse) | (simpa [hz]using htrue)
 · rw[List.drop_of_length_le (by omega),List.drop_of_length_le (by omega),List.drop_of_length_le (by omega)]at hall
   simp (disch:=first | omega | (simp only[ln0];omega)) only[rs,reduceIte,Nat.reduceAdd,h']
   have:TkOk low l g a:=⟨hl,hg,ha,by omega,by omega,by rw[←hall];rfl⟩
   simp only[this,decide_true]
def SumOk (low:Int) (l:List Tr) (g:List Bool) (a s:List Int):Prop:=TkOk low l g a∧s.length=l.length∧∀x∈s,0≤x∧x≤68719476736
instance (low:Int) (l:List Tr) (g:List Bool) (a s:List Int):Decidable (SumOk low l g a s):=by unfold SumOk;infer_instance
def tkSum (low:Int) (l:List Tr) (g:List Bool) (a s:List Int):Int×Int:=if SumOk low l g a s then sumS s a 0 else(0,2)
theorem twithin_sp (x:Int):Says tr c_tracks_within [I x] [B (inB x)]:=by
 refine Says.of (t:=tracks_within) rfl ?_
 rw[u_tracks_within]
 have his:Says tr c_fixed_Is [I x] [B (decide (-68719476736≤x)&& decide (x≤68719476736))]:=by
  refine Says.of (t:=fixed_Is) rfl ?_
  rw[u_fixed_Is]
  simp (disch:=first | omega | (simp only[ln0];omega)) only[rs,reduceIte,Nat.reduceAdd,ge_iff_le]
 simp (disch:=first | omega | (simp only[ln0];omega)) only[rs,reduceIte,Nat.reduceAdd,xcall_of his,ge_iff_le]
 (repeat' (refine br_split ?_ ?_ <;> intro _)) <;> simp only[xbret,inB,bx,reduceCtorEq,forall_const,ne_eq] <;> omega
theorem tsum_sp (low:Int) (l:List Tr) (g:List Bool) (a s:List Int):Says tr c_tracks_Sum [I low,rowOf eTr l,bools g,ints a,ints s] [I (tkSum low l g a s).1,I (tkSum low l g a s).2]:=by
 refine Says.of (t:=tracks_Sum) rfl ?_
 rw[u_tracks_Sum]
 simp (disch:=first | omega | (simp only[ln0];omega)) only[rs,reduceIte,Nat.reduceAdd,xcall_of (tgood_sp low l g a),bx,reduceCtorEq,forall_const,ne_eq]
 refine br_split ?_ ?_ <;> intro _
 · rename_i h
   have:¬SumOk low l g a s:=by
    rintro⟨h1,h2,_⟩
    rcases h with h | h
    · exact h h1
    · omega
   simp only[tkSum,this,if_false]
 rename_i h
 have hok:TkOk low l g a:=Classical.byContradiction fun hn=>h (Or.inl hn)
 have hl:l.length≤40000:=hok.1
 have hsl:s.length=l.length:=by omega
 have hal:a.length=l.length:=hok.2.2.1
 have hain:=gdi_in hok
 have hq:decide (TkOk low l g a)=true:=by simp[hok]
 have key:=xup_ind (n:=s.length) (P:=fun i=>lensB (s.drop i)=lensB s→Run tr tracks_Sum_l0 [I low,rowOf eTr l,bools g,ints a,ints s,B true,I i] [.loop tracks_Sum_l0 [I low,rowOf eTr l,bools g,ints a,ints s,B true]] [I (tkSum low l g a s).1,I (tkSum low l g a s).2]) ?_ 0 (Nat.zero_le _)
 · rw[hq]
   simpa using key rfl
 intro i hi ih hall
 rw[u_tracks_Sum_l0]
 by_cases h':i < s.length
 · rw [lensB_drop s i h']at hall
   simp (disch:=first | omega | (simp only[ln0];omega)) only[rs,reduceIte,Nat.reduceAdd,h',xcall_of (twithin_sp _),inB,bx,reduceCtorEq,forall_const,ne_eq]
   refine br_split ?_ ?_ <;> intro _
   · rename_i hc
     refine ih h' ?_
     rw[←hall]
     have:(decide (0≤s[i])&& decide (s[i]≤68719476736))=true:=by simp;omega
     rw[this,Bool.true_and]
   · rename_i hc
     have hno:¬SumOk low l g a s:=by
      rintro⟨_,_,h3⟩
      have:=h3 s[i] (List.getElem_mem _)
      exact hc this
     simp only[tkSum,hno,if_false]
 · rw [List.drop_of_length_le (by omega)]at hall
   have hsin:=(lensB_iff s).1 (by rw[←hall];rfl)
   have hok2:SumOk low l g a s:=⟨hok,hsl,hsin⟩
   simp only[tkSum,hok2,if_true]
   simp (disch:=first | omega | (simp only[ln0];omega)) only[rs,reduceIte,Nat.reduceAdd,h']
   obtain⟨J,hJ⟩:∃J,J=JT.loop tracks_Sum_l0 [I low,rowOf eTr l,bools g,ints a,ints s,B true]:=⟨_,rfl⟩
   rw[←hJ]
   have key:=xup_ind (n:=s.length) (P:=fun j=>∀n:Int,0≤n→n≤68719476736→Run tr tracks_Sum_l1 [I low,rowOf eTr l,bools g,ints a,ints s,B true,I i,I j,I n] [J,.loop tracks_Sum_l1 [I low,rowOf eTr l,bools g,ints a,ints s,B true,I i]] [I (sumS (s.drop j) (a.drop j) n).1,I (sumS (s.drop j) (a.drop j) n).2]) ?_ 0 (Nat.zero_le _)
   · simpa using key 0 (by omega) (by omega)
   intro j hj ihj n h0 h1
   rw[u_tracks_Sum_l1]
   by_cases hjs:j < s.length
   · have hja:j < a.length:=by omega
     have h2:=hsin s[j] (List.getElem_mem _)
     have h3:=hain a[j] (List.getElem_mem _)
     have his:Says tr c_fixed_Is [I (n+s[j]+a[j])] [B (decide (-68719476736≤n+s[j]+a[j])&& decide (n+s[j]+a[j]≤68719476736))]:=by
      refine Says.of (t:=fixed_Is) rfl ?_
      rw[u_fixed_Is]
      simp (disch:=first | omega | (simp only[ln0];omega)) only[rs,reduceIte,Nat.reduceAdd,ge_iff_le]
     have e:n+(s[j]+a[j])=n+s[j]+a[j]:=by omega
     have hlo: -68719476736≤n+s[j]+a[j]:=by omega
     rw[List.drop_eq_getElem_cons hjs,List.drop_eq_getElem_cons hja]
     simp only[sumS]
     simp (disch:=first | omega | (simp only[ln0];omega)) only[rs,reduceIte,Nat.reduceAdd,hjs,hja,e,xcall_of his,hlo,decide_true,Bool.true_and]
     refine br_split ?_ ?_ <;> intro _
     · rename_i hc
       rw[if_pos hc]
       exact ihj hjs _ (by omega) (by omega)
     · rename_i hc
       rw[if_neg hc]
   · simp (disch:=first | omega | (simp only[ln0];omega)) only[rs,reduceIte,Nat.reduceAdd,hjs]
     rw[List.drop_of_length_le (by omega)]
     rfl
def I64 (x:Int):Prop:= -9223372036854775808≤x∧x≤9223372036854775807
def pct (a b:Int):Int×Int:=
 if ¬ (-68719476736≤b∧b≤68719476736)∨a < -1073741824∨1073741824 < a then(0,2)
 else if(md b a 100000).2≠0∨¬ (-68719476736≤(md b a 100000).1∧(md b a 100000).1≤68719476736)then(0,10)else((md b a 100000).1,0)
theorem pct_sp (a b:Int) (ha:I64 a) (hb:I64 b):Says tr c_fixed_Percent [I a,I b] [I (pct a b).1,I (pct a b).2]:=by
 refine Says.of (t:=fixed_Percent) rfl ?_
 rw[u_fixed_Percent]
 unfold pct
 simp (disch:=first | omega | (simp only[ln0];omega)) only[rs,reduceIte,Nat.reduceAdd,xcall_of (is_sp _),bx,reduceCtorEq,forall_const,ne_eq]
 refine br_split ?_ ?_ <;> intro _
 · rename_i h
   rw[if_pos (by omega)]
 · rename_i h
   rw[if_neg (by omega)]
   simp (disch:=first | omega | (simp only[ln0];omega)) only[rs,reduceIte,Nat.reduceAdd,xcall_of (muldiv_sp b a 100000 hb ha (by omega)),xcall_of (is_sp _),bx,reduceCtorEq,forall_const,ne_eq,u_fixed_Percent_j0]
   by_cases h1:(md b a 100000).2=0
   · rw[br_neg (by simp[h1])]
     by_cases h2: -68719476736≤(md b a 100000).1∧(md b a 100000).1≤68719476736
     · rw[if_neg (by omega)]
       rw[br_neg (by omega)]
     · rw[if_pos (by omega)]
       rw[br_pos (by omega)]
   · rw[br_pos h1,if_pos (Or.inl h1)]
def resS (k n b:Int) (d:Bool):Int×Bool×Int:=
 if k=2 then(n,true,0)else if k=3∧d=true then((pct n b).1,decide ((pct n b).2=0),(pct n b).2)else(0,false,0)
theorem res_sp (k n b:Int) (d:Bool) (hn:I64 n) (hb:I64 b):Says tr c_value_Resolve [I k,I n,I b,B d] [I (resS k n b d).1,B (resS k n b d).2.1,I (resS k n b d).2.2]:=by
 refine Says.of (t:=value_Resolve) rfl ?_
 rw[u_value_Resolve]
 unfold resS
 simp (disch:=first | omega | (simp only[ln0];omega)) only[rs,reduceIte,Nat.reduceAdd,bx,reduceCtorEq,forall_const,ne_eq,xcall_of (pct_sp n b hn hb)]
 by_cases h1:k=2
 · rw[br_pos h1,if_pos h1]
 rw[br_neg h1,if_neg h1]
 by_cases h2:k=3∧d=true
 · rw[br_pos h2,if_pos h2]
   rfl
 · rw[br_neg h2,if_neg h2]
def kindS (k:Int) (d:Bool):Int:=if k=2∨k=3∧d=true then 1 else if k=4 then 3 else if k=5 then 4 else if k=6 then 5 else 2
theorem kind_sp (k n:Int) (d:Bool):Says tr c_base_kind [I k,I n,B d] [I (kindS k d)]:=by
 refine Says.of (t:=base_kind) rfl ?_
 rw[u_base_kind]
 unfold kindS
 simp (disch:=first | omega | (simp only[ln0];omega)) only[rs,reduceIte,Nat.reduceAdd,bx,reduceCtorEq,forall_const,ne_eq,u_base_kind_j0]
 by_cases h4:k=4
 · subst h4;rw[br_pos rfl];simp
 by_cases h5:k=5
 · subst h5;rw[br_neg (by decide),br_pos rfl];simp
 by_cases h6:k=6
 · subst h6;rw[br_neg (by decide),br_neg (by decide),br_pos rfl];simp
 rw[br_neg h4,br_neg h5,br_neg h6]
 by_cases h3:k=3
 · subst h3;rw[br_pos rfl]
   cases d <;> simp[br_true,br_false]
 by_cases h2:k=2
 · subst h2;simp[br_pos,br_neg]
 · simp[h2,h3,h4,h5,h6,br_false]
def zSz:Sz:=⟨0,0,0,false,0,0,0⟩
def begin1 (x:Tr) (size:Int) (d:Bool):Sz:=
 let b:=(resS x.k0 x.n0 size d).1
 let l:=if(resS x.k1 x.n1 size d).2.1=true then(resS x.k1 x.n1 size d).1 else 1125899906842624
 let f:=x.fit&& (resS x.k2 x.n2 size d).2.1
 { mn:=kindS x.k0 d,mx:=kindS x.k1 d,fr:=if kindS x.k1 d=5 then x.n1 else 0,fit:=f,cap:=if f=true then(resS x.k2 x.n2 size d).1 else 0,base:=b,lim:=max l b }
def startT (x:Tr) (size:Int) (d:Bool):Sz×Int:=
 if rtB x=false∨d=true∧(size < 0∨68719476736 < size)then(zSz,2)
 else if(resS x.k0 x.n0 size d).2.2≠0 then(zSz,(resS x.k0 x.n0 size d).2.2)
 else if(resS x.k1 x.n1 size d).2.2≠0 then(zSz,(resS x.k1 x.n1 size d).2.2)
 else if(resS x.k2 x.n2 size d).2.2≠0 then(zSz,(resS x.k2 x.n2 size d).2.2)
 else(begin1 x size d,0)
@[reducible] def eSt (r:Sz×Int):List PV:= [I r.1.mn,I r.1.mx,I r.1.fr,B r.1.fit,I r.1.cap,I r.1.base,I r.1.lim,I r.2]
def TrIn (x:Tr):Prop:=I64 x.n0∧I64 x.n1∧I64 x.n2
theorem start_sp (x:Tr) (size:Int) (d:Bool) (hx:TrIn x) (hs:I64 size):Says tr c_base_Start [I x.k0,I x.n0,I x.k1,I x.n1,B x.fit,I x.k2,I x.n2,I size,B d] (eSt (startT x size d)):=by
 refine Says.of (t:=base_Start) rfl ?_
 rw[u_base_Start]
 have hright:=right_tr_sp x
 have hr0:=res_sp x.k0 x.n0 size d hx.1 hs
 have hr1:=res_sp x.k1 x.n1 size d hx.2.1 hs
 have hr2:=res_sp x.k2 x.n2 size d hx.2.2 hs
 have hj0:∀ (b:Bool),(b=true↔(rtB x=false∨d=true∧(size < 0∨68719476736 < size)))→Run tr base_Start_j0 [I x.k0,I x.n0,I x.k1,I x.n1,B x.fit,I x.k2,I x.n2,I size,B d,B b] [] (eSt (startT x size d)):=by
  intro b hb
  unfold startT
  rw[u_base_Start_j0]
  simp (disch:=first | omega | (simp only[ln0];omega)) only[rs,reduceIte,Nat.reduceAdd,xcall_of hr0,xcall_of hr1,xcall_of hr2,bx,reduceCtorEq,forall_const,ne_eq]
  by_cases h:b=true
  · rw[br_pos h,if_pos (hb.1 h)]
    rfl
  rw[br_neg h,if_neg (fun hh=>h (hb.2 hh))]
  by_cases h0:¬ (resS x.k0 x.n0 size d).2.2=0
  · rw[br_pos h0,if_pos h0]
    rfl
  rw[br_neg h0,if_neg h0]
  by_cases h1:¬ (resS x.k1 x.n1 size d).2.2=0
  · rw[br_pos h1,if_pos h1]
    rfl
  rw[br_neg h1,if_neg h1]
  by_cases h2:¬ (resS x.k2 x.n2 size d).2.2=0
  · rw[br_pos h2,if_pos h2]
    rfl
  rw[br_neg h2,if_neg h2]
  simp (disch:=first | omega | (simp only[ln0];omega)) only[rs,reduceIte,Nat.reduceAdd,xcall_of (kind_sp x.k0 x.n0 d),xcall_of (kind_sp x.k1 x.n1 d)]
  have hfin:∀ (l f:Int) (ft:Bool) (c:Int) (p q r:PV),Run tr base_Start_j3 [I x.k0,I x.n0,I x.k1,I x.n1,B x.fit,I x.k2,I x.n2,I size,B d,B b,I (resS x.k0 x.n0 size d).1,B (resS x.k0 x.n0 size d).2.1,I (resS x.k0 x.n0 size d).2.2,I (resS x.k1 x.n1 size d).1,B (resS x.k1 x.n1 size d).2.1,I (resS x.k1 x.n1 size d).2.2,I (resS x.k2 x.n2 size d).1,B (resS x.k2 x.n2 size d).2.1,I (resS x.k2 x.n2 size d).2.2,I (kindS x.k0 d),I (kindS x.k1 d),I l,I f,B ft,I c] [] (eSt ({ mn:=kindS x.k0 d,mx:=kindS x.k1 d,fr:=f,fit:=ft,cap:=c,base:=(resS x.k0 x.n0 size d).1,lim:=max l (resS x.k0 x.n0 size d).1 },0)):=by
   intro l f ft c p q r
   have hra:=braise_sp { mn:=kindS x.k0 d,mx:=kindS x.k1 d,fr:=f,fit:=ft,cap:=c,base:=(resS x.k0 x.n0 size d).1,lim:=l }
   rw[u_base_Start_j3]
   simp (disch:=first | omega | (simp only[ln0];omega)) only[rs,reduceIte,Nat.reduceAdd,xcall_of hra]
  have hj2:∀ (l f:Int),Run tr base_Start_j2 [I x.k0,I x.n0,I x.k1,I x.n1,B x.fit,I x.k2,I x.n2,I size,B d,B b,I (resS x.k0 x.n0 size d).1,B (resS x.k0 x.n0 size d).2.1,I (resS x.k0 x.n0 size d).2.2,I (resS x.k1 x.n1 size d).1,B (resS x.k1 x.n1 size d).2.1,I (resS x.k1 x.n1 size d).2.2,I (resS x.k2 x.n2 size d).1,B (resS x.k2 x.n2 size d).2.1,I (resS x.k2 x.n2 size d).2.2,I (kindS x.k0 d),I (kindS x.k1 d),I l,I f] [] (eSt ({ mn:=kindS x.k0 d,mx:=kindS x.k1 d,fr:=f,fit:=x.fit&& (resS x.k2 x.n2 size d).2.1,cap:=if(x.fit&& (resS x.k2 x.n2 size d).2.1)=true then(resS x.k2 x.n2 size d).1 else 0,base:=(resS x.k0 x.n0 size d).1,lim:=max l (resS x.k0 x.n0 size d).1 },0)):=by
   intro l f
   rw[u_base_Start_j2]
   simp (disch:=first | omega | (simp only[ln0];omega)) only[rs,reduceIte,Nat.reduceAdd]
   cases hf:(x.fit&& (resS x.k2 x.n2 size d).2.1)with
   | true=>rw[br_pos rfl];simpa using hfin l f true (resS x.k2 x.n2 size d).1 .bad .bad .bad
   | false=>rw[br_neg (by simp)];simpa using hfin l f false 0 .bad .bad .bad
  have hj1:∀ (l:Int),Run tr base_Start_j1 [I x.k0,I x.n0,I x.k1,I x.n1,B x.fit,I x.k2,I x.n2,I size,B d,B b,I (resS x.k0 x.n0 size d).1,B (resS x.k0 x.n0 size d).2.1,I (resS x.k0 x.n0 size d).2.2,I (resS x.k1 x.n1 size d).1,B (resS x.k1 x.n1 size d).2.1,I (resS x.k1 x.n1 size d).2.2,I (resS x.k2 x.n2 size d).1,B (resS x.k2 x.n2 size d).2.1,I (resS x.k2 x.n2 size d).2.2,I (kindS x.k0 d),I (kindS x.k1 d),I l] [] (eSt ({ mn:=kindS x.k0 d,mx:=kindS x.k1 d,fr:=if kindS x.k1 d=5 then x.n1 else 0,fit:=x.fit&& (resS x.k2 x.n2 size d).2.1,cap:=if(x.fit&& (resS x.k2 x.n2 size d).2.1)=true then(resS x.k2 x.n2 size d).1 else 0,base:=(resS x.k0 x.n0 size d).1,lim:=max l (resS x.k0 x.n0 size d).1 },0)):=by
   intro l
   rw[u_base_Start_j1]
   simp (disch:=first | omega | (simp only[ln0];omega)) only[rs,reduceIte,Nat.reduceAdd,bx,reduceCtorEq,forall_const,ne_eq]
   by_cases h5:kindS x.k1 d=5
   · rw[br_pos h5,if_pos h5];simpa only[Bool.and_eq_true]using hj2 l x.n1
   · rw[br_neg h5,if_neg h5];simpa only[Bool.and_eq_true]using hj2 l 0
  unfold begin1
  cases hl:(resS x.k1 x.n1 size d).2.1 with
  | true=>
   rw[hl]at hj1
   rw[br_pos rfl]
   simpa using hj1 (resS x.k1 x.n1 size d).1
  | false=>
   rw[hl]at hj1
   rw[br_neg (by simp)]
   simpa using hj1 1125899906842624
 simp (disch:=first | omega | (simp only[ln0];omega)) only[rs,reduceIte,Nat.reduceAdd,xcall_of hright,xcall_of (is_sp size),bx,reduceCtorEq,forall_const,ne_eq]
 refine br_split ?_ ?_ <;> intro _
 · rename_i h
   refine hj0 _ ?_
   simp only[bx,reduceCtorEq,forall_const,ne_eq]
   simp[h]
   omega
 · rename_i h
   refine hj0 _ ?_
   cases hr:rtB x <;> cases d <;> simp[hr]at h ⊢
   omega
def startA (l:List Tr) (g:List Bool) (size:Int) (d:Bool):List (Sz×Int):=List.zipWith (fun x b=>startT (if b=true then⟨2,0,2,0,false,0,0⟩else x) size d) l g
def firstE:List (Sz×Int)→Int
 | []=>0
 | r::rs=>if r.2≠0 then r.2 else firstE rs
def allT (low:Int) (l:List Tr) (g:List Bool) (a:List Int) (size:Int) (d:Bool):List Sz×Int:=
 if ¬TkOk low l g a then([],2)else if firstE (startA l g size d)≠0 then([],firstE (startA l g size d))else((startA l g size d).map Prod.fst,0)
theorem all_sp (low:Int) (l:List Tr) (g:List Bool) (a:List Int) (size:Int) (d:Bool) (hl:l.length≤1000000000) (hx:∀x∈l,TrIn x) (hs:I64 size):Says tr c_base_All [I low,rowOf eTr l,bools g,ints a,I size,B d] [rowOf eSz (allT low l g a size d).1,I (allT low l g a size d).2]:=by
 refine Says.of (t:=base_All) rfl ?_
 rw[u_base_All]
 simp (disch:=first | omega | (simp only[ln0];omega)) only[rs,reduceIte,Nat.reduceAdd,xcall_of (tgood_sp low l g a),bx,reduceCtorEq,forall_const,ne_eq]
 unfold allT
 by_cases hok:¬TkOk low l g a
 · rw[br_neg hok,if_pos hok]
   rfl
 rw[Classical.not_not]at hok
 rw[br_pos hok,if_neg (fun h=>h hok)]
 have hgl:g.length=l.length:=hok.2.1
 have hl2:(l.length:Int)≤2513169434916:=by omega
 have hal:(startA l g size d).length=l.length:=by simp[startA,hgl]
 obtain⟨L,hL⟩:∃L,startA l g size d=L:=⟨_,rfl⟩
 have hLi:∀ (i:Nat) (h:i < l.length) (h':i < L.length) (h'':i < g.length),L[i]=startT (if g[i]=true then⟨2,0,2,0,false,0,0⟩else l[i]) size d:=by
  intro i h h' h''
  subst hL
  simp[startA]
 rw[hL]at hal ⊢
 simp (disch:=first | omega | (simp only[ln0];omega)) only[rs,reduceIte,Nat.reduceAdd,hl2]
 have hmx:(L.map Prod.fst).length=(List.replicate l.length zSz).length:=by simp[hal]
 have hq:decide (TkOk low l g a)=true:=by simp[hok]
 have key:=xup_ind (n:=l.length) (P:=fun i=>firstE (L.drop i)=firstE L→Run tr base_All_l0 [I low,rowOf eTr l,bools g,ints a,I size,B d,B true,I i,rowOf eSz (mix (L.map Prod.fst) (List.replicate l.length zSz) i)] [.loop base_All_l0 [I low,rowOf eTr l,bools g,ints a,I size,B d,B true]] [rowOf eSz (if firstE L≠0 then([],firstE L)else(L.map Prod.fst,0)).1,I (if firstE L≠0 then([],firstE L)else(L.map Prod.fst,0)).2]) ?_ 0 (Nat.zero_le _)
 · rw[hq]
   have:=key (by simp)
   simpa [mix_zero,rowOf,zSz,eSz]using this
 intro i hi ih hall
 rw[u_base_All_l0]
 by_cases h:i < l.length
 · have hgi:i < g.length:=by omega
   have hLl:i < L.length:=by omega
   have hml:=mix_len hmx i
   rw[List.length_replicate]at hml
   have hLe:=hLi i h hLl hgi
   have hset:=mix_set hmx (i:=i) (by simpa using h) (v:=L[i].1) (by simp)
   rw[List.drop_eq_getElem_cons hLl]at hall
   simp only[firstE]at hall
   have hj1:∀x:Tr,TrIn x→startT x size d=L[i]→Run tr base_All_j1 [I low,rowOf eTr l,bools g,ints a,I size,B d,B true,I i,rowOf eSz (mix (L.map Prod.fst) (List.replicate l.length zSz) i),I x.k0,I x.n0,I x.k1,I x.n1,B x.fit,I x.k2,I x.n2] [.loop base_All_l0 [I low,rowOf eTr l,bools g,ints a,I size,B d,B true]] [rowOf eSz (if firstE L≠0 then([],firstE L)else(L.map Prod.fst,0)).1,I (if firstE L≠0 then([],firstE L)else(L.map Prod.fst,0)).2]:=by
    intro x hxi hxe
    have hst:=start_sp x size d hxi hs
    rw[hxe]at hst
    rw[u_base_All_j1]
    simp (disch:=first | omega | (simp only[ln0];omega)) only[rs,reduceIte,Nat.reduceAdd,xcall_of hst,bx,reduceCtorEq,forall_const,ne_eq]
    by_cases he:¬L[i].2=0
    · rw[if_pos he]at hall
      rw[br_pos he,←hall,if_pos he]
      rfl
    · rw[if_neg he]at hall
      rw[br_neg he]
      have:=ih h hall
      simp (disch:=first | omega | (simp only[ln0];omega)) only[rs,reduceIte,Nat.reduceAdd,hml,h,szs]
      rw[hset]
      simpa using this
   simp (disch:=first | omega | (simp only[ln0];omega)) only[rs,reduceIte,Nat.reduceAdd,h,hgi,trs]
   refine br_split ?_ ?_ <;> intro _
   · rename_i hg
     rw[if_pos hg]at hLe
     exact hj1 ⟨2,0,2,0,false,0,0⟩ ⟨⟨by decide,by decide⟩,⟨by decide,by decide⟩,⟨by decide,by decide⟩⟩ hLe.symm
   · rename_i hg
     rw[if_neg hg]at hLe
     exact hj1 l[i] (hx _ (List.getElem_mem _)) hLe.symm
 · rw[List.drop_of_length_le (by omega)]at hall
   have h0:¬firstE L≠0:=by rw[←hall];simp[firstE]
   simp (disch:=first | omega | (simp only[ln0];omega)) only[rs,reduceIte,Nat.reduceAdd,h]
   rw[if_neg h0,mix_full' hmx (by simp;omega)]
theorem firstE_zero:∀ {L:List (Sz×Int)},firstE L=0→∀r∈L,r.2=0
 | r::rs,h,x,hx=>by
  simp only[firstE]at h
  by_cases he:r.2≠0
  · rw[if_pos he]at h;exact absurd h he
  · rw[if_neg he]at h
    rcases List.mem_cons.1 hx with rfl | hx
    · simpa using he
    · exact firstE_zero h x hx
theorem mgood1_sp (x:Sz):Says tr c_maximise_good_1 (eSz x) [B (!decide (Gd x))]:=by
 refine Says.of (t:=maximise_good_1) rfl ?_
 rw[u_maximise_good_1]
 simp (disch:=first | omega | (simp only[ln0];omega)) only[rs,reduceIte,Nat.reduceAdd,xcall_of (bgood_sp x),List.length_cons,List.length_nil]
theorem mgood_sp (l:List Sz) (hl:l.length≤1000000000):Says tr c_maximise_good [rowOf eSz l] [B (goodB l)]:=by
 refine Says.of (t:=maximise_good) rfl ?_
 rw[u_maximise_good]
 simp (disch:=first | omega | (simp only[ln0];omega)) only[rs,reduceIte,Nat.reduceAdd]
 have key:=xup_ind (n:=l.length) (P:=fun i=>Run tr maximise_good_l1 [rowOf eSz l,I i] [.join maximise_good_j0 [rowOf eSz l],.loop maximise_good_l1 [rowOf eSz l]] [B (goodB (l.drop i))]) ?_ 0 (Nat.zero_le _)
 · simpa using key
 intro i hi ih
 rw[u_maximise_good_l1]
 by_cases h:i < l.length
 · have hb:goodB (l.drop i)=(decide (Gd l[i])&& goodB (l.drop (i+1))):=by rw[List.drop_eq_getElem_cons h];rfl
   simp (disch:=first | omega | (simp only[ln0];omega)) only[rs,reduceIte,Nat.reduceAdd,h,hb,szs,xcall_of (mgood1_sp l[i]),List.length_cons,List.length_nil]
   by_cases hg:Gd l[i]
   · simp only[hg,decide_true,Bool.not_true,Bool.false_eq_true,br_false,Bool.true_and]
     exact ih h
   · simp (disch:=first | omega | (simp only[ln0];omega)) only[rs,reduceIte,Nat.reduceAdd,hg,decide_false,Bool.not_false,Bool.false_and,maximise_good_j0,ge_iff_le,decide_true,Bool.not_true]
 · simp (disch:=first | omega | (simp only[ln0];omega)) only[rs,reduceIte,Nat.reduceAdd,h,maximise_good_j0]
   rw[List.drop_of_length_le (by omega)]
   rfl
def roomM (s:List Sz):List Int:=s.map fun x=>x.lim - x.base
def grown (s:List Sz) (got:List Int):List Sz:=List.zipWith (fun x g=>{ x with base:=x.base+g }) s got
theorem grown_length {s:List Sz} {got:List Int} (h:got.length=s.length):(grown s got).length=s.length:=by simp[grown,h]
theorem isup_bd {S:Int} {room out:List Int} (h:IsUp S room out) (hr:∀r∈room,0≤r∧r≤1125899906842624):∀x∈out,0≤x∧x≤1125899906842624:=by
 intro x hx
 obtain⟨i,hi,rfl⟩:=List.mem_iff_getElem.mp hx
 have hl:=isup_length h
 have:=isup_in h (fun r hr'=>(hr r hr').1) i (by omega) hi
 have:=(hr room[i] (List.getElem_mem (by omega))).2
 omega
theorem room_ok {s:List Sz} (hs:∀x∈s,Gd x):∀r∈roomM s,0≤r∧r≤1125899906842624:=by
 intro r hr
 obtain⟨x,hx,rfl⟩:=List.mem_map.mp hr
 have:=gd_in (hs x hx)
 omega
def GrowOk (s:List Sz) (free:Int):Prop:=(∀x∈s,Gd x)∧0≤free∧free≤68719476736
theorem grow_bad (s:List Sz) (free:Int) (hl:s.length≤1000000000) (h:¬GrowOk s free):Says tr c_maximise_Grow [rowOf eSz s,I free] [rowOf eSz s]:=by
 refine Says.of (t:=maximise_Grow) rfl ?_
 rw[u_maximise_Grow]
 simp (disch:=first | omega | (simp only[ln0];omega)) only[rs,reduceIte,Nat.reduceAdd,xcall_of (mgood_sp s hl),xcall_of (mwithin_sp _)]
 refine br_split ?_ ?_ <;> intro _
 · rename_i hg
   have hb:(decide (0≤free)&& decide (free≤68719476736))=false:=by
    cases hb:(decide (0≤free)&& decide (free≤68719476736))with
    | false=>rfl
    | true=>
     simp at hb
     exact absurd ⟨(goodB_iff s).1 hg,hb.1,hb.2⟩ h
   simp (disch:=first | omega | (simp only[ln0];omega)) only[rs,reduceIte,Nat.reduceAdd,u_maximise_Grow_j0,hb,Bool.not_false]
 · simp (disch:=first | omega | (simp only[ln0];omega)) only[rs,reduceIte,Nat.reduceAdd,u_maximise_Grow_j0]
theorem grow_ok (s:List Sz) (free:Int) (hm:s.length≤65536) (h:GrowOk s free):∃got,IsUp free (roomM s) got∧Says tr c_maximise_Grow [rowOf eSz s,I free] [rowOf eSz (grown s got)]:=by
 obtain⟨hs,h0,h1⟩:=h
 have hro:=room_ok hs
 have hrl:(roomM s).length=s.length:=by simp[roomM]
 obtain⟨got,hup,hu⟩:=up_ok free (roomM s) ⟨h0,by omega,by omega,hro⟩
 have hgl:=isup_length hu
 have hgb:=isup_bd hu hro
 refine⟨got,hu,?_⟩
 refine Says.of (t:=maximise_Grow) rfl ?_
 rw[u_maximise_Grow]
 have hg:goodB s=true:=(goodB_iff s).2 hs
 have hl:(s.length:Int)≤17592186044416:=by omega
 have hl2:(s.length:Int)≤2513169434916:=by omega
 simp (disch:=first | omega | (simp only[ln0];omega)) only[rs,reduceIte,Nat.reduceAdd,xcall_of (mgood_sp s (by omega)),xcall_of (mwithin_sp _),hg,h0,h1,decide_true,Bool.not_true,Bool.and_true,u_maximise_Grow_j0,Bool.false_eq_true,hl]
 have hrm:(roomM s).length=(List.replicate s.length (0:Int)).length:=by simp[roomM]
 have key:=xup_ind (n:=s.length) (P:=fun i=>Run tr maximise_Grow_l1 [rowOf eSz s,I free,B false,I i,ints (mix (roomM s) (List.replicate s.length 0) i)] [.loop maximise_Grow_l1 [rowOf eSz s,I free,B false]] [rowOf eSz (grown s got)]) ?_ 0 (Nat.zero_le _)
 · simpa [mix_zero]using key
 intro i hi ih
 rw[u_maximise_Grow_l1]
 by_cases h:i < s.length
 · have hx:=gd_in (hs s[i] (List.getElem_mem _))
   have hml:=mix_len hrm i
   rw[List.length_replicate]at hml
   have hset:=mix_set (v:=s[i].lim - s[i].base) hrm (i:=i) (by simpa using h) (by simp[roomM])
   simp (disch:=first | omega | (simp only[ln0];omega)) only[rs,reduceIte,Nat.reduceAdd,h,hml,szs,hset]
   exact ih h
 · have:i=s.length:=by omega
   subst this
   rw[mix_full' hrm (by simp)]
   simp (disch:=first | omega | (simp only[ln0];omega)) only[rs,reduceIte,Nat.reduceAdd,Nat.lt_irrefl,xcall_of hup,hl2]
   have hgr:(grown s got).length=s.length:=grown_length (by omega)
   have key:=xup_ind (n:=s.length) (P:=fun i=>Run tr maximise_Grow_l2 [rowOf eSz s,I free,B false,I s.length,ints (roomM s),ints got,I i,rowOf eSz (mix (grown s got) s i)] [.loop maximise_Grow_l1 [rowOf eSz s,I free,B false],.loop maximise_Grow_l2 [rowOf eSz s,I free,B false,I s.length,ints (roomM s),ints got]] [rowOf eSz (grown s got)]) ?_ 0 (Nat.zero_le _)
   · simpa [mix_zero]using key
   intro i hi ih
   rw[u_maximise_Grow_l2]
   have hml:=mix_len hgr i
   by_cases h:i < s.length
   · have hx:=gd_in (hs s[i] (List.getElem_mem _))
     have hgi:i < got.length:=by omega
     have hg2:=hgb got[i] (List.getElem_mem _)
     have hmo:=mix_modify hgr (i:=i) h (f:=fun y=>{ y with base:=s[i].base+got[i] }) (by simp[grown])
     have hat:=mix_at hgr h (by omega)
     simp (disch:=first | omega | (simp only[ln0];omega)) only[rs,reduceIte,Nat.reduceAdd,h,hml,hgi,szs,hat,hmo]
     exact ih h
   · simp (disch:=first | omega | (simp only[ln0];omega)) only[rs,reduceIte,Nat.reduceAdd,h]
     rw[mix_full' hgr (by omega)]
def full1 (x:Sz):Sz:=if x.lim=1125899906842624 then x else { x with base:=x.lim }
theorem full_bad (s:List Sz) (hl:s.length≤1000000000) (h:¬∀x∈s,Gd x):Says tr c_maximise_Full [rowOf eSz s] [rowOf eSz s]:=by
 refine Says.of (t:=maximise_Full) rfl ?_
 rw[u_maximise_Full]
 have hg:goodB s=false:=by
  cases hg:goodB s with
  | false=>rfl
  | true=>exact absurd ((goodB_iff s).1 hg) h
 simp (disch:=first | omega | (simp only[ln0];omega)) only[rs,reduceIte,Nat.reduceAdd,xcall_of (mgood_sp s hl),hg,Bool.false_eq_true]
theorem full_ok (s:List Sz) (hm:s.length≤65536) (hs:∀x∈s,Gd x):Says tr c_maximise_Full [rowOf eSz s] [rowOf eSz (s.map full1)]:=by
 refine Says.of (t:=maximise_Full) rfl ?_
 rw[u_maximise_Full]
 have hg:goodB s=true:=(goodB_iff s).2 hs
 have hl2:(s.length:Int)≤2513169434916:=by omega
 simp (disch:=first | omega | (simp only[ln0];omega)) only[rs,reduceIte,Nat.reduceAdd,xcall_of (mgood_sp s (by omega)),hg,hl2]
 have hfl:(s.map full1).length=s.length:=by simp
 have key:=xup_ind (n:=s.length) (P:=fun i=>Run tr maximise_Full_l0 [rowOf eSz s,B true,I i,rowOf eSz (mix (s.map full1) s i)] [.loop maximise_Full_l0 [rowOf eSz s,B true]] [rowOf eSz (s.map full1)]) ?_ 0 (Nat.zero_le _)
 · simpa [mix_zero]using key
 intro i hi ih
 rw[u_maximise_Full_l0]
 have hml:=mix_len hfl i
 by_cases h:i < s.length
 · have hat:=mix_at hfl h (by omega)
   simp (disch:=first | omega | (simp only[ln0];omega)) only[rs,reduceIte,Nat.reduceAdd,h,hml,szs,hat,bx,reduceCtorEq,forall_const,ne_eq,u_maximise_Full_j1]
   refine br_split ?_ ?_ <;> intro _
   · rename_i hne
     have hmo:=mix_modify hfl (i:=i) h (f:=fun y=>{ y with base:=s[i].lim }) (by simp[full1,hne])
     rw[hmo]
     exact ih h
   · rename_i hne
     have hse:=mix_set hfl (i:=i) h (v:=s[i]) (by simp at hne;simp[full1,hne])
     have:(mix (s.map full1) s i).set i s[i]=mix (s.map full1) s i:=by
      have:=List.set_getElem_self (as:=mix (s.map full1) s i) (i:=i) (by omega)
      rw[hat]at this
      exact this
     rw[←this,hse]
     exact ih h
 · simp (disch:=first | omega | (simp only[ln0];omega)) only[rs,reduceIte,Nat.reduceAdd,h]
   rw[mix_full' hfl (by omega)]
end Go.Proofs.YtckjdlmfibjpaaaGreat.T

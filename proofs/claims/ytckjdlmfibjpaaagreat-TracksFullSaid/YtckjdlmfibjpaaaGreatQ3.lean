/- Plain laws that the claim needs (texts joined to one). No condition. -/
import Derived.Test.YtckjdlmfibjpaaaGreatT
import Derived.Test.YtckjdlmfibjpaaaGreatQ2
set_option linter.unusedVariables false
set_option linter.unusedSimpArgs false
set_option maxRecDepth 10000
namespace Go.Proofs.YtckjdlmfibjpaaaGreat.T
open Go Go.Proofs.YtckjdlmfibjpaaaGreat.Sx Go.Proofs.YtckjdlmfibjpaaaGreat.M
section
variable {ws:List Wn} {s:List Sz} {a:List Int} {f1 f2:Bool} {g:List Bool}
def ThOk (ws:List Wn) (s:List Sz) (a:List Int) (f1 f2:Bool) (g:List Bool) (those:T) (of:Nat→Bool):Prop:=
 ∀ (J:List JT) (b:T) (ρb:List PV) (r:List PV) (x6 x7 x8 x9 x10 x11:PV) (i:Nat) (who:List Nat),J.length=4→i < s.length→who.length≤60000→
  Run tr b (ρb++ [nats (if of i=true then who++ [i]else who)]) J r→Run tr those [rowOf eWn ws,rowOf eSz s,ints a,B f1,B f2,bools g,x6,x7,x8,x9,x10,x11,I i,nats who] (J++ [.join b ρb]) r
theorem th1_ok (ofF:Nat) (of:Sz→Bool) (hof:∀x,Says tr ofF (eSz x) [B (of x)]):ThOk ws s a f1 f2 g (those1 ofF) (fun i=>of (atS s i)):=by
 intro J b ρb r x6 x7 x8 x9 x10 x11 i who hJ hi hl hK
 have h:=hof s[i]
 have h4:∀x,(J++ [x])[4]? =some x:=fun x=>by rw[List.getElem?_append_right (by omega),hJ];rfl
 have t4:∀x:JT,(J++ [x]).take 4=J:=fun x=>by rw[List.take_append_of_le_length (by omega),List.take_of_length_le (by omega)]
 have hl2:(who.length:Int)+1≤4294967296:=by omega
 simp only[atS_lt hi]at hK
 unfold those1
 simp (disch:=first | omega | (simp only[ln0];omega)) only[rs,reduceIte,Nat.reduceAdd,hi,szs,xcall_of h]
 refine br_split ?_ ?_ <;> intro _
 · rename_i hx
   rw[if_pos hx]at hK
   have e:ints (who.map Int.ofNat++ [(i:Int)])=nats (who++ [i]):=by simp only[nats,List.map_append,List.map_cons,List.map_nil,Int.ofNat_eq_natCast]
   rw[←e]at hK
   simp (disch:=first | omega | (simp only[ln0];omega)) only[rs,reduceIte,Nat.reduceAdd,hl2,h4,t4]
   first | exact hK | exact⟨by omega,hK⟩
 · rename_i hx
   rw[if_neg hx]at hK
   simp (disch:=first | omega | (simp only[ln0];omega)) only[rs,reduceIte,Nat.reduceAdd,h4,t4]
   exact hK
theorem th2_ok (ofF ofG:Nat) (of og:Sz→Bool) (hof:∀x,Says tr ofF (eSz x) [B (of x)]) (hog:∀x,Says tr ofG (eSz x) [B (og x)]):ThOk ws s a f1 f2 g (those2 ofF ofG) (fun i=>if f2 then of (atS s i)else og (atS s i)):=by
 intro J b ρb r x6 x7 x8 x9 x10 x11 i who hJ hi hl hK
 have h:=hof s[i]
 have h':=hog s[i]
 have h4:∀x,(J++ [x])[4]? =some x:=fun x=>by rw[List.getElem?_append_right (by omega),hJ];rfl
 have h5:∀x y,(J++ [x,y])[5]? =some y:=fun x y=>by rw[List.getElem?_append_right (by omega),hJ];rfl
 have t4:∀x:JT,(J++ [x]).take 4=J:=fun x=>by rw[List.take_append_of_le_length (by omega),List.take_of_length_le (by omega)]
 have t5:∀x y:JT,(J++ [x,y]).take 5=J++ [x]:=fun x y=>by rw[show [x,y]=[x]++ [y]from rfl,←List.append_assoc,List.take_append_of_le_length (by simp;omega),List.take_of_length_le (by simp;omega)]
 have hl2:(who.length:Int)+1≤4294967296:=by omega
 simp only[atS_lt hi]at hK
 have fin:∀c:Bool,c=(if f2=true then of s[i]else og s[i])→Run tr pushJ [rowOf eWn ws,rowOf eSz s,ints a,B f1,B f2,bools g,x6,x7,x8,x9,x10,x11,I i,nats who,B c] (J++ [.join b ρb]) r:=by
  intro c hc
  rw[←hc]at hK
  rw[u_pushJ]
  simp (disch:=first | omega | (simp only[ln0];omega)) only[rs,reduceIte,Nat.reduceAdd]
  refine br_split ?_ ?_ <;> intro _
  · rename_i hx
    rw[if_pos hx]at hK
    have e:ints (who.map Int.ofNat++ [(i:Int)])=nats (who++ [i]):=by simp only[nats,List.map_append,List.map_cons,List.map_nil,Int.ofNat_eq_natCast]
    rw[←e]at hK
    simp (disch:=first | omega | (simp only[ln0];omega)) only[rs,reduceIte,Nat.reduceAdd,hl2,h4,t4]
    first | exact hK | exact⟨by omega,hK⟩
  · rename_i hx
    rw[if_neg hx]at hK
    simp (disch:=first | omega | (simp only[ln0];omega)) only[rs,reduceIte,Nat.reduceAdd,h4,t4]
    exact hK
 unfold those2
 rw[run_letj,List.append_assoc]
 simp (disch:=first | omega | (simp only[ln0];omega)) only[rs,reduceIte,Nat.reduceAdd,hi,szs]
 refine br_split ?_ ?_ <;> intro _
 · rename_i hx
   simp (disch:=first | omega | (simp only[ln0];omega)) only[rs,reduceIte,Nat.reduceAdd,szs,hi,xcall_of h,h5,t5]
   exact fin _ (by rw[if_pos hx])
 · rename_i hx
   simp (disch:=first | omega | (simp only[ln0];omega)) only[rs,reduceIte,Nat.reduceAdd,szs,hi,xcall_of h',h5,t5]
   exact fin _ (by rw[if_neg hx])
def FillOk (ws:List Wn) (s:List Sz) (a:List Int) (f1 f2:Bool) (g:List Bool) (fill:T) (share:Int→List Nat→List Int):Prop:=
 ∀ (J:List JT) (b:T) (ρb:List PV) (r:List PV) (k:Nat) (out:List Int) (x8 x9 x10 x12:PV) (sp:Int) (who:List Nat),J.length=4→J[1]? =some (.join b ρb)→who.length≤60000→(∀i∈who,i < out.length)→(∀i∈who,i < s.length)→
  Run tr b (ρb++ [ints (outU who (share sp who) out)]) (J.take 1) r→Run tr fill [rowOf eWn ws,rowOf eSz s,ints a,B f1,B f2,bools g,I k,ints out,x8,x9,x10,I sp,x12,nats who] J r
theorem fill_ok (roomT:T) (farF:Nat) (room:Nat→Int) (far:Sz→Bool)
    (hroom:∀ (k:Nat) (out:List Int) (x8 x9 x10 x12:PV) (sp:Int) (who:List Nat),(∀i∈who,i < s.length)→∀ (j:Nat) (hj:j < who.length) (y15 y16 y17:PV),Run tr roomT [rowOf eWn ws,rowOf eSz s,ints a,B f1,B f2,bools g,I k,ints out,x8,x9,x10,I sp,x12,nats who,I j,y15,y16,y17] [] [I (room who[j])])
    (hfar:∀x,Says tr farF (eSz x) [B (far x)]):FillOk ws s a f1 f2 g (fillT roomT farF) (shareF room fun i=>far (atS s i)):=by
 intro J b ρb r k out x8 x9 x10 x12 sp who hJ hj hl hw hws hK
 exact rooms_run roomT farF room far J hJ b ρb hj k out x8 x9 x10 x12 sp who hl hw hws (hroom k out x8 x9 x10 x12 sp who hws) hfar hK
theorem those_run {those fill:T} {of:Nat→Bool} {share:Int→List Nat→List Int} (hth:ThOk ws s a f1 f2 g those of) (hfill:FillOk ws s a f1 f2 g fill share) (hs:s.length≤50000)
    (J:List JT) (hJ:J.length=3) (b:T) (ρb:List PV) (hj1:J[1]? =some (.join b ρb)) {r:List PV} (k:Nat) (hk:k < ws.length) (out:List Int) (hol:out.length=s.length) (x8 x9 x10:PV) (sp:Int) (f t:Nat) (hf:ws[k].fm=(f:Int)) (ht:ws[k].to=(t:Int)) (hft:f < t) (hts:t≤s.length)
    (hK:Run tr b (ρb++ [ints (if sp≤0∨(whoU of (t - f) f).length=0 then out else outU (whoU of (t - f) f) (share sp (whoU of (t - f) f)) out)]) (J.take 1) r) :
    Run tr (thoseL those fill) [rowOf eWn ws,rowOf eSz s,ints a,B f1,B f2,bools g,I k,ints out,x8,x9,x10,I sp,I f,nats []] (J++ [.loop (thoseL those fill) [rowOf eWn ws,rowOf eSz s,ints a,B f1,B f2,bools g,I k,ints out,x8,x9,x10,I sp]]) r:=by
 have h3:∀x,(J++ [x])[3]? =some x:=fun x=>by rw[List.getElem?_append_right (by omega),hJ];rfl
 have t3:∀x:JT,(J++ [x]).take (3+1)=J++ [x]:=fun x=>List.take_of_length_le (by simp;omega)
 have h1:∀x,(J++ [x])[1]? =some (.join b ρb):=fun x=>by rw[List.getElem?_append_left (by omega),hj1]
 have t1:∀x:JT,(J++ [x]).take 1=J.take 1:=fun x=>List.take_append_of_le_length (by omega)
 have hall:=whoU_in of (t - f) f
 have hlen:=whoU_len of (t - f) f
 generalize hwa:whoU of (t - f) f=whoA at *
 have key:=xup_ind (n:=t) (P:=fun j=>f≤j→∀who:List Nat,who++whoU of (t - j) j=whoA→Run tr (thoseL those fill) [rowOf eWn ws,rowOf eSz s,ints a,B f1,B f2,bools g,I k,ints out,x8,x9,x10,I sp,I j,nats who] (J++ [.loop (thoseL those fill) [rowOf eWn ws,rowOf eSz s,ints a,B f1,B f2,bools g,I k,ints out,x8,x9,x10,I sp]]) r) ?_ f (by omega)
 · exact key (Nat.le_refl _) [] (by simpa using hwa)
 intro j hj ih hfj who hwho
 rw[u_thoseL]
 have hwl:who.length≤whoA.length:=by rw[←hwho];simp
 by_cases h:j < t
 · have hc:(j:Int) < (t:Int):=by omega
   simp (disch:=first | omega | (simp only[ln0];omega)) only[rs,reduceIte,Nat.reduceAdd,wn_at0,wn_at1,hk,hf,ht,hc]
   refine hth _ _ _ _ _ _ _ _ _ _ j who (by simp;omega) (by omega) (by omega) ?_
   simp (disch:=first | omega | (simp only[ln0];omega)) only[rs,reduceIte,Nat.reduceAdd]
   rw[h3,jmp_loop,t3]
   have ih':=ih h (by omega) (if of j=true then who++ [j]else who) (by
    rw[←hwho,show t - j=(t - (j+1))+1 by omega]
    simp only[whoU]
    split <;> simp)
   simp (disch:=first | omega | (simp only[ln0];omega)) only[rs,reduceIte,Nat.reduceAdd]
   exact ih'
 · obtain rfl:j=t:=by omega
   rw[Nat.sub_self]at hwho
   simp only[whoU,List.append_nil]at hwho
   subst hwho
   have hc:¬ (j:Int) < (j:Int):=by omega
   simp (disch:=first | omega | (simp only[ln0];omega)) only[rs,reduceIte,Nat.reduceAdd,wn_at0,wn_at1,hk,hf,ht,hc,Bool.or_eq_true,List.length_map,beq_iff_eq]
   refine br_split ?_ ?_ <;> intro _
   · rename_i hx
     rw[if_pos (by omega)]at hK
     simp (disch:=first | omega | (simp only[ln0];omega)) only[rs,reduceIte,Nat.reduceAdd,h1,t1]
     exact hK
   · rename_i hx
     rw[if_neg (by omega)]at hK
     exact hfill _ b ρb r k out x8 x9 x10 (I j) sp who (by simp;omega) (h1 _) (by omega) (fun i hi=>by have:=hall i hi;omega) (fun i hi=>by have:=hall i hi;omega) (by rw[t1];exact hK)
theorem space_run {those fill:T} {of:Nat→Bool} {share:Int→List Nat→List Int} (szF:Nat) (size:Sz→Int) (hsz:∀x,Says tr szF (eSz x) [I (size x)]) (hth:ThOk ws s a f1 f2 g those of) (hfill:FillOk ws s a f1 f2 g fill share) (hs:s.length≤50000)
    (J:List JT) (hJ:J.length=2) (b:T) (ρb:List PV) (hj1:J[1]? =some (.join b ρb)) {r:List PV} (k:Nat) (hk:k < ws.length) (out:List Int) (hol:out.length=s.length) (x8 x9:PV) (sp:Int) (f t:Nat) (hf:ws[k].fm=(f:Int)) (ht:ws[k].to=(t:Int)) (hft:f < t) (hts:t≤s.length)
    (hK:Run tr b (ρb++ [ints (if spaceS size ((s.drop f).take (t - f)) sp≤0∨(whoU of (t - f) f).length=0 then out else outU (whoU of (t - f) f) (share (spaceS size ((s.drop f).take (t - f)) sp) (whoU of (t - f) f)) out)]) (J.take 1) r) :
    Run tr (spaceL szF those fill) [rowOf eWn ws,rowOf eSz s,ints a,B f1,B f2,bools g,I k,ints out,x8,x9,I (0:Nat),I sp] (J++ [.loop (spaceL szF those fill) [rowOf eWn ws,rowOf eSz s,ints a,B f1,B f2,bools g,I k,ints out,x8,x9]]) r:=by
 have h2:∀x,(J++ [x])[2]? =some x:=fun x=>by rw[List.getElem?_append_right (by omega),hJ];rfl
 have t2:∀x:JT,(J++ [x]).take (2+1)=J++ [x]:=fun x=>List.take_of_length_le (by simp;omega)
 have h1:∀x,(J++ [x])[1]? =some (.join b ρb):=fun x=>by rw[List.getElem?_append_left (by omega),hj1]
 have t1:∀x:JT,(J++ [x]).take 1=J.take 1:=fun x=>List.take_append_of_le_length (by omega)
 generalize hcut:(s.drop f).take (t - f)=c at *
 have hcl:c.length=t - f:=by rw[←hcut];simp;omega
 generalize hfin:spaceS size c sp=spF at *
 have key:=xup_ind (n:=t - f) (P:=fun j=>∀sp:Int,spaceS size (c.drop j) sp=spF→Run tr (spaceL szF those fill) [rowOf eWn ws,rowOf eSz s,ints a,B f1,B f2,bools g,I k,ints out,x8,x9,I j,I sp] (J++ [.loop (spaceL szF those fill) [rowOf eWn ws,rowOf eSz s,ints a,B f1,B f2,bools g,I k,ints out,x8,x9]]) r) ?_ 0 (Nat.zero_le _)
 · exact key sp (by simpa using hfin)
 intro j hj ih sp hsp
 rw[u_spaceL]
 by_cases h:j < t - f
 · have hc:(j:Int) < (t:Int) - (f:Int):=by omega
   have hfj:f+j < s.length:=by omega
   have e:(f:Int)+(j:Int)=((f+j:Nat):Int):=by omega
   have hx:=hsz s[f+j]
   have hcj:c[j]'(by omega)=s[f+j]:=by simp[←hcut]
   rw[List.drop_eq_getElem_cons (by omega:j < c.length)]at hsp
   simp only[spaceS]at hsp
   rw[hcj]at hsp
   have ih':=ih h _ hsp
   simp (disch:=first | omega | (simp only[ln0];omega)) only[rs,reduceIte,Nat.reduceAdd,wn_at0,wn_at1,hk,hf,ht,hc,e,szs,hfj,xcall_of hx]
   rw[h2,jmp_loop,t2]
   simp (disch:=first | omega | (simp only[ln0];omega)) only[rs,reduceIte,Nat.reduceAdd]
   exact ih'
 · obtain rfl:j=t - f:=by omega
   rw[List.drop_of_length_le (by omega)]at hsp
   simp only[spaceS]at hsp
   subst hsp
   have hc:¬ (((t - f:Nat):Int) < (t:Int) - (f:Int)):=by omega
   simp (disch:=first | omega | (simp only[ln0];omega)) only[rs,reduceIte,Nat.reduceAdd,wn_at0,wn_at1,hk,hf,ht,hc]
   exact those_run hth hfill hs _ (by simp;omega) b ρb (h1 _) k hk out hol x8 x9 (I (t - f:Nat)) sp f t hf ht hft hts (by rw[t1];exact hK)
theorem gaps_run (k:Nat) (hk:k < ws.length) (x7 x8:PV) (f t:Nat) (hf:ws[k].fm=(f:Int)) (ht:ws[k].to=(t:Int)) (hft:f < t) (hts:t≤a.length) (ha:a.length≤50000) :
    Run tr (gapsT 9 W0 W1 (v 2)) [rowOf eWn ws,rowOf eSz s,ints a,B f1,B f2,bools g,I k,x7,x8] [] [I (gapsI a ws[k])]:=by
 unfold gapsI
 rw[hf,ht]
 simp only[Int.toNat_natCast]
 generalize hb:(a.drop (f+1)).take (t - (f+1))=bl
 have eb:((a.map eI).drop ((f:Int)+1).toNat).take ((t:Int) - ((f:Int)+1)).toNat=bl.map eI:=by
  rw[row_cut,←hb]
  congr 2 <;> (try congr 1) <;> omega
 have hbl:bl.length≤1000000:=by rw[←hb];simp;omega
 have l2:∀j,j≤bl.length→∀acc,Run tr (gapsL 9 W0 W1 (v 2)) [rowOf eWn ws,rowOf eSz s,ints a,B f1,B f2,bools g,I k,x7,x8,I j,I acc] [.loop (gapsL 9 W0 W1 (v 2)) [rowOf eWn ws,rowOf eSz s,ints a,B f1,B f2,bools g,I k,x7,x8]] [I (gapsW (bl.drop j) acc)]:=by
  refine xup_ind fun j hj ih acc=>?_
  rw[u_gapsL]
  by_cases h:j < bl.length
  · rw[List.drop_eq_getElem_cons h]
    simp (disch:=first | omega | (simp only[ln0];omega)) only[rs,reduceIte,Nat.reduceAdd,wn_at0,wn_at1,hk,hf,ht,eb,h]
    exact ih h _
  · rw[List.drop_of_length_le (by omega)]
    simp (disch:=first | omega | (simp only[ln0];omega)) only[rs,reduceIte,Nat.reduceAdd,wn_at0,wn_at1,hk,hf,ht,eb,h]
    rfl
 unfold gapsT
 simp (disch:=first | omega | (simp only[ln0];omega)) only[rs,reduceIte,Nat.reduceAdd,wn_at0,wn_at1,hk,hf,ht]
 refine⟨by omega,by omega,by omega,?_⟩
 exact l2 0 (Nat.zero_le _) 0
def WkOk (ws:List Wn) (s:List Sz) (a:List Int) (f1 f2:Bool) (g:List Bool) (wk:T→T) (wanted:Wn→Int):Prop:=
 ∀ (K:T) (k:Nat) (hk:k < ws.length) (x7:PV) (J:List JT) (r:List PV),Run tr K [rowOf eWn ws,rowOf eSz s,ints a,B f1,B f2,bools g,I k,x7,I (wanted ws[k])] J r→Run tr (wk K) [rowOf eWn ws,rowOf eSz s,ints a,B f1,B f2,bools g,I k,x7] J r
theorem give_run {wk:T→T} {wanted:Wn→Int} {those fill:T} {of:Nat→Bool} {share:Int→List Nat→List Int} (szF:Nat) (size:Sz→Int) (hwk:WkOk ws s a f1 f2 g wk wanted) (hsz:∀x,Says tr szF (eSz x) [I (size x)]) (hth:ThOk ws s a f1 f2 g those of) (hfill:FillOk ws s a f1 f2 g fill share)
    (hs:s.length≤50000) (ha:a.length=s.length) (hwl:ws.length≤1000000) (hws:∀w∈ws,InW s.length w) :
    Run tr (giveT wk szF those fill) [rowOf eWn ws,rowOf eSz s,ints a,B f1,B f2,bools g] [] [ints (giveS s a wanted size of share ws (List.replicate s.length 0))]:=by
 have hl:(s.length:Int)≤17592186044416:=by omega
 unfold giveT
 simp (disch:=first | omega | (simp only[ln0];omega)) only[rs,reduceIte,Nat.reduceAdd,hl]
 generalize hfin:giveS s a wanted size of share ws (List.replicate s.length 0)=fin
 have key:=xup_ind (n:=ws.length) (P:=fun j=>∀out:List Int,out.length=s.length→giveS s a wanted size of share (ws.drop j) out=fin→Run tr (giveL wk szF those fill) [rowOf eWn ws,rowOf eSz s,ints a,B f1,B f2,bools g,I j,ints out] [.loop (giveL wk szF those fill) [rowOf eWn ws,rowOf eSz s,ints a,B f1,B f2,bools g]] [ints fin]) ?_ 0 (Nat.zero_le _)
 · exact key _ (by simp) (by simpa using hfin)
 intro k hk ih out hol hg
 rw[u_giveL]
 by_cases h:k < ws.length
 · rw[List.drop_eq_getElem_cons h]at hg
   simp only[giveS]at hg
   obtain⟨hi0,hi1,hi2⟩:=hws _ (List.getElem_mem h)
   obtain⟨f,hf⟩:∃f:Nat,ws[k].fm=f:=⟨ws[k].fm.toNat,by omega⟩
   obtain⟨t,ht⟩:∃t:Nat,ws[k].to=t:=⟨ws[k].to.toNat,by omega⟩
   have ih':=ih h _ (by rw[oneS_len];exact hol) hg
   simp (disch:=first | omega | (simp only[ln0];omega)) only[rs,reduceIte,Nat.reduceAdd,h]
   refine hwk _ k h _ _ _ ?_
   rw[run_seq]
   refine⟨_,gaps_run k h _ _ f t hf ht (by omega) (by omega) (by omega),rfl,?_⟩
   simp (disch:=first | omega | (simp only[ln0];omega)) only[rs,reduceIte,Nat.reduceAdd,wn_at0,wn_at1,h,hf,ht]
   refine⟨by omega,by omega,?_⟩
   refine space_run szF size hsz hth hfill hs [_,_] rfl _ _ rfl k h out hol _ _ _ f t hf ht (by omega) (by omega) ?_
   simp (disch:=first | omega | (simp only[ln0];omega)) only[rs,reduceIte,Nat.reduceAdd]
   simp only[oneS,hf,ht,Int.toNat_natCast]at ih'
   exact ih'
 · rw[List.drop_of_length_le (by omega)]at hg
   simp only[giveS]at hg
   simp (disch:=first | omega | (simp only[ln0];omega)) only[rs,reduceIte,Nat.reduceAdd,h]
   rw[hg]
end
theorem r1_sp (w:Wn):Says tr c_pintrinsic_sizer_rounds_1 [I w.fm,I w.to,I w.least,I w.mn,I w.mx] [I w.least]:=by
 refine Says.of (t:=pintrinsic_sizer_rounds_1) rfl ?_
 rw[u_pintrinsic_sizer_rounds_1]
 simp (disch:=first | omega | (simp only[ln0];omega)) only[rs,reduceIte,Nat.reduceAdd]
theorem r3_sp (w:Wn):Says tr c_pintrinsic_sizer_rounds_3 [I w.fm,I w.to,I w.least,I w.mn,I w.mx] [I w.mx]:=by
 refine Says.of (t:=pintrinsic_sizer_rounds_3) rfl ?_
 rw[u_pintrinsic_sizer_rounds_3]
 simp (disch:=first | omega | (simp only[ln0];omega)) only[rs,reduceIte,Nat.reduceAdd]
theorem r9_sp (w:Wn):Says tr c_pintrinsic_sizer_rounds_9 [I w.fm,I w.to,I w.least,I w.mn,I w.mx] [I w.mn]:=by
 refine Says.of (t:=pintrinsic_sizer_rounds_9) rfl ?_
 rw[u_pintrinsic_sizer_rounds_9]
 simp (disch:=first | omega | (simp only[ln0];omega)) only[rs,reduceIte,Nat.reduceAdd]
theorem sv1_sp (w:Wn):Says tr c_pintrinsic_sizer_several_1 [I w.fm,I w.to,I w.least,I w.mn,I w.mx] [I w.mn]:=by
 refine Says.of (t:=pintrinsic_sizer_several_1) rfl ?_
 rw[u_pintrinsic_sizer_several_1]
 simp (disch:=first | omega | (simp only[ln0];omega)) only[rs,reduceIte,Nat.reduceAdd]
theorem sv2_sp (w:Wn):Says tr c_pintrinsic_sizer_several_2 [I w.fm,I w.to,I w.least,I w.mn,I w.mx] [I w.mx]:=by
 refine Says.of (t:=pintrinsic_sizer_several_2) rfl ?_
 rw[u_pintrinsic_sizer_several_2]
 simp (disch:=first | omega | (simp only[ln0];omega)) only[rs,reduceIte,Nat.reduceAdd]
def looseB (x:Sz):Bool:=decide (x.mx≠1)
def contentB (x:Sz):Bool:=decide (x.mx=4∨x.mx=2)
def of1 (x:Sz):Bool:=decide (x.mn≠1)
def of2 (x:Sz):Bool:=decide (x.mn=3∨x.mn=4)
def of3a (x:Sz):Bool:=decide (x.mn=4)
def of3b (x:Sz):Bool:=decide (x.mn=4∨x.mn=2)
def isFr (x:Sz):Bool:=decide (x.mx=5)
def ownB (x:Sz):Int:=x.base
def ownL (x:Sz):Int:=if x.lim < 1125899906842624 then x.lim else x.base
theorem loose_sp' (x:Sz):Says tr c_intrinsic_loose (eSz x) [B (looseB x)]:=loose_sp x
theorem content_sp (x:Sz):Says tr c_intrinsic_content (eSz x) [B (contentB x)]:=by
 refine Says.of (t:=intrinsic_content) rfl ?_
 rw[u_intrinsic_content]
 simp (disch:=first | omega | (simp only[ln0];omega)) only[rs,reduceIte,Nat.reduceAdd,xbret,contentB,bx,reduceCtorEq,forall_const,ne_eq]
theorem r4_sp (x:Sz):Says tr c_pintrinsic_sizer_rounds_4 (eSz x) [B (of3a x)]:=by
 refine Says.of (t:=pintrinsic_sizer_rounds_4) rfl ?_
 rw[u_pintrinsic_sizer_rounds_4]
 simp (disch:=first | omega | (simp only[ln0];omega)) only[rs,reduceIte,Nat.reduceAdd,xbret,of3a,bx,reduceCtorEq,forall_const,ne_eq]
theorem r6_sp (x:Sz):Says tr c_pintrinsic_sizer_rounds_6 (eSz x) [B (of3b x)]:=by
 refine Says.of (t:=pintrinsic_sizer_rounds_6) rfl ?_
 rw[u_pintrinsic_sizer_rounds_6]
 simp (disch:=first | omega | (simp only[ln0];omega)) only[rs,reduceIte,Nat.reduceAdd,xbret,of3b,bx,reduceCtorEq,forall_const,ne_eq]
theorem r7_sp (x:Sz):Says tr c_pintrinsic_sizer_rounds_7 (eSz x) [B (of1 x)]:=by
 refine Says.of (t:=pintrinsic_sizer_rounds_7) rfl ?_
 rw[u_pintrinsic_sizer_rounds_7]
 simp (disch:=first | omega | (simp only[ln0];omega)) only[rs,reduceIte,Nat.reduceAdd,xbret,of1,bx,reduceCtorEq,forall_const,ne_eq]
theorem r8_sp (x:Sz):Says tr c_pintrinsic_sizer_rounds_8 (eSz x) [B (of2 x)]:=by
 refine Says.of (t:=pintrinsic_sizer_rounds_8) rfl ?_
 rw[u_pintrinsic_sizer_rounds_8]
 simp (disch:=first | omega | (simp only[ln0];omega)) only[rs,reduceIte,Nat.reduceAdd,xbret,of2,bx,reduceCtorEq,forall_const,ne_eq]
theorem sz1_sp (x:Sz):Says tr c_intrinsic_Size_1 (eSz x) [B (isFr x)]:=by
 refine Says.of (t:=intrinsic_Size_1) rfl ?_
 rw[u_intrinsic_Size_1]
 simp (disch:=first | omega | (simp only[ln0];omega)) only[rs,reduceIte,Nat.reduceAdd,xbret,isFr,bx,reduceCtorEq,forall_const,ne_eq]
theorem l2_sp (x:Sz):Says tr c_pintrinsic_sizer_limits_2 (eSz x) [B true]:=by
 refine Says.of (t:=pintrinsic_sizer_limits_2) rfl ?_
 rw[u_pintrinsic_sizer_limits_2]
 simp (disch:=first | omega | (simp only[ln0];omega)) only[rs,reduceIte,Nat.reduceAdd]
theorem b2_sp (x:Sz):Says tr c_pintrinsic_sizer_bases_2 (eSz x) [I (ownB x)]:=by
 refine Says.of (t:=pintrinsic_sizer_bases_2) rfl ?_
 rw[u_pintrinsic_sizer_bases_2]
 simp (disch:=first | omega | (simp only[ln0];omega)) only[rs,reduceIte,Nat.reduceAdd]
 rfl
theorem l1_sp (x:Sz):Says tr c_pintrinsic_sizer_limits_1 (eSz x) [I (ownL x)]:=by
 refine Says.of (t:=pintrinsic_sizer_limits_1) rfl ?_
 rw[u_pintrinsic_sizer_limits_1]
 unfold ownL
 simp (disch:=first | omega | (simp only[ln0];omega)) only[rs,reduceIte,Nat.reduceAdd]
 refine br_split ?_ ?_ <;> intro _ <;> rename_i h <;> simp[h]
theorem clone_sp (s:List Sz) (hs:s.length≤1000000):Says tr c_slices_Clone___api_Sizing_api_Sizing_ [rowOf eSz s] [rowOf eSz s]:=by
 refine Says.of (t:=slices_Clone___api_Sizing_api_Sizing_) rfl ?_
 rw[u_slices_Clone___api_Sizing_api_Sizing_]
 rw[run_any]
 have h:((0:Int)+(s.length:Int))≤4294967296:=by omega
 constructor
 · simp (disch:=first | omega | (simp only[ln0];omega)) only[rs,reduceIte,Nat.reduceAdd,h,bx,reduceCtorEq,forall_const,ne_eq]
   refine br_split ?_ ?_ <;> intro _
   · rename_i hx
     have:s=[]:=List.length_eq_zero_iff.1 (by omega)
     subst this
     rfl
   · first | rfl | trivial | exact⟨by omega,rfl⟩
 · simp (disch:=first | omega | (simp only[ln0];omega)) only[rs,reduceIte,Nat.reduceAdd,h,bx,reduceCtorEq,forall_const,ne_eq]
   first | done | rfl | trivial | exact⟨by omega,rfl⟩
section
variable {ws:List Wn} {s:List Sz} {a:List Int} {f1 f2:Bool} {g:List Bool}
theorem th1F_ok (ofF:Nat) (of:Sz→Bool) (hof:∀x,Says tr ofF (eSz x) [B (of x)]):ThOk ws s a f1 f2 g (those1F ofF) (fun i=>of (atS s i)&& isFr (atS s i)):=by
 intro J b ρb r x6 x7 x8 x9 x10 x11 i who hJ hi hl hK
 have h:=hof s[i]
 have h4:∀x,(J++ [x])[4]? =some x:=fun x=>by rw[List.getElem?_append_right (by omega),hJ];rfl
 have t4:∀x:JT,(J++ [x]).take 4=J:=fun x=>by rw[List.take_append_of_le_length (by omega),List.take_of_length_le (by omega)]
 have hl2:(who.length:Int)+1≤4294967296:=by omega
 simp only[atS_lt hi,isFr,Bool.and_eq_true,decide_eq_true_eq]at hK
 unfold those1F
 simp (disch:=first | omega | (simp only[ln0];omega)) only[rs,reduceIte,Nat.reduceAdd,hi,szs,xcall_of h,bx,reduceCtorEq,forall_const,ne_eq]
 refine br_split ?_ ?_ <;> intro _
 · rename_i hx
   rw[if_pos hx]at hK
   have e:ints (who.map Int.ofNat++ [(i:Int)])=nats (who++ [i]):=by simp only[nats,List.map_append,List.map_cons,List.map_nil,Int.ofNat_eq_natCast]
   rw[←e]at hK
   simp (disch:=first | omega | (simp only[ln0];omega)) only[rs,reduceIte,Nat.reduceAdd,hl2,h4,t4]
   first | exact hK | exact⟨by omega,hK⟩
 · rename_i hx
   rw[if_neg hx]at hK
   simp (disch:=first | omega | (simp only[ln0];omega)) only[rs,reduceIte,Nat.reduceAdd,h4,t4]
   exact hK
theorem th2F_ok (ofF ofG:Nat) (of og:Sz→Bool) (hof:∀x,Says tr ofF (eSz x) [B (of x)]) (hog:∀x,Says tr ofG (eSz x) [B (og x)]):ThOk ws s a f1 f2 g (those2F ofF ofG) (fun i=>(if f2 then of (atS s i)else og (atS s i))&& isFr (atS s i)):=by
 intro J b ρb r x6 x7 x8 x9 x10 x11 i who hJ hi hl hK
 have h:=hof s[i]
 have h':=hog s[i]
 have h4:∀x,(J++ [x])[4]? =some x:=fun x=>by rw[List.getElem?_append_right (by omega),hJ];rfl
 have h5:∀x y,(J++ [x,y])[5]? =some y:=fun x y=>by rw[List.getElem?_append_right (by omega),hJ];rfl
 have h5':∀x y,((J++ [x])++ [y])[5]? =some y:=fun x y=>by rw[List.append_assoc];exact h5 x y
 have t4:∀x:JT,(J++ [x]).take 4=J:=fun x=>by rw[List.take_append_of_le_length (by omega),List.take_of_length_le (by omega)]
 have t5:∀x y:JT,(J++ [x,y]).take 5=J++ [x]:=fun x y=>by rw[show [x,y]=[x]++ [y]from rfl,←List.append_assoc,List.take_append_of_le_length (by simp;omega),List.take_of_length_le (by simp;omega)]
 have t5':∀x y:JT,((J++ [x])++ [y]).take 5=J++ [x]:=fun x y=>by rw[List.append_assoc];exact t5 x y
 have hl2:(who.length:Int)+1≤4294967296:=by omega
 simp only[atS_lt hi]at hK
 have fin:∀c:Bool,c=((if f2=true then of s[i]else og s[i])&& isFr s[i])→Run tr pushJ [rowOf eWn ws,rowOf eSz s,ints a,B f1,B f2,bools g,x6,x7,x8,x9,x10,x11,I i,nats who,B c] (J++ [.join b ρb]) r:=by
  intro c hc
  rw[←hc]at hK
  rw[u_pushJ]
  simp (disch:=first | omega | (simp only[ln0];omega)) only[rs,reduceIte,Nat.reduceAdd]
  refine br_split ?_ ?_ <;> intro _
  · rename_i hx
    rw[if_pos hx]at hK
    have e:ints (who.map Int.ofNat++ [(i:Int)])=nats (who++ [i]):=by simp only[nats,List.map_append,List.map_cons,List.map_nil,Int.ofNat_eq_natCast]
    rw[←e]at hK
    simp (disch:=first | omega | (simp only[ln0];omega)) only[rs,reduceIte,Nat.reduceAdd,hl2,h4,t4]
    first | exact hK | exact⟨by omega,hK⟩
  · rename_i hx
    rw[if_neg hx]at hK
    simp (disch:=first | omega | (simp only[ln0];omega)) only[rs,reduceIte,Nat.reduceAdd,h4,t4]
    exact hK
 have e5:(s[i].mx == 5)=isFr s[i]:=by simp only[isFr];by_cases h:s[i].mx=5 <;> simp[h]
 unfold those2F
 simp (disch:=first | omega | (simp only[ln0];omega)) only[rs,reduceIte,Nat.reduceAdd,hi,szs]
 refine br_split ?_ ?_ <;> intro _
 · rename_i hx
   simp (disch:=first | omega | (simp only[ln0];omega)) only[rs,reduceIte,Nat.reduceAdd,szs,hi,xcall_of h,h5,t5,h5',t5',e5]
   exact fin _ (by rw[if_pos hx])
 · rename_i hx
   simp (disch:=first | omega | (simp only[ln0];omega)) only[rs,reduceIte,Nat.reduceAdd,szs,hi,xcall_of h',h5,t5,h5',t5',e5]
   exact fin _ (by rw[if_neg hx])
theorem outF_run (J:List JT) (hJ:J.length=5) (b:T) (ρb:List PV) (hj:J[1]? =some (.join b ρb)) {r:List PV} (k:Nat) (out0:List Int) (x8 x9 x10 x11 x12:PV) (who:List Nat) (x14 x15:PV) (l:List Int) (hl:l.length=who.length) (hlen:who.length≤100000)
    (out:List Int) (hw:∀i∈who,i < out.length)
    (hK:Run tr b (ρb++ [ints (outU who l out)]) (J.take 1) r) :
    Run tr outFL [rowOf eWn ws,rowOf eSz s,ints a,B f1,B f2,bools g,I k,ints out0,x8,x9,x10,x11,x12,nats who,x14,x15,ints l,I (0:Nat),ints out] (J++ [.loop outFL [rowOf eWn ws,rowOf eSz s,ints a,B f1,B f2,bools g,I k,ints out0,x8,x9,x10,x11,x12,nats who,x14,x15,ints l]]) r:=by
 have h6:∀x,(J++ [x])[5]? =some x:=fun x=>by rw[List.getElem?_append_right (by omega),hJ];rfl
 have h1:∀x,(J++ [x])[1]? =some (.join b ρb):=fun x=>by rw[List.getElem?_append_left (by omega),hj]
 have t6:∀x,(J++ [x]).take (5+1)=J++ [x]:=fun x=>List.take_of_length_le (by simp;omega)
 have t1:∀x:JT,(J++ [x]).take 1=J.take 1:=fun x=>List.take_append_of_le_length (by omega)
 have key:=xup_ind (n:=l.length) (P:=fun j=>∀out:List Int,(∀i∈who,i < out.length)→Run tr b (ρb++ [ints (outU (who.drop j) (l.drop j) out)]) (J.take 1) r→Run tr outFL [rowOf eWn ws,rowOf eSz s,ints a,B f1,B f2,bools g,I k,ints out0,x8,x9,x10,x11,x12,nats who,x14,x15,ints l,I j,ints out] (J++ [.loop outFL [rowOf eWn ws,rowOf eSz s,ints a,B f1,B f2,bools g,I k,ints out0,x8,x9,x10,x11,x12,nats who,x14,x15,ints l]]) r) ?_ 0 (Nat.zero_le _)
 · exact key out hw (by simpa using hK)
 intro j hj ih out hw hK
 rw[u_outFL]
 by_cases h:j < l.length
 · have hjw:j < who.length:=by omega
   rw[List.drop_eq_getElem_cons h,List.drop_eq_getElem_cons hjw]at hK
   simp only[outU]at hK
   have hi:=hw _ (List.getElem_mem hjw)
   have hg:out.getD who[j] 0=out[who[j]]:=by simp[hi]
   rw[hg]at hK
   have ih':=ih h _ (fun i hi=>by rw[List.length_set];exact hw i hi) hK
   simp (disch:=first | omega | (simp only[ln0];omega)) only[rs,reduceIte,Nat.reduceAdd,h,hjw,List.getElem_map,Int.ofNat_eq_natCast,hi]
   rw[h6,jmp_loop,t6]
   simp (disch:=first | omega | (simp only[ln0];omega)) only[rs,reduceIte,Nat.reduceAdd]
   exact ih'
 · obtain rfl:j=l.length:=by omega
   rw[List.drop_of_length_le (by omega),List.drop_of_length_le (Nat.le_refl _)]at hK
   simp only[outU]at hK
   simp (disch:=first | omega | (simp only[ln0];omega)) only[rs,reduceIte,Nat.reduceAdd,Nat.lt_irrefl]
   rw[h1,jmp_join,t1]
   exact hK
theorem partsS_len (n all:Int):∀ (ws:List Int) (was sum:Int),(partsS n all was sum ws).length=ws.length
 | [],_,_=>rfl
 | w::r,was,sum=>by simp[partsS,partsS_len n all r]
theorem byS_length (S:Int) (l:List Int):(byS S l).length=l.length:=by
 unfold byS
 split
 · split
   · rename_i h
     unfold shareS at h ⊢
     split <;> rename_i h1 <;> simp only[h1,if_true,if_false,not_false_eq_true]at h
     · simp at h
     · split <;> rename_i h2 <;> simp only[h2,if_true,if_false,not_false_eq_true]at h
       · simp at h
       · split <;> rename_i h3 <;> simp only[h3,if_true,if_false,not_false_eq_true]at h
         · simp at h
         · exact partsS_len _ _ _ _ _
   · split
     · rename_i h
       unfold splitS at h ⊢
       split <;> rename_i h1 <;> simp only[h1,if_true,if_false,not_false_eq_true]at h
       · simp at h
       · simp
     · simp
 · simp
def shareB (s:List Sz) (space:Int) (who:List Nat):List Int:=byS space (who.map fun i=>(atS s i).fr)
theorem fillF_ok:FillOk ws s a f1 f2 g fillTF (shareB s):=by
 intro J b ρb r k out x8 x9 x10 x12 sp who hJ hj hlen hw hws hK
 have h6:∀x,(J++ [x])[4]? =some x:=fun x=>by
  rw[List.getElem?_append_right (by omega),hJ];rfl
 have h1:∀x,(J++ [x])[1]? =some (.join b ρb):=fun x=>by rw[List.getElem?_append_left (by omega),hj]
 have t6:∀x,(J++ [x]).take (4+1)=J++ [x]:=fun x=>List.take_of_length_le (by simp;omega)
 have t1:∀x:JT,(J++ [x]).take 1=J.take 1:=fun x=>List.take_append_of_le_length (by omega)
 have a1:(who.length:Int)≤17592186044416:=by omega
 unfold fillTF
 simp (disch:=first | omega | (simp only[ln0];omega)) only[rs,reduceIte,Nat.reduceAdd,List.length_map,a1]
 have hr1:(who.map fun i=>(atS s i).fr).length=(List.replicate who.length (0:Int)).length:=by simp
 have hrl:(List.replicate who.length (0:Int)).length=who.length:=by simp
 have key:=xup_ind (n:=who.length) (P:=fun j=>Run tr wgtL [rowOf eWn ws,rowOf eSz s,ints a,B f1,B f2,bools g,I k,ints out,x8,x9,x10,I sp,x12,nats who,I j,ints (mix (who.map fun i=>(atS s i).fr) (List.replicate who.length 0) j)] (J++ [.loop wgtL [rowOf eWn ws,rowOf eSz s,ints a,B f1,B f2,bools g,I k,ints out,x8,x9,x10,I sp,x12,nats who]]) r) ?_ 0 (Nat.zero_le _)
 · simpa [mix_zero]using key
 intro j hj ih
 rw[u_wgtL]
 have hm1:(mix (who.map fun i=>(atS s i).fr) (List.replicate who.length (0:Int)) j).length=who.length:=by rw[mix_len hr1 j,hrl]
 by_cases h:j < who.length
 · have hi:=hws _ (List.getElem_mem h)
   have ih':=ih h
   have hset1:=mix_set hr1 (i:=j) (by omega) (v:=s[who[j]].fr) (by simp[atS_lt hi])
   rw[←hset1]at ih'
   simp (disch:=first | omega | (simp only[ln0];omega)) only[rs,reduceIte,Nat.reduceAdd,h,List.getElem_map,Int.ofNat_eq_natCast,hi,szs,hm1]
   rw[h6,jmp_loop,t6]
   simp (disch:=first | omega | (simp only[ln0];omega)) only[rs,reduceIte,Nat.reduceAdd]
   exact ih'
 · obtain rfl:j=who.length:=by omega
   simp (disch:=first | omega | (simp only[ln0];omega)) only[rs,reduceIte,Nat.reduceAdd,Nat.lt_irrefl,List.length_map]
   have e1:mix (who.map fun i=>(atS s i).fr) (List.replicate who.length (0:Int)) who.length=who.map fun i=>(atS s i).fr:=mix_full' hr1 (by omega)
   rw[e1]
   simp (disch:=first | omega | (simp only[ln0];omega)) only[rs,reduceIte,Nat.reduceAdd,xcall_of (by_sp sp (who.map fun i=>(atS s i).fr) (by simp;omega))]
   exact outF_run _ (by simp;omega) b ρb (h1 _) k out x8 x9 x10 (I sp) (x12) who (I who.length) (ints (who.map fun i=>(atS s i).fr)) _ (by rw[byS_length];simp) (by omega) out hw (by rw[t1];exact hK)
end
def limI' (s:List Sz) (a:List Int) (w:Wn) (n:Int):Int:=limG w n ((s.drop w.fm.toNat).take (w.to.toNat - w.fm.toNat)) (gapsI a w)
def wanted1 (s:List Sz) (a:List Int) (f1:Bool) (w:Wn):Int:=if f1 then limI' s a w w.mn else w.least
def wanted3 (s:List Sz) (a:List Int) (f1:Bool) (w:Wn):Int:=if f1 then limI' s a w w.mx else w.mx
section
variable {ws:List Wn} {s:List Sz} {a:List Int} {f1 f2:Bool} {g:List Bool}
theorem wkC_ok (fb:Nat) (wanted:Wn→Int) (h:∀w:Wn,Says tr fb [I w.fm,I w.to,I w.least,I w.mn,I w.mx] [I (wanted w)]):WkOk ws s a f1 f2 g (wkC fb) wanted:=by
 intro K k hk x7 J r hK
 unfold wkC
 simp (disch:=first | omega | (simp only[ln0];omega)) only[rs,reduceIte,Nat.reduceAdd,wn_at0,wn_at1,wn_at2,wn_at3,wn_at4,hk,xcall_of (h _)]
 exact hK
theorem lim_run (ni:Nat) (sel:Wn→Int) (hni:∀ (k:Nat) (hk:k < ws.length),cellAt (ws.map eWn) (k:Int) ni (.int .i64)=I (sel ws[k])) (k:Nat) (hk:k < ws.length) (x7:PV) (f t:Nat) (hf:ws[k].fm=(f:Int)) (ht:ws[k].to=(t:Int)) (hft:f < t) (hts:t≤s.length) (hal:a.length=s.length) (hs:s.length≤50000) :
    Run tr (.letj limJ (asr (le (n 0) (add W0 (n 1))) (asr (le (add W0 (n 1)) W1) (asr (le W1 (len (v 2))) (.loop [n 0,n 0] (limL1 ni)))))) [rowOf eWn ws,rowOf eSz s,ints a,B f1,B f2,bools g,I k,x7] [] [I (limI' s a ws[k] (sel ws[k]))]:=by
 unfold limI' gapsI
 rw[hf,ht]
 simp only[Int.toNat_natCast]
 generalize hb:(a.drop (f+1)).take (t - (f+1))=bl
 generalize hc:(s.drop f).take (t - f)=c
 have eb:((a.map eI).drop ((f:Int)+1).toNat).take ((t:Int) - ((f:Int)+1)).toNat=bl.map eI:=by
  rw[row_cut,←hb]
  congr 2 <;> (try congr 1) <;> omega
 have ec:((s.map eSz).drop f).take ((t:Int) - (f:Int)).toNat=c.map eSz:=by
  rw[row_cut,←hc]
  congr 2;omega
 have hbl:bl.length≤1000000:=by rw[←hb];simp;omega
 have hcl:c.length≤1000000:=by rw[←hc];simp;omega
 have hk0:=hni k hk
 have l3:∀ (x8 x9:PV) (J1:JT) j,j≤c.length→∀most,Run tr (limL2 ni) [rowOf eWn ws,rowOf eSz s,ints a,B f1,B f2,bools g,I k,x7,x8,x9,I j,I most] [.join limJ [rowOf eWn ws,rowOf eSz s,ints a,B f1,B f2,bools g,I k,x7],J1,.loop (limL2 ni) [rowOf eWn ws,rowOf eSz s,ints a,B f1,B f2,bools g,I k,x7,x8,x9]] [I (limG ws[k] (sel ws[k]) (c.drop j) most)]:=by
  intro x8 x9 J1
  refine xup_ind fun j hj ih most=>?_
  rw[u_limL2]
  by_cases h:j < c.length
  · rw[List.drop_eq_getElem_cons h]
    have h1:=loose_sp c[j]
    have h2:=limit_sp c[j]
    simp (disch:=first | omega | (simp only[ln0];omega)) only[rs,reduceIte,Nat.reduceAdd,wn_at0,wn_at1,wn_at2,hk,hf,ht,hk0,ec,h,szs,xcall_of h1,xcall_of h2,u_limJ,bx,reduceCtorEq,forall_const,ne_eq]
    simp only[limG]
    by_cases hx:c[j].mx≠1∧c[j].fit=false
    · rw[br_pos (by simpa using hx),if_pos hx]
    · rw[br_neg (by simpa using hx),if_neg hx]
      exact ih h _
  · simp (disch:=first | omega | (simp only[ln0];omega)) only[rs,reduceIte,Nat.reduceAdd,wn_at0,wn_at1,wn_at2,hk,hf,ht,hk0,ec,h,u_limJ]
    rw[List.drop_of_length_le (by omega)]
    rfl
 have l2:∀j,j≤bl.length→∀acc,Run tr (limL1 ni) [rowOf eWn ws,rowOf eSz s,ints a,B f1,B f2,bools g,I k,x7,I j,I acc] [.join limJ [rowOf eWn ws,rowOf eSz s,ints a,B f1,B f2,bools g,I k,x7],.loop (limL1 ni) [rowOf eWn ws,rowOf eSz s,ints a,B f1,B f2,bools g,I k,x7]] [I (limG ws[k] (sel ws[k]) c (gapsW (bl.drop j) acc))]:=by
  refine xup_ind fun j hj ih acc=>?_
  rw[u_limL1]
  by_cases h:j < bl.length
  · rw[List.drop_eq_getElem_cons h]
    simp (disch:=first | omega | (simp only[ln0];omega)) only[rs,reduceIte,Nat.reduceAdd,wn_at0,wn_at1,hk,hf,ht,eb,h]
    exact ih h _
  · rw[List.drop_of_length_le (by omega)]
    simp (disch:=first | omega | (simp only[ln0];omega)) only[rs,reduceIte,Nat.reduceAdd,wn_at0,wn_at1,hk,hf,ht,eb,h]
    refine⟨by omega,by omega,?_⟩
    have:=l3 (I j) (I acc) (.loop (limL1 ni) [rowOf eWn ws,rowOf eSz s,ints a,B f1,B f2,bools g,I k,x7]) 0 (Nat.zero_le _) acc
    simpa [gapsW]using this
 simp (disch:=first | omega | (simp only[ln0];omega)) only[rs,reduceIte,Nat.reduceAdd,wn_at0,wn_at1,hk,hf,ht]
 refine⟨by omega,by omega,by omega,?_⟩
 exact l2 0 (Nat.zero_le _) 0
theorem wkL_ok (ni fb:Nat) (sel low:Wn→Int) (hni:∀ (k:Nat) (hk:k < ws.length),cellAt (ws.map eWn) (k:Int) ni (.int .i64)=I (sel ws[k])) (h:∀w:Wn,Says tr fb [I w.fm,I w.to,I w.least,I w.mn,I w.mx] [I (low w)])
    (hal:a.length=s.length) (hs:s.length≤50000) (hws:∀w∈ws,InW s.length w):WkOk ws s a f1 f2 g (wkL ni fb) (fun w=>if f1 then limI' s a w (sel w)else low w):=by
 intro K k hk x7 J r hK
 obtain⟨hi0,hi1,hi2⟩:=hws _ (List.getElem_mem hk)
 obtain⟨f,hf⟩:∃f:Nat,ws[k].fm=f:=⟨ws[k].fm.toNat,by omega⟩
 obtain⟨t,ht⟩:∃t:Nat,ws[k].to=t:=⟨ws[k].to.toNat,by omega⟩
 unfold wkL limT
 rw[run_seq]
 refine⟨[I (if f1=true then limI' s a ws[k] (sel ws[k])else low ws[k])],?_,rfl,hK⟩
 rw[run_ite]
 simp only[xden_var,List.getD_cons_zero,List.getD_cons_succ,b_bool]
 refine br_split ?_ ?_ <;> intro _
 · rename_i hx
   rw[if_pos hx]
   exact lim_run ni sel hni k hk x7 f t hf ht (by omega) (by omega) hal hs
 · rename_i hx
   rw[if_neg hx]
   simp (disch:=first | omega | (simp only[ln0];omega)) only[rs,reduceIte,Nat.reduceAdd,wn_at0,wn_at1,wn_at2,wn_at3,wn_at4,hk,xcall_of (h _)]
end
def roomB (s:List Sz) (i:Nat):Int:=max 0 (IntKind.i64.wrap (limit (atS s i) - (atS s i).base))
def roomL (s:List Sz) (g:List Bool) (i:Nat):Int:=if g.getD i false=true∨(atS s i).lim=1125899906842624 then 1125899906842624 else 0
section
variable {ws:List Wn} {s:List Sz} {a:List Int} {f1 f2:Bool} {g:List Bool}
theorem roomB_run (k:Nat) (out:List Int) (x8 x9 x10 x12:PV) (sp:Int) (who:List Nat) (hw:∀i∈who,i < s.length) (j:Nat) (hj:j < who.length) (y15 y16 y17:PV):Run tr roomBT [rowOf eWn ws,rowOf eSz s,ints a,B f1,B f2,bools g,I k,ints out,x8,x9,x10,I sp,x12,nats who,I j,y15,y16,y17] [] [I (roomB s who[j])]:=by
 have hi:=hw _ (List.getElem_mem hj)
 have h:=limit_sp s[who[j]]
 unfold roomBT roomB
 rw[atS_lt hi]
 simp (disch:=first | omega | (simp only[ln0];omega)) only[rs,reduceIte,Nat.reduceAdd,hj,List.getElem_map,Int.ofNat_eq_natCast,hi,szs,xcall_of h,on_ar,ar_sub]
theorem roomL_run (hg:g.length=s.length) (k:Nat) (out:List Int) (x8 x9 x10 x12:PV) (sp:Int) (who:List Nat) (hw:∀i∈who,i < s.length) (j:Nat) (hj:j < who.length) (y15 y16 y17:PV):Run tr roomLT [rowOf eWn ws,rowOf eSz s,ints a,B f1,B f2,bools g,I k,ints out,x8,x9,x10,I sp,x12,nats who,I j,y15,y16,y17] [] [I (roomL s g who[j])]:=by
 have hi:=hw _ (List.getElem_mem hj)
 have hig:who[j] < g.length:=by omega
 have hgd:g.getD who[j] false=g[who[j]]:=by simp[hig]
 unfold roomLT roomL
 rw[atS_lt hi,hgd]
 simp (disch:=first | omega | (simp only[ln0];omega)) only[rs,reduceIte,Nat.reduceAdd,hj,List.getElem_map,Int.ofNat_eq_natCast,hi,hig,szs,u_roomLJ,bx,reduceCtorEq,forall_const,ne_eq,or_true]
 refine br_split ?_ ?_ <;> intro _
 · rename_i hx
   rw[if_pos hx]
 · rename_i hx
   rw[if_neg hx]
def addS:List Sz→List Int→List Sz
 | x::s,n::l=>{ x with base:=IntKind.i64.wrap (x.base+n) }::addS s l
 | s,_=>s
theorem addS_len:∀ (s:List Sz) (l:List Int),(addS s l).length=s.length
 | x::s,n::l=>by simp[addS,addS_len s l]
 | [],_=>rfl
 | _::_,[]=>rfl
theorem addS_at:∀ (s:List Sz) (l:List Int) (hl:l.length=s.length) (i:Nat) (h:i < s.length),(addS s l)[i]'(by rw[addS_len];exact h)= { s[i]with base:=IntKind.i64.wrap (s[i].base+l[i]'(by omega)) }
 | x::s,n::l,hl,i,h=>by
  cases i with
  | zero=>rfl
  | succ i=>simpa [addS]using addS_at s l (by simpa using hl) i (by simpa using h)
 | [],_,_,i,h=>by simp at h
theorem add_run (s:List Sz) (l:List Int) (hl:l.length=s.length) (hs:s.length≤1000000):Run tr addT [rowOf eSz s,ints l] [] [rowOf eSz (addS s l)]:=by
 unfold addT
 have hal:(addS s l).length=s.length:=addS_len s l
 have key:=xup_ind (n:=s.length) (P:=fun j=>Run tr addL [rowOf eSz s,ints l,I j,rowOf eSz (mix (addS s l) s j)] [.loop addL [rowOf eSz s,ints l]] [rowOf eSz (addS s l)]) ?_ 0 (Nat.zero_le _)
 · simp (disch:=first | omega | (simp only[ln0];omega)) only[rs,reduceIte,Nat.reduceAdd]
   simpa [mix_zero]using key
 intro j hj ih
 rw[u_addL]
 have hml:(mix (addS s l) s j).length=s.length:=mix_len hal j
 by_cases h:j < s.length
 · have hjl:j < l.length:=by omega
   have hat:(mix (addS s l) s j)[j]'(by omega)=s[j]:=mix_at hal h (by omega)
   have hmod:=mix_modify (f:=fun y=>{ y with base:=IntKind.i64.wrap (s[j].base+l[j]) }) hal h (by rw[addS_at s l hl j h])
   have ih':=ih h
   rw[←hmod]at ih'
   simp (disch:=first | omega | (simp only[ln0];omega)) only[rs,reduceIte,Nat.reduceAdd,h,hjl,hml,szs,hat,on_ar,ar_add]
   exact ih'
 · obtain rfl:j=s.length:=by omega
   simp (disch:=first | omega | (simp only[ln0];omega)) only[rs,reduceIte,Nat.reduceAdd,hl,Nat.lt_irrefl,mix_full hal]
def raise1 (x:Sz):Sz:={ x with lim:=max x.lim x.base }
theorem raise_run (s:List Sz) (hs:s.length≤1000000):Run tr raiseT [rowOf eSz s] [] [rowOf eSz (s.map raise1)]:=by
 unfold raiseT
 have hal:(s.map raise1).length=s.length:=by simp
 have key:=xup_ind (n:=s.length) (P:=fun j=>Run tr raiseL [rowOf eSz s,I j,rowOf eSz (mix (s.map raise1) s j)] [.loop raiseL [rowOf eSz s]] [rowOf eSz (s.map raise1)]) ?_ 0 (Nat.zero_le _)
 · simp (disch:=first | omega | (simp only[ln0];omega)) only[rs,reduceIte,Nat.reduceAdd]
   simpa [mix_zero]using key
 intro j hj ih
 rw[u_raiseL]
 have hml:(mix (s.map raise1) s j).length=s.length:=mix_len hal j
 by_cases h:j < s.length
 · have hat:(mix (s.map raise1) s j)[j]'(by omega)=s[j]:=mix_at hal h (by omega)
   have hset:=mix_set hal h (v:=raise1 s[j]) (by simp)
   have ih':=ih h
   rw[←hset]at ih'
   have hr:=braise_sp s[j]
   simp (disch:=first | omega | (simp only[ln0];omega)) only[rs,reduceIte,Nat.reduceAdd,h,hml,szs,hat,xcall_of hr]
   exact ih'
 · obtain rfl:j=s.length:=by omega
   simp (disch:=first | omega | (simp only[ln0];omega)) only[rs,reduceIte,Nat.reduceAdd,Nat.lt_irrefl,mix_full hal]
end
def markS (s:List Sz):List Nat→List Bool→List Bool
 | [],had=>had
 | i::r,had=>markS s r (if(atS s i).lim=1125899906842624 then had.set i true else had)
theorem markS_len (s:List Sz):∀ (who:List Nat) (had:List Bool),(markS s who had).length=had.length
 | [],_=>rfl
 | i::r,had=>by
  simp only[markS]
  rw[markS_len s r]
  split <;> simp
def hadS (s:List Sz) (of:Nat→Bool):List Wn→List Bool→List Bool
 | [],had=>had
 | w::ws,had=>hadS s of ws (markS s (whoU of (w.to.toNat - w.fm.toNat) w.fm.toNat) had)
theorem hadS_len (s:List Sz) (of:Nat→Bool):∀ (ws:List Wn) (had:List Bool),(hadS s of ws had).length=had.length
 | [],_=>rfl
 | w::ws,had=>by simp only[hadS];rw[hadS_len s of ws,markS_len]
theorem had_run (ws:List Wn) (s:List Sz) (ofF:Nat) (of:Sz→Bool) (hof:∀x,Says tr ofF (eSz x) [B (of x)]) (hs:s.length≤50000) (hwl:ws.length≤1000000) (hws:∀w∈ws,InW s.length w) :
    Run tr (hadT ofF) [rowOf eWn ws,rowOf eSz s] [] [bools (hadS s (fun i=>of (atS s i)) ws (List.replicate s.length false))]:=by
 unfold hadT
 simp (disch:=first | omega | (simp only[ln0];omega)) only[rs,reduceIte,Nat.reduceAdd]
 generalize hfin:hadS s (fun i=>of (atS s i)) ws (List.replicate s.length false)=fin
 have mark:∀ (k:Nat) (x4:PV) (had0:List Bool) (who:List Nat) (r:List PV),(∀i∈who,i < s.length)→who.length≤60000→
     (∀y,Run tr (hadL ofF) [rowOf eWn ws,rowOf eSz s,PV.int .i64 ((k:Int)+1),bools (y)] [.loop (hadL ofF) [rowOf eWn ws,rowOf eSz s]] r∨y≠markS s who had0)→had0.length=s.length→k≤1000000→
     ∀J1,Run tr markL [rowOf eWn ws,rowOf eSz s,I k,bools had0,x4,nats who,I (0:Nat),bools had0] [.loop (hadL ofF) [rowOf eWn ws,rowOf eSz s],J1,.loop markL [rowOf eWn ws,rowOf eSz s,I k,bools had0,x4,nats who]] r:=by
  intro k x4 had0 who r hw hwl2 hK hhl hk6 J1
  have key:=xup_ind (n:=who.length) (P:=fun j=>∀had:List Bool,had.length=s.length→markS s (who.drop j) had=markS s who had0→Run tr markL [rowOf eWn ws,rowOf eSz s,I k,bools had0,x4,nats who,I j,bools had] [.loop (hadL ofF) [rowOf eWn ws,rowOf eSz s],J1,.loop markL [rowOf eWn ws,rowOf eSz s,I k,bools had0,x4,nats who]] r) ?_ 0 (Nat.zero_le _)
  · exact key had0 hhl rfl
  intro j hj ih had hl hm
  rw[u_markL]
  by_cases h:j < who.length
  · have hi:=hw _ (List.getElem_mem h)
    rw[List.drop_eq_getElem_cons h]at hm
    simp only[markS,atS_lt hi]at hm
    have ih':=ih h _ (by split <;> simp[hl]) hm
    simp (disch:=first | omega | (simp only[ln0];omega)) only[rs,reduceIte,Nat.reduceAdd,h,List.length_map,List.getElem_map,Int.ofNat_eq_natCast,hi,hl,szs,beq_iff_eq]
    refine br_split ?_ ?_ <;> intro _
    · rename_i hx
      rw[if_pos hx]at ih'
      simp (disch:=first | omega | (simp only[ln0];omega)) only[rs,reduceIte,Nat.reduceAdd,u_markJ,hi,hl]
      exact ih'
    · rename_i hx
      rw[if_neg hx]at ih'
      simp (disch:=first | omega | (simp only[ln0];omega)) only[rs,reduceIte,Nat.reduceAdd,u_markJ]
      exact ih'
  · rw[List.drop_of_length_le (by omega)]at hm
    simp only[markS]at hm
    simp (disch:=first | omega | (simp only[ln0];omega)) only[rs,reduceIte,Nat.reduceAdd,h,List.length_map]
    rcases hK had with h1 | h1
    · exact h1
    · exact absurd hm h1
 have key:=xup_ind (n:=ws.length) (P:=fun k=>∀had:List Bool,had.length=s.length→hadS s (fun i=>of (atS s i)) (ws.drop k) had=fin→Run tr (hadL ofF) [rowOf eWn ws,rowOf eSz s,I k,bools had] [.loop (hadL ofF) [rowOf eWn ws,rowOf eSz s]] [bools fin]) ?_ 0 (Nat.zero_le _)
 · exact key _ (by simp) (by simpa using hfin)
 intro k hk ih had hl hh
 rw[u_hadL]
 by_cases h:k < ws.length
 · obtain⟨hi0,hi1,hi2⟩:=hws _ (List.getElem_mem h)
   obtain⟨f,hf⟩:∃f:Nat,ws[k].fm=f:=⟨ws[k].fm.toNat,by omega⟩
   obtain⟨t,ht⟩:∃t:Nat,ws[k].to=t:=⟨ws[k].to.toNat,by omega⟩
   rw[List.drop_eq_getElem_cons h]at hh
   simp only[hadS,hf,ht,Int.toNat_natCast]at hh
   have hall:=whoU_in (fun i=>of (atS s i)) (t - f) f
   have hlen:=whoU_len (fun i=>of (atS s i)) (t - f) f
   generalize hwa:whoU (fun i=>of (atS s i)) (t - f) f=whoA at *
   have ih':=ih h _ (by rw[markS_len];exact hl) hh
   simp (disch:=first | omega | (simp only[ln0];omega)) only[rs,reduceIte,Nat.reduceAdd,h,wn_at0,wn_at1,hf,ht]
   have key2:=xup_ind (n:=t) (P:=fun j=>f≤j→∀who:List Nat,who++whoU (fun i=>of (atS s i)) (t - j) j=whoA→Run tr (whoHL ofF) [rowOf eWn ws,rowOf eSz s,I k,bools had,I j,nats who] [.loop (hadL ofF) [rowOf eWn ws,rowOf eSz s],.loop (whoHL ofF) [rowOf eWn ws,rowOf eSz s,I k,bools had]] [bools fin]) ?_ f (by omega)
   · exact key2 (Nat.le_refl _) [] (by simpa using hwa)
   intro j hj ih2 hfj who hwho
   rw[u_whoHL]
   have hwl3:who.length≤whoA.length:=by rw[←hwho];simp
   by_cases h2:j < t
   · have hc:(j:Int) < (t:Int):=by omega
     have hjs:j < s.length:=by omega
     have hx:=hof s[j]
     have hl2:(who.length:Int)+1≤4294967296:=by omega
     have ih2':=ih2 h2 (by omega) (if of s[j]=true then who++ [j]else who) (by
      rw[←hwho,show t - j=(t - (j+1))+1 by omega]
      simp only[whoU,atS_lt hjs]
      split <;> simp)
     simp (disch:=first | omega | (simp only[ln0];omega)) only[rs,reduceIte,Nat.reduceAdd,wn_at0,wn_at1,h,hf,ht,hc,hjs,szs,xcall_of hx]
     refine br_split ?_ ?_ <;> intro _
     · rename_i hy
       rw[if_pos hy]at ih2'
       have e:ints (who.map Int.ofNat++ [(j:Int)])=nats (who++ [j]):=by simp only[nats,List.map_append,List.map_cons,List.map_nil,Int.ofNat_eq_natCast]
       rw[←e]at ih2'
       simp (disch:=first | omega | (simp only[ln0];omega)) only[rs,reduceIte,Nat.reduceAdd,hl2,u_whoHJ]
       first | exact ih2' | exact⟨by omega,ih2'⟩
     · rename_i hy
       rw[if_neg hy]at ih2'
       simp (disch:=first | omega | (simp only[ln0];omega)) only[rs,reduceIte,Nat.reduceAdd,u_whoHJ]
       exact ih2'
   · obtain rfl:j=t:=by omega
     rw[Nat.sub_self]at hwho
     simp only[whoU,List.append_nil]at hwho
     subst hwho
     have hc:¬ (j:Int) < (j:Int):=by omega
     simp (disch:=first | omega | (simp only[ln0];omega)) only[rs,reduceIte,Nat.reduceAdd,wn_at0,wn_at1,h,hf,ht,hc]
     refine mark k (I j) had who _ (fun i hi=>by have:=hall i hi;omega) (by omega) (fun y=>?_) hl (by omega) _
     by_cases hy:y=markS s who had
     · subst hy;exact Or.inl ih'
     · exact Or.inr hy
 · rw[List.drop_of_length_le (by omega)]at hh
   simp only[hadS]at hh
   simp (disch:=first | omega | (simp only[ln0];omega)) only[rs,reduceIte,Nat.reduceAdd,h]
   rw[hh]
def limA1 (x:Sz) (h:Bool) (n:Int):Sz:=if h=true∨x.lim < 1125899906842624 then { x with lim:=IntKind.i64.wrap (ownL x+n) } else x
def limAS:List Sz→List Bool→List Int→List Sz
 | x::s,h::hs,n::l=>limA1 x h n::limAS s hs l
 | s,_,_=>s
theorem limAS_len:∀ (s:List Sz) (h:List Bool) (l:List Int),(limAS s h l).length=s.length
 | x::s,h::hs,n::l=>by simp[limAS,limAS_len s hs l]
 | [],_,_=>by simp[limAS]
 | _::_,[],_=>by simp[limAS]
 | _::_,_::_,[]=>by simp[limAS]
theorem limAS_at:∀ (s:List Sz) (h:List Bool) (l:List Int) (hh:h.length=s.length) (hl:l.length=s.length) (i:Nat) (hi:i < s.length),(limAS s h l)[i]'(by rw[limAS_len];exact hi)=limA1 s[i] (h[i]'(by omega)) (l[i]'(by omega))
 | x::s,h::hs,n::l,hh,hl,i,hi=>by
  cases i with
  | zero=>rfl
  | succ i=>simpa [limAS]using limAS_at s hs l (by simpa using hh) (by simpa using hl) i (by simpa using hi)
 | [],_,_,_,_,i,hi=>by simp at hi
 | _::_,[],_,hh,_,_,_=>by simp at hh
 | _::_,_::_,[],_,hl,_,_=>by simp at hl
theorem limA_run (s:List Sz) (h:List Bool) (l:List Int) (hh:h.length=s.length) (hl:l.length=s.length) (hs:s.length≤1000000):Run tr limAT [rowOf eSz s,bools h,ints l] [] [rowOf eSz (limAS s h l)]:=by
 unfold limAT
 have hal:(limAS s h l).length=s.length:=limAS_len s h l
 have key:=xup_ind (n:=s.length) (P:=fun j=>Run tr limAL [rowOf eSz s,bools h,ints l,I j,rowOf eSz (mix (limAS s h l) s j)] [.loop limAL [rowOf eSz s,bools h,ints l]] [rowOf eSz (limAS s h l)]) ?_ 0 (Nat.zero_le _)
 · simp (disch:=first | omega | (simp only[ln0];omega)) only[rs,reduceIte,Nat.reduceAdd]
   simpa [mix_zero]using key
 intro j hj ih
 rw[u_limAL]
 have hml:(mix (limAS s h l) s j).length=s.length:=mix_len hal j
 by_cases hjs:j < s.length
 · have hjl:j < l.length:=by omega
   have hjh:j < h.length:=by omega
   have hat:(mix (limAS s h l) s j)[j]'(by omega)=s[j]:=mix_at hal hjs (by omega)
   have hla:=limAS_at s h l hh hl j hjs
   have ih':=ih hjs
   have hx:=l1_sp s[j]
   by_cases hc:h[j]=true∨s[j].lim < 1125899906842624
   · have hmod:=mix_modify (f:=fun y=>{ y with lim:=IntKind.i64.wrap (ownL s[j]+l[j]) }) hal hjs (by rw[hla,limA1,if_pos hc])
     rw[←hmod]at ih'
     simp (disch:=first | omega | (simp only[ln0];omega)) only[rs,reduceIte,Nat.reduceAdd,hjs,hjl,hjh,hml,szs,hat,bx,reduceCtorEq,forall_const,ne_eq,or_true,limAL_b]
     rw[br_pos hc]
     simp (disch:=first | omega | (simp only[ln0];omega)) only[rs,reduceIte,Nat.reduceAdd,hjs,hjl,hjh,hml,szs,hat,xcall_of hx,u_limAJ,on_ar,ar_add]
     exact ih'
   · have hset:=mix_set hal hjs (v:=s[j]) (by rw[hla,limA1,if_neg hc])
     have hid:(mix (limAS s h l) s j).set j s[j]=mix (limAS s h l) s j:=by
      conv=>lhs;rw[←hat]
      exact List.set_getElem_self _
     rw[hid]at hset
     rw[←hset]at ih'
     simp (disch:=first | omega | (simp only[ln0];omega)) only[rs,reduceIte,Nat.reduceAdd,hjs,hjl,hjh,hml,szs,hat,bx,reduceCtorEq,forall_const,ne_eq,or_true,limAL_b]
     rw[br_neg hc]
     simp (disch:=first | omega | (simp only[ln0];omega)) only[rs,reduceIte,Nat.reduceAdd,u_limAJ]
     exact ih'
 · obtain rfl:j=s.length:=by omega
   simp (disch:=first | omega | (simp only[ln0];omega)) only[rs,reduceIte,Nat.reduceAdd,hl,Nat.lt_irrefl,mix_full hal]
def fit1 (x:Sz):Sz:=if x.fit=true then { x with lim:=min x.lim (limit x) } else x
theorem fit_run (s:List Sz) (hs:s.length≤1000000):Run tr fitT [rowOf eSz s] [] [rowOf eSz (s.map fit1)]:=by
 unfold fitT
 have hal:(s.map fit1).length=s.length:=by simp
 have key:=xup_ind (n:=s.length) (P:=fun j=>Run tr fitL [rowOf eSz s,I j,rowOf eSz (mix (s.map fit1) s j)] [.loop fitL [rowOf eSz s]] [rowOf eSz (s.map fit1)]) ?_ 0 (Nat.zero_le _)
 · simp (disch:=first | omega | (simp only[ln0];omega)) only[rs,reduceIte,Nat.reduceAdd]
   simpa [mix_zero]using key
 intro j hj ih
 rw[u_fitL]
 have hml:(mix (s.map fit1) s j).length=s.length:=mix_len hal j
 by_cases h:j < s.length
 · have hat:(mix (s.map fit1) s j)[j]'(by omega)=s[j]:=mix_at hal h (by omega)
   have ih':=ih h
   have hx:=limit_sp s[j]
   simp (disch:=first | omega | (simp only[ln0];omega)) only[rs,reduceIte,Nat.reduceAdd,h,hml,szs,hat]
   refine br_split ?_ ?_ <;> intro _
   · rename_i hc
     have hmod:=mix_modify (f:=fun y=>{ y with lim:=min s[j].lim (limit s[j]) }) hal h (by simp[fit1,hc])
     rw[←hmod]at ih'
     simp (disch:=first | omega | (simp only[ln0];omega)) only[rs,reduceIte,Nat.reduceAdd,h,hml,szs,hat,xcall_of hx,u_fitJ]
     exact ih'
   · rename_i hc
     have hset:=mix_set hal h (v:=s[j]) (by simp[fit1,hc])
     have hid:(mix (s.map fit1) s j).set j s[j]=mix (s.map fit1) s j:=by
      conv=>lhs;rw[←hat]
      exact List.set_getElem_self _
     rw[hid]at hset
     rw[←hset]at ih'
     simp (disch:=first | omega | (simp only[ln0];omega)) only[rs,reduceIte,Nat.reduceAdd,u_fitJ]
     exact ih'
 · obtain rfl:j=s.length:=by omega
   simp (disch:=first | omega | (simp only[ln0];omega)) only[rs,reduceIte,Nat.reduceAdd,Nat.lt_irrefl,mix_full hal]
def end1 (x:Sz):Sz:=if x.lim=1125899906842624 then { x with lim:=x.base } else x
theorem end_run (s:List Sz) (hs:s.length≤1000000):Run tr endT [rowOf eSz s] [] [rowOf eSz (s.map end1)]:=by
 unfold endT
 have hal:(s.map end1).length=s.length:=by simp
 have key:=xup_ind (n:=s.length) (P:=fun j=>Run tr endL [rowOf eSz s,I j,rowOf eSz (mix (s.map end1) s j)] [.loop endL [rowOf eSz s]] [rowOf eSz (s.map end1)]) ?_ 0 (Nat.zero_le _)
 · simp (disch:=first | omega | (simp only[ln0];omega)) only[rs,reduceIte,Nat.reduceAdd]
   simpa [mix_zero]using key
 intro j hj ih
 rw[u_endL]
 have hml:(mix (s.map end1) s j).length=s.length:=mix_len hal j
 by_cases h:j < s.length
 · have hat:(mix (s.map end1) s j)[j]'(by omega)=s[j]:=mix_at hal h (by omega)
   have ih':=ih h
   simp (disch:=first | omega | (simp only[ln0];omega)) only[rs,reduceIte,Nat.reduceAdd,h,hml,szs,hat,beq_iff_eq]
   refine br_split ?_ ?_ <;> intro _
   · rename_i hc
     have hmod:=mix_modify (f:=fun y=>{ y with lim:=s[j].base }) hal h (by simp[end1,hc])
     rw[←hmod]at ih'
     simp (disch:=first | omega | (simp only[ln0];omega)) only[rs,reduceIte,Nat.reduceAdd,h,hml,szs,hat,u_endJ]
     exact ih'
   · rename_i hc
     have hset:=mix_set hal h (v:=s[j]) (by simp[end1,hc])
     have hid:(mix (s.map end1) s j).set j s[j]=mix (s.map end1) s j:=by
      conv=>lhs;rw[←hat]
      exact List.set_getElem_self _
     rw[hid]at hset
     rw[←hset]at ih'
     simp (disch:=first | omega | (simp only[ln0];omega)) only[rs,reduceIte,Nat.reduceAdd,u_endJ]
     exact ih'
 · obtain rfl:j=s.length:=by omega
   simp (disch:=first | omega | (simp only[ln0];omega)) only[rs,reduceIte,Nat.reduceAdd,Nat.lt_irrefl,mix_full hal]
end Go.Proofs.YtckjdlmfibjpaaaGreat.T
set_option maxRecDepth 100000
namespace Go.Proofs.YtckjdlmfibjpaaaGreat.T
open Go Go.Proofs.YtckjdlmfibjpaaaGreat.Sx Go.Proofs.YtckjdlmfibjpaaaGreat.M
theorem same_j19:intrinsic_Size_j19=ka:=by rfl
theorem same_j107:intrinsic_Size_j107=ea:=by rfl
end Go.Proofs.YtckjdlmfibjpaaaGreat.T

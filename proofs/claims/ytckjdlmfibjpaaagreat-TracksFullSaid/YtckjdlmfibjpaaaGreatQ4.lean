/- Plain laws that the claim needs (texts joined to one). No condition. -/
import Derived.Test.YtckjdlmfibjpaaaGreatT
import Derived.Test.YtckjdlmfibjpaaaGreatQ3
set_option linter.unusedVariables false
set_option linter.unusedSimpArgs false
set_option maxRecDepth 100000
namespace Go.Proofs.YtckjdlmfibjpaaaGreat.T
open Go Go.Proofs.YtckjdlmfibjpaaaGreat.Sx Go.Proofs.YtckjdlmfibjpaaaGreat.M
def Den (ρ:List PV) (e:Ex) (x:PV):Prop:=∀β,e.den (ρ++β)=x
theorem Den.app {ρ:List PV} {e:Ex} {x:PV} (h:Den ρ e x) (γ:List PV):Den (ρ++γ) e x:=fun β=>by rw[List.append_assoc];exact h _
theorem Den.var {ρ:List PV} {i:Nat} (h:i < ρ.length):Den ρ (v i) (ρ.getD i .bad):=fun β=>by
 rw[xden_var]
 simp[List.getD_eq_getElem?_getD,List.getElem?_append_left h]
theorem Den.here {ρ:List PV} {e:Ex} {x:PV} (h:Den ρ e x):e.den ρ=x:=by simpa using h []
theorem Den.len {ρ:List PV} {e:Ex} {l:List (List PV)} (h:Den ρ e (.row l)):Den ρ (len e) (I l.length):=fun β=>by
 rw[den_un,h β,on_len,r_row]
theorem Den.mkB {ρ:List PV} {e:Ex} {k:Nat} (h:Den ρ e (I k)):Den ρ (mkB e) (bools (List.replicate k false)):=fun β=>by
 show(BO.make.on _ _)=_
 rw[show(Ex.bin .cons (.bool false) .nilc).den (ρ++β)= .cells [B false]from rfl,h β,on_make]
 simp[rowOf,eB,c_cells,pi_int]
theorem Den.nil {ρ:List PV}:Den ρ .nil (bools []):=fun β=>rfl
def Dens (ρ:List PV):List Ex→List PV→Prop
 | [],[]=>True
 | e::es,x::xs=>Den ρ e x∧Dens ρ es xs
 | _,_=>False
theorem Dens.eq {ρ:List PV}:∀ {es:List Ex} {xs:List PV},Dens ρ es xs→∀β,es.map (·.den (ρ++β))=xs
 | [],[],_,_=>rfl
 | e::es,x::xs,h,β=>by rw[List.map_cons,h.1 β,Dens.eq h.2 β]
 | [],_::_,h,_=>h.elim
 | _::_,[],h,_=>h.elim
theorem at1 {t K:T} {ρ:List PV} {J:List JT} {r P:List PV} {x:PV} {σ:List Ex} {nv jl:Nat} (d i0:Nat) (h0:Run tr t P [] [x]) (hnv:ρ.length=nv) (hjl:J.length=jl) (hi0:i0 < nv+d) (hs:T.ars σ σ.length nv t (kOk d 1 [i0]) (some 0) []=true)
    (hσ:Dens ρ σ P) (hK:∀ (ρ':List PV) (J':List JT),ρ'.length=nv+d→J'.length=jl+1→(∀e x,Den ρ e x→Den ρ' e x)→J'.take jl=J→Den ρ' (v i0) x→Run tr K ρ' J' r):Run tr (At t σ nv jl K) ρ J r:=by
 have hl:σ.length=P.length:=by rw[←hσ.eq [],List.length_map]
 unfold At
 rw[hl]at hs ⊢
 refine Run.outK P σ nv jl d 1 [i0] h0 hnv hjl hs rfl hσ.eq (fun β J' hβ hJ' hx=>?_)
 refine hK _ _ (by simp[hβ,hnv]) (by simp[hJ',hjl]) (fun e y hy=>hy.app β) (by rw[←hjl,List.take_append_of_le_length (Nat.le_refl _),List.take_length]) ?_
 have hv:=Den.var (ρ:=ρ++β) (i:=i0) (by simp[hβ,hnv,hi0])
 simp only[List.map_cons,List.map_nil,List.cons.injEq,and_true]at hx
 rw[hx]at hv
 exact hv
theorem asr_run {c:Ex} {k:T} {ρ:List PV} {J:List JT} {r:List PV} (h:(c.den ρ).b=true) (hk:Run tr k ρ J r):Run tr (asr c k) ρ J r:=by
 rw[run_ite,br_pos h]
 exact hk
theorem asr_len {e:Ex} {m:Int} {l:List (List PV)} {k:T} {ρ:List PV} {J:List JT} {r:List PV} (h:Den ρ e (.row l)) (hm:(l.length:Int)≤m) (hk:Run tr k ρ J r):Run tr (asr (le (len e) (n m)) k) ρ J r:=by
 refine asr_run ?_ hk
 rw[den_bin,h.len.here,den_int,on_cmp,ev_leq,b_bool]
 simpa [pi_int]using hm
theorem take_tk {α:Type} {l J:List α} {a:Nat} (h:l.take a=J) {i:Nat} (hi:i≤a):l.take i=J.take i:=by rw[←h,List.take_take,Nat.min_eq_left hi]
theorem take_get {α:Type} {l J:List α} {a:Nat} (h:l.take a=J) {i:Nat} (hi:i < a):l[i]? =J[i]?:=by rw[←h,List.getElem?_take,if_pos hi]
section
variable (s:List Sz) (a:List Int) (ws:List Wn) (f m:Bool)
noncomputable def rd1:List Sz:=addS s (giveS s a (wanted1 s a f) ownB (fun i=>of1 (atS s i)) (shareF (roomB s) fun i=>looseB (atS s i)) ws (List.replicate s.length 0))
noncomputable def rd2:List Sz:=addS s (giveS s a (fun w=>w.mn) ownB (fun i=>of2 (atS s i)) (shareF (roomB s) fun i=>looseB (atS s i)) ws (List.replicate s.length 0))
def of3 (m:Bool) (x:Sz):Bool:=if m then of3b x else of3a x
noncomputable def rd3:List Sz:=addS s (giveS s a (wanted3 s a m) ownB (fun i=>of3 m (atS s i)) (shareF (roomB s) fun i=>contentB (atS s i)) ws (List.replicate s.length 0))
noncomputable def lm4:List Sz:=limAS s (hadS s (fun i=>looseB (atS s i)) ws (List.replicate s.length false)) (giveS s a (fun w=>w.mn) ownL (fun i=>looseB (atS s i)) (shareF (roomL s (List.replicate s.length false)) fun _=>true) ws (List.replicate s.length 0))
noncomputable def lm5 (g:List Bool):List Sz:=limAS s (hadS s (fun i=>contentB (atS s i)) ws (List.replicate s.length false)) (giveS s a (fun w=>w.mx) ownL (fun i=>contentB (atS s i)) (shareF (roomL s g) fun _=>true) ws (List.replicate s.length 0))
noncomputable def fr1:List Sz:=addS s (giveS s a (wanted1 s a f) ownB (fun i=>of1 (atS s i)&& isFr (atS s i)) (shareB s) ws (List.replicate s.length 0))
noncomputable def fr2:List Sz:=addS s (giveS s a (fun w=>w.mn) ownB (fun i=>of2 (atS s i)&& isFr (atS s i)) (shareB s) ws (List.replicate s.length 0))
noncomputable def fr3:List Sz:=addS s (giveS s a (wanted3 s a m) ownB (fun i=>of3 m (atS s i)&& isFr (atS s i)) (shareB s) ws (List.replicate s.length 0))
noncomputable def bases3:List Sz:=(rd3 (rd2 (rd1 s a ws f) a ws) a ws m).map raise1
noncomputable def severalS:List Sz:=
 (lm5 (lm4 (bases3 s a ws f m) a ws) a ws (hadS (bases3 s a ws f m) (fun i=>looseB (atS (bases3 s a ws f m) i)) ws (List.replicate s.length false))).map fit1
noncomputable def flexS:List Sz:=((fr3 (fr2 (fr1 s a ws f) a ws) a ws m).map raise1).map end1
end
theorem giveS_len (s:List Sz) (a:List Int) (wanted:Wn→Int) (size:Sz→Int) (of:Nat→Bool) (share:Int→List Nat→List Int):∀ (ws:List Wn) (out:List Int),(giveS s a wanted size of share ws out).length=out.length
 | [],_=>rfl
 | w::ws,out=>by simp only[giveS];rw[giveS_len s a wanted size of share ws,oneS_len]
theorem rd1_len (s a ws f):(rd1 s a ws f).length=s.length:=addS_len _ _
theorem rd2_len (s a ws):(rd2 s a ws).length=s.length:=addS_len _ _
theorem rd3_len (s a ws m):(rd3 s a ws m).length=s.length:=addS_len _ _
theorem lm4_len (s a ws):(lm4 s a ws).length=s.length:=limAS_len _ _ _
theorem lm5_len (s a ws g):(lm5 s a ws g).length=s.length:=limAS_len _ _ _
theorem fr1_len (s a ws f):(fr1 s a ws f).length=s.length:=addS_len _ _
theorem fr2_len (s a ws):(fr2 s a ws).length=s.length:=addS_len _ _
theorem fr3_len (s a ws m):(fr3 s a ws m).length=s.length:=addS_len _ _
theorem bases3_len (s a ws f m):(bases3 s a ws f m).length=s.length:=by simp[bases3,rd1_len,rd2_len,rd3_len]
theorem severalS_len (s a ws f m):(severalS s a ws f m).length=s.length:=by simp[severalS,lm4_len,lm5_len,bases3_len]
theorem flexS_len (s a ws f m):(flexS s a ws f m).length=s.length:=by simp[flexS,fr1_len,fr2_len,fr3_len]
section
variable {ws:List Wn} {s:List Sz} {a:List Int} {f m:Bool} {g:List Bool}
structure Ask (s:List Sz) (a:List Int) (ws:List Wn):Prop where
 hs:s.length≤50000
 ha:a.length=s.length
 hw:ws.length≤1000000
 hi:∀w∈ws,InW s.length w
theorem Ask.of {s s':List Sz} {a:List Int} {ws:List Wn} (h:Ask s a ws) (hl:s'.length=s.length):Ask s' a ws:=⟨by rw[hl];exact h.hs,by rw[hl];exact h.ha,h.hw,by rw[hl];exact h.hi⟩
theorem gv1_run (h:Ask s a ws) (f2:Bool) (g:List Bool):Run tr gv1 [rowOf eWn ws,rowOf eSz s,ints a,B f,B f2,bools g] [] [ints (giveS s a (wanted1 s a f) ownB (fun i=>of1 (atS s i)) (shareF (roomB s) fun i=>looseB (atS s i)) ws (List.replicate s.length 0))]:=
 give_run _ ownB (wkL_ok 3 _ (fun w=>w.mn) (fun w=>w.least) (fun k hk=>wn_at3 ws k hk _) r1_sp h.ha h.hs h.hi) b2_sp (th1_ok _ of1 r7_sp) (fill_ok _ _ (roomB s) looseB (fun k out x8 x9 x10 x12 sp who hw j hj y15 y16 y17=>roomB_run k out x8 x9 x10 x12 sp who hw j hj y15 y16 y17) loose_sp') h.hs h.ha h.hw h.hi
theorem gv2_run (h:Ask s a ws) (f1 f2:Bool) (g:List Bool):Run tr gv2 [rowOf eWn ws,rowOf eSz s,ints a,B f1,B f2,bools g] [] [ints (giveS s a (fun w=>w.mn) ownB (fun i=>of2 (atS s i)) (shareF (roomB s) fun i=>looseB (atS s i)) ws (List.replicate s.length 0))]:=
 give_run _ ownB (wkC_ok _ (fun w=>w.mn) r9_sp) b2_sp (th1_ok _ of2 r8_sp) (fill_ok _ _ (roomB s) looseB (fun k out x8 x9 x10 x12 sp who hw j hj y15 y16 y17=>roomB_run k out x8 x9 x10 x12 sp who hw j hj y15 y16 y17) loose_sp') h.hs h.ha h.hw h.hi
theorem gv3_run (h:Ask s a ws) (g:List Bool):Run tr gv3 [rowOf eWn ws,rowOf eSz s,ints a,B m,B m,bools g] [] [ints (giveS s a (wanted3 s a m) ownB (fun i=>of3 m (atS s i)) (shareF (roomB s) fun i=>contentB (atS s i)) ws (List.replicate s.length 0))]:=
 give_run _ ownB (wkL_ok 4 _ (fun w=>w.mx) (fun w=>w.mx) (fun k hk=>wn_at4 ws k hk _) r3_sp h.ha h.hs h.hi) b2_sp (th2_ok _ _ of3b of3a r6_sp r4_sp) (fill_ok _ _ (roomB s) contentB (fun k out x8 x9 x10 x12 sp who hw j hj y15 y16 y17=>roomB_run k out x8 x9 x10 x12 sp who hw j hj y15 y16 y17) content_sp) h.hs h.ha h.hw h.hi
theorem gv4_run (h:Ask s a ws) (f1 f2:Bool) (hg:g.length=s.length):Run tr gv4 [rowOf eWn ws,rowOf eSz s,ints a,B f1,B f2,bools g] [] [ints (giveS s a (fun w=>w.mn) ownL (fun i=>looseB (atS s i)) (shareF (roomL s g) fun _=>true) ws (List.replicate s.length 0))]:=
 give_run _ ownL (wkC_ok _ (fun w=>w.mn) sv1_sp) l1_sp (th1_ok _ looseB loose_sp') (fill_ok _ _ (roomL s g) (fun _=>true) (fun k out x8 x9 x10 x12 sp who hw j hj y15 y16 y17=>roomL_run hg k out x8 x9 x10 x12 sp who hw j hj y15 y16 y17) l2_sp) h.hs h.ha h.hw h.hi
theorem gv5_run (h:Ask s a ws) (f1 f2:Bool) (hg:g.length=s.length):Run tr gv5 [rowOf eWn ws,rowOf eSz s,ints a,B f1,B f2,bools g] [] [ints (giveS s a (fun w=>w.mx) ownL (fun i=>contentB (atS s i)) (shareF (roomL s g) fun _=>true) ws (List.replicate s.length 0))]:=
 give_run _ ownL (wkC_ok _ (fun w=>w.mx) sv2_sp) l1_sp (th1_ok _ contentB content_sp) (fill_ok _ _ (roomL s g) (fun _=>true) (fun k out x8 x9 x10 x12 sp who hw j hj y15 y16 y17=>roomL_run hg k out x8 x9 x10 x12 sp who hw j hj y15 y16 y17) l2_sp) h.hs h.ha h.hw h.hi
theorem gf1_run (h:Ask s a ws) (f2:Bool) (g:List Bool):Run tr gf1 [rowOf eWn ws,rowOf eSz s,ints a,B f,B f2,bools g] [] [ints (giveS s a (wanted1 s a f) ownB (fun i=>of1 (atS s i)&& isFr (atS s i)) (shareB s) ws (List.replicate s.length 0))]:=
 give_run _ ownB (wkL_ok 3 _ (fun w=>w.mn) (fun w=>w.least) (fun k hk=>wn_at3 ws k hk _) r1_sp h.ha h.hs h.hi) b2_sp (th1F_ok _ of1 r7_sp) fillF_ok h.hs h.ha h.hw h.hi
theorem gf2_run (h:Ask s a ws) (f1 f2:Bool) (g:List Bool):Run tr gf2 [rowOf eWn ws,rowOf eSz s,ints a,B f1,B f2,bools g] [] [ints (giveS s a (fun w=>w.mn) ownB (fun i=>of2 (atS s i)&& isFr (atS s i)) (shareB s) ws (List.replicate s.length 0))]:=
 give_run _ ownB (wkC_ok _ (fun w=>w.mn) r9_sp) b2_sp (th1F_ok _ of2 r8_sp) fillF_ok h.hs h.ha h.hw h.hi
theorem gf3_run (h:Ask s a ws) (g:List Bool):Run tr gf3 [rowOf eWn ws,rowOf eSz s,ints a,B m,B m,bools g] [] [ints (giveS s a (wanted3 s a m) ownB (fun i=>of3 m (atS s i)&& isFr (atS s i)) (shareB s) ws (List.replicate s.length 0))]:=
 give_run _ ownB (wkL_ok 4 _ (fun w=>w.mx) (fun w=>w.mx) (fun k hk=>wn_at4 ws k hk _) r3_sp h.ha h.hs h.hi) b2_sp (th2F_ok _ _ of3b of3a r6_sp r4_sp) fillF_ok h.hs h.ha h.hw h.hi
theorem Ask.le6 (h:Ask s a ws):s.length≤1000000:=by have:=h.hs;omega
theorem flex_run {ρ:List PV} {J:List JT} (h:Ask s a ws) (hnv:ρ.length=23) (hjl:J.length=4)
    (hW:Den ρ (v 16) (rowOf eWn ws)) (hS:Den ρ (v 19) (rowOf eSz s)) (hA:Den ρ (v 1) (ints a)) (h20:Den ρ (v 20) (B f)) (h21:Den ρ (v 21) (B m)) (h22:Den ρ (v 22) (B m)) :
    Run tr ea ρ J [rowOf eSz (flexS s a ws f m),I 0]:=by
 refine at1 2 24 (gf1_run h m []) hnv hjl (by omega) rfl ⟨hW,hS,hA,h20,h21,Den.nil,trivial⟩ (fun ρ1 J1 n1 j1 mv1 tk1 x1=>?_)
 refine at1 2 26 (add_run s _ (by rw[giveS_len];simp) h.le6) n1 j1 (by omega) rfl ⟨mv1 _ _ hS,x1,trivial⟩ (fun ρ2 J2 n2 j2 mv2 tk2 x2=>?_)
 have a2:=h.of (fr1_len s a ws f)
 have hW2:=mv2 _ _ (mv1 _ _ hW)
 have hA2:=mv2 _ _ (mv1 _ _ hA)
 have p20:=mv2 _ _ (mv1 _ _ h20)
 have p21:=mv2 _ _ (mv1 _ _ h21)
 have p22:=mv2 _ _ (mv1 _ _ h22)
 refine at1 2 28 (gf2_run a2 f m []) n2 j2 (by omega) rfl ⟨hW2,x2,hA2,p20,p21,Den.nil,trivial⟩ (fun ρ3 J3 n3 j3 mv3 tk3 x3=>?_)
 refine at1 2 30 (add_run (fr1 s a ws f) _ (by rw[giveS_len];simp) a2.le6) n3 j3 (by omega) rfl ⟨mv3 _ _ x2,x3,trivial⟩ (fun ρ4 J4 n4 j4 mv4 tk4 x4=>?_)
 have a4:=a2.of (fr2_len (fr1 s a ws f) a ws)
 have hW4:=mv4 _ _ (mv3 _ _ hW2)
 have hA4:=mv4 _ _ (mv3 _ _ hA2)
 have q21:=mv4 _ _ (mv3 _ _ p21)
 have q22:=mv4 _ _ (mv3 _ _ p22)
 refine at1 2 32 (gf3_run (m:=m) a4 []) n4 j4 (by omega) rfl ⟨hW4,x4,hA4,q22,q21,Den.nil,trivial⟩ (fun ρ5 J5 n5 j5 mv5 tk5 x5=>?_)
 refine at1 2 34 (add_run (fr2 (fr1 s a ws f) a ws) _ (by rw[giveS_len];simp) a4.le6) n5 j5 (by omega) rfl ⟨mv5 _ _ x4,x5,trivial⟩ (fun ρ6 J6 n6 j6 mv6 tk6 x6=>?_)
 have a6:=a4.of (fr3_len (fr2 (fr1 s a ws f) a ws) a ws m)
 refine at1 2 36 (raise_run (fr3 (fr2 (fr1 s a ws f) a ws) a ws m) a6.le6) n6 j6 (by omega) rfl ⟨x6,trivial⟩ (fun ρ7 J7 n7 j7 mv7 tk7 x7=>?_)
 refine at1 2 38 (end_run ((fr3 (fr2 (fr1 s a ws f) a ws) a ws m).map raise1) (by rw[List.length_map];exact a6.le6)) n7 j7 (by omega) rfl ⟨x7,trivial⟩ (fun ρ8 J8 n8 j8 mv8 tk8 x8=>?_)
 unfold e7
 rw[xrun_ret]
 simp only[List.map_cons,List.map_nil,x8.here,den_int]
 rfl
theorem several_run {ρ:List PV} {J:List JT} {r:List PV} (h:Ask s a ws) (hnv:ρ.length=23) (hjl:J.length=4)
    (hW:Den ρ Wsp (rowOf eWn ws)) (hS:Den ρ (v 19) (rowOf eSz s)) (hA:Den ρ (v 1) (ints a)) (h20:Den ρ (v 20) (B f)) (h21:Den ρ (v 21) (B m)) (h22:Den ρ (v 22) (B m)) {k:Nat} (hk:k≤1000000) (h18:Den ρ (v 18) (I k))
    (hK:Jmp tr J[3]? 3 [I (k+1:Nat),rowOf eSz (severalS s a ws f m)] J r):Run tr ka ρ J r:=by
 refine at1 2 24 (gv1_run h m []) hnv hjl (by omega) rfl ⟨hW,hS,hA,h20,h21,Den.nil,trivial⟩ (fun ρ1 J1 n1 j1 mv1 tk1 x1=>?_)
 refine at1 2 26 (add_run s _ (by rw[giveS_len];simp) h.le6) n1 j1 (by omega) rfl ⟨mv1 _ _ hS,x1,trivial⟩ (fun ρ2 J2 n2 j2 mv2 tk2 x2=>?_)
 have a2:=h.of (rd1_len s a ws f)
 have hW2:=mv2 _ _ (mv1 _ _ hW)
 have hA2:=mv2 _ _ (mv1 _ _ hA)
 have p20:=mv2 _ _ (mv1 _ _ h20)
 have p21:=mv2 _ _ (mv1 _ _ h21)
 have p22:=mv2 _ _ (mv1 _ _ h22)
 have p18:=mv2 _ _ (mv1 _ _ h18)
 refine at1 2 28 (gv2_run a2 f m []) n2 j2 (by omega) rfl ⟨hW2,x2,hA2,p20,p21,Den.nil,trivial⟩ (fun ρ3 J3 n3 j3 mv3 tk3 x3=>?_)
 refine at1 2 30 (add_run (rd1 s a ws f) _ (by rw[giveS_len];simp) a2.le6) n3 j3 (by omega) rfl ⟨mv3 _ _ x2,x3,trivial⟩ (fun ρ4 J4 n4 j4 mv4 tk4 x4=>?_)
 have a4:=a2.of (rd2_len (rd1 s a ws f) a ws)
 have hW4:=mv4 _ _ (mv3 _ _ hW2)
 have hA4:=mv4 _ _ (mv3 _ _ hA2)
 have q20:=mv4 _ _ (mv3 _ _ p20)
 have q21:=mv4 _ _ (mv3 _ _ p21)
 have q22:=mv4 _ _ (mv3 _ _ p22)
 have q18:=mv4 _ _ (mv3 _ _ p18)
 refine at1 2 32 (gv3_run (m:=m) a4 []) n4 j4 (by omega) rfl ⟨hW4,x4,hA4,q22,q21,Den.nil,trivial⟩ (fun ρ5 J5 n5 j5 mv5 tk5 x5=>?_)
 refine at1 2 34 (add_run (rd2 (rd1 s a ws f) a ws) _ (by rw[giveS_len];simp) a4.le6) n5 j5 (by omega) rfl ⟨mv5 _ _ x4,x5,trivial⟩ (fun ρ6 J6 n6 j6 mv6 tk6 x6=>?_)
 have a6:=a4.of (rd3_len (rd2 (rd1 s a ws f) a ws) a ws m)
 refine at1 2 36 (raise_run (rd3 (rd2 (rd1 s a ws f) a ws) a ws m) a6.le6) n6 j6 (by omega) rfl ⟨x6,trivial⟩ (fun ρ7 J7 n7 j7 mv7 tk7 x7=>?_)
 have hl:(bases3 s a ws f m).length=s.length:=bases3_len s a ws f m
 have a7:Ask (bases3 s a ws f m) a ws:=h.of hl
 have x7':Den ρ7 (v 36) (rowOf eSz (bases3 s a ws f m)):=x7
 have mv47:∀e x,Den ρ4 e x→Den ρ7 e x:=fun e x hh=>mv7 _ _ (mv6 _ _ (mv5 _ _ hh))
 have hs7:=a7.hs
 have hsv:severalS s a ws f m=(lm5 (lm4 (bases3 s a ws f m) a ws) a ws (hadS (bases3 s a ws f m) (fun i=>looseB (atS (bases3 s a ws f m) i)) ws (List.replicate (bases3 s a ws f m).length false))).map fit1:=by
  unfold severalS
  rw[hl]
 rw[hsv]at hK
 generalize bases3 s a ws f m=b at *
 unfold k5
 refine asr_len x7' (by rw[List.length_map];omega) ?_
 refine at1 2 38 (gv4_run a7 f m (g:=List.replicate (b.map eSz).length false) (by simp)) n7 j7 (by omega) rfl ⟨mv47 _ _ hW4,x7',mv47 _ _ hA4,mv47 _ _ q20,mv47 _ _ q21,Den.mkB x7'.len,trivial⟩ (fun ρ8 J8 n8 j8 mv8 tk8 x8=>?_)
 rw[List.length_map]at x8
 refine at1 2 40 (had_run ws b _ looseB loose_sp' a7.hs a7.hw a7.hi) n8 j8 (by omega) rfl ⟨mv8 _ _ (mv47 _ _ hW4),mv8 _ _ x7',trivial⟩ (fun ρ9 J9 n9 j9 mv9 tk9 x9=>?_)
 refine at1 2 42 (limA_run b _ _ (by rw[hadS_len];simp) (by rw[giveS_len];simp) a7.le6) n9 j9 (by omega) rfl ⟨mv9 _ _ (mv8 _ _ x7'),x9,mv9 _ _ x8,trivial⟩ (fun ρ10 J10 n10 j10 mv10 tk10 x10=>?_)
 have x10':Den ρ10 (v 42) (rowOf eSz (lm4 b a ws)):=x10
 have a10:=a7.of (lm4_len b a ws)
 have mv710:∀e x,Den ρ7 e x→Den ρ10 e x:=fun e x hh=>mv10 _ _ (mv9 _ _ (mv8 _ _ hh))
 have hgl:(hadS b (fun i=>looseB (atS b i)) ws (List.replicate b.length false)).length=(lm4 b a ws).length:=by rw[hadS_len,lm4_len];simp
 have x9':=mv10 _ _ x9
 generalize hadS b (fun i=>looseB (atS b i)) ws (List.replicate b.length false)=g at *
 generalize lm4 b a ws=c at *
 refine at1 2 44 (gv5_run a10 f m hgl) n10 j10 (by omega) rfl ⟨mv710 _ _ (mv47 _ _ hW4),x10',mv710 _ _ (mv47 _ _ hA4),mv710 _ _ (mv47 _ _ q20),mv710 _ _ (mv47 _ _ q21),x9',trivial⟩ (fun ρ11 J11 n11 j11 mv11 tk11 x11=>?_)
 unfold k9
 have hs10:=a10.hs
 refine asr_len (mv11 _ _ x10') (by rw[List.length_map];omega) ?_
 refine at1 2 46 (had_run ws c _ contentB content_sp a10.hs a10.hw a10.hi) n11 j11 (by omega) rfl ⟨mv11 _ _ (mv710 _ _ (mv47 _ _ hW4)),mv11 _ _ x10',trivial⟩ (fun ρ12 J12 n12 j12 mv12 tk12 x12=>?_)
 refine at1 2 48 (limA_run c _ _ (by rw[hadS_len];simp) (by rw[giveS_len];simp) a10.le6) n12 j12 (by omega) rfl ⟨mv12 _ _ (mv11 _ _ x10'),x12,mv12 _ _ x11,trivial⟩ (fun ρ13 J13 n13 j13 mv13 tk13 x13=>?_)
 have x13':Den ρ13 (v 48) (rowOf eSz (lm5 c a ws g)):=x13
 refine at1 2 50 (fit_run (lm5 c a ws g) (by rw[lm5_len];exact a10.le6)) n13 j13 (by omega) rfl ⟨x13',trivial⟩ (fun ρ14 J14 n14 j14 mv14 tk14 x14=>?_)
 have hJ : J14.take 4=J:=by
  have e13 : J13.take 4=J:=by
   have e12 :J12.take 4=J:=by
    have e11 :J11.take 4=J:=by
     have e10:J10.take 4=J:=by
      have e9:J9.take 4=J:=by
       have e8:J8.take 4=J:=by
        have e7:J7.take 4=J:=by
         have e6:J6.take 4=J:=by
          have e5:J5.take 4=J:=by
           have e4:J4.take 4=J:=by
            have e3:J3.take 4=J:=by
             have e2:J2.take 4=J:=by rw[take_tk tk2 (by omega),tk1]
             rw[take_tk tk3 (by omega),e2]
            rw[take_tk tk4 (by omega),e3]
           rw[take_tk tk5 (by omega),e4]
          rw[take_tk tk6 (by omega),e5]
         rw[take_tk tk7 (by omega),e6]
        rw[take_tk tk8 (by omega),e7]
       rw[take_tk tk9 (by omega),e8]
      rw[take_tk tk10 (by omega),e9]
     rw[take_tk tk11 (by omega),e10]
    rw[take_tk tk12 (by omega),e11]
   rw[take_tk tk13 (by omega),e12]
  rw[take_tk tk14 (by omega),e13]
 have z18:Den ρ14 (v 18) (I k):=mv14 _ _ (mv13 _ _ (mv12 _ _ (mv11 _ _ (mv710 _ _ (mv47 _ _ q18)))))
 unfold k12
 rw[run_jump]
 have e1:(add (v 18) (n 1)).den ρ14=I (k+1:Nat):=by
  rw[den_bin,z18.here,den_int,on_ar,ar_add,pi_int,pi_int,wrap_in (by omega) (by omega)]
  rfl
 simp only[List.map_cons,List.map_nil,x14.here,e1]
 rw[take_get hJ (by omega)]
 cases hx:J[3]? with
 | none=>rw[hx]at hK;exact hK.elim
 | some y=>
  rw[hx]at hK
  cases y with
  | join b ρ0=>rw[jmp_join]at hK ⊢;rw[take_tk hJ (by omega)];exact hK
  | loop b ρ0=>rw[jmp_loop]at hK ⊢;rw[take_tk hJ (by omega)];exact hK
end
structure Tp where
 a:Int
 b:Int
 c:Int
@[reducible] def eTp (x:Tp):List PV:= [I x.a,I x.b,I x.c]
theorem tp_at0 (l:List Tp) (i:Nat) (h:i < l.length) (k:LK):cellAt (l.map eTp) (i:Int) 0 k=I l[i].a:=by rw[xcell_at l i h];rfl
theorem tp_at1 (l:List Tp) (i:Nat) (h:i < l.length) (k:LK):cellAt (l.map eTp) (i:Int) 1 k=I l[i].b:=by rw[xcell_at l i h];rfl
theorem tp_at2 (l:List Tp) (i:Nat) (h:i < l.length) (k:LK):cellAt (l.map eTp) (i:Int) 2 k=I l[i].c:=by rw[xcell_at l i h];rfl
theorem tp_put0 (l:List Tp) (i:Nat) (x:Int):PV.row ((l.map eTp).modify i (·.set 0 (I x)))=rowOf eTp (l.modify i fun y=>{ y with a:=x }):=rowOf_put l i 0 (I x) _ (fun y=>rfl)
theorem tp_put1 (l:List Tp) (i:Nat) (x:Int):PV.row ((l.map eTp).modify i (·.set 1 (I x)))=rowOf eTp (l.modify i fun y=>{ y with b:=x }):=rowOf_put l i 1 (I x) _ (fun y=>rfl)
theorem tp_put2 (l:List Tp) (i:Nat) (x:Int):PV.row ((l.map eTp).modify i (·.set 2 (I x)))=rowOf eTp (l.modify i fun y=>{ y with c:=x }):=rowOf_put l i 2 (I x) _ (fun y=>rfl)
theorem tp_make (n:Nat):PV.row (List.replicate n [I 0,I 0,I 0])=rowOf eTp (List.replicate n ⟨0,0,0⟩):=xmap_make n (⟨0,0,0⟩:Tp) rfl
theorem mod3c {α:Type} (l:List α) (i:Nat) (hi:i < l.length) (f g h k:α→α) (e:h (g (f l[i]))=k l[i]):((l.modify i f).modify i g).modify i h=l.modify i k:=by
 apply List.ext_getElem (by simp)
 intro j h1 h2
 simp only[List.getElem_modify]
 split
 · rename_i hij
   subst hij
   exact e
 · rfl
def topStep (s:List Sz) (a:List Int) (f:Bool) (w:Wn) (ts:List Tp×List Bool):List Tp×List Bool:=
 if w.to=w.fm+1 then(ts.1.modify w.fm.toNat (fun t=>⟨max t.a (wanted1 s a f w),max t.b w.mn,max t.c w.mx⟩),ts.2.set w.fm.toNat true)else ts
def topS (s:List Sz) (a:List Int) (f:Bool):List Wn→List Tp×List Bool→List Tp×List Bool
 | [],ts=>ts
 | w::ws,ts=>topS s a f ws (topStep s a f w ts)
theorem topS_len (s:List Sz) (a:List Int) (f:Bool):∀ (ws:List Wn) (ts:List Tp×List Bool),(topS s a f ws ts).1.length=ts.1.length∧(topS s a f ws ts).2.length=ts.2.length
 | [],ts=>⟨rfl,rfl⟩
 | w::ws,ts=>by
  have:=topS_len s a f ws (topStep s a f w ts)
  simp only[topS]
  rw[this.1,this.2]
  unfold topStep
  split <;> simp
def alone1 (x:Sz) (t:Tp) (met:Bool):Sz:=
 if x.mx=5∨met=false then x else
  raise1 { x with
   base:=if x.mn=2 then max x.base t.a else if x.mn=3 then max x.base t.b else if x.mn=4 then max x.base t.c else x.base
   lim:=if x.fit=true then min t.c x.cap else if x.mx=3 then t.b else if contentB x=true then t.c else x.lim }
def alS:List Sz→List Tp→List Bool→List Sz
 | x::s,t::ts,m::ms=>alone1 x t m::alS s ts ms
 | s,_,_=>s
theorem alS_len:∀ (s:List Sz) (h:List Tp) (l:List Bool),(alS s h l).length=s.length
 | x::s,h::hs,n::l=>by simp[alS,alS_len s hs l]
 | [],_,_=>by simp[alS]
 | _::_,[],_=>by simp[alS]
 | _::_,_::_,[]=>by simp[alS]
theorem alS_at:∀ (s:List Sz) (h:List Tp) (l:List Bool) (hh:h.length=s.length) (hl:l.length=s.length) (i:Nat) (hi:i < s.length),(alS s h l)[i]'(by rw[alS_len];exact hi)=alone1 s[i] (h[i]'(by omega)) (l[i]'(by omega))
 | x::s,h::hs,n::l,hh,hl,i,hi=>by
  cases i with
  | zero=>rfl
  | succ i=>simpa [alS]using alS_at s hs l (by simpa using hh) (by simpa using hl) i (by simpa using hi)
 | [],_,_,_,_,i,hi=>by simp at hi
 | _::_,[],_,hh,_,_,_=>by simp at hh
 | _::_,_::_,[],_,hl,_,_=>by simp at hl
section
variable {ws:List Wn} {s:List Sz} {a:List Int} {f m:Bool} {mode:Int}
theorem sal_run (h:Ask s a ws) (k:Nat) (hk:k < ws.length) (x10 x11:PV) :
    Run tr intrinsic_Size_s4 [rowOf eSz s,ints a,rowOf eWn ws,I mode,B true,rowOf eSz s,B f,B m,B m,I k,x10,x11] [] [I (wanted1 s a f ws[k])]:=by
 obtain⟨hi0,hi1,hi2⟩:=h.hi _ (List.getElem_mem hk)
 obtain⟨fm,hf⟩:∃f:Nat,ws[k].fm=f:=⟨ws[k].fm.toNat,by omega⟩
 obtain⟨t,ht⟩:∃t:Nat,ws[k].to=t:=⟨ws[k].to.toNat,by omega⟩
 have hal:=h.ha
 have hs:=h.hs
 have hft:fm < t:=by omega
 have hts:t≤s.length:=by omega
 rw[u_intrinsic_Size_s4]
 unfold wanted1
 rw[run_ite]
 simp only[xden_var,List.getD_cons_zero,List.getD_cons_succ,b_bool]
 refine br_split ?_ ?_ <;> intro _
 · rename_i hx
   rw[if_pos hx]
   unfold limI' gapsI
   rw[hf,ht]
   simp only[Int.toNat_natCast]
   generalize hb:(a.drop (fm+1)).take (t - (fm+1))=bl
   generalize hc:(s.drop fm).take (t - fm)=c
   have eb:((a.map eI).drop ((fm:Int)+1).toNat).take ((t:Int) - ((fm:Int)+1)).toNat=bl.map eI:=by
    rw[row_cut,←hb]
    congr 2 <;> (try congr 1) <;> omega
   have ec:((s.map eSz).drop fm).take ((t:Int) - (fm:Int)).toNat=c.map eSz:=by
    rw[row_cut,←hc]
    congr 2;omega
   have hbl:bl.length≤1000000:=by rw[←hb];simp;omega
   have hcl:c.length≤1000000:=by rw[←hc];simp;omega
   have l3:∀ (x12 x13:PV) (J1:JT) j,j≤c.length→∀most,Run tr intrinsic_Size_l7 [rowOf eSz s,ints a,rowOf eWn ws,I mode,B true,rowOf eSz s,B f,B m,B m,I k,x10,x11,x12,x13,I j,I most] [.join intrinsic_Size_j5 [rowOf eSz s,ints a,rowOf eWn ws,I mode,B true,rowOf eSz s,B f,B m,B m,I k,x10,x11],J1,.loop intrinsic_Size_l7 [rowOf eSz s,ints a,rowOf eWn ws,I mode,B true,rowOf eSz s,B f,B m,B m,I k,x10,x11,x12,x13]] [I (limG ws[k] ws[k].mn (c.drop j) most)]:=by
    intro x12 x13 J1
    refine xup_ind fun j hj ih most=>?_
    rw[u_intrinsic_Size_l7]
    by_cases h:j < c.length
    · rw[List.drop_eq_getElem_cons h]
      have h1:=loose_sp c[j]
      have h2:=limit_sp c[j]
      simp (disch:=first | omega | (simp only[ln0];omega)) only[rs,reduceIte,Nat.reduceAdd,wn_at0,wn_at1,wn_at2,wn_at3,hk,hf,ht,ec,h,szs,xcall_of h1,xcall_of h2,u_intrinsic_Size_j5,bx,reduceCtorEq,forall_const,ne_eq]
      simp only[limG]
      by_cases hx:c[j].mx≠1∧c[j].fit=false
      · rw[br_pos (by simpa using hx),if_pos hx]
      · rw[br_neg (by simpa using hx),if_neg hx]
        exact ih h _
    · simp (disch:=first | omega | (simp only[ln0];omega)) only[rs,reduceIte,Nat.reduceAdd,wn_at0,wn_at1,wn_at2,wn_at3,hk,hf,ht,ec,h,u_intrinsic_Size_j5]
      rw[List.drop_of_length_le (by omega)]
      rfl
   have l2:∀j,j≤bl.length→∀acc,Run tr intrinsic_Size_l6 [rowOf eSz s,ints a,rowOf eWn ws,I mode,B true,rowOf eSz s,B f,B m,B m,I k,x10,x11,I j,I acc] [.join intrinsic_Size_j5 [rowOf eSz s,ints a,rowOf eWn ws,I mode,B true,rowOf eSz s,B f,B m,B m,I k,x10,x11],.loop intrinsic_Size_l6 [rowOf eSz s,ints a,rowOf eWn ws,I mode,B true,rowOf eSz s,B f,B m,B m,I k,x10,x11]] [I (limG ws[k] ws[k].mn c (gapsW (bl.drop j) acc))]:=by
    refine xup_ind fun j hj ih acc=>?_
    rw[u_intrinsic_Size_l6]
    by_cases h:j < bl.length
    · rw[List.drop_eq_getElem_cons h]
      simp (disch:=first | omega | (simp only[ln0];omega)) only[rs,reduceIte,Nat.reduceAdd,wn_at0,wn_at1,hk,hf,ht,eb,h]
      exact ih h _
    · rw[List.drop_of_length_le (by omega)]
      simp (disch:=first | omega | (simp only[ln0];omega)) only[rs,reduceIte,Nat.reduceAdd,wn_at0,wn_at1,hk,hf,ht,eb,h]
      first | refine⟨by omega,by omega,?_⟩ | refine⟨by omega,?_⟩
      have:=l3 (I j) (I acc) (.loop intrinsic_Size_l6 [rowOf eSz s,ints a,rowOf eWn ws,I mode,B true,rowOf eSz s,B f,B m,B m,I k,x10,x11]) 0 (Nat.zero_le _) acc
      simpa [gapsW]using this
   simp (disch:=first | omega | (simp only[ln0];omega)) only[rs,reduceIte,Nat.reduceAdd,wn_at0,wn_at1,hk,hf,ht]
   refine⟨by omega,by omega,by omega,?_⟩
   exact l2 0 (Nat.zero_le _) 0
 · rename_i hx
   rw[if_neg hx]
   simp (disch:=first | omega | (simp only[ln0];omega)) only[rs,reduceIte,Nat.reduceAdd,wn_at0,wn_at1,wn_at2,wn_at3,wn_at4,hk,xcall_of (r1_sp _)]
theorem l8_run (h:Ask s a ws) (ts:List Tp) (mt:List Bool) (ht:ts.length=s.length) (hm:mt.length=s.length) (x9:PV) (J1:JT) {r:List PV}
    (hK:Run tr intrinsic_Size_l12 [rowOf eSz s,ints a,rowOf eWn ws,I mode,B true,rowOf eSz s,B f,B m,B m,x9,rowOf eTp ts,bools mt,I s.length,rowOf eSz (alS s ts mt),I (0:Nat),ints [],rowOf eWn [],PV.row []] [J1,.loop intrinsic_Size_l8 [rowOf eSz s,ints a,rowOf eWn ws,I mode,B true,rowOf eSz s,B f,B m,B m,x9,rowOf eTp ts,bools mt],.loop intrinsic_Size_l12 [rowOf eSz s,ints a,rowOf eWn ws,I mode,B true,rowOf eSz s,B f,B m,B m,x9,rowOf eTp ts,bools mt,I s.length,rowOf eSz (alS s ts mt)]] r) :
    Run tr intrinsic_Size_l8 [rowOf eSz s,ints a,rowOf eWn ws,I mode,B true,rowOf eSz s,B f,B m,B m,x9,rowOf eTp ts,bools mt,I (0:Nat),rowOf eSz s] [J1,.loop intrinsic_Size_l8 [rowOf eSz s,ints a,rowOf eWn ws,I mode,B true,rowOf eSz s,B f,B m,B m,x9,rowOf eTp ts,bools mt]] r:=by
 have hal:(alS s ts mt).length=s.length:=alS_len s ts mt
 have hs:=h.hs
 have key:=xup_ind (n:=s.length) (P:=fun i=>Run tr intrinsic_Size_l8 [rowOf eSz s,ints a,rowOf eWn ws,I mode,B true,rowOf eSz s,B f,B m,B m,x9,rowOf eTp ts,bools mt,I i,rowOf eSz (mix (alS s ts mt) s i)] [J1,.loop intrinsic_Size_l8 [rowOf eSz s,ints a,rowOf eWn ws,I mode,B true,rowOf eSz s,B f,B m,B m,x9,rowOf eTp ts,bools mt]] r) ?_ 0 (Nat.zero_le _)
 · simpa [mix_zero]using key
 intro i hi ih
 rw[u_intrinsic_Size_l8]
 have hml:(mix (alS s ts mt) s i).length=s.length:=mix_len hal i
 by_cases hx:i < s.length
 · have hit :i < ts.length:=by omega
   have him:i < mt.length:=by omega
   have hat:(mix (alS s ts mt) s i)[i]'(by omega)=s[i]:=mix_at hal hx (by omega)
   have hla:=alS_at s ts mt ht hm i hx
   have ih':=ih hx
   simp (disch:=first | omega | (simp only[ln0];omega)) only[rs,reduceIte,Nat.reduceAdd,hx,hit,him,hml,szs,hat,bx,reduceCtorEq,forall_const,ne_eq,or_true]
   by_cases hc:s[i].mx=5∨mt[i]=false
   · rw[br_pos hc]
     have hset:=mix_set hal hx (v:=s[i]) (by rw[hla,alone1,if_pos hc])
     have hid:(mix (alS s ts mt) s i).set i s[i]=mix (alS s ts mt) s i:=by
      conv=>lhs;rw[←hat]
      exact List.set_getElem_self _
     rw[hid]at hset
     rw[←hset]at ih'
     simp (disch:=first | omega | (simp only[ln0];omega)) only[rs,reduceIte,Nat.reduceAdd,u_intrinsic_Size_j9]
     exact ih'
   · rw [br_neg hc]
     have hset:=mix_set hal hx (v:=alone1 s[i] ts[i] mt[i]) (by rw[hla])
     rw[←hset]at ih'
     have ecn:contentB s[i]=decide (s[i].mx=4∨s[i].mx=2):=rfl
     have hj11:∀bs lm:Int,raise1 { s[i]with base:=bs,lim:=lm } =alone1 s[i] ts[i] mt[i]→∀J3:JT,Run tr intrinsic_Size_j11 [rowOf eSz s,ints a,rowOf eWn ws,I mode,B true,rowOf eSz s,B f,B m,B m,x9,rowOf eTp ts,bools mt,I i,rowOf eSz (mix (alS s ts mt) s i),I bs,I lm] [J1,.loop intrinsic_Size_l8 [rowOf eSz s,ints a,rowOf eWn ws,I mode,B true,rowOf eSz s,B f,B m,B m,x9,rowOf eTp ts,bools mt],.join intrinsic_Size_j9 [rowOf eSz s,ints a,rowOf eWn ws,I mode,B true,rowOf eSz s,B f,B m,B m,x9,rowOf eTp ts,bools mt,I i,rowOf eSz (mix (alS s ts mt) s i)]] r:=by
      intro bs lm he _
      have hr:=braise_sp { s[i]with base:=bs,lim:=lm }
      rw[←he]at ih'
      rw[u_intrinsic_Size_j11]
      simp (disch:=first | omega | (simp only[ln0];omega)) only[rs,reduceIte,Nat.reduceAdd,hx,hml,szs,hat,xcall_of hr,u_intrinsic_Size_j9]
      exact ih'
     have hj10:∀bs:Int,bs=(if s[i].mn=2 then max s[i].base ts[i].a else if s[i].mn=3 then max s[i].base ts[i].b else if s[i].mn=4 then max s[i].base ts[i].c else s[i].base)→Run tr intrinsic_Size_j10 [rowOf eSz s,ints a,rowOf eWn ws,I mode,B true,rowOf eSz s,B f,B m,B m,x9,rowOf eTp ts,bools mt,I i,rowOf eSz (mix (alS s ts mt) s i),I bs] [J1,.loop intrinsic_Size_l8 [rowOf eSz s,ints a,rowOf eWn ws,I mode,B true,rowOf eSz s,B f,B m,B m,x9,rowOf eTp ts,bools mt],.join intrinsic_Size_j9 [rowOf eSz s,ints a,rowOf eWn ws,I mode,B true,rowOf eSz s,B f,B m,B m,x9,rowOf eTp ts,bools mt,I i,rowOf eSz (mix (alS s ts mt) s i)]] r:=by
      intro bs hbs
      have fin:∀lm:Int,lm=(if s[i].fit=true then min ts[i].c s[i].cap else if s[i].mx=3 then ts[i].b else if contentB s[i]=true then ts[i].c else s[i].lim)→raise1 { s[i]with base:=bs,lim:=lm } =alone1 s[i] ts[i] mt[i]:=by
       intro lm hlm
       subst hlm hbs
       rw[alone1,if_neg hc]
      have hcn:=content_sp { s[i]with base:=bs }
      rw[u_intrinsic_Size_j10]
      simp (disch:=first | omega | (simp only[ln0];omega)) only[rs,reduceIte,Nat.reduceAdd,hx,hit,hml,szs,hat,tp_at0,tp_at1,tp_at2]
      by_cases h1:s[i].fit=true
      · rw[br_pos h1]
        exact hj11 bs _ (fin _ (by rw[if_pos h1])) J1
      · rw[br_neg h1]
        by_cases h2:s[i].mx=3
        · rw[br_pos (by simpa using h2)]
          exact hj11 bs _ (fin _ (by rw[if_neg h1,if_pos h2])) J1
        · rw[br_neg (by simpa using h2)]
          simp (disch:=first | omega | (simp only[ln0];omega)) only[rs,reduceIte,Nat.reduceAdd,hx,hit,hml,szs,hat,tp_at0,tp_at1,tp_at2,xcall_of hcn]
          have e3:contentB { s[i]with base:=bs } =contentB s[i]:=rfl
          rw[e3]
          by_cases h3:contentB s[i]=true
          · rw[br_pos h3]
            exact hj11 bs _ (fin _ (by rw[if_neg h1,if_neg h2,if_pos h3])) J1
          · rw[br_neg h3]
            exact hj11 bs _ (fin _ (by rw[if_neg h1,if_neg h2,if_neg h3])) J1
     simp (disch:=first | omega | (simp only[ln0];omega)) only[rs,reduceIte,Nat.reduceAdd,hx,hit,hml,szs,hat,tp_at0,tp_at1,tp_at2]
     by_cases h1:s[i].mn=2
     · rw[br_pos (by simpa using h1)]
       exact hj10 _ (by rw[if_pos h1])
     · rw[br_neg (by simpa using h1)]
       by_cases h2:s[i].mn=3
       · rw[br_pos (by simpa using h2)]
         exact hj10 _ (by rw[if_neg h1,if_pos h2])
       · rw[br_neg (by simpa using h2)]
         by_cases h3:s[i].mn=4
         · rw[br_pos (by simpa using h3)]
           exact hj10 _ (by rw[if_neg h1,if_neg h2,if_pos h3])
         · rw[br_neg (by simpa using h3)]
           exact hj10 _ (by rw[if_neg h1,if_neg h2,if_neg h3])
 · obtain rfl:i=s.length:=by omega
   simp (disch:=first | omega | (simp only[ln0];omega)) only[rs,reduceIte,Nat.reduceAdd,Nat.lt_irrefl,mix_full hal]
   exact hK
theorem l2_run (h:Ask s a ws) {r:List PV}
    (hK:∀ (x9:PV) (J1 J2 J3:JT),Run tr intrinsic_Size_l12 [rowOf eSz s,ints a,rowOf eWn ws,I mode,B true,rowOf eSz s,B f,B m,B m,x9,rowOf eTp (topS s a f ws (List.replicate s.length ⟨0,0,0⟩,List.replicate s.length false)).1,bools (topS s a f ws (List.replicate s.length ⟨0,0,0⟩,List.replicate s.length false)).2,I s.length,rowOf eSz (alS s (topS s a f ws (List.replicate s.length ⟨0,0,0⟩,List.replicate s.length false)).1 (topS s a f ws (List.replicate s.length ⟨0,0,0⟩,List.replicate s.length false)).2),I (0:Nat),ints [],rowOf eWn [],PV.row []] [J1,J2,.loop intrinsic_Size_l12 [rowOf eSz s,ints a,rowOf eWn ws,I mode,B true,rowOf eSz s,B f,B m,B m,x9,rowOf eTp (topS s a f ws (List.replicate s.length ⟨0,0,0⟩,List.replicate s.length false)).1,bools (topS s a f ws (List.replicate s.length ⟨0,0,0⟩,List.replicate s.length false)).2,I s.length,rowOf eSz (alS s (topS s a f ws (List.replicate s.length ⟨0,0,0⟩,List.replicate s.length false)).1 (topS s a f ws (List.replicate s.length ⟨0,0,0⟩,List.replicate s.length false)).2)]] r) :
    Run tr intrinsic_Size_j1 [rowOf eSz s,ints a,rowOf eWn ws,I mode,B true,rowOf eSz s,B f,B m,B m] [] r:=by
 have hal:=h.ha
 have hs:=h.hs
 have hwl:=h.hw
 have hlen:=topS_len s a f ws (List.replicate s.length ⟨0,0,0⟩,List.replicate s.length false)
 simp only[List.length_replicate]at hlen
 generalize hfin:topS s a f ws (List.replicate s.length ⟨0,0,0⟩,List.replicate s.length false)=fin at *
 rw[u_intrinsic_Size_j1]
 simp (disch:=first | omega | (simp only[ln0];omega)) only[rs,reduceIte,Nat.reduceAdd,tp_make]
 have key:=xup_ind (n:=ws.length) (P:=fun k=>∀ts:List Tp×List Bool,ts.1.length=s.length→ts.2.length=s.length→topS s a f (ws.drop k) ts=fin→Run tr intrinsic_Size_l2 [rowOf eSz s,ints a,rowOf eWn ws,I mode,B true,rowOf eSz s,B f,B m,B m,I k,rowOf eTp ts.1,bools ts.2] [.loop intrinsic_Size_l2 [rowOf eSz s,ints a,rowOf eWn ws,I mode,B true,rowOf eSz s,B f,B m,B m]] r) ?_ 0 (Nat.zero_le _)
 · exact key (List.replicate s.length ⟨0,0,0⟩,List.replicate s.length false) (by simp) (by simp) (by simpa using hfin)
 intro k hk ih ts h1 h2 hh
 rw[u_intrinsic_Size_l2]
 by_cases hx:k < ws.length
 · obtain⟨hi0,hi1,hi2⟩:=h.hi _ (List.getElem_mem hx)
   obtain⟨fm,hf⟩:∃f:Nat,ws[k].fm=f:=⟨ws[k].fm.toNat,by omega⟩
   rw[List.drop_eq_getElem_cons hx]at hh
   simp only[topS]at hh
   have ih':=ih hx (topStep s a f ws[k] ts) (by unfold topStep;split <;> simp[h1]) (by unfold topStep;split <;> simp[h2]) hh
   unfold topStep at ih'
   simp (disch:=first | omega | (simp only[ln0];omega)) only[rs,reduceIte,Nat.reduceAdd,hx,wn_at0,wn_at1,hf,beq_iff_eq]
   by_cases hc:ws[k].to=(fm:Int)+1
   · rw[br_pos hc]
     rw[hf,if_pos hc]at ih'
     have hfl:fm < ts.1.length:=by omega
     have hfl2:fm < ts.2.length:=by omega
     simp (disch:=first | omega | (simp only[ln0];omega)) only[rs,reduceIte,Nat.reduceAdd,hx,wn_at0,hf,hfl,hfl2]
     rw[run_seq]
     refine⟨_,sal_run (f:=f) (m:=m) h k hx _ _,rfl,?_⟩
     simp (disch:=first | omega | (simp only[ln0];omega)) only[rs,reduceIte,Nat.reduceAdd,hx,wn_at0,wn_at3,wn_at4,hf,hfl,hfl2,tp_put0,tp_put1,tp_put2,tp_at0,tp_at1,tp_at2,List.length_modify,List.getElem_modify,u_intrinsic_Size_j3]
     rw[mod3c ts.1 fm hfl _ _ _ (fun t=>⟨max t.a (wanted1 s a f ws[k]),max t.b ws[k].mn,max t.c ws[k].mx⟩) rfl]
     exact ih'
   · rw[br_neg hc]
     rw[hf,if_neg hc]at ih'
     simp (disch:=first | omega | (simp only[ln0];omega)) only[rs,reduceIte,Nat.reduceAdd,u_intrinsic_Size_j3]
     exact ih'
 · rw[List.drop_of_length_le (by omega)]at hh
   simp only[topS]at hh
   subst hh
   simp (disch:=first | omega | (simp only[ln0];omega)) only[rs,reduceIte,Nat.reduceAdd,hx]
   exact l8_run h ts.1 ts.2 hlen.1 hlen.2 _ _ (hK _ _ _ (.loop intrinsic_Size_l2 []))
end
def flexW (s:List Sz) (w:Wn):Bool:=((s.drop w.fm.toNat).take (w.to.toNat - w.fm.toNat)).any isFr
def grp (s:List Sz) (ws:List Wn) (n:Int):List Wn:=ws.filter fun w=>!flexW s w&& decide (1 < n)&& decide (w.to - w.fm=n)
def spanL (s:List Sz) (ws:List Wn):List Int:=((List.range (s.length+1)).filter (fun d:Nat=>!(grp s ws (d:Int)).isEmpty)).map Int.ofNat
theorem inc_ext:∀ (a b:List Int),a.Pairwise (· < ·)→b.Pairwise (· < ·)→(∀x,x∈a↔x∈b)→a=b
 | [],[],_,_,_=>rfl
 | [],y::b,_,_,h=>by have:=(h y).2 (by simp);simp at this
 | x::a,[],_,_,h=>by have:=(h x).1 (by simp);simp at this
 | x ::a,y::b,ha,hb,h=>by
  rw[List.pairwise_cons]at ha hb
  have hxy:x=y:=by
   have h1:=(h x).1 (by simp)
   have h2:=(h y).2 (by simp)
   rcases List.mem_cons.1 h1 with h1 | h1
   · exact h1
   · rcases List.mem_cons.1 h2 with h2 | h2
     · exact h2.symm
     · have:=hb.1 _ h1
       have:=ha.1 _ h2
       omega
  subst hxy
  congr 1
  refine inc_ext a b ha.2 hb.2 fun z=>?_
  constructor
  · intro hz
    rcases List.mem_cons.1 ((h z).1 (by simp[hz]))with hz' | hz'
    · have:=ha.1 _ hz;omega
    · exact hz'
  · intro hz
    rcases List.mem_cons.1 ((h z).2 (by simp[hz]))with hz' | hz'
    · have:=hb.1 _ hz;omega
    · exact hz'
theorem sort_is (l:List Int) (hn:l.Nodup) (b:List Int) (hb:b.Pairwise (· < ·)) (h:∀x,x∈l↔x∈b):l.mergeSort (fun x y=>decide (x≤y))=b:=by
 refine inc_ext _ _ ?_ hb (fun x=>by rw[List.mem_mergeSort];exact h x)
 have h1:=List.pairwise_mergeSort (le:=fun x y:Int=>decide (x≤y)) (fun a b c h1 h2=>by simp only[decide_eq_true_eq]at *;omega) (fun a b=>by simp only[Bool.or_eq_true,decide_eq_true_eq];omega) l
 have h2:(l.mergeSort fun x y=>decide (x≤y)).Pairwise (· ≠ ·):=(List.Perm.nodup_iff (List.mergeSort_perm l _)).2 hn
 refine(h1.and h2).imp ?_
 intro a b hab
 simp only[decide_eq_true_eq]at hab
 omega
theorem sort_ints (l:List Int):UO.sort.on (ints l)=ints (l.mergeSort fun x y=>decide (x≤y)):=by
 show PV.row _=PV.row _
 rw[List.map_mergeSort (s:=fun a b:List PV=>decide ((a.getD 0 .bad).i≤(b.getD 0 .bad).i))]
 · rfl
 · intro a _ b _
   rfl
theorem spanL_inc (s:List Sz) (ws:List Wn):(spanL s ws).Pairwise (· < ·):=by
 unfold spanL
 rw[List.pairwise_map]
 refine(List.pairwise_lt_range.filter _).imp ?_
 intro a b h
 show(a:Int) < b
 omega
theorem grp_in {s:List Sz} {ws:List Wn} {n:Int} {w:Wn} (h:w∈grp s ws n):w∈ws∧flexW s w=false∧1 < n∧w.to - w.fm=n:=by
 simp only[grp,List.mem_filter,Bool.and_eq_true,Bool.not_eq_true',decide_eq_true_eq]at h
 exact⟨h.1,h.2.1.1,h.2.1.2,h.2.2⟩
theorem mem_spanL {s:List Sz} {ws:List Wn} (hi:∀w∈ws,InW s.length w) (n:Int):n∈spanL s ws↔grp s ws n≠ []:=by
 unfold spanL
 simp only[List.mem_map,List.mem_filter,List.mem_range,Bool.not_eq_true',List.isEmpty_eq_false_iff]
 constructor
 · rintro⟨d,⟨_,hd⟩,rfl⟩
   exact hd
 · intro h
   obtain⟨w,hw⟩:=List.exists_mem_of_ne_nil _ h
   obtain⟨h1,_,h3,h4⟩:=grp_in hw
   obtain⟨i0,i1,i2⟩:=hi w h1
   refine⟨n.toNat,⟨by omega,?_⟩,?_⟩
   · rw[show((n.toNat:Nat):Int)=n by omega];exact h
   · show((n.toNat:Nat):Int)=n
     omega
noncomputable def spansS (a:List Int) (f m:Bool) (g:Int→List Wn):List Int→List Sz→List Sz
 | [],S=>S
 | n::l,S=>spansS a f m g l (severalS S a (g n) f m)
theorem spansS_len (a:List Int) (f m:Bool) (g:Int→List Wn):∀ (l:List Int) (S:List Sz),(spansS a f m g l S).length=S.length
 | [],_=>rfl
 | n::l,S=>by simp only[spansS];rw[spansS_len a f m g l,severalS_len]
noncomputable def aloneS (s:List Sz) (a:List Int) (ws:List Wn) (f:Bool):List Sz:=
 alS s (topS s a f ws (List.replicate s.length ⟨0,0,0⟩,List.replicate s.length false)).1 (topS s a f ws (List.replicate s.length ⟨0,0,0⟩,List.replicate s.length false)).2
theorem aloneS_len (s a ws f):(aloneS s a ws f).length=s.length:=alS_len _ _ _
noncomputable def sizeS (s:List Sz) (a:List Int) (ws:List Wn) (f m:Bool):List Sz:=
 flexS (spansS a f m (grp s ws) (spanL s ws) (aloneS s a ws f)) a (ws.filter (flexW s)) f m
section
variable {ws:List Wn} {s S1:List Sz} {a:List Int} {mode:Int}
theorem l17_run (h:Ask s a ws) (hS:S1.length=s.length) (x4 x5 x6 x7 x8 x9 x10 x11 x12 x14:PV) (spans:List Int) (M:List (List PV)) (hM:∀n,mapGetR M n=(grp s ws n).map eWn)
    (hsp:spans.mergeSort (fun x y=>decide (x≤y))=spanL s ws) (J1 J2 J3:JT) :
    Run tr intrinsic_Size_l17 [rowOf eSz s,ints a,rowOf eWn ws,I mode,x4,x5,x6,x7,x8,x9,x10,x11,x12,rowOf eSz S1,x14,ints spans,rowOf eWn (ws.filter (flexW s)),PV.row M,I (0:Nat),rowOf eSz S1] [J1,J2,J3,.loop intrinsic_Size_l17 [rowOf eSz s,ints a,rowOf eWn ws,I mode,x4,x5,x6,x7,x8,x9,x10,x11,x12,rowOf eSz S1,x14,ints spans,rowOf eWn (ws.filter (flexW s)),PV.row M]]
     [rowOf eSz (flexS (spansS a (decide (mode≠0)) (decide (mode=2)) (grp s ws) (spanL s ws) S1) a (ws.filter (flexW s)) (decide (mode≠0)) (decide (mode=2))),I 0]:=by
 have hsort:=sort_ints spans
 rw[hsp]at hsort
 generalize hl:spanL s ws=L at *
 have hLin:∀n∈L,grp s ws n≠ []:=fun n hn=>(mem_spanL h.hi n).1 (by rw[hl];exact hn)
 have hb:∀n∈L,1 < n∧n≤s.length:=by
  intro n hn
  obtain⟨w,hw⟩:=List.exists_mem_of_ne_nil _ (hLin n hn)
  obtain⟨h1,_,h3,h4⟩:=grp_in hw
  obtain⟨i0,i1,i2⟩:=h.hi w h1
  omega
 have hLl:L.length≤s.length+1:=by
  rw[←hl]
  unfold spanL
  rw[List.length_map]
  refine Nat.le_trans (List.length_filter_le _ _) ?_
  simp
 have hs:=h.hs
 generalize hfin:spansS a (decide (mode≠0)) (decide (mode=2)) (grp s ws) L S1=fin
 have key:=xup_ind (n:=L.length) (P:=fun k=>∀S:List Sz,S.length=s.length→spansS a (decide (mode≠0)) (decide (mode=2)) (grp s ws) (L.drop k) S=fin→
  Run tr intrinsic_Size_l17 [rowOf eSz s,ints a,rowOf eWn ws,I mode,x4,x5,x6,x7,x8,x9,x10,x11,x12,rowOf eSz S1,x14,ints spans,rowOf eWn (ws.filter (flexW s)),PV.row M,I k,rowOf eSz S] [J1,J2,J3,.loop intrinsic_Size_l17 [rowOf eSz s,ints a,rowOf eWn ws,I mode,x4,x5,x6,x7,x8,x9,x10,x11,x12,rowOf eSz S1,x14,ints spans,rowOf eWn (ws.filter (flexW s)),PV.row M]]
   [rowOf eSz (flexS fin a (ws.filter (flexW s)) (decide (mode≠0)) (decide (mode=2))),I 0]) ?_ 0 (Nat.zero_le _)
 · exact key _ hS (by simpa using hfin)
 intro k hk ih S hSl hh
 rw[u_intrinsic_Size_l17]
 by_cases hx:k < L.length
 · rw [List.drop_eq_getElem_cons hx]at hh
   simp only[spansS]at hh
   have hbk:=hb _ (List.getElem_mem hx)
   have ih':=ih hx _ (by rw[severalS_len];exact hSl) hh
   have askk:Ask S a (grp s ws L[k]):=⟨by omega,by rw[hSl];exact h.ha,Nat.le_trans (List.length_filter_le _ _) h.hw,fun w hw=>by rw[hSl];exact h.hi w (grp_in hw).1⟩
   have j18:∀f:Bool,f=decide (mode≠0)→Run tr intrinsic_Size_j18 [rowOf eSz s,ints a,rowOf eWn ws,I mode,x4,x5,x6,x7,x8,x9,x10,x11,x12,rowOf eSz S1,x14,ints spans,rowOf eWn (ws.filter (flexW s)),PV.row M,I k,rowOf eSz S,B f] [J1,J2,J3,.loop intrinsic_Size_l17 [rowOf eSz s,ints a,rowOf eWn ws,I mode,x4,x5,x6,x7,x8,x9,x10,x11,x12,rowOf eSz S1,x14,ints spans,rowOf eWn (ws.filter (flexW s)),PV.row M]]
    [rowOf eSz (flexS fin a (ws.filter (flexW s)) (decide (mode≠0)) (decide (mode=2))),I 0]:=by
    intro f hf
    have j19:∀m:Bool,m=decide (mode=2)→Run tr intrinsic_Size_j19 [rowOf eSz s,ints a,rowOf eWn ws,I mode,x4,x5,x6,x7,x8,x9,x10,x11,x12,rowOf eSz S1,x14,ints spans,rowOf eWn (ws.filter (flexW s)),PV.row M,I k,rowOf eSz S,B f,B m,B m] [J1,J2,J3,.loop intrinsic_Size_l17 [rowOf eSz s,ints a,rowOf eWn ws,I mode,x4,x5,x6,x7,x8,x9,x10,x11,x12,rowOf eSz S1,x14,ints spans,rowOf eWn (ws.filter (flexW s)),PV.row M]]
     [rowOf eSz (flexS fin a (ws.filter (flexW s)) (decide (mode≠0)) (decide (mode=2))),I 0]:=by
     intro m hm
     refine Run.unf same_j19 ?_
     rw[←hf,←hm]at ih' ⊢
     refine several_run (f:=f) (m:=m) (k:=k) askk rfl rfl ?_ ?_ ?_ ?_ ?_ ?_ (by omega) ?_ ?_
     · intro β
       have e:BO.rget.on (PV.row M) (I L[k])=rowOf eWn (grp s ws L[k]):=by
        show PV.row (mapGetR M L[k])=_
        rw[hM]
        rfl
       simp (disch:=first | omega | (simp only[ln0];omega)) only[rs,reduceIte,Nat.reduceAdd,hsort,hx,e]
     all_goals first
      | (intro β;simp (disch:=first | omega | (simp only[ln0];omega)) only[rs,reduceIte,Nat.reduceAdd];done)
      | exact ih'
    rw[u_intrinsic_Size_j18]
    simp (disch:=first | omega | (simp only[ln0];omega)) only[rs,reduceIte,Nat.reduceAdd,beq_iff_eq]
    refine br_split ?_ ?_ <;> intro _
    · rename_i h2
      exact j19 true (by rw[decide_eq_true h2])
    · rename_i h2
      exact j19 false (by rw[decide_eq_false h2])
   have g1:(-9223372036854775808:Int)≤L[k]:=by omega
   have g2:L[k]≤(9223372036854775807:Int):=by omega
   simp (disch:=first | omega | (simp only[ln0];omega)) only[rs,reduceIte,Nat.reduceAdd,hsort,hx,g1,g2,bne_iff_ne,ne_eq]
   refine br_split ?_ ?_ <;> intro _
   · rename_i h2
     exact j18 true (by rw[decide_eq_true h2])
   · rename_i h2
     exact j18 false (by rw[decide_eq_false h2])
 · rw [List.drop_of_length_le (by omega)]at hh
   simp only[spansS]at hh
   subst hh
   have askF:Ask S a (ws.filter (flexW s)):=⟨by omega,by rw[hSl];exact h.ha,Nat.le_trans (List.length_filter_le _ _) h.hw,fun w hw=>by rw[hSl];exact h.hi w (List.mem_filter.1 hw).1⟩
   have j18:∀f:Bool,f=decide (mode≠0)→Run tr intrinsic_Size_j106 [rowOf eSz s,ints a,rowOf eWn ws,I mode,x4,x5,x6,x7,x8,x9,x10,x11,x12,rowOf eSz S1,x14,ints spans,rowOf eWn (ws.filter (flexW s)),PV.row M,I k,rowOf eSz S,B f] [J1,J2,J3,.loop intrinsic_Size_l17 [rowOf eSz s,ints a,rowOf eWn ws,I mode,x4,x5,x6,x7,x8,x9,x10,x11,x12,rowOf eSz S1,x14,ints spans,rowOf eWn (ws.filter (flexW s)),PV.row M]]
    [rowOf eSz (flexS S a (ws.filter (flexW s)) (decide (mode≠0)) (decide (mode=2))),I 0]:=by
    intro f hf
    have j19:∀m:Bool,m=decide (mode=2)→Run tr intrinsic_Size_j107 [rowOf eSz s,ints a,rowOf eWn ws,I mode,x4,x5,x6,x7,x8,x9,x10,x11,x12,rowOf eSz S1,x14,ints spans,rowOf eWn (ws.filter (flexW s)),PV.row M,I k,rowOf eSz S,B f,B m,B m] [J1,J2,J3,.loop intrinsic_Size_l17 [rowOf eSz s,ints a,rowOf eWn ws,I mode,x4,x5,x6,x7,x8,x9,x10,x11,x12,rowOf eSz S1,x14,ints spans,rowOf eWn (ws.filter (flexW s)),PV.row M]]
     [rowOf eSz (flexS S a (ws.filter (flexW s)) (decide (mode≠0)) (decide (mode=2))),I 0]:=by
     intro m hm
     refine Run.unf same_j107 ?_
     rw[←hf,←hm]
     refine flex_run (f:=f) (m:=m) askF rfl rfl ?_ ?_ ?_ ?_ ?_ ?_
     all_goals (intro β;simp (disch:=first | omega | (simp only[ln0];omega)) only[rs,reduceIte,Nat.reduceAdd])
    rw[u_intrinsic_Size_j106]
    simp (disch:=first | omega | (simp only[ln0];omega)) only[rs,reduceIte,Nat.reduceAdd,beq_iff_eq]
    refine br_split ?_ ?_ <;> intro _
    · rename_i h2
      exact j19 true (by rw[decide_eq_true h2])
    · rename_i h2
      exact j19 false (by rw[decide_eq_false h2])
   simp (disch:=first | omega | (simp only[ln0];omega)) only[rs,reduceIte,Nat.reduceAdd,hsort,hx,bne_iff_ne,ne_eq]
   refine br_split ?_ ?_ <;> intro _
   · rename_i h2
     exact j18 true (by rw[decide_eq_true h2])
   · rename_i h2
     exact j18 false (by rw[decide_eq_false h2])
end
theorem wn_snoc (l:List Wn) (a b c d e:Int):PV.row (l.map eWn++ [[I a,I b,I c,I d,I e]])=rowOf eWn (l++ [⟨a,b,c,d,e⟩]):=xmap_snoc l _ rfl
theorem grp_take {s:List Sz} {ws:List Wn} {k:Nat} (h:k < ws.length) (n:Int):grp s (ws.take (k+1)) n=grp s (ws.take k) n++(if flexW s ws[k]=false∧1 < n∧ws[k].to - ws[k].fm=n then [ws[k]]else []):=by
 rw[List.take_succ_eq_append_getElem h]
 simp only[grp,List.filter_append,List.filter_cons,List.filter_nil,Bool.and_eq_true,Bool.not_eq_true',decide_eq_true_eq]
 congr 1
 by_cases hc:flexW s ws[k]=false∧1 < n∧ws[k].to - ws[k].fm=n
 · rw[if_pos hc,if_pos ⟨⟨hc.1,hc.2.1⟩,hc.2.2⟩]
 · rw[if_neg hc,if_neg (fun hh=>hc ⟨hh.1.1,hh.1.2,hh.2⟩)]
theorem flex_take {s:List Sz} {ws:List Wn} {k:Nat} (h:k < ws.length):(ws.take (k+1)).filter (flexW s)=(ws.take k).filter (flexW s)++(if flexW s ws[k]=true then [ws[k]]else []):=by
 rw[List.take_succ_eq_append_getElem h,List.filter_append]
 simp only[List.filter_cons,List.filter_nil]
section
variable {ws:List Wn} {s S1:List Sz} {a:List Int} {mode:Int}
theorem l12_run (h:Ask s a ws) (hS:S1.length=s.length) (x4 x5 x6 x7 x8 x9 x10 x11 x12:PV) (J1 J2:JT) :
    Run tr intrinsic_Size_l12 [rowOf eSz s,ints a,rowOf eWn ws,I mode,x4,x5,x6,x7,x8,x9,x10,x11,x12,rowOf eSz S1,I (0:Nat),ints [],rowOf eWn [],PV.row []] [J1,J2,.loop intrinsic_Size_l12 [rowOf eSz s,ints a,rowOf eWn ws,I mode,x4,x5,x6,x7,x8,x9,x10,x11,x12,rowOf eSz S1]]
     [rowOf eSz (flexS (spansS a (decide (mode≠0)) (decide (mode=2)) (grp s ws) (spanL s ws) S1) a (ws.filter (flexW s)) (decide (mode≠0)) (decide (mode=2))),I 0]:=by
 have hs:=h.hs
 have hwl:=h.hw
 generalize hres: [rowOf eSz (flexS (spansS a (decide (mode≠0)) (decide (mode=2)) (grp s ws) (spanL s ws) S1) a (ws.filter (flexW s)) (decide (mode≠0)) (decide (mode=2))),I 0]=res
 have key:=xup_ind (n:=ws.length) (P:=fun k=>∀ (spans:List Int) (M:List (List PV)),spans.length≤k→M.length≤k→spans.Nodup→(∀n,n∈spans↔grp s (ws.take k) n≠ [])→(∀n,mapGetR M n=(grp s (ws.take k) n).map eWn)→
  Run tr intrinsic_Size_l12 [rowOf eSz s,ints a,rowOf eWn ws,I mode,x4,x5,x6,x7,x8,x9,x10,x11,x12,rowOf eSz S1,I k,ints spans,rowOf eWn ((ws.take k).filter (flexW s)),PV.row M] [J1,J2,.loop intrinsic_Size_l12 [rowOf eSz s,ints a,rowOf eWn ws,I mode,x4,x5,x6,x7,x8,x9,x10,x11,x12,rowOf eSz S1]] res) ?_ 0 (Nat.zero_le _)
 · exact key [] [] (by simp) (by simp) (by simp) (by simp[grp]) (by simp[grp,mapGetR])
 intro k hk ih spans M hsl hMl hnd hmem hM
 rw[u_intrinsic_Size_l12]
 by_cases hx:k < ws.length
 · obtain ⟨hi0,hi1,hi2⟩:=h.hi _ (List.getElem_mem hx)
   obtain⟨fm,hf⟩:∃f:Nat,ws[k].fm=f:=⟨ws[k].fm.toNat,by omega⟩
   obtain⟨t,ht⟩:∃t:Nat,ws[k].to=t:=⟨ws[k].to.toNat,by omega⟩
   have hfl:((ws.take k).filter (flexW s)).length≤k:=Nat.le_trans (List.length_filter_le _ _) (by simp;omega)
   have hgl:∀n,(grp s (ws.take k) n).length≤k:=fun n=>Nat.le_trans (List.length_filter_le _ _) (by simp;omega)
   have ihk:=ih hx
   have hgt:=grp_take (s:=s) hx
   have hft:=flex_take (s:=s) hx
   have hwe:(⟨(fm:Int),(t:Int),ws[k].least,ws[k].mn,ws[k].mx⟩:Wn)=ws[k]:=by rw[←hf,←ht]
   have hflex:flexW s ws[k]=((s.drop fm).take (t - fm)).any isFr:=by simp[flexW,hf,ht]
   have hj14 :∀ (i:Int) (J3:JT),decide (0≤i)=flexW s ws[k]→J3= .join intrinsic_Size_j13 [rowOf eSz s,ints a,rowOf eWn ws,I mode,x4,x5,x6,x7,x8,x9,x10,x11,x12,rowOf eSz S1,I k,ints spans,rowOf eWn ((ws.take k).filter (flexW s)),PV.row M]→
       Run tr intrinsic_Size_j14 [rowOf eSz s,ints a,rowOf eWn ws,I mode,x4,x5,x6,x7,x8,x9,x10,x11,x12,rowOf eSz S1,I k,ints spans,rowOf eWn ((ws.take k).filter (flexW s)),PV.row M,I i] [J1,J2,.loop intrinsic_Size_l12 [rowOf eSz s,ints a,rowOf eWn ws,I mode,x4,x5,x6,x7,x8,x9,x10,x11,x12,rowOf eSz S1],J3] res:=by
    intro i J3 hi hJ3
    subst hJ3
    rw[u_intrinsic_Size_j14]
    simp (disch:=first | omega | (simp only[ln0];omega)) only[rs,reduceIte,Nat.reduceAdd,ge_iff_le]
    by_cases h0:0≤i
    · rw[br_pos h0]
      have hfx:flexW s ws[k]=true:=by rw[←hi];exact decide_eq_true h0
      have hno:∀n,¬ (flexW s ws[k]=false∧1 < n∧ws[k].to - ws[k].fm=n):=fun n hh=>by rw[hfx]at hh;cases hh.1
      simp only[hno,if_false,List.append_nil]at hgt
      rw[if_pos hfx]at hft
      have hlen2:(((ws.take k).filter (flexW s)).length:Int)+1≤4294967296:=by omega
      have ih':=ihk spans M (by omega) (by omega) hnd (by simp only[hgt];exact hmem) (by simp only[hgt];exact hM)
      rw[hft,←hwe]at ih'
      simp (disch:=first | omega | (simp only[ln0];omega)) only[rs,reduceIte,Nat.reduceAdd,wn_at0,wn_at1,wn_at2,wn_at3,wn_at4,wn_snoc,hx,hf,ht,hlen2,u_intrinsic_Size_j13]
      first | exact ih' | exact⟨by omega,ih'⟩
    · rw [br_neg h0]
      have hfx:flexW s ws[k]=false:=by rw[←hi];exact decide_eq_false h0
      rw[if_neg (by rw[hfx];simp),List.append_nil]at hft
      simp (disch:=first | omega | (simp only[ln0];omega)) only[rs,reduceIte,Nat.reduceAdd,wn_at0,wn_at1,wn_at2,wn_at3,wn_at4,hx,hf,ht,gt_iff_lt]
      have hd:IntKind.i64.wrap ((t:Int) - (fm:Int))=(t:Int) - (fm:Int):=wrap_in (by omega) (by omega)
      by_cases h1:1 < (t:Int) - (fm:Int)
      · first | rw[br_pos h1] | (rw[hd];rw[br_pos h1])
        have b1:(-9223372036854775808:Int)≤(t:Int) - (fm:Int):=by omega
        have b2:(t:Int) - (fm:Int)≤(9223372036854775807:Int):=by omega
        have hget:BO.rget.on (PV.row M) (I ((t:Int) - (fm:Int)))=rowOf eWn (grp s (ws.take k) ((t:Int) - (fm:Int))):=by
         show PV.row (mapGetR M ((t:Int) - (fm:Int)))=_
         rw[hM]
         rfl
        have hgd:=hgl ((t:Int) - (fm:Int))
        have hM':∀n,mapGetR ([I ((t:Int) - (fm:Int)),rowOf eWn (grp s (ws.take k) ((t:Int) - (fm:Int))++ [ws[k]])]::M) n=(grp s (ws.take (k+1)) n).map eWn:=by
         intro n
         rw[hgt n]
         show(if((t:Int) - (fm:Int))=n then _ else mapGetR M n)=_
         by_cases hn:(t:Int) - (fm:Int)=n
         · subst hn
           rw[if_pos rfl,if_pos ⟨hfx,h1,by rw[hf,ht]⟩]
           rfl
         · rw[if_neg hn,if_neg (fun hh=>hn (by rw[←hf,←ht];exact hh.2.2)),List.append_nil,hM]
        have hj15:∀sp':List Int,sp'.length≤k+1→sp'.Nodup→(∀n,n∈sp'↔grp s (ws.take (k+1)) n≠ [])→
            Run tr intrinsic_Size_j15 [rowOf eSz s,ints a,rowOf eWn ws,I mode,x4,x5,x6,x7,x8,x9,x10,x11,x12,rowOf eSz S1,I k,ints spans,rowOf eWn ((ws.take k).filter (flexW s)),PV.row M,I i,ints sp'] [J1,J2,.loop intrinsic_Size_l12 [rowOf eSz s,ints a,rowOf eWn ws,I mode,x4,x5,x6,x7,x8,x9,x10,x11,x12,rowOf eSz S1],.join intrinsic_Size_j13 [rowOf eSz s,ints a,rowOf eWn ws,I mode,x4,x5,x6,x7,x8,x9,x10,x11,x12,rowOf eSz S1,I k,ints spans,rowOf eWn ((ws.take k).filter (flexW s)),PV.row M]] res:=by
         intro sp' h1' h2' h3'
         have ih':=ihk sp' _ h1' (by simp;omega) h2' h3' hM'
         rw[hft,←hwe]at ih'
         have c1:(((grp s (ws.take k) ((t:Int) - (fm:Int))).length:Int)+1≤4294967296):=by omega
         have c2:((M.length:Int)≤4294967296):=by omega
         have emp:BO.mput.on (PV.row M) (PV.cells [I ((t:Int) - (fm:Int)),rowOf eWn (grp s (ws.take k) ((t:Int) - (fm:Int))++ [⟨(fm:Int),(t:Int),ws[k].least,ws[k].mn,ws[k].mx⟩])])=PV.row ([I ((t:Int) - (fm:Int)),rowOf eWn (grp s (ws.take k) ((t:Int) - (fm:Int))++ [⟨(fm:Int),(t:Int),ws[k].least,ws[k].mn,ws[k].mx⟩])]::M):=rfl
         rw[u_intrinsic_Size_j15]
         simp (disch:=first | omega | (simp only[ln0];omega)) only[rs,reduceIte,Nat.reduceAdd,wn_at0,wn_at1,wn_at2,wn_at3,wn_at4,hx,hf,ht,b1,b2,hget,c1,c2,wn_snoc,emp,u_intrinsic_Size_j13]
         first | exact ih' | exact⟨by omega,ih'⟩ | exact⟨by omega,by omega,ih'⟩
        simp (disch:=first | omega | (simp only[ln0];omega)) only[rs,reduceIte,Nat.reduceAdd,wn_at0,wn_at1,wn_at2,wn_at3,wn_at4,hx,hf,ht,b1,b2,hget,beq_iff_eq]
        have hmem':∀n,(n∈spans∨n=(t:Int) - (fm:Int))↔grp s (ws.take (k+1)) n≠ []:=by
         intro n
         rw[hgt n,hmem]
         by_cases hn:(t:Int) - (fm:Int)=n
         · subst hn
           rw[if_pos ⟨hfx,h1,by rw[hf,ht]⟩]
           simp
         · rw[if_neg (fun hh=>hn (by rw[←hf,←ht];exact hh.2.2)),List.append_nil]
           constructor
           · rintro(hh | hh)
             · exact hh
             · exact absurd hh.symm hn
           · exact Or.inl
        refine br_split ?_ ?_ <;> intro _
        · rename_i he
          have hnil:grp s (ws.take k) ((t:Int) - (fm:Int))=[]:=List.length_eq_zero_iff.1 (by omega)
          have hnin:¬ ((t:Int) - (fm:Int))∈spans:=fun hh=>(hmem _).1 hh hnil
          have c3:(spans.length:Int)+1≤4294967296:=by omega
          have hgo:=hj15 (spans++ [(t:Int) - (fm:Int)]) (by simp;omega) (by
           rw[List.nodup_append]
           exact⟨hnd,by simp,fun x hx y hy=>by simp only[List.mem_singleton]at hy;subst hy;intro hxy;subst hxy;exact hnin hx⟩) (fun n=>by rw[←hmem' n];simp)
          first | exact hgo | exact⟨by omega,hgo⟩
        · rename_i he
          have hne:grp s (ws.take k) ((t:Int) - (fm:Int))≠ []:=fun hh=>he (by rw[hh];rfl)
          have hin:=(hmem _).2 hne
          exact hj15 spans (by omega) hnd (fun n=>by
           rw[←hmem' n]
           constructor
           · exact Or.inl
           · rintro(hh | hh)
             · exact hh
             · rw[hh];exact hin)
      · first | rw[br_neg h1] | (rw[hd];rw[br_neg h1])
        have hno:∀n,¬ (flexW s ws[k]=false∧1 < n∧ws[k].to - ws[k].fm=n):=fun n hh=>by rw[hf,ht]at hh;omega
        simp only[hno,if_false,List.append_nil]at hgt
        have ih':=ihk spans M (by omega) (by omega) hnd (by simp only[hgt];exact hmem) (by simp only[hgt];exact hM)
        rw[hft]at ih'
        simp (disch:=first | omega | (simp only[ln0];omega)) only[rs,reduceIte,Nat.reduceAdd,u_intrinsic_Size_j13]
        exact ih'
   simp (disch:=first | omega | (simp only[ln0];omega)) only[rs,reduceIte,Nat.reduceAdd,wn_at0,wn_at1,hx,hf,ht]
   refine⟨by omega,by omega,?_⟩
   generalize hc:(s.drop fm).take (t - fm)=c at *
   have ec:((s.map eSz).drop fm).take ((t:Int) - (fm:Int)).toNat=c.map eSz:=by
    rw[row_cut,←hc]
    congr 2;omega
   have hcl:c.length≤1000000:=by rw[←hc];simp;omega
   have key2:=xup_ind (n:=c.length) (P:=fun j=>flexW s ws[k]=(c.drop j).any isFr→Run tr intrinsic_Size_l16 [rowOf eSz s,ints a,rowOf eWn ws,I mode,x4,x5,x6,x7,x8,x9,x10,x11,x12,rowOf eSz S1,I k,ints spans,rowOf eWn ((ws.take k).filter (flexW s)),PV.row M,I j] [J1,J2,.loop intrinsic_Size_l12 [rowOf eSz s,ints a,rowOf eWn ws,I mode,x4,x5,x6,x7,x8,x9,x10,x11,x12,rowOf eSz S1],.join intrinsic_Size_j13 [rowOf eSz s,ints a,rowOf eWn ws,I mode,x4,x5,x6,x7,x8,x9,x10,x11,x12,rowOf eSz S1,I k,ints spans,rowOf eWn ((ws.take k).filter (flexW s)),PV.row M],.join intrinsic_Size_j14 [rowOf eSz s,ints a,rowOf eWn ws,I mode,x4,x5,x6,x7,x8,x9,x10,x11,x12,rowOf eSz S1,I k,ints spans,rowOf eWn ((ws.take k).filter (flexW s)),PV.row M],.loop intrinsic_Size_l16 [rowOf eSz s,ints a,rowOf eWn ws,I mode,x4,x5,x6,x7,x8,x9,x10,x11,x12,rowOf eSz S1,I k,ints spans,rowOf eWn ((ws.take k).filter (flexW s)),PV.row M]] res) ?_ 0 (Nat.zero_le _)
   · exact key2 (by simpa using hflex)
   intro j hj ih2 hfx
   rw[u_intrinsic_Size_l16]
   by_cases hj2:j < c.length
   · rw[List.drop_eq_getElem_cons hj2,List.any_cons]at hfx
     have h1:=sz1_sp c[j]
     simp (disch:=first | omega | (simp only[ln0];omega)) only[rs,reduceIte,Nat.reduceAdd,wn_at0,wn_at1,hx,hf,ht,ec,hj2,szs,xcall_of h1]
     cases hfr:isFr c[j]with
     | true=>
      rw[br_pos rfl]
      exact hj14 (j:Int) _ (by rw[hfx,hfr,decide_eq_true (by omega)];rfl) rfl
     | false=>
      rw[br_neg (by simp)]
      exact ih2 hj2 (by rw[hfx,hfr,Bool.false_or])
   · rw[List.drop_of_length_le (by omega)]at hfx
     simp (disch:=first | omega | (simp only[ln0];omega)) only[rs,reduceIte,Nat.reduceAdd,wn_at0,wn_at1,hx,hf,ht,ec,hj2]
     exact hj14 (-1) _ (by rw[hfx];rfl) rfl
 · obtain rfl:k=ws.length:=by omega
   rw[List.take_length]at hmem hM ⊢
   have hlen3:(spans.length:Int)≤4294967296:=by omega
   simp (disch:=first | omega | (simp only[ln0];omega)) only[rs,reduceIte,Nat.reduceAdd,Nat.lt_irrefl,hlen3]
   rw[←hres]
   exact l17_run h hS x4 x5 x6 x7 x8 x9 x10 x11 x12 (I ws.length) spans M hM (sort_is spans hnd _ (spanL_inc s ws) (fun x=>by rw[hmem,mem_spanL h.hi])) _ _ _
end
theorem good_ask {s:List Sz} {a:List Int} {ws:List Wn} {mode:Int} (h:goodI s a ws mode=true) (hs:s.length≤50000):Ask s a ws:=by
 simp only[goodI,Bool.and_eq_true,decide_eq_true_eq,List.all_eq_true]at h
 exact⟨hs,h.1.1.1.1.1.1,by have:=h.1.1.1.1.1.2;omega,fun w hw=>okW_in (h.2 w hw)⟩
noncomputable def sizeR (s:List Sz) (a:List Int) (ws:List Wn) (mode:Int):List Sz×Int:=
 if goodI s a ws mode=true then(sizeS s a ws (decide (mode≠0)) (decide (mode=2)),0)else([],2)
theorem isize_sp (s:List Sz) (a:List Int) (ws:List Wn) (mode:Int) (hs:s.length≤50000) (ha:a.length≤1000000):Says tr c_intrinsic_Size [rowOf eSz s,ints a,rowOf eWn ws,I mode] [rowOf eSz (sizeR s a ws mode).1,I (sizeR s a ws mode).2]:=by
 refine Says.of (t:=intrinsic_Size) rfl ?_
 rw[u_intrinsic_Size]
 simp (disch:=first | omega | (simp only[ln0];omega)) only[rs,reduceIte,Nat.reduceAdd,xcall_of (igood_sp s a ws mode (by omega) ha)]
 unfold sizeR
 cases hg:goodI s a ws mode with
 | false=>
  rw[br_neg (by simp),if_neg (by simp)]
  rfl
 | true=>
  rw[br_pos rfl,if_pos rfl]
  have h:=good_ask hg hs
  have l1:(s.length:Int)≤5864062014805:=by omega
  have l2:(s.length:Int)≤140737488355328:=by omega
  simp (disch:=first | omega | (simp only[ln0];omega)) only[rs,reduceIte,Nat.reduceAdd,xcall_of (clone_sp s (by omega)),l1,l2,bne_iff_ne,ne_eq]
  have j0:∀f:Bool,f=decide (mode≠0)→Run tr intrinsic_Size_j0 [rowOf eSz s,ints a,rowOf eWn ws,I mode,B true,rowOf eSz s,B f] [] [rowOf eSz (sizeS s a ws (decide (mode≠0)) (decide (mode=2))),I 0]:=by
   intro f hf
   have j1:∀m:Bool,m=decide (mode=2)→Run tr intrinsic_Size_j1 [rowOf eSz s,ints a,rowOf eWn ws,I mode,B true,rowOf eSz s,B f,B m,B m] [] [rowOf eSz (sizeS s a ws (decide (mode≠0)) (decide (mode=2))),I 0]:=by
    intro m hm
    refine l2_run (f:=f) (m:=m) h (fun x9 J1 J2 J3=>?_)
    rw[hf]
    exact l12_run h (alS_len _ _ _) _ _ _ _ _ _ _ _ _ _ _
   rw[u_intrinsic_Size_j0]
   simp (disch:=first | omega | (simp only[ln0];omega)) only[rs,reduceIte,Nat.reduceAdd,beq_iff_eq]
   refine br_split ?_ ?_ <;> intro _
   · rename_i h2
     exact j1 true (by rw[decide_eq_true h2])
   · rename_i h2
     exact j1 false (by rw[decide_eq_false h2])
  refine br_split ?_ ?_ <;> intro _
  · rename_i h2
    exact j0 true (by rw[decide_eq_true h2])
  · rename_i h2
    exact j0 false (by rw[decide_eq_false h2])
theorem sizeR_len (s:List Sz) (a:List Int) (ws:List Wn) (mode:Int) (h:goodI s a ws mode=true):(sizeR s a ws mode).1.length=s.length:=by
 unfold sizeR sizeS
 rw[if_pos h]
 simp only[flexS_len,spansS_len,aloneS_len]
end Go.Proofs.YtckjdlmfibjpaaaGreat.T

/- Plain laws that the claim needs (texts joined to one). No condition. -/
import Derived.Test.YtckjdlmfibjpaaaGreatT
import Derived.Test.YtckjdlmfibjpaaaGreatQ1
import Derived.Test.YtckjdlmfibjpaaaGreatSx6
set_option linter.unusedVariables false
set_option linter.unusedSimpArgs false
set_option maxRecDepth 20000
namespace Go.Proofs.YtckjdlmfibjpaaaGreat.T
open Go Go.Proofs.YtckjdlmfibjpaaaGreat.Sx Go.Proofs.YtckjdlmfibjpaaaGreat.M
abbrev U6 (x:Int):PV:= .int .u64 x
theorem shr_at (x:Int) (s:Nat) (h:s≤64):arith .shr .u64 x (s:Int)=x / 2 ^ s:=by
 show x.fdiv (2 ^ (min (s:Int).toNat 64))=_
 rw[Int.toNat_natCast,Nat.min_eq_left h,Int.fdiv_eq_ediv_of_nonneg _ (Int.le_of_lt (Int.pow_pos (by decide)))]
theorem shr32 (x:Int):arith .shr .u64 x 32=x / 4294967296:=shr_at x 32 (by decide)
theorem shr16 (x:Int):arith .shr .u64 x 16=x / 65536:=shr_at x 16 (by decide)
theorem shr8 (x:Int):arith .shr .u64 x 8=x / 256:=shr_at x 8 (by decide)
theorem shl_at (x:Int) (s:Nat) (h:s≤64):arith .shl .u64 x (s:Int)=IntKind.u64.wrap (x*2 ^ s):=by
 show IntKind.u64.wrap (x*2 ^ (min (s:Int).toNat 64))=_
 rw[Int.toNat_natCast,Nat.min_eq_left h]
theorem and32 (x:Int) (h0:0≤x) (h1:x < 18446744073709551616):arith .and .u64 x 4294967295=x % 4294967296:=
 bits_mask .u64 64 (by decide) (fun n a b=>u64_in n a b) 32 (by decide) x h0 h1
theorem or_join (s:Nat) (x y:Int) (hx0:0≤x) (hx:x % 2 ^ s=0) (hx1:x < 18446744073709551616) (hy0:0≤y) (hy:y < 2 ^ s) (hy1:y < 18446744073709551616):arith .or .u64 x y=x+y:=
 bits_join .u64 64 (by decide) (fun n a b=>u64_in n a b) s x y hx0 hx hx1 hy0 hy hy1
theorem fsize_sp (a:Int) (h: -9223372036854775808≤a∧a≤9223372036854775807):Says tr c_fixed_size [I a] [U6 (ab a)]:=by
 refine Says.of (t:=fixed_size) rfl ?_
 rw[u_fixed_size]
 simp (disch:=first | omega | (simp only[ln0];omega)) only[rs,reduceIte,Nat.reduceAdd,IntKind.wrap_u64]
 refine br_split ?_ ?_ <;> intro _
 · rename_i h0
   have:(0 - a % 18446744073709551616) % 18446744073709551616=ab a:=by unfold ab;rw[if_pos h0];omega
   rw[this]
 · rename_i h0
   have:a % 18446744073709551616=ab a:=by unfold ab;rw[if_neg h0];omega
   rw[this]
theorem mul64_sp (a b:Int) (ha:0≤a) (ha1:a < 18446744073709551616) (hb:0≤b) (hb1:b < 18446744073709551616):Says tr c_math_bits_Mul64 [U6 a,U6 b] [U6 (a*b / 18446744073709551616),U6 (a*b % 18446744073709551616)]:=by
 refine Says.of (t:=math_bits_Mul64) rfl ?_
 rw[u_math_bits_Mul64]
 simp (disch:=first | omega | (simp only[ln0];omega)) only[rs,reduceIte,Nat.reduceAdd,shr32,and32,IntKind.wrap_u64]
 obtain⟨h1,h2,h3,h4,h5,h6,h7,h8,h9⟩:=mul_halves a b ha ha1 hb hb1
 generalize a % 4294967296*(b % 4294967296)=p00 at *
 generalize a / 4294967296*(b % 4294967296)=p10 at *
 generalize a % 4294967296*(b / 4294967296)=p01 at *
 generalize a / 4294967296*(b / 4294967296)=p11 at *
 generalize a*b=P at *
 congr 2
 omega
theorem len8:∀y:Fin 256,y.val≠0→∃t:Nat,((⟨#[0,1,2,2,3,3,3,3,4,4,4,4,4,4,4,4,5,5,5,5,5,5,5,5,5,5,5,5,5,5,5,5,6,6,6,6,6,6,6,6,6,6,6,6,6,6,6,6,6,6,6,6,6,6,6,6,6,6,6,6,6,6,6,6,7,7,7,7,7,7,7,7,7,7,7,7,7,7,7,7,7,7,7,7,7,7,7,7,7,7,7,7,7,7,7,7,7,7,7,7,7,7,7,7,7,7,7,7,7,7,7,7,7,7,7,7,7,7,7,7,7,7,7,7,7,7,7,7,8,8,8,8,8,8,8,8,8,8,8,8,8,8,8,8,8,8,8,8,8,8,8,8,8,8,8,8,8,8,8,8,8,8,8,8,8,8,8,8,8,8,8,8,8,8,8,8,8,8,8,8,8,8,8,8,8,8,8,8,8,8,8,8,8,8,8,8,8,8,8,8,8,8,8,8,8,8,8,8,8,8,8,8,8,8,8,8,8,8,8,8,8,8,8,8,8,8,8,8,8,8,8,8,8,8,8,8,8,8,8,8,8,8,8,8,8,8,8,8,8,8,8,8,8,8,8,8]⟩:ByteArray)[y.val]?).map (fun b=>(b.toNat:Int))=some (t:Int)∧1≤t∧t≤8∧2 ^ (t - 1)≤y.val∧y.val < 2 ^ t:=by
 intro y h
 refine⟨Nat.log2 y.val+1,?_⟩
 revert y
 decide +kernel
theorem on_byte (p q:PV):BO.byte.on p q= .int .u8 (((p.s[q.i.toNat]?).map (fun b=>(b.toNat:Int))).getD 0):=Eq.trans rfl rfl
theorem s_str (s:ByteArray):(PV.str s).s=s:=Eq.trans rfl rfl
theorem u8_in (n:Int) (h0:0≤n) (h1:n < 256):IntKind.u8.wrap n=n:=by
 unfold IntKind.wrap
 simp[IntKind.signed,IntKind.bits]
 omega
theorem len_j2 (a b c d e:PV) (n:Nat) (hn:n≤64) (y:Int) (h0:0 < y) (h1:y < 256):∃t:Nat,Run tr math_bits_Len64_j2 [a,b,c,d,e,I n,U6 y] [] [I ((n+t:Nat):Int)]∧1≤t∧t≤8∧(2:Int) ^ (t - 1)≤y∧y < 2 ^ t:=by
 obtain⟨m,rfl⟩:=Int.eq_ofNat_of_zero_le (show 0≤y by omega)
 obtain⟨t,h2,h3,h4,h5,h6⟩:=len8 ⟨m,by omega⟩ (by simp;omega)
 refine⟨t,?_,h3,h4,by exact_mod_cast h5,by exact_mod_cast h6⟩
 rw[u_math_bits_Len64_j2]
 have e1:IntKind.u8.wrap (m:Int)=m:=u8_in _ (by omega) (by omega)
 have h7:(0:Int)≤m:=by omega
 simp (disch:=first | omega | (simp only[ln0];omega)) only[rs,reduceIte,Nat.reduceAdd,e1,h1,on_byte,s_str,Int.toNat_natCast]
 rw[h2]
 simp (disch:=first | omega | (simp only[ln0];omega)) only[rs,reduceIte,Nat.reduceAdd,Option.getD_some,Int.natCast_add]
theorem len_fin {x y:Int} {n t:Nat} (hx:0≤x) (hy:y=x / 2 ^ n) (ht:1≤t) (h1:(2:Int) ^ (t - 1)≤y) (h2:y < 2 ^ t):(2:Int) ^ (n+t - 1)≤x∧x < 2 ^ (n+t):=by
 have hp:(0:Int) < 2 ^ n:=Int.pow_pos (by decide)
 have e:n+t - 1=t - 1+n:=by omega
 subst hy
 constructor
 · rw[e,Int.pow_add]
   exact(Int.le_ediv_iff_mul_le hp).1 h1
 · rw[Int.add_comm n t |> fun _=>Nat.add_comm n t,Int.pow_add]
   exact(Int.ediv_lt_iff_lt_mul hp).1 h2
theorem len64_sp (x:Int) (h0:0 < x) (h1:x < 18446744073709551616):∃L:Nat,Says tr c_math_bits_Len64 [U6 x] [I L]∧1≤L∧L≤64∧(2:Int) ^ (L - 1)≤x∧x < 2 ^ L:=by
 obtain⟨n1,y1,a1,a2,a3,a4⟩:∃ (n:Nat) (y:Int),n≤32∧y=x / 2 ^ n∧(0 < y∧y < 4294967296)∧∀r,Run tr math_bits_Len64_j0 [U6 x,I n,U6 y] [] r→Run tr math_bits_Len64 [U6 x] [] r:=by
  by_cases h:x≥4294967296
  · refine⟨32,x / 4294967296,by omega,rfl,by omega,fun r hr=>?_⟩
    rw[u_math_bits_Len64]
    simp (disch:=first | omega | (simp only[ln0];omega)) only[rs,reduceIte,Nat.reduceAdd,h,shr32]
    exact hr
  · refine⟨0,x,by omega,by simp,by omega,fun r hr=>?_⟩
    rw[u_math_bits_Len64]
    simp (disch:=first | omega | (simp only[ln0];omega)) only[rs,reduceIte,Nat.reduceAdd,h]
    exact hr
 obtain⟨n2,y2,b1,b2,b3,b4⟩:∃ (n:Nat) (y:Int),n≤48∧y=x / 2 ^ n∧(0 < y∧y < 65536)∧∀r,Run tr math_bits_Len64_j1 [U6 x,I n1,U6 y1,I n,U6 y] [] r→Run tr math_bits_Len64_j0 [U6 x,I n1,U6 y1] [] r:=by
  by_cases h:y1≥65536
  · refine⟨n1+16,y1 / 65536,by omega,?_,by omega,fun r hr=>?_⟩
    · rw[a2,Int.ediv_ediv_of_nonneg (Int.le_of_lt (Int.pow_pos (by decide))),Int.pow_add]
      rfl
    · rw[u_math_bits_Len64_j0]
      simp (disch:=first | omega | (simp only[ln0];omega)) only[rs,reduceIte,Nat.reduceAdd,h,shr16]
      exact hr
  · refine⟨n1,y1,by omega,a2,by omega,fun r hr=>?_⟩
    rw[u_math_bits_Len64_j0]
    simp (disch:=first | omega | (simp only[ln0];omega)) only[rs,reduceIte,Nat.reduceAdd,h]
    exact hr
 obtain⟨n3,y3,c1,c2,c3,c4⟩:∃ (n:Nat) (y:Int),n≤56∧y=x / 2 ^ n∧(0 < y∧y < 256)∧∀r,Run tr math_bits_Len64_j2 [U6 x,I n1,U6 y1,I n2,U6 y2,I n,U6 y] [] r→Run tr math_bits_Len64_j1 [U6 x,I n1,U6 y1,I n2,U6 y2] [] r:=by
  by_cases h:y2≥256
  · refine⟨n2+8,y2 / 256,by omega,?_,by omega,fun r hr=>?_⟩
    · rw[b2,Int.ediv_ediv_of_nonneg (Int.le_of_lt (Int.pow_pos (by decide))),Int.pow_add]
      rfl
    · rw[u_math_bits_Len64_j1]
      simp (disch:=first | omega | (simp only[ln0];omega)) only[rs,reduceIte,Nat.reduceAdd,h,shr8]
      exact hr
  · refine⟨n2,y2,by omega,b2,by omega,fun r hr=>?_⟩
    rw[u_math_bits_Len64_j1]
    simp (disch:=first | omega | (simp only[ln0];omega)) only[rs,reduceIte,Nat.reduceAdd,h]
    exact hr
 obtain⟨t,d1,d2,d3,d4,d5⟩:=len_j2 (U6 x) (I n1) (U6 y1) (I n2) (U6 y2) n3 (by omega) y3 c3.1 c3.2
 obtain⟨e1,e2⟩:=len_fin (by omega) c2 d2 d4 d5
 exact⟨n3+t,Says.of (t:=math_bits_Len64) rfl (a4 _ (b4 _ (c4 _ d1))),by omega,by omega,e1,e2⟩
theorem lead_sp (x:Int) (h0:0 < x) (h1:x < 18446744073709551616):∃L:Nat,Says tr c_math_bits_LeadingZeros64 [U6 x] [I (64 - L)]∧1≤L∧L≤64∧(2:Int) ^ (L - 1)≤x∧x < 2 ^ L:=by
 obtain⟨L,h2,h3,h4,h5,h6⟩:=len64_sp x h0 h1
 refine⟨L,?_,h3,h4,h5,h6⟩
 refine Says.of (t:=math_bits_LeadingZeros64) rfl ?_
 rw[u_math_bits_LeadingZeros64]
 simp (disch:=first | omega | (simp only[ln0];omega)) only[rs,reduceIte,Nat.reduceAdd,xcall_of h2]
section
variable (hi lo y s Y V:Int) (hs:IntKind.u64.wrap s=s) (hY:arith .shl .u64 y s=Y) (hV:arith .shl .u64 lo s=V) (hY1:9223372036854775808≤Y) (hY2:Y < 18446744073709551616) (hV0:0≤V) (hV1:V < 18446744073709551616)
include hs hY hV hY1 hY2 hV0 hV1
theorem div_l3 (U:Int) (hu0:0≤U) (hu:U < Y) (R:List PV) (hc:Run tr math_bits_Div64_j0 [U6 hi,U6 lo,U6 y,I s,U6 ((U*4294967296+V / 4294967296) / Y)] [] R) (n:Nat) :
    ∀q r:Int,U=q*(Y / 4294967296)+r→0≤r→r < 4294967296→(U*4294967296+V / 4294967296) / Y≤q→q≤4294967297→q - (U*4294967296+V / 4294967296) / Y≤n→
     Run tr math_bits_Div64_l3 [U6 hi,U6 lo,U6 y,I s,U6 r,U6 q] [.join math_bits_Div64_j0 [U6 hi,U6 lo,U6 y,I s],.loop math_bits_Div64_l3 [U6 hi,U6 lo,U6 y,I s]] R:=by
 obtain⟨yn1,hyn1⟩:∃z,Y / 4294967296=z:=⟨_,rfl⟩
 obtain⟨yn0,hyn0⟩:∃z,Y % 4294967296=z:=⟨_,rfl⟩
 obtain⟨d,hd⟩:∃z,V / 4294967296=z:=⟨_,rfl⟩
 have hYe:Y=yn1*4294967296+yn0:=by omega
 have h1:2147483648≤yn1:=by omega
 have h2:yn1 < 4294967296:=by omega
 have h3:0≤yn0:=by omega
 have h4:yn0 < 4294967296:=by omega
 have hd0:0≤d:=by omega
 have hd1:d < 4294967296:=by omega
 have hY0:0 < Y:=by omega
 rw[hyn1,hd]
 rw[hd]at hc
 have hq0:0≤(U*4294967296+d) / Y:=Int.ediv_nonneg (by omega) (by omega)
 have hqB:=digit_lt hY0 hu hd1
 induction n with
 | zero=>
  intro q r e hr0 hr hq hqm hn
  have hqe:q=(U*4294967296+d) / Y:=by omega
  have htest:q*yn0≤r*4294967296+d:=by
   by_cases h:q*yn0≤r*4294967296+d
   · exact h
   · have:=digit_great hYe e hY0 (by omega:r*4294967296+d < q*yn0);omega
  have hm0:0≤q*yn0:=Int.mul_nonneg (by omega) h3
  have hm1:=mul_lt' (a:=q) (b:=yn0) (A:=4294967296) (B:=4294967296) (by omega) (by omega) h3 (by omega)
  have hcond:¬ (4294967296≤q∨4294967296*r+d < q*yn0):=by omega
  rw[←hqe]at hc
  rw[u_math_bits_Div64_l3]
  simp (disch:=first | omega | (simp only[ln0];omega)) only[rs,reduceIte,Nat.reduceAdd,hs,hY,hV,shr32,and32,hyn0,hyn1,hd,u64_in,bx,reduceCtorEq,forall_const,ne_eq,hcond]
  exact hc
 | succ n ih=>
  intro q r e hr0 hr hq hqm hn
  have hm0:0≤q*yn0:=Int.mul_nonneg (by omega) h3
  by_cases hgt:q≤(U*4294967296+d) / Y
  · exact ih q r e hr0 hr hq hqm (by omega)
  · have htest:¬ (q < 4294967296∧q*yn0≤r*4294967296+d):=fun⟨_,h⟩=>hgt (digit_small hYe e hY0 h)
    have e':U=(q - 1)*yn1+(r+yn1):=by rw[e];grind
    rw[u_math_bits_Div64_l3]
    simp (disch:=first | omega | (simp only[ln0];omega)) only[rs,reduceIte,Nat.reduceAdd,hs,hY,hV,shr32,and32,hyn0,hyn1,hd,bx,reduceCtorEq,forall_const,ne_eq]
    rw[br_pos]
    · simp (disch:=first | omega | (simp only[ln0];omega)) only[rs,reduceIte,Nat.reduceAdd,u64_in]
      refine br_split ?_ ?_ <;> intro _
      · rename_i hb
        have hsm:(q - 1)*yn0≤(r+yn1)*4294967296+d:=by
         have:=mul_lt' (a:=q - 1) (b:=yn0) (A:=4294967296) (B:=4294967295) (by omega) (by omega) h3 (by omega)
         omega
        have:=digit_small hYe e' hY0 hsm
        have hqe:q - 1=(U*4294967296+d) / Y:=by omega
        rw[hqe]
        exact hc
      · rename_i hb
        exact ih (q - 1) (r+yn1) e' (by omega) (by omega) (by omega) (by omega) (by omega)
    · by_cases hqB':4294967296≤q
      · exact Or.inl hqB'
      · right
        have hm1:=mul_lt' (a:=q) (b:=yn0) (A:=4294967295) (B:=4294967295) (by omega) (by omega) h3 (by omega)
        rw[u64_in (4294967296*r) (by omega) (by omega),u64_in (4294967296*r+d) (by omega) (by omega),u64_in (q*yn0) hm0 (by omega)]
        omega
theorem div_l2 (q1 U:Int) (hu0:0≤U) (hu:U < Y) (R:List PV) (hc:Run tr math_bits_Div64_j1 [U6 hi,U6 lo,U6 y,I s,U6 q1,U6 ((U*4294967296+V % 4294967296) / Y)] [] R) (n:Nat) :
    ∀q r:Int,U=q*(Y / 4294967296)+r→0≤r→r < 4294967296→(U*4294967296+V % 4294967296) / Y≤q→q≤4294967297→q - (U*4294967296+V % 4294967296) / Y≤n→
     Run tr math_bits_Div64_l2 [U6 hi,U6 lo,U6 y,I s,U6 q1,U6 r,U6 q] [.join math_bits_Div64_j1 [U6 hi,U6 lo,U6 y,I s,U6 q1],.loop math_bits_Div64_l2 [U6 hi,U6 lo,U6 y,I s,U6 q1]] R:=by
 obtain⟨yn1,hyn1⟩:∃z,Y / 4294967296=z:=⟨_,rfl⟩
 obtain⟨yn0,hyn0⟩:∃z,Y % 4294967296=z:=⟨_,rfl⟩
 obtain⟨d,hd⟩:∃z,V % 4294967296=z:=⟨_,rfl⟩
 have hYe:Y=yn1*4294967296+yn0:=by omega
 have h1:2147483648≤yn1:=by omega
 have h2:yn1 < 4294967296:=by omega
 have h3:0≤yn0:=by omega
 have h4:yn0 < 4294967296:=by omega
 have hd0:0≤d:=by omega
 have hd1:d < 4294967296:=by omega
 have hY0:0 < Y:=by omega
 rw[hyn1,hd]
 rw[hd]at hc
 have hq0:0≤(U*4294967296+d) / Y:=Int.ediv_nonneg (by omega) (by omega)
 have hqB:=digit_lt hY0 hu hd1
 induction n with
 | zero=>
  intro q r e hr0 hr hq hqm hn
  have hqe:q=(U*4294967296+d) / Y:=by omega
  have htest:q*yn0≤r*4294967296+d:=by
   by_cases h:q*yn0≤r*4294967296+d
   · exact h
   · have:=digit_great hYe e hY0 (by omega:r*4294967296+d < q*yn0);omega
  have hm0:0≤q*yn0:=Int.mul_nonneg (by omega) h3
  have hm1:=mul_lt' (a:=q) (b:=yn0) (A:=4294967296) (B:=4294967296) (by omega) (by omega) h3 (by omega)
  have hcond:¬ (4294967296≤q∨4294967296*r+d < q*yn0):=by omega
  rw[←hqe]at hc
  rw[u_math_bits_Div64_l2]
  simp (disch:=first | omega | (simp only[ln0];omega)) only[rs,reduceIte,Nat.reduceAdd,hs,hY,hV,shr32,and32,hyn0,hyn1,hd,u64_in,bx,reduceCtorEq,forall_const,ne_eq,hcond]
  exact hc
 | succ n ih=>
  intro q r e hr0 hr hq hqm hn
  have hm0:0≤q*yn0:=Int.mul_nonneg (by omega) h3
  by_cases hgt:q≤(U*4294967296+d) / Y
  · exact ih q r e hr0 hr hq hqm (by omega)
  · have htest:¬ (q < 4294967296∧q*yn0≤r*4294967296+d):=fun⟨_,h⟩=>hgt (digit_small hYe e hY0 h)
    have e':U=(q - 1)*yn1+(r+yn1):=by rw[e];grind
    rw[u_math_bits_Div64_l2]
    simp (disch:=first | omega | (simp only[ln0];omega)) only[rs,reduceIte,Nat.reduceAdd,hs,hY,hV,shr32,and32,hyn0,hyn1,hd,bx,reduceCtorEq,forall_const,ne_eq]
    rw[br_pos]
    · simp (disch:=first | omega | (simp only[ln0];omega)) only[rs,reduceIte,Nat.reduceAdd,u64_in]
      refine br_split ?_ ?_ <;> intro _
      · rename_i hb
        have hsm:(q - 1)*yn0≤(r+yn1)*4294967296+d:=by
         have:=mul_lt' (a:=q - 1) (b:=yn0) (A:=4294967296) (B:=4294967295) (by omega) (by omega) h3 (by omega)
         omega
        have:=digit_small hYe e' hY0 hsm
        have hqe:q - 1=(U*4294967296+d) / Y:=by omega
        rw[hqe]
        exact hc
      · rename_i hb
        exact ih (q - 1) (r+yn1) e' (by omega) (by omega) (by omega) (by omega) (by omega)
    · by_cases hqB':4294967296≤q
      · exact Or.inl hqB'
      · right
        have hm1:=mul_lt' (a:=q) (b:=yn0) (A:=4294967295) (B:=4294967295) (by omega) (by omega) h3 (by omega)
        rw[u64_in (4294967296*r) (by omega) (by omega),u64_in (4294967296*r+d) (by omega) (by omega),u64_in (q*yn0) hm0 (by omega)]
        omega
end
theorem div64_sp (hi lo y:Int) (h0:0≤hi) (h1:hi < y) (h2:y < 18446744073709551616) (h3:0≤lo) (h4:lo < 18446744073709551616) :
    Says tr c_math_bits_Div64 [U6 hi,U6 lo,U6 y] [U6 ((hi*18446744073709551616+lo) / y),U6 ((hi*18446744073709551616+lo) % y)]:=by
 refine Says.of (t:=math_bits_Div64) rfl ?_
 rw[u_math_bits_Div64]
 by_cases hz:hi=0
 · subst hz
   have e:(0:Int)*18446744073709551616+lo=lo:=by omega
   have hy0:¬y=0:=by omega
   have hy1:¬y≤0:=by omega
   rw[e]
   have e1:=Int.tdiv_eq_ediv_of_nonneg (b:=y) h3
   have e2:=Int.tmod_eq_emod_of_nonneg (b:=y) h3
   have e3:=u64_in (lo / y) (Int.ediv_nonneg h3 (by omega)) (Int.lt_of_le_of_lt (Int.ediv_le_self y h3) h4)
   simp (disch:=first | omega | (simp only[ln0];omega)) only[rs,reduceIte,Nat.reduceAdd,bx,reduceCtorEq,forall_const,ne_eq,hy0,hy1,e1,e2,e3]
 obtain⟨L,hlz,g3,g4,g1,g2⟩:=lead_sp y (by omega) h2
 obtain⟨s,hs⟩:∃s:Nat,s+L=64:=⟨64 - L,by omega⟩
 have hsL:(64:Int) - L=s:=by omega
 rw[hsL]at hlz
 have hPQ:(2:Int) ^ s*2 ^ L=18446744073709551616:=by rw[←Int.pow_add,hs];rfl
 have hP0:(0:Int) < 2 ^ s:=Int.pow_pos (by decide)
 have hQ0:(0:Int) < 2 ^ L:=Int.pow_pos (by decide)
 have hg1:(2:Int) ^ L≤2*y:=by
  obtain⟨m,rfl⟩:∃m,L=m+1:=⟨L - 1,by omega⟩
  simp only[Nat.add_sub_cancel]at g1
  rw[Int.pow_succ]
  omega
 have hshl:∀n:Int,arith .shl .u64 n (s:Int)=IntKind.u64.wrap (n*2 ^ s):=fun n=>shl_at n s (by omega)
 have hshrL:arith .shr .u64 lo (64 - (s:Int))=lo / 2 ^ L:=by
  have e:(64:Int) - s=L:=by omega
  rw[e]
  exact shr_at lo L g4
 have hshrS:∀n:Int,arith .shr .u64 n (s:Int)=n / 2 ^ s:=fun n=>shr_at n s (by omega)
 have hor0:=or_join s
 obtain⟨P,hP⟩:∃P:Int,(2:Int) ^ s=P:=⟨_,rfl⟩
 obtain⟨Q,hQ⟩:∃Q:Int,(2:Int) ^ L=Q:=⟨_,rfl⟩
 simp only[hP,hQ]at hPQ hP0 hQ0 hg1 g2 hshl hshrL hshrS hor0
 have hY1:9223372036854775808≤y*P:=by
  have:P*Q≤P*(2*y):=Int.mul_le_mul_of_nonneg_left hg1 (by omega)
  have e:P*(2*y)=2*(y*P):=by grind
  omega
 have hY2:y*P < 18446744073709551616:=by
  have:y*P < Q*P:=Int.mul_lt_mul_of_pos_right g2 hP0
  rw[Int.mul_comm Q P]at this
  omega
 have hdl:=Int.mul_ediv_add_emod lo Q
 have hdl0:=Int.emod_nonneg lo (b:=Q) (by omega)
 have hdl1:=Int.emod_lt_of_pos lo hQ0
 have hlq0:0≤lo / Q:=Int.ediv_nonneg h3 (by omega)
 have hlq1:lo / Q < P:=by rw[Int.ediv_lt_iff_lt_mul hQ0];omega
 have hhP:hi*P+P≤y*P:=by
  have:(hi+1)*P≤y*P:=Int.mul_le_mul_of_nonneg_right (by omega) (by omega)
  rw[Int.add_mul]at this
  omega
 have hhP0:0≤hi*P:=Int.mul_nonneg h0 (by omega)
 have hV0:0≤lo % Q*P:=Int.mul_nonneg hdl0 (by omega)
 have hV1:lo % Q*P < 18446744073709551616:=by
  have:lo % Q*P < Q*P:=Int.mul_lt_mul_of_pos_right hdl1 hP0
  rw[Int.mul_comm Q P]at this
  omega
 have hlo:IntKind.u64.wrap (lo*P)=lo % Q*P:=by
  refine u64_same _ _ ?_ hV0 hV1
  have e:lo*P=lo % Q*P+18446744073709551616*(lo / Q):=by
   have e1:lo*P=(Q*(lo / Q)+lo % Q)*P:=by rw[hdl]
   rw[e1,←hPQ]
   grind
  rw[e,Int.add_mul_emod_self_left]
 have hor:arith .or .u64 (hi*P) (lo / Q)=hi*P+lo / Q:=
  hor0 _ _ hhP0 (Int.mul_emod_left _ _) (by omega) hlq0 hlq1 (by omega)
 obtain⟨X,hX⟩:∃X:Int,hi*P+lo / Q=X:=⟨_,rfl⟩
 obtain⟨V,hV⟩:∃V:Int,lo % Q*P=V:=⟨_,rfl⟩
 obtain⟨Y,hYe⟩:∃Y:Int,y*P=Y:=⟨_,rfl⟩
 rw[hX]at hor
 rw[hV]at hlo hV0 hV1
 rw[hYe]at hY1 hY2 hhP
 have hXV:X*18446744073709551616+V=(hi*18446744073709551616+lo)*P:=by
  have e1:lo*P=(Q*(lo / Q)+lo % Q)*P:=by rw[hdl]
  rw[←hX,←hV,Int.add_mul (hi*18446744073709551616),e1,←hPQ]
  grind
 have hX0:0≤X:=by omega
 have hXY:X < Y:=by omega
 have hws:IntKind.u64.wrap (s:Int)=s:=u64_in _ (by omega) (by omega)
 have hws2:IntKind.u64.wrap (64 - (s:Int))=64 - s:=u64_in _ (by omega) (by omega)
 have hsY:arith .shl .u64 y (s:Int)=Y:=by rw[hshl,hYe];exact u64_in Y (by omega) hY2
 have hsV:arith .shl .u64 lo (s:Int)=V:=by rw[hshl,hlo]
 have hsH:arith .shl .u64 hi (s:Int)=hi*P:=by rw[hshl];exact u64_in _ hhP0 (by omega)
 have hy0:¬y=0:=by omega
 have hy1:¬y≤hi:=by omega
 have hs0:(0:Int)≤64 - (s:Int):=by omega
 have hYn:¬Y / 4294967296=0:=by omega
 have hYd:Y=Y / 4294967296*4294967296+Y % 4294967296:=by omega
 have hVd:V=V / 4294967296*4294967296+V % 4294967296:=by omega
 obtain⟨t1,t2,t3,t4,t5⟩:=digit_start X (V / 4294967296) Y (Y / 4294967296) (Y % 4294967296) hYd (by omega) (by omega) (by omega) (by omega) hX0 hXY (by omega) (by omega)
 have tm0:0≤X / (Y / 4294967296)*(Y / 4294967296):=Int.mul_nonneg t1 (by omega)
 have td:=Int.tdiv_eq_ediv_of_nonneg (b:=Y / 4294967296) hX0
 simp (disch:=first | omega | (simp only[ln0];omega)) only[rs,reduceIte,Nat.reduceAdd,bx,reduceCtorEq,forall_const,ne_eq,hy0,hy1,hz,xcall_of hlz,hws,hws2,hs0,hsY,hsV,hsH,hshrL,hor,shr32,hYn,td,u64_in]
 refine div_l3 hi lo y s Y V hws hsY hsV hY1 hY2 hV0 hV1 X hX0 hXY _ ?_ (X / (Y / 4294967296) - (X*4294967296+V / 4294967296) / Y).toNat _ _ (by omega) t3 (by omega) t5 t2 (by omega)
 have hT0:0≤(X*4294967296+V / 4294967296) / Y:=Int.ediv_nonneg (by omega) (by omega)
 have hT1:=digit_lt (u:=X) (d:=V / 4294967296) (Y:=Y) (by omega) hXY (by omega)
 have hTm:=Int.mul_ediv_add_emod (X*4294967296+V / 4294967296) Y
 have hTm0:=Int.emod_nonneg (X*4294967296+V / 4294967296) (b:=Y) (by omega)
 have hTm1:=Int.emod_lt_of_pos (X*4294967296+V / 4294967296) (by omega:0 < Y)
 obtain⟨q1,hq1⟩:∃q1:Int,(X*4294967296+V / 4294967296) / Y=q1:=⟨_,rfl⟩
 rw[hq1]at hT0 hT1 hTm ⊢
 rw[Int.mul_comm Y q1]at hTm
 obtain⟨u2,hu2⟩:∃u2:Int,X*4294967296+V / 4294967296 - q1*Y=u2:=⟨_,rfl⟩
 have hw2:IntKind.u64.wrap (IntKind.u64.wrap (IntKind.u64.wrap (X*4294967296)+V / 4294967296) - IntKind.u64.wrap (q1*Y))=u2:=by
  refine u64_same _ _ ?_ (by omega) (by omega)
  rw[IntKind.wrap_u64,IntKind.wrap_u64,IntKind.wrap_u64,←hu2]
  omega
 have hqq0:0≤q1*Y:=Int.mul_nonneg hT0 (by omega)
 obtain⟨v1,v2,v3,v4,v5⟩:=digit_start u2 (V % 4294967296) Y (Y / 4294967296) (Y % 4294967296) hYd (by omega) (by omega) (by omega) (by omega) (by omega) (by omega) (by omega) (by omega)
 have vm0:0≤u2 / (Y / 4294967296)*(Y / 4294967296):=Int.mul_nonneg v1 (by omega)
 have vd:=Int.tdiv_eq_ediv_of_nonneg (b:=Y / 4294967296) (show 0≤u2 by omega)
 have vw1:=u64_in (u2 / (Y / 4294967296)) v1 (by omega)
 have vw2:=u64_in (u2 / (Y / 4294967296)*(Y / 4294967296)) vm0 (by omega)
 have vw3:=u64_in (u2 - u2 / (Y / 4294967296)*(Y / 4294967296)) v3 (by omega)
 rw[u_math_bits_Div64_j0]
 simp (disch:=first | omega | (simp only[ln0];omega)) only[rs,reduceIte,Nat.reduceAdd,hws,hws2,hsY,hsV,hsH,hshrL,hor,shr32,hw2,vd,vw1,vw2,vw3]
 refine div_l2 hi lo y s Y V hws hsY hsV hY1 hY2 hV0 hV1 q1 u2 (by omega) (by omega) _ ?_ (u2 / (Y / 4294967296) - (u2*4294967296+V % 4294967296) / Y).toNat (u2 / (Y / 4294967296)) (u2 - u2 / (Y / 4294967296)*(Y / 4294967296)) (by omega) v3 (by omega) v5 v2 (by omega)
 obtain⟨w1,w2⟩:=two_digits Y X (V / 4294967296) (V % 4294967296) q1 u2 ((u2*4294967296+V % 4294967296) / Y) (by omega) hq1.symm hu2.symm rfl
 rw[←hVd,hXV,←hYe]at w1 w2
 rw[Int.mul_ediv_mul_of_pos_left _ _ hP0]at w1
 have hm:(hi*18446744073709551616+lo)*P % (y*P)=(hi*18446744073709551616+lo) % y*P:=by
  rw[Int.mul_comm _ P,Int.mul_comm y P,Int.mul_emod_mul_of_pos _ _ hP0,Int.mul_comm]
 rw[hm,hYe]at w2
 rw[hYe]at w1
 have hN0:0≤(hi*18446744073709551616+lo) / y:=Int.ediv_nonneg (by omega) (by omega)
 have hN1:(hi*18446744073709551616+lo) / y < 18446744073709551616:=by
  rw[Int.ediv_lt_iff_lt_mul (by omega)]
  have:(hi+1)*18446744073709551616≤y*18446744073709551616:=Int.mul_le_mul_of_nonneg_right (by omega) (by omega)
  rw[Int.mul_comm 18446744073709551616 y]
  omega
 have hR0:=Int.emod_nonneg (hi*18446744073709551616+lo) (b:=y) (by omega)
 have hR1:=Int.emod_lt_of_pos (hi*18446744073709551616+lo) (by omega:0 < y)
 have hq0n:0≤(u2*4294967296+V % 4294967296) / Y:=Int.ediv_nonneg (by omega) (by omega)
 have hb0:0≤(hi*18446744073709551616+lo) % y*P:=Int.mul_nonneg hR0 (by omega)
 have hb1:(hi*18446744073709551616+lo) % y*P < y*P:=Int.mul_lt_mul_of_pos_right hR1 hP0
 rw[hYe]at hb1
 have hw3:IntKind.u64.wrap (IntKind.u64.wrap (IntKind.u64.wrap (u2*4294967296)+V % 4294967296) - IntKind.u64.wrap ((u2*4294967296+V % 4294967296) / Y*Y))=(hi*18446744073709551616+lo) % y*P:=by
  refine u64_same _ _ ?_ hb0 (by omega)
  rw[IntKind.wrap_u64,IntKind.wrap_u64,IntKind.wrap_u64,←w2]
  omega
 have hw4:IntKind.u64.wrap (q1*4294967296)=q1*4294967296:=u64_in _ (by omega) (by omega)
 have hw5:IntKind.u64.wrap (q1*4294967296+(u2*4294967296+V % 4294967296) / Y)=(hi*18446744073709551616+lo) / y:=by rw[w1];exact u64_in _ hN0 hN1
 rw[u_math_bits_Div64_j1]
 simp (disch:=first | omega | (simp only[ln0];omega)) only[rs,reduceIte,Nat.reduceAdd,hws,hws2,hsY,hsV,hsH,hshrL,hor,shr32,and32,hw2,hw3,hw4,hw5,hshrS]
 rw[Int.mul_ediv_cancel _ (by omega)]
theorem neg_wrap (Q:Int) (h0:0≤Q) (h1:Q≤9223372036854775808):IntKind.i64.wrap (IntKind.u64.wrap (0 - Q))= -Q:=by
 rw[IntKind.wrap_u64]
 unfold IntKind.wrap
 simp[IntKind.signed,IntKind.bits]
 omega
theorem muldiv_sp (a b c:Int) (ha: -9223372036854775808≤a∧a≤9223372036854775807) (hb: -9223372036854775808≤b∧b≤9223372036854775807) (hc: -9223372036854775808≤c∧c≤9223372036854775807) :
    Says tr c_fixed_MulDiv [I a,I b,I c] [I (md a b c).1,I (md a b c).2]:=by
 refine Says.of (t:=fixed_MulDiv) rfl ?_
 rw[u_fixed_MulDiv]
 unfold md
 by_cases hc0:c=0
 · simp (disch:=first | omega | (simp only[ln0];omega)) only[rs,reduceIte,Nat.reduceAdd,bx,reduceCtorEq,forall_const,ne_eq,hc0]
 obtain⟨a0,a1⟩:=ab_in ha
 obtain⟨b0,b1⟩:=ab_in hb
 obtain⟨c0,c1⟩:=ab_in hc
 have c2:0 < ab c:=by unfold ab at *;split <;> omega
 obtain⟨p0,p1⟩:=pr_in a0 a1 b0 b1
 simp (disch:=first | omega | (simp only[ln0];omega)) only[rs,reduceIte,Nat.reduceAdd,bx,reduceCtorEq,forall_const,ne_eq,hc0,xcall_of (fsize_sp a ha),xcall_of (fsize_sp b hb),xcall_of (fsize_sp c hc),xcall_of (mul64_sp (ab a) (ab b) a0 (by omega) b0 (by omega))]
 have hn:ng a b c=(((decide (a < 0)) != (decide (b < 0))) != (decide (c < 0))):=rfl
 generalize hP:ab a*ab b=P at *
 generalize hC:ab c=C at *
 refine br_split ?_ ?_ <;> intro _
 · rename_i hg
   rw[mdN_great _ _ _ ?_]
   rw[Int.le_ediv_iff_mul_le c2]
   omega
 rename_i hg
 have hd:=div64_sp (P / 18446744073709551616) (P % 18446744073709551616) C (by omega) (by omega) (by omega) (by omega) (by omega)
 have e:P / 18446744073709551616*18446744073709551616+P % 18446744073709551616=P:=by omega
 rw[e]at hd
 have hQ0:0≤P / C:=Int.ediv_nonneg p0 c0
 have hR0:0≤P % C:=Int.emod_nonneg P (by omega)
 generalize P / C=Q at *
 generalize P % C=R at *
 have hb1:∀x y:Bool,(!(x == y))=(x != y):=fun x y=>rfl
 simp (disch:=first | omega | (simp only[ln0];omega)) only[rs,reduceIte,Nat.reduceAdd,xcall_of hd,hb1]
 rw[←hn]
 cases hng:ng a b c with
 | true=>
  simp only[mdN,if_true]
  by_cases h1:0 < R
  · by_cases h2:9223372036854775808≤Q
    · simp (disch:=first | omega | (simp only[ln0];omega)) only[rs,reduceIte,Nat.reduceAdd,bx,reduceCtorEq,forall_const,ne_eq,h1,h2]
    · have e1:IntKind.u64.wrap (Q+1)=Q+1:=u64_in _ (by omega) (by omega)
      have e2:=neg_wrap (Q+1) (by omega) (by omega)
      simp (disch:=first | omega | (simp only[ln0];omega)) only[rs,reduceIte,Nat.reduceAdd,bx,reduceCtorEq,forall_const,ne_eq,h1,h2,e1,e2]
  · by_cases h2:Q≤9223372036854775808
    · have e2:=neg_wrap Q (by omega) (by omega)
      simp (disch:=first | omega | (simp only[ln0];omega)) only[rs,reduceIte,Nat.reduceAdd,bx,reduceCtorEq,forall_const,ne_eq,h1,h2,e2]
    · have h3:9223372036854775808≤Q:=by omega
      simp (disch:=first | omega | (simp only[ln0];omega)) only[rs,reduceIte,Nat.reduceAdd,bx,reduceCtorEq,forall_const,ne_eq,h1,h2,h3]
 | false=>
  simp only[mdN,Bool.false_eq_true,if_false]
  by_cases h2:9223372036854775808≤Q
  · simp (disch:=first | omega | (simp only[ln0];omega)) only[rs,reduceIte,Nat.reduceAdd,bx,reduceCtorEq,forall_const,ne_eq,h2]
  · simp (disch:=first | omega | (simp only[ln0];omega)) only[rs,reduceIte,Nat.reduceAdd,bx,reduceCtorEq,forall_const,ne_eq,h2]
end Go.Proofs.YtckjdlmfibjpaaaGreat.T
set_option maxRecDepth 10000
namespace Go.Proofs.YtckjdlmfibjpaaaGreat.T
open Go Go.Proofs.YtckjdlmfibjpaaaGreat.Sx Go.Proofs.YtckjdlmfibjpaaaGreat.M
def wgB (w:Int):Bool:=decide (0≤w)&& decide (w≤1073741824)
def sumI:List Int→Int
 | []=>0
 | w::r=>w+sumI r
def partsS (n all:Int):Int→Int→List Int→List Int
 | _,_,[]=> []
 | was,sum,w::r=>((md n (sum+w) all).1 - was)::partsS n all (md n (sum+w) all).1 (sum+w) r
def shareS (n:Int) (ws:List Int):List Int:=
 if(n < 0∨68719476736 < n)∨65536 < (ws.length:Int)then []else if ws.all wgB=false then []else if sumI ws=0 then []else partsS n (sumI ws) 0 0 ws
theorem sumI_in:∀ (ws:List Int),ws.all wgB=true→0≤sumI ws∧sumI ws≤1073741824*ws.length
 | [],_=>by simp[sumI]
 | w::r,h=>by
  simp only[List.all_cons,Bool.and_eq_true,wgB,decide_eq_true_eq]at h
  have:=sumI_in r (by simpa [wgB]using h.2)
  simp only[sumI,List.length_cons]
  omega
theorem sumI_drop:∀ (ws:List Int) (j:Nat),ws.all wgB=true→0≤sumI (ws.drop j)∧sumI (ws.drop j)≤sumI ws
 | ws,0,h=>by have:=sumI_in ws h;simp;omega
 | [],j+1,h=>by simp[sumI]
 | w::r,j+1,h=>by
  simp only[List.all_cons,Bool.and_eq_true,wgB,decide_eq_true_eq]at h
  have:=sumI_drop r j (by simpa [wgB]using h.2)
  simp only[List.drop_succ_cons,sumI]
  omega
theorem md_part {n s all:Int} (hn:0≤n∧n≤68719476736) (hs:0≤s∧s≤all) (ha:0 < all):0≤(md n s all).1∧(md n s all).1≤n:=by
 have hq:n*s / all≤n:=by
  have:n*s≤n*all:=Int.mul_le_mul_of_nonneg_left hs.2 hn.1
  exact Int.ediv_le_of_le_mul ha this
 have h0:0≤n*s / all:=Int.ediv_nonneg (Int.mul_nonneg hn.1 hs.1) (by omega)
 rw[md_pos hn.1 hs.1 ha (by omega)]
 exact⟨h0,hq⟩
theorem share_sp1 (n all:Int) (ws:List Int) (J0:JT) (hn:0≤n∧n≤68719476736) (hw:ws.all wgB=true) (hl:ws.length≤65536) (hall:all=sumI ws) (ha:0 < all):∀j,j≤ws.length→∀ (was sum:Int) (out:List Int),out.length=j→0≤was→was≤n→0≤sum→sum+sumI (ws.drop j)=all→
    Run tr fixed_Share_l1 [I n,ints ws,I ws.length,I all,I j,I was,I sum,ints out] [J0,.loop fixed_Share_l1 [I n,ints ws,I ws.length,I all]] [ints (out++partsS n all was sum (ws.drop j))]:=by
 have hsi:=sumI_in ws hw
 refine xup_ind fun j hj ih=>?_
 intro was sum out ho h0 h1 h2 h3
 rw[u_fixed_Share_l1]
 by_cases h:j < ws.length
 · have hd:=sumI_drop ws (j+1) hw
   rw[List.drop_eq_getElem_cons h]at h3 ⊢
   simp only[sumI]at h3
   simp only[partsS]
   have hwj:wgB ws[j]=true:=List.all_eq_true.1 hw _ (List.getElem_mem h)
   simp only[wgB,Bool.and_eq_true,decide_eq_true_eq]at hwj
   have hm:=md_part (s:=sum+ws[j]) hn (by omega) ha
   have hcall:=muldiv_sp n (sum+ws[j]) all (by omega) (by omega) (by omega)
   have hi:=ih h (md n (sum+ws[j]) all).1 (sum+ws[j]) (out++ [(md n (sum+ws[j]) all).1 - was]) (by simp[ho]) hm.1 hm.2 (by omega) (by omega)
   simp (disch:=first | omega | (simp only[ln0];omega)) only[rs,reduceIte,Nat.reduceAdd,h,xcall_of hcall,ho]
   rw[List.append_assoc]at hi
   first | exact hi | exact⟨by omega,hi⟩ | simpa using hi
 · rw[List.drop_of_length_le (by omega)]
   simp (disch:=first | omega | (simp only[ln0];omega)) only[rs,reduceIte,Nat.reduceAdd,h]
   simp[partsS]
theorem share_sp (n:Int) (ws:List Int) (hlen:ws.length≤1000000):Says tr c_fixed_Share [I n,ints ws] [ints (shareS n ws)]:=by
 refine Says.of (t:=fixed_Share) rfl ?_
 rw[u_fixed_Share]
 simp (disch:=first | omega | (simp only[ln0];omega)) only[rs,reduceIte,Nat.reduceAdd,bx,reduceCtorEq,forall_const,ne_eq]
 unfold shareS
 by_cases hc:(n < 0∨68719476736 < n)∨65536 < (ws.length:Int)
 · rw[br_pos hc]
   skip
   rw[if_pos hc]
   skip
   skip
   skip
   skip
 · rw[br_neg hc,if_neg (by omega)]
   have key:=xup_ind (n:=ws.length) (P:=fun j=>∀all:Int,0≤all→all≤1073741824*j→((ws.drop j).all wgB=ws.all wgB)→(ws.all wgB=true→all+sumI (ws.drop j)=sumI ws)→Run tr fixed_Share_l0 [I n,ints ws,I j,I all] [.loop fixed_Share_l0 [I n,ints ws]] [ints (if ws.all wgB=false then []else if sumI ws=0 then []else partsS n (sumI ws) 0 0 ws)]) ?_ 0 (Nat.zero_le _)
   · exact key 0 (by omega) (by omega) rfl (fun _=>by simp)
   intro j hj ih all h0 h1 hall hsum
   rw[u_fixed_Share_l0]
   by_cases h:j < ws.length
   · rw [List.drop_eq_getElem_cons h]at hall hsum
     rw[List.all_cons]at hall
     simp only[sumI]at hsum
     simp (disch:=first | omega | (simp only[ln0];omega)) only[rs,reduceIte,Nat.reduceAdd,h,bx,reduceCtorEq,forall_const,ne_eq]
     by_cases hb:ws[j] < 0∨1073741824 < ws[j]
     · rw [br_pos hb]
       have:wgB ws[j]=false:=by
        unfold wgB
        rcases hb with hb | hb
        · have:¬0≤ws[j]:=by omega
          simp[this]
        · have:¬ws[j]≤1073741824:=by omega
          simp[this]
       rw[this,Bool.false_and]at hall
       rw[if_pos hall.symm]
     · rw[br_neg hb]
       have hg:wgB ws[j]=true:=by simp[wgB];omega
       rw[hg,Bool.true_and]at hall
       have hi:=ih h (all+ws[j]) (by omega) (by omega) hall (fun hh=>by have:=hsum hh;omega)
       have hwr:IntKind.i64.wrap (all+ws[j])=all+ws[j]:=wrap_in (by omega) (by omega)
       rw[hwr]
       exact hi
   · rw[List.drop_of_length_le (by omega)]at hall hsum
     have hw:ws.all wgB=true:=hall.symm
     have hs:=hsum hw
     simp only[sumI,Int.add_zero]at hs
     obtain rfl:j=ws.length:=by omega
     simp (disch:=first | omega | (simp only[ln0];omega)) only[rs,reduceIte,Nat.reduceAdd,h,bx,reduceCtorEq,forall_const,ne_eq]
     rw[if_neg (by rw[hw];simp)]
     by_cases hz:all=0
     · rw[br_pos hz,if_pos (by omega)]
     · rw[br_neg hz,if_neg (by omega)]
       have:=share_sp1 n all ws (.loop fixed_Share_l0 [I n,ints ws]) (by omega) hw (by omega) hs (by omega) 0 (Nat.zero_le _) 0 0 [] rfl (by omega) (by omega) (by omega) (by simp;omega)
       rw[List.drop_zero,List.nil_append]at this
       rw[←hs]
       exact this
end Go.Proofs.YtckjdlmfibjpaaaGreat.T
namespace Go.Proofs.YtckjdlmfibjpaaaGreat.T
open Go Go.Proofs.YtckjdlmfibjpaaaGreat.Sx Go.Proofs.YtckjdlmfibjpaaaGreat.M
open Classical in
noncomputable def upS (S:Int) (room:List Int):List Int:=if h:∃out,IsUp S room out then h.choose else []
theorem upS_is {S:Int} {room:List Int} (h:∃out,IsUp S room out):IsUp S room (upS S room):=by
 unfold upS
 rw[dif_pos h]
 exact h.choose_spec
theorem up_sp (S:Int) (room:List Int) (h:UpOk S room):Says tr c_spread_Up [I S,ints room] [ints (upS S room)]∧IsUp S room (upS S room):=by
 obtain⟨out,h1,h2⟩:=up_ok S room h
 have h3:=upS_is ⟨out,h2⟩
 rw[isup_unique h2 h3]at h1
 exact⟨h1,h3⟩
instance (S:Int) (room:List Int):Decidable (UpOk S room):=by
 have:=RightB_iff S room
 exact decidable_of_iff _ this
noncomputable def fillS (S:Int) (room:List Int) (bey:List Bool):List Int:=
 if UpOk S room∧bey.length=room.length then addp (upS S room) bey (splitS (S - tot (upS S room)) (idx bey).length)else List.replicate room.length 0
theorem fillS_length (S:Int) (room:List Int) (bey:List Bool):(fillS S room bey).length=room.length:=by
 unfold fillS
 split
 · rename_i h
   obtain⟨_,h3⟩:=up_sp S room h.1
   rw[addp_length,isup_length h3]
 · simp
theorem tot_take_drop (l:List Int) (i:Nat):tot (l.take i)+tot (l.drop i)=tot l:=by
 rw[←tot_append,List.take_append_drop]
theorem left_in {S:Int} {room out:List Int} (h:UpOk S room) (hu:IsUp S room out):(∀x∈out,0≤x)∧0≤tot out∧tot out≤S:=by
 have h0:∀x∈out,0≤x:=by
  intro x hx
  obtain⟨i,hi,rfl⟩:=List.mem_iff_getElem.1 hx
  have hl:=isup_length hu
  exact(isup_in hu (fun r hr=>(h.2.2.2 r hr).1) i (by omega) hi).1
 exact⟨h0,tot_nonneg h0,(isup_tot hu).1⟩
theorem fill_sp (S:Int) (room:List Int) (bey:List Bool) (hl:room.length≤65536) (hbl:bey.length≤65536):Says tr c_spread_Fill [I S,ints room,bools bey] [ints (fillS S room bey)]:=by
 have hbad:∀out:List Int,Run tr spread_Fill_j0 [I S,ints room,bools bey,ints out,B true] [] [ints (List.replicate room.length 0)]:=by
  intro out
  rw[u_spread_Fill_j0]
  have:(room.length:Int)≤17592186044416:=by omega
  simp (disch:=first | omega | (simp only[ln0];omega)) only[rs,reduceIte,Nat.reduceAdd,this]
 refine Says.of (t:=spread_Fill) rfl ?_
 by_cases hu:UpOk S room
 · obtain ⟨h1,h2⟩:=up_sp S room hu
   have hul:=isup_length h2
   obtain⟨h00,h01,h02⟩:=left_in hu h2
   have hu':=hu
   obtain⟨hS0,hS1,hm,hroom⟩:=hu'
   have hr:roomsB room=true:=(roomsB_iff room).2 hroom
   rw[u_spread_Fill]
   have hm':((room.length:Int)≤65536):=by omega
   simp (disch:=first | omega | (simp only[ln0];omega)) only[rs,reduceIte,Nat.reduceAdd,xcall_of h1,xcall_of (right_sp _ _),xcall_of (rooms_sp room (by omega)),hS0,hS1,hm',hr,decide_true,Bool.and_true,List.length_cons,List.length_nil,Bool.not_true,Bool.false_or]
   by_cases hb:bey.length=room.length
   · have e:fillS S room bey=addp (upS S room) bey (splitS (S - tot (upS S room)) (idx bey).length):=by unfold fillS;rw[if_pos ⟨hu,hb⟩]
     rw[e]
     have hne:((bey.length:Int) != (room.length:Int))=false:=by simp[hb]
     rw[hne]
     generalize hos:upS S room=os at *
     rw[u_spread_Fill_j0]
     simp (disch:=first | omega | (simp only[ln0];omega)) only[rs,reduceIte,Nat.reduceAdd]
     try rw[br_neg (by simp)]
     have hix:=idx_le bey
     have key:=xup_ind (n:=os.length) (P:=fun i=>Run tr spread_Fill_l1 [I S,ints room,bools bey,ints os,B false,I i,ints ((idx (bey.take i)).map Int.ofNat),I (S - tot (os.take i))] [.loop spread_Fill_l1 [I S,ints room,bools bey,ints os,B false]] [ints (addp os bey (splitS (S - tot os) (idx bey).length))]) ?_ 0 (Nat.zero_le _)
     · simpa [idx,tot]using key
     intro i hi ih
     rw[u_spread_Fill_l1]
     by_cases h:i < os.length
     · have hib:i < bey.length:=by omega
       have htk:bey.take (i+1)=bey.take i++ [bey[i]]:=List.take_succ_eq_append_getElem hib
       have hlk:(bey.take i).length=i:=by simp;omega
       have hcl:=idx_le (bey.take i)
       have ht1:=tot_take_drop os i
       have ht2:=tot_drop i h
       have ht3:=tot_at h00 i h
       have ht4:tot (os.take (i+1))=tot (os.take i)+os[i]:=by
        rw[List.take_succ_eq_append_getElem h,tot_append]
        simp[tot]
       have ht5:0≤tot (os.take i):=tot_nonneg (fun x hx=>h00 x (List.mem_of_mem_take hx))
       have ht6:0≤tot (os.take (i+1)):=tot_nonneg (fun x hx=>h00 x (List.mem_of_mem_take hx))
       have hsub:S - tot (os.take i) - os[i]=S - tot (os.take (i+1)):=by omega
       have hwr:IntKind.i64.wrap (S - tot (os.take i) - os[i])=S - tot (os.take (i+1)):=by rw[hsub];exact wrap_in (by omega) (by omega)
       have hcl2:((idx (bey.take i)).length:Int)+1≤4294967296:=by omega
       have ih':=ih h
       simp (disch:=first | omega | (simp only[ln0];omega)) only[rs,reduceIte,Nat.reduceAdd,h,hib,u_spread_Fill_j2,hwr]
       refine br_split ?_ ?_ <;> intro _
       · rename_i hx
         have e:(idx (bey.take (i+1))).map Int.ofNat=(idx (bey.take i)).map Int.ofNat++ [(i:Int)]:=by rw[htk,idx_append,hlk];simp[hx]
         first | refine⟨by omega,?_⟩ | skip
         rw[←e]
         exact ih'
       · rename_i hx
         have e:(idx (bey.take (i+1))).map Int.ofNat=(idx (bey.take i)).map Int.ofNat:=by rw[htk,idx_append];simp[hx]
         rw[←e]
         exact ih'
     · have:i=os.length:=by omega
       subst this
       rw[List.take_of_length_le (by omega),List.take_of_length_le (Nat.le_refl _)]
       simp (disch:=first | omega | (simp only[ln0];omega)) only[rs,reduceIte,Nat.reduceAdd,Nat.lt_irrefl,xcall_of (split_sp (S - tot os) _ (by omega:S - tot os≤9223372036854775806))]
       have hsl:=splitS_length (S - tot os) ((idx bey).length:Int)
       rw[Int.toNat_natCast]at hsl
       obtain⟨ys,hys⟩:∃ys,splitS (S - tot os) ((idx bey).length:Int)=ys:=⟨_,rfl⟩
       have hysin:∀y∈ys,0≤y∧y≤(S - tot os)+1:=by rw[←hys];exact splitS_in
       rw[hys]at hsl ⊢
       obtain⟨J,hJ⟩:∃J,J=JT.loop spread_Fill_l1 [I S,ints room,bools bey,ints os,B false]:=⟨_,rfl⟩
       rw[←hJ]
       have key:=xup_ind (n:=ys.length) (P:=fun i=>Run tr spread_Fill_l3 [I S,ints room,bools bey,ints os,B false,I os.length,ints ((idx bey).map Int.ofNat),I (S - tot os),ints ys,I i,ints (addp os bey (ys.take i))] [J,.loop spread_Fill_l3 [I S,ints room,bools bey,ints os,B false,I os.length,ints ((idx bey).map Int.ofNat),I (S - tot os),ints ys]] [ints (addp os bey ys)]) ?_ 0 (Nat.zero_le _)
       · simpa [addp_nil]using key
       intro i hi ih
       rw[u_spread_Fill_l3]
       by_cases h:i < ys.length
       · obtain⟨h1',h2',h3',h4'⟩:=addp_step os bey ys i (by omega) h (by omega)
         have hil:i < (idx bey).length:=by omega
         have hla:(addp os bey (ys.take i)).length=os.length:=addp_length _ _ _
         have hin:=hysin _ (List.getElem_mem h)
         have hin2:=h00 _ (List.getElem_mem h2')
         have hin3:os[(idx bey)[i]]≤S:=by
          have:=tot_at h00 _ h2'
          have:=tot_take_drop os (idx bey)[i]
          have:0≤tot (os.take (idx bey)[i]):=tot_nonneg (fun x hx=>h00 x (List.mem_of_mem_take hx))
          omega
         have ih':=ih h
         rw[←h4']at ih'
         have hwr:IntKind.i64.wrap ((addp os bey (ys.take i))[(idx bey)[i]]+ys[i])=os[(idx bey)[i]]+ys[i]:=by rw[h3'];exact wrap_in (by omega) (by omega)
         simp (disch:=first | omega | (simp only[ln0];omega)) only[rs,reduceIte,Nat.reduceAdd,h,hil,List.getElem_map,hla,Int.ofNat_eq_natCast,h1',h2',hwr]
         exact ih'
       · have:i=ys.length:=by omega
         subst this
         rw[List.take_of_length_le (Nat.le_refl _)]
         simp (disch:=first | omega | (simp only[ln0];omega)) only[rs,reduceIte,Nat.reduceAdd,Nat.lt_irrefl]
   · have e:fillS S room bey=List.replicate room.length 0:=by unfold fillS;rw[if_neg (fun hh=>hb hh.2)]
     have hne:((bey.length:Int) != (room.length:Int))=true:=by
      rw[bne_iff_ne]
      omega
     rw[hne,e]
     exact hbad _
 · have e:fillS S room bey=List.replicate room.length 0:=by unfold fillS;rw[if_neg (fun hh=>hu hh.1)]
   rw[e]
   rw[u_spread_Fill]
   simp (disch:=first | omega | (simp only[ln0];omega)) only[rs,reduceIte,Nat.reduceAdd,xcall_of (up_bad S room (by omega) hu),xcall_of (right_sp _ _)]
   refine br_split ?_ ?_ <;> intro _
   · rename_i h2
     have hb:roomsB room=false:=by
      cases hr:roomsB room with
      | false=>rfl
      | true=>
       rw[roomsB_iff]at hr
       simp at h2
       exact absurd ⟨by omega,by omega,by omega,hr⟩ hu
     simp (disch:=first | omega | (simp only[ln0];omega)) only[rs,reduceIte,Nat.reduceAdd,xcall_of (rooms_sp room (by omega)),hb,Bool.not_false,Bool.true_or]
     exact hbad _
   · exact hbad _
def byS (S:Int) (ws:List Int):List Int:=
 if 0≤S∧S < 1125899906842624∧ws.length≤65536 then
  (if 0 < (shareS (min S 68719476736) ws).length then shareS (min S 68719476736) ws else if 0 < (splitS S ws.length).length then splitS S ws.length else List.replicate ws.length 0)
 else List.replicate ws.length 0
theorem by_sp (S:Int) (ws:List Int) (hl:ws.length≤1000000):Says tr c_spread_By [I S,ints ws] [ints (byS S ws)]:=by
 refine Says.of (t:=spread_By) rfl ?_
 rw[u_spread_By]
 have hl2:(ws.length:Int)≤17592186044416:=by omega
 unfold byS
 by_cases hc:0≤S∧S < 1125899906842624∧ws.length≤65536
 · rw[if_pos hc]
   have hb:(decide (0≤S)&& decide (S < 1125899906842624)&& decide ((ws.length:Int)≤65536))=true:=by simp;omega
   simp (disch:=first | omega | (simp only[ln0];omega)) only[rs,reduceIte,Nat.reduceAdd,xcall_of (right_sp _ _),hb,xcall_of (share_sp (min S 68719476736) ws hl),gt_iff_lt]
   generalize shareS (min S 68719476736) ws=a
   by_cases h1:0 < a.length
   · rw[br_pos (by omega),if_pos h1]
   · rw[br_neg (by omega),if_neg h1]
     simp (disch:=first | omega | (simp only[ln0];omega)) only[rs,reduceIte,Nat.reduceAdd,xcall_of (split_sp S (ws.length:Int) (by omega:S≤9223372036854775806)),gt_iff_lt]
     generalize splitS S (ws.length:Int)=b
     by_cases h2:0 < b.length
     · rw[br_pos (by omega),if_pos h2]
     · rw[br_neg (by omega),if_neg h2]
       simp (disch:=first | omega | (simp only[ln0];omega)) only[rs,reduceIte,Nat.reduceAdd,hl2]
 · rw[if_neg hc]
   have hb:(decide (0≤S)&& decide (S < 1125899906842624)&& decide ((ws.length:Int)≤65536))=false:=by
    rw[Bool.eq_false_iff];intro hh;simp at hh;omega
   simp (disch:=first | omega | (simp only[ln0];omega)) only[rs,reduceIte,Nat.reduceAdd,xcall_of (right_sp _ _),hb,hl2,Bool.false_eq_true]
end Go.Proofs.YtckjdlmfibjpaaaGreat.T
namespace Go.Proofs.YtckjdlmfibjpaaaGreat.T
open Go Go.Proofs.YtckjdlmfibjpaaaGreat.Sx Go.Proofs.YtckjdlmfibjpaaaGreat.M
def gapsI (a:List Int) (w:Wn):Int:=gapsW ((a.drop (w.fm.toNat+1)).take (w.to.toNat - (w.fm.toNat+1))) 0
def InW (n:Nat) (w:Wn):Prop:=0≤w.fm∧w.fm < w.to∧w.to≤(n:Int)
theorem okW_in {n:Nat} {w:Wn} (h:okW n w=true):InW n w:=by
 simp only[okW,Bool.and_eq_true,decide_eq_true_eq]at h
 exact⟨h.1.1.1.1.1,h.1.1.1.1.2,h.1.1.1.2⟩
def z0:Sz:=⟨0,0,0,false,0,0,0⟩
def atS (s:List Sz) (i:Nat):Sz:=s.getD i z0
theorem atS_lt {s:List Sz} {i:Nat} (h:i < s.length):atS s i=s[i]:=by simp[atS,h]
def whoU (of:Nat→Bool):Nat→Nat→List Nat
 | 0,_=> []
 | c+1,i=>if of i then i::whoU of c (i+1)else whoU of c (i+1)
theorem whoU_in (of:Nat→Bool):∀ (c i:Nat),∀x∈whoU of c i,i≤x∧x < i+c∧of x=true
 | 0,i=>by simp[whoU]
 | c+1,i=>by
  intro x hx
  have ih:=whoU_in of c (i+1)
  simp only[whoU]at hx
  split at hx
  · rename_i h
    rcases List.mem_cons.1 hx with rfl | hx
    · exact⟨Nat.le_refl _,by omega,h⟩
    · have:=ih x hx;exact⟨by omega,by omega,this.2.2⟩
  · have:=ih x hx;exact⟨by omega,by omega,this.2.2⟩
theorem whoU_len (of:Nat→Bool):∀ (c i:Nat),(whoU of c i).length≤c
 | 0,i=>by simp[whoU]
 | c+1,i=>by
  have ih:=whoU_len of c (i+1)
  simp only[whoU]
  split <;> simp <;> omega
def spaceS (size:Sz→Int):List Sz→Int→Int
 | [],n=>n
 | x::r,n=>spaceS size r (IntKind.i64.wrap (n - size x))
def outU:List Nat→List Int→List Int→List Int
 | i::is,x::xs,out=>outU is xs (out.set i (max (out.getD i 0) x))
 | _,_,out=>out
theorem outU_len:∀ (is:List Nat) (xs out:List Int),(outU is xs out).length=out.length
 | i::is,x::xs,out=>by simp[outU,outU_len is xs]
 | [],_,out=>by cases out <;> rfl
 | _::_,[],out=>by rfl
noncomputable def shareF (room:Nat→Int) (far:Nat→Bool) (space:Int) (who:List Nat):List Int:=
 fillS space (who.map room) (who.map fun i=>far i|| !(who.any far))
noncomputable def oneS (s:List Sz) (a:List Int) (wanted:Wn→Int) (size:Sz→Int) (of:Nat→Bool) (share:Int→List Nat→List Int) (w:Wn) (out:List Int):List Int:=
 let space:=spaceS size ((s.drop w.fm.toNat).take (w.to.toNat - w.fm.toNat)) (IntKind.i64.wrap (wanted w - gapsI a w))
 let who:=whoU of (w.to.toNat - w.fm.toNat) w.fm.toNat
 if space≤0∨who.length=0 then out else outU who (share space who) out
theorem oneS_len (s:List Sz) (a:List Int) (wanted:Wn→Int) (size:Sz→Int) (of:Nat→Bool) (share:Int→List Nat→List Int) (w:Wn) (out:List Int):(oneS s a wanted size of share w out).length=out.length:=by
 simp only[oneS]
 split
 · rfl
 · exact outU_len _ _ _
noncomputable def giveS (s:List Sz) (a:List Int) (wanted:Wn→Int) (size:Sz→Int) (of:Nat→Bool) (share:Int→List Nat→List Int):List Wn→List Int→List Int
 | [],out=>out
 | w::ws,out=>giveS s a wanted size of share ws (oneS s a wanted size of share w out)
section
variable {ws:List Wn} {s:List Sz} {a:List Int} {f1 f2:Bool} {g:List Bool}
@[reducible] def nats (l:List Nat):PV:=ints (l.map Int.ofNat)
theorem out_run (J:List JT) (hJ:J.length=6) (b:T) (ρb:List PV) (hj:J[1]? =some (.join b ρb)) {r:List PV} (k:Nat) (out0:List Int) (x8 x9 x10 x11 x12:PV) (who:List Nat) (x14 x15 x16 x17 x18 x19:PV) (l:List Int) (hl:l.length=who.length) (hlen:who.length≤100000)
    (out:List Int) (hw:∀i∈who,i < out.length)
    (hK:Run tr b (ρb++ [ints (outU who l out)]) (J.take 1) r) :
    Run tr outL [rowOf eWn ws,rowOf eSz s,ints a,B f1,B f2,bools g,I k,ints out0,x8,x9,x10,x11,x12,nats who,x14,x15,x16,x17,x18,x19,ints l,I (0:Nat),ints out] (J++ [.loop outL [rowOf eWn ws,rowOf eSz s,ints a,B f1,B f2,bools g,I k,ints out0,x8,x9,x10,x11,x12,nats who,x14,x15,x16,x17,x18,x19,ints l]]) r:=by
 have h6:(J++ [JT.loop outL [rowOf eWn ws,rowOf eSz s,ints a,B f1,B f2,bools g,I k,ints out0,x8,x9,x10,x11,x12,nats who,x14,x15,x16,x17,x18,x19,ints l]])[6]? =some (JT.loop outL [rowOf eWn ws,rowOf eSz s,ints a,B f1,B f2,bools g,I k,ints out0,x8,x9,x10,x11,x12,nats who,x14,x15,x16,x17,x18,x19,ints l]):=by
  rw[List.getElem?_append_right (by omega),hJ];rfl
 have h1:∀x,(J++ [x])[1]? =some (.join b ρb):=fun x=>by rw[List.getElem?_append_left (by omega),hj]
 have t6:∀x,(J++ [x]).take (6+1)=J++ [x]:=fun x=>List.take_of_length_le (by simp;omega)
 have t1:∀x:JT,(J++ [x]).take 1=J.take 1:=fun x=>List.take_append_of_le_length (by omega)
 have key:=xup_ind (n:=l.length) (P:=fun j=>∀out:List Int,(∀i∈who,i < out.length)→Run tr b (ρb++ [ints (outU (who.drop j) (l.drop j) out)]) (J.take 1) r→Run tr outL [rowOf eWn ws,rowOf eSz s,ints a,B f1,B f2,bools g,I k,ints out0,x8,x9,x10,x11,x12,nats who,x14,x15,x16,x17,x18,x19,ints l,I j,ints out] (J++ [.loop outL [rowOf eWn ws,rowOf eSz s,ints a,B f1,B f2,bools g,I k,ints out0,x8,x9,x10,x11,x12,nats who,x14,x15,x16,x17,x18,x19,ints l]]) r) ?_ 0 (Nat.zero_le _)
 · exact key out hw (by simpa using hK)
 intro j hj ih out hw hK
 rw[u_outL]
 by_cases h:j < l.length
 · have hjw:j < who.length:=by omega
   rw[List.drop_eq_getElem_cons h,List.drop_eq_getElem_cons hjw]at hK
   simp only[outU]at hK
   have hi:=hw _ (List.getElem_mem hjw)
   have hg:out.getD who[j] 0=out[who[j]]:=by simp[hi]
   rw[hg]at hK
   have ih':=ih h _ (fun i hi=>by rw[List.length_set];exact hw i hi) hK
   simp (disch:=first | omega | (simp only[ln0];omega)) only[rs,reduceIte,Nat.reduceAdd,h,hjw,List.getElem_map,Int.ofNat_eq_natCast,hi]
   rw[h6,jmp_loop,t6]
   simp (disch:=first | omega | (simp only[ln0];omega)) only[rs,reduceIte,Nat.reduceAdd]
   exact ih'
 · obtain rfl:j=l.length:=by omega
   rw[List.drop_of_length_le (by omega),List.drop_of_length_le (Nat.le_refl _)]at hK
   simp only[outU]at hK
   simp (disch:=first | omega | (simp only[ln0];omega)) only[rs,reduceIte,Nat.reduceAdd,Nat.lt_irrefl]
   rw[h1,jmp_join,t1]
   exact hK
theorem bey_run (J:List JT) (hJ:J.length=5) (b:T) (ρb:List PV) (hj:J[1]? =some (.join b ρb)) {r:List PV} (k:Nat) (out:List Int) (x8 x9 x10 x12:PV) (sp:Int) (who:List Nat) (x14:PV) (is:Bool) (rooms:List Int) (bey:List Bool)
    (hrl:rooms.length=who.length) (hbl:bey.length=who.length) (hlen:who.length≤60000) (hw:∀i∈who,i < out.length)
    (hK:Run tr b (ρb++ [ints (outU who (fillS sp rooms (bey.map (· || !is))) out)]) (J.take 1) r) :
    Run tr beyL [rowOf eWn ws,rowOf eSz s,ints a,B f1,B f2,bools g,I k,ints out,x8,x9,x10,I sp,x12,nats who,x14,B is,ints rooms,bools bey,I (0:Nat),bools bey] (J++ [.loop beyL [rowOf eWn ws,rowOf eSz s,ints a,B f1,B f2,bools g,I k,ints out,x8,x9,x10,I sp,x12,nats who,x14,B is,ints rooms,bools bey]]) r:=by
 have h6:(J++ [JT.loop beyL [rowOf eWn ws,rowOf eSz s,ints a,B f1,B f2,bools g,I k,ints out,x8,x9,x10,I sp,x12,nats who,x14,B is,ints rooms,bools bey]])[5]? =some (JT.loop beyL [rowOf eWn ws,rowOf eSz s,ints a,B f1,B f2,bools g,I k,ints out,x8,x9,x10,I sp,x12,nats who,x14,B is,ints rooms,bools bey]):=by
  rw[List.getElem?_append_right (by omega),hJ];rfl
 have h1:∀x,(J++ [x])[1]? =some (.join b ρb):=fun x=>by rw[List.getElem?_append_left (by omega),hj]
 have t6:∀x,(J++ [x]).take (5+1)=J++ [x]:=fun x=>List.take_of_length_le (by simp;omega)
 have t1:∀x:JT,(J++ [x]).take 1=J.take 1:=fun x=>List.take_append_of_le_length (by omega)
 have hal:(bey.map (· || !is)).length=bey.length:=by simp
 have key:=xup_ind (n:=bey.length) (P:=fun j=>Run tr beyL [rowOf eWn ws,rowOf eSz s,ints a,B f1,B f2,bools g,I k,ints out,x8,x9,x10,I sp,x12,nats who,x14,B is,ints rooms,bools bey,I j,bools (mix (bey.map (· || !is)) bey j)] (J++ [.loop beyL [rowOf eWn ws,rowOf eSz s,ints a,B f1,B f2,bools g,I k,ints out,x8,x9,x10,I sp,x12,nats who,x14,B is,ints rooms,bools bey]]) r) ?_ 0 (Nat.zero_le _)
 · simpa [mix_zero]using key
 intro j hj ih
 rw[u_beyL]
 have hml:(mix (bey.map (· || !is)) bey j).length=bey.length:=mix_len hal j
 by_cases h:j < bey.length
 · have hat:(mix (bey.map (· || !is)) bey j)[j]'(by omega)=bey[j]:=mix_at hal h (by omega)
   have ih':=ih h
   have hset:=mix_set (a:=bey.map (· || !is)) hal h (v:=(bey[j]|| !is)) (by simp)
   rw[←hset]at ih'
   simp (disch:=first | omega | (simp only[ln0];omega)) only[rs,reduceIte,Nat.reduceAdd,h,hml,hat]
   rw[h6,jmp_loop,t6]
   simp (disch:=first | omega | (simp only[ln0];omega)) only[rs,reduceIte,Nat.reduceAdd]
   exact ih'
 · obtain rfl:j=bey.length:=by omega
   simp (disch:=first | omega | (simp only[ln0];omega)) only[rs,reduceIte,Nat.reduceAdd,Nat.lt_irrefl,mix_full hal,xcall_of (fill_sp sp rooms (bey.map (· || !is)) (by omega) (by simp;omega))]
   exact out_run _ (by simp;omega) b ρb (h1 _) k out x8 x9 x10 (I sp) x12 who x14 (B is) (ints rooms) (bools bey) (I bey.length) (bools (bey.map (· || !is))) _ (by rw[fillS_length,hrl]) (by omega) out hw (by rw[t1];exact hK)
theorem any_take_succ {α:Type} (l:List α) (p:α→Bool) (j:Nat) (h:j < l.length):(l.take (j+1)).any p=((l.take j).any p|| p l[j]):=by
 rw[List.take_succ_eq_append_getElem h,List.any_append]
 simp
theorem rooms_run (roomT:T) (farF:Nat) (room:Nat→Int) (far:Sz→Bool) (J:List JT) (hJ:J.length=4) (b:T) (ρb:List PV) (hj:J[1]? =some (.join b ρb)) {r:List PV} (k:Nat) (out:List Int) (x8 x9 x10 x12:PV) (sp:Int) (who:List Nat)
    (hlen:who.length≤60000) (hw:∀i∈who,i < out.length) (hws:∀i∈who,i < s.length)
    (hroom:∀ (j:Nat) (hj:j < who.length) (y15 y16 y17:PV),Run tr roomT [rowOf eWn ws,rowOf eSz s,ints a,B f1,B f2,bools g,I k,ints out,x8,x9,x10,I sp,x12,nats who,I j,y15,y16,y17] [] [I (room who[j])])
    (hfar:∀x,Says tr farF (eSz x) [B (far x)])
    (hK:Run tr b (ρb++ [ints (outU who (shareF room (fun i=>far (atS s i)) sp who) out)]) (J.take 1) r) :
    Run tr (fillT roomT farF) [rowOf eWn ws,rowOf eSz s,ints a,B f1,B f2,bools g,I k,ints out,x8,x9,x10,I sp,x12,nats who] J r:=by
 have h6:∀x,(J++ [x])[4]? =some x:=fun x=>by
  rw[List.getElem?_append_right (by omega),hJ];rfl
 have h1:∀x,(J++ [x])[1]? =some (.join b ρb):=fun x=>by rw[List.getElem?_append_left (by omega),hj]
 have t6:∀x,(J++ [x]).take (4+1)=J++ [x]:=fun x=>List.take_of_length_le (by simp;omega)
 have t1:∀x:JT,(J++ [x]).take 1=J.take 1:=fun x=>List.take_append_of_le_length (by omega)
 have a1:(who.length:Int)≤17592186044416:=by omega
 have a2:(who.length:Int)≤140737488355328:=by omega
 unfold fillT
 simp (disch:=first | omega | (simp only[ln0];omega)) only[rs,reduceIte,Nat.reduceAdd,List.length_map,a1,a2]
 have hr1:(who.map room).length=(List.replicate who.length (0:Int)).length:=by simp
 have hr2:(who.map fun i=>far (atS s i)).length=(List.replicate who.length false).length:=by simp
 have hrl:(List.replicate who.length (0:Int)).length=who.length:=by simp
 have hbl:(List.replicate who.length false).length=who.length:=by simp
 have key:=xup_ind (n:=who.length) (P:=fun j=>Run tr (roomsL roomT farF) [rowOf eWn ws,rowOf eSz s,ints a,B f1,B f2,bools g,I k,ints out,x8,x9,x10,I sp,x12,nats who,I j,B ((who.take j).any fun i=>far (atS s i)),ints (mix (who.map room) (List.replicate who.length 0) j),bools (mix (who.map fun i=>far (atS s i)) (List.replicate who.length false) j)] (J++ [.loop (roomsL roomT farF) [rowOf eWn ws,rowOf eSz s,ints a,B f1,B f2,bools g,I k,ints out,x8,x9,x10,I sp,x12,nats who]]) r) ?_ 0 (Nat.zero_le _)
 · simpa [mix_zero]using key
 intro j hj ih
 rw[u_roomsL]
 have hm1:(mix (who.map room) (List.replicate who.length (0:Int)) j).length=who.length:=by rw[mix_len hr1 j,hrl]
 have hm2:(mix (who.map fun i=>far (atS s i)) (List.replicate who.length false) j).length=who.length:=by rw[mix_len hr2 j,hbl]
 by_cases h:j < who.length
 · have hi:=hws _ (List.getElem_mem h)
   have ih':=ih h
   have hset1:=mix_set hr1 (i:=j) (by omega) (v:=room who[j]) (by simp)
   have hset2:=mix_set hr2 (i:=j) (by omega) (v:=far (atS s who[j])) (by simp)
   rw[←hset1,←hset2,any_take_succ _ _ _ h]at ih'
   have hfx:=hfar s[who[j]]
   have hat:far s[who[j]]=far (atS s who[j]):=by rw[atS_lt hi]
   rw[hat]at hfx
   simp (disch:=first | omega | (simp only[ln0];omega)) only[rs,reduceIte,Nat.reduceAdd,h,List.getElem_map]
   rw[run_seq]
   refine⟨_,hroom j h _ _ _,rfl,?_⟩
   simp (disch:=first | omega | (simp only[ln0];omega)) only[rs,reduceIte,Nat.reduceAdd,h,List.getElem_map,Int.ofNat_eq_natCast,hi,szs,xcall_of hfx,hm1,hm2,List.length_set,List.getElem_set_self,Bool.or_eq_true,or_true]
   rw[h6,jmp_loop,t6]
   simp (disch:=first | omega | (simp only[ln0];omega)) only[rs,reduceIte,Nat.reduceAdd]
   exact ih'
 · obtain rfl:j=who.length:=by omega
   simp (disch:=first | omega | (simp only[ln0];omega)) only[rs,reduceIte,Nat.reduceAdd,Nat.lt_irrefl,List.length_map]
   have e1:mix (who.map room) (List.replicate who.length (0:Int)) who.length=who.map room:=mix_full' hr1 (by omega)
   have e2:mix (who.map fun i=>far (atS s i)) (List.replicate who.length false) who.length=who.map fun i=>far (atS s i):=mix_full' hr2 (by omega)
   rw[e1,e2,List.take_of_length_le (Nat.le_refl _)]
   refine bey_run _ (by simp;omega) b ρb (h1 _) k out x8 x9 x10 x12 sp who _ _ _ _ (by simp) (by simp) (by omega) hw ?_
   rw[t1]
   have:(who.map fun i=>far (atS s i)).map (· || !(who.any fun i=>far (atS s i)))=who.map fun i=>far (atS s i)|| !(who.any fun i=>far (atS s i)):=by simp
   rw[this]
   exact hK
end
end Go.Proofs.YtckjdlmfibjpaaaGreat.T

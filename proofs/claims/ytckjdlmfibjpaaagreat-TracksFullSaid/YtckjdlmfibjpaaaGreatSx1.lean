/- Symbolic running of the program's code, over any program, with its proof (1 of 6): definitions and lemmas. No condition. -/
import Derived.LoopN
import Derived.Below
import Derived.RowKit3
import Derived.Laws.OwnMore
import Derived.Laws.CopyRow
import Derived.Maps.Own
import Derived.Maps.Views
import Derived.Maps.RangeWalk
import Derived.Maps.GroupsBeside
import Derived.Laws.StructEq
set_option linter.unusedVariables false
namespace Go.Proofs.YtckjdlmfibjpaaaGreat.Sx
inductive PV where
 | bool (b:Bool)
 | int (k:IntKind) (n:Int)
 | str (s:ByteArray)
 | row (xs:List (List PV))
 | cells (l:List PV)
 | bad
 deriving Inhabited
def PV.i:PV→Int | .int _ n=>n | _=>0
def PV.b:PV→Bool | .bool b=>b | _=>false
def PV.s:PV→ByteArray | .str s=>s | _=>ByteArray.empty
def PV.r:PV→List (List PV) | .row xs=>xs | _=> []
def PV.c:PV→List PV | .cells l=>l | _=> []
mutual
def PV.same:PV→PV→Bool
 | .bool a,.bool b=>a == b
 | .int k n,.int k' n'=>k == k'&& n == n'
 | .str a,.str b=>decide (a=b)
 | .row a,.row b=>PV.samess a b
 | .cells a,.cells b=>PV.sames a b
 | .bad,.bad=>true
 | _,_=>false
def PV.sames:List PV→List PV→Bool
 | [],[]=>true
 | a::r,b::s=>a.same b&& PV.sames r s
 | _,_=>false
def PV.samess:List (List PV)→List (List PV)→Bool
 | [],[]=>true
 | a::r,b::s=>PV.sames a b&& PV.samess r s
 | _,_=>false
end
mutual
theorem PV.same_eq:∀ (a b:PV),a.same b=true→a=b
 | .bool a,b,h=>by cases b <;> simp_all [PV.same]
 | .int k n,b,h=>by cases b <;> simp_all [PV.same]
 | .str a,b,h=>by cases b <;> simp_all [PV.same]
 | .row a,b,h=>by cases b <;> simp only[PV.same]at h <;> first | (rw[PV.samess_eq _ _ h]) | cases h
 | .cells a,b,h=>by cases b <;> simp only[PV.same]at h <;> first | (rw[PV.sames_eq _ _ h]) | cases h
 | .bad,b,h=>by cases b <;> simp_all [PV.same]
theorem PV.sames_eq:∀ (a b:List PV),PV.sames a b=true→a=b
 | [],b,h=>by cases b <;> simp_all [PV.sames]
 | a::r,b,h=>by
  cases b with
  | nil=>simp[PV.sames]at h
  | cons b s=>simp only[PV.sames,Bool.and_eq_true]at h;rw[PV.same_eq a b h.1,PV.sames_eq r s h.2]
theorem PV.samess_eq:∀ (a b:List (List PV)),PV.samess a b=true→a=b
 | [],b,h=>by cases b <;> simp_all [PV.samess]
 | a::r,b,h=>by
  cases b with
  | nil=>simp[PV.samess]at h
  | cons b s=>simp only[PV.samess,Bool.and_eq_true]at h;rw[PV.sames_eq a b h.1,PV.samess_eq r s h.2]
end
mutual
theorem PV.same_self:∀a:PV,a.same a=true
 | .bool a=>by simp[PV.same]
 | .int k n=>by simp[PV.same]
 | .str a=>by simp[PV.same]
 | .row a=>by simp only[PV.same];exact PV.samess_self a
 | .cells a=>by simp only[PV.same];exact PV.sames_self a
 | .bad=>by simp[PV.same]
theorem PV.sames_self:∀a:List PV,PV.sames a a=true
 | []=>rfl
 | a::r=>by simp only[PV.sames,Bool.and_eq_true];exact⟨PV.same_self a,PV.sames_self r⟩
theorem PV.samess_self:∀a:List (List PV),PV.samess a a=true
 | []=>rfl
 | a::r=>by simp only[PV.samess,Bool.and_eq_true];exact⟨PV.sames_self a,PV.samess_self r⟩
end
def agree (x y:Option (List PV)):Option (List PV):=
 match x,y with
 | some a,some b=>if PV.sames a b then some a else none
 | _,_=>none
theorem agree_some {x y:Option (List PV)} {r:List PV}:agree x y=some r↔x=some r∧y=some r:=by
 unfold agree
 constructor
 · intro h
   split at h
   · split at h
     · rename_i hs
       cases h
       exact⟨rfl,by rw[PV.sames_eq _ _ hs]⟩
     · cases h
   · cases h
 · rintro⟨rfl,rfl⟩
   simp only[PV.sames_self,if_true]
inductive LK where
 | int (k:IntKind)
 | bool
 | str
 | any
 | row (ks:List LK)
 deriving Inhabited
mutual
def LK.ok:LK→PV→Prop
 | .int k,.int k' _=>k'=k
 | .bool,.bool _=>True
 | .str,.str _=>True
 | .any,_=>True
 | .row ks,.row xs=>∀x∈xs,LK.oks ks x
 | _,_=>False
def LK.oks:List LK→List PV→Prop
 | [],[]=>True
 | k::ks,p::ps=>k.ok p∧LK.oks ks ps
 | _,_=>False
end
mutual
def LK.same:LK→LK→Bool
 | .int k,.int k'=>k == k'
 | .bool,.bool=>true
 | .str,.str=>true
 | .any,.any=>true
 | .row a,.row b=>LK.sames a b
 | _,_=>false
def LK.sames:List LK→List LK→Bool
 | [],[]=>true
 | a::as,b::bs=>a.same b&& LK.sames as bs
 | _,_=>false
end
mutual
theorem LK.same_eq:∀ (a b:LK),a.same b=true→a=b
 | .int k,.int k',h=>by simp[LK.same]at h;rw[h]
 | .bool,.bool,_=>rfl
 | .str,.str,_=>rfl
 | .any,.any,_=>rfl
 | .row a,.row b,h=>by simp only[LK.same]at h;rw[LK.sames_eq a b h]
 | .int _,.bool,h | .int _,.str,h | .int _,.row _,h | .bool,.int _,h | .bool,.str,h | .bool,.row _,h | .str,.int _,h | .str,.bool,h | .str,.row _,h
 | .int _,.any,h | .bool,.any,h | .str,.any,h | .row _,.any,h | .any,.int _,h | .any,.bool,h | .any,.str,h | .any,.row _,h
 | .row _,.int _,h | .row _,.bool,h | .row _,.str,h=>by simp[LK.same]at h
theorem LK.sames_eq:∀ (a b:List LK),LK.sames a b=true→a=b
 | [],[],_=>rfl
 | a::as,b::bs,h=>by simp only[LK.sames,Bool.and_eq_true]at h;rw[LK.same_eq a b h.1,LK.sames_eq as bs h.2]
 | [],_::_,h | _::_,[],h=>by simp[LK.sames]at h
end
def LK.dflt:LK→PV
 | .int k=> .int k 0
 | .bool=> .bool false
 | .str=> .str ByteArray.empty
 | .any=> .bad
 | .row _=> .row []
inductive UO where
 | not
 | neg (k:IntKind)
 | cpl (k:IntKind)
 | conv (k:IntKind)
 | len
 | slen
 | sort
 deriving DecidableEq
inductive BO where
 | ar (o:BinOp) (k:IntKind)
 | cmp (o:BinOp)
 | beq
 | seq
 | and
 | or
 | max (k:IntKind)
 | min (k:IntKind)
 | cell (j:Nat) (k:LK)
 | snoc
 | cat
 | cons
 | make
 | copy
 | plus
 | minus
 | byte
 | mget
 | mput
 | rget
 | mhas
inductive TO where
 | sel
 | slice
 | set
 | put (j:Nat)
 deriving DecidableEq
def arith (o:BinOp) (k:IntKind) (x y:Int):Int:=
 match o with
 | .add=>k.wrap (x+y)
 | .sub=>k.wrap (x - y)
 | .mul=>k.wrap (x*y)
 | .quo=>k.wrap (x.tdiv y)
 | .rem=>x.tmod y
 | .and=>k.wrap ((BitVec.ofInt k.bits x &&& BitVec.ofInt k.bits y).toNat)
 | .or=>k.wrap ((BitVec.ofInt k.bits x ||| BitVec.ofInt k.bits y).toNat)
 | .xor=>k.wrap ((BitVec.ofInt k.bits x ^^^ BitVec.ofInt k.bits y).toNat)
 | .andNot=>k.wrap ((BitVec.ofInt k.bits x &&& ~~~ BitVec.ofInt k.bits y).toNat)
 | .shl=>k.wrap (x*2 ^ (min y.toNat k.bits))
 | .shr=>x.fdiv (2 ^ (min y.toNat k.bits))
 | _=>0
def compare (o:BinOp) (x y:Int):Bool:=
 match o with
 | .eql=>x == y
 | .neq=>x != y
 | .lss=>x < y
 | .leq=>x≤y
 | .gtr=>x > y
 | .geq=>x≥y
 | _=>false
def UO.on:UO→PV→PV
 | .not,p=> .bool (!p.b)
 | .neg k,p=> .int k (k.wrap (0 - p.i))
 | .cpl k,p=> .int k (arith .xor k (if k.signed then -1 else k.max) p.i)
 | .conv k,p=> .int k (k.wrap p.i)
 | .len,p=> .int .i64 p.r.length
 | .slen,p=> .int .i64 p.s.size
 | .sort,p=> .row (p.r.mergeSort fun a b=>decide ((a.getD 0 .bad).i≤(b.getD 0 .bad).i))
def cellAt (xs:List (List PV)) (i:Int) (j:Nat) (k:LK):PV:=((xs[i.toNat]?).bind (·[j]?)).getD k.dflt
def mapGet:List (List PV)→Int→Int
 | [],_=>0
 | x::r,i=>if(x.getD 0 .bad).i=i then(x.getD 1 .bad).i else mapGet r i
def mapGetR:List (List PV)→Int→List (List PV)
 | [],_=> []
 | x::r,i=>if(x.getD 0 .bad).i=i then(x.getD 1 .bad).r else mapGetR r i
def mapHas:List (List PV)→Int→Bool
 | [],_=>false
 | x::r,i=>if(x.getD 0 .bad).i=i then true else mapHas r i
def BO.on:BO→PV→PV→PV
 | .ar o k,p,q=> .int k (arith o k p.i q.i)
 | .cmp o,p,q=> .bool (compare o p.i q.i)
 | .beq,p,q=> .bool (p.b == q.b)
 | .seq,p,q=> .bool (p.s.toList == q.s.toList)
 | .and,p,q=> .bool (p.b&& q.b)
 | .or,p,q=> .bool (p.b|| q.b)
 | .max k,p,q=> .int k (if q.i > p.i then q.i else p.i)
 | .min k,p,q=> .int k (if q.i < p.i then q.i else p.i)
 | .cell j k,p,q=>cellAt p.r q.i j k
 | .snoc,p,q=> .row (p.r++ [q.c])
 | .cat,p,q=> .row (p.r++q.r)
 | .cons,p,q=> .cells (p::q.c)
 | .make,p,q=> .row (List.replicate q.i.toNat p.c)
 | .minus,p,q=> .int .i64 (p.i - q.i)
 | .plus,p,q=> .int .i64 (p.i+q.i)
 | .mget,p,q=> .int .i64 (mapGet p.r q.i)
 | .mput,p,q=> .row (q.c::p.r)
 | .rget,p,q=> .row (mapGetR p.r q.i)
 | .mhas,p,q=> .bool (mapHas p.r q.i)
 | .byte,p,q=> .int .u8 (((p.s[q.i.toNat]?).map (fun b=>(b.toNat:Int))).getD 0)
 | .copy,p,q=> .row (q.r.take p.r.length++p.r.drop q.r.length)
def TO.on:TO→PV→PV→PV→PV
 | .sel,p,q,r=>if p.b then q else r
 | .slice,p,q,r=> .row ((p.r.drop q.i.toNat).take r.i.toNat)
 | .set,p,q,r=> .row (p.r.set q.i.toNat r.c)
 | .put j,p,q,r=> .row (p.r.modify q.i.toNat (·.set j r))
inductive Ex where
 | var (i:Nat)
 | int (k:IntKind) (n:Int)
 | bool (b:Bool)
 | str (s:ByteArray)
 | nil
 | nilc
 | un (o:UO) (a:Ex)
 | bin (o:BO) (a b:Ex)
 | tri (o:TO) (a b c:Ex)
 deriving Inhabited
def Ex.den (ρ:List PV):Ex→PV
 | .var i=>ρ.getD i .bad
 | .int k n=> .int k n
 | .bool b=> .bool b
 | .str s=> .str s
 | .nil=> .row []
 | .nilc=> .cells []
 | .un o a=>o.on (a.den ρ)
 | .bin o a b=>o.on (a.den ρ) (b.den ρ)
 | .tri o a b c=>o.on (a.den ρ) (b.den ρ) (c.den ρ)
def Ex.fits (n:Nat):Ex→Bool
 | .var i=>i < n
 | .un _ a=>a.fits n
 | .bin _ a b=>a.fits n&& b.fits n
 | .tri _ a b c=>a.fits n&& b.fits n&& c.fits n
 | _=>true
theorem Ex.den_ext {ρ ρ':List PV} (h:ρ <+:ρ'):∀ (e:Ex),e.fits ρ.length=true→e.den ρ'=e.den ρ
 | .var i,hb=>by
  obtain⟨t,rfl⟩:=h
  simp only[Ex.fits,decide_eq_true_eq]at hb
  simp[Ex.den,List.getElem?_append_left hb]
 | .int _ _,_ | .bool _,_ | .str _,_ | .nil,_ | .nilc,_=>rfl
 | .un o a,hb=>by simp only[Ex.fits]at hb;simp only[Ex.den,den_ext h a hb]
 | .bin o a b,hb=>by simp only[Ex.fits,Bool.and_eq_true]at hb;simp only[Ex.den,den_ext h a hb.1,den_ext h b hb.2]
 | .tri o a b c,hb=>by simp only[Ex.fits,Bool.and_eq_true]at hb;simp only[Ex.den,den_ext h a hb.1.1,den_ext h b hb.1.2,den_ext h c hb.2]
theorem Ex.fits_mono {n m:Nat} (h:n≤m):∀ (e:Ex),e.fits n=true→e.fits m=true
 | .var i,hb=>by simp only[Ex.fits,decide_eq_true_eq]at *;omega
 | .int _ _,_ | .bool _,_ | .str _,_ | .nil,_ | .nilc,_=>rfl
 | .un o a,hb=>by simp only[Ex.fits]at *;exact fits_mono h a hb
 | .bin o a b,hb=>by simp only[Ex.fits,Bool.and_eq_true]at *;exact⟨fits_mono h a hb.1,fits_mono h b hb.2⟩
 | .tri o a b c,hb=>by simp only[Ex.fits,Bool.and_eq_true]at *;exact⟨⟨fits_mono h a hb.1.1,fits_mono h b hb.1.2⟩,fits_mono h c hb.2⟩
def BO.same:BO→BO→Bool
 | .ar o k,.ar o' k'=>o == o'&& k == k'
 | .cmp o,.cmp o'=>o == o'
 | .beq,.beq | .seq,.seq | .and,.and | .or,.or | .snoc,.snoc | .cat,.cat | .cons,.cons | .make,.make | .copy,.copy | .plus,.plus | .minus,.minus | .byte,.byte | .mget,.mget | .mput,.mput | .rget,.rget | .mhas,.mhas=>true
 | .max k,.max k'=>k == k'
 | .min k,.min k'=>k == k'
 | .cell j k,.cell j' k'=>j == j'&& k.same k'
 | _,_=>false
theorem BO.same_eq (a b:BO) (h:a.same b=true):a=b:=by
 cases a <;> cases b <;> simp_all [BO.same]
 exact LK.same_eq _ _ h.2
def Ex.same:Ex→Ex→Bool
 | .var i,.var j=>i == j
 | .int k n,.int k' n'=>k == k'&& n == n'
 | .bool b,.bool b'=>b == b'
 | .str s,.str s'=>decide (s=s')
 | .nil,.nil=>true
 | .nilc,.nilc=>true
 | .un o a,.un o' a'=>decide (o=o')&& a.same a'
 | .bin o a b,.bin o' a' b'=>o.same o'&& a.same a'&& b.same b'
 | .tri o a b c,.tri o' a' b' c'=>decide (o=o')&& a.same a'&& b.same b'&& c.same c'
 | _,_=>false
theorem Ex.same_eq:∀ (a b:Ex),a.same b=true→a=b:=by
 intro a
 induction a with
 | var i=>intro b h;cases b <;> simp_all [Ex.same]
 | int k n=>intro b h;cases b <;> simp_all [Ex.same]
 | bool x=>intro b h;cases b <;> simp_all [Ex.same]
 | str x=>intro b h;cases b <;> simp_all [Ex.same]
 | nil=>intro b h;cases b <;> simp_all [Ex.same]
 | nilc=>intro b h;cases b <;> simp_all [Ex.same]
 | un o a ih=>intro b h;cases b <;> simp_all [Ex.same];exact ih _ h.2
 | bin o a c ih1 ih2=>intro b h;cases b <;> simp_all [Ex.same];exact⟨BO.same_eq _ _ h.1.1,ih1 _ h.1.2,ih2 _ h.2⟩
 | tri o a c d ih1 ih2 ih3=>intro b h;cases b <;> simp_all [Ex.same];exact⟨ih1 _ h.1.1.2,ih2 _ h.1.2,ih3 _ h.2⟩
def Ex.mk2 (o:BO) (a b:Ex):Ex:=
 match a,b with
 | .int k x,.int k' y=>
  match o.on (.int k x) (.int k' y)with
  | .int k n=> .int k n
  | .bool b=> .bool b
  | _=> .bin o a b
 | .bool x,b=>match o with | .and=>if x then .bin o a b else .bool false | .or=>if x then .bool true else .bin o a b | _=> .bin o a b
 | a,.bool y=>
  match o with
  | .or=>if y then .bool true else .bin o a (.bool y)
  | .and=>if y then .bin o a (.bool y)else .bool false
  | _=> .bin o a (.bool y)
 | a,b=>
  match o with
  | .cmp .leq=>if a.same b then .bool true else match a,b with | .int _ x,.un .len _=>if x≤0 then .bool true else .bin o a b | _,_=> .bin o a b
  | _=> .bin o a b
def Ex.mk1 (o:UO) (a:Ex):Ex:=
 match o,a with
 | .not,.bool b=> .bool !b
 | .not,.un .not x=> .un .not (.un .not x)
 | .len,.nil=> .int .i64 0
 | .slen,.str s=> .int .i64 s.size
 | .neg k,.int k' x=> .int k (k.wrap (0 - x))
 | .conv k,.int k' x=> .int k (k.wrap x)
 | _,_=> .un o a
theorem Ex.den_mk2 (ρ:List PV) (o:BO) (a b:Ex):(Ex.mk2 o a b).den ρ=o.on (a.den ρ) (b.den ρ):=by
 unfold Ex.mk2
 split
 · split <;> simp_all [Ex.den]
 · split <;> (try split) <;> simp_all [Ex.den,BO.on,PV.b]
 · split <;> (try split) <;> simp_all [Ex.den,BO.on,PV.b]
 · split
   · split
     · rename_i h
       have:=Ex.same_eq _ _ h
       subst this
       simp[Ex.den,BO.on,compare]
     · split
       · split
         · rename_i h
           simp only[Ex.den,BO.on,compare,UO.on,PV.i]
           congr 1
           exact(decide_eq_true (by omega)).symm
         · rfl
       · rfl
   · rfl
theorem Ex.fits_mk2 {n:Nat} {o:BO} {a b:Ex} (ha:a.fits n=true) (hb:b.fits n=true):(Ex.mk2 o a b).fits n=true:=by
 unfold Ex.mk2
 split
 · split <;> simp_all [Ex.fits]
 · split <;> (try split) <;> simp_all [Ex.fits]
 · split <;> (try split) <;> simp_all [Ex.fits]
 · (repeat' split) <;> simp_all [Ex.fits]
theorem Ex.den_mk1 (ρ:List PV) (o:UO) (a:Ex):(Ex.mk1 o a).den ρ=o.on (a.den ρ):=by
 unfold Ex.mk1
 split <;> simp_all [Ex.den,UO.on,PV.b,PV.i,PV.r,PV.s]
theorem Ex.fits_mk1 {n:Nat} {o:UO} {a:Ex} (ha:a.fits n=true):(Ex.mk1 o a).fits n=true:=by
 unfold Ex.mk1
 split <;> simp_all [Ex.fits]
end Go.Proofs.YtckjdlmfibjpaaaGreat.Sx
set_option linter.unusedVariables false
namespace Go.Proofs.YtckjdlmfibjpaaaGreat.Sx
inductive SV where
 | undef
 | skip
 | ex (k:LK) (e:Ex)
 | gd (c:Ex) (s:SV)
 | nilS
 | nilP
 | nilF
 | agg (l:List SV)
 | tup (l:List SV)
 | ptr (l:Nat) (i:Ex) (o:Nat)
 | rptr (ks:List LK) (e i:Ex) (o:Nat)
 | own (l:Nat) (part:Option (Ex×Ex))
 | fn (f:FuncId) (caps:List SV)
 | yld (m:Nat)
 | mp (l:Nat)
 | bfn (f:FuncId) (fst:List SV)
 | alt (c:Ex) (x y:SV)
 | mrow (l:Nat) (e:Ex)
 | mptr (l:Nat) (e i:Ex) (o:Nat)
 | fbox (cs:List SV) (o:Nat)
 deriving Inhabited
inductive Ob where
 | box (cs:List SV)
 | rows (ks:List LK) (e:Ex)
 | imap (e:Ex)
 | rmap (ks:List LK) (e:Ex) (h:Option Ex)
 deriving Inhabited
inductive Xit where
 | normal
 | exit (id:Nat)
 | ret
 deriving DecidableEq
structure St where
 nv:Nat
 jl:Nat
 nx:Nat
 known:List (Ex×Bool)
 fr:List (List (Nat×SV))
 heap:List (Nat×Ob)
 deriving Inhabited
inductive T where
 | fail (why:String)
 | ret (es:List Ex)
 | ite (c:Ex) (a b:T)
 | call (f:Nat) (es:List Ex) (n:Nat) (k:T)
 | loop (es:List Ex) (b:T)
 | letj (b m:T)
 | jump (j:Nat) (es:List Ex)
 | any (k:T)
 | seq (t:T) (n:Nat) (k:T)
 | mark (σ:St)
def loopN {α:Type} (F:(α→Option (List PV))→α→Option (List PV)):Nat→α→Option (List PV)
 | 0,_=>none
 | n+1,v=>F (loopN F n) v
def T.den (N:Nat) (C:Nat→List PV→Option (List PV)):T→List PV→List (List PV→Option (List PV))→Option (List PV)
 | .fail _,_,_=>none
 | .ret es,ρ,_=>some (es.map (·.den ρ))
 | .ite c a b,ρ,J=>if(c.den ρ).b=true then a.den N C ρ J else b.den N C ρ J
 | .call f es n k,ρ,J=>(C f (es.map (·.den ρ))).bind fun vs=>if vs.length=n then k.den N C (ρ++vs) J else none
 | .loop es b,ρ,J=>loopN (fun self vs=>b.den N C (ρ++vs) (J++ [self])) N (es.map (·.den ρ))
 | .letj b m,ρ,J=>m.den N C ρ (J++ [fun vs=>b.den N C (ρ++vs) J])
 | .jump j es,ρ,J=>match J[j]? with | some f=>f (es.map (·.den ρ)) | none=>none
 | .any k,ρ,J=>agree (k.den N C (ρ++ [.bool true]) J) (k.den N C (ρ++ [.bool false]) J)
 | .seq t n k,ρ,J=>(t.den N C ρ []).bind fun vs=>if vs.length=n then k.den N C (ρ++vs) J else none
 | .mark _,_,_=>none
def T.marks:T→List St
 | .mark σ=> [σ]
 | .ite _ a b=>a.marks++b.marks
 | .call _ _ _ k=>k.marks
 | .loop _ b=>b.marks
 | .letj b m=>b.marks++m.marks
 | .any k=>k.marks
 | .seq _ _ k=>k.marks
 | _=> []
def mkIte:Ex→T→T→T
 | .bool true,a,_=>a
 | .bool false,_,b=>b
 | .un .not c,a,b=>mkIte c b a
 | c,a,b=> .ite c a b
def look {α:Type}:List (Nat×α)→Nat→Option α
 | [],_=>none
 | (i,x)::r,t=>if i == t then some x else look r t
def del {α:Type}:List (Nat×α)→Nat→List (Nat×α)
 | [],_=> []
 | (i,x)::r,t=>if i == t then del r t else(i,x)::del r t
def puta {α:Type} (l:List (Nat×α)) (t:Nat) (x:α):List (Nat×α):=(t,x)::del l t
def St.put (σ:St) (d:Option Nat) (v:SV):St:=
 match d,σ.fr with
 | some t,f::r=>{ σ with fr:=puta f t v::r }
 | _,_=>σ
def isKnown:List (Ex×Bool)→Ex→Option Bool
 | [],_=>none
 | (c,b)::r,d=>if c.same d then some b else isKnown r d
def knownIs (l:List (Ex×Bool)):Ex→Option Bool
 | .bool b=>some b
 | .un .not c=>(knownIs l c).map (!·)
 | .bin .and x y=>
  match isKnown l (.bin .and x y)with
  | some b=>some b
  | none=>match knownIs l x,knownIs l y with
   | some true,some true=>some true
   | some false,_ | _,some false=>some false
   | _,_=>none
 | .bin .or x y=>
  match isKnown l (.bin .or x y)with
  | some b=>some b
  | none=>match knownIs l x,knownIs l y with
   | some false,some false=>some false
   | some true,_ | _,some true=>some true
   | _,_=>none
 | c=>isKnown l c
def St.knownAs (σ:St) (c:Ex):Option Bool:=knownIs σ.known c
def learn0 (c:Ex) (b:Bool) (l:List (Ex×Bool)):List (Ex×Bool):=
 match c,b with
 | .bin .and x y,true=>learn0 x true (learn0 y true ((c,b)::l))
 | .bin .or x y,false=>learn0 x false (learn0 y false ((c,b)::l))
 | .un .not x,b=>learn0 x (!b) l
 | c,b=>(c,b)::l
def fact (c:Ex) (b:Bool) (l:List (Ex×Bool)):List (Ex×Bool):=match c with | .un .not z=>(z,!b)::l | c=>(c,b)::l
def follows1 (k:List (Ex×Bool)):List (Ex×Bool)→List (Ex×Bool)
 | []=>k
 | (.bin .and x y,false)::r=>if knownIs k x=some true then fact y false (follows1 k r)else if knownIs k y=some true then fact x false (follows1 k r)else follows1 k r
 | (.bin .or x y,true)::r=>if knownIs k x=some false then fact y true (follows1 k r)else if knownIs k y=some false then fact x true (follows1 k r)else follows1 k r
 | _::r=>follows1 k r
def learn (c:Ex) (b:Bool) (l:List (Ex×Bool)):List (Ex×Bool):=let k:=learn0 c b l;follows1 k k
def guards:List Ex→St→(St→T)→T
 | [],σ,k=>k σ
 | g::r,σ,k=>
  match σ.knownAs g with
  | some true=>guards r σ k
  | _ => mkIte g (guards r { σ with known := learn g true σ.known } k) (.fail "guard")
def strip (l:List (Ex×Bool)):SV→SV
 | .gd c s=>if knownIs l c == some true then strip l s else .gd c s
 | s=>s
def asks:List Ex→St→T→T
 | [],_,t=>t
 | g::r,σ,t=>
  match σ.knownAs g with
  | some true=>asks r σ t
  | _ => mkIte g (asks r σ t) (.fail "guard")
mutual
def SV.fits (nv nx:Nat):SV→Bool
 | .undef | .skip | .nilS | .nilP | .nilF | .yld _=>true
 | .ex _ e=>e.fits nv
 | .gd c s=>c.fits nv&& s.fits nv nx
 | .agg l | .tup l=>fitsAll nv nx l
 | .bfn _ l | .fbox l _=>fitsAll nv nx l
 | .alt c x y=>c.fits nv&& x.fits nv nx&& y.fits nv nx
 | .ptr l i _=>l < nx&& i.fits nv
 | .mp l=>l < nx
 | .mrow l e=>l < nx&& e.fits nv
 | .mptr l e i _=>l < nx&& e.fits nv&& i.fits nv
 | .rptr _ e i _=>e.fits nv&& i.fits nv
 | .own l none=>l < nx
 | .own l (some (lo,n))=>l < nx&& lo.fits nv&& n.fits nv
 | .fn _ c=>fitsAll nv nx c
def fitsAll (nv nx:Nat):List SV→Bool
 | []=>true
 | s::r=>s.fits nv nx&& fitsAll nv nx r
end
def Ob.fits (nv nx:Nat):Ob→Bool
 | .box cs=>fitsAll nv nx cs
 | .rows _ e | .imap e=>e.fits nv
 | .rmap _ e h=>e.fits nv&& h.all (·.fits nv)
def ofCell:Value→SV
 | .bool b=> .ex .bool (.bool b)
 | .int k n=> .ex (.int k) (.int k n)
 | .string s=> .ex .str (.str s)
 | .slice none 0 0=> .nilS
 | .pointer none=> .nilP
 | .nilFunc=> .nilF
 | .func (.func f) first caps=>if first.isEmpty&& caps.isEmpty then .fn f []else .undef
 | _=> .undef
def ofValue:Value→SV
 | .agg cs=> .agg (cs.toList.map ofCell)
 | v=>ofCell v
def St.tmp (σ:St) (t:Nat):SV:=
 match σ.fr with
 | f::_=>(look f t).getD .undef
 | []=> .undef
def St.ev (σ:St):Operand→SV
 | .tmp t=>strip σ.known (σ.tmp t)
 | .const v=>ofValue v
 | .func f=> .fn f []
 | .global _=> .undef
def i0:Ex:= .int .i64 0
def St.leaf (σ:St) (k:LK):SV→Option Ex
 | .ex k' e=>if k'.same k then some e else none
 | .nilS=>match k with | .row _=>some .nil | _=>none
 | .own l p=>
  match look σ.heap l,k with
  | some (.rows ks e),.row ks'=>if LK.sames ks ks' then some (match p with | none=>e | some (lo,n)=> .tri .slice e lo n)else none
  | _,_=>none
 | _=>none
def mapO {α β:Type} (f:α→Option β):List α→Option (List β)
 | []=>some []
 | a::r=>match f a,mapO f r with | some b,some s=>some (b::s) | _,_=>none
def zipO {α β γ:Type} (f:α→β→Option γ):List α→List β→Option (List γ)
 | [],[]=>some []
 | a::r,b::s=>match f a b,zipO f r s with | some c,some t=>some (c::t) | _,_=>none
 | _,_=>none
def aggOf (P:Program) (t:TypeId):Option Bool:=
 match P.underlying t with
 | some (.struct _) | some (.array _ _)=>some true
 | some _=>some false
 | none=>none
def szOf (P:Program) (t:TypeId):Option Nat:=(P.info? t).map (·.size)
def kindsOf (P:Program):Nat→TypeId→Option (List LK)
 | 0,_=>none
 | d+1,t=>
  match P.underlying t with
  | some .bool=>some [.bool]
  | some (.int k)=>some [.int k]
  | some .string=>some [.str]
  | some (.slice e)=>some (match kindsOf P d e with | some ks=> [.row ks] | none=> [.any])
  | some (.struct fs)=>(mapO (fun f=>kindsOf P d f.type) fs.toList).map List.flatten
  | some (.array n e)=>(kindsOf P d e).map fun ks=>(List.replicate n ks).flatten
  | _=>none
def partOf (P:Program) (t:TypeId) (cs:List SV) (off:Nat):Option SV:=
 match aggOf P t,szOf P t with
 | some true,some s=>if off+s≤cs.length then some (.agg ((cs.drop off).take s))else none
 | some false,_=>cs[off]?
 | _,_=>none
def rowCells:List LK→Ex→Ex→Nat→List SV
 | [],_,_,_=> []
 | k::r,e,i,j=> .ex k (.bin (.cell j k) e i)::rowCells r e i (j+1)
def solid:SV→Bool
 | .ex _ _ | .nilS | .nilP | .nilF | .ptr .. | .rptr .. | .own .. | .fn .. | .bfn .. | .mp _ | .fbox ..=>true
 | .alt _ x y=>solid x&& solid y
 | _=>false
def cellsOfSV:SV→Option (List SV)
 | .agg l=>if l.all solid then some l else none
 | s=>if solid s then some [s]else none
def splice {α:Type} (cs:List α) (o:Nat) (vs:List α):List α:=cs.take o++vs++cs.drop (o+vs.length)
def consCells:List Ex→Ex
 | []=> .nilc
 | e::r=> .bin .cons e (consCells r)
def leafS (k:LK):SV→Option Ex
 | .ex k' e=>if k'.same k then some e else none
 | .nilS=>match k with | .row _=>some .nil | _=>none
 | _=>none
def putCells (e i:Ex):Nat→List Ex→Ex
 | _,[]=>e
 | o,x::r=>putCells (.tri (.put o) e i x) i (o+1) r
def inRange (i n:Ex):List Ex:= [.mk2 (.cmp .leq) i0 i,.mk2 (.cmp .lss) i n]
def St.new (σ:St) (o:Ob):St:={ σ with nx:=σ.nx+1,heap:=(σ.nx,o)::σ.heap }
def zeroOf (P:Program) (t:TypeId):Option (List SV):=((P.info? t).bind (·.zero)).map fun v=>match ofValue v with | .agg l=>l | s=> [s]
def snocs (r:Ex):List (List Ex)→Ex
 | []=>r
 | c::cs=>snocs (.bin .snoc r (consCells c)) cs
def bnot (c:Ex):Ex:= .mk1 .not c
def cond:Ex→Ex
 | .un .not (.un .not c)=>cond c
 | c=>c
def ncond:Ex→Ex
 | .un .not c=>cond c
 | c=> .mk1 .not c
def selCells (c:Ex):SV→SV→Option SV
 | .ex k a,.ex k' b=>
  if k.same k' then
   match k,a,b with
   | .bool,a,.bool false=>some (.ex k (.mk2 .and c a))
   | .bool,.bool true,b=>some (.ex k (.mk2 .or c b))
   | _,_,_=>some (.ex k (.tri .sel c a b))
  else none
 | _,_=>none
def andAll:List Ex→Ex
 | []=> .bool true
 | [e]=>e
 | e::r=> .mk2 .and e (andAll r)
def eqT (P:Program):Nat→TypeId→List SV→List SV→Option (List Ex)
 | 0,_,_,_=>none
 | d+1,t,a,b=>
  match P.underlying t with
  | some .bool=>match a,b with | [.ex .bool x],[.ex .bool y]=>some [.mk2 .beq x y] | _,_=>none
  | some (.int _)=>match a,b with | [.ex (.int k) x],[.ex (.int k') y]=>if k == k' then some [.mk2 (.cmp .eql) x y]else none | _,_=>none
  | some .string=>match a,b with | [.ex .str x],[.ex .str y]=>some [.mk2 .seq x y] | _,_=>none
  | some (.struct fs)=>
   if P.stoodInHeld t then none else
   (mapO (fun f => if f.name == "_" then none else (szOf P f.type).bind fun s => eqT P d f.type ((a.drop f.offset).take s) ((b.drop f.offset).take s)) fs.toList).map List.flatten
  | some (.array n e)=>
   if n == 0 then none else(szOf P e).bind fun s=>(mapO (fun i=>eqT P d e ((a.drop (i*s)).take s) ((b.drop (i*s)).take s)) (List.range' 0 n)).map List.flatten
  | _=>none
def depthT:Nat:=12
def binary (P:Program) (op:BinOp) (t:TypeId) (x y:SV):Option (List Ex×SV):=
 match op,x,y with
 | .shl,.ex (.int k) a,.ex (.int k') b | .shr,.ex (.int k) a,.ex (.int k') b=>some ([.mk2 (.cmp .leq) (.int k' 0) b],.ex (.int k) (.mk2 (.ar op k) a b))
 | _,.ex (.int k) a,.ex (.int k') b=>
  if k == k' then
   match op with
   | .add | .sub | .mul | .and | .or | .xor | .andNot=>some ([],.ex (.int k) (.mk2 (.ar op k) a b))
   | .quo | .rem=>some ([.mk2 (.cmp .neq) b (.int k 0)],.ex (.int k) (.mk2 (.ar op k) a b))
   | .eql | .neq | .lss | .leq | .gtr | .geq=>some ([],.ex .bool (.mk2 (.cmp op) a b))
   | _=>none
  else none
 | .eql,.ex .str a,.ex .str b=>some ([],.ex .bool (.mk2 .seq a b))
 | .neq,.ex .str a,.ex .str b=>some ([],.ex .bool (bnot (.mk2 .seq a b)))
 | .eql,.ex .bool a,.ex .bool b=>if(match P.underlying t with | some .bool=>true | _=>false)then some ([],.ex .bool (.mk2 .beq a b))else none
 | .neq,.ex .bool a,.ex .bool b=>if(match P.underlying t with | some .bool=>true | _=>false)then some ([],.ex .bool (bnot (.mk2 .beq a b)))else none
 | .eql,.agg a,.agg b=>if P.depth < depthT|| aggOf P t != some true then none else(eqT P depthT t a b).map fun es=>([],.ex .bool (andAll es))
 | .neq,.agg a,.agg b=>if P.depth < depthT|| aggOf P t != some true then none else(eqT P depthT t a b).map fun es=>([],.ex .bool (bnot (andAll es)))
 | _,_,_=>none
def lenOf (σ:St):SV→Option Ex
 | .ex (.row _) e=>some (.mk1 .len e)
 | .nilS=>some i0
 | .own l p=>match look σ.heap l,p with
  | some (.rows _ e),none=>some (.mk1 .len e)
  | some (.rows _ _),some (_,n)=>some n
  | _,_=>none
 | _=>none
def foldMM (mx:Bool) (k:IntKind):Ex→List SV→Option Ex
 | e,[]=>some e
 | e,.ex (.int k') a::r=>if k == k' then foldMM mx k (.mk2 (if mx then .max k else .min k) e a) r else none
 | _,_=>none
def roomLen:Int:=4294967296
def copyB (P:Program) (σ:St) (ts:List TypeId):List SV→Option (List Ex×SV×St)
 | [.own l none,y]=>
  match ts with
  | [t,u]=>
   match P.underlying t,P.underlying u,look σ.heap l with
   | some (.slice el),some (.slice _),some (.rows ks e)=>
    if szOf P el == some ks.length then
     match σ.leaf (.row ks) y with
     | some ey=>some ([],.ex (.int .i64) (.mk2 (.min .i64) (.mk1 .len ey) (.mk1 .len e)),{ σ with heap:=puta σ.heap l (.rows ks (.bin .copy e ey)) })
     | none=>none
    else none
   | _,_,_=>none
  | _=>none
 | _=>none
def growE (e ey:Ex):Ex:=match ey with | .bin .snoc .nil c=> .bin .snoc e c | _=> .bin .cat e ey
def roomE (e ey:Ex):List Ex:= [.mk2 (.cmp .leq) (.mk2 .plus (.mk1 .len e) (.mk1 .len ey)) (.int .i64 roomLen)]
def appendB (P:Program) (σ:St) (ts:List TypeId):List SV→Option (List Ex×SV×St)
 | [x, y]=>
  match ts with
  | [t, u]=>
   match P.underlying t with
   | some (.slice el)=>
    match kindsOf P depthT el,P.info? el with
    | some ks,some ti=>
     if t == u&& ks.length == ti.size&& 0 < ti.size&& ti.bytes≤4096&& (ti.zero.map fun z=>z.cells.size) == some ti.size then
      match σ.leaf (.row ks) y with
      | some ey=>
       match x with
       | .nilS=>some (roomE .nil ey,.own σ.nx none,σ.new (.rows ks (growE .nil ey)))
       | .own l none=>
        match look σ.heap l with
        | some (.rows ks' e)=>if LK.sames ks' ks then some (roomE e ey,.own σ.nx none,{ σ with nx:=σ.nx+1,heap:=(σ.nx,.rows ks (growE e ey))::del σ.heap l })else none
        | _=>none
       | _=>none
      | none=>none
     else none
    | _,_=>none
   | _=>none
  | _=>none
 | _=>none
def builtin1 (P:Program) (σ:St) (b:Builtin) (ts:List TypeId) (args:List SV):Option (List Ex×SV×St):=
 match b with
 | .len=>
  match args with
  | [x]=>
   match(ts[0]?).bind P.underlying with
   | some (.slice _)=>(lenOf σ x).map fun e=>([],.ex (.int .i64) e,σ)
   | some (.array n _)=>some ([],.ex (.int .i64) (.int .i64 n),σ)
   | _=>none
  | _=>none
 | .max=>match args with | .ex (.int k) a::r=>(foldMM true k a r).map fun e=>([],.ex (.int k) e,σ) | _=>none
 | .min=>match args with | .ex (.int k) a::r=>(foldMM false k a r).map fun e=>([],.ex (.int k) e,σ) | _=>none
 | .copy=>copyB P σ ts args
 | .append=>appendB P σ ts args
 | _=>none
def fillSV (place:Nat→Option (Nat×Nat)) (ev:Operand→SV):List (Nat×Operand)→List SV→Option (List SV)
 | [],cs=>some cs
 | (i,x)::r,cs=>
  match place i,cellsOfSV (ev x)with
  | some (off,s),some vs=>if s == vs.length&& off+vs.length≤cs.length then fillSV place ev r (splice cs off vs)else none
  | _,_=>none
def chunks {α:Type}:Nat→Nat→List α→List (List α)
 | 0,_,_=> []
 | n+1,s,l=>l.take s::chunks n s (l.drop s)
def bndSV (ev:Operand→SV) (o:Option Operand) (d:Ex):Option Ex:=
 match o with
 | none=>some d
 | some o=>match ev o with
  | .ex (.int _) e=>some e
  | _=>none
def mapT (P:Program) (t:TypeId):Bool:=
 match P.underlying t with
 | some (.map k e)=>(match P.underlying k with | some (.int .i64)=>true | _=>false)&& (match P.underlying e with | some (.int .i64)=>true | _=>false)&& (match(P.info? e).bind (·.zero)with | some (.int .i64 0)=>true | _=>false)
 | _=>false
def in64 (e:Ex):List Ex:= [.mk2 (.cmp .leq) (.int .i64 (-9223372036854775808)) e,.mk2 (.cmp .leq) e (.int .i64 9223372036854775807)]
def loadSV (P:Program) (heap:List (Nat×Ob)) (t:TypeId):SV→Option SV
 | .ptr l i o=>
  match look heap l with
  | some (.box cs)=>if i.same i0 then partOf P t cs o else none
  | some (.rows ks e)=>partOf P t (rowCells ks e i 0) o
  | _=>none
 | .rptr ks e i o=>partOf P t (rowCells ks e i 0) o
 | .fbox cs o=>partOf P t cs o
 | _=>none
def simple (P:Program) (σ:St) (op:Op):Option (List Ex×SV×St):=
 match op with
 | .move x | .assign x=>some ([],σ.ev x,σ)
 | .pick c a b=>
  match σ.ev c with
  | .ex .bool ce=>
   match σ.knownAs ce with
   | some true=>some ([],σ.ev a,σ)
   | some false=>some ([],σ.ev b,σ)
   | none=>(selCells (cond ce) ({ σ with known:=learn ce true σ.known }.ev a) ({ σ with known:=learn ce false σ.known }.ev b)).map fun s=>([],s,σ)
  | _=>none
 | .alloc t=>(zeroOf P t).bind fun l=>if l.all solid then some ([],.ptr σ.nx i0 0,σ.new (.box l))else none
 | .box t x=>(cellsOfSV (σ.ev x)).map fun l=>([],.ptr σ.nx i0 0,σ.new (.box l))
 | .build t parts=>
  match zeroOf P t,P.underlying t with
  | some z,some (.struct fs)=>
   if fs.all fun f=>(szOf P f.type).isSome then
    (fillSV (fun i=>(fs[i]?).map fun f=>(f.offset,(szOf P f.type).getD 0)) σ.ev parts.toList z).map fun cs=>([],.agg cs,σ)
   else none
  | some z,some (.array _ e)=>
   match szOf P e with
   | some s=>(fillSV (fun i=>some (i*s,s)) σ.ev parts.toList z).map fun cs=>([],.agg cs,σ)
   | none=>none
  | _,_=>none
 | .buildSlice t n parts=>
  match P.underlying t with
  | some (.slice el)=>
   match kindsOf P depthT el,zeroOf P el,szOf P el with
   | some ks,some z,some s=>
    if ks.length == s&& s == z.length&& 0 < s&& n*s≤4096 then
     match fillSV (fun i=>some (i*s,s)) σ.ev parts.toList (List.replicate n z).flatten with
     | some cs=>(zipO leafS (List.replicate n ks).flatten cs).map fun es=>([],.own σ.nx none,σ.new (.rows ks (snocs .nil (chunks n s es))))
     | none=>none
    else none
   | _,_,_=>none
  | _=>none
 | .load t a=>(loadSV P σ.heap t (σ.ev a)).map fun s=>([],s,σ)
 | .store t a x=>
  match σ.ev a,cellsOfSV (σ.ev x),szOf P t with
  | .ptr l i o,some vs,some s=>
   if s == vs.length then
    match look σ.heap l with
    | some (.box cs)=>if i.same i0&& o+s≤cs.length then some ([],.undef,{ σ with heap:=puta σ.heap l (.box (splice cs o vs)) })else none
    | some (.rows ks e)=>
     if o+s≤ks.length then
      (zipO leafS ((ks.drop o).take s) vs).map fun xs=>
       ([],.undef,{ σ with heap:=puta σ.heap l (.rows ks (if o == 0&& s == ks.length then .tri .set e i (consCells xs)else putCells e i o xs)) })
     else none
    | _=>none
   else none
  | _,_,_=>none
 | .nilCheck x=>
  match σ.ev x with
  | .ptr l i o=>if(look σ.heap l).isSome then some ([],.ptr l i o,σ)else none
  | .rptr ks e i o=>some ([],.rptr ks e i o,σ)
  | .fbox cs o=>some ([],.fbox cs o,σ)
  | .fn f c=>some ([],.fn f c,σ)
  | _=>none
 | .binOp op t x y _=>(binary P op t (σ.ev x) (σ.ev y)).map fun r=>(r.1,r.2,σ)
 | .unOp .not _ x=>match σ.ev x with | .ex .bool e=>some ([],.ex .bool (bnot e),σ) | _=>none
 | .unOp .neg _ x=>match σ.ev x with | .ex (.int k) e=>some ([],.ex (.int k) (.mk1 (.neg k) e),σ) | _=>none
 | .unOp .xor _ x=>match σ.ev x with | .ex (.int k) e=>some ([],.ex (.int k) (.mk1 (.cpl k) e),σ) | _=>none
 | .convert src dst x=>
  match P.underlying src,P.underlying dst,σ.ev x with
  | some _,some (.int k),.ex (.int _) e=>some ([],.ex (.int k) (.mk1 (.conv k) e),σ)
  | some _,some .string,.ex .str e=>some ([],.ex .str e,σ)
  | _,_,_=>none
 | .extract x i=>match σ.ev x with | .tup l=>(l[i]?).map fun s=>([],s,σ) | _=>none
 | .field t x f=>
  match P.underlying t,σ.ev x with
  | some (.struct fs),.agg cs=>(fs[f]?).bind fun f=>(partOf P f.type cs f.offset).map fun s=>([],s,σ)
  | _,_=>none
 | .index t x i=>
  match P.underlying t,σ.ev x,σ.ev i with
  | some (.array n el),.agg cs,.ex (.int _) (.int _ j)=>
   match szOf P el with
   | some s=>if 0≤j&& j < n then(partOf P el cs (j.toNat*s)).map fun s=>([],s,σ)else none
   | none=>none
  | some .string,.ex .str e,.ex (.int _) ie=>some (inRange ie (.mk1 .slen e),.ex (.int .u8) (.bin .byte e ie),σ)
  | _,_,_=>none
 | .fieldAddr t x f=>
  match P.underlying t with
  | some (.struct fs)=>
   match fs[f]? with
   | some f=>
    match szOf P f.type,σ.ev x with
    | some (s+1),.ptr l i o=>if(look σ.heap l).isSome then some ([],.ptr l i (o+f.offset),σ)else none
    | some (s+1),.rptr ks e i o=>some ([],.rptr ks e i (o+f.offset),σ)
    | some (s+1),.fbox cs o=>some ([],.fbox cs (o+f.offset),σ)
    | _,_=>none
   | none=>none
  | _=>none
 | .indexAddr t x i=>
  match P.underlying t,σ.ev i with
  | some (.slice el),.ex (.int _) ie=>
   match σ.ev x with
   | .ex (.row ks) e=>if szOf P el == some ks.length then some (inRange ie (.mk1 .len e),.rptr ks e ie 0,σ)else none
   | .own l p=>
    match look σ.heap l with
    | some (.rows ks e)=>
     if szOf P el == some ks.length then
      match p with
      | none=>some (inRange ie (.mk1 .len e),.ptr l ie 0,σ)
      | some (lo,n)=>some (inRange ie n,.ptr l (.mk2 .plus lo ie) 0,σ)
     else none
    | _=>none
   | _=>none
  | some (.array n el),.ex (.int _) (.int _ j)=>
   match szOf P el,σ.ev x with
   | some s,.ptr l ie o=>if 0≤j&& j < n&& (look σ.heap l).isSome then some ([],.ptr l ie (o+j.toNat*s),σ)else none
   | _,_=>none
  | _,_=>none
 | .makeSlice t n c=>
  match P.underlying t with
  | some (.slice el)=>
   match kindsOf P depthT el,zeroOf P el,P.info? el with
   | some ks,some z,some ti=>
    match zipO leafS ks z,σ.ev n,σ.ev c with
    | some zs,.ex (.int _) ne,.ex (.int _) ce=>
     if ks.length == ti.size&& z.length == ti.size&& 0 < ti.size&& 0 < ti.bytes then
      some ([.mk2 (.cmp .leq) i0 ne,.mk2 (.cmp .leq) ne ce,.mk2 (.cmp .leq) ce (.int .i64 (2 ^ 47 / ti.bytes:Nat))],.own σ.nx none,σ.new (.rows ks (.bin .make (consCells zs) ne)))
     else none
    | _,_,_=>none
   | _,_,_=>none
  | _=>none
 | .slice t x lo hi none=>
  match P.underlying t with
  | some (.slice el)=>
   match σ.ev x with
   | .ex (.row ks) e=>
    if szOf P el == some ks.length then
     match bndSV σ.ev lo i0,bndSV σ.ev hi (.mk1 .len e)with
     | some l,some h=>some ([.mk2 (.cmp .leq) i0 l,.mk2 (.cmp .leq) l h,.mk2 (.cmp .leq) h (.mk1 .len e)],.ex (.row ks) (.tri .slice e l (.mk2 .minus h l)),σ)
     | _,_=>none
    else none
   | .own l none=>
    match look σ.heap l with
    | some (.rows ks e)=>
     if szOf P el == some ks.length then
      match bndSV σ.ev lo i0,bndSV σ.ev hi (.mk1 .len e)with
      | some l',some h=>some ([.mk2 (.cmp .leq) i0 l',.mk2 (.cmp .leq) l' h,.mk2 (.cmp .leq) h (.mk1 .len e)],.own l (some (l',.mk2 .minus h l')),σ)
      | _,_=>none
     else none
    | _=>none
   | _=>none
  | _=>none
 | .makeMap t none=>if mapT P t then some ([],.mp σ.nx,σ.new (.imap .nil))else none
 | .lookup t m x false=>
  match σ.ev m,σ.ev x with
  | .mp l,.ex (.int .i64) xe=>
   match look σ.heap l with
   | some (.imap e)=>if mapT P t then some (in64 xe,.ex (.int .i64) (.bin .mget e xe),σ)else none
   | _=>none
  | _,_=>none
 | .mapUpdate t m x v=>
  match σ.ev m,σ.ev x,σ.ev v with
  | .mp l,.ex (.int .i64) xe,.ex (.int .i64) ve=>
   match look σ.heap l with
   | some (.imap e)=>if mapT P t then some (in64 xe++in64 ve++ [.mk2 (.cmp .leq) (.mk1 .len e) (.int .i64 roomLen)],.undef,{ σ with heap:=puta σ.heap l (.imap (.bin .mput e (consCells [xe,ve]))) })else none
   | _=>none
  | _,_,_=>none
 | .makeFunc (.func f) first caps=>if first.isEmpty then some ([],.fn f (caps.toList.map (σ.ev)),σ)else if caps.isEmpty then some ([],.bfn f (first.toList.map (σ.ev)),σ)else none
 | .call { callee:= .builtin b,args,argTypes } =>builtin1 P σ b argTypes.toList (args.toList.map (σ.ev))
 | _=>none
def LK.flat:LK→Bool
 | .int _ | .bool | .str=>true
 | _=>false
def mapR (P:Program) (t:TypeId):Option (List LK):=
 match P.underlying t with
 | some (.map k e)=>
  match P.underlying k,P.underlying e,(P.info? e).bind (·.zero)with
  | some (.int .i64),some (.slice el),some (.slice none 0 0)=>(kindsOf P depthT el).bind fun ks=>if szOf P el == some ks.length then some ks else none
  | _,_,_=>none
 | _=>none
mutual
def SV.ren (l l':Nat):SV→SV
 | .mp m=>if m == l then .mp l' else .mp m
 | .mrow m e=>if m == l then .undef else .mrow m e
 | .mptr m e i o=>if m == l then .undef else .mptr m e i o
 | .gd c s=> .gd c (s.ren l l')
 | .agg x=> .agg (rens l l' x)
 | .tup x=> .tup (rens l l' x)
 | .fn f c=> .fn f (rens l l' c)
 | .bfn f c=> .bfn f (rens l l' c)
 | .fbox c o=> .fbox (rens l l' c) o
 | .alt c x y=> .alt c (x.ren l l') (y.ren l l')
 | s=>s
def rens (l l':Nat):List SV→List SV
 | []=> []
 | s::r=>s.ren l l'::rens l l' r
end
def renFr (l l':Nat) (f:List (Nat×SV)):List (Nat×SV):=f.map fun x=>(x.1,x.2.ren l l')
def Ob.ren (l l':Nat):Ob→Ob
 | .box cs=> .box (rens l l' cs)
 | o=>o
def renHp (l l':Nat) (h:List (Nat×Ob)):List (Nat×Ob):=h.map fun x=>(x.1,x.2.ren l l')
def St.take (σ:St) (l:Nat) (xe:Ex) (ks:List LK) (e:Ex):St:=
 { σ with nx:=σ.nx+2,fr:=σ.fr.map (renFr l (σ.nx+1)),heap:=(σ.nx,.rows ks (.bin .rget e xe))::(σ.nx+1,.rmap ks e (some xe))::renHp l (σ.nx+1) (del σ.heap l) }
def St.putIn (σ:St) (l l2:Nat) (xe:Ex) (ks:List LK) (e e2:Ex):St:=
 { σ with nx:=σ.nx+1,fr:=σ.fr.map (renFr l σ.nx),heap:=(σ.nx,.rmap ks (.bin .mput e (.bin .cons xe (.bin .cons e2 .nilc))) none)::renHp l σ.nx (del (del σ.heap l) l2) }
def rowOp (P:Program) (σ:St) (op:Op):Option (List Ex×SV×St):=
 match op with
 | .makeMap t none=>(mapR P t).map fun ks=>([],.mp σ.nx,σ.new (.rmap ks .nil none))
 | .lookup t m x false=>
  match σ.ev m,σ.ev x with
  | .mp l,.ex (.int .i64) xe=>
   match look σ.heap l,mapR P t with
   | some (.rmap ks e none),some ks'=>if LK.sames ks ks' then some (in64 xe,.mrow l xe,σ)else none
   | _,_=>none
  | _,_=>none
 | .lookup t m x true=>
  match σ.ev m,σ.ev x with
  | .mp l,.ex (.int .i64) xe=>
   match look σ.heap l with
   | some (.imap e)=>if mapT P t then some (in64 xe,.tup [.ex (.int .i64) (.bin .mget e xe),.ex .bool (.bin .mhas e xe)],σ)else none
   | _=>none
  | _,_=>none
 | .indexAddr t x i=>
  match P.underlying t,σ.ev x,σ.ev i with
  | some (.slice el),.mrow l xe,.ex (.int _) ie=>
   match look σ.heap l with
   | some (.rmap ks e none)=>if szOf P el == some ks.length then some (inRange ie (.mk1 .len (.bin .rget e xe)),.mptr l xe ie 0,σ)else none
   | _=>none
  | _,_,_=>none
 | .load t a=>
  match σ.ev a with
  | .mptr l xe i o=>
   match look σ.heap l with
   | some (.rmap ks e none)=>(partOf P t (rowCells ks (.bin .rget e xe) i 0) o).map fun s=>([],s,σ)
   | _=>none
  | _=>none
 | .mapUpdate t m x v=>
  match σ.ev m,σ.ev x,σ.ev v with
  | .mp l,.ex (.int .i64) xe,.own l2 none=>
   match look σ.heap l,look σ.heap l2,mapR P t with
   | some (.rmap ks e h),some (.rows ks2 e2),some ks'=>
    if LK.sames ks2 ks&& LK.sames ks ks'&& l != l2&& h.all (·.same xe)then some (in64 xe++ [.mk2 (.cmp .leq) (.mk1 .len e) (.int .i64 roomLen)],.undef,σ.putIn l l2 xe ks e e2)else none
   | _,_,_=>none
  | _,_,_=>none
 | .call { callee:= .builtin .len,args,argTypes } =>
  match args.toList.map (σ.ev),(argTypes.toList[0]?).bind P.underlying with
  | [.mrow l xe],some (.slice _)=>
   match look σ.heap l with
   | some (.rmap ks e none)=>some ([],.ex (.int .i64) (.mk1 .len (.bin .rget e xe)),σ)
   | _=>none
  | _,_=>none
 | .call { callee:= .builtin .append,args,argTypes } =>
  match args.toList.map (σ.ev)with
  | [.mrow l xe,y]=>
   match look σ.heap l with
   | some (.rmap ks e none)=>appendB P (σ.take l xe ks e) argTypes.toList [.own σ.nx none,y.ren l (σ.nx+1)]
   | _=>none
  | _=>none
 | _=>none
end Go.Proofs.YtckjdlmfibjpaaaGreat.Sx
set_option linter.unusedVariables false
namespace Go.Proofs.YtckjdlmfibjpaaaGreat.Sx
inductive Sh where
 | leaf (k:LK)
 | own (ks:List LK)
 | agg (ks:List LK)
structure Sig where
 ps:List Sh
 rs:List Sh
def argLeaves (σ:St):List Sh→List SV→Option (List Ex)
 | [],[]=>some []
 | .leaf k::r,v::s=>match σ.leaf k v,argLeaves σ r s with | some e,some es=>some (e::es) | _,_=>none
 | .agg ks::r,.agg l::s=>match zipO σ.leaf ks l,argLeaves σ r s with | some e,some es=>some (e++es) | _,_=>none
 | _,_=>none
def ownNames:List SV→List Nat
 | []=> []
 | .own l _::r=>l::ownNames r
 | .agg cs::r=>(cs.filterMap fun | .own l _=>some l | _=>none)++ownNames r
 | _::r=>ownNames r
def LK.isRow:LK→Bool
 | .row _=>true
 | _=>false
def Sh.frozen:Sh→Bool
 | .leaf k=>k.isRow
 | .own ks=>ks.any LK.isRow
 | .agg ks=>ks.any LK.isRow
def leavesFrom (nv:Nat):List LK→List SV
 | []=> []
 | k::r=> .ex k (.var nv)::leavesFrom (nv+1) r
def resSV:List Sh→Nat→Nat→List SV×List (Nat×Ob)×Nat
 | [],_,_=>([],[],0)
 | .leaf k::r,nv,nx=>let x:=resSV r (nv+1) nx;(.ex k (.var nv)::x.1,x.2.1,x.2.2+1)
 | .own ks::r,nv,nx=>let x:=resSV r (nv+1) (nx+1);(.own nx none::x.1,(nx,.rows ks (.var nv))::x.2.1,x.2.2+1)
 | .agg ks::r,nv,nx=>let x:=resSV r (nv+ks.length) nx;(.agg (leavesFrom nv ks)::x.1,x.2.1,x.2.2+ks.length)
def oneOf:List SV→SV
 | [v]=>v
 | l=> .tup l
def dels {α:Type} (l:List (Nat×α)):List Nat→List (Nat×α)
 | []=>l
 | t::r=>dels (del l t) r
section
variable (P:Program) (sigs:Nat→Option Sig)
def enters (f:Nat):Bool:=
 match P.funcs[f]? with
 | some fn => fn.name != "runtime.NumGoroutine" && fn.body.isSome
 | none=>false
def closedCall (σ:St) (f:Nat) (args:List SV) (k:SV→St→T):T:=
 match sigs f with
 | none => (.fail "1")
 | some sg=>
  match argLeaves σ sg.ps args with
  | none => (.fail "2")
  | some es=>
   let x:=resSV sg.rs σ.nv σ.nx
   let h:=if sg.rs.any Sh.frozen then dels σ.heap (ownNames args)else σ.heap
   .call f es x.2.2 (k (oneOf x.1) { σ with nv:=σ.nv+x.2.2,nx:=σ.nx+x.2.1.length,heap:=x.2.1++h })
abbrev Yl:=Nat→List SV→St→(SV→St→T)→T
def noY : Yl := fun _ _ _ _ => .fail "yield"
abbrev Inl:=Yl→FuncId→List SV→St→(SV→St→T)→T
def opName:Op→String
 | .move _ => "move" | .assign _ => "assign" | .pick .. => "pick" | .alloc _ => "alloc" | .box .. => "box" | .build .. => "build" | .buildSlice .. => "buildSlice"
 | .insert .. => "insert" | .load .. => "load" | .store .. => "store" | .nilCheck _ => "nilCheck" | .binOp .. => "binOp" | .unOp .. => "unOp" | .convert .. => "convert"
 | .makeInterface .. => "makeInterface" | .makeFunc .. => "makeFunc" | .makeMap .. => "makeMap" | .makeSlice .. => "makeSlice" | .slice .. => "slice"
 | .fieldAddr .. => "fieldAddr" | .field .. => "field" | .indexAddr .. => "indexAddr" | .index .. => "index" | .lookup .. => "lookup" | .mapUpdate .. => "mapUpdate"
 | .call { callee := .builtin .append, .. } => "append" | .call { callee := .builtin .copy, .. } => "copy" | .call { callee := .builtin .len, .. } => "len" | .call _ => "call" | .panic _ => "panic"
 | .extract .. => "extract" | _ => "?"
def isNilC:Operand→Bool
 | .const (.slice none 0 0)=>true
 | _=>false
def isSort (P:Program) (f:Nat):Bool:=
 match P.funcs[f]? with
 | some fn => fn.name == "slices.Sort[[]int,int]"
 | none=>false
def sortCall (σ:St) (args:List SV) (k:SV→St→T):T:=
 match args with
 | [.own l none]=>
  match look σ.heap l with
  | some (.rows [.int .i64] e)=>guards [.mk2 (.cmp .leq) (.mk1 .len e) (.int .i64 roomLen)] σ fun σ=>k (.tup []) { σ with heap:=puta σ.heap l (.rows [.int .i64] (.un .sort e)) }
  | _ => .fail "sort"
 | _ => .fail "sort"
def callFn (inl:Inl) (yl:Yl) (v:SV) (args:List SV) (σ:St) (k:SV→St→T):T:=
 match v with
 | .fn g caps => if !enters P g then .fail "enter" else if isSort P g then (if caps.isEmpty then sortCall σ args k else .fail "sort") else if (sigs g).isSome then closedCall sigs σ g (args ++ caps) k else inl yl g (args ++ caps) σ k
 | .bfn g fst => if !enters P g then .fail "enter" else if (sigs g).isSome then closedCall sigs σ g (fst ++ args) k else inl yl g (fst ++ args) σ k
 | _ => .fail "3"
def sxOper (inl:Inl) (yl:Yl) (o:Oper) (σ:St) (k:SV→St→T):T:=
 match o.op with
 | .call { callee:= .value f,args,.. } =>
  match σ.ev f with
  | .yld m=>yl m (args.toList.map (σ.ev)) σ k
  | .alt c x y=>mkIte c (callFn P sigs inl yl x (args.toList.map (σ.ev)) { σ with known:=learn c true σ.known } k) (callFn P sigs inl yl y (args.toList.map (σ.ev)) { σ with known:=learn c false σ.known } k)
  | v=>callFn P sigs inl yl v (args.toList.map (σ.ev)) σ k
 | .binOp op t x y ty=>
  match simple P σ o.op with
  | some (gs,v,σ')=>guards gs σ' (k v)
  | none=>
   match op,isNilC y,P.underlying t,σ.ev x with
   | .eql,true,some (.slice _),.ex (.row _) e=> .any (k (.ex .bool (.mk2 .and (.mk2 (.cmp .eql) (.mk1 .len e) i0) (.var σ.nv))) { σ with nv:=σ.nv+1 })
   | _, _, _, _ => .fail "op binOp"
 | .pick x a b=>
  match simple P σ o.op with
  | some (gs,v,σ')=>guards gs σ' (k v)
  | none=>
   match σ.ev x with
   | .ex .bool e=>mkIte e (let σ':={ σ with known:=learn e true σ.known };k (σ'.ev a) σ') (let σ':={ σ with known:=learn e false σ.known };k (σ'.ev b) σ')
   | _ => .fail "pick"
 | _=>
  match simple P σ o.op with
  | some (gs,v,σ')=>guards gs σ' (k v)
  | none=>
   match rowOp P σ o.op with
   | some (gs,v,σ')=>guards gs σ' (k v)
   | none => .fail ("op " ++ opName o.op)
def dstOf (ops:Array Oper) (j:Nat):Option Nat:=(ops[j]?).bind (·.dst)
def condOf (σ:St) (ops:Array Oper) (j:Nat) (want:Bool):Option Ex:=
 match dstOf ops j with
 | none=>none
 | some t=>
  match σ.tmp t with
  | .skip=>some (.bool false)
  | .ex .bool e=>some (if want then cond e else ncond e)
  | .gd c (.ex .bool e)=>some (.mk2 .and c (if want then cond e else ncond e))
  | _=>none
def pureOp:Op→Bool
 | .move _ | .assign _ | .pick .. | .binOp .. | .unOp .. | .convert .. | .extract .. | .field .. | .fieldAddr .. | .indexAddr .. | .index .. | .build .. | .load .. | .nilCheck _ | .slice .. | .makeFunc .. | .lookup ..=>true
 | .call { callee:= .builtin .len,.. } | .call { callee:= .builtin .max,.. } | .call { callee:= .builtin .min,.. } =>true
 | _=>false
def sxOps (inl:Inl) (yl:Yl) (ops:Array Oper):List Oper→St→(St→T)→T
 | [],σ,k=>k σ
 | o ::r,σ,k=>
  match o.guard with
  | none=>sxOper P sigs inl yl o σ fun v σ'=>sxOps inl yl ops r (σ'.put o.dst v) k
  | some (j,want)=>
   match condOf σ ops j want with
   | none => (.fail "4")
   | some c=>
    match σ.knownAs c with
    | some true=>sxOper P sigs inl yl o σ fun v σ'=>sxOps inl yl ops r (σ'.put o.dst v) k
    | some false=>sxOps inl yl ops r (σ.put o.dst .skip) k
    | none=>
     match if pureOp o.op then(simple P { σ with known:=learn c true σ.known } o.op).filter (fun x=>x.2.1.fits σ.nv σ.nx)else none with
     | some (gs,v,_)=>asks (gs.map fun g=> .mk2 .or (ncond c) g) σ (sxOps inl yl ops r (σ.put o.dst (.gd c v)) k)
     | none=>
      mkIte c (sxOper P sigs inl yl o { σ with known:=learn c true σ.known } fun v σ'=>sxOps inl yl ops r (σ'.put o.dst v) k)
       (sxOps inl yl ops r ({ σ with known:=learn c false σ.known }.put o.dst .skip) k)
end
structure Gs where
 nv:Nat
 nx:Nat
 pi:List (Nat×Nat)
 new:List (Nat×Ob)
 first:Bool
 gen:List Nat
def freshOr (base:Nat) (p e:Ex) (g:Gs):Ex×Gs:=
 if p.same e&& (!g.first|| e.fits base)then(p,g)else
 if g.first then(.var g.nv,{ g with nv:=g.nv+1 })else
 match p with
 | .var i=>if base≤i then(p,g)else(.var g.nv,{ g with nv:=g.nv+1 })
 | _=>(.var g.nv,{ g with nv:=g.nv+1 })
def piBind (pi:List (Nat×Nat)) (l l':Nat):Option (List (Nat×Nat)):=
 match look pi l with
 | some m=>if m == l' then some pi else none
 | none=>if pi.any (·.2 == l')then none else some ((l,l')::pi)
def bindCaps (base:Nat):List SV→Gs→List SV×Gs
 | [],g=>([],g)
 | s::r,g=>
  match s with
  | .ptr l i o=>
   match if i.fits base then piBind g.pi l l else none with
   | some pi=>let x:=bindCaps base r { g with pi:=pi };(.ptr l i o::x.1,x.2)
   | none=>let x:=bindCaps base r g;(.undef::x.1,x.2)
  | .ex k e=>let x:=bindCaps base r g;(if e.fits base then .ex k e else .undef)::x.1 |> fun y=>(y,x.2)
  | _=>let x:=bindCaps base r g;(.undef::x.1,x.2)
def isFn:SV→Bool
 | .fn .. | .bfn ..=>true
 | _=>false
def fnOf:SV→Bool×FuncId
 | .fn f _=>(false,f)
 | .bfn f _=>(true,f)
 | _=>(false,0)
def sameFn (x y:SV):Bool:=isFn x&& isFn y&& fnOf x == fnOf y
def bindFn (base:Nat) (s:SV) (g:Gs):SV×Gs:=
 match s with
 | .fn f c=>let r:=bindCaps base c g;(.fn f r.1,r.2)
 | .bfn f c=>let r:=bindCaps base c g;(.bfn f r.1,r.2)
 | _=>(.undef,g)
mutual
def anti (base:Nat) (hp hs:List (Nat×Ob)):SV→SV→Gs→SV×Gs
 | .ex k p,s,g=>
  match s with
  | .ex k' e=>if k.same k' then let r:=freshOr base p e g;(.ex k r.1,r.2)else(.undef,g)
  | .nilS=>match k with | .row _=>let r:=freshOr base p .nil g;(.ex k r.1,r.2) | _=>(.undef,g)
  | .own l none=>match look hs l,k with
   | some (.rows ks e),.row _=>let r:=freshOr base p e g;(.ex k r.1,r.2)
   | _,_=>(.undef,g)
  | _=>(.undef,g)
 | .nilS,s,g=>
  match s with
  | .nilS=>(.nilS,g)
  | .ex k e=>match k with | .row _=>(.ex k (.var g.nv),{ g with nv:=g.nv+1 }) | _=>(.undef,g)
  | .own l none=>match look hs l with
   | some (.rows ks e)=>
    match piBind g.pi g.nx l with
    | some pi=>(.own g.nx none,{ g with nv:=g.nv+1,nx:=g.nx+1,pi:=pi,new:=(g.nx,.rows ks (.var g.nv))::g.new })
    | none=>(.undef,g)
   | _=>(.undef,g)
  | _=>(.undef,g)
 | .skip,s,g=>match s with | .skip=>(.skip,g) | _=>(.undef,g)
 | .nilP,s,g=>match s with | .nilP=>(.nilP,g) | _=>(.undef,g)
 | .nilF,s,g=>match s with | .nilF=>(.nilF,g) | _=>(.undef,g)
 | .mrow l e,s,g=>match s with | .mrow l' e'=>(match piBind g.pi l l' with | some pi=>let r:=freshOr base e e' { g with pi:=pi };(.mrow l r.1,r.2) | none=>(.undef,g)) | _=>(.undef,g)
 | .mp l,s,g=>match s with | .mp l'=>(match piBind g.pi l l' with | some pi=>(.mp l,{ g with pi:=pi }) | none=>(.undef,g)) | _=>(.undef,g)
 | .yld m,s,g=>match s with | .yld m'=>if m == m' then(.yld m,g)else(.undef,g) | _=>(.undef,g)
 | .agg l,s,g=>match s with | .agg l'=>let r:=antis base hp hs l l' g;(.agg r.1,r.2) | _=>(.undef,g)
 | .fbox l o,s,g=>match s with | .fbox l' o'=>if o == o' then let r:=antis base hp hs l l' g;(.fbox r.1 o,r.2)else(.undef,g) | _=>(.undef,g)
 | .tup l,s,g=>match s with | .tup l'=>let r:=antis base hp hs l l' g;(.tup r.1,r.2) | _=>(.undef,g)
 | .ptr l i o,s,g=>
  match s with
  | .ptr l' i' o'=>
   if o == o' then
    match piBind g.pi l l' with
    | some pi=>let r:=freshOr base i i' { g with pi:=pi };(.ptr l r.1 o,r.2)
    | none=>(.undef,g)
   else(.undef,g)
  | _=>(.undef,g)
 | .own l p,s,g=>
  match p,s with
  | none,.own l' none=>match piBind g.pi l l' with | some pi=>(.own l none,{ g with pi:=pi }) | none=>(.undef,g)
  | none,.nilS=>match look hp l with
   | some (.rows ks e)=>(.own l none,{ g with gen:=l::g.gen })
   | _=>(.undef,g)
  | some (lo,n),.own l' (some (lo',n'))=>
   match piBind g.pi l l' with
   | some pi=>let r:=freshOr base lo lo' { g with pi:=pi };let r':=freshOr base n n' r.2;(.own l (some (r.1,r'.1)),r'.2)
   | none=>(.undef,g)
  | none,.ex k e=>match k,look hp l with
   | .row _,some (.rows ks e')=>let r:=freshOr base e' e g;(.ex k r.1,r.2)
   | _,_=>(.undef,g)
  | _,_=>(.undef,g)
 | .fn f c,s,g=>
  if sameFn (.fn f c) s then match s with | .fn _ c'=>let r:=antis base hp hs c c' g;(.fn f r.1,r.2) | _=>(.undef,g)
  else if isFn s then let r:=antis base hp hs c c g;let r':=bindFn base s r.2;(.alt (.var r'.2.nv) (.fn f r.1) r'.1,{ r'.2 with nv:=r'.2.nv+1 })
  else(.undef,g)
 | .bfn f c,s,g=>
  if sameFn (.bfn f c) s then match s with | .bfn _ c'=>let r:=antis base hp hs c c' g;(.bfn f r.1,r.2) | _=>(.undef,g)
  else if isFn s then let r:=antis base hp hs c c g;let r':=bindFn base s r.2;(.alt (.var r'.2.nv) (.bfn f r.1) r'.1,{ r'.2 with nv:=r'.2.nv+1 })
  else(.undef,g)
 | .alt b x y,s,g=>
  match s with
  | .alt b' x' y'=>let r:=anti base hp hs x x' g;let r':=anti base hp hs y y' r.2;let r'':=freshOr base b b' r'.2;(.alt r''.1 r.1 r'.1,r''.2)
  | s=>if sameFn x s then let r:=anti base hp hs x s g;let r'':=freshOr base b (.bool true) r.2;(.alt r''.1 r.1 y,r''.2)
   else if sameFn y s then let r:=anti base hp hs y s g;let r'':=freshOr base b (.bool false) r.2;(.alt r''.1 x r.1,r''.2)
   else(.undef,g)
 | _,_,g=>(.undef,g)
def antis (base:Nat) (hp hs:List (Nat×Ob)):List SV→List SV→Gs→List SV×Gs
 | p::ps,s::ss,g=>let r:=anti base hp hs p s g;let r':=antis base hp hs ps ss r.2;(r.1::r'.1,r'.2)
 | _,_,g=>([],g)
end
def Ex.sub (base:Nat) (es:List Ex):Ex→Ex
 | .var i=>if base≤i then es.getD (i - base) .nil else .var i
 | .un o a=> .un o (a.sub base es)
 | .bin o a b=> .bin o (a.sub base es) (b.sub base es)
 | .tri o a b c=> .tri o (a.sub base es) (b.sub base es) (c.sub base es)
 | e=>e
structure Fd where
 es:List (Nat×Ex)
 pi:List (Nat×Nat)
def Fd.var (base:Nat) (p:Ex) (e:Ex) (f:Fd):Fd:=
 match p with
 | .var i=>if base≤i&& (look f.es i).isNone then { f with es:=(i,e)::f.es } else f
 | _=>f
def Fd.name (f:Fd) (l l':Nat):Fd:=if(look f.pi l).isNone then { f with pi:=(l,l')::f.pi } else f
mutual
def find (base:Nat) (σ:St):SV→SV→Fd→Fd
 | .ex k p,s,f=>match σ.leaf k s with | some e=>f.var base p e | none=>f
 | .agg l,s,f=>match s with | .agg l'=>finds base σ l l' f | _=>f
 | .fbox l _,s,f=>match s with | .fbox l' _=>finds base σ l l' f | _=>f
 | .tup l,s,f=>match s with | .tup l'=>finds base σ l l' f | _=>f
 | .ptr l i o,s,f=>match s with | .ptr l' i' _=>(f.name l l').var base i i' | _=>f
 | .mp l,s,f=>match s with | .mp l'=>f.name l l' | _=>f
 | .mrow l e,s,f=>match s with | .mrow l' e'=>(f.name l l').var base e e' | _=>f
 | .bfn _ c,s,f=>match s with | .bfn _ c'=>finds base σ c c' f | _=>f
 | .alt b x y,s,f=>
  match s with
  | .alt b' x' y'=>(find base σ y y' (find base σ x x' f)).var base b b'
  | s=>if sameFn x s then(find base σ x s f).var base b (.bool true)else(find base σ y s f).var base b (.bool false)
 | .own l p,s,f=>
  match p,s with
  | none,.own l' none=>f.name l l'
  | some (lo,n),.own l' (some (lo',n'))=>((f.name l l').var base lo lo').var base n n'
  | _,_=>f
 | .fn _ c,s,f=>match s with | .fn _ c'=>finds base σ c c' f | _=>f
 | _,_,f=>f
def finds (base:Nat) (σ:St):List SV→List SV→Fd→Fd
 | p::ps,s::ss,f=>finds base σ ps ss (find base σ p s f)
 | _,_,f=>f
end
def findFr (base:Nat) (σ:St):List (Nat×SV)→List (Nat×SV)→Fd→Fd
 | [],_,f=>f
 | (t,p)::r,fr,f=>findFr base σ r fr (match look fr t with | some s=>find base σ p s f | none=>f)
def findFrs (base:Nat) (σ:St):List (List (Nat×SV))→List (List (Nat×SV))→Fd→Fd
 | p::ps,s::ss,f=>findFrs base σ ps ss (findFr base σ p s f)
 | _,_,f=>f
def findObs (base:Nat) (hp:List (Nat×Ob)) (σ:St):Nat→List Nat→Fd→Fd
 | 0,_,f=>f
 | n+1,done,f=>
  match f.pi.find? fun x=>!done.contains x.1 with
  | none=>f
  | some (l,l')=>
   findObs base hp σ n (l::done) <| match look hp l,look σ.heap l' with
    | some (.box cs),some (.box cs')=>finds base σ cs cs' f
    | some (.rows _ e),some (.rows _ e')=>f.var base e e'
    | some (.imap e),some (.imap e')=>f.var base e e'
    | some (.rmap _ e none),some (.rmap _ e' none)=>f.var base e e'
    | _,_=>f
def upto (es:List (Nat×Ex)) (dflt:Nat→Ex) (base:Nat):Nat→List Ex
 | 0=> []
 | n+1=>upto es dflt base n++ [(look es (base+n)).getD (dflt (base+n))]
mutual
def mat (base:Nat) (es:List Ex) (pi:List (Nat×Nat)) (σ:St):SV→SV→Bool
 | .undef,_=>true
 | .skip,s=>match s with | .skip=>true | _=>false
 | .ex k p,s=>match σ.leaf k s with | some e=>e.same (p.sub base es)&& (match s with | .own l _=>pi.all (·.2 != l) | _=>true) | none=>false
 | .nilS,s=>match s with | .nilS=>true | _=>false
 | .nilP,s=>match s with | .nilP=>true | _=>false
 | .nilF,s=>match s with | .nilF=>true | _=>false
 | .yld m,s=>match s with | .yld m'=>m == m' | _=>false
 | .mp l,s=>match s with | .mp l'=>look pi l == some l' | _=>false
 | .mrow l e,s=>match s with | .mrow l' e'=>look pi l == some l'&& e'.same (e.sub base es) | _=>false
 | .mptr ..,_=>false
 | .bfn f c,s=>match s with | .bfn f' c'=>f == f'&& mats base es pi σ c c' | _=>false
 | .alt b x y,s=>
  match s with
  | .alt b' x' y'=>b'.same (b.sub base es)&& mat base es pi σ x x'&& mat base es pi σ y y'
  | s=>match b.sub base es with
   | .bool true=>mat base es pi σ x s
   | .bool false=>mat base es pi σ y s
   | _=>false
 | .agg l,s=>match s with | .agg l'=>mats base es pi σ l l' | _=>false
 | .fbox l o,s=>match s with | .fbox l' o'=>o == o'&& mats base es pi σ l l' | _=>false
 | .tup l,s=>match s with | .tup l'=>mats base es pi σ l l' | _=>false
 | .ptr l i o,s=>match s with | .ptr l' i' o'=>look pi l == some l'&& i'.same (i.sub base es)&& o == o' | _=>false
 | .own l none,s=>match s with | .own l' none=>look pi l == some l' | .nilS=>(look pi l).isNone | _=>false
 | .own l (some (lo,n)),s=>match s with | .own l' (some (lo',n'))=>look pi l == some l'&& lo'.same (lo.sub base es)&& n'.same (n.sub base es) | _=>false
 | .fn f c,s=>match s with | .fn f' c'=>f == f'&& mats base es pi σ c c' | _=>false
 | .rptr ..,_=>false
 | .gd ..,_=>false
def mats (base:Nat) (es:List Ex) (pi:List (Nat×Nat)) (σ:St):List SV→List SV→Bool
 | [],[]=>true
 | p::ps,s::ss=>mat base es pi σ p s&& mats base es pi σ ps ss
 | _,_=>false
end
def matFr (base:Nat) (es:List Ex) (pi:List (Nat×Nat)) (σ:St) (f:List (Nat×SV)):List (Nat×SV)→Bool
 | []=>true
 | (t,p)::r=>mat base es pi σ p ((look f t).getD .undef)&& matFr base es pi σ f r
def matFrs (base:Nat) (es:List Ex) (pi:List (Nat×Nat)) (σ:St):List (List (Nat×SV))→List (List (Nat×SV))→Bool
 | [],[]=>true
 | p::ps,f::fs=>matFr base es pi σ f p&& matFrs base es pi σ ps fs
 | _,_=>false
def matOb (base:Nat) (es:List Ex) (pi:List (Nat×Nat)) (σ:St):Ob→Ob→Bool
 | .box cs,.box cs'=>mats base es pi σ cs cs'
 | .rows ks e,.rows ks' e'=>LK.sames ks ks'&& e'.same (e.sub base es)
 | .imap e,.imap e'=>e'.same (e.sub base es)
 | .rmap ks e none,.rmap ks' e' none=>LK.sames ks ks'&& e'.same (e.sub base es)
 | _,_=>false
def matHeap (base:Nat) (es:List Ex) (pi:List (Nat×Nat)) (σ:St):List (Nat×Ob)→Bool
 | []=>true
 | (l,o)::r=>
  (match look pi l with
   | some l'=>match look σ.heap l' with | some o'=>matOb base es pi σ o o' | none=>false
   | none=>match o with | .rows _ e=>(e.sub base es).same .nil | _=>false)&& matHeap base es pi σ r
def knownIn (k:List (Ex×Bool)):List (Ex×Bool)→Bool
 | []=>true
 | (c,b)::r=>isKnown k c == some b&& knownIn k r
def nodup:List Nat→Bool
 | []=>true
 | a::r=>!r.contains a&& nodup r
def inst (base:Nat) (p s:St):Option (List Ex):=
 let f:=findObs base p.heap s 200 [] (findFrs base s p.fr s.fr { es:= [],pi:= [] })
 let es:=upto f.es (fun _=> .nil) base (p.nv - base)
 if base≤p.nv&& matFrs base es f.pi s p.fr s.fr&& matHeap base es f.pi s p.heap&& knownIn s.known p.known&& nodup (f.pi.map (·.2))&& f.pi.all (fun x=>x.1 < p.nx)
    && p.fr.all (fun f=>fitsAll p.nv p.nx (f.map (·.2)))&& p.heap.all (fun x=>x.1 < p.nx&& x.2.fits p.nv p.nx)&& p.known.all (fun x=>x.1.fits base)&& nodup (p.heap.map (·.1))&& es.all (·.fits s.nv)then some es else none
def opUses (o:Oper):List Nat:=o.op.operands.toList.filterMap fun | .tmp t=>some t | _=>none
def uses:Code→List Nat
 | .region _ ops _=>ops.toList.flatMap opUses
 | .seq a b=>uses a++uses b
 | .cond c a b=>(match c with | .tmp t=> [t] | _=> [])++uses a++uses b
 | .block _ c | .loop c | .scope c=>uses c
 | .rangeFunc f ps a b=>(match f with | .tmp t=> [t] | _=> [])++uses a++uses b
 | _=> []
def without (l d:List Nat):List Nat:=l.filter fun t=>!d.contains t
def liveIn (env:List (Nat×List Nat)):Code→List Nat→List Nat
 | .region _ ops _,out=>ops.toList.foldr (fun o l=>opUses o++(match o.dst with | some d=>l.filter (· != d) | none=>l)) out
 | .seq a b,out=>liveIn env a (liveIn env b out)
 | .cond c a b,out=>(match c with | .tmp t=> [t] | _=> [])++liveIn env a out++liveIn env b out
 | .block id c,out=>liveIn ((id,out)::env) c out
 | .loop c,out=>let l:=liveIn env c out;(liveIn env c (l++out)).eraseDups
 | .scope c,out=>liveIn env c out
 | .exit id,out=>(look env id).getD out
 | .rangeFunc f ps a b,out=>uses a++uses b++(match f with | .tmp t=> [t] | _=> [])++out
 | _,out=>out
def lastId:Code→Nat
 | .region i _ _=>i+1
 | .seq a b=>match lastId b with | 0=>lastId a | n=>n
 | .cond _ a b=>match lastId b with | 0=>lastId a | n=>n
 | .block _ c | .loop c | .scope c=>lastId c
 | .rangeFunc _ _ _ c=>lastId c
 | _=>0
def small:Code→Bool
 | .ret | .skip | .exit _ | .label _=>true
 | .region _ ops _=>ops.size≤1
 | _=>false
def backK (base:Nat) (p:St) (j:Nat) (k:Xit→St→T):Xit→St→T:=fun e σ'=>
 match e with
 | .normal => match inst base p σ' with | some es => .jump j es | none => .fail "inst"
 | e=>k e σ'
structure JF where
 j:(St→(Xit→St→T)→T)→List Nat→St→(Xit→St→T)→T
 l:(St→(Xit→St→T)→T)→List Nat→St→(Xit→St→T)→T
abbrev Orc:=List Nat→St→Option St
def joined (orc:Orc) (run:St→(Xit→St→T)→T) (live:List Nat) (σ:St) (k:Xit→St→T):T:=
 match orc live σ with
 | some p0=>
  let p:={ p0 with jl:=σ.jl }
  .letj (k .normal p) (run { σ with jl:=σ.jl+1 } (backK σ.nv p σ.jl k))
 | none=>run σ k
def looped (orc:Orc) (run:St→(Xit→St→T)→T) (live:List Nat) (σ:St) (k:Xit→St→T):T:=
 match orc (1000000::live) σ with
 | some p=>
  match inst σ.nv p σ with
  | none => (.fail "8")
  | some es0=> .loop es0 (run { p with jl:=σ.jl+1 } (backK σ.nv p σ.jl k))
 | none => .fail "orc"
def ofOrc (orc:Orc):JF:=⟨joined orc,looped orc⟩
mutual
def SV.hasY:SV→Bool
 | .yld _=>true
 | .gd _ s=>s.hasY
 | .agg l | .tup l | .fn _ l | .bfn _ l | .fbox l _=>hasYs l
 | .alt _ x y=>x.hasY|| y.hasY
 | _=>false
def hasYs:List SV→Bool
 | []=>false
 | s::r=>s.hasY|| hasYs r
end
def Ob.hasY:Ob→Bool
 | .box cs=>hasYs cs
 | .rows _ _ | .imap _ | .rmap _ _ _=>false
def noYs (f:List (Nat×SV)):List (Nat×SV):=f.map fun x=>(x.1,if x.2.hasY then .undef else x.2)
def St.scrub (σ:St):St:={ σ with fr:=σ.fr.map noYs,heap:=dels σ.heap ((σ.heap.filter fun x=>x.2.hasY).map (·.1)) }
def putsFr (f:List (Nat×SV)):List (Nat×SV)→List (Nat×SV)
 | []=>f
 | (t,v)::r=>putsFr (puta f t v) r
def unrolled (run:St→(Xit→St→T)→T):Nat→St→(Xit→St→T)→T
 | 0, _, _ => .fail "rounds"
 | n+1,σ,k=>run σ fun e σ'=>match e with | .normal=>unrolled run n σ' k | e=>k e σ'
def headConst:Code→Option Nat
 | .seq a _=>headConst a
 | .scope c | .block _ c=>headConst c
 | .region _ ops _=>match ops.back? with
  | some { op:= .binOp .lss _ _ (.const (.int _ n)) _,.. } =>if 0≤n&& n≤10 then some n.toNat else none
  | _=>none
 | _=>none
def roundY (jf:JF) (n:Nat) (ps:List Nat) (rx ry:St→(Xit→St→T)→T):Yl:=fun m args σ1 k1=>
 if m != n || args.length != ps.length then .fail "yield" else
 match σ1.fr.drop (σ1.fr.length - n)with
 | f0::_=>
  rx { σ1 with fr:=putsFr f0 (ps.zip args)::σ1.fr } fun e σ2=>
   match e with
   | .normal=>jf.j ry [] σ2 fun e σ3=>
    match e with
    | .normal=>k1 (.ex .bool (.bool true)) { σ3 with fr:=σ3.fr.tail }
    | _ => .fail "exit"
   | _ => .fail "exit"
 | [] => .fail "frame"
def St.cut (σ:St) (l:List Nat):St:=match σ.fr with | f::r=>{ σ with fr:=(f.filter fun x=>l.contains x.1)::r } | []=>σ
section
variable (P:Program) (sigs:Nat→Option Sig) (jf:JF) (drawn:Array Oper→St→(St→T)→T) (inl:Inl)
def sx:Code→Yl→Bool→List (Nat×List Nat)→List Nat→St→(Xit→St→T)→T
 | .skip,_,_,_,_,σ,k | .label _,_,_,_,_,σ,k=>k .normal σ
 | .region i ops d,yl,rd,_,lv,σ,k=>
  let σ:=if rd then σ else σ.cut (liveIn [] (.region i ops d) lv)
  if d then drawn ops σ (k .normal)else sxOps P sigs inl yl ops ops.toList σ (k .normal)
 | .seq a b,yl,rd,env,lv,σ,k=>
  let k':Xit→St→T:=fun e σ'=>match e with | .normal=>sx b yl rd env lv σ' k | e=>k e σ'
  let l:=(liveIn env b lv).eraseDups
  if small b then sx a yl rd env l σ k' else jf.j (fun σ k=>sx a yl rd env l σ k) ((2000000+lastId a)::l) σ k'
 | .cond c a b,yl,rd,env,lv,σ,k=>
  match σ.ev c with
  | .ex .bool e=>
   match σ.knownAs e with
   | some true=>sx a yl rd env lv σ k
   | some false=>sx b yl rd env lv σ k
   | none=>mkIte e (sx a yl rd env lv { σ with known:=learn e true σ.known } k) (sx b yl rd env lv { σ with known:=learn e false σ.known } k)
  | _ => .fail "cond"
 | .block id c,yl,rd,env,lv,σ,k=>sx c yl rd ((id,lv)::env) lv σ fun e σ'=>match e with | .exit i=>if i=id then k .normal σ' else k e σ' | e=>k e σ'
 | .loop c,yl,rd,env,lv,σ,k=>
  let l:=(liveIn env (.loop c) lv).eraseDups
  match headConst c with
  | some n=>unrolled (jf.j (fun σ k=>sx c yl rd env l σ k) l) (n+1) σ k
  | none=>jf.l (fun σ k=>sx c yl rd env l σ k) l σ k
 | .exit id,_,_,_,_,σ,k=>k (.exit id) σ
 | .ret,_,_,_,_,σ,k=>k .ret σ
 | .scope c,yl,rd,env,lv,σ,k=>sx c yl rd env lv σ k
 | .rangeFunc f ps x y,yl,rd,env,lv,σ,k=>
  if rd then .fail "round" else
  match σ.ev f with
  | .fn g caps=>
   let n:=σ.fr.length
   if !enters P g || caps.any SV.hasY then .fail "range" else
   inl (roundY jf n ps.toList (fun σ k=>sx x noY true [] [] σ k) (fun σ k=>sx y noY true [] [] σ k)) g (.yld n::caps) σ.scrub fun _ σ'=>k .normal σ'.scrub
  | _ => .fail "range"
 | _, _, _, _, _, _, _ => (.fail "11")
end
def resultOf (P:Program) (fn:Func) (σ:St):Option SV:=
 (mapO (fun(r:ResultVar)=>match r with
  | .tmp t=>some (strip σ.known (σ.tmp t))
  | .cell a t=>loadSV P σ.heap t (strip σ.known (σ.tmp a))) fn.results.toList).map oneOf
def resUses (fn:Func):List Nat:=fn.results.toList.map fun | .tmp t=>t | .cell t _=>t
def enterFr:Nat→List SV→List (Nat×SV)
 | _,[]=> []
 | i,v::r=>(i,v)::enterFr (i+1) r
def bounded (n:Nat):Code→Bool
 | .region _ ops _=>ops.toList.all fun o=>o.dst.all (· < n)
 | .seq a b | .cond _ a b=>bounded n a&& bounded n b
 | .rangeFunc _ ps a b=>ps.toList.all (· < n)&& bounded n a&& bounded n b
 | .block _ c | .loop c | .scope c=>bounded n c
 | _=>true
def inlined (P:Program) (sigs:Nat→Option Sig) (jf:JF) (drawn:Inl→Array Oper→St→(St→T)→T):Nat→Inl
 | 0 => fun _ _ _ _ _ => (.fail "12")
 | n + 1=>fun yl f args σ k=>
  match P.funcs[f]? with
  | some fn=>
   match fn.body with
   | some c=>
    if fn.name == "runtime.NumGoroutine" || args.length > fn.ntmps || !bounded fn.ntmps c then (.fail "13") else
    jf.j (fun σ k => sx P sigs jf (drawn (inlined P sigs jf drawn n)) (inlined P sigs jf drawn n) c yl false [] (resUses fn) σ fun e σ' => match e with | .exit _ => (.fail "14") | _ => k .normal σ') (resUses fn)
     { σ with fr:=enterFr 0 args::σ.fr } fun _ σ'=>
       match resultOf P fn σ' with
       | some v=>k v { σ' with fr:=σ'.fr.tail }
       | none => (.fail "15")
   | none => (.fail "16")
  | none => (.fail "17")
def ownRes:List Sh→List SV→List Nat
 | .own _::r,.own l none::s=>l::ownRes r s
 | _::r,_::s=>ownRes r s
 | _,_=> []
def closeGo (σ σ':St):List Sh→List SV→Option (List Ex)
 | [],[]=>some []
 | .leaf k::r,v::s=>match σ'.leaf k v,closeGo σ σ' r s with | some e,some es=>some (e::es) | _,_=>none
 | .own ks::r,.own l none::s=>match σ.leaf (.row ks) (.own l none),closeGo σ σ' r s with | some e,some es=>some (e::es) | _,_=>none
 | .own _::r,.nilS::s=>match closeGo σ σ' r s with | some es=>some (.nil::es) | none=>none
 | .agg ks::r,.agg l::s=>match zipO σ'.leaf ks l,closeGo σ σ' r s with | some e,some es=>some (e++es) | _,_=>none
 | _,_=>none
def closeAll (σ:St) (rs:List Sh) (vs:List SV):Option (List Ex):=
 if nodup (ownRes rs vs)then closeGo σ { σ with heap:=dels σ.heap (ownRes rs vs) } rs vs else none
def argSV:List Sh→Nat→List SV
 | [],_=> []
 | .leaf k::r,nv=> .ex k (.var nv)::argSV r (nv+1)
 | .own ks::r,nv=> .undef::argSV r (nv+1)
 | .agg ks::r,nv=> .agg (leavesFrom nv ks)::argSV r (nv+ks.length)
def Sh.count:Sh→Nat
 | .leaf _ | .own _=>1
 | .agg ks=>ks.length
def unTup (n:Nat) (v:SV):Option (List SV):=if n == 1 then some [v]else match v with | .tup l=>some l | _=>none
def treeOf (P:Program) (sigs:Nat→Option Sig) (jf:JF) (drawn:Inl→Array Oper→St→(St→T)→T) (depth:Nat) (f:Nat) (sg:Sig):T:=
 match P.funcs[f]? with
 | some fn=>
  match fn.body with
  | some c=>
   if !bounded fn.ntmps c || sg.ps.length > fn.ntmps then .fail "23" else
   sx P sigs jf (drawn (inlined P sigs jf drawn depth)) (inlined P sigs jf drawn depth) c noY false [] (resUses fn)
    { nv:=(sg.ps.map Sh.count).sum,jl:=0,nx:=0,known:= [],fr:= [enterFr 0 (argSV sg.ps 0)],heap:= [] } fun e σ=>
      match e with
      | .exit _ => (.fail "18")
      | _=>match(resultOf P fn σ).bind (unTup sg.rs.length)with
       | some vs => match closeAll σ sg.rs vs with | some es => .ret es | none => (.fail "19")
       | none => (.fail "20")
  | none => (.fail "21")
 | none => (.fail "22")
end Go.Proofs.YtckjdlmfibjpaaaGreat.Sx
set_option linter.unusedVariables false
set_option linter.unusedSimpArgs false
namespace Go.Proofs.YtckjdlmfibjpaaaGreat.Sx
open Go.RowKit Go.WideElems
abbrev Wf (a:Int):Prop:=(Lit.int .i64 a).wf=true
def rgI (x:MapEntry):Lit×DataW Unit:=
 match x.key,x.val with
 | .int k a,.int k' c=>(.int k a,.lit (.int k' c))
 | _,_=>(.bool false,.nil)
def datI (es:Array MapEntry):DataW Unit:= .map ((es.toList.map rgI).foldr DataW.insert [])
def OwnsI (W:World) (g:Nat) (xs:List (List PV)):Prop:=
 ∃es clock,W.heap[g]? =some (.map es clock)∧es.size≤xs.length∧es.size≤maxLen∧MapKept.Stamped es clock∧
  (∀x∈es.toList,∃a c,x.key= .int .i64 a∧x.val= .int .i64 c∧Wf a∧Wf c)∧∀a,Wf a→(datI es).atKey (.int .i64 a) (.lit (.int .i64 0))= .lit (.int .i64 (mapGet xs a))∧Maps.has (datI es) (.int .i64 a)=mapHas xs a
section
variable {P:Program} {k e t:TypeId} {W:World} {g:Nat} {xs:List (List PV)}
theorem rg_rgI (hk:P.underlying k=some (.int .i64)) (he:P.underlying e=some (.int .i64)) {x:MapEntry} {a c:Int} (h1:x.key= .int .i64 a) (h2:x.val= .int .i64 c) (ha:Wf a) (hc:Wf c) :
    rd P k (plainElem (H:=Unit) P e) x=some (rgI x):=by
 unfold rd rgI
 rw[h1,h2,Maps.keyOf_int_mk hk ha,plainElem_int he hc]
 rfl
theorem map_rg (hk:P.underlying k=some (.int .i64)) (he:P.underlying e=some (.int .i64)) {es:Array MapEntry} (h:∀x∈es.toList,∃a c,x.key= .int .i64 a∧x.val= .int .i64 c∧Wf a∧Wf c) :
    es.toList.map (rg P k (plainElem (H:=Unit) P e))=es.toList.map rgI:=by
 refine List.map_congr_left fun x hx=>?_
 obtain⟨a,c,h1,h2,ha,hc⟩:=h x hx
 exact rg_of (rg_rgI hk he h1 h2 ha hc)
theorem OwnsI.toMap (hk:P.underlying k=some (.int .i64)) (he:P.underlying e=some (.int .i64)) (h:OwnsI W g xs) :
    ∃D,W.ownsMap (H:=Unit) P k (plainElem P e) g xs.length D∧∀a,Wf a→D.atKey (.int .i64 a) (.lit (.int .i64 0))= .lit (.int .i64 (mapGet xs a))∧Maps.has D (.int .i64 a)=mapHas xs a:=by
 obtain⟨es,clock,h1,h2,h3,h4,h5,h6⟩:=h
 refine⟨datI es,⟨es,clock,h1,⟨h3,h4,fun x hx=>?_⟩,h2,?_⟩,h6⟩
 · obtain⟨a,c,e1,e2,ha,hc⟩:=h5 x hx
   exact⟨_,rg_rgI hk he e1 e2 ha hc⟩
 · unfold datI
   rw[map_rg hk he h5]
theorem ownsI_new (W:World):OwnsI (W.alloc (.map #[] 0)) W.heap.size []:=by
 refine⟨#[],0,?_,Nat.le_refl _,by simp,⟨by simp,by simp,by simp⟩,by simp,fun a _=>⟨rfl,rfl⟩⟩
 show(W.heap.push _)[W.heap.size]? =_
 simp
theorem OwnsI.lookup (hk:P.underlying k=some (.int .i64)) (he:P.underlying e=some (.int .i64)) (ht:P.underlying t=some (.map k e)) (hz:(zeroValue e).run P W= .ok (.int .i64 0) W) (h:OwnsI W g xs) {a:Int} (ha:Wf a) :
    (Instr.lookup t (.map (some g)) (.int .i64 a) false).run P W= .ok (.int .i64 (mapGet xs a)) W:=by
 obtain⟨D,hD,hat⟩:=h.toMap hk he
 obtain⟨c,h1,h2,_⟩:=hD.lookup_int (Maps.int_keyed hk) ht he hz (Maps.keyOf_int_mk hk ha)
 rw[(hat a ha).1]at h2
 cases h2
 exact h1
theorem OwnsI.update (hk:P.underlying k=some (.int .i64)) (he:P.underlying e=some (.int .i64)) (ht:P.underlying t=some (.map k e)) (h:OwnsI W g xs) {a c:Int} (ha:Wf a) (hc:Wf c) (hn:xs.length < maxLen) :
    ∃W',(Instr.mapUpdate t (.map (some g)) (.int .i64 a) (.int .i64 c)).run P W= .ok () W'∧OwnsI W' g ([.int .i64 a,.int .i64 c]::xs)∧W.grownBy W' (some g):=by
 obtain⟨D,hD,hat⟩:=h.toMap hk he
 obtain⟨W',h1,h2,h3⟩:=hD.update (Maps.int_keyed hk) ht hn (Maps.keyOf_int_mk hk ha) (plainElem_int (H:=Unit) he hc)
 refine⟨W',h1,?_,h3⟩
 obtain⟨es,clock,q1,q2,q3,q4⟩:=h2
 have hent:∀x∈es.toList,∃a c,x.key= .int .i64 a∧x.val= .int .i64 c∧Wf a∧Wf c:=by
  intro x hx
  obtain⟨y,hy⟩:=q2.reads x hx
  obtain⟨z,hz,hz2⟩:=rd_val hy
  obtain⟨c',e2,_,hc'⟩:=plainElem_int_inv he hz
  have hkk:=rd_key hy
  obtain⟨a',e1,_,ha'⟩:=Maps.keyOf_int_inv hk hkk
  exact⟨a',c',e1,e2,ha',hc'⟩
 have hdat:D.put (.int .i64 a) (.lit (.int .i64 c))=datI es:=by
  rw[q4,map_rg hk he hent]
  rfl
 refine⟨es,clock,q1,by simpa using q3,q2.size,q2.stamped,hent,fun b hb=>?_⟩
 rw[←hdat,mapGet,mapHas]
 show _=DataW.lit (Lit.int IntKind.i64 (if a=b then c else mapGet xs b))∧_=(if a=b then true else mapHas xs b)
 have hD2:Maps.IsMap D:=by
  obtain⟨_,_,_,_,_,rfl⟩:=hD
  exact⟨_,rfl⟩
 by_cases hab:a=b
 · subst hab
   rw[Maps.atKey_put_same hD2 ((Maps.int_keyed hk).key (Maps.keyOf_int_mk hk ha)),Maps.has_put_same hD2 ((Maps.int_keyed hk).key (Maps.keyOf_int_mk hk ha)),if_pos rfl,if_pos rfl]
   exact⟨rfl,rfl⟩
 · rw[Maps.atKey_put_other (fun e=>hab (by cases e;rfl)),Maps.has_put_other (fun e=>hab (by cases e;rfl)),if_neg hab,if_neg hab]
   exact hat b hb
theorem OwnsI.lookup2 (hk:P.underlying k=some (.int .i64)) (he:P.underlying e=some (.int .i64)) (ht:P.underlying t=some (.map k e)) (hz:(zeroValue e).run P W= .ok (.int .i64 0) W) (h:OwnsI W g xs) {a:Int} (ha:Wf a) :
    (Instr.lookup t (.map (some g)) (.int .i64 a) true).run P W= .ok (.tuple #[.int .i64 (mapGet xs a),.bool (mapHas xs a)]) W:=by
 obtain⟨D,⟨es,clock,hb,F,_,rfl⟩,hat⟩:=h.toMap hk he
 obtain⟨h1,h2⟩:=hat a ha
 rcases Maps.fit_look true (Maps.int_keyed hk) ht hz hb F (Maps.keyOf_int_mk hk ha)with⟨hrun,_,hq⟩ | ⟨e0,y,_,_,hrun,hR,hq,_⟩
 · rw[hq]at h1
   rw[Maps.has_false_of_atKey hq]at h2
   simp only[DataW.lit.injEq,Lit.int.injEq,true_and]at h1
   rw[hrun,←h2,←h1]
   rfl
 · rw[Maps.has_true_of_atKey hq]at h2
   rw[hq]at h1
   obtain⟨c,e1,e2,_⟩:=plainElem_int_inv he hR
   rw[e2]at h1
   simp only[DataW.lit.injEq,Lit.int.injEq,true_and]at h1
   rw[hrun,←h2,e1,←h1]
   rfl
end
def rgN (x:MapEntry):Lit×DataW Unit:=
 match x.key with
 | .int k a=>(.int k a,.nil)
 | _=>(.bool false,.nil)
def datN (es:Array MapEntry):DataW Unit:= .map ((es.toList.map rgN).foldr DataW.insert [])
def noRead (_:Value):Option (DataW Unit×List MemPlace):=some (.nil,[])
def OwnsR (W:World) (g n:Nat) (tab:Int→Value) (hole:Option Int):Prop:=
 ∃es clock,W.heap[g]? =some (.map es clock)∧es.size≤n∧es.size≤maxLen∧MapKept.Stamped es clock∧
  (∀x∈es.toList,∃a,x.key= .int .i64 a∧Wf a∧(hole≠some a→x.val=tab a))∧∀a,Wf a→hole≠some a→Maps.has (datN es) (.int .i64 a)=false→tab a= .slice none 0 0
section
variable {P:Program} {k e t:TypeId} {W:World} {g n:Nat} {tab:Int→Value} {hole:Option Int}
theorem rd_rgN (hk:P.underlying k=some (.int .i64)) {x:MapEntry} {a:Int} (h1:x.key= .int .i64 a) (ha:Wf a):rd P k noRead x=some (rgN x):=by
 unfold rd rgN noRead
 rw[h1,Maps.keyOf_int_mk hk ha]
 rfl
theorem map_rgN (hk:P.underlying k=some (.int .i64)) {es:Array MapEntry} (h:∀x∈es.toList,∃a,x.key= .int .i64 a∧Wf a):es.toList.map (rg P k noRead)=es.toList.map rgN:=by
 refine List.map_congr_left fun x hx=>?_
 obtain⟨a,h1,ha⟩:=h x hx
 exact rg_of (rd_rgN hk h1 ha)
theorem fitN (hk:P.underlying k=some (.int .i64)) {es:Array MapEntry} {clock:Nat} (hs:es.size≤maxLen) (hst:MapKept.Stamped es clock) (h:∀x∈es.toList,∃a,x.key= .int .i64 a∧Wf a):Fit P k noRead es clock:=
 ⟨hs,hst,fun x hx=>by obtain⟨a,h1,ha⟩:=h x hx;exact⟨_,rd_rgN hk h1 ha⟩⟩
theorem ownsR_new (W:World) (tab:Int→Value) (h:∀a,tab a= .slice none 0 0):OwnsR (W.alloc (.map #[] 0)) W.heap.size 0 tab none:=by
 refine⟨#[],0,?_,Nat.le_refl _,by simp,⟨by simp,by simp,by simp⟩,by simp,fun a _ _ _=>h a⟩
 show(W.heap.push _)[W.heap.size]? =_
 simp
theorem OwnsR.lookup (hk:P.underlying k=some (.int .i64)) (ht:P.underlying t=some (.map k e)) (hz:(zeroValue e).run P W= .ok (.slice none 0 0) W) (h:OwnsR W g n tab none) {a:Int} (ha:Wf a) :
    (Instr.lookup t (.map (some g)) (.int .i64 a) false).run P W= .ok (tab a) W:=by
 obtain⟨es,clock,h1,h2,h3,h4,h5,h6⟩:=h
 have h5':∀x∈es.toList,∃a,x.key= .int .i64 a∧Wf a:=fun x hx=>by obtain⟨a,q1,q2,_⟩:=h5 x hx;exact⟨a,q1,q2⟩
 rcases Maps.fit_look false (Maps.int_keyed hk) ht hz h1 (fitN hk h3 h4 h5') (Maps.keyOf_int_mk hk ha)with⟨hrun,_,hat⟩ | ⟨e0,y,hm,hkey,hrun,_⟩
 · rw[hrun]
   rw[map_rgN hk h5']at hat
   rw[h6 a ha (by simp) (Maps.has_false_of_atKey hat)]
   rfl
 · rw[hrun]
   obtain⟨a',q1,q2,q3⟩:=h5 e0 hm
   rw[hkey]at q1
   cases q1
   rw[←q3 (by simp)]
   rfl
theorem OwnsR.update (hk:P.underlying k=some (.int .i64)) (ht:P.underlying t=some (.map k e)) (h:OwnsR W g n tab hole) {a:Int} (ha:Wf a) (hh:∀b,hole=some b→b=a) (hn:n < maxLen) (v:Value) :
    ∃W',(Instr.mapUpdate t (.map (some g)) (.int .i64 a) v).run P W= .ok () W'∧OwnsR W' g (n+1) (fun b=>if b=a then v else tab b) none∧W.grownBy W' (some g):=by
 obtain⟨es,clock,h1,h2,h3,h4,h5,h6⟩:=h
 have h5':∀x∈es.toList,∃a,x.key= .int .i64 a∧Wf a:=fun x hx=>by obtain⟨a,q1,q2,_⟩:=h5 x hx;exact⟨a,q1,q2⟩
 have F:=fitN hk h3 h4 h5'
 have hown:W.ownsMap P k noRead g n (datN es):=⟨es,clock,h1,F,h2,by unfold datN;rw[map_rgN hk h5']⟩
 obtain⟨W',hr,hm,hg⟩:=hown.update (Maps.int_keyed hk) ht hn (Maps.keyOf_int_mk hk ha) (val:=v) (d:= .nil) (ps:= []) rfl
 obtain⟨es2,clock2,q1,hwho⟩:=stored_who (Maps.int_keyed hk) ht h1 F (Nat.lt_of_le_of_lt h2 hn) (Maps.keyOf_int_mk hk ha) hr
 obtain⟨es',clock',r1,r2,r3,r4⟩:=hm
 rw[q1]at r1
 cases r1
 have hent:∀x∈es2.toList,∃b,x.key= .int .i64 b∧Wf b∧((none:Option Int)≠some b→x.val=if b=a then v else tab b):=by
  intro x hx
  rcases hwho x hx with⟨g1,g2⟩ | ⟨g1,g2⟩
  · obtain⟨b,e1,e2,e3⟩:=h5 x g1
    have hba:b≠a:=fun hc=>g2 (by rw[e1,hc])
    refine⟨b,e1,e2,fun _=>?_⟩
    rw[if_neg hba]
    exact e3 (fun hc=>hba (hh b hc))
  · exact⟨a,g1,ha,fun _=>by rw[if_pos rfl];exact g2⟩
 have hent':∀x∈es2.toList,∃a,x.key= .int .i64 a∧Wf a:=fun x hx=>by obtain⟨b,e1,e2,_⟩:=hent x hx;exact⟨b,e1,e2⟩
 have hdat:(datN es).put (.int .i64 a) .nil=datN es2:=by rw[r4,map_rgN hk hent'];rfl
 refine⟨W',hr,⟨es2,clock2,q1,r3,r2.size,r2.stamped,hent,fun b hb _ hhas=>?_⟩,hg⟩
 by_cases hba:b=a
 · subst hba
   rw[←hdat,Maps.has_put_same (D:=datN es) ⟨_,rfl⟩ ((Maps.int_keyed hk).key (Maps.keyOf_int_mk hk ha))]at hhas
   cases hhas
 · show(if b=a then v else tab b)=_
   rw[if_neg hba]
   rw[←hdat,Maps.has_put_other (fun e=>hba (by cases e;rfl))]at hhas
   exact h6 b hb (fun hc=>hba (hh b hc)) hhas
end
end Go.Proofs.YtckjdlmfibjpaaaGreat.Sx
set_option linter.unusedVariables false
namespace Go.Proofs.YtckjdlmfibjpaaaGreat.Sx
open Go.RowKit
mutual
def RV (W:World) (U:Nat→Prop):LK→PV→Value→Prop
 | .int k,p,v=>∃n,p= .int k n∧v= .int k n
 | .bool,p,v=>∃b,p= .bool b∧v= .bool b
 | .str,p,v=>∃s,p= .str s∧v= .string s
 | .any,_,v=>v.oneCell'=true
 | .row ks,p,v=>∃ (xs:List (List PV)) (a:Option Addr) (cap:Nat),p= .row xs∧v= .slice a xs.length cap∧xs.length≤cap∧
     (xs≠ []→∃ad:Addr,a=some ad∧ad.spot=none∧¬U ad.block∧ad.block < W.heap.size∧
      ∀i x,xs[i]? =some x→∃vs:List Value,RVs W U ks x vs∧∀j u,vs[j]? =some u→W.cell? ⟨ad.block,ad.off+(i*ks.length+j),none⟩=some u)
def RVs (W:World) (U:Nat→Prop):List LK→List PV→List Value→Prop
 | [],ps,vs=>ps=[]∧vs=[]
 | k::ks,ps,vs=>∃p ps' v vs',ps=p::ps'∧vs=v::vs'∧RV W U k p v∧RVs W U ks ps' vs'
end
def RowAt (W:World) (U:Nat→Prop) (ks:List LK) (xs:List (List PV)) (ad:Addr):Prop:=
 ad.spot=none∧¬U ad.block∧ad.block < W.heap.size∧
  ∀i x,xs[i]? =some x→∃vs:List Value,RVs W U ks x vs∧∀j u,vs[j]? =some u→W.cell? ⟨ad.block,ad.off+(i*ks.length+j),none⟩=some u
mutual
theorem RV.monoC {W W':World} {U U':Nat→Prop} (hs:W.heap.size≤W'.heap.size) (hb:∀b,b < W.heap.size→¬U b→(∀off u,W.cell? ⟨b,off,none⟩=some u→W'.cell? ⟨b,off,none⟩=some u)∧¬U' b) :
    ∀ (k:LK) (p:PV) (v:Value),RV W U k p v→RV W' U' k p v
 | .int k,p,v,h | .bool,p,v,h | .str,p,v,h | .any,p,v,h=>by simp only[RV]at *;exact h
 | .row ks,p,v,h=>by
  simp only[RV]at *
  obtain⟨xs,a,cap,hp,hv,hc,hx⟩:=h
  refine⟨xs,a,cap,hp,hv,hc,fun hne=>?_⟩
  obtain⟨ad,ha,hsp,hu,hlt,hi⟩:=hx hne
  obtain⟨hblk,hu'⟩:=hb _ hlt hu
  refine⟨ad,ha,hsp,hu',Nat.lt_of_lt_of_le hlt hs,fun i x hix=>?_⟩
  obtain⟨vs,hvs,hcell⟩:=hi i x hix
  refine⟨vs,RVs.monoC hs hb ks x vs hvs,fun j u hj=>?_⟩
  exact hblk _ _ (hcell j u hj)
theorem RVs.monoC {W W':World} {U U':Nat→Prop} (hs:W.heap.size≤W'.heap.size) (hb:∀b,b < W.heap.size→¬U b→(∀off u,W.cell? ⟨b,off,none⟩=some u→W'.cell? ⟨b,off,none⟩=some u)∧¬U' b) :
    ∀ (ks:List LK) (ps:List PV) (vs:List Value),RVs W U ks ps vs→RVs W' U' ks ps vs
 | [],ps,vs,h=>by simp only[RVs]at *;exact h
 | k::ks,ps,vs,h=>by
  simp only[RVs]at *
  obtain⟨p,ps',v,vs',h1,h2,h3,h4⟩:=h
  exact⟨p,ps',v,vs',h1,h2,RV.monoC hs hb k p v h3,RVs.monoC hs hb ks ps' vs' h4⟩
end
theorem RowAt.monoC {W W':World} {U U':Nat→Prop} {ks:List LK} {xs:List (List PV)} {ad:Addr} (hs:W.heap.size≤W'.heap.size) (hb:∀b,b < W.heap.size→¬U b→(∀off u,W.cell? ⟨b,off,none⟩=some u→W'.cell? ⟨b,off,none⟩=some u)∧¬U' b)
    (h:RowAt W U ks xs ad):RowAt W' U' ks xs ad:=by
 obtain⟨hsp,hu,hlt,hi⟩:=h
 obtain⟨hblk,hu'⟩:=hb _ hlt hu
 refine⟨hsp,hu',Nat.lt_of_lt_of_le hlt hs,fun i x hix=>?_⟩
 obtain⟨vs,hvs,hcell⟩:=hi i x hix
 refine⟨vs,RVs.monoC hs hb ks x vs hvs,fun j u hj=>?_⟩
 exact hblk _ _ (hcell j u hj)
theorem cellsKept {W W':World} {U U':Nat→Prop} (hb:∀b,b < W.heap.size→¬U b→W'.heap[b]? =W.heap[b]? ∧¬U' b):∀b,b < W.heap.size→¬U b→(∀off u,W.cell? ⟨b,off,none⟩=some u→W'.cell? ⟨b,off,none⟩=some u)∧¬U' b:=
 fun b h1 h2=>⟨fun off u hu=>by rw[World.cell?_of_block (w:=W) (by exact(hb b h1 h2).1)];exact hu,(hb b h1 h2).2⟩
theorem RV.mono {W W':World} {U U':Nat→Prop} (hs:W.heap.size≤W'.heap.size) (hb:∀b,b < W.heap.size→¬U b→W'.heap[b]? =W.heap[b]? ∧¬U' b) :
    ∀ (k:LK) (p:PV) (v:Value),RV W U k p v→RV W' U' k p v:=RV.monoC hs (cellsKept hb)
theorem RVs.mono {W W':World} {U U':Nat→Prop} (hs:W.heap.size≤W'.heap.size) (hb:∀b,b < W.heap.size→¬U b→W'.heap[b]? =W.heap[b]? ∧¬U' b) :
    ∀ (ks:List LK) (ps:List PV) (vs:List Value),RVs W U ks ps vs→RVs W' U' ks ps vs:=RVs.monoC hs (cellsKept hb)
theorem RowAt.mono {W W':World} {U U':Nat→Prop} {ks:List LK} {xs:List (List PV)} {ad:Addr} (hs:W.heap.size≤W'.heap.size) (hb:∀b,b < W.heap.size→¬U b→W'.heap[b]? =W.heap[b]? ∧¬U' b)
    (h:RowAt W U ks xs ad):RowAt W' U' ks xs ad:=h.monoC hs (cellsKept hb)
theorem RVs.length {W:World} {U:Nat→Prop}:∀ {ks:List LK} {ps:List PV} {vs:List Value},RVs W U ks ps vs→ps.length=ks.length∧vs.length=ks.length
 | [],ps,vs,h=>by simp only[RVs]at h;simp[h.1,h.2]
 | k::ks,ps,vs,h=>by
  simp only[RVs]at h
  obtain⟨p,ps',v,vs',rfl,rfl,_,h4⟩:=h
  have:=RVs.length h4
  simp[this.1,this.2]
mutual
theorem RV.ok {W:World} {U:Nat→Prop}:∀ (k:LK) (p:PV) (v:Value),RV W U k p v→k.ok p
 | .int k,p,v,h=>by simp only[RV]at h;obtain⟨n,rfl,_⟩:=h;simp[LK.ok]
 | .bool,p,v,h=>by simp only[RV]at h;obtain⟨n,rfl,_⟩:=h;simp[LK.ok]
 | .str,p,v,h=>by simp only[RV]at h;obtain⟨n,rfl,_⟩:=h;simp[LK.ok]
 | .any,p,v,h=>by simp[LK.ok]
 | .row ks,p,v,h=>by
  simp only[RV]at h
  obtain⟨xs,a,cap,rfl,hv,hc,hx⟩:=h
  simp only[LK.ok]
  intro x hxm
  obtain⟨ad,ha,hsp,hu,hlt,hi⟩:=hx (by intro h0;rw[h0]at hxm;cases hxm)
  obtain⟨i,hi'⟩:=List.getElem?_of_mem hxm
  obtain⟨vs,hvs,_⟩:=hi i x hi'
  exact RVs.ok ks x vs hvs
theorem RVs.ok {W:World} {U:Nat→Prop}:∀ (ks:List LK) (ps:List PV) (vs:List Value),RVs W U ks ps vs→LK.oks ks ps
 | [],ps,vs,h=>by simp only[RVs]at h;rw[h.1];simp[LK.oks]
 | k::ks,ps,vs,h=>by
  simp only[RVs]at h
  obtain⟨p,ps',v,vs',rfl,rfl,h3,h4⟩:=h
  simp only[LK.oks]
  exact⟨RV.ok k p v h3,RVs.ok ks ps' vs' h4⟩
end
structure Bk where
 g:Option Nat
 s:Nat
 len:Nat
 el:TypeId
 tab:Int→Value:=fun _=> .slice none 0 0
abbrev Bk.of (g:Option Nat) (s len:Nat) (el:TypeId):Bk:={ g:=g,s:=s,len:=len,el:=el }
def blkOf:Value→Option Nat
 | .slice (some ad) _ _=>some ad.block
 | _=>none
def Bk.has (k:Bk) (b:Nat):Prop:=k.g=some b∨∃a,blkOf (k.tab a)=some b
def Bk.flat (k:Bk):Prop:=∀a,blkOf (k.tab a)=none
theorem Bk.flat.has {k:Bk} (h:k.flat) {b:Nat}:k.has b↔k.g=some b:=
 ⟨fun hh=>hh.resolve_right (fun⟨a,ha⟩=>by rw[h a]at ha;cases ha),Or.inl⟩
@[simp] theorem Bk.of_has {g:Option Nat} {s len:Nat} {el:TypeId} {b:Nat}:(Bk.of g s len el).has b↔g=some b:=
 Bk.flat.has (fun _=>rfl)
abbrev Names:=Nat→Option Bk
structure Env where
 old:Nat→Prop
 lo:Nat
 ys:Nat→Option Nat
 pin:Nat→Option Loop
instance:CoeFun Env (fun _=>Nat→Prop):=⟨Env.old⟩
def Owned (X:Env) (φ:Names) (b:Nat):Prop:=X b∨∃l k,φ l=some k∧k.has b
def OwnAt (W:World) (k:Bk) (v:Value):Prop:=
 match k.g with
 | none=>k.len=0∧v= .slice none 0 0
 | some g=>∃cap c,v= .slice (some ⟨g,0,none⟩) k.len cap∧W.heap[g]? =some (.cells c k.el (0,0))∧k.len≤cap∧cap≤maxLen∧c.size=cap*k.s
mutual
def SVR (W:World) (X:Env) (φ:Names) (ρ:List PV) (nx:Nat):SV→Value→Prop
 | .undef,_=>True
 | .skip,v=>v=undef
 | .ex k e,v=>e.fits ρ.length=true∧RV W (Owned X φ) k (e.den ρ) v
 | .gd c s,v=>c.fits ρ.length=true∧s.fits ρ.length nx=true∧((c.den ρ).b=true→SVR W X φ ρ nx s v)∧((c.den ρ).b=false→v=undef)
 | .nilS,v=>v= .slice none 0 0
 | .nilP,v=>v= .pointer none
 | .nilF,v=>v= .nilFunc
 | .bfn f fst,v=>∃cs,v= .func (.func f) cs #[]∧SVRs W X φ ρ nx fst cs.toList
 | .alt c x y,v=>c.fits ρ.length=true∧x.fits ρ.length nx=true∧y.fits ρ.length nx=true∧((c.den ρ).b=true→SVR W X φ ρ nx x v)∧((c.den ρ).b=false→SVR W X φ ρ nx y v)
 | .agg l,v=>∃cs,v= .agg cs∧SVRs W X φ ρ nx l cs.toList
 | .tup l,v=>∃cs,v= .tuple cs∧SVRs W X φ ρ nx l cs.toList
 | .ptr l i o,v=>i.fits ρ.length=true∧l < nx∧(∃ad,v= .pointer ad)∧∀k,φ l=some k→∃g,k.g=some g∧0≤(i.den ρ).i∧(i.den ρ).i.toNat < k.len∧v= .pointer (some ⟨g,(i.den ρ).i.toNat*k.s+o,none⟩)
 | .rptr ks e i o,v=>e.fits ρ.length=true∧i.fits ρ.length=true∧∃xs ad,e.den ρ= .row xs∧RowAt W (Owned X φ) ks xs ad∧0≤(i.den ρ).i∧(i.den ρ).i.toNat < xs.length∧
     v= .pointer (some ⟨ad.block,ad.off+(i.den ρ).i.toNat*ks.length+o,none⟩)
 | .own l none,v=>l < nx∧(∃ad n c,v= .slice ad n c)∧∀k,φ l=some k→OwnAt W k v
 | .own l (some (lo,n)),v=>lo.fits ρ.length=true∧n.fits ρ.length=true∧l < nx∧(∃ad n c,v= .slice ad n c)∧∀k,φ l=some k→0≤(lo.den ρ).i∧0≤(n.den ρ).i∧(lo.den ρ).i.toNat+(n.den ρ).i.toNat≤k.len∧
     (∃m,n.den ρ= .int .i64 m)∧∃ad cap,v= .slice ad (n.den ρ).i.toNat cap∧(n.den ρ).i.toNat≤cap∧(0 < (n.den ρ).i.toNat→∃g,k.g=some g∧ad=some ⟨g,(lo.den ρ).i.toNat*k.s,none⟩)
 | .mp l,v=>l < nx∧(∃b,v= .map b)∧∀k,φ l=some k→∃g,k.g=some g∧v= .map (some g)
 | .mrow l e,v=>l < nx∧e.fits ρ.length=true∧(∃ad n c,v= .slice ad n c)∧∀k,φ l=some k→v=k.tab (e.den ρ).i
 | .mptr l e i o,v=>l < nx∧e.fits ρ.length=true∧i.fits ρ.length=true∧(∃ad,v= .pointer ad)∧∀k,φ l=some k→∃b n c,k.tab (e.den ρ).i= .slice (some ⟨b,0,none⟩) n c∧0≤(i.den ρ).i∧(i.den ρ).i.toNat < n∧
     v= .pointer (some ⟨b,(i.den ρ).i.toNat*k.s+o,none⟩)
 | .fbox cs o,v=>∃g vs,v= .pointer (some ⟨g,o,none⟩)∧¬Owned X φ g∧g < W.heap.size∧SVRs W X φ ρ nx cs vs∧∀ (j:Nat) u,vs[j]? =some u→W.cell? ⟨g,j,none⟩=some u
 | .yld m,v=>∃l,X.ys m=some l∧v= .func (.yield l) #[] #[]
 | .fn f caps,v=>∃cs,v= .func (.func f) #[] cs∧SVRs W X φ ρ nx caps cs.toList
def SVRs (W:World) (X:Env) (φ:Names) (ρ:List PV) (nx:Nat):List SV→List Value→Prop
 | [],vs=>vs=[]
 | s::r,vs=>∃v vs',vs=v::vs'∧SVR W X φ ρ nx s v∧SVRs W X φ ρ nx r vs'
end
structure Evo (X:Env) (φ φ':Names) (nx:Nat) (W W':World):Prop where
 size:W.heap.size≤W'.heap.size
 blk:∀b,b < W.heap.size→¬Owned X φ b→W'.heap[b]? =W.heap[b]?
 shape:∀ (l:Nat) (k:Bk) (g:Nat) (c:Array Value),l < nx→φ' l=some k→k.g=some g→W.heap[g]? =some (.cells c k.el (0,0))→∃c':Array Value,W'.heap[g]? =some (.cells c' k.el (0,0))∧c'.size=c.size
 names:∀l,l < nx→φ' l=φ l∨φ' l=none
 own:∀b,b < W.heap.size→Owned X φ' b→Owned X φ b
theorem Evo.refl (X:Env) (φ:Names) (nx:Nat) (W:World):Evo X φ φ nx W W:=⟨Nat.le_refl _,fun _ _ _=>rfl,fun _ _ _ c _ _ _ h=>⟨c,h,rfl⟩,fun _ _=> .inl rfl,fun _ _ h=>h⟩
theorem Evo.rv {X:Env} {φ φ':Names} {nx:Nat} {W W':World} (h:Evo X φ φ' nx W W'):∀b,b < W.heap.size→¬Owned X φ b→W'.heap[b]? =W.heap[b]? ∧¬Owned X φ' b:=
 fun b hb hn=>⟨h.blk b hb hn,fun ho=>hn (h.own b hb ho)⟩
structure EvoW (X:Env) (φ φ':Names) (nx:Nat) (W W':World):Prop where
 size:W.heap.size≤W'.heap.size
 blk:∀b,b < W.heap.size→¬Owned X φ b→∀off u,W.cell? ⟨b,off,none⟩=some u→W'.cell? ⟨b,off,none⟩=some u
 shape:∀ (l:Nat) (k:Bk) (g:Nat) (c:Array Value),l < nx→φ' l=some k→k.g=some g→W.heap[g]? =some (.cells c k.el (0,0))→∃c':Array Value,W'.heap[g]? =some (.cells c' k.el (0,0))∧c'.size=c.size
 names:∀l,l < nx→φ' l=φ l∨φ' l=none
 own:∀b,b < W.heap.size→Owned X φ' b→Owned X φ b
theorem Evo.w {X:Env} {φ φ':Names} {nx:Nat} {W W':World} (h:Evo X φ φ' nx W W'):EvoW X φ φ' nx W W':=
 ⟨h.size,fun b h1 h2 off u hu=>by rw[World.cell?_of_block (w:=W) (by exact h.blk b h1 h2)];exact hu,h.shape,h.names,h.own⟩
theorem EvoW.rv {X:Env} {φ φ':Names} {nx:Nat} {W W':World} (h:EvoW X φ φ' nx W W'):∀b,b < W.heap.size→¬Owned X φ b→(∀off u,W.cell? ⟨b,off,none⟩=some u→W'.cell? ⟨b,off,none⟩=some u)∧¬Owned X φ' b:=
 fun b hb hn=>⟨h.blk b hb hn,fun ho=>hn (h.own b hb ho)⟩
theorem OwnAt.evo {X:Env} {φ φ':Names} {nx:Nat} {W W':World} (h:EvoW X φ φ' nx W W') {l:Nat} {k:Bk} (hl:l < nx) (hk:φ' l=some k) {v:Value} (ho:OwnAt W k v):OwnAt W' k v:=by
 unfold OwnAt at *
 split
 · rename_i hg
   rw[hg]at ho
   exact ho
 · rename_i g hg
   rw[hg]at ho
   obtain⟨cap,c,hv,hh,hc,hm,hs⟩:=ho
   obtain⟨c',hh',hs'⟩:=h.shape l k g c hl hk hg hh
   exact⟨cap,c',hv,hh',hc,hm,by omega⟩
mutual
theorem SV.fits_mono {n m x y:Nat} (h:n≤m) (hx:x≤y):∀ (s:SV),s.fits n x=true→s.fits m y=true
 | .undef,_ | .skip,_ | .nilS,_ | .nilP,_ | .nilF,_ | .yld _,_=>by simp[SV.fits]
 | .alt c a b,hs=>by simp only[SV.fits,Bool.and_eq_true]at *;exact⟨⟨Ex.fits_mono h c hs.1.1,SV.fits_mono h hx a hs.1.2⟩,SV.fits_mono h hx b hs.2⟩
 | .ex k e,hs=>by simp only[SV.fits]at *;exact Ex.fits_mono h e hs
 | .gd c s,hs=>by simp only[SV.fits,Bool.and_eq_true]at *;exact⟨Ex.fits_mono h c hs.1,SV.fits_mono h hx s hs.2⟩
 | .agg l,hs | .tup l,hs | .fn f l,hs | .bfn f l,hs | .fbox l _,hs=>by simp only[SV.fits]at *;exact fitsAll_mono h hx l hs
 | .ptr l i o,hs=>by simp only[SV.fits,Bool.and_eq_true,decide_eq_true_eq]at *;exact⟨by omega,Ex.fits_mono h i hs.2⟩
 | .mp l,hs=>by simp only[SV.fits,decide_eq_true_eq]at *;omega
 | .mrow l e,hs=>by simp only[SV.fits,Bool.and_eq_true,decide_eq_true_eq]at *;exact⟨by omega,Ex.fits_mono h e hs.2⟩
 | .mptr l e i o,hs=>by simp only[SV.fits,Bool.and_eq_true,decide_eq_true_eq]at *;exact⟨⟨by omega,Ex.fits_mono h e hs.1.2⟩,Ex.fits_mono h i hs.2⟩
 | .rptr ks e i o,hs=>by simp only[SV.fits,Bool.and_eq_true]at *;exact⟨Ex.fits_mono h e hs.1,Ex.fits_mono h i hs.2⟩
 | .own l none,hs=>by simp only[SV.fits,decide_eq_true_eq]at *;omega
 | .own l (some (lo,k)),hs=>by simp only[SV.fits,Bool.and_eq_true,decide_eq_true_eq]at *;exact⟨⟨by omega,Ex.fits_mono h lo hs.1.2⟩,Ex.fits_mono h k hs.2⟩
theorem fitsAll_mono {n m x y:Nat} (h:n≤m) (hx:x≤y):∀ (l:List SV),fitsAll n x l=true→fitsAll m y l=true
 | [],_=>rfl
 | s::r,hs=>by simp only[fitsAll,Bool.and_eq_true]at *;exact⟨SV.fits_mono h hx s hs.1,fitsAll_mono h hx r hs.2⟩
end
mutual
theorem SVR.fits {W:World} {X:Env} {φ:Names} {ρ:List PV} {nx:Nat}:∀ (s:SV) (v:Value),SVR W X φ ρ nx s v→s.fits ρ.length nx=true
 | .undef,_,_ | .skip,_,_ | .nilS,_,_ | .nilP,_,_ | .nilF,_,_ | .yld _,_,_=>by simp[SV.fits]
 | .alt c x y,v,h=>by simp only[SVR]at h;simp only[SV.fits,Bool.and_eq_true];exact⟨⟨h.1,h.2.1⟩,h.2.2.1⟩
 | .ex k e,v,h=>by simp only[SVR]at h;simp only[SV.fits];exact h.1
 | .gd c s,v,h=>by simp only[SVR]at h;simp only[SV.fits,Bool.and_eq_true];exact⟨h.1,h.2.1⟩
 | .agg l,v,h | .tup l,v,h | .fn _ l,v,h | .bfn _ l,v,h=>by simp only[SVR]at h;obtain⟨cs,_,hl⟩:=h;simp only[SV.fits];exact SVRs.fits l _ hl
 | .ptr l i o,v,h=>by simp only[SVR]at h;simp only[SV.fits,Bool.and_eq_true,decide_eq_true_eq];exact⟨h.2.1,h.1⟩
 | .mp l,v,h=>by simp only[SVR]at h;simp only[SV.fits,decide_eq_true_eq];exact h.1
 | .mrow l e,v,h=>by simp only[SVR]at h;simp only[SV.fits,Bool.and_eq_true,decide_eq_true_eq];exact⟨h.1,h.2.1⟩
 | .mptr l e i o,v,h=>by simp only[SVR]at h;simp only[SV.fits,Bool.and_eq_true,decide_eq_true_eq];exact⟨⟨h.1,h.2.1⟩,h.2.2.1⟩
 | .fbox cs o,v,h=>by simp only[SVR]at h;simp only[SV.fits];obtain⟨_,vs,_,_,_,hl,_⟩:=h;exact SVRs.fits cs vs hl
 | .rptr ks e i o,v,h=>by simp only[SVR]at h;simp only[SV.fits,Bool.and_eq_true];exact⟨h.1,h.2.1⟩
 | .own l none,v,h=>by simp only[SVR]at h;simp only[SV.fits,decide_eq_true_eq];exact h.1
 | .own l (some (lo,k)),v,h=>by simp only[SVR]at h;simp only[SV.fits,Bool.and_eq_true,decide_eq_true_eq];exact⟨⟨h.2.2.1,h.1⟩,h.2.1⟩
theorem SVRs.fits {W:World} {X:Env} {φ:Names} {ρ:List PV} {nx:Nat}:∀ (l:List SV) (vs:List Value),SVRs W X φ ρ nx l vs→fitsAll ρ.length nx l=true
 | [],_,_=>rfl
 | s::r,vs,h=>by simp only[SVRs]at h;obtain⟨v,vs',_,h1,h2⟩:=h;simp only[fitsAll,Bool.and_eq_true];exact⟨SVR.fits s v h1,SVRs.fits r vs' h2⟩
end
mutual
theorem SVR.evoW {X:Env} {φ φ':Names} {nx nx':Nat} {W W':World} {ρ ρ':List PV} (h:EvoW X φ φ' nx W W') (hr:ρ <+:ρ') (hn:nx≤nx') :
    ∀ (s:SV) (v:Value),SVR W X φ ρ nx s v→SVR W' X φ' ρ' nx' s v
 | .undef,v,_=>by simp[SVR]
 | .skip,v,hv | .nilS,v,hv | .nilP,v,hv | .nilF,v,hv | .yld _,v,hv=>by simp only[SVR]at *;exact hv
 | .bfn f fst,v,hv=>by
  simp only[SVR]at *
  obtain⟨cs,rfl,hl⟩:=hv
  exact⟨cs,rfl,SVRs.evoW h hr hn fst _ hl⟩
 | .alt c x y,v,hv=>by
  simp only[SVR]at *
  rw[Ex.den_ext hr c hv.1]
  exact⟨Ex.fits_mono hr.length_le c hv.1,SV.fits_mono hr.length_le hn x hv.2.1,SV.fits_mono hr.length_le hn y hv.2.2.1,fun hc=>SVR.evoW h hr hn x v (hv.2.2.2.1 hc),fun hc=>SVR.evoW h hr hn y v (hv.2.2.2.2 hc)⟩
 | .ex k e,v,hv=>by
  simp only[SVR]at *
  exact⟨Ex.fits_mono hr.length_le e hv.1,by rw[Ex.den_ext hr e hv.1];exact RV.monoC h.size h.rv k _ v hv.2⟩
 | .gd c s,v,hv=>by
  simp only[SVR]at *
  rw[Ex.den_ext hr c hv.1]
  exact⟨Ex.fits_mono hr.length_le c hv.1,SV.fits_mono hr.length_le hn s hv.2.1,fun hc=>SVR.evoW h hr hn s v (hv.2.2.1 hc),hv.2.2.2⟩
 | .agg l,v,hv=>by
  simp only[SVR]at *
  obtain⟨cs,rfl,hl⟩:=hv
  exact⟨cs,rfl,SVRs.evoW h hr hn l _ hl⟩
 | .tup l,v,hv=>by
  simp only[SVR]at *
  obtain⟨cs,rfl,hl⟩:=hv
  exact⟨cs,rfl,SVRs.evoW h hr hn l _ hl⟩
 | .ptr l i o,v,hv=>by
  simp only[SVR]at *
  obtain⟨hf,hl,hp,hk⟩:=hv
  rw[Ex.den_ext hr i hf]
  refine⟨Ex.fits_mono hr.length_le i hf,by omega,hp,fun k hk'=>?_⟩
  rcases h.names l hl with hq | hq
  · exact hk k (hq▸hk')
  · rw[hq]at hk';cases hk'
 | .mrow l e,v,hv=>by
  simp only[SVR]at *
  obtain⟨hl,he,hp,hk⟩:=hv
  rw[Ex.den_ext hr e he]
  refine⟨by omega,Ex.fits_mono hr.length_le e he,hp,fun k hk'=>?_⟩
  rcases h.names l hl with hq | hq
  · exact hk k (hq▸hk')
  · rw[hq]at hk';cases hk'
 | .mptr l e i o,v,hv=>by
  simp only[SVR]at *
  obtain⟨hl,he,hi,hp,hk⟩:=hv
  rw[Ex.den_ext hr e he,Ex.den_ext hr i hi]
  refine⟨by omega,Ex.fits_mono hr.length_le e he,Ex.fits_mono hr.length_le i hi,hp,fun k hk'=>?_⟩
  rcases h.names l hl with hq | hq
  · exact hk k (hq▸hk')
  · rw[hq]at hk';cases hk'
 | .mp l,v,hv=>by
  simp only[SVR]at *
  obtain⟨hl,hp,hk⟩:=hv
  refine⟨by omega,hp,fun k hk'=>?_⟩
  rcases h.names l hl with hq | hq
  · exact hk k (hq▸hk')
  · rw[hq]at hk';cases hk'
 | .rptr ks e i o,v,hv=>by
  simp only[SVR]at *
  obtain⟨he,hi,xs,ad,h1,h2,h3,h4,h5⟩:=hv
  rw[Ex.den_ext hr i hi,Ex.den_ext hr e he]
  exact⟨Ex.fits_mono hr.length_le e he,Ex.fits_mono hr.length_le i hi,xs,ad,h1,h2.monoC h.size h.rv,h3,h4,h5⟩
 | .own l none,v,hv=>by
  simp only[SVR]at *
  obtain⟨hl,hp,hk⟩:=hv
  refine⟨by omega,hp,fun k hk'=>?_⟩
  rcases h.names l hl with hq | hq
  · exact(hk k (hq▸hk')).evo h hl hk'
  · rw[hq]at hk';cases hk'
 | .own l (some (lo,n)),v,hv=>by
  simp only[SVR]at *
  obtain⟨hlo,hnn,hl,hp,hk⟩:=hv
  rw[Ex.den_ext hr lo hlo,Ex.den_ext hr n hnn]
  refine⟨Ex.fits_mono hr.length_le lo hlo,Ex.fits_mono hr.length_le n hnn,by omega,hp,fun k hk'=>?_⟩
  rcases h.names l hl with hq | hq
  · exact hk k (hq▸hk')
  · rw[hq]at hk';cases hk'
 | .fbox cs o,v,hv=>by
  simp only[SVR]at *
  obtain⟨g,vs,rfl,hg,hlt,hl,hc⟩:=hv
  exact⟨g,vs,rfl,(h.rv g hlt hg).2,Nat.lt_of_lt_of_le hlt h.size,SVRs.evoW h hr hn cs _ hl,fun j u hj=>h.blk g hlt hg j u (hc j u hj)⟩
 | .fn f caps,v,hv=>by
  simp only[SVR]at *
  obtain⟨cs,rfl,hl⟩:=hv
  exact⟨cs,rfl,SVRs.evoW h hr hn caps _ hl⟩
theorem SVRs.evoW {X:Env} {φ φ':Names} {nx nx':Nat} {W W':World} {ρ ρ':List PV} (h:EvoW X φ φ' nx W W') (hr:ρ <+:ρ') (hn:nx≤nx') :
    ∀ (l:List SV) (vs:List Value),SVRs W X φ ρ nx l vs→SVRs W' X φ' ρ' nx' l vs
 | [],vs,hv=>by simp only[SVRs]at *;exact hv
 | s::r,vs,hv=>by
  simp only[SVRs]at *
  obtain⟨v,vs',rfl,h1,h2⟩:=hv
  exact⟨v,vs',rfl,SVR.evoW h hr hn s v h1,SVRs.evoW h hr hn r vs' h2⟩
end
theorem SVR.evo {X:Env} {φ φ':Names} {nx nx':Nat} {W W':World} {ρ ρ':List PV} (h:Evo X φ φ' nx W W') (hr:ρ <+:ρ') (hn:nx≤nx') :
    ∀ (s:SV) (v:Value),SVR W X φ ρ nx s v→SVR W' X φ' ρ' nx' s v:=SVR.evoW h.w hr hn
theorem SVRs.evo {X:Env} {φ φ':Names} {nx nx':Nat} {W W':World} {ρ ρ':List PV} (h:Evo X φ φ' nx W W') (hr:ρ <+:ρ') (hn:nx≤nx') :
    ∀ (l:List SV) (vs:List Value),SVRs W X φ ρ nx l vs→SVRs W' X φ' ρ' nx' l vs:=SVRs.evoW h.w hr hn
def RowIn (W:World) (U:Nat→Prop) (ks:List LK) (v:Value) (row:List (List PV)):Prop:=
 ∃kk:Bk,(∀b,kk.has b↔kk.g=some b)∧(∀b,blkOf v=some b↔kk.g=some b)∧OwnAt W kk v∧kk.s=ks.length∧row.length=kk.len∧
  match kk.g with
  | none=>row=[]
  | some g=>∃c,W.heap[g]? =some (.cells c kk.el (0,0))∧∀i x,row[i]? =some x→RVs W U ks x ((c.toList.drop (i*ks.length)).take ks.length)
def ObR (W:World) (X:Env) (φ:Names) (ρ:List PV) (nx:Nat) (k:Bk):Ob→Prop
 | .box cs=>k.len=1∧∃g c,k.g=some g∧W.heap[g]? =some (.cells c k.el (0,0))∧SVRs W X φ ρ nx cs c.toList
 | .rows ks e=>e.fits ρ.length=true∧k.s=ks.length∧∃xs,e.den ρ= .row xs∧xs.length=k.len∧
     match k.g with
     | none=>xs=[]
     | some g=>∃c,W.heap[g]? =some (.cells c k.el (0,0))∧∀i x,xs[i]? =some x→RVs W (Owned X φ) ks x ((c.toList.drop (i*ks.length)).take ks.length)
 | .imap e=>e.fits ρ.length=true∧∃g xs,k.g=some g∧e.den ρ= .row xs∧OwnsI W g xs
 | .rmap ks e h=>e.fits ρ.length=true∧(∀x,h=some x→x.fits ρ.length=true)∧k.s=ks.length∧∃g xs,k.g=some g∧e.den ρ= .row xs∧OwnsR W g xs.length k.tab (h.map fun x=>(x.den ρ).i)∧
     (∀a b c,blkOf (k.tab a)=some c→blkOf (k.tab b)=some c→a=b)∧(∀a,blkOf (k.tab a)≠some g)∧(∀x,h=some x→k.tab (x.den ρ).i= .slice none 0 0)∧
     ∀a,(h.map fun x=>(x.den ρ).i)≠some a→RowIn W (Owned X φ) ks (k.tab a) (mapGetR xs a)
theorem RowIn.mono {W W':World} {U U':Nat→Prop} {ks:List LK} {v:Value} {row:List (List PV)} (hs:W.heap.size≤W'.heap.size) (hb:∀b,b < W.heap.size→¬U b→(∀off u,W.cell? ⟨b,off,none⟩=some u→W'.cell? ⟨b,off,none⟩=some u)∧¬U' b)
    (hk:∀g,blkOf v=some g→W'.heap[g]? =W.heap[g]?) (h:RowIn W U ks v row):RowIn W' U' ks v row:=by
 obtain⟨kk,h0,h1,h2,h3,h4,h5⟩:=h
 refine⟨kk,h0,h1,?_,h3,h4,?_⟩
 · unfold OwnAt at *
   split at h2
   · exact h2
   · rename_i g hg
     obtain⟨cap,c,a1,a2,a3⟩:=h2
     exact⟨cap,c,a1,(hk g ((h1 g).2 hg)).trans a2,a3⟩
 · split at h5
   · exact h5
   · rename_i g hg
     obtain⟨c,a1,a2⟩:=h5
     exact⟨c,(hk g ((h1 g).2 hg)).trans a1,fun i x hx=>RVs.monoC hs hb ks x _ (a2 i x hx)⟩
theorem ObR.evoW {X:Env} {φ φ':Names} {nx nx':Nat} {W W':World} {ρ ρ':List PV} (h:EvoW X φ φ' nx W W') (hr:ρ <+:ρ') (hn:nx≤nx') {k:Bk} (hk:∀g,k.has g→W'.heap[g]? =W.heap[g]?) :
    ∀ (o:Ob),ObR W X φ ρ nx k o→ObR W' X φ' ρ' nx' k o
 | .box cs,ho=>by
  obtain⟨hl,g,c,hg,hh,hcs⟩:=ho
  exact⟨hl,g,c,hg,(hk g (.inl hg)).trans hh,SVRs.evoW h hr hn cs _ hcs⟩
 | .rows ks e,ho=>by
  obtain⟨hf,hs,xs,hx,hlen,hm⟩:=ho
  refine⟨Ex.fits_mono hr.length_le e hf,hs,xs,by rw[Ex.den_ext hr e hf];exact hx,hlen,?_⟩
  split
  · rename_i hg
    rw[hg]at hm
    exact hm
  · rename_i g hg
    rw[hg]at hm
    obtain⟨c,hh,hi⟩:=hm
    exact⟨c,(hk g (.inl hg)).trans hh,fun i x hix=>RVs.monoC h.size h.rv ks x _ (hi i x hix)⟩
 | .imap e,ho=>by
  obtain⟨hf,g,xs,hg,hx,es,clock,hh,hr'⟩:=ho
  exact⟨Ex.fits_mono hr.length_le e hf,g,xs,hg,by rw[Ex.den_ext hr e hf];exact hx,es,clock,(hk g (.inl hg)).trans hh,hr'⟩
 | .rmap ks e hh,ho=>by
  obtain⟨hf,hfh,hs,g,xs,hg,hx,⟨es,clock,h1,h2⟩,hd,hng,hnil,hrow⟩:=ho
  have hhole:(hh.map fun x=>(x.den ρ').i)=hh.map fun x=>(x.den ρ).i:=by
   cases hh with
   | none=>rfl
   | some x=>simp only[Option.map_some];rw[Ex.den_ext hr x (hfh x rfl)]
  refine⟨Ex.fits_mono hr.length_le e hf,fun x hx=>Ex.fits_mono hr.length_le x (hfh x hx),hs,g,xs,hg,by rw[Ex.den_ext hr e hf];exact hx,?_,hd,hng,fun x hx=>by rw[Ex.den_ext hr x (hfh x hx)];exact hnil x hx,fun a ha=>?_⟩
  · rw[hhole]
    exact⟨es,clock,(hk g (.inl hg)).trans h1,h2⟩
  · rw[hhole]at ha
    exact(hrow a ha).mono h.size h.rv (fun b hb=>hk b (.inr ⟨a,hb⟩))
theorem ObR.evo {X:Env} {φ φ':Names} {nx nx':Nat} {W W':World} {ρ ρ':List PV} (h:Evo X φ φ' nx W W') (hr:ρ <+:ρ') (hn:nx≤nx') {k:Bk} (hk:∀g,k.has g→W'.heap[g]? =W.heap[g]?) :
    ∀ (o:Ob),ObR W X φ ρ nx k o→ObR W' X φ' ρ' nx' k o:=ObR.evoW h.w hr hn hk
def FrR (W:World) (X:Env) (φ:Names) (ρ:List PV) (nx:Nat) (f:List (Nat×SV)) (a:Array Value):Prop:=∀t s,look f t=some s→SVR W X φ ρ nx s (a.getD t undef)
def Pins (W:World) (X:Env) (φ:Names):Prop:=∀b o,X.pin b=some o→W.heap[b]? =some (.loop o)∧¬Owned X φ b∧X.lo≤b
def DefR (W:World) (X:Env) (φ:Names) (ds:List Deferred):Prop:=
 ds.Nodup∧∀d∈ds,∃D,d= { target:= .collected D,args:=#[] } ∧W.heap[D]? =some (.deferred (some []))∧¬Owned X φ D∧X.lo≤D
def FrsR (W:World) (X:Env) (φ:Names) (ρ:List PV) (nx:Nat):List (List (Nat×SV))→List Act→Prop
 | [],as=>as=[]∧Pins W X φ
 | f::r,as=>∃a as',as=a::as'∧FrR W X φ ρ nx f a.tmps∧(DefR W X φ a.defers∧∀d∈a.defers,∀b∈as',d∉b.defers)∧FrsR W X φ ρ nx r as'
theorem Pins.evo {X:Env} {φ φ':Names} {nx:Nat} {W W':World} (h:Evo X φ φ' nx W W') (hp:Pins W X φ):Pins W' X φ':=fun b o ho=>by
 obtain⟨h1,h2,h3⟩:=hp b o ho
 have hb:=(Array.getElem?_eq_some_iff.1 h1).1
 exact⟨(h.blk b hb h2).trans h1,fun hh=>h2 (h.own b hb hh),h3⟩
theorem DefR.evo {X:Env} {φ φ':Names} {nx:Nat} {W W':World} (h:Evo X φ φ' nx W W') {ds:List Deferred} (hp:DefR W X φ ds):DefR W' X φ' ds:=⟨hp.1,fun d hd=>by
 obtain⟨D,rfl,h1,h2,h3⟩:=hp.2 d hd
 have hb:=(Array.getElem?_eq_some_iff.1 h1).1
 exact⟨D,rfl,(h.blk D hb h2).trans h1,fun hh=>h2 (h.own D hb hh),h3⟩⟩
theorem FrsR.evo {X:Env} {φ φ':Names} {nx nx':Nat} {W W':World} {ρ ρ':List PV} (h:Evo X φ φ' nx W W') (hr:ρ <+:ρ') (hn:nx≤nx') :
    ∀ (l:List (List (Nat×SV))) (as:List Act),FrsR W X φ ρ nx l as→FrsR W' X φ' ρ' nx' l as
 | [],as,ha=>by simp only[FrsR]at *;exact⟨ha.1,ha.2.evo h⟩
 | f::r,as,ha=>by
  simp only[FrsR]at *
  obtain⟨a,as',rfl,h1,hd,h2⟩:=ha
  exact⟨a,as',rfl,fun t s hs=>SVR.evo h hr hn s _ (h1 t s hs),⟨hd.1.evo h,hd.2⟩,FrsR.evo h hr hn r as' h2⟩
structure Rel (X:Env) (W0:World) (φ:Names) (ρ:List PV) (σ:St) (fs:List Act) (w:World):Prop where
 below:Below W0.heap.size W0 w
 old:(∀b,X b→b < W0.heap.size)∧X.lo=W0.heap.size
 low:∀l k g,φ l=some k→k.has g→W0.heap.size≤g∧g < w.heap.size
 inj:∀l l' k k' g,φ l=some k→φ l'=some k'→k.has g→k'.has g→l=l'
 names:∀l k,φ l=some k→l < σ.nx
 nv:σ.nv=ρ.length
 known:∀c b,(c,b)∈σ.known→c.fits ρ.length=true∧(c.den ρ).b=b
 frames:FrsR w X φ ρ σ.nx σ.fr fs
 heap:∀l o,look σ.heap l=some o→∃k,φ l=some k∧ObR w X φ ρ σ.nx k o
theorem Rel.lowg {X:Env} {W0:World} {φ:Names} {ρ:List PV} {σ:St} {fs:List Act} {w:World} (h:Rel X W0 φ ρ σ fs w) (l:Nat) (k:Bk) (g:Nat) (hk:φ l=some k) (hg:k.g=some g):W0.heap.size≤g∧g < w.heap.size:=h.low l k g hk (.inl hg)
theorem Rel.injg {X:Env} {W0:World} {φ:Names} {ρ:List PV} {σ:St} {fs:List Act} {w:World} (h:Rel X W0 φ ρ σ fs w) (l l':Nat) (k k':Bk) (g:Nat) (hk:φ l=some k) (hk':φ l'=some k') (hg:k.g=some g) (hg':k'.g=some g):l=l':=h.inj l l' k k' g hk hk' (.inl hg) (.inl hg')
end Go.Proofs.YtckjdlmfibjpaaaGreat.Sx
set_option linter.unusedVariables false
namespace Go.Proofs.YtckjdlmfibjpaaaGreat.Sx
open Go.RowKit
theorem look_put_same {α:Type} (l:List (Nat×α)) (t:Nat) (x:α):look (puta l t x) t=some x:=by simp[puta,look]
theorem look_del_same {α:Type}:∀ (l:List (Nat×α)) (t:Nat),look (del l t) t=none
 | [],t=>rfl
 | (i,x)::r,t=>by
  unfold del
  by_cases h:i == t
  · rw[if_pos h];exact look_del_same r t
  · rw[if_neg h];unfold look;rw[if_neg h];exact look_del_same r t
theorem look_del_other {α:Type}:∀ (l:List (Nat×α)) (t u:Nat),u≠t→look (del l t) u=look l u
 | [],t,u,_=>rfl
 | (i,x)::r,t,u,hne=>by
  unfold del
  by_cases h:i == t
  · rw[if_pos h]
    have hi:i=t:=by simpa using h
    have:look ((i,x)::r) u=look r u:=by rw[look,if_neg (by simp;omega)]
    rw[this];exact look_del_other r t u hne
  · rw[if_neg h]
    unfold look
    rw[look_del_other r t u hne]
theorem look_put_other {α:Type} (l:List (Nat×α)) (t u:Nat) (x:α) (h:u≠t):look (puta l t x) u=look l u:=by
 unfold puta
 rw[look,if_neg (by simp;omega)]
 exact look_del_other l t u h
theorem look_mem {α:Type}:∀ (l:List (Nat×α)) (t:Nat) (x:α),look l t=some x→(t,x)∈l
 | (i,y)::r,t,x,h=>by
  unfold look at h
  by_cases hi:i == t
  · rw[if_pos hi]at h
    have:i=t:=by simpa using hi
    simp_all
  · rw[if_neg hi]at h
    exact List.mem_cons_of_mem _ (look_mem r t x h)
theorem b_not (ρ:List PV) (x:Ex):((Ex.un .not x).den ρ).b= !(x.den ρ).b:=rfl
theorem b_and (ρ:List PV) (x y:Ex):((Ex.bin .and x y).den ρ).b=((x.den ρ).b&& (y.den ρ).b):=rfl
theorem b_or (ρ:List PV) (x y:Ex):((Ex.bin .or x y).den ρ).b=((x.den ρ).b|| (y.den ρ).b):=rfl
theorem cond_b (ρ:List PV):∀c:Ex,((cond c).den ρ).b=(c.den ρ).b:=by
 intro c
 unfold cond
 split
 · rename_i x
   rw[cond_b ρ x,b_not,b_not,Bool.not_not]
 · rfl
termination_by c=>SizeOf.sizeOf c
theorem ncond_b (ρ:List PV) (c:Ex):((ncond c).den ρ).b= !(c.den ρ).b:=by
 unfold ncond
 split
 · rename_i x
   rw[cond_b ρ x,b_not,Bool.not_not]
 · rw[Ex.den_mk1];rfl
theorem cond_fits (n:Nat):∀c:Ex,c.fits n=true→(cond c).fits n=true:=by
 intro c h
 unfold cond
 split
 · rename_i x
   exact cond_fits n x (by simpa [Ex.fits]using h)
 · exact h
termination_by c=>SizeOf.sizeOf c
theorem ncond_fits (n:Nat) (c:Ex) (h:c.fits n=true):(ncond c).fits n=true:=by
 unfold ncond
 split
 · rename_i x
   exact cond_fits n x (by simpa [Ex.fits]using h)
 · exact Ex.fits_mk1 h
def Facts (ρ:List PV) (l:List (Ex×Bool)):Prop:=∀c b,(c,b)∈l→c.fits ρ.length=true∧(c.den ρ).b=b
theorem isKnown_sound {ρ:List PV}:∀ {l:List (Ex×Bool)} {c:Ex} {b:Bool},Facts ρ l→isKnown l c=some b→(c.den ρ).b=b
 | (d,y)::r,c,b,hf,h=>by
  unfold isKnown at h
  split at h
  · rename_i hs
    have:=Ex.same_eq _ _ hs
    subst this
    cases h
    exact(hf _ _ (by simp)).2
  · exact isKnown_sound (fun c b hm=>hf c b (List.mem_cons_of_mem _ hm)) h
theorem knownIs_sound {ρ:List PV} {l:List (Ex×Bool)} (hf:Facts ρ l):∀ (c:Ex) (b:Bool),knownIs l c=some b→(c.den ρ).b=b:=by
 intro c
 induction c with
 | bool x=>intro b h;simp only[knownIs,Option.some.injEq]at h;simp[Ex.den,PV.b,h]
 | un o x ih=>
  intro b h
  cases o with
  | not=>
   simp only[knownIs,Option.map_eq_some_iff]at h
   obtain⟨y,hy,rfl⟩:=h
   rw[b_not,ih y hy]
  | _=>simp only[knownIs]at h;exact isKnown_sound hf h
 | bin o x y ihx ihy=>
  intro b h
  cases o with
  | and=>
   simp only[knownIs]at h
   split at h
   · rename_i h1;cases h;exact isKnown_sound hf h1
   · rw[b_and]
     cases hx:knownIs l x with
     | none=>cases hy:knownIs l y with
      | none=>simp[hx,hy]at h
      | some c=>rw[ihy _ hy];cases c <;> simp[hx,hy]at h <;> simp[h]
     | some c=>cases hy:knownIs l y with
      | none=>rw[ihx _ hx];cases c <;> simp[hx,hy]at h <;> simp[h]
      | some d=>rw[ihx _ hx,ihy _ hy];cases c <;> cases d <;> simp[hx,hy]at h <;> simp[h]
  | or=>
   simp only[knownIs]at h
   split at h
   · rename_i h1;cases h;exact isKnown_sound hf h1
   · rw[b_or]
     cases hx:knownIs l x with
     | none=>cases hy:knownIs l y with
      | none=>simp[hx,hy]at h
      | some c=>rw[ihy _ hy];cases c <;> simp[hx,hy]at h <;> simp[h]
     | some c=>cases hy:knownIs l y with
      | none=>rw[ihx _ hx];cases c <;> simp[hx,hy]at h <;> simp[h]
      | some d=>rw[ihx _ hx,ihy _ hy];cases c <;> cases d <;> simp[hx,hy]at h <;> simp[h]
  | _=>simp only[knownIs]at h;exact isKnown_sound hf h
 | _=>intro b h;simp only[knownIs]at h;exact isKnown_sound hf h
theorem learn0_sound {ρ:List PV}:∀ (c:Ex) (b:Bool) (l:List (Ex×Bool)),Facts ρ l→c.fits ρ.length=true→(c.den ρ).b=b→Facts ρ (learn0 c b l):=by
 intro c
 induction c with
 | un o x ih=>
  intro b l hf hc hb
  cases o with
  | not=>
   simp only[learn0]
   refine ih _ _ hf (by simpa [Ex.fits]using hc) ?_
   rw[←hb,b_not,Bool.not_not]
  | _=>
   simp only[learn0]
   intro c' b' hm
   rcases List.mem_cons.1 hm with h | h
   · cases h;exact⟨hc,hb⟩
   · exact hf _ _ h
 | bin o x y ihx ihy=>
  intro b l hf hc hb
  have hx:x.fits ρ.length=true:=by simp only[Ex.fits,Bool.and_eq_true]at hc;exact hc.1
  have hy:y.fits ρ.length=true:=by simp only[Ex.fits,Bool.and_eq_true]at hc;exact hc.2
  have base:Facts ρ ((Ex.bin o x y,b)::l):=by
   intro c' b' hm
   rcases List.mem_cons.1 hm with h | h
   · cases h;exact⟨hc,hb⟩
   · exact hf _ _ h
  cases o with
  | and=>
   cases b with
   | true=>
    rw[b_and,Bool.and_eq_true]at hb
    exact ihx _ _ (ihy _ _ base hy hb.2) hx hb.1
   | false=>exact base
  | or=>
   cases b with
   | true=>exact base
   | false=>
    rw[b_or,Bool.or_eq_false_iff]at hb
    exact ihx _ _ (ihy _ _ base hy hb.2) hx hb.1
  | _=>exact base
 | _=>
  intro b l hf hc hb
  intro c' b' hm
  rcases List.mem_cons.1 hm with h | h
  · cases h;exact⟨hc,hb⟩
  · exact hf _ _ h
theorem fact_sound {ρ:List PV} {c:Ex} {b:Bool} {l:List (Ex×Bool)} (hf:Facts ρ l) (hc:c.fits ρ.length=true) (hb:(c.den ρ).b=b):Facts ρ (fact c b l):=by
 unfold fact
 split
 · intro c' b' hm
   rcases List.mem_cons.1 hm with h | h
   · cases h
     rw[b_not]at hb
     exact⟨by simpa [Ex.fits]using hc,by rw[←hb,Bool.not_not]⟩
   · exact hf _ _ h
 · intro c' b' hm
   rcases List.mem_cons.1 hm with h | h
   · cases h;exact⟨hc,hb⟩
   · exact hf _ _ h
theorem follows1_sound {ρ:List PV} {k:List (Ex×Bool)} (hk:Facts ρ k):∀ (l:List (Ex×Bool)),Facts ρ l→Facts ρ (follows1 k l)
 | [],_=>hk
 | (c,b)::r,hf=>by
  have ih:=follows1_sound hk r (fun c b h=>hf c b (List.mem_cons_of_mem _ h))
  obtain⟨hc,hb⟩:=hf c b (List.mem_cons_self ..)
  unfold follows1
  split
  · exact hk
  · rename_i x y r' he
    cases he
    simp only[Ex.fits,Bool.and_eq_true]at hc
    rw[b_and]at hb
    split
    · rename_i hx
      rw[knownIs_sound hk x true hx,Bool.true_and]at hb
      exact fact_sound ih hc.2 hb
    · split
      · rename_i hy
        rw[knownIs_sound hk y true hy,Bool.and_true]at hb
        exact fact_sound ih hc.1 hb
      · exact ih
  · rename_i x y r' he
    cases he
    simp only[Ex.fits,Bool.and_eq_true]at hc
    rw[b_or]at hb
    split
    · rename_i hx
      rw[knownIs_sound hk x false hx,Bool.false_or]at hb
      exact fact_sound ih hc.2 hb
    · split
      · rename_i hy
        rw[knownIs_sound hk y false hy,Bool.or_false]at hb
        exact fact_sound ih hc.1 hb
      · exact ih
  · rename_i he
    cases he
    exact ih
theorem learn_sound {ρ:List PV} (c:Ex) (b:Bool) (l:List (Ex×Bool)) (hf:Facts ρ l) (hc:c.fits ρ.length=true) (hb:(c.den ρ).b=b):Facts ρ (learn c b l):=
 follows1_sound (learn0_sound c b l hf hc hb) _ (learn0_sound c b l hf hc hb)
section
variable {W:World} {X:Env} {φ:Names} {ρ:List PV} {nx:Nat}
theorem strip_sound {l:List (Ex×Bool)} (hf:Facts ρ l):∀ (s:SV) (v:Value),SVR W X φ ρ nx s v→SVR W X φ ρ nx (strip l s) v:=by
 intro s
 induction s using SV.rec (motive_2:=fun _=>True)with
 | gd c s ih=>
  intro v h
  unfold strip
  split
  · rename_i hk
    simp only[SVR]at h
    exact ih v (h.2.2.1 (knownIs_sound hf c true (by simpa using hk)))
  · exact h
 | nil=>trivial
 | cons=>trivial
 | _=>intro v h;simpa [strip]using h
theorem strip_fits {n:Nat} {l:List (Ex×Bool)}:∀ (s:SV),s.fits n nx=true→(strip l s).fits n nx=true:=by
 intro s
 induction s using SV.rec (motive_2:=fun _=>True)with
 | gd c s ih=>
  intro h
  unfold strip
  split
  · simp only[SV.fits,Bool.and_eq_true]at h
    exact ih h.2
  · exact h
 | nil=>trivial
 | cons=>trivial
 | _=>intro h;simpa [strip]using h
theorem ofCell_sound (v:Value):SVR W X φ ρ nx (ofCell v) v:=by
 unfold ofCell
 split
 · simp[SVR,Ex.fits,RV,Ex.den]
 · simp[SVR,Ex.fits,RV,Ex.den]
 · simp[SVR,Ex.fits,RV,Ex.den]
 · simp[SVR]
 · simp[SVR]
 · simp[SVR]
 · split
   · rename_i f first caps h
     simp only[Bool.and_eq_true,Array.isEmpty_iff]at h
     obtain⟨rfl,rfl⟩:=h
     simp only[SVR]
     exact⟨#[],rfl,by simp[SVRs]⟩
   · simp[SVR]
 · simp[SVR]
theorem ofCells_sound:∀ (vs:List Value),SVRs W X φ ρ nx (vs.map ofCell) vs
 | []=>by simp[SVRs]
 | v::r=>by simp only[List.map_cons,SVRs];exact⟨v,r,rfl,ofCell_sound v,ofCells_sound r⟩
theorem ofValue_sound (v:Value):SVR W X φ ρ nx (ofValue v) v:=by
 unfold ofValue
 split
 · simp only[SVR];exact⟨_,rfl,ofCells_sound _⟩
 · exact ofCell_sound v
theorem SVRs.get:∀ {l:List SV} {vs:List Value},SVRs W X φ ρ nx l vs→∀ (i:Nat) (s:SV),l[i]? =some s→∃v,vs[i]? =some v∧SVR W X φ ρ nx s v
 | [],vs,_,i,s,hi=>by simp at hi
 | s0::r,vs,h,i,s,hi=>by
  simp only[SVRs]at h
  obtain⟨v,vs',rfl,h1,h2⟩:=h
  cases i with
  | zero=>simp at hi;subst hi;exact⟨v,rfl,h1⟩
  | succ i=>simp at hi ⊢;exact SVRs.get h2 i s hi
theorem SVRs.length:∀ {l:List SV} {vs:List Value},SVRs W X φ ρ nx l vs→vs.length=l.length
 | [],vs,h=>by simp only[SVRs]at h;simp[h]
 | s0::r,vs,h=>by
  simp only[SVRs]at h
  obtain⟨v,vs',rfl,h1,h2⟩:=h
  simp[SVRs.length h2]
theorem SVRs.drop:∀ {l:List SV} {vs:List Value},SVRs W X φ ρ nx l vs→∀n,SVRs W X φ ρ nx (l.drop n) (vs.drop n)
 | [],vs,h,n=>by simp only[SVRs]at h;subst h;simp[SVRs]
 | s0::r,vs,h,0=>h
 | s0::r,vs,h,n+1=>by
  simp only[SVRs]at h
  obtain⟨v,vs',rfl,h1,h2⟩:=h
  simpa using SVRs.drop h2 n
theorem SVRs.take:∀ {l:List SV} {vs:List Value},SVRs W X φ ρ nx l vs→∀n,SVRs W X φ ρ nx (l.take n) (vs.take n)
 | [],vs,h,n=>by simp only[SVRs]at h;subst h;simp[SVRs]
 | s0::r,vs,h,0=>by simp[SVRs]
 | s0::r,vs,h,n+1=>by
  simp only[SVRs]at h
  obtain⟨v,vs',rfl,h1,h2⟩:=h
  simp only[List.take_succ_cons,SVRs]
  exact⟨v,_,rfl,h1,SVRs.take h2 n⟩
theorem SVRs.append:∀ {l l':List SV} {vs vs':List Value},SVRs W X φ ρ nx l vs→SVRs W X φ ρ nx l' vs'→SVRs W X φ ρ nx (l++l') (vs++vs')
 | [],l',vs,vs',h,h'=>by simp only[SVRs]at h;subst h;simpa using h'
 | s0::r,l',vs,vs',h,h'=>by
  simp only[SVRs]at h
  obtain⟨v,ws,rfl,h1,h2⟩:=h
  simp only[List.cons_append,SVRs]
  exact⟨v,_,rfl,h1,SVRs.append h2 h'⟩
end
theorem Rel.ev {X:Env} {W0:World} {φ:Names} {ρ:List PV} {σ:St} {a:Act} {fs:List Act} {w:World} (h:Rel X W0 φ ρ σ (a::fs) w) (x:Operand) :
    SVR w X φ ρ σ.nx (σ.ev x) (a.eval x):=by
 cases x with
 | tmp t=>
  simp only[St.ev,Act.eval]
  refine strip_sound h.known _ _ ?_
  unfold St.tmp
  have hf:=h.frames
  split
  · rename_i f r he
    rw[he]at hf
    simp only[FrsR]at hf
    obtain⟨a0,as',ha,hfr,_⟩:=hf
    cases ha
    cases hl:look f t with
    | none=>simp[SVR]
    | some s=>simpa using hfr t s hl
  · simp[SVR]
 | const v=>exact ofValue_sound v
 | func f=>simp only[St.ev,Act.eval,SVR];exact⟨#[],rfl,by simp[SVRs]⟩
 | global g=>simp[St.ev,SVR]
end Go.Proofs.YtckjdlmfibjpaaaGreat.Sx
set_option linter.unusedVariables false
namespace Go.Proofs.YtckjdlmfibjpaaaGreat.Sx
open Go.RowKit
theorem run_type {P:Program} {t:TypeId} {i:TypeInfo} (h:P.info? t=some i) (w:World):(typeInfo t).run P w= .ok i w:=by simp[typeInfo,h]
theorem run_size {P:Program} {t:TypeId} {s:Nat} (h:szOf P t=some s) (w:World):(sizeOf t).run P w= .ok s w:=by
 simp only[szOf,Option.map_eq_some_iff]at h
 obtain⟨i,hi,rfl⟩:=h
 simp[sizeOf,run_type hi]
theorem run_agg {P:Program} {t:TypeId} {b:Bool} (h:aggOf P t=some b) (w:World):(isAgg t).run P w= .ok b w:=by
 unfold aggOf at h
 split at h
 · rename_i hu;cases h;simp[isAgg,run_underlying hu]
 · rename_i hu;cases h;simp[isAgg,run_underlying hu]
 · rename_i hn1 hn2 hu
   cases h
   unfold isAgg
   rw[Sem.run_bind,run_underlying hu,Result.andThen_ok]
   split
   · rename_i f;exact(hn1 f rfl).elim
   · rename_i n e;exact(hn2 n e rfl).elim
   · rfl
 · cases h
section
variable {P:Program} {X:Env} {W0:World} {φ:Names} {ρ:List PV} {σ:St} {a:Act} {fs:List Act} {w:World}
theorem part_sound {nx:Nat} {t:TypeId} {cs:List SV} {vs:Array Value} {off:Nat} {s:SV} (h:SVRs w X φ ρ nx cs vs.toList) (hp:partOf P t cs off=some s) :
    ∃v,(part t vs off).run P w= .ok v w∧SVR w X φ ρ nx s v:=by
 unfold partOf at hp
 split at hp
 · rename_i sz ha hs
   split at hp
   · rename_i hle
     cases hp
     refine⟨.agg (vs.extract off (off+sz)),by simp[part,run_agg ha,run_size hs],?_⟩
     simp only[SVR]
     refine⟨_,rfl,?_⟩
     rw[Array.toList_extract,List.extract_eq_take_drop,Nat.add_sub_cancel_left]
     exact(h.drop off).take sz
   · cases hp
 · rename_i x ha
   obtain⟨v,hv,hr⟩:=h.get off s hp
   refine⟨v,?_,hr⟩
   have:vs[off]? =some v:=by simpa using hv
   simp[part,run_agg ha,this]
 · cases hp
theorem SVRs.rowCells {U:Nat→Prop} {nx:Nat} {e i:Ex} {xs:List (List PV)} {x:List PV} (he:e.fits ρ.length=true) (hi:i.fits ρ.length=true) (hx:e.den ρ= .row xs) (hxi:xs[(i.den ρ).i.toNat]? =some x) :
    ∀ (ks:List LK) (ps:List PV) (vs:List Value) (j:Nat),RVs w (Owned X φ) ks ps vs→(∀m,x[j+m]? =ps[m]?)→SVRs w X φ ρ nx (rowCells ks e i j) vs
 | [],ps,vs,j,h,_=>by simp only[RVs]at h;simp[Sx.rowCells,SVRs,h.2]
 | k ::r,ps,vs,j,h,hp=>by
  simp only[RVs]at h
  obtain⟨p,ps',v,vs',rfl,rfl,h1,h2⟩:=h
  simp only[Sx.rowCells,SVRs]
  refine⟨v,vs',rfl,?_,SVRs.rowCells (U:=U) he hi hx hxi r ps' vs' (j+1) h2 (fun m=>?_)⟩
  · simp only[SVR,Ex.fits,Bool.and_eq_true]
    refine⟨⟨he,hi⟩,?_⟩
    have hj:x[j]? =some p:=by simpa using hp 0
    have:(Ex.bin (.cell j k) e i).den ρ=p:=by
     simp only[Ex.den,BO.on,hx,PV.r,cellAt,hxi,Option.bind_some,hj,Option.getD_some]
    rw[this]
    exact h1
  · have:=hp (m+1)
    rw[show j+1+m=j+(m+1)by omega,this]
    rfl
theorem Rel.rowsAt (h:Rel X W0 φ ρ σ fs w) {l:Nat} {ks:List LK} {e i:Ex} {k:Bk} {g:Nat} (hl:look σ.heap l=some (.rows ks e)) (hk:φ l=some k) (hg:k.g=some g) (hi:i.fits ρ.length=true)
    (hlt:(i.den ρ).i.toNat < k.len):∃c,w.heap[g]? =some (.cells c k.el (0,0))∧SVRs w X φ ρ σ.nx (rowCells ks e i 0) ((c.toList.drop ((i.den ρ).i.toNat*ks.length)).take ks.length)∧k.s=ks.length:=by
 obtain⟨k',hk',ho⟩:=h.heap l _ hl
 rw[hk]at hk'
 cases hk'
 simp only[ObR]at ho
 obtain⟨hf,hs,xs,hx,hlen,hm⟩:=ho
 rw[hg]at hm
 obtain⟨c,hc,hrow⟩:=hm
 have hlt':(i.den ρ).i.toNat < xs.length:=by omega
 refine⟨c,hc,?_,hs⟩
 exact SVRs.rowCells (U:=X) hf hi hx (List.getElem?_eq_getElem hlt') ks _ _ 0 (hrow _ _ (List.getElem?_eq_getElem hlt')) (fun m=>by simp)
theorem load_block {t:TypeId} {g off:Nat} {c:Array Value} {el:TypeId} {cs:List SV} {vs:List Value} {nx o:Nat} {s:SV} (hc:w.heap[g]? =some (.cells c el (0,0))) (hcs:SVRs w X φ ρ nx cs vs)
    (hv:∀j u,vs[j]? =some u→c[off+j]? =some u) (hp:partOf P t cs o=some s) :
    ∃v,(Instr.loadAt t (.pointer (some ⟨g,off+o,none⟩))).run P w= .ok v w∧SVR w X φ ρ nx s v:=by
 have hcell:∀j u,vs[j]? =some u→w.cell? ⟨g,off+j,none⟩=some u:=fun j u hj=>by simp[World.cell?,hc,hv j u hj]
 unfold partOf at hp
 split at hp
 · rename_i sz ha hs
   split at hp
   · rename_i hle
     cases hp
     have hsub:SVRs w X φ ρ nx ((cs.drop o).take sz) ((vs.drop o).take sz):=(hcs.drop o).take sz
     have hl:((vs.drop o).take sz).length=sz:=by have:=hcs.length;simp;omega
     have:=run_loadCells_list (P:=P) (w:=w) ⟨g,off+o,none⟩ ((vs.drop o).take sz) (fun j u hj=>by
      have hjl:j < sz:=by have:=(List.getElem?_eq_some_iff.1 hj).1;omega
      rw[List.getElem?_take_of_lt hjl,List.getElem?_drop]at hj
      have:=hcell (o+j) u hj
      rw[Addr.add_lit,Nat.add_assoc]
      exact this)
     rw[hl]at this
     refine⟨.agg ((vs.drop o).take sz).toArray,?_,?_⟩
     · simp[Instr.loadAt,Instr.sureAddr,loadVar,run_agg ha,run_size hs,this]
     · simp only[SVR];exact⟨_,rfl,by simpa using hsub⟩
   · cases hp
 · rename_i x ha
   obtain⟨v,hv',hr⟩:=hcs.get o s hp
   refine⟨v,?_,hr⟩
   have:=hcell o v hv'
   simp[Instr.loadAt,Instr.sureAddr,loadVar,run_agg ha,this]
 · cases hp
theorem same_i0 {i:Ex} (h:i.same i0=true):i=i0:=Ex.same_eq _ _ h
theorem den_i0:(i0.den ρ).i=0:=rfl
theorem load_sound (h:Rel X W0 φ ρ σ fs w) {t:TypeId} {s0 sv:SV} {va:Value} (hs0:SVR w X φ ρ σ.nx s0 va)
    (hl:loadSV P σ.heap t s0=some sv):∃v,(Instr.loadAt t va).run P w= .ok v w∧SVR w X φ ρ σ.nx sv v:=by
 cases s0 with
 | ptr l i o=>
  simp only[SVR]at hs0
  obtain⟨hi,hlt,_,hk⟩:=hs0
  simp only[loadSV]at hl
  split at hl
  · rename_i cs hlk
    split at hl
    · rename_i hsame
      have:=same_i0 hsame
      subst this
      obtain⟨k,hφ,ho⟩:=h.heap l _ hlk
      simp only[ObR]at ho
      obtain⟨hlen,g,c,hg,hc,hcs⟩:=ho
      obtain⟨g',hg',_,_,rfl⟩:=hk k hφ
      rw[hg]at hg'
      cases hg'
      have:=load_block (P:=P) (t:=t) (off:=0) hc hcs (fun j u hj=>by simpa using hj) hl
      simpa [den_i0]using this
    · cases hl
  · rename_i ks e hlk
    obtain⟨k,hφ,ho⟩:=h.heap l _ hlk
    obtain⟨g,hg,h0,hlt',rfl⟩:=hk k hφ
    obtain⟨c,hc,hcs,hks⟩:=h.rowsAt hlk hφ hg hi hlt'
    rw[hks]
    exact load_block (P:=P) (t:=t) (off:=(i.den ρ).i.toNat*ks.length) hc hcs (fun j u hj=>by
     have hjl:j < ks.length:=by have:=(List.getElem?_eq_some_iff.1 hj).1;simp at this;omega
     rw[List.getElem?_take_of_lt hjl,List.getElem?_drop]at hj
     simpa using hj) hl
  · cases hl
 | rptr ks e i o=>
  simp only[SVR]at hs0
  obtain⟨he,hi,xs,ad,hx,hrow,h0,hlt,rfl⟩:=hs0
  simp only[loadSV]at hl
  obtain⟨hsp,hu,hb,hrows⟩:=hrow
  obtain⟨vs,hvs,hcell⟩:=hrows _ _ (List.getElem?_eq_getElem hlt)
  have hlen:=hvs.length
  have hcs:SVRs w X φ ρ σ.nx (rowCells ks e i 0) vs:=SVRs.rowCells (U:=X) he hi hx (List.getElem?_eq_getElem hlt) ks _ _ 0 hvs (fun m=>by simp)
  obtain⟨b,off,sp⟩:=ad
  simp only at hsp hcell hb hu
  subst hsp
  unfold partOf at hl
  split at hl
  · rename_i sz ha hs
    split at hl
    · rename_i hle
      cases hl
      have hsub:SVRs w X φ ρ σ.nx (((rowCells ks e i 0).drop o).take sz) ((vs.drop o).take sz):=(hcs.drop o).take sz
      have hl':((vs.drop o).take sz).length=sz:=by have:=hcs.length;simp;omega
      have:=run_loadCells_list (P:=P) (w:=w) ⟨b,off+(i.den ρ).i.toNat*ks.length+o,none⟩ ((vs.drop o).take sz) (fun j u hj=>by
       have hjl:j < sz:=by have:=(List.getElem?_eq_some_iff.1 hj).1;omega
       rw[List.getElem?_take_of_lt hjl,List.getElem?_drop]at hj
       have:=hcell (o+j) u hj
       rw[Addr.add_lit,show off+(i.den ρ).i.toNat*ks.length+o+j=off+((i.den ρ).i.toNat*ks.length+(o+j))by omega]
       exact this)
      rw[hl']at this
      refine⟨.agg ((vs.drop o).take sz).toArray,?_,?_⟩
      · simp[Instr.loadAt,Instr.sureAddr,loadVar,run_agg ha,run_size hs,this]
      · simp only[SVR];exact⟨_,rfl,by simpa using hsub⟩
    · cases hl
  · rename_i x ha
    obtain⟨v,hv',hr⟩:=hcs.get o sv hl
    refine⟨v,?_,hr⟩
    have:=hcell o v hv'
    rw[show off+((i.den ρ).i.toNat*ks.length+o)=off+(i.den ρ).i.toNat*ks.length+o by omega]at this
    simp[Instr.loadAt,Instr.sureAddr,loadVar,run_agg ha,this]
  · cases hl
 | fbox cs o=>
  simp only[SVR]at hs0
  obtain⟨g,vs,rfl,_,_,hcs,hcell⟩:=hs0
  simp only[loadSV]at hl
  unfold partOf at hl
  split at hl
  · rename_i sz ha hs
    split at hl
    · rename_i hle
      cases hl
      have hsub:SVRs w X φ ρ σ.nx ((cs.drop o).take sz) ((vs.drop o).take sz):=(hcs.drop o).take sz
      have hl':((vs.drop o).take sz).length=sz:=by have:=hcs.length;simp;omega
      have:=run_loadCells_list (P:=P) (w:=w) ⟨g,o,none⟩ ((vs.drop o).take sz) (fun j u hj=>by
       have hjl:j < sz:=by have:=(List.getElem?_eq_some_iff.1 hj).1;omega
       rw[List.getElem?_take_of_lt hjl,List.getElem?_drop]at hj
       have:=hcell (o+j) u hj
       rw[Addr.add_lit]
       exact this)
      rw[hl']at this
      refine⟨.agg ((vs.drop o).take sz).toArray,?_,?_⟩
      · simp[Instr.loadAt,Instr.sureAddr,loadVar,run_agg ha,run_size hs,this]
      · simp only[SVR];exact⟨_,rfl,by simpa using hsub⟩
    · cases hl
  · rename_i x ha
    obtain⟨v,hv',hr⟩:=hcs.get o sv hl
    refine⟨v,?_,hr⟩
    have:=hcell o v hv'
    simp[Instr.loadAt,Instr.sureAddr,loadVar,run_agg ha,this]
  · cases hl
 | _=>simp[loadSV]at hl
theorem Rel.leaf (h:Rel X W0 φ ρ σ fs w) {k:LK} {s:SV} {e:Ex} {v:Value} (hs:SVR w X φ ρ σ.nx s v) (hl:σ.leaf k s=some e) {U:Nat→Prop} (hU:∀b,U b→Owned X φ b)
    (hown:∀l p,s= .own l p→∀kk g,φ l=some kk→kk.g=some g→¬U g):e.fits ρ.length=true∧RV w U k (e.den ρ) v:=by
 have hmono:∀b,b < w.heap.size→¬Owned X φ b→w.heap[b]? =w.heap[b]? ∧¬U b:=fun b _ hn=>⟨rfl,fun hb=>hn (hU b hb)⟩
 cases s with
 | ex k' e'=>
  simp only[St.leaf]at hl
  split at hl
  · rename_i hk
    cases hl
    have:=LK.same_eq _ _ hk
    subst this
    simp only[SVR]at hs
    exact⟨hs.1,RV.mono (Nat.le_refl _) hmono _ _ _ hs.2⟩
  · cases hl
 | nilS=>
  simp only[St.leaf]at hl
  simp only[SVR]at hs
  subst hs
  split at hl
  · cases hl
    refine⟨rfl,?_⟩
    simp only[RV,Ex.den]
    exact⟨[],none,0,rfl,rfl,Nat.le_refl _,fun hne=>absurd rfl hne⟩
  · cases hl
 | own l p=>
  simp only[St.leaf]at hl
  split at hl
  · rename_i ks e' ks' hlk
    split at hl
    · rename_i hk
      have:=LK.sames_eq _ _ hk
      subst this
      cases hl
      obtain⟨kk,hφ,ho⟩:=h.heap l _ hlk
      simp only[ObR]at ho
      obtain⟨hf,hks,xs,hx,hlen,hm⟩:=ho
      cases p with
      | none=>
       simp only[SVR]at hs
       have hat:=hs.2.2 kk hφ
       refine⟨hf,?_⟩
       simp only[RV]
       unfold OwnAt at hat
       cases hg:kk.g with
       | none=>
        rw[hg]at hat hm
        simp only at hat hm
        subst hm
        exact⟨[],none,0,hx,by rw[hat.2];rfl,Nat.le_refl _,fun hne=>absurd rfl hne⟩
       | some g=>
        rw[hg]at hat hm
        simp only at hat hm
        obtain⟨cap,c,rfl,hc,hcap,hmx,hcs⟩:=hat
        obtain⟨c',hc',hi⟩:=hm
        rw[hc]at hc'
        cases hc'
        refine⟨xs,_,cap,hx,by rw[hlen],by omega,fun _=>⟨_,rfl,rfl,hown l none rfl kk g hφ hg,(h.lowg l kk g hφ hg).2,fun i x hix=>?_⟩⟩
        refine⟨_,RVs.mono (Nat.le_refl _) hmono _ _ _ (hi i x hix),fun j u hj=>?_⟩
        have hjl:j < ks.length:=by have:=(List.getElem?_eq_some_iff.1 hj).1;simp at this;omega
        rw[List.getElem?_take_of_lt hjl,List.getElem?_drop]at hj
        simp only[World.cell?,hc,Nat.zero_add]
        simpa using hj
      | some q=>
       obtain⟨lo,n⟩:=q
       simp only[SVR]at hs
       obtain⟨hlo,hn,_,_,hat⟩:=hs
       obtain⟨h0,h1,hle,⟨mm,hmm⟩,ad,cap,rfl,hcap,had⟩:=hat kk hφ
       refine⟨by simp[Ex.fits,hf,hlo,hn],?_⟩
       simp only[RV]
       have hden:(Ex.tri .slice e' lo n).den ρ= .row ((xs.drop (lo.den ρ).i.toNat).take (n.den ρ).i.toNat):=by simp[Ex.den,TO.on,hx,PV.r]
       have hlen':((xs.drop (lo.den ρ).i.toNat).take (n.den ρ).i.toNat).length=(n.den ρ).i.toNat:=by simp;omega
       refine⟨_,ad,cap,hden,by rw[hlen'],by omega,fun hne=>?_⟩
       have hpos:0 < (n.den ρ).i.toNat:=by
        rcases Nat.eq_zero_or_pos (n.den ρ).i.toNat with hz | hz
        · rw[hz]at hne;simp at hne
        · exact hz
       obtain⟨g,hg,rfl⟩:=had hpos
       rw[hg]at hm
       simp only at hm
       obtain⟨c,hc,hi⟩:=hm
       refine⟨_,rfl,rfl,hown l _ rfl kk g hφ hg,(h.lowg l kk g hφ hg).2,fun i x hix=>?_⟩
       have hil:i < (n.den ρ).i.toNat:=by have:=(List.getElem?_eq_some_iff.1 hix).1;omega
       rw[List.getElem?_take_of_lt hil,List.getElem?_drop]at hix
       refine⟨_,RVs.mono (Nat.le_refl _) hmono _ _ _ (hi _ x hix),fun j u hj=>?_⟩
       have hjl:j < ks.length:=by have:=(List.getElem?_eq_some_iff.1 hj).1;simp at this;omega
       rw[List.getElem?_take_of_lt hjl,List.getElem?_drop]at hj
       simp only[World.cell?,hc,hks]
       have:(lo.den ρ).i.toNat*ks.length+(i*ks.length+j)=((lo.den ρ).i.toNat+i)*ks.length+j:=by rw[Nat.add_mul];omega
       rw[this]
       simpa using hj
    · cases hl
  · cases hl
 | _=>simp[St.leaf]at hl
theorem leafS_sound {nx:Nat} {k:LK} {s:SV} {e:Ex} {v:Value} (hs:SVR w X φ ρ nx s v) (hl:leafS k s=some e):e.fits ρ.length=true∧RV w (Owned X φ) k (e.den ρ) v:=by
 cases s with
 | ex k' e'=>
  simp only[leafS]at hl
  split at hl
  · rename_i hk
    cases hl
    have:=LK.same_eq _ _ hk
    subst this
    simpa only[SVR]using hs
  · cases hl
 | nilS=>
  simp only[leafS]at hl
  simp only[SVR]at hs
  subst hs
  split at hl
  · cases hl
    refine⟨rfl,?_⟩
    simp only[RV,Ex.den]
    exact⟨[],none,0,rfl,rfl,Nat.le_refl _,fun hne=>absurd rfl hne⟩
  · cases hl
 | _=>simp[leafS]at hl
theorem leavesS_sound {nx:Nat}:∀ {ks:List LK} {ss:List SV} {es:List Ex} {vs:List Value},SVRs w X φ ρ nx ss vs→zipO leafS ks ss=some es→(∀e∈es,e.fits ρ.length=true)∧RVs w (Owned X φ) ks (es.map (·.den ρ)) vs
 | [],[],es,vs,hs,hl=>by
  simp only[zipO,Option.some.injEq]at hl
  subst hl
  simp only[SVRs]at hs
  subst hs
  simp[RVs]
 | k::ks,s::ss,es,vs,hs,hl=>by
  simp only[SVRs]at hs
  obtain⟨v,vs',rfl,h1,h2⟩:=hs
  simp only[zipO]at hl
  split at hl
  · rename_i e es' he hes
    cases hl
    obtain⟨a1,a2⟩:=leafS_sound h1 he
    obtain⟨b1,b2⟩:=leavesS_sound h2 hes
    refine⟨fun x hx=>?_,?_⟩
    · rcases List.mem_cons.1 hx with rfl | hx
      · exact a1
      · exact b1 x hx
    · simp only[List.map_cons,RVs]
      exact⟨_,_,v,vs',rfl,rfl,a2,b2⟩
  · cases hl
 | [],_::_,es,vs,hs,hl=>by simp[zipO]at hl
 | _::_,[],es,vs,hs,hl=>by simp[zipO]at hl
end
end Go.Proofs.YtckjdlmfibjpaaaGreat.Sx

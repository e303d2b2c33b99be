/- The library's sort of whole numbers, as the runner tells it, from the library's contract. No condition. -/
import Derived.Test.YtckjdlmfibjpaaaGreatSx6
import Derived.Test.YtckjdlmfibjpaaaGreatShelf
set_option linter.unusedVariables false
namespace Go.Proofs.YtckjdlmfibjpaaaGreat.T
open Go Go.Proofs.YtckjdlmfibjpaaaGreat.Sx Go.Proofs Go.Sort Go.RowKit
theorem sort_here:∀f,isSort Tryz.prog f=true→f=43:=by
 intro f hf
 by_cases h:f < Tryz.prog.funcs.size
 · have hall:(List.range Tryz.prog.funcs.size).all (fun f=>!isSort Tryz.prog f|| f == 43)=true:=by kernel_rfl
   rw[List.all_eq_true]at hall
   have:=hall f (List.mem_range.2 h)
   rw[hf]at this
   simpa using this
 · exfalso
   unfold isSort at hf
   rw[Array.getElem?_eq_none (by omega)]at hf
   cases hf
theorem heap_put {w:World} {n g:Nat} {d:Array Int} {os:Array Obj} {b:Nat} (hb:b < w.heap.size):(grow (putRow (Value.int .i64) (Go.Sort.ahead w n) g 0 d) os).heap[b]? =if g=b then(w.heap[b]?).map (onCells (Go.Sort.putCells (Value.int .i64) 0 d))else w.heap[b]?:=by
 have hb':b < (putRow (Value.int .i64) (Go.Sort.ahead w n) g 0 d).heap.size:=by rw[size_putRow];exact hb
 show((putRow (Value.int .i64) (Go.Sort.ahead w n) g 0 d).heap++os)[b]? =_
 rw[Array.getElem?_append_left hb']
 show((Go.Sort.ahead w n).heap.modify g _)[b]? =_
 rw[Array.getElem?_modify]
 rfl
instance sortOk:SortOk Tryz.prog:=⟨fun f hf v zs w hI hlen=>by
 have:=sort_here f hf
 subst this
 rcases hI with⟨rfl,rfl⟩ | ⟨g,cap,c,el,rfl,hh,hle,hsz,hc⟩
 · refine(Tryz.slices_Sort_int_none none 0 w).mono fun e w' hp=>?_
   obtain⟨rfl,rfl⟩:=hp
   exact⟨rfl,rfl,rfl,rfl,Nat.le_refl _,fun b _ _=>rfl,fun g c el hg=>by simp[blkOf]at hg⟩
 · have hlt:=(Array.getElem?_eq_some_iff.1 hh).1
   have hH:Holds (Value.int .i64) w g 0 zs.toArray:=by
    intro j hj
    have hj':j < zs.length:=by simpa using hj
    have hcj:=hc j zs[j] (List.getElem?_eq_getElem hj')
    refine⟨?_,?_⟩
    · simp[World.cell?,hh,hcj,hj']
    · simp[World.frozen?,hh]
   refine(Tryz.slices_Sort_int g 0 cap zs w hH hlt hlen).mono fun e w' hp=>?_
   obtain⟨rfl,n,os,rfl⟩:=hp
   refine⟨rfl,rfl,rfl,rfl,?_,fun b hb hne=>?_,fun g' c' el' hg hg'=>?_⟩
   · show w.heap.size≤((putRow _ (Go.Sort.ahead w n) g 0 _).heap++os).size
     rw[Array.size_append,size_putRow]
     exact Nat.le_add_right _ _
   · rw[heap_put hb,if_neg (fun e=>hne (by rw[e];rfl))]
   · have:g'=g:=by simpa [blkOf]using hg.symm
     subst this
     rw[hh]at hg'
     cases hg'
     rw[heap_put hlt,if_pos rfl,hh]
     refine⟨_,rfl,by simp[Go.Sort.putCells],fun i z hz=>?_⟩
     have hi:=(List.getElem?_eq_some_iff.1 hz).1
     rw[List.length_mergeSort]at hi
     have hic:i < c.size:=by omega
     unfold Go.Sort.putCells
     rw[Array.getElem?_mapIdx,Array.getElem?_eq_getElem hic]
     simp only[Option.map_some]
     rw[if_pos (by simp[List.length_mergeSort];omega)]
     have:(zs.mergeSort fun x y=>decide (x≤y)).toArray[i - 0]! =z:=by
      rw[Nat.sub_zero]
      simp[hz]
     rw[this]⟩
end Go.Proofs.YtckjdlmfibjpaaaGreat.T

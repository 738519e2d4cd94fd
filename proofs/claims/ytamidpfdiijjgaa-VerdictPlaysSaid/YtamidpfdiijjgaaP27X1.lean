/-
  The library's sort of whole numbers,as an operation of the evaluator: by the shelf's contract.
-/
import Derived.Test.YtamidpfdiijjgaaP27AMb
import Derived.Test.YtamidpfdiijjgaaSort
namespace Go.AM
open Go Go.Proofs
set_option linter.unusedVariables false
set_option linter.unusedSimpArgs false
def ins(x:Int):List Int->List Int
 |[]=>[x]
 |y::r=>if x<=y then x::y::r else y::ins x r
def isort:List Int->List Int
 |[]=>[]
 |x::r=>ins x (isort r)
theorem ins_perm(x:Int):∀l:List Int,(ins x l).Perm (x::l)
 |[]=>.refl _
 |y::r=>by
  simp only[ins]
  split
  . exact .refl _
  . exact ((ins_perm x r).cons y).trans (.swap x y r)
theorem isort_perm:∀l:List Int,(isort l).Perm l
 |[]=>.refl _
 |x::r=>(ins_perm x _).trans ((isort_perm r).cons x)
theorem ins_sorted(x:Int):∀l:List Int,l.Pairwise (·<=·)->(ins x l).Pairwise (·<=·)
 |[],_=>by simp[ins]
 |y::r,h=>by
  simp only[ins]
  obtain⟨h1,h2⟩:=List.pairwise_cons.1 h
  split
  . rename_i hxy
    refine List.pairwise_cons.2 ⟨fun z hz=>?_,h⟩
    rcases List.mem_cons.1 hz with rfl|hz
    . exact hxy
    . exact Int.le_trans hxy (h1 z hz)
  . rename_i hxy
    refine List.pairwise_cons.2 ⟨fun z hz=>?_,ins_sorted x r h2⟩
    rcases List.mem_cons.1 ((ins_perm x r).mem_iff.1 hz) with rfl|hz
    . omega
    . exact h1 z hz
theorem isort_sorted:∀l:List Int,(isort l).Pairwise (·<=·)
 |[]=>.nil
 |x::r=>ins_sorted x _ (isort_sorted r)
theorem sorted_unique{a b:List Int}(h:a.Perm b)(ha:a.Pairwise (·<=·))(hb:b.Pairwise (·<=·)):a=b:=
 List.Perm.eq_of_pairwise (le:=(·<=·)) (fun _ _ _ _ h h'=>Int.le_antisymm h h') ha hb h
theorem mergeSort_isort(l:List Int):(l.mergeSort fun x y=>decide (x<=y))=isort l:=by
 refine sorted_unique ((List.mergeSort_perm l _).trans (isort_perm l).symm) ?_ (isort_sorted l)
 refine (List.pairwise_mergeSort (le:=fun x y=>decide (x<=y)) (fun a b c h h'=>?_) (fun a b=>?_) l).imp fun h=>by simpa using h
 . simp at *;omega
 . simp;omega
theorem isort_len{l:List Int}:(isort l).length=l.length:=(isort_perm l).length_eq
def unI:List AV->Option (List Int)
 |[]=>some []
 |.int .i64 z::r=>(unI r).map (z::·)
 |_=>none
theorem unI_spec:∀{cs:List AV} {zs:List Int},unI cs=some zs->cs=zs.map (.int .i64)
 |[],zs,h=>by simp[unI] at h;subst h;rfl
 |c::cs,zs,h=>by
  unfold unI at h
  split at h
  . simp at *
  . rename_i z r heq
    cases heq
    cases hr:unI cs with
    |none=>simp[hr] at h
    |some l=>
     simp[hr] at h
     subst h
     rw[unI_spec hr]
     rfl
  . simp at h
theorem unI_map(zs:List Int):unI (zs.map (.int .i64))=some zs:=by
 induction zs with
 |nil=>rfl
 |cons z r ih=>simp[unI,ih]
def extSort(args:List AV)(h:Heap):Option (AV×Heap):=
 match args with
 |[.sl a 0 c]=>some (.tup [],h)
 |[.sl (some a) n c]=>
  match h[a.b]? with
  |some (.cells cs e g)=>
   if cs.length=a.gen/\a.off+n<=cs.length/\n<=1000000000000000 then
    match unI ((cs.drop a.off).take n) with
    |some zs=>some (.tup [],h.set a.b (.cells (splice cs a.off ((isort zs).map (.int .i64))) e g))
    |none=>none
   else none
  |_=>none
 |_=>none
theorem heap_sorted{w:World}{k blk off:Nat}{d:Array Int}{os:Array Obj}{c:Nat}(hc:c<w.heap.size):
  (Sort.grow (Sort.putRow (Value.int .i64) (Sort.ahead w k) blk off d) os).heap[c]?=if blk=c then (w.heap[c]?).map (Sort.onCells (Sort.putCells (Value.int .i64) off d)) else w.heap[c]?:=by
 simp only[Sort.grow,Sort.putRow,Sort.mapBlock,Sort.ahead]
 rw[Array.getElem?_append_left (by simpa using hc),Array.getElem?_modify]
theorem extSort_ok{args:List AV}{h:Heap}{r:AV}{h':Heap}(hr:extSort args h=some (r,h')):
  (∃ fn, Try.prog.funcs[120]? = some fn ∧ fn.body.isSome = true ∧ (fn.name == "runtime.NumGoroutine") = false) ∧ h.length ≤ h'.length ∧
  ∀(ι:Inj) (w:World) (B:Nat) (cargs:List Value),HR Try.prog ι w B (look h)->Fresh ι h.length h'.length->L2 (V ι) args cargs ->
   Calls Try.prog 120 cargs.toArray w fun e w'=>∃ι' u,e=.returned u/\V ι' r u/\Step Try.prog ι w B (look h) ι' w' (look h')/\Lays ι ι' h'.length:=by
 refine⟨⟨Try.f120,Try.func120,by kernel_rfl,by kernel_rfl⟩,?_⟩
 unfold extSort at hr
 split at hr
 . rename_i a c
   simp at hr
   obtain⟨rfl,rfl⟩:=hr
   refine⟨Nat.le_refl _,fun ι w B cargs hH hF hA=>?_⟩
   obtain⟨u,rfl,hu⟩:=one_of hA
   have:∃p k,u=.slice p 0 k:=by
    cases a with
    |none=>obtain⟨h1,_,_⟩:=hu.sl_none;exact⟨_,_,h1⟩
    |some a=>obtain⟨p,l,h1,_⟩:=hu.sl_inv;exact⟨_,_,h1⟩
   obtain⟨p,k,rfl⟩:=this
   refine (Try.slices_Sort_int_none p k w).mono ?_
   rintro e w' ⟨rfl,rfl⟩
   exact⟨ι,_,rfl,V.undef ι,.refl hH,.refl⟩
 . rename_i a n c hn
   split at hr
   . rename_i cs e g hb
     split at hr
     . rename_i hc
       obtain⟨hg,hle,hbig⟩:=hc
       split at hr
       . rename_i zs hz
         simp at hr
         obtain⟨rfl,rfl⟩:=hr
         have hlen:h.length<=(h.set a.b (.cells (splice cs a.off ((isort zs).map (.int .i64))) e g)).length:=by simp
         refine⟨hlen,fun ι w B cargs hH hF hA=>?_⟩
         obtain⟨u,rfl,hu⟩:=one_of hA
         obtain⟨p,l,rfl,hnc,hl,hsub,hp⟩:=hu.sl_inv
         have hn0:0<n:=Nat.pos_of_ne_zero hn
         have hp':=hp (by omega)
         subst hp'
         have hzs:=unI_spec hz
         have hzl:zs.length=n:=by
          have:=congrArg List.length hzs
          simp at this
          omega
         have hL:look h a.b=some (.cells cs e g):=hb
         obtain⟨l',hl',hR,hB⟩:=hH.obj a.b _ hL
         simp only[AObj.gen] at hl'
         rw[hg,hl] at hl'
         cases hl'
         obtain⟨cur,fz,h1,h2,h3,h4,h5,h6⟩:=hR
         have hblk:l.blk<w.heap.size:=(Array.getElem?_eq_some_iff.1 h1).1
         have hcell:∀j (hj:j<zs.length),cur[a.off-l.sub+l.add+j]?=some (.int .i64 zs[j]):=by
          intro j hj
          have hx:cs[a.off+j]?=some (.int .i64 zs[j]):=by
           have:((cs.drop a.off).take n)[j]?=(zs.map (AV.int .i64))[j]?:=by rw[hzs]
           rw[List.getElem?_take,if_pos (by omega),List.getElem?_drop,List.getElem?_map,List.getElem?_eq_getElem hj] at this
           exact this
          obtain⟨v,hv,hvc⟩:=h6 (a.off+j) _ (by omega) hx
          have:=(V.of_Vc hvc).int_inv
          subst this
          rw[<-hv]
          congr 1
          omega
         have hH':Sort.Holds (Value.int .i64) w l.blk (a.off-l.sub+l.add) zs.toArray:=by
          intro j hj
          have hj':j<zs.length:=by simpa using hj
          have hc:=hcell j hj'
          refine⟨?_,not_frozen h1 h2 (Array.getElem?_eq_some_iff.1 hc).1⟩
          rw[cell_cells h1,hc]
          simp[hj']
         have hrun:=Try.slices_Sort_int l.blk (a.off-l.sub+l.add) (c+l.extra) zs w hH' hblk (by omega)
         rw[hzl] at hrun
         refine hrun.mono ?_
         rintro e' w' ⟨rfl,k,os,rfl⟩
         rw[mergeSort_isort]
         have hlen':(splice cs a.off ((isort zs).map (.int .i64))).length=cs.length:=by
          simp[splice,isort_len];omega
         have hput:Put cs (splice cs a.off ((isort zs).map (.int .i64))) a.off ((isort zs).map (.int .i64)):=put_splice (by simp[isort_len];omega)
         have hturn:=hr_turn (next:=h.length) hH (b:=a.b) (o:=.cells cs e g) (o':=.cells (splice cs a.off ((isort zs).map (.int .i64))) e g) (l:=l) (l':=l)
          (w':=Sort.grow (Sort.putRow (Value.int .i64) (Sort.ahead w k) l.blk (a.off-l.sub+l.add) (isort zs).toArray) os) hL rfl (by simp only[AObj.gen];rw[hg];exact hl) rfl
          (by simp[AObj.gen,hlen']) (fun _=>rfl) (fun c hc hne=>by rw[heap_sorted hc,if_neg (Ne.symm hne)]) (by simp) (.inl rfl) ⟨rfl,rfl,rfl⟩ (fun ι' he=>by
           refine⟨Sort.putCells (Value.int .i64) (a.off-l.sub+l.add) (isort zs).toArray cur,fz,?_,?_,?_,?_,h5,fun q x hq hx=>?_⟩
           . rw[heap_sorted hblk,if_pos rfl,h1];rfl
           . simpa[Sort.putCells] using h2
           . rw[hlen'];exact h3
           . rw[hlen'];simpa[Sort.putCells] using h4
           . rcases hput.2 q x hx with⟨hk1,hk2⟩|⟨hk1,hk2⟩
             . rw[List.getElem?_map] at hk2
               obtain⟨z,hz1,rfl⟩:=Option.map_eq_some_iff.1 hk2
               have hql:=(List.getElem?_eq_some_iff.1 hz1).1
               rw[isort_len] at hql
               have hcq:q-l.sub+l.add<cur.size:=by
                have:=(Array.getElem?_eq_some_iff.1 (hcell (q-a.off) (by omega))).1
                omega
               refine⟨.int .i64 z,?_,by simp[Vc,Vp]⟩
               simp only[Sort.putCells,Array.getElem?_mapIdx,Array.getElem?_eq_getElem hcq,Option.map_some]
               rw[if_pos ⟨by omega,by simp[isort_len];omega⟩]
               have e1:q-l.sub+l.add-(a.off-l.sub+l.add)=q-a.off:=by omega
               rw[e1]
               have hql':q-a.off<(isort zs).length:=by rw[isort_len];exact hql
               rw[List.getElem?_eq_getElem hql'] at hz1
               simp at hz1
               simp[hql',hz1]
             . obtain⟨v,hv,hvc⟩:=h6 q x hq hk2
               refine⟨v,?_,hvc.mono he⟩
               simp only[Sort.putCells,Array.getElem?_mapIdx,hv,Option.map_some]
               rw[if_neg]
               simp[isort_len] at hk1 ⊢
               omega)
         refine⟨ι.set a.b (splice cs a.off ((isort zs).map (AV.int .i64))).length l,_,rfl,V.undef _,?_,fun b0 g0 l1 hh=>?_⟩
         . have:=hturn.1
           rw[look_apply] at this
           exact this
         . rcases hturn.2 b0 g0 l1 hh with hh|rfl
           . exact .inl hh
           . exact .inr (Nat.lt_of_lt_of_le (List.getElem?_eq_some_iff.1 hb).1 hlen)
       . simp at hr
     . simp at hr
   . simp at hr
 . simp at hr
end Go.AM

/-
  What the law VerdictPlays stands on,part 2.
-/
import Derived.Test.YtamidpfdiijjgaaPW27a
import Derived.Test.YtamidpfdiijjgaaP27X1
namespace Go.AM
open Go Go.Proofs Go.RowKit
set_option linter.unusedVariables false
set_option linter.unusedSimpArgs false
set_option maxRecDepth 100000
def lsuf(X:List Txt):Txt->Txt
 |[]=>[]
 |c::r=>if c::r∈X then c::r else lsuf X r
theorem lsuf_suffix{X:List Txt}:∀{w:Txt},lsuf X w<:+w
 |[]=>List.suffix_refl _
 |c::r=>by
  simp only[lsuf]
  split
  . exact List.suffix_refl _
  . exact (lsuf_suffix (w:=r)).trans (List.suffix_cons c r)
theorem lsuf_mem{X:List Txt}(h0:[]∈X):∀{w:Txt},lsuf X w∈X
 |[]=>h0
 |c::r=>by
  simp only[lsuf]
  split
  . rename_i h;exact h
  . exact lsuf_mem h0
theorem lsuf_self{X:List Txt}{w:Txt}(h:w∈X):lsuf X w=w:=by
 cases w with
 |nil=>rfl
 |cons c r=>simp[lsuf,h]
theorem lsuf_max{X:List Txt}:∀{w u:Txt},u<:+w->u∈X->u<:+lsuf X w
 |[],u,h,hu=>by simpa[lsuf] using h
 |c::r,u,h,hu=>by
  simp only[lsuf]
  rcases List.suffix_cons_iff.1 h with rfl|h1
  . rw[if_pos hu];exact List.suffix_refl _
  . split
    . exact h1.trans (List.suffix_cons c r)
    . exact lsuf_max h1 hu
def Pre(X:List Txt):Prop:=∀w b,w++[b]∈X->w∈X
theorem suffix_snoc{u w:Txt}{b:UInt8}(h:u<:+w++[b])(hu:u≠[]):∃v,u=v++[b]/\v<:+w:=by
 obtain⟨t,ht⟩:=h
 rcases List.eq_nil_or_concat u with e|⟨v,c,e⟩
 . exact absurd e hu
 . have e':u=v++[c]:=by simpa using e
   subst e'
   rw[<-List.append_assoc] at ht
   obtain⟨h1,h2⟩:=List.append_inj' ht rfl
   simp at h2
   subst h2
   exact⟨v,rfl,t,h1⟩
theorem snoc_suffix{v w:Txt}{b:UInt8}(h:v<:+w):v++[b]<:+w++[b]:=by
 obtain⟨t,ht⟩:=h
 exact⟨t,by rw[<-List.append_assoc,ht]⟩
theorem suffix_antisymm{a b:Txt}(h:a<:+b)(h':b<:+a):a=b:=h.eq_of_length_le h'.length_le
theorem lsuf_step{X:List Txt}(h0:[]∈X)(hp:Pre X){w:Txt}{b:UInt8}:lsuf X (lsuf X w++[b])=lsuf X (w++[b]):=by
 refine suffix_antisymm (lsuf_max ((lsuf_suffix).trans (snoc_suffix lsuf_suffix)) (lsuf_mem h0)) (lsuf_max ?_ (lsuf_mem h0))
 by_cases he:lsuf X (w++[b])=[]
 . rw[he];exact List.nil_suffix
 . obtain⟨v,h1,h2⟩:=suffix_snoc lsuf_suffix he
   have hm:v++[b]∈X:=by rw[<-h1];exact lsuf_mem h0
   rw[h1]
   exact snoc_suffix (lsuf_max h2 (hp v b hm))
theorem lsuf_miss{X:List Txt}(h0:[]∈X)(hp:Pre X){x:Txt}{b:UInt8}(hx:x≠[])(hm:x++[b]∉X):lsuf X (x++[b])=lsuf X (lsuf X x.tail++[b]):=by
 rw[lsuf_step h0 hp]
 cases x with
 |nil=>exact absurd rfl hx
 |cons c r=>
  simp only[List.cons_append,List.tail_cons] at hm ⊢
  rw[lsuf,if_neg hm]
theorem lsuf_miss0{X:List Txt}{b:UInt8}(hm:[b]∉X):lsuf X [b]=[]:=by
 rw[lsuf,if_neg hm];rfl
def fsuf(X:List Txt)(x:Txt):Txt:=lsuf X x.tail
theorem fsuf_len{X:List Txt}{x:Txt}(hx:x≠[]):(fsuf X x).length<x.length:=by
 have h1:=(lsuf_suffix (X:=X) (w:=x.tail)).length_le
 cases x with
 |nil=>exact absurd rfl hx
 |cons c r=>simp at h1;simp[fsuf];omega
def st(X:List Txt)(x:Txt):Nat:=X.idxOf x
theorem st_at{X:List Txt}{x:Txt}(h:x∈X):X[st X x]?=some x:=by
 have hl:X.idxOf x<X.length:=List.idxOf_lt_length_of_mem h
 rw[st,List.getElem?_eq_getElem hl,List.getElem_idxOf hl]
theorem st_lt{X:List Txt}{x:Txt}(h:x∈X):st X x<X.length:=List.idxOf_lt_length_of_mem h
theorem st_eq{X:List Txt}(hn:X.Nodup){s:Nat}{x:Txt}(h:X[s]?=some x):st X x=s:=idx_unique hn (st_at (List.mem_of_getElem? h)) h
theorem st_inj{X:List Txt}{x y:Txt}(hx:x∈X)(hy:y∈X)(h:st X x=st X y):x=y:=by
 have h1:=st_at hx
 rw[h,st_at hy] at h1
 simpa using h1.symm
def outs(x:Txt):List Txt->Nat->List Int
 |[],_=>[]
 |p::r,i=>if p<:+x then (i:Int)::outs x r (i+1) else outs x r (i+1)
theorem outs_ge{x:Txt}:∀{l:List Txt} {i:Nat} {z:Int},z∈outs x l i->(i:Int)<=z
 |[],i,z,h=>by simp[outs] at h
 |p::r,i,z,h=>by
  simp only[outs] at h
  split at h
  . rcases List.mem_cons.1 h with rfl|h
    . exact Int.le_refl _
    . have:=outs_ge h;omega
  . have:=outs_ge h;omega
theorem outs_sorted{x:Txt}:∀{l:List Txt} {i:Nat},(outs x l i).Pairwise (·<=·)
 |[],i=>.nil
 |p::r,i=>by
  simp only[outs]
  split
  . exact List.pairwise_cons.2 ⟨fun z hz=>by have:=outs_ge hz;omega,outs_sorted⟩
  . exact outs_sorted
theorem outs_len{x:Txt}:∀{l:List Txt} {i:Nat},(outs x l i).length<=l.length
 |[],i=>by simp[outs]
 |p::r,i=>by
  have:=outs_len (x:=x) (l:=r) (i:=i+1)
  simp only[outs]
  split<;>simp<;>omega
theorem outs_perm{X:List Txt}{x:Txt}(hx:x≠[]):∀{l:List Txt} {i:Nat},(∀p∈l,p∈X)->(outs (fsuf X x) l i++places x l i).Perm (outs x l i)
 |[],i,_=>by simp[outs,places]
 |p::r,i,hl=>by
  have ih:=outs_perm hx (l:=r) (i:=i+1) fun q hq=>hl q (List.mem_cons_of_mem _ hq)
  have hp:p∈X:=hl p (List.mem_cons_self ..)
  have key:p<:+x↔p=x\/p<:+fsuf X x:=by
   cases x with
   |nil=>exact absurd rfl hx
   |cons c t=>
    rw[List.suffix_cons_iff]
    constructor
    . rintro (h|h)
      . exact .inl h
      . exact .inr (lsuf_max h hp)
    . rintro (h|h)
      . exact .inl h
      . exact .inr (h.trans lsuf_suffix)
  have hnot:p=x->¬p<:+fsuf X x:=by
   rintro rfl h
   have h1:=h.length_le
   have h2:=fsuf_len (X:=X) hx
   omega
  simp only[outs,places]
  by_cases h1:p=x
  . have h2:=hnot h1
    rw[if_neg h2,if_pos h1,if_pos (key.2 (.inl h1))]
    exact (List.perm_middle).trans (ih.cons _)
  . by_cases h2:p<:+fsuf X x
    . rw[if_pos h2,if_neg h1,if_pos (key.2 (.inr h2))]
      exact ih.cons _
    . rw[if_neg h2,if_neg h1,if_neg (fun h=>by rcases key.1 h with h|h;exact h1 h;exact h2 h)]
      exact ih
theorem outs_sort{X:List Txt}{x:Txt}{l:List Txt}{i:Nat}(hx:x≠[])(hl:∀p∈l,p∈X):isort (outs (fsuf X x) l i++places x l i)=outs x l i:=
 sorted_unique ((isort_perm _).trans (outs_perm hx hl)) (isort_sorted _) outs_sorted
theorem outs_nil:∀{l:List Txt} {i:Nat},outs [] l i=places [] l i
 |[],i=>rfl
 |p::r,i=>by
  simp only[outs,places,List.suffix_nil,outs_nil]
theorem outs_lsuf{X:List Txt}{w:Txt}:∀{l:List Txt} {i:Nat},(∀p∈l,p∈X)->outs (lsuf X w) l i=outs w l i
 |[],i,_=>rfl
 |p::r,i,hl=>by
  have ih:=outs_lsuf (w:=w) (l:=r) (i:=i+1) fun q hq=>hl q (List.mem_cons_of_mem _ hq)
  have hp:p∈X:=hl p (List.mem_cons_self ..)
  have key:p<:+lsuf X w↔p<:+w:=⟨fun h=>h.trans lsuf_suffix,fun h=>lsuf_max h hp⟩
  simp only[outs,ih,key]
theorem TModel.pre{T:TM}{X ps:List Txt}(M:TModel T X ps):Pre X:=by
 intro w b h
 obtain⟨s,hs⟩:=List.getElem?_of_mem h
 obtain⟨q,y,b',h1,h2,h3,h4⟩:=M.up s _ hs (by simp)
 obtain⟨e1,e2⟩:=List.append_inj' h4 rfl
 subst e1
 exact List.mem_of_getElem? h3
theorem TModel.nil_mem{T:TM}{X ps:List Txt}(M:TModel T X ps):[]∈X:=List.mem_of_getElem? M.zero
def kids(X:List Txt)(x:Txt):Nat->List Txt
 |0=>[]
 |b+1=>if x++[UInt8.ofNat b]∈X then kids X x b++[x++[UInt8.ofNat b]] else kids X x b
theorem mem_kids{X:List Txt}{x y:Txt}:∀{n:Nat},y∈kids X x n↔∃b,b<n/\y=x++[UInt8.ofNat b]/\y∈X
 |0=>by simp[kids]
 |n+1=>by
  simp only[kids]
  constructor
  . intro h
    split at h
    . rename_i hm
      rcases List.mem_append.1 h with h|h
      . obtain⟨b,h1,h2,h3⟩:=mem_kids.1 h
        exact⟨b,by omega,h2,h3⟩
      . simp at h
        exact⟨n,by omega,h,by rw[h];exact hm⟩
    . obtain⟨b,h1,h2,h3⟩:=mem_kids.1 h
      exact⟨b,by omega,h2,h3⟩
  . rintro⟨b,h1,rfl,h3⟩
    by_cases hb:b=n
    . subst hb
      rw[if_pos h3]
      simp
    . have:=mem_kids.2 ⟨b,(by omega:b<n),rfl,h3⟩
      split
      . exact List.mem_append_left _ this
      . exact this
theorem mem_kids256{X:List Txt}{x y:Txt}:y∈kids X x 256↔∃b:UInt8,y=x++[b]/\y∈X:=by
 rw[mem_kids]
 constructor
 . rintro⟨b,_,h2,h3⟩;exact⟨_,h2,h3⟩
 . rintro⟨b,h2,h3⟩
   exact⟨b.toNat,b.toNat_lt,by rw[h2];simp,h3⟩
theorem kids_nodup{X:List Txt}{x:Txt}:∀{n:Nat},n<=256->(kids X x n).Nodup
 |0,_=>by simp[kids]
 |n+1,hn=>by
  have ih:=kids_nodup (X:=X) (x:=x) (n:=n) (by omega)
  simp only[kids]
  split
  . rw[List.nodup_append]
    refine⟨ih,by simp,fun a ha b hb=>?_⟩
    simp at hb
    subst hb
    obtain⟨c,h1,rfl,_⟩:=mem_kids.1 ha
    intro e
    have e2:=(List.append_inj' e rfl).2
    simp at e2
    have:=congrArg UInt8.toNat e2
    simp at this
    omega
  . exact ih
structure Bfs (X done queue:List Txt):Prop where
 sub:∀y∈done++queue,y∈X
 nodup:(done++queue).Nodup
 par:∀y b,y++[b]∈done++queue->y∈done
 sorted:(done++queue).Pairwise fun a b=>a.length<=b.length
 near:∀x q,queue=x::q->∀y∈queue,y.length<=x.length+1
 root:[]∈done++queue
 clos:∀y b,y∈done->y++[b]∈X->y++[b]∈done++queue
theorem Bfs.start{X:List Txt}(h0:[]∈X):Bfs X [] [[]]:=by
 refine⟨?_,by simp,?_,by simp,?_,by simp,by simp⟩
 . intro y hy;simp at hy;subst hy;exact h0
 . intro y b h;simp at h
 . rintro x q h y hy;simp at hy;subst hy;simp
theorem Bfs.short{X done q:List Txt}{x:Txt}(H:Bfs X done (x::q))(hp:Pre X):∀(n:Nat) (y:Txt),y.length=n->y∈X->y.length<x.length->y∈done:=by
 have key:∀y,y∈done++x::q->y.length<x.length->y∈done:=by
  intro y hy hl
  rcases List.mem_append.1 hy with h|h
  . exact h
  . have h1:=H.sorted
    rw[List.pairwise_append] at h1
    rcases List.mem_cons.1 h with rfl|h
    . omega
    . have:=(List.pairwise_cons.1 h1.2.1).1 y h
      omega
 intro n
 induction n with
 |zero=>
  intro y hn hy hl
  have:y=[]:=List.length_eq_zero_iff.1 hn
  subst this
  exact key _ H.root hl
 |succ n ih=>
  intro y hn hy hl
  rcases List.eq_nil_or_concat y with e|⟨z,b,e⟩
  . subst e;simp at hn
  . have e':y=z++[b]:=by simpa using e
    subst e'
    simp at hn hl
    exact key _ (H.clos z b (ih z hn (hp z b hy) (by omega)) hy) (by simp;omega)
theorem Bfs.all{X done:List Txt}(H:Bfs X done [])(hp:Pre X):∀(n:Nat) (y:Txt),y.length=n->y∈X->y∈done:=by
 have e:done++[]=done:=List.append_nil _
 intro n
 induction n with
 |zero=>
  intro y hn hy
  have:y=[]:=List.length_eq_zero_iff.1 hn
  subst this
  have:=H.root
  rwa[e] at this
 |succ n ih=>
  intro y hn hy
  rcases List.eq_nil_or_concat y with e'|⟨z,b,e'⟩
  . subst e';simp at hn
  . have e'':y=z++[b]:=by simpa using e'
    subst e''
    simp at hn
    have:=H.clos z b (ih z hn (hp z b hy)) hy
    rwa[e] at this
theorem Bfs.step{X done q:List Txt}{x:Txt}(H:Bfs X done (x::q)):Bfs X (done++[x]) (q++kids X x 256):=by
 have e:done++[x]++(q++kids X x 256)=(done++x::q)++kids X x 256:=by simp
 have hxd:x∉done:=by
  have:=H.nodup
  rw[List.nodup_append] at this
  intro h
  exact this.2.2 x h x (by simp) rfl
 refine⟨?_,?_,?_,?_,?_,?_,?_⟩
 . intro y hy
   rw[e] at hy
   rcases List.mem_append.1 hy with h|h
   . exact H.sub y h
   . obtain⟨b,_,h2⟩:=mem_kids256.1 h;exact h2
 . rw[e,List.nodup_append]
   refine⟨H.nodup,kids_nodup (Nat.le_refl _),fun a ha b hb=>?_⟩
   rintro rfl
   obtain⟨c,rfl,_⟩:=mem_kids256.1 hb
   exact hxd (H.par x c ha)
 . intro y b hy
   rw[e] at hy
   rcases List.mem_append.1 hy with h|h
   . exact List.mem_append_left _ (H.par y b h)
   . obtain⟨c,h1,_⟩:=mem_kids256.1 h
     rw[(List.append_inj' h1 rfl).1]
     simp
 . rw[e,List.pairwise_append]
   refine⟨H.sorted,?_,fun a ha b hb=>?_⟩
   . refine List.Pairwise.imp_of_mem (R:=fun _ _=>True) (fun {a b} ha hb _=>?_) (List.pairwise_of_forall fun _ _=>trivial)
     obtain⟨c,rfl,_⟩:=mem_kids256.1 ha
     obtain⟨d,rfl,_⟩:=mem_kids256.1 hb
     simp
   . obtain⟨c,rfl,_⟩:=mem_kids256.1 hb
     simp only[List.length_append,List.length_singleton]
     rcases List.mem_append.1 ha with h|h
     . have:=(List.pairwise_append.1 H.sorted).2.2 a h x (by simp)
       omega
     . exact H.near x q rfl a h
 . rintro z r hz y hy
   have hz1:x.length<=z.length:=by
    cases q with
    |nil=>
     simp at hz
     have:z∈kids X x 256:=by rw[hz];simp
     obtain⟨c,rfl,_⟩:=mem_kids256.1 this
     simp
    |cons z' q'=>
     simp at hz
     obtain⟨rfl,_⟩:=hz
     have:=(List.pairwise_append.1 H.sorted).2.1
     exact (List.pairwise_cons.1 this).1 z' (by simp)
   rcases List.mem_append.1 hy with h|h
   . have:=H.near x q rfl y (List.mem_cons_of_mem _ h)
     omega
   . obtain⟨c,rfl,_⟩:=mem_kids256.1 h
     simp;omega
 . rw[e];exact List.mem_append_left _ H.root
 . intro y b hy hm
   rw[e]
   rcases List.mem_append.1 hy with h|h
   . exact List.mem_append_left _ (H.clos y b h hm)
   . simp at h
     subst h
     exact List.mem_append_right _ (mem_kids256.2 ⟨b,rfl,hm⟩)
theorem Bfs.le{X done q:List Txt}(H:Bfs X done q):done.length+q.length<=X.length:=by
 have:=List.Nodup.length_le_of_subset H.nodup H.sub
 simpa using this
section
def grid(n:Nat)(tab:Nat->Nat->Nat):List AV:=(List.range (n*256)).map fun k=>.int .u16 ((tab (k / 256) (k % 256):Nat):Int)
def nums(n:Nat)(fl:Nat->Nat):List AV:=(List.range n).map fun s=>.int .i64 ((fl s:Nat):Int)
def outC(n:Nat)(ob:Nat->Nat)(ou:Nat->List Int):List AV:=(List.range n).map fun s=>intSl (ob s) (ou s)
theorem grid_len{n:Nat}{tab:Nat->Nat->Nat}:(grid n tab).length=n*256:=by simp[grid]
theorem nums_len{n:Nat}{fl:Nat->Nat}:(nums n fl).length=n:=by simp[nums]
theorem outC_len{n:Nat}{ob:Nat->Nat}{ou:Nat->List Int}:(outC n ob ou).length=n:=by simp[outC]
theorem grid_at{n:Nat}{tab:Nat->Nat->Nat}{s b:Nat}(hs:s<n)(hb:b<256):(grid n tab)[s*256+b]?=some (.int .u16 ((tab s b:Nat):Int)):=by
 have h1:s*256+b<n*256:=by omega
 have h2:(s*256+b) / 256=s:=by omega
 have h3:(s*256+b) % 256=b:=by omega
 simp[grid,h1,h2,h3]
theorem nums_at{n:Nat}{fl:Nat->Nat}{s:Nat}(hs:s<n):(nums n fl)[s]?=some (.int .i64 ((fl s:Nat):Int)):=by simp[nums,hs]
theorem outC_at{n:Nat}{ob:Nat->Nat}{ou:Nat->List Int}{s:Nat}(hs:s<n):(outC n ob ou)[s]?=some (intSl (ob s) (ou s)):=by simp[outC,hs]
theorem nums_get{n:Nat}{fl:Nat->Nat}{s:Nat}(h:s<(nums n fl).length):(nums n fl)[s]=.int .i64 ((fl s:Nat):Int):=by simp[nums]
theorem outC_get{n:Nat}{ob:Nat->Nat}{ou:Nat->List Int}{s:Nat}(h:s<(outC n ob ou).length):(outC n ob ou)[s]=intSl (ob s) (ou s):=by simp[outC]
structure AB where
 a:Nat
 nx:Nat
 fl:Nat
 ou:Nat
structure AutoAt (h:Heap) (B:AB) (n:Nat) (tab:Nat->Nat->Nat) (fl:Nat->Nat) (ob:Nat->Nat) (ou:Nat->List Int):Prop where
 hdr:h[B.a]?=some (.cells [.sl (some ⟨B.nx,0,n*256⟩) n n,.sl (some ⟨B.fl,0,n⟩) n n,.sl (some ⟨B.ou,0,n⟩) n n] 129 false)
 nx:h[B.nx]?=some (.cells (grid n tab) 132 true)
 fls:h[B.fl]?=some (.cells (nums n fl) 3 true)
 outs:h[B.ou]?=some (.cells (outC n ob ou) 30 true)
 inn:∀s,s<n->ou s≠[]->h[ob s]?=some (.cells (intCells (ou s)) 3 true)/\ob s∉[B.a,B.nx,B.fl,B.ou]
 nodup:[B.a,B.nx,B.fl,B.ou].Nodup
 small:n<=60000
 le:∀s b,tab s b<=65535
 lens:∀s,s<n->(ou s).length<=9000000000000
abbrev AB.ptr(B:AB):AV:=.ptr (some ⟨B.a,0,3⟩)
def AB.foot(B:AB)(n:Nat)(ob:Nat->Nat)(ou:Nat->List Int)(b:Nat):Prop:=b∈[B.a,B.nx,B.fl,B.ou]\/∃s,s<n/\ou s≠[]/\b=ob s
section
variable {h:Heap} {B:AB} {n:Nat} {tab:Nat->Nat->Nat} {fl:Nat->Nat} {ob:Nat->Nat} {ou:Nat->List Int}
theorem AutoAt.keep{h':Heap}{fp:Nat->Prop}(H:AutoAt h B n tab fl ob ou)(ho:Only fp h h')(hf:∀b,B.foot n ob ou b->¬fp b):AutoAt h' B n tab fl ob ou:=
 ⟨ho.at H.hdr (hf _ (.inl (by simp))),ho.at H.nx (hf _ (.inl (by simp))),ho.at H.fls (hf _ (.inl (by simp))),ho.at H.outs (hf _ (.inl (by simp))),
  fun s hs hne=>⟨ho.at (H.inn s hs hne).1 (hf _ (.inr ⟨s,hs,hne,rfl⟩)),(H.inn s hs hne).2⟩,H.nodup,H.small,H.le,H.lens⟩
theorem AutoAt.foot_lt(H:AutoAt h B n tab fl ob ou){b:Nat}(hb:B.foot n ob ou b):b<h.length:=by
 rcases hb with hb|⟨s,hs,hne,rfl⟩
 . simp at hb
   rcases hb with rfl|rfl|rfl|rfl
   . exact lt_of_at H.hdr
   . exact lt_of_at H.nx
   . exact lt_of_at H.fls
   . exact lt_of_at H.outs
 . exact lt_of_at (H.inn s hs hne).1
theorem auto_none(H:AutoAt h B n tab fl ob ou){s:Int}:D cfg 101 [B.ptr,.int .i64 s] h=some (.bool (decide (s<0\/(n:Int)<=s)),h):=by
 refine D_eq (call101 (R:=fun r h'=>r=_/\h'=_) (by simp) ?_)
 have h1:=H.hdr
 by_cases hs:s<0
 . simp[c101,c101_r0,c101_r1,fieldA,aload,row,h1,len1,alen,hs]
 . simp[c101,c101_r0,c101_r1,fieldA,aload,row,h1,len1,alen,hs]
theorem auto_in(H:AutoAt h B n tab fl ob ou){s:Nat}(hs:s<n):D cfg 101 [B.ptr,.int .i64 s] h=some (.bool false,h):=by
 rw[auto_none H]
 have:¬((s:Int)<0\/(n:Int)<=s):=by omega
 rw[decide_eq_false this]
theorem auto_next(H:AutoAt h B n tab fl ob ou){s:Nat}(hs:s<n){b:UInt8}:D cfg 53 [B.ptr,.int .i64 s,.int .u8 b.toNat] h=some (.int .i64 (tab s b.toNat),h):=by
 refine D_eq (call53 (R:=fun r h'=>r=_/\h'=_) (by simp) ?_)
 have h1:=H.hdr
 have h2:=H.nx
 have h3:=auto_in H hs
 have h4:(s:Int)<n:=by omega
 have hb:=b.toNat_lt
 have h5:=grid_at (tab:=tab) hs hb
 have h6:=H.le s b.toNat
 have h7:(b.toNat:Int)<256:=by omega
 have hw:IntKind.wrap .i64 (tab s b.toNat:Int)=tab s b.toNat:=wrap_i64 (by omega) (by omega)
 simp[c53,c53_r0,c53_r1,c53_r2,c53_r3,h3,h4,fieldA,aload,row,h1,h2,aindexAddr,grid_len,h5,hs,hb,h7,aconv,hw]
theorem auto_out(H:AutoAt h B n tab fl ob ou){s:Nat}(hs:s<n):∃b h',D cfg 54 [B.ptr,.int .i64 s] h=some (intSl b (ou s),h')/\Only (fun _=>False) h h'/\(ou s≠[]->h'[b]?=some (.cells (intCells (ou s)) 3 true)/\h.length<=b):=by
 have h1:=H.hdr
 have h2:=H.outs
 have h3:=auto_in H hs
 have h4:(s:Int)<n:=by omega
 have h5:=outC_at (ob:=ob) (ou:=ou) hs
 have hc:=clone_run (h:=h) (b:=ob s) (l:=ou s) (fun hne=>(H.inn s hs hne).1) (H.lens s hs)
 refine⟨h.length,if ou s=[] then h else h++[.cells (intCells (ou s)) 3 true],D_eq (call54 (R:=fun r h'=>r=_/\h'=_) (by simp) ?_),?_,fun hne=>⟨?_,Nat.le_refl _⟩⟩
 . simp[c54,c54_r0,c54_r1,c54_r2,c54_r3,h3,h4,fieldA,aload,row,h1,h2,aindexAddr,outC_len,outC_get,hs,hc]
   by_cases hne:ou s=[]<;>simp[intSl,hne]
 . split
   . exact .refl
   . exact .app
 . rw[if_neg hne];simp
end
end
section
theorem intSl_one{b:Nat}{l:List Int}:(intSl b l).one=true:=by unfold intSl;split<;>rfl
theorem intSl_cells{b:Nat}{l:List Int}:(intSl b l).cells=[intSl b l]:=by unfold intSl;split<;>rfl
theorem intSl_notTup{b:Nat}{l:List Int}:(intSl b l).notTup=true:=by unfold intSl;split<;>rfl
theorem intSl_ne{b:Nat}{l:List Int}(h:l≠[]):intSl b l=.sl (some ⟨b,0,l.length⟩) l.length l.length:=by simp[intSl,h]
theorem cells_agg{cs:List AV}:(AV.agg cs).cells=cs:=rfl
theorem cells_int{k:IntKind}{n:Int}:(AV.int k n).cells=[.int k n]:=rfl
theorem cells_sl{a:Option AA}{n c:Nat}:(AV.sl a n c).cells=[.sl a n c]:=rfl
theorem one_agg{cs:List AV}:(AV.agg cs).one=false:=rfl
theorem one_int{k:IntKind}{n:Int}:(AV.int k n).one=true:=rfl
theorem one_sl{a:Option AA}{n c:Nat}:(AV.sl a n c).one=true:=rfl
theorem notTup_int{k:IntKind}{n:Int}:(AV.int k n).notTup=true:=rfl
theorem touchD_no{n:Nat}:touchD n .no=.no:=rfl
theorem touchD_new{n:Nat}{o:AObj}:touchD n (.new o)=.blk n:=rfl
theorem touchD_set{n c:Nat}{o:AObj}:touchD n (.set c o)=.blk c:=rfl
theorem same_no{b:Nat}:Touch.same .no b=true:=rfl
theorem same_blk{c b:Nat}:Touch.same (.blk c) b=(b != c):=rfl
theorem same_heaps{h h':Heap}{b:Nat}:Touch.same (.heaps h h') b=sameAt h h' b:=rfl
def offSl(b o:Nat)(l:List Int):AV:=.sl (some ⟨b,o,l.length⟩) (l.length-o) (l.length-o)
theorem Sl1.src{h:Heap}{v:AV}{l:List Int}(H:Sl1 h v (intCells l)):srcCells Try.prog (look h) 3 v=some (l.length,intCells l):=by
 rcases H with⟨rfl,e⟩|⟨b,o,g,c,cs,rfl,h1,h2⟩
 . have:l=[]:=by simpa[intCells] using e
   subst this;rfl
 . simp only[intCells_len] at h2 ⊢
   by_cases hl:l.length=0
   . have:l=[]:=List.length_eq_zero_iff.1 hl
     subst this;simp[srcCells,intCells]
   . have h3:o+l.length<=cs.length:=by
      have:=congrArg List.length h2
      simp[intCells_len] at this
      omega
     simp[srcCells,hl,slCells,h1,h3,h2]
theorem append_ints{h:Heap}{b:Nat}{l:List Int}{v:AV}{l2:List Int}(hb:l≠[]->h[b]?=some (.cells (intCells l) 3 true))(hv:Sl1 h v (intCells l2))(hn:l.length+l2.length<=9000000000000):
  ∃δ,append2 Try.prog (look h) h.length 30 30 [intSl b l,v]=some (intSl (if l=[] then h.length else b) (l++l2),δ) /\
   (l++l2≠[]->(h.apply δ)[if l=[] then h.length else b]?=some (.cells (intCells (l++l2)) 3 true))/\Only (fun c=>c=b/\l≠[]) h (h.apply δ) /\
   (∀c,c<h.length->¬(c=b/\l≠[])->(touchD h.length δ).same c=true):=by
 have hs:=hv.src
 have hr:∀k,k<=9000000000000->k*8<=roomMax:=fun k hk=>by simp only[roomMax];omega
 by_cases h2:l2=[]
 . subst h2
   refine⟨.no,?_,?_,.refl,fun _ _ _=>rfl⟩
   . by_cases h1:l=[]
     . subst h1;simp[append2,aappend,hs,aappendE,intSl]
     . simp[append2,aappend,hs,aappendE,intSl_ne h1,h1]
   . intro hne
     simp at hne
     simp[hne,hb hne,Heap.apply]
 . have hl2:l2.length≠0:=fun e=>h2 (List.length_eq_zero_iff.1 e)
   by_cases h1:l=[]
   . subst h1
     refine⟨.new (.cells (intCells l2) 3 true),?_,fun _=>by simp[Heap.apply],by simp only[Heap.apply];exact .app,fun c hc _=>by simp[bne_dec];omega⟩
     have:=hr l2.length (by omega)
     have h6:l2.length<=9223372036854775807:=by omega
     simp[append2,aappend,hs,aappendE,intSl,h2,this,h6,intCells_len]
   . have hb1:=hb h1
     refine⟨.set b (.cells (intCells (l++l2)) 3 true),?_,fun _=>?_,by simp only[Heap.apply];exact .set ⟨rfl,h1⟩,fun c hc hne=>by simp[bne_dec];intro e;exact hne ⟨e,h1⟩⟩
     . have h5:=hr (l.length+l2.length) (by omega)
       have h6:l.length+l2.length<=9223372036854775807:=by omega
       have h7:¬(l.length+l2.length<=l.length):=by omega
       have h8:intCells l++intCells l2=intCells (l++l2):=by simp[intCells]
       simp[append2,aappend,hs,aappendE,intSl,h1,h2,hb1,intCells_len,h5,h6,h7,take_all,h8]
     . simp[h1,Heap.apply,lt_of_at hb1]
theorem append_off{h:Heap}{b o:Nat}{l:List Int}{v:AV}{l2:List Int}(hb:h[b]?=some (.cells (intCells l) 3 true))(ho:o<=l.length)(hv:Sl1 h v (intCells l2))(hn:l.length+l2.length<=1000000):
  ∃δ,append2 Try.prog (look h) h.length 30 30 [offSl b o l,v]=some (offSl b o (l++l2),δ) /\
   (h.apply δ)[b]?=some (.cells (intCells (l++l2)) 3 true)/\Only (fun c=>c=b) h (h.apply δ):=by
 have hs:=hv.src
 have hr:∀k,k<=1000000->k*8<=roomMax:=fun k hk=>by simp only[roomMax];omega
 by_cases h2:l2=[]
 . subst h2
   refine⟨.no,by simp[append2,aappend,hs,aappendE,offSl],by simp[Heap.apply,hb],.refl⟩
 . have hl2:l2.length≠0:=fun e=>h2 (List.length_eq_zero_iff.1 e)
   refine⟨.set b (.cells (intCells (l++l2)) 3 true),?_,?_,by simp only[Heap.apply];exact .set rfl⟩
   . have h5:=hr (l.length-o+l2.length) (by omega)
     have h6:l.length-o+l2.length<=9223372036854775807:=by omega
     have h7:¬(l.length-o+l2.length<=l.length-o):=by omega
     have h8:intCells l++intCells l2=intCells (l++l2):=by simp[intCells]
     have h9:o+(l.length-o)=l.length:=by omega
     have h10:l.length-o+l2.length=l.length+l2.length-o:=by omega
     simp only[append2,aappend,offSl]
     simp[hs,aappendE,hl2,h2,hb,intCells_len,h5,h6,h7,h9,take_all,h8]
     simp[offSl,h10]
   . simp[Heap.apply,lt_of_at hb]
theorem sort_run{h:Heap}{b:Nat}{l:List Int}(hb:l≠[]->h[b]?=some (.cells (intCells l) 3 true))(hl:l.length<=9000000000000):
  D cfg 120 [intSl b l] h=some (.tup [],if l=[] then h else h.set b (.cells (intCells (isort l)) 3 true)):=by
 refine D_of (n:=1) ?_
 have hx:cfg.ext 120=some extSort:=by rfl
 unfold acall
 rw[hx]
 by_cases h1:l=[]
 . subst h1;rfl
 . have hb1:=hb h1
   have hl0:l.length≠0:=fun e=>h1 (List.length_eq_zero_iff.1 e)
   obtain⟨k,hk⟩:∃k,l.length=k+1:=⟨l.length-1,by omega⟩
   have hu:unI ((intCells l).take l.length)=some l:=by rw[take_all];exact unI_map l
   have hle:l.length<=1000000000000000:=by omega
   have hsp:splice (intCells l) 0 ((isort l).map (.int .i64))=intCells (isort l):=by
    simp[splice,intCells,isort_len]
   have e:extSort [.sl (some ⟨b,0,l.length⟩) l.length l.length] h=match h[b]? with
     |some (.cells cs e g)=>
      if cs.length=l.length/\0+l.length<=cs.length/\l.length<=1000000000000000 then
       match unI ((cs.drop 0).take l.length) with
       |some zs=>some (.tup [],h.set b (.cells (splice cs 0 ((isort zs).map (.int .i64))) e g))
       |none=>none
      else none
     |_=>none:=by rw[hk];rfl
   simp only[intSl,h1,if_false]
   rw[e,hb1]
   simp only[intCells_len,List.drop_zero,Nat.zero_add]
   rw[if_pos ⟨trivial,Nat.le_refl _,hle⟩,hu]
   simp only[hsp]
theorem sameAt_of{h h':Heap}{b:Nat}{o:AObj}(h1:h[b]?=some o)(h2:h'[b]?=some o)(hb:o.beq o=true):sameAt h h' b=true:=by
 simp only[sameAt,h1,h2,hb]
def rowC(f:Nat->Nat):List AV:=(List.range 256).map fun b=>.int .u16 ((f b:Nat):Int)
theorem rowC_len{f:Nat->Nat}:(rowC f).length=256:=by simp[rowC]
theorem rowC_one{f:Nat->Nat}:(rowC f).all AV.one=true:=by simp[rowC,AV.one]
theorem grid_get{n:Nat}{tab:Nat->Nat->Nat}{k:Nat}:(grid n tab)[k]?=if k<n*256 then some (.int .u16 ((tab (k / 256) (k % 256):Nat):Int)) else none:=by
 simp only[grid,List.getElem?_map]
 split
 . rename_i h;simp[h]
 . rename_i h;simp;omega
theorem grid_row{n:Nat}{tab:Nat->Nat->Nat}{s:Nat}(hs:s<n):((grid n tab).drop (s*256)).take 256=rowC (tab s):=by
 apply List.ext_getElem?
 intro k
 rw[List.getElem?_take]
 by_cases hk:k<256
 . rw[if_pos hk,List.getElem?_drop,grid_get,if_pos (by omega)]
   have h1:(s*256+k) / 256=s:=by omega
   have h2:(s*256+k) % 256=k:=by omega
   simp[rowC,hk,h1,h2]
 . rw[if_neg hk]
   rw[List.getElem?_eq_none (by rw[rowC_len];omega)]
theorem grid_set{n:Nat}{tab:Nat->Nat->Nat}{s b v:Nat}(hs:s<n)(hb:b<256):(grid n tab).set (s*256+b) (.int .u16 (v:Int))=grid n (fun s' b'=>if s'=s/\b'=b then v else tab s' b'):=by
 apply List.ext_getElem?
 intro k
 by_cases hk:k=s*256+b
 . subst hk
   have h1:(s*256+b) / 256=s:=by omega
   have h2:(s*256+b) % 256=b:=by omega
   rw[List.getElem?_set_self (by rw[grid_len];omega),grid_get,if_pos (by omega),h1,h2]
   simp
 . rw[List.getElem?_set_ne (Ne.symm hk),grid_get,grid_get]
   split
   . have:¬(k / 256=s/\k % 256=b):=by rintro⟨h1,h2⟩;omega
     rw[if_neg this]
   . rfl
theorem grid_splice{n:Nat}{tab:Nat->Nat->Nat}{s:Nat}{f:Nat->Nat}(hs:s<n):splice (grid n tab) (s*256) (rowC f)=grid n (fun s' b'=>if s'=s then f b' else tab s' b'):=by
 have hlen:s*256+256<=(grid n tab).length:=by rw[grid_len];omega
 apply List.ext_getElem?
 intro k
 rw[grid_get]
 simp only[splice,List.getElem?_append,List.length_append,List.length_take,rowC_len,List.getElem?_take,List.getElem?_drop]
 rw[grid_len] at *
 by_cases h1:k<s*256
 . have h2:¬(k / 256=s):=by omega
   rw[if_pos (by omega),if_pos (by omega),if_pos h1,grid_get,if_neg h2]
 . by_cases h3:k<s*256+256
   . have h2:k / 256=s:=by omega
     have h4:k-min (s*256) (n*256)=k % 256:=by omega
     have h5:k % 256<256:=by omega
     rw[if_pos (by omega),if_neg (by omega),if_pos (by omega),h4,if_pos h2]
     simp[rowC,h5]
   . have h2:¬(k / 256=s):=by omega
     have h4:s*256+256+(k-(min (s*256) (n*256)+256))=k:=by omega
     rw[if_neg (by omega),h4,grid_get,if_neg h2]
theorem nums_set{n:Nat}{fl:Nat->Nat}{s v:Nat}:(nums n fl).set s (.int .i64 (v:Int))=nums n (fun s'=>if s'=s then v else fl s'):=by
 apply List.ext_getElem?
 intro k
 by_cases hk:k=s
 . subst hk
   by_cases hl:k<n
   . rw[List.getElem?_set_self (by rw[nums_len];exact hl),nums_at hl];simp
   . rw[List.getElem?_eq_none (by simp[nums_len];omega),List.getElem?_eq_none (by simp[nums_len];omega)]
 . rw[List.getElem?_set_ne (Ne.symm hk)]
   by_cases hl:k<n
   . rw[nums_at hl,nums_at hl,if_neg hk]
   . rw[List.getElem?_eq_none (by simp[nums_len];omega),List.getElem?_eq_none (by simp[nums_len];omega)]
theorem outC_set{n:Nat}{ob:Nat->Nat}{ou:Nat->List Int}{s b:Nat}{l:List Int}:(outC n ob ou).set s (intSl b l)=outC n (fun s'=>if s'=s then b else ob s') (fun s'=>if s'=s then l else ou s'):=by
 apply List.ext_getElem?
 intro k
 by_cases hk:k=s
 . subst hk
   by_cases hl:k<n
   . rw[List.getElem?_set_self (by rw[outC_len];exact hl),outC_at hl];simp
   . rw[List.getElem?_eq_none (by simp[outC_len];omega),List.getElem?_eq_none (by simp[outC_len];omega)]
 . rw[List.getElem?_set_ne (Ne.symm hk)]
   by_cases hl:k<n
   . rw[outC_at hl,outC_at hl,if_neg hk,if_neg hk]
   . rw[List.getElem?_eq_none (by simp[outC_len];omega),List.getElem?_eq_none (by simp[outC_len];omega)]
section
variable {h:Heap} {B:AB} {n:Nat} {tab:Nat->Nat->Nat} {fl:Nat->Nat} {ob:Nat->Nat} {ou:Nat->List Int}
theorem AutoAt.ne(H:AutoAt h B n tab fl ob ou):B.a≠B.nx/\B.a≠B.fl/\B.a≠B.ou/\B.nx≠B.fl/\B.nx≠B.ou/\B.fl≠B.ou:=by
 have:=H.nodup
 simp at this
 obtain⟨⟨h1,h2,h3⟩,⟨h4,h5⟩,h6⟩:=this
 exact⟨h1,h2,h3,h4,h5,h6⟩
theorem AutoAt.lt(H:AutoAt h B n tab fl ob ou):B.a<h.length/\B.nx<h.length/\B.fl<h.length/\B.ou<h.length:=⟨lt_of_at H.hdr,lt_of_at H.nx,lt_of_at H.fls,lt_of_at H.outs⟩
theorem AutoAt.setNx(H:AutoAt h B n tab fl ob ou){tab':Nat->Nat->Nat}(hle:∀s b,tab' s b<=65535):AutoAt (h.set B.nx (.cells (grid n tab') 132 true)) B n tab' fl ob ou:=by
 obtain⟨n1,n2,n3,n4,n5,n6⟩:=H.ne
 have hl:=H.lt
 refine⟨?_,?_,?_,?_,?_,H.nodup,H.small,hle,H.lens⟩
 . rw[List.getElem?_set_ne n1.symm];exact H.hdr
 . rw[List.getElem?_set_self hl.2.1]
 . rw[List.getElem?_set_ne n4];exact H.fls
 . rw[List.getElem?_set_ne n5];exact H.outs
 . intro s hs hne
   obtain⟨h1,h2⟩:=H.inn s hs hne
   refine⟨?_,h2⟩
   simp at h2
   rw[List.getElem?_set_ne (Ne.symm h2.2.1)];exact h1
theorem AutoAt.setFl(H:AutoAt h B n tab fl ob ou){fl':Nat->Nat}:AutoAt (h.set B.fl (.cells (nums n fl') 3 true)) B n tab fl' ob ou:=by
 obtain⟨n1,n2,n3,n4,n5,n6⟩:=H.ne
 have hl:=H.lt
 refine⟨?_,?_,?_,?_,?_,H.nodup,H.small,H.le,H.lens⟩
 . rw[List.getElem?_set_ne n2.symm];exact H.hdr
 . rw[List.getElem?_set_ne n4.symm];exact H.nx
 . rw[List.getElem?_set_self hl.2.2.1]
 . rw[List.getElem?_set_ne n6];exact H.outs
 . intro s hs hne
   obtain⟨h1,h2⟩:=H.inn s hs hne
   refine⟨?_,h2⟩
   simp at h2
   rw[List.getElem?_set_ne (Ne.symm h2.2.2.1)];exact h1
theorem AutoAt.renew(H:AutoAt h B n tab fl ob ou){h':Heap}{s b:Nat}{l:List Int}(ho:Only (fun c=>c=B.ou) h h')(hou:h'[B.ou]?=some (.cells ((outC n ob ou).set s (intSl b l)) 30 true))
  (hb:l≠[]->h'[b]?=some (.cells (intCells l) 3 true)/\h.length<=b) (hl:l.length<=9000000000000):AutoAt h' B n tab fl (fun s'=>if s'=s then b else ob s') (fun s'=>if s'=s then l else ou s'):=by
 obtain⟨n1,n2,n3,n4,n5,n6⟩:=H.ne
 have hlt:=H.lt
 refine⟨ho.at H.hdr n3,ho.at H.nx n5,ho.at H.fls n6,by rw[hou,outC_set],?_,H.nodup,H.small,H.le,?_⟩
 . intro s' hs' hne
   by_cases he:s'=s
   . subst he
     simp only[if_true] at hne ⊢
     obtain⟨h1,h2⟩:=hb hne
     refine⟨h1,?_⟩
     simp
     omega
   . simp only[if_neg he] at hne ⊢
     obtain⟨h1,h2⟩:=H.inn s' hs' hne
     refine⟨ho.at h1 ?_,h2⟩
     simp at h2
     exact h2.2.2.2
 . intro s' hs'
   by_cases he:s'=s
   . simp[he,hl]
   . simp only[if_neg he];exact H.lens s' hs'
end
end
section
theorem wrap_u16{n:Int}(h:0<=n)(h':n<=65535):IntKind.wrap .u16 n=n:=by
 simp only[IntKind.wrap,IntKind.signed,IntKind.bits]
 simp
 omega
def kidn(X:List Txt)(x:Txt)(b:Nat):List Int:=(kids X x b).map fun y=>((st X y:Nat):Int)
theorem kids_len{X:List Txt}{x:Txt}:∀{n:Nat},(kids X x n).length<=n
 |0=>by simp[kids]
 |n+1=>by
  have:=kids_len (X:=X) (x:=x) (n:=n)
  simp only[kids]
  split
  . simp;omega
  . omega
theorem kidn_len{X:List Txt}{x:Txt}{n:Nat}:(kidn X x n).length<=n:=by simp only[kidn,List.length_map];exact kids_len
abbrev rowEnv(B:AB)(Bt:TB)(s f:Nat)(lv:AV)(b:Nat):Env:=[(0,B.ptr),(1,Bt.ptr),(2,.int .i64 s),(7,.int .i64 f),(8,lv),(69,.int .i64 b)]
structure RowI (h₀:Heap) (B:AB) (n:Nat) (tab:Nat->Nat->Nat) (fl:Nat->Nat) (ob:Nat->Nat) (ou:Nat->List Int) (X:List Txt) (s f:Nat) (x:Txt) (b:Nat) (h:Heap) (tab':Nat->Nat->Nat) (fl':Nat->Nat) (bl:Nat):Prop where
 at_:AutoAt h B n tab' fl' ob ou
 t1:∀s' c,s'≠s->tab' s' c=tab s' c
 t2:∀c,c<256->tab' s c=if c<b/\x++[UInt8.ofNat c]∈X then st X (x++[UInt8.ofNat c]) else tab s c
 f1:x≠[]->∀c,c<b->x++[UInt8.ofNat c]∈X->fl' (st X (x++[UInt8.ofNat c]))=tab f c
 f2:∀s',(x=[]\/∀c,c<b->X[s']?≠some (x++[UInt8.ofNat c]))->fl' s'=fl s'
 only:Only (fun c=>c=B.nx\/c=B.fl) h₀ h
 blk:kidn X x b≠[]->h₀.length<=bl/\h[bl]?=some (.cells (intCells (kidn X x b)) 3 true)
def RowL(h₀:Heap)(B:AB)(Bt:TB)(n:Nat)(tab:Nat->Nat->Nat)(fl:Nat->Nat)(ob:Nat->Nat)(ou:Nat->List Int)(X:List Txt)(s f:Nat)(x:Txt)(m:Nat)(σ:St):Prop:=
 ∃b tab' fl' bl h,m=256-b/\b<=256/\σ=⟨rowEnv B Bt s f (intSl bl (kidn X x b)) b,h⟩/\RowI h₀ B n tab fl ob ou X s f x b h tab' fl' bl
section
variable {h₀:Heap} {B:AB} {Bt:TB} {T:TM} {n:Nat} {tab:Nat->Nat->Nat} {fl:Nat->Nat} {ob:Nat->Nat} {ou:Nat->List Int} {X ps:List Txt} {s f:Nat} {x:Txt}
theorem byte_inj{a b:Nat}(ha:a<256)(hb:b<256)(h:UInt8.ofNat a=UInt8.ofNat b):a=b:=by
 have:=congrArg UInt8.toNat h
 simp at this
 omega
theorem row_next(H:AutoAt h₀ B n tab fl ob ou)(hn:n=X.length){b:Nat}(hb:b<256){h2:Heap}{tab1:Nat->Nat->Nat}{fl2:Nat->Nat}{bl:Nat}(hs:s<n)(hm:x++[UInt8.ofNat b]∈X)
  (t1:∀s' c,s'≠s->tab1 s' c=tab s' c) (t2:∀c,c<256->tab1 s c=if c<b/\x++[UInt8.ofNat c]∈X then st X (x++[UInt8.ofNat c]) else tab s c)
  (H2:AutoAt h2 B n tab1 fl2 ob ou) (f1:x≠[]->∀c,c<b+1->x++[UInt8.ofNat c]∈X->fl2 (st X (x++[UInt8.ofNat c]))=tab f c)
  (f2:∀s',(x=[]\/∀c,c<b+1->X[s']?≠some (x++[UInt8.ofNat c]))->fl2 s'=fl s') (o2:Only (fun c=>c=B.nx\/c=B.fl) h₀ h2)
  (hbl:kidn X x b≠[]->h₀.length<=bl/\h2[bl]?=some (.cells (intCells (kidn X x b)) 3 true)):
  ∃tab2 h3 δ h4 bl',(grid n tab1).set (s*256+b) (.int .u16 ((st X (x++[UInt8.ofNat b]):Nat):Int))=grid n tab2/\h2.set B.nx (.cells (grid n tab2) 132 true)=h3 /\
   append2 Try.prog (look (h3++[AObj.cells [.int .i64 ((st X (x++[UInt8.ofNat b]):Nat):Int)] 3 true])) (h3.length+1) 30 30 [intSl bl (kidn X x b),.sl (some ⟨h3.length,0,1⟩) 1 1]=some (intSl bl' (kidn X x (b+1)),δ) /\
   Heap.apply (h3++[AObj.cells [.int .i64 ((st X (x++[UInt8.ofNat b]):Nat):Int)] 3 true]) δ=h4/\RowI h₀ B n tab fl ob ou X s f x (b+1) h4 tab2 fl2 bl':=by
 have hc:=st_lt hm
 obtain⟨n1,n2,n3,n4,n5,n6⟩:=H2.ne
 have hsm:=H2.small
 let tab2:Nat->Nat->Nat:=fun s' b'=>if s'=s/\b'=b then st X (x++[UInt8.ofNat b]) else tab1 s' b'
 have hle:∀s' b',tab2 s' b'<=65535:=by
  intro s' b'
  simp only[tab2]
  split
  . omega
  . exact H2.le s' b'
 have H3:=H2.setNx hle
 have hk:kidn X x (b+1)=kidn X x b++[((st X (x++[UInt8.ofNat b]):Nat):Int)]:=by simp[kidn,kids,hm]
 have o3:Only (fun c=>c=B.nx\/c=B.fl) h₀ (h2.set B.nx (.cells (grid n tab2) 132 true)):=o2.trans (.set (.inl rfl))
 have hlt:=H.lt
 have hbl3:kidn X x b≠[]->(h2.set B.nx (.cells (grid n tab2) 132 true))[bl]?=some (.cells (intCells (kidn X x b)) 3 true):=fun hne=>by
  obtain⟨h5,h6⟩:=hbl hne
  rw[List.getElem?_set_ne (by omega)];exact h6
 obtain⟨δ,h4,e1,e2,e3,e4⟩:=append_int (h:=h2.set B.nx (.cells (grid n tab2) 132 true)) (b:=bl) (l:=kidn X x b) (x:=((st X (x++[UInt8.ofNat b]):Nat):Int)) hbl3 (by have:=kidn_len (X:=X) (x:=x) (n:=b);omega)
 refine⟨tab2,_,δ,h4,_,grid_set hs hb,rfl,by rw[hk];exact e1,e2,?_⟩
 have hfoot:∀c,B.foot n ob ou c->¬(c=bl/\kidn X x b≠[]):=by
  rintro c hf ⟨rfl,hne⟩
  have:=H.foot_lt hf
  have:=(hbl hne).1
  omega
 refine⟨H3.keep e4 hfoot,fun s' c hne=>?_,fun c hc'=>?_,f1,f2,?_,fun _=>⟨?_,by rw[hk];exact e3⟩⟩
 . simp only[tab2,hne,false_and,if_false];exact t1 s' c hne
 . simp only[tab2,true_and]
   by_cases hcb:c=b
   . subst hcb
     rw[if_pos rfl,if_pos ⟨by omega,hm⟩]
   . rw[if_neg hcb,t2 c hc']
     by_cases h7:c<b
     . simp only[h7,true_and,show c<b+1 by omega]
     . rw[if_neg (fun h=>h7 h.1),if_neg (fun h=>by have:=h.1;omega)]
 . refine⟨Nat.le_trans o3.1 e4.1,fun c hc' hne=>?_⟩
   rw[e4.2 c (Nat.lt_of_lt_of_le hc' o3.1) (fun h=>by have:=(hbl h.2).1;have:=h.1;omega),o3.2 c hc' hne]
 . split
   . have:=o3.1;omega
   . rename_i hne;exact (hbl hne).1
theorem row_loop(H:AutoAt h₀ B n tab fl ob ou)(Ht:TrX h₀ Bt T X ps)(hn:n=X.length)(hd:∀b,Bt.foot T b->b≠B.nx/\b≠B.fl)(hx:X[s]?=some x)(hf:f<n)(hfs:x≠[]->f≠s)(hs0:s=0↔x=[]){Q:AExit->St->Prop}
  (hq:∀h' tab' fl' bl,RowI h₀ B n tab fl ob ou X s f x 256 h' tab' fl' bl->Q (.exit 0) ⟨rowEnv B Bt s f (intSl bl (kidn X x 256)) 256++[(70,.bool false)],h'⟩):
  Wt Try.prog (D cfg) (.loop c100_l9 (some [0,1,2,7,8,69])) ⟨rowEnv B Bt s f (.sl none 0 0) 0,h₀⟩ Q:=by
 have hs:s<n:=by rw[hn];exact (List.getElem?_eq_some_iff.1 hx).1
 have hk0:kidn X x 0=[]:=rfl
 refine Wt.loop (RowL h₀ B Bt n tab fl ob ou X s f x) (m:=256) ⟨0,tab,fl,0,h₀,rfl,by omega,by rw[hk0,intSl_nil],?_⟩ ?_
 . exact⟨H,fun _ _ _=>rfl,fun c _=>by rw[if_neg (fun h=>by have:=h.1;omega)],fun _ c hc=>by omega,fun _ _=>rfl,.refl,fun h=>absurd hk0 h⟩
 rintro m σ ⟨b,tab1,fl1,bl,h1,rfl,hb,rfl,I⟩
 have hcut:cut (some [0,1,2,7,8,69]) (rowEnv B Bt s f (intSl bl (kidn X x b)) b)=rowEnv B Bt s f (intSl bl (kidn X x b)) b:=by simp
 simp only[hcut]
 have hwr:IntKind.wrap .i64 ((b:Int)+1)=b+1:=wrap_i64 (by omega) (by omega)
 by_cases hb256:b<256
 . have hb':(b:Int)<256:=by omega
   have hc8:(UInt8.ofNat b).toNat=b:=by simp;omega
   have hw8:IntKind.wrap .u8 (b:Int)=(b:Int):=wrap_u8 (by omega) (by omega)
   have Ht1:TrX h1 Bt T X ps:=Ht.keep I.only fun c hc=>by have:=hd c hc;intro h;rcases h with h|h<;>simp[h] at this
   have A1:=I.at_
   have g1:=A1.hdr
   have g2:=A1.fls
   have g3:=A1.nx
   by_cases hm:x++[UInt8.ofNat b]∈X
   . have hc:=st_at hm
     have hcl:=st_lt hm
     have e1:=tr_child Ht1 hx hc
     rw[hc8] at e1
     have hw16:IntKind.wrap .u16 ((st X (x++[UInt8.ofNat b]):Nat):Int)=((st X (x++[UInt8.ofNat b]):Nat):Int):=wrap_u16 (by omega) (by have:=A1.small;omega)
     have hcn:((st X (x++[UInt8.ofNat b]):Nat):Int)<n:=by omega
     have hcn':st X (x++[UInt8.ofNat b])<n:=by omega
     have hsn:(s:Int)<n:=by omega
     have hsb:s*256+b+1<=n*256:=by omega
     have hcn1:st X (x++[UInt8.ofNat b])+1<=n:=by omega
     have hfn:(f:Int)<n:=by omega
     by_cases hx0:x=[]
     . have hs00:=hs0.2 hx0
       obtain⟨tab2,h3,δ,h4,bl',e2,e3,e4,e5,I2⟩:=row_next (f:=f) H hn hb256 hs hm I.t1 I.t2 A1 (fun h=>absurd hx0 h) (fun s' h=>I.f2 s' (.inl hx0)) I.only I.blk
       have hnext:RowL h₀ B Bt n tab fl ob ou X s f x (256-(b+1)) ⟨rowEnv B Bt s f (intSl bl' (kidn X x (b+1))) (b+1:Nat),h4⟩:=⟨b+1,tab2,fl1,bl',h4,rfl,by omega,rfl,I2⟩
       have hs00':¬(0<s):=by omega
       simp[c100_l9,c100_r9,c100_r10,c100_r11,c100_r12,c100_r13,c100_r15,c100_r16,c100_r17,hb',aconv,hw8,e1,extractV,hs00',fieldA,aload,row,g1,g3,hw16,aindexAddr,hsn,hs,hsb,hb256,grid_len,astore,e2,e3,abuildSlice,afill,zeros,e4,e5,hwr]
       exact⟨_,by omega,hnext⟩
     . have hs00:s≠0:=fun h=>hx0 (hs0.1 h)
       have hs00':0<s:=by omega
       obtain⟨fl2,hfl2⟩:∃g:Nat->Nat,g=fun s'=>if s'=st X (x++[UInt8.ofNat b]) then tab1 f b else fl1 s':=⟨_,rfl⟩
       have hset:(nums n fl1).set (st X (x++[UInt8.ofNat b])) (.int .i64 ((tab1 f b:Nat):Int))=nums n fl2:=by rw[nums_set,hfl2]
       obtain⟨h2,hh2⟩:∃h2,h1.set B.fl (.cells (nums n fl2) 3 true)=h2:=⟨_,rfl⟩
       have A2:AutoAt h2 B n tab1 fl2 ob ou:=by rw[<-hh2];exact A1.setFl
       have hlt:=H.lt
       have o2:Only (fun c=>c=B.nx\/c=B.fl) h₀ h2:=by rw[<-hh2];exact I.only.trans (.set (.inr rfl))
       have hblk:kidn X x b≠[]->h₀.length<=bl/\h2[bl]?=some (.cells (intCells (kidn X x b)) 3 true):=fun hne=>by
        obtain⟨h5,h6⟩:=I.blk hne
        refine⟨h5,?_⟩
        rw[<-hh2,List.getElem?_set_ne (by omega)];exact h6
       obtain⟨tab2,h3,δ,h4,bl',e2,e3,e4,e5,I2⟩:=row_next (f:=f) H hn hb256 hs hm I.t1 I.t2 A2 (fun _ c hcb hcm=>by
         rw[hfl2]
         simp only
         by_cases hcb':c=b
         . subst hcb';rw[if_pos rfl,I.t1 f c (hfs hx0)]
         . rw[if_neg,I.f1 hx0 c (by omega) hcm]
           intro e
           have:=st_inj hcm hm e
           simp at this
           have:=byte_inj (a:=c) (b:=b) (by omega) hb256 (by simpa using this)
           exact hcb' this) (fun s' h=>by
         rw[hfl2]
         simp only
         rcases h with h|h
         . exact absurd h hx0
         . rw[if_neg,I.f2 s' (.inr fun c hc'=>h c (by omega))]
           rintro rfl
           exact h b (by omega) hc) o2 hblk
       have hnext:RowL h₀ B Bt n tab fl ob ou X s f x (256-(b+1)) ⟨rowEnv B Bt s f (intSl bl' (kidn X x (b+1))) (b+1:Nat),h4⟩:=⟨b+1,tab2,fl2,bl',h4,rfl,by omega,rfl,I2⟩
       have g4:=A2.hdr
       have g5:=A2.nx
       have g6:=grid_at (tab:=tab1) hf hb256
       have hw64:IntKind.wrap .i64 ((tab1 f b:Nat):Int)=tab1 f b:=wrap_i64 (by omega) (by have:=A1.le f b;omega)
       simp[c100_l9,c100_r9,c100_r10,c100_r11,c100_r12,c100_r13,c100_r14,c100_r15,c100_r16,c100_r17,hb',aconv,hw8,e1,extractV,hs00',fieldA,aload,row,g1,g2,g3,g4,g5,g6,hw16,hw64,aindexAddr,hsn,hs,hsb,hfn,hf,hcn,hcn',hcn1,hb256,grid_len,nums_len,astore,hset,hh2,e2,e3,abuildSlice,afill,zeros,e4,e5,hwr]
       exact⟨_,by omega,hnext⟩
   . have e1:=tr_child_none Ht1 hx hm
     rw[hc8] at e1
     have hkk:kidn X x (b+1)=kidn X x b:=by simp[kidn,kids,hm]
     have hnext:RowL h₀ B Bt n tab fl ob ou X s f x (256-(b+1)) ⟨rowEnv B Bt s f (intSl bl (kidn X x (b+1))) (b+1:Nat),h1⟩:=by
      refine⟨b+1,tab1,fl1,bl,h1,rfl,by omega,rfl,A1,I.t1,fun c hc=>?_,fun h c hc hcm=>?_,fun s' h=>I.f2 s' ?_,I.only,by rw[hkk];exact I.blk⟩
      . rw[I.t2 c hc]
        by_cases hcb:c=b
        . subst hcb
          rw[if_neg (fun h=>hm h.2),if_neg (fun h=>hm h.2)]
        . by_cases h7:c<b
          . simp only[h7,true_and,show c<b+1 by omega]
          . rw[if_neg (fun h=>h7 h.1),if_neg (fun h=>by have:=h.1;omega)]
      . by_cases hcb:c=b
        . subst hcb;exact absurd hcm hm
        . exact I.f1 h c (by omega) hcm
      . rcases h with h|h
        . exact .inl h
        . exact .inr fun c hc=>h c (by omega)
     rw[hkk] at hnext
     simp[c100_l9,c100_r9,c100_r10,c100_r11,c100_r12,c100_r17,hb',aconv,hw8,e1,extractV,hwr]
     exact⟨_,by omega,hnext⟩
 . have:b=256:=by omega
   subst this
   have:=hq h1 tab1 fl1 bl I
   simp[c100_l9,c100_r9]
   simpa using this
end
end
section
theorem intSl_len{b:Nat}{l l':List Int}(h:l.length=l'.length):intSl b l=intSl b l':=by
 have:l=[]↔l'=[]:=by rw[<-List.length_eq_zero_iff,<-List.length_eq_zero_iff,h]
 simp only[intSl,this,h]
def rowOut(X ps:List Txt)(x:Txt)(o:List Int):List Int:=if x=[] then places x ps 0 else isort (o++places x ps 0)
structure RowX (h:Heap) (B:AB) (n:Nat) (tab:Nat->Nat->Nat) (fl:Nat->Nat) (ob:Nat->Nat) (ou:Nat->List Int) (X ps:List Txt) (s:Nat) (x:Txt) (h':Heap) (tab':Nat->Nat->Nat) (fl':Nat->Nat) (ob':Nat->Nat) (ou':Nat->List Int) (bl:Nat):Prop where
 at_:AutoAt h' B n tab' fl' ob' ou'
 t1:∀s' c,s'≠s->tab' s' c=tab s' c
 t2:∀c,c<256->tab' s c=if x++[UInt8.ofNat c]∈X then st X (x++[UInt8.ofNat c]) else if x=[] then tab s c else tab (fl s) c
 f1:x≠[]->∀c,c<256->x++[UInt8.ofNat c]∈X->fl' (st X (x++[UInt8.ofNat c]))=tab (fl s) c
 f2:∀s',(x=[]\/∀c,c<256->X[s']?≠some (x++[UInt8.ofNat c]))->fl' s'=fl s'
 o1:∀s',s'≠s->ou' s'=ou s'
 o2:ou' s=rowOut X ps x (ou (fl s))
 only:Only (fun c=>c=B.nx\/c=B.fl\/c=B.ou) h h'
 foot:∀c,B.foot n ob' ou' c->B.foot n ob ou c\/h.length<=c
 blk:kidn X x 256≠[]->h.length<=bl/\h'[bl]?=some (.cells (intCells (kidn X x 256)) 3 true)
section
variable {h:Heap} {B:AB} {Bt:TB} {T:TM} {n:Nat} {tab:Nat->Nat->Nat} {fl:Nat->Nat} {ob:Nat->Nat} {ou:Nat->List Int} {X ps:List Txt} {s:Nat} {x:Txt}
theorem row_end{h₁:Heap}{tab₁:Nat->Nat->Nat}{ob₁:Nat->Nat}{ou₁:Nat->List Int}(H:AutoAt h B n tab fl ob ou)(H1:AutoAt h₁ B n tab₁ fl ob₁ ou₁)(Ht:TrX h₁ Bt T X ps)(hn:n=X.length)(hd:∀b,Bt.foot T b->b≠B.nx/\b≠B.fl/\b≠B.ou)(hx:X[s]?=some x)(hf:fl s<n)
  (hfs:x≠[]->fl s≠s) (hs0:s=0↔x=[]) (t1:∀s' c,s'≠s->tab₁ s' c=tab s' c) (t2:∀c,c<256->tab₁ s c=if x=[] then tab s c else tab (fl s) c) (o1:∀s',s'≠s->ou₁ s'=ou s') (o2:ou₁ s=rowOut X ps x (ou (fl s)))
  (only:Only (fun c=>c=B.nx\/c=B.fl\/c=B.ou) h h₁) (foot:∀c,B.foot n ob₁ ou₁ c->B.foot n ob ou c\/h.length<=c)
  {R:AV->Heap->Prop} (hR:∀h' tab' fl' bl,RowX h B n tab fl ob ou X ps s x h' tab' fl' ob₁ ou₁ bl->R (intSl bl (kidn X x 256)) h'):
  Wt Try.prog (D cfg) (.seq (.reg c100_r7 none (some [0,1,2,7,8])) (.seq (.seq (.reg c100_r8 none (some [0,1,2,7,8,69])) (.block 0 (.loop c100_l9 (some [0,1,2,7,8,69])))) (.seq (.reg c100_r18 none (some [6])) .ret))) ⟨[(0,B.ptr),(1,Bt.ptr),(2,.int .i64 s),(7,.int .i64 (fl s:Nat))],h₁⟩ (Ends Try.prog [.tmp 6] R):=by
 have hloop:=fun Q hq=>row_loop (Q:=Q) H1 Ht hn (fun b hb=>⟨(hd b hb).1,(hd b hb).2.1⟩) hx hf hfs hs0 hq
 simp[c100_r7,c100_r8]
 simp[rowEnv] at hloop
 refine hloop _ fun h' tab' fl' bl I=>?_
 have hfin:=hR h' tab' fl' bl ⟨I.at_,fun s' c hne=>by rw[I.t1 s' c hne,t1 s' c hne],fun c hc=>?_,fun hne c hc hcm=>?_,I.f2,o1,o2,?_,foot,fun hne=>?_⟩
 . simp[c100_r18,-AV.notTup,intSl_notTup]
   exact hfin
 . rw[I.t2 c hc,t2 c hc]
   simp[hc]
 . rw[I.f1 hne c hc hcm,t1 _ _ (hfs hne)]
 . exact only.trans (I.only.mono fun b _ hb=>by rcases hb with hb|hb<;>simp[hb])
 . obtain⟨h1,h2⟩:=I.blk hne
   exact⟨Nat.le_trans only.1 h1,h2⟩
theorem row_run(H:AutoAt h B n tab fl ob ou)(Ht:TrX h Bt T X ps)(hn:n=X.length)(hps:ps.length<=9000000000000)(hd:∀b,Bt.foot T b->b≠B.nx/\b≠B.fl/\b≠B.ou)(hx:X[s]?=some x)(hf:fl s<n)
  (hfs:x≠[]->fl s≠s) (hs0:s=0↔x=[]) (hou:x≠[]->(ou (fl s)).length+(places x ps 0).length<=9000000000000):
  ∃h' tab' fl' ob' ou' bl,D cfg 100 [B.ptr,Bt.ptr,.int .i64 s] h=some (intSl bl (kidn X x 256),h')/\RowX h B n tab fl ob ou X ps s x h' tab' fl' ob' ou' bl:=by
 have key:∃r h',D cfg 100 [B.ptr,Bt.ptr,.int .i64 s] h=some (r,h')/\(∃tab' fl' ob' ou' bl,r=intSl bl (kidn X x 256)/\RowX h B n tab fl ob ou X ps s x h' tab' fl' ob' ou' bl):=by
  refine call100 (R:=fun r h'=>∃tab' fl' ob' ou' bl,r=intSl bl (kidn X x 256)/\RowX h B n tab fl ob ou X ps s x h' tab' fl' ob' ou' bl) (args:=[B.ptr,Bt.ptr,.int .i64 s]) (h:=h) (by simp) ?_
  have hs:s<n:=by rw[hn];exact (List.getElem?_eq_some_iff.1 hx).1
  have hsn:(s:Int)<n:=by omega
  have hs1:s+1<=n:=hs
  have hfn:((fl s:Nat):Int)<n:=by omega
  have g1:=H.hdr
  have g2:=H.fls
  have g3:=H.nx
  have g4:=H.outs
  have g5:=nums_at (fl:=fl) hs
  obtain⟨n1,n2,n3,n4,n5,n6⟩:=H.ne
  have hlt:=H.lt
  have hpl:(places x ps 0).length<=9000000000000:=Nat.le_trans places_len hps
  by_cases hx0:x=[]
  . have hs00:=hs0.2 hx0
    have hs00':¬(0<s):=by omega
    obtain⟨b1,h1,e1,p1,d1⟩:=tr_endsB Ht (by omega) hx
    have hsame:sameAt h h1 B.a=true:=sameAt_of g1 (p1.at g1 id) (by simp[AObj.beq,beqL,AV.beq,AV.beqP,oAA,AA.beq])
    have k1:=p1.at g1 id
    have k4:=p1.at g4 id
    obtain⟨h2,hh2⟩:∃h2,h1.set B.ou (.cells ((outC n ob ou).set s (intSl b1 (places x ps 0))) 30 true)=h2:=⟨_,rfl⟩
    have q2:Only (fun c=>c=B.ou) h h2:=by rw[<-hh2];exact (p1.mono fun _ _=>False.elim).trans (.set rfl)
    have A2:=H.renew (s:=s) (b:=b1) (l:=places x ps 0) q2 (by rw[<-hh2,List.getElem?_set_self (lt_of_at k4)]) (fun hne=>by
     obtain⟨i1,i2⟩:=d1 hne
     refine⟨?_,by omega⟩
     rw[<-hh2,List.getElem?_set_ne (by omega)];exact i2) (by omega)
    have Ht2:TrX h2 Bt T X ps:=Ht.keep q2 fun b hb=>by have:=(hd b hb).2.2;exact this
    have hend:=fun hR=>row_end (R:=fun r h'=>∃tab' fl' ob' ou' bl,r=intSl bl (kidn X x 256)/\RowX h B n tab fl ob ou X ps s x h' tab' fl' ob' ou' bl) H A2 Ht2 hn hd hx hf hfs hs0 (fun _ _ _=>rfl) (fun c _=>by rw[if_pos hx0]) (fun s' hne=>by simp[hne]) (by simp[rowOut,hx0]) (q2.mono fun _ _ h=>.inr (.inr h)) (fun c hc=>by
     rcases hc with hc|⟨s',h1',h2',h3'⟩
     . exact .inl (.inl hc)
     . by_cases he:s'=s
       . subst he
         simp only[if_true] at h2' h3'
         rw[h3',(d1 h2').1]
         exact .inr (Nat.le_refl _)
       . simp only[if_neg he] at h2' h3'
         exact .inl (.inr ⟨s',h1',h2',h3'⟩)) hR
    have hend':=hend fun h' tab' fl' bl I=>⟨tab',fl',_,_,bl,rfl,I⟩
    simp only[c100,Wt_seq] at hend' ⊢
    simp[-AV.cells,-AV.one,-touchD,-Touch.same,touchD_no,touchD_new,touchD_set,same_no,same_blk,same_heaps,-AV.notTup,cells_agg,cells_int,cells_sl,one_agg,one_int,one_sl,c100_r0,c100_r1,c100_r2,c100_r6,fieldA,aload,row,g1,g2,g3,g4,g5,aindexAddr,hs,hs1,hsn,nums_len,nums_get,outC_len,outC_get,hs00',e1,k1,k4,hsame,astore,intSl_one,intSl_cells,hh2]
    simpa using hend'
  . have hs00:s≠0:=fun h=>hx0 (hs0.1 h)
    have hou:=hou hx0
    have hs00':0<s:=by omega
    have hrow:=grid_row (tab:=tab) hf
    have hle:fl s*256+256<=n*256:=by omega
    have hle':s*256+256<=n*256:=by omega
    obtain⟨tabR,htR⟩:∃g:Nat->Nat->Nat,g=fun s' b'=>if s'=s then tab (fl s) b' else tab s' b':=⟨_,rfl⟩
    have hspl:splice (grid n tab) (s*256) (rowC (tab (fl s)))=grid n tabR:=by rw[grid_splice hs,htR]
    obtain⟨h1,hh1⟩:∃h1,h.set B.nx (.cells (grid n tabR) 132 true)=h1:=⟨_,rfl⟩
    have A1:AutoAt h1 B n tabR fl ob ou:=by
     rw[<-hh1]
     refine H.setNx fun s' b'=>?_
     rw[htR]
     simp only
     split
     . exact H.le _ _
     . exact H.le _ _
    have q1:Only (fun c=>c=B.nx) h h1:=by rw[<-hh1];exact .set rfl
    have Ht1:TrX h1 Bt T X ps:=Ht.keep q1 fun b hb=>by have:=(hd b hb).1;exact this
    have hl1:h1.length=h.length:=by rw[<-hh1];simp
    have k1:=A1.hdr
    have k4:=A1.outs
    have hcl:=clone_run (h:=h1) (b:=ob (fl s)) (l:=ou (fl s)) (fun hne=>(A1.inn (fl s) hf hne).1) (by omega)
    obtain⟨h2,e2,o2,c2⟩:∃h2,D cfg 93 [intSl (ob (fl s)) (ou (fl s))] h1=some (intSl h1.length (ou (fl s)),h2)/\Only (fun _=>False) h1 h2/\(ou (fl s)≠[]->h2[h1.length]?=some (.cells (intCells (ou (fl s))) 3 true)):=by
     refine⟨_,hcl,?_,fun hne=>?_⟩
     . split
       . exact .refl
       . exact .app
     . rw[if_neg hne];simp
    obtain⟨b3,h3,e3,o3,c3⟩:=tr_endsB (Ht1.same o2) (by omega) hx
    have s1:sameAt h1 h2 B.a=true:=sameAt_of k1 (o2.at k1 id) (by simp[AObj.beq,beqL,AV.beq,AV.beqP,oAA,AA.beq])
    have s2:sameAt h2 h3 B.a=true:=sameAt_of (o2.at k1 id) (o3.at (o2.at k1 id) id) (by simp[AObj.beq,beqL,AV.beq,AV.beqP,oAA,AA.beq])
    have k2:=o2.at k1 id
    have k3:=o3.at k2 id
    have k4':=o3.at (o2.at k4 id) id
    have hv3:Sl1 h3 (intSl b3 (places x ps 0)) (intCells (places x ps 0)):=Sl1.ints fun hne=>(c3 hne).2
    obtain⟨δ,e4,d4,o4,t4⟩:=append_ints (h:=h3) (b:=h1.length) (l:=ou (fl s)) (v:=intSl b3 (places x ps 0)) (l2:=places x ps 0) (fun hne=>o3.at (c2 hne) id) hv3 (by omega)
    have hlt1:=A1.lt
    have hlen12:=o2.1
    have hlen23:=o3.1
    have ht4:=t4 B.a (by omega) (fun h=>by omega)
    obtain⟨b4,hb4⟩:∃b4,(if ou (fl s)=[] then h3.length else h1.length)=b4:=⟨_,rfl⟩
    have hb4':h1.length<=b4:=by rw[<-hb4];split<;>omega
    rw[hb4] at e4 d4
    obtain⟨L,hL⟩:∃L,ou (fl s)++places x ps 0=L:=⟨_,rfl⟩
    rw[hL] at e4 d4
    have hLl:L.length<=9000000000000:=by rw[<-hL];simp;omega
    obtain⟨h4,hh4⟩:∃h4,h3.apply δ=h4:=⟨_,rfl⟩
    rw[hh4] at d4 o4
    have o14:Only (fun c=>c=B.ou) h1 h4:=by
     refine⟨by have:=o4.1;omega,fun c hc hne=>?_⟩
     rw[o4.2 c (by omega) (fun h=>by omega),o3.2 c (by omega) id,o2.2 c hc id]
    have k5:h4[B.ou]?=some (.cells (outC n ob ou) 30 true):=o4.at k4' (fun h=>by omega)
    have k5':h4[B.a]?=_:=o4.at k3 (fun h=>by omega)
    obtain⟨h5,hh5⟩:∃h5,h4.set B.ou (.cells ((outC n ob ou).set s (intSl b4 L)) 30 true)=h5:=⟨_,rfl⟩
    have o15:Only (fun c=>c=B.ou) h1 h5:=by rw[<-hh5];exact o14.trans (.set rfl)
    have k6:h5[B.ou]?=some (.cells ((outC n ob ou).set s (intSl b4 L)) 30 true):=by rw[<-hh5,List.getElem?_set_self (lt_of_at k5)]
    have k6':h5[B.a]?=_:=o15.at k1 n3
    have k6s:((outC n ob ou).set s (intSl b4 L))[s]?=some (intSl b4 L):=List.getElem?_set_self (by rw[outC_len];exact hs)
    have d5:L≠[]->h5[b4]?=some (.cells (intCells L) 3 true):=fun hne=>by
     rw[<-hh5,List.getElem?_set_ne (by omega)];exact d4 hne
    have e6:=sort_run (h:=h5) (b:=b4) (l:=L) d5 hLl
    obtain⟨h6,hh6⟩:∃h6,(if L=[] then h5 else h5.set b4 (.cells (intCells (isort L)) 3 true))=h6:=⟨_,rfl⟩
    rw[hh6] at e6
    have o16:Only (fun c=>c=B.ou) h1 h6:=by
     rw[<-hh6]
     split
     . exact o15
     . refine⟨by have:=o15.1;simp;omega,fun c hc hne=>?_⟩
       rw[List.getElem?_set_ne (by omega),o15.2 c hc hne]
    have hni:isort L=[]↔L=[]:=by rw[<-List.length_eq_zero_iff,isort_len,List.length_eq_zero_iff]
    have A6:=A1.renew (s:=s) (b:=b4) (l:=isort L) o16 (by
     rw[intSl_len (l':=L) isort_len,<-hh6]
     split
     . exact k6
     . rw[List.getElem?_set_ne (by omega)];exact k6) (fun hne=>by
     rw[<-hh6,if_neg (fun h=>hne (hni.2 h))]
     have:=lt_of_at (d5 fun h=>hne (hni.2 h))
     exact⟨by simp[this],hb4'⟩) (by rw[isort_len];omega)
    have Ht6:TrX h6 Bt T X ps:=Ht1.keep o16 fun b hb=>(hd b hb).2.2
    have o06:Only (fun c=>c=B.nx\/c=B.fl\/c=B.ou) h h6:=(q1.mono fun _ _ h=>.inl h).trans (o16.mono fun _ _ h=>.inr (.inr h))
    have hend:=fun hR=>row_end (R:=fun r h'=>∃tab' fl' ob' ou' bl,r=intSl bl (kidn X x 256)/\RowX h B n tab fl ob ou X ps s x h' tab' fl' ob' ou' bl) H A6 Ht6 hn hd hx hf hfs hs0 (fun s' c hne=>by rw[htR];simp[hne]) (fun c _=>by rw[if_neg hx0,htR];simp) (fun s' hne=>by simp[hne]) (by simp[rowOut,hx0,hL]) o06 (fun c hc=>by
     rcases hc with hc|⟨s',h1',h2',h3'⟩
     . exact .inl (.inl hc)
     . by_cases he:s'=s
       . subst he
         simp only[if_true] at h2' h3'
         rw[h3']
         exact .inr (by omega)
       . simp only[if_neg he] at h2' h3'
         exact .inl (.inr ⟨s',h1',h2',h3'⟩)) hR
    have hend':=hend fun h' tab' fl' bl I=>⟨tab',fl',_,_,bl,rfl,I⟩
    have g6:=outC_at (ob:=ob) (ou:=ou) hf
    simp only[c100,Wt_seq] at hend' ⊢
    simp[-AV.cells,-AV.one,-touchD,-Touch.same,touchD_no,touchD_new,touchD_set,same_no,same_blk,same_heaps,-AV.notTup,cells_agg,cells_int,cells_sl,one_agg,one_int,one_sl,c100_r0,c100_r1,c100_r2,c100_r3,c100_r4,c100_r5,fieldA,aload,row,g1,g2,g3,g4,g5,g6,aindexAddr,hs,hs1,hsn,hf,hfn,hle,hle',nums_len,nums_get,outC_len,outC_get,grid_len,hs00',hrow,rowC_len,rowC_one,hspl,hh1,k1,k2,k3,k4,k4',k5,k5',k6,k6',k6s,e2,e3,e4,ht4,hh4,s1,s2,astore,intSl_one,intSl_cells,hh5,e6]
    simpa using hend'
 obtain⟨r,h',h1,tab',fl',ob',ou',bl,rfl,h2⟩:=key
 exact⟨h',tab',fl',ob',ou',bl,h1,h2⟩
end
end
section
structure AutoX (h:Heap) (B:AB) (X ps:List Txt) (tab:Nat->Nat->Nat) (fl ob:Nat->Nat) (ou:Nat->List Int):Prop where
 at_:AutoAt h B X.length tab fl ob ou
 nodup:X.Nodup
 zero:X[0]?=some []
 pre:Pre X
 sub:∀p∈ps,p∈X
 tab_:∀x∈X,∀c,c<256->tab (st X x) c=st X (lsuf X (x++[UInt8.ofNat c]))
 fl_:∀x∈X,fl (st X x)=st X (fsuf X x)
 ou_:∀x∈X,ou (st X x)=outs x ps 0
structure AutoI (h:Heap) (B:AB) (X ps:List Txt) (done queue:List Txt) (tab:Nat->Nat->Nat) (fl ob:Nat->Nat) (ou:Nat->List Int):Prop where
 at_:AutoAt h B X.length tab fl ob ou
 bfs:Bfs X done queue
 tab_:∀x∈done,∀c,c<256->tab (st X x) c=st X (lsuf X (x++[UInt8.ofNat c]))
 ou_:∀x∈done,ou (st X x)=outs x ps 0
 fl_:∀x∈done++queue,fl (st X x)=st X (fsuf X x)
 fl0:∀x∈X,x∉done++queue->fl (st X x)=0
 tab0:[]∉done->∀c,tab 0 c=0
theorem st_nil{X:List Txt}(hn:X.Nodup)(h0:X[0]?=some []):st X []=0:=st_eq hn h0
section
variable {h:Heap} {B:AB} {tab:Nat->Nat->Nat} {fl ob:Nat->Nat} {ou:Nat->List Int} {X ps done q:List Txt} {x:Txt}
theorem fsuf_mem(h0:[]∈X):fsuf X x∈X:=lsuf_mem h0
theorem outs_room(hx:x≠[])(hl:∀p∈ps,p∈X):(outs (fsuf X x) ps 0).length+(places x ps 0).length<=ps.length:=by
 have:=(outs_perm (X:=X) (i:=0) hx hl).length_eq
 simp at this
 have h2:=outs_len (x:=x) (l:=ps) (i:=0)
 omega
theorem AutoI.step{h':Heap}{tab':Nat->Nat->Nat}{fl' ob':Nat->Nat}{ou':Nat->List Int}{bl:Nat}(I:AutoI h B X ps done (x::q) tab fl ob ou)(hn:X.Nodup)(h0:X[0]?=some [])(hp:Pre X)(hsub:∀p∈ps,p∈X)
  (R:RowX h B X.length tab fl ob ou X ps (st X x) x h' tab' fl' ob' ou' bl):AutoI h' B X ps (done++[x]) (q++kids X x 256) tab' fl' ob' ou':=by
 have hm0:[]∈X:=List.mem_of_getElem? h0
 have hxX:x∈X:=I.bfs.sub x (by simp)
 have hs0:=st_nil hn h0
 have hxd:x∉done:=by
  have:=I.bfs.nodup
  rw[List.nodup_append] at this
  intro h
  exact this.2.2 x h x (by simp) rfl
 have hold:∀y∈done,st X y≠st X x:=fun y hy e=>hxd (by rw[<-st_inj (I.bfs.sub y (by simp[hy])) hxX e];exact hy)
 have hflx:fl (st X x)=st X (fsuf X x):=I.fl_ x (by simp)
 have hfd:x≠[]->fsuf X x∈done:=fun hx=>I.bfs.short hp _ _ rfl (fsuf_mem hm0) (fsuf_len hx)
 refine⟨R.at_,I.bfs.step,fun y hy c hc=>?_,fun y hy=>?_,fun y hy=>?_,fun y hyX hy=>?_,fun h=>?_⟩
 . rcases List.mem_append.1 hy with hy|hy
   . rw[R.t1 _ _ (hold y hy),I.tab_ y hy c hc]
   . simp at hy
     subst hy
     rw[R.t2 c hc]
     split
     . rename_i hm
       rw[lsuf_self hm]
     . rename_i hm
       split
       . rename_i he
         subst he
         simp only[List.nil_append] at hm ⊢
         rw[lsuf_miss0 hm,hs0,I.tab0 hxd]
       . rename_i hx
         rw[hflx,I.tab_ _ (hfd hx) c hc,lsuf_miss hm0 hp hx hm]
         rfl
 . rcases List.mem_append.1 hy with hy|hy
   . rw[R.o1 _ (hold y hy),I.ou_ y hy]
   . simp at hy
     subst hy
     rw[R.o2,rowOut]
     split
     . rename_i he
       subst he
       rw[outs_nil]
     . rename_i hx
       rw[hflx,I.ou_ _ (hfd hx),outs_sort hx hsub]
 . have hfk:∀z∈done++x::q,fl' (st X z)=st X (fsuf X z):=by
    intro z hz
    rw[R.f2,I.fl_ z hz]
    refine .inr fun c hc e=>?_
    rw[st_at (I.bfs.sub z hz)] at e
    simp at e
    subst e
    exact hxd (I.bfs.par x _ hz)
   rcases List.mem_append.1 hy with hy|hy
   . exact hfk y (by simp at hy ⊢;rcases hy with h|h<;>simp[h])
   . rcases List.mem_append.1 hy with hy|hy
     . exact hfk y (by simp[hy])
     . obtain⟨c,hc,rfl,hm⟩:=mem_kids.1 hy
       by_cases hx:x=[]
       . subst hx
         have hnq:[]++[UInt8.ofNat c]∉done++[]::q:=fun h=>hxd (I.bfs.par [] _ h)
         rw[R.f2 _ (.inl rfl),I.fl0 _ hm hnq]
         simp[fsuf,lsuf,hs0]
       . rw[R.f1 hx c hc hm,hflx,I.tab_ _ (hfd hx) c hc]
         congr 1
         simp only[fsuf]
         rw[lsuf_step hm0 hp]
         cases x with
         |nil=>exact absurd rfl hx
         |cons a r=>simp
 . have hy':y∉done++x::q:=fun h=>hy (by simp at h ⊢;rcases h with h|h|h<;>simp[h])
   rw[R.f2,I.fl0 y hyX hy']
   refine .inr fun c hc e=>?_
   rw[st_at hyX] at e
   simp at e
   subst e
   exact hy (by simp[mem_kids256.2 ⟨_,rfl,hyX⟩])
 . have hx:x≠[]:=fun e=>h (by simp[e])
   have hnd:[]∉done:=fun h'=>h (by simp[h'])
   intro c
   rw[R.t1 0 c (fun e=>hx (by rw[<-hs0] at e;exact (st_inj hm0 hxX e).symm)),I.tab0 hnd]
theorem AutoI.all(I:AutoI h B X ps done [] tab fl ob ou)(hn:X.Nodup)(h0:X[0]?=some [])(hp:Pre X)(hsub:∀p∈ps,p∈X):AutoX h B X ps tab fl ob ou:=by
 have hall:=fun y hy=>I.bfs.all hp _ y rfl hy
 exact⟨I.at_,hn,h0,hp,hsub,fun y hy=>I.tab_ y (hall y hy),fun y hy=>I.fl_ y (by simp[hall y hy]),fun y hy=>I.ou_ y (hall y hy)⟩
end
def qList(X:List Txt)(l:List Txt):List Int:=l.map fun y=>((st X y:Nat):Int)
structure QI (h₀:Heap) (B:AB) (Bt:TB) (T:TM) (X ps:List Txt) (qb:Nat) (done queue:List Txt) (o:Nat) (full:List Int) (h:Heap):Prop where
 auto:∃tab fl ob ou,AutoI h B X ps done queue tab fl ob ou/\(∀c,B.foot X.length ob ou c->h₀.length<=c/\c≠qb)
 trie:TrX h Bt T X ps
 q:h[qb]?=some (.cells (intCells full) 3 true)
 qh:full.drop o=qList X queue
 qo:o<=full.length
 qn:full.length<=X.length
 only:Only (fun _=>False) h₀ h
def QL(h₀:Heap)(B:AB)(Bt:TB)(T:TM)(X ps:List Txt)(qb:Nat)(m:Nat)(σ:St):Prop:=
 ∃done queue o full h,m=X.length-done.length/\σ=⟨[(6,Bt.ptr),(12,B.ptr),(13,offSl qb o full)],h⟩/\QI h₀ B Bt T X ps qb done queue o full h/\full.length=done.length+queue.length/\o=done.length
theorem queue_loop{h₀ h:Heap}{B:AB}{Bt:TB}{T:TM}{X ps:List Txt}{qb:Nat}(hX:X.length<=60000)(hps:ps.length<=9000000000000)(hqb:h₀.length<=qb)(hfoot:∀b,Bt.foot T b->b<h₀.length)(I0:QI h₀ B Bt T X ps qb [] [[]] 0 [0] h){Q:AExit->St->Prop}
  (hq:∀h' tab fl ob ou o full,AutoX h' B X ps tab fl ob ou->TrX h' Bt T X ps->Only (fun _=>False) h₀ h'->(∀c,B.foot X.length ob ou c->h₀.length<=c)->Q (.exit 4) ⟨[(6,Bt.ptr),(12,B.ptr),(13,offSl qb o full),(61,.bool false)],h'⟩):
  Wt Try.prog (D cfg) (.loop c52_l20 (some [6,12,13])) ⟨[(6,Bt.ptr),(12,B.ptr),(13,offSl qb 0 [0])],h⟩ Q:=by
 refine Wt.loop (QL h₀ B Bt T X ps qb) (m:=X.length) ⟨[],[[]],0,[0],h,rfl,rfl,I0,rfl,rfl⟩ ?_
 rintro m σ ⟨done,queue,o,full,h1,rfl,rfl,I,hfl,ho⟩
 have hcut:cut (some [6,12,13]) [(6,Bt.ptr),(12,B.ptr),(13,offSl qb o full)]=[(6,Bt.ptr),(12,B.ptr),(13,offSl qb o full)]:=by simp
 simp only[hcut]
 obtain⟨tab,fl,ob,ou,A,hown⟩:=I.auto
 have hn:=I.trie.model.nodup
 have h0:=I.trie.model.zero
 have hp:=I.trie.model.pre
 have hsub:=I.trie.model.sub
 have hm0:[]∈X:=List.mem_of_getElem? h0
 cases queue with
 |nil=>
  have hlen:full.length-o=0:=by simp at hfl;omega
  have hAll:=A.all hn h0 hp hsub
  have:=hq h1 tab fl ob ou o full hAll I.trie I.only fun c hc=>(hown c hc).1
  simp only[offSl] at this
  simp[c52_l20,c52_r20,offSl,len1,alen,hlen]
  simpa[hlen] using this
 |cons x q=>
  have hlen:0<full.length-o:=by simp at hfl;omega
  have hlen':(0:Int)<((full.length-o:Nat):Int):=by omega
  have hxX:x∈X:=A.bfs.sub x (by simp)
  have hsx:=st_at hxX
  have hslt:=st_lt hxX
  have hget:(intCells full)[o]?=some (.int .i64 ((st X x:Nat):Int)):=by
   have h1:(full.drop o)[0]?=(qList X (x::q))[0]?:=by rw[I.qh]
   rw[List.getElem?_drop] at h1
   simp[qList] at h1
   rw[intCells_at,h1];rfl
  have hflx:fl (st X x)=st X (fsuf X x):=A.fl_ x (by simp)
  have hff:fl (st X x)<X.length:=by rw[hflx];exact st_lt (fsuf_mem hm0)
  have hs0:=st_nil hn h0
  have hfs:x≠[]->fl (st X x)≠st X x:=fun hx e=>by
   rw[hflx] at e
   have:=st_inj (fsuf_mem hm0) hxX e
   have h2:=fsuf_len (X:=X) hx
   rw[this] at h2
   omega
  have hs00:st X x=0↔x=[]:=⟨fun e=>by rw[<-hs0] at e;exact st_inj hxX hm0 e,fun e=>by rw[e];exact hs0⟩
  have hfd:x≠[]->fsuf X x∈done:=fun hx=>A.bfs.short hp _ _ rfl (fsuf_mem hm0) (fsuf_len hx)
  have hd:∀b,Bt.foot T b->b≠B.nx/\b≠B.fl/\b≠B.ou:=fun b hb=>by
   have:=hfoot b hb
   have h1:=(hown B.nx (.inl (by simp))).1
   have h2:=(hown B.fl (.inl (by simp))).1
   have h3:=(hown B.ou (.inl (by simp))).1
   omega
  obtain⟨h2,tab',fl',ob',ou',bl,e1,R⟩:=row_run A.at_ I.trie rfl hps hd hsx hff hfs hs00 (fun hx=>by
   rw[hflx,A.ou_ _ (hfd hx)]
   have:=outs_room (X:=X) hx hsub
   omega)
  have A':=A.step hn h0 hp hsub R
  have hqlt:=lt_of_at I.q
  have hqn:∀c,B.foot X.length ob ou c->c≠qb:=fun c hc=>(hown c hc).2
  have q2:h2[qb]?=some (.cells (intCells full) 3 true):=R.only.at I.q fun h=>by
   rcases h with h|h|h
   . exact hqn B.nx (.inl (by simp)) h.symm
   . exact hqn B.fl (.inl (by simp)) h.symm
   . exact hqn B.ou (.inl (by simp)) h.symm
  have hkl:=kidn_len (X:=X) (x:=x) (n:=256)
  have hv2:Sl1 h2 (intSl bl (kidn X x 256)) (intCells (kidn X x 256)):=Sl1.ints fun hne=>(R.blk hne).2
  have hfulln:=I.qn
  obtain⟨δ,e2,d2,o2⟩:=append_off (b:=qb) (o:=o+1) (l:=full) q2 (by omega) hv2 (by omega)
  obtain⟨h3,hh3⟩:∃h3,h2.apply δ=h3:=⟨_,rfl⟩
  rw[hh3] at d2 o2
  have hown':∀c,B.foot X.length ob' ou' c->h₀.length<=c/\c≠qb:=fun c hc=>by
   rcases R.foot c hc with h|h
   . exact hown c h
   . have:=I.only.1
     exact⟨by omega,by omega⟩
  have hfoot1:∀b,Bt.foot T b->¬(b=B.nx\/b=B.fl\/b=B.ou):=fun b hb h=>by
   have:=hd b hb
   rcases h with h|h|h<;>simp[h] at this
  have Ht3:TrX h3 Bt T X ps:=(I.trie.keep R.only hfoot1).keep o2 fun b hb e=>by have:=hfoot b hb;omega
  have hnx:h₀.length<=B.nx:=(hown B.nx (.inl (by simp))).1
  have hfl':h₀.length<=B.fl:=(hown B.fl (.inl (by simp))).1
  have hou':h₀.length<=B.ou:=(hown B.ou (.inl (by simp))).1
  have only3:Only (fun _=>False) h₀ h3:=(I.only.fresh R.only fun c hc=>by rcases hc with rfl|rfl|rfl<;>assumption).fresh o2 fun c hc=>by rw[hc];exact hqb
  have hA3:AutoI h3 B X ps (done++[x]) (q++kids X x 256) tab' fl' ob' ou':=⟨A'.at_.keep o2 fun c hc e=>(hown' c hc).2 e,A'.bfs,A'.tab_,A'.ou_,A'.fl_,A'.fl0,A'.tab0⟩
  have hkk:(kidn X x 256).length=(kids X x 256).length:=by simp[kidn]
  have hle:=A'.bfs.le
  simp at hle
  simp only[List.length_cons] at hfl
  have hnext:QL h₀ B Bt T X ps qb (X.length-(done++[x]).length) ⟨[(6,Bt.ptr),(12,B.ptr),(13,offSl qb (o+1) (full++kidn X x 256))],h3⟩:=by
   refine⟨done++[x],q++kids X x 256,o+1,full++kidn X x 256,h3,rfl,rfl,⟨⟨tab',fl',ob',ou',hA3,hown'⟩,Ht3,d2,?_,by simp;omega,by simp;omega,only3⟩,by simp;omega,by simp;omega⟩
   rw[List.drop_append_of_le_length (by omega)]
   have h1:(full.drop o).drop 1=(qList X (x::q)).drop 1:=by rw[I.qh]
   rw[List.drop_drop] at h1
   rw[h1]
   simp[qList,kidn]
  have hsub1:full.length-o-1=full.length-(o+1):=by omega
  have hge:(1:Int)<=((full.length-o:Nat):Int):=by omega
  have hge':1<=full.length-o:=by omega
  have hoff:AV.sl (some ⟨qb,o+1,full.length⟩) (full.length-o-1) (full.length-o-1)=offSl qb (o+1) full:=by rw[hsub1];rfl
  have hsl:aslice Try.prog 30 (offSl qb o full) (some (.int .i64 1)) none none=some (offSl qb (o+1) full):=by
   simp[aslice,offSl,bound,hge,hge',hsub1]
  have hix:aindexAddr Try.prog 30 (offSl qb o full) (.int .i64 0)=some (.ptr (some ⟨qb,o,full.length⟩)):=by
   simp[aindexAddr,offSl,hlen,hlen']
  have hln:∀L,alen Try.prog L 30 (offSl qb o full)=some (.int .i64 ((full.length-o:Nat):Int)):=fun L=>by simp[alen,offSl]
  have hq1:=I.q
  simp[c52_l20,c52_r20,c52_r21,c52_r22,len1,hln,hlen,hlen',hix,aload,row,hq1,intCells_len,hget,hsl,e1,e2,hh3]
  refine⟨X.length-(done++[x]).length,by simp;omega,hnext⟩
end
section
def z132:List AV:=List.replicate 256 (.int .u16 0)
theorem tzero_132:tzero Try.prog 132=some (.agg z132):=by kernel_rfl
theorem z132_len:z132.length=256:=by simp[z132]
theorem zeros_rep{v:AV}{k:Nat}:∀n,zeros (List.replicate k v) n=List.replicate (n*k) v
 |0=>by simp[zeros]
 |n+1=>by
  simp only[zeros,zeros_rep n,List.replicate_append_replicate]
  congr 1
  rw[Nat.add_mul];omega
theorem zeros_grid{n:Nat}:zeros z132 n=grid n (fun _ _=>0):=by
 rw[z132,zeros_rep]
 apply List.ext_getElem?
 intro k
 rw[grid_get,List.getElem?_replicate]
 rfl
theorem zeros_nums{n:Nat}:zeros [AV.int .i64 0] n=nums n (fun _=>0):=by
 have:=zeros_rep (v:=AV.int .i64 0) (k:=1) n
 simp only[List.replicate_one,Nat.mul_one] at this
 rw[this]
 apply List.ext_getElem?
 intro k
 by_cases hk:k<n
 . rw[nums_at hk];simp[hk]
 . rw[List.getElem?_eq_none (by simp;omega),List.getElem?_eq_none (by rw[nums_len];omega)]
theorem zeros_out{n:Nat}:zeros [AV.sl none 0 0] n=outC n (fun _=>0) (fun _=>[]):=by
 have:=zeros_rep (v:=AV.sl none 0 0) (k:=1) n
 simp only[List.replicate_one,Nat.mul_one] at this
 rw[this]
 apply List.ext_getElem?
 intro k
 by_cases hk:k<n
 . rw[outC_at hk];simp[hk,intSl]
 . rw[List.getElem?_eq_none (by simp;omega),List.getElem?_eq_none (by rw[outC_len];omega)]
def bgood(l:List Txt):Bool:=l.all fun p=>decide (1<=p.length/\p.length<=16)
theorem bgood_at{l:List Txt}(h:bgood l=true){p:Txt}(hp:p∈l):1<=p.length/\p.length<=16:=by
 simp only[bgood,List.all_eq_true,decide_eq_true_eq] at h
 exact h p hp
theorem begs_app{a:List Txt}:∀{b:List Txt},(begs a).length<=(begs (a++b)).length
 |[]=>by simp
 |p::b=>by
  have h1:=begs_app (a:=a++[p]) (b:=b)
  have h2:=(addFrom_len (r:=p) (X:=begs a) (x:=[])).1
  rw[begs_snoc] at h1
  simp only[List.append_assoc,List.singleton_append] at h1
  omega
theorem begs_take{l:List Txt}{i:Nat}:(begs (l.take i)).length<=(begs l).length:=by
 have:=begs_app (a:=l.take i) (b:=l.drop i)
 rwa[List.take_append_drop] at this
section
variable {h₀ h:Heap} {v:AV} {l:List Txt} {bud:Int}
def Ck52(v:AV)(l:List Txt)(bud:Int)(P:AV)(h:Heap)(m:Nat)(σ:St):Prop:=
 ∃i,m=l.length-i/\i<=l.length/\σ=⟨[(0,v),(1,.int .i64 bud),(6,P),(16,v),(17,.int .i64 l.length),(18,.int .i64 i)],h⟩/\bgood (l.take i)=true
theorem check_loop{P:AV}(hv:Sl1 h v (strCells l))(hl:l.length<=9223372036854775807){Q:AExit->St->Prop}(hbad:bgood l=false->Q .ret ⟨[(4,.ptr none),(5,.int .i64 1)],h⟩)
  (hgood:bgood l=true->Q (.exit 0) ⟨[(0,v),(1,.int .i64 bud),(6,P),(16,v),(17,.int .i64 l.length),(18,.int .i64 l.length),(19,.bool false)],h⟩):
  Wt Try.prog (D cfg) (.loop c52_l3 (some [0,1,6,16,17,18])) ⟨[(0,v),(1,.int .i64 bud),(6,P),(16,v),(17,.int .i64 l.length),(18,.int .i64 0)],h⟩ Q:=by
 refine Wt.loop (Ck52 v l bud P h) (m:=l.length) ⟨0,rfl,Nat.zero_le _,rfl,rfl⟩ ?_
 rintro m σ ⟨i,rfl,hi,rfl,hg⟩
 have hcut:cut (some [0,1,6,16,17,18]) [(0,v),(1,.int .i64 bud),(6,P),(16,v),(17,.int .i64 l.length),(18,.int .i64 (i:Int))]=[(0,v),(1,.int .i64 bud),(6,P),(16,v),(17,.int .i64 l.length),(18,.int .i64 i)]:=by simp
 simp only[hcut]
 by_cases hil:i<l.length
 . have hil':(i:Int)<l.length:=by omega
   have hwr:IntKind.wrap .i64 ((i:Int)+1)=i+1:=wrap_i64 (by omega) (by omega)
   have a1:=hv.at (t:=38) (e:=9) (by simp) (by simp) (i:=i) (by rw[strCells_len];exact hil)
   have b1:=hv.load (e:=9) (by simp) (i:=i) (by rw[strCells_len];exact hil)
   rw[strCells_get,txt_eq] at b1
   have htk:l.take (i+1)=l.take i++[txt l i]:=by rw[List.take_succ_eq_append_getElem hil,txt_eq hil]
   by_cases hp:1<=(txt l i).length/\(txt l i).length<=16
   . have hnext:Ck52 v l bud P h (l.length-(i+1)) ⟨[(0,v),(1,.int .i64 bud),(6,P),(16,v),(17,.int .i64 l.length),(18,.int .i64 (i+1:Nat))],h⟩:=by
      refine⟨i+1,rfl,hil,rfl,?_⟩
      rw[htk]
      simp only[bgood,List.all_append,List.all_cons,List.all_nil,Bool.and_true,Bool.and_eq_true,decide_eq_true_eq] at hg ⊢
      exact⟨hg,hp⟩
     have hne:¬(txt l i=[]):=fun e=>by rw[e] at hp;simp at hp
     have hgt:¬((16:Int)<(txt l i).length):=by omega
     have hgt':¬(16<(txt l i).length):=by omega
     simp[c52_l3,c52_r3,c52_r4,c52_r5,c52_r7,hil,a1,b1,hne,len1,alen,hgt,hgt',hwr]
     exact⟨l.length-(i+1),by omega,by simpa using hnext⟩
   . have hbg:bgood l=false:=by
      simp only[bgood,List.all_eq_false,decide_eq_true_eq]
      refine⟨txt l i,?_,hp⟩
      rw[<-txt_eq hil]
      exact List.getElem_mem hil
     have:=hbad hbg
     by_cases hne:txt l i=[]
     . simp[c52_l3,c52_r3,c52_r4,c52_r5,c52_r6,hil,a1,b1,hne]
       exact this
     . have h1:(txt l i).length≠0:=fun e=>hne (List.length_eq_zero_iff.1 e)
       have hgt:(16:Int)<(txt l i).length:=by omega
       have hgt':16<(txt l i).length:=by omega
       simp[c52_l3,c52_r3,c52_r4,c52_r5,c52_r6,hil,a1,b1,hne,len1,alen,hgt,hgt']
       exact this
 . have:i=l.length:=by omega
   subst this
   rw[List.take_length] at hg
   have:=hgood hg
   simp[c52_l3,c52_r3]
   simpa using this
def lim(bud:Int):Int:=if (4096:Int)<bud then 4096 else bud
structure AddH (h₀:Heap) (B:TB) (T:TM) (ps:List Txt) (h:Heap):Prop where
 tr:TrX h B T (begs ps) ps
 only:Only (fun _=>False) h₀ h
 foot:∀b,B.foot T b->h₀.length<=b
def Ad52(h₀:Heap)(v:AV)(l:List Txt)(bud:Int)(P:AV)(m:Nat)(σ:St):Prop:=
 ∃i B T h,m=l.length-i/\i<=l.length/\B.ptr=P/\σ=⟨[(1,.int .i64 bud),(6,P),(30,v),(31,.int .i64 l.length),(32,.int .i64 i)],h⟩/\AddH h₀ B T (l.take i) h/\(i=0\/((begs (l.take i)).length:Int)<=lim bud)
theorem lim_le:lim bud<=4096:=by unfold lim;split<;>omega
theorem add_all{B:TB}{T:TM}(hv:Sl1 h₀ v (strCells l))(hvb:∀b,slB v=some b->b<h₀.length)(hl:l.length<=9000000000000)(hg:bgood l=true)(H:AddH h₀ B T [] h){Q:AExit->St->Prop}
  (hmany:l≠[]->lim bud<((begs l).length:Int)->∀h',Only (fun _=>False) h₀ h'->Q .ret ⟨[(4,.ptr none),(5,.int .i64 9)],h'⟩)
  (hdone:(l=[]\/((begs l).length:Int)<=lim bud)->∀B' T' h',B'.ptr=B.ptr->AddH h₀ B' T' l h'->Q (.exit 2) ⟨[(1,.int .i64 bud),(6,B.ptr),(30,v),(31,.int .i64 l.length),(32,.int .i64 l.length),(33,.bool false)],h'⟩):
  Wt Try.prog (D cfg) (.loop c52_l9 (some [1,6,30,31,32])) ⟨[(1,.int .i64 bud),(6,B.ptr),(30,v),(31,.int .i64 l.length),(32,.int .i64 0)],h⟩ Q:=by
 refine Wt.loop (Ad52 h₀ v l bud B.ptr) (m:=l.length) ⟨0,B,T,h,rfl,Nat.zero_le _,rfl,rfl,H,.inl rfl⟩ ?_
 rintro m σ ⟨i,B1,T1,h1,rfl,hi,hP,rfl,H1,hs⟩
 have hcut:cut (some [1,6,30,31,32]) [(1,.int .i64 bud),(6,B.ptr),(30,v),(31,.int .i64 l.length),(32,.int .i64 (i:Int))]=[(1,.int .i64 bud),(6,B.ptr),(30,v),(31,.int .i64 l.length),(32,.int .i64 i)]:=by simp
 simp only[hcut]
 by_cases hil:i<l.length
 . have hil':(i:Int)<l.length:=by omega
   have hwr:IntKind.wrap .i64 ((i:Int)+1)=i+1:=wrap_i64 (by omega) (by omega)
   have a1:=hv.at (t:=38) (e:=9) (by simp) (by simp) (i:=i) (by rw[strCells_len];exact hil)
   have b1:=(hv.same H1.only).load (e:=9) (by simp) (i:=i) (by rw[strCells_len];exact hil)
   rw[strCells_get,txt_eq] at b1
   have hp:=bgood_at hg (p:=txt l i) (by rw[<-txt_eq hil];exact List.getElem_mem hil)
   have hX:(begs (l.take i)).length<=4096:=by
    rcases hs with rfl|hs
    . simp[begs]
    . have:=lim_le (bud:=bud);omega
   have htk:l.take (i+1)=l.take i++[txt l i]:=by rw[List.take_succ_eq_append_getElem hil,txt_eq hil]
   have hps:(l.take i).length=i:=by simp;omega
   obtain⟨B2,T2,h2,e1,e2,H2,o2,f2⟩:=tr_addB H1.tr (by omega) (by omega) (p:=txt l i) (by omega)
   have htake:(txt l i).take 16=txt l i:=List.take_of_length_le hp.2
   rw[htake,<-begs_snoc,<-htk] at H2
   have o02:Only (fun _=>False) h₀ h2:=H1.only.fresh o2 fun c hc=>H1.foot c hc
   have hA:AddH h₀ B2 T2 (l.take (i+1)) h2:=⟨H2,o02,fun b hb=>by
    rcases f2 b hb with h|h
    . exact H1.foot b h
    . have:=H1.only.1;omega⟩
   have e3:=tr_states H2
   rw[hP] at e1
   rw[e2,hP] at e3
   have hlm:(if (4096:Int)<bud then (4096:Int) else bud)=lim bud:=rfl
   by_cases hm:lim bud<((begs (l.take (i+1))).length:Int)
   . have:=hmany (fun e=>by subst e;simp at hil) (by have:=begs_take (l:=l) (i:=i+1);omega) h2 o02
     simp[c52_l9,c52_r9,c52_r10,c52_r11,c52_r12,c52_r13,hil,a1,b1,e1,e3,amin,amin1,hlm,hm]
     exact this
   . have hnext:Ad52 h₀ v l bud B.ptr (l.length-(i+1)) ⟨[(1,.int .i64 bud),(6,B.ptr),(30,v),(31,.int .i64 l.length),(32,.int .i64 (i+1:Nat))],h2⟩:=⟨i+1,B2,T2,h2,rfl,hil,by rw[e2,hP],rfl,hA,.inr (by omega)⟩
     simp[c52_l9,c52_r9,c52_r10,c52_r11,c52_r12,c52_r14,hil,a1,b1,e1,e3,amin,amin1,hlm,hm,hwr]
     exact⟨l.length-(i+1),by omega,by simpa using hnext⟩
 . have:i=l.length:=by omega
   subst this
   rw[List.take_length] at H1 hs
   have:=hdone (by rcases hs with h|h;exact .inl (List.length_eq_zero_iff.1 h);exact .inr h) B1 T1 h1 hP H1
   simp[c52_l9,c52_r9]
   simpa using this
def BuildR(h:Heap)(l:List Txt)(bud:Int)(r:AV)(h':Heap):Prop:=
 Only (fun _=>False) h h' /\
 ((bgood l=false/\r=.tup [.ptr none,.int .i64 1]) \/
  (bgood l=true/\(bud<((begs l).length:Int)\/(l≠[]/\4096<(begs l).length))/\r=.tup [.ptr none,.int .i64 9]) \/
  (bgood l=true/\((begs l).length:Int)<=bud/\(begs l).length<=4096/\∃B tab fl ob ou,r=.tup [B.ptr,.int .i64 0]/\AutoX h' B (begs l) l tab fl ob ou/\∀c,B.foot (begs l).length ob ou c->h.length<=c))
theorem zero_auto{h:Heap}{n:Nat}(hn:n<=60000):
  AutoAt (h++[.cells (grid n fun _ _=>0) 132 true,.cells (nums n fun _=>0) 3 true,.cells (outC n (fun _=>0) fun _=>[]) 30 true,.cells [.sl (some ⟨h.length,0,n*256⟩) n n,.sl (some ⟨h.length+1,0,n⟩) n n,.sl (some ⟨h.length+2,0,n⟩) n n] 129 false,.cells [.int .i64 0] 3 true])
   ⟨h.length+3,h.length,h.length+1,h.length+2⟩ n (fun _ _=>0) (fun _=>0) (fun _=>0) (fun _=>[]):=by
 refine⟨?_,?_,?_,?_,fun s _ h=>absurd rfl h,?_,hn,fun _ _=>by omega,fun _ _=>by simp⟩
 . simp only[at_new];rfl
 . simp only[at_new0];rfl
 . simp only[at_new];rfl
 . simp only[at_new];rfl
 . simp
theorem build_run(hv:Sl1 h v (strCells l))(hvb:∀b,slB v=some b->b<h.length)(hl:l.length<=9000000000000):∃r h',D cfg 52 [v,.int .i64 bud] h=some (r,h')/\BuildR h l bud r h':=by
 refine call52 (R:=BuildR h l bud) (args:=[v,.int .i64 bud]) (h:=h) (by simp) ?_
 obtain⟨B,h1,e1,H1,o1,f1⟩:=tr_new (h:=h)
 have hlen:=fun L=>hv.len (t:=38) (e:=9) (by simp) (L:=L)
 simp only[strCells_len] at hlen
 have hck:=fun Q hb hg=>check_loop (h:=h1) (Q:=Q) (bud:=bud) (P:=B.ptr) (hv.same o1) (by omega) hb hg
 simp[c52,c52_r0,c52_r1,c52_r2,e1,len1,hlen]
 refine hck _ (fun hb=>?_) (fun hg=>?_)
 . simp
   exact⟨o1,.inl ⟨hb,rfl⟩⟩
 have hA0:AddH h B T0 [] h1:=⟨H1,o1,f1⟩
 have had:=fun Q hm hd=>add_all (Q:=Q) (bud:=bud) hv hvb hl hg hA0 hm hd
 simp[c52_r8,len1,hlen]
 refine had _ (fun hne hm h2 o2=>?_) (fun hd B2 T2 h2 eP H2=>?_)
 . simp
   refine⟨o2,.inr (.inl ⟨hg,?_,rfl⟩)⟩
   unfold lim at hm
   split at hm
   . exact .inr ⟨hne,by omega⟩
   . exact .inl hm
 have e3:=tr_states H2.tr
 rw[eP] at e3
 by_cases hb:bud<((begs l).length:Int)
 . simp[c52_r15,c52_r16,c52_r17,e3,hb]
   exact⟨H2.only,.inr (.inl ⟨hg,.inl hb,rfl⟩)⟩
 . have hX:(begs l).length<=4096:=by
    rcases hd with rfl|hd
    . simp[begs]
    . have:=lim_le (bud:=bud);omega
   have hz1:(512:Int)*((begs l).length:Int)<=281474976710656:=by omega
   have hz2:(8:Int)*((begs l).length:Int)<=281474976710656:=by omega
   have hz3:(24:Int)*((begs l).length:Int)<=281474976710656:=by omega
   have hz4:((begs l).length:Int)<=9223372036854775807:=by omega
   have hz5:(begs l).length<=9223372036854775807:=by omega
   have A0:=zero_auto (h:=h2) (n:=(begs l).length) (by omega)
   have hm0:[]∈begs l:=H2.tr.model.nil_mem
   have hnil:=st_nil H2.tr.model.nodup H2.tr.model.zero
   have hI:QI h2 ⟨h2.length+3,h2.length,h2.length+1,h2.length+2⟩ B2 T2 (begs l) l (h2.length+4) [] [[]] 0 [0] (h2++[.cells (grid (begs l).length fun _ _=>0) 132 true,.cells (nums (begs l).length fun _=>0) 3 true,.cells (outC (begs l).length (fun _=>0) fun _=>[]) 30 true,.cells [.sl (some ⟨h2.length,0,(begs l).length*256⟩) (begs l).length (begs l).length,.sl (some ⟨h2.length+1,0,(begs l).length⟩) (begs l).length (begs l).length,.sl (some ⟨h2.length+2,0,(begs l).length⟩) (begs l).length (begs l).length] 129 false,.cells [.int .i64 0] 3 true]):=by
    refine⟨⟨_,_,_,_,⟨A0,.start hm0,fun x hx=>by simp at hx,fun x hx=>by simp at hx,fun x hx=>?_,fun x _ _=>rfl,fun _ _=>rfl⟩,fun c hc=>?_⟩,H2.tr.same .app,?_,?_,by simp,?_,.app⟩
    . simp at hx;subst hx
      simp[fsuf,lsuf,hnil]
    . rcases hc with hc|⟨s,_,h,_⟩
      . simp at hc;omega
      . exact absurd rfl h
    . simp only[at_new];rfl
    . simp[qList,hnil]
    . have:=H2.tr.model.pos;simp;omega
   have hloop:=fun Q hq=>queue_loop (Q:=Q) (by omega) hl (by omega) (fun b hb=>lt_of_foot H2.tr.at_ hb) hI hq
   rw[eP] at hloop
   have hob:offSl (h2.length+4) 0 [0]=.sl (some ⟨h2.length+4,0,1⟩) 1 1:=rfl
   rw[hob] at hloop
   simp[c52_r15,c52_r16,c52_r18,c52_r19,e3,hb,amakeSlice,tzero_132,z132_len,hz1,hz2,hz3,hz4,hz5,zeros_grid,zeros_nums,zeros_out,abuild,afill,abuildSlice,zeros]
   refine hloop _ fun h3 tab fl ob ou o full A3 H3 o3 f3=>?_
   simp[c52_r23]
   have o03:Only (fun _=>False) h h3:=H2.only.trans o3
   refine⟨o03,.inr (.inr ⟨hg,by omega,hX,_,tab,fl,ob,ou,rfl,A3,fun c hc=>?_⟩)⟩
   have h1:=f3 c hc
   have h2:=H2.only.1
   omega
end
end
section
section
variable {h:Heap} {B:AB} {X ps:List Txt} {tab:Nat->Nat->Nat} {fl ob:Nat->Nat} {ou:Nat->List Int}
theorem AutoX.mem0(H:AutoX h B X ps tab fl ob ou):[]∈X:=List.mem_of_getElem? H.zero
theorem AutoX.lmem(H:AutoX h B X ps tab fl ob ou){w:Txt}:lsuf X w∈X:=lsuf_mem H.mem0
theorem AutoX.lt(H:AutoX h B X ps tab fl ob ou){w:Txt}:st X (lsuf X w)<X.length:=st_lt H.lmem
theorem AutoX.nil(H:AutoX h B X ps tab fl ob ou):st X (lsuf X [])=0:=st_nil H.nodup H.zero
theorem AutoX.keep{h':Heap}{fp:Nat->Prop}(H:AutoX h B X ps tab fl ob ou)(ho:Only fp h h')(hf:∀c,B.foot X.length ob ou c->¬fp c):AutoX h' B X ps tab fl ob ou:=
 ⟨H.at_.keep ho hf,H.nodup,H.zero,H.pre,H.sub,H.tab_,H.fl_,H.ou_⟩
theorem AutoX.same{h':Heap}(H:AutoX h B X ps tab fl ob ou)(ho:Only (fun _=>False) h h'):AutoX h' B X ps tab fl ob ou:=H.keep ho fun _ _=>id
theorem ax_next(H:AutoX h B X ps tab fl ob ou){w:Txt}{b:UInt8}:D cfg 53 [B.ptr,.int .i64 (st X (lsuf X w):Nat),.int .u8 b.toNat] h=some (.int .i64 (st X (lsuf X (w++[b])):Nat),h):=by
 rw[auto_next H.at_ H.lt,H.tab_ _ H.lmem _ b.toNat_lt]
 have e:UInt8.ofNat b.toNat=b:=by simp
 rw[e,lsuf_step H.mem0 H.pre]
theorem ax_out(H:AutoX h B X ps tab fl ob ou){w:Txt}:∃b h',D cfg 54 [B.ptr,.int .i64 (st X (lsuf X w):Nat)] h=some (intSl b (outs w ps 0),h')/\Only (fun _=>False) h h' /\
  (outs w ps 0≠[]->h'[b]?=some (.cells (intCells (outs w ps 0)) 3 true)/\h.length<=b):=by
 have h1:=auto_out H.at_ (H.lt (w:=w))
 rw[H.ou_ _ H.lmem,outs_lsuf H.sub] at h1
 exact h1
end
end
def txtSl(b:Nat)(l:List Txt):AV:=bufSl b l.length (strCells l)
theorem Sl1.txt{h:Heap}{b:Nat}{s:Bool}{l:List Txt}(hb:l.length≠0->h[b]?=some (.cells (strCells l) 9 s)):Sl1 h (txtSl b l) (strCells l):=by
 have:=Sl1.buf (h:=h) (b:=b) (e:=9) (s:=s) (xs:=strCells l) (by rw[strCells_len];exact hb)
 rw[strCells_len] at this
 exact this
theorem alen9{L:Look}{s:Txt}:alen Try.prog L 9 (.str s)=some (.int .i64 s.length):=by simp[alen]
theorem begs_len{ps:List Txt}(hp:∀p∈ps,p.length<=16):(begs ps).length<=1+16*ps.length:=by
 have key:∀(ps X:List Txt),(∀p∈ps,p.length<=16)->(ps.foldl (fun X p=>addFrom X [] p) X).length<=X.length+16*ps.length:=by
  intro ps
  induction ps with
  |nil=>intro X _;simp
  |cons p ps ih=>
   intro X h
   have h1:=ih (addFrom X [] p) fun q hq=>h q (List.mem_cons_of_mem _ hq)
   have h2:=addFrom_len (r:=p) (X:=X) (x:=[])
   have h3:=h p (List.mem_cons_self ..)
   simp only[List.foldl_cons,List.length_cons]
   omega
 exact key ps _ hp
theorem intSl_lenA{L:Look}{b:Nat}{l:List Int}:alen Try.prog L 30 (intSl b l)=some (.int .i64 l.length):=by
 unfold intSl
 split
 . rename_i e;simp[alen,e]
 . simp[alen]
structure PatH (h₀:Heap) (l:List Txt) (b:Nat) (h:Heap):Prop where
 at_:l.length≠0->h[b]?=some (.cells (strCells l) 9 true)/\h₀.length<=b
 only:Only (fun _=>False) h₀ h
section
section
variable {h:Heap} {v:AV} {l:List Txt} {bud:Int}
theorem build_ok(hv:Sl1 h v (strCells l))(hvb:∀b,slB v=some b->b<h.length)(hl:l.length<=9000000000000)(hg:bgood l=true)(hm:((begs l).length:Int)<=bud)(hm2:(begs l).length<=4096):
  ∃B tab fl ob ou h',D cfg 52 [v,.int .i64 bud] h=some (.tup [B.ptr,.int .i64 0],h')/\Only (fun _=>False) h h'/\AutoX h' B (begs l) l tab fl ob ou/\∀c,B.foot (begs l).length ob ou c->h.length<=c:=by
 obtain⟨r,h',e,o,hr⟩:=build_run (bud:=bud) hv hvb hl
 rcases hr with⟨hb,_⟩|⟨_,hb,_⟩|⟨_,_,_,B,tab,fl,ob,ou,rfl,A,hf⟩
 . rw[hg] at hb;simp at hb
 . rcases hb with hb|⟨_,hb⟩<;>omega
 . exact⟨B,tab,fl,ob,ou,h',e,o,A,hf⟩
theorem bgood_begs(hg:bgood l=true):(begs l).length<=1+16*l.length:=begs_len fun q hq=>(bgood_at hg hq).2
end
theorem suffix_take{p s:Txt}{e:Nat}(he:e<=s.length):p<:+s.take e↔p.length<=e/\(s.drop (e-p.length)).take p.length=p:=by
 constructor
 . intro h
   have h1:=h.length_le
   rw[List.length_take,Nat.min_eq_left he] at h1
   refine⟨h1,?_⟩
   have h2:=List.suffix_iff_eq_drop.1 h
   rw[List.length_take,Nat.min_eq_left he,List.drop_take] at h2
   rw[show e-(e-p.length)=p.length by omega] at h2
   exact h2.symm
 . rintro⟨h1,h2⟩
   rw[List.suffix_iff_eq_drop,List.length_take,Nat.min_eq_left he,List.drop_take,show e-(e-p.length)=p.length by omega,h2]
theorem patAt_suf{p s:Txt}{e:Nat}(he:e<=s.length):patAt p false s e=decide (p<:+s.take e):=by
 rw[Bool.eq_iff_iff,decide_eq_true_eq,suffix_take he]
 simp[patAt,he]
end
section
theorem tmod_nat'{a b:Nat}:((a:Int)).tmod b=((a % b:Nat):Int):=by
 rw[Int.tmod_eq_emod_of_nonneg (by omega)];omega
def RingOK(ring w:Txt):Prop:=ring.length=16/\∀i,i<w.length->w.length<=i+16->ring[i % 16]?=w[i]?
theorem RingOK.step{ring w:Txt}(H:RingOK ring w){b:UInt8}:RingOK (ring.set (w.length % 16) b) (w++[b]):=by
 refine⟨by simp[H.1],fun i hi hle=>?_⟩
 simp at hi hle
 by_cases he:i=w.length
 . subst he
   rw[List.getElem?_set_self (by rw[H.1];omega)]
   simp
 . rw[List.getElem?_set_ne (by omega),H.2 i (by omega) (by omega),List.getElem?_append_left (by omega)]
theorem ring0:RingOK (List.replicate 16 0) []:=⟨by simp,fun i hi=>by simp at hi⟩
theorem cell_load{h:Heap}{sb n off:Nat}{cs:List AV}{e t:TypeId}{g:Bool}(h1:h[sb]?=some (.cells cs e g))(hl:cs.length=n)(ht:agk (tk Try.prog t)=some false){v:AV}(hv:cs[off]?=some v):aload Try.prog (look h) t (.ptr (some ⟨sb,off,n⟩))=some v:=by
 have hr:row (look h) ⟨sb,off,n⟩=some cs:=by simp[row,h1,hl]
 simp only[aload,hr,ht]
 exact hv
theorem cell_store{h:Heap}{sb n off:Nat}{cs:List AV}{e t:TypeId}{g:Bool}(h1:h[sb]?=some (.cells cs e g))(hl:cs.length=n)(ht:tsz Try.prog t=1){v:AV}(hv:v.one=true)(ho:off<n):astore Try.prog (look h) t (.ptr (some ⟨sb,off,n⟩)) v=some (.set sb (.cells (cs.set off v) e g)):=by
 have hc:v.cells=[v]:=by cases v<;>simp at hv<;>rfl
 have h2:off+1<=n:=ho
 simp[astore,h1,hl,ht,hc,hv,h2,-AV.cells,-AV.one]
def hdrC(a lv nv:AV)(s n:Nat)(ring:Txt):List AV:=[a,lv,nv,.int .i64 s,.int .i64 n]++byteCells ring
section
variable {a lv nv:AV} {s n:Nat} {ring:Txt}
theorem hdrC_len(hr:ring.length=16):(hdrC a lv nv s n ring).length=21:=by simp[hdrC,byteCells_len,hr]
theorem hdrC_0:(hdrC a lv nv s n ring)[0]?=some a:=rfl
theorem hdrC_1:(hdrC a lv nv s n ring)[1]?=some lv:=rfl
theorem hdrC_2:(hdrC a lv nv s n ring)[2]?=some nv:=rfl
theorem hdrC_3:(hdrC a lv nv s n ring)[3]?=some (.int .i64 s):=rfl
theorem hdrC_4:(hdrC a lv nv s n ring)[4]?=some (.int .i64 n):=rfl
theorem hdrC_5{k:Nat}{b:UInt8}(hk:ring[k]?=some b):(hdrC a lv nv s n ring)[5+k]?=some (.int .u8 b.toNat):=by
 rw[hdrC,List.getElem?_append_right (by simp)]
 simp[byteCells,hk]
theorem hdrC_set3{s':Nat}:(hdrC a lv nv s n ring).set 3 (.int .i64 s')=hdrC a lv nv s' n ring:=rfl
theorem hdrC_set4{n':Nat}:(hdrC a lv nv s n ring).set 4 (.int .i64 n')=hdrC a lv nv s n' ring:=rfl
theorem hdrC_set5{k:Nat}{b:UInt8}:(hdrC a lv nv s n ring).set (5+k) (.int .u8 b.toNat)=hdrC a lv nv s n (ring.set k b):=by
 rw[hdrC,List.set_append_right _ _ (by simp)]
 simp only[List.length_cons,List.length_nil,Nat.add_sub_cancel_left,byteCells_set]
 rfl
end
structure ScanH (h:Heap) (sb:Nat) (a lv nv:AV) (s:Nat) (w:Txt):Prop where
 hdr:∃ring,RingOK ring w/\h[sb]?=some (.cells (hdrC a lv nv s w.length ring) 136 false)
abbrev scPtr(sb:Nat):AV:=.ptr (some ⟨sb,0,21⟩)
theorem lowB_run{h:Heap}{b:UInt8}:D cfg 103 [.int .u8 b.toNat] h=some (.int .u8 (lowB b).toNat,h):=by
 refine D_eq (call103 (R:=fun r h'=>r=_/\h'=_) (by simp) ?_)
 have hb:=b.toNat_lt
 by_cases h1:65<=b.toNat
 . have h1':(65:Int)<=b.toNat:=by omega
   by_cases h2:b.toNat<=90
   . have h2':(b.toNat:Int)<=90:=by omega
     obtain⟨k,hk⟩:∃k:Nat,b.toNat=65+k:=⟨b.toNat-65,by omega⟩
     have hw1:IntKind.wrap .u8 ((b.toNat:Int)-65)=k:=by rw[wrap_u8 (by omega) (by omega)];omega
     have hw2:IntKind.wrap .u8 ((k:Int)+97)=((lowB b).toNat:Int):=by
      rw[wrap_u8 (by omega) (by omega)]
      simp only[lowB,h1,h2,and_self,if_true]
      simp
      omega
     simp[c103,c103_r0,c103_r1,c103_r2,h1,h1',h2,h2',hw1,hw2]
   . have h2':¬((b.toNat:Int)<=90):=by omega
     have hl:lowB b=b:=by simp[lowB,h2]
     simp[c103,c103_r0,c103_r1,c103_r3,h1,h1',h2,h2',hl]
 . have h1':¬((65:Int)<=b.toNat):=by omega
   have hl:lowB b=b:=by simp[lowB,h1]
   simp[c103,c103_r0,c103_r1,c103_r3,h1,h1',hl]
def In104(h:Heap)(sb:Nat)(p w:Txt)(m:Nat)(σ:St):Prop:=
 ∃i,m=p.length-i/\i<=p.length/\σ=⟨[(0,scPtr sb),(1,.str p),(7,.int .i64 p.length),(8,.int .i64 i)],h⟩/\∀j,j<i->p[j]?=w[w.length-p.length+j]?
theorem scan_stands{h:Heap}{sb:Nat}{a lv nv:AV}{s:Nat}{w p:Txt}(H:ScanH h sb a lv nv s w)(hp:p.length<=16)(hpw:p.length<=w.length)(hw:w.length<=1000000000000):D cfg 104 [scPtr sb,.str p] h=some (.bool (decide (p<:+w)),h):=by
 obtain⟨ring,hr,h1⟩:=H.hdr
 refine D_eq (call104 (R:=fun r h'=>r=_/\h'=_) (by simp) ?_)
 have hl:=hdrC_len (a:=a) (lv:=lv) (nv:=nv) (s:=s) (n:=w.length) hr.1
 have hrow:∀off,row (look h) ⟨sb,off,21⟩=some (hdrC a lv nv s w.length ring):=fun off=>by simp[row,h1,hl]
 simp[c104,c104_r0,c104_r1,len1,alen9]
 refine Wt.loop (In104 h sb p w) (m:=p.length) ⟨0,rfl,Nat.zero_le _,rfl,fun j hj=>by omega⟩ ?_
 rintro m σ ⟨i,rfl,hi,rfl,heq⟩
 have hcut:cut (some [0,1,7,8]) [(0,scPtr sb),(1,.str p),(7,.int .i64 p.length),(8,.int .i64 (i:Int))]=[(0,scPtr sb),(1,.str p),(7,.int .i64 p.length),(8,.int .i64 i)]:=by simp
 simp only[hcut]
 by_cases hip:i<p.length
 . have hip':(i:Int)<p.length:=by omega
   have hwr:IntKind.wrap .i64 ((i:Int)+1)=i+1:=wrap_i64 (by omega) (by omega)
   obtain⟨d,hd⟩:∃d:Nat,w.length-p.length=d:=⟨_,rfl⟩
   have hw1:IntKind.wrap .i64 ((w.length:Int)-p.length)=d:=by rw[wrap_i64 (by omega) (by omega)];omega
   obtain⟨q,hq⟩:∃q:Nat,d+i=q:=⟨_,rfl⟩
   have hw2:IntKind.wrap .i64 ((d:Int)+i)=q:=by rw[wrap_i64 (by omega) (by omega)];omega
   obtain⟨k,hk⟩:∃k:Nat,q % 16=k:=⟨_,rfl⟩
   have hrem:((q:Int)).tmod 16=k:=by rw[<-hk];exact tmod_nat' (b:=16)
   have hk16:k<16:=by omega
   have hk16':(k:Int)<16:=by omega
   have hqw:q<w.length:=by omega
   have hring:ring[k]?=some w[q]:=by
    rw[<-hk,hr.2 q hqw (by omega),List.getElem?_eq_getElem hqw]
   have h5:=hdrC_5 (a:=a) (lv:=lv) (nv:=nv) (s:=s) (n:=w.length) hring
   have hpi:p[i]?=some p[i]:=List.getElem?_eq_getElem hip
   have hu1:=w[q].toNat_lt
   have hu2:=p[i].toNat_lt
   by_cases he:w[q]=p[i]
   . have hnext:In104 h sb p w (p.length-(i+1)) ⟨[(0,scPtr sb),(1,.str p),(7,.int .i64 p.length),(8,.int .i64 (i+1:Nat))],h⟩:=by
      refine⟨i+1,rfl,hip,rfl,fun j hj=>?_⟩
      by_cases hji:j=i
      . subst hji
        rw[hd,hq,hpi,List.getElem?_eq_getElem hqw,he]
      . exact heq j (by omega)
     simp[abin_rem,c104_l2,c104_r2,c104_r3,c104_r4,c104_r6,len1,alen9,hip,hip',fieldA,aload,hrow,hdrC_4,hw1,hw2,hrem,aindexAddr,hk16,hk16',h5,aindex,hpi,he,hwr]
     exact⟨p.length-(i+1),by omega,by simpa using hnext⟩
   . have hne:¬(p<:+w):=by
      intro hs
      apply he
      have h6:=List.suffix_iff_eq_drop.1 hs
      have h7:p[i]?=w[d+i]?:=by
       rw[<-hd]
       have:p[i]?=(w.drop (w.length-p.length))[i]?:=by rw[<-h6]
       rw[this,List.getElem?_drop]
      rw[hpi,hq,List.getElem?_eq_getElem hqw] at h7
      simpa using h7.symm
     have he':¬((w[q].toNat:Int)=p[i].toNat):=fun e=>he (UInt8.toNat_inj.1 (by omega))
     simp[abin_rem,c104_l2,c104_r2,c104_r3,c104_r4,c104_r5,len1,alen9,hip,hip',fieldA,aload,hrow,hdrC_4,hw1,hw2,hrem,aindexAddr,hk16,hk16',h5,aindex,hpi,he',hne]
 . have:i=p.length:=by omega
   subst this
   have hs:p<:+w:=by
    rw[List.suffix_iff_eq_drop]
    apply List.ext_getElem?
    intro j
    rw[List.getElem?_drop]
    by_cases hj:j<p.length
    . exact heq j hj
    . rw[List.getElem?_eq_none (by omega),List.getElem?_eq_none (by omega)]
   simp[c104_l2,c104_r2,c104_r7,hs]
end
section
def scHitB(nc:Bool)(p w:Txt):Bool:=if nc then decide (fold p<:+fold w) else decide (p<:+w)
def nth(nc:List Bool)(i:Nat):Bool:=(nc[i]?).getD false
def scHits(nc:List Bool)(w:Txt):List Txt->Nat->List Int
 |[],_=>[]
 |p::r,i=>if scHitB (nth nc i) p w then (i:Int)::scHits nc w r (i+1) else scHits nc w r (i+1)
theorem fold_suffix{p w:Txt}(h:p<:+w):fold p<:+fold w:=by
 obtain⟨t,rfl⟩:=h
 exact⟨fold t,by simp[fold]⟩
theorem scHitB_fold{nc:Bool}{p w:Txt}(h:scHitB nc p w=true):fold p<:+fold w:=by
 cases nc
 . simp[scHitB] at h;exact fold_suffix h
 . simpa[scHitB] using h
theorem scHits_len{nc:List Bool}{w:Txt}:∀{l:List Txt} {i:Nat},(scHits nc w l i).length<=l.length
 |[],i=>by simp[scHits]
 |p::r,i=>by
  have:=scHits_len (nc:=nc) (w:=w) (l:=r) (i:=i+1)
  simp only[scHits]
  split<;>simp<;>omega
theorem scHits_filter{nc:List Bool}{w:Txt}{L:List Txt}:∀{l:List Txt} {i:Nat},(∀k,k<l.length->txt L (i+k)=txt l k) ->
  (outs (fold w) (l.map fold) i).filter (fun z=>scHitB (nth nc z.toNat) (txt L z.toNat) w)=scHits nc w l i
 |[],i,_=>by simp[outs,scHits]
 |p::r,i,h=>by
  have ih:=scHits_filter (nc:=nc) (w:=w) (L:=L) (l:=r) (i:=i+1) fun k hk=>by
   have:=h (k+1) (by simp;omega)
   rw[show i+1+k=i+(k+1) by omega,this]
   simp[txt]
  have hp:txt L i=p:=by have:=h 0 (by simp);simpa[txt] using this
  simp only[List.map_cons,outs,scHits]
  by_cases h1:fold p<:+fold w
  . rw[if_pos h1,List.filter_cons]
    simp only[Int.toNat_natCast,hp,ih]
  . rw[if_neg h1,ih,if_neg]
    intro h2
    exact h1 (scHitB_fold h2)
theorem outs_bound{x:Txt}:∀{l:List Txt} {i:Nat} {z:Int},z∈outs x l i->∃k,k<l.length/\z=((i+k:Nat):Int)/\txt l k<:+x
 |[],i,z,h=>by simp[outs] at h
 |p::r,i,z,h=>by
  have key:z∈outs x r (i+1)->∃k,k<(p::r).length/\z=((i+k:Nat):Int)/\txt (p::r) k<:+x:=fun h=>by
   obtain⟨k,h1,h2,h3⟩:=outs_bound h
   exact⟨k+1,by simp;omega,by rw[h2];congr 1;omega,by simpa[txt] using h3⟩
  simp only[outs] at h
  split at h
  . rename_i hp
    rcases List.mem_cons.1 h with rfl|h
    . exact⟨0,by simp,by simp,by simpa[txt] using hp⟩
    . exact key h
  . exact key h
theorem txt_map{l:List Txt}{k:Nat}:txt (l.map fold) k=fold (txt l k):=by
 simp only[txt,List.getElem?_map]
 cases l[k]?<;>rfl
theorem bgood_fold{l:List Txt}:bgood (l.map fold)=bgood l:=by
 simp only[bgood,List.all_map]
 congr 1
 funext p
 simp[fold_len]
theorem Sl1.srcG{h:Heap}{v:AV}{xs:List AV}{e:TypeId}(H:Sl1 h v xs)(he:tsz Try.prog e=1):srcCells Try.prog (look h) e v=some (xs.length,xs):=by
 rcases H with⟨rfl,rfl⟩|⟨b,o,g,c,cs,rfl,h1,h2⟩
 . rfl
 . by_cases hl:xs.length=0
   . have:xs=[]:=List.length_eq_zero_iff.1 hl
     subst this;simp[srcCells]
   . have h3:o+xs.length<=cs.length:=by
      have:=congrArg List.length h2
      simp at this
      omega
     simp[srcCells,hl,slCells,h1,h3,h2,he]
theorem bufSl_one{b n:Nat}{xs:List AV}:(bufSl b n xs).one=true:=by unfold bufSl;split<;>rfl
theorem bufSl_cells{b n:Nat}{xs:List AV}:(bufSl b n xs).cells=[bufSl b n xs]:=by unfold bufSl;split<;>rfl
theorem bufSl_notTup{b n:Nat}{xs:List AV}:(bufSl b n xs).notTup=true:=by unfold bufSl;split<;>rfl
theorem slB_buf{b n c:Nat}{xs:List AV}(h:slB (bufSl b n xs)=some c):c=b/\n≠0:=by
 unfold bufSl at h
 split at h
 . simp[slB] at h
 . rename_i hne
   simp[slB] at h
   exact⟨h.symm,hne⟩
theorem copy_buf{t e k:Nat}(ht:tk Try.prog t=.slice e)(he:tsz Try.prog e=1)(hz:zeroOK Try.prog e=true)(hk:Try.prog.bytesOf e=k){h:Heap}{v:AV}{xs:List AV}(hv:Sl1 h v xs)(hl:xs.length*k<=roomMax)(hl2:xs.length<=9223372036854775807):
  ∃δ h',append2 Try.prog (look h) h.length t t [.sl none 0 0,v]=some (bufSl h.length xs.length xs,δ)/\h.apply δ=h'/\(xs.length≠0->h'[h.length]?=some (.cells xs e true))/\Only (fun _=>False) h h':=by
 have hs:=hv.srcG he
 by_cases h0:xs.length=0
 . have:xs=[]:=List.length_eq_zero_iff.1 h0
   subst this
   exact⟨.no,h,by simp[append2,aappend,ht,he,hs,aappendE,bufSl],rfl,fun h=>absurd rfl h,.refl⟩
 . refine⟨.new (.cells xs e true),h++[.cells xs e true],?_,rfl,fun _=>by simp,.app⟩
   have hne:¬(xs=[]):=fun e=>h0 (by rw[e];rfl)
   simp[append2,aappend,ht,he,hs,aappendE,bufSl,hne,hk,hl,hl2,hz]
def boolCells(l:List Bool):List AV:=l.map .bool
theorem boolCells_len{l:List Bool}:(boolCells l).length=l.length:=by simp[boolCells]
theorem boolCells_get{l:List Bool}{i:Nat}(h:i<(boolCells l).length):(boolCells l)[i]=.bool (nth l i):=by
 rw[boolCells_len] at h
 simp[boolCells,nth,List.getElem?_eq_getElem h]
theorem beq_sl{a:Option AA}{n c:Nat}:AV.beq (.sl a n c) (.sl a n c)=true:=by
 cases a<;>simp[AV.beq,AV.beqP,oAA,AA.beq]
theorem Sl1.beq{h:Heap}{v:AV}{xs:List AV}(H:Sl1 h v xs):v.beq v=true:=by
 rcases H with⟨rfl,_⟩|⟨b,o,g,c,cs,rfl,_,_⟩<;>exact beq_sl
theorem beqL_bytes:∀{l:Txt},beqL AV.beq (byteCells l) (byteCells l)=true
 |[]=>rfl
 |b::r=>by
  have:=beqL_bytes (l:=r)
  simp only[byteCells,List.map_cons,beqL] at this ⊢
  rw[this]
  simp[AV.beq,AV.beqP]
theorem beq_hdr{B:AB}{lv nv:AV}{s n:Nat}{ring:Txt}(h1:lv.beq lv=true)(h2:nv.beq nv=true):AObj.beq (.cells (hdrC B.ptr lv nv s n ring) 136 false) (.cells (hdrC B.ptr lv nv s n ring) 136 false)=true:=by
 have:=beqL_bytes (l:=ring)
 simp[AObj.beq,hdrC,beqL,h1,h2,this]
 simp[AV.beq,AV.beqP,oAA,AA.beq]
structure ScanX (h:Heap) (sb:Nat) (lv nv:AV) (B:AB) (l:List Txt) (nc:List Bool) (w:Txt) (tab:Nat->Nat->Nat) (fl ob:Nat->Nat) (ou:Nat->List Int):Prop where
 sc:ScanH h sb B.ptr lv nv (st (begs (l.map fold)) (lsuf (begs (l.map fold)) (fold w))) w
 auto:AutoX h B (begs (l.map fold)) (l.map fold) tab fl ob ou
 l_:Sl1 h lv (strCells l)
 n_:Sl1 h nv (boolCells nc)
 sepA:¬B.foot (begs (l.map fold)).length ob ou sb
 sepL:slB lv≠some sb
 sepN:slB nv≠some sb
 good:bgood l=true
 few:l.length<=200
def scFoot(sb:Nat)(lv nv:AV)(B:AB)(n:Nat)(ob:Nat->Nat)(ou:Nat->List Int)(c:Nat):Prop:=c=sb\/slB lv=some c\/slB nv=some c\/B.foot n ob ou c
section
variable {h:Heap} {sb:Nat} {lv nv:AV} {B:AB} {l:List Txt} {nc:List Bool} {w:Txt} {tab:Nat->Nat->Nat} {fl ob:Nat->Nat} {ou:Nat->List Int}
theorem ScanX.keep{h':Heap}{fp:Nat->Prop}(H:ScanX h sb lv nv B l nc w tab fl ob ou)(ho:Only fp h h')(hf:∀c,scFoot sb lv nv B (begs (l.map fold)).length ob ou c->¬fp c):ScanX h' sb lv nv B l nc w tab fl ob ou:=by
 obtain⟨ring,h1,h2⟩:=H.sc.hdr
 exact⟨⟨ring,h1,ho.at h2 (hf _ (.inl rfl))⟩,H.auto.keep ho fun c hc=>hf c (.inr (.inr (.inr hc))),H.l_.keep ho fun c hc=>hf c (.inr (.inl hc)),H.n_.keep ho fun c hc=>hf c (.inr (.inr (.inl hc))),H.sepA,H.sepL,H.sepN,H.good,H.few⟩
theorem ScanX.same{h':Heap}(H:ScanX h sb lv nv B l nc w tab fl ob ou)(ho:Only (fun _=>False) h h'):ScanX h' sb lv nv B l nc w tab fl ob ou:=H.keep ho fun _ _=>id
theorem ScanX.turn{h':Heap}{w':Txt}(H:ScanX h sb lv nv B l nc w tab fl ob ou)(ho:Only (fun c=>c=sb) h h')(hh:ScanH h' sb B.ptr lv nv (st (begs (l.map fold)) (lsuf (begs (l.map fold)) (fold w'))) w'):ScanX h' sb lv nv B l nc w' tab fl ob ou:=
 ⟨hh,H.auto.keep ho fun c hc e=>H.sepA (e▸hc),H.l_.keep ho fun c hc e=>H.sepL (e▸hc),H.n_.keep ho fun c hc e=>H.sepN (e▸hc),H.sepA,H.sepL,H.sepN,H.good,H.few⟩
abbrev stepEnv(sb:Nat)(rv ov:AV)(n k:Nat):Env:=[(0,scPtr sb),(5,rv),(52,ov),(53,.int .i64 n),(54,.int .i64 k)]
def In65(h₀:Heap)(sb:Nat)(ov:AV)(O:List Int)(c:Int->Bool)(m:Nat)(σ:St):Prop:=
 ∃k bl h,m=O.length-k/\k<=O.length/\σ=⟨stepEnv sb (intSl bl ((O.take k).filter c)) ov O.length k,h⟩/\Only (fun _=>False) h₀ h/\((O.take k).filter c≠[]->h₀.length<=bl/\h[bl]?=some (.cells (intCells ((O.take k).filter c)) 3 true))
theorem step_loop{h₀:Heap}{ov:AV}(H:ScanX h₀ sb lv nv B l nc w tab fl ob ou)(hw:w.length<=1000000000000)(hov:Sl1 h₀ ov (intCells (outs (fold w) (l.map fold) 0))){Q:AExit->St->Prop}
  (hq:∀h' bl,Only (fun _=>False) h₀ h'->(scHits nc w l 0≠[]->h₀.length<=bl/\h'[bl]?=some (.cells (intCells (scHits nc w l 0)) 3 true))->Q (.exit 0) ⟨stepEnv sb (intSl bl (scHits nc w l 0)) ov (outs (fold w) (l.map fold) 0).length (outs (fold w) (l.map fold) 0).length++[(55,.bool false)],h'⟩):
  Wt Try.prog (D cfg) (.loop c65_l8 (some [0,5,52,53,54])) ⟨stepEnv sb (.sl none 0 0) ov (outs (fold w) (l.map fold) 0).length 0,h₀⟩ Q:=by
 have hfil:=scHits_filter (nc:=nc) (w:=w) (L:=l) (l:=l) (i:=0) fun k _=>by rw[Nat.zero_add]
 have hOb:=fun z hz=>outs_bound (x:=fold w) (l:=l.map fold) (i:=0) (z:=z) hz
 have hOl:=outs_len (x:=fold w) (l:=l.map fold) (i:=0)
 rw[List.length_map] at hOl
 obtain⟨O,hO⟩:∃O,outs (fold w) (l.map fold) 0=O:=⟨_,rfl⟩
 rw[hO] at hov hfil hOb hOl hq ⊢
 obtain⟨c,hc⟩:∃c:Int->Bool,c=fun z=>scHitB (nth nc z.toNat) (txt l z.toNat) w:=⟨_,rfl⟩
 rw[<-hc] at hfil
 have hfew:=H.few
 refine Wt.loop (In65 h₀ sb ov O c) (m:=O.length) ⟨0,0,h₀,rfl,Nat.zero_le _,by simp[intSl],.refl,fun h=>absurd rfl h⟩ ?_
 rintro m σ ⟨k,bl,h,rfl,hk,rfl,ho,hb⟩
 have hcut:cut (some [0,5,52,53,54]) (stepEnv sb (intSl bl ((O.take k).filter c)) ov O.length k)=stepEnv sb (intSl bl ((O.take k).filter c)) ov O.length k:=by simp
 simp only[hcut]
 have H1:=H.same ho
 obtain⟨ring,hr,g1⟩:=H1.sc.hdr
 have hl:=hdrC_len (a:=B.ptr) (lv:=lv) (nv:=nv) (s:=st (begs (l.map fold)) (lsuf (begs (l.map fold)) (fold w))) (n:=w.length) hr.1
 have hrow:∀off,row (look h) ⟨sb,off,21⟩=some (hdrC B.ptr lv nv (st (begs (l.map fold)) (lsuf (begs (l.map fold)) (fold w))) w.length ring):=fun off=>by simp[row,g1,hl]
 by_cases hkO:k<O.length
 . have hkO':(k:Int)<O.length:=by omega
   have hwr:IntKind.wrap .i64 ((k:Int)+1)=k+1:=wrap_i64 (by omega) (by omega)
   have a1:=hov.at (t:=30) (e:=3) (by simp) (by simp) (i:=k) (by rw[intCells_len];exact hkO)
   have b1:=(hov.same ho).load (e:=3) (by simp) (i:=k) (by rw[intCells_len];exact hkO)
   rw[intCells_get] at b1
   obtain⟨z,hz,hze,hzs⟩:=hOb O[k] (List.getElem_mem hkO)
   rw[Nat.zero_add] at hze
   rw[List.length_map] at hz
   rw[hze] at b1
   rw[txt_map] at hzs
   have hzl:(z:Int)<l.length:=by omega
   have llen:=fun L=>H1.l_.len (t:=38) (e:=9) (by simp) (L:=L)
   have nlen:=fun L=>H1.n_.len (t:=68) (e:=4) (by simp) (L:=L)
   simp only[strCells_len] at llen
   simp only[boolCells_len] at nlen
   have a2:=H1.l_.at (t:=38) (e:=9) (by simp) (by simp) (i:=z) (by rw[strCells_len];exact hz)
   have b2:=H1.l_.load (e:=9) (by simp) (i:=z) (by rw[strCells_len];exact hz)
   rw[strCells_get,txt_eq] at b2
   have hpl:(txt l z).length<=16:=(bgood_at H.good (p:=txt l z) (by rw[<-txt_eq hz];exact List.getElem_mem hz)).2
   have hpw:(txt l z).length<=w.length:=by have:=hzs.length_le;simpa[fold_len] using this
   have e3:=scan_stands H1.sc hpl hpw hw
   have htake:O.take (k+1)=O.take k++[(z:Int)]:=by rw[List.take_succ_eq_append_getElem hkO,hze]
   have hcz:c z=scHitB (nth nc z) (txt l z) w:=by rw[hc];simp
   have hflt:(O.take (k+1)).filter c=if c z then (O.take k).filter c++[(z:Int)] else (O.take k).filter c:=by
    rw[htake,List.filter_append]
    by_cases hcz':c z<;>simp[hcz']
   have hcond:(c z=true/\∃δ h2 bl2,append2 Try.prog (look (h++[AObj.cells [.int .i64 z] 3 true])) (h.length+1) 30 30 [intSl bl ((O.take k).filter c),.sl (some ⟨h.length,0,1⟩) 1 1]=some (intSl bl2 ((O.take (k+1)).filter c),δ)/\Heap.apply (h++[AObj.cells [.int .i64 z] 3 true]) δ=h2 /\
     In65 h₀ sb ov O c (O.length-(k+1)) ⟨stepEnv sb (intSl bl2 ((O.take (k+1)).filter c)) ov O.length (k+1),h2⟩)\/(c z=false/\In65 h₀ sb ov O c (O.length-(k+1)) ⟨stepEnv sb (intSl bl ((O.take k).filter c)) ov O.length (k+1),h⟩):=by
    by_cases hcz':c z=true
    . left
      rw[if_pos hcz'] at hflt
      obtain⟨δ,h2,x1,x2,x3,x4⟩:=append_int (h:=h) (b:=bl) (l:=(O.take k).filter c) (x:=z) (fun hne=>(hb hne).2) (by have:=List.length_filter_le c (O.take k);simp at this;omega)
      rw[<-hflt] at x1 x3
      refine⟨hcz',δ,h2,_,x1,x2,k+1,_,h2,rfl,hkO,rfl,ho.fresh x4 fun q hq=>by rw[hq.1];exact (hb hq.2).1,fun _=>⟨?_,x3⟩⟩
      have:=ho.1
      split
      . omega
      . rename_i hne;exact (hb hne).1
    . right
      have hcz2:c z=false:=by simpa using hcz'
      rw[if_neg hcz'] at hflt
      exact⟨hcz2,k+1,bl,h,rfl,hkO,by rw[hflt],ho,by rw[hflt];exact hb⟩
   have q1:=cell_load g1 hl (t:=38) (by simp) hdrC_1
   have q2:=cell_load g1 hl (t:=68) (by simp) hdrC_2
   by_cases hzn1:z<nc.length
   . have hzn':(z:Int)<nc.length:=by omega
     have a4:=H1.n_.at (t:=68) (e:=4) (by simp) (by simp) (i:=z) (by rw[boolCells_len];exact hzn1)
     have b4:=H1.n_.load (e:=4) (by simp) (i:=z) (by rw[boolCells_len];exact hzn1)
     rw[boolCells_get] at b4
     cases hzn2:nth nc z with
     |true=>
      rw[hzn2] at b4
      rcases hcond with⟨_,δ,h2,bl2,x1,x2,hnext⟩|⟨hf,_⟩
      . simp only[stepEnv] at hnext
        simp[c65_l8,c65_r8,c65_r9,c65_r10,c65_r11,c65_r12,hkO,hkO',a1,b1,fieldA,q1,q2,len1,llen,nlen,hz,hzl,hzn1,hzn',a4,b4,abuildSlice,afill,zeros,x1,x2,hwr]
        exact⟨O.length-(k+1),by omega,by simpa using hnext⟩
      . rw[hcz,hzn2] at hf
        simp[scHitB,hzs] at hf
     |false=>
      rw[hzn2] at b4
      have hcd:c z=decide (txt l z<:+w):=by rw[hcz,hzn2];simp[scHitB]
      rw[<-hcd] at e3
      rcases hcond with⟨ht,δ,h2,bl2,x1,x2,hnext⟩|⟨hf,hnext⟩
      . rw[ht] at e3
        simp only[stepEnv] at hnext
        simp[c65_l8,c65_r8,c65_r9,c65_r10,c65_r11,c65_r12,hkO,hkO',a1,b1,fieldA,q1,q2,len1,llen,nlen,hz,hzl,hzn1,hzn',a4,b4,a2,b2,e3,abuildSlice,afill,zeros,x1,x2,hwr]
        exact⟨O.length-(k+1),by omega,by simpa using hnext⟩
      . rw[hf] at e3
        simp only[stepEnv] at hnext
        simp[c65_l8,c65_r8,c65_r9,c65_r10,c65_r11,c65_r12,hkO,hkO',a1,b1,fieldA,q1,q2,len1,llen,nlen,hz,hzl,hzn1,hzn',a4,b4,a2,b2,e3,hwr]
        exact⟨O.length-(k+1),by omega,by simpa using hnext⟩
   . have hzn':¬((z:Int)<nc.length):=by omega
     have hzn2:nth nc z=false:=by simp[nth,List.getElem?_eq_none (Nat.not_lt.1 hzn1)]
     have hcd:c z=decide (txt l z<:+w):=by rw[hcz,hzn2];simp[scHitB]
     rw[<-hcd] at e3
     rcases hcond with⟨ht,δ,h2,bl2,x1,x2,hnext⟩|⟨hf,hnext⟩
     . rw[ht] at e3
       simp only[stepEnv] at hnext
       simp[c65_l8,c65_r8,c65_r9,c65_r10,c65_r11,c65_r12,hkO,hkO',a1,b1,fieldA,q1,q2,len1,llen,nlen,hz,hzl,hzn1,hzn',a2,b2,e3,abuildSlice,afill,zeros,x1,x2,hwr]
       exact⟨O.length-(k+1),by omega,by simpa using hnext⟩
     . rw[hf] at e3
       simp only[stepEnv] at hnext
       simp[c65_l8,c65_r8,c65_r9,c65_r10,c65_r11,c65_r12,hkO,hkO',a1,b1,fieldA,q1,q2,len1,llen,nlen,hz,hzl,hzn1,hzn',a2,b2,e3,hwr]
       exact⟨O.length-(k+1),by omega,by simpa using hnext⟩
 . have:k=O.length:=by omega
   subst this
   rw[List.take_length,hfil] at hb ⊢
   have:=hq h bl ho hb
   simp only[stepEnv] at this
   simp[c65_l8,c65_r8]
   simpa using this
end
end
def callV(F:CallF)(h:Heap)(f:Option AV)(al:List AV):Option (AV×Heap):=
 match f with
 |some (.fn (.func g) caps)=>F g (al++caps) h
 |_=>none
theorem astep_callv{P:Program}{F:CallF}{s:St}{t:Nat}{args:Array Operand}{ts:Array TypeId}:astep P F (.call ⟨.value (.tmp t),args,ts⟩) s=bindO (evL (evalA s.ρ) args.toList) fun al=>callV F s.h (s.ρ.get t) al:=by
 simp only[astep,callOf,evalA]
 cases hg:s.ρ.get t with
 |none=>cases evL (evalA s.ρ) args.toList<;>rfl
 |some v=>
  cases v with
  |fn f caps=>cases f<;>cases evL (evalA s.ρ) args.toList<;>rfl
  |_=>cases evL (evalA s.ρ) args.toList<;>rfl
theorem astepT_callv{P:Program}{F:CallF}{s:St}{t:Nat}{args:Array Operand}{ts:Array TypeId}:astepT P F (.call ⟨.value (.tmp t),args,ts⟩) s=bindO (evL (evalA s.ρ) args.toList) fun al=>bindO (callV F s.h (s.ρ.get t) al) fun r=>some (r.1,r.2,.heaps s.h r.2):=by
 simp only[astepT,callOf,evalA]
 cases hg:s.ρ.get t with
 |none=>cases evL (evalA s.ρ) args.toList<;>rfl
 |some v=>
  cases v with
  |fn f caps=>
   cases f with
   |func g=>
    cases evL (evalA s.ρ) args.toList with
    |none=>rfl
    |some al=>simp only[bindO,callV];cases F g (al++caps) s.h<;>rfl
   |_=>cases evL (evalA s.ρ) args.toList<;>rfl
  |_=>cases evL (evalA s.ρ) args.toList<;>rfl
structure PS where
 c:Cont
 i:Nat
 first:Bool
 by_:Int
 least:Bool
 kept:List Int
 some_:Bool
def followsT(c:Cont)(e at_:Int):Bool:=decide (at_+c.distance<=e-c.bytes.length)&&(decide (c.within<=0) || decide (e<=at_+c.distance+c.within))
def afterB(c:Cont)(ahead:PS)(here:Bool)(e:Int):Bool:=(ahead.kept.any fun a=>followsT c e a) || (here&&followsT c e e)
def keepL(p:PS)(n:Int):List Int:=p.kept.filter fun a=>decide (n<a+p.by_)
def PS.keep(p:PS)(n:Int)(ended:Bool):PS:=
 { p with
  some_:=p.some_ || ended
  kept:=if p.least then (if ended&&p.kept.isEmpty then [n] else p.kept) else keepL p n++(if ended&&decide (n<n+p.by_) then [n] else []) }
structure PS.small (p:PS):Prop where
 c:p.c.small
 by_:-10000000<=p.by_/\p.by_<=10000000
 kept:∀a∈p.kept,-10000000<=a/\a<=10000000
 len:p.kept.length<=10000000
def partC(p:PS)(kp:AV):List AV:=contCell p.c++[.int .i64 p.i,.bool p.first,.int .i64 p.by_,.bool p.least,kp,.int .i64 p.kept.length,.bool p.some_]
theorem partC_len{p:PS}{kp:AV}:(partC p kp).length=15:=rfl
def headP:List Nat->AV->AV
 |[],v=>v
 |b::_,_=>.ptr (some ⟨b,0,2⟩)
def ChainTo(h:Heap):List Int->List Nat->AV->Prop
 |[],[],_=>True
 |a::al,b::bs,v=>h[b]?=some (.cells [.int .i64 a,headP bs v] 181 false)/\ChainTo h al bs v
 |_,_,_=>False
theorem ChainTo.len{h:Heap}:∀{al:List Int} {bs:List Nat} {v:AV},ChainTo h al bs v->al.length=bs.length
 |[],[],_,_=>rfl
 |a::al,b::bs,v,H=>by simp[ChainTo.len H.2]
 |[],_::_,_,H=>H.elim
 |_::_,[],_,H=>H.elim
theorem headP_app{b2:List Nat}{v:AV}:∀{bs:List Nat},headP (bs++b2) v=headP bs (headP b2 v)
 |[]=>rfl
 |_::_=>rfl
theorem ChainTo.app{h:Heap}{a2:List Int}{b2:List Nat}{v:AV}:∀{al:List Int} {bs:List Nat},ChainTo h al bs (headP b2 v)->ChainTo h a2 b2 v->ChainTo h (al++a2) (bs++b2) v
 |[],[],_,H2=>H2
 |a::al,b::bs,H,H2=>by
  refine⟨?_,ChainTo.app H.2 H2⟩
  have:=H.1
  show h[b]?=some (.cells [.int .i64 a,headP (bs++b2) v] 181 false)
  rw[headP_app];exact this
 |[],_::_,H,_=>H.elim
 |_::_,[],H,_=>H.elim
theorem ChainTo.keep{h h':Heap}{fp:Nat->Prop}(ho:Only fp h h'):∀{al:List Int} {bs:List Nat} {v:AV},ChainTo h al bs v->(∀b∈bs,¬fp b)->ChainTo h' al bs v
 |[],[],_,_,_=>trivial
 |a::al,b::bs,v,H,hf=>⟨ho.at H.1 (hf b (List.mem_cons_self ..)),ChainTo.keep ho H.2 fun c hc=>hf c (List.mem_cons_of_mem _ hc)⟩
 |[],_::_,_,H,_=>H.elim
 |_::_,[],_,H,_=>H.elim
theorem ChainTo.lt{h:Heap}:∀{al:List Int} {bs:List Nat} {v:AV},ChainTo h al bs v->∀b∈bs,b<h.length
 |[],[],_,_,b,hb=>by simp at hb
 |a::al,b::bs,v,H,c,hc=>by
  rcases List.mem_cons.1 hc with rfl|hc
  . exact lt_of_at H.1
  . exact ChainTo.lt H.2 c hc
 |[],_::_,_,H,_,_=>H.elim
 |_::_,[],_,H,_,_=>H.elim
theorem ChainTo.relink{h:Heap}{a:Int}{b:Nat}{v v':AV}:∀{al:List Int} {bs:List Nat},ChainTo h (al++[a]) (bs++[b]) v->(bs++[b]).Nodup->ChainTo (h.set b (.cells [.int .i64 a,v'] 181 false)) (al++[a]) (bs++[b]) v'
 |[],[],H,_=>⟨by rw[List.getElem?_set_self (lt_of_at H.1)];rfl,trivial⟩
 |x::al,c::bs,H,hn=>by
  have hn':=List.nodup_cons.1 hn
  refine⟨?_,ChainTo.relink H.2 hn'.2⟩
  have hcb:c≠b:=fun e=>hn'.1 (by simp[e])
  rw[List.getElem?_set_ne (Ne.symm hcb)]
  have h1:h[c]?=some (.cells [.int .i64 x,headP (bs++[b]) v] 181 false):=H.1
  rw[headP_app] at h1
  show h[c]?=some (.cells [.int .i64 x,headP (bs++[b]) v'] 181 false)
  rw[headP_app]
  exact h1
 |[],c::bs,H,_=>by
  have:=ChainTo.len H
  simp at this
 |x::al,[],H,_=>by
  have:=ChainTo.len H
  simp at this
structure PartAt (h:Heap) (pb:Nat) (p:PS) (kbs:List Nat):Prop where
 hdr:h[pb]?=some (.cells (partC p (headP kbs (.ptr none))) 147 false)
 chain:ChainTo h p.kept kbs (.ptr none)
abbrev ptPtr(pb:Nat):AV:=.ptr (some ⟨pb,0,15⟩)
theorem PartAt.keep{h h':Heap}{pb:Nat}{p:PS}{kbs:List Nat}{fp:Nat->Prop}(H:PartAt h pb p kbs)(ho:Only fp h h')(h1:¬fp pb)(h2:∀b∈kbs,¬fp b):PartAt h' pb p kbs:=
 ⟨ho.at H.hdr h1,H.chain.keep ho h2⟩
theorem PartAt.same{h h':Heap}{pb:Nat}{p:PS}{kbs:List Nat}(H:PartAt h pb p kbs)(ho:Only (fun _=>False) h h'):PartAt h' pb p kbs:=H.keep ho id fun _ _=>id
theorem part_cont{h:Heap}{pb:Nat}{cs:List AV}{c:Cont}{r:List AV}(hh:h[pb]?=some (.cells cs 147 false))(hc:cs=contCell c++r)(hl:cs.length=15):aload Try.prog (look h) 52 (.ptr (some ⟨pb,0,15⟩))=some c.av:=by
 have hr:row (look h) ⟨pb,0,15⟩=some cs:=by simp[row,hh,hl]
 simp only[aload,hr,tk_52,agk,tsz_52]
 rw[if_pos (by rw[hl];decide),hc]
 rfl
theorem placed_run{h:Heap}{c:Cont}(hc:c.small){e:Nat}(he:e<=2000000):∃h',D cfg 109 [c.av,.int .i64 e] h=some (.bool (placed c e),h')/\Only (fun _=>False) h h':=by
 refine⟨h++[.cells (contCell c) 52 false],D_eq (call109 (R:=fun r h'=>r=_/\h'=_) (by simp) ?_),.app⟩
 have hb:(h++[AObj.cells (contCell c) 52 false])[h.length]?=some (.cells (contCell c) 52 false):=by simp
 obtain⟨q0,q1,q2,q3,q4,q5,q6,q7⟩:=contLoads hb
 have hcb:=hc.b
 have hco:=hc.o
 have hcd:=hc.d
 have hw1:IntKind.wrap .i64 ((e:Int)-c.bytes.length)=e-c.bytes.length:=wrap_i64 (by omega) (by omega)
 have hw2:IntKind.wrap .i64 (c.offset+c.depth)=c.offset+c.depth:=wrap_i64 (by omega) (by omega)
 cases hr:c.rel with
 |true=>simp[c109,c109_r0,c109_r1,fieldA,q0,q3,q4,q5,hr,placed,len1,alenS]
 |false=>
  by_cases h1:c.offset<=(e:Int)-c.bytes.length
  . by_cases h2:c.depth<=0
    . simp[c109,c109_r0,c109_r1,fieldA,q0,q3,q4,q5,hr,placed,len1,alenS,hw1,h1,h2]
    . simp[c109,c109_r0,c109_r1,fieldA,q0,q3,q4,q5,hr,placed,len1,alenS,hw1,hw2,h1,h2]
  . simp[c109,c109_r0,c109_r1,fieldA,q0,q3,q4,q5,hr,placed,len1,alenS,hw1,h1]
theorem follows_run{h:Heap}{c:Cont}(hc:c.small){e at_:Int}(he:-10000000<=e/\e<=10000000)(ha:-10000000<=at_/\at_<=10000000):∃h',D cfg 122 [c.av,.int .i64 e,.int .i64 at_] h=some (.bool (followsT c e at_),h')/\Only (fun _=>False) h h':=by
 refine⟨h++[.cells (contCell c) 52 false],D_eq (call122 (R:=fun r h'=>r=_/\h'=_) (by simp) ?_),.app⟩
 have hb:(h++[AObj.cells (contCell c) 52 false])[h.length]?=some (.cells (contCell c) 52 false):=by simp
 obtain⟨q0,q1,q2,q3,q4,q5,q6,q7⟩:=contLoads hb
 have hcb:=hc.b
 have hcd:=hc.di
 have hcw:=hc.w
 have hw1:IntKind.wrap .i64 (at_+c.distance)=at_+c.distance:=wrap_i64 (by omega) (by omega)
 have hw2:IntKind.wrap .i64 (e-c.bytes.length)=e-c.bytes.length:=wrap_i64 (by omega) (by omega)
 have hw3:IntKind.wrap .i64 (at_+c.distance+c.within)=at_+c.distance+c.within:=wrap_i64 (by omega) (by omega)
 by_cases h1:at_+c.distance<=e-c.bytes.length
 . by_cases h2:c.within<=0
   . simp[c122,c122_r0,c122_r1,c122_r2,fieldA,q0,q6,q7,followsT,len1,alenS,hw1,hw2,h1,h2]
   . simp[c122,c122_r0,c122_r1,c122_r2,fieldA,q0,q6,q7,followsT,len1,alenS,hw1,hw2,hw3,h1,h2]
 . simp[c122,c122_r0,c122_r1,c122_r2,fieldA,q0,q6,q7,followsT,len1,alenS,hw1,hw2,h1]
abbrev env110(pb:Nat)(here:Bool)(e:Int)(x:AV):Env:=[(0,ptPtr pb),(2,.bool here),(3,.int .i64 e),(9,x)]
def In110(h₀:Heap)(pb:Nat)(c:Cont)(q:PS)(qbs:List Nat)(here:Bool)(e:Int)(m:Nat)(σ:St):Prop:=
 ∃al bs h,m=al.length/\(∀a∈al,a∈q.kept)/\((q.kept.any fun a=>followsT c e a)=al.any fun a=>followsT c e a)/\σ=⟨env110 pb here e (headP bs (.ptr none)),h⟩/\ChainTo h al bs (.ptr none)/\(∃cs r,h[pb]?=some (.cells cs 147 false)/\cs=contCell c++r/\cs.length=15)/\Only (fun _=>False) h₀ h
theorem after_run{h:Heap}{pb qb:Nat}{p q:PS}{pbs qbs:List Nat}(H:PartAt h pb p pbs)(Hq:PartAt h qb q qbs)(hs:p.c.small)(hq:q.small){here:Bool}{e:Int}(he:-10000000<=e/\e<=10000000):
  ∃h',D cfg 110 [ptPtr pb,ptPtr qb,.bool here,.int .i64 e] h=some (.bool (afterB p.c q here e),h')/\Only (fun _=>False) h h':=by
 have key:∃r h',D cfg 110 [ptPtr pb,ptPtr qb,.bool here,.int .i64 e] h=some (r,h')/\(r=.bool (afterB p.c q here e)/\Only (fun _=>False) h h'):=by
  refine call110 (R:=fun r h'=>r=.bool (afterB p.c q here e)/\Only (fun _=>False) h h') (args:=[ptPtr pb,ptPtr qb,.bool here,.int .i64 e]) (h:=h) (by simp) ?_
  have q5:=cell_load Hq.hdr partC_len (t:=145) (by simp) (off:=12) rfl
  simp[c110,c110_r0,c110_r1,c110_r3,fieldA,q5]
  refine Wt.loop (In110 h pb p.c q qbs here e) (m:=q.kept.length) ⟨q.kept,qbs,h,rfl,fun _=>id,rfl,rfl,Hq.chain,⟨_,_,H.hdr,rfl,rfl⟩,.refl⟩ ?_
  rintro m σ ⟨al,bs,h1,rfl,hsub,hany,rfl,hch,⟨cs,r,g,hcs,hl⟩,ho⟩
  have hcut:cut (some [0,2,3,9]) (env110 pb here e (headP bs (.ptr none)))=env110 pb here e (headP bs (.ptr none)):=by simp
  simp only[hcut]
  have pc:=part_cont g hcs hl
  match al,bs,hch with
  |[],[],_=>
   obtain⟨h2,e2,o2⟩:=follows_run (h:=h1) hs he he
   cases hhere:here with
   |false=>
    have hres:afterB p.c q false e=false:=by simp only[afterB,hany];simp
    simp[c110_l4,c110_r4,c110_r8,headP,hres]
    exact ho
   |true=>
    have hres:afterB p.c q true e=followsT p.c e e:=by simp only[afterB,hany];simp
    simp[c110_l4,c110_r4,c110_r8,headP,hres,fieldA,pc,e2]
    exact ho.trans o2
  |a::al,b::bs,⟨hb,hch'⟩=>
   have ha:=hq.kept a (hsub a (List.mem_cons_self ..))
   obtain⟨h2,e2,o2⟩:=follows_run (h:=h1) hs he ha
   have r0:=cell_load hb (n:=2) rfl (t:=3) (by simp) (off:=0) rfl
   have hb2:=o2.at hb id
   have r1:=cell_load hb2 (n:=2) rfl (t:=145) (by simp) (off:=1) rfl
   cases hf:followsT p.c e a with
   |true=>
    rw[hf] at e2
    have hres:afterB p.c q here e=true:=by simp only[afterB,hany,List.any_cons,hf];simp
    simp[c110_l4,c110_r4,c110_r6,c110_r7,headP,hres,fieldA,pc,r0,e2]
    exact ho.trans o2
   |false=>
    rw[hf] at e2
    have hnext:In110 h pb p.c q qbs here e al.length ⟨env110 pb here e (headP bs (.ptr none)),h2⟩:=⟨al,bs,h2,rfl,fun x hx=>hsub x (List.mem_cons_of_mem _ hx),by rw[hany,List.any_cons,hf,Bool.false_or],rfl,hch'.keep o2 fun _ _=>id,⟨cs,r,o2.at g id,hcs,hl⟩,ho.trans o2⟩
    have hh0:headP (b::bs) (.ptr none)=.ptr (some ⟨b,0,2⟩):=rfl
    rw[hh0]
    have hnt:(headP bs (.ptr none)).notTup=true:=by cases bs<;>rfl
    simp only[env110] at hnext
    simp[-AV.notTup,hnt,c110_l4,c110_r4,c110_r5,c110_r6,fieldA,pc,r0,e2,r1]
    exact⟨al.length,by simp,by simpa using hnext⟩
 obtain⟨r,h',h1,rfl,h2⟩:=key
 exact⟨h',h1,h2⟩
section
def partR(p:PS)(kp:AV)(n:Nat)(so:Bool):List AV:=contCell p.c++[.int .i64 p.i,.bool p.first,.int .i64 p.by_,.bool p.least,kp,.int .i64 n,.bool so]
theorem partR_len{p:PS}{kp:AV}{n:Nat}{so:Bool}:(partR p kp n so).length=15:=rfl
theorem partR_12{p:PS}{kp v:AV}{n:Nat}{so:Bool}:(partR p kp n so).set 12 v=partR p v n so:=rfl
theorem partR_13{p:PS}{kp:AV}{n n':Nat}{so:Bool}:(partR p kp n so).set 13 (.int .i64 n')=partR p kp n' so:=rfl
theorem partR_14{p:PS}{kp:AV}{n:Nat}{so so':Bool}:(partR p kp n so).set 14 (.bool so')=partR p kp n so':=rfl
def toP(pb:Nat):List Nat->AV
 |[]=>.ptr (some ⟨pb,12,15⟩)
 |[b]=>.ptr (some ⟨b,1,2⟩)
 |_::c::r=>toP pb (c::r)
theorem toP_snoc{pb b:Nat}:∀{db:List Nat},toP pb (db++[b])=.ptr (some ⟨b,1,2⟩)
 |[]=>rfl
 |[c]=>rfl
 |_::c::r=>toP_snoc (db:=c::r)
theorem headP_one{v:AV}(hv:v.one=true):∀{bs:List Nat},(headP bs v).one=true
 |[]=>hv
 |_::_=>rfl
theorem headP_nt{v:AV}(hv:v.notTup=true):∀{bs:List Nat},(headP bs v).notTup=true
 |[]=>hv
 |_::_=>rfl
theorem ChainTo.last{h:Heap}{a:Int}{b:Nat}{v:AV}:∀{al:List Int} {bs:List Nat},ChainTo h (al++[a]) (bs++[b]) v->h[b]?=some (.cells [.int .i64 a,v] 181 false)
 |[],[],H=>H.1
 |x::al,c::bs,H=>ChainTo.last H.2
 |[],c::bs,H=>by have:=ChainTo.len H;simp at this
 |x::al,[],H=>by have:=ChainTo.len H;simp at this
structure KI (p:PS) (pb:Nat) (h:Heap) (da:List Int) (db:List Nat) (v:AV) (n:Nat) (so:Bool):Prop where
 hdr:h[pb]?=some (.cells (partR p (headP db v) n so) 147 false)
 ch:ChainTo h da db v
 nodup:(pb::db).Nodup
section
variable {p:PS} {pb:Nat} {h:Heap} {da:List Int} {db:List Nat} {v:AV} {n:Nat} {so:Bool}
theorem KI.load(H:KI p pb h da db v n so):aload Try.prog (look h) 145 (toP pb db)=some v:=by
 rcases List.eq_nil_or_concat db with e|⟨ds,b,e⟩
 . subst e
   exact cell_load H.hdr partR_len (by simp) rfl
 . have e':db=ds++[b]:=by simpa using e
   subst e'
   have hl:=H.ch.len
   rcases List.eq_nil_or_concat da with e|⟨as',a,e⟩
   . subst e;simp at hl
   . have e':da=as'++[a]:=by simpa using e
     subst e'
     rw[toP_snoc]
     exact cell_load H.ch.last rfl (by simp) rfl
theorem KI.store(H:KI p pb h da db v n so){v':AV}(hv:v'.one=true):∃c o,astore Try.prog (look h) 145 (toP pb db) v'=some (.set c o)/\KI p pb (h.set c o) da db v' n so/\(c=pb\/c∈db)/\toP pb db≠.nilf:=by
 rcases List.eq_nil_or_concat db with e|⟨ds,b,e⟩
 . subst e
   have hda:da=[]:=List.length_eq_zero_iff.1 (by have:=H.ch.len;simpa using this)
   subst hda
   refine⟨pb,_,cell_store H.hdr partR_len (by simp) hv (off:=12) (by decide),⟨?_,trivial,H.nodup⟩,.inl rfl,by simp[toP]⟩
   rw[List.getElem?_set_self (lt_of_at H.hdr),partR_12]
   rfl
 . have e':db=ds++[b]:=by simpa using e
   subst e'
   have hl:=H.ch.len
   rcases List.eq_nil_or_concat da with e|⟨as',a,e⟩
   . subst e;simp at hl
   . have e':da=as'++[a]:=by simpa using e
     subst e'
     have hb:=H.ch.last
     have hn:=List.nodup_cons.1 H.nodup
     have hne:pb≠b:=fun e=>hn.1 (by simp[e])
     rw[toP_snoc]
     refine⟨b,.cells [.int .i64 a,v'] 181 false,cell_store hb (n:=2) rfl (by simp) hv (off:=1) (by decide),⟨?_,H.ch.relink hn.2,H.nodup⟩,.inr (by simp),by simp⟩
     rw[List.getElem?_set_ne (Ne.symm hne),H.hdr,headP_app,headP_app]
     rfl
theorem KI.num(H:KI p pb h da db v n so){n':Nat}:KI p pb (h.set pb (.cells (partR p (headP db v) n' so) 147 false)) da db v n' so:=by
 refine⟨by rw[List.getElem?_set_self (lt_of_at H.hdr)],H.ch.keep (fp:=fun c=>c=pb) (.set rfl) fun b hb e=>?_,H.nodup⟩
 exact (List.nodup_cons.1 H.nodup).1 (e▸hb)
theorem KI.keep{h':Heap}{fp:Nat->Prop}(H:KI p pb h da db v n so)(ho:Only fp h h')(h1:¬fp pb)(h2:∀b∈db,¬fp b):KI p pb h' da db v n so:=
 ⟨ho.at H.hdr h1,H.ch.keep ho h2,H.nodup⟩
end
structure K111 (p:PS) (pb:Nat) (kbs:List Nat) (h₀:Heap) (n:Int) (so:Bool) (da ra:List Int) (db rb:List Nat) (h:Heap):Prop where
 ki:KI p pb h da db (headP rb (.ptr none)) da.length so
 rest:ChainTo h ra rb (.ptr none)
 nodup:(pb::(db++rb)).Nodup
 sub:∀b∈db++rb,b∈kbs
 fil:keepL p n=da++ra.filter fun a=>decide (n<a+p.by_)
 all:∀a∈ra,a∈p.kept
 len:da.length+ra.length<=p.kept.length
 only:Only (fun c=>c=pb\/c∈kbs) h₀ h
abbrev env111(pb:Nat)(n:Int)(ended:Bool)(to:AV):Env:=[(0,ptPtr pb),(1,.int .i64 n),(2,.bool ended),(6,to)]
def In111(p:PS)(pb:Nat)(kbs:List Nat)(h₀:Heap)(n:Int)(ended so:Bool)(m:Nat)(σ:St):Prop:=
 ∃da ra db rb h,m=ra.length/\σ=⟨env111 pb n ended (toP pb db),h⟩/\K111 p pb kbs h₀ n so da ra db rb h
theorem toP_nt{pb:Nat}:∀{db:List Nat},(toP pb db).notTup=true/\nilck (toP pb db)=some (toP pb db)
 |[]=>⟨rfl,rfl⟩
 |[_]=>⟨rfl,rfl⟩
 |_::c::r=>toP_nt (db:=c::r)
theorem keep_loop{p:PS}{pb:Nat}{kbs:List Nat}{h₀ h:Heap}{n:Int}{ended so:Bool}(hs:p.small)(hn:-1000000<=n/\n<=1000000)(H:K111 p pb kbs h₀ n so [] p.kept [] kbs h){Q:AExit->St->Prop}
  (hq:∀db h',KI p pb h' (keepL p n) db (.ptr none) (keepL p n).length so->(∀b∈db,b∈kbs)->Only (fun c=>c=pb\/c∈kbs) h₀ h'->Q (.exit 0) ⟨env111 pb n ended (toP pb db)++[(47,.bool false)],h'⟩):
  Wt Try.prog (D cfg) (.loop c111_l6 (some [0,1,2,6])) ⟨env111 pb n ended (toP pb []),h⟩ Q:=by
 refine Wt.loop (In111 p pb kbs h₀ n ended so) (m:=p.kept.length) ⟨[],p.kept,[],kbs,h,rfl,rfl,H⟩ ?_
 rintro m σ ⟨da,ra,db,rb,h1,rfl,rfl,I⟩
 have hcut:cut (some [0,1,2,6]) (env111 pb n ended (toP pb db))=env111 pb n ended (toP pb db):=by simp
 simp only[hcut]
 have q1:=I.ki.load
 have hck:=(toP_nt (pb:=pb) (db:=db)).2
 match ra,rb,I with
 |[],[],I=>
  have hfil:=I.fil
  simp at hfil
  have hh0:headP [] (.ptr none)=.ptr none:=rfl
  rw[hh0] at q1
  have:=hq db h1 (by have:=I.ki;rw[hh0] at this;rw[hfil];exact this) (fun b hb=>I.sub b (by simp[hb])) I.only
  simp only[env111] at this
  simp[c111_l6,c111_r6,hck,q1]
  simpa using this
 |a::ra,b::rb,I=>
  obtain⟨hb,hrest⟩:=I.rest
  have hnd:=I.nodup
  have ha:=hs.kept a (I.all a (List.mem_cons_self ..))
  have hby:=hs.by_
  have hw:IntKind.wrap .i64 (a+p.by_)=a+p.by_:=wrap_i64 (by omega) (by omega)
  have hh0:headP (b::rb) (.ptr none)=.ptr (some ⟨b,0,2⟩):=rfl
  rw[hh0] at q1
  have r0:=cell_load hb (n:=2) rfl (t:=3) (by simp) (off:=0) rfl
  have r1:=cell_load hb (n:=2) rfl (t:=145) (by simp) (off:=1) rfl
  have q10:=cell_load I.ki.hdr partR_len (t:=3) (by simp) (off:=10) rfl
  have q13:=cell_load I.ki.hdr partR_len (t:=3) (by simp) (off:=13) rfl
  have hpbb:b≠pb:=fun e=>by
   have:=(List.nodup_cons.1 hnd).1
   exact this (by simp[<-e])
  have hbk:b∈kbs:=I.sub b (by simp)
  have hnodup2:(pb::((db++[b])++rb)).Nodup:=by simpa using hnd
  by_cases hk:n<a+p.by_
  . have hlen:=I.len
    simp at hlen
    have hkl:=hs.len
    obtain⟨L,hL⟩:∃L:Nat,da.length+1=L:=⟨_,rfl⟩
    have hwl:IntKind.wrap .i64 ((da.length:Int)+1)=L:=by rw[wrap_i64 (by omega) (by omega)];omega
    have s13:=cell_store I.ki.hdr partR_len (t:=3) (by simp) (v:=.int .i64 L) rfl (off:=13) (by decide)
    rw[partR_13] at s13
    obtain⟨h2,hh2⟩:∃h2,h1.set pb (.cells (partR p (headP db (headP (b::rb) (.ptr none))) L so) 147 false)=h2:=⟨_,rfl⟩
    have ki2:KI p pb h2 da db (headP (b::rb) (.ptr none)) L so:=by rw[<-hh2];exact I.ki.num
    have o2:Only (fun c=>c=pb) h1 h2:=by rw[<-hh2];exact .set rfl
    have hb2:=o2.at hb hpbb
    have hrest2:=hrest.keep o2 fun c hc e=>by
     have:=(List.nodup_cons.1 hnd).1
     exact this (by simp[<-e,hc])
    have hnext:In111 p pb kbs h₀ n ended so ra.length ⟨env111 pb n ended (toP pb (db++[b])),h2⟩:=by
     refine⟨da++[a],ra,db++[b],rb,h2,rfl,rfl,⟨⟨?_,?_,?_⟩,hrest2,hnodup2,by simpa using I.sub,?_,fun x hx=>I.all x (List.mem_cons_of_mem _ hx),by simp;omega,I.only.trans (o2.mono fun _ _=>.inl)⟩⟩
     . rw[headP_app]
       have:=ki2.hdr
       rw[show (da++[a]).length=L by simp;omega]
       exact this
     . exact ChainTo.app (a2:=[a]) (b2:=[b]) ki2.ch ⟨hb2,trivial⟩
     . have:=List.nodup_cons.1 hnodup2
       exact List.nodup_cons.2 ⟨fun h=>this.1 (by simp at h ⊢;rcases h with h|h<;>simp[h]),(List.nodup_append.1 this.2).1⟩
     . rw[I.fil,List.filter_cons,if_pos (by simpa using hk)]
       simp
    rw[toP_snoc] at hnext
    simp only[env111] at hnext
    rw[hh0] at s13 hh2
    simp[c111_l6,c111_r6,c111_r7,c111_r8,c111_r9,hck,q1,fieldA,r0,q10,hw,hk,q13,hwl,s13,hh2]
    exact⟨ra.length,by simp,by simpa using hnext⟩
  . have hv1:(headP rb (.ptr none)).one=true:=headP_one rfl
    have hvt:(headP rb (.ptr none)).notTup=true:=headP_nt rfl
    obtain⟨c,o,s1,ki2,hc,_⟩:=I.ki.store hv1
    obtain⟨h2,hh2⟩:∃h2,h1.set c o=h2:=⟨_,rfl⟩
    rw[hh2] at ki2
    have o2:Only (fun x=>x=c) h1 h2:=by rw[<-hh2];exact .set rfl
    have hcm:c=pb\/c∈kbs:=by
     rcases hc with hc|hc
     . exact .inl hc
     . exact .inr (I.sub c (by simp[hc]))
    have hrest2:=hrest.keep o2 fun x hx e=>by
     have h5:=List.nodup_cons.1 hnd
     rcases hc with hc|hc
     . exact h5.1 (by simp[<-hc,<-e,hx])
     . have:=(List.nodup_append.1 h5.2).2.2 c hc x (by simp[hx])
       exact this e.symm
    have hnext:In111 p pb kbs h₀ n ended so ra.length ⟨env111 pb n ended (toP pb db),h2⟩:=by
     refine⟨da,ra,db,rb,h2,rfl,rfl,⟨ki2,hrest2,?_,fun x hx=>I.sub x (by simp at hx ⊢;rcases hx with hx|hx<;>simp[hx]),?_,fun x hx=>I.all x (List.mem_cons_of_mem _ hx),by have:=I.len;simp at this;omega,I.only.trans (o2.mono fun x _ e=>by rw[e];exact hcm)⟩⟩
     . simp[List.nodup_append] at hnd ⊢
       exact⟨⟨hnd.1.1,hnd.1.2.2⟩,hnd.2.1,hnd.2.2.1.2,fun x hx y hy=>(hnd.2.2.2 x hx).2 y hy⟩
     . rw[I.fil,List.filter_cons,if_neg (by simpa using hk)]
    simp only[env111] at hnext
    simp[-AV.notTup,hvt,c111_l6,c111_r6,c111_r7,c111_r10,hck,q1,fieldA,r0,q10,hw,hk,r1,s1,hh2]
    exact⟨ra.length,by simp,by simpa using hnext⟩
 |[],b::rb,I=>exact absurd I.rest.len (by simp)
 |a::ra,[],I=>exact absurd I.rest.len (by simp)
theorem keep_run{h:Heap}{pb:Nat}{p:PS}{kbs:List Nat}(H:PartAt h pb p kbs)(hnd:(pb::kbs).Nodup)(hs:p.small){n:Int}(hn:-1000000<=n/\n<=1000000){ended:Bool}:
  ∃h' kbs',D cfg 111 [ptPtr pb,.int .i64 n,.bool ended] h=some (.tup [],h')/\PartAt h' pb (p.keep n ended) kbs'/\Only (fun c=>c=pb\/c∈kbs) h h'/\(pb::kbs').Nodup/\(∀c∈kbs',c∈kbs\/h.length<=c):=by
 have key:∃r h',D cfg 111 [ptPtr pb,.int .i64 n,.bool ended] h=some (r,h')/\(∃kbs',r=.tup []/\PartAt h' pb (p.keep n ended) kbs'/\Only (fun c=>c=pb\/c∈kbs) h h'/\(pb::kbs').Nodup/\(∀c∈kbs',c∈kbs\/h.length<=c)):=by
  refine call111 (R:=fun r h'=>∃kbs',r=.tup []/\PartAt h' pb (p.keep n ended) kbs'/\Only (fun c=>c=pb\/c∈kbs) h h'/\(pb::kbs').Nodup/\(∀c∈kbs',c∈kbs\/h.length<=c)) (args:=[ptPtr pb,.int .i64 n,.bool ended]) (h:=h) (by simp) ?_
  have hH:h[pb]?=some (.cells (partR p (headP kbs (.ptr none)) p.kept.length p.some_) 147 false):=H.hdr
  have q14:=cell_load hH partR_len (t:=4) (by simp) (off:=14) rfl
  obtain⟨so,hso⟩:∃so,(p.some_ || ended)=so:=⟨_,rfl⟩
  have s14:=cell_store hH partR_len (t:=4) (by simp) (v:=.bool so) rfl (off:=14) (by decide)
  rw[partR_14] at s14
  obtain⟨h1,hh1⟩:∃h1,h.set pb (.cells (partR p (headP kbs (.ptr none)) p.kept.length so) 147 false)=h1:=⟨_,rfl⟩
  have g1:h1[pb]?=some (.cells (partR p (headP kbs (.ptr none)) p.kept.length so) 147 false):=by rw[<-hh1,List.getElem?_set_self (lt_of_at hH)]
  have o1:Only (fun c=>c=pb) h h1:=by rw[<-hh1];exact .set rfl
  have hnc:=List.nodup_cons.1 hnd
  have ch1:=H.chain.keep o1 fun b hb e=>hnc.1 (e▸hb)
  have q11:=cell_load g1 partR_len (t:=4) (by simp) (off:=11) rfl
  have q12:=cell_load g1 partR_len (t:=145) (by simp) (off:=12) rfl
  have hpick:∀b:Bool,(if p.some_=true then AV.bool true else AV.bool b)=.bool (p.some_ || b):=fun b=>by cases p.some_<;>rfl
  have hcl:=H.chain.len
  have hhp:(headP kbs (.ptr none)).notTup=true:=headP_nt rfl
  cases hle:p.least with
  |true=>
   rw[hle] at q11
   have hfin:ended=false\/kbs≠[]->∃kbs',(.tup []:AV)=.tup []/\PartAt h1 pb (p.keep n ended) kbs'/\Only (fun c=>c=pb\/c∈kbs) h h1/\(pb::kbs').Nodup/\(∀c∈kbs',c∈kbs\/h.length<=c):=by
    intro hor
    have hke:(p.keep n ended).kept=p.kept:=by
     simp only[PS.keep,hle,if_true]
     rw[if_neg]
     intro hc
     simp at hc
     rcases hor with h|h
     . rw[h] at hc;simp at hc
     . exact h (List.length_eq_zero_iff.1 (by rw[<-hcl,hc.2];rfl))
    refine⟨kbs,rfl,⟨?_,?_⟩,o1.mono fun _ _=>.inl,hnd,fun c hc=>.inl hc⟩
    . rw[g1]
      simp only[partC,partR,hke]
      simp only[PS.keep,hso,hle]
    . rw[hke];exact ch1
   cases hen:ended with
   |false=>
    rw[hen] at hfin hso
    have:=hfin (.inl rfl)
    cases hsm:p.some_ with
    |true=>
     rw[hsm] at q14 hso
     simp at hso
     subst hso
     simp[c111,c111_r0,c111_r1,c111_r2,fieldA,q14,s14,hh1,q11]
     simpa using this
    |false=>
     rw[hsm] at q14 hso
     simp at hso
     subst hso
     simp[c111,c111_r0,c111_r1,c111_r2,fieldA,q14,s14,hh1,q11]
     simpa using this
   |true=>
    rw[hen] at hfin hso
    simp at hso
    subst hso
    cases kbs with
    |cons b bs=>
     have:=hfin (.inr (by simp))
     have hh0:headP (b::bs) (.ptr none)=.ptr (some ⟨b,0,2⟩):=rfl
     rw[hh0] at q12 s14 hh1
     cases hsm:p.some_ with
     |true=>
      rw[hsm] at q14
      simp[c111,c111_r0,c111_r1,c111_r2,fieldA,q14,s14,hh1,q11,q12]
      simpa using this
     |false=>
      rw[hsm] at q14
      simp[c111,c111_r0,c111_r1,c111_r2,fieldA,q14,s14,hh1,q11,q12]
      simpa using this
    |nil=>
     have hk0:p.kept=[]:=List.length_eq_zero_iff.1 (by simpa using hcl)
     have hh0:headP [] (.ptr none)=.ptr none:=rfl
     rw[hh0] at q12 s14 hh1 g1
     obtain⟨h2,hh2⟩:∃h2,h1++[AObj.cells [.int .i64 n,.ptr none] 181 false]=h2:=⟨_,rfl⟩
     have hlt1:=lt_of_at g1
     have g2:h2[pb]?=some (.cells (partR p (.ptr none) p.kept.length true) 147 false):=by rw[<-hh2,List.getElem?_append_left hlt1];exact g1
     have n2:h2[h1.length]?=some (.cells [.int .i64 n,.ptr none] 181 false):=by rw[<-hh2];simp
     have s12:=cell_store g2 partR_len (t:=145) (by simp) (v:=.ptr (some ⟨h1.length,0,2⟩)) rfl (off:=12) (by decide)
     rw[partR_12] at s12
     obtain⟨h3,hh3⟩:∃h3,h2.set pb (.cells (partR p (.ptr (some ⟨h1.length,0,2⟩)) p.kept.length true) 147 false)=h3:=⟨_,rfl⟩
     have g3:h3[pb]?=some (.cells (partR p (.ptr (some ⟨h1.length,0,2⟩)) p.kept.length true) 147 false):=by rw[<-hh3,List.getElem?_set_self (lt_of_at g2)]
     have n3:h3[h1.length]?=some (.cells [.int .i64 n,.ptr none] 181 false):=by rw[<-hh3,List.getElem?_set_ne (by omega)];exact n2
     have s13:=cell_store g3 partR_len (t:=3) (by simp) (v:=.int .i64 (1:Nat)) rfl (off:=13) (by decide)
     rw[partR_13] at s13
     obtain⟨h4,hh4⟩:∃h4,h3.set pb (.cells (partR p (.ptr (some ⟨h1.length,0,2⟩)) 1 true) 147 false)=h4:=⟨_,rfl⟩
     have g4:h4[pb]?=some (.cells (partR p (.ptr (some ⟨h1.length,0,2⟩)) 1 true) 147 false):=by rw[<-hh4,List.getElem?_set_self (lt_of_at g3)]
     have n4:h4[h1.length]?=some (.cells [.int .i64 n,.ptr none] 181 false):=by rw[<-hh4,List.getElem?_set_ne (by omega)];exact n3
     have o4:Only (fun c=>c=pb) h h4:=by
      rw[<-hh4,<-hh3,<-hh2]
      exact ((o1.trans .app).trans (.set rfl)).trans (.set rfl)
     have hl1:h1.length=h.length:=by rw[<-hh1];simp
     have hfin2:∃kbs',(.tup []:AV)=.tup []/\PartAt h4 pb (p.keep n true) kbs'/\Only (fun c=>c=pb\/c∈([]:List Nat)) h h4/\(pb::kbs').Nodup/\(∀c∈kbs',c∈([]:List Nat)\/h.length<=c):=by
      have hke:(p.keep n true).kept=[n]:=by simp[PS.keep,hle,hk0]
      refine⟨[h1.length],rfl,⟨?_,?_⟩,o4.mono fun _ _=>.inl,by simp;omega,fun c hc=>.inr (by simp at hc;omega)⟩
      . rw[g4]
        simp only[partC,partR,hke]
        simp[PS.keep,hle,headP]
      . rw[hke]
        exact⟨n4,trivial⟩
     have s13':astore Try.prog (look h3) 3 (.ptr (some ⟨pb,13,15⟩)) (.int .i64 1)=some (.set pb (.cells (partR p (.ptr (some ⟨h1.length,0,2⟩)) 1 true) 147 false)):=s13
     cases hsm:p.some_ with
     |true=>
      rw[hsm] at q14
      simp[c111,c111_r0,c111_r1,c111_r2,c111_r3,fieldA,q14,s14,hh1,q11,q12,abuild,afill,hh2,s12,hh3,s13',hh4]
      simpa using hfin2
     |false=>
      rw[hsm] at q14
      simp[c111,c111_r0,c111_r1,c111_r2,c111_r3,fieldA,q14,s14,hh1,q11,q12,abuild,afill,hh2,s12,hh3,s13',hh4]
      simpa using hfin2
  |false=>
   rw[hle] at q11
   have s13:=cell_store g1 partR_len (t:=3) (by simp) (v:=.int .i64 (0:Nat)) rfl (off:=13) (by decide)
   rw[partR_13] at s13
   have s13':astore Try.prog (look h1) 3 (.ptr (some ⟨pb,13,15⟩)) (.int .i64 0)=some (.set pb (.cells (partR p (headP kbs (.ptr none)) 0 so) 147 false)):=s13
   obtain⟨h2,hh2⟩:∃h2,h1.set pb (.cells (partR p (headP kbs (.ptr none)) 0 so) 147 false)=h2:=⟨_,rfl⟩
   have g2:h2[pb]?=some (.cells (partR p (headP kbs (.ptr none)) 0 so) 147 false):=by rw[<-hh2,List.getElem?_set_self (lt_of_at g1)]
   have o2:Only (fun c=>c=pb) h h2:=by rw[<-hh2];exact o1.trans (.set rfl)
   have ch2:=H.chain.keep o2 fun b hb e=>hnc.1 (e▸hb)
   have K0:K111 p pb kbs h n so [] p.kept [] kbs h2:=⟨⟨g2,trivial,by simp⟩,ch2,by simpa using hnd,by simp,by simp[keepL],fun _=>id,by simp,o2.mono fun _ _=>.inl⟩
   have hloop:=fun Q hq=>keep_loop (ended:=ended) (Q:=Q) hs hn K0 hq
   simp only[env111,toP] at hloop
   have hcont:∀{h₃:Heap} {db:List Nat},KI p pb h₃ (keepL p n) db (.ptr none) (keepL p n).length so->(∀b∈db,b∈kbs)->Only (fun c=>c=pb\/c∈kbs) h h₃ ->
     Wt Try.prog (D cfg) (.seq (.reg c111_r11 none (some [0,1,6,91])) (.cond (.tmp 91) (.seq (.reg c111_r12 none (some [0])) (.reg c111_r13 none (some []))) .skip (some []))) ⟨env111 pb n ended (toP pb db)++[(47,.bool false)],h₃⟩ (Ends Try.prog [] fun r h'=>∃kbs',r=.tup []/\PartAt h' pb (p.keep n ended) kbs'/\Only (fun c=>c=pb\/c∈kbs) h h'/\(pb::kbs').Nodup/\(∀c∈kbs',c∈kbs\/h.length<=c)):=by
    intro h₃ db ki hsub ho
    have q10:=cell_load ki.hdr partR_len (t:=3) (by simp) (off:=10) rfl
    have hby:=hs.by_
    have hw:IntKind.wrap .i64 (n+p.by_)=n+p.by_:=wrap_i64 (by omega) (by omega)
    have hnb:(n<n+p.by_)↔0<p.by_:=by omega
    by_cases hc:ended=true/\n<n+p.by_
    . obtain⟨hen,hc2⟩:=hc
      subst hen
      obtain⟨h4,hh4⟩:∃h4,h₃++[AObj.cells [.int .i64 n,.ptr none] 181 false]=h4:=⟨_,rfl⟩
      have hlt3:=lt_of_at ki.hdr
      have o4:Only (fun _=>False) h₃ h4:=by rw[<-hh4];exact .app
      have ki4:=ki.keep o4 id fun _ _=>id
      have n4:h4[h₃.length]?=some (.cells [.int .i64 n,.ptr none] 181 false):=by rw[<-hh4];simp
      obtain⟨c,o,s1,ki5,hcm,_⟩:=ki4.store (v':=.ptr (some ⟨h₃.length,0,2⟩)) rfl
      obtain⟨h5,hh5⟩:∃h5,h4.set c o=h5:=⟨_,rfl⟩
      rw[hh5] at ki5
      have hclt:c<h₃.length:=by
       rcases hcm with hc|hc
       . rw[hc];exact hlt3
       . exact ki.ch.lt c hc
      have n5:h5[h₃.length]?=some (.cells [.int .i64 n,.ptr none] 181 false):=by rw[<-hh5,List.getElem?_set_ne (by omega)];exact n4
      obtain⟨L,hL⟩:∃L:Nat,(keepL p n).length+1=L:=⟨_,rfl⟩
      have hkl:(keepL p n).length<=p.kept.length:=List.length_filter_le _ _
      have hsl:=hs.len
      have hwl:IntKind.wrap .i64 (((keepL p n).length:Int)+1)=L:=by rw[wrap_i64 (by omega) (by omega)];omega
      have q13:=cell_load ki5.hdr partR_len (t:=3) (by simp) (off:=13) rfl
      have s13:=cell_store ki5.hdr partR_len (t:=3) (by simp) (v:=.int .i64 L) rfl (off:=13) (by decide)
      rw[partR_13] at s13
      obtain⟨h6,hh6⟩:∃h6,h5.set pb (.cells (partR p (headP db (.ptr (some ⟨h₃.length,0,2⟩))) L so) 147 false)=h6:=⟨_,rfl⟩
      have ki6:KI p pb h6 (keepL p n) db (.ptr (some ⟨h₃.length,0,2⟩)) L so:=by rw[<-hh6];exact ki5.num
      have n6:h6[h₃.length]?=some (.cells [.int .i64 n,.ptr none] 181 false):=by rw[<-hh6,List.getElem?_set_ne (by omega)];exact n5
      have o36:Only (fun x=>x=pb\/x∈kbs) h₃ h6:=by
       rw[<-hh6,<-hh5]
       refine ((o4.mono fun _ _=>False.elim).trans (.set ?_)).trans (.set (.inl rfl))
       rcases hcm with hc|hc
       . exact .inl hc
       . exact .inr (hsub c hc)
      have hke:(p.keep n true).kept=keepL p n++[n]:=by simp[PS.keep,hle,hc2]
      have hhl:=ho.1
      have hfin:∃kbs',(.tup []:AV)=.tup []/\PartAt h6 pb (p.keep n true) kbs'/\Only (fun c=>c=pb\/c∈kbs) h h6/\(pb::kbs').Nodup/\(∀c∈kbs',c∈kbs\/h.length<=c):=by
       refine⟨db++[h₃.length],rfl,⟨?_,?_⟩,ho.trans o36,?_,?_⟩
       . have:=ki6.hdr
         rw[this]
         simp only[partC,partR,hke,headP_app]
         simp[PS.keep,hle,hso,headP,hL]
       . rw[hke]
         exact ChainTo.app (a2:=[n]) (b2:=[h₃.length]) ki6.ch ⟨n6,trivial⟩
       . have h7:=List.nodup_cons.1 ki.nodup
         refine List.nodup_cons.2 ⟨fun hm=>?_,?_⟩
         . rcases List.mem_append.1 hm with hm|hm
           . exact h7.1 hm
           . simp at hm;omega
         . rw[List.nodup_append]
           refine⟨h7.2,by simp,fun x hx y hy e=>?_⟩
           simp at hy
           have:=ki.ch.lt x hx
           omega
       . intro x hx
         rcases List.mem_append.1 hx with hx|hx
         . exact .inl (hsub x hx)
         . simp at hx;exact .inr (by omega)
      have hck:=(toP_nt (pb:=pb) (db:=db)).2
      have hby0:0<p.by_:=hnb.1 hc2
      simp[c111_r11,c111_r12,c111_r13,fieldA,q10,hw,hc2,hby0,abuild,afill,hh4,hck,s1,hh5,q13,hwl,s13,hh6]
      simpa using hfin
    . have hke:(p.keep n ended).kept=keepL p n:=by
       simp only[PS.keep,hle]
       rw[if_neg (by simp),if_neg (by simpa using hc),List.append_nil]
      have hfin:∃kbs',(.tup []:AV)=.tup []/\PartAt h₃ pb (p.keep n ended) kbs'/\Only (fun c=>c=pb\/c∈kbs) h h₃/\(pb::kbs').Nodup/\(∀c∈kbs',c∈kbs\/h.length<=c):=by
       refine⟨db,rfl,⟨?_,?_⟩,ho,ki.nodup,fun c hc=>.inl (hsub c hc)⟩
       . have:=ki.hdr
         rw[this]
         simp only[partC,partR,hke]
         simp[PS.keep,hle,hso]
       . rw[hke];exact ki.ch
      cases hen:ended with
      |false=>
       rw[hen] at hfin
       simp[c111_r11]
       simpa using hfin
      |true=>
       rw[hen] at hfin hc
       have hc2:¬(n<n+p.by_):=fun h=>hc ⟨rfl,h⟩
       have hby0:¬(0<p.by_):=fun h=>hc2 (hnb.2 h)
       simp[c111_r11,fieldA,q10,hw,hc2,hby0]
       simpa using hfin
   cases hsm:p.some_ with
   |true=>
    rw[hsm] at q14
    have hso':so=true:=by rw[<-hso,hsm];rfl
    rw[hso'] at s14
    simp only[hso'] at hh1
    simp[c111,c111_r0,c111_r1,c111_r4,c111_r5,fieldA,q14,s14,hh1,q11,s13',hh2]
    refine hloop _ fun db h3 ki hsub ho=>?_
    have:=hcont ki hsub ho
    simp
    simpa using this
   |false=>
    rw[hsm] at q14
    have hso':so=ended:=by rw[<-hso,hsm];rfl
    rw[hso'] at s14
    simp only[hso'] at hh1
    simp[c111,c111_r0,c111_r1,c111_r4,c111_r5,fieldA,q14,s14,hh1,q11,s13',hh2]
    refine hloop _ fun db h3 ki hsub ho=>?_
    have:=hcont ki hsub ho
    simp
    simpa using this
 obtain⟨r,h',h1,kbs',rfl,h2,h3,h4,h5⟩:=key
 exact⟨h',kbs',h1,h2,h3,h4,h5⟩
end
section
section
variable {h:Heap} {sb:Nat} {lv nv:AV} {B:AB} {l:List Txt} {nc:List Bool} {w:Txt} {tab:Nat->Nat->Nat} {fl ob:Nat->Nat} {ou:Nat->List Int}
theorem fold_snoc{w:Txt}{b:UInt8}:fold (w++[b])=fold w++[lowB b]:=by simp[fold]
theorem scan_step(H:ScanX h sb lv nv B l nc w tab fl ob ou)(hw:w.length<=100000000000){b:UInt8}:
  ∃bl h',D cfg 65 [scPtr sb,.int .u8 b.toNat] h=some (intSl bl (scHits nc (w++[b]) l 0),h')/\ScanX h' sb lv nv B l nc (w++[b]) tab fl ob ou/\Only (fun c=>c=sb) h h' /\
   (scHits nc (w++[b]) l 0≠[]->h.length<=bl/\h'[bl]?=some (.cells (intCells (scHits nc (w++[b]) l 0)) 3 true)):=by
 have key:∃r h',D cfg 65 [scPtr sb,.int .u8 b.toNat] h=some (r,h')/\(∃bl,r=intSl bl (scHits nc (w++[b]) l 0)/\ScanX h' sb lv nv B l nc (w++[b]) tab fl ob ou/\Only (fun c=>c=sb) h h' /\
   (scHits nc (w++[b]) l 0≠[]->h.length<=bl/\h'[bl]?=some (.cells (intCells (scHits nc (w++[b]) l 0)) 3 true))):=by
  refine call65 (R:=fun r h'=>∃bl,r=intSl bl (scHits nc (w++[b]) l 0)/\ScanX h' sb lv nv B l nc (w++[b]) tab fl ob ou/\Only (fun c=>c=sb) h h' /\
   (scHits nc (w++[b]) l 0≠[]->h.length<=bl/\h'[bl]?=some (.cells (intCells (scHits nc (w++[b]) l 0)) 3 true))) (args:=[scPtr sb,.int .u8 b.toNat]) (h:=h) (by simp) ?_
  obtain⟨ring,hr,g1⟩:=H.sc.hdr
  obtain⟨X,hX⟩:∃X,begs (l.map fold)=X:=⟨_,rfl⟩
  have hlt:=H.auto.lt (w:=fold w)
  have A:=H.auto
  rw[hX] at g1 hlt A
  obtain⟨s,hs⟩:∃s,st X (lsuf X (fold w))=s:=⟨_,rfl⟩
  rw[hs] at g1
  obtain⟨n,hn⟩:∃n,w.length=n:=⟨_,rfl⟩
  rw[hn] at g1
  obtain⟨k,hk⟩:∃k:Nat,n % 16=k:=⟨_,rfl⟩
  have hrem:((n:Int)).tmod 16=k:=by rw[<-hk];exact tmod_nat' (b:=16)
  have hk16:k<16:=by omega
  have hk16':(k:Int)<16:=by omega
  have hwr:IntKind.wrap .i64 ((n:Int)+1)=((n+1:Nat):Int):=by rw[wrap_i64 (by omega) (by omega)];omega
  obtain⟨n1,hn1⟩:∃n1:Nat,n+1=n1:=⟨_,rfl⟩
  rw[hn1] at hwr
  have hl:=hdrC_len (a:=B.ptr) (lv:=lv) (nv:=nv) (s:=s) (n:=n) hr.1
  have hr':=hr.step (b:=b)
  rw[hn,hk] at hr'
  obtain⟨ring',hrg⟩:∃r,ring.set k b=r:=⟨_,rfl⟩
  rw[hrg] at hr'
  have hl1:=hdrC_len (a:=B.ptr) (lv:=lv) (nv:=nv) (s:=s) (n:=n) hr'.1
  have hl2:=hdrC_len (a:=B.ptr) (lv:=lv) (nv:=nv) (s:=s) (n:=n1) hr'.1
  have q1:=cell_load g1 hl (t:=3) (by simp) hdrC_4
  have s1:=cell_store g1 hl (t:=5) (by simp) (v:=.int .u8 b.toNat) rfl (off:=5+k) (by omega)
  rw[hdrC_set5,hrg] at s1
  obtain⟨h1,hh1⟩:∃h1,h.set sb (.cells (hdrC B.ptr lv nv s n ring') 136 false)=h1:=⟨_,rfl⟩
  have g2:h1[sb]?=some (.cells (hdrC B.ptr lv nv s n ring') 136 false):=by rw[<-hh1,List.getElem?_set_self (lt_of_at g1)]
  have q2:=cell_load g2 hl1 (t:=3) (by simp) hdrC_4
  have s2:=cell_store g2 hl1 (t:=3) (by simp) (v:=.int .i64 n1) rfl (off:=4) (by omega)
  rw[hdrC_set4] at s2
  obtain⟨h2,hh2⟩:∃h2,h1.set sb (.cells (hdrC B.ptr lv nv s n1 ring') 136 false)=h2:=⟨_,rfl⟩
  have g3:h2[sb]?=some (.cells (hdrC B.ptr lv nv s n1 ring') 136 false):=by rw[<-hh2,List.getElem?_set_self (lt_of_at g2)]
  have q3:=cell_load g3 hl2 (t:=57) (by simp) hdrC_0
  have q4:=cell_load g3 hl2 (t:=3) (by simp) hdrC_3
  have o12:Only (fun c=>c=sb) h h2:=by rw[<-hh2,<-hh1];exact (Only.set (fp:=fun c=>c=sb) rfl).trans (.set rfl)
  have A2:AutoX h2 B X (l.map fold) tab fl ob ou:=A.keep o12 fun c hc e=>H.sepA (by rw[hX];exact e▸hc)
  have e1:=lowB_run (h:=h2) (b:=b)
  have e2:=ax_next A2 (w:=fold w) (b:=lowB b)
  rw[<-fold_snoc,hs] at e2
  obtain⟨s',hs'⟩:∃s',st X (lsuf X (fold (w++[b])))=s':=⟨_,rfl⟩
  rw[hs'] at e2
  have hsame:sameAt h2 h2 sb=true:=sameAt_of g3 g3 (beq_hdr H.l_.beq H.n_.beq)
  have s3:=cell_store g3 hl2 (t:=3) (by simp) (v:=.int .i64 s') rfl (off:=3) (by omega)
  rw[hdrC_set3] at s3
  obtain⟨h3,hh3⟩:∃h3,h2.set sb (.cells (hdrC B.ptr lv nv s' n1 ring') 136 false)=h3:=⟨_,rfl⟩
  have g4:h3[sb]?=some (.cells (hdrC B.ptr lv nv s' n1 ring') 136 false):=by rw[<-hh3,List.getElem?_set_self (lt_of_at g3)]
  have hl3:=hdrC_len (a:=B.ptr) (lv:=lv) (nv:=nv) (s:=s') (n:=n1) hr'.1
  have q5:=cell_load g4 hl3 (t:=57) (by simp) hdrC_0
  have q6:=cell_load g4 hl3 (t:=3) (by simp) hdrC_3
  have o13:Only (fun c=>c=sb) h h3:=by rw[<-hh3];exact o12.trans (.set rfl)
  have hwn:(w++[b]).length=n1:=by simp;omega
  have H3:ScanX h3 sb lv nv B l nc (w++[b]) tab fl ob ou:=H.turn o13 ⟨ring',hr',by rw[hX,hs',hwn];exact g4⟩
  have A3:=H3.auto
  rw[hX] at A3
  obtain⟨bo,h4,e3,o4,d4⟩:=ax_out A3 (w:=fold (w++[b]))
  rw[hs'] at e3
  have H4:=H3.same o4
  have hov:Sl1 h4 (intSl bo (outs (fold (w++[b])) (l.map fold) 0)) (intCells (outs (fold (w++[b])) (l.map fold) 0)):=Sl1.ints fun hne=>(d4 hne).1
  have hloop:=fun Q hq=>step_loop (Q:=Q) H4 (by omega) hov hq
  have hol:=fun L=>intSl_lenA (L:=L) (b:=bo) (l:=outs (fold (w++[b])) (l.map fold) 0)
  simp only[stepEnv] at hloop
  simp[abin_rem,c65,c65_r0,c65_r1,c65_r2,c65_r3,c65_r5,c65_r6,c65_r7,fieldA,q1,hrem,aindexAddr,hk16,hk16',s1,hh1,q2,hwr,s2,hh2,q3,q4,e1,e2,hsame,s3,hh3,q5,q6,e3,len1,hol]
  refine hloop _ fun h5 bl o5 d5=>?_
  have o15:Only (fun c=>c=sb) h h5:=(o13.trans (o4.mono fun _ _=>False.elim)).trans (o5.mono fun _ _=>False.elim)
  have hfin:(scHits nc (w++[b]) l 0≠[]->h.length<=bl/\h5[bl]?=some (.cells (intCells (scHits nc (w++[b]) l 0)) 3 true)):=fun hne=>by
   obtain⟨i1,i2⟩:=d5 hne
   have h6:=o13.1
   have h7:=o4.1
   exact⟨by omega,i2⟩
  simp[c65_r13,-AV.notTup,intSl_notTup]
  exact⟨bl,rfl,H4.same o5,o15,hfin⟩
 obtain⟨r,h',h1,bl,rfl,h2,h3,h4⟩:=key
 exact⟨bl,h',h1,h2,h3,h4⟩
def boolSl(b:Nat)(nc:List Bool):AV:=bufSl b nc.length (boolCells nc)
theorem notTup_ptr{a:Option AA}:(AV.ptr a).notTup=true:=rfl
theorem cells_ptr{a:Option AA}:(AV.ptr a).cells=[.ptr a]:=rfl
theorem one_ptr{a:Option AA}:(AV.ptr a).one=true:=rfl
theorem scan_new{v u:AV}(A:AutoX h B (begs (l.map fold)) (l.map fold) tab fl ob ou)(hv:Sl1 h v (strCells l))(hu:Sl1 h u (boolCells nc))(hg:bgood l=true)(hl:l.length<=200)(hn:nc.length<=1000000000):
  ∃sb lv nv h',D cfg 102 [B.ptr,v,u] h=some (scPtr sb,h')/\ScanX h' sb lv nv B l nc [] tab fl ob ou/\Only (fun _=>False) h h'/\(∀c,scFoot sb lv nv B (begs (l.map fold)).length ob ou c->B.foot (begs (l.map fold)).length ob ou c\/h.length<=c)/\h.length<=sb:=by
 obtain⟨δ1,h1,e1,e2,d1,o1⟩:=copy_buf (t:=38) (e:=9) (k:=16) (by simp) (by simp) (by simp) (by simp) hv (by simp[strCells_len,roomMax];omega) (by rw[strCells_len];omega)
 obtain⟨δ2,h2,e3,e4,d2,o2⟩:=copy_buf (t:=68) (e:=4) (k:=1) (by simp) (by simp) (by simp) (by simp) (hu.same o1) (by simp[boolCells_len,roomMax];omega) (by rw[boolCells_len];omega)
 rw[strCells_len] at e1
 rw[boolCells_len] at e3
 obtain⟨lv,hlv⟩:∃lv,bufSl h.length l.length (strCells l)=lv:=⟨_,rfl⟩
 obtain⟨nv,hnv⟩:∃nv,bufSl h1.length nc.length (boolCells nc)=nv:=⟨_,rfl⟩
 have k1:lv.one=true:=by rw[<-hlv];exact bufSl_one
 have k2:lv.cells=[lv]:=by rw[<-hlv];exact bufSl_cells
 have k3:nv.one=true:=by rw[<-hnv];exact bufSl_one
 have k4:nv.cells=[nv]:=by rw[<-hnv];exact bufSl_cells
 have hz0:hdrC B.ptr lv nv 0 0 (List.replicate 16 0)=[B.ptr,lv,nv,.int .i64 0,.int .i64 0,.int .u8 0,.int .u8 0,.int .u8 0,.int .u8 0,.int .u8 0,.int .u8 0,.int .u8 0,.int .u8 0,.int .u8 0,.int .u8 0,.int .u8 0,.int .u8 0,.int .u8 0,.int .u8 0,.int .u8 0,.int .u8 0]:=rfl
 have hlv1:Sl1 h1 lv (strCells l):=by rw[<-hlv];have:=Sl1.buf (h:=h1) (b:=h.length) (e:=9) (s:=true) (xs:=strCells l) d1;rwa[strCells_len] at this
 have hnv1:Sl1 h2 nv (boolCells nc):=by rw[<-hnv];have:=Sl1.buf (h:=h2) (b:=h1.length) (e:=4) (s:=true) (xs:=boolCells nc) d2;rwa[boolCells_len] at this
 have sl1:∀c,slB lv=some c->h.length<=c/\c<h2.length:=fun c hc=>by
  rw[<-hlv] at hc
  obtain⟨rfl,hne⟩:=slB_buf hc
  have:=lt_of_at (d1 (by rw[strCells_len];exact hne))
  have:=o2.1
  omega
 have sl2:∀c,slB nv=some c->h.length<=c/\c<h2.length:=fun c hc=>by
  rw[<-hnv] at hc
  obtain⟨rfl,hne⟩:=slB_buf hc
  have:=lt_of_at (d2 (by rw[boolCells_len];exact hne))
  have:=o1.1
  omega
 have o12:=o1.trans o2
 have hlen2:=o12.1
 refine⟨h2.length,lv,nv,h2++[.cells (hdrC B.ptr lv nv 0 0 (List.replicate 16 0)) 136 false],?_,?_,o12.trans .app,?_,hlen2⟩
 . refine D_eq (call102 (R:=fun r h'=>r=_/\h'=_) (by simp) ?_)
   rw[hlv] at e1
   rw[hnv] at e3
   simp[-AV.cells,-AV.one,-AV.notTup,cells_int,cells_sl,cells_ptr,cells_agg,one_int,one_sl,one_ptr,one_agg,notTup_ptr,c102,c102_r0,c102_r1,e1,e2,e3,e4,abuild,afill,k1,k2,k3,k4]
   rfl
 . refine⟨⟨List.replicate 16 0,ring0,?_⟩,A.same (o12.trans .app),(hlv1.same o2).same .app,hnv1.same .app,fun hc=>?_,fun hc=>?_,fun hc=>?_,hg,hl⟩
   . have hnil:st (begs (l.map fold)) (lsuf (begs (l.map fold)) (fold []))=0:=A.nil
     rw[hnil]
     simp
   . have:=A.at_.foot_lt hc
     omega
   . have:=(sl1 _ hc).2;omega
   . have:=(sl2 _ hc).2;omega
 . rintro c (rfl|hc|hc|hc)
   . exact .inr hlen2
   . exact .inr (sl1 c hc).1
   . exact .inr (sl2 c hc).1
   . exact .inl hc
end
end
end Go.AM


/-
  What the law VerdictPlays stands on,part 3.
-/
import Derived.Test.YtamidpfdiijjgaaPW27b
namespace Go.AM
open Go Go.Proofs Go.RowKit
set_option linter.unusedVariables false
set_option linter.unusedSimpArgs false
set_option maxRecDepth 100000
section
structure TS where
 most:Nat
 at_:Nat
 parts:List PS
 nots:List PS
 bad:Bool
 over:Bool
def saysB(ends:List Bool)(n:Nat)(p:PS):Bool:=nth ends p.i&&placed p.c n
def TS.holds(T:TS):Bool:=T.parts.all (fun p=>p.some_)&&!T.bad
def TS.nums(T:TS):List Int:=T.parts.map fun p=>(p.kept.length:Int)
theorem ChainTo.typ{h:Heap}:∀{al:List Int} {bs:List Nat} {v:AV},ChainTo h al bs v->∀b∈bs,∃cs,h[b]?=some (.cells cs 181 false)
 |[],[],_,_,b,hb=>by simp at hb
 |a::al,b::bs,v,H,c,hc=>by
  rcases List.mem_cons.1 hc with rfl|hc
  . exact⟨_,H.1⟩
  . exact ChainTo.typ H.2 c hc
 |[],_::_,_,H,_,_=>H.elim
 |_::_,[],_,H,_,_=>H.elim
abbrev FL:=List (Nat×List Nat)
def flF(fl:FL)(c:Nat):Prop:=∃(k:Nat) (f:Nat×List Nat),fl[k]?=some f/\c∈f.1::f.2
structure PartsAt (h:Heap) (parts:List PS) (fl:FL):Prop where
 len:fl.length=parts.length
 at_:∀(k:Nat) (p:PS) (f:Nat×List Nat),parts[k]?=some p->fl[k]?=some f->PartAt h f.1 p f.2
 nd:∀(k:Nat) (f:Nat×List Nat),fl[k]?=some f->(f.1::f.2).Nodup
 sep:∀(i j:Nat) (f g:Nat×List Nat) (c:Nat),i≠j->fl[i]?=some f->fl[j]?=some g->c∈f.1::f.2->c∉g.1::g.2
theorem PartAt.typ{h:Heap}{pb:Nat}{p:PS}{kbs:List Nat}(H:PartAt h pb p kbs){c:Nat}(hc:c∈pb::kbs):∃cs t,h[c]?=some (.cells cs t false)/\(t=147\/t=181):=by
 rcases List.mem_cons.1 hc with rfl|hc
 . exact⟨_,_,H.hdr,.inl rfl⟩
 . obtain⟨cs,h1⟩:=H.chain.typ c hc
   exact⟨_,_,h1,.inr rfl⟩
section
variable {h h':Heap} {parts:List PS} {fl:FL}
theorem PartsAt.get(H:PartsAt h parts fl){k:Nat}{f:Nat×List Nat}(hf:fl[k]?=some f):∃p,parts[k]?=some p/\PartAt h f.1 p f.2:=by
 have h1:=(List.getElem?_eq_some_iff.1 hf).1
 rw[H.len] at h1
 exact⟨_,List.getElem?_eq_getElem h1,H.at_ k _ f (List.getElem?_eq_getElem h1) hf⟩
theorem PartsAt.typ(H:PartsAt h parts fl){c:Nat}(hc:flF fl c):∃cs t,h[c]?=some (.cells cs t false)/\(t=147\/t=181):=by
 obtain⟨k,f,hf,hm⟩:=hc
 obtain⟨p,hp,hpa⟩:=H.get hf
 exact hpa.typ hm
theorem PartsAt.not(H:PartsAt h parts fl){c:Nat}{cs:List AV}{t:TypeId}{g:Bool}(hc:h[c]?=some (.cells cs t g))(ht:g=true\/(t≠147/\t≠181)):¬flF fl c:=by
 intro hm
 obtain⟨cs',t',h1,h2⟩:=H.typ hm
 rw[hc] at h1
 injection h1 with h1
 injection h1 with h1 h3 h4
 subst h3;subst h4
 rcases ht with ht|ht
 . simp at ht
 . rcases h2 with h2|h2
   . exact ht.1 h2
   . exact ht.2 h2
theorem PartsAt.lt(H:PartsAt h parts fl){c:Nat}(hc:flF fl c):c<h.length:=by
 obtain⟨cs,t,h1,_⟩:=H.typ hc
 exact lt_of_at h1
theorem PartsAt.keep{fp:Nat->Prop}(H:PartsAt h parts fl)(ho:Only fp h h')(hf:∀c,flF fl c->¬fp c):PartsAt h' parts fl:=
 ⟨H.len,fun k p f hp hk=>(H.at_ k p f hp hk).keep ho (hf _ ⟨k,f,hk,List.mem_cons_self ..⟩) fun b hb=>hf _ ⟨k,f,hk,List.mem_cons_of_mem _ hb⟩,H.nd,H.sep⟩
theorem PartsAt.put(H:PartsAt h parts fl){k:Nat}{f:Nat×List Nat}(hk:fl[k]?=some f){fp:Nat->Prop}(ho:Only fp h h')(hfp:∀c,fp c->c∈f.1::f.2){p':PS}{kbs':List Nat}(hp:PartAt h' f.1 p' kbs')(hn:(f.1::kbs').Nodup)(hs:∀c∈kbs',c∈f.2\/h.length<=c):
  PartsAt h' (parts.set k p') (fl.set k (f.1,kbs')):=by
 have hkl:=(List.getElem?_eq_some_iff.1 hk).1
 have hkp:k<parts.length:=by rw[<-H.len];exact hkl
 have hmem:∀c∈f.1::kbs',c∈f.1::f.2\/h.length<=c:=by
  intro c hc
  rcases List.mem_cons.1 hc with hc|hc
  . exact .inl (hc▸List.mem_cons_self ..)
  . rcases hs c hc with h1|h1
    . exact .inl (List.mem_cons_of_mem _ h1)
    . exact .inr h1
 have hset:∀i g,(fl.set k (f.1,kbs'))[i]?=some g->(i=k/\g=(f.1,kbs'))\/(i≠k/\fl[i]?=some g):=by
  intro i g hg
  by_cases hik:i=k
  . subst hik
    rw[List.getElem?_set_self hkl] at hg
    exact .inl ⟨rfl,(Option.some.inj hg).symm⟩
  . rw[List.getElem?_set_ne (Ne.symm hik)] at hg
    exact .inr ⟨hik,hg⟩
 refine⟨by simp[H.len],?_,?_,?_⟩
 . intro i p g hpi hgi
   rcases hset i g hgi with⟨rfl,rfl⟩|⟨hik,hg⟩
   . rw[List.getElem?_set_self hkp] at hpi
     cases hpi
     exact hp
   . rw[List.getElem?_set_ne (Ne.symm hik)] at hpi
     have:=H.at_ i p g hpi hg
     refine this.keep ho (fun hm=>H.sep i k g f _ hik hg hk (List.mem_cons_self ..) (hfp _ hm)) fun b hb hm=>H.sep i k g f _ hik hg hk (List.mem_cons_of_mem _ hb) (hfp _ hm)
 . intro i g hgi
   rcases hset i g hgi with⟨rfl,rfl⟩|⟨hik,hg⟩
   . exact hn
   . exact H.nd i g hg
 . intro i j a b c hij hi hj hc hcb
   rcases hset i a hi with⟨rfl,rfl⟩|⟨hik,ha⟩
   . rcases hset j b hj with⟨rfl,rfl⟩|⟨hjk,hb⟩
     . exact hij rfl
     . rcases hmem c hc with h1|h1
       . exact H.sep i j f b c hij hk hb h1 hcb
       . have:=H.lt ⟨j,b,hb,hcb⟩
         omega
   . rcases hset j b hj with⟨rfl,rfl⟩|⟨hjk,hb⟩
     . rcases hmem c hcb with h1|h1
       . exact H.sep i j a f c hij ha hk hc h1
       . have:=H.lt ⟨i,a,ha,hc⟩
         omega
     . exact H.sep i j a b c hij ha hb hc hcb
theorem PartsAt.nil:PartsAt h [] []:=⟨rfl,fun k p f hp=>by simp at hp,fun k f hf=>by simp at hf,fun i j f g c _ hf=>by simp at hf⟩
theorem PartsAt.snoc(H:PartsAt h parts fl){pb:Nat}{p:PS}{kbs:List Nat}(hp:PartAt h pb p kbs)(hn:(pb::kbs).Nodup)(hf:∀c∈pb::kbs,¬flF fl c):PartsAt h (parts++[p]) (fl++[(pb,kbs)]):=by
 have hlen:=H.len
 have hget:∀i g,(fl++[(pb,kbs)])[i]?=some g->(i=fl.length/\g=(pb,kbs))\/(i<fl.length/\fl[i]?=some g):=by
  intro i g hg
  by_cases hi:i<fl.length
  . rw[List.getElem?_append_left hi] at hg
    exact .inr ⟨hi,hg⟩
  . have h1:=(List.getElem?_eq_some_iff.1 hg).1
    simp at h1
    have h2:i=fl.length:=by omega
    subst h2
    simp at hg
    exact .inl ⟨rfl,hg.symm⟩
 refine⟨by simp[hlen],?_,?_,?_⟩
 . intro i q g hq hg
   rcases hget i g hg with⟨rfl,rfl⟩|⟨hi,hg⟩
   . rw[hlen] at hq
     simp at hq
     subst hq
     exact hp
   . rw[List.getElem?_append_left (by omega)] at hq
     exact H.at_ i q g hq hg
 . intro i g hg
   rcases hget i g hg with⟨rfl,rfl⟩|⟨hi,hg⟩
   . exact hn
   . exact H.nd i g hg
 . intro i j a b c hij ha hb hca hcb
   rcases hget i a ha with⟨rfl,rfl⟩|⟨hi,ha⟩
   . rcases hget j b hb with⟨rfl,rfl⟩|⟨hj,hb⟩
     . exact hij rfl
     . exact hf c hca ⟨j,b,hb,hcb⟩
   . rcases hget j b hb with⟨rfl,rfl⟩|⟨hj,hb⟩
     . exact hf c hcb ⟨i,a,ha,hca⟩
     . exact H.sep i j a b c hij ha hb hca hcb
end
def ptrCells(fl:FL):List AV:=fl.map fun f=>ptPtr f.1
theorem ptrCells_len{fl:FL}:(ptrCells fl).length=fl.length:=by simp[ptrCells]
theorem ptrCells_get{fl:FL}{k:Nat}{f:Nat×List Nat}(hf:fl[k]?=some f)(h:k<(ptrCells fl).length):(ptrCells fl)[k]=ptPtr f.1:=by
 obtain⟨h1,h2⟩:=List.getElem?_eq_some_iff.1 hf
 simp[ptrCells,h2]
theorem ptrCells_set{fl:FL}{k:Nat}{f:Nat×List Nat}(hf:fl[k]?=some f){kbs:List Nat}:ptrCells (fl.set k (f.1,kbs))=ptrCells fl:=by
 apply List.ext_getElem?
 intro i
 simp only[ptrCells,List.getElem?_map]
 by_cases hik:i=k
 . subst hik
   rw[List.getElem?_set_self (List.getElem?_eq_some_iff.1 hf).1,hf]
   rfl
 . rw[List.getElem?_set_ne (Ne.symm hik)]
abbrev notCell(p:PS):List AV:=partC p (.ptr none)
def notCells(l:List PS):List AV:=l.flatMap notCell
theorem notCells_len{l:List PS}:(notCells l).length=l.length*15:=by
 induction l with
 |nil=>rfl
 |cons c r ih=>simp only[notCells,List.flatMap_cons,List.length_append] at ih ⊢;rw[ih,partC_len,List.length_cons];omega
theorem notCells_drop{l:List PS}:∀{i:Nat} {p:PS},l[i]?=some p->((notCells l).drop (i*15)).take 15=notCell p:=by
 induction l with
 |nil=>intro i p h;simp at h
 |cons c r ih=>
  intro i p h
  have hc:(notCell c).length=15:=rfl
  cases i with
  |zero=>
   simp only[List.getElem?_cons_zero,Option.some.injEq] at h
   subst h
   simp only[notCells,List.flatMap_cons,Nat.zero_mul,List.drop_zero]
   rw[List.take_append_of_le_length (by omega),List.take_of_length_le (by omega)]
  |succ i=>
   simp only[List.getElem?_cons_succ] at h
   rw[<-ih h]
   simp only[notCells,List.flatMap_cons]
   rw[show (i+1)*15=(notCell c).length+i*15 by omega,List.drop_append,List.drop_of_length_le (by omega),List.nil_append,Nat.add_sub_cancel_left]
def tC(most at_:Nat)(pv nv:AV)(bad over:Bool):List AV:=[.int .i64 most,.int .i64 at_,pv,nv,.bool bad,.bool over]
theorem tC_len{most at_:Nat}{pv nv:AV}{bad over:Bool}:(tC most at_ pv nv bad over).length=6:=rfl
abbrev tPtr(tb:Nat):AV:=.ptr (some ⟨tb,0,6⟩)
structure TrackAt (h:Heap) (tb pa nb:Nat) (T:TS) (fl:FL):Prop where
 hdr:h[tb]?=some (.cells (tC T.most T.at_ (bufSl pa fl.length (ptrCells fl)) (bufSl nb T.nots.length (notCells T.nots)) T.bad T.over) 144 false)
 pv:fl.length≠0->h[pa]?=some (.cells (ptrCells fl) 148 true)
 nv:T.nots.length≠0->h[nb]?=some (.cells (notCells T.nots) 147 true)
 ps:PartsAt h T.parts fl
def trF(tb:Nat)(fl:FL)(c:Nat):Prop:=c=tb\/flF fl c
section
variable {h h':Heap} {tb pa nb:Nat} {T:TS} {fl:FL}
theorem TrackAt.sl(H:TrackAt h tb pa nb T fl):Sl1 h (bufSl pa fl.length (ptrCells fl)) (ptrCells fl):=by
 have:=Sl1.buf (h:=h) (b:=pa) (e:=148) (s:=true) (xs:=ptrCells fl) (fun hne=>H.pv (by rwa[ptrCells_len] at hne))
 rwa[ptrCells_len] at this
theorem TrackAt.keep{fp:Nat->Prop}(H:TrackAt h tb pa nb T fl)(ho:Only fp h h')(h1:¬fp tb)(h2:fl.length≠0->¬fp pa)(h3:T.nots.length≠0->¬fp nb)(h4:∀c,flF fl c->¬fp c):TrackAt h' tb pa nb T fl:=
 ⟨ho.at H.hdr h1,fun hne=>ho.at (H.pv hne) (h2 hne),fun hne=>ho.at (H.nv hne) (h3 hne),H.ps.keep ho h4⟩
theorem TrackAt.same(H:TrackAt h tb pa nb T fl)(ho:Only (fun _=>False) h h'):TrackAt h' tb pa nb T fl:=H.keep ho id (fun _=>id) (fun _=>id) fun _ _=>id
theorem over_run(H:TrackAt h tb pa nb T fl):D cfg 75 [tPtr tb] h=some (.bool T.over,h):=by
 refine D_eq (call75 (R:=fun r h'=>r=_/\h'=_) (by simp) ?_)
 have q5:=cell_load H.hdr tC_len (t:=4) (by simp) (off:=5) rfl
 simp[c75,c75_r0,c75_r1,fieldA,q5]
abbrev env76(tb:Nat)(pv:AV)(n i:Nat):Env:=[(0,tPtr tb),(8,pv),(9,.int .i64 n),(10,.int .i64 i)]
def In76(h:Heap)(tb:Nat)(pv:AV)(ps:List PS)(m:Nat)(σ:St):Prop:=∃i,m=ps.length-i/\i<=ps.length/\(∀j p,j<i->ps[j]?=some p->p.some_=true)/\σ=⟨env76 tb pv ps.length i,h⟩
theorem all_some{ps:List PS}(h:∀j p,j<ps.length->ps[j]?=some p->p.some_=true):ps.all (fun p=>p.some_)=true:=by
 rw[List.all_eq_true]
 intro p hp
 obtain⟨j,hj,rfl⟩:=List.getElem_of_mem hp
 exact h j _ hj (List.getElem?_eq_getElem hj)
theorem holds_run(H:TrackAt h tb pa nb T fl)(hl:T.parts.length<=1000000):D cfg 76 [tPtr tb] h=some (.bool T.holds,h):=by
 refine D_eq (call76 (R:=fun r h'=>r=_/\h'=_) (by simp) ?_)
 have hs:=H.sl
 obtain⟨pv,hpv⟩:∃pv,bufSl pa fl.length (ptrCells fl)=pv:=⟨_,rfl⟩
 have hdr:=H.hdr
 rw[hpv] at hs hdr
 have hnt:pv.notTup=true:=by rw[<-hpv];exact bufSl_notTup
 have hlen:=fun L=>hs.len (L:=L) (t:=141) (e:=148) (by simp)
 rw[ptrCells_len,H.ps.len] at hlen
 have q2:=cell_load hdr tC_len (t:=141) (by simp) (off:=2) rfl
 have q4:=cell_load hdr tC_len (t:=4) (by simp) (off:=4) rfl
 simp[-AV.notTup,hnt,notTup_ptr,c76,c76_r0,c76_r1,fieldA,q2,len1,hlen]
 refine Wt.loop (In76 h tb pv T.parts) (m:=T.parts.length) ⟨0,rfl,Nat.zero_le _,fun j p hj=>by omega,rfl⟩ ?_
 rintro m σ ⟨i,rfl,hi,hall,rfl⟩
 have hcut:cut (some [0,8,9,10]) (env76 tb pv T.parts.length i)=env76 tb pv T.parts.length i:=by simp
 simp only[hcut]
 by_cases hil:i<T.parts.length
 . have hil':(i:Int)<T.parts.length:=by omega
   have hfl:i<fl.length:=by rw[H.ps.len];exact hil
   have hp:T.parts[i]?=some T.parts[i]:=List.getElem?_eq_getElem hil
   obtain⟨f,hf⟩:∃f,fl[i]?=some f:=⟨_,List.getElem?_eq_getElem hfl⟩
   obtain⟨p,hpp⟩:∃p,T.parts[i]=p:=⟨_,rfl⟩
   rw[hpp] at hp
   have hpa:=H.ps.at_ i p f hp hf
   have hic:i<(ptrCells fl).length:=by rw[ptrCells_len];exact hfl
   have a1:=hs.at (t:=141) (e:=148) (by simp) (by simp) hic
   have l1:=hs.load (e:=148) (by simp) hic
   rw[ptrCells_get hf] at l1
   have q14:=cell_load hpa.hdr partC_len (t:=4) (by simp) (off:=14) rfl
   have hwr:IntKind.wrap .i64 ((i:Int)+1)=i+1:=wrap_i64 (by omega) (by omega)
   have henp:(elp pv i).notTup=true:=by unfold elp;split<;>rfl
   cases hso:p.some_ with
   |false=>
    rw[hso] at q14
    have hres:T.holds=false:=by
     simp only[TS.holds]
     have:T.parts.all (fun p=>p.some_)=false:=by
      rw[<-Bool.not_eq_true,List.all_eq_true]
      intro hc
      have:=hc p (List.mem_of_getElem? hp)
      rw[hso] at this
      simp at this
     rw[this];rfl
    simp[-AV.notTup,hnt,notTup_ptr,henp,c76_l2,c76_r2,c76_r3,c76_r4,c76_r5,hil,hil',a1,l1,fieldA,q14,hres]
    simp[AV.notTup]
   |true=>
    rw[hso] at q14
    have hnext:In76 h tb pv T.parts (T.parts.length-(i+1)) ⟨env76 tb pv T.parts.length (i+1),h⟩:=by
     refine⟨i+1,rfl,hil,fun j p' hj hp'=>?_,rfl⟩
     by_cases hji:j=i
     . subst hji;rw[hp] at hp';cases hp';exact hso
     . exact hall j p' (by omega) hp'
    simp only[env76] at hnext
    simp[-AV.notTup,hnt,notTup_ptr,henp,c76_l2,c76_r2,c76_r3,c76_r4,c76_r5,c76_r6,hil,hil',a1,l1,fieldA,q14,hwr]
    exact⟨T.parts.length-(i+1),by omega,by simpa using hnext⟩
 . have hi2:i=T.parts.length:=by omega
   subst hi2
   have hres:T.holds=!T.bad:=by simp only[TS.holds,all_some (fun j p hj hp=>hall j p hj hp)];rfl
   cases hb:T.bad with
   |true=>
    rw[hb] at q4 hres
    simp[-AV.notTup,hnt,notTup_ptr,c76_l2,c76_r2,c76_r7,fieldA,q4,hres]
    simp[AV.notTup]
   |false=>
    rw[hb] at q4 hres
    simp[-AV.notTup,hnt,notTup_ptr,c76_l2,c76_r2,c76_r7,fieldA,q4,hres]
    simp[AV.notTup]
end
end
section
def fillC(f:Nat->AV)(z:AV)(n k:Nat):List AV:=(List.range n).map fun i=>if i<k then f i else z
theorem fillC_len{f:Nat->AV}{z:AV}{n k:Nat}:(fillC f z n k).length=n:=by simp[fillC]
theorem fillC_get{f:Nat->AV}{z:AV}{n k i:Nat}(h:i<n):(fillC f z n k)[i]?=some (if i<k then f i else z):=by simp[fillC,h]
theorem fillC_zero{f:Nat->AV}{z:AV}:∀{n:Nat},zeros [z] n=fillC f z n 0:=by
 intro n
 have h1:∀n,zeros [z] n=List.replicate n z:=by
  intro n
  induction n with
  |zero=>rfl
  |succ n ih=>simp[zeros,ih,List.replicate_succ]
 rw[h1]
 apply List.ext_getElem?
 intro i
 by_cases hi:i<n
 . rw[fillC_get hi];simp[hi]
 . rw[List.getElem?_eq_none (by simp;omega),List.getElem?_eq_none (by rw[fillC_len];omega)]
theorem fillC_set{f:Nat->AV}{z:AV}{n k:Nat}(hk:k<n):(fillC f z n k).set k (f k)=fillC f z n (k+1):=by
 apply List.ext_getElem?
 intro i
 by_cases hi:i<n
 . by_cases hik:i=k
   . subst hik
     rw[List.getElem?_set_self (by rw[fillC_len];exact hi),fillC_get hi]
     simp
   . rw[List.getElem?_set_ne (Ne.symm hik),fillC_get hi,fillC_get hi]
     have:(i<k)↔(i<k+1):=by omega
     simp[this]
 . rw[List.getElem?_eq_none (by rw[List.length_set,fillC_len];omega),List.getElem?_eq_none (by rw[fillC_len];omega)]
theorem fillC_full{f:Nat->AV}{z:AV}{n:Nat}{xs:List AV}(hl:xs.length=n)(hx:∀i,i<n->xs[i]?=some (f i)):fillC f z n n=xs:=by
 apply List.ext_getElem?
 intro i
 by_cases hi:i<n
 . rw[fillC_get hi,hx i hi,if_pos hi]
 . rw[List.getElem?_eq_none (by rw[fillC_len];omega),List.getElem?_eq_none (by omega)]
section
variable {h h':Heap} {tb pa nb:Nat} {T:TS} {fl:FL}
def numAt(ps:List PS)(i:Nat):AV:=.int .i64 ((((ps[i]?).map fun p=>p.kept.length).getD 0:Nat):Int)
abbrev env74(b:Nat)(pv:AV)(n i:Nat):Env:=[(3,.sl (some ⟨b,0,n⟩) n n),(15,pv),(16,.int .i64 n),(17,.int .i64 i)]
def In74(h:Heap)(pv:AV)(ps:List PS)(m:Nat)(σ:St):Prop:=∃i h1,m=ps.length-i/\i<=ps.length/\σ=⟨env74 h.length pv ps.length i,h1⟩/\h1[h.length]?=some (.cells (fillC (numAt ps) (.int .i64 0) ps.length i) 3 true)/\Only (fun _=>False) h h1
theorem cont_ld{h:Heap}{b off g:Nat}{cs:List AV}{c:Cont}{e:TypeId}{s:Bool}(hh:h[b]?=some (.cells cs e s))(hl:cs.length=g)(hc:(cs.drop off).take 8=contCell c):aload Try.prog (look h) 52 (.ptr (some ⟨b,off,g⟩))=some c.av:=by
 have hr:row (look h) ⟨b,off,g⟩=some cs:=by simp[row,hh,hl]
 have h4:off+8<=cs.length:=by
  have:=congrArg List.length hc
  rw[List.length_take,List.length_drop] at this
  simp[contCell] at this
  omega
 simp only[aload,hr,tk_52,agk,tsz_52]
 rw[if_pos h4,hc]
theorem says_run{h:Heap}{b off g eb bt tb:Nat}{cs:List AV}{e:TypeId}{s:Bool}{p:PS}{ends:List Bool}{v:AV}{n:Nat}{tcs:List AV}{kp:AV}(hh:h[b]?=some (.cells cs e s))(hl:cs.length=g)(hc:(cs.drop off).take 15=partC p kp)
  (heb:h[eb]?=some (.cells [v] 68 false)) (hbt:h[bt]?=some (.cells [tPtr tb] 84 false)) (ht:h[tb]?=some (.cells tcs 144 false)) (htl:tcs.length=6) (htn:tcs[1]?=some (.int .i64 n)) (hv:Sl1 h v (boolCells ends)) (hp:p.c.small) (hn:n<=1000000):
  ∃h',D cfg 108 [.ptr (some ⟨b,off,g⟩),.ptr (some ⟨eb,0,1⟩),.ptr (some ⟨bt,0,1⟩)] h=some (.bool (saysB ends n p),h')/\Only (fun _=>False) h h':=by
 have key:∃r h',D cfg 108 [.ptr (some ⟨b,off,g⟩),.ptr (some ⟨eb,0,1⟩),.ptr (some ⟨bt,0,1⟩)] h=some (r,h')/\(r=.bool (saysB ends n p)/\Only (fun _=>False) h h'):=by
  refine call108 (R:=fun r h'=>r=.bool (saysB ends n p)/\Only (fun _=>False) h h') (args:=[.ptr (some ⟨b,off,g⟩),.ptr (some ⟨eb,0,1⟩),.ptr (some ⟨bt,0,1⟩)]) (h:=h) (by simp) ?_
  have hc8:(cs.drop off).take 8=contCell p.c:=by
   have:(cs.drop off).take 8=((cs.drop off).take 15).take 8:=by rw[List.take_take];rfl
   rw[this,hc]
   rfl
  have hi:cs[off+8]?=some (.int .i64 p.i):=by
   have h1:((cs.drop off).take 15)[8]?=some (.int .i64 p.i):=by rw[hc];rfl
   rw[List.getElem?_take,if_pos (by decide),List.getElem?_drop] at h1
   exact h1
  have q8:=cell_load hh hl (t:=3) (by simp) hi
  have qc:=cont_ld hh hl hc8
  have qe:=cell_load heb (n:=1) rfl (t:=68) (by simp) (off:=0) rfl
  have qt:=cell_load hbt (n:=1) rfl (t:=84) (by simp) (off:=0) rfl
  have qn:=cell_load ht htl (t:=3) (by simp) htn
  have hnt:v.notTup=true:=by rcases hv with⟨rfl,_⟩|⟨_,_,_,_,_,rfl,_,_⟩<;>rfl
  have hlen:=fun L=>hv.len (L:=L) (t:=68) (e:=4) (by simp)
  rw[boolCells_len] at hlen
  obtain⟨h2,e2,o2⟩:=placed_run (h:=h) hp (e:=n) (by omega)
  by_cases hlt:p.i<ends.length
  . have hlt':(p.i:Int)<ends.length:=by omega
    have hic:p.i<(boolCells ends).length:=by rw[boolCells_len];exact hlt
    have a1:=hv.at (t:=68) (e:=4) (by simp) (by simp) hic
    have l1:=hv.load (e:=4) (by simp) hic
    rw[boolCells_get] at l1
    have henp:(elp v p.i).notTup=true:=by unfold elp;split<;>rfl
    cases hnth:nth ends p.i with
    |true=>
     rw[hnth] at l1
     have hres:saysB ends n p=placed p.c n:=by simp[saysB,hnth]
     simp[-AV.notTup,hnt,henp,notTup_ptr,c108,c108_r0,c108_r1,fieldA,q8,qe,len1,hlen,hlt,hlt',a1,l1,qc,qt,qn,e2,hres]
     try simp[AV.notTup]
     exact o2
    |false=>
     rw[hnth] at l1
     have hres:saysB ends n p=false:=by simp[saysB,hnth]
     simp[-AV.notTup,hnt,henp,notTup_ptr,c108,c108_r0,c108_r1,fieldA,q8,qe,len1,hlen,hlt,hlt',a1,l1,qc,qt,qn,e2,hres]
     try simp[AV.notTup]
     exact .refl
  . have hlt':¬((p.i:Int)<ends.length):=by omega
    have hnth:nth ends p.i=false:=by simp[nth,List.getElem?_eq_none (Nat.le_of_not_lt hlt)]
    have hres:saysB ends n p=false:=by simp[saysB,hnth]
    simp[-AV.notTup,hnt,notTup_ptr,c108,c108_r0,c108_r1,fieldA,q8,qe,len1,hlen,hlt,hlt',hres]
    try simp[AV.notTup]
    exact .refl
 obtain⟨r,h',h1,rfl,h2⟩:=key
 exact⟨h',h1,h2⟩
end
end
def SlC(h:Heap)(v:AV)(l:List Cont):Prop:=
 (v=.sl none 0 0/\l=[])\/∃b g c cs,v=.sl (some ⟨b,0,g⟩) l.length c/\AM.row (look h) ⟨b,0,g⟩=some cs/\∀i c,l[i]?=some c->(cs.drop (i*8)).take 8=contCell c
def elC(v:AV)(i:Nat):AV:=match v with
 |.sl (some a) _ _=>.ptr (some { a with off:=i*8 })
 |_=>.nili
theorem SlC.len{h:Heap}{v:AV}{l:List Cont}(H:SlC h v l){L:Look}:alen Try.prog L 42 v=some (.int .i64 l.length):=by
 rcases H with⟨rfl,rfl⟩|⟨b,g,c,cs,rfl,_,_⟩<;>simp[alen]
theorem SlC.at{h:Heap}{v:AV}{l:List Cont}(H:SlC h v l){i:Nat}(hi:i<l.length):aindexAddr Try.prog 42 v (.int .i64 i)=some (elC v i):=by
 rcases H with⟨rfl,rfl⟩|⟨b,g,c,cs,rfl,_,_⟩
 . simp at hi
 . have:(i:Int)<l.length:=by omega
   simp[aindexAddr,this,elC,hi]
theorem SlC.load{h:Heap}{v:AV}{l:List Cont}(H:SlC h v l){i:Nat}(hi:i<l.length):aload Try.prog (look h) 52 (elC v i)=some l[i].av:=by
 rcases H with⟨rfl,rfl⟩|⟨b,g,c,cs,rfl,h1,h2⟩
 . simp at hi
 . have h3:=h2 i l[i] (List.getElem?_eq_getElem hi)
   have h4:i*8+8<=cs.length:=by
    have:=congrArg List.length h3
    rw[List.length_take,List.length_drop] at this
    simp[contCell] at this
    omega
   have h5:AM.row (look h) { b:=b,off:=i*8,gen:=g }=some cs:=h1
   simp only[elC,aload,h5]
   simp[h4,h3]
theorem SlC.keep{h h':Heap}{v:AV}{l:List Cont}{fp:Nat->Prop}(H:SlC h v l)(ho:Only fp h h')(hf:∀b,slB v=some b->¬fp b):SlC h' v l:=by
 rcases H with⟨rfl,rfl⟩|⟨b,g,c,cs,rfl,h1,h2⟩
 . exact .inl ⟨rfl,rfl⟩
 . exact .inr ⟨b,g,c,cs,rfl,row_only ho h1 (hf b rfl),h2⟩
theorem SlC.same{h h':Heap}{v:AV}{l:List Cont}(H:SlC h v l)(ho:Only (fun _=>False) h h'):SlC h' v l:=H.keep ho fun _ _=>id
def hitB(c:Cont)(s:Txt)(ahead:List Int)(e:Nat):Bool:=endsAt c s e&&(!c.rel || behindB c e ahead)
def hits(c:Cont)(s:Txt)(ahead:List Int):Nat->List Int
 |0=>[]
 |e+1=>if hitB c s ahead e then hits c s ahead e++[(e:Int)] else hits c s ahead e
theorem hits_range{c:Cont}{s:Txt}{ahead:List Int}:∀{n:Nat},∀p∈hits c s ahead n,0<=p/\p<n
 |0,p,hp=>by simp[hits] at hp
 |n+1,p,hp=>by
  simp only[hits] at hp
  split at hp
  . simp at hp
    rcases hp with hp|rfl
    . have:=hits_range p hp;omega
    . omega
  . have:=hits_range p hp;omega
theorem hits_len{c:Cont}{s:Txt}{ahead:List Int}:∀{n:Nat},(hits c s ahead n).length<=n
 |0=>by simp[hits]
 |n+1=>by have:=hits_len (c:=c) (s:=s) (ahead:=ahead) (n:=n);simp only[hits];split<;>simp<;>omega
def endsStep(s:Txt)(x:List (List Int)×List Int)(c:Cont):List (List Int)×List Int:=
 if c.not then x else (x.1++[hits c s x.2 (s.length+1)],hits c s x.2 (s.length+1))
def endsAll(l:List Cont)(s:Txt):List (List Int)×List Int:=l.foldl (endsStep s) ([],[])
theorem endsAll_step{l:List Cont}{s:Txt}{i:Nat}(h:i<l.length):endsAll (l.take (i+1)) s=endsStep s (endsAll (l.take i) s) l[i]:=by
 rw[List.take_succ_eq_append_getElem h]
 simp only[endsAll,List.foldl_append,List.foldl_cons,List.foldl_nil]
theorem endsAll_ok{l:List Cont}{s:Txt}:(∀p∈(endsAll l s).2,0<=p/\p<s.length+1)/\(endsAll l s).2.length<=s.length+1/\(endsAll l s).1.length<=l.length/\(∀q∈(endsAll l s).1,(∀p∈q,0<=p/\p<s.length+1)/\q.length<=s.length+1):=by
 have key:∀n (l:List Cont),l.length=n->(∀p∈(endsAll l s).2,0<=p/\p<s.length+1)/\(endsAll l s).2.length<=s.length+1/\(endsAll l s).1.length<=l.length/\(∀q∈(endsAll l s).1,(∀p∈q,0<=p/\p<s.length+1)/\q.length<=s.length+1):=by
  intro n
  induction n with
  |zero=>
   intro l h
   have:l=[]:=List.length_eq_zero_iff.1 h
   subst this
   simp[endsAll]
  |succ n ih=>
   intro l h
   rcases List.eq_nil_or_concat l with e|⟨k,c,e⟩
   . subst e;simp at h
   . have e':l=k++[c]:=by simpa using e
     subst e'
     simp at h
     obtain⟨h1,h2,h3,h4⟩:=ih k h
     have hst:endsAll (k++[c]) s=endsStep s (endsAll k s) c:=by simp only[endsAll,List.foldl_append,List.foldl_cons,List.foldl_nil]
     rw[hst]
     unfold endsStep
     split
     . exact⟨h1,h2,by simp;omega,h4⟩
     . have hr:=hits_range (c:=c) (s:=s) (ahead:=(endsAll k s).2) (n:=s.length+1)
       have hl:=hits_len (c:=c) (s:=s) (ahead:=(endsAll k s).2) (n:=s.length+1)
       have hr':∀p∈hits c s (endsAll k s).2 (s.length+1),0<=p/\p<s.length+1:=fun p hp=>by have:=hr p hp;omega
       refine⟨hr',hl,by simp;omega,fun q hq=>?_⟩
       simp at hq
       rcases hq with hq|rfl
       . exact h4 q hq
       . exact⟨hr',hl⟩
 exact key _ l rfl
structure LL (h₀ h:Heap) (B:Nat) (bs:List Nat) (ls:List (List Int)):Prop where
 len:bs.length=ls.length
 top:ls.length≠0->h[B]?=some (.cells (List.zipWith intSl bs ls) 30 true)/\h₀.length<=B
 each:∀(i:Nat) (l:List Int) (b:Nat),ls[i]?=some l->bs[i]?=some b->l≠[]->h[b]?=some (.cells (intCells l) 3 true)/\h₀.length<=b/\(ls.length≠0->b≠B)
abbrev llSl(B:Nat)(bs:List Nat)(ls:List (List Int)):AV:=bufSl B ls.length (List.zipWith intSl bs ls)
theorem LL.same{h₀ h h':Heap}{B:Nat}{bs:List Nat}{ls:List (List Int)}(H:LL h₀ h B bs ls)(ho:Only (fun _=>False) h h'):LL h₀ h' B bs ls:=
 ⟨H.len,fun hn=>⟨ho.at (H.top hn).1 id,(H.top hn).2⟩,fun i l b hl hb hne=>⟨ho.at (H.each i l b hl hb hne).1 id,(H.each i l b hl hb hne).2⟩⟩
theorem append_sl{h₀ h:Heap}{B:Nat}{bs:List Nat}{ls:List (List Int)}(H:LL h₀ h B bs ls){b:Nat}{l:List Int}(hb:l≠[]->h[b]?=some (.cells (intCells l) 3 true)/\h₀.length<=b/\(ls.length≠0->b≠B))(h0:h₀.length<=h.length)(hn:ls.length<=1000000):
  ∃δ h' B',append2 Try.prog (look (h++[AObj.cells [intSl b l] 30 true])) (h.length+1) 44 44 [llSl B bs ls,.sl (some ⟨h.length,0,1⟩) 1 1]=some (llSl B' (bs++[b]) (ls++[l]),δ)/\Heap.apply (h++[AObj.cells [intSl b l] 30 true]) δ=h' /\
   LL h₀ h' B' (bs++[b]) (ls++[l])/\Only (fun c=>c=B/\ls.length≠0) h h'/\(B'=B/\ls.length≠0\/B'=h.length+1):=by
 have hz:(List.zipWith intSl bs ls).length=ls.length:=by simp[H.len]
 obtain⟨δ,h',h1,h2,h3,h4⟩:=append_buf (t:=44) (e:=30) (k:=1) (by simp) (by simp) (by decide) (by simp) (by simp) (h:=h) (b:=B) (n:=ls.length) (xs:=List.zipWith intSl bs ls) (ys:=[intSl b l]) (by simp) (by omega) (fun e=>(H.top e).1) hn
 have e:List.zipWith intSl bs ls++[intSl b l]=List.zipWith intSl (bs++[b]) (ls++[l]):=by rw[List.zipWith_append H.len];rfl
 rw[e] at h1 h3
 refine⟨δ,h',if ls.length=0 then h.length+1 else B,?_,h2,⟨by simp[H.len],fun _=>⟨h3,?_⟩,fun i q c hq hc hne=>?_⟩,h4,?_⟩
 . rw[h1];simp[llSl]
 . split
   . omega
   . rename_i hl;exact (H.top hl).2
 . have old:∀{c:Nat} {q:List Int},h[c]?=some (.cells (intCells q) 3 true)->h₀.length<=c->(ls.length≠0->c≠B)->h'[c]?=some (.cells (intCells q) 3 true)/\h₀.length<=c/\((ls++[l]).length≠0->c≠if ls.length=0 then h.length+1 else B):=by
    intro c q hc1 hc2 hc3
    refine⟨h4.at hc1 fun e=>hc3 e.2 e.1,hc2,fun _=>?_⟩
    have:=lt_of_at hc1
    split
    . omega
    . rename_i hl;exact hc3 hl
   by_cases hi:i<ls.length
   . rw[List.getElem?_append_left hi] at hq
     rw[List.getElem?_append_left (by rw[H.len];exact hi)] at hc
     obtain⟨g1,g2,g3⟩:=H.each i q c hq hc hne
     exact old g1 g2 g3
   . have hi':i=ls.length:=by
      have:=(List.getElem?_eq_some_iff.1 hq).1
      simp at this
      omega
     subst hi'
     rw[List.getElem?_append_right (by omega)] at hq
     rw[List.getElem?_append_right (by rw[H.len];omega)] at hc
     simp[H.len] at hq hc
     subst hq
     subst hc
     obtain⟨g1,g2,g3⟩:=hb hne
     exact old g1 g2 g3
 . split
   . exact .inr rfl
   . rename_i hl;exact .inl ⟨rfl,hl⟩
def relPS(c:Cont)(p:PS):PS:={ p with least:=false,by_:=c.distance+c.within }
def relB(c:Cont)(n:Nat):Bool:=decide (0<n)&&(c.rel&&decide (0<c.within))
def newPS(c:Cont)(i:Nat)(first:Bool):PS:=⟨c,i,first,0,true,[],false⟩
def notPS(c:Cont)(i:Nat):PS:=⟨c,i,false,0,false,[],false⟩
def relL(c:Cont)(ps:List PS):List PS:=if relB c ps.length then (match ps[ps.length-1]? with|some q=>ps.set (ps.length-1) (relPS c q)|none=>ps) else ps
def addT(T:TS)(i:Nat)(c:Cont):TS:=
 if c.not then { T with nots:=T.nots++[notPS c i] }
 else { T with parts:=relL c T.parts++[newPS c i (decide (T.parts.length=0))] }
def newTo(l:List Cont)(most:Nat):Nat->TS
 |0=>⟨most,0,[],[],false,false⟩
 |k+1=>match l[k]? with
  |some c=>addT (newTo l most k) k c
  |none=>newTo l most k
theorem relL_len{c:Cont}{ps:List PS}:(relL c ps).length=ps.length:=by
 unfold relL
 split
 . split<;>simp
 . rfl
theorem addT_len{T:TS}{i:Nat}{c:Cont}:(addT T i c).parts.length+(addT T i c).nots.length=T.parts.length+T.nots.length+1:=by
 unfold addT
 split
 . simp;omega
 . simp[relL_len];omega
theorem addT_most{T:TS}{i:Nat}{c:Cont}:(addT T i c).most=T.most/\(addT T i c).at_=T.at_/\(addT T i c).bad=T.bad/\(addT T i c).over=T.over:=by
 unfold addT
 split<;>exact⟨rfl,rfl,rfl,rfl⟩
theorem newTo_len{l:List Cont}{most:Nat}:∀{k:Nat},(newTo l most k).parts.length+(newTo l most k).nots.length<=k
 |0=>by simp[newTo]
 |k+1=>by
  have:=newTo_len (l:=l) (most:=most) (k:=k)
  simp only[newTo]
  split
  . rw[addT_len];omega
  . omega
theorem newTo_most{l:List Cont}{most:Nat}:∀{k:Nat},(newTo l most k).most=most/\(newTo l most k).at_=0/\(newTo l most k).bad=false/\(newTo l most k).over=false
 |0=>⟨rfl,rfl,rfl,rfl⟩
 |k+1=>by
  have:=newTo_most (l:=l) (most:=most) (k:=k)
  simp only[newTo]
  split
  . obtain⟨a,b,c,d⟩:=addT_most (T:=newTo l most k) (i:=k) (c:=‹_›)
    rw[a,b,c,d];exact this
  . exact this
theorem partC_11{p:PS}{kp:AV}{b:Bool}:(partC p kp).set 11 (.bool b)=partC { p with least:=b } kp:=rfl
theorem partC_10{p:PS}{kp:AV}{n:Int}:(partC p kp).set 10 (.int .i64 n)=partC { p with by_:=n } kp:=rfl
theorem tC_2{most at_:Nat}{pv nv v:AV}{bad over:Bool}:(tC most at_ pv nv bad over).set 2 v=tC most at_ v nv bad over:=rfl
theorem tC_3{most at_:Nat}{pv nv v:AV}{bad over:Bool}:(tC most at_ pv nv bad over).set 3 v=tC most at_ pv v bad over:=rfl
theorem append_buf2{t e k:Nat}(ht:tk Try.prog t=.slice e)(hk:tsz Try.prog e=k)(hk0:0<k)(hz:zeroOK Try.prog e=true)(hby:Try.prog.bytesOf e<=1000){h:Heap}{b n:Nat}{xs ys:List AV}(hys:ys.length=k)(hxs:xs.length=n*k)
  (hb:n≠0->h[b]?=some (.cells xs e true)) (hn:n<=1000000):
  ∃δ h',append2 Try.prog (look (h++[AObj.cells ys e true])) (h.length+1) t t [bufSl b n xs,.sl (some ⟨h.length,0,k⟩) 1 1]=some (bufSl (if n=0 then h.length+1 else b) (n+1) (xs++ys),δ)/\Heap.apply (h++[AObj.cells ys e true]) δ=h' /\
   h'[if n=0 then h.length+1 else b]?=some (.cells (xs++ys) e true)/\Only (fun c=>c=b/\n≠0) h h':=by
 have hsrc:srcCells Try.prog (look (h++[AObj.cells ys e true])) e (.sl (some ⟨h.length,0,k⟩) 1 1)=some (1,ys):=by
  simp[srcCells,slCells,row,hk,hys]
  exact List.take_of_length_le (by omega)
 have hroom:∀m,m<=1000001->m*Try.prog.bytesOf e<=roomMax:=fun m hm=>by
  have:=Nat.mul_le_mul hm hby
  simp only[roomMax]
  omega
 by_cases hn0:n=0
 . subst hn0
   have hxs0:xs=[]:=List.length_eq_zero_iff.1 (by simpa using hxs)
   subst hxs0
   refine⟨.new (.cells ys e true),h++[AObj.cells ys e true]++[AObj.cells ys e true],?_,rfl,?_,?_⟩
   . have h1:=hroom 1 (by omega)
     simp only[append2,aappend,ht,hk,hsrc,hk0,if_true,bufSl,aappendE]
     simp at h1
     simp[h1,hz]
   . simp
   . rw[List.append_assoc];exact .app
 . have hb1:=hb hn0
   have hlt:=lt_of_at hb1
   have hb2:(h++[AObj.cells ys e true])[b]?=some (.cells xs e true):=by rw[List.getElem?_append_left hlt];exact hb1
   rw[if_neg hn0]
   refine⟨.set b (.cells (xs++ys) e true),(h++[AObj.cells ys e true]).set b (.cells (xs++ys) e true),?_,rfl,?_,?_⟩
   . have h1:=hroom (n+1) (by omega)
     have h2:¬(n+1<=n):=by omega
     have h3:n+1<=9223372036854775807:=by omega
     have h4:xs.take (n*k)=xs:=List.take_of_length_le (by omega)
     simp only[append2,aappend,ht,hk,hsrc,hk0,if_true,bufSl,hn0,if_false,aappendE,look_at,hb2]
     simp[h1,hz,h2,h3,hxs,h4]
   . rw[List.getElem?_set_self (by simp;omega)]
   . exact Only.app.trans (.set ⟨rfl,hn0⟩)
theorem min_run{m:Int}:amin [.int .i64 m,.int .i64 32]=some (.int .i64 (min m 32)):=by
 simp only[amin,List.foldl,amin1,if_true]
 congr 2
 split<;>omega
theorem max_run{m:Int}{most:Nat}(hm:(most:Int)=max 1 (min m 32)):amax [.int .i64 1,.int .i64 (min m 32)]=some (.int .i64 most):=by
 simp only[amax,List.foldl,amax1,if_true]
 congr 2
 split<;>omega
structure I72 (h₀ h:Heap) (tb pa nb:Nat) (T:TS) (fl:FL):Prop where
 tr:TrackAt h tb pa nb T fl
 only:Only (fun _=>False) h₀ h
 fresh:∀c,trF tb fl c->h₀.length<=c
 fpa:fl.length≠0->h₀.length<=pa
 fnb:T.nots.length≠0->h₀.length<=nb
abbrev env72(tb:Nat)(v:AV)(n i:Nat):Env:=[(5,tPtr tb),(14,v),(15,.int .i64 n),(16,.int .i64 i)]
def In72(h₀:Heap)(tb:Nat)(v:AV)(l:List Cont)(most:Nat)(m:Nat)(σ:St):Prop:=∃i pa nb fl h,m=l.length-i/\i<=l.length/\σ=⟨env72 tb v l.length i,h⟩/\I72 h₀ h tb pa nb (newTo l most i) fl
theorem add_part{h₀ h:Heap}{tb pa nb:Nat}{T:TS}{fl:FL}(I:I72 h₀ h tb pa nb T fl)(hl:T.parts.length<=1000000){q:PS}(hq:q.kept=[]):
  ∃(h1 h2 h3:Heap) (pa':Nat) (fl':FL) (δ:Delta),h++[AObj.cells (partC q (.ptr none)) 147 false]=h1 /\
   append2 Try.prog (look (h1++[AObj.cells [ptPtr h.length] 148 true])) (h1.length+1) 141 141 [bufSl pa fl.length (ptrCells fl),.sl (some ⟨h1.length,0,1⟩) 1 1]=some (bufSl pa' fl'.length (ptrCells fl'),δ)/\Heap.apply (h1++[AObj.cells [ptPtr h.length] 148 true]) δ=h2 /\
   astore Try.prog (look h2) 141 (.ptr (some ⟨tb,2,6⟩)) (bufSl pa' fl'.length (ptrCells fl'))=some (.set tb (.cells (tC T.most T.at_ (bufSl pa' fl'.length (ptrCells fl')) (bufSl nb T.nots.length (notCells T.nots)) T.bad T.over) 144 false)) /\
   h2.set tb (.cells (tC T.most T.at_ (bufSl pa' fl'.length (ptrCells fl')) (bufSl nb T.nots.length (notCells T.nots)) T.bad T.over) 144 false)=h3 /\
   I72 h₀ h3 tb pa' nb { T with parts:=T.parts++[q] } fl':=by
 have H:=I.tr
 obtain⟨h1,hh1⟩:∃h1,h++[AObj.cells (partC q (.ptr none)) 147 false]=h1:=⟨_,rfl⟩
 have o1:Only (fun _=>False) h h1:=by rw[<-hh1];exact .app
 have hl1:h1.length=h.length+1:=by rw[<-hh1];simp
 have g1:h1[h.length]?=some (.cells (partC q (.ptr none)) 147 false):=by rw[<-hh1];simp
 have H1:=H.same o1
 obtain⟨δ,h2,e1,e2,g2,o2⟩:=append_buf (t:=141) (e:=148) (k:=1) (by simp) (by simp) (by decide) (by simp) (by simp) (h:=h1) (b:=pa) (n:=fl.length) (xs:=ptrCells fl) (ys:=[ptPtr h.length]) (by simp) (by rw[ptrCells_len];omega) H1.pv (by rw[H.ps.len];exact hl)
 have hpc:ptrCells fl++[ptPtr h.length]=ptrCells (fl++[(h.length,[])]):=by simp[ptrCells]
 rw[hpc] at e1 g2
 have hfl':fl.length+1=(fl++[(h.length,([]:List Nat))]).length:=by simp
 rw[hfl'] at e1
 obtain⟨pa',hpa'⟩:∃pa',(if fl.length=0 then h1.length+1 else pa)=pa':=⟨_,rfl⟩
 rw[hpa'] at e1 g2
 have htp:fl.length≠0->pa≠tb:=fun hne e=>by
  have h5:=H1.pv hne
  have h6:=H1.hdr
  rw[e,h6] at h5
  injection h5 with h5;injection h5 with _ _ h5;exact absurd h5 (by simp)
 have hnp:fl.length≠0->T.nots.length≠0->nb≠pa:=fun hne hnn e=>by
  have h5:=H1.pv hne
  have h6:=H1.nv hnn
  rw[<-e,h6] at h5
  injection h5 with h5;injection h5 with _ h5 _;exact absurd h5 (by decide)
 have d2:=o2.at H1.hdr fun e=>htp e.2 e.1.symm
 have s2:=cell_store d2 tC_len (t:=141) (by simp) (v:=bufSl pa' (fl++[(h.length,([]:List Nat))]).length (ptrCells (fl++[(h.length,[])]))) bufSl_one (off:=2) (by decide)
 rw[tC_2] at s2
 obtain⟨h3,hh3⟩:∃h3,h2.set tb (.cells (tC T.most T.at_ (bufSl pa' (fl++[(h.length,([]:List Nat))]).length (ptrCells (fl++[(h.length,[])]))) (bufSl nb T.nots.length (notCells T.nots)) T.bad T.over) 144 false)=h3:=⟨_,rfl⟩
 have o3:Only (fun c=>c=tb) h2 h3:=by rw[<-hh3];exact .set rfl
 have htl:=lt_of_at H.hdr
 have hpl:pa'=pa/\fl.length≠0\/pa'=h1.length+1:=by
  rw[<-hpa']
  by_cases h0:fl.length=0
  . exact .inr (by rw[if_pos h0])
  . exact .inl ⟨by rw[if_neg h0],h0⟩
 have hpt:pa'≠tb:=by
  rcases hpl with⟨e,hne⟩|e
  . rw[e];exact htp hne
  . omega
 have hno:∀c,flF fl c->¬(c=pa/\fl.length≠0):=fun c hc e=>H1.ps.not (H1.pv e.2) (.inl rfl) (e.1▸hc)
 have hnt:∀c,flF fl c->¬(c=tb):=fun c hc e=>H1.ps.not H1.hdr (.inr (by decide)) (e▸hc)
 have P1:PartsAt h1 (T.parts++[q]) (fl++[(h.length,[])]):=H1.ps.snoc ⟨by rw[g1];rfl,by rw[hq];trivial⟩ (by simp) fun c hc hm=>by
  simp at hc
  have:=H.ps.lt hm
  omega
 have hlen0:=I.only.1
 refine⟨h1,h2,h3,pa',fl++[(h.length,[])],δ,hh1,e1,e2,s2,hh3,⟨⟨?_,?_,?_,?_⟩,?_,?_,?_,?_⟩⟩
 . rw[<-hh3,List.getElem?_set_self (lt_of_at d2)]
 . intro _
   exact o3.at g2 hpt
 . intro hne
   have h5:=H1.nv hne
   have hntb:nb≠tb:=fun e=>by
    have h6:=H1.hdr
    rw[e,h6] at h5
    injection h5 with h5;injection h5 with _ _ h5;exact absurd h5 (by simp)
   exact o3.at (o2.at h5 fun e=>hnp e.2 hne e.1) hntb
 . have P2:=P1.keep o2 fun c hc e=>by
    exact P1.not (H1.pv e.2) (.inl rfl) (e.1▸hc)
   exact P2.keep o3 fun c hc e=>P2.not d2 (.inr (by decide)) (e▸hc)
 . refine ((I.only.trans o1).fresh o2 fun c e=>?_).fresh o3 fun c e=>?_
   . rw[e.1];exact I.fpa e.2
   . rw[e];exact I.fresh tb (.inl rfl)
 . rintro c (rfl|⟨k,f,hf,hc⟩)
   . exact I.fresh _ (.inl rfl)
   . by_cases hk:k<fl.length
     . rw[List.getElem?_append_left hk] at hf
       exact I.fresh c (.inr ⟨k,f,hf,hc⟩)
     . have h7:=(List.getElem?_eq_some_iff.1 hf).1
       simp at h7
       have h8:k=fl.length:=by omega
       subst h8
       simp at hf
       subst hf
       simp at hc
       omega
 . intro _
   rcases hpl with⟨e,hne⟩|e
   . rw[e];exact I.fpa hne
   . omega
 . exact I.fnb
theorem build_ptr{n b:Nat}:abuildSlice Try.prog n 141 1 [(0,ptPtr b)]=some (.sl (some ⟨n,0,1⟩) 1 1,.new (.cells [ptPtr b] 148 true)):=by
 simp[abuildSlice,afill,zeros,splice]
theorem build_not{n:Nat}{p:PS}:abuildSlice Try.prog n 142 1 [(0,.agg (notCell p))]=some (.sl (some ⟨n,0,15⟩) 1 1,.new (.cells (notCell p) 147 true)):=by
 simp[abuildSlice,afill,zeros,splice,notCell,partC,contCell]
theorem build_p147{c:Cont}{i:Nat}:abuild Try.prog 147 [(0,c.av),(1,.int .i64 i)]=some (.agg (notCell (notPS c i))):=by
 simp[abuild,afill,zeros,splice,notCell,partC,contCell,notPS]
theorem build_q147{c:Cont}{i:Nat}{b:Bool}:abuild Try.prog 147 [(0,c.av),(1,.int .i64 i),(2,.bool b),(4,.bool true)]=some (.agg (partC (newPS c i b) (.ptr none))):=by
 simp[abuild,afill,zeros,splice,notCell,partC,contCell,newPS]
theorem add_not{h₀ h:Heap}{tb pa nb:Nat}{T:TS}{fl:FL}(I:I72 h₀ h tb pa nb T fl)(hl:T.nots.length<=1000000){q:PS}:
  ∃(h2 h3:Heap) (nb':Nat) (δ:Delta),
   append2 Try.prog (look (h++[AObj.cells (notCell q) 147 true])) (h.length+1) 142 142 [bufSl nb T.nots.length (notCells T.nots),.sl (some ⟨h.length,0,15⟩) 1 1]=some (bufSl nb' (T.nots++[q]).length (notCells (T.nots++[q])),δ)/\Heap.apply (h++[AObj.cells (notCell q) 147 true]) δ=h2 /\
   astore Try.prog (look h2) 142 (.ptr (some ⟨tb,3,6⟩)) (bufSl nb' (T.nots++[q]).length (notCells (T.nots++[q])))=some (.set tb (.cells (tC T.most T.at_ (bufSl pa fl.length (ptrCells fl)) (bufSl nb' (T.nots++[q]).length (notCells (T.nots++[q]))) T.bad T.over) 144 false)) /\
   h2.set tb (.cells (tC T.most T.at_ (bufSl pa fl.length (ptrCells fl)) (bufSl nb' (T.nots++[q]).length (notCells (T.nots++[q]))) T.bad T.over) 144 false)=h3 /\
   I72 h₀ h3 tb pa nb' { T with nots:=T.nots++[q] } fl:=by
 have H:=I.tr
 obtain⟨δ,h2,e1,e2,g2,o2⟩:=append_buf2 (t:=142) (e:=147) (k:=15) (by simp) (by simp) (by decide) (by simp) (by simp) (h:=h) (b:=nb) (n:=T.nots.length) (xs:=notCells T.nots) (ys:=notCell q) rfl notCells_len H.nv hl
 have hpc:notCells T.nots++notCell q=notCells (T.nots++[q]):=by simp[notCells]
 rw[hpc] at e1 g2
 have hfl':T.nots.length+1=(T.nots++[q]).length:=by simp
 rw[hfl'] at e1
 obtain⟨nb',hnb'⟩:∃nb',(if T.nots.length=0 then h.length+1 else nb)=nb':=⟨_,rfl⟩
 rw[hnb'] at e1 g2
 have htp:T.nots.length≠0->nb≠tb:=fun hne e=>by
  have h5:=H.nv hne
  have h6:=H.hdr
  rw[e,h6] at h5
  injection h5 with h5;injection h5 with _ _ h5;exact absurd h5 (by simp)
 have hnp:T.nots.length≠0->fl.length≠0->pa≠nb:=fun hnn hne e=>by
  have h5:=H.pv hne
  have h6:=H.nv hnn
  rw[e,h6] at h5
  injection h5 with h5;injection h5 with _ h5 _;exact absurd h5 (by decide)
 have d2:=o2.at H.hdr fun e=>htp e.2 e.1.symm
 have s2:=cell_store d2 tC_len (t:=142) (by simp) (v:=bufSl nb' (T.nots++[q]).length (notCells (T.nots++[q]))) bufSl_one (off:=3) (by decide)
 rw[tC_3] at s2
 obtain⟨h3,hh3⟩:∃h3,h2.set tb (.cells (tC T.most T.at_ (bufSl pa fl.length (ptrCells fl)) (bufSl nb' (T.nots++[q]).length (notCells (T.nots++[q]))) T.bad T.over) 144 false)=h3:=⟨_,rfl⟩
 have o3:Only (fun c=>c=tb) h2 h3:=by rw[<-hh3];exact .set rfl
 have htl:=lt_of_at H.hdr
 have hpl:nb'=nb/\T.nots.length≠0\/nb'=h.length+1:=by
  rw[<-hnb']
  by_cases h0:T.nots.length=0
  . exact .inr (by rw[if_pos h0])
  . exact .inl ⟨by rw[if_neg h0],h0⟩
 have hpt:nb'≠tb:=by
  rcases hpl with⟨e,hne⟩|e
  . rw[e];exact htp hne
  . omega
 have hlen0:=I.only.1
 refine⟨h2,h3,nb',δ,e1,e2,s2,hh3,⟨⟨?_,?_,?_,?_⟩,?_,?_,?_,?_⟩⟩
 . rw[<-hh3,List.getElem?_set_self (lt_of_at d2)]
 . intro hne
   have h5:=H.pv hne
   have hntb:pa≠tb:=fun e=>by
    have h6:=H.hdr
    rw[e,h6] at h5
    injection h5 with h5;injection h5 with _ _ h5;exact absurd h5 (by simp)
   exact o3.at (o2.at h5 fun e=>hnp e.2 hne e.1) hntb
 . intro _
   exact o3.at g2 hpt
 . have P2:=H.ps.keep o2 fun c hc e=>H.ps.not (H.nv e.2) (.inl rfl) (e.1▸hc)
   exact P2.keep o3 fun c hc e=>P2.not d2 (.inr (by decide)) (e▸hc)
 . refine (I.only.fresh o2 fun c e=>?_).fresh o3 fun c e=>?_
   . rw[e.1];exact I.fnb e.2
   . rw[e];exact I.fresh tb (.inl rfl)
 . exact I.fresh
 . exact I.fpa
 . intro _
   rcases hpl with⟨e,hne⟩|e
   . rw[e];exact I.fnb hne
   . omega
theorem I72.same{h₀ h h':Heap}{tb pa nb:Nat}{T:TS}{fl:FL}(I:I72 h₀ h tb pa nb T fl)(o:Only (fun _=>False) h h'):I72 h₀ h' tb pa nb T fl:=
 ⟨I.tr.same o,I.only.trans o,I.fresh,I.fpa,I.fnb⟩
theorem rel_part{h₀ h:Heap}{tb pa nb:Nat}{T:TS}{fl:FL}(I:I72 h₀ h tb pa nb T fl){c:Cont}{k:Nat}{f:Nat×List Nat}{q:PS}(hf:fl[k]?=some f)(hq:T.parts[k]?=some q):
  ∃h1 h2 o1 o2,astore Try.prog (look h) 4 (.ptr (some ⟨f.1,11,15⟩)) (.bool false)=some (.set f.1 o1)/\h.set f.1 o1=h1/\astore Try.prog (look h1) 3 (.ptr (some ⟨f.1,10,15⟩)) (.int .i64 (c.distance+c.within))=some (.set f.1 o2)/\h1.set f.1 o2=h2/\Only (fun x=>x=f.1) h h1/\I72 h₀ h2 tb pa nb { T with parts:=T.parts.set k (relPS c q) } fl:=by
 have H:=I.tr
 have hp:=H.ps.at_ k q f hq hf
 have s1:=cell_store hp.hdr partC_len (t:=4) (by simp) (v:=.bool false) rfl (off:=11) (by decide)
 rw[partC_11] at s1
 obtain⟨h1,hh1⟩:∃h1,h.set f.1 (.cells (partC { q with least:=false } (headP f.2 (.ptr none))) 147 false)=h1:=⟨_,rfl⟩
 have g1:h1[f.1]?=some (.cells (partC { q with least:=false } (headP f.2 (.ptr none))) 147 false):=by rw[<-hh1,List.getElem?_set_self (lt_of_at hp.hdr)]
 have s2:=cell_store g1 partC_len (t:=3) (by simp) (v:=.int .i64 (c.distance+c.within)) rfl (off:=10) (by decide)
 rw[partC_10] at s2
 obtain⟨h2,hh2⟩:∃h2,h1.set f.1 (.cells (partC (relPS c q) (headP f.2 (.ptr none))) 147 false)=h2:=⟨_,rfl⟩
 have o1:Only (fun x=>x=f.1) h h1:=by rw[<-hh1];exact .set rfl
 have o2:Only (fun x=>x=f.1) h h2:=by rw[<-hh2];exact o1.trans (.set rfl)
 have hm:flF fl f.1:=⟨k,f,hf,List.mem_cons_self ..⟩
 have hnd:=List.nodup_cons.1 (H.ps.nd k f hf)
 have hPA:PartAt h2 f.1 (relPS c q) f.2:=⟨by rw[<-hh2,List.getElem?_set_self (lt_of_at g1)],hp.chain.keep o2 fun b hb e=>hnd.1 (e▸hb)⟩
 have P2:=H.ps.put hf o2 (fun x hx=>by rw[hx];exact List.mem_cons_self ..) hPA (H.ps.nd k f hf) fun x hx=>.inl hx
 have hset:fl.set k (f.1,f.2)=fl:=by
  apply List.ext_getElem?
  intro i
  by_cases hik:i=k
  . subst hik;rw[List.getElem?_set_self (List.getElem?_eq_some_iff.1 hf).1,hf]
  . rw[List.getElem?_set_ne (Ne.symm hik)]
 rw[hset] at P2
 refine⟨h1,h2,_,_,s1,hh1,s2,hh2,o1,⟨⟨o2.at H.hdr fun e=>H.ps.not H.hdr (.inr (by decide)) (e▸hm),fun hne=>o2.at (H.pv hne) fun e=>H.ps.not (H.pv hne) (.inl rfl) (e▸hm),fun hne=>o2.at (H.nv hne) fun e=>H.ps.not (H.nv hne) (.inl rfl) (e▸hm),P2⟩,I.only.fresh o2 fun x hx=>?_,I.fresh,I.fpa,I.fnb⟩⟩
 rw[hx];exact I.fresh _ (.inr hm)
theorem store_box{h:Heap}{c:Cont}:astore Try.prog (look (h++[AObj.cells [.str [],.bool false,.bool false,.int .i64 0,.int .i64 0,.bool false,.int .i64 0,.int .i64 0] 52 false])) 52 (.ptr (some ⟨h.length,0,8⟩)) (.agg [.str c.bytes,.bool c.nocase,.bool c.not,.int .i64 c.offset,.int .i64 c.depth,.bool c.rel,.int .i64 c.distance,.int .i64 c.within])=some (.set h.length (.cells [.str c.bytes,.bool c.nocase,.bool c.not,.int .i64 c.offset,.int .i64 c.depth,.bool c.rel,.int .i64 c.distance,.int .i64 c.within] 52 false)):=by
 simp[astore,splice]
theorem new_round{h₀ h:Heap}{v:AV}{l:List Cont}{tb pa nb most:Nat}{fl:FL}(hv:SlC h₀ v l)(hsm:∀c∈l,c.small)(hll:l.length<=1000){i:Nat}(hi:i<l.length)(I:I72 h₀ h tb pa nb (newTo l most i) fl){Q:AExit->St->Prop}
  (hq:∀st,In72 h₀ tb v l most (l.length-(i+1)) st->Q .normal st):
  Wt Try.prog (D cfg) c72_l3 ⟨env72 tb v l.length i,h⟩ Q:=by
 have hil:(i:Int)<l.length:=by omega
 have hwr:IntKind.wrap .i64 ((i:Int)+1)=i+1:=wrap_i64 (by omega) (by omega)
 obtain⟨c,hc⟩:∃c,c=l[i]:=⟨_,rfl⟩
 have hcs:c.small:=hsm c (by rw[hc];exact List.getElem_mem hi)
 have a1:=hv.at hi
 have b1:=(hv.same I.only).load hi
 rw[<-hc] at b1
 obtain⟨h1,hh1⟩:∃h1,h++[.cells (contCell c) 52 false]=h1:=⟨_,rfl⟩
 have hbc:h1[h.length]?=some (.cells (contCell c) 52 false):=by rw[<-hh1];simp
 have o1:Only (fun _=>False) h h1:=by rw[<-hh1];exact .app
 obtain⟨c0,c1,c2,c3,c4,c5,c6,c7⟩:=contLoads hbc
 have lc:=cont_ld (off:=0) (g:=8) hbc rfl (c:=c) rfl
 have hst:newTo l most (i+1)=addT (newTo l most i) i c:=by simp only[newTo,List.getElem?_eq_getElem hi,hc]
 have I1:=I.same o1
 have hle:=newTo_len (l:=l) (most:=most) (k:=i)
 obtain⟨T,hT⟩:∃T,newTo l most i=T:=⟨_,rfl⟩
 rw[hT] at hst I1 hle
 have q2:=cell_load I1.tr.hdr tC_len (t:=141) (by simp) (off:=2) rfl
 have q3:=cell_load I1.tr.hdr tC_len (t:=142) (by simp) (off:=3) rfl
 cases hnot:c.not with
 |true=>
  obtain⟨h2,h3,nb',δ,e1,e2,s2,hh3,I3⟩:=add_not I1 (by omega) (q:=notPS c i)
  have hT':addT T i c={ T with nots:=T.nots++[notPS c i] }:=by simp[addT,hnot]
  rw[<-hT',<-hst] at I3
  have hnext:In72 h₀ tb v l most (l.length-(i+1)) ⟨env72 tb v l.length (i+1),h3⟩:=⟨i+1,pa,nb',fl,h3,rfl,hi,rfl,I3⟩
  have:=hq _ hnext
  simp only[env72] at this
  have v1:(bufSl nb T.nots.length (notCells T.nots)).notTup=true:=bufSl_notTup
  have v2:(bufSl nb' (T.nots++[notPS c i]).length (notCells (T.nots++[notPS c i]))).notTup=true:=bufSl_notTup
  have bp:=build_p147 (c:=c) (i:=i)
  have bn:=fun n=>build_not (n:=n) (p:=notPS c i)
  rw[hnot] at c2
  simp only[contCell,Cont.av] at bp lc b1 hh1
  generalize bufSl nb T.nots.length (notCells T.nots)=w1 at *
  generalize bufSl nb' (T.nots++[notPS c i]).length (notCells (T.nots++[notPS c i]))=w2 at *
  generalize bufSl pa fl.length (ptrCells fl)=w3 at *
  generalize notCell (notPS c i)=w4 at *
  simp[c72_l3,c72_r3,c72_r4,c72_r5,c72_r6,c72_r11,hil,hi,a1,b1,zeros,store_box,splice,hh1,fieldA,c2,q3,lc,bp,bn,e1,e2,s2,hh3,hwr]
  simpa using this
 |false=>
  have hsl:=I1.tr.sl
  obtain⟨pv,hpv⟩:∃pv,bufSl pa fl.length (ptrCells fl)=pv:=⟨_,rfl⟩
  rw[hpv] at q2 hsl
  have hlen:=fun L=>hsl.len (L:=L) (t:=141) (e:=148) (by simp)
  rw[ptrCells_len,I1.tr.ps.len] at hlen
  have v1:pv.notTup=true:=by rw[<-hpv];exact bufSl_notTup
  rw[hnot] at c2
  obtain⟨c7,c8⟩:=c7
  have bq:=fun b=>build_q147 (c:=c) (i:=i) (b:=b)
  have bp:=fun n=>build_ptr (n:=n) (b:=h1.length)
  obtain⟨N,hN⟩:∃N,T.parts.length=N:=⟨_,rfl⟩
  rw[hN] at hlen
  have tail:∀{T2:TS} {h6:Heap},I72 h₀ h6 tb pa nb T2 fl->T2.parts.length=N->h6[h.length]?=some (.cells (contCell c) 52 false)->addT T i c={ T2 with parts:=T2.parts++[newPS c i (decide (N=0))] } ->
    Wt Try.prog (D cfg) (.reg c72_r10 none (some [5,14,15,16])) ⟨[(5,tPtr tb),(6,.int .i64 i),(7,.ptr (some ⟨h.length,0,8⟩)),(14,v),(15,.int .i64 l.length),(16,.int .i64 i)],h6⟩ (inBlock 1 (andThen (fun s'=>Wt Try.prog (D cfg) (.reg c72_r11 none (some [5,14,15,16])) s' Q) Q)):=by
   intro T2 h6 I6 hn2 hbox hT'
   have lc:=cont_ld (off:=0) (g:=8) hbox rfl (c:=c) rfl
   have q2:=cell_load I6.tr.hdr tC_len (t:=141) (by simp) (off:=2) rfl
   rw[hpv] at q2
   obtain⟨h2,h3,h4,pa',fl',δ,hh2,e1,e2,s2,hh3,I3⟩:=add_part I6 (by omega) (q:=newPS c i (decide (N=0))) rfl
   rw[<-hT',<-hst] at I3
   rw[hpv] at e1
   have hnext:In72 h₀ tb v l most (l.length-(i+1)) ⟨env72 tb v l.length (i+1),h4⟩:=⟨i+1,pa',nb,fl',h4,rfl,hi,rfl,I3⟩
   have:=hq _ hnext
   simp only[env72] at this
   obtain⟨w2,hw2⟩:∃w2,bufSl pa' fl'.length (ptrCells fl')=w2:=⟨_,rfl⟩
   rw[hw2] at e1 s2 hh3
   have v2:w2.notTup=true:=by rw[<-hw2];exact bufSl_notTup
   generalize bufSl nb T2.nots.length (notCells T2.nots)=w1 at *
   obtain⟨w4,hw4⟩:∃w4,partC (newPS c i (decide (N=0))) (.ptr none)=w4:=⟨_,rfl⟩
   have bq1:=bq (decide (N=0))
   have bp:=fun n=>build_ptr (n:=n) (b:=h6.length)
   have hw15:w4.length=15:=by rw[<-hw4];rfl
   have hone:(∀x,x∈w4->x.one=true)=True:=by
    rw[<-hw4]
    simp[partC,contCell,newPS,AV.one]
   rw[hw4] at bq1 hh2
   simp only[contCell,Cont.av] at bq1 lc
   simp[-AV.notTup,-AV.one,hone,hw15,v1,v2,notTup_ptr,c72_r10,c72_r11,fieldA,q2,len1,hlen,lc,bq1,bp,hh2,e1,e2,s2,hh3,hwr]
   simpa using this
  simp only[contCell,Cont.av] at b1 hh1
  by_cases hrel:relB c N=true
  . simp only[relB,Bool.and_eq_true,decide_eq_true_eq] at hrel
    obtain⟨r1,r2,r3⟩:=hrel
    obtain⟨K,hK⟩:∃K,N=K+1:=⟨N-1,by omega⟩
    have hKp:K<T.parts.length:=by omega
    have hKf:K<fl.length:=by rw[I1.tr.ps.len];exact hKp
    obtain⟨f,hf⟩:∃f,fl[K]?=some f:=⟨_,List.getElem?_eq_getElem hKf⟩
    obtain⟨q,hqq⟩:∃q,T.parts[K]?=some q:=⟨_,List.getElem?_eq_getElem hKp⟩
    obtain⟨h2,h3,x1,x2,s1,hh2,s2,hh3,o2,I3⟩:=rel_part I1 (c:=c) hf hqq
    have hT':addT T i c={ ({ T with parts:=T.parts.set K (relPS c q) }:TS) with parts:=T.parts.set K (relPS c q)++[newPS c i (decide (N=0))] }:=by
     have hb:relB c N=true:=by simp[relB,r1,r2,r3]
     have hk1:N-1=K:=by omega
     simp only[addT,hnot,Bool.false_eq_true,if_false,relL,hN,hb,if_true,hk1,hqq]
    have hfm:flF fl f.1:=⟨K,f,hf,List.mem_cons_self ..⟩
    have hne:h.length≠f.1:=fun e=>I1.tr.ps.not hbc (.inr (by decide)) (e▸hfm)
    have hbox2:=o2.at hbc hne
    have hneb:(h.length != f.1)=true:=by simpa using hne
    have o3:Only (fun x=>x=f.1) h2 h3:=by rw[<-hh3];exact .set rfl
    have hbox3:=o3.at hbox2 hne
    have t1:=tail I3 (by simp[hN]) hbox3 hT'
    have r1':(0:Int)<N:=by omega
    have hwK:IntKind.wrap .i64 ((N:Int)-1)=K:=by rw[wrap_i64 (by omega) (by omega)];omega
    have hKc:K<(ptrCells fl).length:=by rw[ptrCells_len];exact hKf
    have aK:=hsl.at (t:=141) (e:=148) (by simp) (by simp) hKc
    have lK:=hsl.load (e:=148) (by simp) hKc
    rw[ptrCells_get hf] at lK
    have hdi:=hcs.di
    have hww:=hcs.w
    have hwA:IntKind.wrap .i64 (c.distance+c.within)=c.distance+c.within:=wrap_i64 (by omega) (by omega)
    have henp:(elp pv K).notTup=true:=by unfold elp;split<;>rfl
    rw[r2] at c5
    simp[-AV.notTup,v1,henp,notTup_ptr,c72_l3,c72_r3,c72_r4,c72_r5,c72_r7,c72_r8,c72_r9,hil,hi,a1,b1,zeros,store_box,splice,hh1,fieldA,c2,c5,c6,c7,q2,len1,hlen,r1,r1',r3,hwK,aK,lK,hwA,hneb,s1,hh2,s2,hh3]
    simpa using t1
  . have hT':addT T i c={ T with parts:=T.parts++[newPS c i (decide (N=0))] }:=by simp[addT,hnot,relL,hN,hrel]
    have t1:=tail I1 hN hbc hT'
    by_cases r1:0<N
    . have r1':(0:Int)<N:=by omega
      cases r2:c.rel with
      |true=>
       have r3:¬(0<c.within):=fun h=>hrel (by simp[relB,r1,r2,h])
       rw[r2] at c5
       simp[-AV.notTup,v1,notTup_ptr,c72_l3,c72_r3,c72_r4,c72_r5,c72_r7,c72_r8,hil,hi,a1,b1,zeros,store_box,splice,hh1,fieldA,c2,c5,c7,q2,len1,hlen,r1,r1',r3]
       simpa using t1
      |false=>
       rw[r2] at c5
       simp[-AV.notTup,v1,notTup_ptr,c72_l3,c72_r3,c72_r4,c72_r5,c72_r7,c72_r8,hil,hi,a1,b1,zeros,store_box,splice,hh1,fieldA,c2,c5,c7,q2,len1,hlen,r1,r1']
       simpa using t1
    . have r1':¬((0:Int)<N):=by omega
      have r0:N=0:=by omega
      simp[-AV.notTup,v1,notTup_ptr,c72_l3,c72_r3,c72_r4,c72_r5,c72_r7,c72_r8,hil,hi,a1,b1,zeros,store_box,splice,hh1,fieldA,c2,c5,c7,q2,len1,hlen,r1,r1']
      simpa using t1
theorem new_run{h:Heap}{v:AV}{l:List Cont}(hv:SlC h v l)(hsm:∀c∈l,c.small)(hll:l.length<=1000){m:Int}{most:Nat}(hm:(most:Int)=max 1 (min m 32)):
  ∃tb pa nb fl h',D cfg 72 [v,.int .i64 m] h=some (tPtr tb,h')/\TrackAt h' tb pa nb (newTo l most l.length) fl/\Only (fun _=>False) h h'/\(∀c,trF tb fl c->h.length<=c):=by
 have key:∃r h',D cfg 72 [v,.int .i64 m] h=some (r,h')/\(∃tb pa nb fl,r=tPtr tb/\TrackAt h' tb pa nb (newTo l most l.length) fl/\Only (fun _=>False) h h'/\(∀c,trF tb fl c->h.length<=c)):=by
  refine call72 (R:=fun r h'=>∃tb pa nb fl,r=tPtr tb/\TrackAt h' tb pa nb (newTo l most l.length) fl/\Only (fun _=>False) h h'/\(∀c,trF tb fl c->h.length<=c)) (args:=[v,.int .i64 m]) (h:=h) (by simp) ?_
  have hvt:v.notTup=true:=by rcases hv with⟨rfl,_⟩|⟨_,_,_,_,rfl,_,_⟩<;>rfl
  have hlen:=fun L=>hv.len (L:=L)
  have m1:=min_run (m:=m)
  have m2:=max_run hm
  obtain⟨h1,hh1⟩:∃h1,h++[AObj.cells (tC most 0 (.sl none 0 0) (.sl none 0 0) false false) 144 false]=h1:=⟨_,rfl⟩
  have g1:h1[h.length]?=some (.cells (tC most 0 (.sl none 0 0) (.sl none 0 0) false false) 144 false):=by rw[<-hh1];simp
  have o1:Only (fun _=>False) h h1:=by rw[<-hh1];exact .app
  have I0:I72 h h1 h.length 0 0 (newTo l most 0) []:=by
   refine⟨⟨?_,fun e=>absurd rfl e,fun e=>absurd rfl e,.nil⟩,o1,?_,fun e=>absurd rfl e,fun e=>absurd rfl e⟩
   . rw[g1];rfl
   . rintro c (rfl|⟨k,f,hf,_⟩)
     . exact Nat.le_refl _
     . simp at hf
  simp only[tC] at hh1
  simp[-AV.notTup,hvt,notTup_ptr,c72,c72_r0,c72_r1,c72_r2,m1,m2,abuild,afill,zeros,splice,len1,hlen]
  simp[AV.notTup] at hh1 ⊢
  rw[hh1]
  refine Wt.loop (In72 h h.length v l most) (m:=l.length) ⟨0,0,0,[],h1,rfl,Nat.zero_le _,rfl,I0⟩ ?_
  rintro m' σ ⟨i,pa,nb,fl,h2,rfl,hi,rfl,I⟩
  have hcut:cut (some [5,14,15,16]) (env72 h.length v l.length i)=env72 h.length v l.length i:=by simp
  simp only[hcut]
  by_cases hil:i<l.length
  . refine new_round hv hsm hll hil I fun st hst=>?_
    exact⟨_,by omega,hst⟩
  . have hi2:i=l.length:=by omega
    subst hi2
    simp[-AV.notTup,hvt,notTup_ptr,c72_l3,c72_r3,c72_r12]
    try simp[AV.notTup]
    exact⟨_,_,_,I.tr,I.only,I.fresh⟩
 obtain⟨r,h',h1,tb,pa,nb,fl,rfl,h2,h3,h4⟩:=key
 exact⟨tb,pa,nb,fl,h',h1,h2,h3,h4⟩
def hereN(ends:List Bool)(n:Nat)(ps:List PS):Nat->Bool
 |0=>match ps[0]? with
  |some p=>saysB ends n p&&!p.c.rel
  |none=>false
 |k+1=>match ps[k]?,ps[k+1]? with
  |some q,some p=>saysB ends n p&&(!p.c.rel || afterB p.c q (hereN ends n ps k) n)
  |_,_=>false
def keptTo(n:Nat)(hn:Nat->Bool)(ps:List PS):Nat->List PS
 |0=>ps
 |k+1=>match ps[k]? with
  |some p=>(keptTo n hn ps k).set k (p.keep n (hn k))
  |none=>keptTo n hn ps k
def overTo(n most:Nat)(hn:Nat->Bool)(ps:List PS)(o:Bool):Nat->Bool
 |0=>o
 |k+1=>match ps[k]? with
  |some p=>overTo n most hn ps o k || decide (most<(p.keep n (hn k)).kept.length)
  |none=>overTo n most hn ps o k
def badTo(ends:List Bool)(n:Nat)(ns:List PS)(b:Bool):Nat->Bool
 |0=>b
 |k+1=>match ns[k]? with
  |some p=>badTo ends n ns b k || saysB ends n p
  |none=>badTo ends n ns b k
def stepT(T:TS)(ends:List Bool):TS:=
 if T.over then T
 else
  let hn:=hereN ends (T.at_+1) T.parts
  { T with
   at_:=T.at_+1
   parts:=keptTo (T.at_+1) hn T.parts T.parts.length
   over:=overTo (T.at_+1) T.most hn T.parts T.over T.parts.length
   bad:=badTo ends (T.at_+1) T.nots T.bad T.nots.length }
theorem keptTo_len{n:Nat}{hn:Nat->Bool}{ps:List PS}:∀{k:Nat},(keptTo n hn ps k).length=ps.length
 |0=>rfl
 |k+1=>by
  simp only[keptTo]
  split
  . rw[List.length_set,keptTo_len]
  . exact keptTo_len
theorem keptTo_ge{n:Nat}{hn:Nat->Bool}{ps:List PS}{i:Nat}:∀{k:Nat},k<=i->(keptTo n hn ps k)[i]?=ps[i]?
 |0,_=>rfl
 |k+1,h=>by
  simp only[keptTo]
  split
  . rw[List.getElem?_set_ne (by omega),keptTo_ge (by omega)]
  . exact keptTo_ge (by omega)
structure SB (h:Heap) (tb pa nb bt eb:Nat) (T:TS) (fl:FL) (v:AV) (ends:List Bool):Prop where
 tr:TrackAt h tb pa nb T fl
 bt_:h[bt]?=some (.cells [tPtr tb] 84 false)
 eb_:h[eb]?=some (.cells [v] 68 false)
 ev:Sl1 h v (boolCells ends)
theorem SB.same{h h':Heap}{tb pa nb bt eb:Nat}{T:TS}{fl:FL}{v:AV}{ends:List Bool}(H:SB h tb pa nb bt eb T fl v ends)(o:Only (fun _=>False) h h'):SB h' tb pa nb bt eb T fl v ends:=
 ⟨H.tr.same o,o.at H.bt_ id,o.at H.eb_ id,H.ev.same o⟩
abbrev boxP(b:Nat):AV:=.ptr (some ⟨b,0,1⟩)
abbrev hereSl(hb N:Nat):AV:=.sl (some ⟨hb,0,N⟩) N N
def hereV(ends:List Bool)(n:Nat)(ps:List PS)(i:Nat):AV:=.bool (hereN ends n ps i)
abbrev env7(bt eb hb N:Nat)(pv:AV)(k:Nat):Env:=[(2,boxP bt),(5,.fn (.func 108) [boxP eb,boxP bt]),(6,hereSl hb N),(33,pv),(34,.int .i64 N),(35,.int .i64 k)]
def In7(hA:Heap)(bt eb:Nat)(pv:AV)(ends:List Bool)(n:Nat)(ps:List PS)(m:Nat)(σ:St):Prop:=∃k h,m=ps.length-k/\k<=ps.length/\σ=⟨env7 bt eb hA.length ps.length pv k,h⟩/\Only (fun _=>False) hA h/\h[hA.length]?=some (.cells (fillC (hereV ends n ps) (.bool false) ps.length k) 4 true)
theorem fillC_set'{f:Nat->AV}{z v:AV}{n k:Nat}(hk:k<n)(hv:v=f k):(fillC f z n k).set k v=fillC f z n (k+1):=by rw[hv];exact fillC_set hk
theorem here_loop{hA h:Heap}{tb pa nb bt eb:Nat}{T:TS}{fl:FL}{v:AV}{ends:List Bool}(S:SB hA tb pa nb bt eb T fl v ends)(hsm:∀p∈T.parts,p.small)(hat:T.at_<=1000000)(hpl:T.parts.length<=1000)(ho:Only (fun _=>False) hA h)
  (hg:h[hA.length]?=some (.cells (fillC (hereV ends T.at_ T.parts) (.bool false) T.parts.length 0) 4 true)) {Q:AExit->St->Prop}
  (hq:∀h',Only (fun _=>False) hA h'->h'[hA.length]?=some (.cells (fillC (hereV ends T.at_ T.parts) (.bool false) T.parts.length T.parts.length) 4 true)->Q (.exit 0) ⟨env7 bt eb hA.length T.parts.length (bufSl pa fl.length (ptrCells fl)) T.parts.length++[(36,.bool false)],h'⟩):
  Wt Try.prog (D cfg) (.loop c73_l7 (some [2,5,6,33,34,35])) ⟨env7 bt eb hA.length T.parts.length (bufSl pa fl.length (ptrCells fl)) 0,h⟩ Q:=by
 have hs0:=S.tr.sl
 have hdr0:=S.tr.hdr
 obtain⟨pv,hpv⟩:∃pv,bufSl pa fl.length (ptrCells fl)=pv:=⟨_,rfl⟩
 rw[hpv] at hs0 hdr0 hq ⊢
 have hnt:pv.notTup=true:=by rw[<-hpv];exact bufSl_notTup
 refine Wt.loop (In7 hA bt eb pv ends T.at_ T.parts) (m:=T.parts.length) ⟨0,h,rfl,Nat.zero_le _,rfl,ho,hg⟩ ?_
 rintro m σ ⟨k,h1,rfl,hk,rfl,o1,g1⟩
 have hcut:cut (some [2,5,6,33,34,35]) (env7 bt eb hA.length T.parts.length pv k)=env7 bt eb hA.length T.parts.length pv k:=by simp
 simp only[hcut]
 obtain⟨N,hN⟩:∃N,T.parts.length=N:=⟨_,rfl⟩
 rw[hN] at g1 hk hq ⊢
 by_cases hkl:k<N
 . have hkl':(k:Int)<N:=by omega
   have hkp:k<T.parts.length:=by omega
   have hfl:k<fl.length:=by rw[S.tr.ps.len];exact hkp
   obtain⟨p,hp⟩:∃p,T.parts[k]?=some p:=⟨_,List.getElem?_eq_getElem hkp⟩
   obtain⟨f,hf⟩:∃f,fl[k]?=some f:=⟨_,List.getElem?_eq_getElem hfl⟩
   have hps:=hsm p (List.mem_of_getElem? hp)
   have S1:=S.same o1
   have hpa:=S1.tr.ps.at_ k p f hp hf
   have hic:k<(ptrCells fl).length:=by rw[ptrCells_len];exact hfl
   have a1:=hs0.at (t:=141) (e:=148) (by simp) (by simp) hic
   have l1:=(hs0.same o1).load (e:=148) (by simp) hic
   rw[ptrCells_get hf] at l1
   have hwr:IntKind.wrap .i64 ((k:Int)+1)=k+1:=wrap_i64 (by omega) (by omega)
   have henp:(elp pv k).notTup=true:=by unfold elp;split<;>rfl
   obtain⟨h2,e2,o2⟩:=says_run (off:=0) (g:=15) hpa.hdr partC_len (by rw[List.drop_zero,List.take_of_length_le (by rw[partC_len];decide)]) S1.eb_ S1.bt_ S1.tr.hdr tC_len rfl S1.ev hps.c (by omega)
   obtain⟨sb,hsb⟩:∃sb,saysB ends T.at_ p=sb:=⟨_,rfl⟩
   rw[hsb] at e2
   have g2:=o2.at g1 id
   have hfk:k<(fillC (hereV ends T.at_ T.parts) (.bool false) N k).length:=by rw[fillC_len];exact hkl
   have s2:=cell_store g2 fillC_len (t:=4) (by simp) (v:=.bool sb) rfl (off:=k) hkl
   obtain⟨h3,hh3⟩:∃h3,h2.set hA.length (.cells ((fillC (hereV ends T.at_ T.parts) (.bool false) N k).set k (.bool sb)) 4 true)=h3:=⟨_,rfl⟩
   have g3:h3[hA.length]?=some (.cells ((fillC (hereV ends T.at_ T.parts) (.bool false) N k).set k (.bool sb)) 4 true):=by rw[<-hh3,List.getElem?_set_self (lt_of_at g2)]
   have o23:Only (fun c=>c=hA.length) h2 h3:=by rw[<-hh3];exact .set rfl
   have o3:Only (fun _=>False) hA h3:=(o1.trans o2).fresh o23 fun c e=>by omega
   have S3:=S.same o3
   have hl3:((fillC (hereV ends T.at_ T.parts) (.bool false) N k).set k (.bool sb)).length=N:=by rw[List.length_set,fillC_len]
   have q3:=cell_load g3 hl3 (t:=4) (by simp) (off:=k) (v:=.bool sb) (by rw[List.getElem?_set_self hfk])
   have hpa3:=S3.tr.ps.at_ k p f hp hf
   have qr:=cell_load hpa3.hdr partC_len (t:=4) (by simp) (off:=5) rfl
   have a2:aindexAddr Try.prog 68 (hereSl hA.length N) (.int .i64 k)=some (.ptr (some ⟨hA.length,k,N⟩)):=by simp[aindexAddr,hkl,hkl']
   have hmove:∀b h4,Only (fun _=>False) hA h4->h4[hA.length]?=some (.cells ((fillC (hereV ends T.at_ T.parts) (.bool false) N k).set k (.bool b)) 4 true)->b=hereN ends T.at_ T.parts k->In7 hA bt eb pv ends T.at_ T.parts (T.parts.length-(k+1)) ⟨env7 bt eb hA.length N pv (k+1),h4⟩:=by
    intro b h4 o4 g4 hb
    refine⟨k+1,h4,rfl,by omega,by rw[hN],o4,?_⟩
    rw[g4,hN,fillC_set' hkl (by rw[hereV,hb])]
   cases hsb2:sb with
   |false=>
    subst hsb2
    have hres:false=hereN ends T.at_ T.parts k:=by
     cases k with
     |zero=>simp only[hereN,hp,hsb];rfl
     |succ j=>
      have hj:T.parts[j]?=some T.parts[j]:=List.getElem?_eq_getElem (by omega)
      simp only[hereN,hp,hj,hsb];rfl
    have hnext:=hmove false h3 o3 g3 hres
    simp only[env7] at hnext
    simp[-AV.notTup,hnt,notTup_ptr,henp,c73_l7,c73_r7,c73_r8,c73_r9,c73_r10,c73_r12,astep_callv,astepT_callv,callV,hkl,hkl',a1,l1,e2,a2,s2,hh3,q3,fieldA,hwr]
    refine⟨N-(k+1),by omega,?_⟩
    rw[hN] at hnext
    simpa using hnext
   |true=>
    subst hsb2
    cases hrel:p.c.rel with
    |false=>
     have hres:true=hereN ends T.at_ T.parts k:=by
      cases k with
      |zero=>simp only[hereN,hp,hsb,hrel];rfl
      |succ j=>
       have hj:T.parts[j]?=some T.parts[j]:=List.getElem?_eq_getElem (by omega)
       simp only[hereN,hp,hj,hsb,hrel];rfl
     rw[hrel] at qr
     have hnext:=hmove true h3 o3 g3 hres
     simp only[env7] at hnext
     simp[-AV.notTup,hnt,notTup_ptr,henp,c73_l7,c73_r7,c73_r8,c73_r9,c73_r10,c73_r12,astep_callv,astepT_callv,callV,hkl,hkl',a1,l1,e2,a2,s2,hh3,q3,fieldA,qr,hwr]
     refine⟨N-(k+1),by omega,?_⟩
     rw[hN] at hnext
     simpa using hnext
    |true=>
     rw[hrel] at qr
     have last:∀b h4,Only (fun _=>False) h3 h4->b=hereN ends T.at_ T.parts k->∃h5,astore Try.prog (look h4) 4 (.ptr (some ⟨hA.length,k,N⟩)) (.bool b)=some (.set hA.length (.cells ((fillC (hereV ends T.at_ T.parts) (.bool false) N k).set k (.bool b)) 4 true))/\h4.set hA.length (.cells ((fillC (hereV ends T.at_ T.parts) (.bool false) N k).set k (.bool b)) 4 true)=h5/\In7 hA bt eb pv ends T.at_ T.parts (N-(k+1)) ⟨env7 bt eb hA.length N pv (k+1),h5⟩:=by
      intro b h4 o4 hb
      have g4:=o4.at g3 id
      have s4:=cell_store g4 hl3 (t:=4) (by simp) (v:=.bool b) rfl (off:=k) hkl
      rw[List.set_set] at s4
      refine⟨_,s4,rfl,?_⟩
      rw[<-hN]
      have h9:=hmove b (h4.set hA.length (.cells ((fillC (hereV ends T.at_ T.parts) (.bool false) N k).set k (.bool b)) 4 true)) ((o3.trans o4).fresh (.set (fp:=fun c=>c=hA.length) rfl) fun c e=>by omega) (by rw[List.getElem?_set_self (lt_of_at g4)]) hb
      rw[<-hN] at h9
      exact h9
     cases k with
     |zero=>
      have hres:false=hereN ends T.at_ T.parts 0:=by simp only[hereN,hp,hrel];simp
      obtain⟨h5,s5,hh5,hnext⟩:=last false h3 .refl hres
      simp only[env7] at hnext
      simp at hnext a1 l1 a2 s2 hh3 q3 s5 hh5 hwr
      simp[-AV.notTup,hnt,notTup_ptr,henp,c73_l7,c73_r7,c73_r8,c73_r9,c73_r10,c73_r11,c73_r12,astep_callv,astepT_callv,callV,hkl,hkl',a1,l1,e2,a2,s2,hh3,q3,fieldA,qr,s5,hh5,hwr]
      refine⟨N-1,by omega,?_⟩
      simpa using hnext
     |succ j=>
      have hjp:j<T.parts.length:=by omega
      have hjf:j<fl.length:=by rw[S.tr.ps.len];exact hjp
      obtain⟨q,hqj⟩:∃q,T.parts[j]?=some q:=⟨_,List.getElem?_eq_getElem hjp⟩
      obtain⟨f',hf'⟩:∃f',fl[j]?=some f':=⟨_,List.getElem?_eq_getElem hjf⟩
      have hpq:=S3.tr.ps.at_ j q f' hqj hf'
      have hsq:=hsm q (List.mem_of_getElem? hqj)
      have hjc:j<(ptrCells fl).length:=by rw[ptrCells_len];exact hjf
      have a3:=hs0.at (t:=141) (e:=148) (by simp) (by simp) hjc
      have l3:=(hs0.same o3).load (e:=148) (by simp) hjc
      rw[ptrCells_get hf'] at l3
      have hwj:IntKind.wrap .i64 (((j+1:Nat):Int)-1)=j:=by rw[wrap_i64 (by omega) (by omega)];omega
      obtain⟨h4,e4,o4⟩:=after_run hpa3 hpq hps.c hsq (here:=hereN ends T.at_ T.parts j) (e:=T.at_) (by omega)
      have hres:afterB p.c q (hereN ends T.at_ T.parts j) T.at_=hereN ends T.at_ T.parts (j+1):=by simp only[hereN,hp,hqj,hsb,hrel];simp
      obtain⟨h5,s5,hh5,hnext⟩:=last _ h4 o4 hres
      obtain⟨hj,hhj⟩:∃hj,hereN ends T.at_ T.parts j=hj:=⟨_,rfl⟩
      obtain⟨rb,hrb⟩:∃rb,afterB p.c q (hereN ends T.at_ T.parts j) T.at_=rb:=⟨_,rfl⟩
      rw[hrb] at e4 s5 hh5
      rw[hhj] at e4
      have a4:aindexAddr Try.prog 68 (hereSl hA.length N) (.int .i64 j)=some (.ptr (some ⟨hA.length,j,N⟩)):=by
       have:j<N:=by omega
       simp[aindexAddr,this]
      have q4:=cell_load g3 hl3 (t:=4) (by simp) (off:=j) (v:=.bool hj) (by rw[List.getElem?_set_ne (by omega),fillC_get (by omega),if_pos (by omega),hereV,hhj])
      have henq:(elp pv j).notTup=true:=by unfold elp;split<;>rfl
      have qb:=cell_load S3.bt_ (n:=1) rfl (t:=84) (by simp) (off:=0) rfl
      have qd:=S3.tr.hdr
      rw[hpv] at qd
      have qd2:=cell_load qd tC_len (t:=141) (by simp) (off:=2) rfl
      have qd1:=cell_load qd tC_len (t:=3) (by simp) (off:=1) rfl
      have hj0:(0:Int)<(j:Int)+1:=by omega
      simp only[env7] at hnext
      obtain⟨K,hK⟩:∃K,j+1=K:=⟨_,rfl⟩
      rw[hK] at hnext a1 l1 a2 s2 hh3 q3 s5 hh5 hwr henp hwj hkl hkl' ⊢
      have hK0:0<K:=by omega
      have hK0':(0:Int)<K:=by omega
      simp[-AV.notTup,hnt,notTup_ptr,henp,henq,c73_l7,c73_r7,c73_r8,c73_r9,c73_r10,c73_r11,c73_r12,astep_callv,astepT_callv,callV,hkl,hkl',a1,l1,e2,a2,s2,hh3,q3,fieldA,qr,hK0,hK0',qb,qd2,hwj,a3,l3,a4,q4,qd1,e4,s5,hh5,hwr]
      refine⟨N-(K+1),by omega,?_⟩
      simpa using hnext
 . have hk2:k=N:=by omega
   subst hk2
   have:=hq h1 o1 g1
   simp only[env7] at this
   simp[-AV.notTup,hnt,notTup_ptr,c73_l7,c73_r7]
   simpa using this
theorem tC_1{most at_ n:Nat}{pv nv:AV}{bad over:Bool}:(tC most at_ pv nv bad over).set 1 (.int .i64 n)=tC most n pv nv bad over:=rfl
theorem tC_4{most at_:Nat}{pv nv:AV}{bad over b:Bool}:(tC most at_ pv nv bad over).set 4 (.bool b)=tC most at_ pv nv b over:=rfl
theorem tC_5{most at_:Nat}{pv nv:AV}{bad over b:Bool}:(tC most at_ pv nv bad over).set 5 (.bool b)=tC most at_ pv nv bad b:=rfl
theorem TrackAt.head{h h':Heap}{tb pa nb:Nat}{T:TS}{fl:FL}(H:TrackAt h tb pa nb T fl){n:Nat}{bad over:Bool}(e:h.set tb (.cells (tC T.most n (bufSl pa fl.length (ptrCells fl)) (bufSl nb T.nots.length (notCells T.nots)) bad over) 144 false)=h'):TrackAt h' tb pa nb { T with at_:=n,bad:=bad,over:=over } fl/\Only (fun c=>c=tb) h h':=by
 have o:Only (fun c=>c=tb) h h':=by rw[<-e];exact .set rfl
 refine⟨⟨?_,fun hne=>o.at (H.pv hne) fun e=>?_,fun hne=>o.at (H.nv hne) fun e=>?_,H.ps.keep o fun c hc e=>H.ps.not H.hdr (.inr (by decide)) (e▸hc)⟩,o⟩
 . rw[<-e,List.getElem?_set_self (lt_of_at H.hdr)]
 . have h5:=H.pv hne
   rw[e,H.hdr] at h5
   injection h5 with h5;injection h5 with _ _ h5;exact absurd h5 (by simp)
 . have h5:=H.nv hne
   rw[e,H.hdr] at h5
   injection h5 with h5;injection h5 with _ _ h5;exact absurd h5 (by simp)
structure I14 (hB h:Heap) (tb pa nb:Nat) (T:TS) (fl fl':FL) (hn:Nat->Bool) (k:Nat):Prop where
 tr:TrackAt h tb pa nb { T with parts:=keptTo T.at_ hn T.parts k,over:=overTo T.at_ T.most hn T.parts T.over k } fl'
 same:ptrCells fl'=ptrCells fl
 only:Only (trF tb fl) hB h
 sub:∀c,flF fl' c->flF fl c\/hB.length<=c
abbrev env14(bt eb hb N:Nat)(pv:AV)(k:Nat):Env:=[(2,boxP bt),(5,.fn (.func 108) [boxP eb,boxP bt]),(6,hereSl hb N),(87,pv),(88,.int .i64 N),(89,.int .i64 k)]
def In14(hB:Heap)(bt eb hb:Nat)(pv:AV)(tb pa nb:Nat)(T:TS)(fl:FL)(hn:Nat->Bool)(m:Nat)(σ:St):Prop:=∃k h fl',m=T.parts.length-k/\k<=T.parts.length/\σ=⟨env14 bt eb hb T.parts.length pv k,h⟩/\I14 hB h tb pa nb T fl fl' hn k
theorem kept_loop{hB:Heap}{tb pa nb bt eb hb:Nat}{T:TS}{fl:FL}{ends:List Bool}(H:TrackAt hB tb pa nb T fl)(hbt:hB[bt]?=some (.cells [tPtr tb] 84 false))(hsm:∀p∈T.parts,p.small)(hat:T.at_<=1000000)(hpl:T.parts.length<=1000)
  (hg:hB[hb]?=some (.cells (fillC (hereV ends T.at_ T.parts) (.bool false) T.parts.length T.parts.length) 4 true)) {Q:AExit->St->Prop}
  (hq:∀h' fl',I14 hB h' tb pa nb T fl fl' (hereN ends T.at_ T.parts) T.parts.length->Q (.exit 2) ⟨env14 bt eb hb T.parts.length (bufSl pa fl.length (ptrCells fl)) T.parts.length++[(90,.bool false)],h'⟩):
  Wt Try.prog (D cfg) (.loop c73_l14 (some [2,5,6,87,88,89])) ⟨env14 bt eb hb T.parts.length (bufSl pa fl.length (ptrCells fl)) 0,hB⟩ Q:=by
 have hs0:=H.sl
 obtain⟨pv,hpv⟩:∃pv,bufSl pa fl.length (ptrCells fl)=pv:=⟨_,rfl⟩
 rw[hpv] at hs0 hq ⊢
 have hnt:pv.notTup=true:=by rw[<-hpv];exact bufSl_notTup
 obtain⟨hn,hhn⟩:∃hn,hereN ends T.at_ T.parts=hn:=⟨_,rfl⟩
 rw[hhn] at hq
 refine Wt.loop (In14 hB bt eb hb pv tb pa nb T fl hn) (m:=T.parts.length) ⟨0,hB,fl,rfl,Nat.zero_le _,rfl,⟨H,rfl,.refl,fun c hc=>.inl hc⟩⟩ ?_
 rintro m σ ⟨k,h1,fl',rfl,hk,rfl,I⟩
 have hcut:cut (some [2,5,6,87,88,89]) (env14 bt eb hb T.parts.length pv k)=env14 bt eb hb T.parts.length pv k:=by simp
 simp only[hcut]
 obtain⟨N,hN⟩:∃N,T.parts.length=N:=⟨_,rfl⟩
 rw[hN] at hk hq hg ⊢
 have hnbt:¬trF tb fl bt:=by
  rintro (e|e)
  . rw[e,H.hdr] at hbt;injection hbt with h5;injection h5 with _ h5 _;exact absurd h5 (by decide)
  . exact H.ps.not hbt (.inr (by decide)) e
 have hnhb:¬trF tb fl hb:=by
  rintro (e|e)
  . rw[e,H.hdr] at hg;injection hg with h5;injection h5 with _ _ h5;exact absurd h5 (by simp)
  . exact H.ps.not hg (.inl rfl) e
 by_cases hkl:k<N
 . have hkl':(k:Int)<N:=by omega
   have hkp:k<T.parts.length:=by omega
   have hlf:fl'.length=N:=by have:=I.tr.ps.len;rw[keptTo_len,hN] at this;exact this
   have hlf0:fl.length=N:=by rw[H.ps.len];exact hN
   obtain⟨p,hp⟩:∃p,T.parts[k]?=some p:=⟨_,List.getElem?_eq_getElem hkp⟩
   obtain⟨f,hf⟩:∃f,fl'[k]?=some f:=⟨_,List.getElem?_eq_getElem (by omega)⟩
   have hps:=hsm p (List.mem_of_getElem? hp)
   have hpk:(keptTo T.at_ hn T.parts k)[k]?=some p:=by rw[keptTo_ge (Nat.le_refl _),hp]
   have hpa:=I.tr.ps.at_ k p f hpk hf
   have hic:k<(ptrCells fl).length:=by rw[ptrCells_len];omega
   have hnpa:∀b,slB pv=some b->¬trF tb fl b:=by
    intro b hb'
    rw[<-hpv] at hb'
    obtain⟨rfl,hne⟩:=slB_buf hb'
    have h5:=H.pv hne
    rintro (e|e)
    . rw[e,H.hdr] at h5;injection h5 with h5;injection h5 with _ _ h5;exact absurd h5 (by simp)
    . exact H.ps.not h5 (.inl rfl) e
   have a1:=hs0.at (t:=141) (e:=148) (by simp) (by simp) hic
   have l1:=(hs0.keep I.only hnpa).load (e:=148) (by simp) hic
   have hfc:(ptrCells fl)[k]=ptPtr f.1:=by
    have h6:(ptrCells fl')[k]'(by rw[ptrCells_len];omega)=ptPtr f.1:=ptrCells_get hf _
    simp only[I.same] at h6
    exact h6
   rw[hfc] at l1
   have hwr:IntKind.wrap .i64 ((k:Int)+1)=k+1:=wrap_i64 (by omega) (by omega)
   have henp:(elp pv k).notTup=true:=by unfold elp;split<;>rfl
   have qb:=cell_load (I.only.at hbt hnbt) (n:=1) rfl (t:=84) (by simp) (off:=0) rfl
   have qd1:=cell_load I.tr.hdr tC_len (t:=3) (by simp) (off:=1) rfl
   have qh:=cell_load (I.only.at hg hnhb) fillC_len (t:=4) (by simp) (off:=k) (v:=.bool (hn k)) (by rw[fillC_get hkl,if_pos hkl,hereV,hhn])
   have a2:aindexAddr Try.prog 68 (hereSl hb N) (.int .i64 k)=some (.ptr (some ⟨hb,k,N⟩)):=by simp[aindexAddr,hkl,hkl']
   obtain⟨h2,kbs',e2,P2,o2,nd2,sub2⟩:=keep_run hpa (I.tr.ps.nd k f hf) hps (n:=T.at_) (by omega) (ended:=hn k)
   have PP:=I.tr.ps.put hf o2 (fun c hc=>by rcases hc with hc|hc;exact hc▸List.mem_cons_self ..;exact List.mem_cons_of_mem _ hc) P2 nd2 sub2
   have hkt:keptTo T.at_ hn T.parts (k+1)=(keptTo T.at_ hn T.parts k).set k (p.keep T.at_ (hn k)):=by simp only[keptTo,hp]
   have hot:overTo T.at_ T.most hn T.parts T.over (k+1)=(overTo T.at_ T.most hn T.parts T.over k || decide (T.most<(p.keep T.at_ (hn k)).kept.length)):=by simp only[overTo,hp]
   have hfm:∀c,(c=f.1\/c∈f.2)->flF fl' c:=fun c hc=>⟨k,f,hf,by rcases hc with hc|hc;exact hc▸List.mem_cons_self ..;exact List.mem_cons_of_mem _ hc⟩
   have hps':ptrCells (fl'.set k (f.1,kbs'))=ptrCells fl:=by rw[ptrCells_set hf,I.same]
   have T2:TrackAt h2 tb pa nb { T with parts:=keptTo T.at_ hn T.parts (k+1),over:=overTo T.at_ T.most hn T.parts T.over k } (fl'.set k (f.1,kbs')):=by
    refine⟨?_,fun hne=>?_,fun hne=>?_,by rw[hkt];exact PP⟩
    . rw[ptrCells_set hf,List.length_set]
      exact o2.at I.tr.hdr fun e=>I.tr.ps.not I.tr.hdr (.inr (by decide)) (hfm _ e)
    . rw[ptrCells_set hf]
      rw[List.length_set] at hne
      exact o2.at (I.tr.pv hne) fun e=>I.tr.ps.not (I.tr.pv hne) (.inl rfl) (hfm _ e)
    . exact o2.at (I.tr.nv hne) fun e=>I.tr.ps.not (I.tr.nv hne) (.inl rfl) (hfm _ e)
   have ho2:Only (trF tb fl) hB h2:=by
    refine⟨Nat.le_trans I.only.1 o2.1,fun c hc hnc=>?_⟩
    rw[o2.2 c (Nat.lt_of_lt_of_le hc I.only.1) fun e=>?_,I.only.2 c hc hnc]
    rcases I.sub c (hfm c e) with h6|h6
    . exact hnc (.inr h6)
    . omega
   have hsub:∀c,flF (fl'.set k (f.1,kbs')) c->flF fl c\/hB.length<=c:=by
    rintro c ⟨i,g,hg',hc⟩
    by_cases hik:i=k
    . subst hik
      rw[List.getElem?_set_self (List.getElem?_eq_some_iff.1 hf).1] at hg'
      cases hg'
      rcases List.mem_cons.1 hc with hc|hc
      . exact I.sub c (hfm c (.inl hc))
      . rcases sub2 c hc with h6|h6
        . exact I.sub c (hfm c (.inr h6))
        . have:=I.only.1
          exact .inr (by omega)
    . rw[List.getElem?_set_ne (Ne.symm hik)] at hg'
      exact I.sub c ⟨i,g,hg',hc⟩
   have qb2:=cell_load (ho2.at hbt hnbt) (n:=1) rfl (t:=84) (by simp) (off:=0) rfl
   have qo:=cell_load T2.hdr tC_len (t:=4) (by simp) (off:=5) rfl
   have qm:=cell_load T2.hdr tC_len (t:=3) (by simp) (off:=0) rfl
   have qn:=cell_load P2.hdr partC_len (t:=3) (by simp) (off:=13) rfl
   obtain⟨ob,hob⟩:∃ob,overTo T.at_ T.most hn T.parts T.over (k+1)=ob:=⟨_,rfl⟩
   have so:=cell_store T2.hdr tC_len (t:=4) (by simp) (v:=.bool ob) rfl (off:=5) (by decide)
   rw[tC_5] at so
   obtain⟨h3,hh3⟩:∃h3,h2.set tb (.cells (tC T.most T.at_ (bufSl pa (fl'.set k (f.1,kbs')).length (ptrCells (fl'.set k (f.1,kbs')))) (bufSl nb T.nots.length (notCells T.nots)) T.bad ob) 144 false)=h3:=⟨_,rfl⟩
   obtain⟨T3,o3⟩:=T2.head hh3
   have hnext:In14 hB bt eb hb pv tb pa nb T fl hn (N-(k+1)) ⟨env14 bt eb hb N pv (k+1),h3⟩:=by
    refine⟨k+1,h3,fl'.set k (f.1,kbs'),by rw[hN],by omega,by rw[hN],⟨?_,hps',?_,hsub⟩⟩
    . rw[hob];exact T3
    . exact ho2.trans (o3.mono fun c _ e=>.inl e)
   rw[hps'] at so hh3
   have hl':(fl'.set k (f.1,kbs')).length=fl.length:=by rw[List.length_set];omega
   rw[hl',hpv] at so hh3
   generalize bufSl nb T.nots.length (notCells T.nots)=nv at *
   simp only[env14] at hnext
   have hwt:=@wrap_i64
   cases hov:overTo T.at_ T.most hn T.parts T.over k with
   |true=>
    rw[hov] at qo
    have hobt:ob=true:=by rw[<-hob,hot,hov];rfl
    rw[hobt] at so
    simp only[hobt] at hh3
    simp[-AV.notTup,hnt,notTup_ptr,henp,c73_l14,c73_r14,c73_r15,c73_r16,c73_r17,c73_r18,hkl,hkl',a1,l1,qb,fieldA,qd1,a2,qh,e2,qb2,qo,so,hh3,hwr]
    refine⟨N-(k+1),by omega,?_⟩
    simpa using hnext
   |false=>
    rw[hov] at qo
    have hobt:ob=decide (T.most<(p.keep T.at_ (hn k)).kept.length):=by rw[<-hob,hot,hov];rfl
    obtain⟨kl,hkl2⟩:∃kl,(p.keep T.at_ (hn k)).kept.length=kl:=⟨_,rfl⟩
    rw[hkl2] at qn hobt
    by_cases hmk:T.most<kl
    . have hmk':(T.most:Int)<kl:=by omega
      have hob1:ob=true:=by rw[hobt];simp[hmk]
      rw[hob1] at so
      simp only[hob1] at hh3
      simp[-AV.notTup,hnt,notTup_ptr,henp,c73_l14,c73_r14,c73_r15,c73_r16,c73_r17,c73_r18,hkl,hkl',a1,l1,qb,fieldA,qd1,a2,qh,e2,qb2,qo,qm,qn,hmk,hmk',so,hh3,hwr]
      refine⟨N-(k+1),by omega,?_⟩
      simpa using hnext
    . have hmk':¬((T.most:Int)<kl):=by omega
      have hob1:ob=false:=by rw[hobt];simp[hmk]
      rw[hob1] at so
      simp only[hob1] at hh3
      simp[-AV.notTup,hnt,notTup_ptr,henp,c73_l14,c73_r14,c73_r15,c73_r16,c73_r17,c73_r18,hkl,hkl',a1,l1,qb,fieldA,qd1,a2,qh,e2,qb2,qo,qm,qn,hmk,hmk',so,hh3,hwr]
      refine⟨N-(k+1),by omega,?_⟩
      simpa using hnext
 . have hk2:k=N:=by omega
   subst hk2
   have:=hq h1 fl' (by rw[<-hN];rw[<-hN] at I;exact I)
   simp only[env14] at this
   simp[-AV.notTup,hnt,notTup_ptr,c73_l14,c73_r14]
   simpa using this
abbrev env20(bt eb M i:Nat):Env:=[(2,boxP bt),(5,.fn (.func 108) [boxP eb,boxP bt]),(127,.int .i64 M),(128,.int .i64 i)]
def In20(hC:Heap)(tb pa nb bt eb:Nat)(T:TS)(fl:FL)(v:AV)(ends:List Bool)(m:Nat)(σ:St):Prop:=∃i h,m=T.nots.length-i/\i<=T.nots.length/\σ=⟨env20 bt eb T.nots.length i,h⟩/\TrackAt h tb pa nb { T with bad:=badTo ends T.at_ T.nots T.bad i } fl/\Only (fun c=>c=tb) hC h
theorem beq_boxT{tb:Nat}{t:TypeId}:AObj.beq (.cells [tPtr tb] t false) (.cells [tPtr tb] t false)=true:=by
 simp[AObj.beq,beqL,AV.beq,AV.beqP,oAA,AA.beq]
theorem nots_loop{hC:Heap}{tb pa nb bt eb:Nat}{T:TS}{fl:FL}{v:AV}{ends:List Bool}(S:SB hC tb pa nb bt eb T fl v ends)(hev:∀b,slB v=some b->b≠tb)(hsm:∀p∈T.nots,p.c.small)(hat:T.at_<=1000000)(hpl:T.nots.length<=1000){Q:AExit->St->Prop}
  (hq:∀h',TrackAt h' tb pa nb { T with bad:=badTo ends T.at_ T.nots T.bad T.nots.length } fl->Only (fun c=>c=tb) hC h'->h'[bt]?=some (.cells [tPtr tb] 84 false)->Q (.exit 4) ⟨env20 bt eb T.nots.length T.nots.length++[(129,.bool false)],h'⟩):
  Wt Try.prog (D cfg) (.loop c73_l20 (some [2,5,127,128])) ⟨env20 bt eb T.nots.length 0,hC⟩ Q:=by
 refine Wt.loop (In20 hC tb pa nb bt eb T fl v ends) (m:=T.nots.length) ⟨0,hC,rfl,Nat.zero_le _,rfl,S.tr,.refl⟩ ?_
 rintro m σ ⟨i,h1,rfl,hi,rfl,T1,o1⟩
 have hcut:cut (some [2,5,127,128]) (env20 bt eb T.nots.length i)=env20 bt eb T.nots.length i:=by simp
 simp only[hcut]
 have hbtn:bt≠tb:=fun e=>by
  have h5:=S.bt_
  rw[e,S.tr.hdr] at h5;injection h5 with h5;injection h5 with _ h5 _;exact absurd h5 (by decide)
 have hebn:eb≠tb:=fun e=>by
  have h5:=S.eb_
  rw[e,S.tr.hdr] at h5;injection h5 with h5;injection h5 with _ h5 _;exact absurd h5 (by decide)
 have b1:=o1.at S.bt_ hbtn
 obtain⟨M,hM⟩:∃M,T.nots.length=M:=⟨_,rfl⟩
 have hq':=fun h'=>hq h'
 rw[hM] at hi ⊢
 by_cases hil:i<M
 . have hil':(i:Int)<M:=by omega
   have him:i<T.nots.length:=by omega
   obtain⟨p,hp⟩:∃p,T.nots[i]?=some p:=⟨_,List.getElem?_eq_getElem him⟩
   have hps:=hsm p (List.mem_of_getElem? hp)
   have hM0:M≠0:=by omega
   have hnv:=T1.nv (by show T.nots.length≠0;omega)
   have S1:SB h1 tb pa nb bt eb { T with bad:=badTo ends T.at_ T.nots T.bad i } fl v ends:=⟨T1,b1,o1.at S.eb_ hebn,S.ev.keep o1 hev⟩
   obtain⟨h2,e2,o2⟩:=says_run (off:=i*15) hnv rfl (notCells_drop hp) S1.eb_ S1.bt_ S1.tr.hdr tC_len rfl S1.ev hps hat
   have hdr1:=T1.hdr
   have qb:=cell_load b1 (n:=1) rfl (t:=84) (by simp) (off:=0) rfl
   have q3:=cell_load hdr1 tC_len (t:=142) (by simp) (off:=3) rfl
   have q4:=cell_load hdr1 tC_len (t:=4) (by simp) (off:=4) rfl
   have hncl:(notCells T.nots).length=M*15:=by rw[notCells_len,hM]
   have hnvE:bufSl nb T.nots.length (notCells T.nots)=.sl (some ⟨nb,0,(notCells T.nots).length⟩) M M:=by
    simp only[bufSl,hM]
    rw[if_neg hM0]
   have a1:aindexAddr Try.prog 142 (.sl (some ⟨nb,0,(notCells T.nots).length⟩) M M) (.int .i64 i)=some (.ptr (some ⟨nb,i*15,(notCells T.nots).length⟩)):=by simp[aindexAddr,hil,hil']
   have hwr:IntKind.wrap .i64 ((i:Int)+1)=i+1:=wrap_i64 (by omega) (by omega)
   have hbt':badTo ends T.at_ T.nots T.bad (i+1)=(badTo ends T.at_ T.nots T.bad i || saysB ends T.at_ p):=by simp only[badTo,hp]
   obtain⟨bb,hbb⟩:∃bb,badTo ends T.at_ T.nots T.bad (i+1)=bb:=⟨_,rfl⟩
   have next:∀h3,Only (fun _=>False) h1 h3->∃h4,astore Try.prog (look h3) 4 (.ptr (some ⟨tb,4,6⟩)) (.bool bb)=some (.set tb (.cells (tC T.most T.at_ (bufSl pa fl.length (ptrCells fl)) (bufSl nb T.nots.length (notCells T.nots)) bb T.over) 144 false))/\h3.set tb (.cells (tC T.most T.at_ (bufSl pa fl.length (ptrCells fl)) (bufSl nb T.nots.length (notCells T.nots)) bb T.over) 144 false)=h4/\In20 hC tb pa nb bt eb T fl v ends (M-(i+1)) ⟨env20 bt eb M (i+1),h4⟩:=by
    intro h3 o3
    have T3:=T1.same o3
    have s3:=cell_store T3.hdr tC_len (t:=4) (by simp) (v:=.bool bb) rfl (off:=4) (by decide)
    rw[tC_4] at s3
    obtain⟨h4,hh4⟩:∃h4,h3.set tb (.cells (tC T.most T.at_ (bufSl pa fl.length (ptrCells fl)) (bufSl nb T.nots.length (notCells T.nots)) bb T.over) 144 false)=h4:=⟨_,rfl⟩
    obtain⟨T4,o4⟩:=T3.head hh4
    refine⟨h4,s3,hh4,i+1,h4,by rw[hM],by omega,by rw[hM],?_,(o1.trans (o3.mono fun _ _=>False.elim)).trans o4⟩
    rw[hbb];exact T4
   rw[hnvE] at q3 next
   have qb2:=fun h3 (o3:Only (fun _=>False) h1 h3)=>cell_load (o3.at b1 id) (n:=1) rfl (t:=84) (by simp) (off:=0) rfl
   cases hbad:badTo ends T.at_ T.nots T.bad i with
   |true=>
    rw[hbad] at q4
    have hbt1:bb=true:=by rw[<-hbb,hbt',hbad];rfl
    obtain⟨h4,s4,hh4,hnext⟩:=next h1 .refl
    rw[hbt1] at s4 hh4
    have hsame:sameAt h1 h1 bt=true:=sameAt_of b1 b1 beq_boxT
    simp only[env20] at hnext
    simp[-AV.notTup,notTup_ptr,c73_l20,c73_r20,c73_r21,c73_r22,c73_r23,astep_callv,astepT_callv,callV,hil,hil',qb,fieldA,q4,hsame,s4,hh4,hwr]
    refine⟨M-(i+1),by omega,?_⟩
    simpa using hnext
   |false=>
    rw[hbad] at q4
    obtain⟨sb,hsb⟩:∃sb,saysB ends T.at_ p=sb:=⟨_,rfl⟩
    have hbt1:bb=sb:=by rw[<-hbb,hbt',hbad,hsb];rfl
    rw[hsb] at e2
    obtain⟨h4,s4,hh4,hnext⟩:=next h2 o2
    rw[hbt1] at s4 hh4
    have hsame:sameAt h1 h2 bt=true:=sameAt_of b1 (o2.at b1 id) beq_boxT
    simp only[env20] at hnext
    simp[-AV.notTup,notTup_ptr,c73_l20,c73_r20,c73_r21,c73_r22,c73_r23,astep_callv,astepT_callv,callV,hil,hil',qb,fieldA,q3,q4,a1,e2,hsame,s4,hh4,hwr]
    refine⟨M-(i+1),by omega,?_⟩
    simpa using hnext
 . have hk2:i=M:=by omega
   subst hk2
   have:=hq h1 (by rw[hM];exact T1) o1 b1
   simp only[env20,hM] at this
   simp[-AV.notTup,notTup_ptr,c73_l20,c73_r20]
   simpa using this
theorem step_rest{h2:Heap}{tb pa nb bt eb:Nat}{T:TS}{fl:FL}{v:AV}{ends:List Bool}(S:SB h2 tb pa nb bt eb T fl v ends)(hev:∀b,slB v=some b->¬trF tb fl b)(hsm:∀p∈T.parts,p.small)(hsn:∀p∈T.nots,p.c.small)(hat:T.at_<=1000000)(hpl:T.parts.length<=1000)(hnl:T.nots.length<=1000){R:AV->Heap->Prop}
  (hR:∀h' fl',TrackAt h' tb pa nb { T with parts:=keptTo T.at_ (hereN ends T.at_ T.parts) T.parts T.parts.length,over:=overTo T.at_ T.most (hereN ends T.at_ T.parts) T.parts T.over T.parts.length,bad:=badTo ends T.at_ T.nots T.bad T.nots.length } fl' ->
   Only (trF tb fl) h2 h'->(∀c,flF fl' c->flF fl c\/h2.length<=c)->R (.bool (overTo T.at_ T.most (hereN ends T.at_ T.parts) T.parts T.over T.parts.length)) h'):
  Wt Try.prog (D cfg) (.seq (.reg c73_r4 none (some [2,5])) (.seq (.reg c73_r5 none (some [2,5,6])) (.seq (.seq (.reg c73_r6 none (some [2,5,6,33,34,35])) (.block 0 (.loop c73_l7 (some [2,5,6,33,34,35])))) (.seq (.seq (.reg c73_r13 none (some [2,5,6,87,88,89])) (.block 2 (.loop c73_l14 (some [2,5,6,87,88,89])))) (.seq (.seq (.reg c73_r19 none (some [2,5,127,128])) (.block 4 (.loop c73_l20 (some [2,5,127,128])))) (.seq (.reg c73_r24 none (some [4])) .ret)))))) ⟨[(2,boxP bt),(3,boxP eb)],h2⟩ (Ends Try.prog [.tmp 4] R):=by
 have hs0:=S.tr.sl
 have hdr0:=S.tr.hdr
 obtain⟨pv,hpv⟩:∃pv,bufSl pa fl.length (ptrCells fl)=pv:=⟨_,rfl⟩
 have hnt:pv.notTup=true:=by rw[<-hpv];exact bufSl_notTup
 obtain⟨nv,hnv⟩:∃nv,bufSl nb T.nots.length (notCells T.nots)=nv:=⟨_,rfl⟩
 have hnn:nv.notTup=true:=by rw[<-hnv];exact bufSl_notTup
 rw[hpv] at hs0 hdr0
 have hlen:=fun L=>hs0.len (L:=L) (t:=141) (e:=148) (by simp)
 rw[ptrCells_len,S.tr.ps.len] at hlen
 have hnlen:∀L,alen Try.prog L 142 nv=some (.int .i64 T.nots.length):=fun L=>by
  rw[<-hnv]
  unfold bufSl
  split
  . rename_i h0;simp[alen,h0]
  . simp[alen]
 have qb:=cell_load S.bt_ (n:=1) rfl (t:=84) (by simp) (off:=0) rfl
 have q2:=cell_load hdr0 tC_len (t:=141) (by simp) (off:=2) rfl
 obtain⟨h3,hh3⟩:∃h3,h2++[AObj.cells (zeros [.bool false] T.parts.length) 4 true]=h3:=⟨_,rfl⟩
 have o3:Only (fun _=>False) h2 h3:=by rw[<-hh3];exact .app
 have g3:h3[h2.length]?=some (.cells (fillC (hereV ends T.at_ T.parts) (.bool false) T.parts.length 0) 4 true):=by rw[<-hh3,<-fillC_zero];simp
 have qb3:=cell_load (o3.at S.bt_ id) (n:=1) rfl (t:=84) (by simp) (off:=0) rfl
 have q23:=cell_load (o3.at hdr0 id) tC_len (t:=141) (by simp) (off:=2) rfl
 have hb1:(T.parts.length:Int)<=281474976710656:=by omega
 have hb2:(T.parts.length:Int)<=9223372036854775807:=by omega
 have hloop:=fun Q hq=>here_loop (Q:=Q) S hsm hat hpl o3 g3 hq
 simp only[env7] at hloop
 rw[hpv] at hloop
 simp[-AV.notTup,hnt,notTup_ptr,c73_r4,c73_r5,c73_r6,AV.plain,qb,fieldA,q2,len1,hlen,amakeSlice,hb1,hb2,hh3,qb3,q23]
 refine hloop _ fun h4 o4 g4=>?_
 have S4:=S.same o4
 have hdr4:=S4.tr.hdr
 rw[hpv] at hdr4
 have qb4:=cell_load S4.bt_ (n:=1) rfl (t:=84) (by simp) (off:=0) rfl
 have q24:=cell_load hdr4 tC_len (t:=141) (by simp) (off:=2) rfl
 have hloop2:=fun Q hq=>kept_loop (Q:=Q) (eb:=eb) S4.tr S4.bt_ hsm hat hpl g4 hq
 simp only[env14] at hloop2
 rw[hpv] at hloop2
 simp[-AV.notTup,hnt,notTup_ptr,c73_r13,qb4,fieldA,q24,len1,hlen]
 refine hloop2 _ fun h5 fl' I=>?_
 have hnbt:∀b o,h4[b]?=some o->(∃cs t g,o=.cells cs t g/\(g=true\/(t≠147/\t≠181))/\¬(t=144/\g=false))->¬trF tb fl b:=by
  rintro b o hb ⟨cs,t,g,rfl,ht,hx⟩ (e|e)
  . rw[e,S4.tr.hdr] at hb;injection hb with h5;injection h5 with h5 h6 h7;exact hx ⟨h6.symm,h7.symm⟩
  . exact S4.tr.ps.not hb ht e
 have bt5:=I.only.at S4.bt_ (hnbt _ _ S4.bt_ ⟨_,_,_,rfl,.inr (by decide),by decide⟩)
 have eb5:=I.only.at S4.eb_ (hnbt _ _ S4.eb_ ⟨_,_,_,rfl,.inr (by decide),by decide⟩)
 have S5:SB h5 tb pa nb bt eb { T with parts:=keptTo T.at_ (hereN ends T.at_ T.parts) T.parts T.parts.length,over:=overTo T.at_ T.most (hereN ends T.at_ T.parts) T.parts T.over T.parts.length } fl' v ends:=⟨I.tr,bt5,eb5,S4.ev.keep I.only hev⟩
 have hdr5:=I.tr.hdr
 have hnv':bufSl nb ({ T with parts:=keptTo T.at_ (hereN ends T.at_ T.parts) T.parts T.parts.length,over:=overTo T.at_ T.most (hereN ends T.at_ T.parts) T.parts T.over T.parts.length }:TS).nots.length (notCells ({ T with parts:=keptTo T.at_ (hereN ends T.at_ T.parts) T.parts T.parts.length,over:=overTo T.at_ T.most (hereN ends T.at_ T.parts) T.parts T.over T.parts.length }:TS).nots)=nv:=hnv
 rw[hnv'] at hdr5
 have qb5:=cell_load bt5 (n:=1) rfl (t:=84) (by simp) (off:=0) rfl
 have q35:=cell_load hdr5 tC_len (t:=142) (by simp) (off:=3) rfl
 have hloop3:=fun Q hq=>nots_loop (Q:=Q) S5 (fun b hb e=>hev b hb (.inl e)) hsn hat hnl hq
 simp only[env20] at hloop3
 simp[-AV.notTup,hnn,notTup_ptr,c73_r19,qb5,fieldA,q35,len1,hnlen]
 refine hloop3 _ fun h6 T6 o6 bt6=>?_
 have qb6:=cell_load bt6 (n:=1) rfl (t:=84) (by simp) (off:=0) rfl
 have q56:=cell_load T6.hdr tC_len (t:=4) (by simp) (off:=5) rfl
 have hlen4:=o4.1
 have:=hR h6 fl' T6 (((o4.mono fun _ _=>False.elim).trans I.only).trans (o6.mono fun c _ e=>.inl e)) fun c hc=>by
  rcases I.sub c hc with h7|h7
  . exact .inl h7
  . exact .inr (by omega)
 simp[c73_r24,qb6,fieldA,q56]
 simpa using this
theorem step_track{h:Heap}{tb pa nb:Nat}{T:TS}{fl:FL}{v:AV}{ends:List Bool}(H:TrackAt h tb pa nb T fl)(hv:Sl1 h v (boolCells ends))(hev:∀b,slB v=some b->¬trF tb fl b)(hsm:∀p∈T.parts,p.small)(hsn:∀p∈T.nots,p.c.small)(hat:T.at_<=900000)(hpl:T.parts.length<=1000)(hnl:T.nots.length<=1000):
  ∃fl' h',D cfg 73 [tPtr tb,v] h=some (.bool (stepT T ends).over,h')/\TrackAt h' tb pa nb (stepT T ends) fl'/\Only (trF tb fl) h h'/\(∀c,flF fl' c->flF fl c\/h.length<=c):=by
 have key:∃r h',D cfg 73 [tPtr tb,v] h=some (r,h')/\(∃fl',r=.bool (stepT T ends).over/\TrackAt h' tb pa nb (stepT T ends) fl'/\Only (trF tb fl) h h'/\(∀c,flF fl' c->flF fl c\/h.length<=c)):=by
  refine call73 (R:=fun r h'=>∃fl',r=.bool (stepT T ends).over/\TrackAt h' tb pa nb (stepT T ends) fl'/\Only (trF tb fl) h h'/\(∀c,flF fl' c->flF fl c\/h.length<=c)) (args:=[tPtr tb,v]) (h:=h) (by simp) ?_
  have hvt:v.notTup=true:=by rcases hv with⟨rfl,_⟩|⟨_,_,_,_,_,rfl,_,_⟩<;>rfl
  have hvc:v.cells=[v]:=by rcases hv with⟨rfl,_⟩|⟨_,_,_,_,_,rfl,_,_⟩<;>rfl
  have hvo:v.one=true:=by rcases hv with⟨rfl,_⟩|⟨_,_,_,_,_,rfl,_,_⟩<;>rfl
  obtain⟨h1,hh1⟩:∃h1,h++[AObj.cells [tPtr tb] 84 false]++[AObj.cells [v] 68 false]=h1:=⟨_,rfl⟩
  have o1:Only (fun _=>False) h h1:=by rw[<-hh1,List.append_assoc];exact .app
  have b1:h1[h.length]?=some (.cells [tPtr tb] 84 false):=by rw[<-hh1];simp
  have eb1:h1[h.length+1]?=some (.cells [v] 68 false):=by rw[<-hh1];simp
  have T1:=H.same o1
  have q1:=cell_load b1 (n:=1) rfl (t:=84) (by simp) (off:=0) rfl
  have q5:=cell_load T1.hdr tC_len (t:=4) (by simp) (off:=5) rfl
  have hh1':h++[AObj.cells [tPtr tb] 84 false,AObj.cells [v] 68 false]=h1:=by rw[<-hh1];simp
  cases hov:T.over with
  |true=>
   rw[hov] at q5
   have hst:stepT T ends=T:=by simp only[stepT,hov,if_true]
   simp[-AV.notTup,-AV.cells,-AV.one,hvt,hvc,hvo,notTup_ptr,cells_ptr,one_ptr,c73,c73_r0,c73_r1,c73_r2,hh1,hh1',q1,fieldA,q5]
   rw[hst,hov]
   exact⟨rfl,rfl,fl,T1,o1.mono fun _ _=>False.elim,fun c hc=>.inl hc⟩
  |false=>
   rw[hov] at q5
   have q0:=cell_load T1.hdr tC_len (t:=3) (by simp) (off:=1) rfl
   obtain⟨A,hA⟩:∃A,T.at_+1=A:=⟨_,rfl⟩
   have hwr:IntKind.wrap .i64 ((T.at_:Int)+1)=A:=by rw[wrap_i64 (by omega) (by omega)];omega
   have s1:=cell_store T1.hdr tC_len (t:=3) (by simp) (v:=.int .i64 A) rfl (off:=1) (by decide)
   rw[tC_1] at s1
   obtain⟨h2,hh2⟩:∃h2,h1.set tb (.cells (tC T.most A (bufSl pa fl.length (ptrCells fl)) (bufSl nb T.nots.length (notCells T.nots)) T.bad T.over) 144 false)=h2:=⟨_,rfl⟩
   obtain⟨T2,o2⟩:=T1.head hh2
   have htl:=lt_of_at H.hdr
   have S2:SB h2 tb pa nb h.length (h.length+1) { T with at_:=A,bad:=T.bad,over:=T.over } fl v ends:=⟨T2,o2.at b1 (by omega),o2.at eb1 (by omega),(hv.same o1).keep o2 fun b hb e=>hev b hb (.inl e)⟩
   have hst:stepT T ends={ T with at_:=A,parts:=keptTo A (hereN ends A T.parts) T.parts T.parts.length,over:=overTo A T.most (hereN ends A T.parts) T.parts T.over T.parts.length,bad:=badTo ends A T.nots T.bad T.nots.length }:=by
    simp only[stepT,hov,hA]
    simp
   have hrest:=step_rest (R:=fun r h'=>∃fl',r=.bool (stepT T ends).over/\TrackAt h' tb pa nb (stepT T ends) fl'/\Only (trF tb fl) h h'/\(∀c,flF fl' c->flF fl c\/h.length<=c)) S2 hev hsm hsn (by show A<=1000000;omega) hpl hnl fun h' fl' T' o' s'=>by
    refine⟨fl',by rw[hst],by rw[hst];exact T',((o1.mono fun _ _=>False.elim).trans (o2.mono fun c _ e=>.inl e)).trans o',fun c hc=>?_⟩
    rcases s' c hc with h7|h7
    . exact .inl h7
    . have h8:=o1.1
      have h9:=o2.1
      exact .inr (by omega)
   rw[hov] at s1 hh2
   generalize bufSl pa fl.length (ptrCells fl)=pv at *
   generalize bufSl nb T.nots.length (notCells T.nots)=nv at *
   simp[-AV.notTup,-AV.cells,-AV.one,hvt,hvc,hvo,notTup_ptr,cells_ptr,one_ptr,c73,c73_r0,c73_r1,c73_r3,hh1,hh1',q1,fieldA,q5,q0,hwr,s1,hh2]
   simpa using hrest
 obtain⟨r,h',h1,fl',rfl,h2,h3,h4⟩:=key
 exact⟨fl',h',h1,h2,h3,h4⟩
structure PS.ok (p:PS) (n:Nat):Prop where
 c:p.c.small
 by_:-2000000<=p.by_/\p.by_<=2000000
 kept:∀a∈p.kept,0<=a/\a<=n
 len:p.kept.length<=n
structure TS.ok (T:TS):Prop where
 parts:∀p∈T.parts,p.ok T.at_
 nots:∀p∈T.nots,p.c.small
theorem PS.ok.mono{p:PS}{n m:Nat}(h:p.ok n)(hm:n<=m):p.ok m:=⟨h.c,h.by_,fun a ha=>by have:=h.kept a ha;omega,by have:=h.len;omega⟩
theorem PS.ok.small{p:PS}{n:Nat}(h:p.ok n)(hn:n<=1000000):p.small:=⟨h.c,by have:=h.by_;omega,fun a ha=>by have:=h.kept a ha;omega,by have:=h.len;omega⟩
theorem PS.ok.keep{p:PS}{n:Nat}(h:p.ok n){b:Bool}:(p.keep ((n+1:Nat):Int) b).ok (n+1):=by
 have hk:∀a∈(p.keep ((n+1:Nat):Int) b).kept,a∈p.kept\/a=((n+1:Nat):Int):=by
  intro a ha
  simp only[PS.keep] at ha
  split at ha
  . split at ha
    . exact .inr (by simpa using ha)
    . exact .inl ha
  . rcases List.mem_append.1 ha with ha|ha
    . exact .inl (List.mem_filter.1 ha).1
    . split at ha
      . exact .inr (by simpa using ha)
      . simp at ha
 refine⟨h.c,h.by_,fun a ha=>?_,?_⟩
 . rcases hk a ha with h1|h1
   . have:=h.kept a h1;omega
   . omega
 . have hl:=h.len
   have hf:(keepL p ((n+1:Nat):Int)).length<=p.kept.length:=List.length_filter_le _ _
   simp only[PS.keep]
   split
   . split
     . simp
     . omega
   . obtain⟨L,hL⟩:∃L,(keepL p ((n+1:Nat):Int)).length=L:=⟨_,rfl⟩
     rw[List.length_append,hL]
     split
     . show L+1<=n+1;omega
     . show L+0<=n+1;omega
theorem keptTo_mem{n:Nat}{hn:Nat->Bool}{ps:List PS}{q:PS}:∀{k:Nat},q∈keptTo n hn ps k->∃p∈ps,q=p\/∃b,q=p.keep n b
 |0,h=>⟨q,h,.inl rfl⟩
 |k+1,h=>by
  simp only[keptTo] at h
  split at h
  . rename_i p hp
    rcases List.mem_or_eq_of_mem_set h with h|h
    . exact keptTo_mem h
    . exact⟨p,List.mem_of_getElem? hp,.inr ⟨_,h⟩⟩
  . exact keptTo_mem h
theorem TS.ok.step{T:TS}(h:T.ok){ends:List Bool}:(stepT T ends).ok:=by
 unfold stepT
 split
 . exact h
 . refine⟨fun q hq=>?_,h.nots⟩
   obtain⟨p,hp,e|⟨b,e⟩⟩:=keptTo_mem hq
   . rw[e];exact (h.parts p hp).mono (Nat.le_succ _)
   . rw[e];exact (h.parts p hp).keep
theorem addT_ok{T:TS}(h:T.ok){i:Nat}{c:Cont}(hc:c.small):(addT T i c).ok:=by
 have hdi:=hc.di
 have hw:=hc.w
 unfold addT
 split
 . refine⟨h.parts,fun p hp=>?_⟩
   rcases List.mem_append.1 hp with hp|hp
   . exact h.nots p hp
   . simp at hp;subst hp;exact hc
 . refine⟨fun p hp=>?_,h.nots⟩
   rcases List.mem_append.1 hp with hp|hp
   . unfold relL at hp
     split at hp
     . split at hp
       . rename_i q hq
         rcases List.mem_or_eq_of_mem_set hp with hp|hp
         . exact h.parts p hp
         . subst hp
           have:=h.parts q (List.mem_of_getElem? hq)
           exact⟨this.c,⟨by show -2000000<=c.distance+c.within;omega,by show c.distance+c.within<=2000000;omega⟩,this.kept,this.len⟩
       . exact h.parts p hp
     . exact h.parts p hp
   . simp at hp
     subst hp
     exact⟨hc,⟨by show -2000000<=(0:Int);decide,by show (0:Int)<=2000000;decide⟩,fun a ha=>by simp[newPS] at ha,by simp[newPS]⟩
theorem newTo_ok{l:List Cont}{most:Nat}(hl:∀c∈l,c.small):∀{k:Nat},(newTo l most k).ok
 |0=>⟨fun p hp=>by simp[newTo] at hp,fun p hp=>by simp[newTo] at hp⟩
 |k+1=>by
  simp only[newTo]
  split
  . rename_i c hc
    exact addT_ok (newTo_ok hl) (hl c (List.mem_of_getElem? hc))
  . exact newTo_ok hl
theorem stepT_len{T:TS}{ends:List Bool}:(stepT T ends).parts.length=T.parts.length/\(stepT T ends).nots.length=T.nots.length/\(stepT T ends).at_<=T.at_+1:=by
 unfold stepT
 split
 . exact⟨rfl,rfl,by omega⟩
 . exact⟨keptTo_len,rfl,Nat.le_refl _⟩
theorem step_ok{h:Heap}{tb pa nb:Nat}{T:TS}{fl:FL}{v:AV}{ends:List Bool}(H:TrackAt h tb pa nb T fl)(hv:Sl1 h v (boolCells ends))(hev:∀b,slB v=some b->¬trF tb fl b)(hok:T.ok)(hat:T.at_<=900000)(hpl:T.parts.length+T.nots.length<=1000):
  ∃fl' h',D cfg 73 [tPtr tb,v] h=some (.bool (stepT T ends).over,h')/\TrackAt h' tb pa nb (stepT T ends) fl'/\Only (trF tb fl) h h'/\(∀c,flF fl' c->flF fl c\/h.length<=c):=
 step_track H hv hev (fun p hp=>(hok.parts p hp).small (by omega)) hok.nots hat (by omega) (by omega)
structure AskH where
 ab:Nat
 tb:Nat
 pa:Nat
 nb:Nat
 eb:Nat
 fl:FL
structure AskS where
 rc:List AV
 sid:Int
 action:Int
 T:TS
 ends:List Bool
 over:Bool
abbrev endSl(b n:Nat):AV:=.sl (some ⟨b,0,n⟩) n n
abbrev askC(s:AskS)(a:AskH):List AV:=s.rc++[tPtr a.tb,endSl a.eb s.ends.length,.bool s.over]
abbrev askP(a:AskH):AV:=.ptr (some ⟨a.ab,0,18⟩)
structure AskS.ok (s:AskS):Prop where
 len:s.rc.length=15
 act:s.rc[0]?=some (.int .i64 s.action)
 sid:s.rc[13]?=some (.int .i64 s.sid)
 T:s.T.ok
 few:s.T.parts.length+s.T.nots.length<=1000
structure AskAt (h:Heap) (a:AskH) (s:AskS):Prop where
 hdr:h[a.ab]?=some (.cells (askC s a) 166 false)
 trk:TrackAt h a.tb a.pa a.nb s.T a.fl
 ends:h[a.eb]?=some (.cells (boolCells s.ends) 4 true)
 ok:s.ok
structure AsksAt (h:Heap) (al:List AskH) (sl:List AskS):Prop where
 len:al.length=sl.length
 at_:∀(k:Nat) (a:AskH) (s:AskS),al[k]?=some a->sl[k]?=some s->AskAt h a s
 sep:∀(i j:Nat) (a b:AskH),i≠j->al[i]?=some a->al[j]?=some b->a.ab≠b.ab/\a.eb≠b.eb/\∀c,trF a.tb a.fl c->¬trF b.tb b.fl c
theorem askC_len{s:AskS}{a:AskH}(h:s.ok):(askC s a).length=18:=by simp[h.len]
theorem TrackAt.typ{h:Heap}{tb pa nb:Nat}{T:TS}{fl:FL}(H:TrackAt h tb pa nb T fl){c:Nat}(hc:trF tb fl c):∃cs t,h[c]?=some (.cells cs t false)/\(t=144\/t=147\/t=181):=by
 rcases hc with rfl|hc
 . exact⟨_,_,H.hdr,.inl rfl⟩
 . obtain⟨cs,t,h1,h2⟩:=H.ps.typ hc
   exact⟨cs,t,h1,.inr h2⟩
theorem TrackAt.not{h:Heap}{tb pa nb:Nat}{T:TS}{fl:FL}(H:TrackAt h tb pa nb T fl){c:Nat}{cs:List AV}{t:TypeId}{g:Bool}(hc:h[c]?=some (.cells cs t g))(ht:g=true\/(t≠144/\t≠147/\t≠181)):¬trF tb fl c:=by
 intro hf
 obtain⟨cs',t',h1,h2⟩:=H.typ hf
 rw[hc] at h1
 simp only[Option.some.injEq,AObj.cells.injEq] at h1
 obtain⟨_,e1,e2⟩:=h1
 rcases ht with ht|ht
 . rw[ht] at e2;simp at e2
 . rw[e1] at ht
   rcases h2 with e|e|e
   . exact ht.1 e
   . exact ht.2.1 e
   . exact ht.2.2 e
theorem AskAt.keep{h h':Heap}{fp:Nat->Prop}{a:AskH}{s:AskS}(H:AskAt h a s)(ho:Only fp h h')(h1:¬fp a.ab)(h1':¬fp a.eb)(h2:∀c,trF a.tb a.fl c->¬fp c)(h3:∀c cs t,(t=148\/t=147)->h[c]?=some (.cells cs t true)->¬fp c):AskAt h' a s:=
 ⟨ho.at H.hdr h1,H.trk.keep ho (h2 _ (.inl rfl)) (fun hne=>h3 _ _ _ (.inl rfl) (H.trk.pv hne)) (fun hne=>h3 _ _ _ (.inr rfl) (H.trk.nv hne)) (fun c hc=>h2 c (.inr hc)),ho.at H.ends h1',H.ok⟩
theorem AsksAt.keep{h h':Heap}{fp:Nat->Prop}{al:List AskH}{sl:List AskS}(H:AsksAt h al sl)(ho:Only fp h h')(h1:∀(k:Nat) (a:AskH),al[k]?=some a->¬fp a.ab/\¬fp a.eb/\∀c,trF a.tb a.fl c->¬fp c)(h3:∀c cs t,(t=148\/t=147)->h[c]?=some (.cells cs t true)->¬fp c):AsksAt h' al sl:=
 ⟨H.len,fun k a s ha hs=>(H.at_ k a s ha hs).keep ho (h1 k a ha).1 (h1 k a ha).2.1 (h1 k a ha).2.2 h3,H.sep⟩
theorem AsksAt.same{h h':Heap}{al:List AskH}{sl:List AskS}(H:AsksAt h al sl)(ho:Only (fun _=>False) h h'):AsksAt h' al sl:=H.keep ho (fun _ _ _=>⟨id,id,fun _ _=>id⟩) fun _ _ _ _ _=>id
theorem AsksAt.get{h:Heap}{al:List AskH}{sl:List AskS}(H:AsksAt h al sl){k:Nat}{a:AskH}(ha:al[k]?=some a):∃s,sl[k]?=some s/\AskAt h a s:=by
 have h1:=(List.getElem?_eq_some_iff.1 ha).1
 rw[H.len] at h1
 exact⟨_,List.getElem?_eq_getElem h1,H.at_ k a _ ha (List.getElem?_eq_getElem h1)⟩
theorem AsksAt.apart{h:Heap}{al:List AskH}{sl:List AskS}(H:AsksAt h al sl){k:Nat}{a:AskH}(ha:al[k]?=some a){c:Nat}{cs:List AV}{t:TypeId}{g:Bool}(hc:h[c]?=some (.cells cs t g))(ht:g=true\/(t≠144/\t≠147/\t≠181/\t≠166)):a.ab≠c/\¬trF a.tb a.fl c:=by
 obtain⟨s,_,H1⟩:=H.get ha
 refine⟨fun e=>?_,H1.trk.not hc (ht.imp id fun h=>⟨h.1,h.2.1,h.2.2.1⟩)⟩
 have:=H1.hdr
 rw[e,hc] at this
 simp only[Option.some.injEq,AObj.cells.injEq] at this
 obtain⟨_,e1,e2⟩:=this
 rcases ht with ht|ht
 . rw[ht] at e2;simp at e2
 . exact ht.2.2.2 e1
theorem AsksAt.put{h h':Heap}{al:List AskH}{sl:List AskS}(H:AsksAt h al sl){k:Nat}{a a':AskH}{s':AskS}(ha:al[k]?=some a){fp:Nat->Prop}(ho:Only fp h h')(hfp:∀c,fp c->c=a.ab\/c=a.eb\/trF a.tb a.fl c)
  (hab:a'.ab=a.ab) (heb:a'.eb=a.eb) (htb:a'.tb=a.tb) (hfl:∀c,flF a'.fl c->flF a.fl c\/h.length<=c) (hn:AskAt h' a' s'):AsksAt h' (al.set k a') (sl.set k s'):=by
 have hkl:=(List.getElem?_eq_some_iff.1 ha).1
 obtain⟨s,hs,H1⟩:=H.get ha
 have hnew:∀c,trF a'.tb a'.fl c->trF a.tb a.fl c\/h.length<=c:=fun c hc=>by
  rcases hc with rfl|hc
  . exact .inl (.inl htb)
  . exact (hfl c hc).imp .inr id
 have ltF:∀(j:Nat) (b:AskH),al[j]?=some b->∀c,trF b.tb b.fl c->c<h.length:=fun j b hb c hc=>by
  obtain⟨t,_,Hb⟩:=H.get hb
  obtain⟨cs,ty,h1,_⟩:=Hb.trk.typ hc
  exact lt_of_at h1
 refine⟨by simp[H.len],fun j b t hb ht=>?_,fun i j b c hij hb hc=>?_⟩
 . by_cases hjk:k=j
   . subst hjk
     rw[List.getElem?_set_self hkl] at hb
     rw[List.getElem?_set_self (by rw[<-H.len];exact hkl)] at ht
     cases hb;cases ht
     exact hn
   . rw[List.getElem?_set_ne hjk] at hb ht
     have Hb:=H.at_ j b t hb ht
     obtain⟨q1,q3,q2⟩:=H.sep k j a b hjk ha hb
     refine Hb.keep ho (fun hf=>?_) (fun hf=>?_) (fun c hc hf=>?_) (fun c cs ty hty hcc hf=>?_)
     . rcases hfp _ hf with e|e|e
       . exact q1 e.symm
       . have:=H1.ends
         rw[<-e,Hb.hdr] at this
         simp at this
       . exact H1.trk.not Hb.hdr (.inr ⟨by decide,by decide,by decide⟩) e
     . rcases hfp _ hf with e|e|e
       . have:=Hb.ends
         rw[e,H1.hdr] at this
         simp at this
       . exact q3 e.symm
       . exact H1.trk.not Hb.ends (.inl rfl) e
     . rcases hfp _ hf with e|e|e
       . subst e
         exact Hb.trk.not H1.hdr (.inr ⟨by decide,by decide,by decide⟩) hc
       . subst e
         exact Hb.trk.not H1.ends (.inl rfl) hc
       . exact q2 c e hc
     . rcases hfp _ hf with e|e|e
       . subst e
         have:=H1.hdr
         rw[hcc] at this
         simp at this
       . subst e
         have:=H1.ends
         rw[hcc] at this
         simp only[Option.some.injEq,AObj.cells.injEq] at this
         rcases hty with e|e<;>rw[e] at this<;>exact absurd this.2.1 (by decide)
       . exact H1.trk.not hcc (.inl rfl) e
 . by_cases hik:k=i
   . subst hik
     rw[List.getElem?_set_self hkl] at hb
     rw[List.getElem?_set_ne hij] at hc
     cases hb
     obtain⟨q1,q3,q2⟩:=H.sep k j a c hij ha hc
     refine⟨by rw[hab];exact q1,by rw[heb];exact q3,fun x hx hx2=>?_⟩
     rcases hnew x hx with e|e
     . exact q2 x e hx2
     . have:=ltF j c hc x hx2;omega
   . rw[List.getElem?_set_ne hik] at hb
     by_cases hjk:k=j
     . subst hjk
       rw[List.getElem?_set_self hkl] at hc
       cases hc
       obtain⟨q1,q3,q2⟩:=H.sep i k b a hij hb ha
       refine⟨by rw[hab];exact q1,by rw[heb];exact q3,fun x hx hx2=>?_⟩
       rcases hnew x hx2 with e|e
       . exact q2 x hx e
       . have:=ltF i b hb x hx;omega
     . rw[List.getElem?_set_ne hjk] at hc
       exact H.sep i j b c hij hb hc
section
theorem aops_eq{P:Program}{F:CallF}{ops:List SOp}{s x:St}(h:holds (aops P F ops s) fun s'=>s'=x):aops P F ops s=some x:=by
 cases hx:aops P F ops s with
 |none=>rw[hx] at h;exact h.elim
 |some y=>rw[hx] at h;simp only[holds] at h;rw[h]
abbrev env126(l:Nat)(lv:AV)(n i:Nat):Env:=[(0,.fn (.yield l) []),(8,lv),(9,.int .i64 n),(10,.int .i64 i)]
section
variable {F:CallF} {h:Heap} {l n i:Nat} {lv:AV} {asg bdy:SC} {ρ₁:Env} {p:Nat}
theorem rounds_end(hi:¬i<n){m:Nat}:∃ρ,rounds Try.prog F it126 asg bdy ρ₁ p l (m+1) ⟨env126 l lv n i,h⟩=some ⟨ρ,h⟩:=by
 have r1:aops Try.prog F it126.r1 ⟨env126 l lv n i,h⟩=some ⟨(11,.bool false)::env126 l lv n i,h⟩:=aops_eq (by simp[it126,c126_r1,hi])
 refine⟨(11,.bool false)::env126 l lv n i,?_⟩
 unfold rounds
 rw[r1]
 rfl
variable {al:List AskH} {sl:List AskS} {a:AskH} {s:AskS}
theorem round_pre(hv:Sl1 h lv (al.map askP))(hA:AsksAt h al sl)(ha:al[i]?=some a)(hs:sl[i]?=some s)(hn:al.length=n)(hi:i<n):
  aops Try.prog F it126.r1 ⟨env126 l lv n i,h⟩=some ⟨(11,.bool true)::env126 l lv n i,h⟩ /\
  ∃q,aops Try.prog F it126.r2 ⟨(11,.bool true)::env126 l lv n i,h⟩=some ⟨(4,askP a)::(13,askP a)::(12,q)::(11,.bool true)::env126 l lv n i,h⟩ /\
   aload Try.prog (look h) 4 (.ptr (some ⟨a.ab,17,18⟩))=some (.bool s.over):=by
 have hA1:=hA.at_ i a s ha hs
 have hlt:i<(al.map askP).length:=by simp;omega
 have a1:=hv.at (t:=161) (e:=164) (by simp) (by simp) hlt
 have a2:=hv.load (e:=164) (by simp) hlt
 have hg:(al.map askP)[i]=askP a:=by
  have:(al.map askP)[i]?=some (askP a):=by simp[ha]
  rw[List.getElem?_eq_getElem hlt] at this
  simpa using this
 rw[hg] at a2
 have q3:=cell_load hA1.hdr (askC_len hA1.ok) (t:=4) (by simp) (off:=17) (v:=.bool s.over) (by
  rw[List.getElem?_append_right (by rw[hA1.ok.len];omega),hA1.ok.len];rfl)
 refine⟨aops_eq (by simp[it126,c126_r1,hi]),elp lv i,aops_eq ?_,q3⟩
 simp[it126,c126_r2,a1,a2]
theorem rounds_skip(hv:Sl1 h lv (al.map askP))(hA:AsksAt h al sl)(ha:al[i]?=some a)(hs:sl[i]?=some s)(hn:al.length=n)(hi:i<n)(hn2:n<=1000000)(ho:s.over=true){m:Nat}:
  rounds Try.prog F it126 asg bdy ρ₁ p l (m+1) ⟨env126 l lv n i,h⟩=rounds Try.prog F it126 asg bdy ρ₁ p l m ⟨env126 l lv n (i+1),h⟩:=by
 obtain⟨r1,q,r2,q3⟩:=round_pre (F:=F) (l:=l) hv hA ha hs hn hi
 rw[ho] at q3
 have w1:IntKind.wrap .i64 ((i:Int)+1)=i+1:=wrap_i64 (by omega) (by omega)
 obtain⟨ρ3,r3,g3⟩:∃ρ3,aops Try.prog F it126.ra ⟨(4,askP a)::(13,askP a)::(12,q)::(11,.bool true)::env126 l lv n i,h⟩=some ⟨ρ3,h⟩ /\
   ρ3=(21,.tup [])::(20,.tup [])::(19,.bool false)::(18,.bool false)::(17,.bool true)::(16,.ptr (some ⟨a.ab,17,18⟩))::(15,askP a)::(14,askP a)::(4,askP a)::(13,askP a)::(12,q)::(11,.bool true)::env126 l lv n i:=
  ⟨_,aops_eq (by simp[it126,c126_r3,fieldA,q3]),rfl⟩
 subst g3
 have rb:aops Try.prog F it126.rb ⟨(22,.tup [])::(21,.tup [])::(20,.tup [])::(19,.bool false)::(18,.bool false)::(17,.bool true)::(16,.ptr (some ⟨a.ab,17,18⟩))::(15,askP a)::(14,askP a)::(4,askP a)::(13,askP a)::(12,q)::(11,.bool true)::env126 l lv n i,h⟩ =
   some ⟨(24,.bool false)::(23,.tup [])::(22,.tup [])::(21,.tup [])::(20,.tup [])::(19,.bool false)::(18,.bool false)::(17,.bool true)::(16,.ptr (some ⟨a.ab,17,18⟩))::(15,askP a)::(14,askP a)::(4,askP a)::(13,askP a)::(12,q)::(11,.bool true)::env126 l lv n i,h⟩:=
  aops_eq (by simp[it126,c126_r3,pickV])
 have r4:∀ρ:Env,ρ.get 10=some (.int .i64 i)->aops Try.prog F it126.r4 ⟨ρ,h⟩=some ⟨(10,.int .i64 ((i:Int)+1))::(25,.int .i64 ((i:Int)+1))::ρ,h⟩:=fun ρ hρ=>aops_eq (by simp[it126,c126_r4,evalA,hρ,w1])
 conv=>lhs;unfold rounds
 simp only[r1,r2,r3]
 simp[Env.get,rb,r4,cut,pick]
 simp[env126]
theorem rounds_yield(hv:Sl1 h lv (al.map askP))(hA:AsksAt h al sl)(ha:al[i]?=some a)(hs:sl[i]?=some s)(hn:al.length=n)(hi:i<n)(hn2:n<=1000000)(ho:s.over=false){t1 t2:St}
  (b1:Aw Try.prog F asg ⟨(p,askP a)::ρ₁,h⟩=some (.normal,t1)) (b2:Aw Try.prog F bdy t1=some (.normal,t2)) {m:Nat}:
  rounds Try.prog F it126 asg bdy ρ₁ p l (m+1) ⟨env126 l lv n i,h⟩=rounds Try.prog F it126 asg bdy ρ₁ p l m ⟨env126 l lv n (i+1),t2.h⟩:=by
 obtain⟨r1,q,r2,q3⟩:=round_pre (F:=F) (l:=l) hv hA ha hs hn hi
 rw[ho] at q3
 have w1:IntKind.wrap .i64 ((i:Int)+1)=i+1:=wrap_i64 (by omega) (by omega)
 obtain⟨ρ3,r3,g3⟩:∃ρ3,aops Try.prog F it126.ra ⟨(4,askP a)::(13,askP a)::(12,q)::(11,.bool true)::env126 l lv n i,h⟩=some ⟨ρ3,h⟩ /\
   ρ3=(21,askP a)::(20,.fn (.yield l) [])::(19,.bool true)::(18,.bool true)::(17,.bool false)::(16,.ptr (some ⟨a.ab,17,18⟩))::(15,askP a)::(14,askP a)::(4,askP a)::(13,askP a)::(12,q)::(11,.bool true)::env126 l lv n i:=
  ⟨_,aops_eq (by simp[it126,c126_r3,fieldA,q3]),rfl⟩
 subst g3
 have rb:aops Try.prog F it126.rb ⟨(22,.bool true)::(21,askP a)::(20,.fn (.yield l) [])::(19,.bool true)::(18,.bool true)::(17,.bool false)::(16,.ptr (some ⟨a.ab,17,18⟩))::(15,askP a)::(14,askP a)::(4,askP a)::(13,askP a)::(12,q)::(11,.bool true)::env126 l lv n i,t2.h⟩ =
   some ⟨(24,.bool false)::(23,.bool false)::(22,.bool true)::(21,askP a)::(20,.fn (.yield l) [])::(19,.bool true)::(18,.bool true)::(17,.bool false)::(16,.ptr (some ⟨a.ab,17,18⟩))::(15,askP a)::(14,askP a)::(4,askP a)::(13,askP a)::(12,q)::(11,.bool true)::env126 l lv n i,t2.h⟩:=
  aops_eq (by simp[it126,c126_r3,pickV])
 have r4:∀ρ:Env,ρ.get 10=some (.int .i64 i)->aops Try.prog F it126.r4 ⟨ρ,t2.h⟩=some ⟨(10,.int .i64 ((i:Int)+1))::(25,.int .i64 ((i:Int)+1))::ρ,t2.h⟩:=fun ρ hρ=>aops_eq (by simp[it126,c126_r4,evalA,hρ,w1])
 conv=>lhs;unfold rounds
 simp only[r1,r2,r3]
 simp[Env.get,b1,b2,rb,r4,cut,pick]
 simp[env126]
end
end
section
structure Note where
 sid:Int
 at_:Int
 action:Int
def noteC(n:Note):List AV:=[.int .i64 n.sid,.int .i64 0,.int .i64 n.at_,.int .i64 n.action]
def notesC(l:List Note):List AV:=l.flatMap noteC
theorem notesC_len:∀{l:List Note},(notesC l).length=l.length*4
 |[]=>rfl
 |t::l=>by
  have:=notesC_len (l:=l)
  simp only[notesC,List.flatMap_cons,List.length_append,List.length_cons] at this ⊢
  rw[this];simp[noteC];omega
theorem notesC_snoc{l:List Note}{t:Note}:notesC (l++[t])=notesC l++noteC t:=by simp[notesC]
def notesSl(B:Nat)(l:List Note):AV:=bufSl B l.length (notesC l)
theorem notesSl_one{B:Nat}{l:List Note}:(notesSl B l).one=true:=bufSl_one
theorem notesSl_nt{B:Nat}{l:List Note}:(notesSl B l).notTup=true:=bufSl_notTup
abbrev xPtr(xb:Nat):AV:=.ptr (some ⟨xb,0,4⟩)
abbrev xC(sp cv lv:AV)(n:Nat):List AV:=[sp,cv,lv,.int .i64 n]
structure TdB where
 xb:Nat
 lb:Nat
 b2:Nat
 b3:Nat
 b5:Nat
 b6:Nat
structure ToldAt (h:Heap) (B:TdB) (nk:Nat) (dv sp cv:AV) (n:Nat) (al:List AskH) (sl:List AskS) (ns:List Note) (ov:Bool):Prop where
 k2:h[B.b2]?=some (.cells [xPtr B.xb] 91 false)
 k3:h[B.b3]?=some (.cells [dv] 170 false)
 k5:h[B.b5]?=some (.cells [notesSl nk ns] 94 false)
 k6:h[B.b6]?=some (.cells [.bool ov] 4 false)
 kn:ns.length≠0->h[nk]?=some (.cells (notesC ns) 99 true)
 kx:h[B.xb]?=some (.cells (xC sp cv (bufSl B.lb al.length (al.map askP)) n) 163 false)
 kl:al.length≠0->h[B.lb]?=some (.cells (al.map askP) 164 true)
 ak:AsksAt h al sl
section
variable {h h':Heap} {B:TdB} {nk n k:Nat} {dv sp cv:AV} {al:List AskH} {sl:List AskS} {ns:List Note} {ov:Bool} {a:AskH} {s:AskS}
theorem set_id{α:Type}{l:List α}{k:Nat}{a:α}(ha:l[k]?=some a):l.set k a=l:=by
 apply List.ext_getElem?
 intro i
 rw[List.getElem?_set]
 split
 . rename_i e
   subst e
   rw[ha]
   simp[(List.getElem?_eq_some_iff.1 ha).1]
 . rfl
theorem map_set(ha:al[k]?=some a){a':AskH}(hab:a'.ab=a.ab):(al.set k a').map askP=al.map askP:=by
 apply List.ext_getElem?
 intro i
 simp only[List.getElem?_map,List.getElem?_set]
 split
 . rename_i e
   subst e
   split
   . simp[ha,hab]
   . rename_i hn
     simp[List.getElem?_eq_none (Nat.le_of_not_lt hn)]
 . rfl
theorem ToldAt.rule(H:ToldAt h B nk dv sp cv n al sl ns ov)(ha:al[k]?=some a){fp:Nat->Prop}(ho:Only fp h h')(hfp:∀c,fp c->c=a.ab\/trF a.tb a.fl c){a':AskH}{s':AskS}
  (hab:a'.ab=a.ab) (heb:a'.eb=a.eb) (htb:a'.tb=a.tb) (hfl:∀c,flF a'.fl c->flF a.fl c\/h.length<=c) (hn:AskAt h' a' s'):ToldAt h' B nk dv sp cv n (al.set k a') (sl.set k s') ns ov:=by
 have out:∀{c:Nat} {cs:List AV} {t:TypeId} {g:Bool},h[c]?=some (.cells cs t g)->(g=true\/(t≠144/\t≠147/\t≠181/\t≠166))->¬fp c:=fun hc ht hf=>by
  obtain⟨q1,q2⟩:=H.ak.apart ha hc ht
  rcases hfp _ hf with e|e
  . exact q1 e.symm
  . exact q2 e
 refine⟨ho.at H.k2 (out H.k2 (.inr (by decide))),ho.at H.k3 (out H.k3 (.inr (by decide))),ho.at H.k5 (out H.k5 (.inr (by decide))),ho.at H.k6 (out H.k6 (.inr (by decide))),fun hne=>ho.at (H.kn hne) (out (H.kn hne) (.inl rfl)),?_,fun hne=>?_,H.ak.put ha ho (fun c hc=>(hfp c hc).imp id .inr) hab heb htb hfl hn⟩
 . rw[map_set ha hab,List.length_set]
   exact ho.at H.kx (out H.kx (.inr (by decide)))
 . rw[map_set ha hab]
   rw[List.length_set] at hne
   exact ho.at (H.kl hne) (out (H.kl hne) (.inl rfl))
theorem ToldAt.over(H:ToldAt h B nk dv sp cv n al sl ns ov)(ha:al[k]?=some a)(hs:sl[k]?=some s)(e:h.set a.ab (.cells (s.rc++[tPtr a.tb,endSl a.eb s.ends.length,.bool true]) 166 false)=h'):
  ToldAt h' B nk dv sp cv n al (sl.set k { s with over:=true }) ns ov/\Only (fun c=>c=a.ab) h h':=by
 have H1:=H.ak.at_ k a s ha hs
 have hlt:=lt_of_at H1.hdr
 have ho:Only (fun c=>c=a.ab) h h':=by rw[<-e];exact .set rfl
 refine⟨?_,ho⟩
 have:=H.rule ha ho (fun c hc=>.inl hc) (a':=a) (s':={ s with over:=true }) rfl rfl rfl (fun c hc=>.inl hc) ⟨by rw[<-e];exact at_same hlt,?_,?_,H1.ok.casesOn fun a b c d e=>⟨a,b,c,d,e⟩⟩
 . rwa[set_id ha] at this
 . refine H1.trk.keep ho (fun e=>?_) (fun hne e=>?_) (fun hne e=>?_) (fun c hc e=>?_)
   . exact H1.trk.not H1.hdr (.inr (by decide)) (by rw[<-e];exact .inl rfl)
   . have:=H1.trk.pv hne;rw[e,H1.hdr] at this;simp at this
   . have:=H1.trk.nv hne;rw[e,H1.hdr] at this;simp at this
   . exact H1.trk.not H1.hdr (.inr (by decide)) (by rw[<-e];exact .inr hc)
 . refine ho.at H1.ends fun e=>?_
   have:=H1.ends
   rw[e,H1.hdr] at this;simp at this
theorem ToldAt.note(H:ToldAt h B nk dv sp cv n al sl ns ov)(hl:ns.length<=100000){t:Note}:∃δ h1 h2 nk',append2 Try.prog (look (h++[AObj.cells (noteC t) 99 true])) (h.length+1) 94 94 [notesSl nk ns,.sl (some ⟨h.length,0,4⟩) 1 1]=some (notesSl nk' (ns++[t]),δ) /\
  (h++[AObj.cells (noteC t) 99 true]).apply δ=h1/\h1[B.b5]?=some (.cells [notesSl nk ns] 94 false)/\h1.set B.b5 (.cells [notesSl nk' (ns++[t])] 94 false)=h2 /\
  ToldAt h2 B nk' dv sp cv n al sl (ns++[t]) ov/\Only (fun c=>c=B.b5\/(c=nk/\ns.length≠0)) h h2/\((nk'=nk/\ns.length≠0)\/h.length<=nk'):=by
 obtain⟨δ,h1,a1,a2,a3,a4⟩:=append_buf (t:=94) (e:=99) (k:=4) (by simp) (by simp) (by decide) (by simp) (by simp) (h:=h) (b:=nk) (n:=ns.length) (xs:=notesC ns) (ys:=noteC t) (by simp[noteC]) notesC_len H.kn (by omega)
 obtain⟨nk',hnk⟩:∃nk',nk'=if ns.length=0 then h.length+1 else nk:=⟨_,rfl⟩
 rw[<-hnk,<-notesC_snoc] at a1 a3
 have out:∀{c:Nat} {cs:List AV} {ty:TypeId} {g:Bool},h[c]?=some (.cells cs ty g)->ty≠99->¬(c=nk/\ns.length≠0):=fun hc ht hf=>by
  have:=H.kn hf.2
  rw[<-hf.1,hc] at this
  simp only[Option.some.injEq,AObj.cells.injEq] at this
  exact ht this.2.1
 have k5:=a4.at H.k5 (out H.k5 (by decide))
 obtain⟨h2,hh2⟩:∃h2,h1.set B.b5 (.cells [notesSl nk' (ns++[t])] 94 false)=h2:=⟨_,rfl⟩
 have o2:Only (fun c=>c=B.b5) h1 h2:=by rw[<-hh2];exact .set rfl
 have hlt:=lt_of_at k5
 have ho:Only (fun c=>c=B.b5\/(c=nk/\ns.length≠0)) h h2:=(a4.mono fun c _ e=>.inr e).trans (o2.mono fun c _ e=>.inl e)
 have out2:∀{c:Nat} {cs:List AV} {ty:TypeId} {g:Bool},h[c]?=some (.cells cs ty g)->ty≠99->ty≠94->¬(c=B.b5\/(c=nk/\ns.length≠0)):=fun hc h1 h2 hf=>by
  rcases hf with e|e
  . have:=H.k5
    rw[<-e,hc] at this
    simp only[Option.some.injEq,AObj.cells.injEq] at this
    exact h2 this.2.1
  . exact out hc h1 e
 refine⟨δ,h1,h2,nk',?_,a2,k5,hh2,⟨ho.at H.k2 (out2 H.k2 (by decide) (by decide)),ho.at H.k3 (out2 H.k3 (by decide) (by decide)),by rw[<-hh2];exact at_same hlt,ho.at H.k6 (out2 H.k6 (by decide) (by decide)),fun _=>?_,ho.at H.kx (out2 H.kx (by decide) (by decide)),fun hne=>ho.at (H.kl hne) (out2 (H.kl hne) (by decide) (by decide)),?_⟩,ho,?_⟩
 . have e:(ns++[t]).length=ns.length+1:=by simp
   rw[notesSl,notesSl,e]
   exact a1
 . refine o2.at a3 fun e=>?_
   rw[e,k5] at a3
   simp at a3
 . refine H.ak.keep ho (fun j b hb=>⟨fun hf=>?_,fun hf=>?_,fun c hc hf=>?_⟩) (fun c cs ty hty hc hf=>?_)
   . obtain⟨s,_,Hb⟩:=H.ak.get hb
     exact out2 Hb.hdr (by decide) (by decide) hf
   . obtain⟨s,_,Hb⟩:=H.ak.get hb
     exact out2 Hb.ends (by decide) (by decide) hf
   . obtain⟨s,_,Hb⟩:=H.ak.get hb
     obtain⟨cs,ty,q1,q2⟩:=Hb.trk.typ hc
     refine out2 q1 ?_ ?_ hf<;>rcases q2 with e|e|e<;>rw[e]<;>decide
   . refine out2 hc ?_ ?_ hf<;>rcases hty with e|e<;>rw[e]<;>decide
 . rw[hnk]
   split
   . exact .inr (by omega)
   . rename_i hne;exact .inl ⟨rfl,hne⟩
theorem ToldAt.ovr(H:ToldAt h B nk dv sp cv n al sl ns ov){ov':Bool}(e:h.set B.b6 (.cells [.bool ov'] 4 false)=h'):ToldAt h' B nk dv sp cv n al sl ns ov'/\Only (fun c=>c=B.b6) h h':=by
 have ho:Only (fun c=>c=B.b6) h h':=by rw[<-e];exact .set rfl
 have hlt:=lt_of_at H.k6
 have out:∀{c:Nat} {cs:List AV} {ty:TypeId} {g:Bool},h[c]?=some (.cells cs ty g)->(ty≠4\/g=true)->¬(c=B.b6):=fun hc h1 e=>by
  have:=H.k6
  rw[<-e,hc] at this
  simp only[Option.some.injEq,AObj.cells.injEq] at this
  rcases h1 with h1|h1
  . exact h1 this.2.1
  . rw[h1] at this;simp at this
 refine⟨⟨ho.at H.k2 (out H.k2 (.inl (by decide))),ho.at H.k3 (out H.k3 (.inl (by decide))),ho.at H.k5 (out H.k5 (.inl (by decide))),by rw[<-e];exact at_same hlt,fun hne=>ho.at (H.kn hne) (out (H.kn hne) (.inl (by decide))),ho.at H.kx (out H.kx (.inl (by decide))),fun hne=>ho.at (H.kl hne) (out (H.kl hne) (.inl (by decide))),?_⟩,ho⟩
 refine H.ak.keep ho (fun j b hb=>⟨fun hf=>?_,fun hf=>?_,fun c hc hf=>?_⟩) (fun c cs ty hty hc hf=>?_)
 . obtain⟨s,_,Hb⟩:=H.ak.get hb
   exact out Hb.hdr (.inl (by decide)) hf
 . obtain⟨s,_,Hb⟩:=H.ak.get hb
   exact out Hb.ends (.inr rfl) hf
 . obtain⟨s,_,Hb⟩:=H.ak.get hb
   obtain⟨cs,ty,q1,q2⟩:=Hb.trk.typ hc
   refine out q1 (.inl ?_) hf
   rcases q2 with e|e|e<;>rw[e]<;>decide
 . exact out hc (.inr rfl) hf
end
end
section
def DoneOK(g:FuncId)(stp:AskS->TS)(pre:AskS->Prop):Prop:=∀(h:Heap) (a:AskH) (s:AskS),AskAt h a s->pre s ->
 ∃fl' h',D cfg g [askP a] h=some (.bool (stp s).holds,h')/\AskAt h' { a with fl:=fl' } { s with T:=stp s }/\Only (trF a.tb a.fl) h h'/\(∀c,flF fl' c->flF a.fl c\/h.length<=c)
def toldS(stp:AskS->TS)(s:AskS):AskS:=if (stp s).holds || (stp s).over then { s with T:=stp s,over:=true } else { s with T:=stp s }
def toldN(stp:AskS->TS)(n:Nat)(s:AskS):List Note:=if (stp s).holds then [⟨s.sid,n,s.action⟩] else []
abbrev p1(b:Nat):AV:=.ptr (some ⟨b,0,1⟩)
abbrev env113(B:TdB)(a:AskH):Env:=[(2,p1 B.b2),(3,p1 B.b3),(5,p1 B.b5),(6,p1 B.b6),(7,askP a)]
section
variable {h h':Heap} {B:TdB} {nk n k:Nat} {dv sp cv:AV} {al:List AskH} {sl:List AskS} {ns:List Note} {ov:Bool} {a:AskH} {s:AskS}
theorem askC_17{s:AskS}(hs:s.ok){a:AskH}:(askC s a).set 17 (.bool true)=s.rc++[tPtr a.tb,endSl a.eb s.ends.length,.bool true]:=by
 show (s.rc++_).set 17 _=_
 rw[List.set_append_right _ _ (by rw[hs.len];omega),hs.len];rfl
theorem askC_15{s:AskS}(hs:s.ok){a:AskH}:(askC s a)[15]?=some (tPtr a.tb):=by
 rw[List.getElem?_append_right (by rw[hs.len];omega),hs.len];rfl
theorem askC_16{s:AskS}(hs:s.ok){a:AskH}:(askC s a)[16]?=some (endSl a.eb s.ends.length):=by
 rw[List.getElem?_append_right (by rw[hs.len];omega),hs.len];rfl
theorem askC_0{s:AskS}(hs:s.ok){a:AskH}:(askC s a)[0]?=some (.int .i64 s.action):=by
 rw[List.getElem?_append_left (by rw[hs.len];omega)];exact hs.act
theorem askC_13{s:AskS}(hs:s.ok){a:AskH}:(askC s a)[13]?=some (.int .i64 s.sid):=by
 rw[List.getElem?_append_left (by rw[hs.len];omega)];exact hs.sid
theorem body_run{g:FuncId}{stp:AskS->TS}{pre:AskS->Prop}(hd:DoneOK g stp pre)(H:ToldAt h B nk (.fn (.func g) []) sp cv n al sl ns ov)(ha:al[k]?=some a)(hs:sl[k]?=some s)(hp:pre s)(hl:ns.length<=10000):
  ∃a' nk' h',Wt Try.prog (D cfg) c113_cb ⟨env113 B a,h⟩ (fun e s'=>e=.normal/\s'.h=h')/\ToldAt h' B nk' (.fn (.func g) []) sp cv n (al.set k a') (sl.set k (toldS stp s)) (ns++toldN stp n s) (ov || (stp s).over) /\
   Only (fun c=>c=a.ab\/trF a.tb a.fl c\/c=B.b5\/c=B.b6\/(c=nk/\ns.length≠0)\/h.length<=c) h h'/\a'.ab=a.ab/\a'.eb=a.eb/\a'.tb=a.tb/\(∀c,flF a'.fl c->flF a.fl c\/h.length<=c)/\((ns++toldN stp n s).length≠0->(nk'=nk/\ns.length≠0)\/h.length<=nk'):=by
 obtain⟨fl',h1,e1,A1,o1,f1⟩:=hd h a s (H.ak.at_ k a s ha hs) hp
 have hkl:=(List.getElem?_eq_some_iff.1 ha).1
 have hks:=(List.getElem?_eq_some_iff.1 hs).1
 obtain⟨a1,ha1⟩:∃a1,a1={ a with fl:=fl' }:=⟨_,rfl⟩
 obtain⟨s1,hs1⟩:∃s1,s1={ s with T:=stp s }:=⟨_,rfl⟩
 rw[<-ha1,<-hs1] at A1
 have hab:a1.ab=a.ab:=by rw[ha1]
 have htb:a1.tb=a.tb:=by rw[ha1]
 have hfl:a1.fl=fl':=by rw[ha1]
 have hT:s1.T=stp s:=by rw[hs1]
 have H1:=H.rule ha o1 (fun c hc=>.inr hc) (a':=a1) (s':=s1) hab (by rw[ha1]) htb (by rw[hfl];exact f1) A1
 have hak:(al.set k a1)[k]?=some a1:=List.getElem?_set_self hkl
 have hsk:(sl.set k s1)[k]?=some s1:=List.getElem?_set_self hks
 have L3:=cell_load H.k3 (n:=1) rfl (t:=170) (by simp) (off:=0) rfl
 have ok1:=A1.ok
 have OV:Only (fun c=>c=a.ab\/trF a.tb a.fl c\/c=B.b5\/c=B.b6\/(c=nk/\ns.length≠0)\/h.length<=c) h h1:=o1.mono fun c _ e=>.inr (.inl e)
 have hfin:∀c,flF a1.fl c->flF a.fl c\/h.length<=c:=by rw[hfl];exact f1
 have hl1:=o1.1
 have rest:∀(h3:Heap) (nk3:Nat) (s3:AskS) (ns3:List Note),s3.T=stp s->(s3.over=true\/s3=s1)->ToldAt h3 B nk3 (.fn (.func g) []) sp cv n (al.set k a1) (sl.set k s3) ns3 ov ->
   ∃h4,Wt Try.prog (D cfg) (.seq (.reg c113_r8 none (some [6,7,39])) (.cond (.tmp 39) (.reg c113_r9 none (some [])) .skip (some []))) ⟨[(6,p1 B.b6),(7,askP a)],h3⟩ (inBlock 1 fun e s'=>e=.normal/\s'.h=h4) /\
    ToldAt h4 B nk3 (.fn (.func g) []) sp cv n (al.set k a1) (sl.set k (if (stp s).over then { s3 with over:=true } else s3)) ns3 (ov || (stp s).over)/\Only (fun c=>c=a.ab\/c=B.b6) h3 h4:=by
  intro h3 nk3 s3 ns3 hT3 _ H3
  have hsk3:(sl.set k s3)[k]?=some s3:=List.getElem?_set_self hks
  have A3:=H3.ak.at_ k a1 s3 hak hsk3
  have q15:=cell_load A3.hdr (askC_len A3.ok) (t:=84) (by simp) (off:=15) (askC_15 A3.ok)
  have e75:=over_run A3.trk
  rw[hab] at q15
  rw[hT3] at e75
  by_cases ho:(stp s).over=true
  . rw[ho] at e75
    have q17:=cell_store A3.hdr (askC_len A3.ok) (t:=4) (by simp) (off:=17) (v:=.bool true) rfl (by omega)
    rw[askC_17 A3.ok,hab] at q17
    obtain⟨h4,hh4⟩:∃h4,h3.set a1.ab (.cells (s3.rc++[tPtr a1.tb,endSl a1.eb s3.ends.length,.bool true]) 166 false)=h4:=⟨_,rfl⟩
    obtain⟨H4,o4⟩:=H3.over hak hsk3 hh4
    obtain⟨h5,hh5⟩:∃h5,h4.set B.b6 (.cells [.bool true] 4 false)=h5:=⟨_,rfl⟩
    obtain⟨H5,o5⟩:=H4.ovr hh5
    rw[hab] at hh4 o4
    have q6:=cell_store H4.k6 (n:=1) rfl (t:=4) (by simp) (off:=0) (v:=.bool true) rfl (by omega)
    refine⟨h5,?_,?_,(o4.mono fun c _ e=>.inl e).trans (o5.mono fun c _ e=>.inr e)⟩
    . simp[c113_r8,c113_r9,fieldA,q15,e75,q17,hh4,q6,hh5]
    . rw[if_pos ho,ho,Bool.or_true]
      rw[List.set_set] at H5
      exact H5
  . have ho':(stp s).over=false:=by simpa using ho
    rw[ho'] at e75
    refine⟨h3,?_,?_,.refl⟩
    . simp[c113_r8,fieldA,q15,e75]
    . rw[if_neg ho,ho',Bool.or_false]
      exact H3
 by_cases hr:(stp s).holds=true
 . rw[hr] at e1
   have q17:=cell_store A1.hdr (askC_len ok1) (t:=4) (by simp) (off:=17) (v:=.bool true) rfl (by omega)
   rw[askC_17 ok1,hab] at q17
   obtain⟨h2,hh2⟩:∃h2,h1.set a1.ab (.cells (s1.rc++[tPtr a1.tb,endSl a1.eb s1.ends.length,.bool true]) 166 false)=h2:=⟨_,rfl⟩
   obtain⟨H2,o2⟩:=H1.over hak hsk hh2
   rw[hab] at hh2 o2
   obtain⟨s2,hs2⟩:∃s2:AskS,s2={ s1 with over:=true }:=⟨_,rfl⟩
   rw[<-hs2,List.set_set] at H2
   have hsk2:(sl.set k s2)[k]?=some s2:=List.getElem?_set_self hks
   have A2:=H2.ak.at_ k a1 s2 hak hsk2
   have q0:=cell_load A2.hdr (askC_len A2.ok) (t:=3) (by simp) (off:=0) (askC_0 A2.ok)
   have q13:=cell_load A2.hdr (askC_len A2.ok) (t:=3) (by simp) (off:=13) (askC_13 A2.ok)
   rw[hab] at q0 q13
   have hsid:s2.sid=s.sid:=by rw[hs2,hs1]
   have hact:s2.action=s.action:=by rw[hs2,hs1]
   rw[hact] at q0
   rw[hsid] at q13
   obtain⟨δ,h3,h4,nk',m1,m2,m3,m4,H4,o4,hnk⟩:=H2.note (Nat.le_trans hl (by omega)) (t:=⟨s.sid,n,s.action⟩)
   have m5:=cell_store m3 (n:=1) rfl (t:=94) (by simp) (off:=0) (v:=notesSl nk' (ns++[⟨s.sid,n,s.action⟩])) notesSl_one (by omega)
   have q2:=cell_load H2.k2 (n:=1) rfl (t:=91) (by simp) (off:=0) rfl
   have q5:=cell_load H2.k5 (n:=1) rfl (t:=94) (by simp) (off:=0) rfl
   have qx:=cell_load H2.kx (n:=4) rfl (t:=3) (by simp) (off:=3) rfl
   simp only[noteC] at m1 m2
   obtain⟨h5,hw,H5,o5⟩:=rest h4 nk' s2 _ (by rw[hs2];exact hT) (.inl (by rw[hs2])) H4
   have hlen2:h2.length=h1.length:=by rw[<-hh2];simp
   refine⟨a1,nk',h5,?_,?_,?_,hab,by rw[ha1],htb,hfin,fun _=>hnk.imp id fun e=>by omega⟩
   . simp[-AV.cells,-AV.one,-AV.notTup,c113_cb,c113_r5,c113_r6,c113_r7,L3,astep_callv,callV,e1,fieldA,q17,hh2,q5,q13,q2,qx,q0,abuild,abuildSlice,afill,zeros,splice,cells_agg,cells_int,one_int,one_agg,m1,m2,m5,m4]
     simpa using hw
   . have e:toldS stp s=if (stp s).over then { s2 with over:=true } else s2:=by
      rw[toldS,hr,Bool.true_or,if_pos rfl,hs2,hs1]
      split<;>rfl
     rw[e,toldN,if_pos hr]
     exact H5
   . refine ((OV.trans (o2.mono fun c _ e=>.inl e)).trans (o4.mono fun c _ e=>?_)).trans (o5.mono fun c _ e=>e.elim .inl fun e=>.inr (.inr (.inr (.inl e))))
     rcases e with e|e
     . exact .inr (.inr (.inl e))
     . exact .inr (.inr (.inr (.inr (.inl e))))
 . have hr':(stp s).holds=false:=by simpa using hr
   rw[hr'] at e1
   obtain⟨h5,hw,H5,o5⟩:=rest h1 nk s1 ns hT (.inr rfl) H1
   refine⟨a1,nk,h5,?_,?_,OV.trans (o5.mono fun c _ e=>e.elim .inl fun e=>.inr (.inr (.inr (.inl e)))),hab,by rw[ha1],htb,hfin,fun hne=>.inl ⟨rfl,by rw[toldN,if_neg hr,List.append_nil] at hne;exact hne⟩⟩
   . simp[-AV.cells,-AV.one,-AV.notTup,c113_cb,c113_r5,L3,astep_callv,callV,e1]
     simpa using hw
   . have e:toldS stp s=if (stp s).over then { s1 with over:=true } else s1:=by
      rw[toldS,hr',Bool.false_or,hs1]
     rw[e,toldN,if_neg hr,List.append_nil]
     exact H5
end
end
section
def stepS(stp:AskS->TS)(s:AskS):AskS:=if s.over then s else toldS stp s
def stepN(stp:AskS->TS)(n:Nat)(s:AskS):List Note:=if s.over then [] else toldN stp n s
def stepO(stp:AskS->TS)(s:AskS):Bool:=!s.over&&(stp s).over
def slTo(stp:AskS->TS)(sl:List AskS)(i:Nat):List AskS:=(sl.take i).map (stepS stp)++sl.drop i
def nsTo(stp:AskS->TS)(n:Nat)(sl:List AskS)(i:Nat):List Note:=(sl.take i).flatMap (stepN stp n)
def ovTo(stp:AskS->TS)(sl:List AskS)(i:Nat):Bool:=(sl.take i).any (stepO stp)
theorem slTo_at{stp:AskS->TS}{sl:List AskS}{i:Nat}(hi:i<sl.length):(slTo stp sl i)[i]?=some sl[i]:=by
 rw[slTo,List.getElem?_append_right (by simp;omega)]
 simp[Nat.min_eq_left (Nat.le_of_lt hi),hi]
theorem slTo_succ{stp:AskS->TS}{sl:List AskS}{i:Nat}(hi:i<sl.length):(slTo stp sl i).set i (stepS stp sl[i])=slTo stp sl (i+1):=by
 have hl:((sl.take i).map (stepS stp)).length=i:=by simp;omega
 rw[slTo,slTo,List.set_append_right _ _ (by omega),hl,Nat.sub_self,List.drop_eq_getElem_cons hi,List.set_cons_zero,List.take_succ_eq_append_getElem hi,List.map_append]
 simp
theorem nsTo_succ{stp:AskS->TS}{n:Nat}{sl:List AskS}{i:Nat}(hi:i<sl.length):nsTo stp n sl (i+1)=nsTo stp n sl i++stepN stp n sl[i]:=by
 rw[nsTo,nsTo,List.take_succ_eq_append_getElem hi,List.flatMap_append,List.flatMap_singleton]
theorem ovTo_succ{stp:AskS->TS}{sl:List AskS}{i:Nat}(hi:i<sl.length):ovTo stp sl (i+1)=(ovTo stp sl i || stepO stp sl[i]):=by
 rw[ovTo,ovTo,List.take_succ_eq_append_getElem hi,List.any_append,List.any_cons,List.any_nil,Bool.or_false]
theorem stepN_len{stp:AskS->TS}{n:Nat}{s:AskS}:(stepN stp n s).length<=1:=by
 unfold stepN toldN
 split
 . simp
 . split<;>simp
theorem nsTo_len{stp:AskS->TS}{n:Nat}{sl:List AskS}:∀{i:Nat},i<=sl.length->(nsTo stp n sl i).length<=i
 |0,_=>by simp[nsTo]
 |i+1,h=>by
  rw[nsTo_succ h,List.length_append]
  have:=nsTo_len (stp:=stp) (n:=n) (sl:=sl) (i:=i) (by omega)
  have:=stepN_len (stp:=stp) (n:=n) (s:=sl[i])
  omega
theorem map_setE{al:List AskH}{k:Nat}{a:AskH}(ha:al[k]?=some a){a':AskH}(hab:a'.eb=a.eb):(al.set k a').map (fun a=>a.eb)=al.map (fun a=>a.eb):=by
 apply List.ext_getElem?
 intro i
 simp only[List.getElem?_map,List.getElem?_set]
 split
 . rename_i e
   subst e
   split
   . simp[ha,hab]
   . rename_i hn
     simp[List.getElem?_eq_none (Nat.le_of_not_lt hn)]
 . rfl
def askF(al:List AskH)(c:Nat):Prop:=∃(k:Nat) (a:AskH),al[k]?=some a/\(c=a.ab\/trF a.tb a.fl c)
structure TI (h₀ h:Heap) (B:TdB) (nk:Nat) (dv sp cv:AV) (n:Nat) (al₀ al:List AskH) (sl:List AskS) (stp:AskS->TS) (i:Nat):Prop where
 t:ToldAt h B nk dv sp cv n al (slTo stp sl i) (nsTo stp n sl i) (ovTo stp sl i)
 o:Only (fun c=>askF al₀ c\/h₀.length<=c) h₀ h
 f:∀c,askF al c->askF al₀ c\/h₀.length<=c
 k:(nsTo stp n sl i).length≠0->h₀.length<=nk
 m:al.map askP=al₀.map askP
 e:al.map (fun a=>a.eb)=al₀.map (fun a=>a.eb)
abbrev rho113(B:TdB)(b1:Nat):Env:=[(2,p1 B.b2),(3,p1 B.b3),(5,p1 B.b5),(6,p1 B.b6),(9,.fn (.func 126) [p1 b1])]
section
variable {h₀:Heap} {B:TdB} {n:Nat} {sp cv:AV} {al₀:List AskH} {sl:List AskS} {g:FuncId} {stp:AskS->TS} {pre:AskS->Prop}
theorem told_loop(hd:DoneOK g stp pre)(hpre:∀s∈sl,pre s)(hsl:sl.length<=1000)(hB5:h₀.length<=B.b5)(hB6:h₀.length<=B.b6){b1:Nat}:∀(m i:Nat),m=sl.length-i->i<=sl.length->∀(h:Heap) (al:List AskH) (nk:Nat),TI h₀ h B nk (.fn (.func g) []) sp cv n al₀ al sl stp i ->
  ∃hE al' nk',(∀l,∃ρ,rounds Try.prog (D cfg) it126 c113_ca c113_cb (rho113 B b1) 10 l (m+1) ⟨env126 l (bufSl B.lb al₀.length (al₀.map askP)) sl.length i,h⟩=some ⟨ρ,hE⟩)/\TI h₀ hE B nk' (.fn (.func g) []) sp cv n al₀ al' sl stp sl.length
 |0,i,hm,hi,h,al,nk,I=>by
  have:i=sl.length:=by omega
  subst this
  exact⟨h,al,nk,fun l=>rounds_end (Nat.lt_irrefl _),I⟩
 |m+1,i,hm,hi,h,al,nk,I=>by
  have hil:i<sl.length:=by omega
  have hlen:al.length=sl.length:=by rw[I.t.ak.len];simp[slTo];omega
  have hlen0:al₀.length=sl.length:=by rw[<-hlen];simpa using (congrArg List.length I.m).symm
  have hs:=slTo_at (stp:=stp) hil
  obtain⟨a,ha⟩:∃a,al[i]?=some a:=⟨_,List.getElem?_eq_getElem (by omega)⟩
  obtain⟨s,hse⟩:∃s,s=sl[i]:=⟨_,rfl⟩
  rw[<-hse] at hs
  have hv:Sl1 h (bufSl B.lb al₀.length (al₀.map askP)) (al.map askP):=by
   have:=Sl1.buf (h:=h) (b:=B.lb) (e:=164) (s:=true) (xs:=al.map askP) (fun hne=>I.t.kl (by simpa using hne))
   rw[List.length_map,hlen,<-hlen0,I.m] at this
   rw[I.m];exact this
  by_cases hov:s.over=true
  . have e1:stepS stp sl[i]=s:=by rw[<-hse,stepS,if_pos hov]
    have e2:stepN stp n sl[i]=[]:=by rw[<-hse,stepN,if_pos hov]
    have e3:stepO stp sl[i]=false:=by rw[<-hse,stepO,hov];rfl
    have I':TI h₀ h B nk (.fn (.func g) []) sp cv n al₀ al sl stp (i+1):=by
     have q1:slTo stp sl (i+1)=slTo stp sl i:=by rw[<-slTo_succ hil,e1,set_id hs]
     have q2:nsTo stp n sl (i+1)=nsTo stp n sl i:=by rw[nsTo_succ hil,e2,List.append_nil]
     have q3:ovTo stp sl (i+1)=ovTo stp sl i:=by rw[ovTo_succ hil,e3,Bool.or_false]
     exact⟨by rw[q1,q2,q3];exact I.t,I.o,I.f,by rw[q2];exact I.k,I.m,I.e⟩
    obtain⟨hE,al',nk',hr,IE⟩:=told_loop hd hpre hsl hB5 hB6 m (i+1) (by omega) hil h al nk I'
    refine⟨hE,al',nk',fun l=>?_,IE⟩
    rw[rounds_skip hv I.t.ak ha hs hlen hil (by omega) hov]
    exact hr l
  . have hov':s.over=false:=by simpa using hov
    have hps:pre s:=hpre s (by rw[hse];exact List.getElem_mem _)
    have hnl:=nsTo_len (stp:=stp) (n:=n) (sl:=sl) (i:=i) hi
    obtain⟨a',nk',h',hw,T',o',hab,heb,htb,hfl,hnk⟩:=body_run hd I.t ha hs hps (by omega)
    obtain⟨e,t2,hbd,rfl,ht2⟩:=Aw_W hw
    obtain⟨e,t1,hasg,rfl,ht1⟩:=Aw_W (P:=Try.prog) (F:=D cfg) (k:=c113_ca) (s:=⟨(10,askP a)::rho113 B b1,h⟩) (Q:=fun e s'=>e=.normal/\s'=⟨env113 B a,h⟩) (by
     show Wt _ _ _ _ _
     simp[c113_ca,c113_r4])
    subst ht1
    have e1:stepS stp sl[i]=toldS stp s:=by rw[<-hse,stepS,hov'];rfl
    have e2:stepN stp n sl[i]=toldN stp n s:=by rw[<-hse,stepN,hov'];rfl
    have e3:stepO stp sl[i]=(stp s).over:=by rw[<-hse,stepO,hov'];rfl
    have hF:∀c,askF (al.set i a') c->askF al c\/h.length<=c:=by
     rintro c ⟨k,b,hb,hc⟩
     by_cases hik:i=k
     . subst hik
       rw[List.getElem?_set_self (by omega)] at hb
       cases hb
       rcases hc with rfl|rfl|hc
       . exact .inl ⟨i,a,ha,.inl hab⟩
       . exact .inl ⟨i,a,ha,.inr (.inl htb)⟩
       . exact (hfl c hc).imp (fun e=>⟨i,a,ha,.inr (.inr e)⟩) id
     . rw[List.getElem?_set_ne hik] at hb
       exact .inl ⟨k,b,hb,hc⟩
    have I':TI h₀ h' B nk' (.fn (.func g) []) sp cv n al₀ (al.set i a') sl stp (i+1):=by
     refine⟨by rw[<-slTo_succ hil,nsTo_succ hil,ovTo_succ hil,e1,e2,e3];exact T',?_,fun c hc=>?_,fun hne=>?_,by rw[map_set ha hab];exact I.m,by rw[map_setE ha heb];exact I.e⟩
     . refine I.o.trans (o'.mono fun c hc e=>?_)
       rcases e with e|e|e|e|e|e
       . exact I.f c ⟨i,a,ha,.inl e⟩
       . exact I.f c ⟨i,a,ha,.inr e⟩
       . exact .inr (by omega)
       . exact .inr (by omega)
       . exact .inr (by rw[e.1];exact I.k e.2)
       . omega
     . rcases hF c hc with e|e
       . exact I.f c e
       . exact .inr (Nat.le_trans I.o.1 e)
     . rcases hnk (by rw[nsTo_succ hil,e2] at hne;exact hne) with e|e
       . rw[e.1];exact I.k e.2
       . have:=I.o.1;omega
    obtain⟨hE,al',nk'',hr,IE⟩:=told_loop hd hpre hsl hB5 hB6 m (i+1) (by omega) hil h' (al.set i a') nk' I'
    refine⟨hE,al',nk'',fun l=>?_,IE⟩
    rw[rounds_yield hv I.t.ak ha hs hlen hil (by omega) hov' hasg hbd,ht2]
    exact hr l
end
end
section
def toldNotes(stp:AskS->TS)(n:Nat)(sl:List AskS):List Note:=sl.flatMap (stepN stp n)++if sl.any (stepO stp) then [⟨0,n,4⟩] else []
theorem live117{h:Heap}{xb:Nat}:D cfg 117 [xPtr xb] h=some (.fn (.func 126) [p1 h.length],h++[.cells [xPtr xb] 91 false]):=by
 refine D_eq (call117 (R:=fun r h'=>r=_/\h'=_) (by simp) ?_)
 simp[c117,c117_r0,c117_r1]
section
variable {h:Heap} {xb lb n:Nat} {sp cv:AV} {al:List AskH} {sl:List AskS} {g:FuncId} {stp:AskS->TS} {pre:AskS->Prop}
structure RulesAt (h:Heap) (xb lb:Nat) (sp cv:AV) (n:Nat) (al:List AskH) (sl:List AskS):Prop where
 kx:h[xb]?=some (.cells (xC sp cv (bufSl lb al.length (al.map askP)) n) 163 false)
 kl:al.length≠0->h[lb]?=some (.cells (al.map askP) 164 true)
 ak:AsksAt h al sl
theorem told_run(hd:DoneOK g stp pre)(hpre:∀s∈sl,pre s)(hsl:sl.length<=1000)(H:RulesAt h xb lb sp cv n al sl):
  ∃nk al' h',D cfg1 113 [xPtr xb,.fn (.func g) []] h=some (notesSl nk (toldNotes stp n sl),h')/\RulesAt h' xb lb sp cv n al' (sl.map (stepS stp))/\Only (fun c=>askF al c\/h.length<=c) h h' /\
   (∀c,askF al' c->askF al c\/h.length<=c)/\al'.map askP=al.map askP/\al'.map (fun a=>a.eb)=al.map (fun a=>a.eb)/\((toldNotes stp n sl).length≠0->h.length<=nk/\h'[nk]?=some (.cells (notesC (toldNotes stp n sl)) 99 true)):=by
 obtain⟨dv,hdv⟩:∃dv,dv=AV.fn (.func g) []:=⟨_,rfl⟩
 obtain⟨hA,hhA⟩:∃hA,h++[AObj.cells [xPtr xb] 91 false,AObj.cells [dv] 170 false]=hA:=⟨_,rfl⟩
 obtain⟨hB,hhB⟩:∃hB,hA++[AObj.cells [.sl none 0 0] 94 false]=hB:=⟨_,rfl⟩
 obtain⟨hC,hhC⟩:∃hC,hB++[AObj.cells [.bool false] 4 false]=hC:=⟨_,rfl⟩
 obtain⟨hD,hhD⟩:∃hD,hC++[AObj.cells [xPtr xb] 91 false]=hD:=⟨_,rfl⟩
 have lA:hA.length=h.length+2:=by rw[<-hhA];simp
 have lB:hB.length=h.length+3:=by rw[<-hhB];simp[lA]
 have lC:hC.length=h.length+4:=by rw[<-hhC];simp[lB]
 have oA:Only (fun _=>False) h hA:=by rw[<-hhA];exact .app
 have oB:Only (fun _=>False) hA hB:=by rw[<-hhB];exact .app
 have oC:Only (fun _=>False) hB hC:=by rw[<-hhC];exact .app
 have oD:Only (fun _=>False) hC hD:=by rw[<-hhD];exact .app
 have oAD:Only (fun _=>False) hA hD:=(oB.trans oC).trans oD
 have o0:Only (fun _=>False) h hD:=oA.trans oAD
 obtain⟨B,hBd⟩:∃B:TdB,B=⟨xb,lb,h.length,h.length+1,hA.length,hB.length⟩:=⟨_,rfl⟩
 have k2:hA[h.length]?=some (.cells [xPtr xb] 91 false):=by rw[<-hhA];simp
 have k3:hA[h.length+1]?=some (.cells [dv] 170 false):=by rw[<-hhA];simp
 have k5:hB[hA.length]?=some (.cells [.sl none 0 0] 94 false):=by rw[<-hhB];simp
 have k6:hC[hB.length]?=some (.cells [.bool false] 4 false):=by rw[<-hhC];simp
 obtain⟨e,s',a0,rfl,rfl⟩:=Aw_W (P:=Try.prog) (F:=D cfg) (k:=c113_p0) (s:=⟨argsEnv 0 [xPtr xb,dv],h⟩) (Q:=fun e s'=>e=.normal/\s'=⟨[(2,p1 h.length),(3,p1 (h.length+1))],hA⟩) (by
  show Wt _ _ _ _ _
  have h1:dv.one=true:=by rw[hdv];rfl
  have h2:dv.cells=[dv]:=by rw[hdv];rfl
  simp[-AV.one,-AV.cells,c113_p0,c113_r0,h1,h2,one_ptr,cells_ptr,hhA])
 obtain⟨e,s',a1,rfl,rfl⟩:=Aw_W (P:=Try.prog) (F:=D cfg) (k:=c113_p1) (s:=⟨[(2,p1 h.length),(3,p1 (h.length+1))],hA⟩) (Q:=fun e s'=>e=.normal/\s'=⟨[(2,p1 h.length),(3,p1 (h.length+1)),(5,p1 hA.length)],hB⟩) (by
  show Wt _ _ _ _ _
  simp[c113_p1,c113_r1,hhB])
 obtain⟨e,s',a2,rfl,rfl⟩:=Aw_W (P:=Try.prog) (F:=D cfg) (k:=c113_p2) (s:=⟨[(2,p1 h.length),(3,p1 (h.length+1)),(5,p1 hA.length)],hB⟩) (Q:=fun e s'=>e=.normal/\s'=⟨[(2,p1 h.length),(3,p1 (h.length+1)),(5,p1 hA.length),(6,p1 hB.length)],hC⟩) (by
  show Wt _ _ _ _ _
  have q:astore Try.prog (look hC) 4 (p1 hB.length) (.bool false)=some (.set hB.length (.cells [.bool false] 4 false)):=cell_store k6 (n:=1) rfl (by simp) rfl (by omega)
  have q2:hC.set hB.length (.cells [.bool false] 4 false)=hC:=set_id k6
  simp[c113_p2,c113_r2,hhC,q,q2])
 have L2:=cell_load (oB.trans oC |>.at k2 id) (n:=1) rfl (t:=91) (by simp) (off:=0) rfl
 obtain⟨e,s',a3,rfl,rfl⟩:=Aw_W (P:=Try.prog) (F:=D cfg) (k:=c113_p3) (s:=⟨[(2,p1 h.length),(3,p1 (h.length+1)),(5,p1 hA.length),(6,p1 hB.length)],hC⟩) (Q:=fun e s'=>e=.normal/\s'=⟨rho113 B hC.length,hD⟩) (by
  show Wt _ _ _ _ _
  simp[c113_p3,c113_r3,L2,live117,hhD,hBd])
 have hpr:preRun Try.prog (D cfg) [c113_p0,c113_p1,c113_p2,c113_p3] ⟨argsEnv 0 [xPtr xb,dv],h⟩=some ⟨rho113 B hC.length,hD⟩:=by
  simp only[preRun,a0,a1,a2,a3]
 have hx:=o0.at H.kx id
 have hal0:al.length=sl.length:=H.ak.len
 have I0:TI h hD B 0 dv sp cv n al al sl stp 0:=by
  have e1:slTo stp sl 0=sl:=by simp[slTo]
  have e2:nsTo stp n sl 0=[]:=by simp[nsTo]
  have e3:ovTo stp sl 0=false:=by simp[ovTo]
  refine⟨?_,o0.mono fun _ _ e=>e.elim,fun c hc=>.inl hc,by rw[e2];simp,rfl,rfl⟩
  rw[e1,e2,e3,hBd]
  exact⟨oAD.at k2 id,oAD.at k3 id,(oC.trans oD).at k5 id,oD.at k6 id,by simp,hx,fun hne=>o0.at (H.kl hne) id,H.ak.same o0⟩
 rw[hdv] at I0
 obtain⟨hE,al',nk,hr,IE⟩:=told_loop hd hpre hsl (by rw[hBd];show h.length<=hA.length;omega) (by rw[hBd];show h.length<=hB.length;omega) (b1:=hC.length) sl.length 0 (by omega) (Nat.zero_le _) hD al 0 I0
 have k1:hD[hC.length]?=some (.cells [xPtr xb] 91 false):=by rw[<-hhD];simp
 have L1:=cell_load k1 (n:=1) rfl (t:=91) (by simp) (off:=0) rfl
 have Lx:=cell_load hx (n:=4) rfl (t:=161) (by simp) (off:=2) rfl
 have Ll:∀L,alen Try.prog L 161 (bufSl lb al.length (al.map askP))=some (.int .i64 sl.length):=fun L=>by
  rw[<-hal0]
  unfold bufSl
  by_cases hz:al.length=0
  . rw[if_pos hz];simp[alen,hz]
  . rw[if_neg hz];simp[alen]
 have hrun:∀l,rangeRun Try.prog (D cfg) it126 126 c113_ca c113_cb 9 10 l ⟨rho113 B hC.length,hD⟩=some hE:=by
  intro l
  obtain⟨ρ,hl⟩:=hr l
  obtain⟨ρ0,r0,g9,gc⟩:∃ρ0:Env,aops Try.prog (D cfg) it126.r0 ⟨argsEnv 0 [.fn (.yield l) [],p1 hC.length],hD⟩=some ⟨ρ0,hD⟩/\ρ0.get 9=some (.int .i64 (sl.length:Nat))/\cut (some [0,8,9,10]) ρ0=env126 l (bufSl lb al.length (al.map askP)) sl.length 0:=by
   refine⟨(10,.int .i64 0)::(9,.int .i64 (sl.length:Nat))::(8,bufSl lb al.length (al.map askP))::(7,.ptr (some ⟨xb,2,4⟩))::(6,xPtr xb)::(5,xPtr xb)::argsEnv 0 [.fn (.yield l) [],p1 hC.length],aops_eq ?_,by simp[Env.get],by simp[cut,pick,Env.get,argsEnv]⟩
   simp[it126,c126_r0,L1,fieldA,Lx,len1,Ll,argsEnv]
  have g9':(rho113 B hC.length).get 9=some (.fn (.func 126) [p1 hC.length]):=by simp[Env.get]
  have hxl:B.lb=lb:=by rw[hBd]
  rw[hxl] at hl
  unfold rangeRun
  simp only[g9',ne_eq,not_true,if_false]
  simp only[r0,g9,gc,Int.toNat_natCast]
  rw[hl]
 have T:=IE.t
 have f1:slTo stp sl sl.length=sl.map (stepS stp):=by simp[slTo]
 have f2:nsTo stp n sl sl.length=sl.flatMap (stepN stp n):=by simp[nsTo]
 have f3:ovTo stp sl sl.length=sl.any (stepO stp):=by simp[ovTo]
 have fk:=IE.k
 have hnl:=nsTo_len (stp:=stp) (n:=n) (sl:=sl) (i:=sl.length) (Nat.le_refl _)
 rw[f1,f2,f3] at T
 rw[f2] at hnl fk
 obtain⟨ns,hns⟩:∃ns,ns=sl.flatMap (stepN stp n):=⟨_,rfl⟩
 rw[<-hns] at T hnl fk
 have q5:=cell_load T.k5 (n:=1) rfl (t:=94) (by simp) (off:=0) rfl
 have q6:=cell_load T.k6 (n:=1) rfl (t:=4) (by simp) (off:=0) rfl
 have q2:=cell_load T.k2 (n:=1) rfl (t:=91) (by simp) (off:=0) rfl
 have qx:=cell_load T.kx (n:=4) rfl (t:=3) (by simp) (off:=3) rfl
 have last:∃nk' hF,D cfg1 113 [xPtr xb,dv] h=some (notesSl nk' (toldNotes stp n sl),hF)/\ToldAt hF B nk' (.fn (.func g) []) sp cv n al' (sl.map (stepS stp)) (toldNotes stp n sl) (sl.any (stepO stp))/\Only (fun c=>askF al c\/h.length<=c) h hF/\((toldNotes stp n sl).length≠0->h.length<=nk'):=by
  have fin:∀nk' hF,Wt Try.prog (D cfg) c113_s0 ⟨rho113 B hC.length,hE⟩ (fun e s'=>(e=.normal\/e=.ret)/\s'.ρ.get 4=some (notesSl nk' (toldNotes stp n sl))/\s'.h=hF)->D cfg1 113 [xPtr xb,dv] h=some (notesSl nk' (toldNotes stp n sl),hF):=by
   intro nk' hF hw
   obtain⟨e,s3,hs,he,h4,rfl⟩:=Aw_W hw
   refine D_of (n:=1) ?_
   have hx1:cfg1.ext 113=some ext113:=rfl
   simp only[acall,hx1]
   refine rfExt_of (by rw[c113_nt];simp) hpr hrun ?_
   rw[hs]
   unfold afinish
   have hres:aresultL Try.prog s3 Try.f113.results.toList=some [notesSl nk' (toldNotes stp n sl)]:=by
    rw[c113_rs]
    simp[aresultL,aresult,h4]
   have hall:[notesSl nk' (toldNotes stp n sl)].all AV.notTup=true:=by simp[-AV.notTup,notesSl_nt]
   rcases he with rfl|rfl<;>simp only[hres,hall,if_true,pack]
  by_cases hov:sl.any (stepO stp)=true
  . have hT:toldNotes stp n sl=ns++[⟨0,n,4⟩]:=by rw[toldNotes,if_pos hov,hns]
    obtain⟨δ,h1,h2,nk',m1,m2,m3,m4,T2,o2,hnk⟩:=T.note (by omega) (t:=⟨0,n,4⟩)
    have m5:=cell_store m3 (n:=1) rfl (t:=94) (by simp) (off:=0) (v:=notesSl nk' (ns++[⟨0,n,4⟩])) notesSl_one (by omega)
    have q5':=cell_load T2.k5 (n:=1) rfl (t:=94) (by simp) (off:=0) rfl
    simp only[noteC] at m1 m2
    refine⟨nk',h2,fin nk' h2 ?_,by rw[hT];exact T2,?_,fun _=>?_⟩
    . rw[hov] at q6
      rw[hT]
      simp[-AV.cells,-AV.one,-AV.notTup,c113_s0,c113_r10,c113_r11,c113_r12,q6,q5,q2,fieldA,qx,abuild,abuildSlice,afill,zeros,splice,cells_agg,cells_int,one_int,one_agg,m1,m2,m5,m4,q5',Env.get]
    . refine IE.o.trans (o2.mono fun c hc e=>?_)
      rcases e with e|e
      . refine .inr ?_
        rw[e,hBd];show h.length<=hA.length;omega
      . exact .inr (by rw[e.1];exact fk e.2)
    . rcases hnk with e|e
      . rw[e.1];exact fk e.2
      . exact Nat.le_trans IE.o.1 e
  . have hov':sl.any (stepO stp)=false:=by simpa using hov
    have hT:toldNotes stp n sl=ns:=by rw[toldNotes,if_neg hov,List.append_nil,hns]
    refine⟨nk,hE,fin nk hE ?_,by rw[hT];exact T,IE.o,fun hne=>fk (by rw[hT] at hne;exact hne)⟩
    rw[hov'] at q6
    rw[hT]
    simp[-AV.cells,-AV.one,-AV.notTup,c113_s0,c113_r10,c113_r12,q6,q5,Env.get]
 obtain⟨nk',hF,e1,TF,oF,hk⟩:=last
 rw[hdv] at e1
 have hxb:B.xb=xb:=by rw[hBd]
 have hlb:B.lb=lb:=by rw[hBd]
 refine⟨nk',al',hF,e1,⟨by have:=TF.kx;rw[hxb,hlb] at this;exact this,fun hne=>by have:=TF.kl hne;rw[hlb] at this;exact this,TF.ak⟩,oF,IE.f,IE.m,IE.e,fun hne=>⟨hk hne,TF.kn hne⟩⟩
end
end
section
theorem worse78{a b:Int}{h:Heap}:D cfg 78 [.int .i64 a,.int .i64 b] h=some (.bool (decide (b<a)),h):=by
 refine D_eq (call78 (R:=fun r h'=>r=_/\h'=_) (by simp) ?_)
 simp[c78,c78_r0,c78_r1]
def worstM(ns:List Note):Int:=ns.foldl (fun w n=>if w<n.action then n.action else w) 0
def NotesAt(h:Heap)(v:AV)(ns:List Note):Prop:=∃nk,v=notesSl nk ns/\(ns.length≠0->h[nk]?=some (.cells (notesC ns) 99 true))
theorem NotesAt.same{h h':Heap}{v:AV}{ns:List Note}(H:NotesAt h v ns)(ho:Only (fun _=>False) h h'):NotesAt h' v ns:=
 let ⟨nk,h1,h2⟩:=H
 ⟨nk,h1,fun hne=>ho.at (h2 hne) id⟩
theorem notesC_drop:∀{l:List Note} {i:Nat} (h:i<l.length),((notesC l).drop (i*4)).take 4=noteC l[i]
 |[],i,h=>by simp at h
 |t::l,0,h=>by
  show (noteC t++notesC l).take 4=_
  rw[List.take_append_of_le_length (by simp[noteC])]
  rfl
 |t::l,i+1,h=>by
  have ih:=notesC_drop (l:=l) (i:=i) (by simpa using h)
  show ((noteC t++notesC l).drop ((i+1)*4)).take 4=_
  rw[show (i+1)*4=(noteC t).length+i*4 by simp[noteC];omega,<-List.drop_drop,List.drop_left]
  simpa using ih
theorem NotesAt.len{h:Heap}{v:AV}{ns:List Note}(H:NotesAt h v ns){L:Look}:alen Try.prog L 94 v=some (.int .i64 ns.length):=by
 obtain⟨nk,rfl,_⟩:=H
 unfold notesSl bufSl
 by_cases hl:ns.length=0
 . rw[if_pos hl];simp[alen,hl]
 . rw[if_neg hl];simp[alen]
theorem NotesAt.at{h:Heap}{v:AV}{ns:List Note}(H:NotesAt h v ns){i:Nat}(hi:i<ns.length):∃q,aindexAddr Try.prog 94 v (.int .i64 i)=some q/\aload Try.prog (look h) 99 q=some (.agg (noteC ns[i])) /\
  ∃nk,q=.ptr (some ⟨nk,i*4,(notesC ns).length⟩)/\h[nk]?=some (.cells (notesC ns) 99 true):=by
 obtain⟨nk,rfl,h2⟩:=H
 have hl:ns.length≠0:=by omega
 have hb:=h2 hl
 have hi':(i:Int)<ns.length:=by omega
 refine⟨.ptr (some ⟨nk,i*4,(notesC ns).length⟩),?_,?_,nk,rfl,hb⟩
 . unfold notesSl bufSl
   rw[if_neg hl]
   simp[aindexAddr,hi']
 . have hc:=notesC_drop hi
   have hlen:i*4+4<=(notesC ns).length:=by rw[notesC_len];omega
   simp[aload,row,hb,agk,hlen,hc]
def In115(h₀:Heap)(v:AV)(ns:List Note)(m:Nat)(st:St):Prop:=∃i h,m=ns.length-i/\i<=ns.length/\st=⟨[(3,.int .i64 (worstM (ns.take i))),(6,v),(7,.int .i64 ns.length),(8,.int .i64 i)],h⟩/\Only (fun _=>False) h₀ h
theorem worst_run{h:Heap}{v:AV}{ns:List Note}(H:NotesAt h v ns)(hl:ns.length<=1000000):∃h',D cfg 115 [v] h=some (.int .i64 (worstM ns),h')/\Only (fun _=>False) h h':=by
 have key:∃r h',D cfg 115 [v] h=some (r,h')/\(r=.int .i64 (worstM ns)/\Only (fun _=>False) h h'):=by
  refine call115 (R:=fun r h'=>r=.int .i64 (worstM ns)/\Only (fun _=>False) h h') (args:=[v]) (h:=h) (by simp) ?_
  have hlen:=fun L=>H.len (L:=L)
  simp[c115,c115_r0,c115_r1,c115_r2,len1,hlen]
  refine Wt.loop (In115 h v ns) (m:=ns.length) ⟨0,h,rfl,Nat.zero_le _,rfl,.refl⟩ ?_
  rintro m st ⟨i,h1,rfl,hi,rfl,ho⟩
  have hcut:cut (some [3,6,7,8]) [(3,AV.int .i64 (worstM (ns.take i))),(6,v),(7,.int .i64 (ns.length:Int)),(8,.int .i64 (i:Int))]=[(3,AV.int .i64 (worstM (ns.take i))),(6,v),(7,.int .i64 (ns.length:Int)),(8,.int .i64 (i:Int))]:=by simp
  simp only[hcut]
  by_cases hil:i<ns.length
  . obtain⟨q,a1,a2,_⟩:=(H.same ho).at hil
    obtain⟨t,ht⟩:∃t,t=ns[i]:=⟨_,rfl⟩
    rw[<-ht] at a2
    have w1:IntKind.wrap .i64 ((i:Int)+1)=i+1:=wrap_i64 (by omega) (by omega)
    obtain⟨h2,hh2⟩:∃h2,h1++[AObj.cells (noteC t) 99 false]=h2:=⟨_,rfl⟩
    have k2:h2[h1.length]?=some (.cells (noteC t) 99 false):=by rw[<-hh2];simp
    have o2:Only (fun _=>False) h1 h2:=by rw[<-hh2];exact .app
    have q3:=cell_load k2 (n:=4) rfl (t:=3) (by simp) (off:=3) rfl
    obtain⟨W,hW⟩:∃W,W=worstM (ns.take i):=⟨_,rfl⟩
    have hW2:worstM (ns.take (i+1))=if W<t.action then t.action else W:=by
     rw[hW,ht,worstM,worstM,List.take_succ_eq_append_getElem hil,List.foldl_append];rfl
    have hnext:In115 h v ns (ns.length-(i+1)) ⟨[(3,.int .i64 (if W<t.action then t.action else W)),(6,v),(7,.int .i64 ns.length),(8,.int .i64 ((i:Int)+1))],h2⟩:=
     ⟨i+1,h2,rfl,hil,by rw[hW2];simp,ho.trans o2⟩
    rw[<-hW]
    simp only[noteC] at a2 hh2 k2
    by_cases hw:W<t.action
    . rw[if_pos hw] at hnext
      simp[-AV.cells,-AV.one,-AV.notTup,c115_l3,c115_r3,c115_r4,c115_r5,c115_r6,c115_r7,hil,a1,a2,astore,look_at,splice,cells_agg,cells_int,one_int,one_agg,hh2,fieldA,q3,worse78,hw,w1]
      exact⟨_,by omega,hnext⟩
    . rw[if_neg hw] at hnext
      simp[-AV.cells,-AV.one,-AV.notTup,c115_l3,c115_r3,c115_r4,c115_r5,c115_r7,hil,a1,a2,astore,look_at,splice,cells_agg,cells_int,one_int,one_agg,hh2,fieldA,q3,worse78,hw,w1]
      exact⟨_,by omega,hnext⟩
  . have:i=ns.length:=by omega
    subst this
    rw[List.take_length]
    simp[c115_l3,c115_r3,c115_r8]
    exact ho
 obtain⟨r,h',h1,rfl,h2⟩:=key
 exact⟨h',h1,h2⟩
theorem done114:DoneOK 114 (fun s=>s.T) fun _=>True:=by
 intro h a s A _
 have hl:=A.ok.few
 refine⟨a.fl,h,?_,A,.refl,fun c hc=>.inl hc⟩
 have q15:=cell_load A.hdr (askC_len A.ok) (t:=84) (by simp) (off:=15) (askC_15 A.ok)
 have e:=holds_run A.trk (by omega)
 refine D_eq (call114 (R:=fun r h'=>r=_/\h'=_) (by simp) ?_)
 simp[c114,c114_r0,c114_r1,fieldA,q15,e]
theorem call1_82{args:List AV}{h:Heap}{R:AV->Heap->Prop}(hn:args.length<=10)(hw:Wt Try.prog (D cfg1) c82 ⟨argsEnv 0 args,h⟩ (Ends Try.prog [.tmp 2,.tmp 3] R)):∃r h',D cfg1 82 args h=some (r,h')/\R r h':=
 let ⟨_,hb,hk⟩:=c82_eq
 W.calls (c:=cfg1) rfl c82_fn hb hk c82_rs (by rw[c82_nt];exact hn) hw
section
variable {h:Heap} {xb lb n:Nat} {sp cv:AV} {al:List AskH} {sl:List AskS}
theorem toldNotes_len{stp:AskS->TS}{sl:List AskS}:(toldNotes stp n sl).length<=sl.length+1:=by
 have:=nsTo_len (stp:=stp) (n:=n) (sl:=sl) (i:=sl.length) (Nat.le_refl _)
 have e:nsTo stp n sl sl.length=sl.flatMap (stepN stp n):=by simp[nsTo]
 rw[e] at this
 rw[toldNotes,List.length_append]
 split<;>simp only[List.length_cons,List.length_nil]<;>omega
theorem begin_run(hsl:sl.length<=1000)(H:RulesAt h xb lb sp cv n al sl):
  ∃v al' h',D cfg1 82 [xPtr xb] h=some (.tup [v,.int .i64 (worstM (toldNotes (fun s=>s.T) n sl))],h')/\NotesAt h' v (toldNotes (fun s=>s.T) n sl)/\v.notTup=true/\RulesAt h' xb lb sp cv n al' (sl.map (stepS fun s=>s.T))/\Only (fun c=>askF al c\/h.length<=c) h h' /\
   (∀c,askF al' c->askF al c\/h.length<=c)/\al'.map askP=al.map askP/\al'.map (fun a=>a.eb)=al.map (fun a=>a.eb):=by
 obtain⟨nk,al',h1,e1,R1,o1,f1,m1,me,k1⟩:=told_run done114 (fun _ _=>trivial) hsl H
 obtain⟨ns,hns⟩:∃ns,ns=toldNotes (fun s=>s.T) n sl:=⟨_,rfl⟩
 have hnl:=toldNotes_len (stp:=fun s=>s.T) (n:=n) (sl:=sl)
 rw[<-hns] at e1 k1 hnl
 rw[<-hns]
 have N1:NotesAt h1 (notesSl nk ns) ns:=⟨nk,rfl,fun hne=>(k1 hne).2⟩
 obtain⟨h2,e2,o2⟩:=worst_run N1 (by omega)
 have e2':=lift e2
 have key:∃r h',D cfg1 82 [xPtr xb] h=some (r,h')/\(r=.tup [notesSl nk ns,.int .i64 (worstM ns)]/\h'=h2):=by
  refine call1_82 (R:=fun r h'=>r=.tup [notesSl nk ns,.int .i64 (worstM ns)]/\h'=h2) (args:=[xPtr xb]) (h:=h) (by simp) ?_
  have he:evalA ([]:Env) (.func 114)=some (.fn (.func 114) []):=rfl
  simp[-AV.cells,-AV.one,-AV.notTup,c82,c82_r0,c82_r1,c82_r2,e1,e2',notesSl_nt,evalA]
  rfl
 obtain⟨r,h',e3,rfl,rfl⟩:=key
 refine⟨notesSl nk ns,al',h',e3,N1.same o2,notesSl_nt,⟨o2.at R1.kx id,fun hne=>o2.at (R1.kl hne) id,R1.ak.same o2⟩,o1.trans (o2.mono fun _ _ e=>e.elim),fun c hc=>f1 c hc,m1,me⟩
theorem at_run(H:RulesAt h xb lb sp cv n al sl):D cfg 84 [xPtr xb] h=some (.int .i64 n,h):=by
 refine D_eq (call84 (R:=fun r h'=>r=_/\h'=_) (by simp) ?_)
 have q:=cell_load H.kx (n:=4) rfl (t:=3) (by simp) (off:=3) rfl
 simp[c84,c84_r0,c84_r1,fieldA,q]
end
end
theorem endSl_at{h:Heap}{eb:Nat}{ends:List Bool}(he:h[eb]?=some (.cells (boolCells ends) 4 true)):Sl1 h (endSl eb ends.length) (boolCells ends):=by
 have:=Sl1.cells he
 rw[boolCells_len] at this
 exact this
theorem done116:DoneOK 116 (fun s=>stepT s.T s.ends) fun s=>s.T.at_<=900000:=by
 intro h a s A hat
 have hl:=A.ok.few
 obtain⟨fl',h',e1,T',o1,f1⟩:=step_ok A.trk (endSl_at A.ends) (fun b hb=>by
  simp only[slB,Option.some.injEq] at hb
  subst hb
  exact A.trk.not A.ends (.inl rfl)) A.ok.T hat hl
 obtain⟨p1,p2,_⟩:=stepT_len (T:=s.T) (ends:=s.ends)
 have hdr':=o1.at A.hdr (A.trk.not A.hdr (.inr ⟨by decide,by decide,by decide⟩))
 have e2:=holds_run T' (by omega)
 have q15:=cell_load A.hdr (askC_len A.ok) (t:=84) (by simp) (off:=15) (askC_15 A.ok)
 have q16:=cell_load A.hdr (askC_len A.ok) (t:=68) (by simp) (off:=16) (askC_16 A.ok)
 have q15':=cell_load hdr' (askC_len A.ok) (t:=84) (by simp) (off:=15) (askC_15 A.ok)
 refine⟨fl',h',?_,⟨hdr',T',o1.at A.ends (A.trk.not A.ends (.inl rfl)),⟨A.ok.len,A.ok.act,A.ok.sid,A.ok.T.step,by show (stepT s.T s.ends).parts.length+(stepT s.T s.ends).nots.length<=1000;omega⟩⟩,o1,f1⟩
 refine D_eq (call116 (R:=fun r h'=>r=_/\h'=_) (by simp) ?_)
 simp[c116,c116_r0,c116_r1,c116_r2,fieldA,q15,q16,q15',e1,e2]
end Go.AM


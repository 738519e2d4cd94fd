/-
  What the law VerdictPlays stands on,part 6.
-/
import Derived.Test.YtamidpfdiijjgaaPW27e
import Derived.Test.YtamidpfdiijjgaaP27L27
namespace Go.AM
open Go Go.Proofs Go.RowKit
set_option linter.unusedVariables false
set_option linter.unusedSimpArgs false
set_option maxRecDepth 100000
section
structure DS where
 told:List Bool
 over:List Bool
 ns:List Note
 worst:Int
 ov:Bool
def overK(most:Nat)(l:List Cont)(w:Txt):Bool:=decide (0<w.length)&&(keptDoc l w).any fun k=>decide ((most:Int)<k)
def docStep(most:Nat)(w:Txt)(i:Nat)(r:RuleV)(d:DS):DS:=
 if nth d.told i || nth d.over i then d
 else ⟨if holdsC r.conts w then d.told.set i true else d.told,if overK most r.conts w then d.over.set i true else d.over,if holdsC r.conts w then d.ns++[⟨r.sid,w.length,r.action⟩] else d.ns,if holdsC r.conts w then max d.worst r.action else d.worst,d.ov || overK most r.conts w⟩
def docTo(most:Nat)(w:Txt)(rs:List RuleV)(d:DS):Nat->DS
 |0=>d
 |i+1=>match rs[i]? with
  |some r=>docStep most w i r (docTo most w rs d i)
  |none=>docTo most w rs d i
theorem docStep_len{most:Nat}{w:Txt}{i:Nat}{r:RuleV}{d:DS}:(docStep most w i r d).told.length=d.told.length/\(docStep most w i r d).over.length=d.over.length/\(docStep most w i r d).ns.length<=d.ns.length+1:=by
 unfold docStep
 split
 . exact⟨rfl,rfl,by omega⟩
 . refine⟨?_,?_,?_⟩
   . show (if holdsC r.conts w then d.told.set i true else d.told).length=_
     split<;>simp
   . show (if overK most r.conts w then d.over.set i true else d.over).length=_
     split<;>simp
   . show (if holdsC r.conts w then d.ns++[(⟨r.sid,w.length,r.action⟩:Note)] else d.ns).length<=_
     split<;>simp
theorem docTo_len{most:Nat}{w:Txt}{rs:List RuleV}{d:DS}:∀{i:Nat},(docTo most w rs d i).told.length=d.told.length/\(docTo most w rs d i).over.length=d.over.length/\(docTo most w rs d i).ns.length<=d.ns.length+i
 |0=>⟨rfl,rfl,by simp[docTo]⟩
 |i+1=>by
  obtain⟨h1,h2,h3⟩:=docTo_len (most:=most) (w:=w) (rs:=rs) (d:=d) (i:=i)
  unfold docTo
  split
  . obtain⟨g1,g2,g3⟩:=docStep_len (most:=most) (w:=w) (i:=i) (r:=‹RuleV›) (d:=docTo most w rs d i)
    exact⟨g1.trans h1,g2.trans h2,by omega⟩
  . exact⟨h1,h2,by omega⟩
section
variable {h h':Heap} {rb:Nat} {rs:List RuleV}
theorem RulesIn.nums(H:RulesIn h rb rs){i:Nat}(hi:i<rs.length):aload Try.prog (look h) 3 (.ptr (some ⟨rb,i*15+13,(rulesC rs).length⟩))=some (.int .i64 rs[i].sid)/\aload Try.prog (look h) 3 (.ptr (some ⟨rb,i*15,(rulesC rs).length⟩))=some (.int .i64 rs[i].action):=by
 have hb:=H.sl (by omega)
 have hd:=rulesC_drop H.ok hi
 have ok:=H.ok _ (List.getElem_mem hi)
 have get:∀k,k<15->(rulesC rs)[i*15+k]?=rs[i].rc[k]?:=fun k hk=>by
  rw[<-hd,List.getElem?_take,if_pos hk,List.getElem?_drop]
 have g0:=get 0 (by decide)
 have g13:=get 13 (by decide)
 rw[Nat.add_zero,ok.act] at g0
 rw[ok.sid] at g13
 exact⟨by simp[aload,AM.row,hb,g13],by simp[aload,AM.row,hb,g0]⟩
end
theorem bool_at{h:Heap}{b:Nat}{l:List Bool}(hb:h[b]?=some (.cells (boolCells l) 4 true)){N:Nat}(hN:l.length=N){i:Nat}(hi:i<N):
  aindexAddr Try.prog 68 (endSl b N) (.int .i64 i)=some (.ptr (some ⟨b,i,N⟩))/\aload Try.prog (look h) 4 (.ptr (some ⟨b,i,N⟩))=some (.bool (nth l i)) /\
  ∀v:Bool,astore Try.prog (look h) 4 (.ptr (some ⟨b,i,N⟩)) (.bool v)=some (.set b (.cells (boolCells (l.set i v)) 4 true)):=by
 have hi':(i:Int)<N:=by omega
 have hcl:(boolCells l).length=N:=by rw[boolCells_len,hN]
 have hg:(boolCells l)[i]?=some (.bool (nth l i)):=by
  have:i<l.length:=by omega
  simp[boolCells,nth,List.getElem?_eq_getElem this]
 refine⟨by simp[aindexAddr,hi,hi'],by simp[aload,AM.row,hb,hcl,hg],fun v=>?_⟩
 have s:=cell_store hb hcl (t:=4) (by simp) (v:=.bool v) rfl (off:=i) hi
 rwa[boolCells_set] at s
theorem RefAt.tick{h:Heap}{xb tb ob rb most:Nat}{rs:List RuleV}{w:Txt}{told over:List Bool}(R:RefAt h xb tb ob rb rs most w told over){i:Nat}(hi:i<rs.length):
  (∃h',astore Try.prog (look h) 4 (.ptr (some ⟨tb,i,rs.length⟩)) (.bool true)=some (.set tb (.cells (boolCells (told.set i true)) 4 true))/\h.set tb (.cells (boolCells (told.set i true)) 4 true)=h'/\RefAt h' xb tb ob rb rs most w (told.set i true) over/\Only (fun c=>c=tb) h h') /\
  (∃h',astore Try.prog (look h) 4 (.ptr (some ⟨ob,i,rs.length⟩)) (.bool true)=some (.set ob (.cells (boolCells (over.set i true)) 4 true))/\h.set ob (.cells (boolCells (over.set i true)) 4 true)=h'/\RefAt h' xb tb ob rb rs most w told (over.set i true)/\Only (fun c=>c=ob) h h'):=by
 have s1:=(bool_at R.tl R.lt hi).2.2 true
 have s2:=(bool_at R.ol R.lo hi).2.2 true
 have notb:∀{b:Nat} {cs0:List AV},h[b]?=some (.cells cs0 4 true)->∀(c:Nat) (cs:List AV) (t:TypeId),t≠4->h[c]?=some (.cells cs t true)->¬c=b:=fun hb c cs t ht hc e=>by
  rw[e,hb] at hc
  simp only[Option.some.injEq,AObj.cells.injEq] at hc
  exact ht hc.2.1.symm
 have notx:∀{b:Nat} {cs0:List AV},h[b]?=some (.cells cs0 4 true)->¬xb=b:=fun hb e=>by
  have:=R.hdr
  rw[e,hb] at this;simp at this
 refine⟨⟨_,s1,rfl,?_,.set rfl⟩,⟨_,s2,rfl,?_,.set rfl⟩⟩
 . have o:Only (fun c=>c=tb) h (h.set tb (.cells (boolCells (told.set i true)) 4 true)):=.set rfl
   exact⟨o.at R.hdr (notx R.tl),R.ri.keep o fun c cs t ht hc=>notb R.tl c cs t (by rcases ht with rfl|rfl<;>decide) hc,at_same (lt_of_at R.tl),o.at R.ol R.ne.symm,by rw[List.length_set];exact R.lt,R.lo,R.ne⟩
 . have o:Only (fun c=>c=ob) h (h.set ob (.cells (boolCells (over.set i true)) 4 true)):=.set rfl
   exact⟨o.at R.hdr (notx R.ol),R.ri.keep o fun c cs t ht hc=>notb R.ol c cs t (by rcases ht with rfl|rfl<;>decide) hc,o.at R.tl R.ne,at_same (lt_of_at R.ol),R.lt,by rw[List.length_set];exact R.lo,R.ne⟩
theorem RefAt.keep{h h':Heap}{fp:Nat->Prop}{xb tb ob rb most:Nat}{rs:List RuleV}{w:Txt}{told over:List Bool}(R:RefAt h xb tb ob rb rs most w told over)(ho:Only fp h h')(hx:¬fp xb)(ht:¬fp tb)(hob:¬fp ob)(hk:∀c cs t,(t=107\/t=52)->h[c]?=some (.cells cs t true)->¬fp c):RefAt h' xb tb ob rb rs most w told over:=
 ⟨ho.at R.hdr hx,R.ri.keep ho hk,ho.at R.tl ht,ho.at R.ol hob,R.lt,R.lo,R.ne⟩
theorem RefAt.same{h h':Heap}{xb tb ob rb most:Nat}{rs:List RuleV}{w:Txt}{told over:List Bool}(R:RefAt h xb tb ob rb rs most w told over)(ho:Only (fun _=>False) h h'):RefAt h' xb tb ob rb rs most w told over:=
 R.keep ho id id id fun _ _ _ _ _=>id
end
abbrev env118(xb:Nat)(nv:AV)(wo:Int)(ov:Bool)(i:Nat):Env:=[(0,refP xb),(4,nv),(5,.int .i64 wo),(6,.bool ov),(7,.int .i64 i)]
structure AI (h₀ h:Heap) (xb tb ob rb nk most:Nat) (rs:List RuleV) (w:Txt) (d:DS):Prop where
 r:RefAt h xb tb ob rb rs most w d.told d.over
 n:d.ns.length≠0->h[nk]?=some (.cells (notesC d.ns) 99 true)/\h₀.length<=nk
 o:Only (fun c=>c=tb\/c=ob\/h₀.length<=c) h₀ h
def In118(h₀:Heap)(xb tb ob rb most:Nat)(rs:List RuleV)(w:Txt)(d0:DS)(m:Nat)(σ:St):Prop:=
 ∃i nk h,m=rs.length-i/\i<=rs.length/\σ=⟨env118 xb (notesSl nk (docTo most w rs d0 i).ns) (docTo most w rs d0 i).worst (docTo most w rs d0 i).ov i,h⟩/\AI h₀ h xb tb ob rb nk most rs w (docTo most w rs d0 i)
theorem AI.same{h₀ h h':Heap}{xb tb ob rb nk most:Nat}{rs:List RuleV}{w:Txt}{d:DS}(I:AI h₀ h xb tb ob rb nk most rs w d)(ho:Only (fun _=>False) h h'):AI h₀ h' xb tb ob rb nk most rs w d:=
 ⟨I.r.same ho,fun hne=>⟨ho.at (I.n hne).1 id,(I.n hne).2⟩,I.o.trans (ho.mono fun _ _=>False.elim)⟩
theorem ask_round{h₀ h:Heap}{xb tb ob rb nk most i:Nat}{rs:List RuleV}{w:Txt}{d0:DS}(hw:w.length<=100000)(hrl:rs.length<=1000)(hd0:d0.ns.length<=1000)(hi:i<rs.length)(I:AI h₀ h xb tb ob rb nk most rs w (docTo most w rs d0 i)){Q:AExit->St->Prop}
  (hq:∀st,In118 h₀ xb tb ob rb most rs w d0 (rs.length-(i+1)) st->Q .normal st):
  Wt Try.prog (D cfg) c118_l4 ⟨env118 xb (notesSl nk (docTo most w rs d0 i).ns) (docTo most w rs d0 i).worst (docTo most w rs d0 i).ov i,h⟩ Q:=by
 obtain⟨d,hd⟩:∃d,docTo most w rs d0 i=d:=⟨_,rfl⟩
 have hnsl:d.ns.length<=2000:=by
  have:=(docTo_len (most:=most) (w:=w) (rs:=rs) (d:=d0) (i:=i)).2.2
  rw[hd] at this
  omega
 have hsucc:docTo most w rs d0 (i+1)=docStep most w i rs[i] d:=by
  simp only[docTo,List.getElem?_eq_getElem hi,hd]
 rw[hd] at I ⊢
 obtain⟨r,hr⟩:∃r,r=rs[i]:=⟨_,rfl⟩
 rw[<-hr] at hsucc
 have hil:(i:Int)<rs.length:=by omega
 have hwr:IntKind.wrap .i64 ((i:Int)+1)=i+1:=wrap_i64 (by omega) (by omega)
 have hrl':=fun L=>I.r.ri.len (L:=L)
 have okr:=I.r.ri.ok _ (List.getElem_mem hi)
 have hvc:=I.r.ri.cs _ (List.getElem_mem hi)
 rw[<-hr] at okr hvc
 have hvt:r.cv.notTup=true:=by rcases hvc with⟨e,_⟩|⟨_,_,_,_,e,_,_⟩<;>rw[e]<;>rfl
 have q0:=cell_load I.r.hdr (n:=5) rfl (t:=89) (by simp) (off:=0) rfl
 have q2:=cell_load I.r.hdr (n:=5) rfl (t:=9) (by simp) (off:=2) rfl
 have q3:=cell_load I.r.hdr (n:=5) rfl (t:=68) (by simp) (off:=3) rfl
 have q4:=cell_load I.r.hdr (n:=5) rfl (t:=68) (by simp) (off:=4) rfl
 obtain⟨a1,_,a3⟩:=I.r.ri.at hi
 rw[<-hr] at a3
 obtain⟨t1,t2,_⟩:=bool_at I.r.tl I.r.lt hi
 obtain⟨v1,v2,_⟩:=bool_at I.r.ol I.r.lo hi
 have n1:(notesSl nk d.ns).notTup=true:=notesSl_nt
 have nr:(rulesSl rb rs).notTup=true:=rulesSl_nt
 by_cases hdead:(nth d.told i || nth d.over i)=true
 . have hst:docStep most w i r d=d:=by unfold docStep;rw[if_pos hdead]
   rw[hst] at hsucc
   have hnext:In118 h₀ xb tb ob rb most rs w d0 (rs.length-(i+1)) ⟨env118 xb (notesSl nk d.ns) d.worst d.ov (i+1),h⟩:=⟨i+1,nk,h,rfl,hi,by rw[hsucc],by rw[hsucc];exact I⟩
   have hfin:=hq _ hnext
   simp only[env118] at hfin
   generalize notesSl nk d.ns=x1 at *
   generalize rulesSl rb rs=x2 at *
   generalize (rulesC rs).length=G at *
   cases ht:nth d.told i with
   |true=>
    rw[ht] at t2
    simp[-AV.notTup,n1,nr,hvt,notTup_ptr,c118_l4,c118_r4,c118_r5,c118_r6,c118_r7,fieldA,q0,q3,q4,len1,hrl',hil,hi,a1,a3,t1,t2,hwr]
    simpa using hfin
   |false=>
    rw[ht] at hdead t2
    have hov:nth d.over i=true:=by simpa using hdead
    rw[hov] at v2
    simp[-AV.notTup,n1,nr,hvt,notTup_ptr,c118_l4,c118_r4,c118_r5,c118_r6,c118_r7,fieldA,q0,q3,q4,len1,hrl',hil,hi,a1,a3,t1,t2,v1,v2,hwr]
    simpa using hfin
 . have ht:nth d.told i=false:=by cases h:nth d.told i<;>simp[h] at hdead ⊢
   have hov:nth d.over i=false:=by cases h:nth d.over i<;>simp[h] at hdead ⊢
   rw[ht] at t2
   rw[hov] at v2
   have hst:docStep most w i r d=⟨if holdsC r.conts w then d.told.set i true else d.told,if overK most r.conts w then d.over.set i true else d.over,if holdsC r.conts w then d.ns++[⟨r.sid,w.length,r.action⟩] else d.ns,if holdsC r.conts w then max d.worst r.action else d.worst,d.ov || overK most r.conts w⟩:=by
    unfold docStep
    rw[if_neg hdead]
   obtain⟨h1,e1,o1⟩:=holds_doc (s:=w) hvc okr.small hw okr.few
   have I1:=I.same o1
   have second:∀(h2:Heap) (nk2:Nat) (told2:List Bool) (ns2:List Note) (wo2:Int),told2=(if holdsC r.conts w then d.told.set i true else d.told)->ns2=(if holdsC r.conts w then d.ns++[⟨r.sid,w.length,r.action⟩] else d.ns)->wo2=(if holdsC r.conts w then max d.worst r.action else d.worst) ->
     AI h₀ h2 xb tb ob rb nk2 most rs w ⟨told2,d.over,ns2,wo2,d.ov⟩ ->
     Wt Try.prog (D cfg) (.seq (.reg c118_r12 none (some [0,4,5,6,7,106])) (.cond (.tmp 106) (.reg c118_r13 none (some [0,4,5,6,7])) .skip (some [0,4,5,6,7]))) ⟨[(0,refP xb),(4,notesSl nk2 ns2),(5,.int .i64 wo2),(6,.bool d.ov),(7,.int .i64 i),(8,r.cv)],h2⟩ (inBlock 1 (andThen (fun s'=>Wt Try.prog (D cfg) (.reg c118_r5 none (some [0,4,5,6,7])) s' Q) Q)):=by
    intro h2 nk2 told2 ns2 wo2 et en ew I2
    have k1:=cell_load I2.r.hdr (n:=5) rfl (t:=3) (by simp) (off:=1) rfl
    have k2:=cell_load I2.r.hdr (n:=5) rfl (t:=9) (by simp) (off:=2) rfl
    have m1:(notesSl nk2 ns2).notTup=true:=notesSl_nt
    have hvc2:=I2.r.ri.cs _ (List.getElem_mem hi)
    rw[<-hr] at hvc2
    obtain⟨h3,e3,o3⟩:=over_doc (t:=w) (most:=most) hvc2 okr.small okr.few hw
    by_cases hw0:0<w.length
    . have hw0':(0:Int)<w.length:=by omega
      have I3:=I2.same o3
      have hK:overK most r.conts w=(keptDoc r.conts w).any fun k=>decide ((most:Int)<k):=by simp[overK,hw0]
      rw[<-hK] at e3
      cases hov2:overK most r.conts w with
      |true=>
       rw[hov2] at e3
       obtain⟨_,h4,s4,hh4,R4,o4⟩:=I3.r.tick hi
       have k4:=cell_load I3.r.hdr (n:=5) rfl (t:=68) (by simp) (off:=4) rfl
       have hnb:∀hne:ns2.length≠0,¬nk2=ob:=fun hne e=>by
        have h5:=(I3.n hne).1
        have h6:=I3.r.ol
        rw[<-e,h5] at h6
        simp only[Option.some.injEq,AObj.cells.injEq] at h6
        exact absurd h6.2.1 (by decide)
       have I4:AI h₀ h4 xb tb ob rb nk2 most rs w (docTo most w rs d0 (i+1)):=by
        rw[hsucc,hst,hov2,<-et,<-en,<-ew]
        exact⟨R4,fun hne=>⟨o4.at (I3.n hne).1 (hnb hne),(I3.n hne).2⟩,I3.o.trans (o4.mono fun c _ e=>.inr (.inl e))⟩
       have hnext:In118 h₀ xb tb ob rb most rs w d0 (rs.length-(i+1)) ⟨env118 xb (notesSl nk2 ns2) wo2 true (i+1),h4⟩:=
        ⟨i+1,nk2,h4,rfl,hi,by rw[hsucc,hst,hov2,<-en,<-ew];simp,I4⟩
       have hfin:=hq _ hnext
       simp only[env118] at hfin
       generalize notesSl nk2 ns2=x1 at *
       simp[-AV.notTup,m1,hvt,notTup_ptr,c118_r12,c118_r13,c118_r5,fieldA,k1,k2,len1,alenS,hw0,hw0',e3,k4,v1,s4,hh4,hwr]
       simpa using hfin
      |false=>
       rw[hov2] at e3
       have hnext:In118 h₀ xb tb ob rb most rs w d0 (rs.length-(i+1)) ⟨env118 xb (notesSl nk2 ns2) wo2 d.ov (i+1),h3⟩:=
        ⟨i+1,nk2,h3,rfl,hi,by rw[hsucc,hst,hov2,<-en,<-ew];simp,by rw[hsucc,hst,hov2,<-et,<-en,<-ew];simpa using I3⟩
       have hfin:=hq _ hnext
       simp only[env118] at hfin
       generalize notesSl nk2 ns2=x1 at *
       simp[-AV.notTup,m1,hvt,notTup_ptr,c118_r12,c118_r13,c118_r5,fieldA,k1,k2,len1,alenS,hw0,hw0',e3,hwr]
       simpa using hfin
    . have hw0':¬((0:Int)<w.length):=by omega
      have hov2:overK most r.conts w=false:=by simp[overK,hw0]
      have hnext:In118 h₀ xb tb ob rb most rs w d0 (rs.length-(i+1)) ⟨env118 xb (notesSl nk2 ns2) wo2 d.ov (i+1),h2⟩:=
       ⟨i+1,nk2,h2,rfl,hi,by rw[hsucc,hst,hov2,<-en,<-ew];simp,by rw[hsucc,hst,hov2,<-et,<-en,<-ew];simpa using I2⟩
      have hfin:=hq _ hnext
      simp only[env118] at hfin
      generalize notesSl nk2 ns2=x1 at *
      have hwz:w.length=0:=by omega
      simp[-AV.notTup,m1,hvt,notTup_ptr,c118_r12,c118_r13,c118_r5,fieldA,k1,k2,len1,alenS,hwz,hwr]
      simpa using hfin
   unfold c118_l4
   generalize hU:(SC.seq (.reg c118_r12 none (some [0,4,5,6,7,106])) (.cond (.tmp 106) (.reg c118_r13 none (some [0,4,5,6,7])) .skip (some [0,4,5,6,7])))=U at *
   cases hho:holdsC r.conts w with
   |false=>
    rw[hho] at e1
    have T:=second h1 nk d.told d.ns d.worst (by rw[hho];simp) (by rw[hho];simp) (by rw[hho];simp) I1
    generalize notesSl nk d.ns=x1 at *
    generalize rulesSl rb rs=x2 at *
    generalize (rulesC rs).length=G at *
    simp[-AV.notTup,n1,nr,hvt,notTup_ptr,c118_r4,c118_r6,c118_r7,c118_r8,fieldA,q0,q2,q3,q4,len1,hrl',hil,hi,a1,a3,t1,t2,v1,v2,e1]
    simpa using T
   |true=>
    rw[hho] at e1
    obtain⟨⟨h2,s2,hh2,R2,o2⟩,_⟩:=I1.r.tick hi
    have k0:=cell_load I1.r.hdr (n:=5) rfl (t:=68) (by simp) (off:=3) rfl
    have hnb:∀hne:d.ns.length≠0,¬nk=tb:=fun hne e=>by
     have h5:=(I1.n hne).1
     have h6:=I1.r.tl
     rw[<-e,h5] at h6
     simp only[Option.some.injEq,AObj.cells.injEq] at h6
     exact absurd h6.2.1 (by decide)
    have nk2:d.ns.length≠0->h2[nk]?=some (.cells (notesC d.ns) 99 true):=fun hne=>o2.at (I1.n hne).1 (hnb hne)
    have p0:=cell_load R2.hdr (n:=5) rfl (t:=89) (by simp) (off:=0) rfl
    have p2:=cell_load R2.hdr (n:=5) rfl (t:=9) (by simp) (off:=2) rfl
    obtain⟨b13,b0⟩:=R2.ri.nums hi
    rw[<-hr] at b13 b0
    obtain⟨δ,h3,e4,e5,d3,o3⟩:=append_buf (t:=94) (e:=99) (k:=4) (by simp) (by simp) (by decide) (by simp) (by simp) (h:=h2) (b:=nk) (n:=d.ns.length) (xs:=notesC d.ns) (ys:=noteC ⟨r.sid,w.length,r.action⟩) (by simp[noteC]) (by rw[notesC_len]) nk2 (by omega)
    rw[<-notesC_snoc] at e4 d3
    obtain⟨nk3,hnk3⟩:∃y,(if d.ns.length=0 then h2.length+1 else nk)=y:=⟨_,rfl⟩
    rw[hnk3] at e4 d3
    have e4':append2 Try.prog (look (h2++[AObj.cells (noteC ⟨r.sid,w.length,r.action⟩) 99 true])) (h2.length+1) 94 94 [notesSl nk d.ns,.sl (some ⟨h2.length,0,4⟩) 1 1]=some (notesSl nk3 (d.ns++[⟨r.sid,w.length,r.action⟩]),δ):=by
     rw[show d.ns.length+1=(d.ns++[(⟨r.sid,w.length,r.action⟩:Note)]).length by simp] at e4
     exact e4
    have L1:=I1.o.1
    have L2:=o2.1
    have R3:RefAt h3 xb tb ob rb rs most w (d.told.set i true) d.over:=by
     have out:∀{c:Nat} {cs:List AV} {t:TypeId} {g:Bool},h2[c]?=some (.cells cs t g)->t≠99->¬(c=nk/\d.ns.length≠0):=fun hc ht e=>by
      have:=nk2 e.2
      rw[<-e.1,hc] at this
      simp only[Option.some.injEq,AObj.cells.injEq] at this
      exact ht this.2.1
     exact R2.keep o3 (out R2.hdr (by decide)) (out R2.tl (by decide)) (out R2.ol (by decide)) fun c cs t ht hc=>out hc (by rcases ht with rfl|rfl<;>decide)
    have I3:AI h₀ h3 xb tb ob rb nk3 most rs w ⟨d.told.set i true,d.over,d.ns++[⟨r.sid,w.length,r.action⟩],max d.worst r.action,d.ov⟩:=by
     refine⟨R3,fun _=>⟨d3,?_⟩,(I1.o.trans (o2.mono fun c _ e=>.inl e)).trans (o3.mono fun c _ e=>?_)⟩
     . rw[<-hnk3]
       split
       . omega
       . rename_i hz;exact (I1.n hz).2
     . rw[e.1];exact .inr (.inr (I1.n e.2).2)
    have T:=second h3 nk3 (d.told.set i true) (d.ns++[⟨r.sid,w.length,r.action⟩]) (max d.worst r.action) (by rw[hho];simp) (by rw[hho];simp) (by rw[hho];simp) I3
    have n3:(notesSl nk3 (d.ns++[(⟨r.sid,w.length,r.action⟩:Note)])).notTup=true:=notesSl_nt
    have x3:=cell_load R3.hdr (n:=5) rfl (t:=89) (by simp) (off:=0) rfl
    obtain⟨_,y0⟩:=R3.ri.nums hi
    rw[<-hr] at y0
    simp only[noteC] at e4' e5
    generalize notesSl nk d.ns=x1 at *
    generalize notesSl nk3 (d.ns++[(⟨r.sid,w.length,r.action⟩:Note)])=x4 at *
    generalize rulesSl rb rs=x2 at *
    generalize (rulesC rs).length=G at *
    simp[-AV.notTup,n1,n3,nr,hvt,notTup_ptr,c118_r4,c118_r6,c118_r7,c118_r8,c118_r9,c118_r10,c118_r11,fieldA,q0,q2,q3,q4,len1,alenS,hrl',hil,hi,a1,a3,t1,t2,v1,v2,e1,k0,s2,hh2,p0,p2,b13,b0,abuild,abuildSlice,afill,zeros,splice,e4',e5,x3,y0,max2]
    simpa using T
section
def finN(d:DS)(w:Txt):List Note:=if d.ov then d.ns++[⟨0,w.length,4⟩] else d.ns
def finW(d:DS):Int:=if d.ov then 4 else d.worst
abbrev doc0(told over:List Bool):DS:=⟨told,over,[],0,false⟩
abbrev docAll(most:Nat)(w:Txt)(rs:List RuleV)(told over:List Bool):DS:=docTo most w rs (doc0 told over) rs.length
section
variable {h:Heap} {xb tb ob rb most:Nat} {rs:List RuleV} {w:Txt} {told over:List Bool}
theorem asks_run(R:RefAt h xb tb ob rb rs most w told over)(hw:w.length<=100000)(hrl:rs.length<=1000){d:DS}(hd:d=docAll most w rs told over):
  ∃v h',D cfg 118 [refP xb] h=some (.tup [v,.int .i64 (finW d)],h')/\v.notTup=true/\NotesAt h' v (finN d w)/\RefAt h' xb tb ob rb rs most w d.told d.over/\Only (fun c=>c=tb\/c=ob\/h.length<=c) h h':=by
 have key:∃r h',D cfg 118 [refP xb] h=some (r,h')/\∃v,r=.tup [v,.int .i64 (finW d)]/\v.notTup=true/\NotesAt h' v (finN d w)/\RefAt h' xb tb ob rb rs most w d.told d.over/\Only (fun c=>c=tb\/c=ob\/h.length<=c) h h':=by
  obtain⟨R',hR'⟩:∃R':AV->Heap->Prop,R'=fun r h'=>∃v,r=.tup [v,.int .i64 (finW d)]/\v.notTup=true/\NotesAt h' v (finN d w)/\RefAt h' xb tb ob rb rs most w d.told d.over/\Only (fun c=>c=tb\/c=ob\/h.length<=c) h h':=⟨_,rfl⟩
  suffices hs:∃r h',D cfg 118 [refP xb] h=some (r,h')/\R' r h' by
   obtain⟨r,h',e,hr⟩:=hs
   rw[hR'] at hr
   exact⟨r,h',e,hr⟩
  refine call118 (R:=R') (args:=[refP xb]) (h:=h) (by simp) ?_
  simp[-AV.notTup,notTup_ptr,c118,c118_r0,c118_r1,c118_r2,c118_r3]
  refine Wt.loop (In118 h xb tb ob rb most rs w (doc0 told over)) (m:=rs.length) ⟨0,0,h,rfl,Nat.zero_le _,by simp[docTo,notesSl,bufSl],⟨R,fun (e:([]:List Note).length≠0)=>absurd rfl e,.refl⟩⟩ ?_
  rintro m σ ⟨i,nk,h1,rfl,hi,rfl,I⟩
  have hcut:∀v wo ov,cut (some [0,4,5,6,7]) (env118 xb v wo ov i)=env118 xb v wo ov i:=fun _ _ _=>by simp
  simp only[hcut]
  by_cases hil:i<rs.length
  . exact ask_round hw hrl (by simp) hil I fun st hst=>⟨_,by omega,hst⟩
  . have hi2:i=rs.length:=by omega
    subst hi2
    have hd':docTo most w rs (doc0 told over) rs.length=d:=hd.symm
    rw[hd'] at I ⊢
    have hnsl:d.ns.length<=2000:=by
     have:=(docTo_len (most:=most) (w:=w) (rs:=rs) (d:=doc0 told over) (i:=rs.length)).2.2
     rw[hd'] at this
     simp at this
     omega
    have hrl':=fun L=>I.r.ri.len (L:=L)
    have q0:=cell_load I.r.hdr (n:=5) rfl (t:=89) (by simp) (off:=0) rfl
    have q2:=cell_load I.r.hdr (n:=5) rfl (t:=9) (by simp) (off:=2) rfl
    have n1:(notesSl nk d.ns).notTup=true:=notesSl_nt
    have nr:(rulesSl rb rs).notTup=true:=rulesSl_nt
    cases hov:d.ov with
    |false=>
     have hfin:R' (.tup [notesSl nk d.ns,.int .i64 d.worst]) h1:=by
      rw[hR']
      have e1:finN d w=d.ns:=by simp[finN,hov]
      have e2:finW d=d.worst:=by simp[finW,hov]
      rw[e1,e2]
      exact⟨_,rfl,n1,⟨nk,rfl,fun hne=>(I.n hne).1⟩,I.r,I.o⟩
     clear hR'
     generalize notesSl nk d.ns=x1 at *
     generalize rulesSl rb rs=x2 at *
     simp[-AV.notTup,n1,nr,notTup_ptr,c118_l4,c118_r4,c118_r14,c118_r17,fieldA,q0,len1,hrl']
     exact⟨rfl,hfin⟩
    |true=>
     obtain⟨δ,h3,e4,e5,d3,o3⟩:=append_buf (t:=94) (e:=99) (k:=4) (by simp) (by simp) (by decide) (by simp) (by simp) (h:=h1) (b:=nk) (n:=d.ns.length) (xs:=notesC d.ns) (ys:=noteC ⟨0,w.length,4⟩) (by simp[noteC]) (by rw[notesC_len]) (fun hne=>(I.n hne).1) (by omega)
     rw[<-notesC_snoc] at e4 d3
     obtain⟨nk3,hnk3⟩:∃y,(if d.ns.length=0 then h1.length+1 else nk)=y:=⟨_,rfl⟩
     rw[hnk3] at e4 d3
     have e4':append2 Try.prog (look (h1++[AObj.cells (noteC ⟨0,w.length,4⟩) 99 true])) (h1.length+1) 94 94 [notesSl nk d.ns,.sl (some ⟨h1.length,0,4⟩) 1 1]=some (notesSl nk3 (d.ns++[⟨0,w.length,4⟩]),δ):=by
      rw[show d.ns.length+1=(d.ns++[(⟨0,w.length,4⟩:Note)]).length by simp] at e4
      exact e4
     have R3:RefAt h3 xb tb ob rb rs most w d.told d.over:=by
      have out:∀{c:Nat} {cs:List AV} {t:TypeId} {g:Bool},h1[c]?=some (.cells cs t g)->t≠99->¬(c=nk/\d.ns.length≠0):=fun hc ht e=>by
       have:=(I.n e.2).1
       rw[<-e.1,hc] at this
       simp only[Option.some.injEq,AObj.cells.injEq] at this
       exact ht this.2.1
      exact I.r.keep o3 (out I.r.hdr (by decide)) (out I.r.tl (by decide)) (out I.r.ol (by decide)) fun c cs t ht hc=>out hc (by rcases ht with rfl|rfl<;>decide)
     have n3:(notesSl nk3 (d.ns++[(⟨0,w.length,4⟩:Note)])).notTup=true:=notesSl_nt
     have hfin:R' (.tup [notesSl nk3 (d.ns++[⟨0,w.length,4⟩]),.int .i64 4]) h3:=by
      rw[hR']
      have e1:finN d w=d.ns++[⟨0,w.length,4⟩]:=by simp[finN,hov]
      have e2:finW d=4:=by simp[finW,hov]
      rw[e1,e2]
      exact⟨_,rfl,n3,⟨nk3,rfl,fun _=>d3⟩,R3,I.o.trans (o3.mono fun c _ e=>.inr (.inr (by rw[e.1];exact (I.n e.2).2)))⟩
     clear hR'
     simp only[noteC] at e4' e5
     generalize notesSl nk d.ns=x1 at *
     generalize notesSl nk3 (d.ns++[(⟨0,w.length,4⟩:Note)])=x4 at *
     generalize rulesSl rb rs=x2 at *
     simp[-AV.notTup,n1,n3,nr,notTup_ptr,c118_l4,c118_r4,c118_r14,c118_r15,c118_r16,c118_r17,fieldA,q0,q2,len1,alenS,hrl',abuild,abuildSlice,afill,zeros,splice,e4',e5]
     exact⟨rfl,hfin⟩
 obtain⟨r,h',e,v,rfl,rest⟩:=key
 exact⟨v,h',e,rest⟩
theorem ref_begin(R:RefAt h xb tb ob rb rs most w told over)(hw:w.length<=100000)(hrl:rs.length<=1000){d:DS}(hd:d=docAll most w rs told over):
  ∃v h',D cfg 88 [refP xb] h=some (.tup [v,.int .i64 (finW d)],h')/\v.notTup=true/\NotesAt h' v (finN d w)/\RefAt h' xb tb ob rb rs most w d.told d.over/\Only (fun c=>c=tb\/c=ob\/h.length<=c) h h':=by
 obtain⟨v,h',e,hv,rest⟩:=asks_run R hw hrl hd
 refine⟨v,h',?_,hv,rest⟩
 refine D_eq (call88 (R:=fun r h''=>r=_/\h''=h') (by simp) ?_)
 generalize finW d=W at *
 simp[-AV.notTup,hv,notTup_ptr,c88,c88_r0,c88_r1,e,extractV]
 try rfl
theorem ref_step(R:RefAt h xb tb ob rb rs most w told over)(hw:w.length<=10000)(hrl:rs.length<=1000){b:UInt8}{d:DS}(hd:d=docAll most (w++[b]) rs told over):
  ∃v h',D cfg 90 [refP xb,.int .u8 b.toNat] h=some (.tup [v,.int .i64 (finW d)],h')/\v.notTup=true/\NotesAt h' v (finN d (w++[b]))/\RefAt h' xb tb ob rb rs most (w++[b]) d.told d.over/\Only (fun c=>c=xb\/c=tb\/c=ob\/h.length<=c) h h':=by
 obtain⟨h1,hh1⟩:∃h1,h++[AObj.cells [.int .u8 b.toNat] 5 true]=h1:=⟨_,rfl⟩
 have o1:Only (fun _=>False) h h1:=by rw[<-hh1];exact .app
 have g1:h1[h.length]?=some (.cells [.int .u8 b.toNat] 5 true):=by rw[<-hh1];simp
 have R1:=R.same o1
 have st:=cell_store R1.hdr (n:=5) rfl (t:=9) (by simp) (off:=2) (v:=.str (w++[b])) rfl (by omega)
 obtain⟨h2,hh2⟩:∃h2,h1.set xb (.cells (refC (rulesSl rb rs) most (w++[b]) (endSl tb rs.length) (endSl ob rs.length)) 176 false)=h2:=⟨_,rfl⟩
 have st':astore Try.prog (look h1) 9 (.ptr (some ⟨xb,2,5⟩)) (.str (w++[b]))=some (.set xb (.cells (refC (rulesSl rb rs) most (w++[b]) (endSl tb rs.length) (endSl ob rs.length)) 176 false)):=st
 have o2:Only (fun c=>c=xb) h1 h2:=by rw[<-hh2];exact .set rfl
 have notx:∀{c:Nat} {cs:List AV} {t:TypeId},h1[c]?=some (.cells cs t true)->¬c=xb:=fun hc e=>by
  rw[e,R1.hdr] at hc;simp at hc
 have R2:RefAt h2 xb tb ob rb rs most (w++[b]) told over:=
  ⟨by rw[<-hh2];exact at_same (lt_of_at R1.hdr),R1.ri.keep o2 fun c cs t _ hc=>notx hc,o2.at R1.tl (notx R1.tl),o2.at R1.ol (notx R1.ol),R1.lt,R1.lo,R1.ne⟩
 obtain⟨v,h',e,hv,N,R3,o3⟩:=asks_run R2 (by simp;omega) hrl hd
 have L1:=o1.1
 have L2:=o2.1
 refine⟨v,h',?_,hv,N,R3,((o1.mono fun _ _=>False.elim).trans (o2.mono fun c _ e=>.inl e)).trans (o3.mono fun c _ e=>?_)⟩
 . refine D_eq (call90 (R:=fun r h''=>r=_/\h''=h') (by simp) ?_)
   have q2:=cell_load R1.hdr (n:=5) rfl (t:=9) (by simp) (off:=2) rfl
   have q2':=cell_load R.hdr (n:=5) rfl (t:=9) (by simp) (off:=2) rfl
   have hcb:cellBytes [AV.int .u8 (b.toNat:Int)]=some [b]:=by
    simp[cellBytes]
   have hwl:w.length+1<=9223372036854775807:=by omega
   have cv:aconv Try.prog (look h1) h1.length 25 9 (.sl (some ⟨h.length,0,1⟩) 1 1)=some (.str [b],.no):=by
    simp[aconv,slCells,AM.row,g1,hcb]
   generalize finW d=W at *
   generalize rulesSl rb rs=x2 at *
   simp[-AV.notTup,hv,notTup_ptr,c90,c90_r0,c90_r1,c90_r2,fieldA,q2',abuildSlice,afill,zeros,splice,hh1,cv,abin_addS,hwl,st',hh2,e,extractV]
   try rfl
 . rcases e with e|e|e
   . exact .inr (.inl e)
   . exact .inr (.inr (.inl e))
   . exact .inr (.inr (.inr (by omega)))
theorem maxL_snoc{w x:Int}{l:List Int}:maxL w (l++[x])=max (maxL w l) x:=by simp[maxL]
def candTo(rs:List RuleV)(w:Txt)(told over:List Bool):Nat->Int
 |0=>0
 |i+1=>match rs[i]? with
  |some r=>if nth over i || nth told i then candTo rs w told over i else maxL (candTo rs w told over i) (keptDoc r.conts w)
  |none=>candTo rs w told over i
abbrev env91(xb:Nat)(n:Int)(i:Nat):Env:=[(0,refP xb),(3,.int .i64 n),(4,.int .i64 i)]
abbrev env91b(xb:Nat)(n:Int)(i:Nat)(v:AV)(j:Nat):Env:=[(0,refP xb),(3,.int .i64 n),(4,.int .i64 i),(5,v),(6,.int .i64 j)]
def In91(h₀:Heap)(xb tb ob rb most:Nat)(rs:List RuleV)(w:Txt)(told over:List Bool)(m:Nat)(σ:St):Prop:=
 ∃i h,m=rs.length-i/\i<=rs.length/\σ=⟨env91 xb (candTo rs w told over i) i,h⟩/\RefAt h xb tb ob rb rs most w told over/\Only (fun _=>False) h₀ h
def In91b(h:Heap)(xb:Nat)(n0:Int)(i:Nat)(v:AV)(l:List Int)(m:Nat)(σ:St):Prop:=
 ∃j,m=l.length-j/\j<=l.length/\σ=⟨env91b xb (maxL n0 (l.take j)) i v j,h⟩
theorem cands_in{h:Heap}{xb i:Nat}{n0:Int}{v:AV}{l:List Int}(hv:Sl1 h v (intCells l))(hl:l.length<=1000000){Q:AExit->St->Prop}
  (hq:Q (.exit 2) ⟨env91b xb (maxL n0 l) i v l.length++[(48,.bool false)],h⟩):
  Wt Try.prog (D cfg) (.loop c91_l8 (some [0,3,4,5,6])) ⟨env91b xb n0 i v 0,h⟩ Q:=by
 have hvt:v.notTup=true:=by rcases hv with⟨rfl,_⟩|⟨_,_,_,_,_,rfl,_,_⟩<;>rfl
 have hlen:=fun L=>hv.len (t:=30) (e:=3) (by simp) (L:=L)
 simp only[intCells_len] at hlen
 refine Wt.loop (In91b h xb n0 i v l) (m:=l.length) ⟨0,rfl,Nat.zero_le _,rfl⟩ ?_
 rintro m σ ⟨j,rfl,hj,rfl⟩
 have hcut:∀n,cut (some [0,3,4,5,6]) (env91b xb n i v j)=env91b xb n i v j:=fun _=>by simp
 simp only[hcut]
 by_cases hjl:j<l.length
 . have hjl':(j:Int)<l.length:=by omega
   have hwr:IntKind.wrap .i64 ((j:Int)+1)=j+1:=wrap_i64 (by omega) (by omega)
   have a1:=hv.at (t:=30) (e:=3) (by simp) (by simp) (i:=j) (by rw[intCells_len];exact hjl)
   have b1:=hv.load (e:=3) (by simp) (i:=j) (by rw[intCells_len];exact hjl)
   rw[intCells_get] at b1
   have hm:maxL n0 (l.take (j+1))=max (maxL n0 (l.take j)) l[j]:=by rw[List.take_succ_eq_append_getElem hjl,maxL_snoc]
   have hnext:In91b h xb n0 i v l (l.length-(j+1)) ⟨env91b xb (max (maxL n0 (l.take j)) l[j]) i v (j+1),h⟩:=⟨j+1,rfl,hjl,by rw[hm]⟩
   simp only[env91b] at hnext
   generalize maxL n0 (l.take j)=w0 at *
   generalize l[j]=x at *
   simp[-AV.notTup,hvt,notTup_ptr,c91_l8,c91_r8,c91_r9,c91_r10,len1,hlen,hjl,hjl',a1,b1,max2,hwr]
   exact⟨l.length-(j+1),by omega,by simpa using hnext⟩
 . have hj2:j=l.length:=by omega
   subst hj2
   rw[List.take_length]
   simp only[env91b] at hq
   generalize maxL n0 l=w0 at *
   simp[-AV.notTup,hvt,notTup_ptr,c91_l8,c91_r8,len1,hlen]
   simpa using hq
theorem cands_doc(R:RefAt h xb tb ob rb rs most w told over)(hw:w.length<=100000)(hrl:rs.length<=1000):
  ∃h',D cfg 91 [refP xb] h=some (.int .i64 (candTo rs w told over rs.length),h')/\RefAt h' xb tb ob rb rs most w told over/\Only (fun _=>False) h h':=by
 have key:∃r h',D cfg 91 [refP xb] h=some (r,h')/\(r=.int .i64 (candTo rs w told over rs.length)/\RefAt h' xb tb ob rb rs most w told over/\Only (fun _=>False) h h'):=by
  refine call91 (R:=fun r h'=>r=.int .i64 (candTo rs w told over rs.length)/\RefAt h' xb tb ob rb rs most w told over/\Only (fun _=>False) h h') (args:=[refP xb]) (h:=h) (by simp) ?_
  simp[-AV.notTup,notTup_ptr,c91,c91_r0,c91_r1,c91_r2]
  refine Wt.loop (In91 h xb tb ob rb most rs w told over) (m:=rs.length) ⟨0,h,rfl,Nat.zero_le _,rfl,R,.refl⟩ ?_
  rintro m σ ⟨i,h1,rfl,hi,rfl,R1,o1⟩
  have hcut:∀n,cut (some [0,3,4]) (env91 xb n i)=env91 xb n i:=fun _=>by simp
  simp only[hcut]
  have hrl':=fun L=>R1.ri.len (L:=L)
  have q0:=cell_load R1.hdr (n:=5) rfl (t:=89) (by simp) (off:=0) rfl
  have q2:=cell_load R1.hdr (n:=5) rfl (t:=9) (by simp) (off:=2) rfl
  have q3:=cell_load R1.hdr (n:=5) rfl (t:=68) (by simp) (off:=3) rfl
  have q4:=cell_load R1.hdr (n:=5) rfl (t:=68) (by simp) (off:=4) rfl
  have nr:(rulesSl rb rs).notTup=true:=rulesSl_nt
  by_cases hil:i<rs.length
  . have hil':(i:Int)<rs.length:=by omega
    have hwr:IntKind.wrap .i64 ((i:Int)+1)=i+1:=wrap_i64 (by omega) (by omega)
    obtain⟨t1,t2,_⟩:=bool_at R1.tl R1.lt hil
    obtain⟨v1,v2,_⟩:=bool_at R1.ol R1.lo hil
    obtain⟨a1,_,a3⟩:=R1.ri.at hil
    obtain⟨r,hr⟩:∃r,r=rs[i]:=⟨_,rfl⟩
    have okr:=R1.ri.ok _ (List.getElem_mem hil)
    have hvc:=R1.ri.cs _ (List.getElem_mem hil)
    rw[<-hr] at a3 okr hvc
    have hvt:r.cv.notTup=true:=by rcases hvc with⟨e,_⟩|⟨_,_,_,_,e,_,_⟩<;>rw[e]<;>rfl
    have hsucc:candTo rs w told over (i+1)=if nth over i || nth told i then candTo rs w told over i else maxL (candTo rs w told over i) (keptDoc r.conts w):=by
     simp only[candTo,List.getElem?_eq_getElem hil,<-hr]
    by_cases hdead:(nth over i || nth told i)=true
    . rw[if_pos hdead] at hsucc
      have hnext:In91 h xb tb ob rb most rs w told over (rs.length-(i+1)) ⟨env91 xb (candTo rs w told over i) (i+1),h1⟩:=⟨i+1,h1,rfl,hil,by rw[hsucc],R1,o1⟩
      simp only[env91] at hnext
      generalize candTo rs w told over i=n0 at *
      generalize rulesSl rb rs=x2 at *
      cases hov:nth over i with
      |true=>
       rw[hov] at v2
       simp[-AV.notTup,nr,hvt,notTup_ptr,c91_l3,c91_r3,c91_r4,c91_r5,fieldA,q0,q3,q4,len1,hrl',hil,hil',v1,v2,hwr]
       exact⟨rs.length-(i+1),by omega,by simpa using hnext⟩
      |false=>
       rw[hov] at hdead v2
       have ht:nth told i=true:=by simpa using hdead
       rw[ht] at t2
       simp[-AV.notTup,nr,hvt,notTup_ptr,c91_l3,c91_r3,c91_r4,c91_r5,fieldA,q0,q3,q4,len1,hrl',hil,hil',t1,t2,v1,v2,hwr]
       exact⟨rs.length-(i+1),by omega,by simpa using hnext⟩
    . rw[if_neg hdead] at hsucc
      have ht:nth told i=false:=by cases h:nth told i<;>simp[h] at hdead ⊢
      have hov:nth over i=false:=by cases h:nth over i<;>simp[h] at hdead ⊢
      rw[ht] at t2
      rw[hov] at v2
      obtain⟨kv,h2,e2,hkv,o2⟩:=kept_doc (t:=w) hvc okr.small okr.few hw
      have kvt:kv.notTup=true:=by rcases hkv with⟨rfl,_⟩|⟨_,_,_,_,_,rfl,_,_⟩<;>rfl
      have hkl:(keptDoc r.conts w).length<=1000000:=by
       have h5:(posA r.conts).length<=r.conts.length:=posTo_len_le
       have h6:=okr.few
       simp only[keptDoc,List.length_map,List.length_range]
       omega
      have hloop:=fun Q hq=>cands_in (xb:=xb) (i:=i) (n0:=candTo rs w told over i) (Q:=Q) hkv hkl hq
      have hnext:In91 h xb tb ob rb most rs w told over (rs.length-(i+1)) ⟨env91 xb (maxL (candTo rs w told over i) (keptDoc r.conts w)) (i+1),h2⟩:=⟨i+1,h2,rfl,hil,by rw[hsucc],R1.same o2,o1.trans o2⟩
      simp only[env91,env91b] at hnext hloop
      rw[show ((0:Nat):Int)=0 from rfl] at hloop
      generalize maxL (candTo rs w told over i) (keptDoc r.conts w)=n1 at *
      generalize candTo rs w told over i=n0 at *
      generalize rulesSl rb rs=x2 at *
      generalize (rulesC rs).length=G at *
      simp[-AV.notTup,nr,hvt,kvt,notTup_ptr,c91_l3,c91_r3,c91_r5,c91_r6,c91_r7,fieldA,q0,q2,q3,q4,len1,hrl',hil,hil',t1,t2,v1,v2,a1,a3,e2]
      refine hloop _ ?_
      simp[-AV.notTup,nr,hvt,kvt,notTup_ptr,c91_r4,hwr]
      exact⟨rs.length-(i+1),by omega,by simpa using hnext⟩
  . have hi2:i=rs.length:=by omega
    subst hi2
    obtain⟨n0,hn0⟩:∃n0,candTo rs w told over rs.length=n0:=⟨_,rfl⟩
    rw[hn0]
    generalize rulesSl rb rs=x2 at *
    simp[-AV.notTup,nr,notTup_ptr,c91_l3,c91_r3,c91_r11,fieldA,q0,len1,hrl']
    exact⟨rfl,R1,o1⟩
 obtain⟨r,h',e,rfl,h1,h2⟩:=key
 exact⟨h',e,h1,h2⟩
end
end
theorem copy_conts3{h:Heap}{v:AV}{l:List Cont}(H:SlC h v l)(hl:l.length<=1000):∃v' δ h',append2 Try.prog (look h) h.length 42 42 [.sl none 0 0,v]=some (v',δ)/\h.apply δ=h'/\SlC h' v' l/\Only (fun _=>False) h h'/\v'.plain=true/\v'.notTup=true /\
  ∀b,slB v'=some b->∃cs,h'[b]?=some (.cells cs 52 true)/\∀x∈cs,x.plain=true:=by
 rcases H with⟨rfl,rfl⟩|⟨b,g,c,cs,rfl,h1,h2⟩
 . exact⟨.sl none 0 0,.no,h,by simp[append2,aappend,srcCells,aappendE],rfl,.inl ⟨rfl,rfl⟩,.refl,rfl,rfl,fun b hb=>by simp[slB] at hb⟩
 . by_cases hl0:l.length=0
   . have:l=[]:=List.length_eq_zero_iff.1 hl0
     subst this
     exact⟨.sl none 0 0,.no,h,by simp[append2,aappend,srcCells,aappendE],rfl,.inl ⟨rfl,rfl⟩,.refl,rfl,rfl,fun b hb=>by simp[slB] at hb⟩
   . have hge:l.length*8<=cs.length:=by
      have h3:=h2 (l.length-1) _ (List.getElem?_eq_getElem (by omega))
      have:=congrArg List.length h3
      rw[List.length_take,List.length_drop] at this
      simp[contCell] at this
      omega
     have hsrc:srcCells Try.prog (look h) 52 (.sl (some ⟨b,0,g⟩) l.length c)=some (l.length,cs.take (l.length*8)):=by
      simp[srcCells,hl0,slCells,h1,hge]
     have hby:Try.prog.bytesOf 52<=100:=by simp
     have hroom:l.length*Try.prog.bytesOf 52<=roomMax:=by
      have:=Nat.mul_le_mul hl hby
      simp only[roomMax]
      omega
     have hlen:(cs.take (l.length*8)).length=l.length*8:=by rw[List.length_take];omega
     have hflat:cs.take (l.length*8)=l.flatMap contCell:=by
      have key:∀n,n<=l.length->cs.take (n*8)=(l.take n).flatMap contCell:=by
       intro n
       induction n with
       |zero=>intro _;simp
       |succ n ih=>
        intro hn
        have hc:=h2 n l[n] (List.getElem?_eq_getElem (by omega))
        rw[List.take_succ_eq_append_getElem (by omega),List.flatMap_append,<-ih (by omega),show (n+1)*8=n*8+8 by omega,List.take_add,hc]
        simp
      have:=key l.length (Nat.le_refl _)
      rwa[List.take_length] at this
     refine⟨.sl (some ⟨h.length,0,(cs.take (l.length*8)).length⟩) l.length l.length,.new (.cells (cs.take (l.length*8)) 52 true),h++[.cells (cs.take (l.length*8)) 52 true],?_,rfl,.inr ⟨h.length,l.length*8,l.length,cs.take (l.length*8),by rw[hlen],?_,?_⟩,.app,rfl,rfl,fun b' hb'=>?_⟩
     . have h9:l.length<=9223372036854775807:=by omega
       have hz:zeroOK Try.prog 52=true:=by simp
       have hpos:0<tsz Try.prog 52:=by simp
       have ht:tk Try.prog 42=.slice 52:=by simp
       simp only[append2,aappend,ht,hsrc,hpos,if_true,aappendE,hl0,if_false]
       simp only[hroom,h9,hz,and_self,if_true,hlen]
     . simp[AM.row,look_at,hlen]
     . intro i c hc
       have hi:=(List.getElem?_eq_some_iff.1 hc).1
       rw[List.drop_take,List.take_take,Nat.min_eq_left (by omega)]
       exact h2 i c hc
     . simp only[slB,Option.some.injEq] at hb'
       subst hb'
       exact⟨cs.take (l.length*8),by simp,by rw[hflat];exact contCells_plain⟩
theorem Sl2.copy{h:Heap}{t e:TypeId}(ht:tk Try.prog t=.slice e)(hk:tsz Try.prog e=2)(hz:zeroOK Try.prog e=true)(hby:Try.prog.bytesOf e<=100){v:AV}(H:Sl2 h e v):
  ∃v' δ h',append2 Try.prog (look h) h.length t t [.sl none 0 0,v]=some (v',δ)/\h.apply δ=h'/\Sl2 h' e v'/\Only (fun _=>False) h h'/\∀c,c<h.length->(touchD h.length δ).same c=true:=by
 rcases H with rfl|⟨b,x,y,rfl,h1,h2,h3⟩
 . exact⟨.sl none 0 0,.no,h,by simp[append2,aappend,ht,hk,srcCells,aappendE],rfl,.inl rfl,.refl,fun _ _=>rfl⟩
 . have hsrc:srcCells Try.prog (look h) e (.sl (some ⟨b,0,2⟩) 1 1)=some (1,[x,y]):=by
    simp[srcCells,slCells,AM.row,h1,hk]
   have hroom:Try.prog.bytesOf e<=roomMax:=by simp only[roomMax];omega
   refine⟨.sl (some ⟨h.length,0,2⟩) 1 1,.new (.cells [x,y] e true),h++[.cells [x,y] e true],?_,rfl,.inr ⟨h.length,x,y,rfl,by simp,h2,h3⟩,.app,fun c hc=>?_⟩
   . simp only[append2,aappend,ht,hk,hsrc]
     simp[aappendE,hroom,hz]
   . simp[touchD,Touch.same];omega
theorem copy_nil{L:Look}{n:Nat}{t e:TypeId}(ht:tk Try.prog t=.slice e)(hk:0<tsz Try.prog e):append2 Try.prog L n t t [.sl none 0 0,.sl none 0 0]=some (.sl none 0 0,.no):=by
 simp[append2,aappend,ht,hk,srcCells,aappendE]
theorem store_rule{h:Heap}{rc:List AV}(hl:rc.length=15)(ho:∀y∈rc,y.one=true):astore Try.prog (look (h++[AObj.cells [.int .i64 0,.int .i64 0,.bool false,.sl none 0 0,.bool false,.sl none 0 0,.bool false,.sl none 0 0,.bool false,.sl none 0 0,.bool false,.int .i64 0,.sl none 0 0,.int .i64 0,.int .i64 0] 107 false])) 107 (.ptr (some ⟨h.length,0,15⟩)) (.agg rc)=some (.set h.length (.cells rc 107 false)):=by
 simp only[astore,look_at]
 rw[at_new0]
 simp[-AV.one,one_agg,hl,ho,splice,cells_agg]
 exact ho
def SameR(rs rs':List RuleV):Prop:=rs.map (fun r=>(r.sid,r.action,r.conts))=rs'.map (fun r=>(r.sid,r.action,r.conts))
abbrev env86(rv ov:AV)(i:Nat):Env:=[(0,rv),(3,ov),(4,.int .i64 i)]
def In86(h₀:Heap)(rv:AV)(rs:List RuleV)(m:Nat)(σ:St):Prop:=
 ∃i rb' rs' h,m=rs.length-i/\i<=rs.length/\σ=⟨env86 rv (rulesSl rb' rs') i,h⟩/\RulesIn h rb' rs'/\SameR rs' (rs.take i)/\(rs'.length≠0->h₀.length<=rb')/\Only (fun _=>False) h₀ h
theorem copy_rules{h:Heap}{rb:Nat}{rs:List RuleV}(RI:RulesIn h rb rs)(hS:∀r∈rs,SubOK h r)(hrl:rs.length<=1000):
  ∃rb' rs' h',D cfg 86 [rulesSl rb rs] h=some (rulesSl rb' rs',h')/\RulesIn h' rb' rs'/\SameR rs' rs/\Only (fun _=>False) h h':=by
 have hrv:(rulesSl rb rs).notTup=true:=rulesSl_nt
 have hrl':=fun L=>RI.len (L:=L)
 have key:∃r h',D cfg 86 [rulesSl rb rs] h=some (r,h')/\∃rb' rs',r=rulesSl rb' rs'/\RulesIn h' rb' rs'/\SameR rs' rs/\Only (fun _=>False) h h':=by
  obtain⟨R',hR'⟩:∃R':AV->Heap->Prop,R'=fun r h'=>∃rb' rs',r=rulesSl rb' rs'/\RulesIn h' rb' rs'/\SameR rs' rs/\Only (fun _=>False) h h':=⟨_,rfl⟩
  suffices hs:∃r h',D cfg 86 [rulesSl rb rs] h=some (r,h')/\R' r h' by
   obtain⟨r,h',e,hr⟩:=hs
   rw[hR'] at hr
   exact⟨r,h',e,hr⟩
  refine call86 (R:=R') (args:=[rulesSl rb rs]) (h:=h) (by simp) ?_
  obtain⟨rv,hrvE⟩:∃rv,rulesSl rb rs=rv:=⟨_,rfl⟩
  rw[hrvE] at hrv hrl' ⊢
  simp[-AV.notTup,hrv,c86,c86_r0,c86_r1,c86_r2]
  refine Wt.loop (In86 h rv rs) (m:=rs.length) ⟨0,0,[],h,rfl,Nat.zero_le _,by simp[rulesSl,bufSl],⟨fun e=>absurd rfl e,fun r hr=>by simp at hr,fun r hr=>by simp at hr,fun r hr=>by simp at hr⟩,rfl,fun e=>absurd rfl e,.refl⟩ ?_
  rintro m σ ⟨i,rb1,rs1,h1,rfl,hi,rfl,J,hsm,hfr,o1⟩
  have hcut:∀v,cut (some [0,3,4]) (env86 rv v i)=env86 rv v i:=fun _=>by simp
  simp only[hcut]
  have n1:(rulesSl rb1 rs1).notTup=true:=rulesSl_nt
  have hl1:rs1.length=i:=by
   have:=congrArg List.length hsm
   simp at this
   omega
  by_cases hil:i<rs.length
  . have hil':(i:Int)<rs.length:=by omega
    have hwr:IntKind.wrap .i64 ((i:Int)+1)=i+1:=wrap_i64 (by omega) (by omega)
    have RI1:=RI.same o1
    obtain⟨a1,a2,_⟩:=RI1.at hil
    obtain⟨r,hr⟩:∃r,r=rs[i]:=⟨_,rfl⟩
    have okr:=RI1.ok _ (List.getElem_mem hil)
    have hvc:=RI1.cs _ (List.getElem_mem hil)
    have hsub:=hS _ (List.getElem_mem hil)
    rw[<-hr] at a2 okr hvc hsub
    obtain⟨ac,pr,f1,fs,t1,ts,bo,fl,si,re,hrc,sf,stt⟩:=hsub
    rw[hrvE] at a1
    obtain⟨h2,hh2⟩:∃h2,h1++[AObj.cells r.rc 107 false]=h2:=⟨_,rfl⟩
    have o2:Only (fun _=>False) h1 h2:=by rw[<-hh2];exact .app
    have b2:h2[h1.length]?=some (.cells (box80 ac pr f1 fs t1 ts bo fl r.cv si re) 107 false):=by rw[<-hh2,<-hrc];simp
    have sr:=store_rule (h:=h1) okr.len fun y hy=>plain_one (okr.plain y hy)
    have sf2:=(sf.keep o1 fun _ _ _=>id).keep o2 fun _ _ _=>id
    have st2:=(stt.keep o1 fun _ _ _=>id).keep o2 fun _ _ _=>id
    obtain⟨fs',δ3,h3,e3,f3,sf3,o3,t3⟩:=sf2.copy (t:=100) (e:=158) (by simp) (by simp) (by simp) (by simp)
    have b3:=o3.at b2 id
    have hlt2:=lt_of_at b2
    have t3':=t3 h1.length hlt2
    have l3:=cell_load b2 (n:=15) rfl (t:=100) (by simp) (off:=3) rfl
    have l7:=cell_load b3 (n:=15) rfl (t:=100) (by simp) (off:=7) rfl
    have s3:=cell_store b3 (n:=15) rfl (t:=100) (by simp) (off:=3) (v:=fs') (plain_one sf3.plain) (by omega)
    obtain⟨h4,hh4⟩:∃h4,h3.set h1.length (.cells (box80 ac pr f1 fs' t1 ts bo fl r.cv si re) 107 false)=h4:=⟨_,rfl⟩
    have s3':astore Try.prog (look h3) 100 (.ptr (some ⟨h1.length,3,15⟩)) fs'=some (.set h1.length (.cells (box80 ac pr f1 fs' t1 ts bo fl r.cv si re) 107 false)):=s3
    have o4:Only (fun c=>c=h1.length) h3 h4:=by rw[<-hh4];exact .set rfl
    have b4:h4[h1.length]?=some (.cells (box80 ac pr f1 fs' t1 ts bo fl r.cv si re) 107 false):=by rw[<-hh4];exact at_same (lt_of_at b3)
    have s4:=cell_store b4 (n:=15) rfl (t:=100) (by simp) (off:=7) (v:=.sl none 0 0) rfl (by omega)
    have s4':astore Try.prog (look h4) 100 (.ptr (some ⟨h1.length,7,15⟩)) (.sl none 0 0)=some (.set h1.length (.cells (box80 ac pr f1 fs' t1 ts bo fl r.cv si re) 107 false)):=s4
    have hid4:h4.set h1.length (.cells (box80 ac pr f1 fs' t1 ts bo fl r.cv si re) 107 false)=h4:=set_id b4
    have notb:∀{h':Heap} {cs0:List AV},h'[h1.length]?=some (.cells cs0 107 false)->∀(c:Nat) (cs:List AV) (t:TypeId),h'[c]?=some (.cells cs t true)->¬c=h1.length:=fun hb c cs t hc e=>by
     rw[e,hb] at hc;simp at hc
    have st4:=(st2.keep o3 fun _ _ _=>id).keep o4 fun c cs hc=>notb b3 c cs _ hc
    obtain⟨ts',δ5,h5,e5,f5,sf5,o5,t5⟩:=st4.copy (t:=103) (e:=155) (by simp) (by simp) (by simp) (by simp)
    have b5:=o5.at b4 id
    have l5:=cell_load b4 (n:=15) rfl (t:=103) (by simp) (off:=5) rfl
    have l9:=cell_load b4 (n:=15) rfl (t:=103) (by simp) (off:=9) rfl
    have s5:=cell_store b5 (n:=15) rfl (t:=103) (by simp) (off:=5) (v:=.sl none 0 0) rfl (by omega)
    have s5':astore Try.prog (look h5) 103 (.ptr (some ⟨h1.length,5,15⟩)) (.sl none 0 0)=some (.set h1.length (.cells (box80 ac pr f1 fs' t1 ts bo fl r.cv si re) 107 false)):=s5
    have hid5:h5.set h1.length (.cells (box80 ac pr f1 fs' t1 ts bo fl r.cv si re) 107 false)=h5:=set_id b5
    have s6:=cell_store b5 (n:=15) rfl (t:=103) (by simp) (off:=9) (v:=ts') (plain_one sf5.plain) (by omega)
    obtain⟨h6,hh6⟩:∃h6,h5.set h1.length (.cells (box80 ac pr f1 fs' t1 ts' bo fl r.cv si re) 107 false)=h6:=⟨_,rfl⟩
    have s6':astore Try.prog (look h5) 103 (.ptr (some ⟨h1.length,9,15⟩)) ts'=some (.set h1.length (.cells (box80 ac pr f1 fs' t1 ts' bo fl r.cv si re) 107 false)):=s6
    have o6:Only (fun c=>c=h1.length) h5 h6:=by rw[<-hh6];exact .set rfl
    have b6:h6[h1.length]?=some (.cells (box80 ac pr f1 fs' t1 ts' bo fl r.cv si re) 107 false):=by rw[<-hh6];exact at_same (lt_of_at b5)
    have o26:Only (fun _=>False) h1 h6:=(((o2.trans o3).fresh o4 fun c hc=>by omega).trans o5).fresh o6 fun c hc=>by omega
    obtain⟨cv',δ7,h7,e7,f7,sc7,o7,cpl,cnt,cq7⟩:=copy_conts3 (hvc.same o26) okr.few
    have l12:=cell_load b6 (n:=15) rfl (t:=42) (by simp) (off:=12) rfl
    have b7:=o7.at b6 id
    have s7:=cell_store b7 (n:=15) rfl (t:=42) (by simp) (off:=12) (v:=cv') (plain_one cpl) (by omega)
    obtain⟨h8,hh8⟩:∃h8,h7.set h1.length (.cells (box80 ac pr f1 fs' t1 ts' bo fl cv' si re) 107 false)=h8:=⟨_,rfl⟩
    have s7':astore Try.prog (look h7) 42 (.ptr (some ⟨h1.length,12,15⟩)) cv'=some (.set h1.length (.cells (box80 ac pr f1 fs' t1 ts' bo fl cv' si re) 107 false)):=s7
    have o8:Only (fun c=>c=h1.length) h7 h8:=by rw[<-hh8];exact .set rfl
    have b8:h8[h1.length]?=some (.cells (box80 ac pr f1 fs' t1 ts' bo fl cv' si re) 107 false):=by rw[<-hh8];exact at_same (lt_of_at b7)
    have l15:aload Try.prog (look h8) 107 (.ptr (some ⟨h1.length,0,15⟩))=some (.agg (box80 ac pr f1 fs' t1 ts' bo fl cv' si re)):=by simp[aload,AM.row,b8,box80]
    have o18:Only (fun _=>False) h1 h8:=(o26.trans o7).fresh o8 fun c hc=>by omega
    obtain⟨rc',hrc'⟩:∃rc',box80 ac pr f1 fs' t1 ts' bo fl cv' si re=rc':=⟨_,rfl⟩
    have hsi:si=r.sid:=by
     have:=okr.sid
     rw[hrc] at this
     simpa[box80] using this
    have hac:ac=r.action:=by
     have:=okr.act
     rw[hrc] at this
     simpa[box80] using this
    have rok:(⟨rc',r.action,r.sid,cv',r.conts⟩:RuleV).ok:=by
     refine⟨by rw[<-hrc'];rfl,by rw[<-hrc',hac];rfl,by rw[<-hrc',hsi];rfl,by rw[<-hrc'];rfl,okr.few,okr.small,?_⟩
     intro y hy
     rw[show (⟨rc',r.action,r.sid,cv',r.conts⟩:RuleV).rc=rc' from rfl,<-hrc'] at hy
     have p1:=sf3.plain
     have p2:=sf5.plain
     simp[box80] at hy
     rcases hy with rfl|rfl|rfl|rfl|rfl|rfl|rfl|rfl|rfl|rfl|rfl|rfl|rfl|rfl|rfl<;>first|rfl|assumption
    have sc8:SlC h8 cv' r.conts:=sc7.keep o8 fun b hb e=>by
     obtain⟨cs,q1,_⟩:=cq7 b hb
     exact notb b7 _ _ _ q1 e
    have cq8:∀b,slB cv'=some b->∃cs,h8[b]?=some (.cells cs 52 true)/\∀x∈cs,x.plain=true:=fun b hb=>by
     obtain⟨cs,q1,q2⟩:=cq7 b hb
     exact⟨cs,o8.at q1 (notb b7 _ _ _ q1),q2⟩
    obtain⟨δ9,h9,rb2,e9,f9,J9,o9,hrb2⟩:=(J.same o18).snoc rok sc8 cq8 (by omega)
    have hnext:In86 h rv rs (rs.length-(i+1)) ⟨env86 rv (rulesSl rb2 (rs1++[⟨rc',r.action,r.sid,cv',r.conts⟩])) (i+1),h9⟩:=by
     refine⟨i+1,rb2,_,h9,rfl,hil,rfl,J9,?_,fun _=>?_,(o1.trans o18).fresh o9 fun c hc=>by rw[hc.1];exact hfr hc.2⟩
     . unfold SameR at hsm ⊢
       rw[List.map_append,hsm,List.take_succ_eq_append_getElem hil,List.map_append,<-hr]
       rfl
     . have:=o1.1
       have:=o18.1
       rcases hrb2 with e|⟨e,e'⟩
       . omega
       . rw[e'];exact hfr e
    have n2:(rulesSl rb2 (rs1++[(⟨rc',r.action,r.sid,cv',r.conts⟩:RuleV)])).notTup=true:=rulesSl_nt
    have okl:=rok.len
    have bs:=fun n=>build_rule (n:=n) (rc:=rc') rok.len fun y hy=>plain_one (rok.plain y hy)
    rw[hrc'] at l15
    have cn0:=fun L n=>copy_nil (L:=L) (n:=n) (t:=100) (e:=158) (by simp) (by simp)
    have cn1:=fun L n=>copy_nil (L:=L) (n:=n) (t:=103) (e:=155) (by simp) (by simp)
    have fnt:fs'.notTup=true:=by rcases sf3 with rfl|⟨_,_,_,rfl,_⟩<;>rfl
    have tnt:ts'.notTup=true:=by rcases sf5 with rfl|⟨_,_,_,rfl,_⟩<;>rfl
    have fn0:fs.notTup=true:=by rcases sf with rfl|⟨_,_,_,rfl,_⟩<;>rfl
    have tn0:ts.notTup=true:=by rcases stt with rfl|⟨_,_,_,rfl,_⟩<;>rfl
    have hvt:r.cv.notTup=true:=by rcases hvc with⟨e,_⟩|⟨_,_,_,_,e,_,_⟩<;>rw[e]<;>rfl
    have sm0:sameAt h4 h4 h1.length=true:=by
     refine sameAt_of b4 b4 (beq_cells fun y hy=>?_)
     have p1:=sf3.plain
     have p3:=stt.plain
     have p4:r.cv.plain=true:=okr.plain _ (by rw[hrc];simp[box80])
     simp[box80] at hy
     rcases hy with rfl|rfl|rfl|rfl|rfl|rfl|rfl|rfl|rfl|rfl|rfl|rfl|rfl|rfl|rfl<;>first|rfl|assumption
    simp only[env86] at hnext
    generalize rulesSl rb1 rs1=x1 at *
    generalize rulesSl rb2 (rs1++[(⟨rc',r.action,r.sid,cv',r.conts⟩:RuleV)])=x2 at *
    generalize (rulesC rs).length=G at *
    simp[-AV.notTup,-AV.one,-AV.cells,-Touch.same,-touchD,tdNo,tdNew,tdSet,tsNo,tsBlk,tsHeaps,cells_agg,one_agg,hrv,n1,n2,fnt,tnt,fn0,tn0,hvt,cnt,notTup_ptr,c86_l3,c86_r3,c86_r4,c86_r5,c86_r6,c86_r7,c86_r8,c86_r9,len1,hrl',hil,hil',a1,a2,sr,hh2,fieldA,l3,e3,f3,t3',l7,cn0,cn1,s3',hh4,s4',hid4,l5,l9,sm0,e5,f5,s5',hid5,s6',hh6,l12,e7,f7,s7',hh8,l15,bs,e9,f9,hwr]
    exact⟨rs.length-(i+1),by omega,by simpa using hnext⟩
  . have hi2:i=rs.length:=by omega
    rw[hi2,List.take_length] at hsm
    have hfin:R' (rulesSl rb1 rs1) h1:=by rw[hR'];exact⟨rb1,rs1,rfl,J,hsm,o1⟩
    clear hR'
    rw[hi2]
    generalize rulesSl rb1 rs1=x1 at *
    simp[-AV.notTup,hrv,n1,c86_l3,c86_r3,c86_r10,len1,hrl']
    exact hfin
 obtain⟨r,h',e,rb',rs',rfl,rest⟩:=key
 exact⟨rb',rs',h',e,rest⟩
section
theorem newTo_nots_eq2{l:List Cont}{a b:Nat}:∀{k:Nat},(newTo l a k).nots=(newTo l b k).nots
 |0=>rfl
 |k+1=>by
  have ih:=newTo_nots_eq2 (l:=l) (a:=a) (b:=b) (k:=k)
  simp only[newTo]
  cases l[k]? with
  |none=>exact ih
  |some c=>
   simp only[addT]
   split
   . simp only[ih]
   . exact ih
theorem keptE_len2{nx:Option Cont}{U:List Int}{n:Int}:(keptE nx U n).length<=U.length:=by
 unfold keptE
 split
 . simp;omega
 . exact List.length_filter_le _ _
theorem overD_big2{l:List Cont}{s:Txt}{n:Nat}:overD l (s.length+1) s n=false:=by
 simp only[overD,List.any_eq_false,keptD,List.mem_map,List.mem_range,decide_eq_true_eq]
 rintro _ ⟨j,hj,rfl⟩
 obtain⟨x,hx⟩:∃x,(posA l)[j]?=some x:=⟨_,List.getElem?_eq_getElem hj⟩
 have h1:=keptE_len2 (nx:=nextP (posA l) j) (U:=upTo n (eAt (posA l) s j)) (n:=n)
 have h2:(upTo n (eAt (posA l) s j)).length<=s.length+1:=by
  refine Nat.le_trans (List.length_filter_le _ _) ?_
  rw[eAt_some hx]
  exact hits_len
 omega
theorem step_holds2{T:TS}{l:List Cont}{s:Txt}{most n:Nat}(I:InvT T l s most n)(hn:n+1<=s.length):(stepT T (stepsOf l s (n+1))).holds=holdsC l (s.take (n+1)):=by
 have I2:InvT { T with most:=s.length+1 } l s (s.length+1) n:=⟨I.at_,rfl,I.over,I.len,I.parts,I.nots.trans newTo_nots_eq2,I.bad⟩
 obtain⟨_,h2⟩:=step_inv I2 hn
 have h3:=(holds_inv (h2 overD_big2) hn).1
 rw[<-h3]
 simp only[stepT,I.over,Bool.false_eq_true,if_false,TS.holds]
theorem scHits_iff{nc:List Bool}{w:Txt}{z:Int}:∀{l:List Txt} {i:Nat},z∈scHits nc w l i↔∃j p,l[j]?=some p/\z=((i+j:Nat):Int)/\scHitB (nth nc (i+j)) p w=true
 |[],i=>by simp[scHits]
 |p::r,i=>by
  have ih:=scHits_iff (nc:=nc) (w:=w) (z:=z) (l:=r) (i:=i+1)
  have key:(∃j q,(p::r)[j]?=some q/\z=((i+j:Nat):Int)/\scHitB (nth nc (i+j)) q w=true)↔(z=(i:Int)/\scHitB (nth nc i) p w=true)\/z∈scHits nc w r (i+1):=by
   rw[ih]
   constructor
   . rintro⟨j,q,h1,h2,h3⟩
     cases j with
     |zero=>simp at h1;subst h1;exact .inl ⟨by simpa using h2,by simpa using h3⟩
     |succ j=>exact .inr ⟨j,q,by simpa using h1,by rw[h2];congr 1;omega,by rw[<-h3];congr 2;omega⟩
   . rintro (⟨h1,h2⟩|⟨j,q,h1,h2,h3⟩)
     . exact⟨0,p,rfl,by simpa using h1,by simpa using h2⟩
     . exact⟨j+1,q,by simpa using h1,by rw[h2];congr 1;omega,by rw[<-h3];congr 2;omega⟩
  rw[key]
  simp only[scHits]
  split
  . rename_i h
    simp only[List.mem_cons,h,and_true]
  . rename_i h
    constructor
    . exact .inr
    . rintro (⟨_,h2⟩|h2)
      . exact absurd h2 h
      . exact h2
theorem itR_iff{q:Nat}{cs:List Cont}{x:Itm}:∀{k:Nat},x∈itR q cs k↔∃i c,i<k/\cs[i]?=some c/\soughtB c=true/\x=((q,i),c)
 |0=>by simp[itR]
 |k+1=>by
  have ih:=itR_iff (q:=q) (cs:=cs) (x:=x) (k:=k)
  simp only[itR,List.mem_append,ih]
  constructor
  . rintro (⟨i,c,h1,h2⟩|h)
    . exact⟨i,c,by omega,h2⟩
    . split at h
      . rename_i c hc
        split at h
        . rename_i hs
          simp at h
          exact⟨k,c,by omega,hc,hs,h⟩
        . simp at h
      . simp at h
  . rintro⟨i,c,h1,h2,h3,h4⟩
    by_cases hk:i=k
    . subst hk
      right
      rw[h2]
      simp[h3,h4]
    . exact .inl ⟨i,c,by omega,h2,h3,h4⟩
theorem itF_iff{x:Itm}:∀{rs:List RuleV} {q:Nat},x∈itF q rs↔∃k r i c,rs[k]?=some r/\r.conts[i]?=some c/\soughtB c=true/\x=((q+k,i),c)
 |[],q=>by simp[itF]
 |r::rs,q=>by
  have ih:=itF_iff (x:=x) (rs:=rs) (q:=q+1)
  simp only[itF,List.mem_append,ih,itR_iff]
  constructor
  . rintro (⟨i,c,h1,h2,h3,h4⟩|⟨k,r',i,c,h1,h2,h3,h4⟩)
    . exact⟨0,r,i,c,rfl,h2,h3,h4⟩
    . exact⟨k+1,r',i,c,h1,h2,h3,by rw[h4,show q+1+k=q+(k+1) by omega]⟩
  . rintro⟨k,r',i,c,h1,h2,h3,h4⟩
    cases k with
    |zero=>
     simp at h1
     subst h1
     exact .inl ⟨i,c,(List.getElem?_eq_some_iff.1 h2).1,h2,h3,h4⟩
    |succ k=>exact .inr ⟨k,r',i,c,by simpa using h1,h2,h3,by rw[h4,show q+1+k=q+(k+1) by omega]⟩
theorem itF_conts:∀{rs rs':List RuleV} {q:Nat},rs'.map (·.conts)=rs.map (·.conts)->itF q rs'=itF q rs
 |[],[],_,_=>rfl
 |[],_::_,_,h=>by simp at h
 |_::_,[],_,h=>by simp at h
 |r::rs,r'::rs',q,h=>by
  simp only[List.map_cons,List.cons.injEq] at h
  simp only[itF,h.1,itF_conts h.2]
def endsTo(b:Bool)(ct:List (Nat×Nat))(k:Nat)(zs:List Int)(e:List Bool):List Bool:=zs.foldl (fun e z=>match ct[z.toNat]? with
 |some x=>if x.1=k then e.set x.2 b else e
 |none=>e) e
theorem setOne_at{b:Bool}{ct:List (Nat×Nat)}{sl:List AskS}{z:Int}{k:Nat}{s:AskS}(h:sl[k]?=some s):(setOne b ct sl z)[k]?=some { s with ends:=endsTo b ct k [z] s.ends }:=by
 unfold setOne endsTo
 simp only[List.foldl]
 cases hx:ct[z.toNat]? with
 |none=>simpa using h
 |some x=>
  simp only
  by_cases e:x.1=k
  . subst e
    have hl:=(List.getElem?_eq_some_iff.1 h).1
    rw[h]
    simp only[if_true]
    rw[List.getElem?_set_self hl]
    rfl
  . rw[if_neg e]
    cases hy:sl[x.1]? with
    |none=>simpa using h
    |some t=>simp only;rw[List.getElem?_set_ne e];simpa using h
theorem setsTo_at{b:Bool}{ct:List (Nat×Nat)}{k:Nat}:∀{zs:List Int} {sl:List AskS} {s:AskS},sl[k]?=some s->(setsTo b ct sl zs)[k]?=some { s with ends:=endsTo b ct k zs s.ends }
 |[],sl,s,h=>by simpa[setsTo,endsTo] using h
 |z::zs,sl,s,h=>by
  have h1:=setOne_at (b:=b) (ct:=ct) (z:=z) h
  have h2:=setsTo_at (b:=b) (ct:=ct) (zs:=zs) h1
  simp only[setsTo,List.foldl] at h2 ⊢
  rw[h2]
  rfl
theorem endsTo_len{b:Bool}{ct:List (Nat×Nat)}{k:Nat}:∀{zs:List Int} {e:List Bool},(endsTo b ct k zs e).length=e.length
 |[],e=>rfl
 |z::zs,e=>by
  have ih:=fun e=>endsTo_len (b:=b) (ct:=ct) (k:=k) (zs:=zs) (e:=e)
  simp only[endsTo,List.foldl] at ih ⊢
  rw[ih]
  split
  . split<;>simp
  . rfl
theorem endsTo_at{b:Bool}{ct:List (Nat×Nat)}{k i:Nat}:∀{zs:List Int} {e:List Bool},i<e.length->(endsTo b ct k zs e)[i]?=if ∃z∈zs,ct[z.toNat]?=some (k,i) then some b else e[i]?
 |[],e,h=>by simp[endsTo]
 |z::zs,e,h=>by
  obtain⟨e1,he1⟩:∃e1,(match ct[z.toNat]? with
   |some x=>if x.1=k then e.set x.2 b else e
   |none=>e)=e1:=⟨_,rfl⟩
  have hl:e1.length=e.length:=by
   rw[<-he1]
   split
   . split<;>simp
   . rfl
  have ih:=endsTo_at (b:=b) (ct:=ct) (k:=k) (i:=i) (zs:=zs) (e:=e1) (by omega)
  have hg:e1[i]?=if ct[z.toNat]?=some (k,i) then some b else e[i]?:=by
   rw[<-he1]
   cases hx:ct[z.toNat]? with
   |none=>simp
   |some x=>
    obtain⟨x1,x2⟩:=x
    simp only[Option.some.injEq,Prod.mk.injEq]
    by_cases h1:x1=k
    . rw[if_pos h1]
      by_cases h2:x2=i
      . subst h2
        rw[List.getElem?_set_self h,if_pos ⟨h1,rfl⟩]
      . rw[List.getElem?_set_ne h2,if_neg fun e=>h2 e.2]
    . rw[if_neg h1,if_neg fun e=>h1 e.1]
  have hstep:endsTo b ct k (z::zs) e=endsTo b ct k zs e1:=by
   simp only[endsTo,List.foldl]
   rw[he1]
  rw[hstep,ih,hg]
  simp only[List.mem_cons,exists_eq_or_imp]
  by_cases q1:ct[z.toNat]?=some (k,i)
  . simp[q1]
  . simp[q1]
theorem ends_hits{rs:List RuleV}{t:Txt}{n k:Nat}{r:RuleV}(hr:rs[k]?=some r)(hf:∀c∈r.conts,c.few)(hn:n<=t.length){zs:List Int}(hzs:zs=scHits (ncI (itF 0 rs)) (t.take n) (plI (itF 0 rs)) 0):
  endsTo true (ctI (itF 0 rs)) k zs (List.replicate r.conts.length false)=stepsOf r.conts t n:=by
 apply List.ext_getElem?
 intro i
 by_cases hi:i<r.conts.length
 . rw[endsTo_at (by simpa using hi)]
   have hc:r.conts[i]?=some r.conts[i]:=List.getElem?_eq_getElem hi
   have hcf:=hf _ (List.getElem_mem hi)
   have hR:(stepsOf r.conts t n)[i]?=some (scHitB r.conts[i].nocase r.conts[i].bytes (t.take n)):=by
    simp only[stepsOf,List.getElem?_map,hc,Option.map_some,patAt_hit hn]
   rw[hR,List.getElem?_replicate,if_pos hi]
   have hiff:(∃z∈zs,(ctI (itF 0 rs))[z.toNat]?=some (k,i))↔scHitB r.conts[i].nocase r.conts[i].bytes (t.take n)=true:=by
    have at_:∀(j:Nat) (c:Cont),(itF 0 rs)[j]?=some ((k,i),c)->c=r.conts[i]:=fun j c h=>by
     obtain⟨k',r',i',c',h1,h2,_,h4⟩:=itF_iff.1 (List.mem_of_getElem? h)
     simp only[Prod.mk.injEq,Nat.zero_add] at h4
     obtain⟨⟨rfl,rfl⟩,rfl⟩:=h4
     rw[hr] at h1
     cases h1
     rw[hc] at h2
     exact (Option.some.inj h2).symm
    constructor
    . rintro⟨z,hz,hct⟩
      rw[hzs] at hz
      obtain⟨j,p,h1,h2,h3⟩:=scHits_iff.1 hz
      rw[h2] at hct
      simp only[Nat.zero_add,Int.toNat_natCast,ctI,List.getElem?_map,Option.map_eq_some_iff] at hct
      obtain⟨x,hx,hx2⟩:=hct
      obtain⟨x1,c⟩:=x
      simp only at hx2
      subst hx2
      have:=at_ j c hx
      subst this
      simp only[plI,List.getElem?_map,hx,Option.map_some,Option.some.injEq] at h1
      simp only[nth,ncI,Nat.zero_add,List.getElem?_map,hx,Option.map_some,Option.getD_some] at h3
      rw[h1];exact h3
    . intro h
      have hm:((k,i),r.conts[i])∈itF 0 rs:=itF_iff.2 ⟨k,r,i,_,hr,hc,by
       have:=hcf.2
       simp only[soughtB,Bool.and_eq_true,decide_eq_true_eq]
       omega,by simp⟩
      obtain⟨j,hj,e⟩:=List.mem_iff_getElem.1 hm
      have hx:(itF 0 rs)[j]?=some ((k,i),r.conts[i]):=by rw[List.getElem?_eq_getElem hj,e]
      refine⟨(j:Int),?_,?_⟩
      . rw[hzs,scHits_iff]
        refine⟨j,r.conts[i].bytes,by simp[plI,hx],by simp,?_⟩
        simp only[nth,ncI,Nat.zero_add,List.getElem?_map,hx,Option.map_some,Option.getD_some]
        exact h
      . simp[ctI,hx]
   by_cases hh:scHitB r.conts[i].nocase r.conts[i].bytes (t.take n)=true
   . rw[if_pos (hiff.2 hh),hh]
   . rw[if_neg fun e=>hh (hiff.1 e)]
     simp at hh
     rw[hh]
 . rw[List.getElem?_eq_none (by rw[endsTo_len];simpa using hi),List.getElem?_eq_none (by simp[stepsOf];omega)]
theorem ends_back{ct:List (Nat×Nat)}{k N:Nat}{zs:List Int}:endsTo false ct k zs (endsTo true ct k zs (List.replicate N false))=List.replicate N false:=by
 apply List.ext_getElem?
 intro i
 by_cases hi:i<N
 . rw[endsTo_at (by rw[endsTo_len];simpa using hi),endsTo_at (by simpa using hi)]
   split
   . simp[hi]
   . rfl
 . rw[List.getElem?_eq_none (by rw[endsTo_len,endsTo_len];simpa using hi),List.getElem?_eq_none (by simpa using hi)]
structure Match (stp:AskS->TS) (most:Nat) (w:Txt) (sl:List AskS) (rs:List RuleV) (told over:List Bool):Prop where
 len:sl.length=rs.length
 lt:told.length=rs.length
 lo:over.length=rs.length
 each:∀k s r,sl[k]?=some s->rs[k]?=some r->s.sid=r.sid/\s.action=r.action/\s.over=(nth told k || nth over k)/\(s.over=false->(stp s).holds=holdsC r.conts w/\(stp s).over=overK most r.conts w)
theorem nth_set{l:List Bool}{i k:Nat}{b:Bool}(hi:i<l.length):nth (l.set i b) k=if k=i then b else nth l k:=by
 unfold nth
 by_cases e:k=i
 . subst e;rw[List.getElem?_set_self hi];simp
 . rw[List.getElem?_set_ne (Ne.symm e),if_neg e]
theorem stepS_over{stp:AskS->TS}{s:AskS}:(stepS stp s).over=(s.over || (stp s).holds || (stp s).over):=by
 unfold stepS toldS
 cases h:s.over with
 |true=>simp[h]
 |false=>
  simp only[Bool.false_eq_true,if_false,Bool.false_or]
  split
  . rename_i h2;simp[h2]
  . rename_i h2;simp only[Bool.not_eq_true] at h2;simp[h2,h]
theorem doc_match{stp:AskS->TS}{most:Nat}{w:Txt}{sl:List AskS}{rs:List RuleV}{told over:List Bool}(M:Match stp most w sl rs told over):∀i,i<=rs.length ->
  (docTo most w rs (doc0 told over) i).ns=(sl.take i).flatMap (stepN stp w.length)/\(docTo most w rs (doc0 told over) i).ov=(sl.take i).any (stepO stp)/\(docTo most w rs (doc0 told over) i).worst=worstM (docTo most w rs (doc0 told over) i).ns /\
  (docTo most w rs (doc0 told over) i).told.length=rs.length/\(docTo most w rs (doc0 told over) i).over.length=rs.length /\
  ∀k s,sl[k]?=some s->(nth (docTo most w rs (doc0 told over) i).told k || nth (docTo most w rs (doc0 told over) i).over k)=if k<i then (stepS stp s).over else s.over
 |0,_=>⟨rfl,rfl,rfl,M.lt,M.lo,fun k s hs=>by
  have hk:=(List.getElem?_eq_some_iff.1 hs).1
  have hr:rs[k]?=some (rs[k]'(by rw[<-M.len];exact hk)):=List.getElem?_eq_getElem _
  rw[if_neg (by omega),(M.each k s _ hs hr).2.2.1]
  rfl⟩
 |i+1,hi=>by
  obtain⟨h1,h2,h3,h4,h5,h6⟩:=doc_match M i (by omega)
  obtain⟨d,hd⟩:∃d,docTo most w rs (doc0 told over) i=d:=⟨_,rfl⟩
  rw[hd] at h1 h2 h3 h4 h5 h6
  have hil:i<rs.length:=hi
  have his:i<sl.length:=by rw[M.len];exact hi
  obtain⟨r,hr⟩:∃r,rs[i]?=some r:=⟨_,List.getElem?_eq_getElem hil⟩
  obtain⟨s,hs⟩:∃s,sl[i]?=some s:=⟨_,List.getElem?_eq_getElem his⟩
  obtain⟨m1,m2,m3,m4⟩:=M.each i s r hs hr
  have hsucc:docTo most w rs (doc0 told over) (i+1)=docStep most w i r d:=by
   rw[<-hd]
   show (match rs[i]? with
    |some r=>docStep most w i r (docTo most w rs (doc0 told over) i)
    |none=>docTo most w rs (doc0 told over) i)=_
   rw[hr]
  have htk:sl.take (i+1)=sl.take i++[s]:=by
   rw[List.take_succ_eq_append_getElem his,(List.getElem?_eq_some_iff.1 hs).2]
  have h6i:=h6 i s hs
  rw[if_neg (by omega)] at h6i
  rw[hsucc,htk]
  simp only[List.flatMap_append,List.any_append,List.flatMap_cons,List.flatMap_nil,List.append_nil,List.any_cons,List.any_nil,Bool.or_false]
  unfold docStep
  rw[h6i]
  cases hso:s.over with
  |true=>
   simp only[if_true]
   have e1:stepN stp w.length s=[]:=by simp[stepN,hso]
   have e2:stepO stp s=false:=by simp[stepO,hso]
   rw[e1,e2,List.append_nil,Bool.or_false]
   refine⟨h1,h2,h3,h4,h5,fun k s' hs'=>?_⟩
   rw[h6 k s' hs']
   by_cases hk:k<i
   . rw[if_pos hk,if_pos (by omega)]
   . rw[if_neg hk]
     by_cases hk2:k<i+1
     . have:k=i:=by omega
       subst this
       rw[hs] at hs'
       cases hs'
       rw[if_pos hk2,stepS_over,hso]
       simp
     . rw[if_neg hk2]
  |false=>
   obtain⟨g1,g2⟩:=m4 hso
   simp only[Bool.false_eq_true,if_false]
   have e1:stepN stp w.length s=if holdsC r.conts w then [⟨r.sid,w.length,r.action⟩] else []:=by
    simp only[stepN,hso,Bool.false_eq_true,if_false,toldN,g1,m1,m2]
   have e2:stepO stp s=overK most r.conts w:=by simp[stepO,hso,g2]
   rw[e1,e2]
   refine⟨?_,?_,?_,?_,?_,fun k s' hs'=>?_⟩
   . split
     . rw[h1]
     . rw[h1,List.append_nil]
   . rw[h2]
   . split
     . rw[worstM_snoc,h3]
     . exact h3
   . split
     . rw[List.length_set];exact h4
     . exact h4
   . split
     . rw[List.length_set];exact h5
     . exact h5
   . have q1:nth (if holdsC r.conts w then d.told.set i true else d.told) k=if k=i/\holdsC r.conts w=true then true else nth d.told k:=by
      by_cases hh:holdsC r.conts w=true
      . rw[if_pos hh,nth_set (by omega)]
        simp[hh]
      . rw[if_neg hh,if_neg fun e=>hh e.2]
     have q2:nth (if overK most r.conts w then d.over.set i true else d.over) k=if k=i/\overK most r.conts w=true then true else nth d.over k:=by
      by_cases hh:overK most r.conts w=true
      . rw[if_pos hh,nth_set (by omega)]
        simp[hh]
      . rw[if_neg hh,if_neg fun e=>hh e.2]
     rw[q1,q2]
     have h6k:=h6 k s' hs'
     by_cases hk:k=i
     . subst hk
       rw[hs] at hs'
       cases hs'
       rw[if_neg (by omega),hso] at h6k
       simp only[Bool.or_eq_false_iff] at h6k
       rw[if_pos (show k<k+1 by omega),stepS_over,hso,g1,g2,h6k.1,h6k.2]
       simp only[true_and]
       cases holdsC r.conts w<;>cases overK most r.conts w<;>rfl
     . rw[if_neg fun e=>hk e.1,if_neg fun e=>hk e.1,h6k]
       by_cases hk2:k<i
       . rw[if_pos hk2,if_pos (by omega)]
       . rw[if_neg hk2,if_neg (by omega)]
theorem worst_notes{ns:List Note}{n:Nat}(h:∀x∈ns,x.action<=4):worstM (ns++[⟨0,n,4⟩])=4:=by
 have:∀{l:List Note} {a:Int},a<=4->(∀x∈l,x.action<=4)->l.foldl (fun w n=>if w<n.action then n.action else w) a<=4:=by
  intro l
  induction l with
  |nil=>intro a h _;exact h
  |cons x l ih=>
   intro a h h2
   simp only[List.foldl]
   have h3:=h2 x (by simp)
   exact ih (by split<;>omega) fun y hy=>h2 y (by simp[hy])
 have h1:=this (l:=ns) (a:=0) (by omega) h
 rw[worstM_snoc]
 have h2:worstM ns<=4:=h1
 show max (worstM ns) 4=4
 omega
theorem doc_notes{stp:AskS->TS}{most:Nat}{w:Txt}{sl:List AskS}{rs:List RuleV}{told over:List Bool}(M:Match stp most w sl rs told over)(ha:∀s∈sl,s.action<=4){d:DS}(hd:d=docAll most w rs told over):
  finN d w=toldNotes stp w.length sl/\finW d=worstM (toldNotes stp w.length sl)/\d.told.length=rs.length/\d.over.length=rs.length/\∀k s,sl[k]?=some s->(nth d.told k || nth d.over k)=(stepS stp s).over:=by
 obtain⟨h1,h2,h3,h4,h5,h6⟩:=doc_match M rs.length (Nat.le_refl _)
 rw[show docTo most w rs (doc0 told over) rs.length=d from hd.symm] at h1 h2 h3 h4 h5 h6
 rw[<-M.len,List.take_length] at h1 h2
 rw[<-M.len] at h6
 have hN:finN d w=toldNotes stp w.length sl:=by
  simp only[finN,toldNotes,h1,h2]
  split<;>simp
 refine⟨hN,?_,h4,h5,fun k s hs=>?_⟩
 . rw[<-hN]
   simp only[finN,finW]
   split
   . rw[worst_notes]
     intro x hx
     rw[h1] at hx
     obtain⟨s,hs,hx2⟩:=List.mem_flatMap.1 hx
     unfold stepN toldN at hx2
     split at hx2
     . simp at hx2
     . split at hx2
       . simp at hx2
         rw[hx2]
         exact ha s hs
       . simp at hx2
   . exact h3
 . have:=h6 k s hs
   rwa[if_pos (List.getElem?_eq_some_iff.1 hs).1] at this
structure Twin (t:Txt) (n most:Nat) (sl:List AskS) (rs:List RuleV) (told over:List Bool):Prop where
 len:sl.length=rs.length
 lt:told.length=rs.length
 lo:over.length=rs.length
 each:∀k s r,sl[k]?=some s->rs[k]?=some r->s.sid=r.sid/\s.action=r.action/\s.over=(nth told k || nth over k)/\(s.over=false->InvT s.T r.conts t most n)/\s.ends=List.replicate r.conts.length false
 act:∀r∈rs,r.action<=4
 few:∀r∈rs,∀c∈r.conts,c.few
theorem stepS_keys{stp:AskS->TS}{s:AskS}:(stepS stp s).sid=s.sid/\(stepS stp s).action=s.action/\(stepS stp s).ends=s.ends:=by
 unfold stepS
 split
 . exact⟨rfl,rfl,rfl⟩
 . unfold toldS
   split<;>exact⟨rfl,rfl,rfl⟩
theorem stepS_Tlive{stp:AskS->TS}{s:AskS}(h:(stepS stp s).over=false):(stepS stp s).T=stp s:=by
 rw[stepS_over] at h
 simp only[Bool.or_eq_false_iff] at h
 unfold stepS
 rw[h.1.1]
 simp only[Bool.false_eq_true,if_false]
 unfold toldS
 split<;>rfl
theorem Twin.ofSame{most:Nat}{t:Txt}{rs rs':List RuleV}(hS:SameR rs' rs)(hf:∀r∈rs,∀c∈r.conts,c.few)(ha:∀r∈rs,r.action<=4):Twin t 0 most (rs'.map (askOf most)) rs (List.replicate rs.length false) (List.replicate rs.length false):=by
 have hl:rs'.length=rs.length:=by simpa using congrArg List.length hS
 refine⟨by simpa using hl,by simp,by simp,fun k s r hs hr=>?_,ha,hf⟩
 simp only[List.getElem?_map,Option.map_eq_some_iff] at hs
 obtain⟨r',hr',rfl⟩:=hs
 have:=congrArg (fun l=>l[k]?) hS
 simp only[List.getElem?_map,hr',hr,Option.map_some,Option.some.injEq,Prod.mk.injEq] at this
 obtain⟨h1,h2,h3⟩:=this
 have hk:=(List.getElem?_eq_some_iff.1 hr).1
 have hn:nth (List.replicate rs.length false) k=false:=by simp[nth,hk]
 refine⟨h1,h2,by rw[hn];rfl,fun _=>?_,by show List.replicate r'.conts.length false=_;rw[h3]⟩
 show InvT (newTo r'.conts most r'.conts.length) r.conts t most 0
 rw[h3]
 exact init_inv fun c hc e=>by
  have:=(hf r (List.mem_of_getElem? hr) c hc).2.1
  rw[e] at this;simp at this
section
variable {t:Txt} {n most:Nat} {sl:List AskS} {rs:List RuleV} {told over:List Bool}
theorem Twin.acts(W:Twin t n most sl rs told over):∀s∈sl,s.action<=4:=fun s hs=>by
 obtain⟨k,hk,e⟩:=List.mem_iff_getElem.1 hs
 have hk2:k<rs.length:=by rw[<-W.len];exact hk
 have:=(W.each k s rs[k] (by rw[List.getElem?_eq_getElem hk,e]) (List.getElem?_eq_getElem hk2)).2.1
 rw[this]
 exact W.act _ (List.getElem_mem hk2)
theorem Twin.begin(W:Twin t 0 most sl rs told over){d:DS}(hd:d=docAll most [] rs told over):
  finN d []=toldNotes (fun s=>s.T) ([]:Txt).length sl/\finW d=worstM (toldNotes (fun s=>s.T) ([]:Txt).length sl)/\Twin t 0 most (sl.map (stepS fun s=>s.T)) rs d.told d.over:=by
 have M:Match (fun s=>s.T) most [] sl rs told over:=⟨W.len,W.lt,W.lo,fun k s r hs hr=>by
  obtain⟨h1,h2,h3,h4,_⟩:=W.each k s r hs hr
  refine⟨h1,h2,h3,fun ho=>?_⟩
  have I:=h4 ho
  have h5:=(holds_inv I (Nat.zero_le _)).1
  rw[List.take_zero] at h5
  exact⟨h5,by rw[I.over];simp[overK]⟩⟩
 obtain⟨a1,a2,a3,a4,a5⟩:=doc_notes M W.acts hd
 refine⟨a1,a2,by rw[List.length_map];exact W.len,a3,a4,fun k s' r hs hr=>?_,W.act,W.few⟩
 simp only[List.getElem?_map,Option.map_eq_some_iff] at hs
 obtain⟨s,hs,rfl⟩:=hs
 obtain⟨h1,h2,h3,h4,h5⟩:=W.each k s r hs hr
 obtain⟨k1,k2,k3⟩:=stepS_keys (stp:=fun s=>s.T) (s:=s)
 refine⟨k1.trans h1,k2.trans h2,(a5 k s hs).symm,fun ho=>?_,k3.trans h5⟩
 rw[stepS_Tlive ho]
 rw[stepS_over] at ho
 simp only[Bool.or_eq_false_iff] at ho
 exact h4 ho.1.1
theorem Twin.step(W:Twin t n most sl rs told over)(hn:n+1<=t.length){zs:List Int}(hzs:zs=scHits (ncI (itF 0 rs)) (t.take (n+1)) (plI (itF 0 rs)) 0){d:DS}(hd:d=docAll most (t.take (n+1)) rs told over):
  finN d (t.take (n+1))=toldNotes stpS (n+1) (setsTo true (ctI (itF 0 rs)) sl zs)/\finW d=worstM (toldNotes stpS (n+1) (setsTo true (ctI (itF 0 rs)) sl zs))/\Twin t (n+1) most (stepSl (ctI (itF 0 rs)) sl zs) rs d.told d.over:=by
 obtain⟨ct,hct⟩:∃ct,ctI (itF 0 rs)=ct:=⟨_,rfl⟩
 have hlen:(t.take (n+1)).length=n+1:=by rw[List.length_take];omega
 have hset:∀(k:Nat) (s:AskS) (r:RuleV),sl[k]?=some s->rs[k]?=some r->(setsTo true ct sl zs)[k]?=some { s with ends:=stepsOf r.conts t (n+1) }:=fun k s r hs hr=>by
  rw[setsTo_at hs,(W.each k s r hs hr).2.2.2.2,<-hct,ends_hits hr (W.few r (List.mem_of_getElem? hr)) hn hzs]
 have back:∀k (s1:AskS),(setsTo true ct sl zs)[k]?=some s1->∃s,sl[k]?=some s:=fun k s1 h=>by
  have:=(List.getElem?_eq_some_iff.1 h).1
  rw[setsTo_len] at this
  exact⟨_,List.getElem?_eq_getElem this⟩
 have hov:∀l:List Cont,overK most l (t.take (n+1))=overD l most t (n+1):=fun l=>by
  simp only[overK,hlen,keptDoc_take hn,overD]
  simp
 have M:Match stpS most (t.take (n+1)) (setsTo true ct sl zs) rs told over:=⟨by rw[setsTo_len];exact W.len,W.lt,W.lo,fun k s1 r hs1 hr=>by
  obtain⟨s,hs⟩:=back k s1 hs1
  rw[hset k s r hs hr] at hs1
  cases hs1
  obtain⟨h1,h2,h3,h4,_⟩:=W.each k s r hs hr
  refine⟨h1,h2,h3,fun ho=>?_⟩
  have I:=h4 ho
  exact⟨step_holds2 I hn,by rw[hov];exact (step_inv I hn).1⟩⟩
 have hacts:∀s∈setsTo true ct sl zs,s.action<=4:=fun s hs=>by
  obtain⟨k,hk,e⟩:=List.mem_iff_getElem.1 hs
  have hs1:(setsTo true ct sl zs)[k]?=some s:=by rw[List.getElem?_eq_getElem hk,e]
  have hk2:k<rs.length:=by rw[<-W.len];rw[setsTo_len] at hk;exact hk
  have:=(M.each k s rs[k] hs1 (List.getElem?_eq_getElem hk2)).2.1
  rw[this]
  exact W.act _ (List.getElem_mem hk2)
 obtain⟨a1,a2,a3,a4,a5⟩:=doc_notes M hacts hd
 rw[hlen] at a1 a2
 rw[hct]
 refine⟨a1,a2,by rw[stepSl_len];exact W.len,a3,a4,fun k s' r hs' hr=>?_,W.act,W.few⟩
 have hk:k<sl.length:=by
  have:=(List.getElem?_eq_some_iff.1 hs').1
  rwa[stepSl_len] at this
 obtain⟨s,hs⟩:∃s,sl[k]?=some s:=⟨_,List.getElem?_eq_getElem hk⟩
 have hs1:=hset k s r hs hr
 have hends:=(W.each k s r hs hr).2.2.2.2
 obtain⟨s1,hs1E⟩:∃s1,({ s with ends:=stepsOf r.conts t (n+1) }:AskS)=s1:=⟨_,rfl⟩
 rw[hs1E] at hs1
 obtain⟨k1,k2,k3⟩:=stepS_keys (stp:=stpS) (s:=s1)
 have hs2:((setsTo true ct sl zs).map (stepS stpS))[k]?=some (stepS stpS s1):=by rw[List.getElem?_map,hs1];rfl
 have hs3:=setsTo_at (b:=false) (ct:=ct) (zs:=zs) hs2
 have hs'':(setsTo false ct ((setsTo true ct sl zs).map (stepS stpS)) zs)[k]?=some s':=hs'
 rw[hs3] at hs''
 cases hs''
 obtain⟨h1,h2,h3,h4,_⟩:=W.each k s r hs hr
 obtain⟨m1,m2,m3,_⟩:=M.each k s1 r hs1 hr
 refine⟨k1.trans m1,k2.trans m2,(a5 k s1 hs1).symm,fun ho=>?_,?_⟩
 . have ho2:(stepS stpS s1).over=false:=ho
   show InvT (stepS stpS s1).T r.conts t most (n+1)
   rw[stepS_Tlive ho2]
   rw[stepS_over] at ho2
   simp only[Bool.or_eq_false_iff] at ho2
   have hso:s.over=false:=by
    have:=ho2.1.1
    rw[<-hs1E] at this
    exact this
   have I:=h4 hso
   obtain⟨q1,q2⟩:=step_inv I hn
   have e:stpS s1=stepT s.T (stepsOf r.conts t (n+1)):=by rw[<-hs1E]
   rw[e] at ho2 ⊢
   exact q2 (q1.symm.trans ho2.2)
 . show endsTo false ct k zs (stepS stpS s1).ends=_
   rw[k3,<-hs1E]
   show endsTo false ct k zs (stepsOf r.conts t (n+1))=_
   rw[<-ends_hits hr (W.few r (List.mem_of_getElem? hr)) hn hzs,hct,ends_back]
theorem Twin.cands(W:Twin t n most sl rs told over)(hn:n<=t.length):candTo rs (t.take n) told over rs.length=candsM sl:=by
 have key:∀i,i<=rs.length->candTo rs (t.take n) told over i=(sl.take i).foldl candsS 0:=by
  intro i
  induction i with
  |zero=>intro _;rfl
  |succ i ih=>
   intro hi
   have his:i<sl.length:=by rw[W.len];exact hi
   obtain⟨r,hr⟩:∃r,rs[i]?=some r:=⟨_,List.getElem?_eq_getElem hi⟩
   obtain⟨s,hs⟩:∃s,sl[i]?=some s:=⟨_,List.getElem?_eq_getElem his⟩
   obtain⟨h1,h2,h3,h4,_⟩:=W.each i s r hs hr
   have htk:sl.take (i+1)=sl.take i++[s]:=by
    rw[List.take_succ_eq_append_getElem his,(List.getElem?_eq_some_iff.1 hs).2]
   rw[htk,List.foldl_append,<-ih (by omega)]
   simp only[List.foldl,candTo,hr,candsS,h3]
   rw[Bool.or_comm (nth over i)]
   by_cases hd:(nth told i || nth over i)=true
   . rw[if_pos hd,if_pos hd]
   . rw[if_neg hd,if_neg hd]
     have ho:s.over=false:=by rw[h3];simpa using hd
     rw[keptDoc_take hn,(holds_inv (h4 ho) hn).2]
 have:=key rs.length (Nat.le_refl _)
 rw[this,<-W.len,List.take_length]
 rfl
end
theorem SameR.sel{rs rs':List RuleV}(H:SameR rs' rs)(ks:List Int):SameR (selL rs' ks) (selL rs ks):=by
 unfold SameR at *
 induction ks with
 |nil=>rfl
 |cons k ks ih=>
  have hk:(selOne rs' k).map (fun r=>(r.sid,r.action,r.conts))=(selOne rs k).map (fun r=>(r.sid,r.action,r.conts)):=by
   unfold selOne
   split
   . rfl
   . have:=congrArg (fun l=>l[k.toNat]?) H
     simpa using this
  simp only[selL,List.filterMap_cons] at ih ⊢
  cases h1:selOne rs' k with
  |none=>
   rw[h1] at hk
   cases h2:selOne rs k with
   |none=>exact ih
   |some r=>rw[h2] at hk;simp at hk
  |some r'=>
   rw[h1] at hk
   cases h2:selOne rs k with
   |none=>rw[h2] at hk;simp at hk
   |some r=>
    rw[h2] at hk
    simp only[Option.map_some,Option.some.injEq] at hk
    simp only[List.map_cons,hk,ih]
theorem SameR.conts{rs rs':List RuleV}(H:SameR rs' rs):rs'.map (·.conts)=rs.map (·.conts):=by
 have:=congrArg (fun l=>l.map fun x:Int×Int×List Cont=>x.2.2) H
 simp only[List.map_map] at this
 exact this
end
section
structure Duo (h:Heap) (p:SP) (al:List AskH) (sl:List AskS) (ct:List (Nat×Nat)) (pl:List Txt) (nc:List Bool) (w:Txt) (xb tb ob rb:Nat) (rs:List RuleV) (most:Nat) (told over:List Bool):Prop where
 S:SQ h p al sl ct pl nc w
 R:RefAt h xb tb ob rb rs most w told over
 ap:∀c,(c=xb\/c=tb\/c=ob)->¬sF p al c/\¬cF p pl c
section
variable {h h':Heap} {p:SP} {al al':List AskH} {sl sl':List AskS} {ct:List (Nat×Nat)} {pl:List Txt} {nc:List Bool} {w w' t:Txt} {xb tb ob rb:Nat} {rs:List RuleV} {most:Nat} {told over told' over':List Bool}
theorem SQ.doc(Z:SQ h p al sl ct pl nc w)(R:RefAt h xb tb ob rb rs most w' told over)(ap:∀c,(c=xb\/c=tb\/c=ob)->¬sF p al c/\¬cF p pl c)(ho:Only (fun c=>c=xb\/c=tb\/c=ob\/h.length<=c) h h'):SQ h' p al sl ct pl nc w:=by
 have grow:∀{c:Nat} {cs:List AV} {t:TypeId},h[c]?=some (.cells cs t true)->t≠4->¬(c=xb\/c=tb\/c=ob\/h.length<=c):=fun hc ht e=>by
  rcases e with rfl|rfl|rfl|e
  . rw[R.hdr] at hc;simp at hc
  . rw[R.tl] at hc
    simp only[Option.some.injEq,AObj.cells.injEq] at hc
    exact ht hc.2.1.symm
  . rw[R.ol] at hc
    simp only[Option.some.injEq,AObj.cells.injEq] at hc
    exact ht hc.2.1.symm
  . have:=lt_of_at hc;omega
 have or3:∀{c:Nat},(c=xb\/c=tb\/c=ob\/h.length<=c)->(c=xb\/c=tb\/c=ob)\/h.length<=c:=fun e=>by
  rcases e with e|e|e|e
  . exact .inl (.inl e)
  . exact .inl (.inr (.inl e))
  . exact .inl (.inr (.inr e))
  . exact .inr e
 have mine:∀{c:Nat},sF p al c->¬(c=xb\/c=tb\/c=ob\/h.length<=c):=fun hc e=>by
  rcases or3 e with e|e
  . exact (ap _ e).1 hc
  . have:=Z.lt hc;omega
 refine⟨Z.r.keep ho (mine (.inl rfl)) (fun hne=>grow (Z.r.kl hne) (by decide)) (fun k a ha=>⟨mine (.inr (.inr (.inl ⟨k,a,ha,.inl rfl⟩))),mine (.inr (.inr (.inr ⟨k,a,ha,rfl⟩))),fun c hc=>mine (.inr (.inr (.inl ⟨k,a,ha,.inr hc⟩)))⟩) (fun c cs t ht hc=>grow hc (by rcases ht with rfl|rfl<;>decide)),
  fun hne=>ho.at (Z.c hne) (grow (Z.c hne) (by decide)),Z.s.keep ho fun c hc e=>?_,Z.ok,Z.cl,fun c hc=>?_⟩
 . rcases or3 e with e|e
   . exact (ap _ e).2 hc
   . have:=(Z.ap c hc).1;omega
 . obtain⟨p1,p2,p3,p4⟩:=Z.ap c hc
   exact⟨Nat.lt_of_lt_of_le p1 ho.1,p2,p3,p4⟩
theorem RefAt.side(R:RefAt h xb tb ob rb rs most w' told over)(Z:SQ h p al sl ct pl nc w)(ap:∀c,(c=xb\/c=tb\/c=ob)->¬sF p al c/\¬cF p pl c)(ho:Only (fun c=>sF p al c\/h.length<=c) h h'):RefAt h' xb tb ob rb rs most w' told over:=by
 refine R.keep ho ?_ ?_ ?_ fun c cs t ht hc e=>?_
 . rintro (e|e)
   . exact (ap _ (.inl rfl)).1 e
   . have:=lt_of_at R.hdr;omega
 . rintro (e|e)
   . exact (ap _ (.inr (.inl rfl))).1 e
   . have:=lt_of_at R.tl;omega
 . rintro (e|e)
   . exact (ap _ (.inr (.inr rfl))).1 e
   . have:=lt_of_at R.ol;omega
 . rcases e with e|e
   . obtain⟨cs',t',g',h1,_,h3⟩:=Z.typ e
     rw[hc] at h1
     simp only[Option.some.injEq,AObj.cells.injEq] at h1
     have:=h3 h1.2.2.symm
     rw[<-h1.2.1] at this
     rcases ht with rfl|rfl<;>exact absurd this (by decide)
   . have:=lt_of_at hc;omega
theorem NotesAt.doc{v:AV}{ns:List Note}(N:NotesAt h v ns)(R:RefAt h xb tb ob rb rs most w' told over)(ho:Only (fun c=>c=xb\/c=tb\/c=ob\/h.length<=c) h h'):NotesAt h' v ns:=by
 obtain⟨nk,h1,h2⟩:=N
 refine⟨nk,h1,fun hne=>ho.at (h2 hne) fun e=>?_⟩
 have h3:=h2 hne
 rcases e with rfl|rfl|rfl|e
 . rw[R.hdr] at h3;simp at h3
 . rw[R.tl] at h3;simp at h3
 . rw[R.ol] at h3;simp at h3
 . have:=lt_of_at h3;omega
theorem Duo.begin(I:Duo h p al sl ct pl nc [] xb tb ob rb rs most told over)(hsl:sl.length<=1000)(W:∀t,Twin t 0 most sl rs told over):
  ∃v u W0 al' told' over' h1 h2,D cfg1 82 [xPtr p.xb] h=some (.tup [v,.int .i64 W0],h1)/\D cfg1 88 [refP xb] h1=some (.tup [u,.int .i64 W0],h2)/\v.notTup=true/\u.notTup=true/\D cfg1 89 [v,u] h2=some (.bool true,h2)/\D cfg1 84 [xPtr p.xb] h2=some (.int .i64 0,h2) /\
   Duo h2 p al' (sl.map (stepS fun s=>s.T)) ct pl nc [] xb tb ob rb rs most told' over'/\(∀t,Twin t 0 most (sl.map (stepS fun s=>s.T)) rs told' over')/\Only (fun c=>sF p al c\/c=xb\/c=tb\/c=ob\/h.length<=c) h h2:=by
 obtain⟨d,hd⟩:∃d,d=docAll most [] rs told over:=⟨_,rfl⟩
 obtain⟨a1,a2,_⟩:=(W []).begin hd
 obtain⟨v,al',h1,e1,N1,v1,S1,o1,f1⟩:=begin_side I.S hsl (ns:=toldNotes (fun s=>s.T) ([]:Txt).length sl) rfl
 have R1:=I.R.side I.S I.ap o1
 have ap1:∀c,(c=xb\/c=tb\/c=ob)->¬sF p al' c/\¬cF p pl c:=fun c hc=>⟨fun e=>by
  rcases f1 c e with e|e
  . exact (I.ap c hc).1 e
  . rcases hc with rfl|rfl|rfl
    . have:=lt_of_at I.R.hdr;omega
    . have:=lt_of_at I.R.tl;omega
    . have:=lt_of_at I.R.ol;omega,(I.ap c hc).2⟩
 have hrl:rs.length<=1000:=by rw[<-(W []).len];exact hsl
 obtain⟨u,h2,e2,u1,N2,R2,o2⟩:=ref_begin R1 (by simp) hrl hd
 have o2':Only (fun c=>c=xb\/c=tb\/c=ob\/h1.length<=c) h1 h2:=o2.mono fun c _ e=>.inr e
 have S2:=SQ.doc S1 R1 ap1 o2'
 rw[a1] at N2
 rw[a2] at e2
 have N1':=N1.doc R1 o2'
 have hnl:(toldNotes (fun s=>s.T) ([]:Txt).length sl).length<=1000000:=by
  have:=toldNotes_len (stp:=fun s=>s.T) (n:=([]:Txt).length) (sl:=sl)
  omega
 have e3:=same_notes N1' N2 v1 u1 hnl
 have e4:=at_run S2.r
 refine⟨v,u,_,al',d.told,d.over,h1,h2,e1,lift e2,v1,u1,lift e3,lift e4,⟨S2,R2,ap1⟩,fun t=>((W t).begin hd).2.2,?_⟩
 have L1:=o1.1
 refine (o1.mono fun c _ e=>?_).trans (o2.mono fun c _ e=>?_)
 . rcases e with e|e
   . exact .inl e
   . exact .inr (.inr (.inr (.inr e)))
 . rcases e with e|e|e
   . exact .inr (.inr (.inl e))
   . exact .inr (.inr (.inr (.inl e)))
   . exact .inr (.inr (.inr (.inr (by omega))))
theorem Duo.step{n:Nat}(I:Duo h p al sl (ctI (itF 0 rs)) (plI (itF 0 rs)) (ncI (itF 0 rs)) (t.take n) xb tb ob rb rs most told over)(hsl:sl.length<=1000)(hat:∀s∈sl,s.T.at_<=n)(W:Twin t n most sl rs told over)(ht:t.length<=1000)(hn:n<t.length){b:UInt8}(hb:t[n]?=some b):
  ∃v u W0 al' sl' told' over' C h1 h2 h3 h4,D cfg1 83 [xPtr p.xb,.int .u8 b.toNat] h=some (.tup [v,.int .i64 W0],h1)/\D cfg1 90 [refP xb,.int .u8 b.toNat] h1=some (.tup [u,.int .i64 W0],h2)/\v.notTup=true/\u.notTup=true/\D cfg1 89 [v,u] h2=some (.bool true,h2)/\D cfg1 84 [xPtr p.xb] h2=some (.int .i64 ((n+1:Nat):Int),h2) /\
   D cfg1 85 [xPtr p.xb] h2=some (.int .i64 C,h3)/\D cfg1 91 [refP xb] h3=some (.int .i64 C,h4) /\
   Duo h4 p al' sl' (ctI (itF 0 rs)) (plI (itF 0 rs)) (ncI (itF 0 rs)) (t.take (n+1)) xb tb ob rb rs most told' over'/\Twin t (n+1) most sl' rs told' over'/\sl'.length<=1000/\(∀s∈sl',s.T.at_<=n+1):=by
 have hwl:(t.take n).length=n:=by rw[List.length_take];omega
 have hwl1:(t.take (n+1)).length=n+1:=by rw[List.length_take];omega
 have htk:t.take n++[b]=t.take (n+1):=by
  rw[List.take_succ_eq_append_getElem hn,(List.getElem?_eq_some_iff.1 hb).2]
 obtain⟨d,hd⟩:∃d,d=docAll most (t.take (n+1)) rs told over:=⟨_,rfl⟩
 obtain⟨zs,hzs⟩:∃zs,zs=scHits (ncI (itF 0 rs)) (t.take (n+1)) (plI (itF 0 rs)) 0:=⟨_,rfl⟩
 obtain⟨a1,a2,W'⟩:=W.step (by omega) hzs hd
 have hcand:=W'.cands (by omega)
 obtain⟨ns,hns⟩:∃ns,ns=toldNotes stpS (n+1) (setsTo true (ctI (itF 0 rs)) sl zs):=⟨_,rfl⟩
 rw[<-hns] at a1 a2
 obtain⟨v,al',h1,e1,N1,v1,S1,o1,f1⟩:=step_side I.S hsl (fun s hs=>by have:=hat s hs;omega) (by omega) (b:=b) (zs:=zs) (by rw[htk];exact hzs) (ns:=ns) (by rw[hwl];exact hns)
 rw[htk] at S1
 have R1:=I.R.side I.S I.ap o1
 have ap1:∀c,(c=xb\/c=tb\/c=ob)->¬sF p al' c/\¬cF p (plI (itF 0 rs)) c:=fun c hc=>⟨fun e=>by
  rcases f1 c e with e|e
  . exact (I.ap c hc).1 e
  . rcases hc with rfl|rfl|rfl
    . have:=lt_of_at I.R.hdr;omega
    . have:=lt_of_at I.R.tl;omega
    . have:=lt_of_at I.R.ol;omega,(I.ap c hc).2⟩
 have hrl:rs.length<=1000:=by rw[<-W.len];exact hsl
 obtain⟨u,h2,e2,u1,N2,R2,o2⟩:=ref_step R1 (by omega) hrl (b:=b) (d:=d) (by rw[htk];exact hd)
 rw[htk] at N2 R2
 have S2:=SQ.doc S1 R1 ap1 o2
 rw[a1] at N2
 rw[a2] at e2
 have N1':=N1.doc R1 o2
 have hnl:ns.length<=1000000:=by
  have:=toldNotes_len (stp:=stpS) (n:=n+1) (sl:=setsTo true (ctI (itF 0 rs)) sl zs)
  rw[setsTo_len,<-hns] at this
  omega
 have e3:=same_notes N1' N2 v1 u1 hnl
 have e4:=at_run S2.r
 rw[hwl1] at e4
 have hsl2:(stepSl (ctI (itF 0 rs)) sl zs).length<=1000:=by rw[stepSl_len];exact hsl
 obtain⟨h3,e5,_,o3⟩:=cands_run hsl2 S2.r
 have R3:=R2.same o3
 obtain⟨h4,e6,R4,o4⟩:=cands_doc R3 (by omega) hrl
 rw[hcand] at e6
 exact⟨v,u,worstM ns,al',_,d.told,d.over,candsM (stepSl (ctI (itF 0 rs)) sl zs),h1,h2,h3,h4,e1,lift e2,v1,u1,lift e3,lift e4,e5,lift e6,⟨SideAt.same (SideAt.same S2 o3) o4,R4,ap1⟩,W',hsl2,stepSl_at hat⟩
end
end
theorem SliceIn.ok{w:World}{k:Nat}{a:Option Addr}{len cap:Nat}{xs:List AV}{b:Nat}(h:SliceIn w k a len cap xs):slOK (inSl b a len cap xs):=by
 rcases h with⟨rfl,rfl,rfl,rfl⟩|⟨x,rfl,h1,_⟩
 . exact Nat.le_refl 0
 . exact h1
section
noncomputable abbrev F27:CallF:=mixed [79] (D cfg1)
theorem awake27c{h:Heap}:F27 79 [] h=some (.bool true,h):=awake24 rfl
theorem F27_D{f:FuncId}(hf:f≠79){args:List AV}{h:Heap}:F27 f args h=D cfg1 f args h:=mixed_D (by simp[hf])
section
variable {p:SP} {xb tb ob rb most:Nat} {rs:List RuleV} {t:Txt}
abbrev env27(p:SP)(xb:Nat)(t:Txt)(i:Nat):Env:=[(11,xPtr p.xb),(12,refP xb),(17,.str t),(18,.int .i64 i)]
def In27(p:SP)(xb tb ob rb most:Nat)(rs:List RuleV)(t:Txt)(m:Nat)(σ:St):Prop:=
 ∃i al sl told over h,m=t.length-i/\i<=t.length/\σ=⟨env27 p xb t i,h⟩/\Duo h p al sl (ctI (itF 0 rs)) (plI (itF 0 rs)) (ncI (itF 0 rs)) (t.take i) xb tb ob rb rs most told over/\Twin t i most sl rs told over/\sl.length<=1000/\(∀s∈sl,s.T.at_<=i)
theorem plays_bytes{h:Heap}{al:List AskH}{sl:List AskS}{told over:List Bool}(ht:t.length<=100)(I:Duo h p al sl (ctI (itF 0 rs)) (plI (itF 0 rs)) (ncI (itF 0 rs)) [] xb tb ob rb rs most told over)(W:Twin t 0 most sl rs told over)(hsl:sl.length<=1000)(hat:∀s∈sl,s.T.at_<=0){Q:AExit->St->Prop}
  (hq:∀h',Q (.exit 0) ⟨env27 p xb t t.length++[(82,.bool false)],h'⟩):
  Wt Try.prog F27 (.loop c27_l15 (some [11,12,17,18])) ⟨env27 p xb t 0,h⟩ Q:=by
 refine Wt.loop (In27 p xb tb ob rb most rs t) (m:=t.length) ⟨0,al,sl,told,over,h,rfl,Nat.zero_le _,rfl,by simpa using I,W,hsl,hat⟩ ?_
 rintro m σ ⟨i,al1,sl1,told1,over1,h1,rfl,hi,rfl,I1,W1,hsl1,hat1⟩
 have hcut:cut (some [11,12,17,18]) (env27 p xb t i)=env27 p xb t i:=by simp
 simp only[hcut]
 have hwr:IntKind.wrap .i64 ((i:Int)+1)=i+1:=wrap_i64 (by omega) (by omega)
 by_cases hit:i<t.length
 . have hit':(i:Int)<t.length:=by omega
   obtain⟨b,hb⟩:∃b,t[i]?=some b:=⟨_,List.getElem?_eq_getElem hit⟩
   have hix:aindex Try.prog 9 (.str t) (.int .i64 (i:Int))=some (.int .u8 (b.toNat:Int)):=by simp[aindex,hb]
   obtain⟨v,u,W0,al2,sl2,told2,over2,C,h2,h3,h4,h5,e1,e2,v1,u1,e3,e4,e5,e6,I2,W2,hsl2,hat2⟩:=I1.step hsl1 hat1 W1 (by omega) hit hb
   rw[show (((i+1:Nat)):Int)=(i:Int)+1 by omega] at e4
   have hnext:In27 p xb tb ob rb most rs t (t.length-(i+1)) ⟨env27 p xb t (i+1),h5⟩:=⟨i+1,al2,sl2,told2,over2,h5,rfl,hit,rfl,I2,W2,hsl2,hat2⟩
   simp only[env27] at hnext
   simp[-AV.notTup,v1,u1,notTup_ptr,c27_l15,c27_r15,c27_r16,c27_r17,c27_r18,c27_r19,len1,alenS,hit,hit',hix,F27_D,e1,e2,extractV,e3,e4,e5,e6,hwr]
   exact⟨t.length-(i+1),by omega,by simpa using hnext⟩
 . have hi2:i=t.length:=by omega
   subst hi2
   have hfin:=hq h1
   simp only[env27] at hfin
   simp[c27_l15,c27_r15,len1,alenS]
   simpa using hfin
end
theorem plays_walk{h₀:Heap}{v u w:AV}{l a b:List Int}{mm:Int}(hv:Sl1 h₀ v (intCells l))(hu:Sl1 h₀ u (intCells a))(hw:Sl1 h₀ w (intCells b))(hok:slOK v)(hl:l.length<=9223372036854775807)(ha:a.length<=9223372036854775807)(hb:b.length<=9223372036854775807):
  Wt Try.prog F27 c27 ⟨argsEnv 0 [v,u,.int .i64 mm,w],h₀⟩ (Ends Try.prog [.tmp 8] fun r _=>r=.bool true):=by
 have hvt:v.notTup=true:=by rcases hv with⟨rfl,_⟩|⟨_,_,_,_,_,rfl,_,_⟩<;>rfl
 have hut:u.notTup=true:=by rcases hu with⟨rfl,_⟩|⟨_,_,_,_,_,rfl,_,_⟩<;>rfl
 have hwt:w.notTup=true:=by rcases hw with⟨rfl,_⟩|⟨_,_,_,_,_,rfl,_,_⟩<;>rfl
 have hlen:=fun L=>hv.len (t:=30) (e:=3) (by simp) (L:=L)
 have alen_:=fun L=>hu.len (t:=30) (e:=3) (by simp) (L:=L)
 have blen:=fun L=>hw.len (t:=30) (e:=3) (by simp) (L:=L)
 simp only[intCells_len] at hlen alen_ blen
 by_cases h1:40<l.length
 . have h1':(40:Int)<l.length:=by omega
   simp[-AV.notTup,hvt,hut,hwt,c27,c27_r0,c27_r1,c27_r2,len1,hlen,alen_,blen,h1,h1',awake27c]
   rfl
 have h1':¬((40:Int)<l.length):=by omega
 by_cases h2:20<a.length
 . have h2':(20:Int)<a.length:=by omega
   simp[-AV.notTup,hvt,hut,hwt,c27,c27_r0,c27_r1,c27_r2,len1,hlen,alen_,blen,h1,h1',h2,h2',awake27c]
   rfl
 have h2':¬((20:Int)<a.length):=by omega
 by_cases h3:60<b.length
 . have h3':(60:Int)<b.length:=by omega
   simp[-AV.notTup,hvt,hut,hwt,c27,c27_r0,c27_r1,c27_r2,len1,hlen,alen_,blen,h1,h1',h2,h2',h3,h3',awake27c]
   rfl
 have h3':¬((60:Int)<b.length):=by omega
 obtain⟨rs,rb,hA,eA,RI,hN,_,oA,hSub⟩:=rules_run2 hv hok (by omega)
 replace eA:=lift eA
 have hr6:=hN.1
 have ruleN:∀r∈rs,∃k,RuleN k r:=fun r hr=>by
  obtain⟨k,hk,e⟩:=List.mem_iff_getElem.1 hr
  exact⟨k,hN.2 k r (by rw[<-e];exact List.getElem?_eq_getElem hk)⟩
 have p1:=fun h=>lift (place_run (h:=h) (v:=mm) (n:=6) (by decide) (by decide))
 obtain⟨K,hK⟩:∃K:Nat,mm % 6=K:=⟨(mm % 6).toNat,by omega⟩
 have hK6:K<6:=by omega
 rw[hK] at p1
 have hwK:IntKind.wrap .i64 (1+(K:Int))=((1+K:Nat):Int):=by rw[wrap_i64 (by omega) (by omega)];omega
 obtain⟨most,hmost⟩:∃most,1+K=most:=⟨_,rfl⟩
 rw[hmost] at hwK
 obtain⟨rb',rs',hB,eB,RI',hS,oB⟩:=copy_rules RI hSub (by omega)
 replace eB:=lift eB
 have hu2:=(hu.same oA).same oB
 obtain⟨δ,hC,eC,dC,bC,oC⟩:=copy_buf (t:=30) (e:=3) (k:=8) (by simp) (by simp) (by simp) (by simp) hu2 (by rw[intCells_len];simp only[roomMax];omega) (by rw[intCells_len];omega)
 rw[intCells_len] at eC bC
 have hpC:Sl1 hC (bufSl hB.length a.length (intCells a)) (intCells a):=by
  unfold bufSl
  split
  . rename_i e
    have:a=[]:=List.length_eq_zero_iff.1 e
    subst this
    exact .nil
  . rename_i e
    have:=Sl1.cells (bC e)
    rwa[intCells_len] at this ⊢
 obtain⟨pv,hpv⟩:∃pv,bufSl hB.length a.length (intCells a)=pv:=⟨_,rfl⟩
 have pvt:pv.notTup=true:=by rw[<-hpv];exact bufSl_notTup
 rw[hpv] at eC hpC
 have hrl':rs'.length=rs.length:=by simpa using congrArg List.length hS
 have hcont:∀r'∈rs',∃r∈rs,r'.conts=r.conts:=fun r' hr'=>by
  have h5:=hS.conts
  have:r'.conts∈rs'.map (·.conts):=List.mem_map.2 ⟨r',hr',rfl⟩
  rw[h5] at this
  obtain⟨r,hr,e⟩:=List.mem_map.1 this
  exact⟨r,hr,e.symm⟩
 have hSel:=hS.sel a
 have hitE:itF 0 (selL rs' a)=itF 0 (selL rs a):=itF_conts hSel.conts
 have hselLen:=selL_len (rs:=rs) (ks:=a)
 have few3:∀r∈selL rs a,r.conts.length<=3:=fun r hr=>by
  obtain⟨k,hk⟩:=ruleN r (selL_mem hr)
  exact hk.len
 have hit:(itF 0 (selL rs' a)).length<=200:=by
  rw[hitE]
  have:=itF_len (B:=3) (rs:=selL rs a) (q:=0) few3
  omega
 have few80:∀r∈rs',r.conts.length<=80:=fun r' hr'=>by
  obtain⟨r,hr,e⟩:=hcont r' hr'
  obtain⟨k,hk⟩:=ruleN r hr
  have:=hk.len
  rw[e];omega
 obtain⟨xb,lb,cb,sb,lv,nv,BB,al,tab,fl,ob0,ou,hD,eD,S0,oD,f1,f2⟩:=new_side (m0:=(most:Int)) (most:=most) (by omega) (RI'.same oC) hpC (by omega) few80 hit
 rw[hitE] at S0 f2
 replace eD:=lift eD
 obtain⟨p,hp⟩:∃p:SP,p=⟨xb,lb,cb,sb,lv,nv,BB,tab,fl,ob0,ou⟩:=⟨_,rfl⟩
 have S1:SQ hD p al ((selL rs' a).map (askOf most)) (ctI (itF 0 (selL rs a))) (plI (itF 0 (selL rs a))) (ncI (itF 0 (selL rs a))) []:=by rw[hp];exact S0
 have hxb:xb=p.xb:=by rw[hp]
 rw[hxb] at eD
 have oAD:=((oA.trans oB).trans oC).trans oD
 have oBD:=(oB.trans oC).trans oD
 obtain⟨xr,tb,ob,rb2,hE,eE,R1,oE,g1,g2,g3,_⟩:=ref_new (m0:=(most:Int)) (most:=most) (by omega) (RI.same oBD) (hu.same oAD) (by omega)
 replace eE:=lift eE
 have S2:SQ hE p al ((selL rs' a).map (askOf most)) (ctI (itF 0 (selL rs a))) (plI (itF 0 (selL rs a))) (ncI (itF 0 (selL rs a))) []:=SideAt.same S1 oE
 have ap:∀c,(c=xr\/c=tb\/c=ob)->¬sF p al c/\¬cF p (plI (itF 0 (selL rs a))) c:=fun c hc=>by
  have:hD.length<=c:=by rcases hc with rfl|rfl|rfl<;>assumption
  exact⟨fun e=>by have:=S1.lt e;omega,fun e=>by have:=(S1.ap c e).1;omega⟩
 have hsl:((selL rs' a).map (askOf most)).length<=1000:=by
  rw[List.length_map]
  have:=selL_len (rs:=rs') (ks:=a)
  omega
 have hat0:∀s∈(selL rs' a).map (askOf most),s.T.at_<=0:=fun s hs=>by
  obtain⟨r,_,rfl⟩:=List.mem_map.1 hs
  exact Nat.le_of_eq newTo_at
 have W0:∀t,Twin t 0 most ((selL rs' a).map (askOf most)) (selL rs a) (List.replicate (selL rs a).length false) (List.replicate (selL rs a).length false):=fun t=>Twin.ofSame hSel (fun r hr c hc=>by
  obtain⟨k,hk⟩:=ruleN r (selL_mem hr)
  exact hk.few c hc) fun r hr=>by
  obtain⟨k,hk⟩:=ruleN r (selL_mem hr)
  exact hk.act.2
 have I0:Duo hE p al ((selL rs' a).map (askOf most)) (ctI (itF 0 (selL rs a))) (plI (itF 0 (selL rs a))) (ncI (itF 0 (selL rs a))) [] xr tb ob rb2 (selL rs a) most (List.replicate (selL rs a).length false) (List.replicate (selL rs a).length false):=⟨S2,R1,ap⟩
 obtain⟨v1,u1,Wn,al2,told2,over2,hF,hG,eF,eG,v1t,u1t,eS,eAt,I1,W1,oG⟩:=I0.begin hsl W0
 have oAG:Only (fun _=>False) h₀ hG:=(oAD.trans oE).fresh oG fun c hc=>by
  have q1:=(oA.trans oB).trans oC |>.1
  have q2:=oD.1
  have q3:=oE.1
  rcases hc with hc|hc|hc|hc|hc
  . have:=f1 c (by rw[hp] at hc;exact hc);omega
  . omega
  . omega
  . omega
  . omega
 have hmin:amin [.int .i64 b.length,.int .i64 40]=some (.int .i64 (min b.length 40:Nat)):=by
  rw[min2]
  congr 2
  omega
 obtain⟨mn,hmn⟩:∃mn,min b.length 40=mn:=⟨_,rfl⟩
 rw[hmn] at hmin
 obtain⟨t,hH,eH,ht,oH⟩:=letters (hw.same oAG) (n:=mn) (by omega) hb
 replace eH:=lift eH
 have I2:Duo hH p al2 (((selL rs' a).map (askOf most)).map (stepS fun s=>s.T)) (ctI (itF 0 (selL rs a))) (plI (itF 0 (selL rs a))) (ncI (itF 0 (selL rs a))) [] xr tb ob rb2 (selL rs a) most told2 over2:=⟨SideAt.same I1.S oH,I1.R.same oH,I1.ap⟩
 have hsl2:(((selL rs' a).map (askOf most)).map (stepS fun s=>s.T)).length<=1000:=by rw[List.length_map];exact hsl
 have hat2:∀s∈((selL rs' a).map (askOf most)).map (stepS fun s=>s.T),s.T.at_<=0:=fun s hs=>by
  obtain⟨x,hx,rfl⟩:=List.mem_map.1 hs
  have:=hat0 x hx
  rcases stepS_T (stp:=fun s=>s.T) (s:=x) with e|e<;>rw[e]<;>exact this
 have hloop:=fun Q hq=>plays_bytes (Q:=Q) (by omega) I2 (W1 t) hsl2 hat2 hq
 simp only[env27] at hloop
 rw[show ((0:Nat):Int)=0 from rfl] at hloop
 have n1:(rulesSl rb rs).notTup=true:=rulesSl_nt
 have n2:(rulesSl rb' rs').notTup=true:=rulesSl_nt
 generalize rulesSl rb rs=x1 at *
 generalize rulesSl rb' rs'=x2 at *
 simp[-AV.notTup,hvt,hut,hwt,n1,n2,pvt,v1t,u1t,notTup_ptr,c27,c27_r0,c27_r1,c27_r3,c27_r4,c27_r5,c27_r6,c27_r7,c27_r9,c27_r10,c27_r11,c27_r13,c27_r14,len1,hlen,alen_,blen,h1,h1',h2,h2',h3,h3',F27_D,eA,p1,hwK,eB,eC,dC,eD,eE,extractV,eF,eG,eS,eAt,hmin,eH]
 refine hloop _ fun h'=>?_
 simp[c27_r21,len1,awake27c]
 try rfl
end
end Go.AM


/-
  What the law VerdictPlays stands on,part 4.
-/
import Derived.Test.YtamidpfdiijjgaaPW27c
namespace Go.AM
open Go Go.Proofs Go.RowKit
set_option linter.unusedVariables false
set_option linter.unusedSimpArgs false
set_option maxRecDepth 100000
section
def maxL(w:Int)(l:List Int):Int:=l.foldl max w
def candsS(w:Int)(s:AskS):Int:=if s.over then w else maxL w s.T.nums
def candsM(sl:List AskS):Int:=sl.foldl candsS 0
theorem max2{a b:Int}:amax [.int .i64 a,.int .i64 b]=some (.int .i64 (max a b)):=by
 simp only[amax,List.foldl,amax1]
 by_cases h:a<b
 . simp[h];omega
 . simp[h];omega
theorem kept_run2{h:Heap}{tb pa nb:Nat}{T:TS}{fl:FL}(H:TrackAt h tb pa nb T fl)(hl:T.parts.length<=1000000):∃v h',D cfg 74 [tPtr tb] h=some (v,h')/\Sl1 h' v (intCells T.nums)/\Only (fun _=>False) h h'/\∀b,slB v=some b->h.length<=b:=by
 have key:∃r h',D cfg 74 [tPtr tb] h=some (r,h')/\(Sl1 h' r (intCells T.nums)/\Only (fun _=>False) h h'/\∀b,slB r=some b->h.length<=b):=by
  refine call74 (R:=fun r h'=>Sl1 h' r (intCells T.nums)/\Only (fun _=>False) h h'/\∀b,slB r=some b->h.length<=b) (args:=[tPtr tb]) (h:=h) (by simp) ?_
  have hs:=H.sl
  obtain⟨pv,hpv⟩:∃pv,bufSl pa fl.length (ptrCells fl)=pv:=⟨_,rfl⟩
  have hdr:=H.hdr
  rw[hpv] at hs hdr
  have hnt:pv.notTup=true:=by rw[<-hpv];exact bufSl_notTup
  have hlen:=fun L=>hs.len (L:=L) (t:=141) (e:=148) (by simp)
  rw[ptrCells_len,H.ps.len] at hlen
  have q2:=cell_load hdr tC_len (t:=141) (by simp) (off:=2) rfl
  obtain⟨h1,hh1⟩:∃h1,h++[AObj.cells (zeros [.int .i64 0] T.parts.length) 3 true]=h1:=⟨_,rfl⟩
  have o1:Only (fun _=>False) h h1:=by rw[<-hh1];exact .app
  have g1:h1[h.length]?=some (.cells (fillC (numAt T.parts) (.int .i64 0) T.parts.length 0) 3 true):=by rw[<-hh1,<-fillC_zero];simp
  have q2':=cell_load (o1.at hdr id) tC_len (t:=141) (by simp) (off:=2) rfl
  have hb1:8*(T.parts.length:Int)<=281474976710656:=by omega
  have hb2:(T.parts.length:Int)<=9223372036854775807:=by omega
  simp[-AV.notTup,hnt,notTup_ptr,c74,c74_r0,c74_r1,c74_r2,fieldA,q2,len1,hlen,amakeSlice,hb1,hb2,hh1,q2']
  try simp[AV.notTup]
  refine Wt.loop (In74 h pv T.parts) (m:=T.parts.length) ⟨0,h1,rfl,Nat.zero_le _,rfl,g1,o1⟩ ?_
  rintro m σ ⟨i,h2,rfl,hi,rfl,g2,o2⟩
  have hcut:cut (some [3,15,16,17]) (env74 h.length pv T.parts.length i)=env74 h.length pv T.parts.length i:=by simp
  simp only[hcut]
  by_cases hil:i<T.parts.length
  . have hil':(i:Int)<T.parts.length:=by omega
    have hfl:i<fl.length:=by rw[H.ps.len];exact hil
    have hp:T.parts[i]?=some T.parts[i]:=List.getElem?_eq_getElem hil
    obtain⟨f,hf⟩:∃f,fl[i]?=some f:=⟨_,List.getElem?_eq_getElem hfl⟩
    obtain⟨p,hpp⟩:∃p,T.parts[i]=p:=⟨_,rfl⟩
    rw[hpp] at hp
    have hpa:=(H.ps.at_ i p f hp hf).same o2
    have hic:i<(ptrCells fl).length:=by rw[ptrCells_len];exact hfl
    have a1:=hs.at (t:=141) (e:=148) (by simp) (by simp) hic
    have l1:=(hs.same o2).load (e:=148) (by simp) hic
    rw[ptrCells_get hf] at l1
    have q13:=cell_load hpa.hdr partC_len (t:=3) (by simp) (off:=13) rfl
    have hwr:IntKind.wrap .i64 ((i:Int)+1)=i+1:=wrap_i64 (by omega) (by omega)
    have henp:(elp pv i).notTup=true:=by unfold elp;split<;>rfl
    have hnum:numAt T.parts i=.int .i64 p.kept.length:=by simp[numAt,hp]
    have s1:=cell_store g2 fillC_len (t:=3) (by simp) (v:=.int .i64 p.kept.length) rfl (off:=i) hil
    rw[<-hnum,fillC_set hil,hnum] at s1
    obtain⟨h3,hh3⟩:∃h3,h2.set h.length (.cells (fillC (numAt T.parts) (.int .i64 0) T.parts.length (i+1)) 3 true)=h3:=⟨_,rfl⟩
    have g3:h3[h.length]?=some (.cells (fillC (numAt T.parts) (.int .i64 0) T.parts.length (i+1)) 3 true):=by rw[<-hh3,List.getElem?_set_self (lt_of_at g2)]
    have o3:Only (fun c=>c=h.length) h2 h3:=by rw[<-hh3];exact .set rfl
    have hnext:In74 h pv T.parts (T.parts.length-(i+1)) ⟨env74 h.length pv T.parts.length (i+1),h3⟩:=⟨i+1,h3,rfl,hil,rfl,g3,o2.fresh o3 fun c e=>by omega⟩
    simp only[env74] at hnext
    have a2:aindexAddr Try.prog 30 (.sl (some ⟨h.length,0,T.parts.length⟩) T.parts.length T.parts.length) (.int .i64 i)=some (.ptr (some ⟨h.length,i,T.parts.length⟩)):=by simp[aindexAddr,hil,hil']
    simp[-AV.notTup,hnt,notTup_ptr,henp,c74_l3,c74_r3,c74_r4,c74_r5,c74_r6,hil,hil',a1,l1,fieldA,q13,hwr,a2,s1,hh3]
    try simp[AV.notTup]
    exact⟨T.parts.length-(i+1),by omega,by simpa using hnext⟩
  . have hi2:i=T.parts.length:=by omega
    subst hi2
    have hfull:fillC (numAt T.parts) (.int .i64 0) T.parts.length T.parts.length=intCells T.nums:=fillC_full (by simp[intCells,TS.nums]) fun i hi=>by
     simp[intCells,TS.nums,numAt,hi]
    rw[hfull] at g2
    have hsl:=Sl1.cells g2
    have hil:(intCells T.nums).length=T.parts.length:=by simp[intCells,TS.nums]
    rw[hil] at hsl
    simp[-AV.notTup,hnt,notTup_ptr,c74_l3,c74_r3,c74_r7]
    try simp[AV.notTup]
    exact⟨hsl,o2,fun b hb=>by simp[slB] at hb;omega⟩
 obtain⟨r,h',h1,h2,h3⟩:=key
 exact⟨r,h',h1,h2,h3⟩
def In85(h₀:Heap)(b3:Nat)(v:AV)(w:Int)(l:List Int)(m:Nat)(st:St):Prop:=∃i h,m=l.length-i/\i<=l.length/\st=⟨[(3,p1 b3),(14,v),(15,.int .i64 l.length),(16,.int .i64 i)],h⟩ /\
 h[b3]?=some (.cells [.int .i64 (maxL w (l.take i))] 3 false)/\Only (fun c=>c=b3) h₀ h/\Sl1 h v (intCells l)
section
variable {h:Heap} {b3:Nat} {w:Int} {a:AskH} {s:AskS} {al:List AskH} {sl:List AskS}
theorem cands_body(A:AskAt h a s)(hb:h[b3]?=some (.cells [.int .i64 w] 3 false)):∃h',Wt Try.prog (D cfg) c85_cb ⟨[(3,p1 b3),(4,askP a)],h⟩ (fun e s'=>e=.normal/\s'.h=h')/\h'[b3]?=some (.cells [.int .i64 (maxL w s.T.nums)] 3 false)/\Only (fun c=>c=b3) h h':=by
 have q15:=cell_load A.hdr (askC_len A.ok) (t:=84) (by simp) (off:=15) (askC_15 A.ok)
 have hfew:=A.ok.few
 obtain⟨v,h1,e1,S1,o1,hvb⟩:=kept_run2 A.trk (by omega)
 have hb3lt:=lt_of_at hb
 obtain⟨l,hl⟩:∃l,l=s.T.nums:=⟨_,rfl⟩
 have hll:l.length<=1000:=by rw[hl,TS.nums,List.length_map];omega
 rw[<-hl] at S1
 rw[<-hl]
 have hlen:=fun L=>S1.len (t:=30) (e:=3) (by simp) (L:=L)
 simp only[intCells,List.length_map] at hlen
 have hb1:=o1.at hb id
 have key:Wt Try.prog (D cfg) c85_cb ⟨[(3,p1 b3),(4,askP a)],h⟩ (fun e s'=>e=.normal/\s'.h[b3]?=some (.cells [.int .i64 (maxL w l)] 3 false)/\Only (fun c=>c=b3) h s'.h):=by
  simp[c85_cb,c85_r4,fieldA,q15,e1,len1,hlen]
  refine Wt.loop (In85 h1 b3 v w l) (m:=l.length) ⟨0,h1,rfl,Nat.zero_le _,rfl,by simpa[maxL] using hb1,.refl,S1⟩ ?_
  rintro m st ⟨i,h2,rfl,hi,rfl,hb2,o2,S2⟩
  have hcut:cut (some [3,14,15,16]) [(3,p1 b3),(14,v),(15,AV.int .i64 (l.length:Int)),(16,.int .i64 (i:Int))]=[(3,p1 b3),(14,v),(15,AV.int .i64 (l.length:Int)),(16,.int .i64 (i:Int))]:=by simp
  simp only[hcut]
  by_cases hil:i<l.length
  . have hi2:i<(intCells l).length:=by simpa[intCells] using hil
    have a1:=S2.at (t:=30) (e:=3) (by simp) (by simp) hi2
    have a2:=S2.load (e:=3) (by simp) hi2
    simp only[intCells,List.getElem_map] at a2
    have w1:IntKind.wrap .i64 ((i:Int)+1)=i+1:=wrap_i64 (by omega) (by omega)
    obtain⟨W,hW⟩:∃W,W=maxL w (l.take i):=⟨_,rfl⟩
    have hW2:maxL w (l.take (i+1))=max W l[i]:=by
     rw[hW,maxL,maxL,List.take_succ_eq_append_getElem hil,List.foldl_append];rfl
    rw[<-hW] at hb2
    have q3:=cell_load hb2 (n:=1) rfl (t:=3) (by simp) (off:=0) rfl
    have q4:=cell_store hb2 (n:=1) rfl (t:=3) (by simp) (off:=0) (v:=.int .i64 (max W l[i])) rfl (by omega)
    obtain⟨h3,hh3⟩:∃h3,h2.set b3 (.cells [.int .i64 (max W l[i])] 3 false)=h3:=⟨_,rfl⟩
    have o3:Only (fun c=>c=b3) h2 h3:=by rw[<-hh3];exact .set rfl
    have hb3:h3[b3]?=some (.cells [.int .i64 (max W l[i])] 3 false):=by rw[<-hh3];exact at_same (lt_of_at hb2)
    have hnext:In85 h1 b3 v w l (l.length-(i+1)) ⟨[(3,p1 b3),(14,v),(15,.int .i64 l.length),(16,.int .i64 ((i:Int)+1))],h3⟩:=by
     refine⟨i+1,h3,rfl,hil,by simp,by rw[hW2];exact hb3,o2.trans o3,?_⟩
     rcases S2 with⟨r1,r2⟩|⟨b,o,g,c,cs,r1,r2,r3⟩
     . exact .inl ⟨r1,r2⟩
     . by_cases hbb:b=b3
       . exfalso
         have:=hvb b (by rw[r1];rfl)
         omega
       . exact .inr ⟨b,o,g,c,cs,r1,row_only o3 r2 hbb,r3⟩
    simp[c85_l5,c85_r5,c85_r6,c85_r7,c85_r8,hil,a1,a2,q3,max2,q4,hh3,w1]
    exact⟨_,by omega,hnext⟩
  . have:i=l.length:=by omega
    subst this
    rw[List.take_length] at hb2
    simp[c85_l5,c85_r5]
    exact⟨hb2,(o1.mono fun _ _ e=>e.elim).trans o2⟩
 obtain⟨n,e,s',q1,rfl,q2,q3⟩:=key
 exact⟨s'.h,⟨n,_,s',q1,rfl,rfl⟩,q2,q3⟩
end
end
section
abbrev rho85(b3 b1:Nat):Env:=[(3,p1 b3),(8,.fn (.func 126) [p1 b1])]
section
variable {h:Heap} {xb lb n b3 b1:Nat} {sp cv:AV} {al:List AskH} {sl:List AskS}
theorem RulesAt.keep{h h':Heap}{fp:Nat->Prop}(H:RulesAt h xb lb sp cv n al sl)(ho:Only fp h h')(hx:¬fp xb)(hl:al.length≠0->¬fp lb)(ha:∀(k:Nat) (a:AskH),al[k]?=some a->¬fp a.ab/\¬fp a.eb/\∀c,trF a.tb a.fl c->¬fp c)
  (h3:∀c cs t,(t=148\/t=147)->h[c]?=some (.cells cs t true)->¬fp c):RulesAt h' xb lb sp cv n al sl:=
 ⟨ho.at H.kx hx,fun hne=>ho.at (H.kl hne) (hl hne),H.ak.keep ho ha h3⟩
theorem RulesAt.same{h h':Heap}(H:RulesAt h xb lb sp cv n al sl)(ho:Only (fun _=>False) h h'):RulesAt h' xb lb sp cv n al sl:=
 H.keep ho id (fun _=>id) (fun _ _ _=>⟨id,id,fun _ _=>id⟩) fun _ _ _ _ _=>id
theorem RulesAt.num{h h':Heap}(H:RulesAt h xb lb sp cv n al sl){cs:List AV}(hb:h[b3]?=some (.cells cs 3 false))(ho:Only (fun c=>c=b3) h h'):RulesAt h' xb lb sp cv n al sl:=by
 have out:∀{c:Nat} {cs':List AV} {t:TypeId} {g:Bool},h[c]?=some (.cells cs' t g)->t≠3->¬c=b3:=fun hc ht e=>by
  rw[e,hb] at hc
  simp only[Option.some.injEq,AObj.cells.injEq] at hc
  exact ht hc.2.1.symm
 refine H.keep ho (out H.kx (by decide)) (fun hne=>out (H.kl hne) (by decide)) (fun k a ha=>?_) fun c cs t ht hc=>out hc (by rcases ht with e|e<;>rw[e]<;>decide)
 obtain⟨s,_,A⟩:=H.ak.get ha
 refine⟨out A.hdr (by decide),out A.ends (by decide),fun c hc=>?_⟩
 obtain⟨cs,t,q1,q2⟩:=A.trk.typ hc
 exact out q1 (by rcases q2 with e|e|e<;>rw[e]<;>decide)
theorem cands_loop(hsl:sl.length<=1000):∀(m i:Nat),m=sl.length-i->i<=sl.length->∀(h:Heap),RulesAt h xb lb sp cv n al sl->h[b3]?=some (.cells [.int .i64 ((sl.take i).foldl candsS 0)] 3 false) ->
  ∃hE,(∀l,∃ρ,rounds Try.prog (D cfg) it126 c85_ca c85_cb (rho85 b3 b1) 9 l (m+1) ⟨env126 l (bufSl lb al.length (al.map askP)) sl.length i,h⟩=some ⟨ρ,hE⟩)/\RulesAt hE xb lb sp cv n al sl/\hE[b3]?=some (.cells [.int .i64 (candsM sl)] 3 false)/\Only (fun c=>c=b3) h hE
 |0,i,hm,hi,h,H,hb=>by
  have:i=sl.length:=by omega
  subst this
  rw[List.take_length] at hb
  exact⟨h,fun l=>rounds_end (Nat.lt_irrefl _),H,hb,.refl⟩
 |m+1,i,hm,hi,h,H,hb=>by
  have hil:i<sl.length:=by omega
  have hlen:al.length=sl.length:=H.ak.len
  obtain⟨a,ha⟩:∃a,al[i]?=some a:=⟨_,List.getElem?_eq_getElem (by omega)⟩
  obtain⟨s,hse⟩:∃s,s=sl[i]:=⟨_,rfl⟩
  have hs:sl[i]?=some s:=by rw[hse];exact List.getElem?_eq_getElem hil
  have hv:Sl1 h (bufSl lb al.length (al.map askP)) (al.map askP):=by
   have:=Sl1.buf (h:=h) (b:=lb) (e:=164) (s:=true) (xs:=al.map askP) (fun hne=>H.kl (by simpa using hne))
   rwa[List.length_map] at this
  have hf:(sl.take (i+1)).foldl candsS 0=candsS ((sl.take i).foldl candsS 0) s:=by
   rw[List.take_succ_eq_append_getElem hil,List.foldl_append,<-hse];rfl
  obtain⟨w,hw⟩:∃w,w=(sl.take i).foldl candsS 0:=⟨_,rfl⟩
  rw[<-hw] at hb hf
  by_cases hov:s.over=true
  . obtain⟨hE,hr,q1,q2,q3⟩:=cands_loop hsl m (i+1) (by omega) hil h H (by rw[hf,candsS,if_pos hov];exact hb)
    refine⟨hE,fun l=>?_,q1,q2,q3⟩
    rw[rounds_skip hv H.ak ha hs hlen hil (by omega) hov]
    exact hr l
  . have hov':s.over=false:=by simpa using hov
    obtain⟨h',hwt,hb',o'⟩:=cands_body (H.ak.at_ i a s ha hs) hb
    obtain⟨e,t2,hbd,rfl,ht2⟩:=Aw_W hwt
    obtain⟨e,t1,hasg,rfl,ht1⟩:=Aw_W (P:=Try.prog) (F:=D cfg) (k:=c85_ca) (s:=⟨(9,askP a)::rho85 b3 b1,h⟩) (Q:=fun e s'=>e=.normal/\s'=⟨[(3,p1 b3),(4,askP a)],h⟩) (by
     show Wt _ _ _ _ _
     simp[c85_ca,c85_r3])
    subst ht1
    obtain⟨hE,hr,q1,q2,q3⟩:=cands_loop hsl m (i+1) (by omega) hil h' (H.num hb o') (by rw[hf,candsS,if_neg hov];exact hb')
    refine⟨hE,fun l=>?_,q1,q2,o'.trans q3⟩
    rw[rounds_yield hv H.ak ha hs hlen hil (by omega) hov' hasg hbd,ht2]
    exact hr l
theorem cands_run(hsl:sl.length<=1000)(H:RulesAt h xb lb sp cv n al sl):∃h',D cfg1 85 [xPtr xb] h=some (.int .i64 (candsM sl),h')/\RulesAt h' xb lb sp cv n al sl/\Only (fun _=>False) h h':=by
 obtain⟨hA,hhA⟩:∃hA,h++[AObj.cells [.int .i64 0] 3 false]=hA:=⟨_,rfl⟩
 obtain⟨hD,hhD⟩:∃hD,hA++[AObj.cells [xPtr xb] 91 false]=hD:=⟨_,rfl⟩
 have oA:Only (fun _=>False) h hA:=by rw[<-hhA];exact .app
 have oD:Only (fun _=>False) hA hD:=by rw[<-hhD];exact .app
 have o0:=oA.trans oD
 have k3:hA[h.length]?=some (.cells [.int .i64 0] 3 false):=by rw[<-hhA];simp
 obtain⟨e,s',a0,rfl,rfl⟩:=Aw_W (P:=Try.prog) (F:=D cfg) (k:=c85_p0) (s:=⟨argsEnv 0 [xPtr xb],h⟩) (Q:=fun e s'=>e=.normal/\s'=⟨[(0,xPtr xb)],h⟩) (by
  show Wt _ _ _ _ _
  simp[c85_p0,c85_r0])
 obtain⟨e,s',a1,rfl,rfl⟩:=Aw_W (P:=Try.prog) (F:=D cfg) (k:=c85_p1) (s:=⟨[(0,xPtr xb)],h⟩) (Q:=fun e s'=>e=.normal/\s'=⟨[(0,xPtr xb),(3,p1 h.length)],hA⟩) (by
  show Wt _ _ _ _ _
  have q:astore Try.prog (look hA) 3 (p1 h.length) (.int .i64 0)=some (.set h.length (.cells [.int .i64 0] 3 false)):=cell_store k3 (n:=1) rfl (by simp) rfl (by omega)
  have q2:hA.set h.length (.cells [.int .i64 0] 3 false)=hA:=set_id k3
  simp[c85_p1,c85_r1,hhA,q,q2])
 obtain⟨e,s',a2,rfl,rfl⟩:=Aw_W (P:=Try.prog) (F:=D cfg) (k:=c85_p2) (s:=⟨[(0,xPtr xb),(3,p1 h.length)],hA⟩) (Q:=fun e s'=>e=.normal/\s'=⟨rho85 h.length hA.length,hD⟩) (by
  show Wt _ _ _ _ _
  simp[c85_p2,c85_r2,live117,hhD])
 have hpr:preRun Try.prog (D cfg) [c85_p0,c85_p1,c85_p2] ⟨argsEnv 0 [xPtr xb],h⟩=some ⟨rho85 h.length hA.length,hD⟩:=by
  simp only[preRun,a0,a1,a2]
 obtain⟨hE,hr,RE,kE,oE⟩:=cands_loop (b1:=hA.length) (b3:=h.length) hsl sl.length 0 (by omega) (Nat.zero_le _) hD (H.same o0) (oD.at k3 id)
 have k1:hD[hA.length]?=some (.cells [xPtr xb] 91 false):=by rw[<-hhD];simp
 have L1:=cell_load k1 (n:=1) rfl (t:=91) (by simp) (off:=0) rfl
 have Lx:=cell_load (o0.at H.kx id) (n:=4) rfl (t:=161) (by simp) (off:=2) rfl
 have Ll:∀L,alen Try.prog L 161 (bufSl lb al.length (al.map askP))=some (.int .i64 sl.length):=fun L=>by
  rw[<-H.ak.len]
  unfold bufSl
  by_cases hz:al.length=0
  . rw[if_pos hz];simp[alen,hz]
  . rw[if_neg hz];simp[alen]
 have hrun:∀l,rangeRun Try.prog (D cfg) it126 126 c85_ca c85_cb 8 9 l ⟨rho85 h.length hA.length,hD⟩=some hE:=by
  intro l
  obtain⟨ρ,hl⟩:=hr l
  obtain⟨ρ0,r0,g9,gc⟩:∃ρ0:Env,aops Try.prog (D cfg) it126.r0 ⟨argsEnv 0 [.fn (.yield l) [],p1 hA.length],hD⟩=some ⟨ρ0,hD⟩/\ρ0.get 9=some (.int .i64 (sl.length:Nat))/\cut (some [0,8,9,10]) ρ0=env126 l (bufSl lb al.length (al.map askP)) sl.length 0:=by
   refine⟨(10,.int .i64 0)::(9,.int .i64 (sl.length:Nat))::(8,bufSl lb al.length (al.map askP))::(7,.ptr (some ⟨xb,2,4⟩))::(6,xPtr xb)::(5,xPtr xb)::argsEnv 0 [.fn (.yield l) [],p1 hA.length],aops_eq ?_,by simp[Env.get],by simp[cut,pick,Env.get,argsEnv]⟩
   simp[it126,c126_r0,L1,fieldA,Lx,len1,Ll,argsEnv]
  have g9':(rho85 h.length hA.length).get 8=some (.fn (.func 126) [p1 hA.length]):=by simp[Env.get]
  unfold rangeRun
  simp only[g9',ne_eq,not_true,if_false]
  simp only[r0,g9,gc,Int.toNat_natCast]
  rw[hl]
 have q3:=cell_load kE (n:=1) rfl (t:=3) (by simp) (off:=0) rfl
 obtain⟨e,s3,hs,he,h4,rfl⟩:=Aw_W (P:=Try.prog) (F:=D cfg) (k:=c85_s0) (s:=⟨rho85 h.length hA.length,hE⟩) (Q:=fun e s'=>(e=.normal\/e=.ret)/\s'.ρ.get 2=some (.int .i64 (candsM sl))/\s'.h=hE) (by
  show Wt _ _ _ _ _
  simp[c85_s0,c85_r9,q3,Env.get])
 refine⟨s3.h,?_,RE,⟨Nat.le_trans o0.1 oE.1,fun c hc _=>by rw[oE.2 c (Nat.lt_of_lt_of_le hc o0.1) (by omega),o0.2 c hc id]⟩⟩
 refine D_of (n:=1) ?_
 have hx1:cfg1.ext 85=some ext85:=rfl
 simp only[acall,hx1]
 refine rfExt_of (by rw[c85_nt];simp) hpr hrun ?_
 rw[hs]
 unfold afinish
 have hres:aresultL Try.prog s3 Try.f85.results.toList=some [.int .i64 (candsM sl)]:=by
  rw[c85_rs]
  simp[aresultL,aresult,h4]
 have hall:[AV.int .i64 (candsM sl)].all AV.notTup=true:=rfl
 rcases he with rfl|rfl<;>simp only[hres,hall,if_true,pack]
end
end
section
def ctC(P:List AV)(ct:List (Nat×Nat)):List AV:=ct.flatMap fun x=>[P.getD x.1 (.ptr none),.int .i64 (x.2:Nat)]
theorem ctC_len{P:List AV}:∀{ct:List (Nat×Nat)},(ctC P ct).length=ct.length*2
 |[]=>rfl
 |t::l=>by
  have:=ctC_len (P:=P) (ct:=l)
  simp only[ctC,List.flatMap_cons,List.length_append,List.length_cons] at this ⊢
  rw[this];simp;omega
theorem ctC_drop{P:List AV}:∀{ct:List (Nat×Nat)} {i:Nat} (h:i<ct.length),((ctC P ct).drop (i*2)).take 2=[P.getD ct[i].1 (.ptr none),.int .i64 (ct[i].2:Nat)]
 |[],i,h=>by simp at h
 |t::l,0,h=>rfl
 |t::l,i+1,h=>by
  have ih:=ctC_drop (P:=P) (ct:=l) (i:=i) (by simpa using h)
  show (([P.getD t.1 (.ptr none),.int .i64 (t.2:Nat)]++ctC P l).drop ((i+1)*2)).take 2=_
  rw[show (i+1)*2=[P.getD t.1 (.ptr none),AV.int .i64 (t.2:Nat)].length+i*2 by simp;omega,<-List.drop_drop,List.drop_left]
  simpa using ih
def setEnd(b:Bool)(i:Nat)(s:AskS):AskS:={ s with ends:=s.ends.set i b }
def setOne(b:Bool)(ct:List (Nat×Nat))(sl:List AskS)(z:Int):List AskS:=
 match ct[z.toNat]? with
 |some x=>match sl[x.1]? with
  |some s=>sl.set x.1 (setEnd b x.2 s)
  |none=>sl
 |none=>sl
theorem boolCells_set{l:List Bool}{i:Nat}{b:Bool}:(boolCells l).set i (.bool b)=boolCells (l.set i b):=by simp[boolCells,List.map_set]
section
variable {h h':Heap} {xb lb cb n:Nat} {sp cv:AV} {al:List AskH} {sl:List AskS} {ct:List (Nat×Nat)}
theorem RulesAt.ends(H:RulesAt h xb lb sp cv n al sl){k:Nat}{a:AskH}{s:AskS}(ha:al[k]?=some a)(hs:sl[k]?=some s){i:Nat}{b:Bool}(e:h.set a.eb (.cells (boolCells (s.ends.set i b)) 4 true)=h'):
  RulesAt h' xb lb sp cv n al (sl.set k (setEnd b i s))/\Only (fun c=>c=a.eb) h h':=by
 have A:=H.ak.at_ k a s ha hs
 have hlt:=lt_of_at A.ends
 have ho:Only (fun c=>c=a.eb) h h':=by rw[<-e];exact .set rfl
 have out:∀{c:Nat} {cs':List AV} {t:TypeId} {g:Bool},h[c]?=some (.cells cs' t g)->t≠4->¬c=a.eb:=fun hc ht e=>by
  have:=A.ends
  rw[<-e,hc] at this
  simp only[Option.some.injEq,AObj.cells.injEq] at this
  exact ht this.2.1
 have hn:AskAt h' a (setEnd b i s):=by
  refine⟨?_,?_,by rw[<-e];exact at_same hlt,⟨A.ok.len,A.ok.act,A.ok.sid,A.ok.T,A.ok.few⟩⟩
  . have:=ho.at A.hdr (out A.hdr (by decide))
    rw[this]
    simp[askC,setEnd]
  . refine A.trk.keep ho (out A.trk.hdr (by decide)) (fun hne=>out (A.trk.pv hne) (by decide)) (fun hne=>out (A.trk.nv hne) (by decide)) (fun c hc=>?_)
    obtain⟨cs,t,q1,q2⟩:=A.trk.typ (.inr hc)
    exact out q1 (by rcases q2 with e|e|e<;>rw[e]<;>decide)
 have:=H.ak.put ha ho (fun c hc=>.inr (.inl hc)) (a':=a) (s':=setEnd b i s) rfl rfl rfl (fun c hc=>.inl hc) hn
 rw[set_id ha] at this
 exact⟨⟨ho.at H.kx (out H.kx (by decide)),fun hne=>ho.at (H.kl hne) (out (H.kl hne) (by decide)),this⟩,ho⟩
theorem ct_at(H:RulesAt h xb lb sp cv n al sl)(hcb:ct.length≠0->h[cb]?=some (.cells (ctC (al.map askP) ct) 168 true)){z:Nat}(hz:z<ct.length)(hok:∀x∈ct,∃s,sl[x.1]?=some s/\x.2<s.ends.length):
  ∃x a s,ct[z]?=some x/\al[x.1]?=some a/\sl[x.1]?=some s/\x.2<s.ends.length/\aindexAddr Try.prog 160 (bufSl cb ct.length (ctC (al.map askP) ct)) (.int .i64 z)=some (.ptr (some ⟨cb,z*2,(ctC (al.map askP) ct).length⟩)) /\
   aload Try.prog (look h) 168 (.ptr (some ⟨cb,z*2,(ctC (al.map askP) ct).length⟩))=some (.agg [askP a,.int .i64 (x.2:Nat)]):=by
 obtain⟨s,hs,hi⟩:=hok _ (List.getElem_mem hz)
 have hl:=(List.getElem?_eq_some_iff.1 hs).1
 rw[<-H.ak.len] at hl
 have ha:al[ct[z].1]?=some al[ct[z].1]:=List.getElem?_eq_getElem hl
 refine⟨ct[z],al[ct[z].1],s,List.getElem?_eq_getElem hz,ha,hs,hi,?_,?_⟩
 . unfold bufSl
   rw[if_neg (by omega)]
   have hz':(z:Int)<ct.length:=by omega
   simp[aindexAddr,hz']
 . have hb:=hcb (by omega)
   have hd:=ctC_drop (P:=al.map askP) hz
   have hg:(al.map askP).getD ct[z].1 (.ptr none)=askP al[ct[z].1]:=by simp[List.getD_eq_getElem?_getD,ha]
   rw[hg] at hd
   have hlen:z*2+2<=(ctC (al.map askP) ct).length:=by rw[ctC_len];omega
   simp[aload,row,hb,agk,hlen,hd]
end
end
theorem intSl_sl{h:Heap}{bl:Nat}{zs:List Int}(hb:zs≠[]->h[bl]?=some (.cells (intCells zs) 3 true)):Sl1 h (intSl bl zs) (intCells zs):=by
 by_cases hz:zs=[]
 . subst hz;exact .nil
 . unfold intSl
   rw[if_neg hz]
   have:=Sl1.cells (hb hz)
   rwa[show (intCells zs).length=zs.length by simp[intCells]] at this
def setsTo(b:Bool)(ct:List (Nat×Nat))(sl:List AskS)(zs:List Int):List AskS:=zs.foldl (setOne b ct) sl
theorem setOne_ok{b:Bool}{ct:List (Nat×Nat)}{sl:List AskS}{z:Int}(h:∀x∈ct,∃s,sl[x.1]?=some s/\x.2<s.ends.length):∀x∈ct,∃s,(setOne b ct sl z)[x.1]?=some s/\x.2<s.ends.length:=by
 intro x hx
 obtain⟨s,hs,hl⟩:=h x hx
 unfold setOne
 split
 . rename_i y hy
   split
   . rename_i t ht
     by_cases e:y.1=x.1
     . rw[e] at ht ⊢
       rw[hs] at ht
       cases ht
       refine⟨_,List.getElem?_set_self (List.getElem?_eq_some_iff.1 hs).1,by simp[setEnd];exact hl⟩
     . rw[List.getElem?_set_ne e]
       exact⟨s,hs,hl⟩
   . exact⟨s,hs,hl⟩
 . exact⟨s,hs,hl⟩
structure EI (h₀ h:Heap) (xb lb cb bl n:Nat) (sp:AV) (al:List AskH) (sl:List AskS) (ct:List (Nat×Nat)) (zs:List Int):Prop where
 r:RulesAt h xb lb sp (bufSl cb ct.length (ctC (al.map askP) ct)) n al sl
 c:ct.length≠0->h[cb]?=some (.cells (ctC (al.map askP) ct) 168 true)
 z:zs≠[]->h[bl]?=some (.cells (intCells zs) 3 true)
 ok:∀x∈ct,∃s,sl[x.1]?=some s/\x.2<s.ends.length
 o:Only (fun c=>(∃(k:Nat) (a:AskH),al[k]?=some a/\c=a.eb)\/h₀.length<=c) h₀ h
theorem EI.one{h₀ h:Heap}{xb lb cb bl n:Nat}{sp:AV}{al:List AskH}{sl:List AskS}{ct:List (Nat×Nat)}{zs:List Int}(I:EI h₀ h xb lb cb bl n sp al sl ct zs)(b:Bool){k:Nat}(hk:k<ct.length):
  ∃(x:Nat×Nat) (a:AskH) (s:AskS) (h1 h2:Heap),ct[k]?=some x/\aindexAddr Try.prog 160 (bufSl cb ct.length (ctC (al.map askP) ct)) (.int .i64 k)=some (.ptr (some ⟨cb,k*2,(ctC (al.map askP) ct).length⟩)) /\
   aload Try.prog (look h) 168 (.ptr (some ⟨cb,k*2,(ctC (al.map askP) ct).length⟩))=some (.agg [askP a,.int .i64 (x.2:Nat)]) /\
   h++[AObj.cells [askP a,.int .i64 (x.2:Nat)] 168 false]=h1/\h1[h.length]?=some (.cells [askP a,.int .i64 (x.2:Nat)] 168 false) /\
   aload Try.prog (look h1) 68 (.ptr (some ⟨a.ab,16,18⟩))=some (endSl a.eb s.ends.length)/\aindexAddr Try.prog 68 (endSl a.eb s.ends.length) (.int .i64 (x.2:Nat))=some (.ptr (some ⟨a.eb,x.2,s.ends.length⟩)) /\
   astore Try.prog (look h1) 4 (.ptr (some ⟨a.eb,x.2,s.ends.length⟩)) (.bool b)=some (.set a.eb (.cells (boolCells (s.ends.set x.2 b)) 4 true))/\h1.set a.eb (.cells (boolCells (s.ends.set x.2 b)) 4 true)=h2 /\
   EI h₀ h2 xb lb cb bl n sp al (setOne b ct sl k) ct zs:=by
 obtain⟨x,a,s,hx,ha,hs,hi,e1,e2⟩:=ct_at I.r I.c hk I.ok
 obtain⟨h1,hh1⟩:∃h1,h++[AObj.cells [askP a,.int .i64 (x.2:Nat)] 168 false]=h1:=⟨_,rfl⟩
 have o1:Only (fun _=>False) h h1:=by rw[<-hh1];exact .app
 have k1:h1[h.length]?=some (.cells [askP a,.int .i64 (x.2:Nat)] 168 false):=by rw[<-hh1];simp
 have R1:=I.r.same o1
 have A:=R1.ak.at_ x.1 a s ha hs
 have q16:=cell_load A.hdr (askC_len A.ok) (t:=68) (by simp) (off:=16) (askC_16 A.ok)
 have hi':(x.2:Int)<s.ends.length:=by omega
 have qs:=cell_store A.ends (n:=s.ends.length) boolCells_len (t:=4) (by simp) (off:=x.2) (v:=.bool b) rfl hi
 rw[boolCells_set] at qs
 obtain⟨h2,hh2⟩:∃h2,h1.set a.eb (.cells (boolCells (s.ends.set x.2 b)) 4 true)=h2:=⟨_,rfl⟩
 obtain⟨R2,o2⟩:=R1.ends ha hs hh2
 have out:∀{c:Nat} {cs':List AV} {t:TypeId} {g:Bool},h1[c]?=some (.cells cs' t g)->t≠4->¬c=a.eb:=fun hc ht e=>by
  have:=A.ends
  rw[<-e,hc] at this
  simp only[Option.some.injEq,AObj.cells.injEq] at this
  exact ht this.2.1
 have hset:setOne b ct sl k=sl.set x.1 (setEnd b x.2 s):=by simp[setOne,hx,hs]
 refine⟨x,a,s,h1,h2,hx,e1,e2,hh1,k1,q16,by simp[aindexAddr,hi'],qs,hh2,by rw[hset];exact R2,fun hne=>o2.at (o1.at (I.c hne) id) (out (o1.at (I.c hne) id) (by decide)),fun hne=>o2.at (o1.at (I.z hne) id) (out (o1.at (I.z hne) id) (by decide)),setOne_ok I.ok,?_⟩
 exact (I.o.trans (o1.mono fun _ _ e=>e.elim)).trans (o2.mono fun c _ e=>.inl ⟨x.1,a,ha,e⟩)
abbrev env83a(xb:Nat)(u v:AV)(n i:Nat):Env:=[(0,xPtr xb),(6,v),(27,v),(28,.int .i64 n),(29,.int .i64 i)]
theorem ends_loopa{h₀:Heap}{xb lb cb bl n:Nat}{sp u:AV}{al:List AskH}{sl:List AskS}{ct:List (Nat×Nat)}{zs:List Int}(hz:∀z∈zs,∃k:Nat,k<ct.length/\z=k)(hzl:zs.length<=1000000){Q:AExit->St->Prop}{h:Heap}(I:EI h₀ h xb lb cb bl n sp al sl ct zs)
  (hq:∀h',EI h₀ h' xb lb cb bl n sp al (setsTo true ct sl zs) ct zs->Q (.exit 0) ⟨env83a xb u (intSl bl zs) zs.length zs.length++[(30,.bool false)],h'⟩):
  Wt Try.prog (D cfg1) (.loop c83_l4 (some [0,6,27,28,29])) ⟨env83a xb u (intSl bl zs) zs.length 0,h⟩ Q:=by
 refine Wt.loop (fun m st=>∃i h,m=zs.length-i/\i<=zs.length/\st=⟨env83a xb u (intSl bl zs) zs.length i,h⟩/\EI h₀ h xb lb cb bl n sp al (setsTo true ct sl (zs.take i)) ct zs) (m:=zs.length) ⟨0,h,rfl,Nat.zero_le _,rfl,I⟩ ?_
 rintro m st ⟨i,h1,rfl,hi,rfl,I1⟩
 have hcut:cut (some [0,6,27,28,29]) (env83a xb u (intSl bl zs) zs.length i)=env83a xb u (intSl bl zs) zs.length i:=by simp
 simp only[hcut]
 by_cases hil:i<zs.length
 . obtain⟨k,hk,hzk⟩:=hz zs[i] (List.getElem_mem hil)
   have hS:=intSl_sl I1.z
   have hi2:i<(intCells zs).length:=by simpa[intCells] using hil
   have a1:=hS.at (t:=30) (e:=3) (by simp) (by simp) hi2
   have a2:=hS.load (e:=3) (by simp) hi2
   simp only[intCells,List.getElem_map] at a2
   rw[hzk] at a2
   have w1:IntKind.wrap .i64 ((i:Int)+1)=i+1:=wrap_i64 (by omega) (by omega)
   obtain⟨x,a,s,h2,h3,hx,e1,e2,e3,k2,e4,e5,e6,e7,I3⟩:=I1.one true hk
   have q1:=cell_load I1.r.kx (n:=4) rfl (t:=160) (by simp) (off:=1) rfl
   have c0:=cell_load k2 (n:=2) rfl (t:=164) (by simp) (off:=0) rfl
   have c1:=cell_load k2 (n:=2) rfl (t:=3) (by simp) (off:=1) rfl
   obtain⟨cv,hcv⟩:∃cv,cv=bufSl cb ct.length (ctC (al.map askP) ct):=⟨_,rfl⟩
   rw[<-hcv] at e1 q1
   have sA:astore Try.prog (look (h1++[AObj.cells [.ptr none,.int .i64 0] 168 false])) 168 (.ptr (some ⟨h1.length,0,2⟩)) (.agg [askP a,.int .i64 (x.2:Nat)])=some (.set h1.length (.cells [askP a,.int .i64 (x.2:Nat)] 168 false)):=by
    simp[astore,look_at,splice]
   have hnext:∃j h',zs.length-(i+1)=zs.length-j/\j<=zs.length/\(⟨env83a xb u (intSl bl zs) zs.length (i+1),h3⟩:St)=⟨env83a xb u (intSl bl zs) zs.length j,h'⟩/\EI h₀ h' xb lb cb bl n sp al (setsTo true ct sl (zs.take j)) ct zs:=by
    refine⟨i+1,h3,rfl,hil,rfl,?_⟩
    rw[List.take_succ_eq_append_getElem hil,setsTo,List.foldl_append,hzk]
    exact I3
   simp[-AV.cells,-AV.one,-AV.notTup,c83_l4,c83_r4,c83_r5,c83_r6,c83_r7,c83_r8,hil,a1,a2,fieldA,q1,e1,e2,cells_agg,sA,e3,c0,c1,e4,e5,e6,e7,w1]
   exact⟨zs.length-(i+1),by omega,by simpa[env83a] using hnext⟩
 . have:i=zs.length:=by omega
   subst this
   rw[List.take_length] at I1
   simp[c83_l4,c83_r4]
   simpa using hq h1 I1
abbrev env83b(xb:Nat)(u v:AV)(n i:Nat):Env:=[(0,xPtr xb),(10,u),(51,v),(52,.int .i64 n),(53,.int .i64 i)]
theorem ends_loopb{h₀:Heap}{xb lb cb bl n:Nat}{sp u:AV}{al:List AskH}{sl:List AskS}{ct:List (Nat×Nat)}{zs:List Int}(hz:∀z∈zs,∃k:Nat,k<ct.length/\z=k)(hzl:zs.length<=1000000){Q:AExit->St->Prop}{h:Heap}(I:EI h₀ h xb lb cb bl n sp al sl ct zs)
  (hq:∀h',EI h₀ h' xb lb cb bl n sp al (setsTo false ct sl zs) ct zs->Q (.exit 2) ⟨env83b xb u (intSl bl zs) zs.length zs.length++[(54,.bool false)],h'⟩):
  Wt Try.prog (D cfg1) (.loop c83_l11 (some [0,10,51,52,53])) ⟨env83b xb u (intSl bl zs) zs.length 0,h⟩ Q:=by
 refine Wt.loop (fun m st=>∃i h,m=zs.length-i/\i<=zs.length/\st=⟨env83b xb u (intSl bl zs) zs.length i,h⟩/\EI h₀ h xb lb cb bl n sp al (setsTo false ct sl (zs.take i)) ct zs) (m:=zs.length) ⟨0,h,rfl,Nat.zero_le _,rfl,I⟩ ?_
 rintro m st ⟨i,h1,rfl,hi,rfl,I1⟩
 have hcut:cut (some [0,10,51,52,53]) (env83b xb u (intSl bl zs) zs.length i)=env83b xb u (intSl bl zs) zs.length i:=by simp
 simp only[hcut]
 by_cases hil:i<zs.length
 . obtain⟨k,hk,hzk⟩:=hz zs[i] (List.getElem_mem hil)
   have hS:=intSl_sl I1.z
   have hi2:i<(intCells zs).length:=by simpa[intCells] using hil
   have a1:=hS.at (t:=30) (e:=3) (by simp) (by simp) hi2
   have a2:=hS.load (e:=3) (by simp) hi2
   simp only[intCells,List.getElem_map] at a2
   rw[hzk] at a2
   have w1:IntKind.wrap .i64 ((i:Int)+1)=i+1:=wrap_i64 (by omega) (by omega)
   obtain⟨x,a,s,h2,h3,hx,e1,e2,e3,k2,e4,e5,e6,e7,I3⟩:=I1.one false hk
   have q1:=cell_load I1.r.kx (n:=4) rfl (t:=160) (by simp) (off:=1) rfl
   have c0:=cell_load k2 (n:=2) rfl (t:=164) (by simp) (off:=0) rfl
   have c1:=cell_load k2 (n:=2) rfl (t:=3) (by simp) (off:=1) rfl
   obtain⟨cv,hcv⟩:∃cv,cv=bufSl cb ct.length (ctC (al.map askP) ct):=⟨_,rfl⟩
   rw[<-hcv] at e1 q1
   have sA:astore Try.prog (look (h1++[AObj.cells [.ptr none,.int .i64 0] 168 false])) 168 (.ptr (some ⟨h1.length,0,2⟩)) (.agg [askP a,.int .i64 (x.2:Nat)])=some (.set h1.length (.cells [askP a,.int .i64 (x.2:Nat)] 168 false)):=by
    simp[astore,look_at,splice]
   have hnext:∃j h',zs.length-(i+1)=zs.length-j/\j<=zs.length/\(⟨env83b xb u (intSl bl zs) zs.length (i+1),h3⟩:St)=⟨env83b xb u (intSl bl zs) zs.length j,h'⟩/\EI h₀ h' xb lb cb bl n sp al (setsTo false ct sl (zs.take j)) ct zs:=by
    refine⟨i+1,h3,rfl,hil,rfl,?_⟩
    rw[List.take_succ_eq_append_getElem hil,setsTo,List.foldl_append,hzk]
    exact I3
   simp[-AV.cells,-AV.one,-AV.notTup,c83_l11,c83_r11,c83_r12,c83_r13,c83_r14,c83_r15,hil,a1,a2,fieldA,q1,e1,e2,cells_agg,sA,e3,c0,c1,e4,e5,e6,e7,w1]
   exact⟨zs.length-(i+1),by omega,by simpa[env83b] using hnext⟩
 . have:i=zs.length:=by omega
   subst this
   rw[List.take_length] at I1
   simp[c83_l11,c83_r11]
   simpa using hq h1 I1
section
theorem scHits_mem{nc:List Bool}{w:Txt}{z:Int}:∀{l:List Txt} {i:Nat},z∈scHits nc w l i->∃k,k<l.length/\z=((i+k:Nat):Int)
 |[],i,h=>by simp[scHits] at h
 |p::l,i,h=>by
  have again:z∈scHits nc w l (i+1)->∃k,k<(p::l).length/\z=((i+k:Nat):Int):=fun h=>by
   obtain⟨k,h1,h2⟩:=scHits_mem h
   exact⟨k+1,by simp;omega,by rw[h2];omega⟩
  unfold scHits at h
  split at h
  . rcases List.mem_cons.1 h with h|h
    . exact⟨0,by simp,by simp[h]⟩
    . exact again h
  . exact again h
section
variable {h h':Heap} {xb lb n:Nat} {sp cv:AV} {al:List AskH} {sl:List AskS}
theorem RulesAt.other(H:RulesAt h xb lb sp cv n al sl){c0:Nat}{cs:List AV}{t0:TypeId}{g:Bool}(hb:h[c0]?=some (.cells cs t0 g))(ho:Only (fun c=>c=c0) h h')
  (ht:t0≠144/\t0≠147/\t0≠181/\t0≠166/\t0≠4/\t0≠148/\t0≠164/\t0≠163):RulesAt h' xb lb sp cv n al sl:=by
 have out:∀{c:Nat} {cs':List AV} {t:TypeId} {g:Bool},h[c]?=some (.cells cs' t g)->t≠t0->¬c=c0:=fun hc hne e=>by
  rw[e,hb] at hc
  simp only[Option.some.injEq,AObj.cells.injEq] at hc
  exact hne hc.2.1.symm
 obtain⟨t1,t2,t3,t4,t5,t6,t7,t8⟩:=ht
 refine H.keep ho (out H.kx (Ne.symm t8)) (fun hne=>out (H.kl hne) (Ne.symm t7)) (fun k a ha=>?_) fun c cs t hty hc=>out hc (by rcases hty with e|e<;>rw[e];exact Ne.symm t6;exact Ne.symm t2)
 obtain⟨s,_,A⟩:=H.ak.get ha
 refine⟨out A.hdr (Ne.symm t4),out A.ends (Ne.symm t5),fun c hc=>?_⟩
 obtain⟨cs,t,q1,q2⟩:=A.trk.typ hc
 exact out q1 (by rcases q2 with e|e|e<;>rw[e];exact Ne.symm t1;exact Ne.symm t2;exact Ne.symm t3)
theorem RulesAt.next(H:RulesAt h xb lb sp cv n al sl){m:Nat}(e:h.set xb (.cells (xC sp cv (bufSl lb al.length (al.map askP)) m) 163 false)=h'):RulesAt h' xb lb sp cv m al sl/\Only (fun c=>c=xb) h h':=by
 have ho:Only (fun c=>c=xb) h h':=by rw[<-e];exact .set rfl
 have out:∀{c:Nat} {cs':List AV} {t:TypeId} {g:Bool},h[c]?=some (.cells cs' t g)->t≠163->¬c=xb:=fun hc hne e=>by
  have:=H.kx
  rw[<-e,hc] at this
  simp only[Option.some.injEq,AObj.cells.injEq] at this
  exact hne this.2.1
 refine⟨⟨by rw[<-e];exact at_same (lt_of_at H.kx),fun hne=>ho.at (H.kl hne) (out (H.kl hne) (by decide)),H.ak.keep ho (fun k a ha=>?_) fun c cs t hty hc=>out hc (by rcases hty with e|e<;>rw[e]<;>decide)⟩,ho⟩
 obtain⟨s,_,A⟩:=H.ak.get ha
 refine⟨out A.hdr (by decide),out A.ends (by decide),fun c hc=>?_⟩
 obtain⟨cs,t,q1,q2⟩:=A.trk.typ hc
 exact out q1 (by rcases q2 with e|e|e<;>rw[e]<;>decide)
end
end
section
abbrev stpS(s:AskS):TS:=stepT s.T s.ends
structure SideAt (h:Heap) (xb lb cb sb:Nat) (lv nv:AV) (BB:AB) (al:List AskH) (sl:List AskS) (ct:List (Nat×Nat)) (pl:List Txt) (nc:List Bool) (w:Txt) (tab:Nat->Nat->Nat) (fl ob:Nat->Nat) (ou:Nat->List Int):Prop where
 r:RulesAt h xb lb (scPtr sb) (bufSl cb ct.length (ctC (al.map askP) ct)) w.length al sl
 c:ct.length≠0->h[cb]?=some (.cells (ctC (al.map askP) ct) 168 true)
 s:ScanX h sb lv nv BB pl nc w tab fl ob ou
 ok:∀x∈ct,∃s,sl[x.1]?=some s/\x.2<s.ends.length
 cl:ct.length=pl.length
 ap:∀c,scFoot sb lv nv BB (begs (pl.map fold)).length ob ou c->c<h.length/\c≠xb/\¬askF al c/\∀(k:Nat) (a:AskH),al[k]?=some a->c≠a.eb
def sideF(xb sb:Nat)(al:List AskH)(c:Nat):Prop:=c=xb\/c=sb\/askF al c\/∃(k:Nat) (a:AskH),al[k]?=some a/\c=a.eb
theorem call1_83{args:List AV}{h:Heap}{R:AV->Heap->Prop}(hn:args.length<=76)(hw:Wt Try.prog (D cfg1) c83 ⟨argsEnv 0 args,h⟩ (Ends Try.prog [.tmp 4,.tmp 5] R)):∃r h',D cfg1 83 args h=some (r,h')/\R r h':=
 let ⟨_,hb,hk⟩:=c83_eq
 W.calls (c:=cfg1) rfl c83_fn hb hk c83_rs (by rw[c83_nt];exact hn) hw
theorem setsTo_len{b:Bool}{ct:List (Nat×Nat)}:∀{zs:List Int} {sl:List AskS},(setsTo b ct sl zs).length=sl.length
 |[],sl=>rfl
 |z::zs,sl=>by
  show (setsTo b ct (setOne b ct sl z) zs).length=_
  rw[setsTo_len]
  unfold setOne
  split
  . split<;>simp
  . rfl
theorem setOne_T{b:Bool}{ct:List (Nat×Nat)}{sl:List AskS}{z:Int}{s:AskS}(h:s∈setOne b ct sl z):∃t∈sl,s.T=t.T:=by
 unfold setOne at h
 split at h
 . split at h
   . rename_i t ht
     rcases List.mem_or_eq_of_mem_set h with h|h
     . exact⟨s,h,rfl⟩
     . exact⟨t,List.mem_of_getElem? ht,by rw[h];rfl⟩
   . exact⟨s,h,rfl⟩
 . exact⟨s,h,rfl⟩
theorem setsTo_T{b:Bool}{ct:List (Nat×Nat)}:∀{zs:List Int} {sl:List AskS} {s:AskS},s∈setsTo b ct sl zs->∃t∈sl,s.T=t.T
 |[],sl,s,h=>⟨s,h,rfl⟩
 |z::zs,sl,s,h=>by
  obtain⟨t,h1,h2⟩:=setsTo_T (sl:=setOne b ct sl z) (zs:=zs) h
  obtain⟨u,h3,h4⟩:=setOne_T h1
  exact⟨u,h3,h2.trans h4⟩
theorem toldS_ends{stp:AskS->TS}{s:AskS}:(stepS stp s).ends=s.ends:=by
 unfold stepS toldS
 split
 . rfl
 . split<;>rfl
def stepSl(ct:List (Nat×Nat))(sl:List AskS)(zs:List Int):List AskS:=setsTo false ct ((setsTo true ct sl zs).map (stepS stpS)) zs
section
variable {h:Heap} {xb lb cb sb:Nat} {lv nv:AV} {BB:AB} {al:List AskH} {sl:List AskS} {ct:List (Nat×Nat)} {pl:List Txt} {nc:List Bool} {w:Txt} {tab:Nat->Nat->Nat} {fl ob:Nat->Nat} {ou:Nat->List Int}
theorem step_side(H:SideAt h xb lb cb sb lv nv BB al sl ct pl nc w tab fl ob ou)(hsl:sl.length<=1000)(hat:∀s∈sl,s.T.at_<=900000)(hw:w.length<=100000){b:UInt8}{zs:List Int}(hzs:zs=scHits nc (w++[b]) pl 0){ns:List Note}(hns:ns=toldNotes stpS (w.length+1) (setsTo true ct sl zs)):
  ∃v al' h',D cfg1 83 [xPtr xb,.int .u8 b.toNat] h=some (.tup [v,.int .i64 (worstM ns)],h')/\NotesAt h' v ns/\v.notTup=true/\SideAt h' xb lb cb sb lv nv BB al' (stepSl ct sl zs) ct pl nc (w++[b]) tab fl ob ou /\
   Only (fun c=>sideF xb sb al c\/h.length<=c) h h'/\(∀c,sideF xb sb al' c->sideF xb sb al c\/h.length<=c):=by
 obtain⟨h1,hh1⟩:∃h1,h.set xb (.cells (xC (scPtr sb) (bufSl cb ct.length (ctC (al.map askP) ct)) (bufSl lb al.length (al.map askP)) (w.length+1)) 163 false)=h1:=⟨_,rfl⟩
 obtain⟨R1,o1⟩:=H.r.next hh1
 have S1:=H.s.keep o1 fun c hc=>(H.ap c hc).2.1
 obtain⟨ring,hring,hsb⟩:=S1.sc.hdr
 obtain⟨bl,h2,e2,S2,o2,hz2⟩:=scan_step S1 (by omega) (b:=b)
 rw[<-hzs] at e2 hz2
 have R2:=R1.other hsb o2 (by decide)
 have hcx:ct.length≠0->cb≠xb:=fun hne e=>by
  have:=H.r.kx
  rw[<-e,H.c hne] at this;simp at this
 have c1:ct.length≠0->h1[cb]?=some (.cells (ctC (al.map askP) ct) 168 true):=fun hne=>o1.at (H.c hne) (hcx hne)
 have c2:ct.length≠0->h2[cb]?=some (.cells (ctC (al.map askP) ct) 168 true):=fun hne=>o2.at (c1 hne) fun e=>by
  have:=c1 hne
  rw[e,hsb] at this;simp at this
 have I2:EI h2 h2 xb lb cb bl (w.length+1) (scPtr sb) al sl ct zs:=⟨R2,c2,fun hne=>(hz2 hne).2,H.ok,.refl⟩
 have hz:∀z∈zs,∃k:Nat,k<ct.length/\z=k:=fun z hm=>by
  rw[hzs] at hm
  obtain⟨k,q1,q2⟩:=scHits_mem hm
  exact⟨k,by rw[H.cl];exact q1,by rw[q2];simp⟩
 have hzl:zs.length<=1000000:=by
  have:=scHits_len (nc:=nc) (w:=w++[b]) (l:=pl) (i:=0)
  have:=H.s.few
  rw[hzs];omega
 have q3:=cell_load H.r.kx (n:=4) rfl (t:=3) (by simp) (off:=3) rfl
 have w1:IntKind.wrap .i64 ((w.length:Int)+1)=w.length+1:=wrap_i64 (by omega) (by omega)
 have st:=cell_store H.r.kx (n:=4) rfl (t:=3) (by simp) (off:=3) (v:=.int .i64 ((w.length:Int)+1)) rfl (by omega)
 have hh1':h.set xb (.cells [scPtr sb,bufSl cb ct.length (ctC (al.map askP) ct),bufSl lb al.length (al.map askP),.int .i64 ((w.length:Int)+1)] 163 false)=h1:=by rw[<-hh1];simp[xC]
 have q0:=cell_load R1.kx (n:=4) rfl (t:=69) (by simp) (off:=0) rfl
 have e2':=lift e2
 have hzlen:∀L,alen Try.prog L 30 (intSl bl zs)=some (.int .i64 zs.length):=fun L=>by
  have:=(intSl_sl I2.z).len (t:=30) (e:=3) (by simp) (L:=L)
  rwa[show (intCells zs).length=zs.length by simp[intCells]] at this
 obtain⟨hv,hhv⟩:∃hv,hv=intSl bl zs:=⟨_,rfl⟩
 have key:∃r h',D cfg1 83 [xPtr xb,.int .u8 b.toNat] h=some (r,h')/\∃v al',r=.tup [v,.int .i64 (worstM ns)]/\NotesAt h' v ns/\v.notTup=true/\SideAt h' xb lb cb sb lv nv BB al' (stepSl ct sl zs) ct pl nc (w++[b]) tab fl ob ou /\
   Only (fun c=>sideF xb sb al c\/h.length<=c) h h'/\(∀c,sideF xb sb al' c->sideF xb sb al c\/h.length<=c):=by
  refine call1_83 (args:=[xPtr xb,.int .u8 b.toNat]) (h:=h) (by simp) ?_
  simp[-AV.cells,-AV.one,-AV.notTup,c83,c83_r0,c83_r1,c83_r2,c83_r3,fieldA,q3,w1,st,hh1',q0,e2',len1,hzlen]
  refine ends_loopa (u:=.nilf) hz hzl I2 fun h3 I3=>?_
  have hpre:∀s∈setsTo true ct sl zs,s.T.at_<=900000:=fun s hs=>by
   obtain⟨t,q1,q2⟩:=setsTo_T hs
   rw[q2];exact hat t q1
  obtain⟨nk,al',h4,e4,R4,o4,f4,m4,me4,k4⟩:=told_run done116 hpre (by rw[setsTo_len];exact hsl) I3.r
  rw[<-hns] at e4 k4
  obtain⟨sl1,hsl1⟩:∃sl1,sl1=setsTo true ct sl zs:=⟨_,rfl⟩
  rw[<-hsl1] at R4 I3
  have out3:∀{c:Nat} {cs:List AV} {t:TypeId},h3[c]?=some (.cells cs t true)->¬(askF al c\/h3.length<=c):=fun hc e=>by
   rcases e with⟨k,a,ha,e⟩|e
   . obtain⟨q1,q2⟩:=I3.r.ak.apart ha hc (.inl rfl)
     rcases e with e|e
     . exact q1 e.symm
     . exact q2 e
   . have:=lt_of_at hc;omega
  have ok4:∀x∈ct,∃s,(sl1.map (stepS stpS))[x.1]?=some s/\x.2<s.ends.length:=fun x hx=>by
   obtain⟨s,q1,q2⟩:=I3.ok x hx
   exact⟨stepS stpS s,by simp[q1],by rw[toldS_ends];exact q2⟩
  have I4:EI h4 h4 xb lb cb bl (w.length+1) (scPtr sb) al' (sl1.map (stepS stpS)) ct zs:=by
   refine⟨by rw[m4];exact R4,fun hne=>?_,fun hne=>?_,ok4,.refl⟩
   . rw[m4];exact o4.at (I3.c hne) (out3 (I3.c hne))
   . exact o4.at (I3.z hne) (out3 (I3.z hne))
  have hzlen4:∀L,alen Try.prog L 30 (intSl bl zs)=some (.int .i64 zs.length):=hzlen
  have hnt:(notesSl nk ns).notTup=true:=notesSl_nt
  obtain⟨nv',hnv⟩:∃nv',nv'=notesSl nk ns:=⟨_,rfl⟩
  rw[<-hnv] at e4 hnt
  simp[-AV.cells,-AV.one,-AV.notTup,c83_r9,c83_r10,e4,len1,hzlen,evalA]
  refine ends_loopb (u:=nv') hz hzl I4 fun h5 I5=>?_
  have hnl:ns.length<=1000000:=by
   have:=toldNotes_len (stp:=stpS) (n:=w.length+1) (sl:=setsTo true ct sl zs)
   rw[setsTo_len] at this
   rw[hns];omega
  have N5:NotesAt h5 nv' ns:=⟨nk,hnv,fun hne=>I5.o.at (k4 hne).2 fun e=>by
   rcases e with⟨k,a,ha,e⟩|e
   . obtain⟨s,_,A⟩:=R4.ak.get ha
     have:=A.ends
     rw[<-e,(k4 hne).2] at this
     simp at this
   . have:=lt_of_at (k4 hne).2;omega⟩
  obtain⟨h6,e6,o6⟩:=worst_run N5 hnl
  have e6':=lift e6
  simp[-AV.cells,-AV.one,-AV.notTup,c83_r16,e6',hnt,notTup_int]
  have hebs:∀(k:Nat) (a:AskH),al'[k]?=some a->∃a0,al[k]?=some a0/\a.eb=a0.eb:=fun k a ha=>by
   have h1:(al'.map (fun a=>a.eb))[k]?=some a.eb:=by simp[ha]
   rw[me4,List.getElem?_map] at h1
   cases h2:al[k]? with
   |none=>rw[h2] at h1;simp at h1
   |some a0=>rw[h2] at h1;simp at h1;exact⟨a0,rfl,h1.symm⟩
  have L1:h.length<=h1.length:=o1.1
  have L2:h1.length<=h2.length:=o2.1
  have L3:h2.length<=h3.length:=I3.o.1
  have L4:h3.length<=h4.length:=o4.1
  have L5:h4.length<=h5.length:=I5.o.1
  have S5:ScanX h6 sb lv nv BB pl nc (w++[b]) tab fl ob ou:=by
   have S3:=S2.keep I3.o fun c hc e=>by
    obtain⟨p1,p2,p3,p4⟩:=H.ap c hc
    rcases e with⟨k,a,ha,e⟩|e
    . exact p4 k a ha e
    . omega
   have S4:=S3.keep o4 fun c hc e=>by
    obtain⟨p1,p2,p3,p4⟩:=H.ap c hc
    rcases e with e|e
    . exact p3 e
    . omega
   have S5:=S4.keep I5.o fun c hc e=>by
    obtain⟨p1,p2,p3,p4⟩:=H.ap c hc
    rcases e with⟨k,a,ha,e⟩|e
    . obtain⟨a0,q1,q2⟩:=hebs k a ha
      exact p4 k a0 q1 (by rw[<-q2];exact e)
    . omega
   exact S5.same o6
  refine⟨N5.same o6,al',⟨?_,fun hne=>o6.at (I5.c hne) id,S5,fun x hx=>?_,H.cl,fun c hc=>?_⟩,?_,fun c hc=>?_⟩
  . have:=I5.r.same o6
    rw[show (w++[b]).length=w.length+1 by simp,stepSl,<-hsl1]
    exact this
  . rw[stepSl,<-hsl1];exact I5.ok x hx
  . obtain⟨p1,p2,p3,p4⟩:=H.ap c hc
    refine⟨by have:=o6.1;omega,p2,fun e=>?_,fun k a ha e=>?_⟩
    . rcases f4 c e with e|e
      . exact p3 e
      . omega
    . obtain⟨a0,q1,q2⟩:=hebs k a ha
      exact p4 k a0 q1 (by rw[<-q2];exact e)
  . refine ((((o1.mono fun c _ e=>.inl (.inl e)).trans (o2.mono fun c _ e=>.inl (.inr (.inl e)))).trans (I3.o.mono fun c hc e=>?_)).trans (o4.mono fun c hc e=>?_)).trans ((I5.o.mono fun c hc e=>?_).trans (o6.mono fun _ _ e=>e.elim))
    . rcases e with e|e
      . exact .inl (.inr (.inr (.inr e)))
      . omega
    . rcases e with e|e
      . exact .inl (.inr (.inr (.inl e)))
      . omega
    . rcases e with⟨k,a,ha,e⟩|e
      . obtain⟨a0,q1,q2⟩:=hebs k a ha
        exact .inl (.inr (.inr (.inr ⟨k,a0,q1,by rw[<-q2];exact e⟩)))
      . omega
  . rcases hc with e|e|e|⟨k,a,ha,e⟩
    . exact .inl (.inl e)
    . exact .inl (.inr (.inl e))
    . rcases f4 c e with e|e
      . exact .inl (.inr (.inr (.inl e)))
      . exact .inr (by omega)
    . obtain⟨a0,q1,q2⟩:=hebs k a ha
      exact .inl (.inr (.inr (.inr ⟨k,a0,q1,by rw[<-q2];exact e⟩)))
 obtain⟨r,h',e,v,al',rfl,rest⟩:=key
 exact⟨v,al',h',e,rest⟩
end
end
section
structure RuleV where
 rc:List AV
 action:Int
 sid:Int
 cv:AV
 conts:List Cont
structure RuleV.ok (r:RuleV):Prop where
 len:r.rc.length=15
 act:r.rc[0]?=some (.int .i64 r.action)
 sid:r.rc[13]?=some (.int .i64 r.sid)
 cv:r.rc[12]?=some r.cv
 few:r.conts.length<=1000
 small:∀c∈r.conts,c.small
 plain:∀x∈r.rc,x.plain=true
def rulesC(rs:List RuleV):List AV:=rs.flatMap fun r=>r.rc
abbrev rulesSl(rb:Nat)(rs:List RuleV):AV:=bufSl rb rs.length (rulesC rs)
structure RulesIn (h:Heap) (rb:Nat) (rs:List RuleV):Prop where
 sl:rs.length≠0->h[rb]?=some (.cells (rulesC rs) 107 true)
 ok:∀r∈rs,r.ok
 cs:∀r∈rs,SlC h r.cv r.conts
 cq:∀r∈rs,∀b,slB r.cv=some b->∃cs,h[b]?=some (.cells cs 52 true)/\∀x∈cs,x.plain=true
theorem rulesC_len:∀{rs:List RuleV},(∀r∈rs,r.ok)->(rulesC rs).length=rs.length*15
 |[],_=>rfl
 |r::rs,h=>by
  have:=rulesC_len (rs:=rs) fun x hx=>h x (List.mem_cons_of_mem _ hx)
  have h1:=(h r (List.mem_cons_self ..)).len
  simp only[rulesC,List.flatMap_cons,List.length_append,List.length_cons] at this ⊢
  rw[this,h1];omega
theorem rulesC_drop:∀{rs:List RuleV} {i:Nat} (_:∀r∈rs,r.ok) (h:i<rs.length),((rulesC rs).drop (i*15)).take 15=rs[i].rc
 |[],i,_,h=>by simp at h
 |r::rs,0,hk,h=>by
  have h1:=(hk r (List.mem_cons_self ..)).len
  show (r.rc++rulesC rs).take 15=_
  rw[List.take_append_of_le_length (by omega),List.take_of_length_le (by omega)]
  rfl
 |r::rs,i+1,hk,h=>by
  have h1:=(hk r (List.mem_cons_self ..)).len
  have ih:=rulesC_drop (rs:=rs) (i:=i) (fun x hx=>hk x (List.mem_cons_of_mem _ hx)) (by simpa using h)
  show ((r.rc++rulesC rs).drop ((i+1)*15)).take 15=_
  rw[show (i+1)*15=r.rc.length+i*15 by omega,<-List.drop_drop,List.drop_left]
  simpa using ih
section
variable {h h':Heap} {rb:Nat} {rs:List RuleV}
theorem RulesIn.len(H:RulesIn h rb rs){L:Look}:alen Try.prog L 89 (rulesSl rb rs)=some (.int .i64 rs.length):=by
 unfold rulesSl bufSl
 by_cases hl:rs.length=0
 . rw[if_pos hl];simp[alen,hl]
 . rw[if_neg hl];simp[alen]
theorem RulesIn.at(H:RulesIn h rb rs){i:Nat}(hi:i<rs.length):aindexAddr Try.prog 89 (rulesSl rb rs) (.int .i64 i)=some (.ptr (some ⟨rb,i*15,(rulesC rs).length⟩)) /\
  aload Try.prog (look h) 107 (.ptr (some ⟨rb,i*15,(rulesC rs).length⟩))=some (.agg rs[i].rc)/\aload Try.prog (look h) 42 (.ptr (some ⟨rb,i*15+12,(rulesC rs).length⟩))=some rs[i].cv:=by
 have hl:rs.length≠0:=by omega
 have hb:=H.sl hl
 have hi':(i:Int)<rs.length:=by omega
 have hd:=rulesC_drop H.ok hi
 have hlen:i*15+15<=(rulesC rs).length:=by rw[rulesC_len H.ok];omega
 have ok:=H.ok _ (List.getElem_mem hi)
 refine⟨?_,?_,?_⟩
 . unfold rulesSl bufSl
   rw[if_neg hl]
   simp[aindexAddr,hi']
 . simp[aload,row,hb,agk,hlen,hd]
 . have h12:(rulesC rs)[i*15+12]?=some rs[i].cv:=by
    have:=ok.cv
    rw[<-hd,List.getElem?_take,if_pos (by omega),List.getElem?_drop] at this
    exact this
   simp[aload,row,hb,agk,h12]
theorem RulesIn.same(H:RulesIn h rb rs)(ho:Only (fun _=>False) h h'):RulesIn h' rb rs:=
 ⟨fun hne=>ho.at (H.sl hne) id,H.ok,fun r hr=>(H.cs r hr).same ho,fun r hr b hb=>by
  obtain⟨o,h1,h2⟩:=H.cq r hr b hb
  exact⟨o,ho.at h1 id,h2⟩⟩
theorem plain_one{x:AV}(h:x.plain=true):x.one=true:=by cases x<;>simp[AV.plain,AV.one] at h ⊢
theorem oAA_refl{a:Option AA}:oAA a a=true:=by cases a<;>simp[oAA,AA.beq]
theorem plain_beq{x:AV}(h:x.plain=true):x.beq x=true:=by cases x<;>simp[AV.plain,AV.beq,AV.beqP,oAA_refl] at h ⊢
theorem beqL_plain:∀{l:List AV},(∀x∈l,x.plain=true)->beqL AV.beq l l=true
 |[],_=>rfl
 |x::l,h=>by
  simp only[beqL,plain_beq (h x (List.mem_cons_self ..)),beqL_plain fun y hy=>h y (List.mem_cons_of_mem _ hy),Bool.and_self]
theorem beq_cells{l:List AV}(h:∀x∈l,x.plain=true){t:TypeId}{g:Bool}:AObj.beq (.cells l t g) (.cells l t g)=true:=by
 simp[AObj.beq,beqL_plain h]
theorem RulesIn.beq(H:RulesIn h rb rs):AObj.beq (.cells (rulesC rs) 107 true) (.cells (rulesC rs) 107 true)=true:=by
 refine beq_cells fun x hx=>?_
 obtain⟨r,hr,hx⟩:=List.mem_flatMap.1 hx
 exact (H.ok r hr).plain x hx
end
end
section
section
variable {h:Heap} {al:List AskH} {sl:List AskS} {a:AskH} {s:AskS}
theorem AsksAt.snoc(H:AsksAt h al sl)(A:AskAt h a s)(hf:∀(k:Nat) (b:AskH),al[k]?=some b->b.ab≠a.ab/\b.eb≠a.eb/\∀c,trF b.tb b.fl c->¬trF a.tb a.fl c):AsksAt h (al++[a]) (sl++[s]):=by
 have at2:∀{k:Nat} {b:AskH},(al++[a])[k]?=some b->al[k]?=some b\/(k=al.length/\b=a):=fun {k b} hb=>by
  by_cases hk:k<al.length
  . rw[List.getElem?_append_left hk] at hb;exact .inl hb
  . rw[List.getElem?_append_right (by omega)] at hb
    have:k-al.length=0:=by
     by_cases e:k-al.length=0
     . exact e
     . rw[List.getElem?_eq_none (by simp;omega)] at hb;simp at hb
    rw[this] at hb
    simp at hb
    exact .inr ⟨by omega,hb.symm⟩
 refine⟨by simp[H.len],fun k b t hb ht=>?_,fun i j b c hij hb hc=>?_⟩
 . rcases at2 hb with q|⟨rfl,rfl⟩
   . rw[List.getElem?_append_left (by rw[<-H.len];exact (List.getElem?_eq_some_iff.1 q).1)] at ht
     exact H.at_ k b t q ht
   . rw[H.len,List.getElem?_append_right (Nat.le_refl _)] at ht
     simp at ht
     subst ht
     exact A
 . rcases at2 hb with q|⟨rfl,rfl⟩
   . rcases at2 hc with p|⟨rfl,rfl⟩
     . exact H.sep i j b c hij q p
     . exact hf i b q
   . rcases at2 hc with p|⟨rfl,rfl⟩
     . obtain⟨q1,q2,q3⟩:=hf j c p
       exact⟨Ne.symm q1,Ne.symm q2,fun x h1 h2=>q3 x h2 h1⟩
     . exact absurd rfl hij
theorem AsksAt.fresh{h₀:Heap}(H:AsksAt h₀ al sl)(h1:h₀.length<=a.ab)(h2:h₀.length<=a.eb)(h3:∀c,trF a.tb a.fl c->h₀.length<=c):∀(k:Nat) (b:AskH),al[k]?=some b->b.ab≠a.ab/\b.eb≠a.eb/\∀c,trF b.tb b.fl c->¬trF a.tb a.fl c:=by
 intro k b hb
 obtain⟨t,_,B⟩:=H.get hb
 have q1:=lt_of_at B.hdr
 have q2:=lt_of_at B.ends
 refine⟨by omega,by omega,fun c hc hc2=>?_⟩
 obtain⟨cs,ty,q3,_⟩:=B.trk.typ hc
 have:=lt_of_at q3
 have:=h3 c hc2
 omega
theorem AsksAt.nil:AsksAt h [] []:=⟨rfl,fun k a s ha=>by simp at ha,fun i j a b _ ha=>by simp at ha⟩
end
end
theorem bufSl_nt{b n:Nat}{xs:List AV}:AV.notTup (bufSl b n xs)=true:=by
 unfold bufSl
 split<;>rfl
theorem build_sl{n b:Nat}{l:List Int}:abuildSlice Try.prog n 44 1 [(0,intSl b l)]=some (.sl (some ⟨n,0,1⟩) 1 1,.new (.cells [intSl b l] 30 true)):=by
 unfold intSl
 split<;>simp[abuildSlice,afill,zeros]
def neverAt(s:Txt)(l:List Cont)(e:Nat):Bool:=l.any fun c=>c.not&&endsAt c s e
def neverFrom(s:Txt)(l:List Cont):Nat->Nat->Option Nat
 |_,0=>none
 |e,n+1=>if neverAt s l e then some e else neverFrom s l (e+1) n
def neverC(l:List Cont)(s:Txt):Option Nat:=neverFrom s l 0 (s.length+1)
theorem alen_intSl{L:Look}{b:Nat}{l:List Int}:alen Try.prog L 30 (intSl b l)=some (.int .i64 l.length):=by
 unfold intSl
 split
 . rename_i e;subst e;simp[alen]
 . simp[alen]
theorem LL.sl{h₀ h:Heap}{B:Nat}{bs:List Nat}{ls:List (List Int)}(H:LL h₀ h B bs ls):Sl1 h (llSl B bs ls) (List.zipWith intSl bs ls):=by
 have hz:(List.zipWith intSl bs ls).length=ls.length:=by simp[H.len]
 have:=Sl1.buf (h:=h) (b:=B) (e:=30) (s:=true) (xs:=List.zipWith intSl bs ls) (fun hn=>(H.top (by omega)).1)
 rw[hz] at this
 exact this
theorem LL.get{h₀ h:Heap}{B:Nat}{bs:List Nat}{ls:List (List Int)}(H:LL h₀ h B bs ls){i:Nat}(hi:i<ls.length):
  ∃b,aindexAddr Try.prog 44 (llSl B bs ls) (.int .i64 i)=some (elp (llSl B bs ls) i)/\aload Try.prog (look h) 30 (elp (llSl B bs ls) i)=some (intSl b ls[i])/\(ls[i]≠[]->h[b]?=some (.cells (intCells ls[i]) 3 true)):=by
 have hz:(List.zipWith intSl bs ls).length=ls.length:=by simp[H.len]
 have hb:i<bs.length:=by rw[H.len];exact hi
 have a1:=H.sl.at (t:=44) (e:=30) (by simp) (by simp) (i:=i) (by omega)
 have b1:=H.sl.load (e:=30) (by simp) (i:=i) (by omega)
 rw[List.getElem_zipWith] at b1
 exact⟨bs[i],a1,b1,fun hne=>(H.each i ls[i] bs[i] (List.getElem?_eq_getElem hi) (List.getElem?_eq_getElem hb) hne).1⟩
def noEmpty(ls:List (List Int)):Bool:=ls.all fun l=>decide (l≠[])
def holdsC(l:List Cont)(s:Txt):Bool:=noEmpty (endsAll l s).1&&(neverC l s).isNone
theorem noEmpty_step{ls:List (List Int)}{i:Nat}(hi:i<ls.length)(h:noEmpty (ls.take i)=true):noEmpty (ls.take (i+1))=decide (ls[i]≠[]):=by
 simp only[noEmpty] at h ⊢
 rw[List.take_succ_eq_append_getElem hi,List.all_append,h]
 simp
theorem noEmpty_no{ls:List (List Int)}{i:Nat}(hi:i<ls.length)(h:ls[i]=[]):noEmpty ls=false:=by
 cases hx:noEmpty ls with
 |false=>rfl
 |true=>
  simp only[noEmpty,List.all_eq_true] at hx
  have:=hx ls[i] (List.getElem_mem hi)
  simp[h] at this
section
theorem endsAll_last{l:List Cont}{s:Txt}:((endsAll l s).1=[]->(endsAll l s).2=[])/\(0<(endsAll l s).1.length->(endsAll l s).1[(endsAll l s).1.length-1]?=some (endsAll l s).2):=by
 have key:∀n (l:List Cont),l.length=n->((endsAll l s).1=[]->(endsAll l s).2=[])/\(0<(endsAll l s).1.length->(endsAll l s).1[(endsAll l s).1.length-1]?=some (endsAll l s).2):=by
  intro n
  induction n with
  |zero=>
   intro l h
   have:l=[]:=List.length_eq_zero_iff.1 h
   subst this
   exact⟨fun _=>rfl,fun h=>by simp[endsAll] at h⟩
  |succ n ih=>
   intro l h
   rcases List.eq_nil_or_concat l with e|⟨k,c,e⟩
   . subst e;simp at h
   . have e':l=k++[c]:=by simpa using e
     subst e'
     simp at h
     have hst:endsAll (k++[c]) s=endsStep s (endsAll k s) c:=by simp only[endsAll,List.foldl_append,List.foldl_cons,List.foldl_nil]
     rw[hst]
     unfold endsStep
     split
     . exact ih k h
     . refine⟨fun h=>by simp at h,fun h=>?_⟩
       simp
 exact key _ l rfl
theorem SlC.fields{h:Heap}{v:AV}{l:List Cont}(H:SlC h v l){i:Nat}(hi:i<l.length):
  ∃p2 p5,fieldA Try.prog 52 2 (elC v i)=some (p2,.no)/\fieldA Try.prog 52 5 (elC v i)=some (p5,.no) /\
   ∀h',Only (fun _=>False) h h'->aload Try.prog (look h') 4 p2=some (.bool l[i].not)/\aload Try.prog (look h') 4 p5=some (.bool l[i].rel):=by
 rcases H with⟨rfl,rfl⟩|⟨b,g,c,cs,rfl,h1,h2⟩
 . simp at hi
 . have h3:=h2 i l[i] (List.getElem?_eq_getElem hi)
   have at':∀k,k<8->cs[i*8+k]?=(contCell l[i])[k]?:=by
    intro k hk
    rw[<-h3,List.getElem?_take,if_pos hk,List.getElem?_drop]
   refine⟨.ptr (some ⟨b,i*8+2,g⟩),.ptr (some ⟨b,i*8+5,g⟩),by simp[fieldA,elC],by simp[fieldA,elC],fun h' ho=>?_⟩
   have h4:∀k,AM.row (look h') { b:=b,off:=i*8+k,gen:=g }=some cs:=fun k=>row_only ho h1 id
   constructor
   . simp only[aload,h4]
     simp[at' 2 (by omega)]
   . simp only[aload,h4]
     simp[at' 5 (by omega)]
section
variable {h:Heap} {s:Txt} {l:List Cont} {v:AV} {B:Nat} {bs:List Nat} {ls:List (List Int)} {ah:List Int} {i e:Nat} {pl:AV}
abbrev envK(v:AV)(s:Txt)(all:AV)(i:Nat)(pl:AV)(e:Nat)(ok:Bool)(k:Nat):Env:=[(0,v),(1,.str s),(5,all),(6,.int .i64 i),(7,pl),(8,.int .i64 e),(9,.bool ok),(10,.int .i64 k)]
def InK(hs:Heap)(v:AV)(s:Txt)(all:AV)(i:Nat)(pl:AV)(e:Nat)(c:Cont)(ah:List Int)(m:Nat)(st:St):Prop:=
 ∃k h,m=ah.length-k/\k<=ah.length/\st=⟨envK v s all i pl e (behindB c e (ah.take k)) k,h⟩/\Only (fun _=>False) hs h
theorem behind_step{c:Cont}{e:Int}{ah:List Int}{k:Nat}(hk:k<ah.length):behindB c e (ah.take (k+1))=(behindB c e (ah.take k) || followsB c ah[k] e):=by
 simp only[behindB]
 rw[List.take_succ_eq_append_getElem hk,List.any_append]
 simp
theorem ok_loop{h₀ hs:Heap}{c:Cont}(hv:SlC hs v l)(hi:i<l.length)(hc:c=l[i])(hcs:c.small)(H:LL h₀ hs B bs ls)(hls:0<ls.length)(hlast:ls[ls.length-1]'(by omega)=ah)(hap:∀p∈ah,0<=p/\p<=2000000)(han:ah.length<=9000000)(he:e<=2000000)(hln:ls.length<=1000)
  {Q:AExit->St->Prop} (hq:∀h,Only (fun _=>False) hs h->Q (.exit 4) ⟨envK v s (llSl B bs ls) i pl e (behindB c e ah) ah.length++[(60,.bool false)],h⟩):
  Wt Try.prog (D cfg) (.loop c44_l14 (some [0,1,5,6,7,8,9,10])) ⟨envK v s (llSl B bs ls) i pl e false 0,hs⟩ Q:=by
 obtain⟨all,hall⟩:∃all,all=llSl B bs ls:=⟨_,rfl⟩
 have hlen:=fun L=>H.sl.len (t:=44) (e:=30) (by simp) (L:=L)
 have hz:(List.zipWith intSl bs ls).length=ls.length:=by simp[H.len]
 rw[hz] at hlen
 obtain⟨b,a1,b1,g1⟩:=H.get (i:=ls.length-1) (by omega)
 have b1':=fun (h:Heap) (ho:Only (fun _=>False) hs h)=>(H.same ho).get (i:=ls.length-1) (by omega)
 rw[hlast] at b1 g1
 have hbz:bs[ls.length-1]'(by rw[H.len];omega)=bs[ls.length-1]'(by rw[H.len];omega):=rfl
 have b2:∀h,Only (fun _=>False) hs h->aload Try.prog (look h) 30 (elp (llSl B bs ls) (ls.length-1))=some (intSl b ah):=by
  intro h ho
  have x1:=H.sl.load (e:=30) (by simp) (i:=ls.length-1) (by omega)
  have x2:=(H.same ho).sl.load (e:=30) (by simp) (i:=ls.length-1) (by omega)
  rw[x2,<-x1,b1]
 rw[<-hall] at a1 hlen hq ⊢
 simp only[<-hall] at b2
 have hw1:IntKind.wrap .i64 ((ls.length:Int)-1)=((ls.length-1:Nat):Int):=by rw[wrap_i64 (by omega) (by omega)];omega
 refine Wt.loop (InK hs v s all i pl e c ah) (m:=ah.length) ⟨0,hs,rfl,Nat.zero_le _,rfl,.refl⟩ ?_
 rintro m st ⟨k,h,rfl,hk,rfl,ho⟩
 have hcut:cut (some [0,1,5,6,7,8,9,10]) (envK v s all i pl e (behindB c e (ah.take k)) k)=envK v s all i pl e (behindB c e (ah.take k)) k:=by simp
 simp only[hcut]
 have b3:=b2 h ho
 by_cases hkl:k<ah.length
 . have hkl':(k:Int)<ah.length:=by omega
   have hwr:IntKind.wrap .i64 ((k:Int)+1)=k+1:=wrap_i64 (by omega) (by omega)
   have hst:=behind_step (c:=c) (e:=e) hkl
   cases hb:behindB c e (ah.take k) with
   |true=>
    have hnext:InK hs v s all i pl e c ah (ah.length-(k+1)) ⟨envK v s all i pl e true (k+1),h⟩:=⟨k+1,h,rfl,hkl,by rw[hst,hb];rfl,ho⟩
    simp only[envK] at hnext
    simp[c44_l14,c44_r14,c44_r15,c44_r16,len1,hlen,hw1,a1,b3,alen_intSl,hkl,hkl',hwr]
    exact⟨ah.length-(k+1),by omega,by simpa using hnext⟩
   |false=>
    have sl:=Sl1.ints (h:=h) (b:=b) (l:=ah) (fun hne=>ho.at (g1 hne) id)
    have a4:=sl.at (t:=30) (e:=3) (by simp) (by simp) (i:=k) (by rw[intCells_len];exact hkl)
    have b4:=sl.load (e:=3) (by simp) (i:=k) (by rw[intCells_len];exact hkl)
    rw[intCells_get] at b4
    have a5:=hv.at hi
    have b5:=(hv.same ho).load hi
    rw[<-hc] at b5
    have hp:=hap ah[k] (List.getElem_mem hkl)
    obtain⟨p,hp'⟩:∃p:Nat,ah[k]=p:=⟨ah[k].toNat,by omega⟩
    obtain⟨h2,e2,o2⟩:=follows_ref (h:=h) hcs (p:=p) (e:=e) (by omega) he
    rw[<-hp'] at e2
    have hnext:InK hs v s all i pl e c ah (ah.length-(k+1)) ⟨envK v s all i pl e (followsB c ah[k] e) (k+1),h2⟩:=⟨k+1,h2,rfl,hkl,by rw[hst,hb];rfl,ho.trans o2⟩
    simp only[envK] at hnext
    simp[c44_l14,c44_r14,c44_r15,c44_r16,len1,hlen,hw1,a1,b3,alen_intSl,hkl,hkl',hwr,a4,b4,a5,b5,e2]
    exact⟨ah.length-(k+1),by omega,by simpa using hnext⟩
 . have:k=ah.length:=by omega
   subst this
   rw[List.take_length]
   have hn:=hq h ho
   simp only[envK] at hn
   simp[c44_l14,c44_r14,len1,hlen,hw1,a1,b3,alen_intSl]
   simpa using hn
end
abbrev envM(v:AV)(s:Txt)(all:AV)(i:Nat)(pl:AV)(e:Nat):Env:=[(0,v),(1,.str s),(5,all),(6,.int .i64 i),(7,pl),(8,.int .i64 e)]
def In44(hs:Heap)(v:AV)(s:Txt)(all:AV)(i:Nat)(c:Cont)(ah:List Int)(m:Nat)(st:St):Prop:=
 ∃e b h,m=s.length+1-e/\e<=s.length+1/\st=⟨envM v s all i (intSl b (hits c s ah e)) e,h⟩/\Only (fun _=>False) hs h/\(hits c s ah e≠[]->h[b]?=some (.cells (intCells (hits c s ah e)) 3 true)/\hs.length<=b)
theorem ref_inner{h₀ hs:Heap}{s:Txt}{l:List Cont}{v:AV}{B:Nat}{bs:List Nat}{ls:List (List Int)}{ah:List Int}{i:Nat}{c:Cont}(hv:SlC hs v l)(hi:i<l.length)(hc:c=l[i])(hcs:c.small)(H:LL h₀ hs B bs ls)
  (hlast0:ls=[]->ah=[]) (hlast:0<ls.length->ls[ls.length-1]?=some ah) (hap:∀p∈ah,0<=p/\p<=2000000) (han:ah.length<=9000000) (hln:ls.length<=1000) (hsl:s.length<=100000) (hll:l.length<=1000) {Q:AExit->St->Prop}
  (hq:∀b h,Only (fun _=>False) hs h->(hits c s ah (s.length+1)≠[]->h[b]?=some (.cells (intCells (hits c s ah (s.length+1))) 3 true)/\hs.length<=b)->Q (.exit 2) ⟨envM v s (llSl B bs ls) i (intSl b (hits c s ah (s.length+1))) (s.length+1)++[(25,.bool false)],h⟩):
  Wt Try.prog (D cfg) (.loop c44_l8 (some [0,1,5,6,7,8])) ⟨envM v s (llSl B bs ls) i (.sl none 0 0) 0,hs⟩ Q:=by
 refine Wt.loop (In44 hs v s (llSl B bs ls) i c ah) (m:=s.length+1) ⟨0,0,hs,rfl,Nat.zero_le _,by simp[hits,intSl],.refl,fun h=>absurd rfl h⟩ ?_
 rintro m st ⟨e,b,h,rfl,he,rfl,ho,hb⟩
 have hcut:cut (some [0,1,5,6,7,8]) (envM v s (llSl B bs ls) i (intSl b (hits c s ah e)) e)=envM v s (llSl B bs ls) i (intSl b (hits c s ah e)) e:=by simp
 simp only[hcut]
 by_cases hes:e<s.length+1
 . have hwr:IntKind.wrap .i64 ((e:Int)+1)=e+1:=wrap_i64 (by omega) (by omega)
   have hle:(e:Int)<=s.length:=by omega
   have hle':e<=s.length:=by omega
   have a5:=hv.at hi
   have b5:=(hv.same ho).load hi
   rw[<-hc] at b5
   obtain⟨h1,e1,o1⟩:=ends_ref (h:=h) hcs (s:=s) (e:=e) (by omega) (by omega)
   have ho1:=ho.trans o1
   have yes:∀h3,Only (fun _=>False) h h3->hitB c s ah e=true->∃δ h4,append2 Try.prog (look (h3++[AObj.cells [.int .i64 e] 3 true])) (h3.length+1) 30 30 [intSl b (hits c s ah e),.sl (some ⟨h3.length,0,1⟩) 1 1]=some (intSl (if hits c s ah e=[] then h3.length+1 else b) (hits c s ah (e+1)),δ) /\
     Heap.apply (h3++[AObj.cells [.int .i64 e] 3 true]) δ=h4/\In44 hs v s (llSl B bs ls) i c ah (s.length+1-(e+1)) ⟨envM v s (llSl B bs ls) i (intSl (if hits c s ah e=[] then h3.length+1 else b) (hits c s ah (e+1))) (e+1),h4⟩:=by
    intro h3 o3 hh
    have hlen:=hits_len (c:=c) (s:=s) (ahead:=ah) (n:=e)
    obtain⟨δ,h4,g1,g2,g3,g4⟩:=append_int (h:=h3) (b:=b) (l:=hits c s ah e) (x:=e) (fun hne=>o3.at (hb hne).1 id) (by omega)
    have hst:hits c s ah (e+1)=hits c s ah e++[(e:Int)]:=by simp only[hits];rw[if_pos hh]
    rw[<-hst] at g1 g3
    refine⟨δ,h4,g1,g2,e+1,_,h4,rfl,hes,rfl,(ho.trans o3).fresh g4 fun x hx=>by rw[hx.1];exact (hb hx.2).2,fun _=>⟨g3,?_⟩⟩
    have:=(ho.trans o3).1
    split
    . omega
    . rename_i hne;exact (hb hne).2
   have no:∀h3,Only (fun _=>False) h h3->hitB c s ah e=false->In44 hs v s (llSl B bs ls) i c ah (s.length+1-(e+1)) ⟨envM v s (llSl B bs ls) i (intSl b (hits c s ah e)) (e+1),h3⟩:=by
    intro h3 o3 hh
    have hst:hits c s ah (e+1)=hits c s ah e:=by simp only[hits];rw[hh];simp
    refine⟨e+1,b,h3,rfl,hes,by rw[hst],ho.trans o3,?_⟩
    rw[hst]
    exact fun hne=>⟨o3.at (hb hne).1 id,(hb hne).2⟩
   have b6:=(hv.same ho1).load hi
   rw[<-hc] at b6
   have hlen:=fun L=>H.sl.len (t:=44) (e:=30) (by simp) (L:=L)
   have hz:(List.zipWith intSl bs ls).length=ls.length:=by simp[H.len]
   rw[hz] at hlen
   obtain⟨p2,p5,_,f5,ff⟩:=hv.fields hi
   have f6:=(ff h1 ho1).2
   rw[<-hc] at f6
   cases hat:endsAt c s e with
   |false=>
    rw[hat] at e1
    have hn:=no h1 o1 (by simp[hitB,hat])
    simp only[envM] at hn
    simp[c44_l8,c44_r8,c44_r9,c44_r10,len1,alenS,hle,hle',a5,b5,e1,hwr]
    exact⟨s.length+1-(e+1),by omega,by simpa using hn⟩
   |true=>
    rw[hat] at e1
    cases hr:c.rel with
    |false=>
     rw[hr] at f6
     obtain⟨δ,h4,g1,g2,g3⟩:=yes h1 o1 (by simp[hitB,hat,hr])
     simp only[envM] at g3
     simp[c44_l8,c44_r8,c44_r9,c44_r10,c44_r11,c44_r12,c44_r13,c44_r17,c44_r18,len1,alenS,hle,hle',a5,b5,e1,hwr,f5,f6,abuildSlice,afill,zeros,g1,g2]
     exact⟨s.length+1-(e+1),by omega,by simpa using g3⟩
    |true=>
     rw[hr] at f6
     by_cases hl0:ls.length=0
     . have hls:ls=[]:=List.length_eq_zero_iff.1 hl0
       have hah:ah=[]:=hlast0 hls
       have hn:=no h1 o1 (by simp[hitB,hat,hr,hah,behindB])
       simp only[envM] at hn
       simp only[hl0] at hlen
       simp[c44_l8,c44_r8,c44_r9,c44_r10,c44_r11,c44_r12,c44_r13,c44_r17,c44_r18,len1,alenS,hle,hle',a5,b5,e1,hwr,f5,f6,hlen]
       exact⟨s.length+1-(e+1),by omega,by simpa using hn⟩
     . have hl1:0<ls.length:=by omega
       have hlast':ls[ls.length-1]'(by omega)=ah:=by
        have:=hlast hl1
        rw[List.getElem?_eq_getElem (by omega)] at this
        simpa using this
       have hk:=fun Q hq=>ok_loop (Q:=Q) (s:=s) (e:=e) (pl:=intSl b (hits c s ah e)) (hv.same ho1) hi hc hcs (H.same ho1) hl1 hlast' hap han (by omega) hln hq
       simp only[envK] at hk
       simp[c44_l8,c44_r8,c44_r9,c44_r10,c44_r11,c44_r12,c44_r13,len1,alenS,hle,hle',a5,b5,e1,f5,f6,hlen,hl1]
       refine hk _ fun h2 o2=>?_
       cases hbe:behindB c e ah with
       |false=>
        have hn:=no h2 (o1.trans o2) (by simp[hitB,hat,hr,hbe])
        simp only[envM] at hn
        simp[c44_r17,c44_r18,c44_r9,hwr]
        exact⟨s.length+1-(e+1),by omega,by simpa using hn⟩
       |true=>
        obtain⟨δ,h4,g1,g2,g3⟩:=yes h2 (o1.trans o2) (by simp[hitB,hat,hr,hbe])
        simp only[envM] at g3
        simp[c44_r17,c44_r18,c44_r9,hwr,abuildSlice,afill,zeros,g1,g2]
        exact⟨s.length+1-(e+1),by omega,by simpa using g3⟩
 . have:e=s.length+1:=by omega
   subst this
   have hle:¬(((s.length+1:Nat):Int)<=s.length):=by omega
   have hn:=hq b h ho hb
   simp only[envM] at hn
   have hle':¬((s.length:Int)+1<=s.length):=by omega
   simp[c44_l8,c44_r8,len1,alenS,hle']
   simpa using hn
end
theorem neverFrom_none{s:Txt}{l:List Cont}:∀{n e:Nat},neverFrom s l e n=none↔∀x,e<=x->x<e+n->neverAt s l x=false
 |0,e=>by simp[neverFrom];intro x h1 h2;omega
 |n+1,e=>by
  simp only[neverFrom]
  by_cases h:neverAt s l e=true
  . rw[if_pos h]
    constructor
    . intro hx;simp at hx
    . intro hx;have:=hx e (by omega) (by omega);rw[h] at this;simp at this
  . rw[if_neg h,neverFrom_none (n:=n)]
    have h':neverAt s l e=false:=by simpa using h
    constructor
    . intro hx x h1 h2
      by_cases he:x=e
      . subst he;exact h'
      . exact hx x (by omega) (by omega)
    . intro hx x h1 h2
      exact hx x (by omega) (by omega)
theorem neverC_none{s:Txt}{l:List Cont}:neverC l s=none↔∀x,x<=s.length->neverAt s l x=false:=by
 rw[neverC,neverFrom_none]
 constructor
 . intro h x hx;exact h x (by omega) (by omega)
 . intro h x _ hx;exact h x (by omega)
theorem SlC.cells{h:Heap}{b:Nat}{e:TypeId}{g:Bool}{l:List Cont}(hl:l≠[])(hb:h[b]?=some (.cells (l.flatMap contCell) e g)):SlC h (.sl (some ⟨b,0,l.length*8⟩) l.length l.length) l:=by
 have hlen:∀l:List Cont,(l.flatMap contCell).length=l.length*8:=by
  intro l
  induction l with
  |nil=>rfl
  |cons c r ih=>simp only[List.flatMap_cons,List.length_append,ih,List.length_cons];simp[contCell];omega
 refine .inr ⟨b,l.length*8,l.length,l.flatMap contCell,rfl,by simp only[AM.row,look_at,hb];rw[if_pos (hlen l)],?_⟩
 have key:∀(l:List Cont) i c,l[i]?=some c->((l.flatMap contCell).drop (i*8)).take 8=contCell c:=by
  intro l
  induction l with
  |nil=>intro i c h;simp at h
  |cons d r ih=>
   intro i c h
   cases i with
   |zero=>simp at h;subst h;rfl
   |succ i=>
    have:=ih i c (by simpa using h)
    rw[<-this,show (i+1)*8=8+i*8 by omega,<-List.drop_drop]
    rfl
 exact key l
abbrev env44(v:AV)(s:Txt)(all:AV)(i:Nat):Env:=[(0,v),(1,.str s),(5,all),(6,.int .i64 i)]
def Out44(h₀:Heap)(s:Txt)(l:List Cont)(v:AV)(m:Nat)(st:St):Prop:=
 ∃i B bs h,m=l.length-i/\i<=l.length/\st=⟨env44 v s (llSl B bs (endsAll (l.take i) s).1) i,h⟩/\LL h₀ h B bs (endsAll (l.take i) s).1/\Only (fun _=>False) h₀ h
theorem ends_doc{h:Heap}{s:Txt}{l:List Cont}{v:AV}(hv:SlC h v l)(hsm:∀c∈l,c.small)(hsl:s.length<=100000)(hll:l.length<=1000):
  ∃h' B bs,D cfg 44 [v,.str s] h=some (llSl B bs (endsAll l s).1,h')/\LL h h' B bs (endsAll l s).1/\Only (fun _=>False) h h':=by
 have key:∃r h',D cfg 44 [v,.str s] h=some (r,h')/\(∃B bs,r=llSl B bs (endsAll l s).1/\LL h h' B bs (endsAll l s).1/\Only (fun _=>False) h h'):=by
  refine call44 (R:=fun r h'=>∃B bs,r=llSl B bs (endsAll l s).1/\LL h h' B bs (endsAll l s).1/\Only (fun _=>False) h h') (args:=[v,.str s]) (h:=h) (by simp) ?_
  have hlen:=fun L=>hv.len (L:=L)
  have H0:LL h h 0 [] []:=⟨rfl,fun e=>absurd rfl e,fun i q b hq=>by simp at hq⟩
  simp[c44,c44_r0,c44_r1,c44_r2]
  refine Wt.loop (Out44 h s l v) (m:=l.length) ⟨0,0,[],h,rfl,Nat.zero_le _,rfl,H0,.refl⟩ ?_
  rintro m st ⟨i,B,bs,h1,rfl,hi,rfl,H,ho⟩
  obtain⟨ls,hls⟩:∃ls,ls=(endsAll (l.take i) s).1:=⟨_,rfl⟩
  obtain⟨ah,hah⟩:∃ah,ah=(endsAll (l.take i) s).2:=⟨_,rfl⟩
  obtain⟨ok1,ok2,ok3,ok4⟩:=endsAll_ok (l:=l.take i) (s:=s)
  obtain⟨la0,la1⟩:=endsAll_last (l:=l.take i) (s:=s)
  rw[<-hah] at ok1 ok2
  rw[<-hls] at ok3 la0 la1
  rw[<-hah] at la0 la1
  rw[<-hls] at H ⊢
  have ok3':ls.length<=l.length:=by have:(l.take i).length<=l.length:=(by simp;omega);omega
  have hcut:cut (some [0,1,5,6]) (env44 v s (llSl B bs ls) i)=env44 v s (llSl B bs ls) i:=by simp
  simp only[hcut]
  by_cases hil:i<l.length
  . have hil':(i:Int)<l.length:=by omega
    obtain⟨c,hc⟩:∃c,c=l[i]:=⟨_,rfl⟩
    have hcs:c.small:=hsm c (by rw[hc];exact List.getElem_mem hil)
    have a1:=hv.at hil
    obtain⟨p2,p5,f2,_,ff⟩:=hv.fields hil
    have f6:=(ff h1 ho).1
    rw[<-hc] at f6
    have hwr:IntKind.wrap .i64 ((i:Int)+1)=i+1:=wrap_i64 (by omega) (by omega)
    have hstep:=endsAll_step (s:=s) hil
    rw[<-hc] at hstep
    cases hnot:c.not with
    |true=>
     rw[hnot] at f6
     have hst:endsAll (l.take (i+1)) s=(ls,ah):=by rw[hstep,endsStep,if_pos hnot,hls,hah]
     have hnext:Out44 h s l v (l.length-(i+1)) ⟨env44 v s (llSl B bs ls) (i+1),h1⟩:=⟨i+1,B,bs,h1,rfl,hil,by rw[hst],by rw[hst];exact H,ho⟩
     simp only[env44] at hnext
     simp[c44_l3,c44_r3,c44_r4,c44_r5,len1,hlen,hil,hil',a1,f2,f6,hwr]
     exact⟨l.length-(i+1),by omega,by simpa using hnext⟩
    |false=>
     rw[hnot] at f6
     have hst:endsAll (l.take (i+1)) s=(ls++[hits c s ah (s.length+1)],hits c s ah (s.length+1)):=by rw[hstep,endsStep,hnot,hls,hah];simp
     have hin:=fun Q hq=>ref_inner (Q:=Q) (hv.same ho) hil hc hcs H la0 la1 (fun p hp=>by have:=ok1 p hp;omega) (by omega) (by omega) hsl hll hq
     simp only[envM] at hin
     simp at hin
     simp[c44_l3,c44_r3,c44_r4,c44_r5,c44_r6,c44_r7,len1,hlen,hil,hil',a1,f2,f6]
     refine hin _ fun b h2 o2 hb=>?_
     obtain⟨δ,h3,B',e1,e2,e3,e4,e5⟩:=append_sl (h:=h2) (H.same o2) (b:=b) (l:=hits c s ah (s.length+1)) (fun hne=>⟨(hb hne).1,by have:=(hb hne).2;have:=ho.1;omega,fun hl e=>by
      have h9:=lt_of_at (H.top hl).1
      have:=(hb hne).2
      omega⟩) (by have:=ho.1;have:=o2.1;omega) (by omega)
     have hnext:Out44 h s l v (l.length-(i+1)) ⟨env44 v s (llSl B' (bs++[b]) (ls++[hits c s ah (s.length+1)])) (i+1),h3⟩:=by
      refine⟨i+1,B',bs++[b],h3,rfl,hil,by rw[hst],by rw[hst];exact e3,(ho.trans o2).fresh e4 fun x hx=>by rw[hx.1];exact (H.top hx.2).2⟩
     simp only[env44] at hnext
     simp[c44_r19,build_sl,e1,e2,hwr]
     exact⟨l.length-(i+1),by omega,by simpa using hnext⟩
  . have:i=l.length:=by omega
    subst this
    rw[List.take_length] at hls
    subst hls
    have hfin:∃B' bs',llSl B bs (endsAll l s).1=llSl B' bs' (endsAll l s).1/\LL h h1 B' bs' (endsAll l s).1/\Only (fun _=>False) h h1:=⟨B,bs,rfl,H,ho⟩
    simp[c44_l3,c44_r3,c44_r20,len1,hlen]
    exact⟨bufSl_nt,hfin⟩
 obtain⟨r,h',h1,B,bs,rfl,h2⟩:=key
 exact⟨h',B,bs,h1,h2⟩
def quietC(c:Cont)(s:Txt)(n:Nat):Bool:=(List.range n).all fun e=>!(c.not&&endsAt c s e)
def quiet(l:List Cont)(s:Txt):Bool:=l.all fun c=>quietC c s (s.length+1)
theorem quietC_step{c:Cont}{s:Txt}{n:Nat}(h:quietC c s n=true):quietC c s (n+1)=!(c.not&&endsAt c s n):=by
 simp only[quietC] at h ⊢
 rw[List.range_succ,List.all_append,h]
 simp
theorem quiet_none{l:List Cont}{s:Txt}:quiet l s=(neverC l s).isNone:=by
 rw[Bool.eq_iff_iff]
 have h1:(neverC l s).isNone=true↔neverC l s=none:=Option.isNone_iff_eq_none
 rw[h1,neverC_none]
 simp only[quiet,quietC,List.all_eq_true,List.mem_range,neverAt,List.any_eq_false]
 constructor
 . intro h x hx c hc hx2
   have:=h c hc x (by omega)
   rw[hx2] at this
   simp at this
 . intro h c hc x hx
   have:=h x (by omega) c hc
   cases hy:(c.not&&endsAt c s x) with
   |false=>rfl
   |true=>exact absurd hy this
abbrev env99(v:AV)(s:Txt)(i:Nat):Env:=[(0,v),(1,.str s),(5,.int .i64 i)]
abbrev env99i(v:AV)(s:Txt)(i e:Nat):Env:=[(0,v),(1,.str s),(5,.int .i64 i),(6,.int .i64 e)]
def In99(hs:Heap)(v:AV)(s:Txt)(i:Nat)(c:Cont)(m:Nat)(st:St):Prop:=
 ∃e h,m=s.length+1-e/\e<=s.length+1/\quietC c s e=true/\st=⟨env99i v s i e,h⟩/\Only (fun _=>False) hs h
theorem never99_inner{hs:Heap}{s:Txt}{l:List Cont}{v:AV}{i:Nat}{c:Cont}(hv:SlC hs v l)(hi:i<l.length)(hc:c=l[i])(hcs:c.small)(hsl:s.length<=100000)(hll:l.length<=1000){Q:AExit->St->Prop}
  (hret:quietC c s (s.length+1)=false->∀h,Only (fun _=>False) hs h->Q .ret ⟨[(4,.bool false)],h⟩)
  (hq:quietC c s (s.length+1)=true->∀h e,Only (fun _=>False) hs h->Q (.exit 2) ⟨env99i v s i e++[(23,.bool false)],h⟩):
  Wt Try.prog (D cfg) (.loop c99_l5 (some [0,1,5,6])) ⟨env99i v s i 0,hs⟩ Q:=by
 refine Wt.loop (In99 hs v s i c) (m:=s.length+1) ⟨0,hs,rfl,Nat.zero_le _,rfl,rfl,.refl⟩ ?_
 rintro m st ⟨e,h,rfl,he,hqe,rfl,ho⟩
 have hcut:cut (some [0,1,5,6]) (env99i v s i e)=env99i v s i e:=by simp
 simp only[hcut]
 have a1:=hv.at hi
 obtain⟨p2,p5,f2,_,ff⟩:=hv.fields hi
 have f6:=(ff h ho).1
 rw[<-hc] at f6
 have b1:=(hv.same ho).load hi
 rw[<-hc] at b1
 by_cases hes:e<s.length+1
 . have hle:(e:Int)<=s.length:=by omega
   have hle':e<=s.length:=by omega
   have hwr:IntKind.wrap .i64 ((e:Int)+1)=e+1:=wrap_i64 (by omega) (by omega)
   cases hnot:c.not with
   |false=>
    rw[hnot] at f6
    have hquiet:quietC c s (s.length+1)=true:=by simp[quietC,hnot]
    have hn:=hq hquiet h e ho
    simp only[env99i] at hn
    simp[c99_l5,c99_r5,len1,alenS,hle,hle',a1,f2,f6]
    simpa using hn
   |true=>
    rw[hnot] at f6
    obtain⟨h1,e1,o1⟩:=ends_ref (h:=h) hcs (s:=s) (e:=e) (by omega) (by omega)
    have hst:=quietC_step hqe
    cases hat:endsAt c s e with
    |false=>
     rw[hat] at e1
     have hnext:In99 hs v s i c (s.length+1-(e+1)) ⟨env99i v s i (e+1),h1⟩:=⟨e+1,h1,rfl,hes,by rw[hst,hat];simp,rfl,ho.trans o1⟩
     simp only[env99i] at hnext
     simp[c99_l5,c99_r5,c99_r6,c99_r7,c99_r8,len1,alenS,hle,hle',a1,f2,f6,b1,e1,hwr]
     exact⟨s.length+1-(e+1),by omega,by simpa using hnext⟩
    |true=>
     rw[hat] at e1
     have hloud:quietC c s (s.length+1)=false:=by
      cases hx:quietC c s (s.length+1) with
      |false=>rfl
      |true=>
       simp only[quietC,List.all_eq_true,List.mem_range] at hx
       have:=hx e hes
       simp[hnot,hat] at this
     have hn:=hret hloud h1 (ho.trans o1)
     simp[c99_l5,c99_r5,c99_r6,c99_r7,c99_r8,len1,alenS,hle,hle',a1,f2,f6,b1,e1]
     simpa using hn
 . have:e=s.length+1:=by omega
   subst this
   have hle':¬((s.length:Int)+1<=s.length):=by omega
   have hn:=hq hqe h (s.length+1) ho
   simp only[env99i] at hn
   simp[c99_l5,c99_r5,len1,alenS,hle']
   simpa using hn
def Out99(h₀:Heap)(s:Txt)(l:List Cont)(v:AV)(m:Nat)(st:St):Prop:=
 ∃i h,m=l.length-i/\i<=l.length/\quiet (l.take i) s=true/\st=⟨env99 v s i,h⟩/\Only (fun _=>False) h₀ h
theorem never_doc{h:Heap}{s:Txt}{l:List Cont}{v:AV}(hv:SlC h v l)(hsm:∀c∈l,c.small)(hsl:s.length<=100000)(hll:l.length<=1000):
  ∃h',D cfg 99 [v,.str s] h=some (.bool (quiet l s),h')/\Only (fun _=>False) h h':=by
 have key:∃r h',D cfg 99 [v,.str s] h=some (r,h')/\(r=.bool (quiet l s)/\Only (fun _=>False) h h'):=by
  refine call99 (R:=fun r h'=>r=.bool (quiet l s)/\Only (fun _=>False) h h') (args:=[v,.str s]) (h:=h) (by simp) ?_
  have hlen:=fun L=>hv.len (L:=L)
  simp[c99,c99_r0,c99_r1]
  refine Wt.loop (Out99 h s l v) (m:=l.length) ⟨0,h,rfl,Nat.zero_le _,rfl,rfl,.refl⟩ ?_
  rintro m st ⟨i,h1,rfl,hi,hqt,rfl,ho⟩
  have hcut:cut (some [0,1,5]) (env99 v s i)=env99 v s i:=by simp
  simp only[hcut]
  by_cases hil:i<l.length
  . have hil':(i:Int)<l.length:=by omega
    obtain⟨c,hc⟩:∃c,c=l[i]:=⟨_,rfl⟩
    have hcs:c.small:=hsm c (by rw[hc];exact List.getElem_mem hil)
    have hwr:IntKind.wrap .i64 ((i:Int)+1)=i+1:=wrap_i64 (by omega) (by omega)
    have hst:quiet (l.take (i+1)) s=quietC c s (s.length+1):=by
     simp only[quiet] at hqt ⊢
     rw[List.take_succ_eq_append_getElem hil,List.all_append,hqt,<-hc]
     simp
    have hin:=fun Q hr hq=>never99_inner (Q:=Q) (hv.same ho) hil hc hcs hsl hll hr hq
    simp only[env99i] at hin
    simp at hin
    simp[c99_l2,c99_r2,c99_r4,len1,hlen,hil,hil']
    refine hin _ (fun hloud h2 o2=>?_) (fun hquiet h2 e o2=>?_)
    . have hq:quiet l s=false:=by
       cases hx:quiet l s with
       |false=>rfl
       |true=>
        simp only[quiet,List.all_eq_true] at hx
        have:=hx c (by rw[hc];exact List.getElem_mem hil)
        rw[hloud] at this
        simp at this
      simp[hq]
      exact ho.trans o2
    . have hnext:Out99 h s l v (l.length-(i+1)) ⟨env99 v s (i+1),h2⟩:=⟨i+1,h2,rfl,hil,by rw[hst,hquiet],rfl,ho.trans o2⟩
      simp only[env99] at hnext
      simp[c99_r3,hwr]
      exact⟨l.length-(i+1),by omega,by simpa using hnext⟩
  . have:i=l.length:=by omega
    subst this
    rw[List.take_length] at hqt
    simp[c99_l2,c99_r2,c99_r9,len1,hlen,hqt]
    exact ho
 obtain⟨r,h',h1,rfl,h2⟩:=key
 exact⟨h',h1,h2⟩
abbrev env48(v:AV)(s:Txt)(out:AV)(i:Nat):Env:=[(0,v),(1,.str s),(5,out),(6,.int .i64 i)]
def In48(v:AV)(s:Txt)(out:AV)(ls:List (List Int))(h:Heap)(m:Nat)(st:St):Prop:=∃i,m=ls.length-i/\i<=ls.length/\noEmpty (ls.take i)=true/\st=⟨env48 v s out i,h⟩
theorem holds_doc{h:Heap}{s:Txt}{l:List Cont}{v:AV}(hv:SlC h v l)(hsm:∀c∈l,c.small)(hsl:s.length<=100000)(hll:l.length<=1000):
  ∃h',D cfg 48 [v,.str s] h=some (.bool (holdsC l s),h')/\Only (fun _=>False) h h':=by
 have key:∃r h',D cfg 48 [v,.str s] h=some (r,h')/\(r=.bool (holdsC l s)/\Only (fun _=>False) h h'):=by
  refine call48 (R:=fun r h'=>r=.bool (holdsC l s)/\Only (fun _=>False) h h') (args:=[v,.str s]) (h:=h) (by simp) ?_
  obtain⟨h1,B,bs,e1,H1,o1⟩:=ends_doc hv hsm hsl hll
  obtain⟨ls,hls⟩:∃ls,ls=(endsAll l s).1:=⟨_,rfl⟩
  obtain⟨_,_,ok3,_⟩:=endsAll_ok (l:=l) (s:=s)
  rw[<-hls] at e1 H1 ok3
  have hlen:=fun L=>H1.sl.len (t:=44) (e:=30) (by simp) (L:=L)
  have hz:(List.zipWith intSl bs ls).length=ls.length:=by simp[H1.len]
  rw[hz] at hlen
  obtain⟨h2,e2,o2⟩:=never_doc (h:=h1) (hv.same o1) hsm hsl hll
  rw[quiet_none] at e2
  obtain⟨out,hout⟩:∃out,out=llSl B bs ls:=⟨_,rfl⟩
  have hget:=fun i hi=>H1.get (i:=i) hi
  rw[<-hout] at e1 hlen hget
  simp[c48,c48_r0,c48_r1,c48_r2,e1]
  refine Wt.loop (In48 v s out ls h1) (m:=ls.length) ⟨0,rfl,Nat.zero_le _,rfl,rfl⟩ ?_
  rintro m st ⟨i,rfl,hi,hno,rfl⟩
  have hcut:cut (some [0,1,5,6]) (env48 v s out i)=env48 v s out i:=by simp
  simp only[hcut]
  by_cases hil:i<ls.length
  . have hil':(i:Int)<ls.length:=by omega
    have hwr:IntKind.wrap .i64 ((i:Int)+1)=i+1:=wrap_i64 (by omega) (by omega)
    obtain⟨b,a1,b1,_⟩:=hget i hil
    by_cases hne:ls[i]=[]
    . have hh:holdsC l s=false:=by simp only[holdsC,<-hls,noEmpty_no hil hne];rfl
      have hl0:(ls[i].length:Int)=0:=by rw[hne];rfl
      have hl0':ls[i].length=0:=by rw[hne];rfl
      simp[c48_l3,c48_r3,c48_r5,c48_r6,hil',hil,a1,b1,len1,hlen,alen_intSl,hl0,hl0',hh,hne]
      exact o1
    . have hl0:¬(ls[i].length=0):=fun e=>hne (List.length_eq_zero_iff.1 e)
      have hl0':¬((ls[i].length:Int)=0):=by omega
      have hnext:In48 v s out ls h1 (ls.length-(i+1)) ⟨env48 v s out (i+1),h1⟩:=⟨i+1,rfl,hil,by rw[noEmpty_step hil hno];simpa using hne,rfl⟩
      simp only[env48] at hnext
      simp[c48_l3,c48_r3,c48_r4,c48_r5,c48_r6,hil',hil,a1,b1,len1,hlen,alen_intSl,hl0,hl0',hwr,hne]
      exact⟨ls.length-(i+1),by omega,by simpa using hnext⟩
  . have:i=ls.length:=by omega
    subst this
    rw[List.take_length] at hno
    have hh:holdsC l s=(neverC l s).isNone:=by simp only[holdsC,<-hls,hno];rfl
    simp[c48_l3,c48_r3,c48_r7,len1,hlen,e2,hh]
    exact o1.trans o2
 obtain⟨r,h',h1,rfl,h2⟩:=key
 exact⟨h',h1,h2⟩
def upTo(n:Nat)(l:List Int):List Int:=l.filter fun p=>decide (p<=n)
theorem patAt_take{p s:Txt}{nc:Bool}{e n:Nat}(hn:n<=s.length)(he:e<=n):patAt p nc (s.take n) e=patAt p nc s e:=by
 simp only[patAt]
 by_cases hp:p.length<=e
 . have h1:List.take p.length (List.drop (e-p.length) (List.take n s))=List.take p.length (List.drop (e-p.length) s):=by
    rw[List.drop_take,List.take_take]
    congr 1
    omega
   have h2:e<=(s.take n).length:=by simp;omega
   have h3:e<=s.length:=by omega
   rw[h1,decide_eq_true h2,decide_eq_true h3]
 . simp[hp]
theorem endsAt_take{c:Cont}{s:Txt}{e n:Nat}(hn:n<=s.length)(he:e<=n):endsAt c (s.take n) e=endsAt c s e:=by
 simp only[endsAt,patAt_take hn he]
theorem behind_upTo{c:Cont}{e n:Nat}{ah:List Int}(he:e<=n):behindB c e (upTo n ah)=behindB c e ah:=by
 rw[Bool.eq_iff_iff]
 simp only[behindB,upTo,List.any_eq_true,List.mem_filter,decide_eq_true_eq]
 constructor
 . rintro⟨p,⟨h1,_⟩,h2⟩
   exact⟨p,h1,h2⟩
 . rintro⟨p,h1,h2⟩
   refine⟨p,⟨h1,?_⟩,h2⟩
   simp only[followsB,Bool.and_eq_true,decide_eq_true_eq] at h2
   have:=h2.1.1
   omega
theorem hits_take{c:Cont}{s:Txt}{ah:List Int}{n:Nat}(hn:n<=s.length):∀k,k<=n+1->hits c (s.take n) (upTo n ah) k=hits c s ah k
 |0,_=>rfl
 |k+1,h=>by
  have h1:hitB c (s.take n) (upTo n ah) k=hitB c s ah k:=by simp only[hitB,endsAt_take hn (show k<=n by omega),behind_upTo (c:=c) (ah:=ah) (show k<=n by omega)]
  simp only[hits,h1,hits_take hn k (by omega)]
theorem hits_upTo{c:Cont}{s:Txt}{ah:List Int}{n:Nat}:∀m,upTo n (hits c s ah m)=hits c s ah (min m (n+1))
 |0=>by simp[hits,upTo]
 |m+1=>by
  have ih:=hits_upTo (c:=c) (s:=s) (ah:=ah) (n:=n) m
  by_cases h:m<=n
  . have e1:min (m+1) (n+1)=min m (n+1)+1:=by omega
    have e2:min m (n+1)=m:=by omega
    rw[e1,e2]
    rw[e2] at ih
    simp only[hits]
    split
    . simp only[upTo,List.filter_append] at ih ⊢
      rw[ih]
      simp
      omega
    . exact ih
  . have e1:min (m+1) (n+1)=min m (n+1):=by omega
    rw[e1,<-ih]
    simp only[hits]
    split
    . simp only[upTo,List.filter_append]
      simp
      omega
    . rfl
theorem endsAll_take{l:List Cont}{s:Txt}{n:Nat}(hn:n<=s.length):endsAll l (s.take n)=((endsAll l s).1.map (upTo n),upTo n (endsAll l s).2):=by
 have hlen:(s.take n).length=n:=by simp;omega
 have key:∀k (l:List Cont),l.length=k->endsAll l (s.take n)=((endsAll l s).1.map (upTo n),upTo n (endsAll l s).2):=by
  intro k
  induction k with
  |zero=>
   intro l h
   have:l=[]:=List.length_eq_zero_iff.1 h
   subst this
   rfl
  |succ k ih=>
   intro l h
   rcases List.eq_nil_or_concat l with e|⟨q,c,e⟩
   . subst e;simp at h
   . have e':l=q++[c]:=by simpa using e
     subst e'
     simp at h
     have hst:∀s,endsAll (q++[c]) s=endsStep s (endsAll q s) c:=fun s=>by simp only[endsAll,List.foldl_append,List.foldl_cons,List.foldl_nil]
     rw[hst,hst,ih q h]
     unfold endsStep
     cases c.not with
     |true=>rfl
     |false=>
      have h1:hits c (s.take n) (upTo n (endsAll q s).2) ((s.take n).length+1)=upTo n (hits c s (endsAll q s).2 (s.length+1)):=by
       rw[hlen,hits_take hn (n+1) (Nat.le_refl _),hits_upTo]
       congr 1
       omega
      simp only[Bool.false_eq_true,if_false,h1,List.map_append,List.map_cons,List.map_nil]
 exact key _ l rfl
theorem hits_head{c:Cont}{s:Txt}{ah:List Int}:∀{n:Nat},∀p∈hits c s ah n,(hits c s ah n).headD 0<=p
 |0,p,hp=>by simp[hits] at hp
 |n+1,p,hp=>by
  simp only[hits] at hp ⊢
  split at hp
  . rename_i hh
    rw[if_pos hh]
    cases hx:hits c s ah n with
    |nil=>
     rw[hx] at hp
     simp at hp
     subst hp
     simp
    |cons a r=>
     have ih:=hits_head (c:=c) (s:=s) (ah:=ah) (n:=n)
     have hr:=hits_range (c:=c) (s:=s) (ahead:=ah) (n:=n)
     rw[hx] at hp ih hr
     simp only[List.cons_append,List.headD_cons] at ih ⊢
     rcases List.mem_append.1 hp with hp|hp
     . exact ih p hp
     . simp at hp
       subst hp
       have:=hr a (List.mem_cons_self ..)
       omega
  . rename_i hh
    rw[if_neg hh]
    exact hits_head p hp
def posTo(l:List Cont):Nat->List (Nat×Cont)
 |0=>[]
 |k+1=>match l[k]? with
  |some c=>if c.not then posTo l k else posTo l k++[(k,c)]
  |none=>posTo l k
def relW(c:Cont):Bool:=c.rel&&decide (0<c.within)
def nextP(P:List (Nat×Cont))(j:Nat):Option Cont:=(P[j+1]?).map fun x=>x.2
def leastOf:Option Cont->Bool
 |none=>true
 |some c=>!relW c
def byOf:Option Cont->Int
 |none=>0
 |some c=>if relW c then c.distance+c.within else 0
def partS(x:Nat×Cont)(nx:Option Cont)(first:Bool)(kept:List Int)(so:Bool):PS:=⟨x.2,x.1,first,byOf nx,leastOf nx,kept,so⟩
theorem posTo_mem{l:List Cont}{x:Nat×Cont}:∀{k:Nat},x∈posTo l k->l[x.1]?=some x.2/\x.2.not=false/\x.1<k
 |0,h=>by simp[posTo] at h
 |k+1,h=>by
  simp only[posTo] at h
  split at h
  . rename_i c hc
    split at h
    . have:=posTo_mem h
      exact⟨this.1,this.2.1,by omega⟩
    . rename_i hn
      rcases List.mem_append.1 h with h|h
      . have:=posTo_mem h
        exact⟨this.1,this.2.1,by omega⟩
      . simp at h
        subst h
        exact⟨hc,by simpa using hn,by simp⟩
  . have:=posTo_mem h
    exact⟨this.1,this.2.1,by omega⟩
theorem newTo_parts{l:List Cont}{most:Nat}:∀{k:Nat},(newTo l most k).parts.length=(posTo l k).length/\∀(j:Nat) (x:Nat×Cont),(posTo l k)[j]?=some x->(newTo l most k).parts[j]?=some (partS x (nextP (posTo l k) j) (decide (j=0)) [] false)
 |0=>⟨rfl,fun j x h=>by simp[posTo] at h⟩
 |k+1=>by
  obtain⟨ih1,ih2⟩:=newTo_parts (l:=l) (most:=most) (k:=k)
  simp only[newTo,posTo]
  cases hc:l[k]? with
  |none=>exact⟨ih1,ih2⟩
  |some c=>
   simp only[]
   by_cases hn:c.not=true
   . rw[if_pos hn]
     simp only[addT,hn,if_true]
     exact⟨ih1,ih2⟩
   . rw[if_neg hn]
     obtain⟨T,hT⟩:∃T,newTo l most k=T:=⟨_,rfl⟩
     obtain⟨P,hP⟩:∃P,posTo l k=P:=⟨_,rfl⟩
     rw[hT,hP] at ih1 ih2
     rw[hT,hP]
     have hadd:(addT T k c).parts=relL c T.parts++[newPS c k (decide (T.parts.length=0))]:=by simp only[addT,hn];simp
     rw[hadd]
     refine⟨by simp[relL_len,ih1],fun j x hx=>?_⟩
     by_cases hj:j<P.length
     . rw[List.getElem?_append_left hj] at hx
       have h1:=ih2 j x hx
       rw[List.getElem?_append_left (by rw[relL_len,ih1];exact hj)]
       by_cases hl:j+1<P.length
       . have hnx:nextP (P++[(k,c)]) j=nextP P j:=by simp only[nextP];rw[List.getElem?_append_left hl]
         rw[hnx,<-h1]
         unfold relL
         split
         . split
           . rw[List.getElem?_set_ne (by omega)]
           . rfl
         . rfl
       . have hjl:j+1=P.length:=by omega
         have hnx:nextP (P++[(k,c)]) j=some c:=by simp only[nextP];rw[hjl];simp
         have hnx0:nextP P j=none:=by simp only[nextP];rw[List.getElem?_eq_none (by omega)];rfl
         rw[hnx0] at h1
         rw[hnx]
         have hlast:T.parts.length-1=j:=by omega
         have hr:relB c T.parts.length=relW c:=by
          have:decide (0<T.parts.length)=true:=by simp;omega
          simp only[relB,relW,this,Bool.true_and]
         unfold relL
         rw[hr,hlast]
         cases hw:relW c with
         |true=>
          simp only[if_true,h1]
          rw[List.getElem?_set_self (by omega)]
          simp[relPS,partS,byOf,leastOf,hw]
         |false=>
          simp only[Bool.false_eq_true,if_false,h1]
          simp[partS,byOf,leastOf,hw]
     . have hjl:j=P.length:=by
        have:=(List.getElem?_eq_some_iff.1 hx).1
        simp at this
        omega
       subst hjl
       simp at hx
       subst hx
       rw[List.getElem?_append_right (by rw[relL_len,ih1];exact Nat.le_refl _),relL_len,ih1]
       have hnx:nextP (P++[(k,c)]) P.length=none:=by simp[nextP]
       rw[hnx]
       simp[newPS,partS,byOf,leastOf]
theorem newTo_nots{l:List Cont}{most:Nat}{q:PS}:∀{k:Nat},q∈(newTo l most k).nots↔∃i c,i<k/\l[i]?=some c/\c.not=true/\q=notPS c i
 |0=>by simp[newTo]
 |k+1=>by
  have ih:=newTo_nots (l:=l) (most:=most) (q:=q) (k:=k)
  have hmono:(∃i c,i<k+1/\l[i]?=some c/\c.not=true/\q=notPS c i)↔(∃i c,i<k/\l[i]?=some c/\c.not=true/\q=notPS c i)\/∃c,l[k]?=some c/\c.not=true/\q=notPS c k:=by
   constructor
   . rintro⟨i,c,h1,h2,h3,h4⟩
     by_cases hik:i=k
     . subst hik;exact .inr ⟨c,h2,h3,h4⟩
     . exact .inl ⟨i,c,by omega,h2,h3,h4⟩
   . rintro (⟨i,c,h1,h2,h3,h4⟩|⟨c,h2,h3,h4⟩)
     . exact⟨i,c,by omega,h2,h3,h4⟩
     . exact⟨k,c,by omega,h2,h3,h4⟩
  rw[hmono]
  simp only[newTo]
  split
  . rename_i c hc
    by_cases hn:c.not=true
    . simp only[addT,hn,if_true,List.mem_append,List.mem_singleton,ih]
      constructor
      . rintro (h|h)
        . exact .inl h
        . exact .inr ⟨c,hc,hn,h⟩
      . rintro (h|⟨c',h1,_,h3⟩)
        . exact .inl h
        . rw[hc] at h1;cases h1;exact .inr h3
    . simp only[addT,hn,Bool.false_eq_true,if_false,ih]
      constructor
      . exact .inl
      . rintro (h|⟨c',h1,h2,_⟩)
        . exact h
        . rw[hc] at h1;cases h1;exact absurd h2 hn
  . rename_i hc
    rw[ih]
    constructor
    . exact .inl
    . rintro (h|⟨c',h1,_,_⟩)
      . exact h
      . rw[hc] at h1;cases h1
def eAt(P:List (Nat×Cont))(s:Txt):Nat->List Int
 |0=>match P[0]? with
  |some x=>hits x.2 s [] (s.length+1)
  |none=>[]
 |j+1=>match P[j+1]? with
  |some x=>hits x.2 s (eAt P s j) (s.length+1)
  |none=>[]
def prevE(P:List (Nat×Cont))(s:Txt):Nat->List Int
 |0=>[]
 |j+1=>eAt P s j
theorem eAt_some{P:List (Nat×Cont)}{s:Txt}{j:Nat}{x:Nat×Cont}(h:P[j]?=some x):eAt P s j=hits x.2 s (prevE P s j) (s.length+1):=by
 cases j with
 |zero=>simp only[eAt,prevE,h]
 |succ j=>simp only[eAt,prevE,h]
theorem eAt_app{P Q:List (Nat×Cont)}{s:Txt}:∀{j:Nat},j<P.length->eAt (P++Q) s j=eAt P s j
 |0,h=>by simp only[eAt];rw[List.getElem?_append_left h]
 |j+1,h=>by
  simp only[eAt]
  rw[List.getElem?_append_left h,eAt_app (by omega)]
theorem endsAll_pos{l:List Cont}{s:Txt}:∀{k:Nat},k<=l.length->endsAll (l.take k) s=((List.range (posTo l k).length).map (eAt (posTo l k) s),prevE (posTo l k) s (posTo l k).length)
 |0,_=>by simp[endsAll,posTo,prevE]
 |k+1,h=>by
  have ih:=endsAll_pos (l:=l) (s:=s) (k:=k) (by omega)
  have hk:l[k]?=some l[k]:=List.getElem?_eq_getElem (by omega)
  rw[endsAll_step (by omega),ih]
  simp only[posTo,hk,endsStep]
  obtain⟨P,hP⟩:∃P,posTo l k=P:=⟨_,rfl⟩
  rw[hP]
  split
  . rfl
  . have hlast:eAt (P++[(k,l[k])]) s P.length=hits l[k] s (prevE P s P.length) (s.length+1):=by
     rw[eAt_some (x:=(k,l[k])) (by simp)]
     congr 1
     cases hp:P.length with
     |zero=>rfl
     |succ n=>simp only[prevE];rw[eAt_app (by omega)]
    have hmap:(List.range (P++[(k,l[k])]).length).map (eAt (P++[(k,l[k])]) s)=(List.range P.length).map (eAt P s)++[hits l[k] s (prevE P s P.length) (s.length+1)]:=by
     rw[List.length_append,List.length_singleton,List.range_succ,List.map_append,List.map_singleton,hlast]
     congr 1
     apply List.map_congr_left
     intro j hj
     exact eAt_app (List.mem_range.1 hj)
    rw[hmap]
    congr 1
    rw[List.length_append,List.length_singleton]
    exact hlast.symm
def keptE(nx:Option Cont)(U:List Int)(n:Int):List Int:=if leastOf nx then U.take 1 else U.filter fun a=>decide (n<a+byOf nx)
def stepsOf(l:List Cont)(s:Txt)(n:Nat):List Bool:=l.map fun c=>patAt c.bytes c.nocase s n
theorem stepsOf_nth{l:List Cont}{s:Txt}{n i:Nat}{c:Cont}(h:l[i]?=some c):nth (stepsOf l s n) i=patAt c.bytes c.nocase s n:=by simp[nth,stepsOf,h]
abbrev posA(l:List Cont):List (Nat×Cont):=posTo l l.length
structure InvT (T:TS) (l:List Cont) (s:Txt) (most n:Nat):Prop where
 at_:T.at_=n
 mst:T.most=most
 over:T.over=false
 len:T.parts.length=(posA l).length
 parts:∀(j:Nat) (x:Nat×Cont),(posA l)[j]?=some x->T.parts[j]?=some (partS x (nextP (posA l) j) (decide (j=0)) (keptE (nextP (posA l) j) (upTo n (eAt (posA l) s j)) n) (decide (upTo n (eAt (posA l) s j)≠[])))
 nots:T.nots=(newTo l most l.length).nots
 bad:T.bad=(List.range (n+1)).any (neverAt s l)
theorem patAt_zero{p s:Txt}{nc:Bool}(h:p≠[]):patAt p nc s 0=false:=by
 have:¬(p.length<=0):=fun e=>h (List.length_eq_zero_iff.1 (by omega))
 simp only[patAt,decide_eq_false this,Bool.false_and]
theorem upTo_zero{P:List (Nat×Cont)}{s:Txt}{j:Nat}{x:Nat×Cont}(h:P[j]?=some x)(hb:x.2.bytes≠[]):upTo 0 (eAt P s j)=[]:=by
 rw[eAt_some h,hits_upTo,show min (s.length+1) (0+1)=0+1 by omega]
 simp only[hits,hitB,endsAt,patAt_zero hb,Bool.false_and,Bool.false_eq_true,if_false]
theorem upTo_step{P:List (Nat×Cont)}{s:Txt}{j n:Nat}{x:Nat×Cont}(h:P[j]?=some x)(hn:n+1<=s.length):upTo (n+1) (eAt P s j)=upTo n (eAt P s j)++if hitB x.2 s (prevE P s j) (n+1) then [((n+1:Nat):Int)] else []:=by
 rw[eAt_some h,hits_upTo,hits_upTo,show min (s.length+1) (n+1+1)=(n+1)+1 by omega,show min (s.length+1) (n+1)=n+1 by omega]
 simp only[hits]
 split<;>simp
theorem upTo_head{P:List (Nat×Cont)}{s:Txt}{j n:Nat}{x:Nat×Cont}(h:P[j]?=some x):∀p∈upTo n (eAt P s j),(upTo n (eAt P s j)).headD 0<=p:=by
 rw[eAt_some h,hits_upTo]
 exact fun p hp=>hits_head p hp
theorem upTo_le{n:Nat}{U:List Int}:∀p∈upTo n U,p<=n:=fun p hp=>by
 simp only[upTo,List.mem_filter,decide_eq_true_eq] at hp
 exact hp.2
theorem init_inv{l:List Cont}{s:Txt}{most:Nat}(hb:∀c∈l,c.bytes≠[]):InvT (newTo l most l.length) l s most 0:=by
 obtain⟨h1,h2,h3,h4⟩:=newTo_most (l:=l) (most:=most) (k:=l.length)
 obtain⟨h5,h6⟩:=newTo_parts (l:=l) (most:=most) (k:=l.length)
 refine⟨h2,h1,h4,h5,fun j x hx=>?_,rfl,?_⟩
 . have hm:=posTo_mem (List.mem_of_getElem? hx)
   have hz:=upTo_zero (s:=s) hx (hb _ (List.mem_of_getElem? hm.1))
   rw[h6 j x hx,hz]
   simp[keptE]
 . rw[h3]
   have:neverAt s l 0=false:=by
    simp only[neverAt,List.any_eq_false]
    intro c hc
    simp only[endsAt,patAt_zero (hb c hc),Bool.false_and,Bool.and_false]
    simp
   simp[this]
theorem here_inv{T:TS}{l:List Cont}{s:Txt}{most n:Nat}(I:InvT T l s most n)(hn:n+1<=s.length):∀(j:Nat) (x:Nat×Cont),(posA l)[j]?=some x->hereN (stepsOf l s (n+1)) (n+1) T.parts j=hitB x.2 s (prevE (posA l) s j) (n+1):=by
 have says:∀(j:Nat) (x:Nat×Cont) (nx:Option Cont) (b:Bool) (k:List Int) (so:Bool),(posA l)[j]?=some x->saysB (stepsOf l s (n+1)) (n+1) (partS x nx b k so)=endsAt x.2 s (n+1):=by
  intro j x nx b k so hx
  have hm:=posTo_mem (List.mem_of_getElem? hx)
  show (nth (stepsOf l s (n+1)) x.1&&placed x.2 (n+1))=_
  rw[stepsOf_nth hm.1]
  rfl
 intro j
 induction j with
 |zero=>
  intro x hx
  have hp:=I.parts 0 x hx
  simp only[hereN,hp,says 0 x _ _ _ _ hx]
  show (endsAt x.2 s (n+1)&&!x.2.rel)=hitB x.2 s [] (n+1)
  simp[hitB,behindB]
 |succ j ih=>
  intro x hx
  have hlt:=(List.getElem?_eq_some_iff.1 hx).1
  obtain⟨y,hy⟩:∃y,(posA l)[j]?=some y:=⟨_,List.getElem?_eq_getElem (by omega)⟩
  have hp:=I.parts (j+1) x hx
  have hq:=I.parts j y hy
  simp only[hereN,hp,hq,says (j+1) x _ _ _ _ hx,ih y hy]
  have hnx:nextP (posA l) j=some x.2:=by simp only[nextP,hx];rfl
  rw[hnx]
  obtain⟨U,hU⟩:∃U,upTo n (eAt (posA l) s j)=U:=⟨_,rfl⟩
  have hhead:=upTo_head (s:=s) (n:=n) hy
  have hul:=upTo_le (n:=n) (U:=eAt (posA l) s j)
  have hst:=upTo_step hy hn
  rw[hU] at hhead hst hul
  rw[hU]
  obtain⟨hr,hhr⟩:∃b,hitB y.2 s (prevE (posA l) s j) (n+1)=b:=⟨_,rfl⟩
  rw[hhr] at hst ⊢
  show (endsAt x.2 s (n+1)&&(!x.2.rel || afterB x.2 (partS y (some x.2) (decide (j=0)) (keptE (some x.2) U n) (decide (U≠[]))) hr ((n+1:Nat):Int)))=hitB x.2 s (eAt (posA l) s j) (n+1)
  cases hrel:x.2.rel with
  |false=>simp[hitB,hrel]
  |true=>
   simp only[hitB,hrel,Bool.not_true,Bool.false_or]
   congr 1
   rw[<-behind_upTo (c:=x.2) (e:=n+1) (n:=n+1) (Nat.le_refl _),hst]
   have hf:∀a:Int,a<=((n+1:Nat):Int)->followsB x.2 a ((n+1:Nat):Int)=followsT x.2 ((n+1:Nat):Int) a:=fun a ha=>by
    simp only[followsB,followsT,decide_eq_true ha,Bool.true_and]
   have hany:(U.any fun a=>followsB x.2 a ((n+1:Nat):Int))=U.any fun a=>followsT x.2 ((n+1:Nat):Int) a:=by
    rw[Bool.eq_iff_iff,List.any_eq_true,List.any_eq_true]
    constructor
    . rintro⟨a,h1,h2⟩;exact⟨a,h1,by rw[<-hf a (by have:=hul a h1;omega)];exact h2⟩
    . rintro⟨a,h1,h2⟩;exact⟨a,h1,by rw[hf a (by have:=hul a h1;omega)];exact h2⟩
   have hk:((keptE (some x.2) U n).any fun a=>followsT x.2 ((n+1:Nat):Int) a)=U.any fun a=>followsT x.2 ((n+1:Nat):Int) a:=by
    unfold keptE
    cases hw:relW x.2 with
    |false=>
     have hl:leastOf (some x.2)=true:=by simp[leastOf,hw]
     rw[if_pos hl]
     have hwi:x.2.within<=0:=by
      simp only[relW,hrel,Bool.true_and,decide_eq_false_iff_not] at hw
      omega
     cases U with
     |nil=>rfl
     |cons a r=>
      rw[Bool.eq_iff_iff,List.any_eq_true,List.any_eq_true]
      constructor
      . rintro⟨b,h1,h2⟩
        simp at h1
        exact⟨b,by simp[h1],h2⟩
      . rintro⟨b,h1,h2⟩
        have h3:=hhead b h1
        simp only[List.headD_cons] at h3
        refine⟨a,by simp,?_⟩
        simp only[followsT,decide_eq_true hwi,Bool.true_or,Bool.and_true,decide_eq_true_eq] at h2 ⊢
        omega
    |true=>
     have hl:¬(leastOf (some x.2)=true):=by simp[leastOf,hw]
     rw[if_neg hl]
     have hwi:¬(x.2.within<=0):=by
      simp only[relW,hrel,Bool.true_and,decide_eq_true_eq] at hw
      omega
     rw[Bool.eq_iff_iff,List.any_eq_true,List.any_eq_true]
     constructor
     . rintro⟨b,h1,h2⟩
       exact⟨b,(List.mem_filter.1 h1).1,h2⟩
     . rintro⟨b,h1,h2⟩
       refine⟨b,List.mem_filter.2 ⟨h1,?_⟩,h2⟩
       simp only[followsT,decide_eq_false hwi,Bool.false_or,Bool.and_eq_true,decide_eq_true_eq] at h2
       simp only[byOf,hw,if_true,decide_eq_true_eq]
       omega
   simp only[afterB,behindB,List.any_append,hany]
   show ((keptE (some x.2) U n).any (fun a=>followsT x.2 ((n+1:Nat):Int) a) || (hr&&followsT x.2 ((n+1:Nat):Int) ((n+1:Nat):Int)))=_
   rw[hk]
   congr 1
   cases hr with
   |false=>rfl
   |true=>simp only[if_true,List.any_cons,List.any_nil,Bool.or_false,Bool.true_and];rw[hf _ (Int.le_refl _)]
theorem keptE_step{nx:Option Cont}{U:List Int}{n:Nat}{hr:Bool}(hul:∀p∈U,p<=(n:Int)){x:Nat×Cont}{b so:Bool}:
  (partS x nx b (keptE nx U n) so).keep ((n+1:Nat):Int) hr=partS x nx b (keptE nx (U++if hr then [((n+1:Nat):Int)] else []) ((n+1:Nat):Int)) (so || hr):=by
 unfold keptE
 cases hl:leastOf nx with
 |true=>
  simp only[if_true,PS.keep,partS,hl]
  cases U with
  |nil=>cases hr<;>simp
  |cons a r=>cases hr<;>simp
 |false=>
  simp only[Bool.false_eq_true,if_false,PS.keep,partS,hl,keepL,List.filter_append,List.filter_filter]
  congr 1
  congr 1
  . apply List.filter_congr
    intro a ha
    rw[Bool.eq_iff_iff]
    simp only[Bool.and_eq_true,decide_eq_true_eq]
    constructor
    . exact fun h=>h.1
    . exact fun h=>⟨h,by omega⟩
  . cases hr with
    |false=>simp
    |true=>
     simp only[Bool.true_and,if_true]
     by_cases h:((n+1:Nat):Int)<((n+1:Nat):Int)+byOf nx
     . rw[decide_eq_true h,if_pos rfl,List.filter_cons,if_pos (by simpa using h)]
       rfl
     . rw[decide_eq_false h]
       simp only[Bool.false_eq_true,if_false]
       rw[List.filter_cons,if_neg (by simpa using h)]
       rfl
theorem keptTo_get{n:Nat}{hn:Nat->Bool}{ps:List PS}{j:Nat}{p:PS}(hp:ps[j]?=some p):∀{k:Nat},j<k->(keptTo n hn ps k)[j]?=some (p.keep n (hn j))
 |0,h=>by omega
 |k+1,h=>by
  have hjl:=(List.getElem?_eq_some_iff.1 hp).1
  simp only[keptTo]
  by_cases hjk:j=k
  . subst hjk
    simp only[hp]
    rw[List.getElem?_set_self (by rw[keptTo_len];exact hjl)]
  . have ih:=keptTo_get (n:=n) (hn:=hn) hp (k:=k) (by omega)
    split
    . rw[List.getElem?_set_ne (by omega),ih]
    . exact ih
theorem overTo_any{n most:Nat}{hn:Nat->Bool}{ps:List PS}{o:Bool}:∀{k:Nat},k<=ps.length->(overTo n most hn ps o k=true↔o=true\/∃j p,j<k/\ps[j]?=some p/\most<(p.keep n (hn j)).kept.length)
 |0,_=>by simp[overTo]
 |k+1,h=>by
  have ih:=overTo_any (n:=n) (most:=most) (hn:=hn) (ps:=ps) (o:=o) (k:=k) (by omega)
  have hk:ps[k]?=some ps[k]:=List.getElem?_eq_getElem (by omega)
  simp only[overTo,hk,Bool.or_eq_true,ih,decide_eq_true_eq]
  constructor
  . rintro ((h|⟨j,p,h1,h2,h3⟩)|h)
    . exact .inl h
    . exact .inr ⟨j,p,by omega,h2,h3⟩
    . exact .inr ⟨k,ps[k],by omega,hk,h⟩
  . rintro (h|⟨j,p,h1,h2,h3⟩)
    . exact .inl (.inl h)
    . by_cases hj:j=k
      . subst hj;rw[hk] at h2;cases h2;exact .inr h3
      . exact .inl (.inr ⟨j,p,by omega,h2,h3⟩)
theorem badTo_any{ends:List Bool}{n:Nat}{ns:List PS}{b:Bool}:∀{k:Nat},k<=ns.length->badTo ends n ns b k=(b || (ns.take k).any (saysB ends n))
 |0,_=>by simp[badTo]
 |k+1,h=>by
  have ih:=badTo_any (ends:=ends) (n:=n) (ns:=ns) (b:=b) (k:=k) (by omega)
  have hk:ns[k]?=some ns[k]:=List.getElem?_eq_getElem (by omega)
  simp only[badTo,hk,ih]
  rw[List.take_succ_eq_append_getElem (by omega),List.any_append,Bool.or_assoc]
  simp
def keptD(l:List Cont)(s:Txt)(n:Nat):List Int:=(List.range (posA l).length).map fun j=>((keptE (nextP (posA l) j) (upTo n (eAt (posA l) s j)) n).length:Int)
def overD(l:List Cont)(most:Nat)(s:Txt)(n:Nat):Bool:=(keptD l s n).any fun k=>decide ((most:Int)<k)
theorem nots_says{l:List Cont}{s:Txt}{most n:Nat}:(newTo l most l.length).nots.any (saysB (stepsOf l s (n+1)) (n+1))=neverAt s l (n+1):=by
 rw[Bool.eq_iff_iff,List.any_eq_true,neverAt,List.any_eq_true]
 constructor
 . rintro⟨q,h1,h2⟩
   obtain⟨i,c,_,h4,h5,rfl⟩:=newTo_nots.1 h1
   refine⟨c,List.mem_of_getElem? h4,?_⟩
   have h6:(nth (stepsOf l s (n+1)) i&&placed c (n+1))=true:=h2
   rw[stepsOf_nth h4] at h6
   rw[h5,Bool.true_and]
   exact h6
 . rintro⟨c,h1,h2⟩
   obtain⟨i,hi,rfl⟩:=List.getElem_of_mem h1
   have h4:l[i]?=some l[i]:=List.getElem?_eq_getElem hi
   simp only[Bool.and_eq_true] at h2
   refine⟨notPS l[i] i,newTo_nots.2 ⟨i,l[i],hi,h4,h2.1,rfl⟩,?_⟩
   show (nth (stepsOf l s (n+1)) i&&placed l[i] (n+1))=true
   rw[stepsOf_nth h4]
   exact h2.2
theorem step_inv{T:TS}{l:List Cont}{s:Txt}{most n:Nat}(I:InvT T l s most n)(hn:n+1<=s.length):
  (stepT T (stepsOf l s (n+1))).over=overD l most s (n+1)/\(overD l most s (n+1)=false->InvT (stepT T (stepsOf l s (n+1))) l s most (n+1)):=by
 have hh:=here_inv I hn
 have hkeep:∀(j:Nat) (x:Nat×Cont),(posA l)[j]?=some x->∃p,T.parts[j]?=some p/\p.keep ((n+1:Nat):Int) (hereN (stepsOf l s (n+1)) (n+1) T.parts j)=partS x (nextP (posA l) j) (decide (j=0)) (keptE (nextP (posA l) j) (upTo (n+1) (eAt (posA l) s j)) ((n+1:Nat):Int)) (decide (upTo (n+1) (eAt (posA l) s j)≠[])):=by
  intro j x hx
  refine⟨_,I.parts j x hx,?_⟩
  rw[hh j x hx,keptE_step upTo_le,upTo_step hx hn]
  congr 1
  rw[Bool.eq_iff_iff]
  simp only[Bool.or_eq_true,decide_eq_true_eq]
  cases hitB x.2 s (prevE (posA l) s j) (n+1)<;>simp
 have hst:stepT T (stepsOf l s (n+1))={ T with at_:=n+1,parts:=keptTo (n+1) (hereN (stepsOf l s (n+1)) (n+1) T.parts) T.parts T.parts.length,over:=overTo (n+1) T.most (hereN (stepsOf l s (n+1)) (n+1) T.parts) T.parts T.over T.parts.length,bad:=badTo (stepsOf l s (n+1)) (n+1) T.nots T.bad T.nots.length }:=by
  simp only[stepT,I.over,I.at_,Bool.false_eq_true,if_false]
 have hover:(stepT T (stepsOf l s (n+1))).over=overD l most s (n+1):=by
  rw[hst,Bool.eq_iff_iff]
  show overTo (n+1) T.most _ T.parts T.over T.parts.length=true↔_
  rw[overTo_any (Nat.le_refl _),I.over,I.mst,I.len]
  simp only[overD,keptD,List.any_eq_true,List.mem_map,List.mem_range,decide_eq_true_eq]
  constructor
  . rintro (h|⟨j,p,h1,h2,h3⟩)
    . exact absurd h (by simp)
    . obtain⟨x,hx⟩:∃x,(posA l)[j]?=some x:=⟨_,List.getElem?_eq_getElem h1⟩
      obtain⟨p',hp',hk⟩:=hkeep j x hx
      rw[h2] at hp'
      cases hp'
      rw[hk] at h3
      exact⟨_,⟨j,h1,rfl⟩,by have:most<(keptE (nextP (posA l) j) (upTo (n+1) (eAt (posA l) s j)) ((n+1:Nat):Int)).length:=h3;omega⟩
  . rintro⟨_,⟨j,h1,rfl⟩,h3⟩
    obtain⟨x,hx⟩:∃x,(posA l)[j]?=some x:=⟨_,List.getElem?_eq_getElem h1⟩
    obtain⟨p,hp,hk⟩:=hkeep j x hx
    refine .inr ⟨j,p,h1,hp,?_⟩
    rw[hk]
    show most<(keptE (nextP (posA l) j) (upTo (n+1) (eAt (posA l) s j)) ((n+1:Nat):Int)).length
    omega
 refine⟨hover,fun hov=>⟨?_,?_,hover.trans hov,?_,fun j x hx=>?_,?_,?_⟩⟩
 . rw[hst]
 . rw[hst];exact I.mst
 . rw[hst];exact keptTo_len.trans I.len
 . obtain⟨p,hp,hk⟩:=hkeep j x hx
   rw[hst]
   show (keptTo (n+1) _ T.parts T.parts.length)[j]?=_
   rw[keptTo_get hp (List.getElem?_eq_some_iff.1 hp).1,hk]
 . rw[hst];exact I.nots
 . rw[hst]
   show badTo (stepsOf l s (n+1)) (n+1) T.nots T.bad T.nots.length=_
   rw[badTo_any (Nat.le_refl _),List.take_length,I.bad,I.nots,nots_says,List.range_succ (n:=n+1),List.any_append]
   simp
theorem holds_inv{T:TS}{l:List Cont}{s:Txt}{most n:Nat}(I:InvT T l s most n)(hn:n<=s.length):T.holds=holdsC l (s.take n)/\T.nums=keptD l s n:=by
 have hlen:(s.take n).length=n:=by simp;omega
 constructor
 . have h1:T.parts.all (fun p=>p.some_)=noEmpty (endsAll l (s.take n)).1:=by
    rw[endsAll_take hn]
    have he:=endsAll_pos (l:=l) (s:=s) (k:=l.length) (Nat.le_refl _)
    rw[List.take_length] at he
    rw[he,Bool.eq_iff_iff]
    simp only[noEmpty,List.all_eq_true,List.mem_map,List.mem_range,decide_eq_true_eq]
    constructor
    . rintro h _ ⟨_,⟨j,hj,rfl⟩,rfl⟩
      obtain⟨x,hx⟩:∃x,(posA l)[j]?=some x:=⟨_,List.getElem?_eq_getElem hj⟩
      have:=h _ (List.mem_of_getElem? (I.parts j x hx))
      simpa[partS] using this
    . intro h p hp
      obtain⟨j,hj,rfl⟩:=List.getElem_of_mem hp
      rw[I.len] at hj
      obtain⟨x,hx⟩:∃x,(posA l)[j]?=some x:=⟨_,List.getElem?_eq_getElem hj⟩
      have h2:=I.parts j x hx
      rw[List.getElem?_eq_getElem (by rw[I.len];exact hj)] at h2
      rw[Option.some.inj h2]
      simpa[partS] using h _ ⟨_,⟨j,hj,rfl⟩,rfl⟩
   have h2:T.bad=!(neverC l (s.take n)).isNone:=by
    rw[I.bad,<-quiet_none,Bool.eq_iff_iff]
    simp only[List.any_eq_true,List.mem_range,neverAt,quiet,quietC,Bool.not_eq_true',hlen,List.all_eq_false,Bool.not_eq_true,Bool.not_eq_false',Bool.and_eq_true]
    constructor
    . rintro⟨e,h1,c,h2,h3,h4⟩
      exact⟨c,h2,e,h1,fun h5=>by rw[endsAt_take hn (by omega),h3,h4] at h5;simp at h5⟩
    . rintro⟨c,h2,e,h1,h3⟩
      rw[endsAt_take hn (by omega)] at h3
      cases h5:c.not with
      |false=>rw[h5] at h3;exact (h3 rfl).elim
      |true=>
       cases h6:endsAt c s e with
       |false=>rw[h6,Bool.and_false] at h3;exact (h3 rfl).elim
       |true=>exact⟨e,h1,c,h2,h5,h6⟩
   simp only[TS.holds,holdsC,h1,h2,Bool.not_not]
 . simp only[TS.nums,keptD]
   apply List.ext_getElem?
   intro j
   by_cases hj:j<(posA l).length
   . obtain⟨x,hx⟩:∃x,(posA l)[j]?=some x:=⟨_,List.getElem?_eq_getElem hj⟩
     rw[List.getElem?_map,I.parts j x hx]
     simp[partS,hj]
   . rw[List.getElem?_eq_none (by simp[I.len];omega),List.getElem?_eq_none (by simp;omega)]
def nextO(l:List Cont):Nat->Nat->Option Nat
 |_,0=>none
 |i,m+1=>match l[i]? with
  |some c=>if c.not then nextO l (i+1) m else some i
  |none=>nextO l (i+1) m
def nextV:Option Nat->Int
 |none=>-1
 |some i=>i
theorem nextO_lt{l:List Cont}{i':Nat}:∀{m i:Nat},nextO l i m=some i'->i'<i+m
 |0,i,h=>by simp[nextO] at h
 |m+1,i,h=>by
  simp only[nextO] at h
  split at h
  . split at h
    . have:=nextO_lt h;omega
    . cases h;omega
  . have:=nextO_lt h;omega
theorem posTo_pre{l:List Cont}{k:Nat}:∀m,∃r,posTo l (k+m)=posTo l k++r
 |0=>⟨[],by simp⟩
 |m+1=>by
  obtain⟨r,hr⟩:=posTo_pre (l:=l) (k:=k) m
  show ∃r,posTo l (k+m+1)=_
  simp only[posTo]
  split
  . split
    . exact⟨r,hr⟩
    . exact⟨r++_,by rw[hr,List.append_assoc]⟩
  . exact⟨r,hr⟩
theorem posTo_at{l:List Cont}{i:Nat}(hi:i<l.length)(hn:l[i].not=false):(posA l)[(posTo l i).length]?=some (i,l[i])/\posTo l (i+1)=posTo l i++[(i,l[i])]:=by
 have h1:posTo l (i+1)=posTo l i++[(i,l[i])]:=by
  simp only[posTo,List.getElem?_eq_getElem hi,hn]
  simp
 obtain⟨r,hr⟩:=posTo_pre (l:=l) (k:=i+1) (l.length-(i+1))
 rw[show i+1+(l.length-(i+1))=l.length by omega,h1] at hr
 refine⟨?_,h1⟩
 show (posTo l l.length)[(posTo l i).length]?=_
 rw[hr]
 simp
theorem posTo_not{l:List Cont}{i:Nat}(hi:i<l.length)(hn:l[i].not=true):posTo l (i+1)=posTo l i:=by
 simp only[posTo,List.getElem?_eq_getElem hi,hn]
 simp
theorem next_pos{l:List Cont}:∀(m i:Nat),i+m=l.length->(posA l)[(posTo l i).length]?=(nextO l i m).bind fun i'=>l[i']?.map fun c=>(i',c)
 |0,i,h=>by
  have:i=l.length:=by omega
  subst this
  simp[nextO]
 |m+1,i,h=>by
  have hi:i<l.length:=by omega
  cases hn:l[i].not with
  |true=>
   rw[<-posTo_not hi hn,next_pos m (i+1) (by omega)]
   simp only[nextO,List.getElem?_eq_getElem hi,hn,if_true]
  |false=>
   rw[(posTo_at hi hn).1]
   simp[nextO,List.getElem?_eq_getElem hi,hn]
theorem nextP_of{l:List Cont}{i:Nat}(hi:i<l.length)(hn:l[i].not=false):nextP (posA l) (posTo l i).length=(nextO l (i+1) (l.length-(i+1))).bind fun i'=>l[i']?:=by
 have h1:=next_pos (l:=l) (l.length-(i+1)) (i+1) (by omega)
 rw[(posTo_at hi hn).2,List.length_append,List.length_singleton] at h1
 simp only[nextP,h1]
 cases nextO l (i+1) (l.length-(i+1)) with
 |none=>rfl
 |some i'=>
  simp only[Option.bind_some]
  cases l[i']?<;>rfl
def keptN(l:List Cont)(t:Txt)(j:Nat):Int:=((keptE (nextP (posA l) j) (((endsAll l t).1[j]?).getD []) t.length).length:Int)
def keptDoc(l:List Cont)(t:Txt):List Int:=(List.range (posA l).length).map (keptN l t)
theorem keptDoc_take{l:List Cont}{s:Txt}{n:Nat}(hn:n<=s.length):keptDoc l (s.take n)=keptD l s n:=by
 have hlen:(s.take n).length=n:=by simp;omega
 have he:=endsAll_pos (l:=l) (s:=s) (k:=l.length) (Nat.le_refl _)
 rw[List.take_length] at he
 simp only[keptDoc,keptD]
 apply List.map_congr_left
 intro j hj
 have hj':=List.mem_range.1 hj
 simp only[keptN,endsAll_take hn,he,hlen]
 simp[hj']
theorem SlC.flds{h:Heap}{v:AV}{l:List Cont}(H:SlC h v l){i:Nat}(hi:i<l.length):
  ∃p:Nat->AV,(∀f,f<8->fieldA Try.prog 52 f (elC v i)=some (p f,.no)) /\
   ∀h',Only (fun _=>False) h h'->aload Try.prog (look h') 9 (p 0)=some (.str l[i].bytes)/\aload Try.prog (look h') 4 (p 1)=some (.bool l[i].nocase)/\aload Try.prog (look h') 4 (p 2)=some (.bool l[i].not)/\aload Try.prog (look h') 4 (p 5)=some (.bool l[i].rel)/\aload Try.prog (look h') 3 (p 6)=some (.int .i64 l[i].distance)/\aload Try.prog (look h') 3 (p 7)=some (.int .i64 l[i].within):=by
 rcases H with⟨rfl,rfl⟩|⟨b,g,c,cs,rfl,h1,h2⟩
 . simp at hi
 . have h3:=h2 i l[i] (List.getElem?_eq_getElem hi)
   have at':∀k,k<8->cs[i*8+k]?=(contCell l[i])[k]?:=by
    intro k hk
    rw[<-h3,List.getElem?_take,if_pos hk,List.getElem?_drop]
   refine⟨fun f=>.ptr (some ⟨b,i*8+f,g⟩),fun f hf=>?_,fun h' ho=>?_⟩
   . have:f=0\/f=1\/f=2\/f=3\/f=4\/f=5\/f=6\/f=7:=by omega
     rcases this with rfl|rfl|rfl|rfl|rfl|rfl|rfl|rfl<;>simp[fieldA,elC]
   . have h4:∀k,AM.row (look h') { b:=b,off:=i*8+k,gen:=g }=some cs:=fun k=>row_only ho h1 id
     simp only[aload,h4]
     have a0:=at' 0 (by omega)
     simp at a0
     simp[a0,at' 1 (by omega),at' 2 (by omega),at' 5 (by omega),at' 6 (by omega),at' 7 (by omega)]
def In121(h:Heap)(v:AV)(l:List Cont)(k:Nat)(m:Nat)(σ:St):Prop:=∃i,m=l.length-i/\i<=l.length/\σ=⟨[(0,v),(5,.int .i64 (i:Nat))],h⟩/\nextO l (k+1) (l.length-(k+1))=nextO l i (l.length-i)
theorem next_run{h:Heap}{v:AV}{l:List Cont}(hv:SlC h v l)(hll:l.length<=1000){k:Nat}(hk:k<l.length):D cfg 121 [v,.int .i64 k] h=some (.int .i64 (nextV (nextO l (k+1) (l.length-(k+1)))),h):=by
 refine D_eq (call121 (R:=fun r h'=>r=_/\h'=_) (by simp) ?_)
 have hvt:v.notTup=true:=by rcases hv with⟨rfl,_⟩|⟨_,_,_,_,rfl,_,_⟩<;>rfl
 have hlen:=fun L=>hv.len (L:=L)
 obtain⟨k1,hk1⟩:∃k1,k+1=k1:=⟨_,rfl⟩
 have hwr:IntKind.wrap .i64 ((k:Int)+1)=k1:=by rw[wrap_i64 (by omega) (by omega)];omega
 simp[-AV.notTup,hvt,c121,c121_r0,c121_r1,hwr]
 refine Wt.loop (In121 h v l k) (m:=l.length-k1) ⟨k1,rfl,by omega,rfl,by rw[hk1]⟩ ?_
 rintro m σ ⟨i,rfl,hi,rfl,hnx⟩
 have hcut:cut (some [0,5]) [(0,v),(5,.int .i64 (i:Int))]=[(0,v),(5,.int .i64 (i:Int))]:=by simp
 simp only[hcut]
 rw[hnx]
 by_cases hil:i<l.length
 . have hil':(i:Int)<l.length:=by omega
   have hwr2:IntKind.wrap .i64 ((i:Int)+1)=i+1:=wrap_i64 (by omega) (by omega)
   have a1:=hv.at hil
   obtain⟨p,pf,pl⟩:=hv.flds hil
   have f2:=pf 2 (by omega)
   obtain⟨_,_,l2,_⟩:=pl h .refl
   have hst:l.length-i=(l.length-(i+1))+1:=by omega
   have hstep:nextO l i (l.length-i)=if l[i].not then nextO l (i+1) (l.length-(i+1)) else some i:=by
    rw[hst];simp only[nextO,List.getElem?_eq_getElem hil]
   cases hn:l[i].not with
   |true=>
    rw[hn] at l2
    rw[hn,if_pos rfl] at hstep
    have hnext:In121 h v l k (l.length-(i+1)) ⟨[(0,v),(5,.int .i64 (i+1:Nat))],h⟩:=⟨i+1,rfl,hil,rfl,hnx.trans hstep⟩
    have pe:(elC v i).notTup=true:=by unfold elC;split<;>rfl
    simp[-AV.notTup,hvt,pe,c121_l2,c121_r2,c121_r3,c121_r4,len1,hlen,hil,hil',a1,f2,l2,hwr2]
    exact⟨l.length-(i+1),by omega,by simpa using hnext⟩
   |false=>
    rw[hn] at l2
    rw[hn,if_neg (by simp)] at hstep
    rw[hstep]
    have pe:(elC v i).notTup=true:=by unfold elC;split<;>rfl
    simp[-AV.notTup,hvt,pe,c121_l2,c121_r2,c121_r4,c121_r5,len1,hlen,hil,hil',a1,f2,l2,nextV]
    try simp[AV.notTup]
 . have hi2:i=l.length:=by omega
   subst hi2
   simp[-AV.notTup,hvt,c121_l2,c121_r2,c121_r6,len1,hlen,nextO,nextV]
   try simp[AV.notTup]
def cntE(E:List Int)(d:Int)(n:Nat)(k:Nat):Nat:=((E.take k).filter fun a=>decide ((n:Int)<a+d)).length
theorem cntE_le{E:List Int}{d:Int}{n k:Nat}:cntE E d n k<=k:=Nat.le_trans (List.length_filter_le _ _) (by simp;omega)
theorem cntE_step{E:List Int}{d:Int}{n k:Nat}(hk:k<E.length):cntE E d n (k+1)=cntE E d n k+if (n:Int)<E[k]+d then 1 else 0:=by
 unfold cntE
 rw[List.take_succ_eq_append_getElem hk,List.filter_append,List.length_append]
 congr 1
 rw[List.filter_cons]
 by_cases h:(n:Int)<E[k]+d
 . rw[if_pos (by simpa using h),if_pos h];rfl
 . rw[if_neg (by simpa using h),if_neg h];rfl
abbrev env107(v:AV)(t:Txt)(all m:AV)(i:Nat):Env:=[(0,v),(1,.str t),(5,all),(6,m),(7,.int .i64 i)]
abbrev env107i(v:AV)(t:Txt)(all m:AV)(i:Nat)(e:AV)(x n k:Nat):Env:=[(0,v),(1,.str t),(5,all),(6,m),(7,.int .i64 i),(8,e),(9,.int .i64 x),(10,.int .i64 n),(11,.int .i64 k)]
def In107i(h:Heap)(v:AV)(t:Txt)(all m:AV)(i:Nat)(e:AV)(x:Nat)(E:List Int)(d:Int)(mm:Nat)(σ:St):Prop:=∃k,mm=E.length-k/\k<=E.length/\σ=⟨env107i v t all m i e x (cntE E d t.length k) k,h⟩
theorem count_loop{h:Heap}{v all m e:AV}{t:Txt}{l:List Cont}{i x:Nat}{E:List Int}(hv:SlC h v l)(hx:x<l.length)(hs:l[x].small)(he:Sl1 h e (intCells E))(hE:∀a∈E,0<=a/\a<=2000000)(hEl:E.length<=1000000)(hn1:all.notTup=true)(hn2:m.notTup=true){Q:AExit->St->Prop}
  (hq:Q (.exit 2) ⟨env107i v t all m i e x (cntE E (l[x].distance+l[x].within) t.length E.length) E.length++[(57,.bool false)],h⟩):
  Wt Try.prog (D cfg) (.loop c107_l13 (some [0,1,5,6,7,8,9,10,11])) ⟨env107i v t all m i e x 0 0,h⟩ Q:=by
 have hvt:v.notTup=true:=by rcases hv with⟨rfl,_⟩|⟨_,_,_,_,rfl,_,_⟩<;>rfl
 have het:e.notTup=true:=by rcases he with⟨rfl,_⟩|⟨_,_,_,_,_,rfl,_,_⟩<;>rfl
 have hlen:=fun L=>he.len (L:=L) (t:=30) (e:=3) (by simp)
 rw[intCells_len] at hlen
 obtain⟨d,hd⟩:∃d,l[x].distance+l[x].within=d:=⟨_,rfl⟩
 rw[hd] at hq
 refine Wt.loop (In107i h v t all m i e x E d) (m:=E.length) ⟨0,rfl,Nat.zero_le _,by simp[cntE]⟩ ?_
 rintro mm σ ⟨k,rfl,hk,rfl⟩
 have hcut:cut (some [0,1,5,6,7,8,9,10,11]) (env107i v t all m i e x (cntE E d t.length k) k)=env107i v t all m i e x (cntE E d t.length k) k:=by simp
 simp only[hcut]
 by_cases hkE:k<E.length
 . have hkE':(k:Int)<E.length:=by omega
   have hic:k<(intCells E).length:=by rw[intCells_len];exact hkE
   have a1:=he.at (t:=30) (e:=3) (by simp) (by simp) hic
   have l1:=he.load (e:=3) (by simp) hic
   have hcell:(intCells E)[k]=.int .i64 E[k]:=by simp[intCells]
   rw[hcell] at l1
   obtain⟨a,ha⟩:∃a,E[k]=a:=⟨_,rfl⟩
   have hab:=hE a (by rw[<-ha];exact List.getElem_mem hkE)
   rw[ha] at l1
   have a2:=hv.at hx
   obtain⟨p,pf,pl⟩:=hv.flds hx
   have f6:=pf 6 (by omega)
   have f7:=pf 7 (by omega)
   obtain⟨_,_,_,_,l6,l7⟩:=pl h .refl
   have hdi:=hs.di
   have hwi:=hs.w
   have w1:IntKind.wrap .i64 (a+l[x].distance)=a+l[x].distance:=wrap_i64 (by omega) (by omega)
   have w2:IntKind.wrap .i64 (a+l[x].distance+l[x].within)=a+d:=by rw[wrap_i64 (by omega) (by omega)];omega
   have hwk:IntKind.wrap .i64 ((k:Int)+1)=k+1:=wrap_i64 (by omega) (by omega)
   have hcl:=cntE_le (E:=E) (d:=d) (n:=t.length) (k:=k)
   have hst:=cntE_step (d:=d) (n:=t.length) hkE
   rw[ha] at hst
   have pe:(elC v x).notTup=true:=by unfold elC;split<;>rfl
   have pe2:(elp e k).notTup=true:=by unfold elp;split<;>rfl
   have hxl:(x:Int)<l.length:=by omega
   by_cases hc:(t.length:Int)<a+d
   . rw[if_pos hc] at hst
     obtain⟨C,hC⟩:∃C,cntE E d t.length k+1=C:=⟨_,rfl⟩
     have hwc:IntKind.wrap .i64 ((cntE E d t.length k:Int)+1)=C:=by rw[wrap_i64 (by omega) (by omega)];omega
     have hnext:In107i h v t all m i e x E d (E.length-(k+1)) ⟨env107i v t all m i e x C (k+1),h⟩:=⟨k+1,rfl,hkE,by rw[hst,hC]⟩
     simp only[env107i] at hnext
     simp[-AV.notTup,hvt,het,hn1,hn2,pe,pe2,c107_l13,c107_r13,c107_r14,c107_r15,c107_r16,len1,hlen,alen9,hkE,hkE',a1,l1,a2,f6,f7,l6,l7,w1,w2,hc,hwc,hwk]
     exact⟨E.length-(k+1),by omega,by simpa using hnext⟩
   . rw[if_neg hc,Nat.add_zero] at hst
     have hnext:In107i h v t all m i e x E d (E.length-(k+1)) ⟨env107i v t all m i e x (cntE E d t.length k) (k+1),h⟩:=⟨k+1,rfl,hkE,by rw[hst];rfl⟩
     simp only[env107i] at hnext
     simp[-AV.notTup,hvt,het,hn1,hn2,pe,pe2,c107_l13,c107_r13,c107_r14,c107_r15,len1,hlen,alen9,hkE,hkE',a1,l1,a2,f6,f7,l6,l7,w1,w2,hc,hwk]
     exact⟨E.length-(k+1),by omega,by simpa using hnext⟩
 . have hk2:k=E.length:=by omega
   subst hk2
   simp only[env107i] at hq
   simp[-AV.notTup,hvt,het,hn1,hn2,c107_l13,c107_r13,len1,hlen]
   simpa using hq
def kmTo(l:List Cont)(t:Txt)(i:Nat):List Int:=(List.range (posTo l i).length).map (keptN l t)
def In107(hE:Heap)(v:AV)(t:Txt)(all:AV)(l:List Cont)(m:Nat)(σ:St):Prop:=
 ∃i bm h,m=l.length-i/\i<=l.length/\σ=⟨env107 v t all (intSl bm (kmTo l t i)) i,h⟩/\(kmTo l t i≠[]->h[bm]?=some (.cells (intCells (kmTo l t i)) 3 true)/\hE.length<=bm)/\Only (fun _=>False) hE h
theorem posTo_len_le{l:List Cont}:∀{k:Nat},(posTo l k).length<=k
 |0=>by simp[posTo]
 |k+1=>by
  have:=posTo_len_le (l:=l) (k:=k)
  simp only[posTo]
  split
  . split
    . omega
    . simp;omega
  . omega
theorem kept_doc{h:Heap}{v:AV}{l:List Cont}{t:Txt}(hv:SlC h v l)(hsm:∀c∈l,c.small)(hll:l.length<=1000)(htl:t.length<=100000):
  ∃r h',D cfg 107 [v,.str t] h=some (r,h')/\Sl1 h' r (intCells (keptDoc l t))/\Only (fun _=>False) h h':=by
 have key:∃r h',D cfg 107 [v,.str t] h=some (r,h')/\(Sl1 h' r (intCells (keptDoc l t))/\Only (fun _=>False) h h'):=by
  refine call107 (R:=fun r h'=>Sl1 h' r (intCells (keptDoc l t))/\Only (fun _=>False) h h') (args:=[v,.str t]) (h:=h) (by simp) ?_
  have hvt:v.notTup=true:=by rcases hv with⟨rfl,_⟩|⟨_,_,_,_,rfl,_,_⟩<;>rfl
  have hlen:=fun L=>hv.len (L:=L)
  obtain⟨hE,B,bs,e1,L1,o1⟩:=ends_doc hv hsm htl hll
  have hpos:=endsAll_pos (l:=l) (s:=t) (k:=l.length) (Nat.le_refl _)
  rw[List.take_length] at hpos
  have hEl:(endsAll l t).1.length=(posA l).length:=by rw[hpos];simp
  obtain⟨_,_,_,ok4⟩:=endsAll_ok (l:=l) (s:=t)
  obtain⟨all,hall⟩:∃all,llSl B bs (endsAll l t).1=all:=⟨_,rfl⟩
  have hat:all.notTup=true:=by rw[<-hall];exact bufSl_notTup
  rw[hall] at e1
  have L2:=fun (h':Heap) (o:Only (fun _=>False) hE h') (i:Nat) (hi:i<(endsAll l t).1.length)=>(L1.same o).get hi
  rw[hall] at L2
  simp[-AV.notTup,hvt,hat,c107,c107_r0,c107_r1,c107_r2,c107_r3,e1]
  refine Wt.loop (In107 hE v t all l) (m:=l.length) ⟨0,0,hE,rfl,Nat.zero_le _,by simp[kmTo,posTo,intSl],fun e=>absurd rfl e,.refl⟩ ?_
  rintro m σ ⟨i,bm,h1,rfl,hi,rfl,hb,oE⟩
  have hcut:cut (some [0,1,5,6,7]) (env107 v t all (intSl bm (kmTo l t i)) i)=env107 v t all (intSl bm (kmTo l t i)) i:=by simp
  simp only[hcut]
  have n1:(intSl bm (kmTo l t i)).notTup=true:=intSl_notTup
  have hkl:(kmTo l t i).length=(posTo l i).length:=by simp[kmTo]
  have hple:=posTo_len_le (l:=l) (k:=i)
  by_cases hil:i<l.length
  . have hil':(i:Int)<l.length:=by omega
    have hwr:IntKind.wrap .i64 ((i:Int)+1)=i+1:=wrap_i64 (by omega) (by omega)
    have hv1:=hv.same (o1.trans oE)
    have a1:=hv.at hil
    obtain⟨p,pf,pl⟩:=hv1.flds hil
    have f2:=pf 2 (by omega)
    obtain⟨_,_,l2,_⟩:=pl h1 .refl
    have pe:(elC v i).notTup=true:=by unfold elC;split<;>rfl
    cases hn:l[i].not with
    |true=>
     rw[hn] at l2
     have hk:kmTo l t (i+1)=kmTo l t i:=by simp only[kmTo,posTo_not hil hn]
     have hnext:In107 hE v t all l (l.length-(i+1)) ⟨env107 v t all (intSl bm (kmTo l t i)) (i+1),h1⟩:=⟨i+1,bm,h1,rfl,hil,by rw[hk],by rw[hk];exact hb,oE⟩
     generalize intSl bm (kmTo l t i)=mv at *
     simp only[env107] at hnext
     simp[-AV.notTup,hvt,hat,n1,pe,c107_l4,c107_r4,c107_r5,c107_r6,len1,hlen,hil,hil',a1,f2,l2,hwr]
     exact⟨l.length-(i+1),by omega,by simpa using hnext⟩
    |false=>
     rw[hn] at l2
     obtain⟨j,hj⟩:∃j,(posTo l i).length=j:=⟨_,rfl⟩
     obtain⟨at1,at2⟩:=posTo_at hil hn
     rw[hj] at at1 hkl hple
     have hjp:j<(posA l).length:=(List.getElem?_eq_some_iff.1 at1).1
     have hjE:j<(endsAll l t).1.length:=by rw[hEl];exact hjp
     obtain⟨E,hEE⟩:∃E,(endsAll l t).1[j]=E:=⟨_,rfl⟩
     obtain⟨b,a3,l3,d3⟩:=L2 h1 oE j hjE
     rw[hEE] at l3 d3
     obtain⟨okE,okl⟩:=ok4 E (by rw[<-hEE];exact List.getElem_mem hjE)
     have hES:Sl1 h1 (intSl b E) (intCells E):=Sl1.ints fun hne=>d3 hne
     have hk:kmTo l t (i+1)=kmTo l t i++[keptN l t j]:=by simp only[kmTo,at2,List.length_append,List.length_singleton,hj,List.range_succ,List.map_append,List.map_singleton]
     have hkn:keptN l t j=((keptE ((nextO l (i+1) (l.length-(i+1))).bind fun i'=>l[i']?) E t.length).length:Int):=by
      have hnp:=nextP_of hil hn
      rw[hj] at hnp
      simp only[keptN,hnp,List.getElem?_eq_getElem hjE,hEE,Option.getD_some]
     have e2:=next_run hv1 hll hil
     have app:∀(val:Nat),(val:Int)=keptN l t j->∃δ h2 b2,append2 Try.prog (look (h1++[AObj.cells [.int .i64 val] 3 true])) (h1.length+1) 30 30 [intSl bm (kmTo l t i),.sl (some ⟨h1.length,0,1⟩) 1 1]=some (intSl b2 (kmTo l t (i+1)),δ)/\Heap.apply (h1++[AObj.cells [.int .i64 val] 3 true]) δ=h2/\In107 hE v t all l (l.length-(i+1)) ⟨env107 v t all (intSl b2 (kmTo l t (i+1))) (i+1),h2⟩:=by
      intro val hval
      obtain⟨δ,h2,g1,g2,g3,g4⟩:=append_int (h:=h1) (b:=bm) (l:=kmTo l t i) (x:=val) (fun hne=>(hb hne).1) (by rw[hkl];omega)
      rw[hval,<-hk] at g1 g3
      rw[<-hval] at g1
      refine⟨δ,h2,_,g1,g2,i+1,_,h2,rfl,hil,rfl,fun _=>⟨g3,?_⟩,oE.fresh g4 fun x hx=>by rw[hx.1];exact (hb hx.2).2⟩
      have:=oE.1
      split
      . omega
      . rename_i hne;exact (hb hne).2
     have hmin:amin [.int .i64 E.length,.int .i64 1]=some (.int .i64 (min E.length 1:Nat)):=by
      simp only[amin,List.foldl,amin1,if_true]
      congr 2
      split<;>omega
     have hjE':(j:Int)<(endsAll l t).1.length:=by omega
     have mlen:∀L,alen Try.prog L 30 (intSl bm (kmTo l t i))=some (.int .i64 j):=fun L=>by rw[intSl_lenA,hkl]
     have elen:∀L,alen Try.prog L 30 (intSl b E)=some (.int .i64 E.length):=fun L=>intSl_lenA
     have n3:(intSl b E).notTup=true:=intSl_notTup
     have pe3:(elp all j).notTup=true:=by unfold elp;split<;>rfl
     cases hnx:nextO l (i+1) (l.length-(i+1)) with
     |none=>
      rw[hnx] at e2 hkn
      have hval:((min E.length 1:Nat):Int)=keptN l t j:=by rw[hkn];simp[keptE,leastOf];omega
      obtain⟨δ,h2,b2,g1,g2,hnext⟩:=app _ hval
      have e2':D cfg 121 [v,.int .i64 i] h1=some (.int .i64 (-1),h1):=e2
      have n4:(intSl b2 (kmTo l t (i+1))).notTup=true:=intSl_notTup
      obtain⟨mn,hmn⟩:∃mn,min E.length 1=mn:=⟨_,rfl⟩
      rw[hmn] at hmin g1 g2
      generalize intSl bm (kmTo l t i)=mv at *
      generalize intSl b2 (kmTo l t (i+1))=mv2 at *
      generalize intSl b E=ev at *
      simp only[env107] at hnext
      simp[-AV.notTup,hvt,hat,n1,n3,n4,pe,pe3,c107_l4,c107_r4,c107_r5,c107_r6,c107_r7,c107_r8,c107_r9,c107_r10,c107_r17,len1,hlen,hil,hil',a1,f2,l2,mlen,a3,l3,e2',elen,hmin,abuildSlice,afill,zeros,g1,g2,hwr]
      exact⟨l.length-(i+1),by omega,by simpa using hnext⟩
     |some x=>
      have hxl:x<l.length:=by have:=nextO_lt hnx;omega
      have hxl':(x:Int)<l.length:=by omega
      rw[hnx] at e2 hkn
      have hlx:l[x]?=some l[x]:=List.getElem?_eq_getElem hxl
      simp only[Option.bind_some,hlx] at hkn
      have e2':D cfg 121 [v,.int .i64 i] h1=some (.int .i64 x,h1):=e2
      have a5:=hv.at hxl
      obtain⟨p',pf',pl'⟩:=hv1.flds hxl
      have f5:=pf' 5 (by omega)
      have f7:=pf' 7 (by omega)
      obtain⟨_,_,_,l5,_,l7⟩:=pl' h1 .refl
      have pe5:(elC v x).notTup=true:=by unfold elC;split<;>rfl
      by_cases hw:relW l[x]=true
      . have hw2:=hw
        simp only[relW,Bool.and_eq_true,decide_eq_true_eq] at hw2
        obtain⟨r1,r2⟩:=hw2
        rw[r1] at l5
        have hval:((cntE E (l[x].distance+l[x].within) t.length E.length:Nat):Int)=keptN l t j:=by
         rw[hkn]
         simp[keptE,leastOf,byOf,hw,cntE]
        obtain⟨δ,h2,b2,g1,g2,hnext⟩:=app _ hval
        have n4:(intSl b2 (kmTo l t (i+1))).notTup=true:=intSl_notTup
        have hxs:=hsm l[x] (List.getElem_mem hxl)
        have hcount:=fun Q hq=>count_loop (Q:=Q) (t:=t) (i:=i) (all:=all) (m:=intSl bm (kmTo l t i)) hv1 hxl hxs hES (fun a ha=>by have:=okE a ha;omega) (by omega) hat n1 hq
        simp only[env107i] at hcount
        obtain⟨cn,hcn⟩:∃cn,cntE E (l[x].distance+l[x].within) t.length E.length=cn:=⟨_,rfl⟩
        rw[hcn] at hcount g1 g2
        generalize intSl bm (kmTo l t i)=mv at *
        generalize intSl b2 (kmTo l t (i+1))=mv2 at *
        generalize intSl b E=ev at *
        simp only[env107] at hnext
        simp[-AV.notTup,hvt,hat,n1,n3,pe,pe3,pe5,c107_l4,c107_r4,c107_r6,c107_r7,c107_r8,c107_r9,c107_r10,c107_r11,c107_r12,len1,hlen,hil,hil',a1,f2,l2,mlen,a3,l3,e2',elen,hmin,a5,hxl,hxl',f5,f7,l5,l7,r2]
        refine hcount _ ?_
        simp[-AV.notTup,hvt,hat,n1,n3,n4,c107_r5,c107_r17,abuildSlice,afill,zeros,g1,g2,hwr]
        exact⟨l.length-(i+1),by omega,by simpa using hnext⟩
      . have hw':relW l[x]=false:=by simpa using hw
        have hval:((min E.length 1:Nat):Int)=keptN l t j:=by rw[hkn];simp[keptE,leastOf,hw'];omega
        obtain⟨δ,h2,b2,g1,g2,hnext⟩:=app _ hval
        have n4:(intSl b2 (kmTo l t (i+1))).notTup=true:=intSl_notTup
        obtain⟨mn,hmn⟩:∃mn,min E.length 1=mn:=⟨_,rfl⟩
        rw[hmn] at hmin g1 g2
        generalize intSl bm (kmTo l t i)=mv at *
        generalize intSl b2 (kmTo l t (i+1))=mv2 at *
        generalize intSl b E=ev at *
        simp only[env107] at hnext
        cases r1:l[x].rel with
        |true=>
         rw[r1] at l5
         have r2:¬(0<l[x].within):=fun h=>by simp[relW,r1,h] at hw'
         simp[-AV.notTup,hvt,hat,n1,n3,n4,pe,pe3,pe5,c107_l4,c107_r4,c107_r5,c107_r6,c107_r7,c107_r8,c107_r9,c107_r10,c107_r17,len1,hlen,hil,hil',a1,f2,l2,mlen,a3,l3,e2',elen,hmin,a5,hxl,hxl',f5,f7,l5,l7,r2,abuildSlice,afill,zeros,g1,g2,hwr]
         exact⟨l.length-(i+1),by omega,by simpa using hnext⟩
        |false=>
         rw[r1] at l5
         simp[-AV.notTup,hvt,hat,n1,n3,n4,pe,pe3,pe5,c107_l4,c107_r4,c107_r5,c107_r6,c107_r7,c107_r8,c107_r9,c107_r10,c107_r17,len1,hlen,hil,hil',a1,f2,l2,mlen,a3,l3,e2',elen,hmin,a5,hxl,hxl',f5,f7,l5,l7,abuildSlice,afill,zeros,g1,g2,hwr]
         exact⟨l.length-(i+1),by omega,by simpa using hnext⟩
  . have hi2:i=l.length:=by omega
    subst hi2
    have hfull:kmTo l t l.length=keptDoc l t:=rfl
    rw[hfull] at hb n1 ⊢
    have hfin:Sl1 h1 (intSl bm (keptDoc l t)) (intCells (keptDoc l t)):=Sl1.ints fun hne=>(hb hne).1
    obtain⟨mv,hmv⟩:∃mv,intSl bm (keptDoc l t)=mv:=⟨_,rfl⟩
    rw[hmv] at n1 hfin ⊢
    simp[-AV.notTup,hvt,hat,n1,c107_l4,c107_r4,c107_r18,len1,hlen]
    exact⟨hfin,o1.trans oE⟩
 obtain⟨r,h',h1,h2,h3⟩:=key
 exact⟨r,h',h1,h2,h3⟩
def In106(h:Heap)(w:AV)(most:Nat)(K:List Int)(m:Nat)(σ:St):Prop:=∃i,m=K.length-i/\i<=K.length/\(K.any (fun k=>decide ((most:Int)<k))=(K.drop i).any fun k=>decide ((most:Int)<k))/\σ=⟨[(1,.int .i64 most),(7,w),(8,.int .i64 i)],h⟩
theorem over_doc{h:Heap}{v:AV}{l:List Cont}{t:Txt}{most:Nat}(hv:SlC h v l)(hsm:∀c∈l,c.small)(hll:l.length<=1000)(htl:t.length<=100000):
  ∃h',D cfg 106 [v,.int .i64 most,.str t] h=some (.bool ((keptDoc l t).any fun k=>decide ((most:Int)<k)),h')/\Only (fun _=>False) h h':=by
 have key:∃r h',D cfg 106 [v,.int .i64 most,.str t] h=some (r,h')/\(r=.bool ((keptDoc l t).any fun k=>decide ((most:Int)<k))/\Only (fun _=>False) h h'):=by
  refine call106 (R:=fun r h'=>r=.bool ((keptDoc l t).any fun k=>decide ((most:Int)<k))/\Only (fun _=>False) h h') (args:=[v,.int .i64 most,.str t]) (h:=h) (by simp) ?_
  have hvt:v.notTup=true:=by rcases hv with⟨rfl,_⟩|⟨_,_,_,_,rfl,_,_⟩<;>rfl
  obtain⟨w,h1,e1,hw,o1⟩:=kept_doc hv hsm hll htl
  have hwt:w.notTup=true:=by rcases hw with⟨rfl,_⟩|⟨_,_,_,_,_,rfl,_,_⟩<;>rfl
  obtain⟨K,hK⟩:∃K,keptDoc l t=K:=⟨_,rfl⟩
  have hKl:K.length<=1000:=by
   rw[<-hK]
   have:(posA l).length<=l.length:=posTo_len_le
   simp only[keptDoc,List.length_map,List.length_range]
   omega
  rw[hK] at hw ⊢
  have hlen:=fun L=>hw.len (L:=L) (t:=30) (e:=3) (by simp)
  rw[intCells_len] at hlen
  simp[-AV.notTup,hvt,hwt,c106,c106_r0,c106_r1,c106_r2,e1]
  refine Wt.loop (In106 h1 w most K) (m:=K.length) ⟨0,rfl,Nat.zero_le _,rfl,rfl⟩ ?_
  rintro m σ ⟨i,rfl,hi,hany,rfl⟩
  have hcut:cut (some [1,7,8]) [(1,.int .i64 (most:Int)),(7,w),(8,.int .i64 (i:Int))]=[(1,.int .i64 (most:Int)),(7,w),(8,.int .i64 (i:Int))]:=by simp
  simp only[hcut]
  by_cases hil:i<K.length
  . have hil':(i:Int)<K.length:=by omega
    have hwr:IntKind.wrap .i64 ((i:Int)+1)=i+1:=wrap_i64 (by omega) (by omega)
    have hic:i<(intCells K).length:=by rw[intCells_len];exact hil
    have a1:=hw.at (t:=30) (e:=3) (by simp) (by simp) hic
    have l1:=hw.load (e:=3) (by simp) hic
    have hcell:(intCells K)[i]=.int .i64 K[i]:=by simp[intCells]
    rw[hcell] at l1
    have pe:(elp w i).notTup=true:=by unfold elp;split<;>rfl
    have hdr:K.drop i=K[i]::K.drop (i+1):=List.drop_eq_getElem_cons hil
    rw[hdr,List.any_cons] at hany
    obtain⟨a,ha⟩:∃a,K[i]=a:=⟨_,rfl⟩
    rw[ha] at l1 hany
    by_cases hc:(most:Int)<a
    . rw[decide_eq_true hc,Bool.true_or] at hany
      simp[-AV.notTup,hwt,pe,c106_l3,c106_r3,c106_r5,c106_r6,len1,hlen,hil,hil',a1,l1,hc]
      try simp[AV.notTup]
      refine⟨?_,o1⟩
      simpa using hany
    . rw[decide_eq_false hc,Bool.false_or] at hany
      have hnext:In106 h1 w most K (K.length-(i+1)) ⟨[(1,.int .i64 most),(7,w),(8,.int .i64 (i+1:Nat))],h1⟩:=⟨i+1,rfl,hil,hany,rfl⟩
      simp[-AV.notTup,hwt,pe,c106_l3,c106_r3,c106_r4,c106_r5,len1,hlen,hil,hil',a1,l1,hc,hwr]
      exact⟨K.length-(i+1),by omega,by simpa using hnext⟩
  . have hi2:i=K.length:=by omega
    subst hi2
    rw[List.drop_length] at hany
    simp[-AV.notTup,hwt,c106_l3,c106_r3,c106_r7,len1,hlen]
    try simp[AV.notTup]
    refine⟨?_,o1⟩
    simpa using hany
 obtain⟨r,h',h1,rfl,h2⟩:=key
 exact⟨h',h1,h2⟩
theorem slB_lt{h:Heap}{v:AV}{xs:List AV}(H:Sl1 h v xs):∀b,slB v=some b->b<h.length:=by
 intro b hb
 rcases H with⟨rfl,_⟩|⟨b',o,g,c,cs,rfl,hr,_⟩
 . simp[slB] at hb
 . simp[slB] at hb
   subst hb
   rcases Nat.lt_or_ge b' h.length with h5|h5
   . exact h5
   . simp[row,look_at,List.getElem?_eq_none h5] at hr
section
def hitCells(l:List (Int×Int)):List AV:=l.flatMap fun p=>[.int .i64 p.1,.int .i64 p.2]
structure HitH (h₀:Heap) (l:List (Int×Int)) (b:Nat) (h:Heap):Prop where
 at_:l.length≠0->h[b]?=some (.cells (hitCells l) 75 true)/\h₀.length<=b
section
variable {h₀:Heap} {sb:Nat} {lv nv:AV} {B:AB} {l:List Txt} {nc:List Bool} {t:Txt} {tab:Nat->Nat->Nat} {fl ob:Nat->Nat} {ou:Nat->List Int}
structure AllI (h₁:Heap) (sb:Nat) (lv nv:AV) (B:AB) (l:List Txt) (nc:List Bool) (w:Txt) (tab:Nat->Nat->Nat) (fl ob:Nat->Nat) (ou:Nat->List Int) (hs:List (Int×Int)) (b:Nat) (h:Heap):Prop where
 sc:ScanX h sb lv nv B l nc w tab fl ob ou
 hit:HitH h₁ hs b h
 only:Only (fun c=>c=sb) h₁ h
end
end
section
section
variable {h:Heap} {v u:AV} {l:List Txt} {nc:List Bool} {t:Txt}
theorem begs_fold_le(hg:bgood l=true)(hl:l.length<=200):(begs (l.map fold)).length<=4096:=by
 have:=bgood_begs (l:=l.map fold) (by rw[bgood_fold];exact hg)
 simp at this
 omega
end
end
theorem fold_takeS{s:Txt}{n:Nat}:fold (s.take n)=(fold s).take n:=by simp[fold,List.map_take]
theorem patAt_hit{p s:Txt}{nc:Bool}{e:Nat}(he:e<=s.length):patAt p nc s e=scHitB nc p (s.take e):=by
 cases nc with
 |false=>rw[patAt_suf he];simp[scHitB]
 |true=>
  rw[Bool.eq_iff_iff]
  simp only[scHitB,if_true,decide_eq_true_eq]
  rw[fold_takeS,suffix_take (by rw[fold_len];exact he),fold_len]
  have e1:List.take p.length (List.drop (e-p.length) (fold s))=fold (List.take p.length (List.drop (e-p.length) s)):=by simp[fold,List.map_take,List.map_drop]
  rw[e1]
  simp only[patAt,he,decide_true,Bool.and_true,Bool.true_and,Bool.and_eq_true,decide_eq_true_eq,Bool.or_eq_true]
  constructor
  . rintro⟨h1,h2|h2⟩
    . exact⟨h1,by rw[h2]⟩
    . exact⟨h1,h2⟩
  . rintro⟨h1,h2⟩
    exact⟨h1,.inr h2⟩
def hd(b:Nat)(all:List (Int×Int))(k:Nat):AV:=if all.length=0 then .sl none 0 0 else .sl (some ⟨b,k*2,all.length*2⟩) (all.length-k) (all.length-k)
structure R7 (h₀ h:Heap) (tb pa nb:Nat) (T:TS) (fl:FL) (b1 b2:Nat) (ps:List Txt) (ns:List Bool):Prop where
 tr:TrackAt h tb pa nb T fl
 only:Only (fun _=>False) h₀ h
 fresh:∀c,trF tb fl c->h₀.length<=c
 p1:ps.length≠0->h[b1]?=some (.cells (strCells ps) 9 true)/\h₀.length<=b1
 p2:ns.length≠0->h[b2]?=some (.cells (boolCells ns) 4 true)/\h₀.length<=b2
theorem append_buf3{t e k:Nat}(ht:tk Try.prog t=.slice e)(hk:tsz Try.prog e=k)(hk0:0<k)(hz:zeroOK Try.prog e=true)(hby:Try.prog.bytesOf e<=100){h:Heap}{b n:Nat}{xs ys:List AV}(hys:ys.length=k)(hxs:xs.length=n*k)
  (hb:n≠0->h[b]?=some (.cells xs e true)) (hn:n<=1000000):
  ∃δ h',append2 Try.prog (look (h++[AObj.cells ys e true])) (h.length+1) t t [bufSl b n xs,.sl (some ⟨h.length,0,k⟩) 1 1]=some (bufSl (if n=0 then h.length+1 else b) (n+1) (xs++ys),δ)/\Heap.apply (h++[AObj.cells ys e true]) δ=h' /\
   h'[if n=0 then h.length+1 else b]?=some (.cells (xs++ys) e true)/\Only (fun c=>c=b/\n≠0) h h'/\((n=0/\∃o,δ=.new o)\/(n≠0/\∃o,δ=.set b o)):=by
 have hsrc:srcCells Try.prog (look (h++[AObj.cells ys e true])) e (.sl (some ⟨h.length,0,k⟩) 1 1)=some (1,ys):=by
  simp[srcCells,slCells,row,hk,hys]
  exact List.take_of_length_le (by omega)
 have hroom:∀m,m<=1000001->m*Try.prog.bytesOf e<=roomMax:=fun m hm=>by
  have:=Nat.mul_le_mul hm hby
  simp only[roomMax]
  omega
 by_cases hn0:n=0
 . subst hn0
   have hxs0:xs=[]:=List.length_eq_zero_iff.1 (by simpa using hxs)
   subst hxs0
   refine⟨.new (.cells ys e true),h++[AObj.cells ys e true]++[AObj.cells ys e true],?_,rfl,?_,?_,.inl ⟨rfl,_,rfl⟩⟩
   . have h1:=hroom 1 (by omega)
     simp only[append2,aappend,ht,hk,hsrc,hk0,if_true,bufSl,aappendE]
     simp at h1
     simp[h1,hz]
   . simp
   . rw[List.append_assoc];exact .app
 . have hb1:=hb hn0
   have hlt:=lt_of_at hb1
   have hb2:(h++[AObj.cells ys e true])[b]?=some (.cells xs e true):=by rw[List.getElem?_append_left hlt];exact hb1
   rw[if_neg hn0]
   refine⟨.set b (.cells (xs++ys) e true),(h++[AObj.cells ys e true]).set b (.cells (xs++ys) e true),?_,rfl,?_,?_,.inr ⟨hn0,_,rfl⟩⟩
   . have h1:=hroom (n+1) (by omega)
     have h2:¬(n+1<=n):=by omega
     have h3:n+1<=9223372036854775807:=by omega
     have h4:xs.take (n*k)=xs:=List.take_of_length_le (by omega)
     simp only[append2,aappend,ht,hk,hsrc,hk0,if_true,bufSl,hn0,if_false,aappendE,look_at,hb2]
     simp[h1,hz,h2,h3,hxs,h4]
   . rw[List.getElem?_set_self (by simp;omega)]
   . exact Only.app.trans (.set ⟨rfl,hn0⟩)
theorem boolSl_nt{b:Nat}{l:List Bool}:(boolSl b l).notTup=true:=bufSl_notTup
theorem txtSl_nt{b:Nat}{l:List Txt}:(txtSl b l).notTup=true:=bufSl_notTup
def In50(h₀:Heap)(v:AV)(n:Nat)(m:Nat)(st:St):Prop:=∃(i:Nat) (s:Txt) (b:Nat) (h:Heap),m=n-i/\i<=n/\s.length=i/\st=⟨[(0,v),(1,.int .i64 n),(5,bufSl b s.length (byteCells s)),(6,.int .i64 i)],h⟩ /\
 (s.length≠0->h[b]?=some (.cells (byteCells s) 5 true)/\h₀.length<=b)/\Only (fun _=>False) h₀ h
theorem tmod_nat{a b:Nat}:((a:Int)).tmod b=((a % b:Nat):Int):=by
 rw[Int.tmod_eq_emod_of_nonneg (by omega)];omega
theorem end50{P:Txt->Prop}{h₀ h:Heap}{v:AV}{n i:Nat}{s:Txt}{b:Nat}(hb:s.length≠0->h[b]?=some (.cells (byteCells s) 5 true)/\h₀.length<=b)(ho:Only (fun _=>False) h₀ h)(hs:P s){ρ:Env}(h5:ρ.get 5=some (bufSl b s.length (byteCells s))):
  Wt Try.prog (D cfg) (.seq (.reg c50_r6 none (some [4])) .ret) ⟨ρ,h⟩ (Ends Try.prog [.tmp 4] fun r h'=>∃s:Txt,r=.str s/\P s/\Only (fun _=>False) h₀ h'):=by
 by_cases h0:s.length=0
 . have:s=[]:=List.length_eq_zero_iff.1 h0
   subst this
   rw[List.length_nil,bufSl_zero] at h5
   have hfin:∃s:Txt,(.str []:AV)=.str s/\P s/\Only (fun _=>False) h₀ h:=⟨[],rfl,hs,ho⟩
   simp[c50_r6,h5,aconv]
   simpa using hfin
 . obtain⟨hb1,_⟩:=hb h0
   have ht:List.take s.length (byteCells s)=byteCells s:=List.take_of_length_le (by rw[byteCells_len];omega)
   have h0':0<s.length:=by omega
   have hfin:∃s':Txt,(.str s:AV)=.str s'/\P s'/\Only (fun _=>False) h₀ h:=⟨s,rfl,hs,ho⟩
   simp only[bufSl,if_neg h0,byteCells_len] at h5
   simp[c50_r6,h5,aconv,slCells,AM.row,hb1,byteCells_len,ht,cellBytes_all]
   simpa using hfin
theorem letters2{h:Heap}{v:AV}{l:List Int}(hv:Sl1 h v (intCells l)){n:Nat}(hn:n<=1000)(hl:l.length<=9223372036854775807):
  ∃(s:Txt) (h':Heap),D cfg 50 [v,.int .i64 n] h=some (.str s,h')/\(s.length<=n/\(l.length≠0->s.length=n))/\Only (fun _=>False) h h':=by
 have key:∃r h',D cfg 50 [v,.int .i64 n] h=some (r,h')/\(∃s:Txt,r=.str s/\(s.length<=n/\(l.length≠0->s.length=n))/\Only (fun _=>False) h h'):=by
  refine call50 (R:=fun r h'=>∃s:Txt,r=.str s/\(s.length<=n/\(l.length≠0->s.length=n))/\Only (fun _=>False) h h') (args:=[v,.int .i64 n]) (h:=h) (by simp) ?_
  have hlen:=fun L=>hv.len (t:=30) (e:=3) (by simp) (L:=L)
  simp only[intCells_len] at hlen
  simp[c50,c50_r0,c50_r1,c50_r2]
  refine Wt.loop (In50 h v n) (m:=n) ⟨0,[],0,h,rfl,Nat.zero_le _,rfl,by simp[bufSl],by simp,.refl⟩ ?_
  rintro m st ⟨i,s,b,h1,rfl,hi,hsi,rfl,hb,ho⟩
  have hcut:cut (some [0,1,5,6]) [(0,v),(1,.int .i64 (n:Int)),(5,bufSl b s.length (byteCells s)),(6,.int .i64 (i:Nat))]=[(0,v),(1,.int .i64 n),(5,bufSl b s.length (byteCells s)),(6,.int .i64 (i:Nat))]:=by simp
  simp only[hcut]
  have hend:=fun (hP:s.length<=n/\(l.length≠0->s.length=n)) ρ h5=>end50 (P:=fun s=>s.length<=n/\(l.length≠0->s.length=n)) (v:=v) (n:=n) (i:=i) hb ho hP (ρ:=ρ) h5
  by_cases hin:i<n
  . have hin':(i:Int)<n:=by omega
    by_cases hl0:l.length=0
    . simp only[hl0] at hlen
      simp[c50_l3,c50_r3,hin,hin',len1,hlen]
      have:=hend ⟨by omega,fun e=>absurd hl0 e⟩ [(0,v),(1,.int .i64 n),(5,bufSl b s.length (byteCells s)),(6,.int .i64 i),(14,.bool false)] (by simp)
      simpa using this
    . have hlp:0<l.length:=by omega
      have hlp':(0:Int)<l.length:=by omega
      have hne:(l.length:Int)≠0:=by omega
      have hwr:IntKind.wrap .i64 ((i:Int)+1)=i+1:=wrap_i64 (by omega) (by omega)
      have hmod:=tmod_nat (a:=i) (b:=l.length)
      have hml:i % l.length<l.length:=Nat.mod_lt _ hlp
      obtain⟨k,hk⟩:∃k,k=i % l.length:=⟨_,rfl⟩
      rw[<-hk] at hmod hml
      have a1:=hv.at (t:=30) (e:=3) (by simp) (by simp) (i:=k) (by rw[intCells_len];exact hml)
      have b1:=(hv.same ho).load (e:=3) (by simp) (i:=k) (by rw[intCells_len];exact hml)
      rw[intCells_get] at b1
      obtain⟨x,hx⟩:∃x,x=l[k]:=⟨_,rfl⟩
      rw[<-hx] at b1
      have p1:=place_run (h:=h1) (v:=x) (n:=1073741824) (by decide) (by decide)
      obtain⟨y,hy⟩:∃y,y=x % 1073741824:=⟨_,rfl⟩
      rw[<-hy] at p1
      have hy0:0<=y/\y<1073741824:=by omega
      have hii:(i:Int)*i<=1000*1000:=Int.mul_le_mul (by omega) (by omega) (by omega) (by omega)
      have hii0:(0:Int)<=(i:Int)*i:=Int.mul_nonneg (by omega) (by omega)
      have hw1:IntKind.wrap .i64 ((i:Int)*i)=(i:Int)*i:=wrap_i64 (by omega) (by omega)
      obtain⟨q,hq⟩:∃q,q=((i:Int)*i).tdiv 3:=⟨_,rfl⟩
      have hq0:0<=q/\q<=1000000:=by
       rw[hq,Int.tdiv_eq_ediv_of_nonneg hii0]
       omega
      have hw2:IntKind.wrap .i64 q=q:=wrap_i64 (by omega) (by omega)
      have hw3:IntKind.wrap .i64 (y+q)=y+q:=wrap_i64 (by omega) (by omega)
      have p2:=place_run (h:=h1) (v:=y+q) (n:=4) (by decide) (by decide)
      obtain⟨z,hz⟩:∃z:Nat,(y+q) % 4=z:=⟨((y+q) % 4).toNat,by omega⟩
      have hz4:z<4:=by omega
      rw[hz] at p2
      obtain⟨c,hc⟩:∃c:UInt8,([97,98,99,65]:List UInt8)[z]?=some c:=⟨_,List.getElem?_eq_getElem (by simpa using hz4)⟩
      obtain⟨δ,h2,e2,e3,e4,o4⟩:=append_byte (h:=h1) (b:=b) (l:=s) (x:=c) (fun hne=>(hb hne).1) (by omega)
      have hnext:In50 h v n (n-(i+1)) ⟨[(0,v),(1,.int .i64 n),(5,bufSl (if s.length=0 then h1.length+1 else b) (s++[c]).length (byteCells (s++[c]))),(6,.int .i64 (i+1:Nat))],h2⟩:=by
       refine⟨i+1,s++[c],_,h2,rfl,hin,by simp[hsi],rfl,fun _=>⟨e4,?_⟩,ho.fresh o4 fun d e=>by rw[e.1];exact (hb e.2).2⟩
       have:=ho.1
       split
       . omega
       . rename_i hne;exact (hb hne).2
      have h3n:(3:Int)≠0:=by decide
      simp only[List.length_append,List.length_singleton] at e2 hnext
      simp[c50_l3,c50_r3,c50_r4,c50_r5,hin,hin',len1,hlen,hlp,hlp',abin_rem,hne,hl0,hmod,a1,b1,p1,hw1,abin_quo,<-hq,hw2,hw3,p2,aindex,hc,abuildSlice,afill,zeros,e2,e3,hwr]
      exact⟨n-(i+1),by omega,by simpa using hnext⟩
  . have hin':¬((i:Int)<n):=by omega
    simp[c50_l3,c50_r3,hin,hin']
    have:=hend ⟨by omega,fun _=>by omega⟩ [(0,v),(1,.int .i64 n),(5,bufSl b s.length (byteCells s)),(6,.int .i64 i),(14,.bool false)] (by simp)
    simpa using this
 obtain⟨r,h',h1,s,rfl,h2⟩:=key
 exact⟨s,h',h1,h2⟩
theorem letters{h:Heap}{v:AV}{l:List Int}(hv:Sl1 h v (intCells l)){n:Nat}(hn:n<=1000)(hl:l.length<=9223372036854775807):
  ∃(s:Txt) (h':Heap),D cfg 50 [v,.int .i64 n] h=some (.str s,h')/\s.length<=n/\Only (fun _=>False) h h':=by
 obtain⟨s,h',h1,h2,h3⟩:=letters2 hv hn hl
 exact⟨s,h',h1,h2.1,h3⟩
def c49_sw:SC:=(.block 4 (.seq (.reg c49_r13 none (some [0,3,4,5,6,7,9,59])) (.cond (.tmp 59) (.reg c49_r14 none (some [0,3,4,6])) (.seq (.reg c49_r15 none (some [0,3,4,5,6,9,63])) (.cond (.tmp 63) (.seq (.reg c49_r16 none (some [0,3,4,5,6])) (.seq (.reg c49_r17 none (some [0,3,4,5,6])) (.seq (.reg c49_r18 none (some [0,3,4,5,6,78])) (.cond (.tmp 78) (.reg c49_r19 none (some [0,3,4,6])) .skip (some [0,3,4,6]))))) (.seq (.reg c49_r20 none (some [0,3,4,5,6,9,87])) (.cond (.tmp 87) (.reg c49_r21 none (some [0,3,4,6])) (.seq (.reg c49_r22 none (some [0,3,4,5,6,94])) (.cond (.tmp 94) (.reg c49_r23 none (some [0,3,4,6])) .skip (some [0,3,4,6]))) (some [0,3,4,6]))) (some [0,3,4,6]))) (some [0,3,4,6]))))
theorem c49_l3_eq:c49_l3=(.seq (.seq (.reg c49_r3 none (some [0,3,4,17])) (.cond (.tmp 17) .skip (.exit 0) (some [0,3,4]))) (.seq (.block 1 (.seq (.reg c49_r5 none (some [0,3,4,5])) (.seq (.reg c49_r6 none (some [0,3,4,5,6])) (.seq (.reg c49_r7 none (some [0,3,4,5,6,7])) (.seq (.seq (.reg c49_r8 none (some [0,3,4,5,6,7,8])) (.block 2 (.loop c49_l9 (some [0,3,4,5,6,7,8])))) (.seq (.seq (.reg c49_r12 none (some [0,3,4,5,6,7,9])) c49_sw) (.reg c49_r24 none (some [0,3,4])))))))) (.reg c49_r4 none (some [0,3,4])))):=rfl
theorem div_fact{a n:Int}(ha:0<=a)(hn:0<n):0<=a.tdiv n/\a.tdiv n<=a:=by
 rw[Int.tdiv_eq_ediv_of_nonneg ha]
 exact⟨Int.ediv_nonneg ha (by omega),Int.ediv_le_self _ ha⟩
theorem mod_fact{a n:Int}(ha:0<=a)(hn:0<n):0<=a.tmod n/\a.tmod n<n:=by
 rw[Int.tmod_eq_emod_of_nonneg ha]
 exact⟨Int.emod_nonneg _ (by omega),Int.emod_lt_of_pos _ hn⟩
abbrev baseC(s:Txt)(nc:Bool):Cont:=⟨s,nc,false,0,0,false,0,0⟩
theorem switch49{h:Heap}{v m:AV}{i bc:Nat}{x w:Int}{plain nc:Bool}{s:Txt}(hb:h[bc]?=some (.cells (contCell (baseC s nc)) 52 false))(hx:0<=x/\x<16777216)(hw:0<=w/\w<8)(hs:s.length<=3){Q:AExit->St->Prop}
  (hq:∀c':Cont,c'.small->c'.bytes=s->∀h',h'[bc]?=some (.cells (contCell c') 52 false)->Only (fun b=>b=bc) h h'->Q .normal ⟨[(0,v),(3,m),(4,.int .i64 i),(6,.ptr (some ⟨bc,0,8⟩))],h'⟩):
  Wt Try.prog (D cfg) c49_sw ⟨[(0,v),(3,m),(4,.int .i64 i),(5,.int .i64 x),(6,.ptr (some ⟨bc,0,8⟩)),(7,.bool plain),(9,.int .i64 w)],h⟩ Q:=by
 have hl:=lt_of_at hb
 have g72:=div_fact hx.1 (n:=72) (by decide)
 have g576:=div_fact hx.1 (n:=576) (by decide)
 have g1152:=div_fact hx.1 (n:=1152) (by decide)
 obtain⟨d72,e72⟩:∃d,d=x.tdiv 72:=⟨_,rfl⟩
 obtain⟨d576,e576⟩:∃d,d=x.tdiv 576:=⟨_,rfl⟩
 obtain⟨d1152,e1152⟩:∃d,d=x.tdiv 1152:=⟨_,rfl⟩
 rw[<-e72] at g72
 rw[<-e576] at g576
 rw[<-e1152] at g1152
 have w72:IntKind.wrap .i64 d72=d72:=wrap_i64 (by omega) (by omega)
 have w576:IntKind.wrap .i64 d576=d576:=wrap_i64 (by omega) (by omega)
 have w1152:IntKind.wrap .i64 d1152=d1152:=wrap_i64 (by omega) (by omega)
 have m8:=mod_fact g72.1 (n:=8) (by decide)
 have m5:=mod_fact g72.1 (n:=5) (by decide)
 have m9:=mod_fact g72.1 (n:=9) (by decide)
 have m6:=mod_fact g1152.1 (n:=6) (by decide)
 have wm8:IntKind.wrap .i64 (d72.tmod 8-3)=d72.tmod 8-3:=wrap_i64 (by omega) (by omega)
 have wm9:IntKind.wrap .i64 ((s.length:Int)+d72.tmod 9)=s.length+d72.tmod 9:=wrap_i64 (by omega) (by omega)
 have wm6:IntKind.wrap .i64 ((s.length:Int)+d1152.tmod 6)=s.length+d1152.tmod 6:=wrap_i64 (by omega) (by omega)
 have put:∀c':Cont,c'.small->c'.bytes=s->Q .normal ⟨[(0,v),(3,m),(4,.int .i64 i),(6,.ptr (some ⟨bc,0,8⟩))],h.set bc (.cells (contCell c') 52 false)⟩   := fun c' hc' hcb=>
  hq c' hc' hcb _ (List.getElem?_set_self hl) (.set rfl)
 have keep:Q .normal ⟨[(0,v),(3,m),(4,.int .i64 i),(6,.ptr (some ⟨bc,0,8⟩))],h⟩:=hq (baseC s nc) ⟨by simp;omega,by simp,by simp,by simp,by simp⟩ rfl h hb .refl
 by_cases h0:w=0
 . have:=put ⟨s,nc,true,0,0,false,0,0⟩ ⟨by simp;omega,by simp,by simp,by simp,by simp⟩
   simp[c49_sw,c49_r13,c49_r14,h0,fieldA,astore,hb]
   simpa using this
 . have tail:w<4->plain=true->Wt Try.prog (D cfg) c49_sw ⟨[(0,v),(3,m),(4,.int .i64 i),(5,.int .i64 x),(6,.ptr (some ⟨bc,0,8⟩)),(7,.bool plain),(9,.int .i64 w)],h⟩ Q:=by
    intro h4 hp
    by_cases h2:d576.tmod 2=0
    . have:=put ⟨s,nc,false,0,0,true,d72.tmod 8-3,s.length+d1152.tmod 6⟩ ⟨by simp;omega,by simp,by simp,by simp;omega,by simp;omega⟩
      simp[c49_sw,c49_r13,c49_r14,c49_r15,c49_r16,c49_r17,c49_r18,c49_r19,h0,h4,hp,fieldA,astore,aload,AM.row,hb,at_put,abin_quo,abin_rem,<-e72,<-e576,<-e1152,w72,w576,w1152,wm8,wm6,h2,len1,alenS]
      simpa using this
    . have:=put ⟨s,nc,false,0,0,true,d72.tmod 8-3,0⟩ ⟨by simp;omega,by simp,by simp,by simp;omega,by simp⟩
      simp[c49_sw,c49_r13,c49_r14,c49_r15,c49_r16,c49_r17,c49_r18,c49_r19,h0,h4,hp,fieldA,astore,aload,AM.row,hb,at_put,abin_quo,abin_rem,<-e72,<-e576,<-e1152,w72,w576,w1152,wm8,wm6,h2,len1,alenS]
      simpa using this
   have rest:¬(w<4/\plain=true)->Wt Try.prog (D cfg) c49_sw ⟨[(0,v),(3,m),(4,.int .i64 i),(5,.int .i64 x),(6,.ptr (some ⟨bc,0,8⟩)),(7,.bool plain),(9,.int .i64 w)],h⟩ Q:=by
    intro hno
    by_cases h4:w<4
    . cases plain with
      |true=>exact absurd ⟨h4,rfl⟩ hno
      |false=>
       have n4:¬(w=4):=by omega
       have n5:¬(w=5):=by omega
       simp[c49_sw,c49_r13,c49_r14,c49_r15,c49_r20,c49_r21,c49_r22,c49_r23,h0,fieldA,astore,aload,AM.row,hb,at_put,abin_quo,abin_rem,<-e72,w72,wm9,len1,alenS,h4,n4,n5]
       simpa using keep
    . by_cases h44:w=4
      . have:=put ⟨s,nc,false,d72.tmod 5,0,false,0,0⟩ ⟨by simp;omega,by simp;omega,by simp,by simp,by simp⟩
        simp[c49_sw,c49_r13,c49_r14,c49_r15,c49_r20,c49_r21,c49_r22,c49_r23,h0,fieldA,astore,aload,AM.row,hb,at_put,abin_quo,abin_rem,<-e72,w72,wm9,len1,alenS,h44]
        simpa using this
      . by_cases h5:w=5
        . have:=put ⟨s,nc,false,0,s.length+d72.tmod 9,false,0,0⟩ ⟨by simp;omega,by simp,by simp;omega,by simp,by simp⟩
          simp[c49_sw,c49_r13,c49_r14,c49_r15,c49_r20,c49_r21,c49_r22,c49_r23,h0,fieldA,astore,aload,AM.row,hb,at_put,abin_quo,abin_rem,<-e72,w72,wm9,len1,alenS,h5]
          simpa using this
        . simp[c49_sw,c49_r13,c49_r14,c49_r15,c49_r20,c49_r21,c49_r22,c49_r23,h0,fieldA,astore,aload,AM.row,hb,at_put,abin_quo,abin_rem,<-e72,w72,wm9,len1,alenS,h4,h44,h5]
          simpa using keep
   by_cases hc:w<4/\plain=true
   . exact tail hc.1 hc.2
   . exact rest hc
end Go.AM


/-
  What the law VerdictPlays stands on,part 5.
-/
import Derived.Test.YtamidpfdiijjgaaPW27d
namespace Go.AM
open Go Go.Proofs Go.RowKit
set_option linter.unusedVariables false
set_option linter.unusedSimpArgs false
set_option maxRecDepth 100000
abbrev contSl(b:Nat)(zs:List Cont):AV:=bufSl b zs.length (zs.flatMap contCell)
theorem flat_len{l:List Cont}:(l.flatMap contCell).length=l.length*8:=by
 induction l with
 |nil=>rfl
 |cons c r ih=>simp only[List.flatMap_cons,List.length_append,ih,List.length_cons];simp[contCell];omega
theorem SlC.buf{h:Heap}{b:Nat}{zs:List Cont}(hb:zs.length≠0->h[b]?=some (.cells (zs.flatMap contCell) 52 true)):SlC h (contSl b zs) zs:=by
 by_cases hz:zs.length=0
 . have:zs=[]:=List.length_eq_zero_iff.1 hz
   subst this
   exact .inl ⟨by simp[bufSl],rfl⟩
 . have hne:zs≠[]:=fun e=>hz (by rw[e];rfl)
   have:=SlC.cells hne (hb hz)
   simp only[bufSl,if_neg hz,flat_len]
   exact this
theorem build_cont{n:Nat}{c:Cont}:abuildSlice Try.prog n 42 1 [(0,c.av)]=some (.sl (some ⟨n,0,8⟩) 1 1,.new (.cells (contCell c) 52 true)):=by
 simp[abuildSlice,afill,zeros,splice]
theorem append_cont{h:Heap}{b:Nat}{zs:List Cont}{c:Cont}(hb:zs.length≠0->h[b]?=some (.cells (zs.flatMap contCell) 52 true))(hn:zs.length<=1000000):
  ∃δ h',append2 Try.prog (look (h++[AObj.cells (contCell c) 52 true])) (h.length+1) 42 42 [contSl b zs,.sl (some ⟨h.length,0,8⟩) 1 1]=some (contSl (if zs.length=0 then h.length+1 else b) (zs++[c]),δ)/\Heap.apply (h++[AObj.cells (contCell c) 52 true]) δ=h' /\
   h'[if zs.length=0 then h.length+1 else b]?=some (.cells ((zs++[c]).flatMap contCell) 52 true)/\Only (fun x=>x=b/\zs.length≠0) h h':=by
 obtain⟨δ,h',h1,h2,h3,h4⟩:=append_buf (t:=42) (e:=52) (k:=8) (by simp) (by simp) (by decide) (by simp) (by simp) (h:=h) (b:=b) (n:=zs.length) (xs:=zs.flatMap contCell) (ys:=contCell c) (by simp[contCell]) flat_len hb hn
 have e:zs.flatMap contCell++contCell c=(zs++[c]).flatMap contCell:=by simp
 rw[e] at h1 h3
 refine⟨δ,h',?_,h2,h3,h4⟩
 rw[h1]
 simp[contSl]
abbrev env49(v m:AV)(i:Nat)(x:Int)(bc:Nat)(p:Bool)(k:Nat):Env:=[(0,v),(3,m),(4,.int .i64 i),(5,.int .i64 x),(6,.ptr (some ⟨bc,0,8⟩)),(7,.bool p),(8,.int .i64 k)]
def In49(v m:AV)(i:Nat)(x:Int)(bc:Nat)(zs:List Cont)(h:Heap)(mm:Nat)(st:St):Prop:=∃(k:Nat) (p:Bool),mm=zs.length-k/\k<=zs.length/\st=⟨env49 v m i x bc p k,h⟩
theorem plain_loop{h:Heap}{v m:AV}{i bc:Nat}{x:Int}{zs:List Cont}(hm:SlC h m zs)(hz:zs.length<=1000){Q:AExit->St->Prop}(hq:∀(p:Bool) (k:Nat),Q (.exit 2) ⟨env49 v m i x bc p k++[(44,.bool false)],h⟩):
  Wt Try.prog (D cfg) (.loop c49_l9 (some [0,3,4,5,6,7,8])) ⟨env49 v m i x bc false 0,h⟩ Q:=by
 have hlen:=fun L=>hm.len (L:=L)
 refine Wt.loop (In49 v m i x bc zs h) (m:=zs.length) ⟨0,false,rfl,Nat.zero_le _,rfl⟩ ?_
 rintro mm st ⟨k,p,rfl,hk,rfl⟩
 have hcut:cut (some [0,3,4,5,6,7,8]) (env49 v m i x bc p k)=env49 v m i x bc p k:=by simp
 simp only[hcut]
 by_cases hkz:k<zs.length
 . have hkz':(k:Int)<zs.length:=by omega
   have hwr:IntKind.wrap .i64 ((k:Int)+1)=k+1:=wrap_i64 (by omega) (by omega)
   cases p with
   |true=>
    have hnext:In49 v m i x bc zs h (zs.length-(k+1)) ⟨env49 v m i x bc true (k+1),h⟩:=⟨k+1,true,rfl,hkz,rfl⟩
    simp only[env49] at hnext
    simp[c49_l9,c49_r9,c49_r10,c49_r11,len1,hlen,hkz,hkz',hwr]
    exact⟨zs.length-(k+1),by omega,by simpa using hnext⟩
   |false=>
    have a1:=hm.at hkz
    obtain⟨p2,p5,f2,_,ff⟩:=hm.fields hkz
    have f6:=(ff h .refl).1
    have hnext:In49 v m i x bc zs h (zs.length-(k+1)) ⟨env49 v m i x bc (!zs[k].not) (k+1),h⟩:=⟨k+1,_,rfl,hkz,rfl⟩
    simp only[env49] at hnext
    simp[c49_l9,c49_r9,c49_r10,c49_r11,len1,hlen,hkz,hkz',hwr,a1,f2,f6]
    exact⟨zs.length-(k+1),by omega,by simpa using hnext⟩
 . have hkz':¬((k:Int)<zs.length):=by omega
   have hn:=hq p k
   simp only[env49] at hn
   simp[c49_l9,c49_r9,len1,hlen,hkz,hkz']
   simpa using hn
def Cont.few(c:Cont):Prop:=c.small/\1<=c.bytes.length/\c.bytes.length<=3
def Out49(h₀:Heap)(v:AV)(l:List Int)(mm:Nat)(st:St):Prop:=∃(zs:List Cont) (bm:Nat) (h:Heap),mm=l.length-zs.length/\zs.length<=l.length/\zs.length<=3/\(∀c∈zs,c.few) /\
 st=⟨[(0,v),(3,contSl bm zs),(4,.int .i64 (zs.length:Nat))],h⟩/\(zs.length≠0->h[bm]?=some (.cells (zs.flatMap contCell) 52 true)/\h₀.length<=bm)/\Only (fun _=>False) h₀ h
theorem round49{h₀ h:Heap}{v:AV}{l:List Int}{zs:List Cont}{bm:Nat}(hv:Sl1 h₀ v (intCells l))(hi:zs.length<l.length)(h3:zs.length<3)(hsm:∀c∈zs,c.few)(hb:zs.length≠0->h[bm]?=some (.cells (zs.flatMap contCell) 52 true)/\h₀.length<=bm)(ho:Only (fun _=>False) h₀ h)
  {Q:AExit->St->Prop} (hq:∀st,Out49 h₀ v l (l.length-(zs.length+1)) st->Q .normal st):
  Wt Try.prog (D cfg) c49_l3 ⟨[(0,v),(3,contSl bm zs),(4,.int .i64 (zs.length:Nat))],h⟩ Q:=by
 obtain⟨i,hii⟩:∃i,i=zs.length:=⟨_,rfl⟩
 have hlen:=fun L=>hv.len (t:=30) (e:=3) (by simp) (L:=L)
 simp only[intCells_len] at hlen
 have hil:(i:Int)<l.length:=by omega
 have hi':i<l.length:=by omega
 have hi3:(i:Int)<3:=by omega
 have hi3':i<3:=by omega
 have hwr:IntKind.wrap .i64 ((i:Int)+1)=i+1:=wrap_i64 (by omega) (by omega)
 have a1:=hv.at (t:=30) (e:=3) (by simp) (by simp) (i:=i) (by rw[intCells_len];exact hi')
 have b1:=(hv.same ho).load (e:=3) (by simp) (i:=i) (by rw[intCells_len];exact hi')
 rw[intCells_get] at b1
 have p1:=place_run (h:=h) (v:=l[i]) (n:=16777216) (by decide) (by decide)
 obtain⟨x,hx⟩:∃x,x=l[i] % 16777216:=⟨_,rfl⟩
 rw[<-hx] at p1
 have hx0:0<=x/\x<16777216:=by omega
 have g7:=div_fact hx0.1 (n:=7) (by decide)
 have g31:=div_fact hx0.1 (n:=31) (by decide)
 have g101:=div_fact hx0.1 (n:=101) (by decide)
 have g3:=div_fact hx0.1 (n:=3) (by decide)
 have g9:=div_fact hx0.1 (n:=9) (by decide)
 have m3:=mod_fact hx0.1 (n:=3) (by decide)
 have m8:=mod_fact g9.1 (n:=8) (by decide)
 have w7:IntKind.wrap .i64 (x.tdiv 7)=x.tdiv 7:=wrap_i64 (by omega) (by omega)
 have w31:IntKind.wrap .i64 (x.tdiv 31)=x.tdiv 31:=wrap_i64 (by omega) (by omega)
 have w101:IntKind.wrap .i64 (x.tdiv 101)=x.tdiv 101:=wrap_i64 (by omega) (by omega)
 have w3:IntKind.wrap .i64 (x.tdiv 3)=x.tdiv 3:=wrap_i64 (by omega) (by omega)
 have w9:IntKind.wrap .i64 (x.tdiv 9)=x.tdiv 9:=wrap_i64 (by omega) (by omega)
 have wm:IntKind.wrap .i64 (1+x.tmod 3)=1+x.tmod 3:=wrap_i64 (by omega) (by omega)
 obtain⟨nn,hnn⟩:∃nn:Nat,1+x.tmod 3=nn:=⟨(1+x.tmod 3).toNat,by omega⟩
 have hnn3:nn<=3:=by omega
 rw[hnn] at wm
 obtain⟨h2,hh2⟩:∃h2,h2=h++[.cells [.int .i64 (x.tdiv 7),.int .i64 (x.tdiv 31),.int .i64 (x.tdiv 101)] 3 true]:=⟨_,rfl⟩
 have o2:Only (fun _=>False) h h2:=by rw[hh2];exact .app
 have sl:Sl1 h2 (.sl (some ⟨h.length,0,3⟩) 3 3) (intCells [x.tdiv 7,x.tdiv 31,x.tdiv 101]):=Sl1.cells (xs:=intCells [x.tdiv 7,x.tdiv 31,x.tdiv 101]) (e:=3) (s:=true) (by rw[hh2];simp[intCells])
 obtain⟨s,h4,e4,hs,o4⟩:=letters2 sl (n:=nn) (by omega) (by simp)
 obtain⟨nc,hnc⟩:∃nc,nc=decide ((x.tdiv 3).tmod 3=0):=⟨_,rfl⟩
 obtain⟨h5,hh5⟩:∃h5,h5=h4++[.cells (contCell (baseC s nc)) 52 false]:=⟨_,rfl⟩
 have o5:Only (fun _=>False) h4 h5:=by rw[hh5];exact .app
 have hb5:h5[h4.length]?=some (.cells (contCell (baseC s nc)) 52 false):=by rw[hh5];simp
 have oh5:=(o2.trans o4).trans o5
 have hm5:SlC h5 (contSl bm zs) zs:=SlC.buf fun hne=>oh5.at (hb hne).1 id
 have hpl:=fun Q hq=>plain_loop (Q:=Q) (v:=v) (i:=i) (bc:=h4.length) (x:=x) hm5 (by omega) hq
 have hsw:=fun (p:Bool) Q hq=>switch49 (Q:=Q) (v:=v) (m:=contSl bm zs) (i:=i) (bc:=h4.length) (x:=x) (w:=(x.tdiv 9).tmod 8) (plain:=p) (nc:=nc) (s:=s) hb5 hx0 m8 (by omega) hq
 have hl4:h.length+1<=h4.length:=by have:=(o4).1;rw[hh2] at this;simp at this;omega
 rw[c49_l3_eq]
 rw[<-hii]
 simp only[env49,List.cons_append,List.nil_append] at hpl
 rw[show ((0:Nat):Int)=0 from rfl] at hpl
 have hnc':contCell (baseC s nc)=[.str s,.bool nc,.bool false,.int .i64 0,.int .i64 0,.bool false,.int .i64 0,.int .i64 0]:=rfl
 rw[hnc',hnc] at hh5
 simp[c49_r3,c49_r5,c49_r6,c49_r7,c49_r8,len1,hlen,hil,hi',hi3,hi3',a1,b1,p1,abin_quo,abin_rem,w7,w31,w101,w3,hnn,wm,abuildSlice,afill,zeros,splice,<-hh2,e4,abuild,astore,<-hh5]
 refine hpl _ fun p k=>?_
 simp[c49_r12,abin_quo,abin_rem,w9]
 refine hsw p _ fun c' hc' hcb h6 hb6 o6=>?_
 have cl:=contLoads hb6
 have hne6:zs.length≠0->h6[bm]?=some (.cells (zs.flatMap contCell) 52 true):=fun hne=>o6.at (oh5.at (hb hne).1 id) (by have:=lt_of_at (hb hne).1;omega)
 obtain⟨δ,h7,e7,e8,e9,o7⟩:=append_cont (h:=h6) (b:=bm) (zs:=zs) (c:=c') hne6 (by omega)
 have hln:(zs++[c']).length=zs.length+1:=by simp
 have oh6:Only (fun _=>False) h₀ h6:=(ho.trans oh5).fresh o6 fun b hbc=>by have:=ho.1;omega
 have hnext:Out49 h₀ v l (l.length-(zs.length+1)) ⟨[(0,v),(3,contSl (if zs.length=0 then h6.length+1 else bm) (zs++[c'])),(4,.int .i64 ((zs++[c']).length:Nat))],h7⟩:=by
  refine⟨zs++[c'],_,h7,by rw[hln],by rw[hln];omega,by rw[hln];omega,fun d hd=>?_,rfl,fun _=>⟨e9,?_⟩,oh6.fresh o7 fun b e=>by rw[e.1];exact (hb e.2).2⟩
  . simp at hd
    rcases hd with hd|rfl
    . exact hsm d hd
    . exact⟨hc',by rw[hcb];have:=hs.2 (by simp);omega⟩
  . have:=oh6.1
    split
    . omega
    . rename_i hne;exact (hb hne).2
 have hfin:=hq _ hnext
 rw[hln,<-hii] at hfin
 rw[<-hii] at e7
 simp[c49_r24,c49_r4,cl,build_cont,e7,e8,hwr]
 simpa using hfin
theorem contents2{h:Heap}{v:AV}{l:List Int}(hv:Sl1 h v (intCells l))(hl:l.length<=1000000):
  ∃(zs:List Cont) (v':AV) (h':Heap),D cfg 49 [v] h=some (v',h')/\SlC h' v' zs/\(∀c∈zs,c.few)/\zs.length<=3/\Only (fun _=>False) h h':=by
 have key:∃r h',D cfg 49 [v] h=some (r,h')/\(∃zs:List Cont,SlC h' r zs/\(∀c∈zs,c.few)/\zs.length<=3/\Only (fun _=>False) h h'):=by
  refine call49 (R:=fun r h'=>∃zs:List Cont,SlC h' r zs/\(∀c∈zs,c.few)/\zs.length<=3/\Only (fun _=>False) h h') (args:=[v]) (h:=h) (by simp) ?_
  have hlen:=fun L=>hv.len (t:=30) (e:=3) (by simp) (L:=L)
  simp only[intCells_len] at hlen
  simp[c49,c49_r0,c49_r1,c49_r2]
  refine Wt.loop (Out49 h v l) (m:=l.length) ⟨[],0,h,rfl,Nat.zero_le _,by simp,by simp,by simp[bufSl],by simp,.refl⟩ ?_
  rintro mm st ⟨zs,bm,h1,rfl,hzl,hz3,hsm,rfl,hb,ho⟩
  have hcut:cut (some [0,3,4]) [(0,v),(3,contSl bm zs),(4,.int .i64 (zs.length:Nat))]=[(0,v),(3,contSl bm zs),(4,.int .i64 (zs.length:Nat))]:=by simp
  simp only[hcut]
  by_cases hgo:zs.length<l.length/\zs.length<3
  . refine round49 hv hgo.1 hgo.2 hsm hb ho fun st hst=>⟨_,?_,hst⟩
    omega
  . have hsl:SlC h1 (contSl bm zs) zs:=SlC.buf fun hne=>(hb hne).1
    have hfin:∃zs':List Cont,SlC h1 (contSl bm zs) zs'/\(∀c∈zs',c.few)/\zs'.length<=3/\Only (fun _=>False) h h1:=⟨zs,hsl,hsm,hz3,ho⟩
    obtain⟨out,hout⟩:∃out,out=contSl bm zs:=⟨_,rfl⟩
    have hnt:AV.notTup out=true:=by rw[hout];exact bufSl_nt
    rw[<-hout] at hfin ⊢
    by_cases hil:zs.length<l.length
    . have hil':(zs.length:Int)<l.length:=by omega
      have h3:¬(zs.length<3):=fun h=>hgo ⟨hil,h⟩
      have h3':¬((zs.length:Int)<3):=by omega
      simp[c49_l3,c49_r3,c49_r25,len1,hlen,hil,hil',h3,h3']
      exact⟨hnt,hfin⟩
    . have hil':¬((zs.length:Int)<l.length):=by omega
      simp[c49_l3,c49_r3,c49_r25,len1,hlen,hil,hil']
      exact⟨hnt,hfin⟩
 obtain⟨r,h',h1,zs,h2,h3,h4,h5⟩:=key
 exact⟨zs,r,h',h1,h2,h3,h4,h5⟩
section
abbrev Itm:=(Nat×Nat)×Cont
def ctI(it:List Itm):List (Nat×Nat):=it.map fun x=>x.1
def plI(it:List Itm):List Txt:=it.map fun x=>x.2.bytes
def ncI(it:List Itm):List Bool:=it.map fun x=>x.2.nocase
theorem ctI_len{it:List Itm}:(ctI it).length=it.length:=by simp[ctI]
theorem plI_len{it:List Itm}:(plI it).length=it.length:=by simp[plI]
theorem ncI_len{it:List Itm}:(ncI it).length=it.length:=by simp[ncI]
theorem ctC_grow{P Q:List AV}:∀{ct:List (Nat×Nat)},(∀x∈ct,x.1<P.length)->ctC (P++Q) ct=ctC P ct
 |[],_=>rfl
 |x::ct,h=>by
  have ih:=ctC_grow (P:=P) (Q:=Q) (ct:=ct) fun y hy=>h y (List.mem_cons_of_mem _ hy)
  have hx:=h x (List.mem_cons_self ..)
  simp only[ctC,List.flatMap_cons] at ih ⊢
  rw[ih]
  simp[List.getD_eq_getElem?_getD,List.getElem?_append_left hx]
structure NewI (h₀ h:Heap) (xb lb cb b8 b9 b10:Nat) (al:List AskH) (sl:List AskS) (it:List Itm):Prop where
 r:RulesAt h xb lb (.ptr none) (bufSl cb it.length (ctC (al.map askP) (ctI it))) 0 al sl
 c:it.length≠0->h[cb]?=some (.cells (ctC (al.map askP) (ctI it)) 168 true)
 k8:it.length≠0->h[b8]?=some (.cells (strCells (plI it)) 9 true)
 k9:it.length≠0->h[b9]?=some (.cells (strCells ((plI it).map fold)) 9 true)
 k10:it.length≠0->h[b10]?=some (.cells (boolCells (ncI it)) 4 true)
 n89:it.length≠0->b8≠b9
 n10:it.length≠0->∀(k:Nat) (a:AskH),al[k]?=some a->a.eb≠b10
 o:Only (fun _=>False) h₀ h
 fx:h₀.length<=xb
 fl:al.length≠0->h₀.length<=lb
 fc:it.length≠0->h₀.length<=cb/\h₀.length<=b8/\h₀.length<=b9/\h₀.length<=b10
 fa:∀c,askF al c->h₀.length<=c
 fe:∀(k:Nat) (a:AskH),al[k]?=some a->h₀.length<=a.eb
 ok:∀x∈ctI it,∃s,sl[x.1]?=some s/\x.2<s.ends.length
section
variable {h h':Heap} {xb lb n:Nat} {sp cv:AV} {al:List AskH} {sl:List AskS}
theorem RulesAt.hdr(H:RulesAt h xb lb sp cv n al sl){m:Nat}{sp' cv':AV}(e:h.set xb (.cells (xC sp' cv' (bufSl lb al.length (al.map askP)) m) 163 false)=h'):RulesAt h' xb lb sp' cv' m al sl/\Only (fun c=>c=xb) h h':=by
 have hlt:=lt_of_at H.kx
 have ho:Only (fun c=>c=xb) h h':=by rw[<-e];exact .set rfl
 have out:∀{c:Nat} {cs':List AV} {t:TypeId} {g:Bool},h[c]?=some (.cells cs' t g)->t≠163->¬c=xb:=fun hc ht e=>by
  have:=H.kx
  rw[<-e,hc] at this
  simp only[Option.some.injEq,AObj.cells.injEq] at this
  exact ht this.2.1
 refine⟨⟨by rw[<-e];exact at_same hlt,fun hne=>ho.at (H.kl hne) (out (H.kl hne) (by decide)),H.ak.keep ho (fun k a ha=>?_) fun c cs t ht hc=>out hc (by rcases ht with rfl|rfl<;>decide)⟩,ho⟩
 obtain⟨s,_,A⟩:=H.ak.get ha
 refine⟨out A.hdr (by decide),out A.ends (by decide),fun c hc=>?_⟩
 obtain⟨cs,t,q1,q2⟩:=A.trk.typ hc
 exact out q1 (by rcases q2 with e|e|e<;>rw[e]<;>decide)
theorem RulesAt.app(H:RulesAt h xb lb sp cv n al sl){b k:Nat}{cs:List AV}{t0:TypeId}{g:Bool}(hb:k≠0->h[b]?=some (.cells cs t0 g))(ho:Only (fun c=>c=b/\k≠0) h h')
  (ht:t0≠144/\t0≠147/\t0≠181/\t0≠166/\t0≠4/\t0≠148/\t0≠164/\t0≠163):RulesAt h' xb lb sp cv n al sl:=by
 by_cases hk:k=0
 . exact H.same (ho.mono fun c _ e=>e.2 hk)
 . exact H.other (hb hk) (ho.mono fun c _ e=>e.1) ht
theorem RulesAt.app4(H:RulesAt h xb lb sp cv n al sl){b k:Nat}{cs:List AV}(hb:k≠0->h[b]?=some (.cells cs 4 true))(ho:Only (fun c=>c=b/\k≠0) h h')
  (hn:k≠0->∀(j:Nat) (a:AskH),al[j]?=some a->a.eb≠b):RulesAt h' xb lb sp cv n al sl:=by
 by_cases hk:k=0
 . exact H.same (ho.mono fun c _ e=>e.2 hk)
 . have hb:=hb hk
   have out:∀{c:Nat} {cs':List AV} {t:TypeId} {g:Bool},h[c]?=some (.cells cs' t g)->t≠4\/g=false->¬(c=b/\k≠0):=fun hc ht e=>by
    rw[e.1,hb] at hc
    simp only[Option.some.injEq,AObj.cells.injEq] at hc
    rcases ht with ht|ht
    . exact ht hc.2.1.symm
    . rw[ht] at hc;simp at hc
   refine H.keep ho (out H.kx (.inl (by decide))) (fun hne=>out (H.kl hne) (.inl (by decide))) (fun j a ha=>?_) fun c cs t ht hc=>out hc (.inl (by rcases ht with rfl|rfl<;>decide))
   obtain⟨s,_,A⟩:=H.ak.get ha
   refine⟨out A.hdr (.inr rfl),fun e=>hn hk j a ha e.1,fun c hc=>?_⟩
   obtain⟨cs,t,q1,q2⟩:=A.trk.typ hc
   exact out q1 (.inr rfl)
end
section
variable {h₀ h:Heap} {xb lb cb b8 b9 b10:Nat} {al:List AskH} {sl:List AskS} {it:List Itm}
theorem NewI.same{h':Heap}(I:NewI h₀ h xb lb cb b8 b9 b10 al sl it)(ho:Only (fun _=>False) h h'):NewI h₀ h' xb lb cb b8 b9 b10 al sl it:=
 ⟨I.r.same ho,fun hn=>ho.at (I.c hn) id,fun hn=>ho.at (I.k8 hn) id,fun hn=>ho.at (I.k9 hn) id,fun hn=>ho.at (I.k10 hn) id,I.n89,I.n10,I.o.trans ho,I.fx,I.fl,I.fc,I.fa,I.fe,I.ok⟩
theorem app_at{h h':Heap}{b k c:Nat}{cs cs':List AV}{t t':TypeId}{g g':Bool}(ho:Only (fun c=>c=b/\k≠0) h h')(hb:k≠0->h[b]?=some (.cells cs t g))(hc:h[c]?=some (.cells cs' t' g'))(ht:t'≠t\/g'≠g):h'[c]?=some (.cells cs' t' g'):=by
 refine ho.at hc fun e=>?_
 have:=hb e.2
 rw[<-e.1,hc] at this
 simp only[Option.some.injEq,AObj.cells.injEq] at this
 rcases ht with ht|ht
 . exact ht this.2.1
 . exact ht this.2.2
theorem app_at'{h h':Heap}{b k c:Nat}{o:AObj}(ho:Only (fun c=>c=b/\k≠0) h h')(hc:h[c]?=some o)(hn:k≠0->c≠b):h'[c]?=some o:=
 ho.at hc fun e=>hn e.2 e.1
theorem NewI.item(I:NewI h₀ h xb lb cb b8 b9 b10 al sl it){q i c0:Nat}{a:AskH}{s:AskS}{c:Cont}(ha:al[q]?=some a)(hs:sl[q]?=some s)(hi:i<s.ends.length)(hn:it.length<=100000)(hbx:h[c0]?=some (.cells (contCell c) 52 false))(hc:c.small):
  ∃cv' δ1 h1 h2 δ3 h3 h4 δ5 h5 δ6 h6 cb' b8' b9' b10',
   append2 Try.prog (look (h++[AObj.cells [askP a,.int .i64 i] 168 true])) (h.length+1) 160 160 [bufSl cb it.length (ctC (al.map askP) (ctI it)),.sl (some ⟨h.length,0,2⟩) 1 1]=some (cv',δ1)/\Heap.apply (h++[AObj.cells [askP a,.int .i64 i] 168 true]) δ1=h1 /\
   astore Try.prog (look h1) 160 (.ptr (some ⟨xb,1,4⟩)) cv'=some (.set xb (.cells (xC (.ptr none) cv' (bufSl lb al.length (al.map askP)) 0) 163 false))/\h1.set xb (.cells (xC (.ptr none) cv' (bufSl lb al.length (al.map askP)) 0) 163 false)=h2 /\
   cv'.notTup=true/\h2[c0]?=some (.cells (contCell c) 52 false) /\
   append2 Try.prog (look (h2++[AObj.cells [.str c.bytes] 9 true])) (h2.length+1) 38 38 [txtSl b8 (plI it),.sl (some ⟨h2.length,0,1⟩) 1 1]=some (txtSl b8' (plI (it++[((q,i),c)])),δ3)/\Heap.apply (h2++[AObj.cells [.str c.bytes] 9 true]) δ3=h3 /\
   (∀n,(touchD n δ3).same c0=true\/n=c0)/\c0<h2.length/\h3[c0]?=some (.cells (contCell c) 52 false)/\h2.length<h3.length /\
   D cfg 59 [.str c.bytes] h3=some (.str (fold c.bytes),h4)/\sameAt h3 h4 c0=true/\h4[c0]?=some (.cells (contCell c) 52 false)/\h3.length<=h4.length /\
   append2 Try.prog (look (h4++[AObj.cells [.str (fold c.bytes)] 9 true])) (h4.length+1) 38 38 [txtSl b9 ((plI it).map fold),.sl (some ⟨h4.length,0,1⟩) 1 1]=some (txtSl b9' ((plI (it++[((q,i),c)])).map fold),δ5)/\Heap.apply (h4++[AObj.cells [.str (fold c.bytes)] 9 true]) δ5=h5 /\
   (∀n,(touchD n δ5).same c0=true\/n=c0)/\h5[c0]?=some (.cells (contCell c) 52 false) /\
   append2 Try.prog (look (h5++[AObj.cells [.bool c.nocase] 4 true])) (h5.length+1) 68 68 [boolSl b10 (ncI it),.sl (some ⟨h5.length,0,1⟩) 1 1]=some (boolSl b10' (ncI (it++[((q,i),c)])),δ6)/\Heap.apply (h5++[AObj.cells [.bool c.nocase] 4 true]) δ6=h6 /\
   NewI h₀ h6 xb lb cb' b8' b9' b10' al sl (it++[((q,i),c)]):=by
 have hPl:∀x∈ctI it,x.1<(al.map askP).length:=fun x hx=>by
  obtain⟨t,h1,_⟩:=I.ok x hx
  have:=(List.getElem?_eq_some_iff.1 h1).1
  simp[I.r.ak.len,this]
 have hlt0:=lt_of_at hbx
 have hne0:it.length≠0->True:=fun _=>trivial
 obtain⟨δ1,h1,e1,e2,d1,o1⟩:=append_buf (t:=160) (e:=168) (k:=2) (by simp) (by simp) (by decide) (by simp) (by simp) (h:=h) (b:=cb) (n:=it.length) (xs:=ctC (al.map askP) (ctI it)) (ys:=[askP a,.int .i64 i]) (by simp) (by rw[ctC_len,ctI_len]) I.c (by omega)
 have hct:ctC (al.map askP) (ctI it)++[askP a,.int .i64 i]=ctC (al.map askP) (ctI (it++[((q,i),c)])):=by
  simp[ctC,ctI,List.getD_eq_getElem?_getD,ha]
 have hl1:it.length+1=(it++[((q,i),c)]).length:=by simp
 rw[hct,hl1] at e1
 rw[hct] at d1
 obtain⟨cb',hcb'⟩:∃cb',(if it.length=0 then h.length+1 else cb)=cb':=⟨_,rfl⟩
 rw[hcb'] at e1 d1
 have fcb:h₀.length<=cb':=by
  rw[<-hcb']
  have:=I.o.1
  split
  . omega
  . rename_i hz;exact (I.fc hz).1
 have R1:=I.r.app I.c o1 ⟨by decide,by decide,by decide,by decide,by decide,by decide,by decide,by decide⟩
 obtain⟨cv',hcv'⟩:∃cv',bufSl cb' (it++[((q,i),c)]).length (ctC (al.map askP) (ctI (it++[((q,i),c)])))=cv':=⟨_,rfl⟩
 rw[hcv'] at e1
 have one':cv'.one=true:=by rw[<-hcv'];exact bufSl_one
 have nt':cv'.notTup=true:=by rw[<-hcv'];exact bufSl_notTup
 have st:=cell_store R1.kx (n:=4) rfl (t:=160) (by simp) (off:=1) (v:=cv') one' (by omega)
 obtain⟨h2,hh2⟩:∃h2,h1.set xb (.cells (xC (.ptr none) cv' (bufSl lb al.length (al.map askP)) 0) 163 false)=h2:=⟨_,rfl⟩
 obtain⟨R2,o2⟩:=R1.hdr hh2
 have atx:∀{b:Nat} {cs:List AV} {t:TypeId} {g:Bool},h1[b]?=some (.cells cs t g)->(t≠163\/g=true)->h2[b]?=some (.cells cs t g):=fun hb ht=>o2.at hb fun e=>by
  rw[e,R1.kx] at hb
  simp only[Option.some.injEq,AObj.cells.injEq] at hb
  rcases ht with ht|ht
  . exact ht hb.2.1.symm
  . rw[ht] at hb;simp at hb
 have bx1:=app_at o1 I.c hbx (.inl (by decide))
 have bx2:=atx bx1 (.inl (by decide))
 have c2:=atx d1 (.inr rfl)
 have k82:it.length≠0->h2[b8]?=some (.cells (strCells (plI it)) 9 true):=fun hz=>atx (app_at o1 I.c (I.k8 hz) (.inl (by decide))) (.inr rfl)
 have k92:it.length≠0->h2[b9]?=some (.cells (strCells ((plI it).map fold)) 9 true):=fun hz=>atx (app_at o1 I.c (I.k9 hz) (.inl (by decide))) (.inr rfl)
 have k102:it.length≠0->h2[b10]?=some (.cells (boolCells (ncI it)) 4 true):=fun hz=>atx (app_at o1 I.c (I.k10 hz) (.inl (by decide))) (.inr rfl)
 have o02:Only (fun _=>False) h₀ h2:=(I.o.fresh o1 fun x hx=>by rw[hx.1];exact (I.fc hx.2).1).fresh o2 fun x hx=>by rw[hx];exact I.fx
 obtain⟨δ3,h3,e3,e4,d3,o3,t3⟩:=append_buf3 (t:=38) (e:=9) (k:=1) (by simp) (by simp) (by decide) (by simp) (by simp) (h:=h2) (b:=b8) (n:=it.length) (xs:=strCells (plI it)) (ys:=[.str c.bytes]) (by simp) (by rw[strCells_len,plI_len];omega) k82 (by omega)
 have hp3:strCells (plI it)++[AV.str c.bytes]=strCells (plI (it++[((q,i),c)])):=by simp[strCells,plI]
 obtain⟨b8',hb8'⟩:∃b8',(if it.length=0 then h2.length+1 else b8)=b8':=⟨_,rfl⟩
 rw[hb8',hp3] at d3
 rw[hb8',hp3,hl1] at e3
 have fb8:h₀.length<=b8':=by
  rw[<-hb8']
  have:=o02.1
  split
  . omega
  . rename_i hz;exact (I.fc hz).2.1
 have cne:∀{b:Nat} {cs:List AV} {t:TypeId} {h':Heap},h'[b]?=some (.cells cs t true)->h'[c0]?=some (.cells (contCell c) 52 false)->c0≠b:=fun hb hc e=>by
  rw[<-e,hc] at hb;simp at hb
 have tch:∀{δ:Delta} {b:Nat},((it.length=0/\∃o,δ=.new o)\/(it.length≠0/\∃o,δ=.set b o))->(it.length≠0->c0≠b)->∀n,(touchD n δ).same c0=true\/n=c0:=fun ht hb n=>by
  rcases ht with⟨_,o,rfl⟩|⟨hz,o,rfl⟩
  . by_cases hn:n=c0
    . exact .inr hn
    . left;simp[touchD,Touch.same];exact fun e=>hn e.symm
  . left;simp[touchD,Touch.same];exact hb hz
 have bx3:=app_at o3 k82 bx2 (.inl (by decide))
 have R3:=R2.app k82 o3 ⟨by decide,by decide,by decide,by decide,by decide,by decide,by decide,by decide⟩
 have c3:=app_at o3 k82 c2 (.inl (by decide))
 have n98:it.length≠0->b9≠b8:=fun hz=>(I.n89 hz).symm
 have k93:it.length≠0->h3[b9]?=some (.cells (strCells ((plI it).map fold)) 9 true):=fun hz=>app_at' o3 (k92 hz) n98
 have k103:it.length≠0->h3[b10]?=some (.cells (boolCells (ncI it)) 4 true):=fun hz=>app_at o3 k82 (k102 hz) (.inl (by decide))
 have o03:Only (fun _=>False) h₀ h3:=o02.fresh o3 fun x hx=>by rw[hx.1];exact (I.fc hx.2).2.1
 have l23:h2.length<h3.length:=by
  rw[<-e4]
  rcases t3 with⟨_,o,rfl⟩|⟨_,o,rfl⟩<;>simp[Heap.apply]<;>omega
 have hcb:=hc.b
 obtain⟨h4,e5,o4⟩:=fold_auto (h:=h3) (s:=c.bytes) (by omega)
 have sm:sameAt h3 h4 c0=true:=sameAt_of bx3 (o4.at bx3 id) (by simp[contCell,AObj.beq,beqL,AV.beq,AV.beqP])
 have bx4:=o4.at bx3 id
 have R4:=R3.same o4
 have o04:=o03.trans o4
 obtain⟨δ5,h5,e6,e7,d5,o5,t5⟩:=append_buf3 (t:=38) (e:=9) (k:=1) (by simp) (by simp) (by decide) (by simp) (by simp) (h:=h4) (b:=b9) (n:=it.length) (xs:=strCells ((plI it).map fold)) (ys:=[.str (fold c.bytes)]) (by simp) (by rw[strCells_len,List.length_map,plI_len];omega) (fun hz=>o4.at (k93 hz) id) (by omega)
 have hp5:strCells ((plI it).map fold)++[AV.str (fold c.bytes)]=strCells ((plI (it++[((q,i),c)])).map fold):=by simp[strCells,plI]
 obtain⟨b9',hb9'⟩:∃b9',(if it.length=0 then h4.length+1 else b9)=b9':=⟨_,rfl⟩
 rw[hb9',hp5] at d5
 rw[hb9',hp5,hl1] at e6
 have fb9:h₀.length<=b9':=by
  rw[<-hb9']
  have:=o04.1
  split
  . omega
  . rename_i hz;exact (I.fc hz).2.2.1
 have k94:it.length≠0->h4[b9]?=some (.cells (strCells ((plI it).map fold)) 9 true):=fun hz=>o4.at (k93 hz) id
 have d4:=o4.at d3 id
 have n89':b8'≠b9':=by
  have:=lt_of_at d4
  rw[<-hb8',<-hb9'] at *
  by_cases hz:it.length=0
  . simp only[if_pos hz] at *;omega
  . simp only[if_neg hz] at *;exact I.n89 hz
 have bx5:=app_at o5 k94 bx4 (.inl (by decide))
 have R5:=R4.app k94 o5 ⟨by decide,by decide,by decide,by decide,by decide,by decide,by decide,by decide⟩
 have c5:=app_at o5 k94 (o4.at c3 id) (.inl (by decide))
 have n8b:it.length≠0->b8'≠b9:=fun hz=>by rw[<-hb8',if_neg hz];exact I.n89 hz
 have k85:=app_at' o5 d4 n8b
 have k105:it.length≠0->h5[b10]?=some (.cells (boolCells (ncI it)) 4 true):=fun hz=>app_at o5 k94 (o4.at (k103 hz) id) (.inl (by decide))
 have o05:Only (fun _=>False) h₀ h5:=o04.fresh o5 fun x hx=>by rw[hx.1];exact (I.fc hx.2).2.2.1
 obtain⟨δ6,h6,e8,e9,d6,o6⟩:=append_buf (t:=68) (e:=4) (k:=1) (by simp) (by simp) (by decide) (by simp) (by simp) (h:=h5) (b:=b10) (n:=it.length) (xs:=boolCells (ncI it)) (ys:=[.bool c.nocase]) (by simp) (by rw[boolCells_len,ncI_len];omega) k105 (by omega)
 have hp6:boolCells (ncI it)++[AV.bool c.nocase]=boolCells (ncI (it++[((q,i),c)])):=by simp[boolCells,ncI]
 obtain⟨b10',hb10'⟩:∃b10',(if it.length=0 then h5.length+1 else b10)=b10':=⟨_,rfl⟩
 rw[hb10',hp6] at d6
 rw[hb10',hp6,hl1] at e8
 have fb10:h₀.length<=b10':=by
  rw[<-hb10']
  have:=o05.1
  split
  . omega
  . rename_i hz;exact (I.fc hz).2.2.2
 have R6:=R5.app4 k105 o6 I.n10
 have o06:Only (fun _=>False) h₀ h6:=o05.fresh o6 fun x hx=>by rw[hx.1];exact (I.fc hx.2).2.2.2
 refine⟨cv',δ1,h1,h2,δ3,h3,h4,δ5,h5,δ6,h6,cb',b8',b9',b10',e1,e2,?_,hh2,nt',bx2,?_,e4,tch t3 fun hz=>cne (k82 hz) bx2,lt_of_at bx2,bx3,l23,e5,sm,bx4,o4.1,?_,e7,tch t5 fun hz=>cne (k94 hz) bx4,bx5,?_,e9,?_⟩
 . simpa[xC] using st
 ·
  simp only[txtSl,plI_len]
  exact e3
 . simp only[txtSl,List.length_map,plI_len]
   exact e6
 . simp only[boolSl,ncI_len]
   exact e8
 . refine⟨by rw[hcv'];exact R6,fun _=>app_at o6 k105 c5 (.inl (by decide)),fun _=>app_at o6 k105 k85 (.inl (by decide)),fun _=>app_at o6 k105 d5 (.inl (by decide)),fun _=>d6,fun _=>n89',fun _ k b hb e=>?_,o06,I.fx,I.fl,fun _=>⟨fcb,fb8,fb9,fb10⟩,I.fa,I.fe,fun x hx=>?_⟩
   . obtain⟨t,_,A⟩:=R5.ak.get hb
     rw[<-hb10'] at e
     by_cases hz:it.length=0
     . rw[if_pos hz] at e
       have:=lt_of_at A.ends
       omega
     . rw[if_neg hz] at e
       exact I.n10 hz k b hb e
   . simp only[ctI,List.map_append,List.map_cons,List.map_nil,List.mem_append,List.mem_singleton] at hx
     rcases hx with hx|rfl
     . exact I.ok x hx
     . exact⟨s,hs,hi⟩
end
end
theorem tdNo{n:Nat}:touchD n .no=.no:=rfl
theorem tdNew{n:Nat}{o:AObj}:touchD n (.new o)=.blk n:=rfl
theorem tdSet{n b:Nat}{o:AObj}:touchD n (.set b o)=.blk b:=rfl
theorem tsNo{b:Nat}:Touch.same .no b=true:=rfl
theorem tsBlk{b c:Nat}:Touch.same (.blk c) b=(b != c):=rfl
theorem tsHeaps{b:Nat}{h h':Heap}:Touch.same (.heaps h h') b=sameAt h h' b:=rfl
theorem store_box0{h:Heap}{s:Txt}{a b k:Bool}{i j m n:Int}:astore Try.prog (look (h++[AObj.cells [.str [],.bool false,.bool false,.int .i64 0,.int .i64 0,.bool false,.int .i64 0,.int .i64 0] 52 false])) 52 (.ptr (some ⟨h.length,0,8⟩)) (.agg [.str s,.bool a,.bool b,.int .i64 i,.int .i64 j,.bool k,.int .i64 m,.int .i64 n])=some (.set h.length (.cells [.str s,.bool a,.bool b,.int .i64 i,.int .i64 j,.bool k,.int .i64 m,.int .i64 n] 52 false)):=by
 simp[astore,splice]
def soughtB(c:Cont):Bool:=decide (c.bytes.length≠0)&&decide (c.bytes.length<=16)
def itR(q:Nat)(cs:List Cont):Nat->List Itm
 |0=>[]
 |k+1=>itR q cs k++match cs[k]? with
  |some c=>if soughtB c then [((q,k),c)] else []
  |none=>[]
theorem itR_len{q:Nat}{cs:List Cont}:∀{k:Nat},(itR q cs k).length<=k
 |0=>Nat.le_refl _
 |k+1=>by
  have:=itR_len (q:=q) (cs:=cs) (k:=k)
  simp only[itR,List.length_append]
  split
  . split<;>simp<;>omega
  . simp;omega
abbrev env11(rv:AV)(most:Int)(xb:Nat)(w8 w9 w10:AV)(a:AskH)(pv:AV)(N k:Nat)(cv:AV)(M i:Nat):Env:=
 [(0,rv),(2,.int .i64 most),(7,xPtr xb),(8,w8),(9,w9),(10,w10),(13,askP a),(21,pv),(22,.int .i64 N),(23,.int .i64 k),(69,cv),(70,.int .i64 M),(71,.int .i64 i)]
def In11(h₀:Heap)(rv:AV)(most:Int)(xb lb:Nat)(al:List AskH)(sl:List AskS)(it0:List Itm)(a:AskH)(pv:AV)(N k q:Nat)(cv:AV)(l:List Cont)(m:Nat)(σ:St):Prop:=
 ∃i cb b8 b9 b10 h,m=l.length-i/\i<=l.length/\σ=⟨env11 rv most xb (txtSl b8 (plI (it0++itR q l i))) (txtSl b9 ((plI (it0++itR q l i)).map fold)) (boolSl b10 (ncI (it0++itR q l i))) a pv N k cv l.length i,h⟩ /\
  NewI h₀ h xb lb cb b8 b9 b10 al sl (it0++itR q l i)
theorem item_round{h₀ h:Heap}{rv pv cv:AV}{most:Int}{xb lb cb b8 b9 b10:Nat}{al:List AskH}{sl:List AskS}{it0:List Itm}{a:AskH}{s:AskS}{N k q:Nat}{l:List Cont}(hv:SlC h₀ cv l)(hrv:rv.notTup=true)(hpv:pv.notTup=true)
  (hsm:∀c∈l,c.small) (hll:l.length<=1000) (hi0:it0.length<=90000) (ha:al[q]?=some a) (hs:sl[q]?=some s) (hse:s.ends.length=l.length) {i:Nat} (hi:i<l.length) (I:NewI h₀ h xb lb cb b8 b9 b10 al sl (it0++itR q l i)) {Q:AExit->St->Prop}
  (hq:∀st,In11 h₀ rv most xb lb al sl it0 a pv N k q cv l (l.length-(i+1)) st->Q .normal st):
  Wt Try.prog (D cfg) c81_l11 ⟨env11 rv most xb (txtSl b8 (plI (it0++itR q l i))) (txtSl b9 ((plI (it0++itR q l i)).map fold)) (boolSl b10 (ncI (it0++itR q l i))) a pv N k cv l.length i,h⟩ Q:=by
 have hvt:cv.notTup=true:=by rcases hv with⟨rfl,_⟩|⟨_,_,_,_,rfl,_,_⟩<;>rfl
 have hil:(i:Int)<l.length:=by omega
 have hwr:IntKind.wrap .i64 ((i:Int)+1)=i+1:=wrap_i64 (by omega) (by omega)
 obtain⟨c,hc⟩:∃c,c=l[i]:=⟨_,rfl⟩
 have hcm:c∈l:=by rw[hc];exact List.getElem_mem hi
 have hcs:=hsm c hcm
 have a1:=hv.at hi
 have l1:=(hv.same I.o).load hi
 rw[<-hc] at l1
 obtain⟨h1,hh1⟩:∃h1,h++[.cells (contCell c) 52 false]=h1:=⟨_,rfl⟩
 have o1:Only (fun _=>False) h h1:=by rw[<-hh1];exact .app
 have bx1:h1[h.length]?=some (.cells (contCell c) 52 false):=by rw[<-hh1];simp
 have I1:=I.same o1
 obtain⟨c0,_⟩:=contLoads bx1
 obtain⟨it,hit⟩:∃it,it0++itR q l i=it:=⟨_,rfl⟩
 have hitl:it.length<=100000:=by
  have:=itR_len (q:=q) (cs:=l) (k:=i)
  rw[<-hit,List.length_append];omega
 rw[hit] at I1 ⊢
 have hcb:=hcs.b
 have n1:(txtSl b8 (plI it)).notTup=true:=txtSl_nt
 have n2:(txtSl b9 ((plI it).map fold)).notTup=true:=txtSl_nt
 have n3:(boolSl b10 (ncI it)).notTup=true:=boolSl_nt
 simp only[contCell,Cont.av] at l1 hh1
 by_cases hsb:soughtB c=true
 . have hb:=hsb
   simp only[soughtB,Bool.and_eq_true,decide_eq_true_eq] at hb
   obtain⟨z1,z2⟩:=hb
   have z1':¬((c.bytes.length:Int)=0):=by omega
   have z2':¬((16:Int)<c.bytes.length):=by omega
   have z2'':¬(16<c.bytes.length):=by omega
   have hnx:it0++itR q l (i+1)=it++[((q,i),c)]:=by
    rw[<-hit]
    simp[itR,List.getElem?_eq_getElem hi,<-hc,hsb]
   obtain⟨cv',δ1,h2,h3,δ3,h4,h5,δ5,h6,δ6,h7,cb',b8',b9',b10',e1,e2,st,hh3,nt',bx3,e3,e4,t3,hl0,bx4,hl34,e5,sm,bx5,hl45,e6,e7,t5,bx6,e8,e9,J⟩:=I1.item (c:=c) ha hs (by rw[hse];exact hi) hitl bx1 hcs
   obtain⟨d0,_⟩:=contLoads bx3
   obtain⟨d1,_⟩:=contLoads bx4
   obtain⟨_,d2,_⟩:=contLoads bx6
   have hlt:=lt_of_at bx1
   have m1:(h.length != h3.length)=true:=by simp;omega
   have t3':(touchD (h3.length+1) δ3).same h.length=true:=(t3 _).resolve_right (by omega)
   have m2:(h.length != h5.length)=true:=by simp;omega
   have t5':(touchD (h5.length+1) δ5).same h.length=true:=(t5 _).resolve_right (by omega)
   have q1:=cell_load I1.r.kx (n:=4) rfl (t:=160) (by simp) (off:=1) rfl
   have hnext:In11 h₀ rv most xb lb al sl it0 a pv N k q cv l (l.length-(i+1)) ⟨env11 rv most xb (txtSl b8' (plI (it++[((q,i),c)]))) (txtSl b9' ((plI (it++[((q,i),c)])).map fold)) (boolSl b10' (ncI (it++[((q,i),c)]))) a pv N k cv l.length (i+1),h7⟩:=
    ⟨i+1,cb',b8',b9',b10',h7,rfl,hi,by rw[hnx],by rw[hnx];exact J⟩
   have n4:(txtSl b8' (plI (it++[((q,i),c)]))).notTup=true:=txtSl_nt
   have n5:(txtSl b9' ((plI (it++[((q,i),c)])).map fold)).notTup=true:=txtSl_nt
   have n6:(boolSl b10' (ncI (it++[((q,i),c)]))).notTup=true:=boolSl_nt
   have hfin:=hq _ hnext
   have n7:(bufSl cb it.length (ctC (al.map askP) (ctI it))).notTup=true:=bufSl_notTup
   obtain⟨x1,hx1⟩:∃x,txtSl b8 (plI it)=x:=⟨_,rfl⟩
   obtain⟨x2,hx2⟩:∃x,txtSl b9 ((plI it).map fold)=x:=⟨_,rfl⟩
   obtain⟨x3,hx3⟩:∃x,boolSl b10 (ncI it)=x:=⟨_,rfl⟩
   obtain⟨x4,hx4⟩:∃x,txtSl b8' (plI (it++[((q,i),c)]))=x:=⟨_,rfl⟩
   obtain⟨x5,hx5⟩:∃x,txtSl b9' ((plI (it++[((q,i),c)])).map fold)=x:=⟨_,rfl⟩
   obtain⟨x6,hx6⟩:∃x,boolSl b10' (ncI (it++[((q,i),c)]))=x:=⟨_,rfl⟩
   obtain⟨x7,hx7⟩:∃x,bufSl cb it.length (ctC (al.map askP) (ctI it))=x:=⟨_,rfl⟩
   obtain⟨x8,hx8⟩:∃x,bufSl lb al.length (al.map askP)=x:=⟨_,rfl⟩
   rw[hx7] at e1 n7 q1
   rw[hx8] at st hh3
   rw[hx1] at e3 n1 ⊢
   rw[hx2] at e6 n2 ⊢
   rw[hx3] at e8 n3 ⊢
   rw[hx4] at e3 n4 hfin
   rw[hx5] at e6 n5 hfin
   rw[hx6] at e8 n6 hfin
   simp only[env11] at hfin
   simp[-AV.notTup,-Touch.same,-touchD,tdNo,tdNew,tdSet,tsNo,tsBlk,tsHeaps,hrv,hpv,hvt,n1,n2,n3,n4,n5,n6,n7,nt',notTup_ptr,c81_l11,c81_r11,c81_r12,c81_r13,c81_r14,c81_r15,c81_r16,c81_r17,hil,hi,a1,l1,zeros,store_box0,splice,hh1,fieldA,c0,len1,alenS,z1,z1',z2',z2'',
    q1,abuild,abuildSlice,afill,e1,e2,st,hh3,d0,e3,e4,d1,m1,t3',e5,e6,e7,d2,sm,m2,t5',e8,e9,hwr]
   simpa using hfin
 . have hnx:it0++itR q l (i+1)=it:=by
    rw[<-hit]
    simp[itR,List.getElem?_eq_getElem hi,<-hc,hsb]
   have hnext:In11 h₀ rv most xb lb al sl it0 a pv N k q cv l (l.length-(i+1)) ⟨env11 rv most xb (txtSl b8 (plI it)) (txtSl b9 ((plI it).map fold)) (boolSl b10 (ncI it)) a pv N k cv l.length (i+1),h1⟩:=
    ⟨i+1,cb,b8,b9,b10,h1,rfl,hi,by rw[hnx],by rw[hnx];exact I1⟩
   have hfin:=hq _ hnext
   simp only[env11] at hfin
   generalize txtSl b8 (plI it)=x1 at *
   generalize txtSl b9 ((plI it).map fold)=x2 at *
   generalize boolSl b10 (ncI it)=x3 at *
   by_cases z1:c.bytes.length=0
   . have z1':(c.bytes.length:Int)=0:=by omega
     have z0:c.bytes=[]:=List.length_eq_zero_iff.1 z1
     rw[z0] at c0 l1 hh1
     simp[-AV.notTup,hrv,hpv,hvt,n1,n2,n3,notTup_ptr,c81_l11,c81_r11,c81_r12,c81_r13,c81_r14,c81_r17,hil,hi,a1,l1,zeros,store_box0,splice,hh1,fieldA,c0,len1,alenS,hwr]
     simpa using hfin
   . have z2:16<c.bytes.length:=by
      simp only[soughtB,Bool.and_eq_true,decide_eq_true_eq] at hsb
      omega
     have z1':¬((c.bytes.length:Int)=0):=by omega
     have z2':(16:Int)<c.bytes.length:=by omega
     simp[-AV.notTup,hrv,hpv,hvt,n1,n2,n3,notTup_ptr,c81_l11,c81_r11,c81_r12,c81_r13,c81_r14,c81_r17,hil,hi,a1,l1,zeros,store_box0,splice,hh1,fieldA,c0,len1,alenS,z1,z1',z2,z2',hwr]
     simpa using hfin
theorem items_loop{h₀ h:Heap}{rv pv cv:AV}{most:Int}{xb lb cb b8 b9 b10:Nat}{al:List AskH}{sl:List AskS}{it0:List Itm}{a:AskH}{s:AskS}{N k q:Nat}{l:List Cont}(hv:SlC h₀ cv l)(hrv:rv.notTup=true)(hpv:pv.notTup=true)
  (hsm:∀c∈l,c.small) (hll:l.length<=1000) (hi0:it0.length<=90000) (ha:al[q]?=some a) (hs:sl[q]?=some s) (hse:s.ends.length=l.length) (I:NewI h₀ h xb lb cb b8 b9 b10 al sl it0) {Q:AExit->St->Prop}
  (hq:∀h' cb' b8' b9' b10',NewI h₀ h' xb lb cb' b8' b9' b10' al sl (it0++itR q l l.length) ->
   Q (.exit 2) ⟨env11 rv most xb (txtSl b8' (plI (it0++itR q l l.length))) (txtSl b9' ((plI (it0++itR q l l.length)).map fold)) (boolSl b10' (ncI (it0++itR q l l.length))) a pv N k cv l.length l.length++[(72,.bool false)],h'⟩):
  Wt Try.prog (D cfg) (.loop c81_l11 (some [0,2,7,8,9,10,13,21,22,23,69,70,71])) ⟨env11 rv most xb (txtSl b8 (plI it0)) (txtSl b9 ((plI it0).map fold)) (boolSl b10 (ncI it0)) a pv N k cv l.length 0,h⟩ Q:=by
 have hvt:cv.notTup=true:=by rcases hv with⟨rfl,_⟩|⟨_,_,_,_,rfl,_,_⟩<;>rfl
 refine Wt.loop (In11 h₀ rv most xb lb al sl it0 a pv N k q cv l) (m:=l.length) ⟨0,cb,b8,b9,b10,h,rfl,Nat.zero_le _,by simp[itR],by simpa[itR] using I⟩ ?_
 rintro m σ ⟨i,cb1,b81,b91,b101,h1,rfl,hi,rfl,I1⟩
 have hcut:∀w8 w9 w10,cut (some [0,2,7,8,9,10,13,21,22,23,69,70,71]) (env11 rv most xb w8 w9 w10 a pv N k cv l.length i)=env11 rv most xb w8 w9 w10 a pv N k cv l.length i:=fun _ _ _=>by simp
 simp only[hcut]
 by_cases hil:i<l.length
 . refine item_round hv hrv hpv hsm hll hi0 ha hs hse hil I1 fun st hst=>?_
   exact⟨_,by omega,hst⟩
 . have hi2:i=l.length:=by omega
   subst hi2
   have hfin:=hq h1 cb1 b81 b91 b101 I1
   have n1:(txtSl b81 (plI (it0++itR q l l.length))).notTup=true:=txtSl_nt
   have n2:(txtSl b91 ((plI (it0++itR q l l.length)).map fold)).notTup=true:=txtSl_nt
   have n3:(boolSl b101 (ncI (it0++itR q l l.length))).notTup=true:=boolSl_nt
   simp only[env11] at hfin
   generalize txtSl b81 (plI (it0++itR q l l.length))=x1 at *
   generalize txtSl b91 ((plI (it0++itR q l l.length)).map fold)=x2 at *
   generalize boolSl b101 (ncI (it0++itR q l l.length))=x3 at *
   simp[-AV.notTup,hrv,hpv,hvt,n1,n2,n3,notTup_ptr,c81_l11,c81_r11]
   simpa using hfin
section
def askOf(most:Nat)(r:RuleV):AskS:=⟨r.rc,r.sid,r.action,newTo r.conts most r.conts.length,List.replicate r.conts.length false,false⟩
theorem askOf_ok{most:Nat}{r:RuleV}(h:r.ok):(askOf most r).ok:=
 ⟨h.len,h.act,h.sid,newTo_ok h.small,Nat.le_trans newTo_len h.few⟩
section
variable {h h':Heap} {al:List AskH} {sl:List AskS}
theorem AsksAt.other(H:AsksAt h al sl){c0:Nat}{cs:List AV}{t0:TypeId}{g:Bool}(hb:h[c0]?=some (.cells cs t0 g))(ho:Only (fun c=>c=c0) h h')
  (ht:t0≠144/\t0≠147/\t0≠181/\t0≠166/\t0≠4/\t0≠148):AsksAt h' al sl:=by
 have out:∀{c:Nat} {cs':List AV} {t:TypeId} {g:Bool},h[c]?=some (.cells cs' t g)->t≠t0->¬c=c0:=fun hc ht e=>by
  rw[e,hb] at hc
  simp only[Option.some.injEq,AObj.cells.injEq] at hc
  exact ht hc.2.1.symm
 obtain⟨t1,t2,t3,t4,t5,t6⟩:=ht
 refine H.keep ho (fun k a ha=>?_) fun c cs t ht hc=>out hc (by
  rcases ht with rfl|rfl
  . exact t6.symm
  . exact t2.symm)
 obtain⟨s,_,A⟩:=H.get ha
 refine⟨out A.hdr t4.symm,out A.ends t5.symm,fun c hc=>?_⟩
 obtain⟨cs,t,q1,q2⟩:=A.trk.typ hc
 rcases q2 with rfl|rfl|rfl
 . exact out q1 t1.symm
 . exact out q1 t2.symm
 . exact out q1 t3.symm
theorem AsksAt.app(H:AsksAt h al sl){b k:Nat}{cs:List AV}{t0:TypeId}{g:Bool}(hb:k≠0->h[b]?=some (.cells cs t0 g))(ho:Only (fun c=>c=b/\k≠0) h h')
  (ht:t0≠144/\t0≠147/\t0≠181/\t0≠166/\t0≠4/\t0≠148):AsksAt h' al sl:=by
 by_cases hk:k=0
 . exact H.same (ho.mono fun c _ e=>e.2 hk)
 . exact H.other (hb hk) (ho.mono fun c _ e=>e.1) ht
end
theorem zeros_bool{n:Nat}:zeros [.bool false] n=boolCells (List.replicate n false):=by
 induction n with
 |zero=>rfl
 |succ n ih=>simp only[zeros,ih];simp[boolCells,List.replicate_succ]
theorem askF_snoc{al:List AskH}{a:AskH}{c:Nat}(h:askF (al++[a]) c):askF al c\/c=a.ab\/trF a.tb a.fl c:=by
 obtain⟨k,b,hb,hc⟩:=h
 by_cases hk:k<al.length
 . rw[List.getElem?_append_left hk] at hb
   exact .inl ⟨k,b,hb,hc⟩
 . rw[List.getElem?_append_right (by omega)] at hb
   have h0:k-al.length=0:=by
    by_cases e:k-al.length=0
    . exact e
    . rw[List.getElem?_eq_none (by simp;omega)] at hb;simp at hb
   rw[h0] at hb
   simp at hb
   subst hb
   exact .inr hc
theorem eb_snoc{al:List AskH}{a:AskH}{k:Nat}{b:AskH}(hb:(al++[a])[k]?=some b):al[k]?=some b\/b=a:=by
 by_cases hk:k<al.length
 . rw[List.getElem?_append_left hk] at hb
   exact .inl hb
 . rw[List.getElem?_append_right (by omega)] at hb
   have h0:k-al.length=0:=by
    by_cases e:k-al.length=0
    . exact e
    . rw[List.getElem?_eq_none (by simp;omega)] at hb;simp at hb
   rw[h0] at hb
   simp at hb
   exact .inr hb.symm
section
variable {h₀ h:Heap} {xb lb cb b8 b9 b10 rb:Nat} {al:List AskH} {sl:List AskS} {it:List Itm} {rs:List RuleV}
theorem NewI.rule(I:NewI h₀ h xb lb cb b8 b9 b10 al sl it)(RI:RulesIn h₀ rb rs){j:Nat}(hj:j<rs.length){m:Int}{most:Nat}(hm:(most:Int)=max 1 (min m 32))(hal:al.length<=100000):
  ∃a lv' δ h1 h2 h3 h4 h5 lb',
   D cfg 72 [rs[j].cv,.int .i64 m] h=some (tPtr a.tb,h1)/\Only (fun _=>False) h h1/\h1++[.cells (zeros [.bool false] rs[j].conts.length) 4 true]=h2/\h2++[.cells (rs[j].rc++[tPtr a.tb,endSl h1.length rs[j].conts.length,.bool false]) 166 false]=h3/\a.ab=h2.length /\
   append2 Try.prog (look (h3++[AObj.cells [askP a] 164 true])) (h3.length+1) 161 161 [bufSl lb al.length (al.map askP),.sl (some ⟨h3.length,0,1⟩) 1 1]=some (lv',δ)/\Heap.apply (h3++[AObj.cells [askP a] 164 true]) δ=h4 /\
   h3[xb]?=some (.cells (xC (.ptr none) (bufSl cb it.length (ctC (al.map askP) (ctI it))) (bufSl lb al.length (al.map askP)) 0) 163 false) /\
   astore Try.prog (look h4) 161 (.ptr (some ⟨xb,2,4⟩)) lv'=some (.set xb (.cells (xC (.ptr none) (bufSl cb it.length (ctC (al.map askP) (ctI it))) lv' 0) 163 false))/\h4.set xb (.cells (xC (.ptr none) (bufSl cb it.length (ctC (al.map askP) (ctI it))) lv' 0) 163 false)=h5/\lv'.notTup=true /\
   NewI h₀ h5 xb lb' cb b8 b9 b10 (al++[a]) (sl++[askOf most rs[j]]) it:=by
 have RI1:=RI.same I.o
 have ok:=RI1.ok _ (List.getElem_mem hj)
 obtain⟨r,hr⟩:∃r,r=rs[j]:=⟨_,rfl⟩
 rw[<-hr] at ok ⊢
 have hv:SlC h r.cv r.conts:=by rw[hr];exact RI1.cs _ (List.getElem_mem hj)
 obtain⟨tb,pa,nb,fl,h1,e1,T1,o1,f1⟩:=new_run (m:=m) (most:=most) hv ok.small ok.few hm
 obtain⟨h2,hh2⟩:∃h2,h1++[.cells (zeros [.bool false] r.conts.length) 4 true]=h2:=⟨_,rfl⟩
 obtain⟨h3,hh3⟩:∃h3,h2++[.cells (r.rc++[tPtr tb,endSl h1.length r.conts.length,.bool false]) 166 false]=h3:=⟨_,rfl⟩
 have o2:Only (fun _=>False) h1 h2:=by rw[<-hh2];exact .app
 have o3:Only (fun _=>False) h2 h3:=by rw[<-hh3];exact .app
 have o13:=o2.trans o3
 have o03:=o1.trans o13
 have I3:=I.same o03
 obtain⟨a,ha⟩:∃a:AskH,a=⟨h2.length,tb,pa,nb,h1.length,fl⟩:=⟨_,rfl⟩
 have e2:h2[h1.length]?=some (.cells (boolCells (List.replicate r.conts.length false)) 4 true):=by rw[<-hh2,<-zeros_bool];simp
 have A3:AskAt h3 a (askOf most r):=by
  refine⟨?_,?_,?_,askOf_ok ok⟩
  . rw[ha,<-hh3]
    simp[askOf,askC]
  . rw[ha];exact T1.same o13
  . rw[ha];exact o3.at e2 id
 have L1:=o1.1
 have L2:=o2.1
 have L3:=o3.1
 have L0:=I.o.1
 have hfr:=I.r.ak.fresh (a:=a) (by rw[ha];exact Nat.le_trans L1 L2) (by rw[ha];exact L1) (by rw[ha];exact f1)
 have K3:=I3.r.ak.snoc A3 hfr
 obtain⟨δ,h4,e4,e5,d4,o4⟩:=append_buf (t:=161) (e:=164) (k:=1) (by simp) (by simp) (by decide) (by simp) (by simp) (h:=h3) (b:=lb) (n:=al.length) (xs:=al.map askP) (ys:=[askP a]) (by simp) (by simp) I3.r.kl (by omega)
 obtain⟨lb',hlb'⟩:∃lb',(if al.length=0 then h3.length+1 else lb)=lb':=⟨_,rfl⟩
 have hm1:al.map askP++[askP a]=(al++[a]).map askP:=by simp
 have hl1:al.length+1=(al++[a]).length:=by simp
 rw[hlb',hm1,hl1] at e4
 rw[hlb',hm1] at d4
 have K4:=K3.app I3.r.kl o4 ⟨by decide,by decide,by decide,by decide,by decide,by decide⟩
 have x4:=app_at o4 I3.r.kl I3.r.kx (.inl (by decide))
 obtain⟨lv',hlv'⟩:∃lv',bufSl lb' (al++[a]).length ((al++[a]).map askP)=lv':=⟨_,rfl⟩
 rw[hlv'] at e4
 have one':lv'.one=true:=by rw[<-hlv'];exact bufSl_one
 have st:=cell_store x4 (n:=4) rfl (t:=161) (by simp) (off:=2) (v:=lv') one' (by omega)
 obtain⟨h5,hh5⟩:∃h5,h4.set xb (.cells (xC (.ptr none) (bufSl cb it.length (ctC (al.map askP) (ctI it))) lv' 0) 163 false)=h5:=⟨_,rfl⟩
 have o5:Only (fun c=>c=xb) h4 h5:=by rw[<-hh5];exact .set rfl
 have K5:=K4.other x4 o5 ⟨by decide,by decide,by decide,by decide,by decide,by decide⟩
 have atx:∀{b:Nat} {cs:List AV} {t:TypeId} {g:Bool},h4[b]?=some (.cells cs t g)->(t≠163\/g=true)->h5[b]?=some (.cells cs t g):=fun hb ht=>o5.at hb fun e=>by
  rw[e,x4] at hb
  simp only[Option.some.injEq,AObj.cells.injEq] at hb
  rcases ht with ht|ht
  . exact ht hb.2.1.symm
  . rw[ht] at hb;simp at hb
 have hPl:∀x∈ctI it,x.1<(al.map askP).length:=fun x hx=>by
  obtain⟨t,h1,_⟩:=I.ok x hx
  have:=(List.getElem?_eq_some_iff.1 h1).1
  simp[I.r.ak.len,this]
 have hg:ctC ((al++[a]).map askP) (ctI it)=ctC (al.map askP) (ctI it):=by rw[<-hm1];exact ctC_grow hPl
 have o05:Only (fun _=>False) h₀ h5:=(I3.o.fresh o4 fun x hx=>by rw[hx.1];exact I.fl hx.2).fresh o5 fun x hx=>by rw[hx];exact I.fx
 refine⟨a,lv',δ,h1,h2,h3,h4,h5,lb',by rw[ha];exact e1,o1,hh2,by rw[ha];exact hh3,by rw[ha],e4,e5,I3.r.kx,by simpa[xC] using st,hh5,by rw[<-hlv'];exact bufSl_notTup,?_⟩
 have x5:h5[xb]?=some (.cells (xC (.ptr none) (bufSl cb it.length (ctC (al.map askP) (ctI it))) lv' 0) 163 false):=by rw[<-hh5];exact at_same (lt_of_at x4)
 refine⟨⟨by rw[hg,hlv'];exact x5,fun _=>atx d4 (.inr rfl),K5⟩,fun hz=>?_,fun hz=>atx (app_at o4 I3.r.kl (I3.k8 hz) (.inl (by decide))) (.inr rfl),fun hz=>atx (app_at o4 I3.r.kl (I3.k9 hz) (.inl (by decide))) (.inr rfl),
  fun hz=>atx (app_at o4 I3.r.kl (I3.k10 hz) (.inl (by decide))) (.inr rfl),I.n89,fun hz k b hb=>?_,o05,I.fx,fun _=>?_,I.fc,fun c hc=>?_,fun k b hb=>?_,fun x hx=>?_⟩
 . rw[hg];exact atx (app_at o4 I3.r.kl (I3.c hz) (.inl (by decide))) (.inr rfl)
 . rcases eb_snoc hb with hb|rfl
   . exact I.n10 hz k b hb
   . rw[ha]
     have:=lt_of_at (I.k10 hz)
     intro e
     have e':h1.length=b10:=e
     omega
 . rw[<-hlb']
   split
   . omega
   . rename_i hz;exact I.fl hz
 . rcases askF_snoc hc with hc|hc|hc
   . exact I.fa c hc
   . rw[hc,ha];show h₀.length<=h2.length;omega
   . rw[ha] at hc
     have:=f1 c hc;omega
 . rcases eb_snoc hb with hb|rfl
   . exact I.fe k b hb
   . rw[ha];show h₀.length<=h1.length;omega
 . obtain⟨t,q1,q2⟩:=I.ok x hx
   exact⟨t,by rw[List.getElem?_append_left (List.getElem?_eq_some_iff.1 q1).1];exact q1,q2⟩
end
end
def selOne(rs:List RuleV)(k:Int):Option RuleV:=if k<0 then none else rs[k.toNat]?
def selL(rs:List RuleV)(ks:List Int):List RuleV:=ks.filterMap (selOne rs)
def itF:Nat->List RuleV->List Itm
 |_,[]=>[]
 |q,r::rs=>itR q r.conts r.conts.length++itF (q+1) rs
theorem itF_snoc{r:RuleV}:∀{rs:List RuleV} {q:Nat},itF q (rs++[r])=itF q rs++itR (q+rs.length) r.conts r.conts.length
 |[],q=>by simp[itF]
 |x::rs,q=>by
  simp only[List.cons_append,itF,itF_snoc (rs:=rs) (q:=q+1),List.length_cons,List.append_assoc]
  rw[show q+1+rs.length=q+(rs.length+1) by omega]
theorem itF_len{B:Nat}:∀{rs:List RuleV} {q:Nat},(∀r∈rs,r.conts.length<=B)->(itF q rs).length<=B*rs.length
 |[],q,_=>by simp[itF]
 |r::rs,q,h=>by
  have h1:=itR_len (q:=q) (cs:=r.conts) (k:=r.conts.length)
  have h2:=itF_len (rs:=rs) (q:=q+1) fun x hx=>h x (List.mem_cons_of_mem _ hx)
  have h3:=h r (List.mem_cons_self ..)
  simp only[itF,List.length_append,List.length_cons,Nat.mul_add,Nat.mul_one]
  omega
theorem selL_succ{rs:List RuleV}{ks:List Int}{i:Nat}(hi:i<ks.length):selL rs (ks.take (i+1))=selL rs (ks.take i)++(selOne rs ks[i]).toList:=by
 simp only[selL]
 rw[List.take_succ_eq_append_getElem hi,List.filterMap_append]
 cases hx:selOne rs ks[i]<;>simp[hx]
theorem selL_len{rs:List RuleV}{ks:List Int}:(selL rs ks).length<=ks.length:=List.length_filterMap_le ..
theorem selL_mem{rs:List RuleV}{ks:List Int}{r:RuleV}(h:r∈selL rs ks):r∈rs:=by
 obtain⟨k,_,h⟩:=List.mem_filterMap.1 h
 unfold selOne at h
 split at h
 . simp at h
 . exact List.mem_of_getElem? h
theorem ask_one{a:AskH}:(askP a).one=true:=rfl
theorem build_166{rc:List AV}{p:AA}{q:AA}{n:Nat}(hl:rc.length=15)(ho:∀x∈rc,x.one=true):abuild Try.prog 166 [(0,.agg rc),(1,.ptr (some p)),(2,.sl (some q) n n)]=some (.agg (rc++[.ptr (some p),.sl (some q) n n,.bool false])):=by
 match rc,hl,ho with
 |[c0,c1,c2,c3,c4,c5,c6,c7,c8,c9,c10,c11,c12,c13,c14],_,ho=>
  have h0:=ho c0 (by simp)
  have h1:=ho c1 (by simp)
  have h2:=ho c2 (by simp)
  have h3:=ho c3 (by simp)
  have h4:=ho c4 (by simp)
  have h5:=ho c5 (by simp)
  have h6:=ho c6 (by simp)
  have h7:=ho c7 (by simp)
  have h8:=ho c8 (by simp)
  have h9:=ho c9 (by simp)
  have h10:=ho c10 (by simp)
  have h11:=ho c11 (by simp)
  have h12:=ho c12 (by simp)
  have h13:=ho c13 (by simp)
  have h14:=ho c14 (by simp)
  simp[-AV.one,one_ptr,one_sl,one_int,one_agg,abuild,afill,zeros,splice,h0,h1,h2,h3,h4,h5,h6,h7,h8,h9,h10,h11,h12,h13,h14]
abbrev env5(rv:AV)(most:Int)(xb:Nat)(w8 w9 w10:AV)(pv:AV)(N k:Nat):Env:=
 [(0,rv),(2,.int .i64 most),(7,xPtr xb),(8,w8),(9,w9),(10,w10),(21,pv),(22,.int .i64 N),(23,.int .i64 k)]
def In5(h₀:Heap)(rv:AV)(m0:Int)(xb:Nat)(pv:AV)(rs:List RuleV)(ks:List Int)(most:Nat)(m:Nat)(σ:St):Prop:=
 ∃k lb cb b8 b9 b10 al h,m=ks.length-k/\k<=ks.length/\σ=⟨env5 rv m0 xb (txtSl b8 (plI (itF 0 (selL rs (ks.take k))))) (txtSl b9 ((plI (itF 0 (selL rs (ks.take k)))).map fold)) (boolSl b10 (ncI (itF 0 (selL rs (ks.take k))))) pv ks.length k,h⟩ /\
  NewI h₀ h xb lb cb b8 b9 b10 al ((selL rs (ks.take k)).map (askOf most)) (itF 0 (selL rs (ks.take k)))
theorem pick_round{h₀ h:Heap}{pv:AV}{m0:Int}{most:Nat}{xb lb cb b8 b9 b10 rb:Nat}{al:List AskH}{rs:List RuleV}{ks:List Int}(hm:(most:Int)=max 1 (min m0 32))(RI:RulesIn h₀ rb rs)(hp:Sl1 h₀ pv (intCells ks))(hks:ks.length<=1000)(hfew:∀r∈rs,r.conts.length<=80)
  {k:Nat} (hk:k<ks.length) (I:NewI h₀ h xb lb cb b8 b9 b10 al ((selL rs (ks.take k)).map (askOf most)) (itF 0 (selL rs (ks.take k)))) {Q:AExit->St->Prop}
  (hq:∀st,In5 h₀ (rulesSl rb rs) m0 xb pv rs ks most (ks.length-(k+1)) st->Q .normal st):
  Wt Try.prog (D cfg) c81_l5 ⟨env5 (rulesSl rb rs) m0 xb (txtSl b8 (plI (itF 0 (selL rs (ks.take k))))) (txtSl b9 ((plI (itF 0 (selL rs (ks.take k)))).map fold)) (boolSl b10 (ncI (itF 0 (selL rs (ks.take k))))) pv ks.length k,h⟩ Q:=by
 have hpv:pv.notTup=true:=by rcases hp with⟨rfl,_⟩|⟨_,_,_,_,_,rfl,_,_⟩<;>rfl
 have hrv:(rulesSl rb rs).notTup=true:=bufSl_notTup
 have hil:(k:Int)<ks.length:=by omega
 have hwr:IntKind.wrap .i64 ((k:Int)+1)=k+1:=wrap_i64 (by omega) (by omega)
 obtain⟨z,hz⟩:∃z,z=ks[k]:=⟨_,rfl⟩
 have hkc:k<(intCells ks).length:=by simp[intCells];omega
 have a1:=hp.at (t:=30) (e:=3) (by simp) (by simp) hkc
 have l1:=(hp.same I.o).load (e:=3) (by simp) hkc
 have hzc:(intCells ks)[k]=.int .i64 z:=by simp[intCells,hz]
 rw[hzc] at l1
 have hsucc:=selL_succ (rs:=rs) hk
 rw[<-hz] at hsucc
 have hrl:=fun L=>RI.len (L:=L)
 have n1:(txtSl b8 (plI (itF 0 (selL rs (ks.take k))))).notTup=true:=txtSl_nt
 have n2:(txtSl b9 ((plI (itF 0 (selL rs (ks.take k)))).map fold)).notTup=true:=txtSl_nt
 have n3:(boolSl b10 (ncI (itF 0 (selL rs (ks.take k))))).notTup=true:=boolSl_nt
 have hsl:(selL rs (ks.take k)).length<=k:=by
  have:=selL_len (rs:=rs) (ks:=ks.take k)
  rw[List.length_take] at this;omega
 cases hsel:selOne rs z with
 |none=>
  rw[hsel] at hsucc
  simp only[Option.toList,List.append_nil] at hsucc
  have hnext:In5 h₀ (rulesSl rb rs) m0 xb pv rs ks most (ks.length-(k+1)) ⟨env5 (rulesSl rb rs) m0 xb (txtSl b8 (plI (itF 0 (selL rs (ks.take k))))) (txtSl b9 ((plI (itF 0 (selL rs (ks.take k)))).map fold)) (boolSl b10 (ncI (itF 0 (selL rs (ks.take k))))) pv ks.length (k+1),h⟩:=
   ⟨k+1,lb,cb,b8,b9,b10,al,h,rfl,hk,by rw[hsucc],by rw[hsucc];exact I⟩
  have hfin:=hq _ hnext
  simp only[env5] at hfin
  generalize txtSl b8 (plI (itF 0 (selL rs (ks.take k))))=x1 at *
  generalize txtSl b9 ((plI (itF 0 (selL rs (ks.take k)))).map fold)=x2 at *
  generalize boolSl b10 (ncI (itF 0 (selL rs (ks.take k))))=x3 at *
  generalize rulesSl rb rs=rv at *
  unfold selOne at hsel
  by_cases z1:z<0
  . simp[-AV.notTup,hrv,hpv,n1,n2,n3,notTup_ptr,c81_l5,c81_r5,c81_r6,c81_r7,c81_r18,hil,hk,a1,l1,z1,hwr]
    simpa using hfin
  . rw[if_neg z1] at hsel
    have hge:=List.getElem?_eq_none_iff.1 hsel
    have z2:(rs.length:Int)<=z:=by omega
    simp[-AV.notTup,hrv,hpv,n1,n2,n3,notTup_ptr,c81_l5,c81_r5,c81_r6,c81_r7,c81_r18,hil,hk,a1,l1,z1,z2,len1,hrl,hwr]
    simpa using hfin
 |some r=>
  rw[hsel] at hsucc
  simp only[Option.toList] at hsucc
  unfold selOne at hsel
  have z1:¬z<0:=fun h=>by rw[if_pos h] at hsel;simp at hsel
  rw[if_neg z1] at hsel
  obtain⟨j,rfl⟩:∃j:Nat,z=j:=⟨z.toNat,by omega⟩
  simp only[Int.toNat_natCast] at hsel
  obtain⟨hj,hrj⟩:=List.getElem?_eq_some_iff.1 hsel
  have z2:¬((rs.length:Int)<=j):=by omega
  have z2':¬(rs.length<=j):=by omega
  have hall:al.length=(selL rs (ks.take k)).length:=by rw[I.r.ak.len];simp
  obtain⟨a,lv',δ,h1,h2,h3,h4,h5,lb',e1,o1,hh2,hh3,hab,e4,e5,x3,st,hh5,nt',J⟩:=I.rule RI hj hm (by omega)
  have RI0:=RI.same I.o
  have RI1:=RI0.same o1
  have o5:Only (fun _=>False) h₀ h5:=J.o
  have RI5:=RI.same o5
  obtain⟨b1,b2,b3⟩:=RI0.at hj
  obtain⟨_,_,b4⟩:=RI1.at hj
  obtain⟨_,_,b5⟩:=RI5.at hj
  have okr:=RI.ok _ (List.getElem_mem hj)
  have hvr:=RI.cs _ (List.getElem_mem hj)
  have hcq:=RI0.cq _ (List.getElem_mem hj)
  have fr:=hfew _ (List.getElem_mem hj)
  have hrb:rs.length≠0:=by omega
  have s1:sameAt h h1 rb=true:=sameAt_of (RI0.sl hrb) (o1.at (RI0.sl hrb) id) RI.beq
  have s2:∀b,slB rs[j].cv=some b->sameAt h h1 b=true:=fun b hb=>by
   obtain⟨o,q1,q2⟩:=hcq b hb
   exact sameAt_of q1 (o1.at q1 id) (beq_cells q2)
  rw[hrj] at *
  have bld:=build_166 (rc:=r.rc) (p:=⟨a.tb,0,6⟩) (q:=⟨h1.length,0,r.conts.length⟩) (n:=r.conts.length) okr.len fun x hx=>plain_one (okr.plain x hx)
  have hb1:(r.conts.length:Int)<=281474976710656:=by omega
  have hb2:(r.conts.length:Int)<=9223372036854775807:=by omega
  obtain⟨w4,hw4⟩:∃w4,r.rc++[tPtr a.tb,endSl h1.length r.conts.length,.bool false]=w4:=⟨_,rfl⟩
  have hw18:w4.length=18:=by rw[<-hw4];simp[okr.len]
  have hone:(∀x,x∈w4->x.one=true)=True:=by
   rw[<-hw4]
   refine eq_true fun x hx=>?_
   simp only[List.mem_append,List.mem_cons,List.not_mem_nil,or_false] at hx
   rcases hx with hx|rfl|rfl|rfl
   . exact plain_one (okr.plain x hx)
   . rfl
   . rfl
   . rfl
  rw[hw4] at hh3 bld
  have q1:=cell_load x3 (n:=4) rfl (t:=161) (by simp) (off:=2) rfl
  obtain⟨cvv,hcvv⟩:∃x,bufSl cb (itF 0 (selL rs (ks.take k))).length (ctC (al.map askP) (ctI (itF 0 (selL rs (ks.take k)))))=x:=⟨_,rfl⟩
  obtain⟨lvv,hlvv⟩:∃x,bufSl lb al.length (al.map askP)=x:=⟨_,rfl⟩
  rw[hcvv] at st hh5
  rw[hlvv] at e4 q1
  have nl:lvv.notTup=true:=by rw[<-hlvv];exact bufSl_notTup
  have hrl':al.length=(selL rs (ks.take k)).length:=hall
  have hlast:(al++[a])[(selL rs (ks.take k)).length]?=some a:=by rw[<-hall];simp
  have hslast:((selL rs (ks.take k)).map (askOf most)++[askOf most r])[(selL rs (ks.take k)).length]?=some (askOf most r):=by simp
  have hse:(askOf most r).ends.length=r.conts.length:=by simp[askOf]
  have hit0:(itF 0 (selL rs (ks.take k))).length<=90000:=by
   have:=itF_len (B:=80) (rs:=selL rs (ks.take k)) (q:=0) fun x hx=>hfew x (selL_mem hx)
   have:80*(selL rs (ks.take k)).length<=80*1000:=Nat.mul_le_mul_left _ (by omega)
   omega
  have hsl':selL rs (ks.take (k+1))=selL rs (ks.take k)++[r]:=hsucc
  have hitn:itF 0 (selL rs (ks.take (k+1)))=itF 0 (selL rs (ks.take k))++itR (selL rs (ks.take k)).length r.conts r.conts.length:=by
   rw[hsl',itF_snoc,Nat.zero_add]
  have hloop:=fun Q hq=>items_loop (h₀:=h₀) (h:=h5) (rv:=rulesSl rb rs) (pv:=pv) (cv:=r.cv) (most:=m0) (xb:=xb) (N:=ks.length) (k:=k) (Q:=Q) hvr hrv hpv okr.small okr.few hit0 hlast hslast hse J hq
  have hlen:=fun L=>hvr.len (L:=L)
  have hnx:∀h' cb' b8' b9' b10',NewI h₀ h' xb lb' cb' b8' b9' b10' (al++[a]) ((selL rs (ks.take k)).map (askOf most)++[askOf most r]) (itF 0 (selL rs (ks.take k))++itR (selL rs (ks.take k)).length r.conts r.conts.length) ->
    Q .normal ⟨env5 (rulesSl rb rs) m0 xb (txtSl b8' (plI (itF 0 (selL rs (ks.take k))++itR (selL rs (ks.take k)).length r.conts r.conts.length))) (txtSl b9' ((plI (itF 0 (selL rs (ks.take k))++itR (selL rs (ks.take k)).length r.conts r.conts.length)).map fold)) (boolSl b10' (ncI (itF 0 (selL rs (ks.take k))++itR (selL rs (ks.take k)).length r.conts r.conts.length))) pv ks.length (k+1),h'⟩:=
   fun h' cb' b8' b9' b10' J'=>hq _ ⟨k+1,lb',cb',b8',b9',b10',al++[a],h',rfl,hk,by rw[hitn],by rw[hitn,hsl'];simpa using J'⟩
  obtain⟨it1,hit1⟩:∃x,itF 0 (selL rs (ks.take k))++itR (selL rs (ks.take k)).length r.conts r.conts.length=x:=⟨_,rfl⟩
  rw[hit1] at hloop hnx
  simp only[env5] at hnx
  simp only[env11] at hloop
  generalize txtSl b8 (plI (itF 0 (selL rs (ks.take k))))=x1 at *
  generalize txtSl b9 ((plI (itF 0 (selL rs (ks.take k)))).map fold)=x2 at *
  generalize boolSl b10 (ncI (itF 0 (selL rs (ks.take k))))=x3 at *
  have okl:=okr.len
  obtain⟨rv,hrvE⟩:∃rv,rulesSl rb rs=rv:=⟨_,rfl⟩
  rw[hrvE] at hrv b1 hloop hnx hrl ⊢
  obtain⟨cv,hcv⟩:∃cv,r.cv=cv:=⟨_,rfl⟩
  rw[hcv] at e1 b3 b4 b5 hloop hlen s2 hvr
  obtain⟨lm,hlm⟩:∃lm,(rulesC rs).length=lm:=⟨_,rfl⟩
  rw[hlm] at b1 b2 b3 b4 b5
  obtain⟨n,hn⟩:∃n,r.conts.length=n:=⟨_,rfl⟩
  rw[hn] at hb1 hb2 hh2 bld hlen hloop
  rw[show ((0:Nat):Int)=0 from rfl] at hloop
  rcases hvr with⟨rfl,_⟩|⟨cb0,g0,c0,cs0,rfl,_,_⟩
  . simp[-AV.notTup,-AV.one,hone,hw18,hrv,hpv,n1,n2,n3,nt',nl,notTup_ptr,c81_l5,c81_r5,c81_r6,c81_r7,c81_r8,c81_r9,c81_r10,hil,hk,a1,l1,z1,z2,z2',len1,hrl,b1,b2,b3,b4,b5,fieldA,e1,s1,hlen,
     amakeSlice,hb1,hb2,hh2,bld,hh3,q1,abuildSlice,afill,zeros,splice,ask_one,e4,e5,st,hh5,<-hab]
    refine hloop _ fun h' cb' b8' b9' b10' J'=>?_
    have hfin:=hnx h' cb' b8' b9' b10' J'
    have m1:(txtSl b8' (plI it1)).notTup=true:=txtSl_nt
    have m2:(txtSl b9' ((plI it1).map fold)).notTup=true:=txtSl_nt
    have m3:(boolSl b10' (ncI it1)).notTup=true:=boolSl_nt
    generalize txtSl b8' (plI it1)=y1 at *
    generalize txtSl b9' ((plI it1).map fold)=y2 at *
    generalize boolSl b10' (ncI it1)=y3 at *
    simp[-AV.notTup,hrv,hpv,m1,m2,m3,notTup_ptr,c81_r18,hwr]
    simpa using hfin
  . have s3:=s2 cb0 rfl
    simp[-AV.notTup,-AV.one,hone,hw18,hrv,hpv,n1,n2,n3,nt',nl,notTup_ptr,c81_l5,c81_r5,c81_r6,c81_r7,c81_r8,c81_r9,c81_r10,hil,hk,a1,l1,z1,z2,z2',len1,hrl,b1,b2,b3,b4,b5,fieldA,e1,s1,s3,hlen,
     amakeSlice,hb1,hb2,hh2,bld,hh3,q1,abuildSlice,afill,zeros,splice,ask_one,e4,e5,st,hh5,<-hab]
    refine hloop _ fun h' cb' b8' b9' b10' J'=>?_
    have hfin:=hnx h' cb' b8' b9' b10' J'
    have m1:(txtSl b8' (plI it1)).notTup=true:=txtSl_nt
    have m2:(txtSl b9' ((plI it1).map fold)).notTup=true:=txtSl_nt
    have m3:(boolSl b10' (ncI it1)).notTup=true:=boolSl_nt
    generalize txtSl b8' (plI it1)=y1 at *
    generalize txtSl b9' ((plI it1).map fold)=y2 at *
    generalize boolSl b10' (ncI it1)=y3 at *
    simp[-AV.notTup,hrv,hpv,m1,m2,m3,notTup_ptr,c81_r18,hwr]
    simpa using hfin
theorem picks_loop{h₀ h:Heap}{pv:AV}{m0:Int}{most:Nat}{xb rb:Nat}{rs:List RuleV}{ks:List Int}(hm:(most:Int)=max 1 (min m0 32))(RI:RulesIn h₀ rb rs)(hp:Sl1 h₀ pv (intCells ks))(hks:ks.length<=1000)(hfew:∀r∈rs,r.conts.length<=80)
  (I:NewI h₀ h xb 0 0 0 0 0 [] [] []) {Q:AExit->St->Prop}
  (hq:∀h' lb cb b8 b9 b10 al,NewI h₀ h' xb lb cb b8 b9 b10 al ((selL rs ks).map (askOf most)) (itF 0 (selL rs ks)) ->
   Q (.exit 0) ⟨env5 (rulesSl rb rs) m0 xb (txtSl b8 (plI (itF 0 (selL rs ks)))) (txtSl b9 ((plI (itF 0 (selL rs ks))).map fold)) (boolSl b10 (ncI (itF 0 (selL rs ks)))) pv ks.length ks.length++[(24,.bool false)],h'⟩):
  Wt Try.prog (D cfg) (.loop c81_l5 (some [0,2,7,8,9,10,21,22,23])) ⟨env5 (rulesSl rb rs) m0 xb (.sl none 0 0) (.sl none 0 0) (.sl none 0 0) pv ks.length 0,h⟩ Q:=by
 have hpv:pv.notTup=true:=by rcases hp with⟨rfl,_⟩|⟨_,_,_,_,_,rfl,_,_⟩<;>rfl
 have hrv:(rulesSl rb rs).notTup=true:=bufSl_notTup
 refine Wt.loop (In5 h₀ (rulesSl rb rs) m0 xb pv rs ks most) (m:=ks.length) ⟨0,0,0,0,0,0,[],h,rfl,Nat.zero_le _,?_,?_⟩ ?_
 . simp[selL,itF,plI,ncI,txtSl,boolSl,bufSl]
 . simpa[selL,itF] using I
 rintro m σ ⟨k,lb,cb,b8,b9,b10,al,h1,rfl,hk,rfl,I1⟩
 have hcut:∀w8 w9 w10,cut (some [0,2,7,8,9,10,21,22,23]) (env5 (rulesSl rb rs) m0 xb w8 w9 w10 pv ks.length k)=env5 (rulesSl rb rs) m0 xb w8 w9 w10 pv ks.length k:=fun _ _ _=>by
  generalize rulesSl rb rs=rv
  simp
 simp only[hcut]
 by_cases hkl:k<ks.length
 . refine pick_round hm RI hp hks hfew hkl I1 fun st hst=>?_
   exact⟨_,by omega,hst⟩
 . have hk2:k=ks.length:=by omega
   subst hk2
   rw[List.take_length] at I1 ⊢
   have hfin:=hq h1 lb cb b8 b9 b10 al I1
   have n1:(txtSl b8 (plI (itF 0 (selL rs ks)))).notTup=true:=txtSl_nt
   have n2:(txtSl b9 ((plI (itF 0 (selL rs ks))).map fold)).notTup=true:=txtSl_nt
   have n3:(boolSl b10 (ncI (itF 0 (selL rs ks)))).notTup=true:=boolSl_nt
   simp only[env5] at hfin
   generalize txtSl b8 (plI (itF 0 (selL rs ks)))=x1 at *
   generalize txtSl b9 ((plI (itF 0 (selL rs ks))).map fold)=x2 at *
   generalize boolSl b10 (ncI (itF 0 (selL rs ks)))=x3 at *
   generalize rulesSl rb rs=rv at *
   simp[-AV.notTup,hrv,hpv,n1,n2,n3,notTup_ptr,c81_l5,c81_r5]
   simpa using hfin
theorem itR_sought{q:Nat}{cs:List Cont}:∀{k:Nat},∀x∈itR q cs k,soughtB x.2=true
 |0,x,h=>by simp[itR] at h
 |k+1,x,h=>by
  simp only[itR,List.mem_append] at h
  rcases h with h|h
  . exact itR_sought x h
  . split at h
    . split at h
      . rename_i c _ hs
        simp at h
        rw[h];exact hs
      . simp at h
    . simp at h
theorem itF_sought:∀{rs:List RuleV} {q:Nat},∀x∈itF q rs,soughtB x.2=true
 |[],q,x,h=>by simp[itF] at h
 |r::rs,q,x,h=>by
  simp only[itF,List.mem_append] at h
  rcases h with h|h
  . exact itR_sought x h
  . exact itF_sought x h
theorem plI_good{it:List Itm}(h:∀x∈it,soughtB x.2=true):bgood (plI it)=true:=by
 simp only[bgood,plI,List.all_map,List.all_eq_true]
 intro x hx
 have:=h x hx
 simp only[soughtB,Bool.and_eq_true,decide_eq_true_eq] at this
 simp only[Function.comp,decide_eq_true_eq]
 omega
theorem askF_lt{h:Heap}{al:List AskH}{sl:List AskS}(H:AsksAt h al sl){c:Nat}(hc:askF al c):c<h.length:=by
 obtain⟨k,a,ha,hc⟩:=hc
 obtain⟨s,_,A⟩:=H.get ha
 rcases hc with rfl|hc
 . exact lt_of_at A.hdr
 . obtain⟨cs,t,h1,_⟩:=A.trk.typ hc
   exact lt_of_at h1
theorem new_side{h:Heap}{pv:AV}{m0:Int}{most:Nat}{rb:Nat}{rs:List RuleV}{ks:List Int}(hm:(most:Int)=max 1 (min m0 32))(RI:RulesIn h rb rs)(hp:Sl1 h pv (intCells ks))(hks:ks.length<=1000)(hfew:∀r∈rs,r.conts.length<=80)(hit:(itF 0 (selL rs ks)).length<=200):
  ∃xb lb cb sb lv nv BB al tab fl ob ou h',D cfg 81 [rulesSl rb rs,pv,.int .i64 m0] h=some (xPtr xb,h') /\
   SideAt h' xb lb cb sb lv nv BB al ((selL rs ks).map (askOf most)) (ctI (itF 0 (selL rs ks))) (plI (itF 0 (selL rs ks))) (ncI (itF 0 (selL rs ks))) [] tab fl ob ou/\Only (fun _=>False) h h' /\
   (∀c,sideF xb sb al c->h.length<=c)/\(∀c,scFoot sb lv nv BB (begs ((plI (itF 0 (selL rs ks))).map fold)).length ob ou c->h.length<=c):=by
 have hpv:pv.notTup=true:=by rcases hp with⟨rfl,_⟩|⟨_,_,_,_,_,rfl,_,_⟩<;>rfl
 have hpl:∀L,alen Try.prog L 30 pv=some (.int .i64 ks.length):=fun L=>by
  have:=hp.len (t:=30) (e:=3) (by simp) (L:=L)
  rwa[show (intCells ks).length=ks.length by simp[intCells]] at this
 have hrv:(rulesSl rb rs).notTup=true:=bufSl_notTup
 obtain⟨sl,hsl⟩:∃sl,(selL rs ks).map (askOf most)=sl:=⟨_,rfl⟩
 have key:∃r h',D cfg 81 [rulesSl rb rs,pv,.int .i64 m0] h=some (r,h')/\∃xb lb cb sb lv nv BB al tab fl ob ou,r=xPtr xb /\
   SideAt h' xb lb cb sb lv nv BB al sl (ctI (itF 0 (selL rs ks))) (plI (itF 0 (selL rs ks))) (ncI (itF 0 (selL rs ks))) [] tab fl ob ou/\Only (fun _=>False) h h' /\
   (∀c,sideF xb sb al c->h.length<=c)/\(∀c,scFoot sb lv nv BB (begs ((plI (itF 0 (selL rs ks))).map fold)).length ob ou c->h.length<=c):=by
  refine call81 (args:=[rulesSl rb rs,pv,.int .i64 m0]) (h:=h) (by simp) ?_
  obtain⟨h1,hh1⟩:∃h1,h++[AObj.cells [.ptr none,.sl none 0 0,.sl none 0 0,.int .i64 0] 163 false]=h1:=⟨_,rfl⟩
  have o1:Only (fun _=>False) h h1:=by rw[<-hh1];exact .app
  have I0:NewI h h1 h.length 0 0 0 0 0 [] [] []:=by
   refine⟨⟨by rw[<-hh1];simp[bufSl],fun e=>absurd rfl e,.nil⟩,fun e=>absurd rfl e,fun e=>absurd rfl e,fun e=>absurd rfl e,fun e=>absurd rfl e,fun e=>absurd rfl e,fun e=>absurd rfl e,o1,Nat.le_refl _,fun e=>absurd rfl e,fun e=>absurd rfl e,?_,?_,?_⟩
   . rintro c ⟨k,a,ha,_⟩;simp at ha
   . intro k a ha;simp at ha
   . intro x hx;simp[ctI] at hx
  have hloop:=fun Q hq=>picks_loop (Q:=Q) hm RI hp hks hfew I0 hq
  rw[hsl] at hloop
  obtain⟨rv,hrvE⟩:∃rv,rulesSl rb rs=rv:=⟨_,rfl⟩
  rw[hrvE] at hrv hloop ⊢
  simp only[env5] at hloop
  simp[-AV.notTup,hrv,hpv,notTup_ptr,c81,c81_r0,c81_r1,c81_r2,c81_r3,c81_r4,abuild,afill,zeros,splice,hh1,len1,hpl]
  try simp[AV.notTup] at hh1 ⊢
  try rw[hh1]
  refine hloop _ fun h2 lb cb b8 b9 b10 al I=>?_
  obtain⟨it,hitE⟩:∃it,itF 0 (selL rs ks)=it:=⟨_,rfl⟩
  have hsg:∀x∈it,soughtB x.2=true:=by rw[<-hitE];exact itF_sought
  rw[hitE] at hit I ⊢
  have hg:=plI_good hsg
  have n1:(txtSl b8 (plI it)).notTup=true:=txtSl_nt
  have n2:(txtSl b9 ((plI it).map fold)).notTup=true:=txtSl_nt
  have n3:(boolSl b10 (ncI it)).notTup=true:=boolSl_nt
  have v8:Sl1 h2 (txtSl b8 (plI it)) (strCells (plI it)):=Sl1.txt (s:=true) fun hne=>I.k8 (by rwa[plI_len] at hne)
  have v9:Sl1 h2 (txtSl b9 ((plI it).map fold)) (strCells ((plI it).map fold)):=Sl1.txt (s:=true) fun hne=>I.k9 (by rwa[List.length_map,plI_len] at hne)
  have v10:Sl1 h2 (boolSl b10 (ncI it)) (boolCells (ncI it)):=by
   have:=Sl1.buf (h:=h2) (b:=b10) (e:=4) (s:=true) (xs:=boolCells (ncI it)) fun hne=>I.k10 (by rwa[boolCells_len,ncI_len] at hne)
   rwa[boolCells_len] at this
  have hb:=begs_fold_le hg (by rw[plI_len];exact hit)
  obtain⟨B,tab,fl,ob,ou,h3,e3,o3,A,fA⟩:=build_ok (bud:=4096) v9 (slB_lt v9) (by rw[List.length_map,plI_len];omega) (by rw[bgood_fold];exact hg) (by omega) hb
  obtain⟨sb,lv,nv,h4,e4,S4,o4,f4,fsb⟩:=scan_new A (v8.same o3) (v10.same o3) hg (by rw[plI_len];exact hit) (by rw[ncI_len];omega)
  have R4:=(I.r.same o3).same o4
  obtain⟨cvv,hcvv⟩:∃x,bufSl cb it.length (ctC (al.map askP) (ctI it))=x:=⟨_,rfl⟩
  have st:=cell_store R4.kx (n:=4) rfl (t:=69) (by simp) (off:=0) (v:=scPtr sb) rfl (by omega)
  obtain⟨h5,hh5⟩:∃h5,h4.set h.length (.cells (xC (scPtr sb) (bufSl cb it.length (ctC (al.map askP) (ctI it))) (bufSl lb al.length (al.map askP)) 0) 163 false)=h5:=⟨_,rfl⟩
  obtain⟨R5,o5⟩:=R4.hdr hh5
  have hf:∀c,scFoot sb lv nv B (begs ((plI it).map fold)).length ob ou c->h2.length<=c/\c<h5.length:=fun c hc=>by
   have L3:=o3.1
   have L5:=o5.1
   refine⟨?_,?_⟩
   . rcases f4 c hc with h6|h6
     . exact fA c h6
     . omega
   . rcases hc with rfl|hc|hc|hc
     . obtain⟨_,_,h6⟩:=S4.sc.hdr
       have:=lt_of_at h6;omega
     . have:=slB_lt S4.l_ c hc;omega
     . have:=slB_lt S4.n_ c hc;omega
     . have:=S4.auto.at_.foot_lt hc;omega
  have hx2:=lt_of_at I.r.kx
  have heb:∀(k:Nat) (a:AskH),al[k]?=some a->a.eb<h2.length:=fun k a ha=>by
   obtain⟨s,_,A⟩:=I.r.ak.get ha
   exact lt_of_at A.ends
  have S5:ScanX h5 sb lv nv B (plI it) (ncI it) [] tab fl ob ou:=S4.keep o5 fun c hc e=>by
   have:=(hf c hc).1;omega
  have o02:Only (fun _=>False) h h5:=((I.o.trans o3).trans o4).fresh o5 fun c e=>by omega
  have c5:it.length≠0->h5[cb]?=some (.cells (ctC (al.map askP) (ctI it)) 168 true):=fun hne=>o5.at (o4.at (o3.at (I.c hne) id) id) fun e=>by
   have:=I.c hne
   rw[e,I.r.kx] at this;simp at this
  have hside:SideAt h5 h.length lb cb sb lv nv B al sl (ctI it) (plI it) (ncI it) [] tab fl ob ou:=by
   refine⟨by rw[ctI_len];exact R5,fun hne=>c5 (by rwa[ctI_len] at hne),S5,I.ok,by rw[ctI_len,plI_len],fun c hc=>?_⟩
   obtain⟨q1,q2⟩:=hf c hc
   refine⟨q2,by omega,fun e=>?_,fun k a ha e=>?_⟩
   . have:=askF_lt I.r.ak e;omega
   . have:=heb k a ha;omega
  have hfin:∃xb lb cb sb lv nv BB al tab fl ob ou,xPtr h.length=xPtr xb /\
    SideAt h5 xb lb cb sb lv nv BB al sl (ctI it) (plI it) (ncI it) [] tab fl ob ou/\Only (fun _=>False) h h5 /\
    (∀c,sideF xb sb al c->h.length<=c)/\(∀c,scFoot sb lv nv BB (begs ((plI it).map fold)).length ob ou c->h.length<=c):=by
   have L2:=I.o.1
   refine⟨h.length,lb,cb,sb,lv,nv,B,al,tab,fl,ob,ou,rfl,hside,o02,fun c hc=>?_,fun c hc=>?_⟩
   . rcases hc with rfl|rfl|hc|⟨k,a,ha,rfl⟩
     . exact Nat.le_refl _
     . have:=o3.1;omega
     . exact I.fa c hc
     . exact I.fe k a ha
   . have:=(hf c hc).1;omega
  generalize txtSl b8 (plI it)=x1 at *
  generalize txtSl b9 ((plI it).map fold)=x2 at *
  generalize boolSl b10 (ncI it)=x3 at *
  have hh5':h4.set h.length (.cells [scPtr sb,bufSl cb it.length (ctC (al.map askP) (ctI it)),bufSl lb al.length (al.map askP),.int .i64 0] 163 false)=h5:=hh5
  simp[-AV.cells,-AV.one,-AV.notTup,hrv,hpv,n1,n2,n3,notTup_ptr,c81_r19,c81_r20,c81_r21,extractV,e3,e4,fieldA,st,hh5']
  simpa using hfin
 obtain⟨r,h',e,xb,lb,cb,sb,lv,nv,BB,al,tab,fl,ob,ou,rfl,rest⟩:=key
 rw[hsl]
 exact⟨xb,lb,cb,sb,lv,nv,BB,al,tab,fl,ob,ou,h',e,rest⟩
section
section
variable {h:Heap} {xb lb cb sb:Nat} {lv nv:AV} {BB:AB} {al:List AskH} {sl:List AskS} {ct:List (Nat×Nat)} {pl:List Txt} {nc:List Bool} {w:Txt} {tab:Nat->Nat->Nat} {fl ob:Nat->Nat} {ou:Nat->List Int}
theorem SideAt.typ(H:SideAt h xb lb cb sb lv nv BB al sl ct pl nc w tab fl ob ou){c:Nat}(hc:sideF xb sb al c):∃cs t g,h[c]?=some (.cells cs t g)/\(t=163\/t=136\/t=166\/t=144\/t=147\/t=181\/t=4)/\(g=true->t=4):=by
 rcases hc with rfl|rfl|⟨k,a,ha,hc⟩|⟨k,a,ha,rfl⟩
 . exact⟨_,_,_,H.r.kx,.inl rfl,fun e=>by simp at e⟩
 . obtain⟨ring,_,h1⟩:=H.s.sc.hdr
   exact⟨_,_,_,h1,.inr (.inl rfl),fun e=>by simp at e⟩
 . obtain⟨s,_,A⟩:=H.r.ak.get ha
   rcases hc with rfl|hc
   . exact⟨_,_,_,A.hdr,.inr (.inr (.inl rfl)),fun e=>by simp at e⟩
   . obtain⟨cs,t,h1,h2⟩:=A.trk.typ hc
     exact⟨cs,t,false,h1,by rcases h2 with e|e|e<;>simp[e],fun e=>by simp at e⟩
 . obtain⟨s,_,A⟩:=H.r.ak.get ha
   exact⟨_,_,_,A.ends,by simp,fun _=>rfl⟩
theorem SideAt.lt(H:SideAt h xb lb cb sb lv nv BB al sl ct pl nc w tab fl ob ou){c:Nat}(hc:sideF xb sb al c):c<h.length:=by
 obtain⟨cs,t,g,h1,_⟩:=H.typ hc
 exact lt_of_at h1
theorem NotesAt.side(H:SideAt h xb lb cb sb lv nv BB al sl ct pl nc w tab fl ob ou){h':Heap}{v:AV}{ns:List Note}(hn:NotesAt h v ns)(ho:Only (fun c=>sideF xb sb al c\/h.length<=c) h h'):NotesAt h' v ns:=by
 obtain⟨nk,h1,h2⟩:=hn
 refine⟨nk,h1,fun hne=>ho.at (h2 hne) fun e=>?_⟩
 rcases e with e|e
 . obtain⟨cs,t,g,h3,h4,_⟩:=H.typ e
   rw[h2 hne] at h3
   simp only[Option.some.injEq,AObj.cells.injEq] at h3
   obtain⟨_,e1,_⟩:=h3
   rw[<-e1] at h4
   revert h4
   decide
 . have:=lt_of_at (h2 hne);omega
theorem begin_side(H:SideAt h xb lb cb sb lv nv BB al sl ct pl nc w tab fl ob ou)(hsl:sl.length<=1000){ns:List Note}(hns:ns=toldNotes (fun s=>s.T) w.length sl):
  ∃v al' h',D cfg1 82 [xPtr xb] h=some (.tup [v,.int .i64 (worstM ns)],h')/\NotesAt h' v ns/\v.notTup=true/\SideAt h' xb lb cb sb lv nv BB al' (sl.map (stepS fun s=>s.T)) ct pl nc w tab fl ob ou /\
   Only (fun c=>sideF xb sb al c\/h.length<=c) h h'/\(∀c,sideF xb sb al' c->sideF xb sb al c\/h.length<=c):=by
 obtain⟨v,al',h',e,N,hv,R,o,f,m1,m2⟩:=begin_run hsl H.r
 rw[<-hns] at e N
 have hebs:∀(k:Nat) (a:AskH),al'[k]?=some a->∃a0,al[k]?=some a0/\a.eb=a0.eb:=fun k a ha=>by
  have h1:(al'.map (fun a=>a.eb))[k]?=some a.eb:=by simp[ha]
  rw[m2,List.getElem?_map] at h1
  cases h2:al[k]? with
  |none=>rw[h2] at h1;simp at h1
  |some a0=>rw[h2] at h1;simp at h1;exact⟨a0,rfl,h1.symm⟩
 have out:∀{c:Nat} {cs:List AV} {t:TypeId},h[c]?=some (.cells cs t true)->¬(askF al c\/h.length<=c):=fun hc e=>by
  rcases e with⟨k,a,ha,e⟩|e
  . obtain⟨q1,q2⟩:=H.r.ak.apart ha hc (.inl rfl)
    rcases e with e|e
    . exact q1 e.symm
    . exact q2 e
  . have:=lt_of_at hc;omega
 refine⟨v,al',h',e,N,hv,⟨?_,fun hne=>?_,?_,fun x hx=>?_,H.cl,fun c hc=>?_⟩,o.mono fun c _ e=>e.imp (fun e=>.inr (.inr (.inl e))) id,fun c hc=>?_⟩
 . rw[m1];exact R
 . rw[m1];exact o.at (H.c hne) (out (H.c hne))
 . refine H.s.keep o fun c hc e=>?_
   obtain⟨p1,p2,p3,p4⟩:=H.ap c hc
   rcases e with e|e
   . exact p3 e
   . omega
 . obtain⟨s,q1,q2⟩:=H.ok x hx
   exact⟨stepS (fun s=>s.T) s,by simp[q1],by rw[toldS_ends];exact q2⟩
 . obtain⟨p1,p2,p3,p4⟩:=H.ap c hc
   refine⟨by have:=o.1;omega,p2,fun e=>?_,fun k a ha e=>?_⟩
   . rcases f c e with e|e
     . exact p3 e
     . omega
   . obtain⟨a0,q1,q2⟩:=hebs k a ha
     exact p4 k a0 q1 (by rw[<-q2];exact e)
 . rcases hc with e|e|e|⟨k,a,ha,e⟩
   . exact .inl (.inl e)
   . exact .inl (.inr (.inl e))
   . rcases f c e with e|e
     . exact .inl (.inr (.inr (.inl e)))
     . exact .inr e
   . obtain⟨a0,q1,q2⟩:=hebs k a ha
     exact .inl (.inr (.inr (.inr ⟨k,a0,q1,by rw[<-q2];exact e⟩)))
end
def rc0:List AV:=[.int .i64 2,.int .i64 0,.bool false,.sl none 0 0,.bool false,.sl none 0 0,.bool false,.sl none 0 0,.bool false,.sl none 0 0,.bool false,.int .i64 0,.sl none 0 0,.int .i64 7,.int .i64 1]
def rule0:RuleV:=⟨rc0,2,7,.sl none 0 0,[]⟩
theorem rule0_ok:rule0.ok:=⟨rfl,rfl,rfl,rfl,by simp[rule0],fun c hc=>by simp[rule0] at hc,fun x hx=>by
 simp[rule0,rc0] at hx
 rcases hx with rfl|rfl|rfl|rfl|rfl|rfl|rfl|rfl|rfl|rfl|rfl|rfl|rfl|rfl|rfl<;>rfl⟩
theorem call1_79{h:Heap}{R:AV->Heap->Prop}(hw:Wt Try.prog (D cfg1) c79 ⟨[],h⟩ (Ends Try.prog [.tmp 0] R)):∃r h',D cfg1 79 [] h=some (r,h')/\R r h':=
 let ⟨_,hb,hk⟩:=c79_eq
 W.calls (c:=cfg1) (args:=[]) rfl c79_fn hb hk c79_rs (by rw[c79_nt];simp) hw
theorem awake24w:∃h',D cfg1 79 [] []=some (.bool true,h'):=by
 have key:∃r h',D cfg1 79 [] []=some (r,h')/\r=.bool true:=by
  refine call1_79 (R:=fun r h'=>r=.bool true) ?_
  have RI:RulesIn [.cells rc0 107 true,.cells [.int .i64 0] 3 true] 0 [rule0]:=by
   refine⟨fun _=>by simp[rulesC,rule0],fun r hr=>?_,fun r hr=>?_,fun r hr b hb=>?_⟩
   . simp at hr;rw[hr];exact rule0_ok
   . simp at hr;rw[hr];exact .inl ⟨rfl,rfl⟩
   . simp at hr;rw[hr] at hb;simp[rule0,slB] at hb
  have hp:Sl1 [.cells rc0 107 true,.cells [.int .i64 0] 3 true] (.sl (some ⟨1,0,1⟩) 1 1) (intCells [0]):=Sl1.cells (b:=1) (e:=3) (s:=true) (xs:=intCells [0]) rfl
  have hsel:selL [rule0] [0]=[rule0]:=by simp[selL,selOne]
  have hit:itF 0 (selL [rule0] [0])=[]:=by rw[hsel];simp[itF,itR,rule0]
  obtain⟨xb,lb,cb,sb,lv,nv,BB,al,tab,fl,ob,ou,h1,e1,S1,o1,f1,_⟩:=new_side (most:=4) (m0:=4) (by decide) RI hp (by simp) (fun r hr=>by simp at hr;rw[hr];simp[rule0]) (by rw[hit];simp)
  rw[hit,hsel] at S1
  simp only[List.map_cons,List.map_nil] at S1
  have hT:(askOf 4 rule0).T=⟨4,0,[],[],false,false⟩:=rfl
  have hns:([⟨7,0,2⟩]:List Note)=toldNotes (fun s=>s.T) ([]:Txt).length [askOf 4 rule0]:=by
   simp[toldNotes,stepN,toldN,stepO,askOf,hT,TS.holds,rule0,newTo]
  obtain⟨v,al2,h2,e2,N2,v2,S2,o2,f2⟩:=begin_side S1 (by simp) hns
  have hw2:worstM [⟨7,0,2⟩]=2:=rfl
  rw[hw2] at e2
  have hsl2:[askOf 4 rule0].map (stepS fun s=>s.T)=[{ askOf 4 rule0 with over:=true }]:=by
   simp[stepS,toldS,askOf,TS.holds,rule0,newTo]
  rw[hsl2] at S2
  have hzs:([]:List Int)=scHits (ncI []) (([]:Txt)++[97]) (plI []) 0:=rfl
  have hns3:([]:List Note)=toldNotes stpS (([]:Txt).length+1) (setsTo true (ctI []) [{ askOf 4 rule0 with over:=true }] []):=by
   simp[toldNotes,stepN,stepO,setsTo]
  obtain⟨v3,al3,h3,e3,N3,nt3,S3,o3,f3⟩:=step_side S2 (by simp) (fun s hs=>by simp at hs;rw[hs];simp[askOf,rule0,newTo]) (by simp) (b:=97) hzs hns3
  have hw3:worstM []=0:=rfl
  rw[hw3] at e3
  have N2':=N2.side S2 o3
  have l2:=fun L=>N2'.len (L:=L)
  have l3:=fun L=>N3.len (L:=L)
  obtain⟨q,a2,_,nk,rfl,g2⟩:=N2'.at (i:=0) (by simp)
  have hnc:notesC [⟨7,0,2⟩]=[.int .i64 7,.int .i64 0,.int .i64 0,.int .i64 2]:=rfl
  rw[hnc] at g2 a2
  have c0:=cell_load g2 (n:=4) rfl (t:=3) (by simp) (off:=0) rfl
  have c2:=cell_load g2 (n:=4) rfl (t:=3) (by simp) (off:=2) rfl
  have e1':D cfg1 81 [.sl (some ⟨0,0,15⟩) 1 1,.sl (some ⟨1,0,1⟩) 1 1,.int .i64 4] [.cells rc0 107 true,.cells [.int .i64 0] 3 true]=some (xPtr xb,h1):=lift e1
  have w78:=fun h=>lift (worse78 (a:=4) (b:=3) (h:=h))
  simp only[rc0] at e1'
  simp at a2 l2 l3
  have e3':D cfg1 83 [xPtr xb,.int .u8 97] h2=some (.tup [v3,.int .i64 0],h3):=e3
  simp[-AV.notTup,v2,nt3,notTup_ptr,c79,c79_r0,c79_r1,c79_r2,c79_r4,c79_r5,c79_r6,abuild,abuildSlice,afill,zeros,splice,extractV,e1',e2,e3',len1,l2,l3,a2,fieldA,c0,c2,w78]
  rfl
 obtain⟨r,h',h1,rfl⟩:=key
 exact⟨h',h1⟩
theorem awake24{fs:List FuncId}(hf:fs.contains 79=true){h:Heap}:mixed fs (D cfg1) 79 [] h=some (.bool true,h):=by
 obtain⟨h',hx⟩:=awake24w
 simp only[mixed,hf,if_true,forget,hx,plainArgs]
 simp
end
section
section
variable {P:Program} {F:CallF}
def Unr(P:Program)(F:CallF)(k:SC)(keep:Option (List Nat))(Q:AExit->St->Prop):Nat->St->Prop
 |0,s=>Wt P F k ⟨cut keep s.ρ,s.h⟩ (andThen (fun _=>False) Q)
 |m+1,s=>Wt P F k ⟨cut keep s.ρ,s.h⟩ (andThen (Unr P F k keep Q m) Q)
theorem Wt.unr{k:SC}{keep:Option (List Nat)}{Q:AExit->St->Prop}(m:Nat){s:St}(h:Unr P F k keep Q m s):Wt P F (.loop k keep) s Q:=by
 refine Wt.loop (fun m s=>Unr P F k keep Q m s) (m:=m) h ?_
 intro m s hs
 cases m with
 |zero=>
  refine W.mono hs fun e s' hx=>?_
  cases e with
  |normal=>exact hx.elim
  |exit id=>exact hx
  |ret=>exact hx
 |succ m=>
  refine W.mono hs fun e s' hx=>?_
  cases e with
  |normal=>exact⟨m,Nat.lt_succ_self _,hx⟩
  |exit id=>exact hx
  |ret=>exact hx
end
def netMask(b:Int):Int:=if b=30 then 4294967292 else if b=31 then 4294967294 else 4294967295
theorem mask_run{h:Heap}{b:Int}(hb:b=30\/b=31\/b=32):D cfg 125 [.int .i64 b] h=some (.int .u32 (netMask b),h):=by
 refine D_eq (call125 (R:=fun r h'=>r=_/\h'=_) (by simp) ?_)
 rcases hb with rfl|rfl|rfl <;>
 . simp[c125,c125_r0,c125_r1,c125_r2,c125_r3,aconv,abin_shl,netMask,IntKind.wrap,IntKind.bits,IntKind.signed]
theorem in_run{h:Heap}{b:Int}(hb:b=30\/b=31\/b=32):∃h',D cfg 130 [.agg [.int .u32 167772161,.int .i64 b],.int .u32 167772161] h=some (.bool true,h')/\Only (fun _=>False) h h':=by
 refine⟨h++[.cells [.int .u32 167772161,.int .i64 b] 158 false],D_eq (call130 (R:=fun r h'=>r=_/\h'=_) (by simp) ?_),.app⟩
 have m:=fun h=>mask_run (h:=h) hb
 have hm:IntKind.wrap .u32 ((BitVec.ofInt 32 (IntKind.wrap .u32 0) &&& BitVec.ofInt 32 (netMask b)).toNat:Int)=0:=by rcases hb with rfl|rfl|rfl<;>decide
 have hx:IntKind.wrap .u32 ((BitVec.ofInt 32 167772161 ^^^ BitVec.ofInt 32 167772161).toNat:Int)=0:=by decide
 have hs:∀h:Heap,sameAt (h++[AObj.cells [AV.int .u32 167772161,.int .i64 b] 158 false]) (h++[AObj.cells [AV.int .u32 167772161,.int .i64 b] 158 false]) h.length=true:=fun h=>
  sameAt_of (o:=.cells [AV.int .u32 167772161,.int .i64 b] 158 false) (by simp) (by simp) (by simp[AObj.beq,beqL,AV.beq,AV.beqP])
 simp[c130,c130_r0,c130_r1,m,hx,hs,IntKind.bits,aload,AM.row,fieldA]
 exact hm
theorem covers_run{h:Heap}{b:Int}(hb:b=30\/b=31\/b=32):∃h',D cfg 124 [.agg [.int .u32 167772161,.int .i64 b],.agg [.int .u32 167772161,.int .i64 b]] h=some (.bool true,h')/\Only (fun _=>False) h h':=by
 obtain⟨h',e,o⟩:=in_run (h:=h++[.cells [.int .u32 167772161,.int .i64 b] 158 false,.cells [.int .u32 167772161,.int .i64 b] 158 false]) hb
 refine⟨h',D_eq (call124 (R:=fun r h''=>r=_/\h''=h') (by simp) ?_),Only.app.trans o⟩
 have g0:(h++[AObj.cells [AV.int .u32 167772161,.int .i64 b] 158 false,.cells [.int .u32 167772161,.int .i64 b] 158 false])[h.length]?=some (.cells [.int .u32 167772161,.int .i64 b] 158 false):=by simp
 have g1:(h++[AObj.cells [AV.int .u32 167772161,.int .i64 b] 158 false,.cells [.int .u32 167772161,.int .i64 b] 158 false])[h.length+1]?=some (.cells [.int .u32 167772161,.int .i64 b] 158 false):=at_new
 obtain⟨hh,hhh⟩:∃hh,h++[AObj.cells [AV.int .u32 167772161,.int .i64 b] 158 false,.cells [.int .u32 167772161,.int .i64 b] 158 false]=hh:=⟨_,rfl⟩
 rw[hhh] at e g0 g1
 simp[c124,c124_r0,c124_r1,hhh,aload,AM.row,g0,g1,fieldA,e]
inductive NetAt (h:Heap):AV->Prop where
 |none:NetAt h (.sl none 0 0)
 |one (nb:Nat) (b:Int) (hb:b=30\/b=31\/b=32) (hn:h[nb]?=some (.cells [.int .u32 167772161,.int .i64 b] 158 true)):NetAt h (.sl (some ⟨nb,0,2⟩) 1 1)
theorem check_run{h:Heap}{b0:Bool}{v:AV}(H:NetAt h v):∃h',D cfg 123 [.agg [.bool b0,v]] h=some (.bool true,h')/\Only (fun _=>False) h h':=by
 refine⟨h++[.cells [.bool b0,v] 102 false],D_eq (call123 (R:=fun r h'=>r=_/\h'=_) (by simp) ?_),.app⟩
 cases H with
 |none=>
  simp[c123,c123_r0,c123_r1]
  refine Wt.unr 0 ?_
  simp[Unr,c123_l2,c123_r2,aload,AM.row,fieldA,len1,alen,c123_r6]
 |one nb b hb hn=>
  have hlt:=lt_of_at hn
  have g:(h++[AObj.cells [AV.bool b0,.sl (some ⟨nb,0,2⟩) 1 1] 102 false])[nb]?=some (.cells [.int .u32 167772161,.int .i64 b] 158 true):=by rw[List.getElem?_append_left hlt];exact hn
  have hb1:¬b<0:=by omega
  have hb2:¬32<b:=by omega
  have w1:IntKind.wrap .i64 1=1:=rfl
  simp[c123,c123_r0,c123_r1]
  refine Wt.unr 1 ?_
  simp[Unr,c123_l2,c123_r2,c123_r3,c123_r4,aload,AM.row,fieldA,len1,alen,c123_r6,aindexAddr,g,hb1,hb2,w1]
end
theorem rulesC_snoc{rs:List RuleV}{r:RuleV}:rulesC rs++r.rc=rulesC (rs++[r]):=by simp[rulesC]
theorem append_rule{h:Heap}{b:Nat}{rs:List RuleV}{r:RuleV}(hok:∀x∈rs,x.ok)(hr:r.ok)(hb:rs.length≠0->h[b]?=some (.cells (rulesC rs) 107 true))(hn:rs.length<=1000000):
  ∃δ h',append2 Try.prog (look (h++[AObj.cells r.rc 107 true])) (h.length+1) 89 89 [rulesSl b rs,.sl (some ⟨h.length,0,15⟩) 1 1]=some (rulesSl (if rs.length=0 then h.length+1 else b) (rs++[r]),δ)/\Heap.apply (h++[AObj.cells r.rc 107 true]) δ=h' /\
   h'[if rs.length=0 then h.length+1 else b]?=some (.cells (rulesC (rs++[r])) 107 true)/\Only (fun x=>x=b/\rs.length≠0) h h':=by
 obtain⟨δ,h',h1,h2,h3,h4⟩:=append_buf2 (t:=89) (e:=107) (k:=15) (by simp) (by simp) (by decide) (by simp) (by simp) (h:=h) (b:=b) (n:=rs.length) (xs:=rulesC rs) (ys:=r.rc) hr.len (rulesC_len hok) hb hn
 rw[rulesC_snoc] at h1 h3
 refine⟨δ,h',?_,h2,h3,h4⟩
 rw[show rs.length+1=(rs++[r]).length by simp] at h1
 exact h1
theorem rulesSl_nt{b:Nat}{rs:List RuleV}:(rulesSl b rs).notTup=true:=bufSl_notTup
theorem worstM_snoc{l:List Note}{n:Note}:worstM (l++[n])=max (worstM l) n.action:=by
 simp only[worstM,List.foldl_append,List.foldl_cons,List.foldl_nil]
 split<;>omega
theorem result_cell{P:Program}{s:St}{a:Nat}{t:TypeId}{rs:List ResultVar}:aresultL P s (.cell a t::rs)=bindO (s.ρ.get a) fun p=>bindO (aload P (look s.h) t p) fun v=>bindO (aresultL P s rs) fun vs=>some (v::vs):=by
 simp only[aresultL,aresult]
 cases s.ρ.get a with
 |none=>rfl
 |some p=>
  show (match aload P (look s.h) t p,aresultL P s rs with
   |some v,some vs=>some (v::vs)
   |_,_=>none)=bindO (aload P (look s.h) t p) fun v=>bindO (aresultL P s rs) fun vs=>some (v::vs)
  generalize aload P (look s.h) t p=X
  generalize aresultL P s rs=Y
  cases X<;>cases Y<;>rfl
theorem store_set{h:Heap}{b:Bool}{w:AV}(hw:w.one=true):astore Try.prog (look (h++[AObj.cells [.bool false,.sl none 0 0] 102 false])) 102 (.ptr (some ⟨h.length,0,2⟩)) (.agg [.bool b,w])=some (.set h.length (.cells [.bool b,w] 102 false)):=by
 simp[-AV.one,one_agg,one_bool',astore,splice,hw]
where
 one_bool':∀{b:Bool},(AV.bool b).one=true:=rfl
theorem clean_none{h:Heap}{b0:Bool}:∃h',D cfg 112 [.agg [.bool b0,.sl none 0 0]] h=some (.agg [.bool b0,.sl none 0 0],h')/\Only (fun _=>False) h h':=by
 have key:∃r h',D cfg 112 [.agg [.bool b0,.sl none 0 0]] h=some (r,h')/\(r=.agg [.bool b0,.sl none 0 0]/\Only (fun _=>False) h h'):=by
  refine call112 (R:=fun r h'=>r=.agg [.bool b0,.sl none 0 0]/\Only (fun _=>False) h h') (args:=[.agg [.bool b0,.sl none 0 0]]) (h:=h) (by simp) ?_
  obtain⟨h2,hh2⟩:∃h2,h++[.cells [.bool b0,.sl none 0 0] 102 false,.cells [.bool false,.sl none 0 0] 102 false]=h2:=⟨_,rfl⟩
  have o2:Only (fun _=>False) h h2:=by rw[<-hh2];exact .app
  have g1:h2[h.length]?=some (.cells [.bool b0,.sl none 0 0] 102 false):=by rw[<-hh2];simp
  have g2:h2[h.length+1]?=some (.cells [.bool false,.sl none 0 0] 102 false):=by rw[<-hh2];exact at_new
  obtain⟨h3,e3,o3⟩:=check_run (h:=h2) (b0:=b0) .none
  have k1:=o3.at g1 id
  have k2:=o3.at g2 id
  obtain⟨h4,hh4⟩:∃h4,h3++[.cells [.bool b0,.sl none 0 0] 102 false]=h4:=⟨_,rfl⟩
  have o4:Only (fun _=>False) h3 h4:=by rw[<-hh4];exact .app
  have m1:=o4.at k1 id
  have m2:=o4.at k2 id
  have m3:h4[h3.length]?=some (.cells [.bool b0,.sl none 0 0] 102 false):=by rw[<-hh4];simp
  have q1:aload Try.prog (look h2) 102 (.ptr (some ⟨h.length,0,2⟩))=some (.agg [.bool b0,.sl none 0 0]):=by simp[aload,AM.row,g1]
  have q2:=cell_load k1 (n:=2) rfl (t:=4) (by simp) (off:=0) rfl
  have q3:=cell_load m1 (n:=2) rfl (t:=100) (by simp) (off:=1) rfl
  have q4:aload Try.prog (look h4) 102 (.ptr (some ⟨h3.length,0,2⟩))=some (.agg [.bool b0,.sl none 0 0]):=by simp[aload,AM.row,m3]
  have hl2:=lt_of_at m2
  have q5:astore Try.prog (look h4) 102 (.ptr (some ⟨h.length+1,0,2⟩)) (.agg [.bool b0,.sl none 0 0])=some (.set (h.length+1) (.cells [.bool b0,.sl none 0 0] 102 false)):=by simp[astore,m2,splice]
  obtain⟨h5,hh5⟩:∃h5,h4.set (h.length+1) (.cells [.bool b0,.sl none 0 0] 102 false)=h5:=⟨_,rfl⟩
  have o5:Only (fun c=>c=h.length+1) h4 h5:=by rw[<-hh5];exact .set rfl
  have n2:h5[h.length+1]?=some (.cells [.bool b0,.sl none 0 0] 102 false):=by rw[<-hh5];exact at_same hl2
  have q6:aload Try.prog (look h5) 102 (.ptr (some ⟨h.length+1,0,2⟩))=some (.agg [.bool b0,.sl none 0 0]):=by simp[aload,AM.row,n2]
  have oo:Only (fun _=>False) h h5:=((o2.trans o3).trans o4).fresh o5 fun c hc=>by omega
  have s3:=fun h b=>store_set (h:=h) (b:=b) (w:=.sl none 0 0) rfl
  simp[c112,c112_r0,c112_r1,c112_r3,c112_r4,hh2,q1,e3,q2,fieldA,abuild,afill,zeros,splice,s3,hh4]
  refine Wt.unr 0 ?_
  simp[Unr,c112_l5,c112_r5,q3,fieldA,len1,alen,c112_r15,q4,q5,hh5,result_cell,q6]
  exact oo
 obtain⟨r,h',e,rfl,o⟩:=key
 exact⟨h',e,o⟩
theorem contCells_plain{zs:List Cont}:∀x∈zs.flatMap contCell,x.plain=true:=by
 intro x hx
 obtain⟨c,_,hx⟩:=List.mem_flatMap.1 hx
 simp[contCell] at hx
 rcases hx with rfl|rfl|rfl|rfl|rfl|rfl|rfl|rfl<;>rfl
theorem contents3{h:Heap}{v:AV}{l:List Int}(hv:Sl1 h v (intCells l))(hl:l.length<=1000000):
  ∃(zs:List Cont) (bm:Nat) (h':Heap),D cfg 49 [v] h=some (contSl bm zs,h')/\(zs.length≠0->h'[bm]?=some (.cells (zs.flatMap contCell) 52 true)/\h.length<=bm)/\(∀c∈zs,c.few)/\zs.length<=3/\Only (fun _=>False) h h':=by
 have key:∃r h',D cfg 49 [v] h=some (r,h')/\(∃(zs:List Cont) (bm:Nat),r=contSl bm zs/\(zs.length≠0->h'[bm]?=some (.cells (zs.flatMap contCell) 52 true)/\h.length<=bm)/\(∀c∈zs,c.few)/\zs.length<=3/\Only (fun _=>False) h h'):=by
  refine call49 (R:=fun r h'=>∃(zs:List Cont) (bm:Nat),r=contSl bm zs/\(zs.length≠0->h'[bm]?=some (.cells (zs.flatMap contCell) 52 true)/\h.length<=bm)/\(∀c∈zs,c.few)/\zs.length<=3/\Only (fun _=>False) h h') (args:=[v]) (h:=h) (by simp) ?_
  have hlen:=fun L=>hv.len (t:=30) (e:=3) (by simp) (L:=L)
  simp only[intCells_len] at hlen
  simp[c49,c49_r0,c49_r1,c49_r2]
  refine Wt.loop (Out49 h v l) (m:=l.length) ⟨[],0,h,rfl,Nat.zero_le _,by simp,by simp,by simp[bufSl],by simp,.refl⟩ ?_
  rintro mm st ⟨zs,bm,h1,rfl,hzl,hz3,hsm,rfl,hb,ho⟩
  have hcut:cut (some [0,3,4]) [(0,v),(3,contSl bm zs),(4,.int .i64 (zs.length:Nat))]=[(0,v),(3,contSl bm zs),(4,.int .i64 (zs.length:Nat))]:=by simp
  simp only[hcut]
  by_cases hgo:zs.length<l.length/\zs.length<3
  . refine round49 hv hgo.1 hgo.2 hsm hb ho fun st hst=>⟨_,?_,hst⟩
    omega
  . obtain⟨out,hout⟩:∃out,out=contSl bm zs:=⟨_,rfl⟩
    have hfin:∃(zs':List Cont) (bm':Nat),out=contSl bm' zs'/\(zs'.length≠0->h1[bm']?=some (.cells (zs'.flatMap contCell) 52 true)/\h.length<=bm')/\(∀c∈zs',c.few)/\zs'.length<=3/\Only (fun _=>False) h h1:=⟨zs,bm,hout,hb,hsm,hz3,ho⟩
    have hnt:AV.notTup out=true:=by rw[hout];exact bufSl_nt
    rw[<-hout]
    by_cases hil:zs.length<l.length
    . have hil':(zs.length:Int)<l.length:=by omega
      have h3:¬(zs.length<3):=fun h=>hgo ⟨hil,h⟩
      have h3':¬((zs.length:Int)<3):=by omega
      simp[c49_l3,c49_r3,c49_r25,len1,hlen,hil,hil',h3,h3']
      exact⟨hnt,by simpa using hfin⟩
    . have hil':¬((zs.length:Int)<l.length):=by omega
      simp[c49_l3,c49_r3,c49_r25,len1,hlen,hil,hil']
      exact⟨hnt,by simpa using hfin⟩
 obtain⟨r,h',h1,zs,bm,rfl,h2,h3,h4,h5⟩:=key
 exact⟨zs,bm,h',h1,h2,h3,h4,h5⟩
theorem idx8{x:Int}(h:0<=x/\x<8):∃a:Int,1<=a/\a<=4/\aindex Try.prog 152 (.agg [.int .i64 1,.int .i64 1,.int .i64 1,.int .i64 1,.int .i64 2,.int .i64 3,.int .i64 4,.int .i64 1]) (.int .i64 x)=some (.int .i64 a):=by
 have hx:x=0\/x=1\/x=2\/x=3\/x=4\/x=5\/x=6\/x=7:=by omega
 rcases hx with rfl|rfl|rfl|rfl|rfl|rfl|rfl|rfl
 . exact⟨1,by decide,by decide,by simp[aindex,apart]⟩
 . exact⟨1,by decide,by decide,by simp[aindex,apart]⟩
 . exact⟨1,by decide,by decide,by simp[aindex,apart]⟩
 . exact⟨1,by decide,by decide,by simp[aindex,apart]⟩
 . exact⟨2,by decide,by decide,by simp[aindex,apart]⟩
 . exact⟨3,by decide,by decide,by simp[aindex,apart]⟩
 . exact⟨4,by decide,by decide,by simp[aindex,apart]⟩
 . exact⟨1,by decide,by decide,by simp[aindex,apart]⟩
theorem idx4{x p q r s:Int}(h:0<=x/\x<4):∃a:Int,aindex Try.prog 153 (.agg [.int .i64 p,.int .i64 q,.int .i64 r,.int .i64 s]) (.int .i64 x)=some (.int .i64 a):=by
 have hx:x=0\/x=1\/x=2\/x=3:=by omega
 rcases hx with rfl|rfl|rfl|rfl
 . exact⟨p,by simp[aindex,apart]⟩
 . exact⟨q,by simp[aindex,apart]⟩
 . exact⟨r,by simp[aindex,apart]⟩
 . exact⟨s,by simp[aindex,apart]⟩
def Sl2(h:Heap)(e:TypeId)(v:AV):Prop:=v=.sl none 0 0\/∃b x y,v=.sl (some ⟨b,0,2⟩) 1 1/\h[b]?=some (.cells [x,y] e true)/\x.plain=true/\y.plain=true
theorem Sl2.keep{h h':Heap}{e:TypeId}{v:AV}{fp:Nat->Prop}(H:Sl2 h e v)(ho:Only fp h h')(hk:∀c cs,h[c]?=some (.cells cs e true)->¬fp c):Sl2 h' e v:=by
 rcases H with rfl|⟨b,x,y,rfl,h1,h2⟩
 . exact .inl rfl
 . exact .inr ⟨b,x,y,rfl,ho.at h1 (hk _ _ h1),h2⟩
theorem Sl2.plain{h:Heap}{e:TypeId}{v:AV}(H:Sl2 h e v):v.plain=true:=by
 rcases H with rfl|⟨b,x,y,rfl,_⟩<;>rfl
theorem clean_one{h:Heap}{b0:Bool}{nb:Nat}{b:Int}(hb:b=30\/b=31\/b=32)(hn:h[nb]?=some (.cells [.int .u32 167772161,.int .i64 b] 158 true)):
  ∃v h',D cfg 112 [.agg [.bool b0,.sl (some ⟨nb,0,2⟩) 1 1]] h=some (.agg [.bool b0,v],h')/\Sl2 h' 158 v/\Only (fun _=>False) h h':=by
 have key:∃r h',D cfg 112 [.agg [.bool b0,.sl (some ⟨nb,0,2⟩) 1 1]] h=some (r,h')/\(∃v,r=.agg [.bool b0,v]/\Sl2 h' 158 v/\Only (fun _=>False) h h'):=by
  refine call112 (R:=fun r h'=>∃v,r=.agg [.bool b0,v]/\Sl2 h' 158 v/\Only (fun _=>False) h h') (args:=[.agg [.bool b0,.sl (some ⟨nb,0,2⟩) 1 1]]) (h:=h) (by simp) ?_
  obtain⟨v,hv⟩:∃v,AV.sl (some ⟨nb,0,2⟩) 1 1=v:=⟨_,rfl⟩
  have vone:v.one=true:=by rw[<-hv];rfl
  obtain⟨h2,hh2⟩:∃h2,h++[.cells [.bool b0,v] 102 false,.cells [.bool false,.sl none 0 0] 102 false]=h2:=⟨_,rfl⟩
  have o2:Only (fun _=>False) h h2:=by rw[<-hh2];exact .app
  have g1:h2[h.length]?=some (.cells [.bool b0,v] 102 false):=by rw[<-hh2];simp
  have g2:h2[h.length+1]?=some (.cells [.bool false,.sl none 0 0] 102 false):=by rw[<-hh2];exact at_new
  have NA:NetAt h2 v:=by rw[<-hv];exact .one nb b hb (o2.at hn id)
  obtain⟨h3,e3,o3⟩:=check_run (h:=h2) (b0:=b0) NA
  obtain⟨h4,hh4⟩:∃h4,h3++[.cells [.bool b0,.sl none 0 0] 102 false]=h4:=⟨_,rfl⟩
  have o4:Only (fun _=>False) h3 h4:=by rw[<-hh4];exact .app
  obtain⟨h5,e5,o5⟩:=covers_run (h:=h4) hb
  obtain⟨h6,e6,o6⟩:=covers_run (h:=h5) hb
  have o46:=o5.trans o6
  have o26:=(o3.trans o4).trans o46
  have k1:=o3.at g1 id
  have m1:=o4.at k1 id
  have m3:h4[h3.length]?=some (.cells [.bool b0,.sl none 0 0] 102 false):=by rw[<-hh4];simp
  have mn:=o4.at (o3.at (o2.at hn id) id) id
  have r1:=o5.at m1 id
  have rn:=o5.at mn id
  have t1:=o6.at r1 id
  have tn:=o6.at rn id
  have t3:=o46.at m3 id
  have t2:=o26.at g2 id
  have hq1:aload Try.prog (look h2) 102 (.ptr (some ⟨h.length,0,2⟩))=some (.agg [.bool b0,v]):=by simp[aload,AM.row,g1]
  have q2:=cell_load k1 (n:=2) rfl (t:=4) (by simp) (off:=0) rfl
  have q3:=cell_load m1 (n:=2) rfl (t:=100) (by simp) (off:=1) rfl
  have q5:=cell_load r1 (n:=2) rfl (t:=100) (by simp) (off:=1) rfl
  have q6:=cell_load t1 (n:=2) rfl (t:=100) (by simp) (off:=1) rfl
  have ln4:aload Try.prog (look h4) 158 (.ptr (some ⟨nb,0,2⟩))=some (.agg [.int .u32 167772161,.int .i64 b]):=by simp[aload,AM.row,mn]
  have ln5:aload Try.prog (look h5) 158 (.ptr (some ⟨nb,0,2⟩))=some (.agg [.int .u32 167772161,.int .i64 b]):=by simp[aload,AM.row,rn]
  have ln6:aload Try.prog (look h6) 158 (.ptr (some ⟨nb,0,2⟩))=some (.agg [.int .u32 167772161,.int .i64 b]):=by simp[aload,AM.row,tn]
  have lb0:=cell_load tn (n:=2) rfl (t:=156) (by simp) (off:=0) rfl
  have lb1:=cell_load tn (n:=2) rfl (t:=3) (by simp) (off:=1) rfl
  have l3:=cell_load t3 (n:=2) rfl (t:=100) (by simp) (off:=1) rfl
  have vl:∀L,alen Try.prog L 100 v=some (.int .i64 1):=fun L=>by rw[<-hv];simp[alen]
  have va:aindexAddr Try.prog 100 v (.int .i64 0)=some (.ptr (some ⟨nb,0,2⟩)):=by rw[<-hv];simp[aindexAddr]
  have w1:IntKind.wrap .i64 1=1:=rfl
  have s3:=fun h b=>store_set (h:=h) (b:=b) (w:=.sl none 0 0) rfl
  have mk:=mask_run (h:=h6) hb
  have sb1:sameAt h6 h6 h.length=true:=sameAt_of t1 t1 (by rw[<-hv];simp[AObj.beq,beqL,AV.beq,AV.beqP,oAA,AA.beq])
  have sb3:sameAt h6 h6 h3.length=true:=sameAt_of t3 t3 (by simp[AObj.beq,beqL,AV.beq,AV.beqP,oAA])
  have sbn:sameAt h6 h6 nb=true:=sameAt_of tn tn (by simp[AObj.beq,beqL,AV.beq,AV.beqP])
  obtain⟨ad,had⟩:∃ad,IntKind.wrap .u32 ((167772161 % 2 ^ IntKind.bits .u32 &&& (netMask b % 2 ^ IntKind.bits .u32).toNat:Nat):Int)=ad:=⟨_,rfl⟩
  obtain⟨δ,h7,e7,e8,d7,o7⟩:=append_buf (t:=100) (e:=158) (k:=2) (by simp) (by simp) (by decide) (by simp) (by simp) (h:=h6) (b:=0) (n:=0) (xs:=[]) (ys:=[.int .u32 ad,.int .i64 b]) (by simp) (by simp) (fun e=>absurd rfl e) (by omega)
  rw[bufSl_zero] at e7
  have o7':Only (fun _=>False) h6 h7:=o7.mono fun c _ e=>e.2 rfl
  have u3:=o7'.at t3 id
  have u2:=o7'.at t2 id
  have u1:=o7'.at t1 id
  obtain⟨wv,hwv⟩:∃wv,bufSl (if 0=0 then h6.length+1 else 0) (0+1) ([]++[AV.int .u32 ad,.int .i64 b])=wv:=⟨_,rfl⟩
  have hwv':wv=.sl (some ⟨h6.length+1,0,2⟩) 1 1:=by rw[<-hwv];simp[bufSl]
  rw[hwv] at e7
  have wone:wv.one=true:=by rw[hwv'];rfl
  have st:=cell_store u3 (n:=2) rfl (t:=100) (by simp) (v:=wv) wone (off:=1) (by decide)
  obtain⟨h8,hh8⟩:∃h8,h7.set h3.length (.cells [.bool b0,wv] 102 false)=h8:=⟨_,rfl⟩
  have st':astore Try.prog (look h7) 100 (.ptr (some ⟨h3.length,1,2⟩)) wv=some (.set h3.length (.cells [.bool b0,wv] 102 false)):=st
  have o8:Only (fun c=>c=h3.length) h7 h8:=by rw[<-hh8];exact .set rfl
  have L2:=o2.1
  have L3:=o3.1
  have hl1:=lt_of_at g1
  have hl2:=lt_of_at g2
  have x1:=o8.at u1 (by omega)
  have x2:=o8.at u2 (by omega)
  have x3:h8[h3.length]?=some (.cells [.bool b0,wv] 102 false):=by rw[<-hh8];exact at_same (lt_of_at u3)
  have q8:=cell_load x1 (n:=2) rfl (t:=100) (by simp) (off:=1) rfl
  have q9:aload Try.prog (look h8) 102 (.ptr (some ⟨h3.length,0,2⟩))=some (.agg [.bool b0,wv]):=by simp[aload,AM.row,x3]
  have sw:astore Try.prog (look h8) 102 (.ptr (some ⟨h.length+1,0,2⟩)) (.agg [.bool b0,wv])=some (.set (h.length+1) (.cells [.bool b0,wv] 102 false)):=by
   rw[hwv'];simp[astore,x2,splice]
  obtain⟨h9,hh9⟩:∃h9,h8.set (h.length+1) (.cells [.bool b0,wv] 102 false)=h9:=⟨_,rfl⟩
  have o9:Only (fun c=>c=h.length+1) h8 h9:=by rw[<-hh9];exact .set rfl
  have y2:h9[h.length+1]?=some (.cells [.bool b0,wv] 102 false):=by rw[<-hh9];exact at_same (lt_of_at x2)
  have q10:aload Try.prog (look h9) 102 (.ptr (some ⟨h.length+1,0,2⟩))=some (.agg [.bool b0,wv]):=by simp[aload,AM.row,y2]
  have oo:Only (fun _=>False) h h9:=((o2.trans (o26.trans o7')).fresh o8 fun c hc=>by omega).fresh o9 fun c hc=>by omega
  have hS2:Sl2 h9 158 wv:=by
   have hL:h6.length+1≠h3.length:=by have:=o46.1;have:=o4.1;omega
   have hL2:h6.length+1≠h.length+1:=by have:=o46.1;have:=o4.1;omega
   have d7':h7[h6.length+1]?=some (.cells [.int .u32 ad,.int .i64 b] 158 true):=by simpa using d7
   rw[hwv']
   exact .inr ⟨_,_,_,rfl,o9.at (o8.at d7' hL) hL2,rfl,rfl⟩
  have wvt:wv.notTup=true:=by rw[hwv'];rfl
  have vt:v.notTup=true:=by rw[<-hv];rfl
  have vc:v.cells=[v]:=by rw[<-hv];rfl
  clear hwv
  subst hwv'
  subst hv
  simp[c112,c112_r0,c112_r1,c112_r3,c112_r4,hh2,hq1,e3,q2,fieldA,abuild,afill,zeros,splice,s3,hh4]
  refine Wt.unr 1 ?_
  simp[Unr,c112_l5,c112_r5,c112_r7,c112_r8,q3,len1,vl,fieldA]
  refine Wt.unr 1 ?_
  simp[Unr,c112_l9,c112_r9,c112_r10,c112_r11,c112_r12,q3,q5,q6,len1,vl,va,fieldA,ln4,ln5,ln6,e5,e6,w1]
  simp[c112_r13,c112_r14,c112_r6,c112_l5,c112_r5,c112_r15,fieldA,l3,q6,va,lb0,lb1,mk,sb1,sb3,sbn,had,abuild,abuildSlice,afill,zeros,splice,e7,e8,st',hh8,w1,q8,len1,vl,q9,sw,hh9,result_cell,q10]
  exact⟨hS2,oo⟩
 obtain⟨r,h',e,a,rfl,o⟩:=key
 exact⟨a,h',e,o⟩
structure RuleN (k:Nat) (r:RuleV):Prop where
 sid:r.sid=100+4*k
 act:1<=r.action/\r.action<=4
 len:r.conts.length<=3
 few:∀c∈r.conts,c.few
def RulesN(rs:List RuleV):Prop:=rs.length<=6/\∀k r,rs[k]?=some r->RuleN k r
def box80(ac pr:Int)(f1:Bool)(fs:AV)(t1:Bool)(ts:AV)(bo:Bool)(fl:Int)(cv:AV)(si re:Int):List AV:=
 [.int .i64 ac,.int .i64 pr,.bool f1,fs,.bool false,.sl none 0 0,.bool false,.sl none 0 0,.bool t1,ts,.bool bo,.int .i64 fl,cv,.int .i64 si,.int .i64 re]
def c80_t:SC:=(.seq (.reg c80_r11 none (some [0,3,4,5,6])) (.seq (.reg c80_r12 none (some [0,3,4,6])) (.reg c80_r13 none (some [0,3,4]))))
def c80_m:SC:=(.seq (.seq (.reg c80_r7 none (some [0,3,4,5,6,51])) (.cond (.tmp 51) (.reg c80_r8 none (some [0,3,4,5,6])) .skip (some [0,3,4,5,6]))) (.seq (.seq (.reg c80_r9 none (some [0,3,4,5,6,63])) (.cond (.tmp 63) (.reg c80_r10 none (some [0,3,4,5,6])) .skip (some [0,3,4,5,6]))) c80_t))
theorem c80_l3_eq:c80_l3=(.seq (.seq (.reg c80_r3 none (some [0,3,4,15])) (.cond (.tmp 15) .skip (.exit 0) (some [0,3,4]))) (.seq (.block 1 (.seq (.reg c80_r5 none (some [0,3,4,5])) (.seq (.reg c80_r6 none (some [0,3,4,5,6])) c80_m))) (.reg c80_r4 none (some [0,3,4])))):=rfl
abbrev env80(v rv:AV)(i:Nat):Env:=[(0,v),(3,rv),(4,.int .i64 i)]
def slOK(v:AV):Prop:=match v with
 |.sl _ n c=>n<=c
 |_=>True
theorem Sl1.sub{h:Heap}{v:AV}{l:List Int}(hv:Sl1 h v (intCells l))(hc:slOK v){i j:Nat}(hij:i<=j)(hj:j<=l.length):∃w,aslice Try.prog 30 v (some (.int .i64 i)) (some (.int .i64 j)) none=some w/\Sl1 h w (intCells ((l.drop i).take (j-i)))/\w.notTup=true:=by
 rcases hv with⟨rfl,h0⟩|⟨b,o,g,c,cs,rfl,h1,h2⟩
 . have hl:l=[]:=by simpa[intCells] using h0
   subst hl
   have hi0:i=0:=by simp at hj;omega
   have hj0:j=0:=by simp at hj;omega
   subst hi0 hj0
   exact⟨.sl none 0 0,by simp[aslice,bound],.inl ⟨rfl,by simp[intCells]⟩,rfl⟩
 . have hlen:(intCells l).length=l.length:=by simp[intCells]
   rw[hlen] at h2 hc ⊢
   have hc':l.length<=c:=hc
   have b1:bound (some (.int .i64 (j:Int))) l.length c=some j:=by
    have:(0:Int)<=j/\(j:Int)<=c:=by omega
    simp only[bound,this,and_self,if_true,Int.toNat_natCast]
   have b2:bound (some (.int .i64 (i:Int))) 0 j=some i:=by
    have:(0:Int)<=i/\(i:Int)<=j:=by omega
    simp only[bound,this,and_self,if_true,Int.toNat_natCast]
   have hlw:(intCells ((l.drop i).take (j-i))).length=j-i:=by simp[intCells];omega
   refine⟨.sl (some ⟨b,o+i,g⟩) (j-i) (c-i),by simp[aslice,b1,b2],.inr ⟨b,o+i,g,c-i,cs,by rw[hlw],?_,?_⟩,rfl⟩
   . have h3:AM.row (look h) ⟨b,o+i,g⟩=some cs:=h1
     exact h3
   . rw[hlw]
     have h4:((cs.drop o).take l.length).drop i=(intCells l).drop i:=by rw[h2]
     rw[List.drop_take,List.drop_drop] at h4
     have h5:((cs.drop (o+i)).take (l.length-i)).take (j-i)=((intCells l).drop i).take (j-i):=by rw[h4]
     rw[List.take_take,Nat.min_eq_left (by omega)] at h5
     rw[h5]
     simp[intCells,List.map_take,List.map_drop]
def SubOK(h:Heap)(r:RuleV):Prop:=∃ac pr f1 fs t1 ts bo fl si re,r.rc=box80 ac pr f1 fs t1 ts bo fl r.cv si re/\Sl2 h 158 fs/\Sl2 h 155 ts
theorem SubOK.keep{h h':Heap}{r:RuleV}{fp:Nat->Prop}(H:SubOK h r)(ho:Only fp h h')(hk:∀c cs t,(t=158\/t=155)->h[c]?=some (.cells cs t true)->¬fp c):SubOK h' r:=by
 obtain⟨ac,pr,f1,fs,t1,ts,bo,fl,si,re,h1,h2,h3⟩:=H
 exact⟨ac,pr,f1,fs,t1,ts,bo,fl,si,re,h1,h2.keep ho fun c cs hc=>hk c cs _ (.inl rfl) hc,h3.keep ho fun c cs hc=>hk c cs _ (.inr rfl) hc⟩
theorem tail80{h₀ h hR:Heap}{v:AV}{l:List Int}{rb bc i:Nat}{x:Int}{rs:List RuleV}{ac pr fl si re:Int}{f1 t1 bo:Bool}{fs ts:AV}(hv:Sl1 h₀ v (intCells l))(hok:slOK v)(hil:i+4<=l.length)(hi:i<=100)(hx:0<=x/\x<16777216)
  (RI:RulesIn hR rb rs) (hrl:rs.length<=100) (hrb:rs.length≠0->h₀.length<=rb) (o0:Only (fun _=>False) h₀ hR) (oR:Only (fun _=>False) hR h) (hbc:hR.length<=bc)
  (hb:h[bc]?=some (.cells (box80 ac pr f1 fs t1 ts bo fl (.sl none 0 0) si re) 107 false)) (hf:NetAt h fs) (ht2:Sl2 h 155 ts) {Q:AExit->St->Prop}
  (hq:∀h' rb' cv zs rc,(⟨rc,ac,si,cv,zs⟩:RuleV).ok->(∀c∈zs,c.few)->zs.length<=3->RulesIn h' rb' (rs++[⟨rc,ac,si,cv,zs⟩])->h₀.length<=rb'->Only (fun _=>False) h₀ h'->SubOK h' ⟨rc,ac,si,cv,zs⟩->Only (fun c=>c=rb/\rs.length≠0) hR h'->Q .normal ⟨env80 v (rulesSl rb' (rs++[⟨rc,ac,si,cv,zs⟩])) i,h'⟩):
  Wt Try.prog (D cfg) c80_t ⟨[(0,v),(3,rulesSl rb rs),(4,.int .i64 i),(5,.int .i64 x),(6,.ptr (some ⟨bc,0,15⟩))],h⟩ Q:=by
 have hvt:v.notTup=true:=by rcases hv with⟨rfl,_⟩|⟨_,_,_,_,_,rfl,_,_⟩<;>rfl
 have n1:(rulesSl rb rs).notTup=true:=rulesSl_nt
 have ht:=ht2.plain
 have hcl:∃fs' h1,D cfg 112 [.agg [.bool f1,fs]] h=some (.agg [.bool f1,fs'],h1)/\Sl2 h1 158 fs'/\Only (fun _=>False) h h1:=by
  cases hf with
  |none=>obtain⟨h1,e,o⟩:=clean_none (h:=h) (b0:=f1);exact⟨.sl none 0 0,h1,e,.inl rfl,o⟩
  |one nb b hbn hn=>obtain⟨a,h1,e,s2,o⟩:=clean_one (h:=h) (b0:=f1) hbn hn;exact⟨a,h1,e,s2,o⟩
 obtain⟨fs',h1,e1,sf1,o1⟩:=hcl
 have pf:=sf1.plain
 have b1:=o1.at hb id
 have l1:aload Try.prog (look h) 102 (.ptr (some ⟨bc,2,15⟩))=some (.agg [.bool f1,fs]):=by simp[aload,AM.row,hb,box80]
 have fone:=plain_one pf
 have st1:astore Try.prog (look h1) 102 (.ptr (some ⟨bc,2,15⟩)) (.agg [.bool f1,fs'])=some (.set bc (.cells (box80 ac pr f1 fs' t1 ts bo fl (.sl none 0 0) si re) 107 false)):=by
  have hbo:∀{b:Bool},(AV.bool b).one=true:=rfl
  simp[-AV.one,one_agg,hbo,astore,b1,box80,splice,fone]
 obtain⟨h2,hh2⟩:∃h2,h1.set bc (.cells (box80 ac pr f1 fs' t1 ts bo fl (.sl none 0 0) si re) 107 false)=h2:=⟨_,rfl⟩
 have o2:Only (fun c=>c=bc) h1 h2:=by rw[<-hh2];exact .set rfl
 have b2:h2[bc]?=some (.cells (box80 ac pr f1 fs' t1 ts bo fl (.sl none 0 0) si re) 107 false):=by rw[<-hh2];exact at_same (lt_of_at b1)
 have oR2:Only (fun _=>False) hR h2:=(oR.trans o1).fresh o2 fun c hc=>by omega
 have o02:=o0.trans oR2
 have g:=div_fact hx.1 (n:=221184) (by decide)
 have m:=mod_fact g.1 (n:=4) (by decide)
 have wq:IntKind.wrap .i64 (x.tdiv 221184)=x.tdiv 221184:=wrap_i64 (by omega) (by omega)
 obtain⟨M,hM⟩:∃M:Nat,(x.tdiv 221184).tmod 4=M:=⟨((x.tdiv 221184).tmod 4).toNat,by omega⟩
 have hM3:M<=3:=by omega
 have wi:IntKind.wrap .i64 ((i:Int)+1)=i+1:=wrap_i64 (by omega) (by omega)
 have wj:IntKind.wrap .i64 ((i:Int)+1+M)=i+1+M:=wrap_i64 (by omega) (by omega)
 obtain⟨w,es,hw,wt⟩:=hv.sub hok (i:=i+1) (j:=i+1+M) (by omega) (by omega)
 have es':aslice Try.prog 30 v (some (.int .i64 ((i:Int)+1))) (some (.int .i64 ((i:Int)+1+M))) none=some w:=by
  have e1:(((i+1:Nat):Int))=(i:Int)+1:=by omega
  have e2:(((i+1+M:Nat):Int))=(i:Int)+1+M:=by omega
  rw[e1,e2] at es
  exact es
 obtain⟨zs,bm,h3,e3,hz,zf,z3,o3⟩:=contents3 (hw.same o02) (by simp;omega)
 have b3:=o3.at b2 id
 obtain⟨cv,hcv⟩:∃cv,contSl bm zs=cv:=⟨_,rfl⟩
 rw[hcv] at e3
 have cpl:cv.plain=true:=by rw[<-hcv];unfold contSl bufSl;split<;>rfl
 have cone:=plain_one cpl
 have cnt:cv.notTup=true:=by rw[<-hcv];exact bufSl_notTup
 have st3:=cell_store b3 (n:=15) rfl (t:=42) (by simp) (off:=12) (v:=cv) cone (by omega)
 have hset:(box80 ac pr f1 fs' t1 ts bo fl (.sl none 0 0) si re).set 12 cv=box80 ac pr f1 fs' t1 ts bo fl cv si re:=rfl
 rw[hset] at st3
 obtain⟨h4,hh4⟩:∃h4,h3.set bc (.cells (box80 ac pr f1 fs' t1 ts bo fl cv si re) 107 false)=h4:=⟨_,rfl⟩
 have o4:Only (fun c=>c=bc) h3 h4:=by rw[<-hh4];exact .set rfl
 have b4:h4[bc]?=some (.cells (box80 ac pr f1 fs' t1 ts bo fl cv si re) 107 false):=by rw[<-hh4];exact at_same (lt_of_at b3)
 have oR4:Only (fun _=>False) hR h4:=(oR2.trans o3).fresh o4 fun c hc=>by omega
 have l4:aload Try.prog (look h4) 107 (.ptr (some ⟨bc,0,15⟩))=some (.agg (box80 ac pr f1 fs' t1 ts bo fl cv si re)):=by simp[aload,AM.row,b4,box80]
 obtain⟨rc,hrc⟩:∃rc,box80 ac pr f1 fs' t1 ts bo fl cv si re=rc:=⟨_,rfl⟩
 have rok:(⟨rc,ac,si,cv,zs⟩:RuleV).ok:=by
  refine⟨by rw[<-hrc];rfl,by rw[<-hrc];rfl,by rw[<-hrc];rfl,by rw[<-hrc];rfl,by show zs.length<=1000;omega,fun c hc=>(zf c hc).1,?_⟩
  intro y hy
  rw[show (⟨rc,ac,si,cv,zs⟩:RuleV).rc=rc from rfl,<-hrc] at hy
  simp[box80] at hy
  rcases hy with rfl|rfl|rfl|rfl|rfl|rfl|rfl|rfl|rfl|rfl|rfl|rfl|rfl|rfl|rfl<;>first|rfl|assumption
 have RI4:=RI.same oR4
 obtain⟨δ,h5,e5,e6,d5,o5⟩:=append_rule (h:=h4) (b:=rb) (rs:=rs) (r:=⟨rc,ac,si,cv,zs⟩) RI.ok rok RI4.sl (by omega)
 obtain⟨rb',hrb'⟩:∃y,(if rs.length=0 then h4.length+1 else rb)=y:=⟨_,rfl⟩
 rw[hrb'] at e5 d5
 have L0:=o0.1
 have L4:=oR4.1
 have hrb2:h₀.length<=rb':=by
  rw[<-hrb']
  split
  . omega
  . rename_i hz;exact hrb hz
 have zb:∀b,slB cv=some b->h4[b]?=some (.cells (zs.flatMap contCell) 52 true):=fun b hb=>by
  rw[<-hcv] at hb
  obtain⟨rfl,hne⟩:=slB_buf hb
  exact o4.at (hz hne).1 fun e=>by
   have:=(hz hne).1
   rw[e,b3] at this
   simp at this
 have old:∀{b:Nat} {cs:List AV},h4[b]?=some (.cells cs 52 true)->h5[b]?=some (.cells cs 52 true):=fun hb=>app_at o5 RI4.sl hb (.inl (by decide))
 have J:RulesIn h5 rb' (rs++[⟨rc,ac,si,cv,zs⟩]):=by
  refine⟨fun _=>d5,fun r hr=>?_,fun r hr=>?_,fun r hr b hb=>?_⟩
  . rcases List.mem_append.1 hr with hr|hr
    . exact RI.ok r hr
    . simp at hr;rw[hr];exact rok
  . rcases List.mem_append.1 hr with hr|hr
    . refine (RI4.cs r hr).keep o5 fun b hb e=>?_
      obtain⟨cs,q1,_⟩:=RI4.cq r hr b hb
      have:=RI4.sl e.2
      rw[e.1,this] at q1
      simp only[Option.some.injEq,AObj.cells.injEq] at q1
      exact absurd q1.2.1 (by decide)
    . simp at hr
      subst hr
      show SlC h5 cv zs
      rw[<-hcv]
      exact SlC.buf fun hne=>old (zb bm (by rw[<-hcv];simp[bufSl,hne,slB]))
  . rcases List.mem_append.1 hr with hr|hr
    . obtain⟨cs,q1,q2⟩:=RI4.cq r hr b hb
      exact⟨cs,old q1,q2⟩
    . simp at hr
      subst hr
      exact⟨_,old (zb b hb),contCells_plain⟩
 have o05:Only (fun _=>False) h₀ h5:=(o0.trans oR4).fresh o5 fun c hc=>by rw[hc.1];exact hrb hc.2
 have notb:∀{h':Heap} {cs0:List AV},h'[bc]?=some (.cells cs0 107 false)->∀(c:Nat) (cs:List AV) (t:TypeId),h'[c]?=some (.cells cs t true)->¬c=bc:=fun hb c cs t hc e=>by
  rw[e,hb] at hc;simp at hc
 have sf4:Sl2 h4 158 fs':=(((sf1.keep o2 fun c cs hc=>notb b1 c cs _ hc).keep o3 fun _ _ _=>id).keep o4 fun c cs hc=>notb b3 c cs _ hc)
 have st4:Sl2 h4 155 ts:=((((ht2.keep o1 fun _ _ _=>id).keep o2 fun c cs hc=>notb b1 c cs _ hc).keep o3 fun _ _ _=>id).keep o4 fun c cs hc=>notb b3 c cs _ hc)
 have notr:∀(c:Nat) (cs:List AV) (t:TypeId),t≠107->h4[c]?=some (.cells cs t true)->¬(c=rb/\rs.length≠0):=fun c cs t ht hc e=>by
  have:=RI4.sl e.2
  rw[<-e.1,hc] at this
  simp only[Option.some.injEq,AObj.cells.injEq] at this
  exact ht this.2.1
 have sub5:SubOK h5 ⟨rc,ac,si,cv,zs⟩:=⟨ac,pr,f1,fs',t1,ts,bo,fl,si,re,hrc.symm,sf4.keep o5 fun c cs hc=>notr c cs _ (by decide) hc,st4.keep o5 fun c cs hc=>notr c cs _ (by decide) hc⟩
 have hfin:=hq h5 rb' cv zs rc rok zf z3 J hrb2 o05 sub5 ((oR4.mono fun _ _=>False.elim).trans o5)
 have n2:(rulesSl rb' (rs++[⟨rc,ac,si,cv,zs⟩])).notTup=true:=rulesSl_nt
 simp only[env80] at hfin
 rw[hrc] at hh4 st3 l4
 have rl:rc.length=15:=rok.len
 have rone:(∀y,y∈rc->y.one=true)=True:=eq_true fun y hy=>plain_one (rok.plain y hy)
 have e5':append2 Try.prog (look (h4++[AObj.cells rc 107 true])) (h4.length+1) 89 89 [rulesSl rb rs,.sl (some ⟨h4.length,0,15⟩) 1 1]=some (rulesSl rb' (rs++[⟨rc,ac,si,cv,zs⟩]),δ):=e5
 have e6':Heap.apply (h4++[AObj.cells rc 107 true]) δ=h5:=e6
 generalize rulesSl rb rs=x1 at *
 generalize rulesSl rb' (rs++[⟨rc,ac,si,cv,zs⟩])=x2 at *
 have bs:abuildSlice Try.prog h4.length 89 1 [(0,.agg rc)]=some (.sl (some ⟨h4.length,0,15⟩) 1 1,.new (.cells rc 107 true)):=by
  match rc,rl,rone with
  |[c0,c1,c2,c3,c4,c5,c6,c7,c8,c9,c10,c11,c12,c13,c14],_,ro=>
   have ro':=of_eq_true ro
   have q0:=ro' c0 (by simp)
   have q1:=ro' c1 (by simp)
   have q2:=ro' c2 (by simp)
   have q3:=ro' c3 (by simp)
   have q4:=ro' c4 (by simp)
   have q5:=ro' c5 (by simp)
   have q6:=ro' c6 (by simp)
   have q7:=ro' c7 (by simp)
   have q8:=ro' c8 (by simp)
   have q9:=ro' c9 (by simp)
   have q10:=ro' c10 (by simp)
   have q11:=ro' c11 (by simp)
   have q12:=ro' c12 (by simp)
   have q13:=ro' c13 (by simp)
   have q14:=ro' c14 (by simp)
   simp[-AV.one,one_agg,abuildSlice,afill,zeros,splice,q0,q1,q2,q3,q4,q5,q6,q7,q8,q9,q10,q11,q12,q13,q14]
 simp[-AV.notTup,-AV.one,-AV.cells,one_agg,fone,cone,cnt,wt,hvt,n1,n2,notTup_ptr,c80_t,c80_r11,c80_r12,c80_r13,fieldA,l1,e1,st1,hh2,abin_quo,abin_rem,wq,hM,wi,wj,es',e3,st3,hh4,l4,bs,e5',e6']
 simpa using hfin
theorem mid80{h₀ h hR:Heap}{v:AV}{l:List Int}{rb bc i:Nat}{x:Int}{rs:List RuleV}{ac pr fl si re:Int}{bo:Bool}(hv:Sl1 h₀ v (intCells l))(hok:slOK v)(hil:i+4<=l.length)(hi:i<=100)(hx:0<=x/\x<16777216)
  (RI:RulesIn hR rb rs) (hrl:rs.length<=100) (hrb:rs.length≠0->h₀.length<=rb) (o0:Only (fun _=>False) h₀ hR) (oR:Only (fun _=>False) hR h) (hbc:hR.length<=bc)
  (hb:h[bc]?=some (.cells (box80 ac pr false (.sl none 0 0) false (.sl none 0 0) bo fl (.sl none 0 0) si re) 107 false)) {Q:AExit->St->Prop}
  (hq:∀h' rb' cv zs rc,(⟨rc,ac,si,cv,zs⟩:RuleV).ok->(∀c∈zs,c.few)->zs.length<=3->RulesIn h' rb' (rs++[⟨rc,ac,si,cv,zs⟩])->h₀.length<=rb'->Only (fun _=>False) h₀ h'->SubOK h' ⟨rc,ac,si,cv,zs⟩->Only (fun c=>c=rb/\rs.length≠0) hR h'->Q .normal ⟨env80 v (rulesSl rb' (rs++[⟨rc,ac,si,cv,zs⟩])) i,h'⟩):
  Wt Try.prog (D cfg) c80_m ⟨[(0,v),(3,rulesSl rb rs),(4,.int .i64 i),(5,.int .i64 x),(6,.ptr (some ⟨bc,0,15⟩))],h⟩ Q:=by
 have hvt:v.notTup=true:=by rcases hv with⟨rfl,_⟩|⟨_,_,_,_,_,rfl,_,_⟩<;>rfl
 have n1:(rulesSl rb rs).notTup=true:=rulesSl_nt
 have g1:=div_fact hx.1 (n:=1536) (by decide)
 have g2:=div_fact hx.1 (n:=9216) (by decide)
 have g3:=div_fact hx.1 (n:=4608) (by decide)
 have g4:=div_fact hx.1 (n:=36864) (by decide)
 have g5:=div_fact hx.1 (n:=73728) (by decide)
 have m3:=mod_fact g3.1 (n:=2) (by decide)
 have m5:=mod_fact g5.1 (n:=3) (by decide)
 have w1:IntKind.wrap .i64 (x.tdiv 1536)=x.tdiv 1536:=wrap_i64 (by omega) (by omega)
 have w2:IntKind.wrap .i64 (x.tdiv 9216)=x.tdiv 9216:=wrap_i64 (by omega) (by omega)
 have w3:IntKind.wrap .i64 (x.tdiv 4608)=x.tdiv 4608:=wrap_i64 (by omega) (by omega)
 have w4:IntKind.wrap .i64 (x.tdiv 36864)=x.tdiv 36864:=wrap_i64 (by omega) (by omega)
 have w5:IntKind.wrap .i64 (x.tdiv 73728)=x.tdiv 73728:=wrap_i64 (by omega) (by omega)
 obtain⟨p,hp⟩:∃p,80+(x.tdiv 4608).tmod 2=p:=⟨_,rfl⟩
 have wp:IntKind.wrap .i64 p=p:=wrap_i64 (by omega) (by omega)
 obtain⟨q,hqq⟩:∃q,30+(x.tdiv 73728).tmod 3=q:=⟨_,rfl⟩
 have wq:IntKind.wrap .i64 q=q:=wrap_i64 (by omega) (by omega)
 have hq3:q=30\/q=31\/q=32:=by omega
 have second:∀(h2:Heap) (t1:Bool) (ts:AV),Sl2 h2 155 ts->Only (fun _=>False) hR h2->h2[bc]?=some (.cells (box80 ac pr false (.sl none 0 0) t1 ts bo fl (.sl none 0 0) si re) 107 false) ->
   Wt Try.prog (D cfg) (.seq (.seq (.reg c80_r9 none (some [0,3,4,5,6,63])) (.cond (.tmp 63) (.reg c80_r10 none (some [0,3,4,5,6])) .skip (some [0,3,4,5,6]))) c80_t) ⟨[(0,v),(3,rulesSl rb rs),(4,.int .i64 i),(5,.int .i64 x),(6,.ptr (some ⟨bc,0,15⟩))],h2⟩ Q:=by
  intro h2 t1 ts pts o2 b2
  by_cases hz:(x.tdiv 9216).tmod 4=0
  . obtain⟨f1,hf1⟩:∃f1,decide ((x.tdiv 36864).tmod 2=0)=f1:=⟨_,rfl⟩
    obtain⟨h3,hh3⟩:∃h3,h2++[.cells [.int .u32 167772161,.int .i64 q] 158 true]=h3:=⟨_,rfl⟩
    have o3:Only (fun _=>False) h2 h3:=by rw[<-hh3];exact .app
    have b3:=o3.at b2 id
    have g3:h3[h2.length]?=some (.cells [.int .u32 167772161,.int .i64 q] 158 true):=by rw[<-hh3];simp
    have st:astore Try.prog (look h3) 102 (.ptr (some ⟨bc,2,15⟩)) (.agg [.bool f1,.sl (some ⟨h2.length,0,2⟩) 1 1])=some (.set bc (.cells (box80 ac pr f1 (.sl (some ⟨h2.length,0,2⟩) 1 1) t1 ts bo fl (.sl none 0 0) si re) 107 false)):=by
     simp[astore,b3,box80,splice]
    obtain⟨h4,hh4⟩:∃h4,h3.set bc (.cells (box80 ac pr f1 (.sl (some ⟨h2.length,0,2⟩) 1 1) t1 ts bo fl (.sl none 0 0) si re) 107 false)=h4:=⟨_,rfl⟩
    have o4:Only (fun c=>c=bc) h3 h4:=by rw[<-hh4];exact .set rfl
    have b4:h4[bc]?=some (.cells (box80 ac pr f1 (.sl (some ⟨h2.length,0,2⟩) 1 1) t1 ts bo fl (.sl none 0 0) si re) 107 false):=by rw[<-hh4];exact at_same (lt_of_at b3)
    have g4:=o4.at g3 (by have:=lt_of_at b2;omega)
    have ho4:Only (fun _=>False) hR h4:=(o2.trans o3).fresh o4 fun c hc=>by omega
    have T:=tail80 (Q:=Q) hv hok hil hi hx RI hrl hrb o0 ho4 hbc b4 (.one _ _ hq3 g4) ((pts.keep o3 fun _ _ _=>id).keep o4 fun c cs hc e=>by rw[e,b3] at hc;simp at hc) hq
    generalize rulesSl rb rs=x1 at *
    simp[-AV.notTup,hvt,n1,notTup_ptr,c80_r9,c80_r10,abin_quo,abin_rem,w2,hz,w4,hf1,w5,hqq,wq,abuild,abuildSlice,afill,zeros,splice,hh3,fieldA,st,hh4]
    simpa using T
  . have T:=tail80 (Q:=Q) hv hok hil hi hx RI hrl hrb o0 o2 hbc b2 .none pts hq
    generalize rulesSl rb rs=x1 at *
    simp[-AV.notTup,hvt,n1,notTup_ptr,c80_r9,abin_quo,abin_rem,w2,hz]
    simpa using T
 by_cases hz:(x.tdiv 1536).tmod 3=0
 . obtain⟨h3,hh3⟩:∃h3,h++[.cells [.int .i64 80,.int .i64 p] 155 true]=h3:=⟨_,rfl⟩
   have o3:Only (fun _=>False) h h3:=by rw[<-hh3];exact .app
   have b3:=o3.at hb id
   have st:astore Try.prog (look h3) 105 (.ptr (some ⟨bc,8,15⟩)) (.agg [.bool false,.sl (some ⟨h.length,0,2⟩) 1 1])=some (.set bc (.cells (box80 ac pr false (.sl none 0 0) false (.sl (some ⟨h.length,0,2⟩) 1 1) bo fl (.sl none 0 0) si re) 107 false)):=by
    simp[astore,b3,box80,splice]
   obtain⟨h4,hh4⟩:∃h4,h3.set bc (.cells (box80 ac pr false (.sl none 0 0) false (.sl (some ⟨h.length,0,2⟩) 1 1) bo fl (.sl none 0 0) si re) 107 false)=h4:=⟨_,rfl⟩
   have o4:Only (fun c=>c=bc) h3 h4:=by rw[<-hh4];exact .set rfl
   have b4:h4[bc]?=some (.cells (box80 ac pr false (.sl none 0 0) false (.sl (some ⟨h.length,0,2⟩) 1 1) bo fl (.sl none 0 0) si re) 107 false):=by rw[<-hh4];exact at_same (lt_of_at b3)
   have ho4:Only (fun _=>False) hR h4:=(oR.trans o3).fresh o4 fun c hc=>by omega
   have g3:h3[h.length]?=some (.cells [.int .i64 80,.int .i64 p] 155 true):=by rw[<-hh3];simp
   have T:=second h4 false (.sl (some ⟨h.length,0,2⟩) 1 1) (.inr ⟨_,_,_,rfl,o4.at g3 (by have:=lt_of_at hb;omega),rfl,rfl⟩) ho4 b4
   unfold c80_m
   generalize hU:(SC.seq (.seq (.reg c80_r9 none (some [0,3,4,5,6,63])) (.cond (.tmp 63) (.reg c80_r10 none (some [0,3,4,5,6])) .skip (some [0,3,4,5,6]))) c80_t)=U at *
   generalize rulesSl rb rs=x1 at *
   simp[-AV.notTup,hvt,n1,notTup_ptr,c80_r7,c80_r8,abin_quo,abin_rem,w1,hz,w3,hp,wp,abuild,abuildSlice,afill,zeros,splice,hh3,fieldA,st,hh4]
   simpa using T
 . have T:=second h false (.sl none 0 0) (.inl rfl) oR hb
   unfold c80_m
   generalize hU:(SC.seq (.seq (.reg c80_r9 none (some [0,3,4,5,6,63])) (.cond (.tmp 63) (.reg c80_r10 none (some [0,3,4,5,6])) .skip (some [0,3,4,5,6]))) c80_t)=U at *
   generalize rulesSl rb rs=x1 at *
   simp[-AV.notTup,hvt,n1,notTup_ptr,c80_r7,abin_quo,abin_rem,w1,hz]
   simpa using T
def In80(h₀:Heap)(v:AV)(l:List Int)(m:Nat)(σ:St):Prop:=∃rs rb h,m=6-rs.length/\RulesN rs/\σ=⟨env80 v (rulesSl rb rs) (4*rs.length),h⟩/\RulesIn h rb rs/\(rs.length≠0->h₀.length<=rb)/\Only (fun _=>False) h₀ h/\∀r∈rs,SubOK h r
theorem rules_run2{h:Heap}{v:AV}{l:List Int}(hv:Sl1 h v (intCells l))(hok:slOK v)(hl:l.length<=1000000):
  ∃rs rb h',D cfg 80 [v] h=some (rulesSl rb rs,h')/\RulesIn h' rb rs/\RulesN rs/\(rs.length≠0->h.length<=rb)/\Only (fun _=>False) h h'/\∀r∈rs,SubOK h' r:=by
 have hvt:v.notTup=true:=by rcases hv with⟨rfl,_⟩|⟨_,_,_,_,_,rfl,_,_⟩<;>rfl
 have hlen:=fun L=>hv.len (t:=30) (e:=3) (by simp) (L:=L)
 simp only[intCells_len] at hlen
 have key:∃r h',D cfg 80 [v] h=some (r,h')/\(∃rs rb,r=rulesSl rb rs/\RulesIn h' rb rs/\RulesN rs/\(rs.length≠0->h.length<=rb)/\Only (fun _=>False) h h'/\∀r∈rs,SubOK h' r):=by
  refine call80 (R:=fun r h'=>∃rs rb,r=rulesSl rb rs/\RulesIn h' rb rs/\RulesN rs/\(rs.length≠0->h.length<=rb)/\Only (fun _=>False) h h'/\∀r∈rs,SubOK h' r) (args:=[v]) (h:=h) (by simp) ?_
  simp[-AV.notTup,hvt,c80,c80_r0,c80_r1,c80_r2]
  refine Wt.loop (In80 h v l) (m:=6) ⟨[],0,h,rfl,⟨by simp,fun k r hr=>by simp at hr⟩,by simp[rulesSl,bufSl],⟨fun e=>absurd rfl e,fun r hr=>by simp at hr,fun r hr=>by simp at hr,fun r hr=>by simp at hr⟩,fun e=>absurd rfl e,.refl,fun r hr=>by simp at hr⟩ ?_
  rintro m σ ⟨rs,rb,h1,rfl,hN,rfl,RI,hrb,o1,hsub⟩
  have hcut:∀w i,cut (some [0,3,4]) (env80 v w i)=env80 v w i:=fun _ _=>by simp
  simp only[hcut]
  have n1:(rulesSl rb rs).notTup=true:=rulesSl_nt
  obtain⟨i,hi⟩:∃i,4*rs.length=i:=⟨_,rfl⟩
  rw[hi]
  have h6:=hN.1
  have w3:IntKind.wrap .i64 ((i:Int)+3)=i+3:=wrap_i64 (by omega) (by omega)
  have w4:IntKind.wrap .i64 ((i:Int)+4)=i+4:=wrap_i64 (by omega) (by omega)
  by_cases hgo:i+3<l.length/\i<24
  . obtain⟨q1,q2⟩:=hgo
    have q1':(i:Int)+3<l.length:=by omega
    have q2':(i:Int)<24:=by omega
    have hi':i<l.length:=by omega
    have a1:=hv.at (t:=30) (e:=3) (by simp) (by simp) (i:=i) (by rw[intCells_len];exact hi')
    have b1:=(hv.same o1).load (e:=3) (by simp) (i:=i) (by rw[intCells_len];exact hi')
    rw[intCells_get] at b1
    have p1:=place_run (h:=h1) (v:=l[i]) (n:=16777216) (by decide) (by decide)
    obtain⟨x,hx⟩:∃x,x=l[i] % 16777216:=⟨_,rfl⟩
    rw[<-hx] at p1
    have hx0:0<=x/\x<16777216:=by omega
    have g8:=div_fact hx0.1 (n:=8) (by decide)
    have g32:=div_fact hx0.1 (n:=32) (by decide)
    have g128:=div_fact hx0.1 (n:=128) (by decide)
    have g512:=div_fact hx0.1 (n:=512) (by decide)
    obtain⟨ac,ha1,ha4,hac⟩:=idx8 (mod_fact hx0.1 (n:=8) (by decide))
    obtain⟨pr,hpr⟩:=idx4 (p:=6) (q:=6) (r:=0) (s:=17) (mod_fact g8.1 (n:=4) (by decide))
    obtain⟨fl,hfl⟩:=idx4 (p:=0) (q:=1) (r:=2) (s:=0) (mod_fact g32.1 (n:=4) (by decide))
    have w8:IntKind.wrap .i64 (x.tdiv 8)=x.tdiv 8:=wrap_i64 (by omega) (by omega)
    have w32:IntKind.wrap .i64 (x.tdiv 32)=x.tdiv 32:=wrap_i64 (by omega) (by omega)
    have w128:IntKind.wrap .i64 (x.tdiv 128)=x.tdiv 128:=wrap_i64 (by omega) (by omega)
    have w512:IntKind.wrap .i64 (x.tdiv 512)=x.tdiv 512:=wrap_i64 (by omega) (by omega)
    obtain⟨bo,hbo⟩:∃bo,decide ((x.tdiv 128).tmod 4=0)=bo:=⟨_,rfl⟩
    obtain⟨si,hsi⟩:∃si,IntKind.wrap .i64 (100+(i:Int))=si:=⟨_,rfl⟩
    have hsi':si=100+4*rs.length:=by rw[<-hsi,wrap_i64 (by omega) (by omega)];omega
    obtain⟨re,hre⟩:∃re,IntKind.wrap .i64 (1+(x.tdiv 512).tmod 3)=re:=⟨_,rfl⟩
    obtain⟨h2,hh2⟩:∃h2,h1++[.cells (box80 ac pr false (.sl none 0 0) false (.sl none 0 0) bo fl (.sl none 0 0) si re) 107 false]=h2:=⟨_,rfl⟩
    have o2:Only (fun _=>False) h1 h2:=by rw[<-hh2];exact .app
    have b2:h2[h1.length]?=some (.cells (box80 ac pr false (.sl none 0 0) false (.sl none 0 0) bo fl (.sl none 0 0) si re) 107 false):=by rw[<-hh2];simp
    have M:=fun Q hq=>mid80 (Q:=Q) hv hok (i:=i) (by omega) (by omega) hx0 RI (by omega) hrb o1 o2 (Nat.le_refl _) b2 hq
    simp only[box80] at hh2
    rw[c80_l3_eq]
    have l0:rs.length<6:=by omega
    simp only[env80] at M
    obtain⟨x1,hx1⟩:∃x1,rulesSl rb rs=x1:=⟨_,rfl⟩
    rw[hx1] at n1 M ⊢
    simp[-AV.notTup,hvt,n1,notTup_ptr,c80_r3,c80_r5,c80_r6,len1,hlen,w3,q1',q2',q2,a1,b1,p1,abuild,afill,zeros,splice,abin_quo,abin_rem,hac,w8,hpr,w32,hfl,w128,hbo,hsi,w512,hre,astore,hh2]
    refine M _ fun h' rb' cv zs rc rok zf z3 J hb' o' sub' oR'=>?_
    have hnext:In80 h v l (6-(rs.length+1)) ⟨env80 v (rulesSl rb' (rs++[⟨rc,ac,si,cv,zs⟩])) (i+4),h'⟩:=by
     refine⟨rs++[⟨rc,ac,si,cv,zs⟩],rb',h',by simp,⟨by simp;omega,fun k r hr=>?_⟩,by rw[List.length_append,<-hi];simp[Nat.mul_add],J,fun _=>hb',o',fun r hr=>?_⟩
     rotate_left
     . rcases List.mem_append.1 hr with hr|hr
       . refine (hsub r hr).keep oR' fun c cs t ht hc e=>?_
         have:=RI.sl e.2
         rw[<-e.1,hc] at this
         simp only[Option.some.injEq,AObj.cells.injEq] at this
         rcases ht with rfl|rfl<;>exact absurd this.2.1 (by decide)
       . simp at hr;rw[hr];exact sub'
     by_cases hk:k<rs.length
     . rw[List.getElem?_append_left hk] at hr
       exact hN.2 k r hr
     . rw[List.getElem?_append_right (by omega)] at hr
       have hk0:k-rs.length=0:=by
        by_cases e:k-rs.length=0
        . exact e
        . rw[List.getElem?_eq_none (by simp;omega)] at hr;simp at hr
       rw[hk0] at hr
       simp at hr
       subst hr
       have hk2:k=rs.length:=by omega
       subst hk2
       exact⟨hsi',⟨ha1,ha4⟩,z3,zf⟩
    have n2:(rulesSl rb' (rs++[⟨rc,ac,si,cv,zs⟩])).notTup=true:=rulesSl_nt
    simp only[env80] at hnext
    generalize rulesSl rb' (rs++[⟨rc,ac,si,cv,zs⟩])=x2 at *
    simp[-AV.notTup,hvt,n2,c80_r4,w4]
    exact⟨6-(rs.length+1),by omega,by simpa using hnext⟩
  . have hfin:∃rs' rb',rulesSl rb rs=rulesSl rb' rs'/\RulesIn h1 rb' rs'/\RulesN rs'/\(rs'.length≠0->h.length<=rb')/\Only (fun _=>False) h h1/\∀r∈rs',SubOK h1 r:=⟨rs,rb,rfl,RI,hN,hrb,o1,hsub⟩
    obtain⟨x1,hx1⟩:∃x1,rulesSl rb rs=x1:=⟨_,rfl⟩
    rw[hx1] at n1 hfin ⊢
    by_cases q1:i+3<l.length
    . have q2:¬(i<24):=fun h=>hgo ⟨q1,h⟩
      have q1':(i:Int)+3<l.length:=by omega
      have q2':¬((i:Int)<24):=by omega
      simp[-AV.notTup,hvt,n1,c80_l3,c80_r3,c80_r14,len1,hlen,w3,q1',q2,q2']
      simpa using hfin
    . have q1':¬((i:Int)+3<l.length):=by omega
      simp[-AV.notTup,hvt,n1,c80_l3,c80_r3,c80_r14,len1,hlen,w3,q1']
      simpa using hfin
 obtain⟨r,h',e,rs,rb,rfl,h1,h2,h3,h4⟩:=key
 exact⟨rs,rb,h',e,h1,h2,h3,h4⟩
theorem notes_flds{h:Heap}{v:AV}{ns:List Note}{nk:Nat}(h1:v=notesSl nk ns)(h2:ns.length≠0->h[nk]?=some (.cells (notesC ns) 99 true)):∀(i:Nat) (x:Note),ns[i]?=some x ->
  aindexAddr Try.prog 94 v (.int .i64 i)=some (.ptr (some ⟨nk,i*4,(notesC ns).length⟩)) /\
  aload Try.prog (look h) 3 (.ptr (some ⟨nk,i*4,(notesC ns).length⟩))=some (.int .i64 x.sid) /\
  aload Try.prog (look h) 3 (.ptr (some ⟨nk,i*4+1,(notesC ns).length⟩))=some (.int .i64 0) /\
  aload Try.prog (look h) 3 (.ptr (some ⟨nk,i*4+2,(notesC ns).length⟩))=some (.int .i64 x.at_) /\
  aload Try.prog (look h) 3 (.ptr (some ⟨nk,i*4+3,(notesC ns).length⟩))=some (.int .i64 x.action):=by
 subst h1
 intro i x hx
 obtain⟨hi,hxe⟩:=List.getElem?_eq_some_iff.1 hx
 have hne:ns.length≠0:=by omega
 have hb:=h2 hne
 have hd:=notesC_drop hi
 rw[hxe] at hd
 have hi':(i:Int)<ns.length:=by omega
 have get:∀k,k<4->(notesC ns)[i*4+k]?=(noteC x)[k]?:=fun k hk=>by
  rw[<-hd,List.getElem?_take,if_pos hk,List.getElem?_drop]
 have g0:=get 0 (by decide)
 have g1:=get 1 (by decide)
 have g2:=get 2 (by decide)
 have g3:=get 3 (by decide)
 rw[Nat.add_zero] at g0
 simp only[noteC] at g0 g1 g2 g3
 refine⟨?_,?_,?_,?_,?_⟩
 . unfold notesSl bufSl
   rw[if_neg hne]
   simp[aindexAddr,hi,hi']
 . simp[aload,AM.row,hb,g0]
 . simp[aload,AM.row,hb,g1]
 . simp[aload,AM.row,hb,g2]
 . simp[aload,AM.row,hb,g3]
theorem stepT_atle{T:TS}{e:List Bool}:(stepT T e).at_<=T.at_+1:=by
 unfold stepT
 split<;>simp
section
theorem min2{a b:Int}:amin [.int .i64 a,.int .i64 b]=some (.int .i64 (min a b)):=by
 simp only[amin,List.foldl,amin1,if_true]
 congr 2
 split<;>omega
section
variable {h:Heap} {xb lb cb sb:Nat} {lv nv:AV} {BB:AB} {al:List AskH} {sl:List AskS} {ct:List (Nat×Nat)} {pl:List Txt} {nc:List Bool} {w:Txt} {tab:Nat->Nat->Nat} {fl ob:Nat->Nat} {ou:Nat->List Int}
theorem SideAt.keep(H:SideAt h xb lb cb sb lv nv BB al sl ct pl nc w tab fl ob ou){h':Heap}{fp:Nat->Prop}(ho:Only fp h h')
  (hk:∀c,fp c->∀cs t g,h[c]?=some (.cells cs t g)->t≠144/\t≠147/\t≠181/\t≠166/\t≠4/\t≠148/\t≠164/\t≠163/\t≠168) (hs:∀c,scFoot sb lv nv BB (begs (pl.map fold)).length ob ou c->¬fp c):
  SideAt h' xb lb cb sb lv nv BB al sl ct pl nc w tab fl ob ou:=by
 have out:∀{c:Nat} {cs':List AV} {t:TypeId} {g:Bool},h[c]?=some (.cells cs' t g)->(t=144\/t=147\/t=181\/t=166\/t=4\/t=148\/t=164\/t=163\/t=168)->¬fp c:=fun hc ht e=>by
  obtain⟨q1,q2,q3,q4,q5,q6,q7,q8,q9⟩:=hk _ e _ _ _ hc
  rcases ht with rfl|rfl|rfl|rfl|rfl|rfl|rfl|rfl|rfl
  . exact q1 rfl
  . exact q2 rfl
  . exact q3 rfl
  . exact q4 rfl
  . exact q5 rfl
  . exact q6 rfl
  . exact q7 rfl
  . exact q8 rfl
  . exact q9 rfl
 refine⟨H.r.keep ho (out H.r.kx (by simp)) (fun hne=>out (H.r.kl hne) (by simp)) (fun k a ha=>?_) (fun c cs t ht hc=>out hc (by rcases ht with rfl|rfl<;>simp)),fun hne=>ho.at (H.c hne) (out (H.c hne) (by simp)),H.s.keep ho hs,H.ok,H.cl,fun c hc=>?_⟩
 . obtain⟨s,_,A⟩:=H.r.ak.get ha
   refine⟨out A.hdr (by simp),out A.ends (by simp),fun c hc=>?_⟩
   obtain⟨cs,t,q1,q2⟩:=A.trk.typ hc
   exact out q1 (by rcases q2 with e|e|e<;>simp[e])
 . obtain⟨p1,p2,p3,p4⟩:=H.ap c hc
   exact⟨Nat.lt_of_lt_of_le p1 ho.1,p2,p3,p4⟩
theorem SideAt.same(H:SideAt h xb lb cb sb lv nv BB al sl ct pl nc w tab fl ob ou){h':Heap}(ho:Only (fun _=>False) h h'):SideAt h' xb lb cb sb lv nv BB al sl ct pl nc w tab fl ob ou:=
 H.keep ho (fun _ e=>e.elim) fun _ _=>id
end
theorem stepS_T{stp:AskS->TS}{s:AskS}:(stepS stp s).T=s.T\/(stepS stp s).T=stp s:=by
 unfold stepS
 split
 . exact .inl rfl
 . unfold toldS
   split<;>exact .inr rfl
theorem stepSl_at{ct:List (Nat×Nat)}{sl:List AskS}{zs:List Int}{n:Nat}(h:∀s∈sl,s.T.at_<=n):∀s∈stepSl ct sl zs,s.T.at_<=n+1:=by
 intro s hs
 obtain⟨t,ht,e⟩:=setsTo_T hs
 obtain⟨u,hu,rfl⟩:=List.mem_map.1 ht
 obtain⟨x,hx,e2⟩:=setsTo_T hu
 have h1:=h x hx
 rw[e]
 rcases stepS_T (stp:=stpS) (s:=u) with h3|h3
 . rw[h3,e2];omega
 . rw[h3]
   have:=stepT_atle (T:=u.T) (e:=u.ends)
   rw[e2] at this
   show (stepT u.T u.ends).at_<=n+1
   rw[e2];omega
theorem stepSl_len{ct:List (Nat×Nat)}{sl:List AskS}{zs:List Int}:(stepSl ct sl zs).length=sl.length:=by
 unfold stepSl
 rw[setsTo_len,List.length_map,setsTo_len]
theorem newTo_at{l:List Cont}{most:Nat}:∀{k:Nat},(newTo l most k).at_=0:=(newTo_most).2.1
end
section
structure SP where
 xb:Nat
 lb:Nat
 cb:Nat
 sb:Nat
 lv:AV
 nv:AV
 BB:AB
 tab:Nat->Nat->Nat
 fl:Nat->Nat
 ob:Nat->Nat
 ou:Nat->List Int
abbrev SQ(h:Heap)(p:SP)(al:List AskH)(sl:List AskS)(ct:List (Nat×Nat))(pl:List Txt)(nc:List Bool)(w:Txt):Prop:=SideAt h p.xb p.lb p.cb p.sb p.lv p.nv p.BB al sl ct pl nc w p.tab p.fl p.ob p.ou
abbrev sF(p:SP)(al:List AskH)(c:Nat):Prop:=sideF p.xb p.sb al c
abbrev cF(p:SP)(pl:List Txt)(c:Nat):Prop:=scFoot p.sb p.lv p.nv p.BB (begs (pl.map fold)).length p.ob p.ou c
def Ap(p:SP)(al:List AskH)(q:SP)(al':List AskH)(pl:List Txt):Prop:=∀c,sF p al c->¬sF q al' c/\¬cF q pl c
section
variable {h h':Heap} {p q:SP} {al al' al2:List AskH} {sl sl':List AskS} {ct ct':List (Nat×Nat)} {pl pl':List Txt} {nc nc':List Bool} {w w':Txt}
end
abbrev env89(v u:AV)(i:Nat):Env:=[(0,v),(1,u),(5,.int .i64 i)]
def In89(h:Heap)(v u:AV)(N:Nat)(m:Nat)(σ:St):Prop:=∃i,m=N-i/\i<=N/\σ=⟨env89 v u i,h⟩
theorem same_notes{h:Heap}{v u:AV}{ns:List Note}(H:NotesAt h v ns)(H':NotesAt h u ns)(hvt:v.notTup=true)(hut:u.notTup=true)(hl:ns.length<=1000000):D cfg 89 [v,u] h=some (.bool true,h):=by
 refine D_eq (call89 (R:=fun r h'=>r=_/\h'=_) (by simp) ?_)
 have nl:=fun L=>H.len (L:=L)
 have nl':=fun L=>H'.len (L:=L)
 obtain⟨nk,hnv,hnb⟩:=H
 obtain⟨mk,hmv,hmb⟩:=H'
 have hf:=notes_flds hnv hnb
 have hf':=notes_flds hmv hmb
 simp[-AV.notTup,hvt,hut,c89,c89_r0,c89_r1,c89_r3,len1,nl,nl']
 refine Wt.loop (In89 h v u ns.length) (m:=ns.length) ⟨0,rfl,Nat.zero_le _,rfl⟩ ?_
 rintro m σ ⟨i,rfl,hi,rfl⟩
 have hcut:cut (some [0,1,5]) (env89 v u i)=env89 v u i:=by simp
 simp only[hcut]
 by_cases hil:i<ns.length
 . have hil':(i:Int)<ns.length:=by omega
   have hwr:IntKind.wrap .i64 ((i:Int)+1)=i+1:=wrap_i64 (by omega) (by omega)
   obtain⟨x,hx⟩:∃x,ns[i]?=some x:=⟨_,List.getElem?_eq_getElem hil⟩
   obtain⟨a0,l0,l1,l2,l3⟩:=hf i x hx
   obtain⟨b0,m0,m1,m2,m3⟩:=hf' i x hx
   have hnext:In89 h v u ns.length (ns.length-(i+1)) ⟨env89 v u (i+1),h⟩:=⟨i+1,rfl,hil,rfl⟩
   simp only[env89] at hnext
   generalize (notesC ns).length=G at *
   simp[-AV.notTup,hvt,hut,c89_l4,c89_r4,c89_r5,c89_r6,len1,nl,hil,hil',a0,b0,fieldA,l0,l1,l2,l3,m0,m1,m2,m3,hwr]
   exact⟨ns.length-(i+1),by omega,by simpa using hnext⟩
 . have hi2:i=ns.length:=by omega
   subst hi2
   simp[-AV.notTup,hvt,hut,c89_l4,c89_r4,c89_r8,len1,nl]
   rfl
end
section
structure E3 (h:Heap) (p q r:SP) (lp lq lr:List AskH) (sp sq sr:List AskS) (ct:List (Nat×Nat)) (pl:List Txt) (nc:List Bool) (wp wq wr:Txt) (n:Nat):Prop where
 P:SQ h p lp sp ct pl nc wp
 Q:SQ h q lq sq ct pl nc wq
 R:SQ h r lr sr ct pl nc wr
 pq:Ap p lp q lq pl
 qp:Ap q lq p lp pl
 qr:Ap q lq r lr pl
 rq:Ap r lr q lq pl
 rp:Ap r lr p lp pl
 pr:Ap p lp r lr pl
 lenP:sp.length<=1000
 lenQ:sq.length<=1000
 lenR:sr.length<=1000
 atP:∀s∈sp,s.T.at_<=n
 atQ:∀s∈sq,s.T.at_<=n
 atR:∀s∈sr,s.T.at_<=n
section
variable {h h':Heap} {p q r:SP} {lp lq lr:List AskH} {sp sq sr:List AskS} {ct:List (Nat×Nat)} {pl:List Txt} {nc:List Bool} {wp wq wr:Txt} {n:Nat}
end
end
theorem build_rule{n:Nat}{rc:List AV}(rl:rc.length=15)(ro':∀y∈rc,y.one=true):abuildSlice Try.prog n 89 1 [(0,.agg rc)]=some (.sl (some ⟨n,0,15⟩) 1 1,.new (.cells rc 107 true)):=by
 match rc,rl,ro' with
 |[c0,c1,c2,c3,c4,c5,c6,c7,c8,c9,c10,c11,c12,c13,c14],_,ro'=>
  have q0:=ro' c0 (by simp)
  have q1:=ro' c1 (by simp)
  have q2:=ro' c2 (by simp)
  have q3:=ro' c3 (by simp)
  have q4:=ro' c4 (by simp)
  have q5:=ro' c5 (by simp)
  have q6:=ro' c6 (by simp)
  have q7:=ro' c7 (by simp)
  have q8:=ro' c8 (by simp)
  have q9:=ro' c9 (by simp)
  have q10:=ro' c10 (by simp)
  have q11:=ro' c11 (by simp)
  have q12:=ro' c12 (by simp)
  have q13:=ro' c13 (by simp)
  have q14:=ro' c14 (by simp)
  simp[-AV.one,one_agg,abuildSlice,afill,zeros,splice,q0,q1,q2,q3,q4,q5,q6,q7,q8,q9,q10,q11,q12,q13,q14]
theorem RulesIn.snoc{h:Heap}{rb:Nat}{rs:List RuleV}{r:RuleV}(RI:RulesIn h rb rs)(rok:r.ok)(hc:SlC h r.cv r.conts)(hq:∀b,slB r.cv=some b->∃cs,h[b]?=some (.cells cs 52 true)/\∀x∈cs,x.plain=true)(hn:rs.length<=1000000):
  ∃δ h' rb',append2 Try.prog (look (h++[AObj.cells r.rc 107 true])) (h.length+1) 89 89 [rulesSl rb rs,.sl (some ⟨h.length,0,15⟩) 1 1]=some (rulesSl rb' (rs++[r]),δ)/\Heap.apply (h++[AObj.cells r.rc 107 true]) δ=h' /\
   RulesIn h' rb' (rs++[r])/\Only (fun c=>c=rb/\rs.length≠0) h h'/\(rb'=h.length+1\/rs.length≠0/\rb'=rb):=by
 obtain⟨δ,h',e5,e6,d5,o5⟩:=append_rule (h:=h) (b:=rb) (rs:=rs) (r:=r) RI.ok rok RI.sl hn
 obtain⟨rb',hrb'⟩:∃y,(if rs.length=0 then h.length+1 else rb)=y:=⟨_,rfl⟩
 rw[hrb'] at e5 d5
 have old:∀{b:Nat} {cs:List AV},h[b]?=some (.cells cs 52 true)->h'[b]?=some (.cells cs 52 true):=fun hb=>app_at o5 RI.sl hb (.inl (by decide))
 have keepC:∀{v:AV} {l:List Cont},SlC h v l->(∀b,slB v=some b->∃cs,h[b]?=some (.cells cs 52 true)/\∀x∈cs,x.plain=true)->SlC h' v l:=fun hv hb=>hv.keep o5 fun b hbb e=>by
  obtain⟨cs,q1,_⟩:=hb b hbb
  have:=RI.sl e.2
  rw[e.1,this] at q1
  simp only[Option.some.injEq,AObj.cells.injEq] at q1
  exact absurd q1.2.1 (by decide)
 refine⟨δ,h',rb',e5,e6,⟨fun _=>d5,fun x hx=>?_,fun x hx=>?_,fun x hx b hb=>?_⟩,o5,?_⟩
 . rcases List.mem_append.1 hx with hx|hx
   . exact RI.ok x hx
   . simp at hx;rw[hx];exact rok
 . rcases List.mem_append.1 hx with hx|hx
   . exact keepC (RI.cs x hx) (RI.cq x hx)
   . simp at hx;rw[hx];exact keepC hc hq
 . rcases List.mem_append.1 hx with hx|hx
   . obtain⟨cs,q1,q2⟩:=RI.cq x hx b hb
     exact⟨cs,old q1,q2⟩
   . simp at hx
     rw[hx] at hb
     obtain⟨cs,q1,q2⟩:=hq b hb
     exact⟨cs,old q1,q2⟩
 . by_cases hz:rs.length=0
   . rw[if_pos hz] at hrb';exact .inl hrb'.symm
   . rw[if_neg hz] at hrb';exact .inr ⟨hz,hrb'.symm⟩
theorem RulesIn.keep{h h':Heap}{rb:Nat}{rs:List RuleV}{fp:Nat->Prop}(RI:RulesIn h rb rs)(ho:Only fp h h')(hk:∀c cs t,(t=107\/t=52)->h[c]?=some (.cells cs t true)->¬fp c):RulesIn h' rb rs:=
 ⟨fun hne=>ho.at (RI.sl hne) (hk _ _ _ (.inl rfl) (RI.sl hne)),RI.ok,fun r hr=>(RI.cs r hr).keep ho fun b hb=>by
  obtain⟨cs,q1,_⟩:=RI.cq r hr b hb
  exact hk _ _ _ (.inr rfl) q1,fun r hr b hb=>by
  obtain⟨cs,q1,q2⟩:=RI.cq r hr b hb
  exact⟨cs,ho.at q1 (hk _ _ _ (.inr rfl) q1),q2⟩⟩
abbrev refC(lv:AV)(most:Nat)(w:Txt)(tv ov:AV):List AV:=[lv,.int .i64 most,.str w,tv,ov]
abbrev refP(xb:Nat):AV:=.ptr (some ⟨xb,0,5⟩)
structure RefAt (h:Heap) (xb tb ob rb:Nat) (rs:List RuleV) (most:Nat) (w:Txt) (told over:List Bool):Prop where
 hdr:h[xb]?=some (.cells (refC (rulesSl rb rs) most w (endSl tb rs.length) (endSl ob rs.length)) 176 false)
 ri:RulesIn h rb rs
 tl:h[tb]?=some (.cells (boolCells told) 4 true)
 ol:h[ob]?=some (.cells (boolCells over) 4 true)
 lt:told.length=rs.length
 lo:over.length=rs.length
 ne:tb≠ob
abbrev env87(rv pv:AV)(xb i:Nat):Env:=[(0,rv),(1,pv),(7,refP xb),(8,.int .i64 i)]
structure New87 (h₀ h:Heap) (xb rb:Nat) (rs:List RuleV) (most:Nat):Prop where
 hdr:h[xb]?=some (.cells (refC (rulesSl rb rs) most [] (.sl none 0 0) (.sl none 0 0)) 176 false)
 ri:RulesIn h rb rs
 fr:rs.length≠0->h₀.length<=rb
 fx:h₀.length<=xb
 o:Only (fun _=>False) h₀ h
def In87(h₀:Heap)(rv pv:AV)(xb:Nat)(rs:List RuleV)(ks:List Int)(most:Nat)(m:Nat)(σ:St):Prop:=
 ∃i rb h,m=ks.length-i/\i<=ks.length/\σ=⟨env87 rv pv xb i,h⟩/\New87 h₀ h xb rb (selL rs (ks.take i)) most
theorem ref_new{h:Heap}{pv:AV}{m0:Int}{most:Nat}{rb:Nat}{rs:List RuleV}{ks:List Int}(hm:(most:Int)=min (max m0 1) 32)(RI:RulesIn h rb rs)(hp:Sl1 h pv (intCells ks))(hks:ks.length<=1000):
  ∃xb tb ob rb' h',D cfg 87 [rulesSl rb rs,pv,.int .i64 m0] h=some (refP xb,h')/\RefAt h' xb tb ob rb' (selL rs ks) most [] (List.replicate (selL rs ks).length false) (List.replicate (selL rs ks).length false)/\Only (fun _=>False) h h'/\h.length<=xb/\h.length<=tb/\h.length<=ob/\((selL rs ks).length≠0->h.length<=rb'):=by
 have hpv:pv.notTup=true:=by rcases hp with⟨rfl,_⟩|⟨_,_,_,_,_,rfl,_,_⟩<;>rfl
 have hpl:∀L,alen Try.prog L 30 pv=some (.int .i64 ks.length):=fun L=>by
  have:=hp.len (t:=30) (e:=3) (by simp) (L:=L)
  rwa[intCells_len] at this
 have hrv:(rulesSl rb rs).notTup=true:=rulesSl_nt
 have hrl:=fun L=>RI.len (L:=L)
 have key:∃r h',D cfg 87 [rulesSl rb rs,pv,.int .i64 m0] h=some (r,h')/\∃xb tb ob rb',r=refP xb/\RefAt h' xb tb ob rb' (selL rs ks) most [] (List.replicate (selL rs ks).length false) (List.replicate (selL rs ks).length false)/\Only (fun _=>False) h h'/\h.length<=xb/\h.length<=tb/\h.length<=ob/\((selL rs ks).length≠0->h.length<=rb'):=by
  obtain⟨R,hR⟩:∃R:AV->Heap->Prop,R=fun r h'=>∃xb tb ob rb',r=refP xb/\RefAt h' xb tb ob rb' (selL rs ks) most [] (List.replicate (selL rs ks).length false) (List.replicate (selL rs ks).length false)/\Only (fun _=>False) h h'/\h.length<=xb/\h.length<=tb/\h.length<=ob/\((selL rs ks).length≠0->h.length<=rb'):=⟨_,rfl⟩
  suffices hs:∃r h',D cfg 87 [rulesSl rb rs,pv,.int .i64 m0] h=some (r,h')/\R r h' by
   obtain⟨r,h',e,hr⟩:=hs
   rw[hR] at hr
   exact⟨r,h',e,hr⟩
  refine call87 (R:=R) (args:=[rulesSl rb rs,pv,.int .i64 m0]) (h:=h) (by simp) ?_
  obtain⟨h1,hh1⟩:∃h1,h++[AObj.cells (refC (.sl none 0 0) most [] (.sl none 0 0) (.sl none 0 0)) 176 false]=h1:=⟨_,rfl⟩
  have o1:Only (fun _=>False) h h1:=by rw[<-hh1];exact .app
  have I0:New87 h h1 h.length 0 (selL rs (ks.take 0)) most:=by
   refine⟨by rw[<-hh1];simp[selL,rulesSl,bufSl],⟨fun e=>absurd rfl e,fun r hr=>?_,fun r hr=>?_,fun r hr=>?_⟩,fun e=>absurd rfl e,Nat.le_refl _,o1⟩<;>simp[selL] at hr
  obtain⟨rv,hrvE⟩:∃rv,rulesSl rb rs=rv:=⟨_,rfl⟩
  rw[hrvE] at hrv hrl ⊢
  simp[-AV.notTup,hrv,hpv,notTup_ptr,c87,c87_r0,c87_r1,c87_r2,max2,min2,<-hm,abuild,afill,zeros,splice,hh1]
  refine Wt.loop (In87 h rv pv h.length rs ks most) (m:=ks.length) ⟨0,0,h1,rfl,Nat.zero_le _,rfl,I0⟩ ?_
  rintro m σ ⟨i,rb1,h2,rfl,hi,rfl,I⟩
  have hcut:cut (some [0,1,7,8]) (env87 rv pv h.length i)=env87 rv pv h.length i:=by simp
  simp only[hcut]
  by_cases hil:i<ks.length
  . have hil':(i:Int)<ks.length:=by omega
    have hwr:IntKind.wrap .i64 ((i:Int)+1)=i+1:=wrap_i64 (by omega) (by omega)
    have a1:=hp.at (t:=30) (e:=3) (by simp) (by simp) (i:=i) (by rw[intCells_len];exact hil)
    have b1:=(hp.same I.o).load (e:=3) (by simp) (i:=i) (by rw[intCells_len];exact hil)
    rw[intCells_get] at b1
    have hsucc:=selL_succ (rs:=rs) hil
    obtain⟨z,hz⟩:∃z,z=ks[i]:=⟨_,rfl⟩
    rw[<-hz] at b1 hsucc
    cases hsel:selOne rs z with
    |none=>
     rw[hsel] at hsucc
     simp only[Option.toList,List.append_nil] at hsucc
     have hnext:In87 h rv pv h.length rs ks most (ks.length-(i+1)) ⟨env87 rv pv h.length (i+1),h2⟩:=⟨i+1,rb1,h2,rfl,hil,rfl,by rw[hsucc];exact I⟩
     simp only[env87] at hnext
     unfold selOne at hsel
     by_cases z1:z<0
     . have z1':¬(0<=z):=by omega
       simp[-AV.notTup,hrv,hpv,notTup_ptr,c87_l3,c87_r3,c87_r4,c87_r5,len1,hpl,hil,hil',a1,b1,z1,z1',hwr]
       exact⟨ks.length-(i+1),by omega,by simpa using hnext⟩
     . rw[if_neg z1] at hsel
       have hge:=List.getElem?_eq_none_iff.1 hsel
       have z1':0<=z:=by omega
       have z2:¬(z<(rs.length:Int)):=by omega
       simp[-AV.notTup,hrv,hpv,notTup_ptr,c87_l3,c87_r3,c87_r4,c87_r5,len1,hpl,hrl,hil,hil',a1,b1,z1',z2,hwr]
       exact⟨ks.length-(i+1),by omega,by simpa using hnext⟩
    |some r=>
     rw[hsel] at hsucc
     simp only[Option.toList] at hsucc
     unfold selOne at hsel
     have z1:¬z<0:=fun h=>by rw[if_pos h] at hsel;simp at hsel
     rw[if_neg z1] at hsel
     obtain⟨j,rfl⟩:∃j:Nat,z=j:=⟨z.toNat,by omega⟩
     simp only[Int.toNat_natCast] at hsel
     obtain⟨hj,hrj⟩:=List.getElem?_eq_some_iff.1 hsel
     have z1':(0:Int)<=(j:Int):=by omega
     have z2:(j:Int)<rs.length:=by omega
     have RI2:=RI.same I.o
     obtain⟨c1,c2,_⟩:=RI2.at hj
     have okr:=RI2.ok _ (List.getElem_mem hj)
     have hsl2:(selL rs (ks.take i)).length<=1000000:=by
      have:=selL_len (rs:=rs) (ks:=ks.take i)
      rw[List.length_take] at this
      omega
     obtain⟨δ,h3,rb2,e1,e2,J,o3,hrb2⟩:=I.ri.snoc okr (RI2.cs _ (List.getElem_mem hj)) (RI2.cq _ (List.getElem_mem hj)) hsl2
     rw[hrj,<-hsucc] at e1 J
     rw[hrj] at c2 e2 okr
     have x3:=app_at o3 I.ri.sl I.hdr (.inr (by decide))
     have q1:=cell_load I.hdr (n:=5) rfl (t:=89) (by simp) (off:=0) rfl
     have n2:(rulesSl rb2 (selL rs (ks.take (i+1)))).notTup=true:=rulesSl_nt
     have one2:(rulesSl rb2 (selL rs (ks.take (i+1)))).one=true:=bufSl_one
     have st:=cell_store x3 (n:=5) rfl (t:=89) (by simp) (off:=0) (v:=rulesSl rb2 (selL rs (ks.take (i+1)))) one2 (by omega)
     obtain⟨h4,hh4⟩:∃h4,h3.set h.length (.cells (refC (rulesSl rb2 (selL rs (ks.take (i+1)))) most [] (.sl none 0 0) (.sl none 0 0)) 176 false)=h4:=⟨_,rfl⟩
     have o4:Only (fun c=>c=h.length) h3 h4:=by rw[<-hh4];exact .set rfl
     have hnext:In87 h rv pv h.length rs ks most (ks.length-(i+1)) ⟨env87 rv pv h.length (i+1),h4⟩:=by
      refine⟨i+1,rb2,h4,rfl,hil,rfl,⟨by rw[<-hh4];exact at_same (lt_of_at x3),J.keep o4 fun c cs t ht hc e=>?_,fun _=>?_,Nat.le_refl _,(I.o.fresh o3 fun c hc=>by rw[hc.1];exact I.fr hc.2).fresh o4 fun c hc=>by omega⟩⟩
      . rw[e,x3] at hc;simp at hc
      . have:=I.o.1
        rcases hrb2 with e|⟨e,e'⟩
        . omega
        . rw[e'];exact I.fr e
     have st':astore Try.prog (look h3) 89 (.ptr (some ⟨h.length,0,5⟩)) (rulesSl rb2 (selL rs (ks.take (i+1))))=some (.set h.length (.cells (refC (rulesSl rb2 (selL rs (ks.take (i+1)))) most [] (.sl none 0 0) (.sl none 0 0)) 176 false)):=st
     have bs:=fun n=>build_rule (n:=n) okr.len fun y hy=>plain_one (okr.plain y hy)
     have n1:(rulesSl rb1 (selL rs (ks.take i))).notTup=true:=rulesSl_nt
     simp only[env87] at hnext
     rw[<-hrvE] at hrl hrv ⊢
     rw[<-hrvE] at hnext
     obtain⟨y1,hy1⟩:∃y,rulesSl rb1 (selL rs (ks.take i))=y:=⟨_,rfl⟩
     obtain⟨y2,hy2⟩:∃y,rulesSl rb2 (selL rs (ks.take (i+1)))=y:=⟨_,rfl⟩
     rw[hy1] at n1 q1 e1
     rw[hy2] at e1 n2 one2 st' hh4
     have okl:=okr.len
     obtain⟨lm,hlm⟩:∃lm,(rulesC rs).length=lm:=⟨_,rfl⟩
     rw[hlm] at c1 c2
     generalize rulesSl rb rs=rv' at *
     simp[-AV.notTup,-AV.one,-AV.cells,cells_agg,one_agg,hrv,hpv,n1,n2,notTup_ptr,c87_l3,c87_r3,c87_r4,c87_r5,c87_r6,len1,hpl,hrl,hil,hil',a1,b1,z1',z2,hj,fieldA,q1,c1,c2,bs,e1,e2,st',hh4,hwr]
     exact⟨ks.length-(i+1),by omega,by simpa using hnext⟩
  . have hi2:i=ks.length:=by omega
    subst hi2
    rw[List.take_length] at I
    obtain⟨sel,hsel⟩:∃sel,selL rs ks=sel:=⟨_,rfl⟩
    rw[hsel] at I hR
    have hsl:sel.length<=1000:=by
     have:=selL_len (rs:=rs) (ks:=ks)
     rw[hsel] at this
     omega
    have q1:=cell_load I.hdr (n:=5) rfl (t:=89) (by simp) (off:=0) rfl
    obtain⟨h3,hh3⟩:∃h3,h2++[AObj.cells (zeros [.bool false] sel.length) 4 true]=h3:=⟨_,rfl⟩
    obtain⟨h4,hh4⟩:∃h4,h3++[AObj.cells (zeros [.bool false] sel.length) 4 true]=h4:=⟨_,rfl⟩
    have o3:Only (fun _=>False) h2 h3:=by rw[<-hh3];exact .app
    have o4:Only (fun _=>False) h3 h4:=by rw[<-hh4];exact .app
    have g3:h3[h2.length]?=some (.cells (boolCells (List.replicate sel.length false)) 4 true):=by rw[<-hh3,<-zeros_bool];simp
    have g4:h4[h3.length]?=some (.cells (boolCells (List.replicate sel.length false)) 4 true):=by rw[<-hh4,<-zeros_bool];simp
    have x3:=o3.at I.hdr id
    have q2:=cell_load x3 (n:=5) rfl (t:=89) (by simp) (off:=0) rfl
    have x4:=o4.at x3 id
    have s1:=cell_store x4 (n:=5) rfl (t:=68) (by simp) (off:=3) (v:=endSl h2.length sel.length) rfl (by omega)
    obtain⟨h5,hh5⟩:∃h5,h4.set h.length (.cells (refC (rulesSl rb1 sel) most [] (endSl h2.length sel.length) (.sl none 0 0)) 176 false)=h5:=⟨_,rfl⟩
    have o5:Only (fun c=>c=h.length) h4 h5:=by rw[<-hh5];exact .set rfl
    have x5:h5[h.length]?=some (.cells (refC (rulesSl rb1 sel) most [] (endSl h2.length sel.length) (.sl none 0 0)) 176 false):=by rw[<-hh5];exact at_same (lt_of_at x4)
    have s2:=cell_store x5 (n:=5) rfl (t:=68) (by simp) (off:=4) (v:=endSl h3.length sel.length) rfl (by omega)
    obtain⟨h6,hh6⟩:∃h6,h5.set h.length (.cells (refC (rulesSl rb1 sel) most [] (endSl h2.length sel.length) (endSl h3.length sel.length)) 176 false)=h6:=⟨_,rfl⟩
    have o6:Only (fun c=>c=h.length) h5 h6:=by rw[<-hh6];exact .set rfl
    have x6:h6[h.length]?=some (.cells (refC (rulesSl rb1 sel) most [] (endSl h2.length sel.length) (endSl h3.length sel.length)) 176 false):=by rw[<-hh6];exact at_same (lt_of_at x5)
    have L3:h3.length=h2.length+1:=by rw[<-hh3];simp
    have hx2:=lt_of_at I.hdr
    have oo:Only (fun _=>False) h h6:=(((I.o.trans o3).trans o4).fresh o5 fun c hc=>by omega).fresh o6 fun c hc=>by omega
    have L0:=I.o.1
    have notx:∀(h':Heap) (cs0:List AV),h'[h.length]?=some (.cells cs0 176 false)->∀(c:Nat) (cs:List AV) (t:TypeId),h'[c]?=some (.cells cs t true)->¬c=h.length:=fun h' cs0 hx c cs t hc e=>by
     rw[e,hx] at hc;simp at hc
    have R6:RefAt h6 h.length h2.length h3.length rb1 sel most [] (List.replicate sel.length false) (List.replicate sel.length false):=by
     refine⟨x6,(((I.ri.same o3).same o4).keep o5 fun c cs t _ hc=>notx _ _ x4 c cs t hc).keep o6 fun c cs t _ hc=>notx _ _ x5 c cs t hc,?_,?_,by simp,by simp,by omega⟩
     . exact o6.at (o5.at (o4.at g3 id) (notx _ _ x4 _ _ _ (o4.at g3 id))) (notx _ _ x5 _ _ _ (o5.at (o4.at g3 id) (notx _ _ x4 _ _ _ (o4.at g3 id))))
     . exact o6.at (o5.at g4 (notx _ _ x4 _ _ _ g4)) (notx _ _ x5 _ _ _ (o5.at g4 (notx _ _ x4 _ _ _ g4)))
    have hfin:R (refP h.length) h6:=by
     rw[hR]
     exact⟨h.length,h2.length,h3.length,rb1,rfl,R6,oo,Nat.le_refl _,L0,by omega,I.fr⟩
    clear hR
    have slen:=fun L=>I.ri.len (L:=L)
    have n1:(rulesSl rb1 sel).notTup=true:=rulesSl_nt
    have hb1:(sel.length:Int)<=281474976710656:=by omega
    have hb2:(sel.length:Int)<=9223372036854775807:=by omega
    have m1:(h.length != h2.length)=true:=by simp;omega
    have s1':astore Try.prog (look h4) 68 (.ptr (some ⟨h.length,3,5⟩)) (endSl h2.length sel.length)=some (.set h.length (.cells (refC (rulesSl rb1 sel) most [] (endSl h2.length sel.length) (.sl none 0 0)) 176 false)):=s1
    have s2':astore Try.prog (look h5) 68 (.ptr (some ⟨h.length,4,5⟩)) (endSl h3.length sel.length)=some (.set h.length (.cells (refC (rulesSl rb1 sel) most [] (endSl h2.length sel.length) (endSl h3.length sel.length)) 176 false)):=s2
    by_cases hz:sel.length=0
    . have hE:rulesSl rb1 sel=.sl none 0 0:=by simp[rulesSl,bufSl,hz]
      rw[hE] at q1 q2 hh5 hh6 s1' s2' slen n1
      simp[-AV.notTup,-Touch.same,-touchD,tdNo,tdNew,tdSet,tsNo,tsBlk,tsHeaps,hrv,hpv,n1,notTup_ptr,c87_l3,c87_r3,c87_r7,c87_r8,len1,hpl,fieldA,q1,q2,slen,amakeSlice,hb1,hb2,hh3,hh4,m1,s1',hh5,s2',hh6]
      simpa using hfin
    . have hE:rulesSl rb1 sel=.sl (some ⟨rb1,0,(rulesC sel).length⟩) sel.length sel.length:=by simp[rulesSl,bufSl,hz]
      have hrb:=I.ri.sl hz
      have hrbl:=lt_of_at hrb
      have m2:(rb1 != h2.length)=true:=by simp;omega
      have m3:(rb1 != h.length)=true:=by
       have:=notx _ _ I.hdr _ _ _ hrb
       simpa using this
      rw[hE] at q1 q2 hh5 hh6 s1' s2' slen n1
      generalize (rulesC sel).length=G at *
      obtain⟨N,hN⟩:∃N,sel.length=N:=⟨_,rfl⟩
      rw[hN] at *
      simp[-AV.notTup,-Touch.same,-touchD,tdNo,tdNew,tdSet,tsNo,tsBlk,tsHeaps,hrv,hpv,n1,notTup_ptr,c87_l3,c87_r3,c87_r7,c87_r8,len1,hpl,fieldA,q1,q2,slen,amakeSlice,hb1,hb2,hh3,hh4,m1,m2,m3,s1',hh5,s2',hh6]
      simpa using hfin
 obtain⟨r,h',e,xb,tb,ob,rb',rfl,rest⟩:=key
 exact⟨xb,tb,ob,rb',h',e,rest⟩
end Go.AM


/-
  What 'Build' does: the states, one behind the other.
-/
import Derived.Test.YtamidpfdiijjgaaA5
namespace Go.AM
open Go Go.Proofs
set_option linter.unusedVariables false
set_option linter.unusedSimpArgs false
set_option maxRecDepth 100000

/-- What an automaton of patterns is. -/
structure AutoX (h : Heap) (B : AB) (X ps : List Txt) (tab : Nat → Nat → Nat) (fl ob : Nat → Nat) (ou : Nat → List Int) : Prop where
  at_ : AutoAt h B X.length tab fl ob ou
  nodup : X.Nodup
  zero : X[0]? = some []
  pre : Pre X
  sub : ∀ p ∈ ps, p ∈ X
  tab_ : ∀ x ∈ X, ∀ c, c < 256 → tab (st X x) c = st X (lsuf X (x ++ [UInt8.ofNat c]))
  fl_ : ∀ x ∈ X, fl (st X x) = st X (fsuf X x)
  ou_ : ∀ x ∈ X, ou (st X x) = outs x ps 0

/-- On the way to it. -/
structure AutoI (h : Heap) (B : AB) (X ps : List Txt) (done queue : List Txt) (tab : Nat → Nat → Nat) (fl ob : Nat → Nat) (ou : Nat → List Int) : Prop where
  at_ : AutoAt h B X.length tab fl ob ou
  bfs : Bfs X done queue
  tab_ : ∀ x ∈ done, ∀ c, c < 256 → tab (st X x) c = st X (lsuf X (x ++ [UInt8.ofNat c]))
  ou_ : ∀ x ∈ done, ou (st X x) = outs x ps 0
  fl_ : ∀ x ∈ done ++ queue, fl (st X x) = st X (fsuf X x)
  fl0 : ∀ x ∈ X, x ∉ done ++ queue → fl (st X x) = 0
  tab0 : [] ∉ done → ∀ c, tab 0 c = 0

theorem st_nil {X : List Txt} (hn : X.Nodup) (h0 : X[0]? = some []) : st X [] = 0 := st_eq hn h0

section
variable {h : Heap} {B : AB} {tab : Nat → Nat → Nat} {fl ob : Nat → Nat} {ou : Nat → List Int} {X ps done q : List Txt} {x : Txt}

theorem fsuf_mem (h0 : [] ∈ X) : fsuf X x ∈ X := lsuf_mem h0

/-- What ends a state needs of room. -/
theorem outs_room (hx : x ≠ []) (hl : ∀ p ∈ ps, p ∈ X) : (outs (fsuf X x) ps 0).length + (places x ps 0).length ≤ ps.length := by
  have := (outs_perm (X := X) (i := 0) hx hl).length_eq
  simp at this
  have h2 := outs_len (x := x) (l := ps) (i := 0)
  omega

/-- One state more. -/
theorem AutoI.step {h' : Heap} {tab' : Nat → Nat → Nat} {fl' ob' : Nat → Nat} {ou' : Nat → List Int} {bl : Nat} (I : AutoI h B X ps done (x :: q) tab fl ob ou) (hn : X.Nodup) (h0 : X[0]? = some []) (hp : Pre X) (hsub : ∀ p ∈ ps, p ∈ X)
    (R : RowX h B X.length tab fl ob ou X ps (st X x) x h' tab' fl' ob' ou' bl) : AutoI h' B X ps (done ++ [x]) (q ++ kids X x 256) tab' fl' ob' ou' := by
  have hm0 : [] ∈ X := List.mem_of_getElem? h0
  have hxX : x ∈ X := I.bfs.sub x (by simp)
  have hs0 := st_nil hn h0
  have hxd : x ∉ done := by
    have := I.bfs.nodup
    rw [List.nodup_append] at this
    intro h
    exact this.2.2 x h x (by simp) rfl
  have hold : ∀ y ∈ done, st X y ≠ st X x := fun y hy e => hxd (by rw [← st_inj (I.bfs.sub y (by simp [hy])) hxX e]; exact hy)
  have hflx : fl (st X x) = st X (fsuf X x) := I.fl_ x (by simp)
  have hfd : x ≠ [] → fsuf X x ∈ done := fun hx => I.bfs.short hp _ _ rfl (fsuf_mem hm0) (fsuf_len hx)
  refine ⟨R.at_, I.bfs.step, fun y hy c hc => ?_, fun y hy => ?_, fun y hy => ?_, fun y hyX hy => ?_, fun h => ?_⟩
  · rcases List.mem_append.1 hy with hy | hy
    · rw [R.t1 _ _ (hold y hy), I.tab_ y hy c hc]
    · simp at hy
      subst hy
      rw [R.t2 c hc]
      split
      · rename_i hm
        rw [lsuf_self hm]
      · rename_i hm
        split
        · rename_i he
          subst he
          simp only [List.nil_append] at hm ⊢
          rw [lsuf_miss0 hm, hs0, I.tab0 hxd]
        · rename_i hx
          rw [hflx, I.tab_ _ (hfd hx) c hc, lsuf_miss hm0 hp hx hm]
          rfl
  · rcases List.mem_append.1 hy with hy | hy
    · rw [R.o1 _ (hold y hy), I.ou_ y hy]
    · simp at hy
      subst hy
      rw [R.o2, rowOut]
      split
      · rename_i he
        subst he
        rw [outs_nil]
      · rename_i hx
        rw [hflx, I.ou_ _ (hfd hx), outs_sort hx hsub]
  · have hfk : ∀ z ∈ done ++ x :: q, fl' (st X z) = st X (fsuf X z) := by
      intro z hz
      rw [R.f2, I.fl_ z hz]
      refine .inr fun c hc e => ?_
      rw [st_at (I.bfs.sub z hz)] at e
      simp at e
      subst e
      exact hxd (I.bfs.par x _ hz)
    rcases List.mem_append.1 hy with hy | hy
    · exact hfk y (by simp at hy ⊢; rcases hy with h | h <;> simp [h])
    · rcases List.mem_append.1 hy with hy | hy
      · exact hfk y (by simp [hy])
      · obtain ⟨c, hc, rfl, hm⟩ := mem_kids.1 hy
        by_cases hx : x = []
        · subst hx
          have hnq : [] ++ [UInt8.ofNat c] ∉ done ++ [] :: q := fun h => hxd (I.bfs.par [] _ h)
          rw [R.f2 _ (.inl rfl), I.fl0 _ hm hnq]
          simp [fsuf, lsuf, hs0]
        · rw [R.f1 hx c hc hm, hflx, I.tab_ _ (hfd hx) c hc]
          congr 1
          simp only [fsuf]
          rw [lsuf_step hm0 hp]
          cases x with
          | nil => exact absurd rfl hx
          | cons a r => simp
  · have hy' : y ∉ done ++ x :: q := fun h => hy (by simp at h ⊢; rcases h with h | h | h <;> simp [h])
    rw [R.f2, I.fl0 y hyX hy']
    refine .inr fun c hc e => ?_
    rw [st_at hyX] at e
    simp at e
    subst e
    exact hy (by simp [mem_kids256.2 ⟨_, rfl, hyX⟩])
  · have hx : x ≠ [] := fun e => h (by simp [e])
    have hnd : [] ∉ done := fun h' => h (by simp [h'])
    intro c
    rw [R.t1 0 c (fun e => hx (by rw [← hs0] at e; exact (st_inj hm0 hxX e).symm)), I.tab0 hnd]

/-- When all is done. -/
theorem AutoI.all (I : AutoI h B X ps done [] tab fl ob ou) (hn : X.Nodup) (h0 : X[0]? = some []) (hp : Pre X) (hsub : ∀ p ∈ ps, p ∈ X) : AutoX h B X ps tab fl ob ou := by
  have hall := fun y hy => I.bfs.all hp _ y rfl hy
  exact ⟨I.at_, hn, h0, hp, hsub, fun y hy => I.tab_ y (hall y hy), fun y hy => I.fl_ y (by simp [hall y hy]), fun y hy => I.ou_ y (hall y hy)⟩
end

/-! ### the queue's loop -/

def qList (X : List Txt) (l : List Txt) : List Int := l.map fun y => ((st X y : Nat) : Int)

structure QI (h₀ : Heap) (B : AB) (Bt : TB) (T : TM) (X ps : List Txt) (qb : Nat) (done queue : List Txt) (o : Nat) (full : List Int) (h : Heap) : Prop where
  auto : ∃ tab fl ob ou, AutoI h B X ps done queue tab fl ob ou ∧ (∀ c, B.foot X.length ob ou c → h₀.length ≤ c ∧ c ≠ qb)
  trie : TrX h Bt T X ps
  q : h[qb]? = some (.cells (intCells full) 3 true)
  qh : full.drop o = qList X queue
  qo : o ≤ full.length
  qn : full.length ≤ X.length
  only : Only (fun _ => False) h₀ h

def QL (h₀ : Heap) (B : AB) (Bt : TB) (T : TM) (X ps : List Txt) (qb : Nat) (m : Nat) (σ : St) : Prop :=
  ∃ done queue o full h, m = X.length - done.length ∧ σ = ⟨[(6, Bt.ptr), (12, B.ptr), (13, offSl qb o full)], h⟩ ∧ QI h₀ B Bt T X ps qb done queue o full h ∧ full.length = done.length + queue.length ∧ o = done.length

theorem offSl_notTup {b o : Nat} {l : List Int} : (offSl b o l).notTup = true := rfl

theorem queue_loop {h₀ h : Heap} {B : AB} {Bt : TB} {T : TM} {X ps : List Txt} {qb : Nat} (hX : X.length ≤ 60000) (hps : ps.length ≤ 9000000000000) (hqb : h₀.length ≤ qb) (hfoot : ∀ b, Bt.foot T b → b < h₀.length) (I0 : QI h₀ B Bt T X ps qb [] [[]] 0 [0] h) {Q : AExit → St → Prop}
    (hq : ∀ h' tab fl ob ou o full, AutoX h' B X ps tab fl ob ou → TrX h' Bt T X ps → Only (fun _ => False) h₀ h' → (∀ c, B.foot X.length ob ou c → h₀.length ≤ c) → Q (.exit 4) ⟨[(6, Bt.ptr), (12, B.ptr), (13, offSl qb o full), (61, .bool false)], h'⟩) :
    Wt Try.prog (D cfg) (.loop c52_l20 (some [6, 12, 13])) ⟨[(6, Bt.ptr), (12, B.ptr), (13, offSl qb 0 [0])], h⟩ Q := by
  refine Wt.loop (QL h₀ B Bt T X ps qb) (m := X.length) ⟨[], [[]], 0, [0], h, rfl, rfl, I0, rfl, rfl⟩ ?_
  rintro m σ ⟨done, queue, o, full, h1, rfl, rfl, I, hfl, ho⟩
  have hcut : cut (some [6, 12, 13]) [(6, Bt.ptr), (12, B.ptr), (13, offSl qb o full)] = [(6, Bt.ptr), (12, B.ptr), (13, offSl qb o full)] := by simp
  simp only [hcut]
  obtain ⟨tab, fl, ob, ou, A, hown⟩ := I.auto
  have hn := I.trie.model.nodup
  have h0 := I.trie.model.zero
  have hp := I.trie.model.pre
  have hsub := I.trie.model.sub
  have hm0 : [] ∈ X := List.mem_of_getElem? h0
  cases queue with
  | nil =>
    have hlen : full.length - o = 0 := by simp at hfl; omega
    have hAll := A.all hn h0 hp hsub
    have := hq h1 tab fl ob ou o full hAll I.trie I.only fun c hc => (hown c hc).1
    simp only [offSl] at this
    simp [c52_l20, c52_r20, offSl, len1, alen, hlen]
    simpa [hlen] using this
  | cons x q =>
    have hlen : 0 < full.length - o := by simp at hfl; omega
    have hlen' : (0 : Int) < ((full.length - o : Nat) : Int) := by omega
    have hxX : x ∈ X := A.bfs.sub x (by simp)
    have hsx := st_at hxX
    have hslt := st_lt hxX
    have hget : (intCells full)[o]? = some (.int .i64 ((st X x : Nat) : Int)) := by
      have h1 : (full.drop o)[0]? = (qList X (x :: q))[0]? := by rw [I.qh]
      rw [List.getElem?_drop] at h1
      simp [qList] at h1
      rw [intCells_at, h1]; rfl
    have hflx : fl (st X x) = st X (fsuf X x) := A.fl_ x (by simp)
    have hff : fl (st X x) < X.length := by rw [hflx]; exact st_lt (fsuf_mem hm0)
    have hs0 := st_nil hn h0
    have hfs : x ≠ [] → fl (st X x) ≠ st X x := fun hx e => by
      rw [hflx] at e
      have := st_inj (fsuf_mem hm0) hxX e
      have h2 := fsuf_len (X := X) hx
      rw [this] at h2
      omega
    have hs00 : st X x = 0 ↔ x = [] := ⟨fun e => by rw [← hs0] at e; exact st_inj hxX hm0 e, fun e => by rw [e]; exact hs0⟩
    have hfd : x ≠ [] → fsuf X x ∈ done := fun hx => A.bfs.short hp _ _ rfl (fsuf_mem hm0) (fsuf_len hx)
    have hd : ∀ b, Bt.foot T b → b ≠ B.nx ∧ b ≠ B.fl ∧ b ≠ B.ou := fun b hb => by
      have := hfoot b hb
      have h1 := (hown B.nx (.inl (by simp))).1
      have h2 := (hown B.fl (.inl (by simp))).1
      have h3 := (hown B.ou (.inl (by simp))).1
      omega
    obtain ⟨h2, tab', fl', ob', ou', bl, e1, R⟩ := row_run A.at_ I.trie rfl hps hd hsx hff hfs hs00 (fun hx => by
      rw [hflx, A.ou_ _ (hfd hx)]
      have := outs_room (X := X) hx hsub
      omega)
    have A' := A.step hn h0 hp hsub R
    have hqlt := lt_of_at I.q
    have hqn : ∀ c, B.foot X.length ob ou c → c ≠ qb := fun c hc => (hown c hc).2
    have q2 : h2[qb]? = some (.cells (intCells full) 3 true) := R.only.at I.q fun h => by
      rcases h with h | h | h
      · exact hqn B.nx (.inl (by simp)) h.symm
      · exact hqn B.fl (.inl (by simp)) h.symm
      · exact hqn B.ou (.inl (by simp)) h.symm
    have hkl := kidn_len (X := X) (x := x) (n := 256)
    have hv2 : Sl1 h2 (intSl bl (kidn X x 256)) (intCells (kidn X x 256)) := Sl1.ints fun hne => (R.blk hne).2
    have hfulln := I.qn
    obtain ⟨δ, e2, d2, o2⟩ := append_off (b := qb) (o := o + 1) (l := full) q2 (by omega) hv2 (by omega)
    obtain ⟨h3, hh3⟩ : ∃ h3, h2.apply δ = h3 := ⟨_, rfl⟩
    rw [hh3] at d2 o2
    have hown' : ∀ c, B.foot X.length ob' ou' c → h₀.length ≤ c ∧ c ≠ qb := fun c hc => by
      rcases R.foot c hc with h | h
      · exact hown c h
      · have := I.only.1
        exact ⟨by omega, by omega⟩
    have hfoot1 : ∀ b, Bt.foot T b → ¬ (b = B.nx ∨ b = B.fl ∨ b = B.ou) := fun b hb h => by
      have := hd b hb
      rcases h with h | h | h <;> simp [h] at this
    have Ht3 : TrX h3 Bt T X ps := (I.trie.keep R.only hfoot1).keep o2 fun b hb e => by have := hfoot b hb; omega
    have hnx : h₀.length ≤ B.nx := (hown B.nx (.inl (by simp))).1
    have hfl' : h₀.length ≤ B.fl := (hown B.fl (.inl (by simp))).1
    have hou' : h₀.length ≤ B.ou := (hown B.ou (.inl (by simp))).1
    have only3 : Only (fun _ => False) h₀ h3 := (I.only.fresh R.only fun c hc => by rcases hc with rfl | rfl | rfl <;> assumption).fresh o2 fun c hc => by rw [hc]; exact hqb
    have hA3 : AutoI h3 B X ps (done ++ [x]) (q ++ kids X x 256) tab' fl' ob' ou' := ⟨A'.at_.keep o2 fun c hc e => (hown' c hc).2 e, A'.bfs, A'.tab_, A'.ou_, A'.fl_, A'.fl0, A'.tab0⟩
    have hkk : (kidn X x 256).length = (kids X x 256).length := by simp [kidn]
    have hle := A'.bfs.le
    simp at hle
    simp only [List.length_cons] at hfl
    have hnext : QL h₀ B Bt T X ps qb (X.length - (done ++ [x]).length) ⟨[(6, Bt.ptr), (12, B.ptr), (13, offSl qb (o + 1) (full ++ kidn X x 256))], h3⟩ := by
      refine ⟨done ++ [x], q ++ kids X x 256, o + 1, full ++ kidn X x 256, h3, rfl, rfl, ⟨⟨tab', fl', ob', ou', hA3, hown'⟩, Ht3, d2, ?_, by simp; omega, by simp; omega, only3⟩, by simp; omega, by simp; omega⟩
      rw [List.drop_append_of_le_length (by omega)]
      have h1 : (full.drop o).drop 1 = (qList X (x :: q)).drop 1 := by rw [I.qh]
      rw [List.drop_drop] at h1
      rw [h1]
      simp [qList, kidn]
    have hsub1 : full.length - o - 1 = full.length - (o + 1) := by omega
    have hge : (1 : Int) ≤ ((full.length - o : Nat) : Int) := by omega
    have hge' : 1 ≤ full.length - o := by omega
    have hoff : AV.sl (some ⟨qb, o + 1, full.length⟩) (full.length - o - 1) (full.length - o - 1) = offSl qb (o + 1) full := by rw [hsub1]; rfl
    have hsl : aslice Try.prog 30 (offSl qb o full) (some (.int .i64 1)) none none = some (offSl qb (o + 1) full) := by
      simp [aslice, offSl, bound, hge, hge', hsub1]
    have hix : aindexAddr Try.prog 30 (offSl qb o full) (.int .i64 0) = some (.ptr (some ⟨qb, o, full.length⟩)) := by
      simp [aindexAddr, offSl, hlen, hlen']
    have hln : ∀ L, alen Try.prog L 30 (offSl qb o full) = some (.int .i64 ((full.length - o : Nat) : Int)) := fun L => by simp [alen, offSl]
    have hq1 := I.q
    simp [c52_l20, c52_r20, c52_r21, c52_r22, len1, hln, hlen, hlen', hix, aload, row, hq1, intCells_len, hget, hsl, e1, e2, hh3]
    refine ⟨X.length - (done ++ [x]).length, by simp; omega, hnext⟩

end Go.AM

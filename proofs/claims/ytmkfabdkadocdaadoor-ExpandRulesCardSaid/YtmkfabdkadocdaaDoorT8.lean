import Derived.Test.YtmkfabdkadocdaaDoorT6
import Derived.Test.YtmkfabdkadocdaaDoorT7
/-
  Compress: what its loops keep.
-/
namespace Go.Proofs.YtmkfabdkadocdaaDoor
open Go Go.WideMaps Go.RowKit Go.Sort

theorem info27 : infoB (Tryd.prog.info? 27) 13 104 = true := by kernel_rfl
theorem perm_of_map {α β : Type} {f : α → β} (hf : ∀ a b, f a = f b → a = b) : ∀ {a b : List α}, (a.map f).Perm (b.map f) → a.Perm b
  | [], b, h => by
    have := h.length_eq
    simp at this
    rw [List.eq_nil_of_length_eq_zero this.symm]
  | x :: a, b, h => by
    have hx : f x ∈ b.map f := h.mem_iff.1 (by simp)
    obtain ⟨y, hy, e⟩ := List.mem_map.1 hx
    obtain rfl := hf _ _ e
    obtain ⟨s, t, rfl⟩ := List.append_of_mem hy
    have hp : (s ++ y :: t).Perm (y :: (s ++ t)) := List.perm_middle
    have h2 := h.trans (hp.map f)
    rw [List.map_cons, List.map_cons] at h2
    exact ((perm_of_map hf h2.cons_inv).cons y).trans hp.symm
theorem KG_pair (a b : Grp × Option Nat) (h : KG.pair a = KG.pair b) : a = b := by
  have h1 : gval a.1 = gval b.1 := (Prod.mk.inj h).1
  have h2 : (Value.map a.2) = Value.map b.2 := (Prod.mk.inj h).2
  exact Prod.ext (gval_inj _ _ h1) (by injection h2)
theorem KI_pair (a b : Int × ASet) (h : KI.pair a = KI.pair b) : a = b := by
  have h1 : (Value.int .i64 a.1) = .int .i64 b.1 := (Prod.mk.inj h).1
  have h2 : sval a.2 = sval b.2 := (Prod.mk.inj h).2
  exact Prod.ext (by injection h1) (sval_inj _ _ h2)
theorem KT_pair (a b : ASet × ASet) (h : KT.pair a = KT.pair b) : a = b := by
  have h1 : sval a.1 = sval b.1 := (Prod.mk.inj h).1
  have h2 : sval a.2 = sval b.2 := (Prod.mk.inj h).2
  exact Prod.ext (sval_inj _ _ h1) (sval_inj _ _ h2)
theorem KI_ne (v : ASet) (h : KI.vok v) : v ≠ KI.zero := h.2
theorem KT_ne (v : ASet) (h : KT.vok v) : v ≠ KT.zero := h.2
theorem KG_ne (v : Option Nat) (h : KG.vok v) : v ≠ KG.zero := fun e => by rw [e] at h; cases h
/-- An own row grows: nothing else changes. -/
theorem own_other {w w' : World} {base n k i : Nat} {t : TypeId} {u : Value} {xs : List Value} {o X : Obj} (h : w.ownsRow base t k u n xs) (hg : (w.alloc o).grownBy w' u.ownBlock) (hi : w.heap[i]? = some X) (hX : ∀ c fr, X ≠ .cells c t fr) : w'.heap[i]? = w.heap[i]? := by
  have hlt := (Array.getElem?_eq_some_iff.1 hi).1
  have h1 : (w.alloc o).heap[i]? = w.heap[i]? := ((Below.refl _ w).alloc (Nat.le_refl _) o).block i hlt
  rw [← h1]
  refine hg.block i (by simp; omega) fun e => ?_
  obtain ⟨_, cur, hc⟩ := own_at h e.symm
  rw [hi] at hc
  exact hX _ _ (Option.some.inj hc)
theorem Ranging.both {w w' : World} {P : Program} {k : TypeId} {b r : Nat} {D left : List (Value × Value)} (h : Ranging w P k b r D left) (hk : ∀ (i : Nat) (X : Obj), w.heap[i]? = some X → (∀ c t fr, X ≠ Obj.cells c t fr) → w'.heap[i]? = w.heap[i]?) : Ranging w' P k b r D left := by
  obtain ⟨x, y, z, t, hi⟩ := h.iter
  obtain ⟨es, clock, hb, _⟩ := h.map
  exact h.kept (hk b _ hb (by intro c t fr e; cases e)) (hk r _ hi (by intro c t fr e; cases e))

/-- Groups already turned to rules: O; 'left' still to come. -/
structure Comp (wt wr : World) (mb r : Nat) (S : List (AEntry × Int)) (D done : List (Grp × Option Nat)) (left : List (Value × Value)) (u : Value) (O : List ARule) : Prop where
  perm : (D.map KG.pair).Perm (left ++ done.map KG.pair)
  rng : Ranging wr Tryd.prog 83 mb r (D.map KG.pair) left
  blw : RowKit.Below wt.heap.size wt wr
  rge : wt.heap.size ≤ r
  row : wr.ownsRow wt.heap.size 27 13 u O.length (O.flatMap ARule.cells)
  mem : ∀ rl, rl ∈ O ↔ grpOf rl ∈ done.map Prod.fst ∧ RuleOf S rl
  nod : O.Nodup
  len : O.length ≤ done.length * 256
/-- One more group in hand. -/
structure CMid (wt wr : World) (mb r : Nat) (S : List (AEntry × Int)) (D done : List (Grp × Option Nat)) (p : Grp × Option Nat) (left : List (Value × Value)) (u : Value) (O : List ARule) : Prop where
  perm : (D.map KG.pair).Perm (left ++ (done ++ [p]).map KG.pair)
  rng : Ranging wr Tryd.prog 83 mb r (D.map KG.pair) left
  blw : RowKit.Below wt.heap.size wt wr
  rge : wt.heap.size ≤ r
  row : wr.ownsRow wt.heap.size 27 13 u O.length (O.flatMap ARule.cells)
  mem : ∀ rl, rl ∈ O ↔ grpOf rl ∈ done.map Prod.fst ∧ RuleOf S rl
  nod : O.Nodup
  len : O.length ≤ done.length * 256
section
variable {wt wr wn w' : World} {mb r : Nat} {S : List (AEntry × Int)} {D done : List (Grp × Option Nat)} {p : Grp × Option Nat} {left left' : List (Value × Value)} {u : Value} {O : List ARule}
theorem one_more {α β : Type} {f : α → β} {p : α} {D : List β} {left left' : List β} {done : List α} (h : D.Perm (left ++ done.map f)) (hp : left.Perm (f p :: left')) : D.Perm (left' ++ (done ++ [p]).map f) := by
  refine h.trans ((hp.append_right _).trans ?_)
  rw [List.map_append, List.map_singleton, ← List.append_assoc]
  exact (List.perm_append_singleton _ _).symm
theorem own_iter {w w' : World} {base n k r : Nat} {t : TypeId} {u : Value} {xs : List Value} {P : Program} {kt : TypeId} {b : Nat} {D left : List (Value × Value)} (h : w.ownsRow base t k u n xs) (hr : Ranging w P kt b r D left) (hg : w.grownBy w' (some r)) : w'.ownsRow base t k u n xs := by
  refine own_step h fun g hg' => ?_
  obtain ⟨_, cur, hh⟩ := own_at h hg'
  refine hg.block g (Array.getElem?_eq_some_iff.1 hh).1 (fun e => ?_)
  cases e
  obtain ⟨x, y, z, t, hi⟩ := hr.iter
  rw [hi] at hh
  cases hh
theorem Comp.next (h : Comp wt wr mb r S D done left u O) (hp : left.Perm (KG.pair p :: left')) (hr : Ranging wn Tryd.prog 83 mb r (D.map KG.pair) left') (hg : wr.grownBy wn (some r)) (hs : wn.heap.size = wr.heap.size) : CMid wt wn mb r S D done p left' u O :=
  ⟨one_more h.perm hp, hr, h.blw.trans (Below.of_iter hg h.rge h.blw.size hs), h.rge, own_iter h.row h.rng hg, h.mem, h.nod, h.len⟩
theorem CMid.under (h : CMid wt wn mb r S D done p left u O) (hb : RowKit.Below wn.heap.size wn w') : CMid wt w' mb r S D done p left u O :=
  ⟨h.perm, h.rng.kept (hb.block _ h.rng.map.lt) (hb.block _ h.rng.lt), h.blw.trans (hb.mono h.blw.size), h.rge, own_keep hb h.row (Nat.le_refl _), h.mem, h.nod, h.len⟩
theorem CMid.mem_p (h : CMid wt wn mb r S D done p left u O) : p ∈ D := by
  have : KG.pair p ∈ D.map KG.pair := h.perm.mem_iff.2 (by simp)
  obtain ⟨q, hq, e⟩ := List.mem_map.1 this
  rwa [KG_pair _ _ e] at hq
theorem CMid.new (h : CMid wt wn mb r S D done p left u O) (hn : (D.map Prod.fst).Nodup) : p.1 ∉ done.map Prod.fst := by
  have h1 := (h.perm.map Prod.fst).nodup_iff.1 (by
    rw [List.map_map]
    have e : (Prod.fst ∘ KG.pair) = gval ∘ Prod.fst := rfl
    rw [e, ← List.map_map]
    exact List.Pairwise.map gval (fun a b hab e => hab (gval_inj _ _ e)) hn)
  rw [List.map_append, List.nodup_append] at h1
  have h2 := h1.2.1
  rw [List.map_append, List.map_append, List.nodup_append] at h2
  intro hm
  obtain ⟨q, hq, e⟩ := List.mem_map.1 hm
  exact h2.2.2 (KG.pair q).1 (List.mem_map.2 ⟨_, List.mem_map.2 ⟨q, hq, rfl⟩, rfl⟩) (KG.pair p).1 (by simp) (by show gval q.1 = gval p.1; rw [e])
end

/-- The sources of one group, gathered. -/
structure Srcs (w4 wr : World) (b sb r2 : Nat) (I done : List (Int × ASet)) (left : List (Value × Value)) : Prop where
  perm : (I.map KI.pair).Perm (left ++ done.map KI.pair)
  rng : Ranging wr Tryd.prog 3 b r2 (I.map KI.pair) left
  map : MapF KT wr sb done.length (srcF done)
  blw : RowKit.Below w4.heap.size w4 wr
  sbge : w4.heap.size ≤ sb
  r2ge : w4.heap.size ≤ r2
  ne : sb ≠ r2
  blt : b < w4.heap.size
structure SMid (w4 wr : World) (b sb r2 : Nat) (I done : List (Int × ASet)) (p : Int × ASet) (left : List (Value × Value)) : Prop where
  perm : (I.map KI.pair).Perm (left ++ (done ++ [p]).map KI.pair)
  rng : Ranging wr Tryd.prog 3 b r2 (I.map KI.pair) left
  map : MapF KT wr sb done.length (srcF done)
  blw : RowKit.Below w4.heap.size w4 wr
  sbge : w4.heap.size ≤ sb
  r2ge : w4.heap.size ≤ r2
  ne : sb ≠ r2
  blt : b < w4.heap.size
section
variable {w4 wr wn wx w' : World} {b sb r2 : Nat} {I done : List (Int × ASet)} {p : Int × ASet} {left left' : List (Value × Value)}
theorem Srcs.next (h : Srcs w4 wr b sb r2 I done left) (hp : left.Perm (KI.pair p :: left')) (hr : Ranging wn Tryd.prog 3 b r2 (I.map KI.pair) left') (hg : wr.grownBy wn (some r2)) (hs : wn.heap.size = wr.heap.size) : SMid w4 wn b sb r2 I done p left' :=
  ⟨one_more h.perm hp, hr, h.map.kept (hg.block _ h.map.lt fun e => h.ne (by cases e; rfl)), h.blw.trans (Below.of_iter hg h.r2ge h.blw.size hs), h.sbge, h.r2ge, h.ne, h.blt⟩
theorem SMid.step (h : SMid w4 wn b sb r2 I done p left) (hb : RowKit.Below wn.heap.size wn wx) (hM : MapF KT w' sb (done.length + 1) (fun t => if t = p.2 then (srcF done p.2).with p.1 else srcF done t)) (hg : wx.grownBy w' (some sb)) (hs : w'.heap.size = wx.heap.size) : Srcs w4 w' b sb r2 I (done ++ [p]) left := by
  have h1 := h.rng.kept (hb.block _ h.rng.map.lt) (hb.block _ h.rng.lt)
  have h2 := h.blw.trans (hb.mono h.blw.size)
  refine ⟨h.perm, h1.kept (hg.block _ h1.map.lt fun e => ?_) (hg.block _ h1.lt fun e => h.ne (by cases e; rfl)), ?_, h2.trans (Below.of_iter hg h.sbge h2.size hs), h.sbge, h.r2ge, h.ne, h.blt⟩
  · have := Option.some.inj e
    have := h.sbge
    have := h.blt
    omega
  · rw [srcF_snoc, List.length_append]
    exact hM
end

/-- Rules of one group, appended. -/
structure Outs (wt wr : World) (gb sb r3 mb r : Nat) (g : Grp) (DG : List (Grp × Option Nat)) (leftG : List (Value × Value)) (D2 done : List (ASet × ASet)) (left : List (Value × Value)) (u : Value) (O0 : List ARule) : Prop where
  perm : (D2.map KT.pair).Perm (left ++ done.map KT.pair)
  rng : Ranging wr Tryd.prog 24 sb r3 (D2.map KT.pair) left
  box : Whole wr gb 83 #[.int .i64 g.kind, .int .i64 g.cls, .int .i64 g.cond, .int .u32 g.perms]
  out : Ranging wr Tryd.prog 83 mb r (DG.map KG.pair) leftG
  blw : RowKit.Below wt.heap.size wt wr
  row : wr.ownsRow wt.heap.size 27 13 u (O0 ++ done.map (mkR g)).length ((O0 ++ done.map (mkR g)).flatMap ARule.cells)
  r3ge : wt.heap.size ≤ r3
  gne : gb ≠ r3
  rne : r ≠ r3
  mne : mb ≠ r3
structure OMid (wt wr : World) (gb sb r3 mb r : Nat) (g : Grp) (DG : List (Grp × Option Nat)) (leftG : List (Value × Value)) (D2 done : List (ASet × ASet)) (p : ASet × ASet) (left : List (Value × Value)) (u : Value) (O0 : List ARule) : Prop where
  perm : (D2.map KT.pair).Perm (left ++ (done ++ [p]).map KT.pair)
  rng : Ranging wr Tryd.prog 24 sb r3 (D2.map KT.pair) left
  box : Whole wr gb 83 #[.int .i64 g.kind, .int .i64 g.cls, .int .i64 g.cond, .int .u32 g.perms]
  out : Ranging wr Tryd.prog 83 mb r (DG.map KG.pair) leftG
  blw : RowKit.Below wt.heap.size wt wr
  row : wr.ownsRow wt.heap.size 27 13 u (O0 ++ done.map (mkR g)).length ((O0 ++ done.map (mkR g)).flatMap ARule.cells)
  r3ge : wt.heap.size ≤ r3
  gne : gb ≠ r3
  rne : r ≠ r3
  mne : mb ≠ r3
section
variable {wt wr wn w6 w' : World} {gb sb r3 mb r : Nat} {g : Grp} {DG : List (Grp × Option Nat)} {leftG : List (Value × Value)} {D2 done : List (ASet × ASet)} {p : ASet × ASet} {left left' : List (Value × Value)} {u u' : Value} {O0 : List ARule}
theorem Outs.next (h : Outs wt wr gb sb r3 mb r g DG leftG D2 done left u O0) (hp : left.Perm (KT.pair p :: left')) (hr : Ranging wn Tryd.prog 24 sb r3 (D2.map KT.pair) left') (hg : wr.grownBy wn (some r3)) (hs : wn.heap.size = wr.heap.size) : OMid wt wn gb sb r3 mb r g DG leftG D2 done p left' u O0 :=
  ⟨one_more h.perm hp, hr, h.box.grown hg (fun e => h.gne (by cases e; rfl)), h.out.kept (hg.block _ h.out.map.lt fun e => h.mne (by cases e; rfl)) (hg.block _ h.out.lt fun e => h.rne (by cases e; rfl)), h.blw.trans (Below.of_iter hg h.r3ge h.blw.size hs), own_iter h.row h.rng hg, h.r3ge, h.gne, h.rne, h.mne⟩
theorem OMid.own (h : OMid wt wn gb sb r3 mb r g DG leftG D2 done p left u O0) (hb : RowKit.Below wn.heap.size wn w6) : w6.ownsRow wt.heap.size 27 13 u (O0 ++ done.map (mkR g)).length ((O0 ++ done.map (mkR g)).flatMap ARule.cells) := own_keep hb h.row (Nat.le_refl _)
theorem OMid.more {o : Obj} (h : OMid wt wn gb sb r3 mb r g DG leftG D2 done p left u O0) (hb : RowKit.Below wn.heap.size wn w6)
    (hown : w'.ownsRow wt.heap.size 27 13 u' ((O0 ++ done.map (mkR g)).length + 1) ((O0 ++ done.map (mkR g)).flatMap ARule.cells ++ ARule.cells (mkR g p))) (hg : (w6.alloc o).grownBy w' u.ownBlock) : Outs wt w' gb sb r3 mb r g DG leftG D2 (done ++ [p]) left u' O0 := by
  have hrow := h.own hb
  have hk : ∀ (i : Nat) (X : Obj), w6.heap[i]? = some X → (∀ c t fr, X ≠ Obj.cells c t fr) → w'.heap[i]? = w6.heap[i]? := fun i X hi hX => own_other hrow hg hi fun c fr => hX c 27 fr
  have hbw : RowKit.Below wt.heap.size wt w6 := h.blw.trans (hb.mono h.blw.size)
  have hbx := Whole.under hb h.box h.box.lt
  refine ⟨h.perm, Ranging.both (h.rng.kept (hb.block _ h.rng.map.lt) (hb.block _ h.rng.lt)) hk, ?_, Ranging.both (h.out.kept (hb.block _ h.out.map.lt) (hb.block _ h.out.lt)) hk, ?_, ?_, h.r3ge, h.gne, h.rne, h.mne⟩
  · refine (hbx.alloc o).grown hg fun e => ?_
    obtain ⟨_, cur, hc⟩ := own_at hrow e.symm
    have hw : w6.heap[gb]? = some (Obj.cells #[.int .i64 g.kind, .int .i64 g.cls, .int .i64 g.cond, .int .u32 g.perms] 83 (0, 0)) := hbx
    rw [hw] at hc
    cases hc
  · exact (hbw.alloc hbw.size o).grown hg (by have := hbw.size; simp; omega) (fun q hq => (own_at hrow hq).1)
  · rw [List.map_append, List.map_singleton, ← List.append_assoc, List.length_append, List.flatMap_append]
    simpa using hown
end
/-- All rules of a group are there. -/
theorem Outs.fin {wt wr wn : World} {gb sb r3 mb r : Nat} {S : List (AEntry × Int)} {g : Grp} {o : Option Nat} {DG doneG : List (Grp × Option Nat)} {leftG : List (Value × Value)} {I : List (Int × ASet)} {D2 done : List (ASet × ASet)} {u u0 : Value} {O0 : List ARule}
    (h : Outs wt wr gb sb r3 mb r g DG leftG D2 done [] u O0) (hc : CMid wt wn mb r S DG doneG (g, o) leftG u0 O0) (hn : (DG.map Prod.fst).Nodup) (hI : ∀ p, p ∈ I ↔ p.2 = TT S g p.1 ∧ TT S g p.1 ≠ ASet.zero) (hD : ∀ p, p ∈ D2 ↔ p.2 = srcF I p.1 ∧ srcF I p.1 ≠ ASet.zero) (hD2 : D2.Nodup) (hl : D2.length ≤ 256) :
    ∃ O, Comp wt wr mb r S DG (doneG ++ [(g, o)]) leftG u O := by
  have hp : D2.Perm done := perm_of_map KT_pair (by simpa using h.perm)
  have hgr : ∀ rl, rl ∈ done.map (mkR g) ↔ grpOf rl = g ∧ RuleOf S rl := fun rl => ((hp.map (mkR g)).mem_iff.symm).trans (group_rules hI hD rl)
  have hnew := hc.new hn
  refine ⟨O0 ++ done.map (mkR g), hc.perm, h.out, h.blw, hc.rge, h.row, fun rl => ?_, ?_, ?_⟩
  · rw [List.mem_append, hc.mem, hgr, List.map_append, List.mem_append, List.map_singleton, List.mem_singleton]
    constructor
    · rintro (⟨h1, h2⟩ | ⟨h1, h2⟩)
      · exact ⟨.inl h1, h2⟩
      · exact ⟨.inr h1, h2⟩
    · rintro ⟨h1 | h1, h2⟩
      · exact .inl ⟨h1, h2⟩
      · exact .inr ⟨h1, h2⟩
  · refine List.nodup_append.2 ⟨hc.nod, ?_, fun a ha b hb e => ?_⟩
    · exact List.Pairwise.map (mkR g) (fun a b hab e => hab (mkR_inj e)) (hp.nodup_iff.1 hD2)
    · subst e
      have h1 := ((hc.mem a).1 ha).1
      rw [((hgr a).1 hb).1] at h1
      exact hnew h1
  · have h1 := hc.len
    have h2 := hp.length_eq
    rw [List.length_append, List.length_map, List.length_append, List.length_singleton]
    omega
end Go.Proofs.YtmkfabdkadocdaaDoor

import Derived.Test.YtmkfabdkadocdaaDoorT4
/-
  expand.targets in plain words: the targets of each source, for each group.
-/
namespace Go.Proofs.YtmkfabdkadocdaaDoor
open Go Go.WideMaps Go.RowKit Go.Sort

def AEntry.inR (x : AEntry) : Bool := decide (0 ≤ x.src ∧ x.src < 256 ∧ 0 ≤ x.tgt ∧ x.tgt < 256)
/-- Whether an entry, for a kind, is one of a group and a source. -/
def hits (g : Grp) (s : Int) (p : AEntry × Int) : Bool := p.1.inR && decide (p.1.src = s ∧ p.1.cls = g.cls ∧ p.1.cond = g.cond ∧ p.2 = g.kind ∧ p.1.vec p.2 = g.perms ∧ g.perms ≠ 0)
def TTstep (g : Grp) (s : Int) (t : ASet) (p : AEntry × Int) : ASet := if hits g s p then t.with p.1.tgt else t
/-- The targets of a source in a group. -/
def TT (S : List (AEntry × Int)) (g : Grp) (s : Int) : ASet := S.foldl (TTstep g s) ASet.zero
theorem TT_snoc (S : List (AEntry × Int)) (p : AEntry × Int) (g : Grp) (s : Int) : TT (S ++ [p]) g s = TTstep g s (TT S g s) p := by simp [TT, List.foldl_append]
theorem hits_in {g : Grp} {s : Int} {p : AEntry × Int} (h : hits g s p = true) : 0 ≤ p.1.tgt ∧ p.1.tgt < 256 ∧ 0 ≤ s ∧ s < 256 := by
  simp [hits, AEntry.inR] at h
  omega
theorem ASet.with_in (t : ASet) {n : Int} (h : 0 ≤ n ∧ n < 256) : t.with n = t.add n.toNat := by unfold ASet.with; rw [if_pos h]
theorem TT_fold (S : List (AEntry × Int)) (g : Grp) (s : Int) : ∀ t : ASet, t.Ok → (S.foldl (TTstep g s) t).Ok ∧ ∀ n, n < 256 → ((S.foldl (TTstep g s) t).has n = true ↔ t.has n = true ∨ ∃ p ∈ S, hits g s p = true ∧ p.1.tgt = n) := by
  induction S with
  | nil => intro t ht; exact ⟨ht, fun n _ => by simp⟩
  | cons p S ih =>
    intro t ht
    rw [List.foldl_cons]
    have ht' : (TTstep g s t p).Ok := by
      unfold TTstep
      split
      · exact ASet.with_ok ht _
      · exact ht
    obtain ⟨h1, h2⟩ := ih _ ht'
    refine ⟨h1, fun n hn => ?_⟩
    rw [h2 n hn]
    unfold TTstep
    by_cases hh : hits g s p = true
    · rw [if_pos hh]
      have hi := hits_in hh
      rw [ASet.with_in _ ⟨hi.1, hi.2.1⟩, ASet.has_add _ (by omega) hn]
      constructor
      · rintro (h | ⟨q, hq, h3⟩)
        · simp at h
          rcases h with h | h
          · exact .inr ⟨p, by simp, hh, by omega⟩
          · exact .inl h
        · exact .inr ⟨q, by simp [hq], h3⟩
      · rintro (h | ⟨q, hq, h3, h4⟩)
        · left; simp [h]
        · rcases List.mem_cons.1 hq with rfl | hq
          · left; simp; left; omega
          · exact .inr ⟨q, hq, h3, h4⟩
    · rw [if_neg hh]
      constructor
      · rintro (h | ⟨q, hq, h3⟩)
        · exact .inl h
        · exact .inr ⟨q, by simp [hq], h3⟩
      · rintro (h | ⟨q, hq, h3, h4⟩)
        · exact .inl h
        · rcases List.mem_cons.1 hq with rfl | hq
          · exact absurd h3 hh
          · exact .inr ⟨q, hq, h3, h4⟩
theorem szero_ok : ASet.zero.Ok := ⟨by unfold U64; decide, by unfold U64; decide, by unfold U64; decide, by unfold U64; decide⟩
theorem TT_ok (S : List (AEntry × Int)) (g : Grp) (s : Int) : (TT S g s).Ok := (TT_fold S g s _ szero_ok).1
theorem TT_has (S : List (AEntry × Int)) (g : Grp) (s : Int) {n : Nat} (hn : n < 256) : (TT S g s).has n = true ↔ ∃ p ∈ S, hits g s p = true ∧ p.1.tgt = n := by
  have := (TT_fold S g s _ szero_ok).2 n hn
  unfold TT
  rw [this, ASet.has_zero]
  simp
theorem TT_ext {S S' : List (AEntry × Int)} (h : ∀ p, p ∈ S ↔ p ∈ S') (g : Grp) (s : Int) : TT S g s = TT S' g s := by
  refine ASet.ext (TT_ok _ _ _) (TT_ok _ _ _) fun n hn => ?_
  have e : (TT S g s).has n = true ↔ (TT S' g s).has n = true := by
    rw [TT_has _ _ _ hn, TT_has _ _ _ hn]
    exact ⟨fun ⟨p, hp, r⟩ => ⟨p, (h p).1 hp, r⟩, fun ⟨p, hp, r⟩ => ⟨p, (h p).2 hp, r⟩⟩
  exact Bool.eq_iff_iff.2 e
theorem with_ne {t : ASet} {n : Int} (h : 0 ≤ n ∧ n < 256) : t.with n ≠ ASet.zero := fun e => by
  have h1 := ASet.has_add t (n := n.toNat) (m := n.toNat) (by omega) (by omega)
  rw [← ASet.with_in t h, e, ASet.has_zero] at h1
  simp at h1

/-- Block mb is the map of groups; F tells the blocks of their maps; Z are blocks that stand aside. -/
structure TMap (w : World) (base mb n : Nat) (S : List (AEntry × Int)) (F : Grp → Option Nat) (Z : Nat → Prop) : Prop where
  map : MapF KG w mb n F
  bmb : base ≤ mb
  zmb : ¬ Z mb
  inner : ∀ g b, F g = some b → base ≤ b ∧ b ≠ mb ∧ ¬ Z b ∧ ∃ k, MapF KI w b k (TT S g)
  inj : ∀ g g' b, F g = some b → F g' = some b → g = g'
  non : ∀ g, F g = none → ∀ s, TT S g s = ASet.zero
section
variable {w w' : World} {base mb n : Nat} {S : List (AEntry × Int)} {F : Grp → Option Nat} {Z : Nat → Prop}
theorem TMap.kept (h : TMap w base mb n S F Z) (hk : ∀ b, b < w.heap.size → ¬ Z b → w'.heap[b]? = w.heap[b]?) : TMap w' base mb n S F Z :=
  ⟨h.map.kept (hk _ h.map.lt h.zmb), h.bmb, h.zmb, fun g b hb => let ⟨h1, h2, h3, k, h4⟩ := h.inner g b hb; ⟨h1, h2, h3, k, h4.kept (hk _ h4.lt h3)⟩, h.inj, h.non⟩
theorem TMap.under (h : TMap w base mb n S F Z) (hb : Below w.heap.size w w') : TMap w' base mb n S F Z := h.kept fun b hlt _ => hb.block b hlt
theorem TMap.more {m : Nat} (h : TMap w base mb n S F Z) (hm : n ≤ m) : TMap w base mb m S F Z := ⟨h.map.more hm, h.bmb, h.zmb, h.inner, h.inj, h.non⟩
theorem TMap.aside (h : TMap w base mb n S F Z) {Z' : Nat → Prop} (hz : ∀ b, Z' b → w.heap.size ≤ b) : TMap w base mb n S F Z' :=
  ⟨h.map, h.bmb, fun hn => by have := hz _ hn; have := h.map.lt; omega, fun g b hb => let ⟨h1, h2, _, k, h4⟩ := h.inner g b hb; ⟨h1, h2, fun hn => by have := hz _ hn; have := h4.lt; omega, k, h4⟩, h.inj, h.non⟩
theorem TMap.drop (h : TMap w base mb n S F Z) : TMap w base mb n S F (fun _ => False) :=
  ⟨h.map, h.bmb, id, fun g b hb => let ⟨h1, h2, _, k, h4⟩ := h.inner g b hb; ⟨h1, h2, id, k, h4⟩, h.inj, h.non⟩
theorem TMap.say {S' : List (AEntry × Int)} (h : TMap w base mb n S F Z) (hs : ∀ g s, TT S' g s = TT S g s) : TMap w base mb n S' F Z :=
  ⟨h.map, h.bmb, h.zmb, fun g b hb => let ⟨h1, h2, h3, k, h4⟩ := h.inner g b hb; ⟨h1, h2, h3, k, by rw [show TT S' g = TT S g from funext (hs g)]; exact h4⟩, h.inj, fun g hg s => by rw [hs]; exact h.non g hg s⟩
theorem TMap.made (w : World) (hb : base ≤ w.heap.size) : TMap (w.alloc (.map #[] 0)) base w.heap.size 0 [] (fun _ => none) (fun _ => False) :=
  ⟨MapF.made w, hb, id, (fun _ _ h => by cases h), (fun _ _ _ h => by cases h), fun _ _ _ => rfl⟩
/-- A new group. -/
theorem TMap.fresh (h : TMap w base mb n S F Z) {g : Grp} (hg : g.Ok) (hn : F g = none) (hz : ¬ Z w.heap.size) (hbs : base ≤ w.heap.size) :
    ∃ w', (Instr.mapUpdate 80 (.map (some mb)) (gval g) (.map (some w.heap.size))).run Tryd.prog (w.alloc (.map #[] 0)) = .ok () w' ∧ (TMap w' base mb (n + 1) S (fun x => if x = g then some w.heap.size else F x) Z ∧ (w.alloc (.map #[] 0)).grownBy w' (some mb) ∧ w'.heap.size = (w.alloc (.map #[] 0)).heap.size) := by
  have hb0 : Below w.heap.size w (w.alloc (.map #[] 0)) := (Below.refl _ w).alloc (Nat.le_refl _) _
  have hm := h.map.under hb0
  obtain ⟨w', h1, h2, h3, h4⟩ := hm.put (k := g) (v := some w.heap.size) hg rfl
  refine ⟨w', h1, ⟨h2, h.bmb, h.zmb, ?_, ?_, ?_⟩, h3, h4⟩
  · intro g' b hb
    by_cases e : g' = g
    · subst e
      simp only [if_true] at hb
      cases hb
      have hne : w.heap.size ≠ mb := by have := h.map.lt; omega
      refine ⟨hbs, hne, hz, 0, ?_⟩
      have := (MapF.made (K := KI) w).kept (w' := w') (h3.block _ (by simp) (fun e => by cases e; exact hne rfl))
      rw [show TT S g' = fun _ => KI.zero from funext (h.non g' hn)]
      exact this
    · simp only [if_neg e] at hb
      obtain ⟨h5, h6, h7, k, h8⟩ := h.inner g' b hb
      refine ⟨h5, h6, h7, k, (h8.under hb0).kept (h3.block _ (by have := h8.lt; simp; omega) (fun e => by cases e; exact h6 rfl))⟩
  · intro g1 g2 b hb1 hb2
    by_cases e1 : g1 = g <;> by_cases e2 : g2 = g
    · rw [e1, e2]
    · simp only [if_pos e1] at hb1
      simp only [if_neg e2] at hb2
      cases hb1
      obtain ⟨_, _, _, k, h8⟩ := h.inner g2 _ hb2
      have := h8.lt
      omega
    · simp only [if_neg e1] at hb1
      simp only [if_pos e2] at hb2
      cases hb2
      obtain ⟨_, _, _, k, h8⟩ := h.inner g1 _ hb1
      have := h8.lt
      omega
    · simp only [if_neg e1] at hb1
      simp only [if_neg e2] at hb2
      exact h.inj g1 g2 b hb1 hb2
  · intro g' hg' s
    by_cases e : g' = g
    · simp [e] at hg'
    · simp only [if_neg e] at hg'
      exact h.non g' hg' s
/-- One more target. -/
theorem TMap.add (h : TMap w base mb n S F Z) {g : Grp} {x : AEntry} {b : Nat} (hb : F g = some b) (hh : hits g x.src (x, g.kind) = true) :
    ∃ w', (Instr.mapUpdate 84 (.map (some b)) (.int .i64 x.src) (sval ((TT S g x.src).with x.tgt))).run Tryd.prog w = .ok () w' ∧ (TMap w' base mb n (S ++ [(x, g.kind)]) F Z ∧ w.grownBy w' (some b) ∧ w'.heap.size = w.heap.size) := by
  obtain ⟨h1, h2, h3, k, h4⟩ := h.inner g b hb
  have hi := hits_in hh
  obtain ⟨w', h5, h6, h7, h8⟩ := h4.put (k := x.src) (v := (TT S g x.src).with x.tgt) ⟨hi.2.2.1, hi.2.2.2⟩ ⟨ASet.with_ok (TT_ok _ _ _) _, with_ne ⟨hi.1, hi.2.1⟩⟩
  have same : ∀ g' s, ¬ (g' = g ∧ s = x.src) → TT (S ++ [(x, g.kind)]) g' s = TT S g' s := fun g' s hne => by
    rw [TT_snoc]
    unfold TTstep
    rw [if_neg]
    intro hh'
    simp [hits] at hh hh'
    apply hne
    obtain ⟨-, e1, e2, e3, e4, e5, -⟩ := hh'
    obtain ⟨-, f2, f3, f5, -⟩ := hh
    refine ⟨?_, e1.symm⟩
    obtain ⟨a, b, c, d⟩ := g
    obtain ⟨a', b', c', d'⟩ := g'
    dsimp only at *
    rw [← e4, ← e2, ← e3, ← e5, f2, f3, f5]
  refine ⟨w', h5, ⟨h.map.kept (h7.block _ h.map.lt (fun e => by cases e; exact h2 rfl)), h.bmb, h.zmb, ?_, h.inj, ?_⟩, h7, h8⟩
  · intro g' b' hb'
    by_cases e : g' = g
    · subst e
      obtain rfl : b = b' := Option.some.inj (hb.symm.trans hb')
      refine ⟨h1, h2, h3, k + 1, ?_⟩
      have e2 : TT (S ++ [(x, g'.kind)]) g' = fun s => if s = x.src then (TT S g' x.src).with x.tgt else TT S g' s := by
        funext s
        by_cases es : s = x.src
        · subst es
          rw [if_pos rfl, TT_snoc]
          unfold TTstep
          rw [if_pos hh]
        · rw [if_neg es]
          exact same g' s fun hc => es hc.2
      rw [e2]
      exact h6
    · obtain ⟨h9, h10, h11, k', h12⟩ := h.inner g' b' hb'
      refine ⟨h9, h10, h11, k', ?_⟩
      rw [show TT (S ++ [(x, g.kind)]) g' = TT S g' from funext fun s => same g' s fun hc => e hc.1]
      exact h12.kept (h7.block _ h12.lt (fun eb => e (h.inj g' g b' hb' (by cases eb; exact hb))))
  · intro g' hg' s
    have e : g' ≠ g := fun e => by subst e; rw [hb] at hg'; cases hg'
    rw [same g' s fun hc => e hc.1]
    exact h.non g' hg' s
end
/-- What entries stand for. -/
def kinds (x : AEntry) : List (AEntry × Int) := if x.inR then [(x, 1), (x, 2), (x, 3)] else []
def pairsOf (l : List AEntry) : List (AEntry × Int) := l.flatMap kinds
theorem pairsOf_next {l : List AEntry} {i : Nat} {x : AEntry} (h : l[i]? = some x) : pairsOf (l.take (i + 1)) = pairsOf (l.take i) ++ kinds x := by
  unfold pairsOf
  rw [take_snoc h, List.flatMap_append, List.flatMap_singleton]
theorem TT_zero (S : List (AEntry × Int)) {x : AEntry} {k : Int} (h : x.vec k = 0) (g : Grp) (s : Int) : TT (S ++ [(x, k)]) g s = TT S g s := by
  rw [TT_snoc]
  unfold TTstep
  rw [if_neg]
  intro hh
  simp [hits] at hh
  obtain ⟨-, -, -, -, e4, e5, e6⟩ := hh
  subst e4
  exact e6 (e5.symm.trans h)
end Go.Proofs.YtmkfabdkadocdaaDoor

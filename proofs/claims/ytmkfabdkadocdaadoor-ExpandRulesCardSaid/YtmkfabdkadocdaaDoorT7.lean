import Derived.Test.YtmkfabdkadocdaaDoorT5
import Derived.Test.YtmkfabdkadocdaaDoorSJ
/-
  Compress in plain words: what its rules are, and that their order tells them apart.
-/
namespace Go.Proofs.YtmkfabdkadocdaaDoor
open Go Go.WideMaps Go.RowKit Go.Sort

def srcStep (t : ASet) (a : ASet) (p : Int × ASet) : ASet := if p.2 = t then a.with p.1 else a
/-- The sources whose targets are 't'. -/
def srcF (L : List (Int × ASet)) (t : ASet) : ASet := L.foldl (srcStep t) ASet.zero
theorem srcF_snoc (L : List (Int × ASet)) (p : Int × ASet) : srcF (L ++ [p]) = fun t => if t = p.2 then (srcF L p.2).with p.1 else srcF L t := by
  funext t
  unfold srcF
  rw [List.foldl_append]
  simp only [List.foldl_cons, List.foldl_nil]
  by_cases h : t = p.2
  · subst h
    rw [if_pos rfl]
    conv => lhs; unfold srcStep
    rw [if_pos rfl]
    rfl
  · rw [if_neg h]
    conv => lhs; unfold srcStep
    rw [if_neg (fun e => h e.symm)]
    rfl
theorem with_has {t : ASet} {m : Int} {n : Nat} (hn : n < 256) : (t.with m).has n = true ↔ m = n ∨ t.has n = true := by
  unfold ASet.with
  split
  · rename_i h
    rw [ASet.has_add _ (by omega) hn]
    simp
    constructor
    · rintro (h1 | h1)
      · left; omega
      · exact .inr h1
    · rintro (h1 | h1)
      · left; omega
      · exact .inr h1
  · rename_i h
    constructor
    · exact .inr
    · rintro (h1 | h1)
      · omega
      · exact h1
theorem srcF_fold (t : ASet) (L : List (Int × ASet)) : ∀ a : ASet, a.Ok → (L.foldl (srcStep t) a).Ok ∧ ∀ n : Nat, n < 256 → ((L.foldl (srcStep t) a).has n = true ↔ a.has n = true ∨ ((n : Int), t) ∈ L) := by
  induction L with
  | nil => intro a ha; exact ⟨ha, fun n _ => by simp⟩
  | cons p L ih =>
    intro a ha
    rw [List.foldl_cons]
    have ha' : (srcStep t a p).Ok := by
      unfold srcStep
      split
      · exact ASet.with_ok ha _
      · exact ha
    obtain ⟨h1, h2⟩ := ih _ ha'
    refine ⟨h1, fun n hn => ?_⟩
    rw [h2 n hn]
    unfold srcStep
    obtain ⟨p1, p2⟩ := p
    by_cases h : p2 = t
    · subst h
      rw [if_pos rfl, with_has hn]
      simp only [List.mem_cons, Prod.mk.injEq, and_true]
      constructor
      · rintro ((h | h) | h)
        · exact .inr (.inl h.symm)
        · exact .inl h
        · exact .inr (.inr h)
      · rintro (h | h | h)
        · exact .inl (.inr h)
        · exact .inl (.inl h.symm)
        · exact .inr h
    · rw [if_neg h]
      simp only [List.mem_cons, Prod.mk.injEq]
      constructor
      · rintro (h | h)
        · exact .inl h
        · exact .inr (.inr h)
      · rintro (h | ⟨_, h1⟩ | h)
        · exact .inl h
        · exact absurd h1.symm h
        · exact .inr h
theorem srcF_ok (L : List (Int × ASet)) (t : ASet) : (srcF L t).Ok := (srcF_fold t L _ szero_ok).1
theorem srcF_has (L : List (Int × ASet)) (t : ASet) {n : Nat} (hn : n < 256) : (srcF L t).has n = true ↔ ((n : Int), t) ∈ L := by
  unfold srcF
  rw [(srcF_fold t L _ szero_ok).2 n hn, ASet.has_zero]
  simp
/-- The sources that have the targets 't', of a function. -/
def srcOf (T : Int → ASet) (t : ASet) : ASet := srcF ((List.range 256).map fun n : Nat => ((n : Int), T (n : Int))) t
theorem srcOf_has (T : Int → ASet) (t : ASet) {n : Nat} (hn : n < 256) : (srcOf T t).has n = true ↔ T n = t := by
  unfold srcOf
  rw [srcF_has _ _ hn, List.mem_map]
  constructor
  · rintro ⟨m, _, hm⟩
    simp only [Prod.mk.injEq] at hm
    obtain ⟨h1, h2⟩ := hm
    have : m = n := by omega
    subst this
    exact h2
  · intro h
    exact ⟨n, List.mem_range.2 hn, by rw [h]⟩
theorem srcOf_ok (T : Int → ASet) (t : ASet) : (srcOf T t).Ok := srcF_ok _ _
theorem bool_eq {a b : Bool} (h : a = true ↔ b = true) : a = b := Bool.eq_iff_iff.2 h
theorem srcF_of {T : Int → ASet} {L : List (Int × ASet)} (hL : ∀ p, p ∈ L ↔ p.2 = T p.1 ∧ T p.1 ≠ ASet.zero) {t : ASet} (ht : t ≠ ASet.zero) : srcF L t = srcOf T t := by
  refine ASet.ext (srcF_ok _ _) (srcOf_ok _ _) fun n hn => bool_eq ?_
  rw [srcF_has _ _ hn, srcOf_has _ _ hn, hL]
  constructor
  · rintro ⟨h, _⟩; exact h.symm
  · intro h; exact ⟨h.symm, by show T n ≠ _; rw [h]; exact ht⟩
theorem set_ne {t : ASet} {n : Nat} (h : t.has n = true) : t ≠ ASet.zero := fun e => by rw [e, ASet.has_zero] at h; cases h
theorem set_some {t : ASet} (h : t.Ok) (hne : t ≠ ASet.zero) : ∃ n, n < 256 ∧ t.has n = true := by
  apply Classical.byContradiction
  intro hno
  refine hne (ASet.ext h szero_ok fun n hn => ?_)
  rw [ASet.has_zero]
  exact Bool.eq_false_iff.2 fun hh => hno ⟨n, hn, hh⟩
theorem least_has {t : ASet} {n : Nat} (h : t.has n = true) (hn : n < 256) : ∃ k : Nat, k < 256 ∧ t.least = k ∧ t.has k = true := by
  unfold ASet.least
  have hm : n ∈ elems t := by simp [elems, elemsTo, h, hn]
  cases he : (elems t).head? with
  | none => rw [List.head?_eq_none_iff] at he; rw [he] at hm; cases hm
  | some k =>
    have hk : k ∈ elems t := List.mem_of_mem_head? he
    simp [elems, elemsTo] at hk
    exact ⟨k, hk.1, rfl, hk.2⟩

def grpOf (r : ARule) : Grp := ⟨r.kind, r.cls, r.cond, r.perms⟩
def mkR (g : Grp) (p : ASet × ASet) : ARule := ⟨g.kind, p.2, p.1, false, g.cls, g.perms, g.cond⟩
/-- Whether a rule is one of those that Compress returns for what S stands for. -/
def RuleOf (S : List (AEntry × Int)) (r : ARule) : Prop :=
  r.self = false ∧ r.tgt ≠ ASet.zero ∧ (∃ s, TT S (grpOf r) s = r.tgt) ∧ r.src = srcOf (TT S (grpOf r)) r.tgt
theorem TT_in {S : List (AEntry × Int)} {g : Grp} {s : Int} (h : TT S g s ≠ ASet.zero) : 0 ≤ s ∧ s < 256 := by
  obtain ⟨n, hn, hh⟩ := set_some (TT_ok _ _ _) h
  obtain ⟨p, _, hp, _⟩ := (TT_has _ _ _ hn).1 hh
  have := hits_in hp
  omega
def Rbef (x y : ARule) : Prop := ltOf orderedI x y = true
theorem Rbef.irrefl (x : ARule) : ¬ Rbef x x := by unfold Rbef; rw [swo_ordered.irrefl]; simp
theorem Rbef.trans (x y z : ARule) : Rbef x y → Rbef y z → Rbef x z := swo_ordered.trans x y z
theorem RuleOf.src_some {S : List (AEntry × Int)} {r : ARule} (h : RuleOf S r) : ∃ n, n < 256 ∧ r.src.has n = true := by
  obtain ⟨_, h2, ⟨s, h3⟩, h4⟩ := h
  have hs := TT_in (S := S) (g := grpOf r) (s := s) (by rw [h3]; exact h2)
  refine ⟨s.toNat, by omega, ?_⟩
  rw [h4, srcOf_has _ _ (by omega)]
  rwa [show ((s.toNat : Nat) : Int) = s by omega]
theorem rule_ext {x y : ARule} (h1 : grpOf x = grpOf y) (h2 : x.src = y.src) (h3 : x.tgt = y.tgt) (h4 : x.self = y.self) : x = y := by
  obtain ⟨a, b, c, d, e, f, g⟩ := x
  obtain ⟨a', b', c', d', e', f', g'⟩ := y
  simp only [grpOf, Grp.mk.injEq] at h1
  obtain ⟨h5, h6, h7, h8⟩ := h1
  dsimp only at h2 h3 h4
  rw [h2, h3, h4, h5, h6, h7, h8]
/-- Two rules of Compress that the order does not tell apart are one. -/
theorem rule_same {S : List (AEntry × Int)} {x y : ARule} (hx : RuleOf S x) (hy : RuleOf S y) (h1 : ltOf orderedI x y = false) (h2 : ltOf orderedI y x = false) : x = y := by
  rw [lt_ordered] at h1 h2
  simp at h1 h2
  have hg : grpOf x = grpOf y := by
    unfold grpOf
    rw [Grp.mk.injEq]
    omega
  have hl : x.src.least = y.src.least := by
    simp only [grpOf, Grp.mk.injEq] at hg
    omega
  obtain ⟨n, hn, hh⟩ := hx.src_some
  obtain ⟨m, hm, hh'⟩ := hy.src_some
  obtain ⟨k, hk, e1, k1⟩ := least_has hh hn
  obtain ⟨k', hk', e2, k2⟩ := least_has hh' hm
  have hkk : k' = k := by omega
  subst hkk
  obtain ⟨a1, _, _, a4⟩ := hx
  obtain ⟨b1, _, _, b4⟩ := hy
  rw [a4, srcOf_has _ _ hk'] at k1
  rw [b4, srcOf_has _ _ hk'] at k2
  have ht : x.tgt = y.tgt := by rw [← k1, ← k2, hg]
  exact rule_ext hg (by rw [a4, b4, ht, hg]) ht (by rw [a1, b1])
/-- The rules that Compress returns. -/
structure CanonR (S : List (AEntry × Int)) (R : List ARule) : Prop where
  ord : R.Pairwise Rbef
  mem : ∀ r, r ∈ R ↔ RuleOf S r
theorem CanonR.uniq {S : List (AEntry × Int)} {a b : List ARule} (ha : CanonR S a) (hb : CanonR S b) : a = b :=
  sorted_ext Rbef Rbef.irrefl Rbef.trans ha.ord hb.ord fun x => (ha.mem x).trans (hb.mem x).symm
theorem RuleOf.say {S S' : List (AEntry × Int)} (h : ∀ g s, TT S g s = TT S' g s) {r : ARule} (hr : RuleOf S r) : RuleOf S' r := by
  have e : TT S (grpOf r) = TT S' (grpOf r) := funext (h _)
  unfold RuleOf at *
  rwa [e] at hr
theorem CanonR.say {S S' : List (AEntry × Int)} {R : List ARule} (h : CanonR S R) (hs : ∀ g s, TT S g s = TT S' g s) : CanonR S' R :=
  ⟨h.ord, fun r => (h.mem r).trans ⟨RuleOf.say hs, RuleOf.say fun g s => (hs g s).symm⟩⟩
theorem canonR_sorted {S : List (AEntry × Int)} {O R : List ARule} (hp : R.Perm O) (hs : R.Pairwise fun x y => ltOf orderedI y x = false) (hn : O.Nodup) (hm : ∀ r, r ∈ O ↔ RuleOf S r) : CanonR S R := by
  refine ⟨?_, fun r => (hp.mem_iff).trans (hm r)⟩
  have hnd : R.Nodup := hp.nodup_iff.2 hn
  refine (List.pairwise_iff_forall_sublist).2 fun {a b} hab => ?_
  have h1 := (List.pairwise_iff_forall_sublist).1 hs hab
  have h2 := (List.pairwise_iff_forall_sublist).1 hnd hab
  have ha : RuleOf S a := (hm a).1 (hp.mem_iff.1 (hab.subset (by simp)))
  have hb : RuleOf S b := (hm b).1 (hp.mem_iff.1 (hab.subset (by simp)))
  unfold Rbef
  cases hlt : ltOf orderedI a b with
  | true => rfl
  | false => exact absurd (rule_same ha hb hlt h1) h2
theorem RuleOf.ok {S : List (AEntry × Int)} {r : ARule} (h : RuleOf S r) : r.Ok := by
  obtain ⟨_, _, ⟨s, h3⟩, h4⟩ := h
  exact ⟨by rw [h4]; exact srcOf_ok _ _, by rw [← h3]; exact TT_ok _ _ _⟩
theorem nodup_short : ∀ (n : Nat) (l : List Nat), l.Nodup → (∀ x ∈ l, x < n) → l.length ≤ n
  | 0, l, _, h => by
    cases l with
    | nil => simp
    | cons x l => have := h x (by simp); omega
  | n + 1, l, hn, h => by
    have h1 := nodup_short n (l.erase n) (hn.erase n) fun x hx => by
      have h2 := h x (List.mem_of_mem_erase hx)
      have h3 : x ≠ n := fun e => by subst e; exact (List.Nodup.not_mem_erase hn) hx
      omega
    have h4 := List.length_erase_le (a := n) (l := l)
    by_cases hm : n ∈ l
    · rw [List.length_erase_of_mem hm] at h1
      omega
    · rw [List.erase_of_not_mem hm] at h1
      omega
theorem keys_short {I : List (Int × ASet)} (hn : (I.map Prod.fst).Nodup) (h : ∀ p ∈ I, 0 ≤ p.1 ∧ p.1 < 256) : I.length ≤ 256 := by
  have h1 := nodup_short 256 (I.map fun p => p.1.toNat) (by
    rw [List.Nodup, List.pairwise_map] at hn ⊢
    refine List.Pairwise.imp_of_mem ?_ hn
    intro a b ha hb hab e
    have := h a ha
    have := h b hb
    exact hab (by omega)) (fun x hx => by
    obtain ⟨p, hp, rfl⟩ := List.mem_map.1 hx
    have := h p hp
    omega)
  simpa using h1
/-- The rules of one group. -/
theorem group_rules {S : List (AEntry × Int)} {g : Grp} {D2 : List (ASet × ASet)} {I : List (Int × ASet)} (hI : ∀ p, p ∈ I ↔ p.2 = TT S g p.1 ∧ TT S g p.1 ≠ ASet.zero) (hD : ∀ p, p ∈ D2 ↔ p.2 = srcF I p.1 ∧ srcF I p.1 ≠ ASet.zero) (r : ARule) :
    r ∈ D2.map (mkR g) ↔ grpOf r = g ∧ RuleOf S r := by
  rw [List.mem_map]
  constructor
  · rintro ⟨⟨t, s⟩, hp, rfl⟩
    obtain ⟨h1, h2⟩ := (hD _).1 hp
    dsimp only at h1 h2
    obtain ⟨n, hn, hh⟩ := set_some (srcF_ok _ _) h2
    have hm := (srcF_has _ _ hn).1 hh
    obtain ⟨e1, e2⟩ := (hI _).1 hm
    dsimp only at e1 e2
    have ht : t ≠ ASet.zero := by rw [e1]; exact e2
    have hg : grpOf (mkR g (t, s)) = g := rfl
    refine ⟨hg, rfl, ht, ⟨n, ?_⟩, ?_⟩
    · rw [hg]; exact e1.symm
    · rw [hg]
      show s = srcOf (TT S g) t
      rw [h1, srcF_of hI ht]
  · rintro ⟨rfl, h1, h2, ⟨s, h3⟩, h4⟩
    have hne : srcF I r.tgt ≠ ASet.zero := by
      have hs := TT_in (S := S) (g := grpOf r) (s := s) (by rw [h3]; exact h2)
      refine set_ne (n := s.toNat) ?_
      rw [srcF_has _ _ (by omega), hI]
      rw [show ((s.toNat : Nat) : Int) = s by omega]
      exact ⟨h3.symm, by rw [h3]; exact h2⟩
    exact ⟨(r.tgt, r.src), (hD _).2 ⟨by rw [srcF_of hI h2]; exact h4, hne⟩, rule_ext rfl rfl rfl h1.symm⟩
theorem mkR_inj {g : Grp} {a b : ASet × ASet} (h : mkR g a = mkR g b) : a = b := by
  simp [mkR] at h
  exact Prod.ext h.2 h.1
end Go.Proofs.YtmkfabdkadocdaaDoor

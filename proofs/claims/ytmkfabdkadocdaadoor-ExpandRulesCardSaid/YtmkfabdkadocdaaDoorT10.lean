import Derived.Test.YtmkfabdkadocdaaDoorT3
import Derived.Test.YtmkfabdkadocdaaDoorT7
/-
  Canonical lists that can be checked.
-/
namespace Go.Proofs.YtmkfabdkadocdaaDoor
open Go Go.WideMaps Go.RowKit Go.Sort

deriving instance DecidableEq for AEntry
deriving instance DecidableEq for ARule
theorem accum_from {k : Key4} : ∀ (L : List (Key4 × AVec)) (f : Key4 → AVec), k ∉ L.map Prod.fst → (L.foldl (fun f p => updV f p.1 p.2) f) k = f k
  | [], _, _ => rfl
  | p :: L, f, h => by
    rw [List.foldl_cons, accum_from L _ (fun hm => h (by simp at hm ⊢; exact .inr hm))]
    unfold updV
    rw [if_neg (fun e => h (by simp [e]))]
theorem accum_out {k : Key4} {L : List (Key4 × AVec)} (h : k ∉ L.map Prod.fst) : accum L k = AVec.zero := accum_from L _ h
instance (x y : AEntry) : Decidable (Bef x y) := inferInstanceAs (Decidable (_ = true))
instance (x y : ARule) : Decidable (Rbef x y) := inferInstanceAs (Decidable (_ = true))
/-- What makes a list the canonical one, checked at finitely many keys. -/
theorem canon_check {L : List (Key4 × AVec)} {l : List AEntry} (h : l.Pairwise Bef ∧ (∀ e ∈ l, e.vecs = accum L e.key ∧ accum L e.key ≠ AVec.zero) ∧ ∀ k ∈ L.map Prod.fst, accum L k ≠ AVec.zero → mkE k (accum L k) ∈ l) : Canon (accum L) l := by
  obtain ⟨h1, h2, h3⟩ := h
  refine ⟨h1, fun e => ⟨h2 e, fun ⟨e1, e2⟩ => ?_⟩⟩
  by_cases hk : e.key ∈ L.map Prod.fst
  · have := h3 _ hk e2
    rwa [← e1, mkE_eta] at this
  · exact absurd (accum_out hk) e2
/-- The rule that an entry, for a kind, leads to. -/
def cand (S : List (AEntry × Int)) (p : AEntry × Int) : ARule :=
  let g : Grp := ⟨p.2, p.1.cls, p.1.cond, p.1.vec p.2⟩
  mkR g (TT S g p.1.src, srcOf (TT S g) (TT S g p.1.src))
def good (p : AEntry × Int) : Bool := p.1.inR && decide (p.1.vec p.2 ≠ 0)
theorem good_hits {p : AEntry × Int} (h : good p = true) : hits ⟨p.2, p.1.cls, p.1.cond, p.1.vec p.2⟩ p.1.src p = true := by
  simp [good] at h
  simp [hits, h.1, h.2]
theorem hits_good {g : Grp} {s : Int} {p : AEntry × Int} (h : hits g s p = true) : good p = true ∧ g = ⟨p.2, p.1.cls, p.1.cond, p.1.vec p.2⟩ ∧ s = p.1.src := by
  simp [hits] at h
  obtain ⟨h0, h1, h2, h3, h4, h5, h6⟩ := h
  refine ⟨by simp [good, h0, h5, h6], ?_, h1.symm⟩
  obtain ⟨a, b, c, d⟩ := g
  rw [Grp.mk.injEq]
  exact ⟨h4.symm, h2.symm, h3.symm, h5.symm⟩
theorem grp_mk (g : Grp) (p : ASet × ASet) : grpOf (mkR g p) = g := by cases g; rfl
theorem mk_tgt (g : Grp) (p : ASet × ASet) : (mkR g p).tgt = p.1 := rfl
theorem mk_src (g : Grp) (p : ASet × ASet) : (mkR g p).src = p.2 := rfl
theorem ruleOf_mk {S : List (AEntry × Int)} {g : Grp} {s : Int} (h : TT S g s ≠ ASet.zero) : RuleOf S (mkR g (TT S g s, srcOf (TT S g) (TT S g s))) :=
  ⟨rfl, by rw [mk_tgt]; exact h, ⟨s, by rw [grp_mk, mk_tgt]⟩, by rw [grp_mk, mk_tgt, mk_src]⟩
theorem TT_some {S : List (AEntry × Int)} {p : AEntry × Int} (hp : p ∈ S) (h : good p = true) : TT S ⟨p.2, p.1.cls, p.1.cond, p.1.vec p.2⟩ p.1.src ≠ ASet.zero := by
  have hh := good_hits h
  have hi := hits_in hh
  refine set_ne (n := p.1.tgt.toNat) ?_
  rw [TT_has _ _ _ (by omega)]
  exact ⟨p, hp, hh, by omega⟩
theorem ruleOf_iff {S : List (AEntry × Int)} {r : ARule} : RuleOf S r ↔ ∃ p ∈ S, good p = true ∧ r = cand S p := by
  constructor
  · rintro ⟨h1, h2, ⟨s, h3⟩, h4⟩
    obtain ⟨n, hn, hh⟩ := set_some (by rw [← h3]; exact TT_ok _ _ _) h2
    rw [← h3] at hh
    obtain ⟨p, hp, hhit, _⟩ := (TT_has _ _ _ hn).1 hh
    obtain ⟨hg, e1, e2⟩ := hits_good hhit
    refine ⟨p, hp, hg, ?_⟩
    unfold cand
    simp only [← e1, ← e2]
    exact rule_ext (grp_mk _ _).symm (by rw [mk_src, h4, ← h3]) (by rw [mk_tgt, h3]) h1
  · rintro ⟨p, hp, hg, rfl⟩
    exact ruleOf_mk (TT_some hp hg)
theorem canonR_check {S : List (AEntry × Int)} {R : List ARule} (h : R.Pairwise Rbef ∧ (∀ r ∈ R, ∃ p ∈ S, good p = true ∧ r = cand S p) ∧ ∀ p ∈ S, good p = true → cand S p ∈ R) : CanonR S R :=
  ⟨h.1, fun r => Iff.trans ⟨h.2.1 r, fun ⟨p, hp, hg, e⟩ => by rw [e]; exact h.2.2 p hp hg⟩ ruleOf_iff.symm⟩
theorem nodup_le {α β : Type} [DecidableEq β] {f : α → β} : ∀ (R : List β) (S : List α), R.Nodup → (∀ r ∈ R, ∃ p ∈ S, r = f p) → R.length ≤ S.length
  | R, [], _, h => by
    cases R with
    | nil => simp
    | cons r R => obtain ⟨p, hp, _⟩ := h r (by simp); cases hp
  | R, p :: S, hn, h => by
    have h1 := nodup_le (f := f) (R.erase (f p)) S (hn.erase _) fun r hr => by
      obtain ⟨q, hq, e⟩ := h r (List.mem_of_mem_erase hr)
      rcases List.mem_cons.1 hq with rfl | hq
      · subst e; exact absurd hr (List.Nodup.not_mem_erase hn)
      · exact ⟨q, hq, e⟩
    by_cases hm : f p ∈ R
    · rw [List.length_erase_of_mem hm] at h1
      simp
      omega
    · rw [List.erase_of_not_mem hm] at h1
      simp
      omega
theorem pairsOf_len (l : List AEntry) : (pairsOf l).length ≤ 3 * l.length := by
  induction l with
  | nil => simp [pairsOf]
  | cons x l ih =>
    have e : pairsOf (x :: l) = kinds x ++ pairsOf l := by simp [pairsOf]
    rw [e, List.length_append, List.length_cons]
    have : (kinds x).length ≤ 3 := by unfold kinds; split <;> simp
    omega
theorem Rbef.nodup {R : List ARule} (h : R.Pairwise Rbef) : R.Nodup := List.Pairwise.imp (fun {a b} hab e => by subst e; exact Rbef.irrefl _ hab) h
theorem CanonR.len {l : List AEntry} {R : List ARule} (h : CanonR (pairsOf l) R) : R.length ≤ 3 * l.length :=
  Nat.le_trans (nodup_le (f := cand (pairsOf l)) R (pairsOf l) (Rbef.nodup h.ord) fun r hr => by
    obtain ⟨p, hp, _, e⟩ := ruleOf_iff.1 ((h.mem r).1 hr)
    exact ⟨p, hp, e⟩) (pairsOf_len l)

/-! The chapter's examples. -/
def s0 : ASet := ⟨1, 0, 0, 0⟩
def t1 : ASet := ⟨2, 0, 0, 0⟩
def s01 : ASet := ⟨3, 0, 0, 0⟩
def t12 : ASet := ⟨6, 0, 0, 0⟩
theorem ofs_0 : ofs [0] = s0 := by decide +kernel
theorem ofs_1 : ofs [1] = t1 := by decide +kernel
theorem ofs_01 : ofs [0, 1] = s01 := by decide +kernel
theorem ofs_12 : ofs [1, 2] = t12 := by decide +kernel
def exRules : List ARule := [⟨1, s0, t1, false, 0, 1, 0⟩, ⟨1, s0, t1, false, 0, 2, 0⟩, ⟨4, s0, t1, false, 0, 2, 0⟩]
def exEnts : List AEntry := [⟨0, 1, 0, 0, 1, 0, 0⟩, ⟨0, 2, 0, 0, 1, 0, 0⟩, ⟨1, 1, 0, 0, 1, 0, 0⟩, ⟨1, 2, 0, 0, 1, 0, 0⟩]
def exMerge : List AEntry := [⟨1, 2, 0, 0, 1, 0, 0⟩, ⟨0, 1, 0, 0, 1, 0, 0⟩, ⟨0, 1, 0, 0, 0, 0, 4⟩, ⟨0, 7, 0, 0, 0, 0, 0⟩]
theorem ex_pairs : (⟨0, s01, t1, true, 0, 0, 0⟩ : ARule).pairs = [(0, 0), (0, 1), (1, 1)] := by decide +kernel
theorem ex_entries : Canon (accum (kvR exRules)) [⟨0, 1, 0, 0, 3, 0, 0⟩] := canon_check (by decide +kernel)
theorem ex_never : neverL exRules [⟨0, 1, 0, 0, 3, 0, 0⟩] = [⟨0, 1, 0, 0, 2, 0, 0⟩] := by decide +kernel
theorem ex_ents : Canon (accE exEnts) exEnts := canon_check (by decide +kernel)
theorem ex_compress : CanonR (pairsOf exEnts) [⟨1, s01, t12, false, 0, 1, 0⟩] := canonR_check (by decide +kernel)
theorem ex_merge : Canon (accE exMerge) [⟨0, 1, 0, 0, 1, 0, 4⟩, ⟨1, 2, 0, 0, 1, 0, 0⟩] := canon_check (by decide +kernel)
end Go.Proofs.YtmkfabdkadocdaaDoor

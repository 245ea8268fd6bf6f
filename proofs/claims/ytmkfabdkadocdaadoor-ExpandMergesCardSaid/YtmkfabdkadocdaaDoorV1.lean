import Derived.Test.YtmkfabdkadocdaaDoorT10
/-
  Joined vectors, in plain words: the order plays no part; the rules of Compress have the same entries.
-/
namespace Go.Proofs.YtmkfabdkadocdaaDoor
open Go Go.WideMaps Go.RowKit Go.Sort

theorem vle_trans {u v x : AVec} (h1 : u.or v = v) (h2 : v.or x = x) : u.or x = x := by
  rw [← h2, ← AVec.or_assoc, h1]
theorem vle_antisymm {u v : AVec} (h1 : u.or v = v) (h2 : v.or u = u) : u = v := by
  rw [← h1, AVec.or_comm, h2]
theorem fold_le {k : Key4} {V : AVec} : ∀ (L : List (Key4 × AVec)) (f : Key4 → AVec), (f k).or V = V → (∀ p ∈ L, p.1 = k → p.2.or V = V) → ((L.foldl (fun f p => updV f p.1 p.2) f) k).or V = V
  | [], _, hf, _ => hf
  | p :: L, f, hf, h => by
    rw [List.foldl_cons]
    refine fold_le L _ ?_ fun q hq => h q (List.mem_cons_of_mem _ hq)
    unfold updV
    split
    · rename_i e
      subst e
      rw [AVec.or_assoc, h p (by simp) rfl, hf]
    · exact hf
theorem accum_le {L : List (Key4 × AVec)} {k : Key4} {V : AVec} (hV : V.Ok) (h : ∀ p ∈ L, p.1 = k → p.2.or V = V) : (accum L k).or V = V := fold_le L _ (AVec.zero_or hV) h
theorem fold_ok : ∀ (L : List (Key4 × AVec)) (f : Key4 → AVec), (∀ k, (f k).Ok) → ∀ k, ((L.foldl (fun f p => updV f p.1 p.2) f) k).Ok
  | [], _, hf, k => hf k
  | p :: L, f, hf, k => by
    rw [List.foldl_cons]
    refine fold_ok L _ (fun x => ?_) k
    unfold updV
    split
    · exact AVec.or_ok _ _
    · exact hf x
theorem accum_ok (L : List (Key4 × AVec)) (k : Key4) : (accum L k).Ok := fold_ok L _ (fun _ => AVec.zero_ok) k
theorem fold_mono {k : Key4} : ∀ (L : List (Key4 × AVec)) (f : Key4 → AVec), (∀ k, (f k).Ok) → (f k).or ((L.foldl (fun f p => updV f p.1 p.2) f) k) = (L.foldl (fun f p => updV f p.1 p.2) f) k
  | [], _, hf => AVec.or_self (hf k)
  | p :: L, f, hf => by
    rw [List.foldl_cons]
    have hf' : ∀ x, (updV f p.1 p.2 x).Ok := fun x => by
      unfold updV
      split
      · exact AVec.or_ok _ _
      · exact hf x
    refine vle_trans ?_ (fold_mono L _ hf')
    unfold updV
    split
    · rename_i e
      subst e
      rw [← AVec.or_assoc, AVec.or_self (hf _)]
    · exact AVec.or_self (hf k)
theorem fold_has {p : Key4 × AVec} : ∀ (L : List (Key4 × AVec)) (f : Key4 → AVec), (∀ k, (f k).Ok) → p.2.Ok → p ∈ L → p.2.or ((L.foldl (fun f p => updV f p.1 p.2) f) p.1) = (L.foldl (fun f p => updV f p.1 p.2) f) p.1
  | q :: L, f, hf, hp, hm => by
    rw [List.foldl_cons]
    have hf' : ∀ x, (updV f q.1 q.2 x).Ok := fun x => by
      unfold updV
      split
      · exact AVec.or_ok _ _
      · exact hf x
    rcases List.mem_cons.1 hm with rfl | hm
    · refine vle_trans ?_ (fold_mono L _ hf')
      unfold updV
      rw [if_pos rfl, AVec.or_comm (f p.1), ← AVec.or_assoc, AVec.or_self hp]
    · exact fold_has L _ hf' hp hm
theorem le_accum {L : List (Key4 × AVec)} {p : Key4 × AVec} (hp : p.2.Ok) (hm : p ∈ L) : p.2.or (accum L p.1) = accum L p.1 := fold_has L _ (fun _ => AVec.zero_ok) hp hm
theorem accum_ext {L L' : List (Key4 × AVec)} (hok : ∀ p ∈ L, p.2.Ok) (h : ∀ p, p ∈ L ↔ p ∈ L') : accum L = accum L' := by
  funext k
  refine vle_antisymm (accum_le (accum_ok _ _) fun p hp e => ?_) (accum_le (accum_ok _ _) fun p hp e => ?_)
  · subst e; exact le_accum (hok p hp) ((h p).1 hp)
  · subst e; exact le_accum (hok p ((h p).2 hp)) ((h p).2 hp)
theorem kvR_mem {l : List ARule} {p : Key4 × AVec} : p ∈ kvR l ↔ ∃ r ∈ l, ∃ q ∈ r.pairs, p = (pkey r q, vecOf r.kind r.perms) := by
  unfold kvR ruleKV
  rw [List.mem_flatMap]
  constructor
  · rintro ⟨r, hr, h⟩
    obtain ⟨q, hq, rfl⟩ := List.mem_map.1 h
    exact ⟨r, hr, q, hq, rfl⟩
  · rintro ⟨r, hr, q, hq, rfl⟩
    exact ⟨r, hr, List.mem_map.2 ⟨q, hq, rfl⟩⟩
theorem rules_ext {l l' : List ARule} (hok : ∀ r ∈ l, r.Wf) (h : ∀ r, r ∈ l ↔ r ∈ l') : accum (kvR l) = accum (kvR l') := by
  refine accum_ext (fun p hp => ?_) fun p => ?_
  · obtain ⟨r, hr, q, _, rfl⟩ := kvR_mem.1 hp
    exact (hok r hr).vec
  · rw [kvR_mem, kvR_mem]
    exact ⟨fun ⟨r, hr, q⟩ => ⟨r, (h r).1 hr, q⟩, fun ⟨r, hr, q⟩ => ⟨r, (h r).2 hr, q⟩⟩
theorem ents_ext {l l' : List AEntry} (hok : ∀ x ∈ l, x.Ok) (h : ∀ x, x ∈ l ↔ x ∈ l') : accE l = accE l' := by
  refine accum_ext (fun p hp => ?_) fun p => ?_
  · obtain ⟨x, hx, rfl⟩ := List.mem_map.1 hp
    exact (hok x hx).2
  · unfold kvs
    rw [List.mem_map, List.mem_map]
    exact ⟨fun ⟨r, hr, q⟩ => ⟨r, (h r).1 hr, q⟩, fun ⟨r, hr, q⟩ => ⟨r, (h r).2 hr, q⟩⟩
theorem pairs_mem {r : ARule} (h : r.self = false) {q : Nat × Nat} : q ∈ r.pairs ↔ (q.1 < 256 ∧ r.src.has q.1 = true) ∧ q.2 < 256 ∧ r.tgt.has q.2 = true := by
  unfold ARule.pairs ARule.pairsTo
  rw [List.mem_flatMap]
  have ht : ∀ s, r.tgts s = r.tgt := fun s => by unfold ARule.tgts; rw [h]; rfl
  constructor
  · rintro ⟨s, hs, hq⟩
    obtain ⟨t, ht', rfl⟩ := List.mem_map.1 hq
    rw [ht] at ht'
    simp [elems, elemsTo] at hs ht'
    exact ⟨hs, ht'⟩
  · rintro ⟨h1, h2⟩
    refine ⟨q.1, by simpa [elems, elemsTo] using h1, List.mem_map.2 ⟨q.2, ?_, rfl⟩⟩
    rw [ht]
    simpa [elems, elemsTo] using h2
/-- The vectors of one kind. -/
def AVec.part (V : AVec) (k : Int) : Int := if k = 1 then V.allow else if k = 2 then V.audit else V.dont
theorem vecOf_le {V : AVec} (hV : V.Ok) {k : Int} (hk : k = 1 ∨ k = 2 ∨ k = 3) : (vecOf k (V.part k)).or V = V := by
  have z1 := or_zero32 hV.allow
  have z2 := or_zero32 hV.audit
  have z3 := or_zero32 hV.dont
  rw [or_comm32] at z1 z2 z3
  have s1 := or_self32 hV.allow
  have s2 := or_self32 hV.audit
  have s3 := or_self32 hV.dont
  rcases hk with rfl | rfl | rfl <;> simp [vecOf, AVec.part, AVec.or, z1, z2, z3, s1, s2, s3]
theorem vec_parts {V A : AVec} (hV : V.Ok) (h : ∀ k, k = 1 ∨ k = 2 ∨ k = 3 → (vecOf k (V.part k)).or A = A) : V.or A = A := by
  have e : V = ((vecOf 1 (V.part 1)).or (vecOf 2 (V.part 2))).or (vecOf 3 (V.part 3)) := by
    have z1 := or_zero32 hV.allow
    have z2 := or_zero32 hV.audit
    have w2 := z2
    have w3 := or_zero32 hV.dont
    rw [or_comm32] at w2 w3
    have h00 : bits .or .u32 0 0 = 0 := by decide
    simp [vecOf, AVec.part, AVec.or, z1, z2, w2, w3, h00]
  rw [e, AVec.or_assoc, h 3 (by simp), AVec.or_assoc, h 2 (by simp), h 1 (by simp)]
theorem vec_part (x : AEntry) (k : Int) : x.vec k = x.vecs.part k := rfl
theorem cand_eq (S : List (AEntry × Int)) (p : AEntry × Int) : cand S p = mkR ⟨p.2, p.1.cls, p.1.cond, p.1.vec p.2⟩ (TT S ⟨p.2, p.1.cls, p.1.cond, p.1.vec p.2⟩ p.1.src, srcOf (TT S ⟨p.2, p.1.cls, p.1.cond, p.1.vec p.2⟩) (TT S ⟨p.2, p.1.cls, p.1.cond, p.1.vec p.2⟩ p.1.src)) := by unfold cand; rfl
theorem cand_src (S : List (AEntry × Int)) (p : AEntry × Int) : (cand S p).src = srcOf (TT S ⟨p.2, p.1.cls, p.1.cond, p.1.vec p.2⟩) (TT S ⟨p.2, p.1.cls, p.1.cond, p.1.vec p.2⟩ p.1.src) := by rw [cand_eq, mk_src]
theorem cand_tgt (S : List (AEntry × Int)) (p : AEntry × Int) : (cand S p).tgt = TT S ⟨p.2, p.1.cls, p.1.cond, p.1.vec p.2⟩ p.1.src := by rw [cand_eq, mk_tgt]
/-- The rules of Compress have the same entries. -/
theorem compress_same {l E : List AEntry} {R : List ARule} (hl : Canon (accE l) E) (hin : ∀ x ∈ l, x.inR = true) (hR : CanonR (pairsOf E) R) : accum (kvR R) = accE l := by
  funext k
  have hV : (accE l k).Ok := accum_ok _ _
  refine vle_antisymm (accum_le hV fun p hp e => ?_) (vec_parts hV fun kd hkd => ?_)
  · obtain ⟨r, hr, q, hq, rfl⟩ := kvR_mem.1 hp
    obtain ⟨h1, h2, ⟨s, h3⟩, h4⟩ := (hR.mem r).1 hr
    obtain ⟨⟨q1, q2⟩, q3, q4⟩ := (pairs_mem h1).1 hq
    rw [h4, srcOf_has _ _ q1] at q2
    rw [← q2] at q4
    obtain ⟨y, hy, hh, ht⟩ := (TT_has _ _ _ q3).1 q4
    obtain ⟨hg, e1, e2⟩ := hits_good hh
    obtain ⟨x, hx, hk⟩ := List.mem_flatMap.1 hy
    have hyx : y.1 = x ∧ (y.2 = 1 ∨ y.2 = 2 ∨ y.2 = 3) := by
      unfold kinds at hk
      split at hk
      · simp at hk
        rcases hk with rfl | rfl | rfl <;> simp
      · cases hk
    obtain ⟨rfl, hk3⟩ := hyx
    have hgk : (grpOf r) = ⟨y.2, y.1.cls, y.1.cond, y.1.vec y.2⟩ := e1
    simp only [grpOf, Grp.mk.injEq] at hgk
    obtain ⟨g1, g2, g3, g4⟩ := hgk
    have hkey : y.1.key = k := by
      rw [← e]
      show (⟨y.1.src, y.1.tgt, y.1.cls, y.1.cond⟩ : Key4) = ⟨(q.1 : Int), (q.2 : Int), r.cls, r.cond⟩
      rw [← e2, ht, g2, g3]
    have hvx := ((hl.mem y.1).1 hx).1
    rw [hkey] at hvx
    show (vecOf r.kind r.perms).or (accE l k) = accE l k
    rw [g1, g4, vec_part, hvx]
    exact vecOf_le hV hk3
  · by_cases hz : (accE l k).part kd = 0
    · rw [hz]
      have : vecOf kd 0 = AVec.zero := by rcases hkd with rfl | rfl | rfl <;> rfl
      rw [this, AVec.zero_or (accum_ok _ _)]
    · have hne : accE l k ≠ AVec.zero := fun e => hz (by rw [e]; unfold AVec.part AVec.zero; split <;> (try split) <;> rfl)
      have hx : mkE k (accE l k) ∈ E := (hl.mem _).2 ⟨rfl, hne⟩
      have hkl : k ∈ (kvs l).map Prod.fst := Classical.byContradiction fun h => hne (accum_out h)
      obtain ⟨p, hp, hpk⟩ := List.mem_map.1 hkl
      obtain ⟨y, hy, rfl⟩ := List.mem_map.1 hp
      have hin' : (mkE k (accE l k)).inR = true := by
        have h1 := hin y hy
        have h2 : y.key = k := hpk
        subst h2
        exact h1
      obtain ⟨x, hxe⟩ : ∃ x, x = mkE k (accE l k) := ⟨_, rfl⟩
      rw [← hxe] at hx hin'
      have hxk : x.key = k := by rw [hxe]; rfl
      have hxv : x.vec kd = (accE l k).part kd := by rw [vec_part, hxe]; rfl
      have hpS : (x, kd) ∈ pairsOf E := by
        refine List.mem_flatMap.2 ⟨x, hx, ?_⟩
        unfold kinds
        rw [if_pos hin']
        rcases hkd with rfl | rfl | rfl <;> simp
      have hgood : good (x, kd) = true := by
        unfold good
        simp [hin', hxv, hz]
      have hrR : cand (pairsOf E) (x, kd) ∈ R := (hR.mem _).2 (ruleOf_iff.2 ⟨_, hpS, hgood, rfl⟩)
      have hi := hits_in (good_hits hgood)
      dsimp only at hi
      have hq : (x.src.toNat, x.tgt.toNat) ∈ (cand (pairsOf E) (x, kd)).pairs := by
        refine (pairs_mem rfl).2 ⟨⟨by show x.src.toNat < 256; omega, ?_⟩, by show x.tgt.toNat < 256; omega, ?_⟩
        · rw [cand_src, srcOf_has _ _ (by omega), show ((x.src.toNat : Nat) : Int) = x.src by omega]
        · rw [cand_tgt, TT_has _ _ _ (by omega)]
          exact ⟨_, hpS, good_hits hgood, by show x.tgt = _; omega⟩
      have hmem : (k, vecOf kd ((accE l k).part kd)) ∈ kvR R := by
        refine kvR_mem.2 ⟨_, hrR, _, hq, ?_⟩
        have hxv' : x.vec kd = (accE l x.key).part kd := by rw [hxk]; exact hxv
        rw [← hxk, ← hxv']
        refine Prod.ext ?_ rfl
        show (⟨x.src, x.tgt, x.cls, x.cond⟩ : Key4) = ⟨((x.src.toNat : Nat) : Int), ((x.tgt.toNat : Nat) : Int), x.cls, x.cond⟩
        rw [Key4.mk.injEq]
        exact ⟨by omega, by omega, rfl, rfl⟩
      refine le_accum (p := (k, _)) ?_ hmem
      have h0 : U32 0 := ⟨by decide, by decide⟩
      rcases hkd with rfl | rfl | rfl
      · exact ⟨hV.allow, h0, h0⟩
      · exact ⟨h0, hV.audit, h0⟩
      · exact ⟨h0, h0, hV.dont⟩
end Go.Proofs.YtmkfabdkadocdaaDoor

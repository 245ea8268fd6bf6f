import Derived.Test.YtmkfabdkadocdaaDoorT3
import Derived.Test.YtmkfabdkadocdaaDoorO4
/-
  The reference's Entries and Never, in plain words.
-/
namespace Go.Proofs.YtmkfabdkadocdaaDoor
open Go Go.WideMaps Go.RowKit Go.Sort

/-- Pairs of key and vectors as entries. -/
def mkP (p : Key4 × AVec) : AEntry := mkE p.1 p.2
theorem kvs_mkP (L : List (Key4 × AVec)) : kvs (L.map mkP) = L := by
  unfold kvs
  rw [List.map_map]
  conv => rhs; rw [← List.map_id L]
  exact List.map_congr_left fun p _ => rfl
theorem accE_mkP (L : List (Key4 × AVec)) : accE (L.map mkP) = accum L := by unfold accE; rw [kvs_mkP]

theorem and_bv (a b : Int) : bits .and .u32 a b = ((BitVec.ofInt 32 a &&& BitVec.ofInt 32 b).toNat : Int) := by
  show IntKind.u32.wrap ((BitVec.ofInt 32 a &&& BitVec.ofInt 32 b).toNat : Int) = _
  rw [wrap32]
  have := (BitVec.ofInt 32 a &&& BitVec.ofInt 32 b).isLt
  omega
theorem bv_and (a b : Int) : BitVec.ofInt 32 (bits .and .u32 a b) = BitVec.ofInt 32 a &&& BitVec.ofInt 32 b := by rw [and_bv, BitVec.ofInt_natCast, BitVec.ofNat_toNat]; simp
theorem and_or32 (a b c : Int) : bits .or .u32 (bits .and .u32 a b) (bits .and .u32 c a) = bits .and .u32 a (bits .or .u32 b c) := by
  rw [or_bv, and_bv a (bits .or .u32 b c), bv_and, bv_and, bv_or, BitVec.and_comm (BitVec.ofInt 32 c), ← BitVec.and_or_distrib_left]
/-- What the reference gathers for an entry. -/
def badStep (x : AEntry) (v : Int) (r : ARule) : Int := if r.forb x then bits .or .u32 v r.perms else v
def badBits (l : List ARule) (x : AEntry) : Int := l.foldl (badStep x) 0
theorem bad_next {l : List ARule} {i : Nat} {r : ARule} {x : AEntry} (h : l[i]? = some r) : badBits (l.take (i + 1)) x = badStep x (badBits (l.take i) x) r := by
  unfold badBits
  rw [take_snoc h, List.foldl_append]
  rfl
theorem never_fold (x : AEntry) : ∀ (l : List ARule) (v b : Int), v = bits .and .u32 x.allow b → l.foldl (neverStep x) v = bits .and .u32 x.allow (l.foldl (badStep x) b)
  | [], _, _, h => h
  | r :: l, v, b, h => by
    rw [List.foldl_cons, List.foldl_cons]
    refine never_fold x l _ _ ?_
    unfold neverStep badStep
    split
    · rw [h, and_or32]
    · exact h
theorem never_bad (l : List ARule) (x : AEntry) : neverBits l x = bits .and .u32 x.allow (badBits l x) := by
  refine never_fold x l 0 0 ?_
  rw [and_bv]
  simp
end Go.Proofs.YtmkfabdkadocdaaDoor

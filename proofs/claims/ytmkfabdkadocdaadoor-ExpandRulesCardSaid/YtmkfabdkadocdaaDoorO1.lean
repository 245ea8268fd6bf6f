import Derived.Test.YtmkfabdkadocdaaDoorN3
import Derived.Sort.LotA
import Derived.Shelf.SlSortCmp.Insertion
/-
  Entries by key, in plain words: joined vectors, sorted lists.
-/
namespace Go.Proofs.YtmkfabdkadocdaaDoor
open Go Go.Sort

instance : Inhabited AEntry := ⟨⟨0, 0, 0, 0, 0, 0, 0⟩⟩
theorem lt_before (x y : AEntry) : ltOf beforeI x y = decide (x.src < y.src ∨ x.src = y.src ∧ (x.tgt < y.tgt ∨ x.tgt = y.tgt ∧ (x.cls < y.cls ∨ x.cls = y.cls ∧ x.cond < y.cond))) := by
  unfold ltOf beforeI
  simp only [orI, cmpI_zero]
  by_cases h0 : x.src = y.src
  · by_cases h1 : x.tgt = y.tgt
    · by_cases h2 : x.cls = y.cls
      · by_cases h3 : x.cond = y.cond
        · simp [h0, h1, h2, h3]
        · simp [h0, h1, h2, h3, cmpI_neg]
      · simp [h0, h1, h2, cmpI_neg]
    · simp [h0, h1, cmpI_neg]
  · simp [h0, cmpI_neg]
theorem swo_before : SWO (ltOf beforeI) where
  irrefl x := by rw [lt_before]; simp
  trans x y z h1 h2 := by rw [lt_before] at *; simp at *; omega
  ntrans x y z h1 h2 := by rw [lt_before] at *; simp at *; omega

theorem sorted_ext {α : Type} (lt : α → α → Prop) (hi : ∀ x, ¬ lt x x) (ht : ∀ x y z, lt x y → lt y z → lt x z) : ∀ {a b : List α}, a.Pairwise lt → b.Pairwise lt → (∀ x, x ∈ a ↔ x ∈ b) → a = b
  | [], [], _, _, _ => rfl
  | [], y :: b, _, _, h => by have := (h y).2 (by simp); cases this
  | x :: a, [], _, _, h => by have := (h x).1 (by simp); cases this
  | x :: a, y :: b, ha, hb, h => by
    have ha' := List.pairwise_cons.1 ha
    have hb' := List.pairwise_cons.1 hb
    have hxy : x = y := by
      rcases List.mem_cons.1 ((h x).1 (by simp)) with e | e
      · exact e
      · rcases List.mem_cons.1 ((h y).2 (by simp)) with e' | e'
        · exact e'.symm
        · exact absurd (ht _ _ _ (ha'.1 _ e') (hb'.1 _ e)) (hi _)
    subst hxy
    congr 1
    refine sorted_ext lt hi ht ha'.2 hb'.2 fun z => ⟨fun hz => ?_, fun hz => ?_⟩
    · rcases List.mem_cons.1 ((h z).1 (List.mem_cons_of_mem _ hz)) with e | e
      · subst e; exact absurd (ha'.1 _ hz) (hi _)
      · exact e
    · rcases List.mem_cons.1 ((h z).2 (List.mem_cons_of_mem _ hz)) with e | e
      · subst e; exact absurd (hb'.1 _ hz) (hi _)
      · exact e

/-- The sorted array as a list. -/
theorem sorted_list {α : Type} [Inhabited α] {lt : α → α → Bool} {d : Array α} (h : SortedIn lt 0 d.size d) : d.toList.Pairwise fun x y => lt y x = false := by
  rw [List.pairwise_iff_getElem]
  intro i j hi hj hij
  have := h i j (Nat.zero_le _) hij (by simpa using hj)
  simpa [getElem!_pos d i (by simpa using hi), getElem!_pos d j (by simpa using hj)] using this
theorem perm_list {α : Type} [Inhabited α] {d d' : Array α} (h : PermIn 0 d.size d d') : d'.toList.Perm d.toList := by
  have h2 := h.2.2
  have e : d'.extract 0 d.size = d' := by rw [← h.1]; simp
  rw [e] at h2
  simpa using h2

/-- What entries are joined by. -/
structure Key4 where
  src : Int
  tgt : Int
  cls : Int
  cond : Int
deriving DecidableEq
def AEntry.key (e : AEntry) : Key4 := ⟨e.src, e.tgt, e.cls, e.cond⟩
def AEntry.vecs (e : AEntry) : AVec := ⟨e.allow, e.audit, e.dont⟩
def AVec.zero : AVec := ⟨0, 0, 0⟩
instance : DecidableEq AVec := fun a b => decidable_of_iff (a.allow = b.allow ∧ a.audit = b.audit ∧ a.dont = b.dont) (by cases a; cases b; simp)
def mkE (k : Key4) (v : AVec) : AEntry := ⟨k.src, k.tgt, k.cls, k.cond, v.allow, v.audit, v.dont⟩
theorem mkE_key (k : Key4) (v : AVec) : (mkE k v).key = k := rfl
theorem mkE_vecs (k : Key4) (v : AVec) : (mkE k v).vecs = v := rfl
theorem mkE_eta (e : AEntry) : mkE e.key e.vecs = e := rfl
theorem entry_ext {x y : AEntry} (h1 : x.key = y.key) (h2 : x.vecs = y.vecs) : x = y := by rw [← mkE_eta x, ← mkE_eta y, h1, h2]

def I64 (a : Int) : Prop := -9223372036854775808 ≤ a ∧ a < 9223372036854775808
def U32 (a : Int) : Prop := 0 ≤ a ∧ a < 4294967296
structure Key4.Ok (k : Key4) : Prop where
  src : I64 k.src
  tgt : I64 k.tgt
  cls : I64 k.cls
  cond : I64 k.cond
structure AVec.Ok (v : AVec) : Prop where
  allow : U32 v.allow
  audit : U32 v.audit
  dont : U32 v.dont

def Bef (x y : AEntry) : Prop := ltOf beforeI x y = true
theorem Bef.irrefl (x : AEntry) : ¬ Bef x x := by unfold Bef; rw [swo_before.irrefl]; simp
theorem Bef.trans (x y z : AEntry) : Bef x y → Bef y z → Bef x z := swo_before.trans x y z
theorem bef_total {x y : AEntry} (h : x.key ≠ y.key) (h2 : ltOf beforeI y x = false) : Bef x y := by
  unfold Bef
  rw [lt_before] at *
  have h : ¬ (x.src = y.src ∧ x.tgt = y.tgt ∧ x.cls = y.cls ∧ x.cond = y.cond) := fun ⟨a, b, c, d⟩ => h (by unfold AEntry.key; rw [a, b, c, d])
  simp at h2 ⊢
  omega

/-- 'l' holds, in the order of keys, what 'f' says of each key, without empty vectors. -/
structure Canon (f : Key4 → AVec) (l : List AEntry) : Prop where
  ord : l.Pairwise Bef
  mem : ∀ e, e ∈ l ↔ e.vecs = f e.key ∧ f e.key ≠ AVec.zero
theorem Canon.uniq {f : Key4 → AVec} {a b : List AEntry} (ha : Canon f a) (hb : Canon f b) : a = b :=
  sorted_ext Bef Bef.irrefl Bef.trans ha.ord hb.ord fun x => (ha.mem x).trans (hb.mem x).symm

/-- Map entries. -/
def kvVal (p : Key4 × AVec) : Value × Value := (.agg #[.int .i64 p.1.src, .int .i64 p.1.tgt, .int .i64 p.1.cls, .int .i64 p.1.cond], .agg #[.int .u32 p.2.allow, .int .u32 p.2.audit, .int .u32 p.2.dont])
def nz (p : Key4 × AVec) : Bool := decide (p.2 ≠ AVec.zero)
/-- The entries that are not empty. -/
def outL (E : List (Key4 × AVec)) : List AEntry := (E.filter nz).map fun p => mkE p.1 p.2
/-- Sorting the entries of a map gives the one list. -/
theorem canon_sorted {f : Key4 → AVec} {D : List (Key4 × AVec)} (hn : (D.map Prod.fst).Nodup) (h1 : ∀ p ∈ D, p.2 = f p.1) (h2 : ∀ k, f k ≠ AVec.zero → k ∈ D.map Prod.fst)
    {l' : List AEntry} (hpl : l'.Perm (outL D)) (hs : l'.Pairwise fun x y => ltOf beforeI y x = false) : Canon f l' := by
  unfold outL at hpl
  have hnod : (l'.map AEntry.key).Nodup := by
    rw [(hpl.map AEntry.key).nodup_iff, List.map_map]
    have : (AEntry.key ∘ fun p : Key4 × AVec => mkE p.1 p.2) = Prod.fst := rfl
    rw [this]
    exact hn.sublist (List.filter_sublist.map _)
  refine ⟨?_, fun e => ?_⟩
  · have h := hs.and (List.pairwise_map.1 hnod)
    exact h.imp fun ⟨a, b⟩ => bef_total b a
  · rw [hpl.mem_iff, List.mem_map]
    constructor
    · rintro ⟨⟨k, v⟩, hp, rfl⟩
      simp only [List.mem_filter, nz, decide_eq_true_eq] at hp
      have := h1 _ hp.1
      exact ⟨this, fun h => hp.2 (this.trans h)⟩
    · rintro ⟨ha, hb⟩
      obtain ⟨⟨k, v⟩, hm, hk⟩ := List.mem_map.1 (h2 _ hb)
      have hk : k = e.key := hk
      subst hk
      have hv : v = f e.key := h1 _ hm
      subst hv
      refine ⟨(e.key, f e.key), List.mem_filter.2 ⟨hm, by simpa [nz] using hb⟩, ?_⟩
      show mkE e.key (f e.key) = e
      rw [← ha, mkE_eta]

def updV (f : Key4 → AVec) (k : Key4) (v : AVec) : Key4 → AVec := fun x => if x = k then (f k).or v else f x
def accum (l : List (Key4 × AVec)) : Key4 → AVec := l.foldl (fun f p => updV f p.1 p.2) fun _ => AVec.zero
theorem accum_snoc (l : List (Key4 × AVec)) (p : Key4 × AVec) : accum (l ++ [p]) = updV (accum l) p.1 p.2 := by simp [accum, List.foldl_append]
theorem accum_nil : accum [] = fun _ => AVec.zero := rfl

/-! ## bits -/
theorem wrap32 (n : Int) : IntKind.u32.wrap n = n % 4294967296 := by simp [IntKind.wrap, IntKind.signed, IntKind.bits]
theorem or_bv (a b : Int) : bits .or .u32 a b = ((BitVec.ofInt 32 a ||| BitVec.ofInt 32 b).toNat : Int) := by
  show IntKind.u32.wrap ((BitVec.ofInt 32 a ||| BitVec.ofInt 32 b).toNat : Int) = _
  have h := (BitVec.ofInt 32 a ||| BitVec.ofInt 32 b).isLt
  rw [wrap32]
  omega
theorem or_u32 (a b : Int) : U32 (bits .or .u32 a b) := by
  rw [or_bv]
  have h := (BitVec.ofInt 32 a ||| BitVec.ofInt 32 b).isLt
  exact ⟨by omega, by omega⟩
theorem bv_or (a b : Int) : BitVec.ofInt 32 (bits .or .u32 a b) = BitVec.ofInt 32 a ||| BitVec.ofInt 32 b := by rw [or_bv, BitVec.ofInt_natCast, BitVec.ofNat_toNat]; simp
theorem bv_self {a : Int} (h : U32 a) : ((BitVec.ofInt 32 a).toNat : Int) = a := by
  obtain ⟨n, rfl⟩ : ∃ n : Nat, a = n := ⟨a.toNat, by have := h.1; omega⟩
  rw [BitVec.ofInt_natCast, BitVec.toNat_ofNat, Nat.mod_eq_of_lt (by have := h.2; omega)]
theorem or_comm32 (a b : Int) : bits .or .u32 a b = bits .or .u32 b a := by rw [or_bv, or_bv, BitVec.or_comm]
theorem or_assoc32 (a b c : Int) : bits .or .u32 (bits .or .u32 a b) c = bits .or .u32 a (bits .or .u32 b c) := by rw [or_bv, or_bv a (bits .or .u32 b c), bv_or, bv_or, BitVec.or_assoc]
theorem or_zero32 {a : Int} (h : U32 a) : bits .or .u32 a 0 = a := by rw [or_bv, show BitVec.ofInt 32 0 = 0#32 from rfl, BitVec.or_zero, bv_self h]
theorem or_self32 {a : Int} (h : U32 a) : bits .or .u32 a a = a := by rw [or_bv, BitVec.or_self, bv_self h]
theorem or_eq_zero32 {a b : Int} (ha : U32 a) (hb : U32 b) (h : bits .or .u32 a b = 0) : a = 0 ∧ b = 0 := by
  rw [or_bv] at h
  have h' : BitVec.ofInt 32 a ||| BitVec.ofInt 32 b = 0#32 := by
    apply BitVec.eq_of_toNat_eq; simpa using h
  have h1 : BitVec.ofInt 32 a = 0#32 := (BitVec.or_eq_zero_iff.1 h').1
  have h2 : BitVec.ofInt 32 b = 0#32 := (BitVec.or_eq_zero_iff.1 h').2
  exact ⟨by rw [← bv_self ha, h1]; rfl, by rw [← bv_self hb, h2]; rfl⟩
theorem AVec.or_ok (u v : AVec) : (u.or v).Ok := ⟨or_u32 _ _, or_u32 _ _, or_u32 _ _⟩
theorem AVec.or_comm (u v : AVec) : u.or v = v.or u := by simp only [AVec.or, or_comm32 u.allow, or_comm32 u.audit, or_comm32 u.dont]
theorem AVec.or_assoc (u v x : AVec) : (u.or v).or x = u.or (v.or x) := by simp only [AVec.or, or_assoc32]
theorem AVec.or_zero {u : AVec} (h : u.Ok) : u.or AVec.zero = u := by simp only [AVec.or, AVec.zero, or_zero32 h.allow, or_zero32 h.audit, or_zero32 h.dont]
theorem AVec.zero_or {u : AVec} (h : u.Ok) : AVec.zero.or u = u := by rw [AVec.or_comm, AVec.or_zero h]
theorem AVec.or_self {u : AVec} (h : u.Ok) : u.or u = u := by simp only [AVec.or, or_self32 h.allow, or_self32 h.audit, or_self32 h.dont]
theorem AVec.zero_ok : AVec.zero.Ok := by constructor <;> exact ⟨by decide, by decide⟩
theorem AVec.or_eq_zero {u v : AVec} (hu : u.Ok) (hv : v.Ok) (h : u.or v = AVec.zero) : u = AVec.zero ∧ v = AVec.zero := by
  simp only [AVec.or, AVec.zero, AVec.mk.injEq] at h
  have h1 := or_eq_zero32 hu.allow hv.allow h.1
  have h2 := or_eq_zero32 hu.audit hv.audit h.2.1
  have h3 := or_eq_zero32 hu.dont hv.dont h.2.2
  cases u; cases v
  simp only [AVec.zero, AVec.mk.injEq] at *
  exact ⟨⟨h1.1, h2.1, h3.1⟩, h1.2, h2.2, h3.2⟩
end Go.Proofs.YtmkfabdkadocdaaDoor

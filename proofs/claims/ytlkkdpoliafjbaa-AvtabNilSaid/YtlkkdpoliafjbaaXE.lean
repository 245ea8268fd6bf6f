import Derived.Test.YtlkkdpoliafjbaaL
/-
  ENTRIES, IN PLAIN WORDS (no program is named): keys and vectors, joined vectors, the canonical list of what is said of each key, an entry put into such a list.
-/
namespace Go.Proofs.Ytlkkdpoliafjbaa
open Go

structure AEntry where
  src : Int
  tgt : Int
  cls : Int
  cond : Int
  allow : Int
  audit : Int
  dont : Int
deriving DecidableEq
def AEntry.cells (x : AEntry) : List Value := [.int .i64 x.src, .int .i64 x.tgt, .int .i64 x.cls, .int .i64 x.cond, .int .u32 x.allow, .int .u32 x.audit, .int .u32 x.dont]
theorem entry_len (x : AEntry) : x.cells.length = 7 := rfl
theorem entry_one (x : AEntry) : ∀ v ∈ x.cells, v.oneCell' = true := fun v hv => by simp [AEntry.cells] at hv; rcases hv with rfl | rfl | rfl | rfl | rfl | rfl | rfl <;> rfl
theorem ecells_one (l : List AEntry) : ∀ v ∈ l.flatMap AEntry.cells, v.oneCell' = true := fun v hv => by
  obtain ⟨x, -, hx⟩ := List.mem_flatMap.1 hv
  exact entry_one x v hx
structure AVec where
  allow : Int
  audit : Int
  dont : Int
deriving DecidableEq
def AVec.cells (v : AVec) : List Value := [.int .u32 v.allow, .int .u32 v.audit, .int .u32 v.dont]
def AVec.or (v x : AVec) : AVec := ⟨bits .or .u32 v.allow x.allow, bits .or .u32 v.audit x.audit, bits .or .u32 v.dont x.dont⟩
structure Key4 where
  src : Int
  tgt : Int
  cls : Int
  cond : Int
deriving DecidableEq
def Key4.cells (k : Key4) : List Value := [.int .i64 k.src, .int .i64 k.tgt, .int .i64 k.cls, .int .i64 k.cond]
def AEntry.key (e : AEntry) : Key4 := ⟨e.src, e.tgt, e.cls, e.cond⟩
def AEntry.vecs (e : AEntry) : AVec := ⟨e.allow, e.audit, e.dont⟩
def AVec.zero : AVec := ⟨0, 0, 0⟩
def mkE (k : Key4) (v : AVec) : AEntry := ⟨k.src, k.tgt, k.cls, k.cond, v.allow, v.audit, v.dont⟩
theorem mkE_key (k : Key4) (v : AVec) : (mkE k v).key = k := rfl
theorem mkE_vecs (k : Key4) (v : AVec) : (mkE k v).vecs = v := rfl
theorem mkE_eta (e : AEntry) : mkE e.key e.vecs = e := rfl
theorem entry_ext {x y : AEntry} (h1 : x.key = y.key) (h2 : x.vecs = y.vecs) : x = y := by rw [← mkE_eta x, ← mkE_eta y, h1, h2]
def I64 (a : Int) : Prop := -9223372036854775808 ≤ a ∧ a < 9223372036854775808
def U32 (a : Int) : Prop := 0 ≤ a ∧ a < 4294967296
structure Key4.Ok (k : Key4) : Prop where
  src : I64 k.src
  tgt : I64 k.tgt
  cls : I64 k.cls
  cond : I64 k.cond
structure AVec.Ok (v : AVec) : Prop where
  allow : U32 v.allow
  audit : U32 v.audit
  dont : U32 v.dont
def AEntry.Ok (x : AEntry) : Prop := x.key.Ok ∧ x.vecs.Ok

/-! ### The order of keys -/
def befB (x y : AEntry) : Bool := decide (x.src < y.src ∨ x.src = y.src ∧ (x.tgt < y.tgt ∨ x.tgt = y.tgt ∧ (x.cls < y.cls ∨ x.cls = y.cls ∧ x.cond < y.cond)))
def Bef (x y : AEntry) : Prop := befB x y = true
theorem befB_iff {x y : AEntry} : befB x y = true ↔ Bef x y := Iff.rfl
theorem Bef.irrefl (x : AEntry) : ¬ Bef x x := by unfold Bef befB; simp
theorem Bef.trans (x y z : AEntry) : Bef x y → Bef y z → Bef x z := by unfold Bef befB; simp only [decide_eq_true_eq]; omega
theorem bef_total {x y : AEntry} (h : x.key ≠ y.key) (h2 : befB y x = false) : Bef x y := by
  have h : ¬ (x.src = y.src ∧ x.tgt = y.tgt ∧ x.cls = y.cls ∧ x.cond = y.cond) := fun ⟨a, b, c, d⟩ => h (by unfold AEntry.key; rw [a, b, c, d])
  unfold Bef befB
  unfold befB at h2
  simp only [decide_eq_true_eq, decide_eq_false_iff_not] at *
  omega
def Leq (x y : AEntry) : Prop := befB y x = false
theorem leq_of_lt {x y : AEntry} (h : befB x y = true) : Leq x y := by
  unfold Leq befB
  unfold befB at h
  simp only [decide_eq_true_eq, decide_eq_false_iff_not] at *
  omega
theorem befB_key {x x' y y' : AEntry} (h1 : x.key = x'.key) (h2 : y.key = y'.key) : befB x y = befB x' y' := by
  simp only [AEntry.key, Key4.mk.injEq] at h1 h2
  unfold befB
  rw [h1.1, h1.2.1, h1.2.2.1, h1.2.2.2, h2.1, h2.2.1, h2.2.2.1, h2.2.2.2]
theorem sorted_ext {α : Type} (lt : α → α → Prop) (hi : ∀ x, ¬ lt x x) (ht : ∀ x y z, lt x y → lt y z → lt x z) : ∀ {a b : List α}, a.Pairwise lt → b.Pairwise lt → (∀ x, x ∈ a ↔ x ∈ b) → a = b
  | [], [], _, _, _ => rfl
  | [], y :: b, _, _, h => by have := (h y).2 (by simp); cases this
  | x :: a, [], _, _, h => by have := (h x).1 (by simp); cases this
  | x :: a, y :: b, ha, hb, h => by
    have ha' := List.pairwise_cons.1 ha
    have hb' := List.pairwise_cons.1 hb
    have hxy : x = y := by
      rcases List.mem_cons.1 ((h x).1 (by simp)) with e | e
      · exact e
      · rcases List.mem_cons.1 ((h y).2 (by simp)) with e' | e'
        · exact e'.symm
        · exact absurd (ht _ _ _ (ha'.1 _ e') (hb'.1 _ e)) (hi _)
    subst hxy
    congr 1
    refine sorted_ext lt hi ht ha'.2 hb'.2 fun z => ⟨fun hz => ?_, fun hz => ?_⟩
    · rcases List.mem_cons.1 ((h z).1 (List.mem_cons_of_mem _ hz)) with e | e
      · subst e; exact absurd (ha'.1 _ hz) (hi _)
      · exact e
    · rcases List.mem_cons.1 ((h z).2 (List.mem_cons_of_mem _ hz)) with e | e
      · subst e; exact absurd (hb'.1 _ hz) (hi _)
      · exact e

/-- 'l' holds, in the order of keys, what 'f' says of each key, without empty vectors. -/
structure Canon (f : Key4 → AVec) (l : List AEntry) : Prop where
  ord : l.Pairwise Bef
  mem : ∀ e, e ∈ l ↔ e.vecs = f e.key ∧ f e.key ≠ AVec.zero
theorem Canon.uniq {f : Key4 → AVec} {a b : List AEntry} (ha : Canon f a) (hb : Canon f b) : a = b :=
  sorted_ext Bef Bef.irrefl Bef.trans ha.ord hb.ord fun x => (ha.mem x).trans (hb.mem x).symm

def updV (f : Key4 → AVec) (k : Key4) (v : AVec) : Key4 → AVec := fun x => if x = k then (f k).or v else f x
def accum (l : List (Key4 × AVec)) : Key4 → AVec := l.foldl (fun f p => updV f p.1 p.2) fun _ => AVec.zero
theorem accum_snoc (l : List (Key4 × AVec)) (p : Key4 × AVec) : accum (l ++ [p]) = updV (accum l) p.1 p.2 := by simp [accum, List.foldl_append]
theorem accum_nil : accum [] = fun _ => AVec.zero := rfl

/-! ### Bits -/
theorem wrap32 (n : Int) : IntKind.u32.wrap n = n % 4294967296 := by simp [IntKind.wrap, IntKind.signed, IntKind.bits]
theorem or_bv (a b : Int) : bits .or .u32 a b = ((BitVec.ofInt 32 a ||| BitVec.ofInt 32 b).toNat : Int) := by
  show IntKind.u32.wrap ((BitVec.ofInt 32 a ||| BitVec.ofInt 32 b).toNat : Int) = _
  have h := (BitVec.ofInt 32 a ||| BitVec.ofInt 32 b).isLt
  rw [wrap32]
  omega
theorem or_u32 (a b : Int) : U32 (bits .or .u32 a b) := by
  rw [or_bv]
  have h := (BitVec.ofInt 32 a ||| BitVec.ofInt 32 b).isLt
  exact ⟨by omega, by omega⟩
theorem bv_or (a b : Int) : BitVec.ofInt 32 (bits .or .u32 a b) = BitVec.ofInt 32 a ||| BitVec.ofInt 32 b := by rw [or_bv, BitVec.ofInt_natCast, BitVec.ofNat_toNat]; simp
theorem bv_self {a : Int} (h : U32 a) : ((BitVec.ofInt 32 a).toNat : Int) = a := by
  obtain ⟨n, rfl⟩ : ∃ n : Nat, a = n := ⟨a.toNat, by have := h.1; omega⟩
  rw [BitVec.ofInt_natCast, BitVec.toNat_ofNat, Nat.mod_eq_of_lt (by have := h.2; omega)]
theorem or_comm32 (a b : Int) : bits .or .u32 a b = bits .or .u32 b a := by rw [or_bv, or_bv, BitVec.or_comm]
theorem or_assoc32 (a b c : Int) : bits .or .u32 (bits .or .u32 a b) c = bits .or .u32 a (bits .or .u32 b c) := by rw [or_bv, or_bv a (bits .or .u32 b c), bv_or, bv_or, BitVec.or_assoc]
theorem or_zero32 {a : Int} (h : U32 a) : bits .or .u32 a 0 = a := by rw [or_bv, show BitVec.ofInt 32 0 = 0#32 from rfl, BitVec.or_zero, bv_self h]
theorem or_self32 {a : Int} (h : U32 a) : bits .or .u32 a a = a := by rw [or_bv, BitVec.or_self, bv_self h]
theorem or_eq_zero32 {a b : Int} (ha : U32 a) (hb : U32 b) (h : bits .or .u32 a b = 0) : a = 0 ∧ b = 0 := by
  rw [or_bv] at h
  have h' : BitVec.ofInt 32 a ||| BitVec.ofInt 32 b = 0#32 := by
    apply BitVec.eq_of_toNat_eq; simpa using h
  have h1 : BitVec.ofInt 32 a = 0#32 := (BitVec.or_eq_zero_iff.1 h').1
  have h2 : BitVec.ofInt 32 b = 0#32 := (BitVec.or_eq_zero_iff.1 h').2
  exact ⟨by rw [← bv_self ha, h1]; rfl, by rw [← bv_self hb, h2]; rfl⟩
theorem AVec.or_ok (u v : AVec) : (u.or v).Ok := ⟨or_u32 _ _, or_u32 _ _, or_u32 _ _⟩
theorem AVec.or_comm (u v : AVec) : u.or v = v.or u := by simp only [AVec.or, or_comm32 u.allow, or_comm32 u.audit, or_comm32 u.dont]
theorem AVec.or_assoc (u v x : AVec) : (u.or v).or x = u.or (v.or x) := by simp only [AVec.or, or_assoc32]
theorem AVec.or_zero {u : AVec} (h : u.Ok) : u.or AVec.zero = u := by simp only [AVec.or, AVec.zero, or_zero32 h.allow, or_zero32 h.audit, or_zero32 h.dont]
theorem AVec.zero_or {u : AVec} (h : u.Ok) : AVec.zero.or u = u := by rw [AVec.or_comm, AVec.or_zero h]
theorem AVec.or_self {u : AVec} (h : u.Ok) : u.or u = u := by simp only [AVec.or, or_self32 h.allow, or_self32 h.audit, or_self32 h.dont]
theorem AVec.zero_ok : AVec.zero.Ok := by constructor <;> exact ⟨by decide, by decide⟩
theorem AVec.or_eq_zero {u v : AVec} (hu : u.Ok) (hv : v.Ok) (h : u.or v = AVec.zero) : u = AVec.zero ∧ v = AVec.zero := by
  simp only [AVec.or, AVec.zero, AVec.mk.injEq] at h
  have h1 := or_eq_zero32 hu.allow hv.allow h.1
  have h2 := or_eq_zero32 hu.audit hv.audit h.2.1
  have h3 := or_eq_zero32 hu.dont hv.dont h.2.2
  cases u; cases v
  simp only [AVec.zero, AVec.mk.injEq] at *
  exact ⟨⟨h1.1, h2.1, h3.1⟩, h1.2, h2.2, h3.2⟩
theorem and_bv (a b : Int) : bits .and .u32 a b = ((BitVec.ofInt 32 a &&& BitVec.ofInt 32 b).toNat : Int) := by
  show IntKind.u32.wrap ((BitVec.ofInt 32 a &&& BitVec.ofInt 32 b).toNat : Int) = _
  rw [wrap32]
  have := (BitVec.ofInt 32 a &&& BitVec.ofInt 32 b).isLt
  omega
theorem bv_and (a b : Int) : BitVec.ofInt 32 (bits .and .u32 a b) = BitVec.ofInt 32 a &&& BitVec.ofInt 32 b := by rw [and_bv, BitVec.ofInt_natCast, BitVec.ofNat_toNat]; simp
/-! ### What entries say of each key -/
def kvs (l : List AEntry) : List (Key4 × AVec) := l.map fun e => (e.key, e.vecs)
def accE (l : List AEntry) : Key4 → AVec := accum (kvs l)
theorem accum_next (L : List (Key4 × AVec)) (k : Key4) (v : AVec) : accum (L ++ [(k, v)]) = fun x => if x = k then (accum L k).or v else accum L x := by rw [accum_snoc]; rfl

/-- The list that holds what has been joined so far. -/
structure UniL (L O : List AEntry) : Prop where
  nod : (O.map AEntry.key).Nodup
  mem : ∀ e, e ∈ O ↔ e.vecs = accE L e.key ∧ accE L e.key ≠ AVec.zero
theorem accE_snoc (L : List AEntry) (x : AEntry) : accE (L ++ [x]) = fun k => if k = x.key then (accE L x.key).or x.vecs else accE L k := by
  unfold accE kvs
  rw [List.map_append, List.map_singleton, accum_next]
theorem accE_val (L : List AEntry) (k : Key4) : (accE L k).Ok := by
  have : ∀ (L : List (Key4 × AVec)) (f : Key4 → AVec), (∀ k, (f k).Ok) → ∀ k, ((L.foldl (fun f p => updV f p.1 p.2) f) k).Ok := by
    intro L
    induction L with
    | nil => intro f hf k; exact hf k
    | cons p L ih =>
      intro f hf k
      rw [List.foldl_cons]
      refine ih _ (fun x => ?_) k
      unfold updV
      split
      · exact AVec.or_ok _ _
      · exact hf x
  exact this _ _ (fun _ => AVec.zero_ok) k
theorem UniL.nil : UniL [] [] := ⟨by simp, fun e => by simp [accE, kvs, accum]⟩
theorem UniL.skip {L O : List AEntry} {x : AEntry} (h : UniL L O) (hx : x.vecs = AVec.zero) : UniL (L ++ [x]) O := by
  have e : accE (L ++ [x]) = accE L := by
    rw [accE_snoc]
    funext k
    split
    · rename_i hk
      rw [hk, hx, AVec.or_zero (accE_val _ _)]
    · rfl
  exact ⟨h.nod, fun y => by rw [e]; exact h.mem y⟩
theorem UniL.no {L O : List AEntry} (h : UniL L O) {k : Key4} (hk : k ∉ O.map AEntry.key) : accE L k = AVec.zero := by
  apply Classical.byContradiction
  intro hne
  exact hk (List.mem_map.2 ⟨mkE k (accE L k), (h.mem _).2 ⟨rfl, hne⟩, rfl⟩)
theorem UniL.new {L O : List AEntry} {x : AEntry} (h : UniL L O) (hok : x.Ok) (hx : x.vecs ≠ AVec.zero) (hk : x.key ∉ O.map AEntry.key) : UniL (L ++ [x]) (O ++ [x]) := by
  have hz := h.no hk
  refine ⟨?_, fun e => ?_⟩
  · rw [List.map_append, List.map_singleton, List.nodup_append]
    refine ⟨h.nod, by simp, fun a ha b hb e => ?_⟩
    simp at hb
    subst hb
    subst e
    exact hk ha
  · rw [List.mem_append, List.mem_singleton, accE_snoc]
    by_cases he : e.key = x.key
    · simp only [if_pos he, hz, AVec.zero_or hok.2]
      constructor
      · rintro (h1 | rfl)
        · exact absurd (he ▸ List.mem_map.2 ⟨e, h1, rfl⟩) hk
        · exact ⟨rfl, hx⟩
      · rintro ⟨h1, _⟩
        exact .inr (entry_ext he h1)
    · simp only [if_neg he]
      rw [← h.mem]
      constructor
      · rintro (h1 | rfl)
        · exact h1
        · exact absurd rfl he
      · exact .inl
theorem UniL.join {L O : List AEntry} {x y : AEntry} {j : Nat} (h : UniL L O) (hy : O[j]? = some y) (hyk : y.key = x.key) (hok : x.Ok) (hx : x.vecs ≠ AVec.zero) : UniL (L ++ [x]) (O.set j (mkE y.key (y.vecs.or x.vecs))) := by
  have hyo : y ∈ O := List.mem_of_getElem? hy
  have hv := (h.mem y).1 hyo
  have hjl := (List.getElem?_eq_some_iff.1 hy).1
  have hkeys : (O.set j (mkE y.key (y.vecs.or x.vecs))).map AEntry.key = O.map AEntry.key := by
    rw [List.map_set]
    refine List.ext_getElem? fun i => ?_
    rw [List.getElem?_set]
    by_cases e : j = i
    · subst e
      rw [if_pos rfl, if_pos (by simpa using hjl), List.getElem?_map, hy]
      rfl
    · rw [if_neg e]
  refine ⟨by rw [hkeys]; exact h.nod, fun e => ?_⟩
  rw [accE_snoc]
  have hor : (y.vecs.or x.vecs) = (accE L x.key).or x.vecs := by rw [hv.1, hyk]
  have hne : (accE L x.key).or x.vecs ≠ AVec.zero := fun h0 => hx (AVec.or_eq_zero (accE_val _ _) hok.2 h0).2
  by_cases he : e.key = x.key
  · simp only [if_pos he]
    constructor
    · intro hm
      obtain ⟨i, hi⟩ := List.getElem?_of_mem hm
      rw [List.getElem?_set] at hi
      by_cases e1 : j = i
      · subst e1
        rw [if_pos rfl, if_pos hjl] at hi
        cases hi
        exact ⟨hor, hne⟩
      · rw [if_neg e1] at hi
        exfalso
        have hn := List.nodup_iff_pairwise_ne.1 h.nod
        have hi1 : (O.map AEntry.key)[i]? = some x.key := by rw [List.getElem?_map, hi]; simp [he]
        have hj1 : (O.map AEntry.key)[j]? = some x.key := by rw [List.getElem?_map, hy]; simp [hyk]
        obtain ⟨a1, a2⟩ := List.getElem?_eq_some_iff.1 hi1
        obtain ⟨b1, b2⟩ := List.getElem?_eq_some_iff.1 hj1
        have hp := List.pairwise_iff_getElem.1 hn
        rcases Nat.lt_trichotomy i j with hlt | hlt | hlt
        · exact hp i j a1 b1 hlt (a2.trans b2.symm)
        · exact e1 hlt.symm
        · exact hp j i b1 a1 hlt (b2.trans a2.symm)
    · rintro ⟨h1, _⟩
      have : e = mkE y.key (y.vecs.or x.vecs) := entry_ext (he.trans hyk.symm) (h1.trans hor.symm)
      rw [this]
      exact List.mem_of_getElem? (i := j) (by rw [List.getElem?_set, if_pos rfl, if_pos hjl])
  · simp only [if_neg he]
    rw [← h.mem]
    constructor
    · intro hm
      rcases List.mem_or_eq_of_mem_set hm with h1 | rfl
      · exact h1
      · exact absurd hyk he
    · intro hm
      obtain ⟨i, hi⟩ := List.getElem?_of_mem hm
      refine List.mem_of_getElem? (i := i) ?_
      rw [List.getElem?_set, if_neg]
      · exact hi
      · intro e1
        subst e1
        rw [hy] at hi
        cases hi
        exact he hyk
/-- Sorted by key, it is the canonical list. -/
theorem UniL.canon {L O R : List AEntry} (h : UniL L O) (hp : R.Perm O) (hs : R.Pairwise Leq) : Canon (accE L) R := by
  refine ⟨?_, fun e => (hp.mem_iff).trans (h.mem e)⟩
  have hnd : (R.map AEntry.key).Nodup := (hp.map AEntry.key).nodup_iff.2 h.nod
  have hnd' : R.Pairwise fun x y => x.key ≠ y.key := List.pairwise_map.1 hnd
  exact (hs.and hnd').imp fun {a b} hab => bef_total hab.2 hab.1
def joinE (y x : AEntry) : AEntry := mkE y.key (y.vecs.or x.vecs)
/-- The same, written from the list's head. -/
def ins (x : AEntry) : List AEntry → List AEntry
  | [] => [x]
  | y :: l => if befB x y then x :: y :: l else if befB y x then y :: ins x l else joinE y x :: l
theorem befB_asymm {x y : AEntry} (h : befB x y = true) : befB y x = false := by
  cases e : befB y x with
  | false => rfl
  | true => exact absurd (Bef.trans _ _ _ (befB_iff.1 h) (befB_iff.1 e)) (Bef.irrefl x)
theorem key_of_not {x y : AEntry} (h1 : befB x y = false) (h2 : befB y x = false) : x.key = y.key := by
  apply Classical.byContradiction
  intro hne
  have h := bef_total hne h2
  rw [← befB_iff] at h
  rw [h] at h1
  cases h1
theorem not_of_key {x y : AEntry} (h : x.key = y.key) : befB x y = false := by
  rw [befB_key h (rfl : y.key = y.key)]
  cases e : befB y y with
  | false => rfl
  | true => exact absurd (befB_iff.1 e) (Bef.irrefl y)
theorem ins_key {x z : AEntry} : ∀ {l : List AEntry}, z ∈ ins x l → z.key = x.key ∨ z ∈ l
  | [], h => by simp [ins] at h; exact .inl (by rw [h])
  | y :: l, h => by
    rw [ins] at h
    split at h
    · rcases List.mem_cons.1 h with rfl | h
      · exact .inl rfl
      · exact .inr h
    · split at h
      · rcases List.mem_cons.1 h with rfl | h
        · exact .inr (by simp)
        · rcases ins_key h with e | e
          · exact .inl e
          · exact .inr (by simp [e])
      · rename_i h1 h2
        rcases List.mem_cons.1 h with rfl | h
        · exact .inl (show y.key = x.key from (key_of_not (x := x) (y := y) (by simpa using h1) (by simpa using h2)).symm)
        · exact .inr (by simp [h])
theorem ins_sorted {x : AEntry} : ∀ {l : List AEntry}, l.Pairwise Bef → (ins x l).Pairwise Bef
  | [], _ => by simp [ins]
  | y :: l, h => by
    have h' := List.pairwise_cons.1 h
    rw [ins]
    split
    · rename_i h1
      refine List.pairwise_cons.2 ⟨fun z hz => ?_, h⟩
      rcases List.mem_cons.1 hz with rfl | hz
      · exact befB_iff.1 h1
      · exact Bef.trans _ _ _ (befB_iff.1 h1) (h'.1 z hz)
    · split
      · rename_i h1 h2
        refine List.pairwise_cons.2 ⟨fun z hz => ?_, ins_sorted h'.2⟩
        rcases ins_key hz with e | e
        · rw [← befB_iff, befB_key (rfl : y.key = y.key) e]; exact h2
        · exact h'.1 z e
      · refine List.pairwise_cons.2 ⟨fun z hz => ?_, h'.2⟩
        rw [← befB_iff, befB_key (show (joinE y x).key = y.key from rfl) (rfl : z.key = z.key)]
        exact befB_iff.2 (h'.1 z hz)
theorem ins_new {x : AEntry} : ∀ {l : List AEntry}, x.key ∉ l.map AEntry.key → (ins x l).Perm (l ++ [x])
  | [], _ => by simp [ins]
  | y :: l, h => by
    have hk : x.key ≠ y.key := fun e => h (by simp [e])
    have hl : x.key ∉ l.map AEntry.key := fun e => h (by simp at e ⊢; exact .inr e)
    rw [ins]
    split
    · exact (List.perm_append_singleton x (y :: l)).symm
    · split
      · exact (ins_new hl).cons y
      · rename_i h1 h2
        exact absurd (key_of_not (by simpa using h1) (by simpa using h2)) hk
theorem ins_old {x : AEntry} : ∀ {l : List AEntry}, l.Pairwise Bef → x.key ∈ l.map AEntry.key → ∃ j y, l[j]? = some y ∧ y.key = x.key ∧ ins x l = l.set j (joinE y x)
  | [], _, h => by simp at h
  | y :: l, hs, h => by
    have h' := List.pairwise_cons.1 hs
    rw [ins]
    by_cases hk : y.key = x.key
    · refine ⟨0, y, rfl, hk, ?_⟩
      rw [if_neg (by rw [not_of_key hk.symm]; simp), if_neg (by rw [not_of_key hk]; simp)]
      rfl
    · have hm : x.key ∈ l.map AEntry.key := by
        rcases List.mem_cons.1 (by simpa using h : x.key ∈ y.key :: l.map AEntry.key) with e | e
        · exact absurd e.symm hk
        · exact e
      obtain ⟨j, z, h1, h2, h3⟩ := ins_old h'.2 hm
      have hyz : befB y z = true := befB_iff.2 (h'.1 z (List.mem_of_getElem? h1))
      have hyx : befB y x = true := by rw [befB_key (rfl : y.key = y.key) h2.symm]; exact hyz
      refine ⟨j + 1, z, by simpa using h1, h2, ?_⟩
      rw [if_neg (by rw [befB_asymm hyx]; simp), if_pos hyx, h3]
      rfl
theorem canon_uni {L l : List AEntry} (h : Canon (accE L) l) : UniL L l := by
  refine ⟨?_, h.mem⟩
  rw [List.nodup_iff_pairwise_ne, List.pairwise_map]
  exact h.ord.imp fun {a b} hab e => by
    have := not_of_key e
    rw [befB_iff.2 hab] at this
    cases this
/-- An entry that is not empty, put into the canonical list. -/
theorem canon_ins {L l : List AEntry} {x : AEntry} (h : Canon (accE L) l) (hok : x.Ok) (hx : x.vecs ≠ AVec.zero) : Canon (accE (L ++ [x])) (ins x l) := by
  have hu := canon_uni h
  have hs := ins_sorted (x := x) h.ord
  have hle : (ins x l).Pairwise Leq := hs.imp fun {a b} hab => leq_of_lt hab
  by_cases hk : x.key ∈ l.map AEntry.key
  · obtain ⟨j, y, h1, h2, h3⟩ := ins_old h.ord hk
    rw [h3] at hle ⊢
    exact (hu.join h1 h2 hok hx).canon (List.Perm.refl _) hle
  · exact (hu.new hok hx hk).canon (ins_new hk) hle
theorem canon_skip {L l : List AEntry} {x : AEntry} (h : Canon (accE L) l) (hx : x.vecs = AVec.zero) : Canon (accE (L ++ [x])) l :=
  ⟨h.ord, ((canon_uni h).skip hx).mem⟩
/-- An entry put into a list; nothing if it is empty. -/
def addR (l : List AEntry) (x : AEntry) : List AEntry := if x.vecs = AVec.zero then l else ins x l
theorem canon_addR {L l : List AEntry} {x : AEntry} (h : Canon (accE L) l) (hok : x.Ok) : Canon (accE (L ++ [x])) (addR l x) := by
  unfold addR
  split
  · rename_i hx
    exact canon_skip h hx
  · rename_i hx
    exact canon_ins h hok hx
theorem canon_none : Canon (accE []) [] := ⟨List.Pairwise.nil, fun e => by simp [accE, kvs, accum]⟩
/-- Entries, joined. -/
def joinL (l : List AEntry) : List AEntry := l.foldl addR []
theorem joinL_snoc (l : List AEntry) (x : AEntry) : joinL (l ++ [x]) = addR (joinL l) x := by simp [joinL, List.foldl_append]
theorem joinL_from : ∀ (l L I : List AEntry), Canon (accE L) I → (∀ x ∈ l, x.Ok) → Canon (accE (L ++ l)) (l.foldl addR I)
  | [], L, I, h, _ => by simpa using h
  | x :: l, L, I, h, hok => by
    rw [List.foldl_cons, List.append_cons]
    exact joinL_from l _ _ (canon_addR h (hok x (by simp))) fun y hy => hok y (by simp [hy])
theorem joinL_canon {l : List AEntry} (hok : ∀ x ∈ l, x.Ok) : Canon (accE l) (joinL l) := by
  have := joinL_from l [] [] canon_none hok
  rwa [List.nil_append] at this
theorem vle_trans {u v x : AVec} (h1 : u.or v = v) (h2 : v.or x = x) : u.or x = x := by
  rw [← h2, ← AVec.or_assoc, h1]
theorem vle_antisymm {u v : AVec} (h1 : u.or v = v) (h2 : v.or u = u) : u = v := by
  rw [← h1, AVec.or_comm, h2]
theorem fold_le {k : Key4} {V : AVec} : ∀ (L : List (Key4 × AVec)) (f : Key4 → AVec), (f k).or V = V → (∀ p ∈ L, p.1 = k → p.2.or V = V) → ((L.foldl (fun f p => updV f p.1 p.2) f) k).or V = V
  | [], _, hf, _ => hf
  | p :: L, f, hf, h => by
    rw [List.foldl_cons]
    refine fold_le L _ ?_ fun q hq => h q (List.mem_cons_of_mem _ hq)
    unfold updV
    split
    · rename_i e
      subst e
      rw [AVec.or_assoc, h p (by simp) rfl, hf]
    · exact hf
theorem accum_le {L : List (Key4 × AVec)} {k : Key4} {V : AVec} (hV : V.Ok) (h : ∀ p ∈ L, p.1 = k → p.2.or V = V) : (accum L k).or V = V := fold_le L _ (AVec.zero_or hV) h
theorem fold_ok : ∀ (L : List (Key4 × AVec)) (f : Key4 → AVec), (∀ k, (f k).Ok) → ∀ k, ((L.foldl (fun f p => updV f p.1 p.2) f) k).Ok
  | [], _, hf, k => hf k
  | p :: L, f, hf, k => by
    rw [List.foldl_cons]
    refine fold_ok L _ (fun x => ?_) k
    unfold updV
    split
    · exact AVec.or_ok _ _
    · exact hf x
theorem accum_ok (L : List (Key4 × AVec)) (k : Key4) : (accum L k).Ok := fold_ok L _ (fun _ => AVec.zero_ok) k
theorem fold_mono {k : Key4} : ∀ (L : List (Key4 × AVec)) (f : Key4 → AVec), (∀ k, (f k).Ok) → (f k).or ((L.foldl (fun f p => updV f p.1 p.2) f) k) = (L.foldl (fun f p => updV f p.1 p.2) f) k
  | [], _, hf => AVec.or_self (hf k)
  | p :: L, f, hf => by
    rw [List.foldl_cons]
    have hf' : ∀ x, (updV f p.1 p.2 x).Ok := fun x => by
      unfold updV
      split
      · exact AVec.or_ok _ _
      · exact hf x
    refine vle_trans ?_ (fold_mono L _ hf')
    unfold updV
    split
    · rename_i e
      subst e
      rw [← AVec.or_assoc, AVec.or_self (hf _)]
    · exact AVec.or_self (hf k)
theorem fold_has {p : Key4 × AVec} : ∀ (L : List (Key4 × AVec)) (f : Key4 → AVec), (∀ k, (f k).Ok) → p.2.Ok → p ∈ L → p.2.or ((L.foldl (fun f p => updV f p.1 p.2) f) p.1) = (L.foldl (fun f p => updV f p.1 p.2) f) p.1
  | q :: L, f, hf, hp, hm => by
    rw [List.foldl_cons]
    have hf' : ∀ x, (updV f q.1 q.2 x).Ok := fun x => by
      unfold updV
      split
      · exact AVec.or_ok _ _
      · exact hf x
    rcases List.mem_cons.1 hm with rfl | hm
    · refine vle_trans ?_ (fold_mono L _ hf')
      unfold updV
      rw [if_pos rfl, AVec.or_comm (f p.1), ← AVec.or_assoc, AVec.or_self hp]
    · exact fold_has L _ hf' hp hm
theorem le_accum {L : List (Key4 × AVec)} {p : Key4 × AVec} (hp : p.2.Ok) (hm : p ∈ L) : p.2.or (accum L p.1) = accum L p.1 := fold_has L _ (fun _ => AVec.zero_ok) hp hm
theorem accum_ext {L L' : List (Key4 × AVec)} (hok : ∀ p ∈ L, p.2.Ok) (h : ∀ p, p ∈ L ↔ p ∈ L') : accum L = accum L' := by
  funext k
  refine vle_antisymm (accum_le (accum_ok _ _) fun p hp e => ?_) (accum_le (accum_ok _ _) fun p hp e => ?_)
  · subst e; exact le_accum (hok p hp) ((h p).1 hp)
  · subst e; exact le_accum (hok p ((h p).2 hp)) ((h p).2 hp)
theorem ents_ext {l l' : List AEntry} (hok : ∀ x ∈ l, x.Ok) (h : ∀ x, x ∈ l ↔ x ∈ l') : accE l = accE l' := by
  refine accum_ext (fun p hp => ?_) fun p => ?_
  · obtain ⟨x, hx, rfl⟩ := List.mem_map.1 hp
    exact (hok x hx).2
  · unfold kvs
    rw [List.mem_map, List.mem_map]
    exact ⟨fun ⟨r, hr, q⟩ => ⟨r, (h r).1 hr, q⟩, fun ⟨r, hr, q⟩ => ⟨r, (h r).2 hr, q⟩⟩
/-- A canonical list says of each key what made it. -/
theorem canon_same {l E : List AEntry} (h : Canon (accE l) E) : accE E = accE l := by
  funext k
  refine vle_antisymm (accum_le (accum_ok _ _) fun p hp e => ?_) ?_
  · obtain ⟨x, hx, rfl⟩ := List.mem_map.1 hp
    have h1 := ((h.mem x).1 hx).1
    subst e
    show x.vecs.or (accE l x.key) = accE l x.key
    rw [h1, AVec.or_self (accE_val _ _)]
  · by_cases hz : accE l k = AVec.zero
    · rw [hz, AVec.zero_or (accE_val _ _)]
    · have hx := (h.mem (mkE k (accE l k))).2 ⟨rfl, hz⟩
      have hm : (k, accE l k) ∈ kvs E := List.mem_map.2 ⟨_, hx, rfl⟩
      exact le_accum (p := (k, accE l k)) (accum_ok _ _) hm
end Go.Proofs.Ytlkkdpoliafjbaa

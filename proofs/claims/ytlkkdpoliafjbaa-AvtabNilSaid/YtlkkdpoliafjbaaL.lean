/-
  MEMORY IN BLOCKS: small predicates and laws that name no program: a block known whole, a slice read as cells, stores and loads of whole values in known blocks; the world behind a step is a letter of which the facts are known.
-/
import Derived.WalkKit
import Derived.WalkSpells
import Derived.WalkSmall
import Derived.Deep.MidRow
import Derived.Lib.Hide
namespace Go.Proofs.Ytlkkdpoliafjbaa
open Go.RowKit

/-! ### What a type's row says -/
def infoB (o : Option TypeInfo) (k b : Nat) : Bool :=
  match o with
  | some i => (match i.zero with | some z => z.cells.size == k | none => false) && i.size == k && i.bytes == b
  | none => false
theorem infoOf {o : Option TypeInfo} {k b : Nat} (h : infoB o k b = true) : ∃ i z, o = some i ∧ i.zero = some z ∧ i.size = k ∧ i.bytes = b ∧ z.cells.size = k := by
  unfold infoB at h
  split at h
  · rename_i i
    split at h
    · rename_i z hz
      simp only [Bool.and_eq_true, beq_iff_eq] at h
      exact ⟨i, z, rfl, hz, h.1.2, h.2, h.1.1⟩
    · simp at h
  · simp at h

/-! ### Ends -/
theorem ret_val {a b : Value} (h : a = b) : Ending.returned a = .returned b := by rw [h]
theorem ret_int {k : IntKind} {a b : Int} (h : a = b) : Ending.returned (.int k a) = .returned (.int k b) := by rw [h]
theorem ret_bool {a b : Bool} (h : a = b) : Ending.returned (.bool a) = .returned (.bool b) := by rw [h]

/-! ### Lists -/
theorem take_snoc {α} {l : List α} {k : Nat} {t : α} (h : l[k]? = some t) : l.take (k + 1) = l.take k ++ [t] := by
  rw [List.take_add_one, h]; rfl
theorem eq_of_at {α} {a b : List α} (hl : a.length = b.length) (h : ∀ i, i < a.length → a[i]? = b[i]?) : a = b := by
  refine List.ext_getElem? fun i => ?_
  by_cases hi : i < a.length
  · exact h i hi
  · rw [List.getElem?_eq_none (by omega), List.getElem?_eq_none (by omega)]
/-- The cells of a list of things, each of k cells. -/
theorem flat_at {α} {f : α → List Value} {k : Nat} (hf : ∀ x, (f x).length = k) {l : List α} {i : Nat} {t : α} (h : l[i]? = some t) (j : Nat) (hj : j < k) : (l.flatMap f)[i * k + j]? = (f t)[j]? := by
  induction l generalizing i with
  | nil => simp at h
  | cons x l ih =>
    have hl := hf x
    cases i with
    | zero =>
      simp at h
      subst h
      rw [List.flatMap_cons, Nat.zero_mul, Nat.zero_add, List.getElem?_append_left (by omega)]
    | succ i =>
      have := ih (i := i) (by simpa using h)
      rw [List.flatMap_cons, List.getElem?_append_right (by rw [hl, Nat.add_mul]; omega), ← this]
      congr 1
      rw [hl, Nat.add_mul]; omega
theorem flat_length {α} {f : α → List Value} {k : Nat} (hf : ∀ x, (f x).length = k) (l : List α) : (l.flatMap f).length = l.length * k := by
  induction l with
  | nil => simp
  | cons x l ih => rw [List.flatMap_cons, List.length_append, hf, ih, List.length_cons, Nat.add_mul]; omega
theorem flat_snoc {α} (f : α → List Value) (l : List α) (t : α) : (l ++ [t]).flatMap f = l.flatMap f ++ f t := by simp

/-! ### A slice read as cells -/
/-- The slice v has n elements of k cells each: these cells. -/
def SliceAt (w : World) (v : Value) (k n : Nat) (cs : List Value) : Prop :=
  cs.length = n * k ∧ n ≤ maxLen ∧ (∀ u ∈ cs, u.oneCell' = true) ∧
    ((v = .slice none 0 0 ∧ n = 0) ∨ ∃ a c, v = .slice (some a) n c ∧ n ≤ c ∧ ∀ j u, cs[j]? = some u → w.cell? (a.add j) = some u)

theorem block_add (a : Addr) (n : Nat) : (a.add n).block = a.block := by unfold Addr.add; split <;> rfl

theorem SliceAt.keep {w w' : World} {v : Value} {k n : Nat} {cs : List Value} (h : SliceAt w v k n cs) (hb : Below w.heap.size w w') : SliceAt w' v k n cs :=
  ⟨h.1, h.2.1, h.2.2.1, h.2.2.2.imp id fun ⟨a, c, hv, hn, hc⟩ => ⟨a, c, hv, hn, fun j u hu => cell_later hb (hc j u hu)⟩⟩

theorem SliceAt.nil (w : World) (k : Nat) : SliceAt w (.slice none 0 0) k 0 [] := ⟨by simp, by simp [maxLen], by simp, .inl ⟨rfl, rfl⟩⟩

theorem spot_none {w : World} {a : Addr} {u : Value} (h : w.cell? (a.add 0) = some u) : ∃ b off, a = ⟨b, off, none⟩ := by
  obtain ⟨b, off, s⟩ := a
  refine ⟨b, off, ?_⟩
  cases s with
  | none => rfl
  | some x =>
    exfalso
    unfold World.cell? Addr.add at h
    split at h <;> simp at h

/-- The value's outer form, and the cells of element i where i is one of them. -/
theorem SliceAt.form {w : World} {v : Value} {k n : Nat} {cs : List Value} (h : SliceAt w v k n cs) (hk : 0 < k) :
    ∃ a c, v = .slice a n c ∧ n ≤ c ∧ n ≤ 9223372036854775807 ∧ ∀ i, i < n → ∃ b off, a = some ⟨b, off, none⟩ ∧ ∀ j u, cs[i * k + j]? = some u → w.cell? ⟨b, off + i * k + j, none⟩ = some u := by
  have hm := h.2.1
  unfold maxLen at hm
  rcases h.2.2.2 with ⟨rfl, rfl⟩ | ⟨a, c, rfl, hn, hc⟩
  · exact ⟨none, 0, rfl, Nat.le_refl _, by omega, fun i hi => by omega⟩
  · refine ⟨_, c, rfl, hn, by omega, fun i hi => ?_⟩
    have hlt : i * k < cs.length := by rw [h.1]; exact Nat.mul_lt_mul_of_pos_right hi hk
    obtain ⟨b, off, rfl⟩ := spot_none (hc 0 _ (List.getElem?_eq_getElem (by omega)))
    exact ⟨b, off, rfl, fun j u hu => by have := hc _ u hu; rwa [Addr.add_mid, ← Nat.add_assoc] at this⟩

theorem SliceAt.of_own {w : World} {base : Nat} {e : TypeId} {k n : Nat} {v : Value} {cs : List Value} (h : w.ownsRow base e k v n cs) (h1 : ∀ u ∈ cs, u.oneCell' = true) : SliceAt w v k n cs := by
  refine ⟨h.1, ?_, h1, ?_⟩
  · rcases h.2 with ⟨_, rfl⟩ | ⟨g, cap, cur, _, _, _, hn, hc, _⟩
    · simp [maxLen]
    · omega
  · rcases h.2 with h2 | ⟨g, cap, cur, rfl, _, hg, hn, hc, hs, ht⟩
    · exact .inl h2
    · exact .inr ⟨_, cap, rfl, hn, World.ownsRow.cells h (g := g) rfl⟩

/-! ### A block known whole -/
def Whole (w : World) (g : Nat) (t : TypeId) (cs : Array Value) : Prop := w.heap[g]? = some (.cells cs t (0, 0))

section
variable {w w' : World} {g : Nat} {t : TypeId} {cs : Array Value}
theorem Whole.lt (h : Whole w g t cs) : g < w.heap.size := by
  rcases Nat.lt_or_ge g w.heap.size with hlt | hge
  · exact hlt
  · unfold Whole at h; rw [Array.getElem?_eq_none hge] at h; cases h
theorem Whole.cell (h : Whole w g t cs) (i : Nat) : w.cell? ⟨g, i, none⟩ = cs[i]? := cell_of_row w g i cs t (0, 0) h
theorem Whole.frozen (h : Whole w g t cs) (i : Nat) : w.frozen? ⟨g, i, none⟩ = false := frozen_of_row w g i cs t h
theorem Whole.both (h : Whole w g t cs) (i : Nat) (v : Value) (hv : cs[i]? = some v) : w.cell? ⟨g, i, none⟩ = some v ∧ w.frozen? ⟨g, i, none⟩ = false := ⟨(h.cell i).trans hv, h.frozen i⟩
theorem Whole.new (w : World) (t : TypeId) (cs : Array Value) : Whole (w.alloc (.cells cs t)) w.heap.size t cs := heap_alloc_new w _
theorem Whole.alloc (h : Whole w g t cs) (o : Obj) : Whole (w.alloc o) g t cs := (Below.heap_alloc w o g h.lt).trans h
theorem Whole.drewN (h : Whole w g t cs) (n : Nat) : Whole (w.drewN n) g t cs := h
theorem Whole.below {B : Nat} (h : Whole w g t cs) (hb : Below B w w') (hg : g < B) : Whole w' g t cs := (hb.block g hg).trans h
theorem Whole.under {B : Nat} (hb : Below B w w') (h : Whole w g t cs) (hg : g < B) : Whole w' g t cs := h.below hb hg
theorem Whole.grown {row : Option Nat} (h : Whole w g t cs) (hb : w.grownBy w' row) (hg : some g ≠ row) : Whole w' g t cs := (hb.block g h.lt hg).trans h
end

/-! ### A store into a known block: the world behind it is a letter -/
structure Sto (w w' : World) (g : Nat) : Prop where
  os : w'.os = w.os
  tape : w'.tape = w.tape
  output : w'.output = w.output
  size : w'.heap.size = w.heap.size
  block : ∀ k, k ≠ g → w'.heap[k]? = w.heap[k]?

theorem Sto.refl (w : World) (g : Nat) : Sto w w g := ⟨rfl, rfl, rfl, rfl, fun _ _ => rfl⟩
theorem Sto.trans {a b c : World} {g : Nat} (h : Sto a b g) (k : Sto b c g) : Sto a c g :=
  ⟨k.os.trans h.os, k.tape.trans h.tape, k.output.trans h.output, k.size.trans h.size, fun i hi => (k.block i hi).trans (h.block i hi)⟩
theorem Sto.cell (w : World) (g i : Nat) (v : Value) : Sto w (w.setCell ⟨g, i, none⟩ v) g :=
  ⟨rfl, rfl, rfl, by simp [World.setCell], fun k hk => heap_setCell_other w _ k v hk⟩
theorem Sto.below {w w' : World} {g B : Nat} (h : Sto w w' g) (hg : B ≤ g) : Below B w w' :=
  ⟨h.os, h.tape, h.output, by rw [h.size]; exact Nat.le_refl _, fun k hk => h.block k (by omega)⟩
theorem Sto.whole {w w' : World} {g g' : Nat} {t : TypeId} {cs : Array Value} (h : Sto w w' g) (hw : Whole w g' t cs) (hne : g' ≠ g) : Whole w' g' t cs := (h.block g' hne).trans hw
theorem Sto.grown {w w' : World} {g : Nat} (h : Sto w w' g) : w.grownBy w' (some g) :=
  ⟨h.os, h.tape, h.output, by rw [h.size]; exact Nat.le_refl _, fun k _ hk => h.block k fun e => hk (by rw [e])⟩
theorem Sto.own {w w' : World} {g base : Nat} {e : TypeId} {size n : Nat} {v : Value} {xs : List Value} (h : Sto w w' g) (ho : w.ownsRow base e size v n xs) (hne : v.ownBlock ≠ some g) : w'.ownsRow base e size v n xs :=
  ho.kept h.grown (.inr hne)
theorem Sto.cell' {w w' : World} {g : Nat} (h : Sto w w' g) {a : Addr} (ha : a.block ≠ g) : w'.cell? a = w.cell? a := World.cell?_of_block (h.block _ ha)
theorem Sto.slice {w w' : World} {g : Nat} {v : Value} {k n : Nat} {cs : List Value} (h : Sto w w' g) (hs : SliceAt w v k n cs) (hne : v.ownBlock ≠ some g) : SliceAt w' v k n cs :=
  ⟨hs.1, hs.2.1, hs.2.2.1, hs.2.2.2.imp id fun ⟨a, c, hv, hn, hc⟩ => ⟨a, c, hv, hn, fun j u hu => (h.cell' (by rw [block_add]; intro e; exact hne (by rw [hv]; exact congrArg some e))).trans (hc j u hu)⟩⟩

theorem own_low {w : World} {base base' : Nat} {e : TypeId} {size n : Nat} {v : Value} {xs : List Value} (h : w.ownsRow base e size v n xs) (hb : base' ≤ base) : w.ownsRow base' e size v n xs :=
  ⟨h.1, h.2.imp id fun ⟨g, cap, cur, hv, hg, r⟩ => ⟨g, cap, cur, hv, Nat.le_trans hb hg, r⟩⟩

def splice (cs : Array Value) (o : Nat) : List Value → Array Value
  | [] => cs
  | v :: r => splice (cs.setIfInBounds o v) (o + 1) r
theorem splice_size (cs : Array Value) (o : Nat) (l : List Value) : (splice cs o l).size = cs.size := by
  induction l generalizing cs o with
  | nil => rfl
  | cons v r ih => rw [splice, ih]; simp
theorem splice_toList (cs : Array Value) (o : Nat) (l : List Value) (h : o + l.length ≤ cs.size) : (splice cs o l).toList = cs.toList.take o ++ l ++ cs.toList.drop (o + l.length) := by
  induction l generalizing cs o with
  | nil => simp [splice]
  | cons v r ih =>
    simp only [List.length_cons] at h
    rw [splice, ih _ _ (by rw [Array.size_setIfInBounds]; omega)]
    rw [Array.toList_setIfInBounds, List.length_cons, List.drop_set_of_lt (by omega), List.take_succ_eq_append_getElem (by rw [List.length_set, Array.length_toList]; omega)]
    rw [List.getElem_set_self, List.take_set_of_le (Nat.le_refl _)]
    simp only [List.append_assoc, List.cons_append, List.nil_append]
    rw [show o + 1 + r.length = o + (r.length + 1) by omega]

theorem setCells_blk {g : Nat} {t : TypeId} : ∀ (l : List Value) (o : Nat) (cs : Array Value) (w : World), Whole w g t cs → Sto w (w.setCells g o l) g ∧ Whole (w.setCells g o l) g t (splice cs o l)
  | [], _, _, w, h => ⟨Sto.refl w g, h⟩
  | v :: r, o, cs, w, h => by
    have h1 : Whole (w.setCell ⟨g, o, none⟩ v) g t (cs.setIfInBounds o v) := heap_setCell_same w g o cs t v h
    have := setCells_blk r (o + 1) _ _ h1
    exact ⟨(Sto.cell w g o v).trans this.1, this.2⟩

/-! ### An element of an owned row is written -/
theorem own_open {w : World} {base : Nat} {e : TypeId} {k n : Nat} {v : Value} {cs : List Value} (h : w.ownsRow base e k v n cs) (hn : 0 < n) :
    ∃ g cap cur, v = .slice (some ⟨g, 0, none⟩) n cap ∧ base ≤ g ∧ Whole w g e cur ∧ n ≤ cap ∧ cap ≤ maxLen ∧ cur.size = cap * k ∧ cur.toList.take (n * k) = cs := by
  rcases h.2 with ⟨_, rfl⟩ | ⟨g, cap, cur, hv, hg, hh, h1, h2, h3, h4⟩
  · omega
  · exact ⟨g, cap, cur, hv, hg, hh, h1, h2, h3, h4⟩

theorem flatten_len {k : Nat} {xs : List (List Value)} (hx : ∀ x ∈ xs, x.length = k) : xs.flatten.length = xs.length * k := by
  induction xs with
  | nil => simp
  | cons x xs ih => rw [List.flatten_cons, List.length_append, ih (fun y hy => hx y (by simp [hy])), hx x (by simp), List.length_cons, Nat.add_mul]; omega

theorem flatten_set {k : Nat} {xs : List (List Value)} (hx : ∀ x ∈ xs, x.length = k) {i : Nat} (hi : i < xs.length) (l : List Value) :
    (xs.set i l).flatten = xs.flatten.take (i * k) ++ l ++ xs.flatten.drop (i * k + k) := by
  induction xs generalizing i with
  | nil => simp at hi
  | cons x xs ih =>
    have hx0 := hx x (by simp)
    cases i with
    | zero =>
      rw [List.set_cons_zero, List.flatten_cons, List.flatten_cons, Nat.zero_mul, Nat.zero_add, List.take_zero, List.nil_append]
      rw [← hx0, List.drop_left]
    | succ i =>
      rw [List.set_cons_succ, List.flatten_cons, ih (fun y hy => hx y (by simp [hy])) (by simpa using hi), List.flatten_cons]
      rw [Nat.add_mul, Nat.one_mul, List.take_append, List.drop_append, List.take_of_length_le (l := x) (by omega), List.drop_of_length_le (l := x) (by omega)]
      rw [show i * k + k - x.length = i * k by omega, show i * k + k + k - x.length = i * k + k by omega]
      simp [List.append_assoc]

/-- The cells of element i of a list of rows. -/
theorem flatten_row {k : Nat} {xs : List (List Value)} (hx : ∀ x ∈ xs, x.length = k) {i : Nat} {x : List Value} (h : xs[i]? = some x) (j : Nat) (hj : j < k) : xs.flatten[i * k + j]? = x[j]? := by
  induction xs generalizing i with
  | nil => simp at h
  | cons y xs ih =>
    have hy := hx y (by simp)
    cases i with
    | zero =>
      simp at h
      subst h
      rw [List.flatten_cons, Nat.zero_mul, Nat.zero_add, List.getElem?_append_left (by omega)]
    | succ i =>
      have := ih (fun z hz => hx z (by simp [hz])) (i := i) (by simpa using h)
      rw [List.flatten_cons, List.getElem?_append_right (by rw [hy, Nat.add_mul]; omega), ← this]
      congr 1
      rw [hy, Nat.add_mul]; omega

theorem own_set {w' : World} {base g : Nat} {e : TypeId} {k n cap : Nat} {xs : List (List Value)} {cur : Array Value} (hx : ∀ x ∈ xs, x.length = k) (hn : xs.length = n)
    (hg : base ≤ g) (hnc : n ≤ cap) (hcm : cap ≤ maxLen) (hcs : cur.size = cap * k) (ht : cur.toList.take (n * k) = xs.flatten) {i : Nat} (hi : i < n) {l : List Value} (hl : l.length = k)
    (hw : Whole w' g e (splice cur (i * k) l)) : w'.ownsRow base e k (.slice (some ⟨g, 0, none⟩) n cap) n (xs.set i l).flatten := by
  have hfit : i * k + k ≤ n * k := by rw [← Nat.succ_mul]; exact Nat.mul_le_mul_right _ hi
  have hfit2 : n * k ≤ cap * k := Nat.mul_le_mul_right _ hnc
  refine ⟨?_, .inr ⟨g, cap, _, rfl, hg, hw, hnc, hcm, by rw [splice_size, hcs], ?_⟩⟩
  · rw [flatten_len (k := k), List.length_set, hn]
    intro x h
    rcases List.mem_or_eq_of_mem_set h with h | rfl
    · exact hx x h
    · exact hl
  · rw [splice_toList _ _ _ (by omega), flatten_set hx (by omega) l, ← ht]
    rw [List.take_append, List.take_append, List.length_append, List.length_take, Array.length_toList, List.take_take, List.take_take]
    rw [Nat.min_eq_left (by omega : i * k ≤ cur.size), Nat.min_eq_right (by omega : i * k ≤ n * k), Nat.min_eq_left (by omega : i * k ≤ n * k)]
    rw [List.take_of_length_le (l := l) (by omega), List.drop_take, hl]

section
variable {P : Program}
theorem run_storeVar_any (w : World) (b o : Nat) (ty : TypeId) (v : Value) (ht : w.there b o v.cells.size) (hi : (P.info? ty).map (·.size) = some v.cells.size) (h1 : v.cells.toList.all (·.oneCell') = true) :
    (storeVar ty ⟨b, o, none⟩ v).run P w = .ok () (w.setCells b o v.cells.toList) := by
  have h := run_storeVar_mid (P := P) w b o ty v.cells ht hi (by rw [← Array.all_toList]; exact h1)
  have e : (Value.agg v.cells).cells = v.cells := rfl
  unfold storeVar at h ⊢
  rw [e] at h
  exact h

theorem Whole.there {w : World} {g : Nat} {t : TypeId} {cs : Array Value} (h : Whole w g t cs) (o n : Nat) (hn : o + n ≤ cs.size) : w.there g o n := fun j hj => by
  refine ⟨?_, h.frozen _⟩
  rw [h.cell, Array.getElem?_eq_getElem (by omega)]
  rfl

theorem wp_store_blk {op : Oper} {a : Act} {w : World} {K : Act → World → Prop} {Q : Exit → Act → World → Prop} (ty : TypeId) (x y : Operand) (ho : op.op = .store ty x y)
    (g o : Nat) (v : Value) (hx : a.eval x = .pointer (some ⟨g, o, none⟩)) (hy : a.eval y = v) (t : TypeId) (cs : Array Value) (hw : Whole w g t cs) (hfit : o + v.cells.size ≤ cs.size)
    (hi : (P.info? ty).map (·.size) = some v.cells.size) (h1 : v.cells.toList.all (·.oneCell') = true)
    (h : ∀ w', Sto w w' g → Whole w' g t (splice cs o v.cells.toList) → K (a.put op.dst undef) w') : op.wp P a w K Q := by
  unfold Oper.wp execOp
  simp only [ho, hx, hy, Instr.storeAt, Instr.sureAddr, Sem.run_bind, Sem.run_pure, Result.andThen_ok, run_storeVar_any w g o ty v (hw.there o _ hfit) hi h1]
  have := setCells_blk v.cells.toList o cs w hw
  exact h _ this.1 this.2

/-- A store of a value of whatever size into a known block, in a plain region. -/
theorem wpList_store_blk {ops : Array Oper} {rest : List Oper} {op : Oper} {a : Act} {w : World} {Q : Exit → Act → World → Prop} (hgd : op.guard = none) (ty : TypeId) (x y : Operand) (ho : op.op = .store ty x y)
    (g o : Nat) (v : Value) (hx : a.eval x = .pointer (some ⟨g, o, none⟩)) (hy : a.eval y = v) (t : TypeId) (cs : Array Value) (hw : Whole w g t cs) (hfit : o + v.cells.size ≤ cs.size)
    (hi : (P.info? ty).map (·.size) = some v.cells.size) (h1 : v.cells.toList.all (·.oneCell') = true)
    (h : ∀ w', Sto w w' g → Whole w' g t (splice cs o v.cells.toList) → wpList P ops Q rest (a.put op.dst undef) w') : wpList P ops Q (op :: rest) a w :=
  wpList_plain hgd fun _ hK => wp_store_blk ty x y ho g o v hx hy t cs hw hfit hi h1 fun w' h2 h3 => hK _ _ (h w' h2 h3)
end

theorem heap_two (w : World) (o1 o2 : Obj) : ((w.alloc o1).alloc o2).heap[w.heap.size]? = some o1 ∧ ((w.alloc o1).alloc o2).heap[w.heap.size + 1]? = some o2 := by
  constructor
  · exact (Below.heap_alloc _ _ _ (by simp)).trans (heap_alloc_new w _)
  · have h := heap_alloc_new (w.alloc o1) o2
    simp only [World.size_alloc] at h
    exact h

theorem cells_new (w : World) (cs : Array Value) (t : TypeId) : ∀ j u, cs.toList[j]? = some u → (w.alloc (.cells cs t)).cell? ((⟨w.heap.size, 0, none⟩ : Addr).add j) = some u := by
  intro j u h
  rw [Addr.add_lit, Nat.zero_add, World.cell?_alloc_new]
  simpa using h

/-- One block more, then a step that leaves what was there. -/
theorem below_of_alloc {w w' : World} {o : Obj} (h : Below (w.heap.size + 1) (w.alloc o) w') : Below w.heap.size w w' := ((Below.refl _ w).alloc (Nat.le_refl _) _).trans (h.mono (by omega))
theorem below_of_alloc2 {w w' : World} {o o2 : Obj} (h : Below (w.heap.size + 2) ((w.alloc o).alloc o2) w') : Below w.heap.size w w' :=
  (((Below.refl _ w).alloc (Nat.le_refl _) _).alloc (by simp) _).trans (h.mono (by omega))

end Go.Proofs.Ytlkkdpoliafjbaa

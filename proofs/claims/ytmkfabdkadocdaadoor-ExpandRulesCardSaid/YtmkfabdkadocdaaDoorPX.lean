import Derived.Test.YtmkfabdkadocdaaDoorO6
import Derived.Test.YtmkfabdkadocdaaDoorZV
import Derived.Test.YtmkfabdkadocdaaDoorT4
/-
  Merging two sorted lists, in plain words; slices cut.
-/
namespace Go.Proofs.YtmkfabdkadocdaaDoor
open Go Go.RowKit Go.Sort

/-- x does not stand behind y. -/
def Leq (x y : AEntry) : Prop := ltOf beforeI y x = false
theorem Leq.trans {x y z : AEntry} (h1 : Leq x y) (h2 : Leq y z) : Leq x z := by
  unfold Leq at *
  rw [lt_before] at *
  simp at *
  omega
theorem leq_of_lt {x y : AEntry} (h : ltOf beforeI x y = true) : Leq x y := by
  unfold Leq
  rw [lt_before] at *
  simp at *
  omega
def mrg : List AEntry → List AEntry → List AEntry
  | [], b => b
  | x :: a, [] => x :: a
  | x :: a, y :: b => if ltOf beforeI x y then x :: mrg a (y :: b) else y :: mrg (x :: a) b
termination_by a b => a.length + b.length
theorem mrg_nil (b : List AEntry) : mrg [] b = b := by simp [mrg]
theorem mrg_nil' (a : List AEntry) : mrg a [] = a := by cases a <;> simp [mrg]
theorem mrg_lt {x y : AEntry} (a b : List AEntry) (h : ltOf beforeI x y = true) : mrg (x :: a) (y :: b) = x :: mrg a (y :: b) := by rw [mrg, if_pos h]
theorem mrg_ge {x y : AEntry} (a b : List AEntry) (h : ltOf beforeI x y = false) : mrg (x :: a) (y :: b) = y :: mrg (x :: a) b := by rw [mrg, if_neg (by simp [h])]
theorem mrg_perm : ∀ (a b : List AEntry), (mrg a b).Perm (a ++ b)
  | [], b => by rw [mrg_nil]; exact List.Perm.refl _
  | x :: a, [] => by rw [mrg_nil']; simp
  | x :: a, y :: b => by
    cases h : ltOf beforeI x y with
    | true => rw [mrg_lt a b h]; exact (mrg_perm a (y :: b)).cons x
    | false =>
      rw [mrg_ge a b h]
      refine ((mrg_perm (x :: a) b).cons y).trans ?_
      exact (List.perm_middle (l₁ := x :: a) (l₂ := b) (a := y)).symm
termination_by a b => a.length + b.length
theorem mrg_sorted : ∀ (a b : List AEntry), a.Pairwise Leq → b.Pairwise Leq → (mrg a b).Pairwise Leq
  | [], b, _, hb => by rw [mrg_nil]; exact hb
  | x :: a, [], ha, _ => by rw [mrg_nil']; exact ha
  | x :: a, y :: b, ha, hb => by
    have ha' := List.pairwise_cons.1 ha
    have hb' := List.pairwise_cons.1 hb
    cases h : ltOf beforeI x y with
    | true =>
      rw [mrg_lt a b h]
      refine List.pairwise_cons.2 ⟨fun z hz => ?_, mrg_sorted a (y :: b) ha'.2 hb⟩
      have hz := (mrg_perm a (y :: b)).mem_iff.1 hz
      rcases List.mem_append.1 hz with hz | hz
      · exact ha'.1 z hz
      · rcases List.mem_cons.1 hz with rfl | hz
        · exact leq_of_lt h
        · exact (leq_of_lt h).trans (hb'.1 z hz)
    | false =>
      rw [mrg_ge a b h]
      refine List.pairwise_cons.2 ⟨fun z hz => ?_, mrg_sorted (x :: a) b ha hb'.2⟩
      have hz := (mrg_perm (x :: a) b).mem_iff.1 hz
      rcases List.mem_append.1 hz with hz | hz
      · rcases List.mem_cons.1 hz with rfl | hz
        · exact h
        · exact Leq.trans h (ha'.1 z hz)
      · exact hb'.1 z hz
termination_by a b => a.length + b.length

/-- What v holds is a sorted rearrangement of l. -/
def SortOf (l : List AEntry) (v : Value) (w : World) : Prop := ∃ l' : List AEntry, l'.Perm l ∧ l'.Pairwise Leq ∧ SliceAt w v 7 l'.length (l'.flatMap AEntry.cells)
theorem SortOf.keep {l : List AEntry} {v : Value} {w w' : World} (h : SortOf l v w) (hb : RowKit.Below w.heap.size w w') : SortOf l v w' := by
  obtain ⟨l', h1, h2, h3⟩ := h
  exact ⟨l', h1, h2, h3.keep hb⟩

/-- A list's slice: its head's cells, and the slice behind the head. -/
theorem slice_cons {w : World} {v : Value} {x : AEntry} {l : List AEntry} (h : SliceAt w v 7 (x :: l).length ((x :: l).flatMap AEntry.cells)) :
    ∃ b off c, v = .slice (some ⟨b, off, none⟩) (l.length + 1) c ∧ l.length + 1 ≤ c ∧ l.length + 1 ≤ maxLen ∧ (∀ j u, x.cells[j]? = some u → w.cell? ⟨b, off + j, none⟩ = some u) ∧
      SliceAt w (.slice (if c = 1 then some ⟨b, off, none⟩ else some ⟨b, off + 7, none⟩) l.length (c - 1)) 7 l.length (l.flatMap AEntry.cells) := by
  obtain ⟨h1, h2, h3, h4⟩ := h
  rcases h4 with ⟨_, h5⟩ | ⟨a, c, rfl, hn, hc⟩
  · simp at h5
  · obtain ⟨b, off, rfl⟩ := spot_none (hc 0 (.int .i64 x.src) (by simp [AEntry.cells]))
    have e : (x :: l).flatMap AEntry.cells = x.cells ++ l.flatMap AEntry.cells := by simp
    rw [e] at h3 hc
    refine ⟨b, off, c, rfl, hn, h2, fun j u hu => ?_, flat_length entry_len _, by simp only [List.length_cons] at h2; omega, fun u hu => h3 u (List.mem_append_right _ hu), .inr ?_⟩
    · have hj : j < 7 := by have := (List.getElem?_eq_some_iff.1 hu).1; simpa [AEntry.cells] using this
      have := hc j u (by rw [List.getElem?_append_left (by simpa [AEntry.cells] using hj)]; exact hu)
      rwa [Addr.add_mid] at this
    · by_cases h1c : c = 1
      · subst h1c
        have hl0 : l = [] := List.eq_nil_of_length_eq_zero (by rw [List.length_cons] at hn; omega)
        subst hl0
        exact ⟨⟨b, off, none⟩, 0, by simp, Nat.le_refl _, fun j u hu => by simp at hu⟩
      · refine ⟨⟨b, off + 7, none⟩, c - 1, by rw [if_neg h1c], by simp at hn; omega, fun j u hu => ?_⟩
        have := hc (7 + j) u (by rw [List.getElem?_append_right (by simp [AEntry.cells])]; simpa [AEntry.cells] using hu)
        rw [Addr.add_mid] at this ⊢
        rwa [Nat.add_assoc]
theorem flat_take (l : List AEntry) (m : Nat) (hm : m ≤ l.length) : (l.take m).flatMap AEntry.cells = (l.flatMap AEntry.cells).take (m * 7) := by
  have e : l.flatMap AEntry.cells = (l.take m).flatMap AEntry.cells ++ (l.drop m).flatMap AEntry.cells := by rw [← List.flatMap_append, List.take_append_drop]
  rw [e, List.take_left' (by rw [flat_length entry_len, List.length_take, Nat.min_eq_left hm])]
theorem flat_drop (l : List AEntry) (m : Nat) (hm : m ≤ l.length) : (l.drop m).flatMap AEntry.cells = (l.flatMap AEntry.cells).drop (m * 7) := by
  have e : l.flatMap AEntry.cells = (l.take m).flatMap AEntry.cells ++ (l.drop m).flatMap AEntry.cells := by rw [← List.flatMap_append, List.take_append_drop]
  rw [e, List.drop_left' (by rw [flat_length entry_len, List.length_take, Nat.min_eq_left hm])]
theorem slice_take {w : World} {b off n c m : Nat} {l : List AEntry} (h : SliceAt w (.slice (some ⟨b, off, none⟩) n c) 7 n (l.flatMap AEntry.cells)) (hl : l.length = n) (hm : m ≤ n) : SliceAt w (.slice (some ⟨b, off, none⟩) m c) 7 (l.take m).length ((l.take m).flatMap AEntry.cells) := by
  obtain ⟨h1, h2, h3, h4⟩ := h
  have hlm : (l.take m).length = m := by rw [List.length_take]; omega
  rw [hlm, flat_take l m (by omega)]
  refine ⟨by rw [List.length_take, h1]; exact Nat.min_eq_left (Nat.mul_le_mul_right _ hm), by omega, fun u hu => h3 u (List.mem_of_mem_take hu), .inr ?_⟩
  rcases h4 with ⟨h5, _⟩ | ⟨a, c', hv, hn, hc⟩
  · cases h5
  · cases hv
    refine ⟨_, c, rfl, by omega, fun j u hu => hc j u ?_⟩
    rw [List.getElem?_take] at hu
    split at hu
    · exact hu
    · cases hu
theorem slice_drop {w : World} {b off n c m : Nat} {l : List AEntry} (h : SliceAt w (.slice (some ⟨b, off, none⟩) n c) 7 n (l.flatMap AEntry.cells)) (hl : l.length = n) (hm : m ≤ n) : SliceAt w (.slice (some ⟨b, off + m * 7, none⟩) (n - m) (c - m)) 7 (l.drop m).length ((l.drop m).flatMap AEntry.cells) := by
  obtain ⟨h1, h2, h3, h4⟩ := h
  have hlm : (l.drop m).length = n - m := by rw [List.length_drop]; omega
  rw [hlm, flat_drop l m (by omega)]
  refine ⟨by rw [List.length_drop, h1, Nat.sub_mul], by omega, fun u hu => h3 u (List.mem_of_mem_drop hu), .inr ?_⟩
  rcases h4 with ⟨h5, _⟩ | ⟨a, c', hv, hn, hc⟩
  · cases h5
  · cases hv
    refine ⟨_, c - m, rfl, by omega, fun j u hu => ?_⟩
    rw [List.getElem?_drop] at hu
    have := hc _ u hu
    rw [Addr.add_mid] at this ⊢
    rwa [Nat.add_assoc]
theorem elem52 : Tryd.prog.elem 52 = 61 := by kernel_rfl
theorem und52 : Tryd.prog.underlying 52 = some (.slice (Tryd.prog.elem 52)) := by rw [elem52]; exact Tryd.underlying52
theorem run_head (w : World) (b off n c m : Nat) (hm : m ≤ c) : (Instr.slice 52 (.slice (some ⟨b, off, none⟩) n c) none (some (.int .i64 (m : Int))) none).run Tryd.prog w = .ok (.slice (some ⟨b, off, none⟩) m c) w := by
  rw [run_slice_h w 52 (some ⟨b, off, none⟩) n c und52 .i64 (m : Int) (by omega) (by omega), elem52, Tryd.sizeOf61]
  simp [Result.andThen, sliced, Addr.add_mid]
theorem run_tail (w : World) (b off n c m : Nat) (hm : m ≤ n) (hc : m < c) : (Instr.slice 52 (.slice (some ⟨b, off, none⟩) n c) (some (.int .i64 (m : Int))) none none).run Tryd.prog w = .ok (.slice (some ⟨b, off + m * 7, none⟩) (n - m) (c - m)) w := by
  rw [run_slice_l w 52 (some ⟨b, off, none⟩) n c und52 .i64 (m : Int) (by omega) (by omega), elem52, Tryd.sizeOf61]
  have : ¬ c = m := by omega
  simp [Result.andThen, sliced, Addr.add_mid, this]
theorem run_tail1 (w : World) (b off n c : Nat) : (Instr.slice 52 (.slice (some ⟨b, off, none⟩) (n + 1) c) (some (.int .i64 1)) none none).run Tryd.prog w = .ok (.slice (if c = 1 then some ⟨b, off, none⟩ else some ⟨b, off + 7, none⟩) n (c - 1)) w := by
  rw [run_slice_l w 52 (some ⟨b, off, none⟩) (n + 1) c und52 .i64 1 (by omega) (by omega), elem52, Tryd.sizeOf61]
  simp [Result.andThen, sliced, Addr.add_mid]
end Go.Proofs.YtmkfabdkadocdaaDoor

/-
  The reference's ordered: the region that chooses between two lists.
-/
namespace Go.Proofs.YtmkfabdkadocdaaDoor
open Go Go.WideMaps Go.RowKit Go.Sort

def findRegion7 (k : Nat) : Code → Code
  | .seq a b => match findRegion7 k a with
    | .skip => findRegion7 k b
    | c => c
  | .cond _ a b => match findRegion7 k a with
    | .skip => findRegion7 k b
    | c => c
  | .block _ a => findRegion7 k a
  | .loop a => findRegion7 k a
  | .region id ops d => if id = k then .region id ops d else .skip
  | _ => .skip
set_option maxRecDepth 100000 in
set_option maxHeartbeats 2000000 in
theorem ord_b (w : World) (xa xb : Option Addr) (ca nb cb : Nat) (hd : ((nb : Int) == 0) = false) (x0 x1 x2 x3 x6 x7 x8 x9 x10 x11 x12 x13 x14 x15 x16 x17 x18 x19 x20 x21 x22 x23 x24 x25 x26 x27 x28 x29 x30 x31 x32 x33 x34 x35 x36 x37 x38 x39 x40 x41 x42 x43 x44 x45 x46 x47 x48 x49 x50 x51 x52 x53 x54 x55 x56 x57 x58 x59 x60 x61 x62 x63 x64 : Value) {Q' : Exit → Act → World → Prop} (hend : ∀ (v31 v32 v33 v34 v35 v36 v37 v38 v39 v40 v41 v42 v43 v44 v45 v46 : Value) (w' : World), RowKit.Below w.heap.size w w' → Q' .normal ⟨#[x0, x1, x2, x3, .slice xa 0 ca, .slice xb nb cb, x6, x7, x8, x9, x10, x11, x12, x13, x14, x15, x16, x17, x18, x19, x20, x21, x22, x23, x24, x25, x26, x27, x28, x29, x30, v31, v32, v33, v34, v35, v36, v37, v38, v39, v40, v41, v42, v43, v44, v45, v46, .bool false, x48, x49, x50, x51, x52, x53, x54, x55, x56, x57, x58, x59, x60, x61, x62, x63, x64], []⟩ w') :
    Code.wp Tryd.prog (findRegion7 7 ((Tryd.f50.body).getD .skip)) Q' ⟨#[x0, x1, x2, x3, .slice xa 0 ca, .slice xb nb cb, x6, x7, x8, x9, x10, x11, x12, x13, x14, x15, x16, x17, x18, x19, x20, x21, x22, x23, x24, x25, x26, x27, x28, x29, x30, x31, x32, x33, x34, x35, x36, x37, x38, x39, x40, x41, x42, x43, x44, x45, x46, x47, x48, x49, x50, x51, x52, x53, x54, x55, x56, x57, x58, x59, x60, x61, x62, x63, x64], []⟩ w := by
  have HEND := Lib.hid hend
  clear hend
  conv => arg 2; whnf
  conv => arg 4; dsimp only
  go_quiet (fail)
  exact HEND.out _ _ _ _ _ _ _ _ _ _ _ _ _ _ _ _ _ ((Grows.refl w).drewN _).below

set_option maxRecDepth 100000 in
set_option maxHeartbeats 2000000 in
theorem ord_a (w : World) (xa xb : Option Addr) (ca na cb : Nat)  (x0 x1 x2 x3 x6 x7 x8 x9 x10 x11 x12 x13 x14 x15 x16 x17 x18 x19 x20 x21 x22 x23 x24 x25 x26 x27 x28 x29 x30 x31 x32 x33 x34 x35 x36 x37 x38 x39 x40 x41 x42 x43 x44 x45 x46 x47 x48 x49 x50 x51 x52 x53 x54 x55 x56 x57 x58 x59 x60 x61 x62 x63 x64 : Value) {Q' : Exit → Act → World → Prop} (hend : ∀ (v31 v32 v33 v34 v35 v36 v37 v38 v39 v40 v41 v42 v43 v44 v45 v46 : Value) (w' : World), RowKit.Below w.heap.size w w' → Q' .normal ⟨#[x0, x1, x2, x3, .slice xa na ca, .slice xb 0 cb, x6, x7, x8, x9, x10, x11, x12, x13, x14, x15, x16, x17, x18, x19, x20, x21, x22, x23, x24, x25, x26, x27, x28, x29, x30, v31, v32, v33, v34, v35, v36, v37, v38, v39, v40, v41, v42, v43, v44, v45, v46, .bool true, x48, x49, x50, x51, x52, x53, x54, x55, x56, x57, x58, x59, x60, x61, x62, x63, x64], []⟩ w') :
    Code.wp Tryd.prog (findRegion7 7 ((Tryd.f50.body).getD .skip)) Q' ⟨#[x0, x1, x2, x3, .slice xa na ca, .slice xb 0 cb, x6, x7, x8, x9, x10, x11, x12, x13, x14, x15, x16, x17, x18, x19, x20, x21, x22, x23, x24, x25, x26, x27, x28, x29, x30, x31, x32, x33, x34, x35, x36, x37, x38, x39, x40, x41, x42, x43, x44, x45, x46, x47, x48, x49, x50, x51, x52, x53, x54, x55, x56, x57, x58, x59, x60, x61, x62, x63, x64], []⟩ w := by
  have HEND := Lib.hid hend
  clear hend
  conv => arg 2; whnf
  conv => arg 4; dsimp only
  go_quiet (fail)
  exact HEND.out _ _ _ _ _ _ _ _ _ _ _ _ _ _ _ _ _ ((Grows.refl w).drewN _).below

set_option maxRecDepth 100000 in
set_option maxHeartbeats 2000000 in
theorem ord_t (w : World) (x y : AEntry) (ba oa na ca bb ob nb cb : Nat) (hdb : ((nb : Int) == 0) = false) (hpa : 0 < na) (hpb : 0 < nb) (HA : Hid (∀ j u, x.cells[j]? = some u → w.cell? ⟨ba, oa + j, none⟩ = some u)) (HB9 : Hid (∀ j u, y.cells[j]? = some u → w.cell? ⟨bb, ob + j, none⟩ = some u)) (HCB : Hid (∀ W, Calls Tryd.prog 59 #[.agg #[.int .i64 x.src, .int .i64 x.tgt, .int .i64 x.cls, .int .i64 x.cond, .int .u32 x.allow, .int .u32 x.audit, .int .u32 x.dont], .agg #[.int .i64 y.src, .int .i64 y.tgt, .int .i64 y.cls, .int .i64 y.cond, .int .u32 y.allow, .int .u32 y.audit, .int .u32 y.dont]] W (fun e w' => e = .returned (.bool true) ∧ RowKit.Below W.heap.size W w'))) (x0 x1 x2 x3 x6 x7 x8 x9 x10 x11 x12 x13 x14 x15 x16 x17 x18 x19 x20 x21 x22 x23 x24 x25 x26 x27 x28 x29 x30 x31 x32 x33 x34 x35 x36 x37 x38 x39 x40 x41 x42 x43 x44 x45 x46 x47 x48 x49 x50 x51 x52 x53 x54 x55 x56 x57 x58 x59 x60 x61 x62 x63 x64 : Value) {Q' : Exit → Act → World → Prop} (hend : ∀ (v31 v32 v33 v34 v35 v36 v37 v38 v39 v40 v41 v42 v43 v44 v45 v46 : Value) (w' : World), RowKit.Below w.heap.size w w' → Q' .normal ⟨#[x0, x1, x2, x3, .slice (some ⟨ba, oa, none⟩) na ca, .slice (some ⟨bb, ob, none⟩) nb cb, x6, x7, x8, x9, x10, x11, x12, x13, x14, x15, x16, x17, x18, x19, x20, x21, x22, x23, x24, x25, x26, x27, x28, x29, x30, v31, v32, v33, v34, v35, v36, v37, v38, v39, v40, v41, v42, v43, v44, v45, v46, .bool true, x48, x49, x50, x51, x52, x53, x54, x55, x56, x57, x58, x59, x60, x61, x62, x63, x64], []⟩ w') :
    Code.wp Tryd.prog (findRegion7 7 ((Tryd.f50.body).getD .skip)) Q' ⟨#[x0, x1, x2, x3, .slice (some ⟨ba, oa, none⟩) na ca, .slice (some ⟨bb, ob, none⟩) nb cb, x6, x7, x8, x9, x10, x11, x12, x13, x14, x15, x16, x17, x18, x19, x20, x21, x22, x23, x24, x25, x26, x27, x28, x29, x30, x31, x32, x33, x34, x35, x36, x37, x38, x39, x40, x41, x42, x43, x44, x45, x46, x47, x48, x49, x50, x51, x52, x53, x54, x55, x56, x57, x58, x59, x60, x61, x62, x63, x64], []⟩ w := by
  have HEND := Lib.hid hend
  clear hend
  conv => arg 2; whnf
  conv => arg 4; dsimp only
  refine wp_region_last (fun w w' => Below w.heap.size w w') [some 31, some 32, some 33, some 34, some 35, some 36, some 37, some 38, some 39, some 40, some 41, some 42, some 43, some 44, some 45, some 46] [isV (.slice (some ⟨bb, ob, none⟩) nb cb), isV (.int .i64 (nb : Int)), isV (.bool false), isV (.bool false), isV (.slice (some ⟨ba, oa, none⟩) na ca), isV (.int .i64 (na : Int)), isV (.bool true), isV (.bool true), isV (.slice (some ⟨ba, oa, none⟩) na ca), isV (.pointer (some ⟨ba, oa, none⟩)), isV (.agg #[.int .i64 x.src, .int .i64 x.tgt, .int .i64 x.cls, .int .i64 x.cond, .int .u32 x.allow, .int .u32 x.audit, .int .u32 x.dont]), isV (.slice (some ⟨bb, ob, none⟩) nb cb), isV (.pointer (some ⟨bb, ob, none⟩)), isV (.agg #[.int .i64 y.src, .int .i64 y.tgt, .int .i64 y.cls, .int .i64 y.cond, .int .u32 y.allow, .int .u32 y.audit, .int .u32 y.dont]), isV (.bool true), isV (.bool true)] (fun _ w' => RowKit.Below w.heap.size w w') 16 (by kernel_rfl) (by kernel_rfl) (by kernel_rfl) rfl (by decide) rfl rfl ((Below.refl _ _).drew) ⟨lasts_is _, lasts_is _, lasts_is _, lasts_is _, lasts_is _, lasts_is _, lasts_is _, lasts_is _, lasts_is _, lasts_is _, lasts_is _, lasts_is _, lasts_is _, lasts_is _, lasts_is _, lasts_is _, trivial⟩ ⟨(fun _ => lastsR_is _), (fun _ => lastsR_is _), (fun _ => lastsR_is _), (fun _ => lastsR_is _), (fun _ => lastsR_is _), (fun _ => lastsR_is _), (fun _ => lastsR_is _), (fun _ => lastsR_is _), (fun _ => lastsR_is _), (fun _ => lastsR_is _), (fun _ => lastsR_is _), (fun _ => lastsR_is _), (fun _ => lastsR_is _), (fun _ => lastsR_is _), (fun _ => lastsR_is _), (fun _ => lastsR_is _), trivial⟩ ⟨?_, ?_, ?_, ?_, ?_, ?_, ?_, ?_, ?_, ?_, ?_, ?_, ?_, ?_, ?_, ?_, ?_⟩
  · intro L a wy Q' hL hi H F hK
    try dsimp only at hi
    have h5 : a.tmps[5]? = some (.slice (some ⟨bb, ob, none⟩) nb cb) := F 5 rfl
    have HI := Lib.hid hi
    clear H F hi hL
    go_wp2_with fail
    exact hK _ _ (Below.refl _ _) HI.out rfl
  · intro L a wy Q' hL hi H F hK
    try dsimp only at hi
    obtain ⟨_, h31, rfl⟩ := H 0 ⟨.data, by simp, rfl⟩ _ rfl
    replace h31 := h31 _ rfl
    have HI := Lib.hid hi
    clear H F hi hL
    go_wp2_with fail
    exact hK _ _ (Below.refl _ _) HI.out rfl
  · intro L a wy Q' hL hi H F hK
    try dsimp only at hi
    obtain ⟨_, h32, rfl⟩ := H 1 ⟨.data, by simp, rfl⟩ _ rfl
    replace h32 := h32 _ rfl
    have HI := Lib.hid hi
    clear H F hi hL
    go_wp2_with fail
    exact hK _ _ (Below.refl _ _) HI.out rfl
  · intro L a wy Q' hL hi H F hK
    try dsimp only at hi
    obtain ⟨_, h33, rfl⟩ := H 2 ⟨.data, by simp, rfl⟩ _ rfl
    replace h33 := h33 _ rfl
    have HI := Lib.hid hi
    clear H F hi hL
    go_wp2_with fail
    exact hK _ _ (Below.refl _ _) HI.out rfl
  · intro L a wy Q' hL hi H F hK
    try dsimp only at hi
    obtain ⟨_, h34, rfl⟩ := H 3 ⟨.guard, by simp, rfl⟩ _ rfl
    replace h34 := h34 _ rfl
    have h4 : a.tmps[4]? = some (.slice (some ⟨ba, oa, none⟩) na ca) := F 4 rfl
    have HI := Lib.hid hi
    clear H F hi hL
    go_wp2_with fail
    exact hK _ _ (Below.refl _ _) HI.out rfl
  · intro L a wy Q' hL hi H F hK
    try dsimp only at hi
    obtain ⟨_, h35, rfl⟩ := H 4 ⟨.data, by simp, rfl⟩ _ rfl
    replace h35 := h35 _ rfl
    obtain ⟨_, h34, rfl⟩ := H 3 ⟨.guard, by simp, rfl⟩ _ rfl
    replace h34 := h34 _ rfl
    have HI := Lib.hid hi
    clear H F hi hL
    go_wp2_with fail
    exact hK _ _ (Below.refl _ _) HI.out rfl
  · intro L a wy Q' hL hi H F hK
    try dsimp only at hi
    obtain ⟨_, h36, rfl⟩ := H 5 ⟨.data, by simp, rfl⟩ _ rfl
    replace h36 := h36 _ rfl
    obtain ⟨_, h34, rfl⟩ := H 3 ⟨.guard, by simp, rfl⟩ _ rfl
    replace h34 := h34 _ rfl
    have HI := Lib.hid hi
    clear H F hi hL
    go_wp2_with fail
    exact hK _ _ (Below.refl _ _) HI.out rfl
  · intro L a wy Q' hL hi H F hK
    try dsimp only at hi
    obtain ⟨_, h37, rfl⟩ := H 6 ⟨.data, by simp, rfl⟩ _ rfl
    replace h37 := h37 _ rfl
    obtain ⟨_, h34, rfl⟩ := H 3 ⟨.guard, by simp, rfl⟩ _ rfl
    replace h34 := h34 _ rfl
    have HI := Lib.hid hi
    clear H F hi hL
    go_wp2_with fail
    exact hK _ _ (Below.refl _ _) HI.out rfl
  · intro L a wy Q' hL hi H F hK
    try dsimp only at hi
    obtain ⟨_, h38, rfl⟩ := H 7 ⟨.guard, by simp, rfl⟩ _ rfl
    replace h38 := h38 _ rfl
    have h4 : a.tmps[4]? = some (.slice (some ⟨ba, oa, none⟩) na ca) := F 4 rfl
    have HI := Lib.hid hi
    clear H F hi hL
    go_wp2_with fail
    exact hK _ _ (Below.refl _ _) HI.out rfl
  · intro L a wy Q' hL hi H F hK
    try dsimp only at hi
    obtain ⟨_, h39, rfl⟩ := H 8 ⟨.data, by simp, rfl⟩ _ rfl
    replace h39 := h39 _ rfl
    obtain ⟨_, h38, rfl⟩ := H 7 ⟨.guard, by simp, rfl⟩ _ rfl
    replace h38 := h38 _ rfl
    have HI := Lib.hid hi
    clear H F hi hL
    go_wp2_with fail
    exact hK _ _ (Below.refl _ _) HI.out rfl
  · intro L a wy Q' hL hi H F hK
    try dsimp only at hi
    obtain ⟨_, h40, rfl⟩ := H 9 ⟨.data, by simp, rfl⟩ _ rfl
    replace h40 := h40 _ rfl
    obtain ⟨_, h38, rfl⟩ := H 7 ⟨.guard, by simp, rfl⟩ _ rfl
    replace h38 := h38 _ rfl
    have HI := Lib.hid hi
    clear H F hi hL
    have kq0 : wy.cell? ⟨ba, oa, none⟩ = some (.int .i64 x.src) := cell_later HI.out (HA.out 0 _ rfl)
    have kq1 : wy.cell? ⟨ba, oa + 1, none⟩ = some (.int .i64 x.tgt) := cell_later HI.out (HA.out 1 _ rfl)
    have kq2 : wy.cell? ⟨ba, oa + 2, none⟩ = some (.int .i64 x.cls) := cell_later HI.out (HA.out 2 _ rfl)
    have kq3 : wy.cell? ⟨ba, oa + 3, none⟩ = some (.int .i64 x.cond) := cell_later HI.out (HA.out 3 _ rfl)
    have kq4 : wy.cell? ⟨ba, oa + 4, none⟩ = some (.int .u32 x.allow) := cell_later HI.out (HA.out 4 _ rfl)
    have kq5 : wy.cell? ⟨ba, oa + 5, none⟩ = some (.int .u32 x.audit) := cell_later HI.out (HA.out 5 _ rfl)
    have kq6 : wy.cell? ⟨ba, oa + 6, none⟩ = some (.int .u32 x.dont) := cell_later HI.out (HA.out 6 _ rfl)
    go_wp2_with fail
    exact hK _ _ (Below.refl _ _) HI.out rfl
  · intro L a wy Q' hL hi H F hK
    try dsimp only at hi
    obtain ⟨_, h38, rfl⟩ := H 7 ⟨.guard, by simp, rfl⟩ _ rfl
    replace h38 := h38 _ rfl
    have h5 : a.tmps[5]? = some (.slice (some ⟨bb, ob, none⟩) nb cb) := F 5 rfl
    have HI := Lib.hid hi
    clear H F hi hL
    go_wp2_with fail
    exact hK _ _ (Below.refl _ _) HI.out rfl
  · intro L a wy Q' hL hi H F hK
    try dsimp only at hi
    obtain ⟨_, h42, rfl⟩ := H 11 ⟨.data, by simp, rfl⟩ _ rfl
    replace h42 := h42 _ rfl
    obtain ⟨_, h38, rfl⟩ := H 7 ⟨.guard, by simp, rfl⟩ _ rfl
    replace h38 := h38 _ rfl
    have HI := Lib.hid hi
    clear H F hi hL
    go_wp2_with fail
    exact hK _ _ (Below.refl _ _) HI.out rfl
  · intro L a wy Q' hL hi H F hK
    try dsimp only at hi
    obtain ⟨_, h43, rfl⟩ := H 12 ⟨.data, by simp, rfl⟩ _ rfl
    replace h43 := h43 _ rfl
    obtain ⟨_, h38, rfl⟩ := H 7 ⟨.guard, by simp, rfl⟩ _ rfl
    replace h38 := h38 _ rfl
    have HI := Lib.hid hi
    clear H F hi hL
    have kq0 : wy.cell? ⟨bb, ob, none⟩ = some (.int .i64 y.src) := cell_later HI.out (HB9.out 0 _ rfl)
    have kq1 : wy.cell? ⟨bb, ob + 1, none⟩ = some (.int .i64 y.tgt) := cell_later HI.out (HB9.out 1 _ rfl)
    have kq2 : wy.cell? ⟨bb, ob + 2, none⟩ = some (.int .i64 y.cls) := cell_later HI.out (HB9.out 2 _ rfl)
    have kq3 : wy.cell? ⟨bb, ob + 3, none⟩ = some (.int .i64 y.cond) := cell_later HI.out (HB9.out 3 _ rfl)
    have kq4 : wy.cell? ⟨bb, ob + 4, none⟩ = some (.int .u32 y.allow) := cell_later HI.out (HB9.out 4 _ rfl)
    have kq5 : wy.cell? ⟨bb, ob + 5, none⟩ = some (.int .u32 y.audit) := cell_later HI.out (HB9.out 5 _ rfl)
    have kq6 : wy.cell? ⟨bb, ob + 6, none⟩ = some (.int .u32 y.dont) := cell_later HI.out (HB9.out 6 _ rfl)
    go_wp2_with fail
    exact hK _ _ (Below.refl _ _) HI.out rfl
  · intro L a wy Q' hL hi H F hK
    try dsimp only at hi
    obtain ⟨_, h41, rfl⟩ := H 10 ⟨.data, by simp, rfl⟩ _ rfl
    replace h41 := h41 _ rfl
    obtain ⟨_, h44, rfl⟩ := H 13 ⟨.data, by simp, rfl⟩ _ rfl
    replace h44 := h44 _ rfl
    obtain ⟨_, h38, rfl⟩ := H 7 ⟨.guard, by simp, rfl⟩ _ rfl
    replace h38 := h38 _ rfl
    have HI := Lib.hid hi
    clear H F hi hL
    go_wp2_with (go_at_call 59; go_must (refine (HCB.out wy).mono ?_; rintro e w1 ⟨rfl, hb1⟩))
    exact hK _ _ hb1 (HI.out.trans (hb1.mono HI.out.size)) rfl
  · intro L a wy Q' hL hi H F hK
    try dsimp only at hi
    obtain ⟨_, h38, rfl⟩ := H 7 ⟨.data, by simp, rfl⟩ _ rfl
    replace h38 := h38 _ rfl
    obtain ⟨_, h45, rfl⟩ := H 14 ⟨.data, by simp, rfl⟩ _ rfl
    replace h45 := h45 _ rfl
    obtain ⟨_, h34, rfl⟩ := H 3 ⟨.guard, by simp, rfl⟩ _ rfl
    replace h34 := h34 _ rfl
    have HI := Lib.hid hi
    clear H F hi hL
    go_wp2_with fail
    exact hK _ _ (Below.refl _ _) HI.out rfl
  · intro a wy hl L hi hL Q' hK
    try dsimp only at hi
    have HB := Lib.hid hi
    clear hi hL
    obtain ⟨_, rfl, _, rfl, _, rfl, _, rfl, _, rfl, _, rfl, _, rfl, _, rfl, _, rfl, _, rfl, _, rfl, _, rfl, _, rfl, _, rfl, _, rfl, _, rfl, rfl⟩ := hl
    simp only [List.setIfInBounds_toArray, List.set_cons_zero, List.set_cons_succ]
    go_wp2_with fail
    exact HEND.out _ _ _ _ _ _ _ _ _ _ _ _ _ _ _ _ _ HB.out

set_option maxRecDepth 100000 in
set_option maxHeartbeats 2000000 in
theorem ord_f (w : World) (x y : AEntry) (ba oa na ca bb ob nb cb : Nat) (hdb : ((nb : Int) == 0) = false) (hpa : 0 < na) (hpb : 0 < nb) (HA : Hid (∀ j u, x.cells[j]? = some u → w.cell? ⟨ba, oa + j, none⟩ = some u)) (HB9 : Hid (∀ j u, y.cells[j]? = some u → w.cell? ⟨bb, ob + j, none⟩ = some u)) (HCB : Hid (∀ W, Calls Tryd.prog 59 #[.agg #[.int .i64 x.src, .int .i64 x.tgt, .int .i64 x.cls, .int .i64 x.cond, .int .u32 x.allow, .int .u32 x.audit, .int .u32 x.dont], .agg #[.int .i64 y.src, .int .i64 y.tgt, .int .i64 y.cls, .int .i64 y.cond, .int .u32 y.allow, .int .u32 y.audit, .int .u32 y.dont]] W (fun e w' => e = .returned (.bool false) ∧ RowKit.Below W.heap.size W w'))) (x0 x1 x2 x3 x6 x7 x8 x9 x10 x11 x12 x13 x14 x15 x16 x17 x18 x19 x20 x21 x22 x23 x24 x25 x26 x27 x28 x29 x30 x31 x32 x33 x34 x35 x36 x37 x38 x39 x40 x41 x42 x43 x44 x45 x46 x47 x48 x49 x50 x51 x52 x53 x54 x55 x56 x57 x58 x59 x60 x61 x62 x63 x64 : Value) {Q' : Exit → Act → World → Prop} (hend : ∀ (v31 v32 v33 v34 v35 v36 v37 v38 v39 v40 v41 v42 v43 v44 v45 v46 : Value) (w' : World), RowKit.Below w.heap.size w w' → Q' .normal ⟨#[x0, x1, x2, x3, .slice (some ⟨ba, oa, none⟩) na ca, .slice (some ⟨bb, ob, none⟩) nb cb, x6, x7, x8, x9, x10, x11, x12, x13, x14, x15, x16, x17, x18, x19, x20, x21, x22, x23, x24, x25, x26, x27, x28, x29, x30, v31, v32, v33, v34, v35, v36, v37, v38, v39, v40, v41, v42, v43, v44, v45, v46, .bool false, x48, x49, x50, x51, x52, x53, x54, x55, x56, x57, x58, x59, x60, x61, x62, x63, x64], []⟩ w') :
    Code.wp Tryd.prog (findRegion7 7 ((Tryd.f50.body).getD .skip)) Q' ⟨#[x0, x1, x2, x3, .slice (some ⟨ba, oa, none⟩) na ca, .slice (some ⟨bb, ob, none⟩) nb cb, x6, x7, x8, x9, x10, x11, x12, x13, x14, x15, x16, x17, x18, x19, x20, x21, x22, x23, x24, x25, x26, x27, x28, x29, x30, x31, x32, x33, x34, x35, x36, x37, x38, x39, x40, x41, x42, x43, x44, x45, x46, x47, x48, x49, x50, x51, x52, x53, x54, x55, x56, x57, x58, x59, x60, x61, x62, x63, x64], []⟩ w := by
  have HEND := Lib.hid hend
  clear hend
  conv => arg 2; whnf
  conv => arg 4; dsimp only
  refine wp_region_last (fun w w' => Below w.heap.size w w') [some 31, some 32, some 33, some 34, some 35, some 36, some 37, some 38, some 39, some 40, some 41, some 42, some 43, some 44, some 45, some 46] [isV (.slice (some ⟨bb, ob, none⟩) nb cb), isV (.int .i64 (nb : Int)), isV (.bool false), isV (.bool false), isV (.slice (some ⟨ba, oa, none⟩) na ca), isV (.int .i64 (na : Int)), isV (.bool true), isV (.bool true), isV (.slice (some ⟨ba, oa, none⟩) na ca), isV (.pointer (some ⟨ba, oa, none⟩)), isV (.agg #[.int .i64 x.src, .int .i64 x.tgt, .int .i64 x.cls, .int .i64 x.cond, .int .u32 x.allow, .int .u32 x.audit, .int .u32 x.dont]), isV (.slice (some ⟨bb, ob, none⟩) nb cb), isV (.pointer (some ⟨bb, ob, none⟩)), isV (.agg #[.int .i64 y.src, .int .i64 y.tgt, .int .i64 y.cls, .int .i64 y.cond, .int .u32 y.allow, .int .u32 y.audit, .int .u32 y.dont]), isV (.bool false), isV (.bool false)] (fun _ w' => RowKit.Below w.heap.size w w') 16 (by kernel_rfl) (by kernel_rfl) (by kernel_rfl) rfl (by decide) rfl rfl ((Below.refl _ _).drew) ⟨lasts_is _, lasts_is _, lasts_is _, lasts_is _, lasts_is _, lasts_is _, lasts_is _, lasts_is _, lasts_is _, lasts_is _, lasts_is _, lasts_is _, lasts_is _, lasts_is _, lasts_is _, lasts_is _, trivial⟩ ⟨(fun _ => lastsR_is _), (fun _ => lastsR_is _), (fun _ => lastsR_is _), (fun _ => lastsR_is _), (fun _ => lastsR_is _), (fun _ => lastsR_is _), (fun _ => lastsR_is _), (fun _ => lastsR_is _), (fun _ => lastsR_is _), (fun _ => lastsR_is _), (fun _ => lastsR_is _), (fun _ => lastsR_is _), (fun _ => lastsR_is _), (fun _ => lastsR_is _), (fun _ => lastsR_is _), (fun _ => lastsR_is _), trivial⟩ ⟨?_, ?_, ?_, ?_, ?_, ?_, ?_, ?_, ?_, ?_, ?_, ?_, ?_, ?_, ?_, ?_, ?_⟩
  · intro L a wy Q' hL hi H F hK
    try dsimp only at hi
    have h5 : a.tmps[5]? = some (.slice (some ⟨bb, ob, none⟩) nb cb) := F 5 rfl
    have HI := Lib.hid hi
    clear H F hi hL
    go_wp2_with fail
    exact hK _ _ (Below.refl _ _) HI.out rfl
  · intro L a wy Q' hL hi H F hK
    try dsimp only at hi
    obtain ⟨_, h31, rfl⟩ := H 0 ⟨.data, by simp, rfl⟩ _ rfl
    replace h31 := h31 _ rfl
    have HI := Lib.hid hi
    clear H F hi hL
    go_wp2_with fail
    exact hK _ _ (Below.refl _ _) HI.out rfl
  · intro L a wy Q' hL hi H F hK
    try dsimp only at hi
    obtain ⟨_, h32, rfl⟩ := H 1 ⟨.data, by simp, rfl⟩ _ rfl
    replace h32 := h32 _ rfl
    have HI := Lib.hid hi
    clear H F hi hL
    go_wp2_with fail
    exact hK _ _ (Below.refl _ _) HI.out rfl
  · intro L a wy Q' hL hi H F hK
    try dsimp only at hi
    obtain ⟨_, h33, rfl⟩ := H 2 ⟨.data, by simp, rfl⟩ _ rfl
    replace h33 := h33 _ rfl
    have HI := Lib.hid hi
    clear H F hi hL
    go_wp2_with fail
    exact hK _ _ (Below.refl _ _) HI.out rfl
  · intro L a wy Q' hL hi H F hK
    try dsimp only at hi
    obtain ⟨_, h34, rfl⟩ := H 3 ⟨.guard, by simp, rfl⟩ _ rfl
    replace h34 := h34 _ rfl
    have h4 : a.tmps[4]? = some (.slice (some ⟨ba, oa, none⟩) na ca) := F 4 rfl
    have HI := Lib.hid hi
    clear H F hi hL
    go_wp2_with fail
    exact hK _ _ (Below.refl _ _) HI.out rfl
  · intro L a wy Q' hL hi H F hK
    try dsimp only at hi
    obtain ⟨_, h35, rfl⟩ := H 4 ⟨.data, by simp, rfl⟩ _ rfl
    replace h35 := h35 _ rfl
    obtain ⟨_, h34, rfl⟩ := H 3 ⟨.guard, by simp, rfl⟩ _ rfl
    replace h34 := h34 _ rfl
    have HI := Lib.hid hi
    clear H F hi hL
    go_wp2_with fail
    exact hK _ _ (Below.refl _ _) HI.out rfl
  · intro L a wy Q' hL hi H F hK
    try dsimp only at hi
    obtain ⟨_, h36, rfl⟩ := H 5 ⟨.data, by simp, rfl⟩ _ rfl
    replace h36 := h36 _ rfl
    obtain ⟨_, h34, rfl⟩ := H 3 ⟨.guard, by simp, rfl⟩ _ rfl
    replace h34 := h34 _ rfl
    have HI := Lib.hid hi
    clear H F hi hL
    go_wp2_with fail
    exact hK _ _ (Below.refl _ _) HI.out rfl
  · intro L a wy Q' hL hi H F hK
    try dsimp only at hi
    obtain ⟨_, h37, rfl⟩ := H 6 ⟨.data, by simp, rfl⟩ _ rfl
    replace h37 := h37 _ rfl
    obtain ⟨_, h34, rfl⟩ := H 3 ⟨.guard, by simp, rfl⟩ _ rfl
    replace h34 := h34 _ rfl
    have HI := Lib.hid hi
    clear H F hi hL
    go_wp2_with fail
    exact hK _ _ (Below.refl _ _) HI.out rfl
  · intro L a wy Q' hL hi H F hK
    try dsimp only at hi
    obtain ⟨_, h38, rfl⟩ := H 7 ⟨.guard, by simp, rfl⟩ _ rfl
    replace h38 := h38 _ rfl
    have h4 : a.tmps[4]? = some (.slice (some ⟨ba, oa, none⟩) na ca) := F 4 rfl
    have HI := Lib.hid hi
    clear H F hi hL
    go_wp2_with fail
    exact hK _ _ (Below.refl _ _) HI.out rfl
  · intro L a wy Q' hL hi H F hK
    try dsimp only at hi
    obtain ⟨_, h39, rfl⟩ := H 8 ⟨.data, by simp, rfl⟩ _ rfl
    replace h39 := h39 _ rfl
    obtain ⟨_, h38, rfl⟩ := H 7 ⟨.guard, by simp, rfl⟩ _ rfl
    replace h38 := h38 _ rfl
    have HI := Lib.hid hi
    clear H F hi hL
    go_wp2_with fail
    exact hK _ _ (Below.refl _ _) HI.out rfl
  · intro L a wy Q' hL hi H F hK
    try dsimp only at hi
    obtain ⟨_, h40, rfl⟩ := H 9 ⟨.data, by simp, rfl⟩ _ rfl
    replace h40 := h40 _ rfl
    obtain ⟨_, h38, rfl⟩ := H 7 ⟨.guard, by simp, rfl⟩ _ rfl
    replace h38 := h38 _ rfl
    have HI := Lib.hid hi
    clear H F hi hL
    have kq0 : wy.cell? ⟨ba, oa, none⟩ = some (.int .i64 x.src) := cell_later HI.out (HA.out 0 _ rfl)
    have kq1 : wy.cell? ⟨ba, oa + 1, none⟩ = some (.int .i64 x.tgt) := cell_later HI.out (HA.out 1 _ rfl)
    have kq2 : wy.cell? ⟨ba, oa + 2, none⟩ = some (.int .i64 x.cls) := cell_later HI.out (HA.out 2 _ rfl)
    have kq3 : wy.cell? ⟨ba, oa + 3, none⟩ = some (.int .i64 x.cond) := cell_later HI.out (HA.out 3 _ rfl)
    have kq4 : wy.cell? ⟨ba, oa + 4, none⟩ = some (.int .u32 x.allow) := cell_later HI.out (HA.out 4 _ rfl)
    have kq5 : wy.cell? ⟨ba, oa + 5, none⟩ = some (.int .u32 x.audit) := cell_later HI.out (HA.out 5 _ rfl)
    have kq6 : wy.cell? ⟨ba, oa + 6, none⟩ = some (.int .u32 x.dont) := cell_later HI.out (HA.out 6 _ rfl)
    go_wp2_with fail
    exact hK _ _ (Below.refl _ _) HI.out rfl
  · intro L a wy Q' hL hi H F hK
    try dsimp only at hi
    obtain ⟨_, h38, rfl⟩ := H 7 ⟨.guard, by simp, rfl⟩ _ rfl
    replace h38 := h38 _ rfl
    have h5 : a.tmps[5]? = some (.slice (some ⟨bb, ob, none⟩) nb cb) := F 5 rfl
    have HI := Lib.hid hi
    clear H F hi hL
    go_wp2_with fail
    exact hK _ _ (Below.refl _ _) HI.out rfl
  · intro L a wy Q' hL hi H F hK
    try dsimp only at hi
    obtain ⟨_, h42, rfl⟩ := H 11 ⟨.data, by simp, rfl⟩ _ rfl
    replace h42 := h42 _ rfl
    obtain ⟨_, h38, rfl⟩ := H 7 ⟨.guard, by simp, rfl⟩ _ rfl
    replace h38 := h38 _ rfl
    have HI := Lib.hid hi
    clear H F hi hL
    go_wp2_with fail
    exact hK _ _ (Below.refl _ _) HI.out rfl
  · intro L a wy Q' hL hi H F hK
    try dsimp only at hi
    obtain ⟨_, h43, rfl⟩ := H 12 ⟨.data, by simp, rfl⟩ _ rfl
    replace h43 := h43 _ rfl
    obtain ⟨_, h38, rfl⟩ := H 7 ⟨.guard, by simp, rfl⟩ _ rfl
    replace h38 := h38 _ rfl
    have HI := Lib.hid hi
    clear H F hi hL
    have kq0 : wy.cell? ⟨bb, ob, none⟩ = some (.int .i64 y.src) := cell_later HI.out (HB9.out 0 _ rfl)
    have kq1 : wy.cell? ⟨bb, ob + 1, none⟩ = some (.int .i64 y.tgt) := cell_later HI.out (HB9.out 1 _ rfl)
    have kq2 : wy.cell? ⟨bb, ob + 2, none⟩ = some (.int .i64 y.cls) := cell_later HI.out (HB9.out 2 _ rfl)
    have kq3 : wy.cell? ⟨bb, ob + 3, none⟩ = some (.int .i64 y.cond) := cell_later HI.out (HB9.out 3 _ rfl)
    have kq4 : wy.cell? ⟨bb, ob + 4, none⟩ = some (.int .u32 y.allow) := cell_later HI.out (HB9.out 4 _ rfl)
    have kq5 : wy.cell? ⟨bb, ob + 5, none⟩ = some (.int .u32 y.audit) := cell_later HI.out (HB9.out 5 _ rfl)
    have kq6 : wy.cell? ⟨bb, ob + 6, none⟩ = some (.int .u32 y.dont) := cell_later HI.out (HB9.out 6 _ rfl)
    go_wp2_with fail
    exact hK _ _ (Below.refl _ _) HI.out rfl
  · intro L a wy Q' hL hi H F hK
    try dsimp only at hi
    obtain ⟨_, h41, rfl⟩ := H 10 ⟨.data, by simp, rfl⟩ _ rfl
    replace h41 := h41 _ rfl
    obtain ⟨_, h44, rfl⟩ := H 13 ⟨.data, by simp, rfl⟩ _ rfl
    replace h44 := h44 _ rfl
    obtain ⟨_, h38, rfl⟩ := H 7 ⟨.guard, by simp, rfl⟩ _ rfl
    replace h38 := h38 _ rfl
    have HI := Lib.hid hi
    clear H F hi hL
    go_wp2_with (go_at_call 59; go_must (refine (HCB.out wy).mono ?_; rintro e w1 ⟨rfl, hb1⟩))
    exact hK _ _ hb1 (HI.out.trans (hb1.mono HI.out.size)) rfl
  · intro L a wy Q' hL hi H F hK
    try dsimp only at hi
    obtain ⟨_, h38, rfl⟩ := H 7 ⟨.data, by simp, rfl⟩ _ rfl
    replace h38 := h38 _ rfl
    obtain ⟨_, h45, rfl⟩ := H 14 ⟨.data, by simp, rfl⟩ _ rfl
    replace h45 := h45 _ rfl
    obtain ⟨_, h34, rfl⟩ := H 3 ⟨.guard, by simp, rfl⟩ _ rfl
    replace h34 := h34 _ rfl
    have HI := Lib.hid hi
    clear H F hi hL
    go_wp2_with fail
    exact hK _ _ (Below.refl _ _) HI.out rfl
  · intro a wy hl L hi hL Q' hK
    try dsimp only at hi
    have HB := Lib.hid hi
    clear hi hL
    obtain ⟨_, rfl, _, rfl, _, rfl, _, rfl, _, rfl, _, rfl, _, rfl, _, rfl, _, rfl, _, rfl, _, rfl, _, rfl, _, rfl, _, rfl, _, rfl, _, rfl, rfl⟩ := hl
    simp only [List.setIfInBounds_toArray, List.set_cons_zero, List.set_cons_succ]
    go_wp2_with fail
    exact HEND.out _ _ _ _ _ _ _ _ _ _ _ _ _ _ _ _ _ HB.out

end Go.Proofs.YtmkfabdkadocdaaDoor

/-
  The reference's ordered: a merge sort.
-/
namespace Go.Proofs.YtmkfabdkadocdaaDoor
open Go Go.WideMaps Go.RowKit Go.Sort

theorem slice_cons' {w : World} {v : Value} {x : AEntry} {l : List AEntry} (h : SliceAt w v 7 (x :: l).length ((x :: l).flatMap AEntry.cells)) :
    ∃ b off c n, v = .slice (some ⟨b, off, none⟩) n c ∧ n = l.length + 1 ∧ n ≤ c ∧ (∀ j u, x.cells[j]? = some u → w.cell? ⟨b, off + j, none⟩ = some u) ∧
      SliceAt w (.slice (if c = 1 then some ⟨b, off, none⟩ else some ⟨b, off + 7, none⟩) (n - 1) (c - 1)) 7 l.length (l.flatMap AEntry.cells) := by
  obtain ⟨b, off, c, h1, h2, _, h3, h4⟩ := slice_cons h
  exact ⟨b, off, c, _, h1, rfl, h2, h3, h4⟩
theorem upd_was {L : Nat → Bool} {i j : Nat} (h : upd L i j = false) : L j = false := by
  unfold upd at h
  cases hx : L j with
  | false => rfl
  | true => rw [hx] at h; simp at h
theorem run_tail1' (w : World) (b off n c : Nat) (hn : 0 < n) : (Instr.slice 52 (.slice (some ⟨b, off, none⟩) n c) (some (.int .i64 1)) none none).run Tryd.prog w = .ok (.slice (if c = 1 then some ⟨b, off, none⟩ else some ⟨b, off + 7, none⟩) (n - 1) (c - 1)) w := by
  obtain ⟨k, rfl⟩ : ∃ k, n = k + 1 := ⟨n - 1, by omega⟩
  exact run_tail1 w b off k c
theorem slice_none {w : World} {v : Value} (h : SliceAt w v 7 ([] : List AEntry).length (([] : List AEntry).flatMap AEntry.cells)) : ∃ a c, v = .slice a 0 c := by
  obtain ⟨a, c, rfl, -⟩ := h.form (by decide)
  exact ⟨a, c, rfl⟩
def lenOf : Value → Nat
  | .slice _ n _ => n
  | _ => 0
/-- Two sorted lists being merged: Al, Bl are still to come, O is done. -/
structure Mrgs (wk wr : World) (A B Al Bl O : List AEntry) (va vb u : Value) : Prop where
  sa : SliceAt wk va 7 Al.length (Al.flatMap AEntry.cells)
  sb : SliceAt wk vb 7 Bl.length (Bl.flatMap AEntry.cells)
  own : wr.ownsRow wk.heap.size 61 7 u O.length (O.flatMap AEntry.cells)
  blw : RowKit.Below wk.heap.size wk wr
  eq : mrg A B = O ++ mrg Al Bl
theorem Mrgs.small {wk wr : World} {A B Al Bl O : List AEntry} {va vb u : Value} {n : Nat} (h : Mrgs wk wr A B Al Bl O va vb u) (hn : A.length + B.length = n) : O.length + Al.length + Bl.length = n := by
  have h1 := congrArg List.length h.eq
  rw [(mrg_perm A B).length_eq, List.length_append, List.length_append, (mrg_perm Al Bl).length_eq, List.length_append] at h1
  omega
theorem Mrgs.later {wk wr w' : World} {A B Al Bl O : List AEntry} {va vb u : Value} (h : Mrgs wk wr A B Al Bl O va vb u) (hb : RowKit.Below wr.heap.size wr w') : Mrgs wk w' A B Al Bl O va vb u :=
  ⟨h.sa, h.sb, own_keep hb h.own (Nat.le_refl _), h.blw.trans (hb.mono h.blw.size), h.eq⟩
theorem Mrgs.takeA {wk wr w' : World} {A B Al Bl O : List AEntry} {x : AEntry} {va va' vb u v : Value} (h : Mrgs wk wr A B (x :: Al) Bl O va vb u) (ht : SliceAt wk va' 7 Al.length (Al.flatMap AEntry.cells)) (hown : w'.ownsRow wk.heap.size 61 7 v (O.length + 1) (O.flatMap AEntry.cells ++ x.cells)) (hb : RowKit.Below wk.heap.size wk w') (hm : mrg (x :: Al) Bl = x :: mrg Al Bl) : Mrgs wk w' A B Al Bl (O ++ [x]) va' vb v :=
  ⟨ht, h.sb, by rw [List.length_append, List.flatMap_append]; simpa using hown, hb, by rw [h.eq, hm, List.append_assoc]; rfl⟩
theorem Mrgs.takeB {wk wr w' : World} {A B Al Bl O : List AEntry} {y : AEntry} {va vb vb' u v : Value} (h : Mrgs wk wr A B Al (y :: Bl) O va vb u) (ht : SliceAt wk vb' 7 Bl.length (Bl.flatMap AEntry.cells)) (hown : w'.ownsRow wk.heap.size 61 7 v (O.length + 1) (O.flatMap AEntry.cells ++ y.cells)) (hb : RowKit.Below wk.heap.size wk w') (hm : mrg Al (y :: Bl) = y :: mrg Al Bl) : Mrgs wk w' A B Al Bl (O ++ [y]) va vb' v :=
  ⟨h.sa, ht, by rw [List.length_append, List.flatMap_append]; simpa using hown, hb, by rw [h.eq, hm, List.append_assoc]; rfl⟩
theorem Mrgs.fin {wk wr : World} {A B O : List AEntry} {va vb u : Value} {l : List AEntry} {m n : Nat} (h : Mrgs wk wr A B [] [] O va vb u) (hp : A.Perm (l.take m) ∧ A.Pairwise Leq ∧ B.Perm (l.drop m) ∧ B.Pairwise Leq) (_ : l.length = n) (_ : m ≤ n) : SortOf l u wr := by
  have e : mrg A B = O := by have := h.eq; rwa [mrg_nil, List.append_nil] at this
  refine ⟨O, ?_, ?_, SliceAt.of_own h.own (ecells_one O)⟩
  · rw [← e]
    refine (mrg_perm A B).trans ((hp.1.append hp.2.2.1).trans ?_)
    rw [List.take_append_drop]
  · rw [← e]
    exact mrg_sorted A B hp.2.1 hp.2.2.2
set_option maxRecDepth 100000 in
set_option maxHeartbeats 8000000 in
theorem rordered_any (n : Nat) : ∀ (w : World) (v : Value) (l : List AEntry), l.length = n → SliceAt w v 7 l.length (l.flatMap AEntry.cells) → n ≤ 100000000 →
    Calls Tryd.prog 50 #[v] w fun e w' => ∃ v', e = .returned v' ∧ SortOf l v' w' ∧ RowKit.Below w.heap.size w w' := by
  obtain ⟨i0, z, hi, hz0, hz1, hz2, hzs⟩ := infoOf info61
  induction n using Nat.strongRecOn with
  | ind n ih =>
  intro w v l hl h hn
  obtain ⟨a, c, rfl, hc, hmx, hcell⟩ := h.form (by decide)
  have HLN := Lib.hid hl
  rw [hl] at hc hmx hcell h ⊢
  have HS := Lib.hid h
  by_cases h2 : n < 2
  · clear ih
    have h2i : (n : Int) < 2 := by omega
    clear h hcell hl hc hmx hn
    go_enter Tryd.func50, Tryd.ntmps50
    go_wp2
    go_ret
    refine ⟨_, rfl, ⟨l, List.Perm.refl _, ?_, by rw [HLN.out]; exact HS.out⟩, Below.refl _ _⟩
    rcases l with _ | ⟨x, _ | ⟨y, l⟩⟩
    · exact List.Pairwise.nil
    · exact List.pairwise_singleton _ _
    · have := HLN.out
      simp only [List.length_cons] at this
      omega
  · obtain ⟨b, off, rfl, -⟩ := hcell 0 (by omega)
    have h2i : ¬ (n : Int) < 2 := by omega
    obtain ⟨m, hm⟩ : ∃ m, m = n / 2 := ⟨_, rfl⟩
    have hdv : (n : Int).tdiv 2 = (m : Int) := by rw [Int.tdiv_eq_ediv_of_nonneg (by omega), hm]; omega
    have hmw : wrap64 (m : Int) = (m : Int) := IntWalk.wrap64_in _ ⟨by omega, by omega⟩
    have HMN := Lib.hid (show m < n ∧ min m n = m ∧ m ≤ n by omega)
    have HMN2 := Lib.hid (show n - m < n ∧ 0 < m by omega)
    have HMC := Lib.hid (show m ≤ c ∧ m ≤ n ∧ m < c by omega)
    have HIH := Lib.hid (show ∀ k, k < n → ∀ (w : World) (v : Value) (l : List AEntry), l.length = k → SliceAt w v 7 l.length (l.flatMap AEntry.cells) → Calls Tryd.prog 50 #[v] w fun e w' => ∃ v', e = .returned v' ∧ SortOf l v' w' ∧ RowKit.Below w.heap.size w w' from fun k hk w v l h1 h2 => ih k hk w v l h1 h2 (by omega))
    clear ih h hcell hl hm
    go_enter Tryd.func50, Tryd.ntmps50
    go_upto_region 4 with fail
    simp only [hmw]
    clear hmw hdv h2i
    refine wp_region_goods [some 14, some 15, some 16, some 17, some 18, some 19, some 20, some 21, some 4] [isW (.slice (some ⟨b, off, none⟩) n c), isW (.int .i64 (m : Int)), isW (.slice (some ⟨b, off, none⟩) m c), (fun _ v w' => SortOf (l.take m) v w'), isW (.slice (some ⟨b, off, none⟩) n c), isW (.int .i64 (m : Int)), isW (.slice (some ⟨b, off + m * 7, none⟩) (n - m) (c - m)), (fun _ v w' => SortOf (l.drop m) v w'), (fun _ v w' => SortOf (l.take m) v w')] (fun _ w' => RowKit.Below w.heap.size w w') [] (by kernel_rfl) (by kernel_rfl) (by kernel_rfl) rfl (by decide) rfl rfl ((Below.refl _ _).drew) ⟨lastsW_is _, lastsW_is _, lastsW_is _, (fun _ _ _ _ _ _ h hb => h.keep hb), lastsW_is _, lastsW_is _, lastsW_is _, (fun _ _ _ _ _ _ h hb => h.keep hb), (fun _ _ _ _ _ _ h hb => h.keep hb), trivial⟩ ⟨?_, ?_, ?_, ?_, ?_, ?_, ?_, ?_, ?_, ?_⟩
    · intro L a wk Q' hL hi H F hK
      try dsimp only at hi
      have h0 : a.tmps[0]? = some (.slice (some ⟨b, off, none⟩) n c) := F 0 rfl
      have HI := Lib.hid hi
      clear H F hi hL
      go_wp2_with fail
      exact hK _ _ (Below.refl _ _) HI.out rfl
    · intro L a wk Q' hL hi H F hK
      try dsimp only at hi
      have h3 : a.tmps[3]? = some (.int .i64 (m : Int)) := F 3 rfl
      have HI := Lib.hid hi
      clear H F hi hL
      go_wp2_with fail
      exact hK _ _ (Below.refl _ _) HI.out rfl
    · intro L a wk Q' hL hi H F hK
      try dsimp only at hi
      obtain ⟨_, h14, rfl⟩ := H 0 ⟨.data, by simp, rfl⟩ _ rfl
      replace h14 := h14 _ rfl
      obtain ⟨_, h15, rfl⟩ := H 1 ⟨.data, by simp, rfl⟩ _ rfl
      replace h15 := h15 _ rfl
      have HI := Lib.hid hi
      clear H F hi hL
      have q := run_head wk b off n c m HMC.out.1
      go_wp2_with fail
      exact hK _ _ (Below.refl _ _) HI.out rfl
    · intro L a wk Q' hL hi H F hK
      try dsimp only at hi
      obtain ⟨_, h16, rfl⟩ := H 2 ⟨.data, by simp, rfl⟩ _ rfl
      replace h16 := h16 _ rfl
      have HI := Lib.hid hi
      clear H F hi hL
      go_wp2_with (go_at_call 50; go_must (refine (HIH.out _ HMN.out.1 wk _ _ (by rw [List.length_take, HLN.out]; exact HMN.out.2.1) ((slice_take HS.out HLN.out HMN.out.2.2).keep HI.out)).mono ?_; rintro e w1 ⟨v1, rfl, hs1, hb1⟩))
      exact hK _ _ hb1 (HI.out.trans (hb1.mono HI.out.size)) hs1
    · intro L a wk Q' hL hi H F hK
      try dsimp only at hi
      have h0 : a.tmps[0]? = some (.slice (some ⟨b, off, none⟩) n c) := F 0 rfl
      have HI := Lib.hid hi
      clear H F hi hL
      go_wp2_with fail
      exact hK _ _ (Below.refl _ _) HI.out rfl
    · intro L a wk Q' hL hi H F hK
      try dsimp only at hi
      have h3 : a.tmps[3]? = some (.int .i64 (m : Int)) := F 3 rfl
      have HI := Lib.hid hi
      clear H F hi hL
      go_wp2_with fail
      exact hK _ _ (Below.refl _ _) HI.out rfl
    · intro L a wk Q' hL hi H F hK
      try dsimp only at hi
      obtain ⟨_, h18, rfl⟩ := H 4 ⟨.data, by simp, rfl⟩ _ rfl
      replace h18 := h18 _ rfl
      obtain ⟨_, h19, rfl⟩ := H 5 ⟨.data, by simp, rfl⟩ _ rfl
      replace h19 := h19 _ rfl
      have HI := Lib.hid hi
      clear H F hi hL
      have q := run_tail wk b off n c m HMC.out.2.1 HMC.out.2.2
      go_wp2_with fail
      exact hK _ _ (Below.refl _ _) HI.out rfl
    · intro L a wk Q' hL hi H F hK
      try dsimp only at hi
      obtain ⟨_, h20, rfl⟩ := H 6 ⟨.data, by simp, rfl⟩ _ rfl
      replace h20 := h20 _ rfl
      have HI := Lib.hid hi
      clear H F hi hL
      go_wp2_with (go_at_call 50; go_must (refine (HIH.out _ HMN2.out.1 wk _ _ (by rw [List.length_drop, HLN.out]) ((slice_drop HS.out HLN.out HMN.out.2.2).keep HI.out)).mono ?_; rintro e w1 ⟨v1, rfl, hs1, hb1⟩))
      exact hK _ _ hb1 (HI.out.trans (hb1.mono HI.out.size)) hs1
    · intro L a wk Q' hL hi H F hK
      try dsimp only at hi
      obtain ⟨v17, h17, hv17⟩ := H 3 ⟨.data, by simp, rfl⟩ _ rfl
      replace h17 := h17 _ rfl
      have HV17 := Lib.hid hv17
      clear hv17
      have HI := Lib.hid hi
      clear H F hi hL
      go_wp2_with fail
      exact hK _ _ (Below.refl _ _) HI.out HV17.out
    · intro a wk L hl hi hL Q' hK
      try dsimp only at hi
      have HB := Lib.hid hi
      clear hi hL
      obtain ⟨_, rfl, _, rfl, _, rfl, u17, hu17, _, rfl, _, rfl, _, rfl, u21, hu21, u4, hu4, rfl⟩ := hl
      have HU17 := Lib.hid hu17
      clear hu17
      have HU21 := Lib.hid hu21
      clear hu21
      have HU4 := Lib.hid hu4
      clear hu4
      simp only [List.setIfInBounds_toArray, List.set_cons_zero, List.set_cons_succ]
      obtain ⟨A, hpA, hsA, hslA⟩ := HU4.out
      obtain ⟨B, hpB, hsB, hslB⟩ := HU21.out
      obtain ⟨wm, hmk, hown, hgm⟩ := run_make_own wk wk.heap.size 52 61 i0 z 7 Tryd.underlying52 hi hz0 hz1 .i64 .i64 n (by rw [hz2]; omega) (by unfold maxLen; omega) (Nat.le_refl _)
      have HPM := Lib.hid (And.intro hpA (And.intro hsA (And.intro hpB hsB)))
      have HSL := Lib.hid (And.intro hslA hslB)
      have HOWN := Lib.hid (And.intro hown hgm)
      clear HU4 HU21 HU17 hpA hsA hslA hpB hsB hslB hown hgm
      go_wp2_with fail
      clear hmk
      have HR0 := Lib.hid (show Mrgs wk wm A B A B [] u4 u21 (.slice (some ⟨wk.heap.size, 0, none⟩) 0 n) from ⟨HSL.out.1, HSL.out.2, by simpa using HOWN.out.1, grown_below HOWN.out.2 (Nat.le_refl _), by simp⟩)
      have hAB : A.length + B.length = n := by
        have h1 := HPM.out.1.length_eq
        have h2 := HPM.out.2.2.1.length_eq
        rw [List.length_take, HLN.out, HMN.out.2.1] at h1
        rw [List.length_drop, HLN.out] at h2
        have := HMN.out.1
        omega
      have HAB := Lib.hid hAB
      clear HOWN HSL hAB HS HIH
      have HBW := HB
      have hn1 : n ≤ 100000000 := hn
      go_loopw [4, 5, 6] (fun va vb u wr => ∃ Al Bl O, Mrgs wk wr A B Al Bl O va vb u) (fun va vb _ _ => lenOf va + lenOf vb)
      case atStart => exact ⟨_, _, _, HR0.out⟩
      case round =>
        clear HR0
        obtain ⟨Al, Bl, O, hR⟩ := hrel
        have HR := Lib.hid hR
        have hO := hR.small HAB.out
        clear hR
        rcases Al with _ | ⟨x, Al⟩
        · rcases Bl with _ | ⟨y, Bl⟩
          · obtain ⟨xa, ca, rfl⟩ := slice_none HR.out.sa
            obtain ⟨xb, cb, rfl⟩ := slice_none HR.out.sb
            go_wp2_with fail
            go_ret
            refine ⟨_, rfl, HR.out.fin HPM.out HLN.out HMN.out.2.2, ?_⟩
            exact HBW.out.trans (HR.out.blw.mono HBW.out.size)
          · obtain ⟨xa, ca, rfl⟩ := slice_none HR.out.sa
            obtain ⟨bb, ob, cb, nb, rfl, hnb, hcb, hcl, htl⟩ := slice_cons' HR.out.sb
            have Hb := Lib.hid hcl
            obtain ⟨db, hdd⟩ : ∃ d, d = (if cb = 1 then some (⟨bb, ob, none⟩ : Addr) else some ⟨bb, ob + 7, none⟩) := ⟨_, rfl⟩
            rw [← hdd] at htl
            have HDb := Lib.hid hdd
            have HTLb := Lib.hid htl
            clear hdd
            have hposb : 0 < nb := by omega
            have hnb1 : nb ≤ 100000000 := by simp only [List.length_cons] at hO; omega
            have hpb : (0 : Int) < (nb : Int) := by omega
            have hdb : ((nb : Int) == 0) = false := by simp; omega
            have hdb2 : ¬ (nb : Int) = 0 := by omega
            clear hcl htl hnb
            have hO1 : O.length + 1 ≤ 100000000 := by simp only [List.length_cons] at hO; omega
            clear hO
            go_upto_region 7 with fail
            refine ord_b wr xa (some ⟨bb, ob, none⟩) ca nb cb hdb _ _ _ _ _ _ _ _ _ _ _ _ _ _ _ _ _ _ _ _ _ _ _ _ _ _ _ _ _ _ _ _ _ _ _ _ _ _ _ _ _ _ _ _ _ _ _ _ _ _ _ _ _ _ _ _ _ _ _ _ _ _ _ ?_
            intro v31 v32 v33 v34 v35 v36 v37 v38 v39 v40 v41 v42 v43 v44 v45 v46 wq hbq
            have HR := Lib.hid (HR.out.later hbq)
            clear hbq
            go_upto_region 9 with fail
            refine wp_region_late [some 56, some 57, some 58, some 59, some 60, some 61, some 62, some 63, some 6] [isW (u6), isW (.slice (some ⟨bb, ob, none⟩) nb cb), isW (.pointer (some ⟨bb, ob, none⟩)), isW (.agg #[.int .i64 y.src, .int .i64 y.tgt, .int .i64 y.cls, .int .i64 y.cond, .int .u32 y.allow, .int .u32 y.audit, .int .u32 y.dont]), (fun L v w' => L 5 = false → ∃ g, v = .slice (some ⟨g, 0, none⟩) 1 1 ∧ ∀ j q, ([.int .i64 y.src, .int .i64 y.tgt, .int .i64 y.cls, .int .i64 y.cond, .int .u32 y.allow, .int .u32 y.audit, .int .u32 y.dont] : List Value)[j]? = some q → w'.cell? ((⟨g, 0, none⟩ : Addr).add j) = some q), (fun L v w' => L 5 = true ∧ w'.ownsRow wk.heap.size 61 7 v (O.length + 1) (O.flatMap AEntry.cells ++ [.int .i64 y.src, .int .i64 y.tgt, .int .i64 y.cls, .int .i64 y.cond, .int .u32 y.allow, .int .u32 y.audit, .int .u32 y.dont])), isW (.slice (some ⟨bb, ob, none⟩) nb cb), isW (.slice db (nb - 1) (cb - 1)), (fun L v w' => L 5 = true ∧ w'.ownsRow wk.heap.size 61 7 v (O.length + 1) (O.flatMap AEntry.cells ++ [.int .i64 y.src, .int .i64 y.tgt, .int .i64 y.cls, .int .i64 y.cond, .int .u32 y.allow, .int .u32 y.audit, .int .u32 y.dont]))] (fun L w' => (L 5 = false → w'.ownsRow wk.heap.size 61 7 u6 O.length (O.flatMap AEntry.cells)) ∧ RowKit.Below wk.heap.size wk w') [5] (by kernel_rfl) (by kernel_rfl) (by kernel_rfl) rfl (by decide) rfl rfl (⟨fun _ => HR.out.own, HR.out.blw.drew⟩) ⟨lastsW_is _, lastsW_is _, lastsW_is _, lastsW_is _, (fun L i v w1 w2 hi h hb h5 => let ⟨g, e, hr⟩ := h (upd_was h5); ⟨g, e, fun j q hq => cell_later hb (hr j q hq)⟩), (fun L i v w1 w2 _ h hb => ⟨by simp [upd, h.1], own_keep hb h.2 (Nat.le_refl _)⟩), lastsW_is _, lastsW_is _, (fun L i v w1 w2 _ h hb => ⟨by simp [upd, h.1], own_keep hb h.2 (Nat.le_refl _)⟩), trivial⟩ ⟨?_, ?_, ?_, ?_, ?_, ?_, ?_, ?_, ?_, ?_⟩
            · intro L a wy Q' hL hi H F hK
              try dsimp only at hi
              have h6 : a.tmps[6]? = some (u6) := F 6 (by kernel_rfl)
              have HI := Lib.hid hi
              clear H F hi hL
              go_wp2_with fail
              exact hK _ _ (Below.refl _ _) HI.out rfl
            · intro L a wy Q' hL hi H F hK
              try dsimp only at hi
              have h5 : a.tmps[5]? = some (.slice (some ⟨bb, ob, none⟩) nb cb) := F 5 (by kernel_rfl)
              have HI := Lib.hid hi
              clear H F hi hL
              go_wp2_with fail
              exact hK _ _ (Below.refl _ _) HI.out rfl
            · intro L a wy Q' hL hi H F hK
              try dsimp only at hi
              obtain ⟨_, h57, rfl⟩ := H 1 ⟨.data, by simp, rfl⟩ _ rfl
              replace h57 := h57 _ rfl
              have HI := Lib.hid hi
              clear H F hi hL
              go_wp2_with fail
              exact hK _ _ (Below.refl _ _) HI.out rfl
            · intro L a wy Q' hL hi H F hK
              try dsimp only at hi
              obtain ⟨_, h58, rfl⟩ := H 2 ⟨.data, by simp, rfl⟩ _ rfl
              replace h58 := h58 _ rfl
              have HI := Lib.hid hi
              clear H F hi hL
              have kq0 : wy.cell? ⟨bb, ob, none⟩ = some (.int .i64 y.src) := cell_later HI.out.2 (Hb.out 0 _ rfl)
              have kq1 : wy.cell? ⟨bb, ob + 1, none⟩ = some (.int .i64 y.tgt) := cell_later HI.out.2 (Hb.out 1 _ rfl)
              have kq2 : wy.cell? ⟨bb, ob + 2, none⟩ = some (.int .i64 y.cls) := cell_later HI.out.2 (Hb.out 2 _ rfl)
              have kq3 : wy.cell? ⟨bb, ob + 3, none⟩ = some (.int .i64 y.cond) := cell_later HI.out.2 (Hb.out 3 _ rfl)
              have kq4 : wy.cell? ⟨bb, ob + 4, none⟩ = some (.int .u32 y.allow) := cell_later HI.out.2 (Hb.out 4 _ rfl)
              have kq5 : wy.cell? ⟨bb, ob + 5, none⟩ = some (.int .u32 y.audit) := cell_later HI.out.2 (Hb.out 5 _ rfl)
              have kq6 : wy.cell? ⟨bb, ob + 6, none⟩ = some (.int .u32 y.dont) := cell_later HI.out.2 (Hb.out 6 _ rfl)
              go_wp2_with fail
              exact hK _ _ (Below.refl _ _) HI.out rfl
            · intro L a wy Q' hL hi H F hK
              try dsimp only at hi
              obtain ⟨_, h59, rfl⟩ := H 3 ⟨.data, by simp, rfl⟩ _ rfl
              replace h59 := h59 _ rfl
              have HI := Lib.hid hi
              clear H F hi hL
              go_wp2_with fail
              exact hK _ _ ((Below.refl _ _).alloc (Nat.le_refl _) _) ⟨fun h => own_alloc (HI.out.1 h) _, HI.out.2.alloc HI.out.2.size _⟩ (fun _ => ⟨_, rfl, row_new _ _ _⟩)
            · intro L a wy Q' hL hi H F hK
              try dsimp only at hi
              obtain ⟨_, h56, rfl⟩ := H 0 ⟨.data, by simp, rfl⟩ _ rfl
              replace h56 := h56 _ rfl
              obtain ⟨v60, h60, hv60⟩ := H 4 ⟨.data, by simp, rfl⟩ _ rfl
              replace h60 := h60 _ rfl
              have HV60 := Lib.hid hv60
              clear hv60
              have HI := Lib.hid hi
              clear H F hi
              obtain ⟨g, rfl, hrow⟩ := HV60.out hL
              refine wpList_append_own _ rfl _ _ 52 rfl wk.heap.size 61 i0 z 7 48 Tryd.underlying52 hi hz0 hz1 hz2 hzs (by decide) u6 O.length (O.flatMap AEntry.cells) (by simp [Act.eval, *]) (HI.out.1 hL) ⟨g, 0, none⟩ 1 1 [.int .i64 y.src, .int .i64 y.tgt, .int .i64 y.cls, .int .i64 y.cond, .int .u32 y.allow, .int .u32 y.audit, .int .u32 y.dont] (by simp [Act.eval, *]) rfl hrow ?c2 ?c3 ?c4 ?c5 ?_
              case c2 => simp [Value.oneCell']
              case c3 => unfold maxLen; omega
              case c4 => omega
              case c5 => exact HI.out.2.size
              intro v' w9 hown' hgrow hnil
              exact hK _ _ (show KeepAll _ _ _ _ _ _ _ _ from ⟨(fun _ _ _ _ h => h), (fun _ _ _ _ h => h), (fun _ _ _ _ h => h), (fun _ _ _ _ h => h), (fun _ _ _ _ _ h => by simp [upd] at h), (fun h => absurd rfl h), (fun _ _ _ _ h => h), (fun _ _ _ _ h => h), (fun _ _ _ _ h => by have := h.1; rw [hL] at this; cases this), trivial⟩) ⟨fun h => by simp [upd] at h, HI.out.2.grown hgrow HI.out.2.size (fun q hq => ((HI.out.1 hL).lt q hq).1)⟩ ⟨by simp [upd], hown'⟩
            · intro L a wy Q' hL hi H F hK
              try dsimp only at hi
              have h5 : a.tmps[5]? = some (.slice (some ⟨bb, ob, none⟩) nb cb) := F 5 (by kernel_rfl)
              have HI := Lib.hid hi
              clear H F hi hL
              go_wp2_with fail
              exact hK _ _ (Below.refl _ _) HI.out rfl
            · intro L a wy Q' hL hi H F hK
              try dsimp only at hi
              obtain ⟨_, h62, rfl⟩ := H 6 ⟨.data, by simp, rfl⟩ _ rfl
              replace h62 := h62 _ rfl
              have HI := Lib.hid hi
              clear H F hi hL
              have q := run_tail1' wy bb ob nb cb hposb
              rw [← HDb.out] at q
              go_wp2_with fail
              exact hK _ _ (Below.refl _ _) HI.out rfl
            · intro L a wy Q' hL hi H F hK
              try dsimp only at hi
              obtain ⟨v61, h61, hv61⟩ := H 5 ⟨.data, by simp, rfl⟩ _ rfl
              replace h61 := h61 _ rfl
              have HV61 := Lib.hid hv61
              clear hv61
              have HI := Lib.hid hi
              clear H F hi hL
              go_wp2_with fail
              exact hK _ _ (Below.refl _ _) HI.out ⟨by simp [upd, HV61.out.1], HV61.out.2⟩
            · intro a wy L hl hi hL Q' hK
              try dsimp only at hi
              have HB := Lib.hid hi
              clear hi hL
              obtain ⟨_, rfl, _, rfl, _, rfl, _, rfl, u60, hu60, u61, hu61, _, rfl, _, rfl, u6, hu6, rfl⟩ := hl
              have HU60 := Lib.hid hu60
              clear hu60
              have HU61 := Lib.hid hu61
              clear hu61
              have HU6 := Lib.hid hu6
              clear hu6
              simp only [List.setIfInBounds_toArray, List.set_cons_zero, List.set_cons_succ]
              go_wp2_with fail
              go_roundw
              case rel => exact ⟨[], Bl, O ++ [y], HR.out.takeB HTLb.out HU6.out.2 HB.out.2 (by rw [mrg_nil, mrg_nil])⟩
              case measure => simp [lenOf]; omega
        · rcases Bl with _ | ⟨y, Bl⟩
          · obtain ⟨xb, cb, rfl⟩ := slice_none HR.out.sb
            obtain ⟨ba, oa, ca, na, rfl, hna, hca, hcl, htl⟩ := slice_cons' HR.out.sa
            have Ha := Lib.hid hcl
            obtain ⟨da, hdd⟩ : ∃ d, d = (if ca = 1 then some (⟨ba, oa, none⟩ : Addr) else some ⟨ba, oa + 7, none⟩) := ⟨_, rfl⟩
            rw [← hdd] at htl
            have HDa := Lib.hid hdd
            have HTLa := Lib.hid htl
            clear hdd
            have hposa : 0 < na := by omega
            have hna1 : na ≤ 100000000 := by simp only [List.length_cons] at hO; omega
            have hpa : (0 : Int) < (na : Int) := by omega
            have hda : ((na : Int) == 0) = false := by simp; omega
            have hda2 : ¬ (na : Int) = 0 := by omega
            clear hcl htl hna
            have hO1 : O.length + 1 ≤ 100000000 := by simp only [List.length_cons] at hO; omega
            clear hO
            go_upto_region 7 with fail
            refine ord_a wr (some ⟨ba, oa, none⟩) xb ca na cb _ _ _ _ _ _ _ _ _ _ _ _ _ _ _ _ _ _ _ _ _ _ _ _ _ _ _ _ _ _ _ _ _ _ _ _ _ _ _ _ _ _ _ _ _ _ _ _ _ _ _ _ _ _ _ _ _ _ _ _ _ _ _ ?_
            intro v31 v32 v33 v34 v35 v36 v37 v38 v39 v40 v41 v42 v43 v44 v45 v46 wq hbq
            have HR := Lib.hid (HR.out.later hbq)
            clear hbq
            go_upto_region 8 with fail
            refine wp_region_late [some 48, some 49, some 50, some 51, some 52, some 53, some 54, some 55, some 6] [isW (u6), isW (.slice (some ⟨ba, oa, none⟩) na ca), isW (.pointer (some ⟨ba, oa, none⟩)), isW (.agg #[.int .i64 x.src, .int .i64 x.tgt, .int .i64 x.cls, .int .i64 x.cond, .int .u32 x.allow, .int .u32 x.audit, .int .u32 x.dont]), (fun L v w' => L 5 = false → ∃ g, v = .slice (some ⟨g, 0, none⟩) 1 1 ∧ ∀ j q, ([.int .i64 x.src, .int .i64 x.tgt, .int .i64 x.cls, .int .i64 x.cond, .int .u32 x.allow, .int .u32 x.audit, .int .u32 x.dont] : List Value)[j]? = some q → w'.cell? ((⟨g, 0, none⟩ : Addr).add j) = some q), (fun L v w' => L 5 = true ∧ w'.ownsRow wk.heap.size 61 7 v (O.length + 1) (O.flatMap AEntry.cells ++ [.int .i64 x.src, .int .i64 x.tgt, .int .i64 x.cls, .int .i64 x.cond, .int .u32 x.allow, .int .u32 x.audit, .int .u32 x.dont])), isW (.slice (some ⟨ba, oa, none⟩) na ca), isW (.slice da (na - 1) (ca - 1)), (fun L v w' => L 5 = true ∧ w'.ownsRow wk.heap.size 61 7 v (O.length + 1) (O.flatMap AEntry.cells ++ [.int .i64 x.src, .int .i64 x.tgt, .int .i64 x.cls, .int .i64 x.cond, .int .u32 x.allow, .int .u32 x.audit, .int .u32 x.dont]))] (fun L w' => (L 5 = false → w'.ownsRow wk.heap.size 61 7 u6 O.length (O.flatMap AEntry.cells)) ∧ RowKit.Below wk.heap.size wk w') [5] (by kernel_rfl) (by kernel_rfl) (by kernel_rfl) rfl (by decide) rfl rfl (⟨fun _ => HR.out.own, HR.out.blw.drew⟩) ⟨lastsW_is _, lastsW_is _, lastsW_is _, lastsW_is _, (fun L i v w1 w2 hi h hb h5 => let ⟨g, e, hr⟩ := h (upd_was h5); ⟨g, e, fun j q hq => cell_later hb (hr j q hq)⟩), (fun L i v w1 w2 _ h hb => ⟨by simp [upd, h.1], own_keep hb h.2 (Nat.le_refl _)⟩), lastsW_is _, lastsW_is _, (fun L i v w1 w2 _ h hb => ⟨by simp [upd, h.1], own_keep hb h.2 (Nat.le_refl _)⟩), trivial⟩ ⟨?_, ?_, ?_, ?_, ?_, ?_, ?_, ?_, ?_, ?_⟩
            · intro L a wy Q' hL hi H F hK
              try dsimp only at hi
              have h6 : a.tmps[6]? = some (u6) := F 6 (by kernel_rfl)
              have HI := Lib.hid hi
              clear H F hi hL
              go_wp2_with fail
              exact hK _ _ (Below.refl _ _) HI.out rfl
            · intro L a wy Q' hL hi H F hK
              try dsimp only at hi
              have h4 : a.tmps[4]? = some (.slice (some ⟨ba, oa, none⟩) na ca) := F 4 (by kernel_rfl)
              have HI := Lib.hid hi
              clear H F hi hL
              go_wp2_with fail
              exact hK _ _ (Below.refl _ _) HI.out rfl
            · intro L a wy Q' hL hi H F hK
              try dsimp only at hi
              obtain ⟨_, h49, rfl⟩ := H 1 ⟨.data, by simp, rfl⟩ _ rfl
              replace h49 := h49 _ rfl
              have HI := Lib.hid hi
              clear H F hi hL
              go_wp2_with fail
              exact hK _ _ (Below.refl _ _) HI.out rfl
            · intro L a wy Q' hL hi H F hK
              try dsimp only at hi
              obtain ⟨_, h50, rfl⟩ := H 2 ⟨.data, by simp, rfl⟩ _ rfl
              replace h50 := h50 _ rfl
              have HI := Lib.hid hi
              clear H F hi hL
              have kq0 : wy.cell? ⟨ba, oa, none⟩ = some (.int .i64 x.src) := cell_later HI.out.2 (Ha.out 0 _ rfl)
              have kq1 : wy.cell? ⟨ba, oa + 1, none⟩ = some (.int .i64 x.tgt) := cell_later HI.out.2 (Ha.out 1 _ rfl)
              have kq2 : wy.cell? ⟨ba, oa + 2, none⟩ = some (.int .i64 x.cls) := cell_later HI.out.2 (Ha.out 2 _ rfl)
              have kq3 : wy.cell? ⟨ba, oa + 3, none⟩ = some (.int .i64 x.cond) := cell_later HI.out.2 (Ha.out 3 _ rfl)
              have kq4 : wy.cell? ⟨ba, oa + 4, none⟩ = some (.int .u32 x.allow) := cell_later HI.out.2 (Ha.out 4 _ rfl)
              have kq5 : wy.cell? ⟨ba, oa + 5, none⟩ = some (.int .u32 x.audit) := cell_later HI.out.2 (Ha.out 5 _ rfl)
              have kq6 : wy.cell? ⟨ba, oa + 6, none⟩ = some (.int .u32 x.dont) := cell_later HI.out.2 (Ha.out 6 _ rfl)
              go_wp2_with fail
              exact hK _ _ (Below.refl _ _) HI.out rfl
            · intro L a wy Q' hL hi H F hK
              try dsimp only at hi
              obtain ⟨_, h51, rfl⟩ := H 3 ⟨.data, by simp, rfl⟩ _ rfl
              replace h51 := h51 _ rfl
              have HI := Lib.hid hi
              clear H F hi hL
              go_wp2_with fail
              exact hK _ _ ((Below.refl _ _).alloc (Nat.le_refl _) _) ⟨fun h => own_alloc (HI.out.1 h) _, HI.out.2.alloc HI.out.2.size _⟩ (fun _ => ⟨_, rfl, row_new _ _ _⟩)
            · intro L a wy Q' hL hi H F hK
              try dsimp only at hi
              obtain ⟨_, h48, rfl⟩ := H 0 ⟨.data, by simp, rfl⟩ _ rfl
              replace h48 := h48 _ rfl
              obtain ⟨v52, h52, hv52⟩ := H 4 ⟨.data, by simp, rfl⟩ _ rfl
              replace h52 := h52 _ rfl
              have HV52 := Lib.hid hv52
              clear hv52
              have HI := Lib.hid hi
              clear H F hi
              obtain ⟨g, rfl, hrow⟩ := HV52.out hL
              refine wpList_append_own _ rfl _ _ 52 rfl wk.heap.size 61 i0 z 7 48 Tryd.underlying52 hi hz0 hz1 hz2 hzs (by decide) u6 O.length (O.flatMap AEntry.cells) (by simp [Act.eval, *]) (HI.out.1 hL) ⟨g, 0, none⟩ 1 1 [.int .i64 x.src, .int .i64 x.tgt, .int .i64 x.cls, .int .i64 x.cond, .int .u32 x.allow, .int .u32 x.audit, .int .u32 x.dont] (by simp [Act.eval, *]) rfl hrow ?c2 ?c3 ?c4 ?c5 ?_
              case c2 => simp [Value.oneCell']
              case c3 => unfold maxLen; omega
              case c4 => omega
              case c5 => exact HI.out.2.size
              intro v' w9 hown' hgrow hnil
              exact hK _ _ (show KeepAll _ _ _ _ _ _ _ _ from ⟨(fun _ _ _ _ h => h), (fun _ _ _ _ h => h), (fun _ _ _ _ h => h), (fun _ _ _ _ h => h), (fun _ _ _ _ _ h => by simp [upd] at h), (fun h => absurd rfl h), (fun _ _ _ _ h => h), (fun _ _ _ _ h => h), (fun _ _ _ _ h => by have := h.1; rw [hL] at this; cases this), trivial⟩) ⟨fun h => by simp [upd] at h, HI.out.2.grown hgrow HI.out.2.size (fun q hq => ((HI.out.1 hL).lt q hq).1)⟩ ⟨by simp [upd], hown'⟩
            · intro L a wy Q' hL hi H F hK
              try dsimp only at hi
              have h4 : a.tmps[4]? = some (.slice (some ⟨ba, oa, none⟩) na ca) := F 4 (by kernel_rfl)
              have HI := Lib.hid hi
              clear H F hi hL
              go_wp2_with fail
              exact hK _ _ (Below.refl _ _) HI.out rfl
            · intro L a wy Q' hL hi H F hK
              try dsimp only at hi
              obtain ⟨_, h54, rfl⟩ := H 6 ⟨.data, by simp, rfl⟩ _ rfl
              replace h54 := h54 _ rfl
              have HI := Lib.hid hi
              clear H F hi hL
              have q := run_tail1' wy ba oa na ca hposa
              rw [← HDa.out] at q
              go_wp2_with fail
              exact hK _ _ (Below.refl _ _) HI.out rfl
            · intro L a wy Q' hL hi H F hK
              try dsimp only at hi
              obtain ⟨v53, h53, hv53⟩ := H 5 ⟨.data, by simp, rfl⟩ _ rfl
              replace h53 := h53 _ rfl
              have HV53 := Lib.hid hv53
              clear hv53
              have HI := Lib.hid hi
              clear H F hi hL
              go_wp2_with fail
              exact hK _ _ (Below.refl _ _) HI.out ⟨by simp [upd, HV53.out.1], HV53.out.2⟩
            · intro a wy L hl hi hL Q' hK
              try dsimp only at hi
              have HB := Lib.hid hi
              clear hi hL
              obtain ⟨_, rfl, _, rfl, _, rfl, _, rfl, u52, hu52, u53, hu53, _, rfl, _, rfl, u6, hu6, rfl⟩ := hl
              have HU52 := Lib.hid hu52
              clear hu52
              have HU53 := Lib.hid hu53
              clear hu53
              have HU6 := Lib.hid hu6
              clear hu6
              simp only [List.setIfInBounds_toArray, List.set_cons_zero, List.set_cons_succ]
              go_wp2_with fail
              go_roundw
              case rel => exact ⟨Al, [], O ++ [x], HR.out.takeA HTLa.out HU6.out.2 HB.out.2 (by rw [mrg_nil', mrg_nil'])⟩
              case measure => simp [lenOf]; omega
          · obtain ⟨ba, oa, ca, na, rfl, hna, hca, hcl, htl⟩ := slice_cons' HR.out.sa
            have Ha := Lib.hid hcl
            obtain ⟨da, hdd⟩ : ∃ d, d = (if ca = 1 then some (⟨ba, oa, none⟩ : Addr) else some ⟨ba, oa + 7, none⟩) := ⟨_, rfl⟩
            rw [← hdd] at htl
            have HDa := Lib.hid hdd
            have HTLa := Lib.hid htl
            clear hdd
            have hposa : 0 < na := by omega
            have hna1 : na ≤ 100000000 := by simp only [List.length_cons] at hO; omega
            have hpa : (0 : Int) < (na : Int) := by omega
            have hda : ((na : Int) == 0) = false := by simp; omega
            have hda2 : ¬ (na : Int) = 0 := by omega
            clear hcl htl hna
            obtain ⟨bb, ob, cb, nb, rfl, hnb, hcb, hcl, htl⟩ := slice_cons' HR.out.sb
            have Hb := Lib.hid hcl
            obtain ⟨db, hdd⟩ : ∃ d, d = (if cb = 1 then some (⟨bb, ob, none⟩ : Addr) else some ⟨bb, ob + 7, none⟩) := ⟨_, rfl⟩
            rw [← hdd] at htl
            have HDb := Lib.hid hdd
            have HTLb := Lib.hid htl
            clear hdd
            have hposb : 0 < nb := by omega
            have hnb1 : nb ≤ 100000000 := by simp only [List.length_cons] at hO; omega
            have hpb : (0 : Int) < (nb : Int) := by omega
            have hdb : ((nb : Int) == 0) = false := by simp; omega
            have hdb2 : ¬ (nb : Int) = 0 := by omega
            clear hcl htl hnb
            have hO1 : O.length + 1 ≤ 100000000 := by simp only [List.length_cons] at hO; omega
            clear hO
            go_upto_region 7 with fail
            cases hlt : decide (beforeI x y < 0) with
            | true =>
              have HCB := Lib.hid (show ∀ W, Calls Tryd.prog 59 #[.agg #[.int .i64 x.src, .int .i64 x.tgt, .int .i64 x.cls, .int .i64 x.cond, .int .u32 x.allow, .int .u32 x.audit, .int .u32 x.dont], .agg #[.int .i64 y.src, .int .i64 y.tgt, .int .i64 y.cls, .int .i64 y.cond, .int .u32 y.allow, .int .u32 y.audit, .int .u32 y.dont]] W (fun e w' => e = .returned (.bool true) ∧ RowKit.Below W.heap.size W w') from fun W => by have h := rbefore_any W x y; rw [show decide (beforeI x y < 0) = true from hlt] at h; exact h)
              have HLT := Lib.hid (show ltOf beforeI x y = true from hlt)
              clear hlt
              refine ord_t wr x y ba oa na ca bb ob nb cb hdb hposa hposb (Lib.hid (fun j u hu => cell_later HR.out.blw (Ha.out j u hu))) (Lib.hid (fun j u hu => cell_later HR.out.blw (Hb.out j u hu))) HCB _ _ _ _ _ _ _ _ _ _ _ _ _ _ _ _ _ _ _ _ _ _ _ _ _ _ _ _ _ _ _ _ _ _ _ _ _ _ _ _ _ _ _ _ _ _ _ _ _ _ _ _ _ _ _ _ _ _ _ _ _ _ _ ?_
              intro v31 v32 v33 v34 v35 v36 v37 v38 v39 v40 v41 v42 v43 v44 v45 v46 wq hbq
              have HR := Lib.hid (HR.out.later hbq)
              clear hbq
              go_upto_region 8 with fail
              refine wp_region_late [some 48, some 49, some 50, some 51, some 52, some 53, some 54, some 55, some 6] [isW (u6), isW (.slice (some ⟨ba, oa, none⟩) na ca), isW (.pointer (some ⟨ba, oa, none⟩)), isW (.agg #[.int .i64 x.src, .int .i64 x.tgt, .int .i64 x.cls, .int .i64 x.cond, .int .u32 x.allow, .int .u32 x.audit, .int .u32 x.dont]), (fun L v w' => L 5 = false → ∃ g, v = .slice (some ⟨g, 0, none⟩) 1 1 ∧ ∀ j q, ([.int .i64 x.src, .int .i64 x.tgt, .int .i64 x.cls, .int .i64 x.cond, .int .u32 x.allow, .int .u32 x.audit, .int .u32 x.dont] : List Value)[j]? = some q → w'.cell? ((⟨g, 0, none⟩ : Addr).add j) = some q), (fun L v w' => L 5 = true ∧ w'.ownsRow wk.heap.size 61 7 v (O.length + 1) (O.flatMap AEntry.cells ++ [.int .i64 x.src, .int .i64 x.tgt, .int .i64 x.cls, .int .i64 x.cond, .int .u32 x.allow, .int .u32 x.audit, .int .u32 x.dont])), isW (.slice (some ⟨ba, oa, none⟩) na ca), isW (.slice da (na - 1) (ca - 1)), (fun L v w' => L 5 = true ∧ w'.ownsRow wk.heap.size 61 7 v (O.length + 1) (O.flatMap AEntry.cells ++ [.int .i64 x.src, .int .i64 x.tgt, .int .i64 x.cls, .int .i64 x.cond, .int .u32 x.allow, .int .u32 x.audit, .int .u32 x.dont]))] (fun L w' => (L 5 = false → w'.ownsRow wk.heap.size 61 7 u6 O.length (O.flatMap AEntry.cells)) ∧ RowKit.Below wk.heap.size wk w') [5] (by kernel_rfl) (by kernel_rfl) (by kernel_rfl) rfl (by decide) rfl rfl (⟨fun _ => HR.out.own, HR.out.blw.drew⟩) ⟨lastsW_is _, lastsW_is _, lastsW_is _, lastsW_is _, (fun L i v w1 w2 hi h hb h5 => let ⟨g, e, hr⟩ := h (upd_was h5); ⟨g, e, fun j q hq => cell_later hb (hr j q hq)⟩), (fun L i v w1 w2 _ h hb => ⟨by simp [upd, h.1], own_keep hb h.2 (Nat.le_refl _)⟩), lastsW_is _, lastsW_is _, (fun L i v w1 w2 _ h hb => ⟨by simp [upd, h.1], own_keep hb h.2 (Nat.le_refl _)⟩), trivial⟩ ⟨?_, ?_, ?_, ?_, ?_, ?_, ?_, ?_, ?_, ?_⟩
              · intro L a wy Q' hL hi H F hK
                try dsimp only at hi
                have h6 : a.tmps[6]? = some (u6) := F 6 (by kernel_rfl)
                have HI := Lib.hid hi
                clear H F hi hL
                go_wp2_with fail
                exact hK _ _ (Below.refl _ _) HI.out rfl
              · intro L a wy Q' hL hi H F hK
                try dsimp only at hi
                have h4 : a.tmps[4]? = some (.slice (some ⟨ba, oa, none⟩) na ca) := F 4 (by kernel_rfl)
                have HI := Lib.hid hi
                clear H F hi hL
                go_wp2_with fail
                exact hK _ _ (Below.refl _ _) HI.out rfl
              · intro L a wy Q' hL hi H F hK
                try dsimp only at hi
                obtain ⟨_, h49, rfl⟩ := H 1 ⟨.data, by simp, rfl⟩ _ rfl
                replace h49 := h49 _ rfl
                have HI := Lib.hid hi
                clear H F hi hL
                go_wp2_with fail
                exact hK _ _ (Below.refl _ _) HI.out rfl
              · intro L a wy Q' hL hi H F hK
                try dsimp only at hi
                obtain ⟨_, h50, rfl⟩ := H 2 ⟨.data, by simp, rfl⟩ _ rfl
                replace h50 := h50 _ rfl
                have HI := Lib.hid hi
                clear H F hi hL
                have kq0 : wy.cell? ⟨ba, oa, none⟩ = some (.int .i64 x.src) := cell_later HI.out.2 (Ha.out 0 _ rfl)
                have kq1 : wy.cell? ⟨ba, oa + 1, none⟩ = some (.int .i64 x.tgt) := cell_later HI.out.2 (Ha.out 1 _ rfl)
                have kq2 : wy.cell? ⟨ba, oa + 2, none⟩ = some (.int .i64 x.cls) := cell_later HI.out.2 (Ha.out 2 _ rfl)
                have kq3 : wy.cell? ⟨ba, oa + 3, none⟩ = some (.int .i64 x.cond) := cell_later HI.out.2 (Ha.out 3 _ rfl)
                have kq4 : wy.cell? ⟨ba, oa + 4, none⟩ = some (.int .u32 x.allow) := cell_later HI.out.2 (Ha.out 4 _ rfl)
                have kq5 : wy.cell? ⟨ba, oa + 5, none⟩ = some (.int .u32 x.audit) := cell_later HI.out.2 (Ha.out 5 _ rfl)
                have kq6 : wy.cell? ⟨ba, oa + 6, none⟩ = some (.int .u32 x.dont) := cell_later HI.out.2 (Ha.out 6 _ rfl)
                go_wp2_with fail
                exact hK _ _ (Below.refl _ _) HI.out rfl
              · intro L a wy Q' hL hi H F hK
                try dsimp only at hi
                obtain ⟨_, h51, rfl⟩ := H 3 ⟨.data, by simp, rfl⟩ _ rfl
                replace h51 := h51 _ rfl
                have HI := Lib.hid hi
                clear H F hi hL
                go_wp2_with fail
                exact hK _ _ ((Below.refl _ _).alloc (Nat.le_refl _) _) ⟨fun h => own_alloc (HI.out.1 h) _, HI.out.2.alloc HI.out.2.size _⟩ (fun _ => ⟨_, rfl, row_new _ _ _⟩)
              · intro L a wy Q' hL hi H F hK
                try dsimp only at hi
                obtain ⟨_, h48, rfl⟩ := H 0 ⟨.data, by simp, rfl⟩ _ rfl
                replace h48 := h48 _ rfl
                obtain ⟨v52, h52, hv52⟩ := H 4 ⟨.data, by simp, rfl⟩ _ rfl
                replace h52 := h52 _ rfl
                have HV52 := Lib.hid hv52
                clear hv52
                have HI := Lib.hid hi
                clear H F hi
                obtain ⟨g, rfl, hrow⟩ := HV52.out hL
                refine wpList_append_own _ rfl _ _ 52 rfl wk.heap.size 61 i0 z 7 48 Tryd.underlying52 hi hz0 hz1 hz2 hzs (by decide) u6 O.length (O.flatMap AEntry.cells) (by simp [Act.eval, *]) (HI.out.1 hL) ⟨g, 0, none⟩ 1 1 [.int .i64 x.src, .int .i64 x.tgt, .int .i64 x.cls, .int .i64 x.cond, .int .u32 x.allow, .int .u32 x.audit, .int .u32 x.dont] (by simp [Act.eval, *]) rfl hrow ?c2 ?c3 ?c4 ?c5 ?_
                case c2 => simp [Value.oneCell']
                case c3 => unfold maxLen; omega
                case c4 => omega
                case c5 => exact HI.out.2.size
                intro v' w9 hown' hgrow hnil
                exact hK _ _ (show KeepAll _ _ _ _ _ _ _ _ from ⟨(fun _ _ _ _ h => h), (fun _ _ _ _ h => h), (fun _ _ _ _ h => h), (fun _ _ _ _ h => h), (fun _ _ _ _ _ h => by simp [upd] at h), (fun h => absurd rfl h), (fun _ _ _ _ h => h), (fun _ _ _ _ h => h), (fun _ _ _ _ h => by have := h.1; rw [hL] at this; cases this), trivial⟩) ⟨fun h => by simp [upd] at h, HI.out.2.grown hgrow HI.out.2.size (fun q hq => ((HI.out.1 hL).lt q hq).1)⟩ ⟨by simp [upd], hown'⟩
              · intro L a wy Q' hL hi H F hK
                try dsimp only at hi
                have h4 : a.tmps[4]? = some (.slice (some ⟨ba, oa, none⟩) na ca) := F 4 (by kernel_rfl)
                have HI := Lib.hid hi
                clear H F hi hL
                go_wp2_with fail
                exact hK _ _ (Below.refl _ _) HI.out rfl
              · intro L a wy Q' hL hi H F hK
                try dsimp only at hi
                obtain ⟨_, h54, rfl⟩ := H 6 ⟨.data, by simp, rfl⟩ _ rfl
                replace h54 := h54 _ rfl
                have HI := Lib.hid hi
                clear H F hi hL
                have q := run_tail1' wy ba oa na ca hposa
                rw [← HDa.out] at q
                go_wp2_with fail
                exact hK _ _ (Below.refl _ _) HI.out rfl
              · intro L a wy Q' hL hi H F hK
                try dsimp only at hi
                obtain ⟨v53, h53, hv53⟩ := H 5 ⟨.data, by simp, rfl⟩ _ rfl
                replace h53 := h53 _ rfl
                have HV53 := Lib.hid hv53
                clear hv53
                have HI := Lib.hid hi
                clear H F hi hL
                go_wp2_with fail
                exact hK _ _ (Below.refl _ _) HI.out ⟨by simp [upd, HV53.out.1], HV53.out.2⟩
              · intro a wy L hl hi hL Q' hK
                try dsimp only at hi
                have HB := Lib.hid hi
                clear hi hL
                obtain ⟨_, rfl, _, rfl, _, rfl, _, rfl, u52, hu52, u53, hu53, _, rfl, _, rfl, u6, hu6, rfl⟩ := hl
                have HU52 := Lib.hid hu52
                clear hu52
                have HU53 := Lib.hid hu53
                clear hu53
                have HU6 := Lib.hid hu6
                clear hu6
                simp only [List.setIfInBounds_toArray, List.set_cons_zero, List.set_cons_succ]
                go_wp2_with fail
                go_roundw
                case rel => exact ⟨Al, y :: Bl, O ++ [x], HR.out.takeA HTLa.out HU6.out.2 HB.out.2 (mrg_lt _ _ HLT.out)⟩
                case measure => simp [lenOf]; omega
            | false =>
              have HCB := Lib.hid (show ∀ W, Calls Tryd.prog 59 #[.agg #[.int .i64 x.src, .int .i64 x.tgt, .int .i64 x.cls, .int .i64 x.cond, .int .u32 x.allow, .int .u32 x.audit, .int .u32 x.dont], .agg #[.int .i64 y.src, .int .i64 y.tgt, .int .i64 y.cls, .int .i64 y.cond, .int .u32 y.allow, .int .u32 y.audit, .int .u32 y.dont]] W (fun e w' => e = .returned (.bool false) ∧ RowKit.Below W.heap.size W w') from fun W => by have h := rbefore_any W x y; rw [show decide (beforeI x y < 0) = false from hlt] at h; exact h)
              have HLT := Lib.hid (show ltOf beforeI x y = false from hlt)
              clear hlt
              refine ord_f wr x y ba oa na ca bb ob nb cb hdb hposa hposb (Lib.hid (fun j u hu => cell_later HR.out.blw (Ha.out j u hu))) (Lib.hid (fun j u hu => cell_later HR.out.blw (Hb.out j u hu))) HCB _ _ _ _ _ _ _ _ _ _ _ _ _ _ _ _ _ _ _ _ _ _ _ _ _ _ _ _ _ _ _ _ _ _ _ _ _ _ _ _ _ _ _ _ _ _ _ _ _ _ _ _ _ _ _ _ _ _ _ _ _ _ _ ?_
              intro v31 v32 v33 v34 v35 v36 v37 v38 v39 v40 v41 v42 v43 v44 v45 v46 wq hbq
              have HR := Lib.hid (HR.out.later hbq)
              clear hbq
              go_upto_region 9 with fail
              refine wp_region_late [some 56, some 57, some 58, some 59, some 60, some 61, some 62, some 63, some 6] [isW (u6), isW (.slice (some ⟨bb, ob, none⟩) nb cb), isW (.pointer (some ⟨bb, ob, none⟩)), isW (.agg #[.int .i64 y.src, .int .i64 y.tgt, .int .i64 y.cls, .int .i64 y.cond, .int .u32 y.allow, .int .u32 y.audit, .int .u32 y.dont]), (fun L v w' => L 5 = false → ∃ g, v = .slice (some ⟨g, 0, none⟩) 1 1 ∧ ∀ j q, ([.int .i64 y.src, .int .i64 y.tgt, .int .i64 y.cls, .int .i64 y.cond, .int .u32 y.allow, .int .u32 y.audit, .int .u32 y.dont] : List Value)[j]? = some q → w'.cell? ((⟨g, 0, none⟩ : Addr).add j) = some q), (fun L v w' => L 5 = true ∧ w'.ownsRow wk.heap.size 61 7 v (O.length + 1) (O.flatMap AEntry.cells ++ [.int .i64 y.src, .int .i64 y.tgt, .int .i64 y.cls, .int .i64 y.cond, .int .u32 y.allow, .int .u32 y.audit, .int .u32 y.dont])), isW (.slice (some ⟨bb, ob, none⟩) nb cb), isW (.slice db (nb - 1) (cb - 1)), (fun L v w' => L 5 = true ∧ w'.ownsRow wk.heap.size 61 7 v (O.length + 1) (O.flatMap AEntry.cells ++ [.int .i64 y.src, .int .i64 y.tgt, .int .i64 y.cls, .int .i64 y.cond, .int .u32 y.allow, .int .u32 y.audit, .int .u32 y.dont]))] (fun L w' => (L 5 = false → w'.ownsRow wk.heap.size 61 7 u6 O.length (O.flatMap AEntry.cells)) ∧ RowKit.Below wk.heap.size wk w') [5] (by kernel_rfl) (by kernel_rfl) (by kernel_rfl) rfl (by decide) rfl rfl (⟨fun _ => HR.out.own, HR.out.blw.drew⟩) ⟨lastsW_is _, lastsW_is _, lastsW_is _, lastsW_is _, (fun L i v w1 w2 hi h hb h5 => let ⟨g, e, hr⟩ := h (upd_was h5); ⟨g, e, fun j q hq => cell_later hb (hr j q hq)⟩), (fun L i v w1 w2 _ h hb => ⟨by simp [upd, h.1], own_keep hb h.2 (Nat.le_refl _)⟩), lastsW_is _, lastsW_is _, (fun L i v w1 w2 _ h hb => ⟨by simp [upd, h.1], own_keep hb h.2 (Nat.le_refl _)⟩), trivial⟩ ⟨?_, ?_, ?_, ?_, ?_, ?_, ?_, ?_, ?_, ?_⟩
              · intro L a wy Q' hL hi H F hK
                try dsimp only at hi
                have h6 : a.tmps[6]? = some (u6) := F 6 (by kernel_rfl)
                have HI := Lib.hid hi
                clear H F hi hL
                go_wp2_with fail
                exact hK _ _ (Below.refl _ _) HI.out rfl
              · intro L a wy Q' hL hi H F hK
                try dsimp only at hi
                have h5 : a.tmps[5]? = some (.slice (some ⟨bb, ob, none⟩) nb cb) := F 5 (by kernel_rfl)
                have HI := Lib.hid hi
                clear H F hi hL
                go_wp2_with fail
                exact hK _ _ (Below.refl _ _) HI.out rfl
              · intro L a wy Q' hL hi H F hK
                try dsimp only at hi
                obtain ⟨_, h57, rfl⟩ := H 1 ⟨.data, by simp, rfl⟩ _ rfl
                replace h57 := h57 _ rfl
                have HI := Lib.hid hi
                clear H F hi hL
                go_wp2_with fail
                exact hK _ _ (Below.refl _ _) HI.out rfl
              · intro L a wy Q' hL hi H F hK
                try dsimp only at hi
                obtain ⟨_, h58, rfl⟩ := H 2 ⟨.data, by simp, rfl⟩ _ rfl
                replace h58 := h58 _ rfl
                have HI := Lib.hid hi
                clear H F hi hL
                have kq0 : wy.cell? ⟨bb, ob, none⟩ = some (.int .i64 y.src) := cell_later HI.out.2 (Hb.out 0 _ rfl)
                have kq1 : wy.cell? ⟨bb, ob + 1, none⟩ = some (.int .i64 y.tgt) := cell_later HI.out.2 (Hb.out 1 _ rfl)
                have kq2 : wy.cell? ⟨bb, ob + 2, none⟩ = some (.int .i64 y.cls) := cell_later HI.out.2 (Hb.out 2 _ rfl)
                have kq3 : wy.cell? ⟨bb, ob + 3, none⟩ = some (.int .i64 y.cond) := cell_later HI.out.2 (Hb.out 3 _ rfl)
                have kq4 : wy.cell? ⟨bb, ob + 4, none⟩ = some (.int .u32 y.allow) := cell_later HI.out.2 (Hb.out 4 _ rfl)
                have kq5 : wy.cell? ⟨bb, ob + 5, none⟩ = some (.int .u32 y.audit) := cell_later HI.out.2 (Hb.out 5 _ rfl)
                have kq6 : wy.cell? ⟨bb, ob + 6, none⟩ = some (.int .u32 y.dont) := cell_later HI.out.2 (Hb.out 6 _ rfl)
                go_wp2_with fail
                exact hK _ _ (Below.refl _ _) HI.out rfl
              · intro L a wy Q' hL hi H F hK
                try dsimp only at hi
                obtain ⟨_, h59, rfl⟩ := H 3 ⟨.data, by simp, rfl⟩ _ rfl
                replace h59 := h59 _ rfl
                have HI := Lib.hid hi
                clear H F hi hL
                go_wp2_with fail
                exact hK _ _ ((Below.refl _ _).alloc (Nat.le_refl _) _) ⟨fun h => own_alloc (HI.out.1 h) _, HI.out.2.alloc HI.out.2.size _⟩ (fun _ => ⟨_, rfl, row_new _ _ _⟩)
              · intro L a wy Q' hL hi H F hK
                try dsimp only at hi
                obtain ⟨_, h56, rfl⟩ := H 0 ⟨.data, by simp, rfl⟩ _ rfl
                replace h56 := h56 _ rfl
                obtain ⟨v60, h60, hv60⟩ := H 4 ⟨.data, by simp, rfl⟩ _ rfl
                replace h60 := h60 _ rfl
                have HV60 := Lib.hid hv60
                clear hv60
                have HI := Lib.hid hi
                clear H F hi
                obtain ⟨g, rfl, hrow⟩ := HV60.out hL
                refine wpList_append_own _ rfl _ _ 52 rfl wk.heap.size 61 i0 z 7 48 Tryd.underlying52 hi hz0 hz1 hz2 hzs (by decide) u6 O.length (O.flatMap AEntry.cells) (by simp [Act.eval, *]) (HI.out.1 hL) ⟨g, 0, none⟩ 1 1 [.int .i64 y.src, .int .i64 y.tgt, .int .i64 y.cls, .int .i64 y.cond, .int .u32 y.allow, .int .u32 y.audit, .int .u32 y.dont] (by simp [Act.eval, *]) rfl hrow ?c2 ?c3 ?c4 ?c5 ?_
                case c2 => simp [Value.oneCell']
                case c3 => unfold maxLen; omega
                case c4 => omega
                case c5 => exact HI.out.2.size
                intro v' w9 hown' hgrow hnil
                exact hK _ _ (show KeepAll _ _ _ _ _ _ _ _ from ⟨(fun _ _ _ _ h => h), (fun _ _ _ _ h => h), (fun _ _ _ _ h => h), (fun _ _ _ _ h => h), (fun _ _ _ _ _ h => by simp [upd] at h), (fun h => absurd rfl h), (fun _ _ _ _ h => h), (fun _ _ _ _ h => h), (fun _ _ _ _ h => by have := h.1; rw [hL] at this; cases this), trivial⟩) ⟨fun h => by simp [upd] at h, HI.out.2.grown hgrow HI.out.2.size (fun q hq => ((HI.out.1 hL).lt q hq).1)⟩ ⟨by simp [upd], hown'⟩
              · intro L a wy Q' hL hi H F hK
                try dsimp only at hi
                have h5 : a.tmps[5]? = some (.slice (some ⟨bb, ob, none⟩) nb cb) := F 5 (by kernel_rfl)
                have HI := Lib.hid hi
                clear H F hi hL
                go_wp2_with fail
                exact hK _ _ (Below.refl _ _) HI.out rfl
              · intro L a wy Q' hL hi H F hK
                try dsimp only at hi
                obtain ⟨_, h62, rfl⟩ := H 6 ⟨.data, by simp, rfl⟩ _ rfl
                replace h62 := h62 _ rfl
                have HI := Lib.hid hi
                clear H F hi hL
                have q := run_tail1' wy bb ob nb cb hposb
                rw [← HDb.out] at q
                go_wp2_with fail
                exact hK _ _ (Below.refl _ _) HI.out rfl
              · intro L a wy Q' hL hi H F hK
                try dsimp only at hi
                obtain ⟨v61, h61, hv61⟩ := H 5 ⟨.data, by simp, rfl⟩ _ rfl
                replace h61 := h61 _ rfl
                have HV61 := Lib.hid hv61
                clear hv61
                have HI := Lib.hid hi
                clear H F hi hL
                go_wp2_with fail
                exact hK _ _ (Below.refl _ _) HI.out ⟨by simp [upd, HV61.out.1], HV61.out.2⟩
              · intro a wy L hl hi hL Q' hK
                try dsimp only at hi
                have HB := Lib.hid hi
                clear hi hL
                obtain ⟨_, rfl, _, rfl, _, rfl, _, rfl, u60, hu60, u61, hu61, _, rfl, _, rfl, u6, hu6, rfl⟩ := hl
                have HU60 := Lib.hid hu60
                clear hu60
                have HU61 := Lib.hid hu61
                clear hu61
                have HU6 := Lib.hid hu6
                clear hu6
                simp only [List.setIfInBounds_toArray, List.set_cons_zero, List.set_cons_succ]
                go_wp2_with fail
                go_roundw
                case rel => exact ⟨x :: Al, Bl, O ++ [y], HR.out.takeB HTLb.out HU6.out.2 HB.out.2 (mrg_ge _ _ HLT.out)⟩
                case measure => simp [lenOf]; omega

end Go.Proofs.YtmkfabdkadocdaaDoor

/-
  The reference's union, in plain words: what its loop keeps.
-/
namespace Go.Proofs.YtmkfabdkadocdaaDoor
open Go Go.WideMaps Go.RowKit Go.Sort

theorem key61 {k : Key4} (h : k.Ok) : ∃ l, keyOf Tryd.prog 61 (.agg #[.int .i64 k.src, .int .i64 k.tgt, .int .i64 k.cls, .int .i64 k.cond, .int .u32 0, .int .u32 0, .int .u32 0]) = some l := by
  obtain ⟨m, hm⟩ := sizeT
  have wa := i64_wf h.src
  have wb := i64_wf h.tgt
  have wc := i64_wf h.cls
  have wd := i64_wf h.cond
  have wz : (Lit.int .u32 0).wf = true := by decide
  obtain ⟨a, b, c, d⟩ := k
  dsimp only at wa wb wc wd
  have hu : Tryd.prog.underlying 61 = some (.struct (Tryd.prog.fieldsOf 61)) := by kernel_rfl
  have hk : Tryd.prog.keyType 61 = true := by kernel_rfl
  have hc : Tryd.prog.cellsOf 61 = 7 := by kernel_rfl
  have hc3 : Tryd.prog.cellsOf 3 = 1 := by kernel_rfl
  have hc25 : Tryd.prog.cellsOf 25 = 1 := by kernel_rfl
  have hf : (Tryd.prog.fieldsOf 61).toList.map (fun f => (f.type, f.offset)) = [(3, 0), (3, 1), (3, 2), (3, 3), (25, 4), (25, 5), (25, 6)] := by kernel_rfl
  have hn : (Tryd.prog.fieldsOf 61).all (fun f => f.name != "_") = true := by kernel_rfl
  have hform : (Value.agg #[.int .i64 a, .int .i64 b, .int .i64 c, .int .i64 d, .int .u32 0, .int .u32 0, .int .u32 0]).formed Tryd.prog 61 = true := by kernel_rfl
  unfold keyOf
  simp only [hu]
  rw [if_pos (by rw [hk, hform]; rfl), hm]
  unfold Program.keyLits
  simp only [hu, Value.cells]
  rw [if_pos ⟨by rw [hc]; rfl, hn⟩]
  generalize (Tryd.prog.fieldsOf 61).toList = fs at hf
  obtain ⟨f0, f1, f2, f3, f4, f5, f6, rfl⟩ : ∃ f0 f1 f2 f3 f4 f5 f6, fs = [f0, f1, f2, f3, f4, f5, f6] := by
    have hl : fs.length = 7 := by simpa using congrArg List.length hf
    match fs, hl with
    | [f0, f1, f2, f3, f4, f5, f6], _ => exact ⟨_, _, _, _, _, _, _, rfl⟩
  simp only [List.map_cons, List.map_nil, List.cons.injEq, Prod.mk.injEq, and_true] at hf
  obtain ⟨⟨t0, o0⟩, ⟨t1, o1⟩, ⟨t2, o2⟩, ⟨t3, o3⟩, ⟨t4, o4⟩, ⟨t5, o5⟩, ⟨t6, o6⟩⟩ := hf
  obtain ⟨m', rfl⟩ : ∃ m', m = m' + 1 := ⟨m - 1, by have h : 1 < Tryd.prog.types.size := of_decide_eq_true (by kernel_rfl); omega⟩
  simp [List.mapM_cons, t0, o0, t1, o1, t2, o2, t3, o3, t4, o4, t5, o5, t6, o6, hc3, hc25, lit3, lit25, wa, wb, wc, wd, wz]
def kpair (p : AEntry × Nat) : Value × Value := (.agg #[.int .i64 p.1.src, .int .i64 p.1.tgt, .int .i64 p.1.cls, .int .i64 p.1.cond, .int .u32 0, .int .u32 0, .int .u32 0], .int .i64 (p.2 : Int))
/-- Where the entries are. -/
def idxD (O : List AEntry) : List (Value × Value) := O.zipIdx.map kpair
theorem idxD_snoc (O : List AEntry) (x : AEntry) : idxD (O ++ [x]) = idxD O ++ [kpair (x, O.length)] := by
  unfold idxD
  rw [List.zipIdx_append, List.map_append]
  simp
theorem idxD_mem {O : List AEntry} {j : Nat} {y : AEntry} (h : O[j]? = some y) : kpair (y, j) ∈ idxD O := by
  refine List.mem_map.2 ⟨(y, j), ?_, rfl⟩
  exact List.mem_zipIdx_iff_getElem?.2 h
theorem idxD_no {O : List AEntry} {k : Key4} (h : k ∉ O.map AEntry.key) : ∀ p ∈ idxD O, p.1 ≠ .agg #[.int .i64 k.src, .int .i64 k.tgt, .int .i64 k.cls, .int .i64 k.cond, .int .u32 0, .int .u32 0, .int .u32 0] := by
  intro p hp e
  obtain ⟨⟨y, j⟩, hy, rfl⟩ := List.mem_map.1 hp
  have hy' : y ∈ O := (List.mem_of_getElem? (List.mem_zipIdx_iff_getElem?.1 hy))
  simp [kpair] at e
  exact h (List.mem_map.2 ⟨y, hy', by obtain ⟨a, b, c, d⟩ := k; unfold AEntry.key; rw [Key4.mk.injEq]; exact ⟨e.1, e.2.1, e.2.2.1, e.2.2.2⟩⟩)
theorem idxD_set {O : List AEntry} {j : Nat} {y y' : AEntry} (h : O[j]? = some y) (hk : y'.key = y.key) : idxD (O.set j y') = idxD O := by
  unfold idxD
  refine List.ext_getElem? fun i => ?_
  rw [List.getElem?_map, List.getElem?_map, List.getElem?_zipIdx, List.getElem?_zipIdx, List.getElem?_set]
  by_cases e : j = i
  · subst e
    rw [if_pos rfl, if_pos (List.getElem?_eq_some_iff.1 h).1, h]
    simp only [Option.map_some, kpair]
    have : y'.src = y.src ∧ y'.tgt = y.tgt ∧ y'.cls = y.cls ∧ y'.cond = y.cond := by simpa [AEntry.key] using hk
    rw [this.1, this.2.1, this.2.2.1, this.2.2.2]
  · rw [if_neg e]
/-- The list that holds what has been joined so far. -/
structure UniL (L O : List AEntry) : Prop where
  nod : (O.map AEntry.key).Nodup
  mem : ∀ e, e ∈ O ↔ e.vecs = accE L e.key ∧ accE L e.key ≠ AVec.zero
theorem accE_snoc (L : List AEntry) (x : AEntry) : accE (L ++ [x]) = fun k => if k = x.key then (accE L x.key).or x.vecs else accE L k := by
  unfold accE kvs
  rw [List.map_append, List.map_singleton, accum_next]
theorem accE_val (L : List AEntry) (k : Key4) : (accE L k).Ok := by
  have : ∀ (L : List (Key4 × AVec)) (f : Key4 → AVec), (∀ k, (f k).Ok) → ∀ k, ((L.foldl (fun f p => updV f p.1 p.2) f) k).Ok := by
    intro L
    induction L with
    | nil => intro f hf k; exact hf k
    | cons p L ih =>
      intro f hf k
      rw [List.foldl_cons]
      refine ih _ (fun x => ?_) k
      unfold updV
      split
      · exact AVec.or_ok _ _
      · exact hf x
  exact this _ _ (fun _ => AVec.zero_ok) k
theorem UniL.nil : UniL [] [] := ⟨by simp, fun e => by simp [accE, kvs, accum]⟩
theorem UniL.skip {L O : List AEntry} {x : AEntry} (h : UniL L O) (hx : x.vecs = AVec.zero) : UniL (L ++ [x]) O := by
  have e : accE (L ++ [x]) = accE L := by
    rw [accE_snoc]
    funext k
    split
    · rename_i hk
      rw [hk, hx, AVec.or_zero (accE_val _ _)]
    · rfl
  exact ⟨h.nod, fun y => by rw [e]; exact h.mem y⟩
theorem UniL.no {L O : List AEntry} (h : UniL L O) {k : Key4} (hk : k ∉ O.map AEntry.key) : accE L k = AVec.zero := by
  apply Classical.byContradiction
  intro hne
  exact hk (List.mem_map.2 ⟨mkE k (accE L k), (h.mem _).2 ⟨rfl, hne⟩, rfl⟩)
theorem UniL.new {L O : List AEntry} {x : AEntry} (h : UniL L O) (hok : x.Ok) (hx : x.vecs ≠ AVec.zero) (hk : x.key ∉ O.map AEntry.key) : UniL (L ++ [x]) (O ++ [x]) := by
  have hz := h.no hk
  refine ⟨?_, fun e => ?_⟩
  · rw [List.map_append, List.map_singleton, List.nodup_append]
    refine ⟨h.nod, by simp, fun a ha b hb e => ?_⟩
    simp at hb
    subst hb
    subst e
    exact hk ha
  · rw [List.mem_append, List.mem_singleton, accE_snoc]
    by_cases he : e.key = x.key
    · simp only [if_pos he, hz, AVec.zero_or hok.2]
      constructor
      · rintro (h1 | rfl)
        · exact absurd (he ▸ List.mem_map.2 ⟨e, h1, rfl⟩) hk
        · exact ⟨rfl, hx⟩
      · rintro ⟨h1, _⟩
        exact .inr (entry_ext he h1)
    · simp only [if_neg he]
      rw [← h.mem]
      constructor
      · rintro (h1 | rfl)
        · exact h1
        · exact absurd rfl he
      · exact .inl
theorem UniL.join {L O : List AEntry} {x y : AEntry} {j : Nat} (h : UniL L O) (hy : O[j]? = some y) (hyk : y.key = x.key) (hok : x.Ok) (hx : x.vecs ≠ AVec.zero) : UniL (L ++ [x]) (O.set j (mkE y.key (y.vecs.or x.vecs))) := by
  have hyo : y ∈ O := List.mem_of_getElem? hy
  have hv := (h.mem y).1 hyo
  have hjl := (List.getElem?_eq_some_iff.1 hy).1
  have hkeys : (O.set j (mkE y.key (y.vecs.or x.vecs))).map AEntry.key = O.map AEntry.key := by
    rw [List.map_set]
    refine List.ext_getElem? fun i => ?_
    rw [List.getElem?_set]
    by_cases e : j = i
    · subst e
      rw [if_pos rfl, if_pos (by simpa using hjl), List.getElem?_map, hy]
      rfl
    · rw [if_neg e]
  refine ⟨by rw [hkeys]; exact h.nod, fun e => ?_⟩
  rw [accE_snoc]
  have hor : (y.vecs.or x.vecs) = (accE L x.key).or x.vecs := by rw [hv.1, hyk]
  have hne : (accE L x.key).or x.vecs ≠ AVec.zero := fun h0 => hx (AVec.or_eq_zero (accE_val _ _) hok.2 h0).2
  by_cases he : e.key = x.key
  · simp only [if_pos he]
    constructor
    · intro hm
      obtain ⟨i, hi⟩ := List.getElem?_of_mem hm
      rw [List.getElem?_set] at hi
      by_cases e1 : j = i
      · subst e1
        rw [if_pos rfl, if_pos hjl] at hi
        cases hi
        exact ⟨hor, hne⟩
      · rw [if_neg e1] at hi
        exfalso
        have hn := List.nodup_iff_pairwise_ne.1 h.nod
        have hi1 : (O.map AEntry.key)[i]? = some x.key := by rw [List.getElem?_map, hi]; simp [he]
        have hj1 : (O.map AEntry.key)[j]? = some x.key := by rw [List.getElem?_map, hy]; simp [hyk]
        obtain ⟨a1, a2⟩ := List.getElem?_eq_some_iff.1 hi1
        obtain ⟨b1, b2⟩ := List.getElem?_eq_some_iff.1 hj1
        have hp := List.pairwise_iff_getElem.1 hn
        rcases Nat.lt_trichotomy i j with hlt | hlt | hlt
        · exact hp i j a1 b1 hlt (a2.trans b2.symm)
        · exact e1 hlt.symm
        · exact hp j i b1 a1 hlt (b2.trans a2.symm)
    · rintro ⟨h1, _⟩
      have : e = mkE y.key (y.vecs.or x.vecs) := entry_ext (he.trans hyk.symm) (h1.trans hor.symm)
      rw [this]
      exact List.mem_of_getElem? (i := j) (by rw [List.getElem?_set, if_pos rfl, if_pos hjl])
  · simp only [if_neg he]
    rw [← h.mem]
    constructor
    · intro hm
      rcases List.mem_or_eq_of_mem_set hm with h1 | rfl
      · exact h1
      · exact absurd hyk he
    · intro hm
      obtain ⟨i, hi⟩ := List.getElem?_of_mem hm
      refine List.mem_of_getElem? (i := i) ?_
      rw [List.getElem?_set, if_neg]
      · exact hi
      · intro e1
        subst e1
        rw [hy] at hi
        cases hi
        exact he hyk
/-- Sorted by key, it is the canonical list. -/
theorem UniL.canon {L O R : List AEntry} (h : UniL L O) (hp : R.Perm O) (hs : R.Pairwise Leq) : Canon (accE L) R := by
  refine ⟨?_, fun e => (hp.mem_iff).trans (h.mem e)⟩
  have hnd : (R.map AEntry.key).Nodup := (hp.map AEntry.key).nodup_iff.2 h.nod
  have hnd' : R.Pairwise fun x y => x.key ≠ y.key := List.pairwise_map.1 hnd
  exact (hs.and hnd').imp fun {a b} hab => bef_total hab.2 hab.1
end Go.Proofs.YtmkfabdkadocdaaDoor

/-
  The reference's union: the stores into an entry.
-/
namespace Go.Proofs.YtmkfabdkadocdaaDoor
open Go Go.WideMaps Go.RowKit Go.Sort

theorem splice_one {cur : Array Value} {o f : Nat} {C : List Value} {v : Value} (hC : (cur.toList.drop o).take C.length = C) (hf : f < C.length) (hfit : o + C.length ≤ cur.size) : splice cur (o + f) [v] = splice cur o (C.set f v) := by
  apply Array.ext'
  rw [splice_toList _ o (C.set f v) (by simpa using hfit)]
  show (cur.setIfInBounds (o + f) v).toList = _
  rw [Array.toList_setIfInBounds]
  have e : cur.toList = cur.toList.take o ++ (C ++ cur.toList.drop (o + C.length)) := by
    have h1 := (List.take_append_drop C.length (cur.toList.drop o)).symm
    rw [hC, List.drop_drop] at h1
    rw [← h1, List.take_append_drop]
  have hlo : (cur.toList.take o).length = o := by rw [List.length_take, Array.length_toList]; omega
  conv => lhs; rw [e]
  rw [List.set_append_right _ _ (by omega), hlo, Nat.add_sub_cancel_left, List.set_append_left _ _ hf, List.length_set, List.append_assoc]
/-- An own row with one cell of an entry stored. -/
theorem own_cell {w' : World} {base g n cap : Nat} {O : List AEntry} {cur : Array Value} {j f : Nat} {y y' : AEntry} {v : Value} (hn : O.length = n) (hg : base ≤ g) (hnc : n ≤ cap) (hcm : cap ≤ maxLen) (hcs : cur.size = cap * 7) (ht : cur.toList.take (n * 7) = O.flatMap AEntry.cells)
    (hy : O[j]? = some y) (hf : f < 7) (hc : y'.cells = y.cells.set f v) (hw : Whole w' g 61 (splice cur (j * 7 + f) [v])) : w'.ownsRow base 61 7 (.slice (some ⟨g, 0, none⟩) n cap) n ((O.set j y').flatMap AEntry.cells) ∧ (splice cur (j * 7 + f) [v]).size = cap * 7 ∧ (splice cur (j * 7 + f) [v]).toList.take (n * 7) = (O.set j y').flatMap AEntry.cells := by
  have hj : j < n := by rw [← hn]; exact (List.getElem?_eq_some_iff.1 hy).1
  have h7 : j * 7 + 7 ≤ n * 7 := by omega
  have h8 : n * 7 ≤ cap * 7 := Nat.mul_le_mul_right _ hnc
  have hC : (cur.toList.drop (j * 7)).take y.cells.length = y.cells := by
    refine List.ext_getElem? fun i => ?_
    rw [List.getElem?_take]
    have hl : y.cells.length = 7 := rfl
    by_cases hi : i < 7
    · rw [hl, if_pos hi, List.getElem?_drop]
      have h1 : (cur.toList.take (n * 7))[j * 7 + i]? = cur.toList[j * 7 + i]? := by rw [List.getElem?_take, if_pos (by omega)]
      rw [← h1, ht, flat_at entry_len hy i hi]
    · rw [hl, if_neg hi, List.getElem?_eq_none (by rw [hl]; omega)]
  have hs := splice_one (v := v) hC (f := f) hf (by show j * 7 + 7 ≤ _; omega)
  rw [hs, ← hc] at hw ⊢
  have hfl : ∀ l : List AEntry, (l.map AEntry.cells).flatten = l.flatMap AEntry.cells := fun l => by rw [List.flatMap_def]
  have h9 := own_set (w' := w') (xs := O.map AEntry.cells) (k := 7) (fun z hz => by obtain ⟨q, -, rfl⟩ := List.mem_map.1 hz; rfl) (by simpa using hn) hg hnc hcm hcs (by rw [hfl]; exact ht) hj (l := y'.cells) rfl hw
  rw [← List.map_set, hfl] at h9
  refine ⟨h9, by rw [splice_size]; exact hcs, ?_⟩
  rw [splice_toList _ _ _ (by show j * 7 + 7 ≤ _; omega)]
  have e2 : O.flatMap AEntry.cells = cur.toList.take (n * 7) := ht.symm
  rw [← hfl, List.map_set, flatten_set (k := 7) (fun z hz => by obtain ⟨q, -, rfl⟩ := List.mem_map.1 hz; rfl) (by simpa using (by omega : j < O.length)) y'.cells, hfl, e2]
  have hl : y'.cells.length = 7 := rfl
  rw [List.take_append, List.take_append, List.length_append, List.length_take, Array.length_toList, List.take_take, List.take_take]
  rw [Nat.min_eq_left (by omega : j * 7 ≤ cur.size), Nat.min_eq_right (by omega : j * 7 ≤ n * 7), Nat.min_eq_left (by omega : j * 7 ≤ n * 7)]
  rw [List.take_of_length_le (l := y'.cells) (by omega), List.drop_take, hl]
set_option maxRecDepth 100000 in
set_option maxHeartbeats 2000000 in
theorem uni_13 (w : World) (g xb n cap j : Nat) (x y : AEntry) (cur : Array Value) (x0 x1 x2 x4 x5 x7 x9 x10 x11 x12 x13 x14 x15 x16 x17 x18 x19 x20 x21 x22 x23 x24 x25 x26 x27 x28 x29 x30 x31 x32 x33 x34 x35 x36 x37 x38 x39 x40 x41 x42 x43 x44 x45 x46 x47 x48 x49 x50 x51 x52 x53 x54 x55 x56 x57 x58 x59 x60 x61 x62 x63 x64 x65 x66 x67 x68 x69 x70 x71 x72 x73 x74 x75 x76 x77 x78 x79 x80 x81 x82 x83 x84 x85 x86 x87 x88 x89 x90 x91 x92 x93 x94 x95 x96 : Value) (hj : j < n) (HX : Hid (Whole w xb 61 #[.int .i64 x.src, .int .i64 x.tgt, .int .i64 x.cls, .int .i64 x.cond, .int .u32 x.allow, .int .u32 x.audit, .int .u32 x.dont])) (HW : Hid (Whole w g 61 cur)) (HYC : Hid (w.cell? ⟨g, j * 7 + 4, none⟩ = some (.int .u32 y.allow))) (HFIT : Hid (j * 7 + 7 ≤ cur.size))
    {Q' : Exit → Act → World → Prop} (hend : ∀ (v59 v60 v61 v62 v63 v64 v65 v66 v67 v68 v69 v70 : Value) (wq w' : World), RowKit.Below w.heap.size w wq → Sto wq w' g → Whole w' g 61 (splice cur (j * 7 + 4) [.int .u32 (bits .or .u32 y.allow x.allow)]) → Q' .normal ⟨#[x0, x1, x2, .slice (some ⟨g, 0, none⟩) n cap, x4, x5, .pointer (some ⟨xb, 0, none⟩), x7, .int .i64 (j : Int), x9, x10, x11, x12, x13, x14, x15, x16, x17, x18, x19, x20, x21, x22, x23, x24, x25, x26, x27, x28, x29, x30, x31, x32, x33, x34, x35, x36, x37, x38, x39, x40, x41, x42, x43, x44, x45, x46, x47, x48, x49, x50, x51, x52, x53, x54, x55, x56, x57, x58, v59, v60, v61, v62, v63, v64, v65, v66, v67, v68, v69, v70, x71, x72, x73, x74, x75, x76, x77, x78, x79, x80, x81, x82, x83, x84, x85, x86, x87, x88, x89, x90, x91, x92, x93, x94, x95, x96], []⟩ w') :
    Code.wp Tryd.prog (findRegion7 13 ((Tryd.f32.body).getD .skip)) Q' ⟨#[x0, x1, x2, .slice (some ⟨g, 0, none⟩) n cap, x4, x5, .pointer (some ⟨xb, 0, none⟩), x7, .int .i64 (j : Int), x9, x10, x11, x12, x13, x14, x15, x16, x17, x18, x19, x20, x21, x22, x23, x24, x25, x26, x27, x28, x29, x30, x31, x32, x33, x34, x35, x36, x37, x38, x39, x40, x41, x42, x43, x44, x45, x46, x47, x48, x49, x50, x51, x52, x53, x54, x55, x56, x57, x58, x59, x60, x61, x62, x63, x64, x65, x66, x67, x68, x69, x70, x71, x72, x73, x74, x75, x76, x77, x78, x79, x80, x81, x82, x83, x84, x85, x86, x87, x88, x89, x90, x91, x92, x93, x94, x95, x96], []⟩ w := by
  have HEND := Lib.hid hend
  clear hend
  conv => arg 2; whnf
  conv => arg 4; dsimp only
  refine wp_region_last (fun w w' => Below w.heap.size w w') [some 59, some 60, some 61, some 62, some 63, some 64, some 65, some 66, some 67, some 68, some 69, some 70] [isV (.slice (some ⟨g, 0, none⟩) n cap), isV (.int .i64 (j : Int)), isV (.slice (some ⟨g, 0, none⟩) n cap), isV (.int .i64 (j : Int)), isV (.pointer (some ⟨g, j * 7, none⟩)), isV (.pointer (some ⟨g, j * 7 + 4, none⟩)), isV (.int .u32 y.allow), isV (.pointer (some ⟨xb, 4, none⟩)), isV (.int .u32 x.allow), isV (.int .u32 (bits .or .u32 y.allow x.allow)), isV (.pointer (some ⟨g, j * 7, none⟩)), isV (.pointer (some ⟨g, j * 7 + 4, none⟩))] (fun _ w' => RowKit.Below w.heap.size w w') 12 (by kernel_rfl) (by kernel_rfl) (by kernel_rfl) rfl (by decide) rfl rfl ((Below.refl _ _).drew) ⟨lasts_is _, lasts_is _, lasts_is _, lasts_is _, lasts_is _, lasts_is _, lasts_is _, lasts_is _, lasts_is _, lasts_is _, lasts_is _, lasts_is _, trivial⟩ ⟨(fun _ => lastsR_is _), (fun _ => lastsR_is _), (fun _ => lastsR_is _), (fun _ => lastsR_is _), (fun _ => lastsR_is _), (fun _ => lastsR_is _), (fun _ => lastsR_is _), (fun _ => lastsR_is _), (fun _ => lastsR_is _), (fun _ => lastsR_is _), (fun _ => lastsR_is _), (fun _ => lastsR_is _), trivial⟩ ⟨?_, ?_, ?_, ?_, ?_, ?_, ?_, ?_, ?_, ?_, ?_, ?_, ?_⟩
  · intro L a wx Q' hL hi H F hK
    try dsimp only at hi
    have h3 : a.tmps[3]? = some (.slice (some ⟨g, 0, none⟩) n cap) := F 3 rfl
    have HI := Lib.hid hi
    clear H F hi hL
    go_wp2_with fail
    exact hK _ _ (Below.refl _ _) HI.out rfl
  · intro L a wx Q' hL hi H F hK
    try dsimp only at hi
    have h8 : a.tmps[8]? = some (.int .i64 (j : Int)) := F 8 rfl
    have HI := Lib.hid hi
    clear H F hi hL
    go_wp2_with fail
    exact hK _ _ (Below.refl _ _) HI.out rfl
  · intro L a wx Q' hL hi H F hK
    try dsimp only at hi
    have h3 : a.tmps[3]? = some (.slice (some ⟨g, 0, none⟩) n cap) := F 3 rfl
    have HI := Lib.hid hi
    clear H F hi hL
    go_wp2_with fail
    exact hK _ _ (Below.refl _ _) HI.out rfl
  · intro L a wx Q' hL hi H F hK
    try dsimp only at hi
    have h8 : a.tmps[8]? = some (.int .i64 (j : Int)) := F 8 rfl
    have HI := Lib.hid hi
    clear H F hi hL
    go_wp2_with fail
    exact hK _ _ (Below.refl _ _) HI.out rfl
  · intro L a wx Q' hL hi H F hK
    try dsimp only at hi
    obtain ⟨_, h61, rfl⟩ := H 2 ⟨.data, by simp, rfl⟩ _ rfl
    replace h61 := h61 _ rfl
    obtain ⟨_, h62, rfl⟩ := H 3 ⟨.data, by simp, rfl⟩ _ rfl
    replace h62 := h62 _ rfl
    have HI := Lib.hid hi
    clear H F hi hL
    go_wp2_with fail
    exact hK _ _ (Below.refl _ _) HI.out rfl
  · intro L a wx Q' hL hi H F hK
    try dsimp only at hi
    obtain ⟨_, h63, rfl⟩ := H 4 ⟨.data, by simp, rfl⟩ _ rfl
    replace h63 := h63 _ rfl
    have HI := Lib.hid hi
    clear H F hi hL
    go_wp2_with fail
    exact hK _ _ (Below.refl _ _) HI.out rfl
  · intro L a wx Q' hL hi H F hK
    try dsimp only at hi
    obtain ⟨_, h64, rfl⟩ := H 5 ⟨.data, by simp, rfl⟩ _ rfl
    replace h64 := h64 _ rfl
    have HI := Lib.hid hi
    clear H F hi hL
    have kq : wx.cell? ⟨g, j * 7 + 4, none⟩ = some (.int .u32 y.allow) := cell_later HI.out HYC.out
    go_wp2_with fail
    exact hK _ _ (Below.refl _ _) HI.out rfl
  · intro L a wx Q' hL hi H F hK
    try dsimp only at hi
    have h6 : a.tmps[6]? = some (.pointer (some ⟨xb, 0, none⟩)) := F 6 rfl
    have HI := Lib.hid hi
    clear H F hi hL
    go_wp2_with fail
    exact hK _ _ (Below.refl _ _) HI.out rfl
  · intro L a wx Q' hL hi H F hK
    try dsimp only at hi
    obtain ⟨_, h66, rfl⟩ := H 7 ⟨.data, by simp, rfl⟩ _ rfl
    replace h66 := h66 _ rfl
    have HI := Lib.hid hi
    clear H F hi hL
    have kq0 : wx.cell? ⟨xb, 4, none⟩ = some (.int .u32 x.allow) := (Whole.under HI.out HX.out (Whole.lt HX.out)).cell 4
    go_wp2_with fail
    exact hK _ _ (Below.refl _ _) HI.out rfl
  · intro L a wx Q' hL hi H F hK
    try dsimp only at hi
    obtain ⟨_, h65, rfl⟩ := H 6 ⟨.data, by simp, rfl⟩ _ rfl
    replace h65 := h65 _ rfl
    obtain ⟨_, h67, rfl⟩ := H 8 ⟨.data, by simp, rfl⟩ _ rfl
    replace h67 := h67 _ rfl
    have HI := Lib.hid hi
    clear H F hi hL
    go_wp2_with fail
    exact hK _ _ (Below.refl _ _) HI.out rfl
  · intro L a wx Q' hL hi H F hK
    try dsimp only at hi
    obtain ⟨_, h59, rfl⟩ := H 0 ⟨.data, by simp, rfl⟩ _ rfl
    replace h59 := h59 _ rfl
    obtain ⟨_, h60, rfl⟩ := H 1 ⟨.data, by simp, rfl⟩ _ rfl
    replace h60 := h60 _ rfl
    have HI := Lib.hid hi
    clear H F hi hL
    go_wp2_with fail
    exact hK _ _ (Below.refl _ _) HI.out rfl
  · intro L a wx Q' hL hi H F hK
    try dsimp only at hi
    obtain ⟨_, h69, rfl⟩ := H 10 ⟨.data, by simp, rfl⟩ _ rfl
    replace h69 := h69 _ rfl
    have HI := Lib.hid hi
    clear H F hi hL
    go_wp2_with fail
    exact hK _ _ (Below.refl _ _) HI.out rfl
  · intro a wx hl L hi hL Q' hK
    try dsimp only at hi
    have HB := Lib.hid hi
    clear hi hL
    obtain ⟨_, rfl, _, rfl, _, rfl, _, rfl, _, rfl, _, rfl, _, rfl, _, rfl, _, rfl, _, rfl, _, rfl, _, rfl, rfl⟩ := hl
    simp only [List.setIfInBounds_toArray, List.set_cons_zero, List.set_cons_succ]
    have HQ := Lib.hid (Whole.under HB.out HW.out HW.out.lt)
    go_wp2_with (refine wpList_store_blk rfl 25 _ _ rfl g (j * 7 + 4) (.int .u32 (bits .or .u32 y.allow x.allow)) rfl rfl 61 _ HQ.out (by have := HFIT.out; simp [Value.cells]; omega) size25 rfl ?_; intro w9 S9 W9; have HS9 := Lib.hid S9; have HW9 := Lib.hid W9; clear S9 W9)
    exact HEND.out _ _ _ _ _ _ _ _ _ _ _ _ _ _ HB.out HS9.out HW9.out

set_option maxRecDepth 100000 in
set_option maxHeartbeats 2000000 in
theorem uni_14 (w : World) (g xb n cap j : Nat) (x y : AEntry) (cur : Array Value) (x0 x1 x2 x4 x5 x7 x9 x10 x11 x12 x13 x14 x15 x16 x17 x18 x19 x20 x21 x22 x23 x24 x25 x26 x27 x28 x29 x30 x31 x32 x33 x34 x35 x36 x37 x38 x39 x40 x41 x42 x43 x44 x45 x46 x47 x48 x49 x50 x51 x52 x53 x54 x55 x56 x57 x58 x59 x60 x61 x62 x63 x64 x65 x66 x67 x68 x69 x70 x71 x72 x73 x74 x75 x76 x77 x78 x79 x80 x81 x82 x83 x84 x85 x86 x87 x88 x89 x90 x91 x92 x93 x94 x95 x96 : Value) (hj : j < n) (HX : Hid (Whole w xb 61 #[.int .i64 x.src, .int .i64 x.tgt, .int .i64 x.cls, .int .i64 x.cond, .int .u32 x.allow, .int .u32 x.audit, .int .u32 x.dont])) (HW : Hid (Whole w g 61 cur)) (HYC : Hid (w.cell? ⟨g, j * 7 + 5, none⟩ = some (.int .u32 y.audit))) (HFIT : Hid (j * 7 + 7 ≤ cur.size))
    {Q' : Exit → Act → World → Prop} (hend : ∀ (v71 v72 v73 v74 v75 v76 v77 v78 v79 v80 v81 v82 : Value) (wq w' : World), RowKit.Below w.heap.size w wq → Sto wq w' g → Whole w' g 61 (splice cur (j * 7 + 5) [.int .u32 (bits .or .u32 y.audit x.audit)]) → Q' .normal ⟨#[x0, x1, x2, .slice (some ⟨g, 0, none⟩) n cap, x4, x5, .pointer (some ⟨xb, 0, none⟩), x7, .int .i64 (j : Int), x9, x10, x11, x12, x13, x14, x15, x16, x17, x18, x19, x20, x21, x22, x23, x24, x25, x26, x27, x28, x29, x30, x31, x32, x33, x34, x35, x36, x37, x38, x39, x40, x41, x42, x43, x44, x45, x46, x47, x48, x49, x50, x51, x52, x53, x54, x55, x56, x57, x58, x59, x60, x61, x62, x63, x64, x65, x66, x67, x68, x69, x70, v71, v72, v73, v74, v75, v76, v77, v78, v79, v80, v81, v82, x83, x84, x85, x86, x87, x88, x89, x90, x91, x92, x93, x94, x95, x96], []⟩ w') :
    Code.wp Tryd.prog (findRegion7 14 ((Tryd.f32.body).getD .skip)) Q' ⟨#[x0, x1, x2, .slice (some ⟨g, 0, none⟩) n cap, x4, x5, .pointer (some ⟨xb, 0, none⟩), x7, .int .i64 (j : Int), x9, x10, x11, x12, x13, x14, x15, x16, x17, x18, x19, x20, x21, x22, x23, x24, x25, x26, x27, x28, x29, x30, x31, x32, x33, x34, x35, x36, x37, x38, x39, x40, x41, x42, x43, x44, x45, x46, x47, x48, x49, x50, x51, x52, x53, x54, x55, x56, x57, x58, x59, x60, x61, x62, x63, x64, x65, x66, x67, x68, x69, x70, x71, x72, x73, x74, x75, x76, x77, x78, x79, x80, x81, x82, x83, x84, x85, x86, x87, x88, x89, x90, x91, x92, x93, x94, x95, x96], []⟩ w := by
  have HEND := Lib.hid hend
  clear hend
  conv => arg 2; whnf
  conv => arg 4; dsimp only
  refine wp_region_last (fun w w' => Below w.heap.size w w') [some 71, some 72, some 73, some 74, some 75, some 76, some 77, some 78, some 79, some 80, some 81, some 82] [isV (.slice (some ⟨g, 0, none⟩) n cap), isV (.int .i64 (j : Int)), isV (.slice (some ⟨g, 0, none⟩) n cap), isV (.int .i64 (j : Int)), isV (.pointer (some ⟨g, j * 7, none⟩)), isV (.pointer (some ⟨g, j * 7 + 5, none⟩)), isV (.int .u32 y.audit), isV (.pointer (some ⟨xb, 5, none⟩)), isV (.int .u32 x.audit), isV (.int .u32 (bits .or .u32 y.audit x.audit)), isV (.pointer (some ⟨g, j * 7, none⟩)), isV (.pointer (some ⟨g, j * 7 + 5, none⟩))] (fun _ w' => RowKit.Below w.heap.size w w') 12 (by kernel_rfl) (by kernel_rfl) (by kernel_rfl) rfl (by decide) rfl rfl ((Below.refl _ _).drew) ⟨lasts_is _, lasts_is _, lasts_is _, lasts_is _, lasts_is _, lasts_is _, lasts_is _, lasts_is _, lasts_is _, lasts_is _, lasts_is _, lasts_is _, trivial⟩ ⟨(fun _ => lastsR_is _), (fun _ => lastsR_is _), (fun _ => lastsR_is _), (fun _ => lastsR_is _), (fun _ => lastsR_is _), (fun _ => lastsR_is _), (fun _ => lastsR_is _), (fun _ => lastsR_is _), (fun _ => lastsR_is _), (fun _ => lastsR_is _), (fun _ => lastsR_is _), (fun _ => lastsR_is _), trivial⟩ ⟨?_, ?_, ?_, ?_, ?_, ?_, ?_, ?_, ?_, ?_, ?_, ?_, ?_⟩
  · intro L a wx Q' hL hi H F hK
    try dsimp only at hi
    have h3 : a.tmps[3]? = some (.slice (some ⟨g, 0, none⟩) n cap) := F 3 rfl
    have HI := Lib.hid hi
    clear H F hi hL
    go_wp2_with fail
    exact hK _ _ (Below.refl _ _) HI.out rfl
  · intro L a wx Q' hL hi H F hK
    try dsimp only at hi
    have h8 : a.tmps[8]? = some (.int .i64 (j : Int)) := F 8 rfl
    have HI := Lib.hid hi
    clear H F hi hL
    go_wp2_with fail
    exact hK _ _ (Below.refl _ _) HI.out rfl
  · intro L a wx Q' hL hi H F hK
    try dsimp only at hi
    have h3 : a.tmps[3]? = some (.slice (some ⟨g, 0, none⟩) n cap) := F 3 rfl
    have HI := Lib.hid hi
    clear H F hi hL
    go_wp2_with fail
    exact hK _ _ (Below.refl _ _) HI.out rfl
  · intro L a wx Q' hL hi H F hK
    try dsimp only at hi
    have h8 : a.tmps[8]? = some (.int .i64 (j : Int)) := F 8 rfl
    have HI := Lib.hid hi
    clear H F hi hL
    go_wp2_with fail
    exact hK _ _ (Below.refl _ _) HI.out rfl
  · intro L a wx Q' hL hi H F hK
    try dsimp only at hi
    obtain ⟨_, h73, rfl⟩ := H 2 ⟨.data, by simp, rfl⟩ _ rfl
    replace h73 := h73 _ rfl
    obtain ⟨_, h74, rfl⟩ := H 3 ⟨.data, by simp, rfl⟩ _ rfl
    replace h74 := h74 _ rfl
    have HI := Lib.hid hi
    clear H F hi hL
    go_wp2_with fail
    exact hK _ _ (Below.refl _ _) HI.out rfl
  · intro L a wx Q' hL hi H F hK
    try dsimp only at hi
    obtain ⟨_, h75, rfl⟩ := H 4 ⟨.data, by simp, rfl⟩ _ rfl
    replace h75 := h75 _ rfl
    have HI := Lib.hid hi
    clear H F hi hL
    go_wp2_with fail
    exact hK _ _ (Below.refl _ _) HI.out rfl
  · intro L a wx Q' hL hi H F hK
    try dsimp only at hi
    obtain ⟨_, h76, rfl⟩ := H 5 ⟨.data, by simp, rfl⟩ _ rfl
    replace h76 := h76 _ rfl
    have HI := Lib.hid hi
    clear H F hi hL
    have kq : wx.cell? ⟨g, j * 7 + 5, none⟩ = some (.int .u32 y.audit) := cell_later HI.out HYC.out
    go_wp2_with fail
    exact hK _ _ (Below.refl _ _) HI.out rfl
  · intro L a wx Q' hL hi H F hK
    try dsimp only at hi
    have h6 : a.tmps[6]? = some (.pointer (some ⟨xb, 0, none⟩)) := F 6 rfl
    have HI := Lib.hid hi
    clear H F hi hL
    go_wp2_with fail
    exact hK _ _ (Below.refl _ _) HI.out rfl
  · intro L a wx Q' hL hi H F hK
    try dsimp only at hi
    obtain ⟨_, h78, rfl⟩ := H 7 ⟨.data, by simp, rfl⟩ _ rfl
    replace h78 := h78 _ rfl
    have HI := Lib.hid hi
    clear H F hi hL
    have kq0 : wx.cell? ⟨xb, 5, none⟩ = some (.int .u32 x.audit) := (Whole.under HI.out HX.out (Whole.lt HX.out)).cell 5
    go_wp2_with fail
    exact hK _ _ (Below.refl _ _) HI.out rfl
  · intro L a wx Q' hL hi H F hK
    try dsimp only at hi
    obtain ⟨_, h77, rfl⟩ := H 6 ⟨.data, by simp, rfl⟩ _ rfl
    replace h77 := h77 _ rfl
    obtain ⟨_, h79, rfl⟩ := H 8 ⟨.data, by simp, rfl⟩ _ rfl
    replace h79 := h79 _ rfl
    have HI := Lib.hid hi
    clear H F hi hL
    go_wp2_with fail
    exact hK _ _ (Below.refl _ _) HI.out rfl
  · intro L a wx Q' hL hi H F hK
    try dsimp only at hi
    obtain ⟨_, h71, rfl⟩ := H 0 ⟨.data, by simp, rfl⟩ _ rfl
    replace h71 := h71 _ rfl
    obtain ⟨_, h72, rfl⟩ := H 1 ⟨.data, by simp, rfl⟩ _ rfl
    replace h72 := h72 _ rfl
    have HI := Lib.hid hi
    clear H F hi hL
    go_wp2_with fail
    exact hK _ _ (Below.refl _ _) HI.out rfl
  · intro L a wx Q' hL hi H F hK
    try dsimp only at hi
    obtain ⟨_, h81, rfl⟩ := H 10 ⟨.data, by simp, rfl⟩ _ rfl
    replace h81 := h81 _ rfl
    have HI := Lib.hid hi
    clear H F hi hL
    go_wp2_with fail
    exact hK _ _ (Below.refl _ _) HI.out rfl
  · intro a wx hl L hi hL Q' hK
    try dsimp only at hi
    have HB := Lib.hid hi
    clear hi hL
    obtain ⟨_, rfl, _, rfl, _, rfl, _, rfl, _, rfl, _, rfl, _, rfl, _, rfl, _, rfl, _, rfl, _, rfl, _, rfl, rfl⟩ := hl
    simp only [List.setIfInBounds_toArray, List.set_cons_zero, List.set_cons_succ]
    have HQ := Lib.hid (Whole.under HB.out HW.out HW.out.lt)
    go_wp2_with (refine wpList_store_blk rfl 25 _ _ rfl g (j * 7 + 5) (.int .u32 (bits .or .u32 y.audit x.audit)) rfl rfl 61 _ HQ.out (by have := HFIT.out; simp [Value.cells]; omega) size25 rfl ?_; intro w9 S9 W9; have HS9 := Lib.hid S9; have HW9 := Lib.hid W9; clear S9 W9)
    exact HEND.out _ _ _ _ _ _ _ _ _ _ _ _ _ _ HB.out HS9.out HW9.out

set_option maxRecDepth 100000 in
set_option maxHeartbeats 2000000 in
theorem uni_15 (w : World) (g xb n cap j : Nat) (x y : AEntry) (cur : Array Value) (x0 x1 x2 x4 x5 x7 x9 x10 x11 x12 x13 x14 x15 x16 x17 x18 x19 x20 x21 x22 x23 x24 x25 x26 x27 x28 x29 x30 x31 x32 x33 x34 x35 x36 x37 x38 x39 x40 x41 x42 x43 x44 x45 x46 x47 x48 x49 x50 x51 x52 x53 x54 x55 x56 x57 x58 x59 x60 x61 x62 x63 x64 x65 x66 x67 x68 x69 x70 x71 x72 x73 x74 x75 x76 x77 x78 x79 x80 x81 x82 x83 x84 x85 x86 x87 x88 x89 x90 x91 x92 x93 x94 x95 x96 : Value) (hj : j < n) (HX : Hid (Whole w xb 61 #[.int .i64 x.src, .int .i64 x.tgt, .int .i64 x.cls, .int .i64 x.cond, .int .u32 x.allow, .int .u32 x.audit, .int .u32 x.dont])) (HW : Hid (Whole w g 61 cur)) (HYC : Hid (w.cell? ⟨g, j * 7 + 6, none⟩ = some (.int .u32 y.dont))) (HFIT : Hid (j * 7 + 7 ≤ cur.size))
    {Q' : Exit → Act → World → Prop} (hend : ∀ (v83 v84 v85 v86 v87 v88 v89 v90 v91 v92 v93 v94 : Value) (wq w' : World), RowKit.Below w.heap.size w wq → Sto wq w' g → Whole w' g 61 (splice cur (j * 7 + 6) [.int .u32 (bits .or .u32 y.dont x.dont)]) → Q' .normal ⟨#[x0, x1, x2, .slice (some ⟨g, 0, none⟩) n cap, x4, x5, .pointer (some ⟨xb, 0, none⟩), x7, .int .i64 (j : Int), x9, x10, x11, x12, x13, x14, x15, x16, x17, x18, x19, x20, x21, x22, x23, x24, x25, x26, x27, x28, x29, x30, x31, x32, x33, x34, x35, x36, x37, x38, x39, x40, x41, x42, x43, x44, x45, x46, x47, x48, x49, x50, x51, x52, x53, x54, x55, x56, x57, x58, x59, x60, x61, x62, x63, x64, x65, x66, x67, x68, x69, x70, x71, x72, x73, x74, x75, x76, x77, x78, x79, x80, x81, x82, v83, v84, v85, v86, v87, v88, v89, v90, v91, v92, v93, v94, x95, x96], []⟩ w') :
    Code.wp Tryd.prog (findRegion7 15 ((Tryd.f32.body).getD .skip)) Q' ⟨#[x0, x1, x2, .slice (some ⟨g, 0, none⟩) n cap, x4, x5, .pointer (some ⟨xb, 0, none⟩), x7, .int .i64 (j : Int), x9, x10, x11, x12, x13, x14, x15, x16, x17, x18, x19, x20, x21, x22, x23, x24, x25, x26, x27, x28, x29, x30, x31, x32, x33, x34, x35, x36, x37, x38, x39, x40, x41, x42, x43, x44, x45, x46, x47, x48, x49, x50, x51, x52, x53, x54, x55, x56, x57, x58, x59, x60, x61, x62, x63, x64, x65, x66, x67, x68, x69, x70, x71, x72, x73, x74, x75, x76, x77, x78, x79, x80, x81, x82, x83, x84, x85, x86, x87, x88, x89, x90, x91, x92, x93, x94, x95, x96], []⟩ w := by
  have HEND := Lib.hid hend
  clear hend
  conv => arg 2; whnf
  conv => arg 4; dsimp only
  refine wp_region_last (fun w w' => Below w.heap.size w w') [some 83, some 84, some 85, some 86, some 87, some 88, some 89, some 90, some 91, some 92, some 93, some 94] [isV (.slice (some ⟨g, 0, none⟩) n cap), isV (.int .i64 (j : Int)), isV (.slice (some ⟨g, 0, none⟩) n cap), isV (.int .i64 (j : Int)), isV (.pointer (some ⟨g, j * 7, none⟩)), isV (.pointer (some ⟨g, j * 7 + 6, none⟩)), isV (.int .u32 y.dont), isV (.pointer (some ⟨xb, 6, none⟩)), isV (.int .u32 x.dont), isV (.int .u32 (bits .or .u32 y.dont x.dont)), isV (.pointer (some ⟨g, j * 7, none⟩)), isV (.pointer (some ⟨g, j * 7 + 6, none⟩))] (fun _ w' => RowKit.Below w.heap.size w w') 12 (by kernel_rfl) (by kernel_rfl) (by kernel_rfl) rfl (by decide) rfl rfl ((Below.refl _ _).drew) ⟨lasts_is _, lasts_is _, lasts_is _, lasts_is _, lasts_is _, lasts_is _, lasts_is _, lasts_is _, lasts_is _, lasts_is _, lasts_is _, lasts_is _, trivial⟩ ⟨(fun _ => lastsR_is _), (fun _ => lastsR_is _), (fun _ => lastsR_is _), (fun _ => lastsR_is _), (fun _ => lastsR_is _), (fun _ => lastsR_is _), (fun _ => lastsR_is _), (fun _ => lastsR_is _), (fun _ => lastsR_is _), (fun _ => lastsR_is _), (fun _ => lastsR_is _), (fun _ => lastsR_is _), trivial⟩ ⟨?_, ?_, ?_, ?_, ?_, ?_, ?_, ?_, ?_, ?_, ?_, ?_, ?_⟩
  · intro L a wx Q' hL hi H F hK
    try dsimp only at hi
    have h3 : a.tmps[3]? = some (.slice (some ⟨g, 0, none⟩) n cap) := F 3 rfl
    have HI := Lib.hid hi
    clear H F hi hL
    go_wp2_with fail
    exact hK _ _ (Below.refl _ _) HI.out rfl
  · intro L a wx Q' hL hi H F hK
    try dsimp only at hi
    have h8 : a.tmps[8]? = some (.int .i64 (j : Int)) := F 8 rfl
    have HI := Lib.hid hi
    clear H F hi hL
    go_wp2_with fail
    exact hK _ _ (Below.refl _ _) HI.out rfl
  · intro L a wx Q' hL hi H F hK
    try dsimp only at hi
    have h3 : a.tmps[3]? = some (.slice (some ⟨g, 0, none⟩) n cap) := F 3 rfl
    have HI := Lib.hid hi
    clear H F hi hL
    go_wp2_with fail
    exact hK _ _ (Below.refl _ _) HI.out rfl
  · intro L a wx Q' hL hi H F hK
    try dsimp only at hi
    have h8 : a.tmps[8]? = some (.int .i64 (j : Int)) := F 8 rfl
    have HI := Lib.hid hi
    clear H F hi hL
    go_wp2_with fail
    exact hK _ _ (Below.refl _ _) HI.out rfl
  · intro L a wx Q' hL hi H F hK
    try dsimp only at hi
    obtain ⟨_, h85, rfl⟩ := H 2 ⟨.data, by simp, rfl⟩ _ rfl
    replace h85 := h85 _ rfl
    obtain ⟨_, h86, rfl⟩ := H 3 ⟨.data, by simp, rfl⟩ _ rfl
    replace h86 := h86 _ rfl
    have HI := Lib.hid hi
    clear H F hi hL
    go_wp2_with fail
    exact hK _ _ (Below.refl _ _) HI.out rfl
  · intro L a wx Q' hL hi H F hK
    try dsimp only at hi
    obtain ⟨_, h87, rfl⟩ := H 4 ⟨.data, by simp, rfl⟩ _ rfl
    replace h87 := h87 _ rfl
    have HI := Lib.hid hi
    clear H F hi hL
    go_wp2_with fail
    exact hK _ _ (Below.refl _ _) HI.out rfl
  · intro L a wx Q' hL hi H F hK
    try dsimp only at hi
    obtain ⟨_, h88, rfl⟩ := H 5 ⟨.data, by simp, rfl⟩ _ rfl
    replace h88 := h88 _ rfl
    have HI := Lib.hid hi
    clear H F hi hL
    have kq : wx.cell? ⟨g, j * 7 + 6, none⟩ = some (.int .u32 y.dont) := cell_later HI.out HYC.out
    go_wp2_with fail
    exact hK _ _ (Below.refl _ _) HI.out rfl
  · intro L a wx Q' hL hi H F hK
    try dsimp only at hi
    have h6 : a.tmps[6]? = some (.pointer (some ⟨xb, 0, none⟩)) := F 6 rfl
    have HI := Lib.hid hi
    clear H F hi hL
    go_wp2_with fail
    exact hK _ _ (Below.refl _ _) HI.out rfl
  · intro L a wx Q' hL hi H F hK
    try dsimp only at hi
    obtain ⟨_, h90, rfl⟩ := H 7 ⟨.data, by simp, rfl⟩ _ rfl
    replace h90 := h90 _ rfl
    have HI := Lib.hid hi
    clear H F hi hL
    have kq0 : wx.cell? ⟨xb, 6, none⟩ = some (.int .u32 x.dont) := (Whole.under HI.out HX.out (Whole.lt HX.out)).cell 6
    go_wp2_with fail
    exact hK _ _ (Below.refl _ _) HI.out rfl
  · intro L a wx Q' hL hi H F hK
    try dsimp only at hi
    obtain ⟨_, h89, rfl⟩ := H 6 ⟨.data, by simp, rfl⟩ _ rfl
    replace h89 := h89 _ rfl
    obtain ⟨_, h91, rfl⟩ := H 8 ⟨.data, by simp, rfl⟩ _ rfl
    replace h91 := h91 _ rfl
    have HI := Lib.hid hi
    clear H F hi hL
    go_wp2_with fail
    exact hK _ _ (Below.refl _ _) HI.out rfl
  · intro L a wx Q' hL hi H F hK
    try dsimp only at hi
    obtain ⟨_, h83, rfl⟩ := H 0 ⟨.data, by simp, rfl⟩ _ rfl
    replace h83 := h83 _ rfl
    obtain ⟨_, h84, rfl⟩ := H 1 ⟨.data, by simp, rfl⟩ _ rfl
    replace h84 := h84 _ rfl
    have HI := Lib.hid hi
    clear H F hi hL
    go_wp2_with fail
    exact hK _ _ (Below.refl _ _) HI.out rfl
  · intro L a wx Q' hL hi H F hK
    try dsimp only at hi
    obtain ⟨_, h93, rfl⟩ := H 10 ⟨.data, by simp, rfl⟩ _ rfl
    replace h93 := h93 _ rfl
    have HI := Lib.hid hi
    clear H F hi hL
    go_wp2_with fail
    exact hK _ _ (Below.refl _ _) HI.out rfl
  · intro a wx hl L hi hL Q' hK
    try dsimp only at hi
    have HB := Lib.hid hi
    clear hi hL
    obtain ⟨_, rfl, _, rfl, _, rfl, _, rfl, _, rfl, _, rfl, _, rfl, _, rfl, _, rfl, _, rfl, _, rfl, _, rfl, rfl⟩ := hl
    simp only [List.setIfInBounds_toArray, List.set_cons_zero, List.set_cons_succ]
    have HQ := Lib.hid (Whole.under HB.out HW.out HW.out.lt)
    go_wp2_with (refine wpList_store_blk rfl 25 _ _ rfl g (j * 7 + 6) (.int .u32 (bits .or .u32 y.dont x.dont)) rfl rfl 61 _ HQ.out (by have := HFIT.out; simp [Value.cells]; omega) size25 rfl ?_; intro w9 S9 W9; have HS9 := Lib.hid S9; have HW9 := Lib.hid W9; clear S9 W9)
    exact HEND.out _ _ _ _ _ _ _ _ _ _ _ _ _ _ HB.out HS9.out HW9.out

end Go.Proofs.YtmkfabdkadocdaaDoor

/-
  The reference's union.
-/
namespace Go.Proofs.YtmkfabdkadocdaaDoor
open Go Go.WideMaps Go.RowKit Go.Sort

set_option maxRecDepth 100000 in
set_option maxHeartbeats 2000000 in
theorem uni_7 (w : World) (xb : Nat) (x : AEntry) (x0 x1 x2 x3 x4 x5 x7 x8 x9 x10 x11 x12 x13 x14 x15 x16 x17 x18 x19 x20 x21 x22 x23 x24 x25 x26 x27 x28 x29 x30 x31 x32 x33 x34 x35 x36 x37 x38 x39 x40 x41 x42 x43 x44 x45 x46 x47 x48 x49 x50 x51 x52 x53 x54 x55 x56 x57 x58 x59 x60 x61 x62 x63 x64 x65 x66 x67 x68 x69 x70 x71 x72 x73 x74 x75 x76 x77 x78 x79 x80 x81 x82 x83 x84 x85 x86 x87 x88 x89 x90 x91 x92 x93 x94 x95 x96 : Value) (HX : Hid (Whole w xb 61 #[.int .i64 x.src, .int .i64 x.tgt, .int .i64 x.cls, .int .i64 x.cond, .int .u32 x.allow, .int .u32 x.audit, .int .u32 x.dont]))
    {Q' : Exit → Act → World → Prop} (hend : ∀ ( v21 v22 v23 v24 v25 v26 v27 v28 v29 v30 v31 v32 : Value), Q' .normal ⟨#[x0, x1, x2, x3, x4, x5, .pointer (some ⟨xb, 0, none⟩), x7, x8, x9, x10, x11, x12, x13, x14, x15, x16, x17, x18, x19, x20, v21, v22, v23, v24, v25, v26, v27, v28, v29, v30, v31, v32, .bool (decide (x.vecs = AVec.zero)), x34, x35, x36, x37, x38, x39, x40, x41, x42, x43, x44, x45, x46, x47, x48, x49, x50, x51, x52, x53, x54, x55, x56, x57, x58, x59, x60, x61, x62, x63, x64, x65, x66, x67, x68, x69, x70, x71, x72, x73, x74, x75, x76, x77, x78, x79, x80, x81, x82, x83, x84, x85, x86, x87, x88, x89, x90, x91, x92, x93, x94, x95, x96], []⟩ w) :
    Code.wp Tryd.prog (findRegion7 7 ((Tryd.f32.body).getD .skip)) Q' ⟨#[x0, x1, x2, x3, x4, x5, .pointer (some ⟨xb, 0, none⟩), x7, x8, x9, x10, x11, x12, x13, x14, x15, x16, x17, x18, x19, x20, x21, x22, x23, x24, x25, x26, x27, x28, x29, x30, x31, x32, x33, x34, x35, x36, x37, x38, x39, x40, x41, x42, x43, x44, x45, x46, x47, x48, x49, x50, x51, x52, x53, x54, x55, x56, x57, x58, x59, x60, x61, x62, x63, x64, x65, x66, x67, x68, x69, x70, x71, x72, x73, x74, x75, x76, x77, x78, x79, x80, x81, x82, x83, x84, x85, x86, x87, x88, x89, x90, x91, x92, x93, x94, x95, x96], []⟩ w := by
  have hv : decide (x.vecs = AVec.zero) = (decide (x.allow = 0) && (decide (x.audit = 0) && decide (x.dont = 0))) := by
    have e : x.vecs = AVec.zero ↔ x.allow = 0 ∧ x.audit = 0 ∧ x.dont = 0 := by unfold AEntry.vecs AVec.zero; rw [AVec.mk.injEq]
    have e2 : decide (x.vecs = AVec.zero) = decide (x.allow = 0 ∧ x.audit = 0 ∧ x.dont = 0) := decide_eq_decide.2 e
    rw [e2]
    by_cases h1 : x.allow = 0 <;> by_cases h2 : x.audit = 0 <;> by_cases h3 : x.dont = 0 <;> simp [h1, h2, h3]
  have k4 : w.cell? ⟨xb, 4, none⟩ = some (.int .u32 x.allow) := HX.out.cell 4
  have k5 : w.cell? ⟨xb, 5, none⟩ = some (.int .u32 x.audit) := HX.out.cell 5
  have k6 : w.cell? ⟨xb, 6, none⟩ = some (.int .u32 x.dont) := HX.out.cell 6
  by_cases h1 : x.allow = 0
  · have hd1 : (x.allow == 0) = true := by simp [h1]
    by_cases h2 : x.audit = 0
    · have hd2 : (x.audit == 0) = true := by simp [h2]
      by_cases h3 : x.dont = 0
      · have hd3 : (x.dont == 0) = true := by simp [h3]
        rw [show decide (x.vecs = AVec.zero) = true by rw [hv]; simp [h1, h2, h3]] at hend
        have HEND := Lib.hid hend
        clear hend hv h1 h2 h3
        conv => arg 2; whnf
        conv => arg 4; dsimp only
        go_wp2_with fail
        exact HEND.out _ _ _ _ _ _ _ _ _ _ _ _
      · have hd3 : (x.dont == 0) = false := by simp [h3]
        rw [show decide (x.vecs = AVec.zero) = false by rw [hv]; simp [h3]] at hend
        have HEND := Lib.hid hend
        clear hend hv h1 h2 h3
        conv => arg 2; whnf
        conv => arg 4; dsimp only
        go_wp2_with fail
        exact HEND.out _ _ _ _ _ _ _ _ _ _ _ _
    · have hd2 : (x.audit == 0) = false := by simp [h2]
      rw [show decide (x.vecs = AVec.zero) = false by rw [hv]; simp [h2]] at hend
      have HEND := Lib.hid hend
      clear hend hv h1 h2
      conv => arg 2; whnf
      conv => arg 4; dsimp only
      go_wp2_with fail
      exact HEND.out _ _ _ _ _ _ _ _ _ _ _ _
  · have hd1 : (x.allow == 0) = false := by simp [h1]
    rw [show decide (x.vecs = AVec.zero) = false by rw [hv]; simp [h1]] at hend
    have HEND := Lib.hid hend
    clear hend hv h1
    conv => arg 2; whnf
    conv => arg 4; dsimp only
    go_wp2_with fail
    exact HEND.out _ _ _ _ _ _ _ _ _ _ _ _

theorem own_shape' {w : World} {b : Nat} {t : TypeId} {k n : Nat} {v : Value} {xs : List Value} (h : w.ownsRow b t k v n xs) : ∃ a c, v = .slice a n c := by
  rcases h.2 with ⟨rfl, rfl⟩ | ⟨g, cap, cur, rfl, _⟩
  · exact ⟨_, _, rfl⟩
  · exact ⟨_, _, rfl⟩
theorem own_other' {w w' : World} {base n k i : Nat} {t : TypeId} {u : Value} {xs : List Value} {o X : Obj} (h : w.ownsRow base t k u n xs) (hg : (w.alloc o).grownBy w' u.ownBlock) (hi : w.heap[i]? = some X) (hX : ∀ c fr, X ≠ .cells c t fr) : w'.heap[i]? = w.heap[i]? := by
  have hlt := (Array.getElem?_eq_some_iff.1 hi).1
  have h1 : (w.alloc o).heap[i]? = w.heap[i]? := ((Below.refl _ w).alloc (Nat.le_refl _) o).block i hlt
  rw [← h1]
  refine hg.block i (by simp; omega) fun e => ?_
  obtain ⟨_, cur, hc⟩ := own_at h e.symm
  rw [hi] at hc
  exact hX _ _ (Option.some.inj hc)
theorem row_at {w : World} {g n j f : Nat} {cur : Array Value} {O : List AEntry} {y : AEntry} {u : Value} (hw : Whole w g 61 cur) (ht : cur.toList.take (n * 7) = O.flatMap AEntry.cells) (hy : O[j]? = some y) (hj : j < n) (hf : f < 7) (hu : y.cells[f]? = some u) : w.cell? ⟨g, j * 7 + f, none⟩ = some u := by
  rw [hw.cell, ← Array.getElem?_toList]
  have h1 : (cur.toList.take (n * 7))[j * 7 + f]? = cur.toList[j * 7 + f]? := by rw [List.getElem?_take, if_pos (by omega)]
  rw [← h1, ht, flat_at entry_len hy f hf, hu]
/-- What the loop keeps. -/
structure Uni (w wr : World) (L O : List AEntry) (u : Value) : Prop where
  uni : UniL L O
  len : O.length ≤ L.length
  map : MapAt wr Tryd.prog 61 w.heap.size (idxD O)
  row : wr.ownsRow (w.heap.size + 1) 61 7 u O.length (O.flatMap AEntry.cells)
  blw : RowKit.Below w.heap.size w wr
theorem Uni.keep {w wr w' : World} {L O : List AEntry} {u : Value} (h : Uni w wr L O u) (hb : RowKit.Below wr.heap.size wr w') : Uni w w' L O u :=
  ⟨h.uni, h.len, h.map.kept (hb.block _ h.map.lt), own_keep hb h.row (Nat.le_refl _), h.blw.trans (hb.mono h.blw.size)⟩
set_option maxRecDepth 100000 in
set_option maxHeartbeats 4000000 in
theorem union_any (w : World) (v : Value) (l : List AEntry) (h : SliceAt w v 7 l.length (l.flatMap AEntry.cells)) (hok : ∀ x ∈ l, x.Ok) (hlen : l.length ≤ 100000000) :
    Calls Tryd.prog 32 #[v] w fun e w' => ∃ v' l', e = .returned v' ∧ Canon (accE l) l' ∧ l'.length ≤ l.length ∧ SliceAt w' v' 7 l'.length (l'.flatMap AEntry.cells) ∧ RowKit.Below w.heap.size w w' := by
  obtain ⟨i0, z, hi, hz0, hz1, hz2, hzs⟩ := infoOf info61
  obtain ⟨n, hn⟩ : ∃ n, n = l.length := ⟨_, rfl⟩
  obtain ⟨a, c, rfl, hc, hmx, hcell⟩ := h.form (by decide)
  have HL := Lib.hid hn
  have HC := Lib.hid (And.intro hcell hc)
  have HOK := Lib.hid hok
  rw [← hn] at hmx hc hlen
  simp only [← hn]
  clear hn hcell h hok
  have q1 : (Instr.makeMap 95 none).run Tryd.prog w = .ok (.map (some w.heap.size)) (w.alloc (.map #[] 0)) := rfl
  have HR0 := Lib.hid (show Uni w (w.alloc (.map #[] 0)) (l.take 0) [] (.slice none 0 0) from ⟨by rw [List.take_zero]; exact UniL.nil, by simp, MapAt.made w _ _, World.ownsRow_nil _ _ _ _, (Below.refl _ w).alloc (Nat.le_refl _) _⟩)
  go_enter Tryd.func32, Tryd.ntmps32
  go_wp2_with fail
  obtain ⟨wm, hwm⟩ : ∃ wm, wm = w.alloc (.map #[] 0) := ⟨_, rfl⟩
  rw [← hwm] at HR0
  rw [← hwm]
  clear hwm q1
  go_loopw [5, 3] (fun ix u wr => ∃ (k : Nat) (O : List AEntry), k ≤ n ∧ ix = .int .i64 k ∧ Uni w wr (l.take k) O u) (fun ix _ _ => n - (intOf ix).toNat)
  case atStart => exact ⟨0, [], Nat.zero_le _, rfl, HR0.out⟩
  case round =>
    clear HR0
    obtain ⟨i, O, hi', rfl, hU⟩ := hrel
    obtain ⟨ua, uc, rfl⟩ := own_shape' hU.row
    obtain ⟨n2, hn2⟩ : ∃ n2, n2 = O.length := ⟨_, rfl⟩
    have HU := Lib.hid hU
    have HN2 := Lib.hid hn2
    have hn2' : n2 ≤ n := by rw [hn2]; have h1 := hU.len; have h2 := List.length_take_le i l; omega
    rw [← hn2] at HU
    simp only [← hn2]
    clear hU hn2
    by_cases hlt : i < n
    · have hln : i < l.length := by rw [← HL.out]; exact hlt
      obtain ⟨x, hx⟩ : ∃ x, l[i]? = some x := ⟨_, List.getElem?_eq_getElem hln⟩
      have HXI := Lib.hid (show l.take (i + 1) = l.take i ++ [x] from take_snoc hx)
      have HXO := Lib.hid (HOK.out x (List.mem_of_getElem? hx))
      obtain ⟨b, off, rfl, hcl⟩ := HC.out.1 i hln
      have e0 : wr.cell? ⟨b, off + i * 7, none⟩ = some (.int .i64 x.src) := cell_later HU.out.blw (hcl 0 _ (by rw [flat_at entry_len hx 0 (by decide)]; rfl))
      have e1 : wr.cell? ⟨b, off + i * 7 + 1, none⟩ = some (.int .i64 x.tgt) := cell_later HU.out.blw (hcl 1 _ (by rw [flat_at entry_len hx 1 (by decide)]; rfl))
      have e2 : wr.cell? ⟨b, off + i * 7 + 2, none⟩ = some (.int .i64 x.cls) := cell_later HU.out.blw (hcl 2 _ (by rw [flat_at entry_len hx 2 (by decide)]; rfl))
      have e3 : wr.cell? ⟨b, off + i * 7 + 3, none⟩ = some (.int .i64 x.cond) := cell_later HU.out.blw (hcl 3 _ (by rw [flat_at entry_len hx 3 (by decide)]; rfl))
      have e4 : wr.cell? ⟨b, off + i * 7 + 4, none⟩ = some (.int .u32 x.allow) := cell_later HU.out.blw (hcl 4 _ (by rw [flat_at entry_len hx 4 (by decide)]; rfl))
      have e5 : wr.cell? ⟨b, off + i * 7 + 5, none⟩ = some (.int .u32 x.audit) := cell_later HU.out.blw (hcl 5 _ (by rw [flat_at entry_len hx 5 (by decide)]; rfl))
      have e6 : wr.cell? ⟨b, off + i * 7 + 6, none⟩ = some (.int .u32 x.dont) := cell_later HU.out.blw (hcl 6 _ (by rw [flat_at entry_len hx 6 (by decide)]; rfl))
      have HWR := Lib.hid (show w.heap.size < wr.heap.size from HU.out.map.lt)
      have HMP := Lib.hid HU.out.map
      clear hx hcl hln
      go_upto_region 7 with (refine wpList_store_blk rfl 61 _ _ rfl wr.heap.size 0 (.agg #[.int .i64 x.src, .int .i64 x.tgt, .int .i64 x.cls, .int .i64 x.cond, .int .u32 x.allow, .int .u32 x.audit, .int .u32 x.dont]) rfl rfl 61 _ (Whole.new wr 61 _) (by simp [Value.cells]) size61 rfl ?_; intro w1 SE1 WE1; rw [splice_all _ _ (by rfl)] at WE1; have HSE1 := Lib.hid SE1; have HE1 := Lib.hid (show Whole w1 wr.heap.size 61 #[.int .i64 x.src, .int .i64 x.tgt, .int .i64 x.cls, .int .i64 x.cond, .int .u32 x.allow, .int .u32 x.audit, .int .u32 x.dont] from WE1); clear SE1 WE1 e0 e1 e2 e3 e4 e5 e6; have HB1 := Lib.hid (((Below.refl _ wr).alloc (Nat.le_refl _) _).trans (HSE1.out.below (Nat.le_refl _))))
      refine uni_7 w1 wr.heap.size x _ _ _ _ _ _ _ _ _ _ _ _ _ _ _ _ _ _ _ _ _ _ _ _ _ _ _ _ _ _ _ _ _ _ _ _ _ _ _ _ _ _ _ _ _ _ _ _ _ _ _ _ _ _ _ _ _ _ _ _ _ _ _ _ _ _ _ _ _ _ _ _ _ _ _ _ _ _ _ _ _ _ _ _ _ _ _ _ _ _ _ _ _ _ _ _ HE1 ?_
      intro v21 v22 v23 v24 v25 v26 v27 v28 v29 v30 v31 v32
      by_cases hz : x.vecs = AVec.zero
      · have hdz : decide (x.vecs = AVec.zero) = true := by simp [hz]
        have HZ := Lib.hid hz
        simp only [hdz]
        clear hz hdz
        go_wp2_with fail
        have HN9 := Lib.hid (show Uni w w1 (l.take (i + 1)) O _ from let h := HU.out.keep HB1.out; ⟨by rw [HXI.out]; exact h.uni.skip HZ.out, by rw [HXI.out, List.length_append]; have := h.len; omega, h.map, h.row, h.blw⟩)
        go_roundw
        case rel => exact ⟨i + 1, O, by omega, by go_num, HN9.out⟩
        case measure => simp [intOf]; omega
      · have hdz : decide (x.vecs = AVec.zero) = false := by simp [hz]
        have HZ := Lib.hid hz
        simp only [hdz]
        clear hz hdz
        have q0 : w1.cell? ⟨wr.heap.size, 0, none⟩ = some (.int .i64 x.src) := HE1.out.cell 0
        have q1 : w1.cell? ⟨wr.heap.size, 1, none⟩ = some (.int .i64 x.tgt) := HE1.out.cell 1
        have q2 : w1.cell? ⟨wr.heap.size, 2, none⟩ = some (.int .i64 x.cls) := HE1.out.cell 2
        have q3 : w1.cell? ⟨wr.heap.size, 3, none⟩ = some (.int .i64 x.cond) := HE1.out.cell 3
        by_cases hk : x.key ∈ O.map AEntry.key
        · obtain ⟨y, hyO, hyk⟩ := List.mem_map.1 hk
          obtain ⟨j, hyj⟩ := List.getElem?_of_mem hyO
          have hj : j < n2 := by rw [HN2.out]; exact (List.getElem?_eq_some_iff.1 hyj).1
          have HKJ := Lib.hid (show ((.agg #[.int .i64 x.src, .int .i64 x.tgt, .int .i64 x.cls, .int .i64 x.cond, .int .u32 0, .int .u32 0, .int .u32 0], .int .i64 (j : Int)) : Value × Value) ∈ idxD O by
            have h1 := idxD_mem hyj
            have h2 : y.src = x.src ∧ y.tgt = x.tgt ∧ y.cls = x.cls ∧ y.cond = x.cond := by simpa [AEntry.key] using hyk
            simpa [kpair, h2.1, h2.2.1, h2.2.2.1, h2.2.2.2] using h1)
          have HYJ := Lib.hid (And.intro hyj hyk)
          have hOp : 0 < O.length := by rw [← HN2.out]; omega
          clear hk hyO hyk hyj
          go_upto_region 13 with (first | (refine wpList_store_blk rfl 61 _ _ rfl w1.heap.size 0 (.agg #[.int .i64 x.src, .int .i64 x.tgt, .int .i64 x.cls, .int .i64 x.cond, .int .u32 0, .int .u32 0, .int .u32 0]) rfl rfl 61 _ (Whole.new w1 61 _) (by simp [Value.cells]) size61 rfl ?_; intro w2 SK2 WK2; rw [splice_all _ _ (by rfl)] at WK2; have HSK2 := Lib.hid SK2; have HK2 := Lib.hid (show Whole w2 w1.heap.size 61 #[.int .i64 x.src, .int .i64 x.tgt, .int .i64 x.cls, .int .i64 x.cond, .int .u32 0, .int .u32 0, .int .u32 0] from WK2); clear SK2 WK2 q0 q1 q2 q3; have HB2 := Lib.hid (HB1.out.trans ((((Below.refl _ w1).alloc (Nat.le_refl _) _).trans (HSK2.out.below (Nat.le_refl _))).mono HB1.out.size)); have HX2 := Lib.hid (Whole.under (((Below.refl _ w1).alloc (Nat.le_refl _) _).trans (HSK2.out.below (Nat.le_refl _))) HE1.out HE1.out.lt); have q : (Instr.lookup 95 (.map (some w.heap.size)) (.agg #[.int .i64 x.src, .int .i64 x.tgt, .int .i64 x.cls, .int .i64 x.cond, .int .u32 0, .int .u32 0, .int .u32 0]) true).run Tryd.prog w2 = .ok (.tuple #[.int .i64 (j : Int), .bool true]) w2 := (by obtain ⟨kl, hkl⟩ := key61 HXO.out.1; exact (HMP.out.kept (HB2.out.block _ HMP.out.lt)).look_some true keyed61 Tryd.underlying95 hkl HKJ.out)) | (refine wpList_load_row rfl 61 _ rfl w1.heap.size rfl 61 _ (0, 0) _ HK2.out Tryd.underlying61 rfl size61 ?_))
          have HO2 := Lib.hid (own_keep HB2.out HU.out.row (Nat.le_refl _))
          obtain ⟨g, cap, cur, hgv, hgb, hgw, hgn, hgc, hgs, hgt⟩ := own_open HO2.out hOp
          rw [← HN2.out] at hgv hgn hgt
          rw [Value.slice.injEq] at hgv
          obtain ⟨rfl, -, rfl⟩ := hgv
          have HGB := Lib.hid (And.intro hgb (And.intro hgn (And.intro hgc (And.intro hgs hgt))))
          have HGW := Lib.hid hgw
          have HFIT := Lib.hid (show j * 7 + 7 ≤ cur.size by rw [hgs]; omega)
          have HXG := Lib.hid (show wr.heap.size ≠ g by have := (Array.getElem?_eq_some_iff.1 (show w2.heap[g]? = some (.cells cur 61 (0, 0)) from hgw)).1; have h1 := (own_at HU.out.row (g := g) rfl); obtain ⟨_, cur', hh⟩ := h1; have := (Array.getElem?_eq_some_iff.1 hh).1; omega)
          clear hgb hgw hgn hgc hgs hgt HK2 HSK2 HE1 HSE1 HB1
          have HSZ2 := Lib.hid (show (w.heap.size + 1) ≤ w2.heap.size by have := HWR.out; have := HB2.out.size; omega)
          refine uni_13 w2 g wr.heap.size n2 uc j x y cur _ _ _ _ _ _ _ _ _ _ _ _ _ _ _ _ _ _ _ _ _ _ _ _ _ _ _ _ _ _ _ _ _ _ _ _ _ _ _ _ _ _ _ _ _ _ _ _ _ _ _ _ _ _ _ _ _ _ _ _ _ _ _ _ _ _ _ _ _ _ _ _ _ _ _ _ _ _ _ _ _ _ _ _ _ _ _ _ _ _ _ _ _ _ hj HX2 HGW (Lib.hid (row_at HGW.out HGB.out.2.2.2.2 HYJ.out.1 hj (f := 4) (by decide) rfl)) HFIT ?_
          intro v59 v60 v61 v62 v63 v64 v65 v66 v67 v68 v69 v70 wq w3 hbb hss hww
          have HB3 := Lib.hid (show RowKit.Below (w.heap.size + 1) w2 w3 from (hbb.mono HSZ2.out).trans (hss.below HGB.out.1))
          have HX3 := Lib.hid (hss.whole (Whole.under hbb HX2.out HX2.out.lt) HXG.out)
          obtain ⟨y1, hyy⟩ : ∃ y1 : AEntry, y1 = ⟨y.src, y.tgt, y.cls, y.cond, bits .or .u32 y.allow x.allow, y.audit, y.dont⟩ := ⟨_, rfl⟩
          have hoo := own_cell (y' := y1) HN2.out.symm HGB.out.1 HGB.out.2.1 HGB.out.2.2.1 HGB.out.2.2.2.1 HGB.out.2.2.2.2 HYJ.out.1 (f := 4) (by decide) (by rw [hyy]; rfl) hww
          obtain ⟨cur1, hcc⟩ : ∃ cur1, cur1 = splice cur (j * 7 + 4) [.int .u32 (bits .or .u32 y.allow x.allow)] := ⟨_, rfl⟩
          rw [← hcc] at hoo hww
          have HG3 := Lib.hid hoo
          have HW3 := Lib.hid hww
          have HFIT3 := Lib.hid (show j * 7 + 7 ≤ cur1.size by rw [hoo.2.1]; have := HGB.out.2.1; omega)
          have HY1 := Lib.hid (And.intro hyy (show (O.set j y1)[j]? = some y1 by rw [List.getElem?_set, if_pos rfl, if_pos (by rw [HN2.out.symm]; exact hj)]))
          clear hbb hss hww hoo hcc hyy
          have HLN := Lib.hid (show (O.set j y1).length = n2 ∧ ∀ y2, ((O.set j y1).set j y2).length = n2 by simp [HN2.out])
          go_upto_region 14 with fail
          refine uni_14 w3 g wr.heap.size n2 uc j x y1 cur1 _ _ _ _ _ _ _ _ _ _ _ _ _ _ _ _ _ _ _ _ _ _ _ _ _ _ _ _ _ _ _ _ _ _ _ _ _ _ _ _ _ _ _ _ _ _ _ _ _ _ _ _ _ _ _ _ _ _ _ _ _ _ _ _ _ _ _ _ _ _ _ _ _ _ _ _ _ _ _ _ _ _ _ _ _ _ _ _ _ _ _ _ _ _ hj HX3 HW3 (Lib.hid (row_at HW3.out HG3.out.2.2 HY1.out.2 hj (f := 5) (by decide) rfl)) HFIT3 ?_
          intro v71 v72 v73 v74 v75 v76 v77 v78 v79 v80 v81 v82 wq w4 hbb hss hww
          have HB4 := Lib.hid (show RowKit.Below (w.heap.size + 1) w3 w4 from (hbb.mono (Nat.le_trans HSZ2.out HB3.out.size)).trans (hss.below HGB.out.1))
          have HX4 := Lib.hid (hss.whole (Whole.under hbb HX3.out HX3.out.lt) HXG.out)
          obtain ⟨y2, hyy⟩ : ∃ y2 : AEntry, y2 = ⟨y1.src, y1.tgt, y1.cls, y1.cond, y1.allow, bits .or .u32 y1.audit x.audit, y1.dont⟩ := ⟨_, rfl⟩
          have hoo := own_cell (y' := y2) HLN.out.1 HGB.out.1 HGB.out.2.1 HGB.out.2.2.1 HG3.out.2.1 HG3.out.2.2 HY1.out.2 (f := 5) (by decide) (by rw [hyy]; rfl) hww
          obtain ⟨cur2, hcc⟩ : ∃ cur2, cur2 = splice cur1 (j * 7 + 5) [.int .u32 (bits .or .u32 y1.audit x.audit)] := ⟨_, rfl⟩
          rw [← hcc] at hoo hww
          have HG4 := Lib.hid hoo
          have HW4 := Lib.hid hww
          have HFIT4 := Lib.hid (show j * 7 + 7 ≤ cur2.size by rw [hoo.2.1]; have := HGB.out.2.1; omega)
          have HY2 := Lib.hid (And.intro hyy (show ((O.set j y1).set j y2)[j]? = some y2 by rw [List.getElem?_set, if_pos rfl, if_pos (by rw [HLN.out.1]; exact hj)]))
          clear hbb hss hww hoo hcc hyy
          go_upto_region 15 with fail
          refine uni_15 w4 g wr.heap.size n2 uc j x y2 cur2 _ _ _ _ _ _ _ _ _ _ _ _ _ _ _ _ _ _ _ _ _ _ _ _ _ _ _ _ _ _ _ _ _ _ _ _ _ _ _ _ _ _ _ _ _ _ _ _ _ _ _ _ _ _ _ _ _ _ _ _ _ _ _ _ _ _ _ _ _ _ _ _ _ _ _ _ _ _ _ _ _ _ _ _ _ _ _ _ _ _ _ _ _ _ hj HX4 HW4 (Lib.hid (row_at HW4.out HG4.out.2.2 HY2.out.2 hj (f := 6) (by decide) rfl)) HFIT4 ?_
          intro v83 v84 v85 v86 v87 v88 v89 v90 v91 v92 v93 v94 wq w5 hbb hss hww
          have HB5 := Lib.hid (show RowKit.Below (w.heap.size + 1) w4 w5 from (hbb.mono (Nat.le_trans (Nat.le_trans HSZ2.out HB3.out.size) HB4.out.size)).trans (hss.below HGB.out.1))
          have HX5 := Lib.hid (hss.whole (Whole.under hbb HX4.out HX4.out.lt) HXG.out)
          obtain ⟨y3, hyy⟩ : ∃ y3 : AEntry, y3 = ⟨y2.src, y2.tgt, y2.cls, y2.cond, y2.allow, y2.audit, bits .or .u32 y2.dont x.dont⟩ := ⟨_, rfl⟩
          have hoo := own_cell (y' := y3) (HLN.out.2 y2) HGB.out.1 HGB.out.2.1 HGB.out.2.2.1 HG4.out.2.1 HG4.out.2.2 HY2.out.2 (f := 6) (by decide) (by rw [hyy]; rfl) hww
          obtain ⟨cur3, hcc⟩ : ∃ cur3, cur3 = splice cur2 (j * 7 + 6) [.int .u32 (bits .or .u32 y2.dont x.dont)] := ⟨_, rfl⟩
          rw [← hcc] at hoo hww
          have HG5 := Lib.hid hoo
          have HW5 := Lib.hid hww
          have HFIT5 := Lib.hid (show j * 7 + 7 ≤ cur3.size by rw [hoo.2.1]; have := HGB.out.2.1; omega)
          have HY3 := Lib.hid (And.intro hyy (show (((O.set j y1).set j y2).set j y3)[j]? = some y3 by rw [List.getElem?_set, if_pos rfl, if_pos (by rw [(HLN.out.2 y2)]; exact hj)]))
          clear hbb hss hww hoo hcc hyy
          go_wp2_with fail
          have HN9 := Lib.hid (show Uni w w5 (l.take (i + 1)) (O.set j y3) (.slice (some ⟨g, 0, none⟩) n2 uc) from by
            have hB := (HB3.out.trans HB4.out).trans HB5.out
            have e3 : y3 = mkE y.key (y.vecs.or x.vecs) := by rw [HY3.out.1, HY2.out.1, HY1.out.1]; rfl
            have hl3 : (O.set j y3).length = n2 := by rw [List.length_set]; exact HN2.out.symm
            refine ⟨?_, ?_, by rw [idxD_set HYJ.out.1 (by rw [e3]; rfl)]; exact (HMP.out.kept (HB2.out.block _ HMP.out.lt)).kept (hB.block _ (Nat.lt_succ_self _)), ?_, ?_⟩
            · rw [HXI.out, e3]
              exact HU.out.uni.join HYJ.out.1 HYJ.out.2 HXO.out HZ.out
            · rw [HXI.out]
              have := HU.out.len
              simp only [List.length_append, List.length_singleton, List.length_set]
              omega
            · have h9 := HG5.out.1
              rw [List.set_set, List.set_set] at h9
              rw [hl3]
              exact h9
            · exact (HU.out.blw.trans (HB2.out.mono HU.out.blw.size)).trans (hB.mono (Nat.le_succ _)))
          go_roundw
          case rel => exact ⟨i + 1, O.set j y3, by omega, by go_num, HN9.out⟩
          case measure => simp [intOf]; omega
        · have HNK := Lib.hid hk
          clear hk
          go_upto_region 12 with (first | (refine wpList_store_blk rfl 61 _ _ rfl w1.heap.size 0 (.agg #[.int .i64 x.src, .int .i64 x.tgt, .int .i64 x.cls, .int .i64 x.cond, .int .u32 0, .int .u32 0, .int .u32 0]) rfl rfl 61 _ (Whole.new w1 61 _) (by simp [Value.cells]) size61 rfl ?_; intro w2 SK2 WK2; rw [splice_all _ _ (by rfl)] at WK2; have HSK2 := Lib.hid SK2; have HK2 := Lib.hid (show Whole w2 w1.heap.size 61 #[.int .i64 x.src, .int .i64 x.tgt, .int .i64 x.cls, .int .i64 x.cond, .int .u32 0, .int .u32 0, .int .u32 0] from WK2); clear SK2 WK2 q0 q1 q2 q3; have HB2 := Lib.hid (HB1.out.trans ((((Below.refl _ w1).alloc (Nat.le_refl _) _).trans (HSK2.out.below (Nat.le_refl _))).mono HB1.out.size)); have HX2 := Lib.hid (Whole.under (((Below.refl _ w1).alloc (Nat.le_refl _) _).trans (HSK2.out.below (Nat.le_refl _))) HE1.out HE1.out.lt); have q : (Instr.lookup 95 (.map (some w.heap.size)) (.agg #[.int .i64 x.src, .int .i64 x.tgt, .int .i64 x.cls, .int .i64 x.cond, .int .u32 0, .int .u32 0, .int .u32 0]) true).run Tryd.prog w2 = .ok (.tuple #[.int .i64 0, .bool false]) w2 := (by obtain ⟨kl, hkl⟩ := key61 HXO.out.1; exact (HMP.out.kept (HB2.out.block _ HMP.out.lt)).look_none true keyed61 Tryd.underlying95 (z := .int .i64 0) (by kernel_rfl) hkl (idxD_no HNK.out))) | (refine wpList_load_row rfl 61 _ rfl w1.heap.size rfl 61 _ (0, 0) _ HK2.out Tryd.underlying61 rfl size61 ?_) | (have hZ := HK2; clear hZ; refine wpList_put _ rfl (.tmp 51) (.tmp 52) (.tmp 54) 95 rfl (.map (some w.heap.size)) (.agg #[.int .i64 x.src, .int .i64 x.tgt, .int .i64 x.cls, .int .i64 x.cond, .int .u32 0, .int .u32 0, .int .u32 0]) (.int .i64 (n2 : Int)) rfl rfl rfl (fun w' => MapAt w' Tryd.prog 61 w.heap.size ((.agg #[.int .i64 x.src, .int .i64 x.tgt, .int .i64 x.cls, .int .i64 x.cond, .int .u32 0, .int .u32 0, .int .u32 0], .int .i64 (n2 : Int)) :: idxD O) ∧ w2.grownBy w' (some w.heap.size) ∧ w'.heap.size = w2.heap.size) (by obtain ⟨kl, hkl⟩ := key61 HXO.out.1; exact (HMP.out.kept (HB2.out.block _ HMP.out.lt)).put_new keyed61 Tryd.underlying95 hkl (idxD_no HNK.out)) ?_; intro w3 hp3; have HP3 := Lib.hid hp3; have HX3 := Lib.hid (HX2.out.grown hp3.2.1 (fun e => by have := Option.some.inj e; have := HWR.out; omega)); clear hp3 HK2))
          have HO2 := Lib.hid (own_keep HB2.out HU.out.row (Nat.le_refl _))
          have HO3 := Lib.hid (show w3.ownsRow (w.heap.size + 1) 61 7 _ O.length (O.flatMap AEntry.cells) from own_step HO2.out (fun g hg => by
            obtain ⟨hb1, cur, hh⟩ := own_at HO2.out hg
            exact HP3.out.2.1.block g (Array.getElem?_eq_some_iff.1 hh).1 (fun e => by have := Option.some.inj e; omega)))
          have HBW3 := Lib.hid (show RowKit.Below w.heap.size w w3 from (HU.out.blw.trans (HB2.out.mono HU.out.blw.size)).trans (Below.of_iter HP3.out.2.1 (Nat.le_refl _) (Nat.le_trans HU.out.blw.size HB2.out.size) HP3.out.2.2))
          have HSM := Lib.hid (show O.length ≤ 100000000 by rw [← HN2.out]; omega)
          clear HB1 HE1 HSE1 HX2 HSK2
          go_wp2_with (first | (refine wpList_load_row rfl 61 _ rfl wr.heap.size rfl 61 _ (0, 0) _ HX3.out Tryd.underlying61 rfl size61 ?_) | (have hZ := HP3; clear hZ; at_builtin; go_must (refine wpList_append_own _ rfl _ _ 52 rfl (w.heap.size + 1) 61 i0 z 7 48 Tryd.underlying52 hi hz0 hz1 hz2 hzs (by decide) _ _ _ rfl (own_alloc HO3.out _) ⟨w3.heap.size, 0, none⟩ 1 1 [.int .i64 x.src, .int .i64 x.tgt, .int .i64 x.cls, .int .i64 x.cond, .int .u32 x.allow, .int .u32 x.audit, .int .u32 x.dont] rfl rfl (row_new _ _ _) ?c2 ?c3 ?c4 ?c5 ?_)))
          case c2 => simp [Value.oneCell']
          case c3 => have := HSM.out; unfold maxLen; omega
          case c4 => have := HSM.out; omega
          case c5 => have := HBW3.out.size; have := HP3.out.2.2; have := HB2.out.size; have := HWR.out; simp; omega
          intro v' w9 hown' hgrow hnil
          have HN9 := Lib.hid (show Uni w w9 (l.take (i + 1)) (O ++ [x]) v' from by
            refine ⟨by rw [HXI.out]; exact HU.out.uni.new HXO.out HZ.out HNK.out, by rw [HXI.out]; have := HU.out.len; simp only [List.length_append, List.length_singleton]; omega, ?_, by rw [List.length_append, List.flatMap_append]; simpa [AEntry.cells] using hown', ?_⟩
            · have hm : MapAt w3 Tryd.prog 61 w.heap.size (idxD (O ++ [x])) := HP3.out.1.perm (by
                rw [idxD_snoc, ← HN2.out]
                exact (List.perm_append_singleton _ _).symm)
              obtain ⟨es, clock, hb, _⟩ := id hm
              exact hm.kept (own_other' HO3.out hgrow hb (by intro c fr e; cases e))
            · exact (HBW3.out.alloc HBW3.out.size _).grown hgrow (by have := HBW3.out.size; simp; omega) (fun q hq => by have := (own_at HO3.out hq).1; omega))
          clear hgrow hnil hown'
          go_wp2
          go_roundw
          case rel => exact ⟨i + 1, O ++ [x], by omega, by go_num, HN9.out⟩
          case measure => simp [intOf]; omega
    · obtain rfl : i = n := by omega
      have HS50 := Lib.hid (SliceAt.of_own HU.out.row (ecells_one _))
      have HSM := Lib.hid (show O.length ≤ 100000000 by rw [← HN2.out]; omega)
      go_wp2_with (go_at_call 50; go_must (refine (rordered_any O.length wr _ O rfl HS50.out HSM.out).mono ?_; rintro e w9 ⟨v9, rfl, hso, hb9⟩; have HQ := Lib.hid (And.intro hso hb9); clear hso hb9))
      go_ret
      obtain ⟨⟨R, hp, hs, hsl⟩, hb9⟩ := HQ.out
      refine ⟨_, R, rfl, ?_, by rw [hp.length_eq, ← HN2.out]; exact hn2', hsl, HU.out.blw.trans (hb9.mono HU.out.blw.size)⟩
      have := HU.out.uni.canon hp hs
      rwa [show l.take i = l by rw [HL.out, List.take_length]] at this
end Go.Proofs.YtmkfabdkadocdaaDoor

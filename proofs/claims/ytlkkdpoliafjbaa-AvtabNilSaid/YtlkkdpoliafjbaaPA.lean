import Derived.Test.YtlkkdpoliafjbaaP9
/-
  The reference's Merge.
-/
namespace Go.Proofs.Ytlkkdpoliafjbaa
open Go Go.WideMaps Go.RowKit

def zeroE : AEntry := ⟨0, 0, 0, 0, 0, 0, 0⟩
theorem und22 : Try.prog.underlying 22 = some (.slice (Try.prog.elem 22)) := by rw [show Try.prog.elem 22 = 37 from by kernel_rfl]; exact Try.underlying22
theorem elem22 : Try.prog.elem 22 = 37 := by kernel_rfl
theorem tail_any (g p cap k : Nat) (hk : k ≤ p) (hc : p + 1 ≤ cap) (hp : p ≤ 1000000) : ∃ o1 c1, ∀ W, (Instr.slice 22 (.slice (some ⟨g, 0, none⟩) (p + 1) cap) (some (.int .i64 ((k : Int) + 1))) none none).run Try.prog W = .ok (.slice (some ⟨g, o1, none⟩) (p - k) c1) W := by
  by_cases h : cap = k + 1
  · refine ⟨0, 0, fun W => ?_⟩
    rw [show ((k : Int) + 1) = ((k + 1 : Nat) : Int) by omega, run_slice_l W 22 (some ⟨g, 0, none⟩) (p + 1) cap und22 .i64 ((k + 1 : Nat) : Int) (by omega) (by omega), elem22, Try.sizeOf37]
    obtain rfl : k = p := by omega
    simp [Result.andThen, sliced, h]
  · refine ⟨(k + 1) * 7, cap - (k + 1), fun W => ?_⟩
    rw [show ((k : Int) + 1) = ((k + 1 : Nat) : Int) by omega, run_slice_l W 22 (some ⟨g, 0, none⟩) (p + 1) cap und22 .i64 ((k + 1 : Nat) : Int) (by omega) (by omega), elem22, Try.sizeOf37]
    have e1 : p + 1 - (k + 1) = p - k := by omega
    simp [Result.andThen, sliced, Addr.add_mid, h, e1]
theorem tail_any2 (W : World) (g p cap k : Nat) (hk : k ≤ p) (hc : p + 1 ≤ cap) (_ : p ≤ 1000000) : (Instr.slice 22 (.slice (some ⟨g, 0, none⟩) (p + 1) cap) (some (.int .i64 (k : Int))) none none).run Try.prog W = .ok (.slice (some ⟨g, k * 7, none⟩) (p + 1 - k) (cap - k)) W := by
  rw [run_slice_l W 22 (some ⟨g, 0, none⟩) (p + 1) cap und22 .i64 (k : Int) (by omega) (by omega), elem22, Try.sizeOf37]
  have : ¬ cap = k := by omega
  simp [Result.andThen, sliced, Addr.add_mid, this]
theorem far_box {w : World} {bs eb g p cap : Nat} {x : AEntry} {O : List AEntry} (hX : Whole w eb 37 #[.int .i64 x.src, .int .i64 x.tgt, .int .i64 x.cls, .int .i64 x.cond, .int .u32 x.allow, .int .u32 x.audit, .int .u32 x.dont]) (ho : w.ownsRow bs 37 7 (.slice (some ⟨g, 0, none⟩) (p + 1) cap) (p + 1) ((O ++ [zeroE]).flatMap AEntry.cells)) (hl : O.length = p) (hx : x ≠ zeroE) : eb ≠ g := by
  rintro rfl
  obtain ⟨cur, -, hw, hnc, -, hcs, ht⟩ := own_cur ho
  unfold Whole at hX hw
  rw [hX] at hw
  cases hw
  have : cap = 1 := by simp at hcs; omega
  have hp : p = 0 := by omega
  subst hp
  obtain rfl := List.eq_nil_of_length_eq_zero hl
  have ht' : x.cells = zeroE.cells := by simpa [AEntry.cells] using ht
  apply hx
  cases x
  simp only [AEntry.cells, zeroE, List.cons.injEq, Value.int.injEq, true_and, and_true] at ht'
  obtain ⟨rfl, rfl, rfl, rfl, rfl, rfl, rfl⟩ := ht'
  rfl
theorem own_len_cast {w : World} {bs n : Nat} {v : Value} {k m : Nat} {xs : List Value} (h : m = n) : w.ownsRow bs 37 k v m xs = w.ownsRow bs 37 k v n xs := by rw [h]
theorem at_place {O : List AEntry} {p k : Nat} {z : AEntry} (hl : O.length = p) (hk : k ≤ p) : ((O ++ [z]).take (k + 1) ++ O.drop k)[k]? = some (((O ++ [z])[k]?).getD z) := by
  have h : k < (O ++ [z]).length := by simp; omega
  rw [List.getElem?_append_left (by rw [List.length_take]; omega), List.getElem?_take, if_pos (by omega), List.getElem?_eq_getElem h]
  rfl
theorem set_place {O : List AEntry} {p k : Nat} {x z : AEntry} (hl : O.length = p) (hk : k ≤ p) : ((O ++ [z]).take (k + 1) ++ O.drop k).set k x = O.take k ++ x :: O.drop k := by
  have h : k < (O ++ [z]).length := by simp; omega
  have e : (O ++ [z]).take (k + 1) = O.take k ++ [(O ++ [z])[k]] := by
    rw [List.take_add_one, List.getElem?_eq_getElem h, List.take_append_of_le_length (by omega)]
    rfl
  have hlt : (O.take k).length = k := by rw [List.length_take]; omega
  rw [e, List.append_assoc, List.set_append_right _ _ (by omega), hlt, Nat.sub_self]
  rfl
theorem copy_row {W : World} {bs g cap p k o1 c1 : Nat} {O : List AEntry} (ho : W.ownsRow bs 37 7 (.slice (some ⟨g, 0, none⟩) (p + 1) cap) (p + 1) ((O ++ [zeroE]).flatMap AEntry.cells)) (hl : O.length = p) (hk : k ≤ p)
    (h1 : ∀ W, (Instr.slice 22 (.slice (some ⟨g, 0, none⟩) (p + 1) cap) (some (.int .i64 ((k : Int) + 1))) none none).run Try.prog W = .ok (.slice (some ⟨g, o1, none⟩) (p - k) c1) W) (hp : p ≤ 1000000) :
    ∃ W', (∀ ty, (Builtin.copy_ #[22, 22] ty #[.slice (some ⟨g, o1, none⟩) (p - k) c1, .slice (some ⟨g, k * 7, none⟩) (p + 1 - k) (cap - k)]).run Try.prog W = .ok (goInt (p - k : Nat)) W') ∧ W'.ownsRow bs 37 7 (.slice (some ⟨g, 0, none⟩) (p + 1) cap) (p + 1) (((O ++ [zeroE]).take (k + 1) ++ O.drop k).flatMap AEntry.cells) ∧ Sto W W' g := by
  obtain ⟨cur, hg, hw, hnc, hcm, hcs, ht⟩ := own_cur ho
  have hfl : ((O.drop k).flatMap AEntry.cells).length = (p - k) * 7 := by rw [flat_length entry_len, List.length_drop, hl]
  have hcap : (p + 1) * 7 ≤ cap * 7 := Nat.mul_le_mul_right 7 hnc
  have ho1 : k < p → o1 = (k + 1) * 7 := fun hlt => by
    have h2 := h1 W
    rw [show ((k : Int) + 1) = ((k + 1 : Nat) : Int) by omega, run_slice_l W 22 (some ⟨g, 0, none⟩) (p + 1) cap und22 .i64 ((k + 1 : Nat) : Int) (by omega) (by omega), elem22, Try.sizeOf37] at h2
    have hne : ¬ cap = k + 1 := by omega
    simp [Result.andThen, sliced, Addr.add_mid, hne] at h2
    omega
  have hsrc : ∀ j v, ((O.drop k).flatMap AEntry.cells)[j]? = some v → W.cell? ((⟨g, k * 7, none⟩ : Addr).add j) = some v := fun j v hj => by
    have hjl : j < (p - k) * 7 := by rw [← hfl]; exact (List.getElem?_eq_some_iff.1 hj).1
    rw [Addr.add_mid, hw.cell]
    have h2 : cur.toList[k * 7 + j]? = ((O ++ [zeroE]).flatMap AEntry.cells)[k * 7 + j]? := by rw [← ht, List.getElem?_take, if_pos (by omega)]
    have h3 : ((O ++ [zeroE]).flatMap AEntry.cells)[k * 7 + j]? = ((O.drop k).flatMap AEntry.cells)[j]? := by
      rw [List.flatMap_append, List.getElem?_append_left (by rw [flat_length entry_len, hl]; omega)]
      conv => lhs; rw [← List.take_append_drop k O]
      have htk : ((O.take k).flatMap AEntry.cells).length = k * 7 := by rw [flat_length entry_len, List.length_take]; congr 1; omega
      rw [List.flatMap_append, List.getElem?_append_right (by omega), htk, Nat.add_sub_cancel_left]
    rw [← hj, ← h3, ← h2]
    simp
  have hone : ∀ u ∈ (O.drop k).flatMap AEntry.cells, u.oneCell' = true := ecells_one _
  by_cases hlt : k < p
  · obtain rfl := ho1 hlt
    refine ⟨_, fun ty => run_copy_k W 22 22 ty 37 7 (p - k) g ((k + 1) * 7) (p - k) c1 ⟨g, k * 7, none⟩ (p + 1 - k) (cap - k) ((O.drop k).flatMap AEntry.cells) Try.underlying22 size37 (by simp only [Nat.min_def]; split <;> omega) hfl hsrc
      (fun j hj => by rw [hw.cell, Array.getElem?_eq_getElem (by rw [hfl] at hj; omega)]; rfl) (fun j hj => hw.frozen _) hone, ?_, (setCells_blk _ _ cur W hw).1⟩
    have hw' := (setCells_blk ((O.drop k).flatMap AEntry.cells) ((k + 1) * 7) cur W hw).2
    refine ⟨?_, .inr ⟨g, cap, _, rfl, hg, hw', hnc, hcm, by rw [splice_size, hcs], ?_⟩⟩
    · rw [flat_length entry_len, List.length_append, List.length_take, List.length_drop, List.length_append, List.length_singleton, hl]
      congr 1
      omega
    · rw [splice_take cur ((k + 1) * 7) ((p + 1) * 7) _ (by rw [hfl]; omega) (by rw [hfl]; omega), List.flatMap_append]
      congr 1
      have h4 : cur.toList.take ((k + 1) * 7) = (cur.toList.take ((p + 1) * 7)).take ((k + 1) * 7) := by rw [List.take_take, Nat.min_eq_left (by omega)]
      rw [h4, ht]
      conv => lhs; rw [← List.take_append_drop (k + 1) (O ++ [zeroE])]
      have htk : (((O ++ [zeroE]).take (k + 1)).flatMap AEntry.cells).length = (k + 1) * 7 := by rw [flat_length entry_len, List.length_take]; congr 1; simp; omega
      rw [List.flatMap_append, List.take_append_of_le_length (by omega), List.take_of_length_le (by omega)]
  · obtain rfl : k = p := by omega
    have hnil : O.drop k = [] := List.drop_of_length_le (by omega)
    rw [hnil] at hfl hsrc hone ⊢
    refine ⟨W, fun ty => ?_, ?_, Sto.refl _ _⟩
    · exact run_copy_k W 22 22 ty 37 7 (k - k) g o1 (k - k) c1 ⟨g, k * 7, none⟩ (k + 1 - k) (cap - k) [] Try.underlying22 size37 (by simp only [Nat.min_def]; split <;> omega) (by simp) (fun j v hj => by simp at hj) (fun j hj => by simp at hj) (fun j hj => by simp at hj) (by simp)
    · rw [List.take_of_length_le (by simp; omega), List.append_nil]
      exact ho
theorem m6_no (w : World) (eb : Nat) (x : AEntry) (x0 x1 x2 x3 x4 x6 x7 x8 x9 x10 x11 x12 x13 x14 x15 x16 x17 x18 x19 x20 x21 x22 x23 x24 x25 x26 x27 x28 x29 x30 x31 x32 x33 x34 x35 x36 x37 x38 x39 x40 x41 x42 x43 x44 x45 x46 x47 x48 x49 x50 x51 x52 x53 x54 x55 x56 x57 x58 x59 x60 x61 x62 x63 x64 x65 x66 x67 x68 x69 x70 x71 x72 x73 x74 x75 x76 x77 x78 x79 x80 x81 x82 x83 x84 x85 x86 x87 x88 x89 x90 x91 x92 x93 x94 x95 x96 x97 x98 x99 x100 x101 x102 x103 x104 x105 x106 x107 x108 x109 : Value) (HX : Hid (Whole w eb 37 #[.int .i64 x.src, .int .i64 x.tgt, .int .i64 x.cls, .int .i64 x.cond, .int .u32 x.allow, .int .u32 x.audit, .int .u32 x.dont])) (hne : x.vecs ≠ AVec.zero)
    {Q' : Exit → Act → World → Prop} (hend : ∀ (v17 v18 v19 v20 v21 v22 v23 v24 v25 v26 v27 v28 : Value), True → Q' .normal ⟨#[x0, x1, x2, x3, x4, .pointer (some ⟨eb, 0, none⟩), x6, x7, x8, x9, x10, x11, x12, x13, x14, x15, x16, v17, v18, v19, v20, v21, v22, v23, v24, v25, v26, v27, v28, .bool false, x30, x31, x32, x33, x34, x35, x36, x37, x38, x39, x40, x41, x42, x43, x44, x45, x46, x47, x48, x49, x50, x51, x52, x53, x54, x55, x56, x57, x58, x59, x60, x61, x62, x63, x64, x65, x66, x67, x68, x69, x70, x71, x72, x73, x74, x75, x76, x77, x78, x79, x80, x81, x82, x83, x84, x85, x86, x87, x88, x89, x90, x91, x92, x93, x94, x95, x96, x97, x98, x99, x100, x101, x102, x103, x104, x105, x106, x107, x108, x109], []⟩ w) :
    Code.wp Try.prog (findRegion7 6 ((Try.f28.body).getD .skip)) Q' ⟨#[x0, x1, x2, x3, x4, .pointer (some ⟨eb, 0, none⟩), x6, x7, x8, x9, x10, x11, x12, x13, x14, x15, x16, x17, x18, x19, x20, x21, x22, x23, x24, x25, x26, x27, x28, x29, x30, x31, x32, x33, x34, x35, x36, x37, x38, x39, x40, x41, x42, x43, x44, x45, x46, x47, x48, x49, x50, x51, x52, x53, x54, x55, x56, x57, x58, x59, x60, x61, x62, x63, x64, x65, x66, x67, x68, x69, x70, x71, x72, x73, x74, x75, x76, x77, x78, x79, x80, x81, x82, x83, x84, x85, x86, x87, x88, x89, x90, x91, x92, x93, x94, x95, x96, x97, x98, x99, x100, x101, x102, x103, x104, x105, x106, x107, x108, x109], []⟩ w := by
  by_cases h0 : x.allow = 0
  · by_cases h1 : x.audit = 0
    · have h2 : ¬ x.dont = 0 := fun h2 => hne (by unfold AEntry.vecs AVec.zero; rw [h0, h1, h2])
      exact m6_2 w eb x x0 x1 x2 x3 x4 x6 x7 x8 x9 x10 x11 x12 x13 x14 x15 x16 x17 x18 x19 x20 x21 x22 x23 x24 x25 x26 x27 x28 x29 x30 x31 x32 x33 x34 x35 x36 x37 x38 x39 x40 x41 x42 x43 x44 x45 x46 x47 x48 x49 x50 x51 x52 x53 x54 x55 x56 x57 x58 x59 x60 x61 x62 x63 x64 x65 x66 x67 x68 x69 x70 x71 x72 x73 x74 x75 x76 x77 x78 x79 x80 x81 x82 x83 x84 x85 x86 x87 x88 x89 x90 x91 x92 x93 x94 x95 x96 x97 x98 x99 x100 x101 x102 x103 x104 x105 x106 x107 x108 x109 HX (Lib.hid ⟨h0, h1, h2⟩) hend
    · exact m6_1 w eb x x0 x1 x2 x3 x4 x6 x7 x8 x9 x10 x11 x12 x13 x14 x15 x16 x17 x18 x19 x20 x21 x22 x23 x24 x25 x26 x27 x28 x29 x30 x31 x32 x33 x34 x35 x36 x37 x38 x39 x40 x41 x42 x43 x44 x45 x46 x47 x48 x49 x50 x51 x52 x53 x54 x55 x56 x57 x58 x59 x60 x61 x62 x63 x64 x65 x66 x67 x68 x69 x70 x71 x72 x73 x74 x75 x76 x77 x78 x79 x80 x81 x82 x83 x84 x85 x86 x87 x88 x89 x90 x91 x92 x93 x94 x95 x96 x97 x98 x99 x100 x101 x102 x103 x104 x105 x106 x107 x108 x109 HX (Lib.hid ⟨h0, h1⟩) hend
  · exact m6_0 w eb x x0 x1 x2 x3 x4 x6 x7 x8 x9 x10 x11 x12 x13 x14 x15 x16 x17 x18 x19 x20 x21 x22 x23 x24 x25 x26 x27 x28 x29 x30 x31 x32 x33 x34 x35 x36 x37 x38 x39 x40 x41 x42 x43 x44 x45 x46 x47 x48 x49 x50 x51 x52 x53 x54 x55 x56 x57 x58 x59 x60 x61 x62 x63 x64 x65 x66 x67 x68 x69 x70 x71 x72 x73 x74 x75 x76 x77 x78 x79 x80 x81 x82 x83 x84 x85 x86 x87 x88 x89 x90 x91 x92 x93 x94 x95 x96 x97 x98 x99 x100 x101 x102 x103 x104 x105 x106 x107 x108 x109 HX (Lib.hid h0) hend
set_option maxRecDepth 100000 in
set_option maxHeartbeats 8000000 in
theorem merge_any (w : World) (v : Value) (l : List AEntry) (h : SliceAt w v 7 l.length (l.flatMap AEntry.cells)) (hlen : l.length ≤ 100000) :
    Calls Try.prog 28 #[v] w fun e w' => ∃ v', e = .returned v' ∧ w'.ownsRow w.heap.size 37 7 v' (joinL l).length ((joinL l).flatMap AEntry.cells) ∧ RowKit.Below w.heap.size w w' := by
  obtain ⟨i0, z0, hi0, hz0, hz1, hz2, hzs⟩ := infoOf info37
  obtain ⟨n, hn⟩ : ∃ n, n = l.length := ⟨_, rfl⟩
  rw [← hn] at h hlen
  obtain ⟨a, c, rfl, hac, hmx, hcell⟩ := h.form (by decide)
  have HN := Lib.hid hn
  have HC := Lib.hid hcell
  have HLEN := Lib.hid hlen
  clear hn hcell h
  go_enter Try.func28, Try.ntmps28
  go_wp2_with fail
  go_loopw [4, 3] (fun ix u wr => ∃ m : Nat, m ≤ n ∧ ix = .int .i64 m ∧ wr.ownsRow w.heap.size 37 7 u (joinL (l.take m)).length ((joinL (l.take m)).flatMap AEntry.cells) ∧ RowKit.Below w.heap.size w wr) (fun ix _ _ => n - (intOf ix).toNat)
  case atStart => exact ⟨0, Nat.zero_le _, rfl, by simpa [joinL] using World.ownsRow_nil _ _ _ _, Below.refl _ _⟩
  case round =>
    obtain ⟨m, hm, rfl, hOr, hBr⟩ := hrel
    obtain ⟨O, hO⟩ : ∃ O, O = joinL (l.take m) := ⟨_, rfl⟩
    rw [← hO] at hOr
    obtain ⟨p, hp⟩ : ∃ p, p = O.length := ⟨_, rfl⟩
    rw [← hp] at hOr
    obtain ⟨oa, oc, rfl⟩ := own_shape hOr
    have HOr := Lib.hid hOr
    have HBr := Lib.hid hBr
    have HOJ := Lib.hid hO
    have HOLN := Lib.hid hp.symm
    have HPL := Lib.hid (show p ≤ 100000 by rw [hp, hO]; have h1 := joinL_length (l.take m); have h3 : (l.take m).length ≤ l.length := by {rw [List.length_take]; omega}; have := HN.out; omega)
    clear hOr hBr hO hp
    by_cases hlt : m < n
    · obtain ⟨x, hx⟩ : ∃ x, l[m]? = some x := ⟨_, List.getElem?_eq_getElem (by rw [← HN.out]; exact hlt)⟩
      obtain ⟨b, off, rfl, hcl⟩ := HC.out m hlt
      have hk0 : wr.cell? ⟨b, off + m * 7, none⟩ = some (.int .i64 x.src) := cell_later HBr.out (hcl 0 _ (by rw [flat_at entry_len hx 0 (by decide)]; rfl))
      have hk1 : wr.cell? ⟨b, off + m * 7 + 1, none⟩ = some (.int .i64 x.tgt) := cell_later HBr.out (hcl 1 _ (by rw [flat_at entry_len hx 1 (by decide)]; rfl))
      have hk2 : wr.cell? ⟨b, off + m * 7 + 2, none⟩ = some (.int .i64 x.cls) := cell_later HBr.out (hcl 2 _ (by rw [flat_at entry_len hx 2 (by decide)]; rfl))
      have hk3 : wr.cell? ⟨b, off + m * 7 + 3, none⟩ = some (.int .i64 x.cond) := cell_later HBr.out (hcl 3 _ (by rw [flat_at entry_len hx 3 (by decide)]; rfl))
      have hk4 : wr.cell? ⟨b, off + m * 7 + 4, none⟩ = some (.int .u32 x.allow) := cell_later HBr.out (hcl 4 _ (by rw [flat_at entry_len hx 4 (by decide)]; rfl))
      have hk5 : wr.cell? ⟨b, off + m * 7 + 5, none⟩ = some (.int .u32 x.audit) := cell_later HBr.out (hcl 5 _ (by rw [flat_at entry_len hx 5 (by decide)]; rfl))
      have hk6 : wr.cell? ⟨b, off + m * 7 + 6, none⟩ = some (.int .u32 x.dont) := cell_later HBr.out (hcl 6 _ (by rw [flat_at entry_len hx 6 (by decide)]; rfl))
      have HNX := Lib.hid (show joinL (l.take (m + 1)) = if x.vecs = AVec.zero then O else ins x O by rw [show l.take (m + 1) = l.take m ++ [x] from take_snoc hx, joinL_snoc, ← HOJ.out]; rfl)
      clear hcl hx
      go_upto_region 6 with (refine wpList_store_blk rfl 37 _ _ rfl wr.heap.size 0 (.agg #[.int .i64 x.src, .int .i64 x.tgt, .int .i64 x.cls, .int .i64 x.cond, .int .u32 x.allow, .int .u32 x.audit, .int .u32 x.dont]) rfl rfl 37 _ (Whole.new wr 37 _) (by simp [Value.cells]) size37 rfl ?_; intro w3 S3 W3; rw [splice_all _ _ (by rfl)] at W3; have HS3 := Lib.hid S3; have HW3 := Lib.hid (show Whole w3 wr.heap.size 37 #[.int .i64 x.src, .int .i64 x.tgt, .int .i64 x.cls, .int .i64 x.cond, .int .u32 x.allow, .int .u32 x.audit, .int .u32 x.dont] from W3); clear S3 W3)
      clear hk0 hk1 hk2 hk3 hk4 hk5 hk6
      have HB3 := Lib.hid (show RowKit.Below wr.heap.size wr w3 from ((Below.refl _ wr).alloc (Nat.le_refl _) _).trans (HS3.out.below (Nat.le_refl _)))
      have HBw3 := Lib.hid (HBr.out.trans (HB3.out.mono HBr.out.size))
      have HO3 := Lib.hid (own_keep HB3.out HOr.out (Nat.le_refl _))
      have HOLD := Lib.hid (show ∀ q, (Value.slice oa p oc).ownBlock = some q → q < wr.heap.size from fun q hq => (HOr.out.lt q hq).2)
      obtain ⟨eb, heb⟩ : ∃ e, e = wr.heap.size := ⟨_, rfl⟩
      rw [← heb] at HW3 HOLD ⊢
      clear heb
      by_cases hz : x.vecs = AVec.zero
      · have HZ := Lib.hid hz
        refine m6_3 w3 eb x _ _ _ _ _ _ _ _ _ _ _ _ _ _ _ _ _ _ _ _ _ _ _ _ _ _ _ _ _ _ _ _ _ _ _ _ _ _ _ _ _ _ _ _ _ _ _ _ _ _ _ _ _ _ _ _ _ _ _ _ _ _ _ _ _ _ _ _ _ _ _ _ _ _ _ _ _ _ _ _ _ _ _ _ _ _ _ _ _ _ _ _ _ _ _ _ _ _ _ _ _ _ _ _ _ _ _ _ _ HW3 (Lib.hid ⟨by have := congrArg AVec.allow hz; exact this, by have := congrArg AVec.audit hz; exact this, by have := congrArg AVec.dont hz; exact this⟩) ?_
        intro v17 v18 v19 v20 v21 v22 v23 v24 v25 v26 v27 v28 _
        clear hz
        go_wp2_with fail
        go_roundw
        case rel => exact ⟨m + 1, by omega, by go_num, by rw [HNX.out, if_pos HZ.out, HOLN.out]; exact HO3.out, HBw3.out⟩
        case measure => simp [intOf]; omega
      · have HXN := Lib.hid hz
        have HXZ := Lib.hid (show x ≠ zeroE from fun e => hz (by rw [e]; rfl))
        refine m6_no w3 eb x _ _ _ _ _ _ _ _ _ _ _ _ _ _ _ _ _ _ _ _ _ _ _ _ _ _ _ _ _ _ _ _ _ _ _ _ _ _ _ _ _ _ _ _ _ _ _ _ _ _ _ _ _ _ _ _ _ _ _ _ _ _ _ _ _ _ _ _ _ _ _ _ _ _ _ _ _ _ _ _ _ _ _ _ _ _ _ _ _ _ _ _ _ _ _ _ _ _ _ _ _ _ _ _ _ _ _ _ _ HW3 hz ?_
        intro v17 v18 v19 v20 v21 v22 v23 v24 v25 v26 v27 v28 _
        clear hz
        go_wp2_with fail
        go_loopw [6] (fun kx wq => ∃ k : Nat, k ≤ p ∧ kx = .int .i64 k ∧ Hid (∀ q z, q < k → O[q]? = some z → befB z x = true) ∧ RowKit.Below w3.heap.size w3 wq) (fun kx _ => p - (intOf kx).toNat)
        case atStart => exact ⟨0, Nat.zero_le _, rfl, Lib.hid fun q z hq => by omega, Below.refl _ _⟩
        case round =>
          obtain ⟨k, hkp, rfl, HLO, hB⟩ := hrel
          have HBk := Lib.hid hB
          have HKP := Lib.hid hkp
          have hpl : p ≤ 100000 := HPL.out
          have HXk := Lib.hid (Whole.under hB HW3.out HW3.out.lt)
          have HOk := Lib.hid (own_keep hB HO3.out (Nat.le_refl _))
          clear hB
          by_cases hlk : k < p
          · have hlo : k < O.length := by rw [HOLN.out]; exact hlk
            obtain ⟨y, hy⟩ : ∃ y, O[k]? = some y := ⟨_, List.getElem?_eq_getElem hlo⟩
            have HY := Lib.hid hy
            obtain ⟨g, cap, cur, hv, hg, -⟩ := own_open HO3.out (by omega)
            cases hv
            have HEk := Lib.hid (show ∀ W, RowKit.Below w3.heap.size w3 W → ∀ j u, y.cells[j]? = some u → W.cell? ⟨g, k * 7 + j, none⟩ = some u from fun W hW j u hu => own_ent_cell (own_keep hW HO3.out (Nat.le_refl _)) HY.out j (List.getElem?_eq_some_iff.1 hu).1 u hu)
            obtain ⟨q, hq⟩ : ∃ q, q = befB y x := ⟨_, rfl⟩
            have HQ := Lib.hid hq
            clear hy hq hg hlo
            go_upto_region 8 with fail
            refine m8_t _ eb g oc p k x y q _ _ _ _ _ _ _ _ _ _ _ _ _ _ _ _ _ _ _ _ _ _ _ _ _ _ _ _ _ _ _ _ _ _ _ _ _ _ _ _ _ _ _ _ _ _ _ _ _ _ _ _ _ _ _ _ _ _ _ _ _ _ _ _ _ _ _ _ _ _ _ _ _ _ _ _ _ _ _ _ _ _ _ _ _ _ _ _ _ _ _ _ _ _ _ _ _ _ _ _ _ _ _ _ _ _ _ hlk HXk (Lib.hid (HEk.out _ HBk.out)) (Lib.hid fun W => by rw [HQ.out]; exact before_any W y x) ?_
            intro v30 v31 v32 v33 v34 v35 v36 v37 v38 v39 v40 w8 hb8
            have HB8 := Lib.hid (HBk.out.trans (hb8.mono HBk.out.size))
            have HX8 := Lib.hid (Whole.under HB8.out HW3.out HW3.out.lt)
            clear hb8
            cases q with
            | true =>
              go_wp2_with fail
              go_roundw
              case rel => exact ⟨k + 1, by omega, by go_num, Lib.hid fun j z hj hz => by
                by_cases e : j = k
                · subst e
                  rw [HY.out] at hz
                  cases hz
                  exact HQ.out.symm
                · exact HLO.out j z (by omega) hz, HB8.out⟩
              case measure => simp [intOf]; omega
            | false =>
              obtain ⟨q2, hq2⟩ : ∃ q2, q2 = befB x y := ⟨_, rfl⟩
              have HQ2 := Lib.hid hq2
              clear hq2
              go_upto_region 10 with fail
              refine m10_t w8 eb g oc p k x y q2 _ _ _ _ _ _ _ _ _ _ _ _ _ _ _ _ _ _ _ _ _ _ _ _ _ _ _ _ _ _ _ _ _ _ _ _ _ _ _ _ _ _ _ _ _ _ _ _ _ _ _ _ _ _ _ _ _ _ _ _ _ _ _ _ _ _ _ _ _ _ _ _ _ _ _ _ _ _ _ _ _ _ _ _ _ _ _ _ _ _ _ _ _ _ _ _ _ _ _ _ _ _ _ _ _ _ _ hlk HX8 (Lib.hid (HEk.out _ HB8.out)) (Lib.hid fun W => by rw [HQ2.out]; exact before_any W x y) ?_
              intro v44 v45 v46 v47 v48 v49 v50 v51 v52 v53 v54 v55 wq hbq
              have HBq3 := Lib.hid (HB8.out.trans (hbq.mono HB8.out.size))
              have HXq := Lib.hid (Whole.under HBq3.out HW3.out HW3.out.lt)
              have HOq := Lib.hid (own_keep HBq3.out HO3.out (Nat.le_refl _))
              have HBq := Lib.hid (HBw3.out.trans (HBq3.out.mono HBw3.out.size))
              clear hbq
              cases q2 with
              | true =>
                have HHERE := Lib.hid (show ∀ z, O[k]? = some z → befB x z = true from fun z hz => by rw [HY.out] at hz; cases hz; exact HQ2.out.symm)
                go_upto_region 13 with (at_builtin; go_must (refine wpList_append_own _ rfl _ _ 22 rfl w.heap.size 37 i0 z0 7 48 Try.underlying22 hi0 hz0 hz1 hz2 hzs (by decide) _ _ _ rfl (own_alloc HOq.out _) ⟨wq.heap.size, 0, none⟩ 1 1 [.int .i64 0, .int .i64 0, .int .i64 0, .int .i64 0, .int .u32 0, .int .u32 0, .int .u32 0] rfl rfl (row_new _ _ _) ?c2 ?c3 ?c4 ?c5 ?_))
                case c2 => simp [Value.oneCell']
                case c3 => have := HPL.out; unfold maxLen; omega
                case c4 => have := HPL.out; omega
                case c5 => have := HBq.out.size; simp; omega
                intro ua wa hoa hga hna
                have hoa2 : wa.ownsRow w.heap.size 37 7 ua (p + 1) ((O ++ [zeroE]).flatMap AEntry.cells) := by rw [List.flatMap_append]; exact hoa
                obtain ⟨g, cap, cur0, rfl, hg0, hw0, hnc0, hcm0, -, -⟩ := own_open hoa2 (by omega)
                have HNC := Lib.hid hnc0
                have HOa := Lib.hid hoa2
                have HBa := Lib.hid ((HBq.out.alloc HBq.out.size _).grown hga (by have := HBq.out.size; simp; omega) (fun q hq => (HOq.out.lt q hq).1))
                have HXa := Lib.hid ((HXq.out.alloc _).grown hga (fun e => absurd (HOLD.out _ e.symm) (Nat.lt_irrefl _)))
                have HFAR := Lib.hid (far_box HXa.out hoa2 HOLN.out HXZ.out)
                clear hoa hga hna hoa2 hg0 hw0 hnc0 hcm0 cur0
                obtain ⟨o1, c1, hq1⟩ := tail_any g p cap k HKP.out (by have := HNC.out; omega) (by have := HPL.out; omega)
                have HQ1 := Lib.hid hq1
                clear hq1
                go_upto_region 13 with fail
                refine m13 wa g cap p k o1 c1 (fun W W' => W'.ownsRow w.heap.size 37 7 (.slice (some ⟨g, 0, none⟩) (p + 1) cap) (p + 1) (((O ++ [zeroE]).take (k + 1) ++ O.drop k).flatMap AEntry.cells) ∧ Sto W W' g) _ _ _ _ _ _ _ _ _ _ _ _ _ _ _ _ _ _ _ _ _ _ _ _ _ _ _ _ _ _ _ _ _ _ _ _ _ _ _ _ _ _ _ _ _ _ _ _ _ _ _ _ _ _ _ _ _ _ _ _ _ _ _ _ _ _ _ _ _ _ _ _ _ _ _ _ _ _ _ _ _ _ _ _ _ _ _ _ _ _ _ _ _ _ _ _ _ _ _ _ _ _ _ _ _ _ _ _ (by have := HKP.out; have := HPL.out; omega) HQ1 (Lib.hid fun W => tail_any2 W g p cap k HKP.out (by have := HNC.out; omega) (by have := HPL.out; omega)) (Lib.hid fun W hW => copy_row (own_keep hW HOa.out (Nat.le_refl _)) HOLN.out HKP.out HQ1.out (by have := HPL.out; omega)) ?_
                intro v97 v98 v99 v100 v101 v102 v103 v104 W wb hf
                have HOb := Lib.hid hf.2.1
                have HBb := Lib.hid ((HBa.out.trans (hf.1.mono HBa.out.size)).trans (hf.2.2.below (own_cur HOa.out).choose_spec.1))
                have HXb := Lib.hid (hf.2.2.whole (Whole.under hf.1 HXa.out HXa.out.lt) HFAR.out)
                clear hf
                go_upto_region 14 with fail
                refine m14 wb w.heap.size eb g cap (p + 1) k x (((O ++ [zeroE])[k]?).getD zeroE) ((O ++ [zeroE]).take (k + 1) ++ O.drop k) _ _ _ _ _ _ _ _ _ _ _ _ _ _ _ _ _ _ _ _ _ _ _ _ _ _ _ _ _ _ _ _ _ _ _ _ _ _ _ _ _ _ _ _ _ _ _ _ _ _ _ _ _ _ _ _ _ _ _ _ _ _ _ _ _ _ _ _ _ _ _ _ _ _ _ _ _ _ _ _ _ _ _ _ _ _ _ _ _ _ _ _ _ _ _ _ _ _ _ _ _ _ _ _ _ _ _ (by have := HKP.out; omega) HXb HOb (Lib.hid (at_place HOLN.out HKP.out)) (Lib.hid (by have := HKP.out; omega)) ?_
                intro v105 v106 v107 v108 wc hf
                have HOc := Lib.hid hf.1
                have HBc := Lib.hid (HBb.out.trans hf.2)
                clear hf
                go_wp2_with fail
                go_roundw
                case rel => exact ⟨m + 1, by omega, by go_num, by
                  rw [HNX.out, if_neg HXN.out, ins_here (by rw [HOLN.out]; exact HKP.out) HLO.out HHERE.out, ← set_place HOLN.out HKP.out]
                  rw [own_len_cast (show (((O ++ [zeroE]).take (k + 1) ++ O.drop k).set k x).length = p + 1 from own_ents HOc.out)]
                  exact HOc.out, HBc.out⟩
                case measure => simp [intOf]; omega
              | false =>
                go_upto_region 11 with fail
                refine m11 wq w.heap.size eb g oc p k x y O _ _ _ _ _ _ _ _ _ _ _ _ _ _ _ _ _ _ _ _ _ _ _ _ _ _ _ _ _ _ _ _ _ _ _ _ _ _ _ _ _ _ _ _ _ _ _ _ _ _ _ _ _ _ _ _ _ _ _ _ _ _ _ _ _ _ _ _ _ _ _ _ _ _ _ _ _ _ _ _ _ _ _ _ _ _ _ _ _ _ _ _ _ _ _ _ _ _ _ _ _ _ _ _ _ _ _ HXq HOq HY (Lib.hid hlk) hlk (Lib.hid (fun e => absurd (HOLD.out g rfl) (by rw [e]; exact Nat.lt_irrefl _))) ?_
                intro v57 v58 v59 v60 v61 v62 v63 v64 v65 v66 v67 v68 v69 v70 v71 v72 v73 v74 v75 v76 v77 v78 v79 v80 v81 v82 v83 v84 v85 v86 v87 v88 v89 v90 v91 v92 wc hf
                have HOc := Lib.hid hf.1
                have HBc := Lib.hid (HBq.out.trans hf.2)
                clear hf
                go_wp2_with fail
                go_roundw
                case rel => exact ⟨m + 1, by omega, by go_num, by
                  rw [HNX.out, if_neg HXN.out, ins_join HY.out HLO.out HQ.out.symm HQ2.out.symm, own_len_cast (show (O.set k (joinE y x)).length = p by rw [List.length_set, HOLN.out])]
                  exact HOc.out, HBc.out⟩
                case measure => simp [intOf]; omega
          · obtain rfl : k = p := by omega
            go_upto_region 8 with fail
            refine m8_f _ eb oc k k oa _ _ _ _ _ _ _ _ _ _ _ _ _ _ _ _ _ _ _ _ _ _ _ _ _ _ _ _ _ _ _ _ _ _ _ _ _ _ _ _ _ _ _ _ _ _ _ _ _ _ _ _ _ _ _ _ _ _ _ _ _ _ _ _ _ _ _ _ _ _ _ _ _ _ _ _ _ _ _ _ _ _ _ _ _ _ _ _ _ _ _ _ _ _ _ _ _ _ _ _ _ _ _ _ _ _ _ hlk ?_
            intro v30 v31 v32 v33 v34 v35 v36 v37 v38 v39 v40 w8 hb8
            have HB8 := Lib.hid (HBk.out.trans (hb8.mono HBk.out.size))
            clear hb8
            go_upto_region 10 with fail
            refine m10_f w8 eb oc k k oa _ _ _ _ _ _ _ _ _ _ _ _ _ _ _ _ _ _ _ _ _ _ _ _ _ _ _ _ _ _ _ _ _ _ _ _ _ _ _ _ _ _ _ _ _ _ _ _ _ _ _ _ _ _ _ _ _ _ _ _ _ _ _ _ _ _ _ _ _ _ _ _ _ _ _ _ _ _ _ _ _ _ _ _ _ _ _ _ _ _ _ _ _ _ _ _ _ _ _ _ _ _ _ _ _ _ _ hlk ?_
            intro v44 v45 v46 v47 v48 v49 v50 v51 v52 v53 v54 v55 wq hbq
            have HBq3 := Lib.hid (HB8.out.trans (hbq.mono HB8.out.size))
            have HXq := Lib.hid (Whole.under HBq3.out HW3.out HW3.out.lt)
            have HOq := Lib.hid (own_keep HBq3.out HO3.out (Nat.le_refl _))
            have HBq := Lib.hid (HBw3.out.trans (HBq3.out.mono HBw3.out.size))
            have HHERE := Lib.hid (show ∀ z, O[k]? = some z → befB x z = true from fun z hz => by rw [List.getElem?_eq_none (by rw [HOLN.out]; exact Nat.le_refl _)] at hz; cases hz)
            clear hbq
            go_upto_region 13 with (at_builtin; go_must (refine wpList_append_own _ rfl _ _ 22 rfl w.heap.size 37 i0 z0 7 48 Try.underlying22 hi0 hz0 hz1 hz2 hzs (by decide) _ _ _ rfl (own_alloc HOq.out _) ⟨wq.heap.size, 0, none⟩ 1 1 [.int .i64 0, .int .i64 0, .int .i64 0, .int .i64 0, .int .u32 0, .int .u32 0, .int .u32 0] rfl rfl (row_new _ _ _) ?c2 ?c3 ?c4 ?c5 ?_))
            case c2 => simp [Value.oneCell']
            case c3 => have := HPL.out; unfold maxLen; omega
            case c4 => have := HPL.out; omega
            case c5 => have := HBq.out.size; simp; omega
            intro ua wa hoa hga hna
            have hoa2 : wa.ownsRow w.heap.size 37 7 ua (k + 1) ((O ++ [zeroE]).flatMap AEntry.cells) := by rw [List.flatMap_append]; exact hoa
            obtain ⟨g, cap, cur0, rfl, hg0, hw0, hnc0, hcm0, -, -⟩ := own_open hoa2 (by omega)
            have HNC := Lib.hid hnc0
            have HOa := Lib.hid hoa2
            have HBa := Lib.hid ((HBq.out.alloc HBq.out.size _).grown hga (by have := HBq.out.size; simp; omega) (fun q hq => (HOq.out.lt q hq).1))
            have HXa := Lib.hid ((HXq.out.alloc _).grown hga (fun e => absurd (HOLD.out _ e.symm) (Nat.lt_irrefl _)))
            have HFAR := Lib.hid (far_box HXa.out hoa2 HOLN.out HXZ.out)
            clear hoa hga hna hoa2 hg0 hw0 hnc0 hcm0 cur0
            obtain ⟨o1, c1, hq1⟩ := tail_any g k cap k HKP.out (by have := HNC.out; omega) (by have := HPL.out; omega)
            have HQ1 := Lib.hid hq1
            clear hq1
            go_upto_region 13 with fail
            refine m13 wa g cap k k o1 c1 (fun W W' => W'.ownsRow w.heap.size 37 7 (.slice (some ⟨g, 0, none⟩) (k + 1) cap) (k + 1) (((O ++ [zeroE]).take (k + 1) ++ O.drop k).flatMap AEntry.cells) ∧ Sto W W' g) _ _ _ _ _ _ _ _ _ _ _ _ _ _ _ _ _ _ _ _ _ _ _ _ _ _ _ _ _ _ _ _ _ _ _ _ _ _ _ _ _ _ _ _ _ _ _ _ _ _ _ _ _ _ _ _ _ _ _ _ _ _ _ _ _ _ _ _ _ _ _ _ _ _ _ _ _ _ _ _ _ _ _ _ _ _ _ _ _ _ _ _ _ _ _ _ _ _ _ _ _ _ _ _ _ _ _ _ (by have := HKP.out; have := HPL.out; omega) HQ1 (Lib.hid fun W => tail_any2 W g k cap k HKP.out (by have := HNC.out; omega) (by have := HPL.out; omega)) (Lib.hid fun W hW => copy_row (own_keep hW HOa.out (Nat.le_refl _)) HOLN.out HKP.out HQ1.out (by have := HPL.out; omega)) ?_
            intro v97 v98 v99 v100 v101 v102 v103 v104 W wb hf
            have HOb := Lib.hid hf.2.1
            have HBb := Lib.hid ((HBa.out.trans (hf.1.mono HBa.out.size)).trans (hf.2.2.below (own_cur HOa.out).choose_spec.1))
            have HXb := Lib.hid (hf.2.2.whole (Whole.under hf.1 HXa.out HXa.out.lt) HFAR.out)
            clear hf
            go_upto_region 14 with fail
            refine m14 wb w.heap.size eb g cap (k + 1) k x (((O ++ [zeroE])[k]?).getD zeroE) ((O ++ [zeroE]).take (k + 1) ++ O.drop k) _ _ _ _ _ _ _ _ _ _ _ _ _ _ _ _ _ _ _ _ _ _ _ _ _ _ _ _ _ _ _ _ _ _ _ _ _ _ _ _ _ _ _ _ _ _ _ _ _ _ _ _ _ _ _ _ _ _ _ _ _ _ _ _ _ _ _ _ _ _ _ _ _ _ _ _ _ _ _ _ _ _ _ _ _ _ _ _ _ _ _ _ _ _ _ _ _ _ _ _ _ _ _ _ _ _ _ (by have := HKP.out; omega) HXb HOb (Lib.hid (at_place HOLN.out HKP.out)) (Lib.hid (by have := HKP.out; omega)) ?_
            intro v105 v106 v107 v108 wc hf
            have HOc := Lib.hid hf.1
            have HBc := Lib.hid (HBb.out.trans hf.2)
            clear hf
            go_wp2_with fail
            go_roundw
            case rel => exact ⟨m + 1, by omega, by go_num, by
              rw [HNX.out, if_neg HXN.out, ins_here (by rw [HOLN.out]; exact HKP.out) HLO.out HHERE.out, ← set_place HOLN.out HKP.out]
              rw [own_len_cast (show (((O ++ [zeroE]).take (k + 1) ++ O.drop k).set k x).length = k + 1 from own_ents HOc.out)]
              exact HOc.out, HBc.out⟩
            case measure => simp [intOf]; omega
    · obtain rfl : m = n := by omega
      have hfull : l.take m = l := List.take_of_length_le (by rw [HN.out]; exact Nat.le_refl _)
      have HF := Lib.hid hfull
      clear hfull
      go_wp2
      go_ret
      refine ⟨_, ret_val rfl, ?_, HBr.out⟩
      have e : joinL l = O := by rw [HOJ.out, HF.out]
      rw [e, HOLN.out]
      exact HOr.out
end Go.Proofs.Ytlkkdpoliafjbaa

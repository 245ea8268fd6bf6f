import Derived.Test.YtlkkdpoliafjbaaPE
/-
  AvtabOrder.
-/
namespace Go.Proofs.Ytlkkdpoliafjbaa
open Go Go.WideMaps Go.RowKit

/-! ### An entry in two parts -/
def partA (x : AEntry) : AEntry := ⟨x.src, x.tgt, x.cls, x.cond, bits .and .u32 x.allow 1431655765, x.audit, 0⟩
def partB (x : AEntry) : AEntry := ⟨x.src, x.tgt, x.cls, x.cond, bits .andNot .u32 x.allow 1431655765, 0, x.dont⟩
theorem u32_bits (o : BinOp) (a b : Int) : U32 (bits o .u32 a b) := by
  cases o <;> first | (simp only [bits, wrap32]; exact ⟨by omega, by omega⟩) | exact ⟨by decide, by decide⟩
theorem andNot_bv (a b : Int) : bits .andNot .u32 a b = ((BitVec.ofInt 32 a &&& ~~~ BitVec.ofInt 32 b).toNat : Int) := by
  show IntKind.u32.wrap ((BitVec.ofInt 32 a &&& ~~~ BitVec.ofInt 32 b).toNat : Int) = _
  rw [wrap32]
  have := (BitVec.ofInt 32 a &&& ~~~ BitVec.ofInt 32 b).isLt
  omega
theorem parts_or {a : Int} (h : U32 a) (m : Int) : bits .or .u32 (bits .and .u32 a m) (bits .andNot .u32 a m) = a := by
  rw [or_bv, bv_and, andNot_bv]
  have e : BitVec.ofInt 32 (((BitVec.ofInt 32 a &&& ~~~ BitVec.ofInt 32 m).toNat : Nat) : Int) = BitVec.ofInt 32 a &&& ~~~ BitVec.ofInt 32 m := by rw [BitVec.ofInt_natCast, BitVec.ofNat_toNat]; simp
  rw [e]
  have e2 : (BitVec.ofInt 32 a &&& BitVec.ofInt 32 m) ||| (BitVec.ofInt 32 a &&& ~~~ BitVec.ofInt 32 m) = BitVec.ofInt 32 a := by
    generalize BitVec.ofInt 32 a = p
    generalize BitVec.ofInt 32 m = q
    ext i hi
    simp only [BitVec.getElem_or, BitVec.getElem_and, BitVec.getElem_not]
    cases p[i] <;> cases q[i] <;> rfl
  rw [e2, bv_self h]
theorem parts_vecs {x : AEntry} (h : x.Ok) : (partA x).vecs.or (partB x).vecs = x.vecs := by
  have h1 := parts_or h.2.allow 1431655765
  have h2 := or_zero32 h.2.audit
  have h3 : bits .or .u32 0 x.dont = x.dont := by rw [or_comm32]; exact or_zero32 h.2.dont
  show (⟨_, _, _⟩ : AVec) = ⟨_, _, _⟩
  rw [AVec.mk.injEq]
  exact ⟨h1, h2, h3⟩
theorem zero_u32 : U32 0 := ⟨by decide, by decide⟩
theorem partA_ok {x : AEntry} (h : x.Ok) : (partA x).Ok := ⟨h.1, ⟨u32_bits .and x.allow 1431655765, h.2.audit, zero_u32⟩⟩
theorem partB_ok {x : AEntry} (h : x.Ok) : (partB x).Ok := ⟨h.1, ⟨u32_bits .andNot x.allow 1431655765, zero_u32, h.2.dont⟩⟩
def backL (l : List AEntry) : List AEntry := l.reverse.flatMap fun x => [partA x, partB x]
theorem backL_ok {l : List AEntry} (h : ∀ x ∈ l, x.Ok) : ∀ x ∈ backL l, x.Ok := fun y hy => by
  obtain ⟨x, hx, hy⟩ := List.mem_flatMap.1 hy
  have hx' := h x (List.mem_reverse.1 hx)
  simp at hy
  rcases hy with rfl | rfl
  · exact partA_ok hx'
  · exact partB_ok hx'
theorem two_len : ∀ (l : List AEntry), (l.flatMap fun x => [partA x, partB x]).length = l.length * 2
  | [] => rfl
  | x :: l => by
    rw [List.flatMap_cons, List.length_append, two_len l, List.length_cons]
    simp only [List.length_cons, List.length_nil]
    omega
theorem backL_len (l : List AEntry) : (backL l).length = l.length * 2 := by
  unfold backL
  rw [two_len, List.length_reverse]
theorem backL_cons (x : AEntry) (l : List AEntry) : backL (x :: l) = backL l ++ [partA x, partB x] := by simp [backL]
theorem accE_le {L : List AEntry} {k : Key4} {V : AVec} (hV : V.Ok) (h : ∀ x ∈ L, x.key = k → x.vecs.or V = V) : (accE L k).or V = V := accum_le hV fun p hp e => by
  obtain ⟨x, hx, rfl⟩ := List.mem_map.1 hp
  exact h x hx e
theorem le_accE {L : List AEntry} {x : AEntry} (hok : x.Ok) (hx : x ∈ L) : x.vecs.or (accE L x.key) = accE L x.key := le_accum (p := (x.key, x.vecs)) hok.2 (List.mem_map.2 ⟨x, hx, rfl⟩)
theorem back_acc {l : List AEntry} (h : ∀ x ∈ l, x.Ok) : accE (backL l) = accE l := by
  funext k
  refine vle_antisymm (accE_le (accE_val _ _) fun y hy e => ?_) (accE_le (accE_val _ _) fun x hx e => ?_)
  · obtain ⟨x, hx, hy⟩ := List.mem_flatMap.1 hy
    have hx2 := List.mem_reverse.1 hx
    have hx' := h x hx2
    have hle := le_accE hx' hx2
    simp at hy
    rcases hy with rfl | rfl
    · subst e
      refine vle_trans ?_ hle
      rw [← parts_vecs hx', ← AVec.or_assoc, AVec.or_self (partA_ok hx').2]
    · subst e
      refine vle_trans ?_ hle
      rw [← parts_vecs hx', AVec.or_comm, AVec.or_assoc, AVec.or_self (partB_ok hx').2]
  · subst e
    have h1 : partA x ∈ backL l := List.mem_flatMap.2 ⟨x, List.mem_reverse.2 hx, by simp⟩
    have h2 : partB x ∈ backL l := List.mem_flatMap.2 ⟨x, List.mem_reverse.2 hx, by simp⟩
    have e1 := le_accE (partA_ok (h x hx)) h1
    have e2 := le_accE (partB_ok (h x hx)) h2
    rw [show (partA x).key = x.key from rfl] at e1
    rw [show (partB x).key = x.key from rfl] at e2
    rw [← parts_vecs (h x hx), AVec.or_assoc, e2, e1]
theorem back_join {l : List AEntry} (h : ∀ x ∈ l, x.Ok) : joinL (backL l) = joinL l := by
  have h1 := joinL_canon (backL_ok h)
  rw [back_acc h] at h1
  exact h1.uniq (joinL_canon h)
/-! ### Two boxes -/
def BoxAt (B : Nat) (u : Value) (w : World) (cs : Array Value) : Prop := ∃ g, u = .pointer (some ⟨g, 0, none⟩) ∧ B ≤ g ∧ Whole w g 37 cs
theorem BoxAt.new {B : Nat} (w : World) (cs : Array Value) (h : B ≤ w.heap.size) : BoxAt B (.pointer (some ⟨w.heap.size, 0, none⟩)) (w.alloc (.cells cs 37)) cs := ⟨_, rfl, h, Whole.new w 37 cs⟩
theorem BoxAt.keep {B : Nat} {u : Value} {w w' : World} {cs : Array Value} (h : BoxAt B u w cs) (hb : RowKit.Below w.heap.size w w') : BoxAt B u w' cs := let ⟨g, e, h1, h2⟩ := h; ⟨g, e, h1, Whole.under hb h2 h2.lt⟩
theorem BoxAt.ne {B : Nat} {u : Value} {w : World} {cs : Array Value} (h : BoxAt B u w cs) : u ≠ .pointer (some ⟨w.heap.size, 0, none⟩) := fun e => by
  obtain ⟨g, rfl, -, h2⟩ := h
  have := h2.lt
  cases e
  omega
theorem BoxAt.sto {B g : Nat} {u : Value} {w w' : World} {cs : Array Value} (h : BoxAt B u w cs) (hs : Sto w w' g) (hne : u ≠ .pointer (some ⟨g, 0, none⟩)) : BoxAt B u w' cs := by
  obtain ⟨g', rfl, h1, h2⟩ := h
  exact ⟨g', rfl, h1, hs.whole h2 fun e => hne (by rw [e])⟩
/-- Two entries are taken out of one: what is known while this is carried out. -/
def OrdR (w : World) (b off i n c : Nat) (x : AEntry) (L : Nat → Bool) (u30 u31 u32 u33 u34 u35 u36 u37 u9 u10 : Value) (w' : World) : Prop :=
  RowKit.Below w.heap.size w w' ∧ (L 0 = true → u30 = .slice (some ⟨b, off, none⟩) n c) ∧ (L 1 = true → u31 = .int .i64 (i : Int)) ∧ (L 2 = true → u32 = .pointer (some ⟨b, off + i * 7, none⟩)) ∧ (L 3 = true → u33 = .agg #[.int .i64 x.src, .int .i64 x.tgt, .int .i64 x.cls, .int .i64 x.cond, .int .u32 x.allow, .int .u32 x.audit, .int .u32 x.dont]) ∧ (L 4 = true → u34 = .slice (some ⟨b, off, none⟩) n c) ∧ (L 5 = true → u35 = .int .i64 (i : Int)) ∧ (L 6 = true → u36 = .pointer (some ⟨b, off + i * 7, none⟩)) ∧ (L 7 = true → u37 = .agg #[.int .i64 x.src, .int .i64 x.tgt, .int .i64 x.cls, .int .i64 x.cond, .int .u32 x.allow, .int .u32 x.audit, .int .u32 x.dont]) ∧ (L 8 = true → BoxAt w.heap.size u9 w' (if L 10 then #[.int .i64 x.src, .int .i64 x.tgt, .int .i64 x.cls, .int .i64 x.cond, .int .u32 x.allow, .int .u32 x.audit, .int .u32 x.dont] else #[.int .i64 0, .int .i64 0, .int .i64 0, .int .i64 0, .int .u32 0, .int .u32 0, .int .u32 0])) ∧ (L 9 = true → BoxAt w.heap.size u10 w' (if L 11 then #[.int .i64 x.src, .int .i64 x.tgt, .int .i64 x.cls, .int .i64 x.cond, .int .u32 x.allow, .int .u32 x.audit, .int .u32 x.dont] else #[.int .i64 0, .int .i64 0, .int .i64 0, .int .i64 0, .int .u32 0, .int .u32 0, .int .u32 0])) ∧ (L 8 = true → L 9 = true → u9 ≠ u10) ∧ (L 10 = true → L 8 = true) ∧ (L 11 = true → L 9 = true)
set_option maxRecDepth 100000 in
set_option maxHeartbeats 4000000 in
theorem ord7 (w : World) (b off i n c : Nat) (x : AEntry) (x1 x2 x3 x4 x5 x6 x7 x9 x10 x11 x12 x13 x14 x15 x16 x17 x18 x19 x20 x21 x22 x23 x24 x25 x26 x27 x28 x29 x30 x31 x32 x33 x34 x35 x36 x37 x38 x39 x40 x41 x42 x43 x44 x45 x46 x47 x48 x49 x50 x51 x52 x53 x54 x55 x56 x57 x58 x59 x60 x61 x62 x63 x64 x65 x66 x67 x68 x69 x70 x71 x72 x73 x74 x75 x76 x77 x78 x79 x80 x81 x82 x83 x84 x85 x86 x87 x88 : Value) (hin : i < n) (HE : Hid (∀ j u, x.cells[j]? = some u → w.cell? ⟨b, off + i * 7 + j, none⟩ = some u))
    {Q' : Exit → Act → World → Prop} (hend : ∀ (v30 v31 v32 v33 v34 v35 v36 v37 : Value) (g1 g2 : Nat) (w' : World), (Whole w' g1 37 #[.int .i64 x.src, .int .i64 x.tgt, .int .i64 x.cls, .int .i64 x.cond, .int .u32 x.allow, .int .u32 x.audit, .int .u32 x.dont] ∧ Whole w' g2 37 #[.int .i64 x.src, .int .i64 x.tgt, .int .i64 x.cls, .int .i64 x.cond, .int .u32 x.allow, .int .u32 x.audit, .int .u32 x.dont] ∧ g1 ≠ g2 ∧ w.heap.size ≤ g1 ∧ w.heap.size ≤ g2 ∧ RowKit.Below w.heap.size w w') → Q' .normal ⟨#[.slice (some ⟨b, off, none⟩) n c, x1, x2, x3, x4, x5, x6, x7, .int .i64 (i : Int), .pointer (some ⟨g1, 0, none⟩), .pointer (some ⟨g2, 0, none⟩), x11, x12, x13, x14, x15, x16, x17, x18, x19, x20, x21, x22, x23, x24, x25, x26, x27, x28, x29, v30, v31, v32, v33, v34, v35, v36, v37, x38, x39, x40, x41, x42, x43, x44, x45, x46, x47, x48, x49, x50, x51, x52, x53, x54, x55, x56, x57, x58, x59, x60, x61, x62, x63, x64, x65, x66, x67, x68, x69, x70, x71, x72, x73, x74, x75, x76, x77, x78, x79, x80, x81, x82, x83, x84, x85, x86, x87, x88], []⟩ w') :
    Code.wp Try.prog (findRegion7 7 ((Try.f4.body).getD .skip)) Q' ⟨#[.slice (some ⟨b, off, none⟩) n c, x1, x2, x3, x4, x5, x6, x7, .int .i64 (i : Int), x9, x10, x11, x12, x13, x14, x15, x16, x17, x18, x19, x20, x21, x22, x23, x24, x25, x26, x27, x28, x29, x30, x31, x32, x33, x34, x35, x36, x37, x38, x39, x40, x41, x42, x43, x44, x45, x46, x47, x48, x49, x50, x51, x52, x53, x54, x55, x56, x57, x58, x59, x60, x61, x62, x63, x64, x65, x66, x67, x68, x69, x70, x71, x72, x73, x74, x75, x76, x77, x78, x79, x80, x81, x82, x83, x84, x85, x86, x87, x88], []⟩ w := by
  have HEND := Lib.hid hend
  clear hend
  conv => arg 2; whnf
  conv => arg 4; dsimp only
  refine wp_region_slots [30, 31, 32, 33, 34, 35, 36, 37, 9, 10] (by kernel_rfl) (by kernel_rfl) (OrdR w b off i n c x) ?_ ⟨?_, ?_, ?_, ?_, ?_, ?_, ?_, ?_, ?_, ?_, ?_, ?_, trivial⟩ ?_
  · refine (?_ : OrdR w b off i n c x (fun _ => false) _ _ _ _ _ _ _ _ _ _ w.drew)
    exact ⟨(Below.refl _ _).drew, (fun h => by cases h), (fun h => by cases h), (fun h => by cases h), (fun h => by cases h), (fun h => by cases h), (fun h => by cases h), (fun h => by cases h), (fun h => by cases h), (fun h => by cases h), (fun h => by cases h), (fun h => by cases h), (fun h => by cases h), (fun h => by cases h)⟩
  · rintro L a wx Q' ⟨u30, u31, u32, u33, u34, u35, u36, u37, u9, u10, rfl, hR⟩ hL hA hK
    obtain ⟨hb, f0, f1, f2, f3, f4, f5, f6, f7, f8, f9, f10, f11, f12⟩ := hR
    have HRR := Lib.hid (And.intro hb (And.intro f8 (And.intro f9 (And.intro f10 (And.intro f11 f12)))))
    simp only [List.setIfInBounds_toArray, List.set_cons_zero, List.set_cons_succ]
    have HF := Lib.hid (And.intro hb (And.intro f0 (And.intro f1 (And.intro f2 (And.intro f3 (And.intro f4 (And.intro f5 (And.intro f6 (And.intro f7 (And.intro f8 (And.intro f9 (And.intro f10 (And.intro f11 f12)))))))))))))
    clear hb f0 f1 f2 f3 f4 f5 f6 f7 f8 f9 f10 f11 f12
    clear hA HRR
    go_wp2_with fail
    obtain ⟨hb, f0, f1, f2, f3, f4, f5, f6, f7, f8, f9, f10, f11, f12⟩ := HF.out
    refine exC_mk _ _ _ _ (by simp only [setsC, List.setIfInBounds_toArray, List.set_cons_zero, List.set_cons_succ]; rfl) ?_
    exact ⟨hb, fun _ => rfl, f1, f2, f3, f4, f5, f6, f7, f8, f9, f10, f11, f12⟩
  · rintro L a wx Q' ⟨u30, u31, u32, u33, u34, u35, u36, u37, u9, u10, rfl, hR⟩ hL hA hK
    obtain ⟨hb, f0, f1, f2, f3, f4, f5, f6, f7, f8, f9, f10, f11, f12⟩ := hR
    have HRR := Lib.hid (And.intro hb (And.intro f8 (And.intro f9 (And.intro f10 (And.intro f11 f12)))))
    simp only [List.setIfInBounds_toArray, List.set_cons_zero, List.set_cons_succ]
    have HF := Lib.hid (And.intro hb (And.intro f0 (And.intro f1 (And.intro f2 (And.intro f3 (And.intro f4 (And.intro f5 (And.intro f6 (And.intro f7 (And.intro f8 (And.intro f9 (And.intro f10 (And.intro f11 f12)))))))))))))
    clear hb f0 f1 f2 f3 f4 f5 f6 f7 f8 f9 f10 f11 f12
    clear hA HRR
    go_wp2_with fail
    obtain ⟨hb, f0, f1, f2, f3, f4, f5, f6, f7, f8, f9, f10, f11, f12⟩ := HF.out
    refine exC_mk _ _ _ _ (by simp only [setsC, List.setIfInBounds_toArray, List.set_cons_zero, List.set_cons_succ]; rfl) ?_
    exact ⟨hb, f0, fun _ => rfl, f2, f3, f4, f5, f6, f7, f8, f9, f10, f11, f12⟩
  · rintro L a wx Q' ⟨u30, u31, u32, u33, u34, u35, u36, u37, u9, u10, rfl, hR⟩ hL hA hK
    obtain ⟨hb, f0, f1, f2, f3, f4, f5, f6, f7, f8, f9, f10, f11, f12⟩ := hR
    have HRR := Lib.hid (And.intro hb (And.intro f8 (And.intro f9 (And.intro f10 (And.intro f11 f12)))))
    simp only [List.setIfInBounds_toArray, List.set_cons_zero, List.set_cons_succ]
    have l0 : L 0 = true := hA ⟨0, .data⟩ (by simp) rfl
    have hu0 := f0 l0
    subst hu0
    have l1 : L 1 = true := hA ⟨1, .data⟩ (by simp) rfl
    have hu1 := f1 l1
    subst hu1
    have HF := Lib.hid (And.intro hb (And.intro f0 (And.intro f1 (And.intro f2 (And.intro f3 (And.intro f4 (And.intro f5 (And.intro f6 (And.intro f7 (And.intro f8 (And.intro f9 (And.intro f10 (And.intro f11 f12)))))))))))))
    clear hb f0 f1 f2 f3 f4 f5 f6 f7 f8 f9 f10 f11 f12
    clear hA HRR l0 l1
    go_wp2_with fail
    obtain ⟨hb, f0, f1, f2, f3, f4, f5, f6, f7, f8, f9, f10, f11, f12⟩ := HF.out
    refine exC_mk _ _ _ _ (by simp only [setsC, List.setIfInBounds_toArray, List.set_cons_zero, List.set_cons_succ]; rfl) ?_
    exact ⟨hb, fun _ => rfl, fun _ => rfl, fun _ => rfl, f3, f4, f5, f6, f7, f8, f9, f10, f11, f12⟩
  · rintro L a wx Q' ⟨u30, u31, u32, u33, u34, u35, u36, u37, u9, u10, rfl, hR⟩ hL hA hK
    obtain ⟨hb, f0, f1, f2, f3, f4, f5, f6, f7, f8, f9, f10, f11, f12⟩ := hR
    have HRR := Lib.hid (And.intro hb (And.intro f8 (And.intro f9 (And.intro f10 (And.intro f11 f12)))))
    simp only [List.setIfInBounds_toArray, List.set_cons_zero, List.set_cons_succ]
    have l2 : L 2 = true := hA ⟨2, .data⟩ (by simp) rfl
    have hu2 := f2 l2
    subst hu2
    have kq0 : wx.cell? ⟨b, off + i * 7, none⟩ = some (.int .i64 x.src) := cell_later hb (HE.out 0 _ rfl)
    have kq1 : wx.cell? ⟨b, off + i * 7 + 1, none⟩ = some (.int .i64 x.tgt) := cell_later hb (HE.out 1 _ rfl)
    have kq2 : wx.cell? ⟨b, off + i * 7 + 2, none⟩ = some (.int .i64 x.cls) := cell_later hb (HE.out 2 _ rfl)
    have kq3 : wx.cell? ⟨b, off + i * 7 + 3, none⟩ = some (.int .i64 x.cond) := cell_later hb (HE.out 3 _ rfl)
    have kq4 : wx.cell? ⟨b, off + i * 7 + 4, none⟩ = some (.int .u32 x.allow) := cell_later hb (HE.out 4 _ rfl)
    have kq5 : wx.cell? ⟨b, off + i * 7 + 5, none⟩ = some (.int .u32 x.audit) := cell_later hb (HE.out 5 _ rfl)
    have kq6 : wx.cell? ⟨b, off + i * 7 + 6, none⟩ = some (.int .u32 x.dont) := cell_later hb (HE.out 6 _ rfl)
    have HF := Lib.hid (And.intro hb (And.intro f0 (And.intro f1 (And.intro f2 (And.intro f3 (And.intro f4 (And.intro f5 (And.intro f6 (And.intro f7 (And.intro f8 (And.intro f9 (And.intro f10 (And.intro f11 f12)))))))))))))
    clear hb f0 f1 f2 f3 f4 f5 f6 f7 f8 f9 f10 f11 f12
    clear hA HRR l2
    go_wp2_with fail
    obtain ⟨hb, f0, f1, f2, f3, f4, f5, f6, f7, f8, f9, f10, f11, f12⟩ := HF.out
    refine exC_mk _ _ _ _ (by simp only [setsC, List.setIfInBounds_toArray, List.set_cons_zero, List.set_cons_succ]; rfl) ?_
    exact ⟨hb, f0, f1, fun _ => rfl, fun _ => rfl, f4, f5, f6, f7, f8, f9, f10, f11, f12⟩
  · rintro L a wx Q' ⟨u30, u31, u32, u33, u34, u35, u36, u37, u9, u10, rfl, hR⟩ hL hA hK
    obtain ⟨hb, f0, f1, f2, f3, f4, f5, f6, f7, f8, f9, f10, f11, f12⟩ := hR
    have HRR := Lib.hid (And.intro hb (And.intro f8 (And.intro f9 (And.intro f10 (And.intro f11 f12)))))
    simp only [List.setIfInBounds_toArray, List.set_cons_zero, List.set_cons_succ]
    have HF := Lib.hid (And.intro hb (And.intro f0 (And.intro f1 (And.intro f2 (And.intro f3 (And.intro f4 (And.intro f5 (And.intro f6 (And.intro f7 (And.intro f8 (And.intro f9 (And.intro f10 (And.intro f11 f12)))))))))))))
    clear hb f0 f1 f2 f3 f4 f5 f6 f7 f8 f9 f10 f11 f12
    clear hA HRR
    go_wp2_with fail
    obtain ⟨hb, f0, f1, f2, f3, f4, f5, f6, f7, f8, f9, f10, f11, f12⟩ := HF.out
    refine exC_mk _ _ _ _ (by simp only [setsC, List.setIfInBounds_toArray, List.set_cons_zero, List.set_cons_succ]; rfl) ?_
    exact ⟨hb, f0, f1, f2, f3, fun _ => rfl, f5, f6, f7, f8, f9, f10, f11, f12⟩
  · rintro L a wx Q' ⟨u30, u31, u32, u33, u34, u35, u36, u37, u9, u10, rfl, hR⟩ hL hA hK
    obtain ⟨hb, f0, f1, f2, f3, f4, f5, f6, f7, f8, f9, f10, f11, f12⟩ := hR
    have HRR := Lib.hid (And.intro hb (And.intro f8 (And.intro f9 (And.intro f10 (And.intro f11 f12)))))
    simp only [List.setIfInBounds_toArray, List.set_cons_zero, List.set_cons_succ]
    have HF := Lib.hid (And.intro hb (And.intro f0 (And.intro f1 (And.intro f2 (And.intro f3 (And.intro f4 (And.intro f5 (And.intro f6 (And.intro f7 (And.intro f8 (And.intro f9 (And.intro f10 (And.intro f11 f12)))))))))))))
    clear hb f0 f1 f2 f3 f4 f5 f6 f7 f8 f9 f10 f11 f12
    clear hA HRR
    go_wp2_with fail
    obtain ⟨hb, f0, f1, f2, f3, f4, f5, f6, f7, f8, f9, f10, f11, f12⟩ := HF.out
    refine exC_mk _ _ _ _ (by simp only [setsC, List.setIfInBounds_toArray, List.set_cons_zero, List.set_cons_succ]; rfl) ?_
    exact ⟨hb, f0, f1, f2, f3, f4, fun _ => rfl, f6, f7, f8, f9, f10, f11, f12⟩
  · rintro L a wx Q' ⟨u30, u31, u32, u33, u34, u35, u36, u37, u9, u10, rfl, hR⟩ hL hA hK
    obtain ⟨hb, f0, f1, f2, f3, f4, f5, f6, f7, f8, f9, f10, f11, f12⟩ := hR
    have HRR := Lib.hid (And.intro hb (And.intro f8 (And.intro f9 (And.intro f10 (And.intro f11 f12)))))
    simp only [List.setIfInBounds_toArray, List.set_cons_zero, List.set_cons_succ]
    have l4 : L 4 = true := hA ⟨4, .data⟩ (by simp) rfl
    have hu4 := f4 l4
    subst hu4
    have l5 : L 5 = true := hA ⟨5, .data⟩ (by simp) rfl
    have hu5 := f5 l5
    subst hu5
    have HF := Lib.hid (And.intro hb (And.intro f0 (And.intro f1 (And.intro f2 (And.intro f3 (And.intro f4 (And.intro f5 (And.intro f6 (And.intro f7 (And.intro f8 (And.intro f9 (And.intro f10 (And.intro f11 f12)))))))))))))
    clear hb f0 f1 f2 f3 f4 f5 f6 f7 f8 f9 f10 f11 f12
    clear hA HRR l4 l5
    go_wp2_with fail
    obtain ⟨hb, f0, f1, f2, f3, f4, f5, f6, f7, f8, f9, f10, f11, f12⟩ := HF.out
    refine exC_mk _ _ _ _ (by simp only [setsC, List.setIfInBounds_toArray, List.set_cons_zero, List.set_cons_succ]; rfl) ?_
    exact ⟨hb, f0, f1, f2, f3, fun _ => rfl, fun _ => rfl, fun _ => rfl, f7, f8, f9, f10, f11, f12⟩
  · rintro L a wx Q' ⟨u30, u31, u32, u33, u34, u35, u36, u37, u9, u10, rfl, hR⟩ hL hA hK
    obtain ⟨hb, f0, f1, f2, f3, f4, f5, f6, f7, f8, f9, f10, f11, f12⟩ := hR
    have HRR := Lib.hid (And.intro hb (And.intro f8 (And.intro f9 (And.intro f10 (And.intro f11 f12)))))
    simp only [List.setIfInBounds_toArray, List.set_cons_zero, List.set_cons_succ]
    have l6 : L 6 = true := hA ⟨6, .data⟩ (by simp) rfl
    have hu6 := f6 l6
    subst hu6
    have kq0 : wx.cell? ⟨b, off + i * 7, none⟩ = some (.int .i64 x.src) := cell_later hb (HE.out 0 _ rfl)
    have kq1 : wx.cell? ⟨b, off + i * 7 + 1, none⟩ = some (.int .i64 x.tgt) := cell_later hb (HE.out 1 _ rfl)
    have kq2 : wx.cell? ⟨b, off + i * 7 + 2, none⟩ = some (.int .i64 x.cls) := cell_later hb (HE.out 2 _ rfl)
    have kq3 : wx.cell? ⟨b, off + i * 7 + 3, none⟩ = some (.int .i64 x.cond) := cell_later hb (HE.out 3 _ rfl)
    have kq4 : wx.cell? ⟨b, off + i * 7 + 4, none⟩ = some (.int .u32 x.allow) := cell_later hb (HE.out 4 _ rfl)
    have kq5 : wx.cell? ⟨b, off + i * 7 + 5, none⟩ = some (.int .u32 x.audit) := cell_later hb (HE.out 5 _ rfl)
    have kq6 : wx.cell? ⟨b, off + i * 7 + 6, none⟩ = some (.int .u32 x.dont) := cell_later hb (HE.out 6 _ rfl)
    have HF := Lib.hid (And.intro hb (And.intro f0 (And.intro f1 (And.intro f2 (And.intro f3 (And.intro f4 (And.intro f5 (And.intro f6 (And.intro f7 (And.intro f8 (And.intro f9 (And.intro f10 (And.intro f11 f12)))))))))))))
    clear hb f0 f1 f2 f3 f4 f5 f6 f7 f8 f9 f10 f11 f12
    clear hA HRR l6
    go_wp2_with fail
    obtain ⟨hb, f0, f1, f2, f3, f4, f5, f6, f7, f8, f9, f10, f11, f12⟩ := HF.out
    refine exC_mk _ _ _ _ (by simp only [setsC, List.setIfInBounds_toArray, List.set_cons_zero, List.set_cons_succ]; rfl) ?_
    exact ⟨hb, f0, f1, f2, f3, f4, f5, fun _ => rfl, fun _ => rfl, f8, f9, f10, f11, f12⟩
  · rintro L a wx Q' ⟨u30, u31, u32, u33, u34, u35, u36, u37, u9, u10, rfl, hR⟩ hL hA hK
    obtain ⟨hb, f0, f1, f2, f3, f4, f5, f6, f7, f8, f9, f10, f11, f12⟩ := hR
    have HRR := Lib.hid (And.intro hb (And.intro f8 (And.intro f9 (And.intro f10 (And.intro f11 f12)))))
    simp only [List.setIfInBounds_toArray, List.set_cons_zero, List.set_cons_succ]
    have hLs : L 10 = false := by
      cases hx : L 10 with
      | false => rfl
      | true => rw [f11 hx] at hL; cases hL
    have HLs := Lib.hid hLs
    have HF := Lib.hid (And.intro hb (And.intro f0 (And.intro f1 (And.intro f2 (And.intro f3 (And.intro f4 (And.intro f5 (And.intro f6 (And.intro f7 (And.intro f8 (And.intro f9 (And.intro f10 (And.intro f11 f12)))))))))))))
    clear hb f0 f1 f2 f3 f4 f5 f6 f7 f8 f9 f10 f11 f12
    clear hA HRR hLs hL
    go_wp2_with fail
    obtain ⟨hb, f0, f1, f2, f3, f4, f5, f6, f7, f8, f9, f10, f11, f12⟩ := HF.out
    refine exC_mk _ _ _ _ (by simp only [setsC, List.setIfInBounds_toArray, List.set_cons_zero, List.set_cons_succ]; rfl) ?_
    exact ⟨hb.alloc hb.size _, f0, f1, f2, f3, f4, f5, f6, f7, fun _ => by rw [show upd L 8 10 = false from HLs.out]; exact BoxAt.new wx #[.int .i64 0, .int .i64 0, .int .i64 0, .int .i64 0, .int .u32 0, .int .u32 0, .int .u32 0] hb.size, fun h => (f9 h).keep ((Below.refl _ _).alloc (Nat.le_refl _) _), fun _ h => Ne.symm (f9 h).ne, fun _ => rfl, f12⟩
  · rintro L a wx Q' ⟨u30, u31, u32, u33, u34, u35, u36, u37, u9, u10, rfl, hR⟩ hL hA hK
    obtain ⟨hb, f0, f1, f2, f3, f4, f5, f6, f7, f8, f9, f10, f11, f12⟩ := hR
    have HRR := Lib.hid (And.intro hb (And.intro f8 (And.intro f9 (And.intro f10 (And.intro f11 f12)))))
    simp only [List.setIfInBounds_toArray, List.set_cons_zero, List.set_cons_succ]
    have hLs : L 11 = false := by
      cases hx : L 11 with
      | false => rfl
      | true => rw [f12 hx] at hL; cases hL
    have HLs := Lib.hid hLs
    have HF := Lib.hid (And.intro hb (And.intro f0 (And.intro f1 (And.intro f2 (And.intro f3 (And.intro f4 (And.intro f5 (And.intro f6 (And.intro f7 (And.intro f8 (And.intro f9 (And.intro f10 (And.intro f11 f12)))))))))))))
    clear hb f0 f1 f2 f3 f4 f5 f6 f7 f8 f9 f10 f11 f12
    clear hA HRR hLs hL
    go_wp2_with fail
    obtain ⟨hb, f0, f1, f2, f3, f4, f5, f6, f7, f8, f9, f10, f11, f12⟩ := HF.out
    refine exC_mk _ _ _ _ (by simp only [setsC, List.setIfInBounds_toArray, List.set_cons_zero, List.set_cons_succ]; rfl) ?_
    exact ⟨hb.alloc hb.size _, f0, f1, f2, f3, f4, f5, f6, f7, fun h => (f8 h).keep ((Below.refl _ _).alloc (Nat.le_refl _) _), fun _ => by rw [show upd L 9 11 = false from HLs.out]; exact BoxAt.new wx #[.int .i64 0, .int .i64 0, .int .i64 0, .int .i64 0, .int .u32 0, .int .u32 0, .int .u32 0] hb.size, fun h _ => (f8 h).ne, f11, fun _ => rfl⟩
  · rintro L a wx Q' ⟨u30, u31, u32, u33, u34, u35, u36, u37, u9, u10, rfl, hR⟩ hL hA hK
    obtain ⟨hb, f0, f1, f2, f3, f4, f5, f6, f7, f8, f9, f10, f11, f12⟩ := hR
    have HRR := Lib.hid (And.intro hb (And.intro f8 (And.intro f9 (And.intro f10 (And.intro f11 f12)))))
    simp only [List.setIfInBounds_toArray, List.set_cons_zero, List.set_cons_succ]
    have l0 : L 3 = true := hA ⟨3, .data⟩ (by simp) rfl
    have l1 : L 8 = true := hA ⟨8, .data⟩ (by simp) rfl
    have hu0 := f3 l0
    subst hu0
    obtain ⟨g, hg, hgB, hgW⟩ := f8 l1
    rw [hL] at hgW
    subst hg
    have HG := Lib.hid hgW
    have HGB := Lib.hid hgB
    have HL0 := Lib.hid l1
    clear hgW hgB l0 l1 hL
    have HF := Lib.hid (And.intro hb (And.intro f0 (And.intro f1 (And.intro f2 (And.intro f3 (And.intro f4 (And.intro f5 (And.intro f6 (And.intro f7 (And.intro f8 (And.intro f9 (And.intro f10 (And.intro f11 f12)))))))))))))
    clear hb f0 f1 f2 f3 f4 f5 f6 f7 f8 f9 f10 f11 f12
    clear hA HRR
    go_wp2_with (refine wpList_store_blk rfl 37 _ _ rfl g 0 (.agg #[.int .i64 x.src, .int .i64 x.tgt, .int .i64 x.cls, .int .i64 x.cond, .int .u32 x.allow, .int .u32 x.audit, .int .u32 x.dont]) rfl rfl 37 _ HG.out (by simp [Value.cells]) size37 rfl ?_)
    intro w2 S2 W2
    rw [splice_all _ _ (by rfl)] at W2
    have HS2 := Lib.hid S2
    have HW2 := Lib.hid (show Whole w2 g 37 #[.int .i64 x.src, .int .i64 x.tgt, .int .i64 x.cls, .int .i64 x.cond, .int .u32 x.allow, .int .u32 x.audit, .int .u32 x.dont] from W2)
    clear S2 W2
    go_wp2_with fail
    obtain ⟨hb, f0, f1, f2, f3, f4, f5, f6, f7, f8, f9, f10, f11, f12⟩ := HF.out
    refine exC_mk _ _ _ _ (by simp only [setsC, List.setIfInBounds_toArray, List.set_cons_zero, List.set_cons_succ]; rfl) ?_
    exact ⟨hb.trans (HS2.out.below HGB.out), f0, f1, f2, fun _ => rfl, f4, f5, f6, f7, fun _ => ⟨g, rfl, HGB.out, HW2.out⟩, fun h => (f9 h).sto HS2.out (Ne.symm (f10 HL0.out h)), f10, fun _ => HL0.out, f12⟩
  · rintro L a wx Q' ⟨u30, u31, u32, u33, u34, u35, u36, u37, u9, u10, rfl, hR⟩ hL hA hK
    obtain ⟨hb, f0, f1, f2, f3, f4, f5, f6, f7, f8, f9, f10, f11, f12⟩ := hR
    have HRR := Lib.hid (And.intro hb (And.intro f8 (And.intro f9 (And.intro f10 (And.intro f11 f12)))))
    simp only [List.setIfInBounds_toArray, List.set_cons_zero, List.set_cons_succ]
    have l0 : L 7 = true := hA ⟨7, .data⟩ (by simp) rfl
    have l1 : L 9 = true := hA ⟨9, .data⟩ (by simp) rfl
    have hu0 := f7 l0
    subst hu0
    obtain ⟨g, hg, hgB, hgW⟩ := f9 l1
    rw [hL] at hgW
    subst hg
    have HG := Lib.hid hgW
    have HGB := Lib.hid hgB
    have HL0 := Lib.hid l1
    clear hgW hgB l0 l1 hL
    have HF := Lib.hid (And.intro hb (And.intro f0 (And.intro f1 (And.intro f2 (And.intro f3 (And.intro f4 (And.intro f5 (And.intro f6 (And.intro f7 (And.intro f8 (And.intro f9 (And.intro f10 (And.intro f11 f12)))))))))))))
    clear hb f0 f1 f2 f3 f4 f5 f6 f7 f8 f9 f10 f11 f12
    clear hA HRR
    go_wp2_with (refine wpList_store_blk rfl 37 _ _ rfl g 0 (.agg #[.int .i64 x.src, .int .i64 x.tgt, .int .i64 x.cls, .int .i64 x.cond, .int .u32 x.allow, .int .u32 x.audit, .int .u32 x.dont]) rfl rfl 37 _ HG.out (by simp [Value.cells]) size37 rfl ?_)
    intro w2 S2 W2
    rw [splice_all _ _ (by rfl)] at W2
    have HS2 := Lib.hid S2
    have HW2 := Lib.hid (show Whole w2 g 37 #[.int .i64 x.src, .int .i64 x.tgt, .int .i64 x.cls, .int .i64 x.cond, .int .u32 x.allow, .int .u32 x.audit, .int .u32 x.dont] from W2)
    clear S2 W2
    go_wp2_with fail
    obtain ⟨hb, f0, f1, f2, f3, f4, f5, f6, f7, f8, f9, f10, f11, f12⟩ := HF.out
    refine exC_mk _ _ _ _ (by simp only [setsC, List.setIfInBounds_toArray, List.set_cons_zero, List.set_cons_succ]; rfl) ?_
    exact ⟨hb.trans (HS2.out.below HGB.out), f0, f1, f2, f3, f4, f5, f6, fun _ => rfl, fun h => (f8 h).sto HS2.out (f10 h HL0.out), fun _ => ⟨g, rfl, HGB.out, HW2.out⟩, f10, f11, fun _ => HL0.out⟩
  · rintro L a wx ⟨u30, u31, u32, u33, u34, u35, u36, u37, u9, u10, rfl, hR⟩ hL
    have l : ∀ i, i < 12 → L i = true := hL
    obtain ⟨hb, f0, f1, f2, f3, f4, f5, f6, f7, f8, f9, f10, f11, f12⟩ := hR
    obtain ⟨g1, rfl, hg1, W1⟩ := f8 (l 8 (by omega))
    obtain ⟨g2, rfl, hg2, W2⟩ := f9 (l 9 (by omega))
    rw [l 10 (by omega)] at W1
    rw [l 11 (by omega)] at W2
    have hne := f10 (l 8 (by omega)) (l 9 (by omega))
    simp only [List.setIfInBounds_toArray, List.set_cons_zero, List.set_cons_succ]
    exact HEND.out _ _ _ _ _ _ _ _ g1 g2 wx ⟨W1, W2, (fun e => hne (by rw [e])), hg1, hg2, hb⟩
set_option maxRecDepth 100000 in
set_option maxHeartbeats 4000000 in
theorem ord8 (w : World) (bs g1 g2 : Nat) (x : AEntry) (x0 x1 x2 x3 x4 x5 x6 x7 x8 x11 x12 x13 x14 x15 x16 x17 x18 x19 x20 x21 x22 x23 x24 x25 x26 x27 x28 x29 x30 x31 x32 x33 x34 x35 x36 x37 x38 x39 x40 x41 x42 x43 x44 x45 x46 x47 x48 x49 x50 x51 x52 x53 x54 x55 x56 x57 x58 x59 x60 x61 x62 x63 x64 x65 x66 x67 x68 x69 x70 x71 x72 x73 x74 x75 x76 x77 x78 x79 x80 x81 x82 x83 x84 x85 x86 x87 x88 : Value) (HG1 : Hid (Whole w g1 37 #[.int .i64 x.src, .int .i64 x.tgt, .int .i64 x.cls, .int .i64 x.cond, .int .u32 x.allow, .int .u32 x.audit, .int .u32 x.dont])) (HG2 : Hid (Whole w g2 37 #[.int .i64 x.src, .int .i64 x.tgt, .int .i64 x.cls, .int .i64 x.cond, .int .u32 x.allow, .int .u32 x.audit, .int .u32 x.dont])) (HNE : Hid (g1 ≠ g2)) (HLO : Hid (bs ≤ g1)) (HLO2 : Hid (bs ≤ g2))
    {Q' : Exit → Act → World → Prop} (hend : ∀ (v38 v39 v40 v41 v42 v43 v44 v45 : Value) (w' : World), (Whole w' g1 37 #[.int .i64 x.src, .int .i64 x.tgt, .int .i64 x.cls, .int .i64 x.cond, .int .u32 (bits .and .u32 x.allow 1431655765), .int .u32 x.audit, .int .u32 x.dont] ∧ Whole w' g2 37 #[.int .i64 x.src, .int .i64 x.tgt, .int .i64 x.cls, .int .i64 x.cond, .int .u32 (bits .andNot .u32 x.allow 1431655765), .int .u32 x.audit, .int .u32 x.dont] ∧ RowKit.Below bs w w') → Q' .normal ⟨#[x0, x1, x2, x3, x4, x5, x6, x7, x8, .pointer (some ⟨g1, 0, none⟩), .pointer (some ⟨g2, 0, none⟩), x11, x12, x13, x14, x15, x16, x17, x18, x19, x20, x21, x22, x23, x24, x25, x26, x27, x28, x29, x30, x31, x32, x33, x34, x35, x36, x37, v38, v39, v40, v41, v42, v43, v44, v45, x46, x47, x48, x49, x50, x51, x52, x53, x54, x55, x56, x57, x58, x59, x60, x61, x62, x63, x64, x65, x66, x67, x68, x69, x70, x71, x72, x73, x74, x75, x76, x77, x78, x79, x80, x81, x82, x83, x84, x85, x86, x87, x88], []⟩ w') :
    Code.wp Try.prog (findRegion7 8 ((Try.f4.body).getD .skip)) Q' ⟨#[x0, x1, x2, x3, x4, x5, x6, x7, x8, .pointer (some ⟨g1, 0, none⟩), .pointer (some ⟨g2, 0, none⟩), x11, x12, x13, x14, x15, x16, x17, x18, x19, x20, x21, x22, x23, x24, x25, x26, x27, x28, x29, x30, x31, x32, x33, x34, x35, x36, x37, x38, x39, x40, x41, x42, x43, x44, x45, x46, x47, x48, x49, x50, x51, x52, x53, x54, x55, x56, x57, x58, x59, x60, x61, x62, x63, x64, x65, x66, x67, x68, x69, x70, x71, x72, x73, x74, x75, x76, x77, x78, x79, x80, x81, x82, x83, x84, x85, x86, x87, x88], []⟩ w := by
  have HEND := Lib.hid hend
  clear hend
  conv => arg 2; whnf
  conv => arg 4; dsimp only
  refine wp_region_goods [some 38, some 39, some 40, some 41, some 42, some 43, some 44, none, some 45] [isW (.pointer (some ⟨g1, 4, none⟩)), (fun L v _ => v = .int .u32 x.allow ∧ L 1 = true), (fun L v _ => v = .int .u32 (bits .and .u32 x.allow 1431655765) ∧ L 1 = true), isW (.pointer (some ⟨g2, 4, none⟩)), isW (.int .u32 x.allow), isW (.int .u32 (bits .andNot .u32 x.allow 1431655765)), isW (.pointer (some ⟨g1, 4, none⟩)), (fun _ _ _ => True), isW (.pointer (some ⟨g2, 4, none⟩))] (fun L w' => Whole w' g1 37 (if L 7 then #[.int .i64 x.src, .int .i64 x.tgt, .int .i64 x.cls, .int .i64 x.cond, .int .u32 (bits .and .u32 x.allow 1431655765), .int .u32 x.audit, .int .u32 x.dont] else #[.int .i64 x.src, .int .i64 x.tgt, .int .i64 x.cls, .int .i64 x.cond, .int .u32 x.allow, .int .u32 x.audit, .int .u32 x.dont]) ∧ Whole w' g2 37 #[.int .i64 x.src, .int .i64 x.tgt, .int .i64 x.cls, .int .i64 x.cond, .int .u32 x.allow, .int .u32 x.audit, .int .u32 x.dont] ∧ RowKit.Below bs w w' ∧ (L 7 = true → L 1 = true)) [7] (by kernel_rfl) (by kernel_rfl) (by kernel_rfl) rfl (by decide) rfl rfl (⟨HG1.out, HG2.out, (RowKit.Below.refl _ _).drew, (fun h => by cases h)⟩) ⟨lastsW_is _, (fun L j v w1 w2 _ h _ => ⟨h.1, by simp [upd, h.2]⟩), (fun L j v w1 w2 _ h _ => ⟨h.1, by simp [upd, h.2]⟩), lastsW_is _, lastsW_is _, lastsW_is _, lastsW_is _, (fun _ _ _ _ _ _ _ _ => trivial), lastsW_is _, trivial⟩ ⟨?_, ?_, ?_, ?_, ?_, ?_, ?_, ?_, ?_, ?_⟩
  · intro L a wy Q' hL hi H F hK
    try dsimp only at hi
    have h9 : a.tmps[9]? = some (.pointer (some ⟨g1, 0, none⟩)) := F 9 rfl
    have HI := Lib.hid hi
    clear H F hi hL
    go_wp2_with fail
    exact hK _ _ (Below.refl _ _) HI.out rfl
  · intro L a wy Q' hL hi H F hK
    try dsimp only at hi
    obtain ⟨_, h38, rfl⟩ := H 0 ⟨.data, by simp, rfl⟩ _ rfl
    replace h38 := h38 _ rfl
    have HI := Lib.hid hi
    clear H F hi
    have hl : L 7 = false := by
      cases e : L 7 with
      | false => rfl
      | true => rw [HI.out.2.2.2 e] at hL; cases hL
    have hw := HI.out.1
    rw [hl] at hw
    have kq : wy.cell? ⟨g1, 4, none⟩ = some (.int .u32 x.allow) := hw.cell 4
    have HK9 := Lib.hid hK
    clear hK hl hL hw
    go_wp2_with fail
    exact HK9.out _ _ (Below.refl _ _) ⟨HI.out.1, HI.out.2.1, HI.out.2.2.1, fun _ => rfl⟩ ⟨rfl, rfl⟩
  · intro L a wy Q' hL hi H F hK
    try dsimp only at hi
    obtain ⟨v39, h39, hv39⟩ := H 1 ⟨.data, by simp, rfl⟩ _ rfl
    replace h39 := h39 _ rfl
    have HV39 := Lib.hid hv39
    clear hv39
    have HI := Lib.hid hi
    clear H F hi hL
    obtain ⟨hv1, hv2⟩ := HV39.out
    subst hv1
    have HK9 := Lib.hid hK
    have HV2 := Lib.hid hv2
    clear hK hv2
    go_wp2_with fail
    exact HK9.out _ _ (Below.refl _ _) HI.out ⟨rfl, HV2.out⟩
  · intro L a wy Q' hL hi H F hK
    try dsimp only at hi
    have h10 : a.tmps[10]? = some (.pointer (some ⟨g2, 0, none⟩)) := F 10 rfl
    have HI := Lib.hid hi
    clear H F hi hL
    go_wp2_with fail
    exact hK _ _ (Below.refl _ _) HI.out rfl
  · intro L a wy Q' hL hi H F hK
    try dsimp only at hi
    obtain ⟨_, h41, rfl⟩ := H 3 ⟨.data, by simp, rfl⟩ _ rfl
    replace h41 := h41 _ rfl
    have HI := Lib.hid hi
    clear H F hi hL
    have kq0 : wy.cell? ⟨g2, 4, none⟩ = some (.int .u32 x.allow) := HI.out.2.1.cell 4
    go_wp2_with fail
    exact hK _ _ (Below.refl _ _) HI.out rfl
  · intro L a wy Q' hL hi H F hK
    try dsimp only at hi
    obtain ⟨_, h42, rfl⟩ := H 4 ⟨.data, by simp, rfl⟩ _ rfl
    replace h42 := h42 _ rfl
    have HI := Lib.hid hi
    clear H F hi hL
    go_wp2_with fail
    exact hK _ _ (Below.refl _ _) HI.out rfl
  · intro L a wy Q' hL hi H F hK
    try dsimp only at hi
    have h9 : a.tmps[9]? = some (.pointer (some ⟨g1, 0, none⟩)) := F 9 rfl
    have HI := Lib.hid hi
    clear H F hi hL
    go_wp2_with fail
    exact hK _ _ (Below.refl _ _) HI.out rfl
  · intro L a wy Q' hL hi H F hK
    try dsimp only at hi
    obtain ⟨v40, h40, hv40⟩ := H 2 ⟨.data, by simp, rfl⟩ _ rfl
    replace h40 := h40 _ rfl
    have HV40 := Lib.hid hv40
    clear hv40
    obtain ⟨_, h44, rfl⟩ := H 6 ⟨.data, by simp, rfl⟩ _ rfl
    replace h44 := h44 _ rfl
    have HI := Lib.hid hi
    clear H F hi
    obtain ⟨hv1, hv2⟩ := HV40.out
    subst hv1
    have HV2 := Lib.hid hv2
    have HK9 := Lib.hid hK
    have hw := HI.out.1
    rw [hL] at hw
    clear hK hv2 hL
    refine wpList_store_blk rfl 35 _ _ rfl g1 4 (.int .u32 (bits .and .u32 x.allow 1431655765)) (by simp [Act.eval, *]) (by simp [Act.eval, *]) 37 _ hw (by simp [Value.cells]) size35 rfl ?_
    intro w9 S9 W9
    exact HK9.out undef w9 (show KeepAll _ _ _ _ _ _ _ _ from ⟨(fun _ _ _ _ h => h), (fun _ _ v _ h => ⟨h.1, by simp [upd, h.2]⟩), (fun _ _ v _ h => ⟨h.1, by simp [upd, h.2]⟩), (fun _ _ _ _ h => h), (fun _ _ _ _ h => h), (fun _ _ _ _ h => h), (fun _ _ _ _ h => h), (fun h => absurd rfl h), (fun _ _ _ _ h => h), trivial⟩) ⟨W9, S9.whole HI.out.2.1 (fun e => HNE.out e.symm), HI.out.2.2.1.trans (S9.below HLO.out), fun _ => HV2.out⟩ trivial
  · intro L a wy Q' hL hi H F hK
    try dsimp only at hi
    have h10 : a.tmps[10]? = some (.pointer (some ⟨g2, 0, none⟩)) := F 10 rfl
    have HI := Lib.hid hi
    clear H F hi hL
    go_wp2_with fail
    exact hK _ _ (Below.refl _ _) HI.out rfl
  · intro a wy L hl hi hL Q' hK
    try dsimp only at hi
    have HB := Lib.hid hi
    have HL := Lib.hid hL
    clear hi hL
    obtain ⟨_, rfl, u39, hu39, u40, hu40, _, rfl, _, rfl, _, rfl, _, rfl, un7, hun7, _, rfl, rfl⟩ := hl
    have HU39 := Lib.hid hu39
    clear hu39
    have HU40 := Lib.hid hu40
    clear hu40
    have HUn7 := Lib.hid hun7
    clear hun7
    simp only [List.setIfInBounds_toArray, List.set_cons_zero, List.set_cons_succ]
    have hw1 := HB.out.1
    rw [HL.out 7 (by decide)] at hw1
    have HW1 := Lib.hid hw1
    have HW2 := Lib.hid HB.out.2.1
    clear hw1
    go_wp2_with (refine wpList_store_blk rfl 35 _ _ rfl g2 4 (.int .u32 (bits .andNot .u32 x.allow 1431655765)) rfl rfl 37 _ HW2.out (by simp [Value.cells]) size35 rfl ?_; intro w9 S9 W9; have HS9 := Lib.hid S9; have HW9 := Lib.hid (show Whole w9 g2 37 #[.int .i64 x.src, .int .i64 x.tgt, .int .i64 x.cls, .int .i64 x.cond, .int .u32 (bits .andNot .u32 x.allow 1431655765), .int .u32 x.audit, .int .u32 x.dont] from W9); clear S9 W9)
    exact HEND.out _ _ _ _ _ _ _ _ w9 ⟨HS9.out.whole HW1.out HNE.out, HW9.out, HB.out.2.2.1.trans (HS9.out.below HLO2.out)⟩
set_option maxRecDepth 100000 in
set_option maxHeartbeats 8000000 in
theorem order_any (w : World) (lv vv uv : Value) (l : List AEntry) (vals vals2 : List Bool) (hl : SliceAt w lv 7 l.length (l.flatMap AEntry.cells)) (hv : SliceAt w vv 1 vals.length (vals.map aBool)) (hu : SliceAt w uv 1 vals2.length (vals2.map aBool)) (hok : ∀ x ∈ l, x.Ok) :
    Calls Try.prog 4 #[lv, vv, uv] w fun e w' => e = .returned (.bool true) ∧ RowKit.Below w.heap.size w w' := by
  obtain ⟨i0, z0, hi0, hz0, hz1, hz2, hzs⟩ := infoOf info37
  have HL := Lib.hid hl
  have HV := Lib.hid hv
  have HU := Lib.hid hu
  obtain ⟨n, hn⟩ : ∃ n, n = l.length := ⟨_, rfl⟩
  rw [← hn] at hl
  obtain ⟨la, lc, rfl, hlc, hlm, hcell⟩ := hl.form (by decide)
  obtain ⟨va, vc, rfl⟩ := hv.shape
  obtain ⟨ua, uc, rfl⟩ := hu.shape
  have HLG := Lib.hid (large_any w la va none n vals.length 0 lc vc 0)
  obtain ⟨r, hr⟩ : ∃ r, r = decide (300 < n ∨ 100 < vals.length ∨ 20 < 0) := ⟨_, rfl⟩
  rw [← hr] at HLG
  have HR := Lib.hid hr
  have HN := Lib.hid hn
  have HC := Lib.hid hcell
  obtain ⟨n2, hn2⟩ : ∃ n, n = vals2.length := ⟨_, rfl⟩
  have HN2 := Lib.hid hn2
  rw [← hn2] at HU ⊢
  rw [← hn] at HL
  have HOKL := Lib.hid hok
  clear hl hv hu hok hr hn2 hn hcell
  by_cases hbig : r = true ∨ 100 < n2
  · cases r with
    | true =>
      clear hbig
      go_enter Try.func4, Try.ntmps4
      go_wp2_with (first | (go_at_call 8; go_must (refine HLG.out.mono ?_; rintro e w1 ⟨rfl, rfl⟩; skip)) | (go_at_call 9; go_must (refine (alive_any w).mono ?_; rintro e w2 ⟨rfl, hb⟩; have HB2 := Lib.hid hb; clear hb)))
      go_ret
      exact ⟨ret_val rfl, HB2.out⟩
    | false =>
      have hb2 : 100 < n2 := hbig.resolve_left (by simp)
      clear hbig
      go_enter Try.func4, Try.ntmps4
      go_wp2_with (first | (go_at_call 8; go_must (refine HLG.out.mono ?_; rintro e w1 ⟨rfl, rfl⟩; skip)) | (go_at_call 9; go_must (refine (alive_any w).mono ?_; rintro e w2 ⟨rfl, hb⟩; have HB2 := Lib.hid hb; clear hb)))
      go_ret
      exact ⟨ret_val rfl, HB2.out⟩
  · obtain ⟨hr1, hb2⟩ : r = false ∧ ¬ 100 < n2 := ⟨Bool.eq_false_iff.2 fun e => hbig (.inl e), fun e => hbig (.inr e)⟩
    subst hr1
    clear hbig
    have hsz : ¬ (300 < n ∨ 100 < vals.length ∨ 20 < 0) := of_decide_eq_false HR.out.symm
    have hn3 : n ≤ 300 := by omega
    have HLN := Lib.hid hn3
    have HVN := Lib.hid (show vals.length ≤ 1000000 by omega)
    have HUN := Lib.hid (show vals2.length ≤ 1000000 by rw [← HN2.out]; omega)
    clear hsz
    go_enter Try.func4, Try.ntmps4
    go_wp2_with (go_at_call 8; go_must (refine HLG.out.mono ?_; rintro e w0 ⟨rfl, rfl⟩; skip))
    go_loopw [8, 7] (fun ix u wr => ∃ m : Nat, m ≤ n ∧ ix = .int .i64 ((m : Int) - 1) ∧ wr.ownsRow w.heap.size 37 7 u (backL (l.drop m)).length ((backL (l.drop m)).flatMap AEntry.cells) ∧ RowKit.Below w.heap.size w wr) (fun ix _ _ => (intOf ix + 1).toNat)
    case atStart => exact ⟨n, Nat.le_refl _, rfl, by rw [HN.out, List.drop_length]; exact World.ownsRow_nil _ _ _ _, Below.refl _ _⟩
    case round =>
      obtain ⟨m, hm, rfl, hOr, hBr⟩ := hrel
      obtain ⟨p, hp⟩ : ∃ p, p = (backL (l.drop m)).length := ⟨_, rfl⟩
      rw [← hp] at hOr
      obtain ⟨oa, oc, rfl⟩ := own_shape hOr
      have HOr := Lib.hid hOr
      have HBr := Lib.hid hBr
      have HPP := Lib.hid hp
      have HPL := Lib.hid (show p ≤ 600 by rw [hp, backL_len, List.length_drop, ← HN.out]; omega)
      clear hOr hBr hp
      cases m with
      | zero =>
        have HPP0 := HPP
        have HOr0 := HOr
        rw [List.drop_zero] at HPP0 HOr0
        have HNW := Lib.hid (new_any wr _ l (HL.out.keep HBr.out |> fun h => by rw [HN.out] at h; exact h) HOKL.out (by rw [← HN.out]; omega))
        have HSB := Lib.hid (show SliceAt wr (.slice oa p oc) 7 (backL l).length ((backL l).flatMap AEntry.cells) by rw [← HPP0.out]; exact SliceAt.of_own HOr0.out (ecells_one _))
        rw [← HN.out] at HNW
        go_upto_region 12 with (first | (have hZ := HNW; clear hZ; (go_at_call 10; go_must (refine HNW.out.mono ?_; rintro e w1 ⟨tb, rfl, ht, hb⟩; have HT1 := Lib.hid ht; have HB1 := Lib.hid hb; have HNB := Lib.hid (new_any w1 (.slice oa p oc) (backL l) (HSB.out.keep hb) (backL_ok HOKL.out) (by rw [← HPP0.out]; have := HPL.out; omega)); clear ht hb HNW))) | (go_at_call 10; go_must (refine HNB.out.mono ?_; rintro e w2 ⟨cb, rfl, ht, hb⟩; rw [back_join HOKL.out] at ht; have HC2 := Lib.hid ht; have HB2 := Lib.hid hb; clear ht hb)))
        have HT2 := Lib.hid (HT1.out.keep HB2.out)
        obtain ⟨J, hJ⟩ : ∃ J, J = joinL l := ⟨_, rfl⟩
        have HJL := Lib.hid (show J.length ≤ 100000 by rw [hJ]; have := joinL_length l; have := HN.out; omega)
        rw [← hJ] at HT2 HC2
        have HBw2 := Lib.hid ((HBr.out.trans (HB1.out.mono HBr.out.size)).trans (HB2.out.mono (Nat.le_trans HBr.out.size HB1.out.size)))
        have HTL := Lib.hid (show w.heap.size ≤ tb from Nat.le_trans HBr.out.size HT1.out.lo)
        clear hJ
        have HE1 := Lib.hid (tentries_any w2 _ tb J _ [] HT2.out HJL.out)
        go_upto_region 14 with (first
          | (have hZ := HE1; clear hZ; (go_at_call 16; go_must (refine HE1.out.mono ?_; rintro e w3 ⟨v3, rfl, ho, hb⟩; obtain ⟨xa, xc, rfl⟩ := own_shape ho; have HO3 := Lib.hid ho; have HB3 := Lib.hid hb; have HE2 := Lib.hid (tentries_any w3 _ cb J _ [] (HC2.out.keep hb) HJL.out); clear ho hb HE1)))
          | (have hZ := HE2; clear hZ; (go_at_call 16; go_must (refine HE2.out.mono ?_; rintro e w4 ⟨v4, rfl, ho, hb⟩; obtain ⟨ya, yc, rfl⟩ := own_shape ho; have HB4 := Lib.hid (HB3.out.trans (hb.mono HB3.out.size)); have HSM := Lib.hid (same_any w4 _ _ J J ((SliceAt.of_own HO3.out (ecells_one _)).keep hb) (SliceAt.of_own ho (ecells_one _))); clear ho hb HE2 HB3)))
          | (have hZ := HSM; clear hZ; (go_at_call 15; go_must (refine HSM.out.mono ?_; rintro e w5 ⟨rfl, hb⟩; have HB5 := Lib.hid (HB4.out.trans (hb.mono HB4.out.size)); clear hb HSM HB4))))
        have HT5 := Lib.hid (HT2.out.keep HB5.out)
        have HBw5 := Lib.hid (HBw2.out.trans (HB5.out.mono HBw2.out.size))
        have HA1 := Lib.hid (activate_any w5 _ tb _ J _ [] vals HT5.out (HV.out.keep HBw5.out) HJL.out HVN.out)
        go_upto_region 15 with (go_at_call 13; go_must (refine HA1.out.mono ?_; rintro e w6 ⟨rfl, ht, hg⟩; have HT6 := Lib.hid ht; have HG6 := Lib.hid hg; clear ht hg))
        have HBw6 := Lib.hid (HBw5.out.grown HG6.out HBw5.out.size (fun q hq => by cases hq; exact HTL.out))
        obtain ⟨S, hS⟩ : ∃ S, S = seenL J vals := ⟨_, rfl⟩
        have HSL := Lib.hid (show S.length ≤ 100000 by rw [hS]; have h1 := joinL_length (seenOf J vals); have h2 := seenOf_length J vals; have := HJL.out; unfold seenL; omega)
        rw [← hS] at HT6
        have HSE := Lib.hid hS
        clear hS
        have HV1 := Lib.hid (tvisible_any w6 _ tb J S vals HT6.out HSL.out)
        go_upto_region 16 with (go_at_call 17; go_must (refine HV1.out.mono ?_; rintro e w7 ⟨v7, rfl, ho, hb⟩; obtain ⟨xa7, xc7, rfl⟩ := own_shape ho; have HO7 := Lib.hid ho; have HB7 := Lib.hid hb; clear ho hb))
        have HT7 := Lib.hid (HT6.out.keep HB7.out)
        have HBw7 := Lib.hid (HBw6.out.trans (HB7.out.mono HBw6.out.size))
        have HA2 := Lib.hid (activate_any w7 _ tb (.slice ua n2 uc) J _ vals vals2 HT7.out (by have h := HU.out.keep HBw7.out; rw [HN2.out] at h ⊢; exact h) HJL.out HUN.out)
        go_upto_region 17 with (go_at_call 13; go_must (refine HA2.out.mono ?_; rintro e w8 ⟨rfl, ht, hg⟩; have HT8 := Lib.hid ht; have HG8 := Lib.hid hg; clear ht hg))
        obtain ⟨_, _, _, htw, -⟩ := HT7.out.ex
        have HO8 := Lib.hid (HO7.out.kept HG8.out (.inr (own_blk_far HO7.out htw (by decide))))
        clear htw
        have HBw8 := Lib.hid (HBw7.out.grown HG8.out HBw7.out.size (fun q hq => by cases hq; exact HTL.out))
        have HA3 := Lib.hid (activate_any w8 _ tb _ J _ vals2 vals HT8.out (HV.out.keep HBw8.out) HJL.out HVN.out)
        go_upto_region 18 with (go_at_call 13; go_must (refine HA3.out.mono ?_; rintro e w9 ⟨rfl, ht, hg⟩; have HT9 := Lib.hid ht; have HG9 := Lib.hid hg; clear ht hg))
        obtain ⟨_, _, _, htw, -⟩ := HT8.out.ex
        have HO9 := Lib.hid (HO8.out.kept HG9.out (.inr (own_blk_far HO8.out htw (by decide))))
        clear htw
        have HBw9 := Lib.hid (HBw8.out.grown HG9.out HBw8.out.size (fun q hq => by cases hq; exact HTL.out))
        rw [← HSE.out] at HT9
        have HV2 := Lib.hid (tvisible_any w9 _ tb J S vals HT9.out HSL.out)
        go_wp2_with (first
          | (have hZ := HV2; clear hZ; (go_at_call 17; go_must (refine HV2.out.mono ?_; rintro e w10 ⟨v10, rfl, ho, hb⟩; obtain ⟨xa10, xc10, rfl⟩ := own_shape ho; have HB10 := Lib.hid hb; have HSM2 := Lib.hid (same_any w10 _ _ S S (SliceAt.of_own ho (ecells_one _)) ((SliceAt.of_own HO9.out (ecells_one _)).keep hb)); clear ho hb HV2)))
          | (have hZ := HSM2; clear hZ; (go_at_call 15; go_must (refine HSM2.out.mono ?_; rintro e w11 ⟨rfl, hb⟩; have HB11 := Lib.hid (HB10.out.trans (hb.mono HB10.out.size)); clear hb HSM2 HB10)))
          | (have hZ := HB11; clear hZ; (go_at_call 9; go_must (refine (alive_any w11).mono ?_; rintro e w12 ⟨rfl, hb⟩; have HB12 := Lib.hid (HB11.out.trans (hb.mono HB11.out.size)); clear hb HB11))))
        go_ret
        exact ⟨ret_val rfl, HBw9.out.trans (HB12.out.mono HBw9.out.size)⟩
      | succ k =>
        have hk : k < n := by omega
        have ei : ((k + 1 : Nat) : Int) - 1 = (k : Int) := by omega
        rw [ei]
        clear ei
        obtain ⟨x, hx⟩ : ∃ x, l[k]? = some x := ⟨_, List.getElem?_eq_getElem (by rw [← HN.out]; exact hk)⟩
        obtain ⟨b, off, hab, hcl⟩ := HC.out k hk
        subst hab
        have HEx := Lib.hid (show ∀ j u, x.cells[j]? = some u → wr.cell? ⟨b, off + k * 7 + j, none⟩ = some u from fun j u hu => cell_later HBr.out (hcl j u (by rw [flat_at entry_len hx j (by exact (List.getElem?_eq_some_iff.1 hu).1)]; exact hu)))
        have HNX := Lib.hid (show backL (l.drop k) = backL (l.drop (k + 1)) ++ [partA x, partB x] by
          obtain ⟨h1, rfl⟩ := List.getElem?_eq_some_iff.1 hx
          rw [List.drop_eq_getElem_cons h1, backL_cons])
        clear hcl hx
        go_upto_region 7 with fail
        refine ord7 wr b off k n lc x _ _ _ _ _ _ _ _ _ _ _ _ _ _ _ _ _ _ _ _ _ _ _ _ _ _ _ _ _ _ _ _ _ _ _ _ _ _ _ _ _ _ _ _ _ _ _ _ _ _ _ _ _ _ _ _ _ _ _ _ _ _ _ _ _ _ _ _ _ _ _ _ _ _ _ _ _ _ _ _ _ _ _ _ _ _ _ hk HEx ?_
        intro v30 v31 v32 v33 v34 v35 v36 v37 g1 g2 w3 hf
        have HG1 := Lib.hid hf.1
        have HG2 := Lib.hid hf.2.1
        have HNE := Lib.hid hf.2.2.1
        have HL1 := Lib.hid hf.2.2.2.1
        have HL2 := Lib.hid hf.2.2.2.2.1
        have HB3 := Lib.hid hf.2.2.2.2.2
        clear hf
        go_upto_region 8 with fail
        refine ord8 w3 wr.heap.size g1 g2 x _ _ _ _ _ _ _ _ _ _ _ _ _ _ _ _ _ _ _ _ _ _ _ _ _ _ _ _ _ _ _ _ _ _ _ _ _ _ _ _ _ _ _ _ _ _ _ _ _ _ _ _ _ _ _ _ _ _ _ _ _ _ _ _ _ _ _ _ _ _ _ _ _ _ _ _ _ _ _ _ _ _ _ _ _ _ _ HG1 HG2 HNE HL1 HL2 ?_
        intro v38 v39 v40 v41 v42 v43 v44 v45 w4 hf
        have HA4 := Lib.hid hf.1
        have HD4 := Lib.hid hf.2.1
        have HB4 := Lib.hid (HB3.out.trans hf.2.2)
        have HO4 := Lib.hid (own_keep HB4.out HOr.out (Nat.le_refl _))
        have HOLD := Lib.hid (show ∀ q, (Value.slice oa p oc).ownBlock = some q → q < wr.heap.size from fun q hq => (HOr.out.lt q hq).2)
        clear hf
        go_upto_region 10 with (first
          | (have hZ := HA4; clear hZ; refine wpList_store_blk rfl 35 _ _ rfl g1 6 (.int .u32 0) rfl rfl 37 _ HA4.out (by simp [Value.cells]) size35 rfl ?_; intro w5 S5 W5; have HS5 := Lib.hid S5; have HA5 := Lib.hid (show Whole w5 g1 37 #[.int .i64 x.src, .int .i64 x.tgt, .int .i64 x.cls, .int .i64 x.cond, .int .u32 (bits .and .u32 x.allow 1431655765), .int .u32 x.audit, .int .u32 0] from W5); have HD5 := Lib.hid (S5.whole HD4.out (fun e => HNE.out e.symm)); clear S5 W5 HA4 HD4)
          | (have hZ := HD5; clear hZ; refine wpList_store_blk rfl 35 _ _ rfl g2 5 (.int .u32 0) rfl rfl 37 _ HD5.out (by simp [Value.cells]) size35 rfl ?_; intro w6 S6 W6; have HS6 := Lib.hid S6; have HD6 := Lib.hid (show Whole w6 g2 37 #[.int .i64 x.src, .int .i64 x.tgt, .int .i64 x.cls, .int .i64 x.cond, .int .u32 (bits .andNot .u32 x.allow 1431655765), .int .u32 0, .int .u32 x.dont] from W6); have HA6 := Lib.hid (S6.whole HA5.out HNE.out); clear S6 W6 HA5 HD5))
        have HO6 := Lib.hid (HS6.out.own (HS5.out.own HO4.out (fun e => absurd (HOLD.out _ e) (Nat.not_lt.2 HL1.out))) (fun e => absurd (HOLD.out _ e) (Nat.not_lt.2 HL2.out)))
        have HB6 := Lib.hid ((HB4.out.trans (HS5.out.below HL1.out)).trans (HS6.out.below HL2.out))
        have HBw6 := Lib.hid (HBr.out.trans (HB6.out.mono HBr.out.size))
        have ka0 : w6.cell? ⟨g1, 0, none⟩ = some (.int .i64 x.src) := HA6.out.cell 0
        have ka1 : w6.cell? ⟨g1, 1, none⟩ = some (.int .i64 x.tgt) := HA6.out.cell 1
        have ka2 : w6.cell? ⟨g1, 2, none⟩ = some (.int .i64 x.cls) := HA6.out.cell 2
        have ka3 : w6.cell? ⟨g1, 3, none⟩ = some (.int .i64 x.cond) := HA6.out.cell 3
        have ka4 : w6.cell? ⟨g1, 4, none⟩ = some (.int .u32 (bits .and .u32 x.allow 1431655765)) := HA6.out.cell 4
        have ka5 : w6.cell? ⟨g1, 5, none⟩ = some (.int .u32 x.audit) := HA6.out.cell 5
        have ka6 : w6.cell? ⟨g1, 6, none⟩ = some (.int .u32 0) := HA6.out.cell 6
        have kb0 : w6.cell? ⟨g2, 0, none⟩ = some (.int .i64 x.src) := HD6.out.cell 0
        have kb1 : w6.cell? ⟨g2, 1, none⟩ = some (.int .i64 x.tgt) := HD6.out.cell 1
        have kb2 : w6.cell? ⟨g2, 2, none⟩ = some (.int .i64 x.cls) := HD6.out.cell 2
        have kb3 : w6.cell? ⟨g2, 3, none⟩ = some (.int .i64 x.cond) := HD6.out.cell 3
        have kb4 : w6.cell? ⟨g2, 4, none⟩ = some (.int .u32 (bits .andNot .u32 x.allow 1431655765)) := HD6.out.cell 4
        have kb5 : w6.cell? ⟨g2, 5, none⟩ = some (.int .u32 0) := HD6.out.cell 5
        have kb6 : w6.cell? ⟨g2, 6, none⟩ = some (.int .u32 x.dont) := HD6.out.cell 6
        go_wp2_with (at_builtin; go_must (refine wpList_append_own _ rfl _ _ 22 rfl w.heap.size 37 i0 z0 7 48 Try.underlying22 hi0 hz0 hz1 hz2 hzs (by decide) _ _ _ rfl (own_alloc HO6.out _) ⟨w6.heap.size, 0, none⟩ 2 2 [.int .i64 x.src, .int .i64 x.tgt, .int .i64 x.cls, .int .i64 x.cond, .int .u32 (bits .and .u32 x.allow 1431655765), .int .u32 x.audit, .int .u32 0, .int .i64 x.src, .int .i64 x.tgt, .int .i64 x.cls, .int .i64 x.cond, .int .u32 (bits .andNot .u32 x.allow 1431655765), .int .u32 0, .int .u32 x.dont] rfl rfl (row_new _ _ _) ?c2 ?c3 ?c4 ?c5 ?_))
        case c2 => simp [Value.oneCell']
        case c3 => have := HPL.out; unfold maxLen; omega
        case c4 => have := HPL.out; omega
        case c5 => have := HBw6.out.size; simp; omega
        intro u9 w9 ho9 hg9 hn9
        have HB9 := Lib.hid ((HBw6.out.alloc HBw6.out.size _).grown hg9 (by have := HBw6.out.size; simp; omega) (fun q hq => (HO6.out.lt q hq).1))
        have HO9 := Lib.hid ho9
        clear hg9 hn9 ho9
        clear ka0 kb0 ka1 kb1 ka2 kb2 ka3 kb3 ka4 kb4 ka5 kb5 ka6 kb6
        go_wp2_with fail
        go_roundw
        case rel => exact ⟨k, by omega, by go_num, by rw [HNX.out, List.length_append, List.flatMap_append, ← HPP.out]; exact HO9.out, HB9.out⟩
        case measure => simp [intOf]
end Go.Proofs.Ytlkkdpoliafjbaa

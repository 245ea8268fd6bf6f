import Derived.WalkKit
import Derived.WalkSpells
import Derived.WalkLawsBesides
import Derived.Handy
import Derived.BigQuiet
import Derived.Outline
import Derived.Deep.RegionHeld3
import Derived.Deep.DeepCutAuto
import Derived.Deep.DeepMust
import Derived.Deep.DeepFit
import Derived.Deep.LoopGhost
import Derived.Lib.Hide
import Derived.IntWalk
import Derived.Deep.CutBlock
import Derived.Deep.RegionWith
import Derived.Test.YtjpfnndfhbglgaaX
import Derived.Test.YtjpfnndfhbglgaaR
import Derived.Test.YtjpfnndfhbglgaaB
/-
  THE CONTRACT OF awake: it returns true, and leaves what was there.
-/
namespace Go.Proofs.Ytjpfnndfhbglgaa
open Go.RowKit

theorem SliceAt.of_whole {w : World} {g : Nat} {t : TypeId} {cs : Array Value} {k n : Nat} (h : Whole w g t cs) (hl : cs.toList.length = n * k) (h1 : cs.toList.all (·.oneCell') = true) (hn : n ≤ maxLen) :
    SliceAt w (.slice (some ⟨g, 0, none⟩) n n) k n cs.toList :=
  ⟨hl, hn, fun u hu => List.all_eq_true.1 h1 u hu, .inr ⟨_, n, rfl, Nat.le_refl _, fun j u hu => by rw [Addr.add_lit, Nat.zero_add, h.cell]; simpa using hu⟩⟩

theorem RowsAt.nil (w : World) (k b : Nat) : RowsAt w (.slice none 0 0) k b := ⟨0, [], SliceAt.nil w k, by simp⟩

def awT : List Ty := [⟨⟨#[97]⟩, none, 0, 0, true⟩, ⟨⟨#[98]⟩, none, 0, 0, false⟩, ⟨⟨#[99]⟩, none, 0, 0, false⟩]
def awP (g : Nat) : Pol := ⟨.slice none 0 0, .slice (some ⟨g, 0, none⟩) 3 3, .slice none 0 0, .slice none 0 0, .slice none 0 0, .slice none 0 0, .slice none 0 0, .slice none 0 0, .slice none 0 0, .slice none 0 0, .slice none 0 0, .slice none 0 0, .slice none 0 0, .slice none 0 0, .slice none 0 0, .slice none 0 0, .slice none 0 0⟩

theorem awP_at {w : World} {g : Nat} {t : TypeId} (h : Whole w g t (tyCells awT).toArray) : (awP g).At w awT := by
  have hn : ∀ k, SliceAt w (.slice none 0 0) k 0 [] := SliceAt.nil w
  refine ⟨⟨[], hn 2, by simp, by simp⟩, ⟨?_, by simp [awT], ?_⟩, RowsAt.nil .., RowsAt.nil .., RowsAt.nil .., RowsAt.nil .., RowsAt.nil .., RowsAt.nil .., ⟨[], hn 10, by simp, by simp⟩, RowsAt.nil .., RowsAt.nil .., RowsAt.nil .., RowsAt.nil .., ⟨[], hn 13, by simp, by simp⟩, RowsAt.nil .., RowsAt.nil .., RowsAt.nil ..⟩
  · have := SliceAt.of_whole (k := 3) (n := 3) h (by rfl) (by rfl) (by simp [maxLen])
    exact this
  · intro t ht
    simp only [awT, List.mem_cons, List.not_mem_nil, or_false] at ht
    rcases ht with rfl | rfl | rfl <;> exact RowsAt.nil ..


def dv : List Value := [.int .u32 3, .int .u32 1, .int .u32 4, .bool false, .int .i64 0]
def v1 : Verd := ⟨false, 4, 1, 4, false⟩
def v2 : Verd := ⟨true, 4, 1, 4, true⟩
def v3 : Verd := ⟨true, 0, 1, 0, false⟩

theorem judge1 (w : World) : Calls Try.prog 8 #[.agg #[.int .u32 3, .int .u32 1, .int .u32 4, .bool false, .int .i64 0], .int .u32 7, .bool true] w fun e w' => e = .returned (.agg #[.bool false, .int .u32 4, .int .u32 1, .int .u32 4, .bool false]) ∧ Below w.heap.size w w' := judge_any 3 1 4 0 7 false true w
theorem judge2 (w : World) : Calls Try.prog 8 #[.agg #[.int .u32 3, .int .u32 1, .int .u32 4, .bool false, .int .i64 0], .int .u32 7, .bool false] w fun e w' => e = .returned (.agg #[.bool true, .int .u32 4, .int .u32 1, .int .u32 4, .bool true]) ∧ Below w.heap.size w w' := judge_any 3 1 4 0 7 false false w
theorem judge3 (w : World) : Calls Try.prog 8 #[.agg #[.int .u32 3, .int .u32 1, .int .u32 4, .bool false, .int .i64 0], .int .u32 3, .bool true] w fun e w' => e = .returned (.agg #[.bool true, .int .u32 0, .int .u32 1, .int .u32 0, .bool false]) ∧ Below w.heap.size w w' := judge_any 3 1 4 0 3 false true w
theorem audited1 (w : World) : Calls Try.prog 10 #[.agg #[.bool false, .int .u32 4, .int .u32 1, .int .u32 4, .bool false]] w fun e w' => e = .returned (.int .u32 5) ∧ Below w.heap.size w w' := audited_any v1 w
theorem worst1 (w : World) : Calls Try.prog 19 #[.agg #[.bool false, .int .u32 4, .int .u32 1, .int .u32 4, .bool false], .agg #[.bool true, .int .u32 4, .int .u32 1, .int .u32 4, .bool true]] w fun e w' => e = .returned (.agg #[.bool false, .int .u32 4, .int .u32 1, .int .u32 4, .bool false]) ∧ Below w.heap.size w w' :=
  worst_any v1 v2 ⟨⟨by decide, by decide⟩, ⟨by decide, by decide⟩, ⟨by decide, by decide⟩⟩ w

theorem own_len {w : World} {base : Nat} {e : TypeId} {k n m c : Nat} {a : Option Addr} {xs : List Value} (h : w.ownsRow base e k (.slice a m c) n xs) : m = n := by
  rcases h.2 with ⟨h1, rfl⟩ | ⟨g, cap, cur, h1, _⟩
  · simp at h1; exact h1.2.1
  · simp at h1; exact h1.2.1

theorem aw_perm {ls : List Ty} (h : WithRel [2, 7, 2] awT ls) : permOf ls = [2] := by
  obtain ⟨hl, h⟩ := h
  match ls, hl with
  | [a, b, c], _ =>
    have ha := (h 0 _ a rfl rfl).2.2
    have hb := (h 1 _ b rfl rfl).2.2
    have hc := (h 2 _ c rfl rfl).2.2
    simp [hasB] at ha hb hc
    simp [permOf, ha, hb, hc]

theorem cells5 {B g : Nat} {w w' : World} (hb : Below B w w') (hg : g < B) {c0 c1 c2 c3 c4 : Value} (q0 : w.cell? ⟨g, 0, none⟩ = some c0) (q1 : w.cell? ⟨g, 1, none⟩ = some c1) (q2 : w.cell? ⟨g, 2, none⟩ = some c2) (q3 : w.cell? ⟨g, 3, none⟩ = some c3) (q4 : w.cell? ⟨g, 4, none⟩ = some c4) :
    w'.cell? ⟨g, 0, none⟩ = some c0 ∧ w'.cell? ⟨g, 1, none⟩ = some c1 ∧ w'.cell? ⟨g, 2, none⟩ = some c2 ∧ w'.cell? ⟨g, 3, none⟩ = some c3 ∧ w'.cell? ⟨g, 4, none⟩ = some c4 :=
  ⟨(hb.cell hg).trans q0, (hb.cell hg).trans q1, (hb.cell hg).trans q2, (hb.cell hg).trans q3, (hb.cell hg).trans q4⟩


theorem size26 : (Try.prog.info? 26).map (·.size) = some 5 := by kernel_rfl
theorem wpList_load_row_g {P : Program} {ops : Array Oper} {rest : List Oper} {o : Oper} {a : Act} {w : World} {Q : Exit → Act → World → Prop} (hgd : Region.wanted o (yielded ops a.tmps) = true) (ty : TypeId) (x : Operand) (ho : o.op = .load ty x)
    (g : Nat) (hx : a.eval x = .pointer (some ⟨g, 0, none⟩)) (t : TypeId) (cs : Array Value) (fr : Nat × Nat) (d : TypeDesc) (hg : w.heap[g]? = some (.cells cs t fr))
    (hu : P.underlying ty = some d) (hd : (match d with | .struct _ | .array _ _ => true | _ => false) = true) (hi : (P.info? ty).map (·.size) = some cs.size)
    (h : wpList P ops Q rest (a.put o.dst (.agg cs)) w) : wpList P ops Q (o :: rest) a w :=
  wpList_step fun _ hK => by rw [if_pos hgd]; exact wp_load_row ty x ho g hx t cs fr d hg hu hd hi (hK _ _ h)
theorem ints_one (l : List Int) : ∀ u ∈ intCells l, u.oneCell' = true := fun u hu => by
  obtain ⟨x, _, rfl⟩ := List.mem_map.1 hu
  rfl
def VarAt (B : Nat) (t : TypeId) (cs : Array Value) (u : Value) (w : World) : Prop := ∃ g, u = .pointer (some ⟨g, 0, none⟩) ∧ B ≤ g ∧ Whole w g t cs
theorem VarAt.keep {w w' : World} {B : Nat} {t : TypeId} {cs : Array Value} {u : Value} (hb : Below w.heap.size w w') (h : VarAt B t cs u w) : VarAt B t cs u w' :=
  let ⟨g, h1, h2, h3⟩ := h
  ⟨g, h1, h2, h3.below hb h3.lt⟩
theorem VarAt.sto {w w' : World} {g B : Nat} {t : TypeId} {cs : Array Value} {u : Value} (S : Sto w w' g) (hn : u ≠ .pointer (some ⟨g, 0, none⟩)) (h : VarAt B t cs u w) : VarAt B t cs u w' :=
  let ⟨g', h1, h2, h3⟩ := h
  ⟨g', h1, h2, S.whole h3 fun e => hn (by rw [h1, e])⟩
theorem VarAt.ne {w : World} {B : Nat} {t : TypeId} {cs : Array Value} {u : Value} (h : VarAt B t cs u w) : u ≠ .pointer (some ⟨w.heap.size, 0, none⟩) :=
  let ⟨g, h1, _, h3⟩ := h
  fun e => by
    rw [h1] at e
    simp only [Value.pointer.injEq, Option.some.injEq, Addr.mk.injEq, and_true] at e
    have := h3.lt
    omega
theorem VarAt.new (w : World) (t : TypeId) (cs : Array Value) {B : Nat} (hB : B ≤ w.heap.size) : VarAt B t cs (.pointer (some ⟨w.heap.size, 0, none⟩)) (w.alloc (.cells cs t)) := ⟨_, rfl, hB, Whole.new w t cs⟩

def dV : Value := .agg #[.int .u32 3, .int .u32 1, .int .u32 4, .bool false, .int .i64 0]
def z5 : Array Value := #[.bool false, .int .u32 0, .int .u32 0, .int .u32 0, .bool false]
def v1c : Array Value := #[.bool false, .int .u32 4, .int .u32 1, .int .u32 4, .bool false]
def v2c : Array Value := #[.bool true, .int .u32 4, .int .u32 1, .int .u32 4, .bool true]
def AwR (wc : World) (L : Nat → Bool) (u3 u4 u13 u14 u15 u16 : Value) (wx : World) : Prop :=
  Below wc.heap.size wc wx ∧ (L 0 = true → u13 = dV) ∧ (L 1 = true → u14 = .agg v1c) ∧ (L 2 = true → u15 = dV) ∧ (L 3 = true → u16 = .agg v2c) ∧
  (L 4 = true → VarAt wc.heap.size 26 (if L 6 then v1c else z5) u3 wx) ∧ (L 5 = true → VarAt wc.heap.size 26 (if L 7 then v2c else z5) u4 wx) ∧ (L 4 = true → L 5 = true → u3 ≠ u4) ∧
  (L 6 = true → L 4 = true) ∧ (L 7 = true → L 5 = true)

set_option maxRecDepth 100000 in
set_option maxHeartbeats 4000000 in
theorem awake_any (w : World) : Calls Try.prog 12 #[] w fun e w' => e = .returned (.bool true) ∧ Below w.heap.size w w' := by
  have HW := Lib.hid (heap_three w (.cells #[.int .u32 3, .int .u32 1, .int .u32 4, .bool false, .int .i64 0] 24) (.cells (tyCells awT).toArray 62) (.cells #[.int .i64 2, .int .i64 7, .int .i64 2] 3))
  go_enter Try.func12, Try.ntmps12
  go_upto_region 2 with fail
  go_cut [2] (fun s2 wc => ∃ (g : Nat) (ls : List Ty) (a0 : Option Addr) (n0 : Nat) (c0 : Nat) (a1 : Option Addr) (c1 : Nat) (a2 : Option Addr) (n2 : Nat) (c2 : Nat) (a3 : Option Addr) (n3 : Nat) (c3 : Nat) (a4 : Option Addr) (n4 : Nat) (c4 : Nat) (a5 : Option Addr) (n5 : Nat) (c5 : Nat) (a6 : Option Addr) (n6 : Nat) (c6 : Nat) (a7 : Option Addr) (n7 : Nat) (c7 : Nat) (a8 : Option Addr) (n8 : Nat) (c8 : Nat) (a9 : Option Addr) (n9 : Nat) (c9 : Nat) (a10 : Option Addr) (n10 : Nat) (c10 : Nat) (a11 : Option Addr) (n11 : Nat) (c11 : Nat) (a12 : Option Addr) (n12 : Nat) (c12 : Nat) (a13 : Option Addr) (n13 : Nat) (c13 : Nat) (a14 : Option Addr) (n14 : Nat) (c14 : Nat) (a15 : Option Addr) (n15 : Nat) (c15 : Nat) (a16 : Option Addr) (n16 : Nat) (c16 : Nat), s2 = .pointer (some ⟨g, 0, none⟩) ∧ Whole wc g 48 #[.slice a0 n0 c0, .slice a1 3 c1, .slice a2 n2 c2, .slice a3 n3 c3, .slice a4 n4 c4, .slice a5 n5 c5, .slice a6 n6 c6, .slice a7 n7 c7, .slice a8 n8 c8, .slice a9 n9 c9, .slice a10 n10 c10, .slice a11 n11 c11, .slice a12 n12 c12, .slice a13 n13 c13, .slice a14 n14 c14, .slice a15 n15 c15, .slice a16 n16 c16] ∧ Whole wc w.heap.size 24 #[.int .u32 3, .int .u32 1, .int .u32 4, .bool false, .int .i64 0] ∧
    WithRel [2, 7, 2] awT ls ∧ wc.ownsRow (w.heap.size + 3) 62 3 (.slice a1 3 c1) 3 (tyCells ls) ∧ Below w.heap.size w wc)
  case first =>
    go_wp2_with (go_at_call 13; go_must (refine (with_any (awP (w.heap.size + 1)) awT (.slice (some ⟨w.heap.size + 2, 0, none⟩) 3 3) [2, 7, 2] _ (awP_at HW.out.2.1) (SliceAt.of_whole (k := 1) (n := 3) HW.out.2.2 rfl rfl (by simp [maxLen]))).mono ?_; rintro e w1 ⟨p', ls, rfl, ⟨s0, s1, s2, s3, s4, s5, s6, s7, s8, s9, s10, s11, s12, s13, s14, s15, s16⟩, -, -, -, hr, ho, hb1⟩; obtain ⟨x0, x1, x2, x3, x4, x5, x6, x7, x8, x9, x10, x11, x12, x13, x14, x15, x16⟩ := p'; obtain ⟨a0, n0, c0, rfl⟩ := sl_agg s0; obtain ⟨a1, n1, c1, rfl⟩ := sl_agg s1; obtain ⟨a2, n2, c2, rfl⟩ := sl_agg s2; obtain ⟨a3, n3, c3, rfl⟩ := sl_agg s3; obtain ⟨a4, n4, c4, rfl⟩ := sl_agg s4; obtain ⟨a5, n5, c5, rfl⟩ := sl_agg s5; obtain ⟨a6, n6, c6, rfl⟩ := sl_agg s6; obtain ⟨a7, n7, c7, rfl⟩ := sl_agg s7; obtain ⟨a8, n8, c8, rfl⟩ := sl_agg s8; obtain ⟨a9, n9, c9, rfl⟩ := sl_agg s9; obtain ⟨a10, n10, c10, rfl⟩ := sl_agg s10; obtain ⟨a11, n11, c11, rfl⟩ := sl_agg s11; obtain ⟨a12, n12, c12, rfl⟩ := sl_agg s12; obtain ⟨a13, n13, c13, rfl⟩ := sl_agg s13; obtain ⟨a14, n14, c14, rfl⟩ := sl_agg s14; obtain ⟨a15, n15, c15, rfl⟩ := sl_agg s15; obtain ⟨a16, n16, c16, rfl⟩ := sl_agg s16; unfold Pol.val; obtain rfl : n1 = 3 := own_len ho))
    go_meet
    refine ⟨w1.heap.size, ls, a0, n0, c0, a1, c1, a2, n2, c2, a3, n3, c3, a4, n4, c4, a5, n5, c5, a6, n6, c6, a7, n7, c7, a8, n8, c8, a9, n9, c9, a10, n10, c10, a11, n11, c11, a12, n12, c12, a13, n13, c13, a14, n14, c14, a15, n15, c15, a16, n16, c16, rfl, Whole.new _ _ _, ((Whole.under hb1 HW.out.1 (Whole.lt HW.out.1))).alloc _, hr, (own_low ho ?_).alloc _, ?_⟩
    · simp only [World.size_alloc]; omega
    · exact (Below.trans (b := _) (by go_grown) (hb1.mono (by simp only [World.size_alloc]; omega))).alloc (Nat.le_of_lt (Nat.lt_of_lt_of_le (by simp only [World.size_alloc]; omega) hb1.size)) _
  case rest =>
  obtain ⟨g, ls, a0, n0, c0, a1, c1, a2, n2, c2, a3, n3, c3, a4, n4, c4, a5, n5, c5, a6, n6, c6, a7, n7, c7, a8, n8, c8, a9, n9, c9, a10, n10, c10, a11, n11, c11, a12, n12, c12, a13, n13, c13, a14, n14, c14, a15, n15, c15, a16, n16, c16, rfl, W2, W1, hr, ho, hb⟩ := hcut
  obtain ⟨wo, rfl⟩ : ∃ wo : World, wo = wc := ⟨_, rfl⟩
  have H1 := Lib.hid W1
  have H2 := Lib.hid W2
  have HR := Lib.hid hr
  have hD : wo.cell? ⟨w.heap.size, 0, none⟩ = some (.int .u32 3) ∧ wo.cell? ⟨w.heap.size, 1, none⟩ = some (.int .u32 1) ∧ wo.cell? ⟨w.heap.size, 2, none⟩ = some (.int .u32 4) ∧ wo.cell? ⟨w.heap.size, 3, none⟩ = some (.bool false) ∧ wo.cell? ⟨w.heap.size, 4, none⟩ = some (.int .i64 0) :=
    ⟨(W1.both 0 _ rfl).1, (W1.both 1 _ rfl).1, (W1.both 2 _ rfl).1, (W1.both 3 _ rfl).1, (W1.both 4 _ rfl).1⟩
  clear W1 W2 hr
  go_upto_region 3 with fail
  go_cut [3, 4] (fun s3 s4 wc => ∃ (g1 g2 : Nat), s3 = .pointer (some ⟨g1, 0, none⟩) ∧ s4 = .pointer (some ⟨g2, 0, none⟩) ∧ Whole wc g1 26 #[.bool false, .int .u32 4, .int .u32 1, .int .u32 4, .bool false] ∧ Whole wc g2 26 #[.bool true, .int .u32 4, .int .u32 1, .int .u32 4, .bool true] ∧ Below wo.heap.size wo wc)
  case first =>
    have hl1 := Whole.lt H1.out
    have HD := Lib.hid hD
    clear hD
    refine wp_region_slots [3, 4, 13, 14, 15, 16] (by kernel_rfl) (by kernel_rfl) (AwR wo) ?_ ⟨?_, ?_, ?_, ?_, ?_, ?_, ?_, ?_, trivial⟩ ?_
    · refine (?_ : AwR wo (fun _ => false) _ _ _ _ _ _ wo.drew)
      exact ⟨(Below.refl _ _).drew, (fun h => by cases h), (fun h => by cases h), (fun h => by cases h), (fun h => by cases h), (fun h => by cases h), (fun h => by cases h), (fun h => by cases h), (fun h => by cases h), (fun h => by cases h)⟩
    · rintro L a wx Q' ⟨u3, u4, u13, u14, u15, u16, rfl, hR⟩ hL hA hK
      have HR := Lib.hid hR
      clear hR
      simp only [List.setIfInBounds_toArray, List.set_cons_zero, List.set_cons_succ]
      obtain ⟨e0, e1, e2, e3, e4⟩ := cells5 HR.out.1 hl1 HD.out.1 HD.out.2.1 HD.out.2.2.1 HD.out.2.2.2.1 HD.out.2.2.2.2
      clear hA
      go_wp2_with fail
      obtain ⟨hb, f0, f1, f2, f3, f4, f5, f6, f7, f8⟩ := HR.out
      refine exC_mk _ _ _ _ (by simp only [setsC, List.setIfInBounds_toArray, List.set_cons_zero, List.set_cons_succ]; rfl) ?_
      exact ⟨hb, fun _ => rfl, f1, f2, f3, f4, f5, f6, f7, f8⟩
    · rintro L a wx Q' ⟨u3, u4, u13, u14, u15, u16, rfl, hR⟩ hL hA hK
      have HR := Lib.hid hR
      clear hR
      simp only [List.setIfInBounds_toArray, List.set_cons_zero, List.set_cons_succ]
      have l0 : L 0 = true := hA ⟨0, .data⟩ (by simp) rfl
      have hu := HR.out.2.1 l0
      subst hu
      unfold dV at HR ⊢
      clear hA
      go_wp2_with (go_at_call 8; go_must (refine (judge1 _).mono ?_; rintro e w1 ⟨rfl, hb1⟩))
      obtain ⟨hb, f0, f1, f2, f3, f4, f5, f6, f7, f8⟩ := HR.out
      refine exC_mk _ _ _ _ (by simp only [setsC, List.setIfInBounds_toArray, List.set_cons_zero, List.set_cons_succ]; rfl) ?_
      exact ⟨hb.trans (hb1.mono hb.size), fun _ => rfl, fun _ => rfl, f2, f3, fun h => (f4 h).keep hb1, fun h => (f5 h).keep hb1, f6, f7, f8⟩
    · rintro L a wx Q' ⟨u3, u4, u13, u14, u15, u16, rfl, hR⟩ hL hA hK
      have HR := Lib.hid hR
      clear hR
      simp only [List.setIfInBounds_toArray, List.set_cons_zero, List.set_cons_succ]
      obtain ⟨e0, e1, e2, e3, e4⟩ := cells5 HR.out.1 hl1 HD.out.1 HD.out.2.1 HD.out.2.2.1 HD.out.2.2.2.1 HD.out.2.2.2.2
      clear hA
      go_wp2_with fail
      obtain ⟨hb, f0, f1, f2, f3, f4, f5, f6, f7, f8⟩ := HR.out
      refine exC_mk _ _ _ _ (by simp only [setsC, List.setIfInBounds_toArray, List.set_cons_zero, List.set_cons_succ]; rfl) ?_
      exact ⟨hb, f0, f1, fun _ => rfl, f3, f4, f5, f6, f7, f8⟩
    · rintro L a wx Q' ⟨u3, u4, u13, u14, u15, u16, rfl, hR⟩ hL hA hK
      have HR := Lib.hid hR
      clear hR
      simp only [List.setIfInBounds_toArray, List.set_cons_zero, List.set_cons_succ]
      have l0 : L 2 = true := hA ⟨2, .data⟩ (by simp) rfl
      have hu := HR.out.2.2.2.1 l0
      subst hu
      unfold dV at HR ⊢
      clear hA
      go_wp2_with (go_at_call 8; go_must (refine (judge2 _).mono ?_; rintro e w1 ⟨rfl, hb1⟩))
      obtain ⟨hb, f0, f1, f2, f3, f4, f5, f6, f7, f8⟩ := HR.out
      refine exC_mk _ _ _ _ (by simp only [setsC, List.setIfInBounds_toArray, List.set_cons_zero, List.set_cons_succ]; rfl) ?_
      exact ⟨hb.trans (hb1.mono hb.size), f0, f1, fun _ => rfl, fun _ => rfl, fun h => (f4 h).keep hb1, fun h => (f5 h).keep hb1, f6, f7, f8⟩
    · rintro L a wx Q' ⟨u3, u4, u13, u14, u15, u16, rfl, hR⟩ hL hA hK
      have HR := Lib.hid hR
      clear hR
      simp only [List.setIfInBounds_toArray, List.set_cons_zero, List.set_cons_succ]
      clear hA
      have hL6 : L 6 = false := by
        cases hx : L 6 with
        | false => rfl
        | true => rw [HR.out.2.2.2.2.2.2.2.2.1 hx] at hL; cases hL
      have HL6 := Lib.hid hL6
      clear hL6 hL
      go_wp2_with fail
      obtain ⟨hb, f0, f1, f2, f3, f4, f5, f6, f7, f8⟩ := HR.out
      refine exC_mk _ _ _ _ (by simp only [setsC, List.setIfInBounds_toArray, List.set_cons_zero, List.set_cons_succ]; rfl) ?_
      exact ⟨hb.alloc hb.size _, f0, f1, f2, f3, fun _ => by rw [show upd L 4 6 = false from HL6.out]; exact VarAt.new wx 26 z5 hb.size, fun h => (f5 h).keep ((Below.refl _ _).alloc (Nat.le_refl _) _), fun _ h => Ne.symm (f5 h).ne, fun _ => rfl, f8⟩
    · rintro L a wx Q' ⟨u3, u4, u13, u14, u15, u16, rfl, hR⟩ hL hA hK
      have HR := Lib.hid hR
      clear hR
      simp only [List.setIfInBounds_toArray, List.set_cons_zero, List.set_cons_succ]
      clear hA
      have hL6 : L 7 = false := by
        cases hx : L 7 with
        | false => rfl
        | true => rw [HR.out.2.2.2.2.2.2.2.2.2 hx] at hL; cases hL
      have HL6 := Lib.hid hL6
      clear hL6 hL
      go_wp2_with fail
      obtain ⟨hb, f0, f1, f2, f3, f4, f5, f6, f7, f8⟩ := HR.out
      refine exC_mk _ _ _ _ (by simp only [setsC, List.setIfInBounds_toArray, List.set_cons_zero, List.set_cons_succ]; rfl) ?_
      exact ⟨hb.alloc hb.size _, f0, f1, f2, f3, fun h => (f4 h).keep ((Below.refl _ _).alloc (Nat.le_refl _) _), fun _ => by rw [show upd L 5 7 = false from HL6.out]; exact VarAt.new wx 26 z5 hb.size, fun h _ => (f4 h).ne, f7, fun _ => rfl⟩
    · rintro L a wx Q' ⟨u3, u4, u13, u14, u15, u16, rfl, hR⟩ hL hA hK
      have HR := Lib.hid hR
      clear hR
      simp only [List.setIfInBounds_toArray, List.set_cons_zero, List.set_cons_succ]
      have l0 : L 1 = true := hA ⟨1, .data⟩ (by simp) rfl
      have l1 : L 4 = true := hA ⟨4, .data⟩ (by simp) rfl
      have hu := HR.out.2.2.1 l0
      subst hu
      obtain ⟨g, hg, hgB, hgW⟩ := HR.out.2.2.2.2.2.1 l1
      rw [hL] at hgW
      subst hg
      clear hA
      unfold v1c at HR ⊢
      have HG := Lib.hid hgW
      have HL := Lib.hid (And.intro l0 l1)
      clear hgW l0 l1 hL
      go_wp2_with (refine wpList_store_blk rfl 26 _ _ rfl g 0 (.agg _) rfl rfl 26 _ HG.out (by simp [Value.cells, z5]) size26 rfl ?_)
      intro w2 S2 W2
      go_wp2_with fail
      obtain ⟨hb, f0, f1, f2, f3, f4, f5, f6, f7, f8⟩ := HR.out
      refine exC_mk _ _ _ _ (by simp only [setsC, List.setIfInBounds_toArray, List.set_cons_zero, List.set_cons_succ]; rfl) ?_
      exact ⟨hb.trans (S2.below hgB), f0, f1, f2, f3, fun _ => ⟨g, rfl, hgB, W2⟩, fun h => (f5 h).sto S2 (Ne.symm (f6 HL.out.2 h)), f6, fun _ => HL.out.2, f8⟩
    · rintro L a wx Q' ⟨u3, u4, u13, u14, u15, u16, rfl, hR⟩ hL hA hK
      have HR := Lib.hid hR
      clear hR
      simp only [List.setIfInBounds_toArray, List.set_cons_zero, List.set_cons_succ]
      have l0 : L 3 = true := hA ⟨3, .data⟩ (by simp) rfl
      have l1 : L 5 = true := hA ⟨5, .data⟩ (by simp) rfl
      have hu := HR.out.2.2.2.2.1 l0
      subst hu
      obtain ⟨g, hg, hgB, hgW⟩ := HR.out.2.2.2.2.2.2.1 l1
      rw [hL] at hgW
      subst hg
      clear hA
      unfold v2c at HR ⊢
      have HG := Lib.hid hgW
      have HL := Lib.hid (And.intro l0 l1)
      clear hgW l0 l1 hL
      go_wp2_with (refine wpList_store_blk rfl 26 _ _ rfl g 0 (.agg _) rfl rfl 26 _ HG.out (by simp [Value.cells, z5]) size26 rfl ?_)
      intro w2 S2 W2
      go_wp2_with fail
      obtain ⟨hb, f0, f1, f2, f3, f4, f5, f6, f7, f8⟩ := HR.out
      refine exC_mk _ _ _ _ (by simp only [setsC, List.setIfInBounds_toArray, List.set_cons_zero, List.set_cons_succ]; rfl) ?_
      exact ⟨hb.trans (S2.below hgB), f0, f1, f2, f3, fun h => (f4 h).sto S2 (f6 h HL.out.2), fun _ => ⟨g, rfl, hgB, W2⟩, f6, f7, fun _ => HL.out.2⟩
    · rintro L a wx ⟨u3, u4, u13, u14, u15, u16, rfl, hR⟩ hL
      have l : ∀ i, i < 8 → L i = true := hL
      obtain ⟨hb, f0, f1, f2, f3, f4, f5, f6, f7, f8⟩ := hR
      obtain ⟨g1, rfl, hg1, W1⟩ := f4 (l 4 (by omega))
      obtain ⟨g2, rfl, hg2, W2⟩ := f5 (l 5 (by omega))
      rw [l 6 (by omega)] at W1
      rw [l 7 (by omega)] at W2
      clear f0 f1 f2 f3 f4 f5 f6 f7 f8 l hL
      simp only [List.setIfInBounds_toArray, List.set_cons_zero, List.set_cons_succ]
      have K1 := Lib.hid W1
      have K2 := Lib.hid W2
      clear W1 W2
      go_wp2_with fail
      go_meet
      exact ⟨g1, g2, rfl, rfl, K1.out, K2.out, hb⟩
  case rest =>
  obtain ⟨g1, g2, rfl, rfl, W1, W2, hbd⟩ := hcut
  have hl1 := Whole.lt H1.out
  have hl2 := Whole.lt H2.out
  have hls : ls.length = 3 := HR.out.1
  have hpm := aw_perm HR.out
  have hsl : SliceAt wo (.slice a1 3 c1) 3 ls.length (tyCells ls) := by rw [hls]; exact SliceAt.of_own ho (by intro u hu; obtain ⟨t, _, ht⟩ := List.mem_flatMap.1 hu; simp [Ty.cells, Ty.al] at ht; rcases ht with rfl | rfl | rfl <;> rfl)
  have HPC := Lib.hid (fun W h => permissive_any ⟨.slice a0 n0 c0, .slice a1 3 c1, .slice a2 n2 c2, .slice a3 n3 c3, .slice a4 n4 c4, .slice a5 n5 c5, .slice a6 n6 c6, .slice a7 n7 c7, .slice a8 n8 c8, .slice a9 n9 c9, .slice a10 n10 c10, .slice a11 n11 c11, .slice a12 n12 c12, .slice a13 n13 c13, .slice a14 n14 c14, .slice a15 n15 c15, .slice a16 n16 c16⟩ ls W h (by rw [hls]; omega))
  unfold Pol.val at HPC
  have HSL := Lib.hid hsl
  have HPM := Lib.hid hpm
  have HLS := Lib.hid hls
  clear hsl hpm hls ho
  have HB := Lib.hid hbd
  have K1 := Lib.hid W1
  have K2 := Lib.hid W2
  have HP := Lib.hid (Whole.under hbd H2.out hl2)
  obtain ⟨e0, e1, e2, e3, e4⟩ := cells5 hbd hl1 hD.1 hD.2.1 hD.2.2.1 hD.2.2.2.1 hD.2.2.2.2
  have m0 := (W1.both 0 _ rfl).1
  have m1 := (W1.both 1 _ rfl).1
  have m2 := (W1.both 2 _ rfl).1
  have m3 := (W1.both 3 _ rfl).1
  have m4 := (W1.both 4 _ rfl).1
  have q0 := (W2.both 0 _ rfl).1
  have q1 := (W2.both 1 _ rfl).1
  have q2 := (W2.both 2 _ rfl).1
  have q3 := (W2.both 3 _ rfl).1
  have q4 := (W2.both 4 _ rfl).1
  clear hD W1 W2 hbd hl1 hl2
  go_wp2_with fail
  clear e0 e1 e2 e3 e4 m0 m1 m2 m3 m4 q0 q1 q2 q3 q4
  refine (judge3 _).mono ?_
  rintro e w1 ⟨rfl, hb1⟩
  have J1 := Lib.hid (Whole.under hb1 K1.out (Whole.lt K1.out))
  have J2 := Lib.hid (Whole.under hb1 K2.out (Whole.lt K2.out))
  have JP := Lib.hid (Whole.under hb1 HP.out (Whole.lt HP.out))
  clear K1 K2 HP
  obtain ⟨K1, K2, HP⟩ : _ ∧ _ ∧ _ := ⟨J1, J2, JP⟩
  clear J1 J2 JP
  have m0 := (K1.out.both 0 _ rfl).1
  have m1 := (K1.out.both 1 _ rfl).1
  have m2 := (K1.out.both 2 _ rfl).1
  have m3 := (K1.out.both 3 _ rfl).1
  have m4 := (K1.out.both 4 _ rfl).1
  go_wp2_with fail
  clear m0 m1 m2 m3 m4
  refine (audited1 _).mono ?_
  rintro e w2 ⟨rfl, hb2⟩
  have J1 := Lib.hid (Whole.under hb2 K1.out (Whole.lt K1.out))
  have J2 := Lib.hid (Whole.under hb2 K2.out (Whole.lt K2.out))
  have JP := Lib.hid (Whole.under hb2 HP.out (Whole.lt HP.out))
  clear K1 K2 HP
  obtain ⟨K1, K2, HP⟩ : _ ∧ _ ∧ _ := ⟨J1, J2, JP⟩
  clear J1 J2 JP
  go_wp2_with (refine wpList_load_row_g rfl 48 _ rfl g rfl 48 _ (0, 0) _ HP.out Try.underlying48 rfl size48 ?_)
  refine (HPC.out _ (HSL.out.keep ((HB.out.trans (hb1.mono HB.out.size)).trans (hb2.mono (Nat.le_trans HB.out.size hb1.size))))).mono ?_
  rintro e w3 ⟨v, rfl, hv, hb3⟩
  have J1 := Lib.hid (Whole.under hb3 K1.out (Whole.lt K1.out))
  have J2 := Lib.hid (Whole.under hb3 K2.out (Whole.lt K2.out))
  have JP := Lib.hid (Whole.under hb3 HP.out (Whole.lt HP.out))
  clear K1 K2 HP
  obtain ⟨K1, K2, HP⟩ : _ ∧ _ ∧ _ := ⟨J1, J2, JP⟩
  clear J1 J2 JP
  have HV := Lib.hid hv
  clear hv
  go_wp2_with fail
  have hI := ints_any v (.slice (some ⟨w3.heap.size, 0, none⟩) 1 1) (permOf ls) [2] (w3.alloc (.cells #[.int .i64 2] 3)) (SliceAt.of_own (HV.out.alloc _) (ints_one _)) (SliceAt.of_whole (k := 1) (n := 1) (Whole.new w3 3 #[.int .i64 2]) rfl rfl (by simp [maxLen]))
  rw [HPM.out] at hI
  simp only [decide_true] at hI
  refine hI.mono ?_
  rintro e w4 ⟨rfl, hb4⟩
  clear hI
  have hb4' : Below w3.heap.size w3 w4 := below_of_alloc (by simpa using hb4)
  have J1 := Lib.hid (Whole.under hb4' K1.out (Whole.lt K1.out))
  have J2 := Lib.hid (Whole.under hb4' K2.out (Whole.lt K2.out))
  clear K1 K2
  obtain ⟨K1, K2⟩ : _ ∧ _ := ⟨J1, J2⟩
  clear J1 J2
  have m0 := (K1.out.both 0 _ rfl).1
  have m1 := (K1.out.both 1 _ rfl).1
  have m2 := (K1.out.both 2 _ rfl).1
  have m3 := (K1.out.both 3 _ rfl).1
  have m4 := (K1.out.both 4 _ rfl).1
  have q0 := (K2.out.both 0 _ rfl).1
  have q1 := (K2.out.both 1 _ rfl).1
  have q2 := (K2.out.both 2 _ rfl).1
  have q3 := (K2.out.both 3 _ rfl).1
  have q4 := (K2.out.both 4 _ rfl).1
  go_wp2_with fail
  clear m0 m1 m2 m3 m4 q0 q1 q2 q3 q4
  refine (worst1 _).mono ?_
  rintro e w5 ⟨rfl, hb5⟩
  have g1' := HB.out.trans (hb1.mono HB.out.size)
  have g2' := g1'.trans (hb2.mono g1'.size)
  have g3' := g2'.trans (hb3.mono g2'.size)
  have g4' := g3'.trans (hb4'.mono g3'.size)
  have G := Lib.hid (hb.trans ((g4'.trans (hb5.mono g4'.size)).mono hb.size))
  clear g1' g2' g3' g4' hb1 hb2 hb3 hb4 hb4' hb5
  go_wp2_with fail
  go_ret
  exact ⟨rfl, G.out⟩
end Go.Proofs.Ytjpfnndfhbglgaa

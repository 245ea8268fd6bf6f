import Derived.Test.YtlkkdpoliafjbaaPD
/-
  AvtabNil.
-/
namespace Go.Proofs.Ytlkkdpoliafjbaa
open Go Go.WideMaps Go.RowKit

theorem dead_activate (w : World) (tv : Value) (vv : Value) (HM : Hid (∀ W, RowKit.Below w.heap.size w W → Calls Try.prog 34 #[tv] W fun e w' => e = .returned (.bool false) ∧ W = w')) : Calls Try.prog 13 #[tv, vv] w fun e w' => e = .returned (.tuple #[]) ∧ w = w' := by
  go_enter Try.func13, Try.ntmps13
  go_wp2_with (go_at_call 34; go_must (refine (HM.out _ (Below.refl _ _)).mono ?_; rintro e w1 ⟨rfl, rfl⟩))
  go_returns
  exact ⟨rfl, rfl⟩
theorem dead_find (w : World) (tv : Value) (s t c : Int) (HM : Hid (∀ W, RowKit.Below w.heap.size w W → Calls Try.prog 34 #[tv] W fun e w' => e = .returned (.bool false) ∧ W = w')) : Calls Try.prog 19 #[tv, .int .i64 s, .int .i64 t, .int .i64 c] w fun e w' => e = .returned (.tuple #[.int .u32 0, .int .u32 0, .int .u32 0]) ∧ w = w' := by
  go_enter Try.func19, Try.ntmps19
  go_wp2_with (go_at_call 34; go_must (refine (HM.out _ (Below.refl _ _)).mono ?_; rintro e w1 ⟨rfl, rfl⟩))
  go_ret3
  exact ⟨rfl, rfl⟩
theorem dead_entries (w : World) (tv : Value)  (HM : Hid (∀ W, RowKit.Below w.heap.size w W → Calls Try.prog 34 #[tv] W fun e w' => e = .returned (.bool false) ∧ W = w')) : Calls Try.prog 16 #[tv] w fun e w' => e = .returned (.slice none 0 0) ∧ w = w' := by
  go_enter Try.func16, Try.ntmps16
  go_wp2_with (go_at_call 34; go_must (refine (HM.out _ (Below.refl _ _)).mono ?_; rintro e w1 ⟨rfl, rfl⟩))
  go_ret
  exact ⟨ret_val rfl, rfl⟩
theorem dead_visible (w : World) (tv : Value)  (HM : Hid (∀ W, RowKit.Below w.heap.size w W → Calls Try.prog 34 #[tv] W fun e w' => e = .returned (.bool false) ∧ W = w')) : Calls Try.prog 17 #[tv] w fun e w' => e = .returned (.slice none 0 0) ∧ w = w' := by
  go_enter Try.func17, Try.ntmps17
  go_wp2_with (go_at_call 34; go_must (refine (HM.out _ (Below.refl _ _)).mono ?_; rintro e w1 ⟨rfl, rfl⟩))
  go_ret
  exact ⟨ret_val rfl, rfl⟩
theorem dead_len (w : World) (tv : Value)  (HM : Hid (∀ W, RowKit.Below w.heap.size w W → Calls Try.prog 34 #[tv] W fun e w' => e = .returned (.bool false) ∧ W = w')) : Calls Try.prog 20 #[tv] w fun e w' => e = .returned (.int .i64 0) ∧ w = w' := by
  go_enter Try.func20, Try.ntmps20
  go_wp2_with (go_at_call 34; go_must (refine (HM.out _ (Below.refl _ _)).mono ?_; rintro e w1 ⟨rfl, rfl⟩))
  go_ret
  exact ⟨ret_val rfl, rfl⟩
theorem dead_copy (w : World) (tv : Value)  (HM : Hid (∀ W, RowKit.Below w.heap.size w W → Calls Try.prog 34 #[tv] W fun e w' => e = .returned (.bool false) ∧ W = w')) : Calls Try.prog 21 #[tv] w fun e w' => e = .returned (.pointer none) ∧ w = w' := by
  go_enter Try.func21, Try.ntmps21
  go_wp2_with (go_at_call 34; go_must (refine (HM.out _ (Below.refl _ _)).mono ?_; rintro e w1 ⟨rfl, rfl⟩))
  go_ret
  exact ⟨ret_val rfl, rfl⟩
theorem dead_chosen (w : World) (tv : Value) (pm : Int) (at' fn : Value) (HM : Hid (∀ W, RowKit.Below w.heap.size w W → Calls Try.prog 34 #[tv] W fun e w' => e = .returned (.bool false) ∧ W = w')) : Calls Try.prog 37 #[tv, .int .u32 pm, at', fn] w fun e w' => e = .returned (.slice none 0 0) ∧ w = w' := by
  go_enter Try.func37, Try.ntmps37
  go_wp2_with (go_at_call 34; go_must (refine (HM.out _ (Below.refl _ _)).mono ?_; rintro e w1 ⟨rfl, rfl⟩))
  go_ret
  exact ⟨ret_val rfl, rfl⟩
set_option maxRecDepth 100000 in
theorem dead_targets (w : World) (tv : Value) (s c pm : Int) (HM : Hid (∀ W, RowKit.Below w.heap.size w W → Calls Try.prog 34 #[tv] W fun e w' => e = .returned (.bool false) ∧ W = w')) : Calls Try.prog 22 #[tv, .int .i64 s, .int .i64 c, .int .u32 pm] w fun e w' => e = .returned (.slice none 0 0) ∧ RowKit.Below w.heap.size w w' := by
  obtain ⟨wo, hwo⟩ : ∃ wo, wo = ((w.alloc (.cells #[.int .i64 s] 3)).alloc (.cells #[.int .i64 c] 3)) := ⟨_, rfl⟩
  have HBO := Lib.hid (show RowKit.Below w.heap.size w wo by rw [hwo]; exact ((Below.refl _ w).alloc (Nat.le_refl _) _).alloc (by simp) _)
  have HC := Lib.hid (fun a fn => dead_chosen wo tv pm a fn (Lib.hid fun W hW => HM.out W (HBO.out.trans (hW.mono HBO.out.size))))
  go_enter Try.func22, Try.ntmps22
  go_upto_region 1 with fail
  rw [← hwo]
  clear hwo
  go_wp2_with (go_at_call 37; go_must (refine (HC.out _ _).mono ?_; rintro e w1 ⟨rfl, rfl⟩))
  go_ret
  exact ⟨ret_val rfl, HBO.out⟩
set_option maxRecDepth 100000 in
theorem dead_sources (w : World) (tv : Value) (s c pm : Int) (HM : Hid (∀ W, RowKit.Below w.heap.size w W → Calls Try.prog 34 #[tv] W fun e w' => e = .returned (.bool false) ∧ W = w')) : Calls Try.prog 23 #[tv, .int .i64 s, .int .i64 c, .int .u32 pm] w fun e w' => e = .returned (.slice none 0 0) ∧ RowKit.Below w.heap.size w w' := by
  obtain ⟨wo, hwo⟩ : ∃ wo, wo = ((w.alloc (.cells #[.int .i64 s] 3)).alloc (.cells #[.int .i64 c] 3)) := ⟨_, rfl⟩
  have HBO := Lib.hid (show RowKit.Below w.heap.size w wo by rw [hwo]; exact ((Below.refl _ w).alloc (Nat.le_refl _) _).alloc (by simp) _)
  have HC := Lib.hid (fun a fn => dead_chosen wo tv pm a fn (Lib.hid fun W hW => HM.out W (HBO.out.trans (hW.mono HBO.out.size))))
  go_enter Try.func23, Try.ntmps23
  go_upto_region 1 with fail
  rw [← hwo]
  clear hwo
  go_wp2_with (go_at_call 37; go_must (refine (HC.out _ _).mono ?_; rintro e w1 ⟨rfl, rfl⟩))
  go_ret
  exact ⟨ret_val rfl, HBO.out⟩
set_option maxRecDepth 100000 in
set_option maxHeartbeats 8000000 in
theorem nil_any (w : World) (y : Quest) (vv : Value) (vals : List Bool) (_ : SliceAt w vv 1 vals.length (vals.map aBool)) :
    Calls Try.prog 7 #[.agg y.cells.toArray, vv] w fun e w' => e = .returned (.bool true) ∧ RowKit.Below w.heap.size w w' := by
  show Calls Try.prog 7 #[.agg #[.int .i64 y.s, .int .i64 y.t, .int .i64 y.c, .int .u32 y.p], vv] w _
  obtain ⟨wo, hwo⟩ : ∃ wo, wo = (((w.alloc (.cells #[.int .i64 y.s, .int .i64 y.t, .int .i64 y.c, .int .u32 y.p] 48)).alloc (.cells #[.pointer none, .pointer none, .slice none 0 0] 51)).alloc (.cells #[.pointer none, .pointer (some ⟨(w.heap.size + 1), 0, none⟩)] 27)) := ⟨_, rfl⟩
  have HBO := Lib.hid (show RowKit.Below w.heap.size w wo by rw [hwo]; exact (((Below.refl _ w).alloc (Nat.le_refl _) _).alloc (by simp) _).alloc (by simp; omega) _)
  have HQ := Lib.hid (show Whole wo w.heap.size 48 #[.int .i64 y.s, .int .i64 y.t, .int .i64 y.c, .int .u32 y.p] by rw [hwo]; exact ((Whole.new w 48 _).alloc _).alloc _)
  have HZ := Lib.hid (show Whole wo (w.heap.size + 1) 51 #[.pointer none, .pointer none, .slice none 0 0] by rw [hwo]; exact (whole_two w _ _ _).alloc _)
  have HS := Lib.hid (show Whole wo (w.heap.size + 2) 27 #[.pointer none, .pointer (some ⟨(w.heap.size + 1), 0, none⟩)] by rw [hwo]; have h := Whole.new ((w.alloc (.cells #[.int .i64 y.s, .int .i64 y.t, .int .i64 y.c, .int .u32 y.p] 48)).alloc (.cells #[.pointer none, .pointer none, .slice none 0 0] 51)) 27 #[.pointer none, .pointer (some ⟨(w.heap.size + 1), 0, none⟩)]; simpa using h)
  go_enter Try.func7, Try.ntmps7
  go_upto_region 2 with fail
  simp only [Nat.add_assoc]
  try rw [← hwo]
  clear hwo
  go_loopw [14] (fun ix wr => ∃ m : Nat, m ≤ 2 ∧ ix = .int .i64 m ∧ RowKit.Below wo.heap.size wo wr) (fun ix _ => 2 - (intOf ix).toNat)
  case atStart => exact ⟨0, Nat.zero_le _, rfl, Below.refl _ _⟩
  case round =>
    obtain ⟨m, hm, rfl, hBr⟩ := hrel
    have HBr := Lib.hid hBr
    have HQr := Lib.hid (Whole.under hBr HQ.out HQ.out.lt)
    have HSr := Lib.hid (Whole.under hBr HS.out HS.out.lt)
    clear hBr
    match m, hm with
    | 0, _ =>
      have HMr := Lib.hid (show ∀ W, RowKit.Below wr.heap.size wr W → Calls Try.prog 34 #[.pointer none] W fun e w' => e = .returned (.bool false) ∧ W = w' from fun W hW => made_none W)
      have k0 : wr.cell? ⟨w.heap.size + 2, 0, none⟩ = some (.pointer none) := HSr.out.cell 0
      have q0 : wr.cell? ⟨w.heap.size, 0, none⟩ = some (.int .i64 y.s) := HQr.out.cell 0
      have q1 : wr.cell? ⟨w.heap.size, 1, none⟩ = some (.int .i64 y.t) := HQr.out.cell 1
      have q2 : wr.cell? ⟨w.heap.size, 2, none⟩ = some (.int .i64 y.c) := HQr.out.cell 2
      have q3 : wr.cell? ⟨w.heap.size, 3, none⟩ = some (.int .u32 y.p) := HQr.out.cell 3
      have q6 : (bits .or .u32 (bits .or .u32 0 0) 0 != 0) = false := by decide
      go_upto_region 5 with (go_at_call 13; go_must (refine (dead_activate wr _ vv HMr).mono ?_; rintro e w1 ⟨rfl, rfl⟩))
      go_upto_region 6 with (go_at_call 19; go_must (refine (dead_find wr _ y.s y.t y.c HMr).mono ?_; rintro e w1 ⟨rfl, rfl⟩))
      have HT := Lib.hid (dead_targets wr _ y.s y.c y.p HMr)
      have HE1 := Lib.hid (dead_entries wr _ HMr)
      have HE2 := Lib.hid (dead_visible wr _ HMr)
      go_wp2_with (first
        | (have hZ := HE1; clear hZ; go_at_call 16; go_must (refine HE1.out.mono ?_; rintro e w2 ⟨rfl, rfl⟩; clear HE1))
        | (have hZ := HE2; clear hZ; go_at_call 17; go_must (refine HE2.out.mono ?_; rintro e w2 ⟨rfl, rfl⟩; clear HE2))
        | (have hZ := HT; clear hZ; go_at_call 22; go_must (refine HT.out.mono ?_; rintro e w3 ⟨rfl, hb⟩; have HB3 := Lib.hid hb; have HQ3 := Lib.hid (Whole.under hb HQr.out HQr.out.lt); clear hb HT q0 q1 q2 q3; have q0 : w3.cell? ⟨w.heap.size, 0, none⟩ = some (.int .i64 y.s) := HQ3.out.cell 0; have q1 : w3.cell? ⟨w.heap.size, 1, none⟩ = some (.int .i64 y.t) := HQ3.out.cell 1; have q2 : w3.cell? ⟨w.heap.size, 2, none⟩ = some (.int .i64 y.c) := HQ3.out.cell 2; have q3 : w3.cell? ⟨w.heap.size, 3, none⟩ = some (.int .u32 y.p) := HQ3.out.cell 3; have HM3 := Lib.hid (fun W (hW : RowKit.Below w3.heap.size w3 W) => HMr.out W (HB3.out.trans (hW.mono HB3.out.size))); have HS3 := Lib.hid (dead_sources w3 _ y.t y.c y.p HM3)))
        | (have hZ := HS3; clear hZ; go_at_call 23; go_must (refine HS3.out.mono ?_; rintro e w4 ⟨rfl, hb⟩; have HB4 := Lib.hid (HB3.out.trans (hb.mono HB3.out.size)); have HM4 := Lib.hid (fun W (hW : RowKit.Below w4.heap.size w4 W) => HMr.out W (HB4.out.trans (hW.mono HB4.out.size))); clear hb HS3; have HLN := Lib.hid (dead_len w4 _ HM4)))
        | (have hZ := HLN; clear hZ; go_at_call 20; go_must (refine HLN.out.mono ?_; rintro e w5 ⟨rfl, rfl⟩; clear HLN; have HCP := Lib.hid (dead_copy w4 _ HM4)))
        | (have hZ := HCP; clear hZ; go_at_call 21; go_must (refine HCP.out.mono ?_; rintro e w5 ⟨rfl, rfl⟩; clear HCP)))
      go_roundw
      case rel =>
        (repeat apply Exists.intro)
        first
          | exact ⟨⟨1, by omega, rfl, HBr.out.trans (HB4.out.mono HBr.out.size)⟩, rfl⟩
          | exact ⟨by omega, rfl, HBr.out.trans (HB4.out.mono HBr.out.size)⟩
      case measure => simp [intOf]
    | 1, _ =>
      have HMr := Lib.hid (show ∀ W, RowKit.Below wr.heap.size wr W → Calls Try.prog 34 #[.pointer (some ⟨(w.heap.size + 1), 0, none⟩)] W fun e w' => e = .returned (.bool false) ∧ W = w' from fun W hW => made_zero W _ _ _ (Whole.under (HBr.out.trans (hW.mono HBr.out.size)) HZ.out HZ.out.lt))
      have k0 : wr.cell? ⟨w.heap.size + 2, 1, none⟩ = some (.pointer (some ⟨(w.heap.size + 1), 0, none⟩)) := HSr.out.cell 1
      have q0 : wr.cell? ⟨w.heap.size, 0, none⟩ = some (.int .i64 y.s) := HQr.out.cell 0
      have q1 : wr.cell? ⟨w.heap.size, 1, none⟩ = some (.int .i64 y.t) := HQr.out.cell 1
      have q2 : wr.cell? ⟨w.heap.size, 2, none⟩ = some (.int .i64 y.c) := HQr.out.cell 2
      have q3 : wr.cell? ⟨w.heap.size, 3, none⟩ = some (.int .u32 y.p) := HQr.out.cell 3
      have q6 : (bits .or .u32 (bits .or .u32 0 0) 0 != 0) = false := by decide
      go_upto_region 5 with (go_at_call 13; go_must (refine (dead_activate wr _ vv HMr).mono ?_; rintro e w1 ⟨rfl, rfl⟩))
      go_upto_region 6 with (go_at_call 19; go_must (refine (dead_find wr _ y.s y.t y.c HMr).mono ?_; rintro e w1 ⟨rfl, rfl⟩))
      have HT := Lib.hid (dead_targets wr _ y.s y.c y.p HMr)
      have HE1 := Lib.hid (dead_entries wr _ HMr)
      have HE2 := Lib.hid (dead_visible wr _ HMr)
      go_wp2_with (first
        | (have hZ := HE1; clear hZ; go_at_call 16; go_must (refine HE1.out.mono ?_; rintro e w2 ⟨rfl, rfl⟩; clear HE1))
        | (have hZ := HE2; clear hZ; go_at_call 17; go_must (refine HE2.out.mono ?_; rintro e w2 ⟨rfl, rfl⟩; clear HE2))
        | (have hZ := HT; clear hZ; go_at_call 22; go_must (refine HT.out.mono ?_; rintro e w3 ⟨rfl, hb⟩; have HB3 := Lib.hid hb; have HQ3 := Lib.hid (Whole.under hb HQr.out HQr.out.lt); clear hb HT q0 q1 q2 q3; have q0 : w3.cell? ⟨w.heap.size, 0, none⟩ = some (.int .i64 y.s) := HQ3.out.cell 0; have q1 : w3.cell? ⟨w.heap.size, 1, none⟩ = some (.int .i64 y.t) := HQ3.out.cell 1; have q2 : w3.cell? ⟨w.heap.size, 2, none⟩ = some (.int .i64 y.c) := HQ3.out.cell 2; have q3 : w3.cell? ⟨w.heap.size, 3, none⟩ = some (.int .u32 y.p) := HQ3.out.cell 3; have HM3 := Lib.hid (fun W (hW : RowKit.Below w3.heap.size w3 W) => HMr.out W (HB3.out.trans (hW.mono HB3.out.size))); have HS3 := Lib.hid (dead_sources w3 _ y.t y.c y.p HM3)))
        | (have hZ := HS3; clear hZ; go_at_call 23; go_must (refine HS3.out.mono ?_; rintro e w4 ⟨rfl, hb⟩; have HB4 := Lib.hid (HB3.out.trans (hb.mono HB3.out.size)); have HM4 := Lib.hid (fun W (hW : RowKit.Below w4.heap.size w4 W) => HMr.out W (HB4.out.trans (hW.mono HB4.out.size))); clear hb HS3; have HLN := Lib.hid (dead_len w4 _ HM4)))
        | (have hZ := HLN; clear hZ; go_at_call 20; go_must (refine HLN.out.mono ?_; rintro e w5 ⟨rfl, rfl⟩; clear HLN; have HCP := Lib.hid (dead_copy w4 _ HM4)))
        | (have hZ := HCP; clear hZ; go_at_call 21; go_must (refine HCP.out.mono ?_; rintro e w5 ⟨rfl, rfl⟩; clear HCP)))
      go_roundw
      case rel =>
        (repeat apply Exists.intro)
        first
          | exact ⟨⟨2, by omega, rfl, HBr.out.trans (HB4.out.mono HBr.out.size)⟩, rfl⟩
          | exact ⟨by omega, rfl, HBr.out.trans (HB4.out.mono HBr.out.size)⟩
      case measure => simp [intOf]
    | 2, _ =>
      go_wp2_with (go_at_call 9; go_must (refine (alive_any wr).mono ?_; rintro e w2 ⟨rfl, hb⟩; have HB2 := Lib.hid hb; clear hb))
      go_ret
      exact ⟨ret_val rfl, (HBO.out.trans (HBr.out.mono HBO.out.size)).trans (HB2.out.mono (Nat.le_trans HBO.out.size HBr.out.size))⟩
end Go.Proofs.Ytlkkdpoliafjbaa

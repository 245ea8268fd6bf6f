import Derived.WalkKit
import Derived.WalkSpells
import Derived.WalkLawsBesides
import Derived.Handy
import Derived.BigQuiet
import Derived.Outline
import Derived.Deep.RegionHeld3
import Derived.Deep.DeepCutAuto
import Derived.Deep.DeepMust
import Derived.Deep.DeepFit
import Derived.Deep.LoopGhost
import Derived.Lib.Hide
import Derived.IntWalk
import Derived.Deep.CutBlock
import Derived.Deep.RegionWith
import Derived.Test.YtibikehfeobikaaI
import Derived.Test.YtibikehfeobikaaK
/-
  THE LAWS OctetSums AND OctetOneEncoding: their walks (printed by a program).
-/
namespace Go.Proofs.Ytibikehfeobikaa
open Go.RowKit

theorem cOf5 : Try.prog.cellsOf 5 = 1 := by kernel_rfl
theorem bytes_list {w : World} : ∀ (es : List (List Value)), (∀ x ∈ es, ∃ f, Rd Try.prog w f 5 x) → ∃ l : List Nat, Bytes l ∧ es = l.map fun (n : Nat) => [Value.int .u8 (n : Int)]
  | [], _ => ⟨[], (fun x hx => by cases hx), rfl⟩
  | x :: es, h => by
    obtain ⟨l, hl, rfl⟩ := bytes_list es fun y hy => h y (by simp [hy])
    obtain ⟨f, hx⟩ := h x (by simp)
    obtain ⟨n, rfl, hw⟩ := hx.int Try.underlying5
    have hb := bounds_u8 hw
    refine ⟨n.toNat :: l, ?_, ?_⟩
    · intro y hy
      rcases List.mem_cons.1 hy with rfl | hy
      · omega
      · exact hl y hy
    · have : ((n.toNat : Nat) : Int) = n := Int.toNat_of_nonneg hb.1
      simp [this]
theorem flat_bytes (l : List Nat) : (l.map fun (n : Nat) => [Value.int .u8 (n : Int)]).flatten = byteCells l := by
  induction l with
  | nil => rfl
  | cons x l ih => simp [byteCells] at ih ⊢; exact ih
set_option maxRecDepth 100000 in
theorem bytes_open {w : World} {v : Value} (h : Arg Try.prog w 22 v) : ∃ l : List Nat, BytesAt w v l := by
  obtain ⟨f, cs, h, rfl⟩ := h
  rw [Try.underlying22]
  obtain ⟨f', v, rfl, rfl, es, hs, hx, hr⟩ := h.slice Try.underlying22
  rw [cOf5] at hs
  obtain ⟨l, hl, rfl⟩ := bytes_list es fun x hx1 => ⟨_, (hx x hx1).2⟩
  rw [List.length_map, flat_bytes] at hs
  exact ⟨l, hs, hl⟩

set_option maxHeartbeats 400000 in
theorem short_any (v : Value) (l : List Nat) (w : World) (h : BytesAt w v l) : Calls Try.prog 6 #[v] w fun e w' => e = .returned (.bool (decide (l.length ≤ 400))) ∧ Below w.heap.size w w' := by
  obtain ⟨a, c, rfl, hc, hm, ha⟩ := bytesOpen h
  clear ha h
  by_cases hs : l.length ≤ 400
  · have e : decide (l.length ≤ 400) = true := by simpa using hs
    rw [e]
    clear e
    go_enter Try.func6, Try.ntmps6
    go_wp2
    go_ret
    exact ⟨ret_bool (by simp; omega), Below.refl _ _⟩
  · have e : decide (l.length ≤ 400) = false := by simpa using hs
    rw [e]
    clear e
    go_enter Try.func6, Try.ntmps6
    go_wp2
    go_ret
    exact ⟨ret_bool (by simp; omega), Below.refl _ _⟩

theorem openF_seal (l : List Nat) : openF (l ++ sumBytes (sumF l)) = (l, 0) := by
  have h4 : (sumBytes (sumF l)).length = 4 := rfl
  unfold openF
  rw [List.length_append, h4, if_neg (by omega), show l.length + 4 - 4 = l.length by omega, List.drop_left, List.take_left, if_pos rfl]
theorem openF_len (l : List Nat) : (openF l).1.length ≤ l.length := by
  unfold openF
  split
  · simp
  · split
    · simp
    · simp
theorem rsum_bl (v : Value) (l : List Nat) (w : World) (h : BytesAt w v l) : Calls Try.prog 12 #[v] w fun e w' => e = .returned (.int .u32 (sumF l)) ∧ Below w.heap.size w w' :=
  (rsum_any v l w h).mono fun _ _ ⟨h1, h3⟩ => ⟨h1, h3 ▸ Below.refl _ _⟩
theorem rseal_bl (v : Value) (l : List Nat) (w : World) (h : BytesAt w v l) (hl : l.length ≤ 90000) :
    Calls Try.prog 14 #[v] w fun e w' => ∃ u, e = .returned u ∧ BytesAt w' u (l ++ sumBytes (sumF l)) ∧ Below w.heap.size w w' :=
  (rseal_any v l w h hl).mono fun _ _ ⟨u, h1, h2, h3⟩ => ⟨u, h1, h2.at, h3⟩
theorem ropen_bl (v : Value) (l : List Nat) (w : World) (h : BytesAt w v l) (hl : l.length ≤ 90000) (r : List Nat) (x : Int) (hn : openF l = (r, x)) :
    Calls Try.prog 9 #[v] w fun e w' => ∃ u, e = .returned (.tuple #[u, .int .i64 x]) ∧ BytesAt w' u r ∧ Below w.heap.size w w' :=
  (ropen_any v l w h hl).mono fun _ _ ⟨u, h1, h2, h3⟩ => by
    rw [hn] at h1 h2
    exact ⟨u, h1, h2, h3⟩

set_option maxRecDepth 100000 in
set_option maxHeartbeats 4000000 in
theorem octetSums_core (v : Value) (xs : List Nat) (w : World) (h : BytesAt w v xs) (hl : xs.length ≤ 400) : Calls Try.prog 3 #[v] w fun e w' => e = .returned (.bool true) ∧ Below w.heap.size w w' := by
  have HX := Lib.hid h
  have HSH := Lib.hid (show Ending.returned (.bool (decide (xs.length ≤ 400))) = .returned (.bool true) by simp [hl])
  obtain ⟨fr, x, ho⟩ : ∃ fr x, openF xs = (fr, x) := ⟨_, _, rfl⟩
  have HO := Lib.hid ho
  have HLS := Lib.hid (show (xs ++ sumBytes (sumF xs)).length ≤ 90000 by simp [sumBytes]; omega)
  clear h ho
  go_enter Try.func3, Try.ntmps3
  go_wp2_with fail
  refine (short_any v xs w HX.out).mono ?_
  rintro e w1 ⟨hq, hb⟩
  have B1 := Lib.hid hb
  rw [HSH.out] at hq
  subst hq
  clear hb
  go_wp2_with fail
  refine (open_bl v xs _ (HX.out.keep (B1.out)) (by omega) _ _ HO.out).mono ?_
  rintro e w2 ⟨r1, rfl, hr, hb⟩
  have B2 := Lib.hid hb
  have H1 := Lib.hid (hr)
  clear hb hr
  go_wp2_with fail
  refine (ropen_bl v xs _ (HX.out.keep (bt (B1.out) B2.out)) (by omega) _ _ HO.out).mono ?_
  rintro e w3 ⟨r2, rfl, hr, hb⟩
  have B3 := Lib.hid hb
  have H2 := Lib.hid (hr)
  clear hb hr
  go_wp2_with fail
  refine (seal_bl v xs _ (HX.out.keep (bt (bt (B1.out) B2.out) B3.out)) (by omega) _ rfl).mono ?_
  rintro e w4 ⟨r3, rfl, hr, hb⟩
  have B4 := Lib.hid hb
  have H3 := Lib.hid (hr)
  clear hb hr
  go_wp2_with fail
  refine (open_bl _ _ _ H3.out HLS.out _ _ (openF_seal xs)).mono ?_
  rintro e w5 ⟨r4, rfl, hr, hb⟩
  have B5 := Lib.hid hb
  have H4 := Lib.hid (hr)
  clear hb hr
  go_wp2_with fail
  refine (sum_bl v xs _ (HX.out.keep (bt (bt (bt (bt (B1.out) B2.out) B3.out) B4.out) B5.out)) _ rfl).mono ?_
  rintro e w6 ⟨rfl, hb⟩
  have B6 := Lib.hid hb
  clear hb
  go_wp2_with fail
  refine (rsum_bl v xs _ (HX.out.keep (bt (bt (bt (bt (bt (B1.out) B2.out) B3.out) B4.out) B5.out) B6.out))).mono ?_
  rintro e w7 ⟨rfl, hb⟩
  have B7 := Lib.hid hb
  clear hb
  go_wp2_with fail
  refine (seal_bl v xs _ (HX.out.keep (bt (bt (bt (bt (bt (bt (B1.out) B2.out) B3.out) B4.out) B5.out) B6.out) B7.out)) (by omega) _ rfl).mono ?_
  rintro e w8 ⟨r5, rfl, hr, hb⟩
  have B8 := Lib.hid hb
  have H5 := Lib.hid (hr)
  clear hb hr
  go_wp2_with fail
  refine (rseal_bl v xs _ (HX.out.keep (bt (bt (bt (bt (bt (bt (bt (B1.out) B2.out) B3.out) B4.out) B5.out) B6.out) B7.out) B8.out)) (by omega)).mono ?_
  rintro e w9 ⟨r6, rfl, hr, hb⟩
  have B9 := Lib.hid hb
  have H6 := Lib.hid (hr)
  clear hb hr
  go_wp2_with fail
  refine (same_bl _ _ _ _ _ (H5.out.keep (B9.out)) (H6.out.keep (Below.refl _ _)) rfl).mono ?_
  rintro e w10 ⟨rfl, hb⟩
  have B10 := Lib.hid hb
  clear hb
  go_wp2_with fail
  refine (same_bl _ _ _ _ _ (H1.out.keep (bt (bt (bt (bt (bt (bt (bt (B3.out) B4.out) B5.out) B6.out) B7.out) B8.out) B9.out) B10.out)) (H2.out.keep (bt (bt (bt (bt (bt (bt (B4.out) B5.out) B6.out) B7.out) B8.out) B9.out) B10.out)) rfl).mono ?_
  rintro e w11 ⟨rfl, hb⟩
  have B11 := Lib.hid hb
  clear hb
  go_wp2_with fail
  refine (same_bl _ _ _ _ _ (H4.out.keep (bt (bt (bt (bt (bt (B6.out) B7.out) B8.out) B9.out) B10.out) B11.out)) (HX.out.keep (bt (bt (bt (bt (bt (bt (bt (bt (bt (bt (B1.out) B2.out) B3.out) B4.out) B5.out) B6.out) B7.out) B8.out) B9.out) B10.out) B11.out)) rfl).mono ?_
  rintro e w12 ⟨rfl, hb⟩
  have B12 := Lib.hid hb
  clear hb
  go_wp2_with fail
  refine (awake_any _).mono ?_
  rintro e w13 ⟨rfl, hb⟩
  have B13 := Lib.hid hb
  clear hb
  go_wp2_with fail
  go_ret
  exact ⟨rfl, bt (bt (bt (bt (bt (bt (bt (bt (bt (bt (bt (bt (B1.out) B2.out) B3.out) B4.out) B5.out) B6.out) B7.out) B8.out) B9.out) B10.out) B11.out) B12.out) B13.out⟩

set_option maxRecDepth 100000 in
set_option maxHeartbeats 1000000 in
theorem octetSums_big (v : Value) (xs : List Nat) (w : World) (h : BytesAt w v xs) (hl : ¬ xs.length ≤ 400) : Calls Try.prog 3 #[v] w fun e w' => e = .returned (.bool true) ∧ Below w.heap.size w w' := by
  have HX := Lib.hid h
  have HSH := Lib.hid (show Ending.returned (.bool (decide (xs.length ≤ 400))) = .returned (.bool false) by simp; omega)
  clear h
  go_enter Try.func3, Try.ntmps3
  go_wp2_with fail
  refine (short_any v xs w HX.out).mono ?_
  rintro e w1 ⟨hq, hb⟩
  have B1 := Lib.hid hb
  rw [HSH.out] at hq
  subst hq
  clear hb
  go_wp2_with fail
  refine (awake_any _).mono ?_
  rintro e w2 ⟨rfl, hb⟩
  have B2 := Lib.hid hb
  clear hb
  go_wp2_with fail
  go_ret
  exact ⟨rfl, bt B1.out B2.out⟩
theorem octetSums_any (v : Value) (xs : List Nat) (w : World) (h : BytesAt w v xs) : Calls Try.prog 3 #[v] w fun e w' => e = .returned (.bool true) ∧ Below w.heap.size w w' := by
  by_cases hl : xs.length ≤ 400
  · exact octetSums_core v xs w h hl
  · exact octetSums_big v xs w h hl
end Go.Proofs.Ytibikehfeobikaa

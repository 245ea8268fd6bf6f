import Derived.WalkKit
import Derived.WalkSpells
import Derived.WalkLawsBesides
import Derived.Handy
import Derived.BigQuiet
import Derived.Outline
import Derived.Deep.RegionHeld3
import Derived.Deep.DeepCutAuto
import Derived.Deep.DeepMust
import Derived.Deep.DeepFit
import Derived.Deep.LoopGhost
import Derived.Lib.Hide
import Derived.IntWalk
import Derived.Deep.CutBlock
import Derived.Deep.RegionWith
import Derived.ChangeKeysEq
import Derived.Test.YtibikehfeobikaaH
/-
  THE EXAMPLES OF THE CHAPTER, plain; the contract of awake (printed by a program).
-/
namespace Go.Proofs.Ytibikehfeobikaa
open Go.RowKit

theorem info32 : ∃ i z, Try.prog.info? 32 = some i ∧ i.zero = some z ∧ i.size = 1 ∧ i.bytes = 8 ∧ z.cells.size = 1 := infoOf (by kernel_rfl)
theorem cOf32 : Try.prog.cellsOf 32 = 1 := by kernel_rfl
theorem eq_u64' (d : Nat) (a : Int) (w : World) : (Op.equalIn (d + 1) 32 (.int .u64 a) (.int .u64 a)).run Try.prog w = .ok true w := by
  simp [Op.equalIn, run_underlying Try.underlying32]
theorem eq_u64 (a : Int) (w : World) : (Op.equalIn 9999 32 (.int .u64 a) (.int .u64 a)).run Try.prog w = .ok true w := eq_u64' 9998 a w
theorem eq4 (a b c d : Int) (w : World) : (Op.equalIn 10000 34 (.agg #[.int .u64 a, .int .u64 b, .int .u64 c, .int .u64 d]) (.agg #[.int .u64 a, .int .u64 b, .int .u64 c, .int .u64 d])).run Try.prog w = .ok true w := by
  obtain ⟨i0, z, hi, _⟩ := info32
  rw [show (10000 : Nat) = 9999 + 1 from rfl, run_equalIn_array w 9999 _ _ Try.underlying34 hi, cOf32]
  have p0 : (part 32 #[.int .u64 a, .int .u64 b, .int .u64 c, .int .u64 d] (0 * 1)).run Try.prog w = .ok (.int .u64 a) w := by kernel_rfl
  have p1 : (part 32 #[.int .u64 a, .int .u64 b, .int .u64 c, .int .u64 d] (1 * 1)).run Try.prog w = .ok (.int .u64 b) w := by kernel_rfl
  have p2 : (part 32 #[.int .u64 a, .int .u64 b, .int .u64 c, .int .u64 d] (2 * 1)).run Try.prog w = .ok (.int .u64 c) w := by kernel_rfl
  have p3 : (part 32 #[.int .u64 a, .int .u64 b, .int .u64 c, .int .u64 d] (3 * 1)).run Try.prog w = .ok (.int .u64 d) w := by kernel_rfl
  rw [show List.range 4 = [0, 1, 2, 3] from rfl]
  simp only [Op.eqItems, Sem.run_bind, p0, p1, p2, p3, Result.andThen_ok, eq_u64, Bool.not_true, Bool.false_eq_true, if_false, Sem.run_pure]
theorem bt {a b c : World} (h : Below a.heap.size a b) (k : Below b.heap.size b c) : Below a.heap.size a c := h.trans (k.mono h.size)
theorem lit_bytes (w : World) (l : List Nat) (hl : l.length ≤ 100) (hb : l.all (fun x => decide (x < 256)) = true) : BytesAt (w.alloc (.cells (byteCells l).toArray 5)) (.slice (some ⟨w.heap.size, 0, none⟩) l.length l.length) l :=
  BytesAt.new (Whole.new w 5 _) (Below.refl _ _) (by omega) (fun x hx => by have := List.all_eq_true.1 hb x hx; simpa using this)
theorem lit_bytes2 (w : World) (o : Obj) (l : List Nat) (hl : l.length ≤ 100) (hb : l.all (fun x => decide (x < 256)) = true) : BytesAt ((w.alloc o).alloc (.cells (byteCells l).toArray 5)) (.slice (some ⟨w.heap.size + 1, 0, none⟩) l.length l.length) l := by
  have h := lit_bytes (w.alloc o) l hl hb
  rwa [World.size_alloc] at h
theorem number_bl (v : Value) (l : List Nat) (w : World) (h : BytesAt w v l) (n : Nat) (r : List Nat) (x : Int) (hn : number l = (n, r, x)) :
    Calls Try.prog 19 #[v] w fun e w' => ∃ u, e = .returned (.tuple #[.int .u64 n, u, .int .i64 x]) ∧ BytesAt w' u r ∧ Below w.heap.size w w' :=
  (number_any v l w h).mono fun _ _ ⟨u, h1, h2, h3⟩ => by
    rw [hn] at h1 h2
    exact ⟨u, h1, h3 ▸ h2, h3 ▸ Below.refl _ _⟩
theorem signed_bl (v : Value) (l : List Nat) (w : World) (h : BytesAt w v l) (n : Int) (r : List Nat) (x : Int) (hn : signedF l = (n, r, x)) :
    Calls Try.prog 20 #[v] w fun e w' => ∃ u, e = .returned (.tuple #[.int .i64 n, u, .int .i64 x]) ∧ BytesAt w' u r ∧ Below w.heap.size w w' :=
  (signed_any v l w h).mono fun _ _ ⟨u, h1, h2, h3⟩ => by
    rw [hn] at h1 h2
    exact ⟨u, h1, h3 ▸ h2, h3 ▸ Below.refl _ _⟩
theorem text_bl (v : Value) (l : List Nat) (most : Int) (w : World) (h : BytesAt w v l) (hm : most ≤ 9223372036854775807) (s r : List Nat) (x : Int) (hn : textF l most = (s, r, x)) :
    Calls Try.prog 21 #[v, .int .i64 most] w fun e w' => ∃ u, e = .returned (.tuple #[.string (strOf s), u, .int .i64 x]) ∧ BytesAt w' u r ∧ Below w.heap.size w w' :=
  (text_any v l most w h hm).mono fun _ _ ⟨u, h1, h2, h3⟩ => by
    rw [hn] at h1 h2
    exact ⟨u, h1, h2, h3⟩
theorem set_bl (v : Value) (l : List Nat) (w : World) (h : BytesAt w v l) (s r : List Nat) (x : Int) (hn : setF l = (s, r, x)) :
    Calls Try.prog 22 #[v] w fun e w' => ∃ u, e = .returned (.tuple #[.agg (arr4 s), u, .int .i64 x]) ∧ BytesAt w' u r ∧ Below w.heap.size w w' :=
  (set_any v l w h).mono fun _ _ ⟨u, h1, h2, h3⟩ => by
    rw [hn] at h1 h2
    exact ⟨u, h1, h2, h3⟩
theorem open_bl (v : Value) (l : List Nat) (w : World) (h : BytesAt w v l) (hl : l.length ≤ 90000) (r : List Nat) (x : Int) (hn : openF l = (r, x)) :
    Calls Try.prog 8 #[v] w fun e w' => ∃ u, e = .returned (.tuple #[u, .int .i64 x]) ∧ BytesAt w' u r ∧ Below w.heap.size w w' :=
  (open_any v l w h hl).mono fun _ _ ⟨u, h1, h2, h3⟩ => by
    rw [hn] at h1 h2
    exact ⟨u, h1, h2, h3⟩
theorem seal_bl (v : Value) (l : List Nat) (w : World) (h : BytesAt w v l) (hl : l.length ≤ 90000) (r : List Nat) (hn : l ++ sumBytes (sumF l) = r) :
    Calls Try.prog 10 #[v] w fun e w' => ∃ u, e = .returned u ∧ BytesAt w' u r ∧ Below w.heap.size w w' :=
  (seal_any v l w h hl).mono fun _ _ ⟨u, h1, h2, h3⟩ => ⟨u, h1, hn ▸ h2.at, h3⟩
theorem sum_bl (v : Value) (l : List Nat) (w : World) (h : BytesAt w v l) (n : Int) (hn : sumF l = n) :
    Calls Try.prog 11 #[v] w fun e w' => e = .returned (.int .u32 n) ∧ Below w.heap.size w w' :=
  (sum_any v l w h).mono fun _ _ ⟨h1, h3⟩ => ⟨hn ▸ h1, h3 ▸ Below.refl _ _⟩
theorem same_bl (v v' : Value) (l l' : List Nat) (w : World) (h : BytesAt w v l) (h' : BytesAt w v' l') (e : l = l') :
    Calls Try.prog 13 #[v, v'] w fun e w' => e = .returned (.bool true) ∧ Below w.heap.size w w' := by
  have := same_any v v' l l' w h h'
  simpa only [e, decide_true] using this
theorem putNumber_bl (n : Nat) (w : World) (hn : n < 18446744073709551616) (r : List Nat) (hr : putNum n = r) :
    Calls Try.prog 18 #[.slice none 0 0, .int .u64 n] w fun e w' => ∃ u, e = .returned u ∧ OwnB w' w.heap.size u r ∧ Below w.heap.size w w' :=
  (putNumber_any _ [] n w.heap.size w (OwnB.nil _ _) (Nat.le_refl _) hn (by simp)).mono fun _ _ ⟨u, h1, h2, h3, _⟩ => ⟨u, h1, by rw [← hr]; exact h2, h3⟩
theorem putSigned_bl (n : Int) (w : World) (hn : I64 n) (r : List Nat) (hr : putNum (zig n) = r) :
    Calls Try.prog 17 #[.slice none 0 0, .int .i64 n] w fun e w' => ∃ u, e = .returned u ∧ OwnB w' w.heap.size u r ∧ Below w.heap.size w w' :=
  (putSigned_any _ [] n w.heap.size w (OwnB.nil _ _) (Nat.le_refl _) hn (by simp)).mono fun _ _ ⟨u, h1, h2, h3, _⟩ => ⟨u, h1, by rw [← hr]; exact h2, h3⟩
theorem putText_bl (s : ByteArray) (w : World) (hn : s.size ≤ 400) (r : List Nat) (hr : putNum s.size ++ strBytes s = r) :
    Calls Try.prog 16 #[.slice none 0 0, .string s] w fun e w' => ∃ u, e = .returned u ∧ OwnB w' w.heap.size u r ∧ Below w.heap.size w w' :=
  (putText_any _ [] s w.heap.size w (OwnB.nil _ _) (Nat.le_refl _) hn (by simp)).mono fun _ _ ⟨u, h1, h2, h3, _⟩ => ⟨u, h1, by rw [← hr]; exact h2, h3⟩
theorem putSet_bl (a b c d : Nat) (w : World) (ha : U64 a) (hb : U64 b) (hc : U64 c) (hd : U64 d) (r : List Nat) (hr : putSet a b c d = r) :
    Calls Try.prog 15 #[.slice none 0 0, .agg #[.int .u64 a, .int .u64 b, .int .u64 c, .int .u64 d]] w fun e w' => ∃ u, e = .returned u ∧ OwnB w' w.heap.size u r ∧ Below w.heap.size w w' :=
  (putSet_any _ [] a b c d w.heap.size w (OwnB.nil _ _) (Nat.le_refl _) ha hb hc hd (by simp)).mono fun _ _ ⟨u, h1, h2, h3, _⟩ => ⟨u, h1, by rw [← hr]; exact h2, h3⟩

theorem ex1 : putNum 300 = [172, 2] := by rw [putNum, if_neg (by omega), putNum, if_pos (by omega)]
theorem ex2 : number [172, 2, 9] = (300, [9], 0) := by decide
theorem ex3 : number [128, 0] = (0, [], 6) := by decide
theorem ex4 : number [128] = (0, [], 5) := by decide
theorem ex5 : textF [2, 97, 98] 1 = ([], [], 4) := by decide
theorem ex6 : putSet 1 1 0 0 = [2, 1, 1] := by
  have h1 : putNum 1 = [1] := by rw [putNum, if_pos (by omega)]
  have h2 : putNum 2 = [2] := by rw [putNum, if_pos (by omega)]
  simp [putSet, setLen, h1, h2]
theorem ex7 : setF [2, 1, 1] = ([1, 1, 0, 0], [], 0) := by decide
theorem ex8 : sumF [97] = 3826002220 := by decide +kernel
theorem ex9 : [97] ++ sumBytes (sumF [97]) = [97, 44, 41, 12, 228] := by rw [ex8]; decide
theorem ex10 : openF [97, 44, 41, 12, 228] = ([97], 0) := by decide +kernel
theorem ex11 : signedF [1] = (-1, [], 0) := by decide
theorem ex12 : putNum (zig (-1)) = [1] := by rw [show zig (-1) = 1 by decide, putNum, if_pos (by omega)]
theorem ex13 : putNum (⟨#[97, 98]⟩ : ByteArray).size ++ strBytes ⟨#[97, 98]⟩ = [2, 97, 98] := by
  rw [show (⟨#[97, 98]⟩ : ByteArray).size = 2 from rfl, putNum, if_pos (by omega)]
  rfl

theorem bal (w : World) (o : Obj) : Below w.heap.size w (w.alloc o) := (Below.refl _ w).alloc (Nat.le_refl _) _
theorem set_ex (v : Value) (w : World) (h : BytesAt w v [2, 1, 1]) :
    Calls Try.prog 22 #[v] w fun e w' => ∃ u, e = .returned (.tuple #[.agg #[.int .u64 1, .int .u64 1, .int .u64 0, .int .u64 0], u, .int .i64 0]) ∧ BytesAt w' u [] ∧ Below w.heap.size w w' := set_bl v _ w h _ _ _ ex7
theorem quadW {w : World} {g : Nat} {t : TypeId} {c0 c1 c2 c3 : Value} (h : Whole w g t #[c0, c1, c2, c3]) :
    w.cell? ⟨g, 0, none⟩ = some c0 ∧ w.cell? ⟨g, 1, none⟩ = some c1 ∧ w.cell? ⟨g, 2, none⟩ = some c2 ∧ w.cell? ⟨g, 3, none⟩ = some c3 := ⟨h.cell 0, h.cell 1, h.cell 2, h.cell 3⟩

set_option maxRecDepth 100000 in
set_option maxHeartbeats 8000000 in
theorem awake_any (w : World) : Calls Try.prog 7 #[] w fun e w' => e = .returned (.bool true) ∧ Below w.heap.size w w' := by
  go_enter Try.func7, Try.ntmps7
  go_wp2_with fail
  refine (putNumber_bl 300 _ (by decide) _ ex1).mono ?_
  rintro e w1 ⟨r1, rfl, hr, hb⟩
  have B1 := Lib.hid hb
  have H1 := Lib.hid (hr.at)
  clear hb hr
  go_wp2_with fail
  refine (number_bl _ [172, 2, 9] _ (lit_bytes w1 [172, 2, 9] (by decide) rfl) _ _ _ ex2).mono ?_
  rintro e w2 ⟨r2, rfl, hr, hb⟩
  have B2 := Lib.hid (below_of_alloc (hb.mono (by simp)))
  have H2 := Lib.hid (hr)
  clear hb hr
  go_wp2_with fail
  refine (number_bl _ [128, 0] _ (lit_bytes w2 [128, 0] (by decide) rfl) _ _ _ ex3).mono ?_
  rintro e w3 ⟨r3, rfl, hr, hb⟩
  have B3 := Lib.hid (below_of_alloc (hb.mono (by simp)))
  clear hb hr
  go_wp2_with fail
  refine (number_bl _ [128] _ (lit_bytes w3 [128] (by decide) rfl) _ _ _ ex4).mono ?_
  rintro e w4 ⟨r4, rfl, hr, hb⟩
  have B4 := Lib.hid (below_of_alloc (hb.mono (by simp)))
  clear hb hr
  go_wp2_with fail
  refine (text_bl _ [2, 97, 98] 1 _ (lit_bytes w4 [2, 97, 98] (by decide) rfl) (by decide) _ _ _ ex5).mono ?_
  rintro e w5 ⟨r5, rfl, hr, hb⟩
  have B5 := Lib.hid (below_of_alloc (hb.mono (by simp)))
  clear hb hr
  go_wp2_with fail
  refine (putSet_bl 1 1 0 0 _ (by unfold U64; decide) (by unfold U64; decide) (by unfold U64; decide) (by unfold U64; decide) _ ex6).mono ?_
  rintro e w6 ⟨r6, rfl, hr, hb⟩
  have B6 := Lib.hid hb
  have H6 := Lib.hid (hr.at)
  clear hb hr
  go_wp2_with fail
  refine (set_ex _ _ H6.out).mono ?_
  rintro e w7 ⟨r7, rfl, hr, hb⟩
  have B7 := Lib.hid hb
  clear hb hr
  go_wp2_with fail
  refine (seal_bl _ [97] _ (lit_bytes2 w7 (.cells #[.int .u64 1, .int .u64 1, .int .u64 0, .int .u64 0] 34) [97] (by decide) rfl) (by decide) _ ex9).mono ?_
  rintro e w8 ⟨r8, rfl, hr, hb⟩
  have B8 := Lib.hid (below_of_alloc2 (hb.mono (by simp)))
  have H8 := Lib.hid (hr)
  have HX := Lib.hid (Whole.under hb ((Whole.new w7 34 #[.int .u64 1, .int .u64 1, .int .u64 0, .int .u64 0]).alloc _) (by simp; omega))
  clear hb hr
  go_wp2_with fail
  refine (open_bl _ _ _ H8.out (by decide) _ _ ex10).mono ?_
  rintro e w9 ⟨r9, rfl, hr, hb⟩
  have B9 := Lib.hid hb
  have H9 := Lib.hid (hr)
  clear hb hr
  go_wp2_with fail
  refine (signed_bl _ [1] _ (lit_bytes w9 [1] (by decide) rfl) _ _ _ ex11).mono ?_
  rintro e w10 ⟨r10, rfl, hr, hb⟩
  have B10 := Lib.hid (below_of_alloc (hb.mono (by simp)))
  clear hb hr
  go_wp2_with fail
  refine (same_bl _ _ [172, 2] [172, 2] _ (H1.out.keep (bt (bt (bt (bt (bt (bt (bt (bt (bt (B2.out) B3.out) B4.out) B5.out) B6.out) B7.out) B8.out) B9.out) B10.out) (bal _ _))) (lit_bytes w10 [172, 2] (by decide) rfl) rfl).mono ?_
  rintro e w11 ⟨rfl, hb⟩
  have B11 := Lib.hid (below_of_alloc (hb.mono (by simp)))
  clear hb
  go_wp2_with fail
  refine (same_bl _ _ [9] [9] _ (H2.out.keep (bt (bt (bt (bt (bt (bt (bt (bt (bt (B3.out) B4.out) B5.out) B6.out) B7.out) B8.out) B9.out) B10.out) B11.out) (bal _ _))) (lit_bytes w11 [9] (by decide) rfl) rfl).mono ?_
  rintro e w12 ⟨rfl, hb⟩
  have B12 := Lib.hid (below_of_alloc (hb.mono (by simp)))
  clear hb
  go_wp2_with fail
  refine (same_bl _ _ [2, 1, 1] [2, 1, 1] _ (H6.out.keep (bt (bt (bt (bt (bt (bt (B7.out) B8.out) B9.out) B10.out) B11.out) B12.out) (bal _ _))) (lit_bytes w12 [2, 1, 1] (by decide) rfl) rfl).mono ?_
  rintro e w13 ⟨rfl, hb⟩
  have B13 := Lib.hid (below_of_alloc (hb.mono (by simp)))
  clear hb
  obtain ⟨x0, x1, x2, x3⟩ := quadW (Whole.under (bt (bt (bt (bt (B9.out) B10.out) B11.out) B12.out) B13.out) HX.out (Whole.lt HX.out))
  have q := fun W : World => eq4 1 1 0 0 W
  go_wp2_with fail
  clear x0 x1 x2 x3 q
  refine (sum_bl _ [97] _ (lit_bytes w13 [97] (by decide) rfl) _ ex8).mono ?_
  rintro e w14 ⟨rfl, hb⟩
  have B14 := Lib.hid (below_of_alloc (hb.mono (by simp)))
  clear hb
  go_wp2_with fail
  refine (same_bl _ _ [97, 44, 41, 12, 228] [97, 44, 41, 12, 228] _ (H8.out.keep (bt (bt (bt (bt (bt (bt (B9.out) B10.out) B11.out) B12.out) B13.out) B14.out) (bal _ _))) (lit_bytes w14 [97, 44, 41, 12, 228] (by decide) rfl) rfl).mono ?_
  rintro e w15 ⟨rfl, hb⟩
  have B15 := Lib.hid (below_of_alloc (hb.mono (by simp)))
  clear hb
  go_wp2_with fail
  refine (same_bl _ _ [97] [97] _ (H9.out.keep (bt (bt (bt (bt (bt (bt (B10.out) B11.out) B12.out) B13.out) B14.out) B15.out) (bal _ _))) (lit_bytes w15 [97] (by decide) rfl) rfl).mono ?_
  rintro e w16 ⟨rfl, hb⟩
  have B16 := Lib.hid (below_of_alloc (hb.mono (by simp)))
  clear hb
  go_wp2_with fail
  refine (putSigned_bl (-1) _ (by unfold I64; decide) _ ex12).mono ?_
  rintro e w17 ⟨r11, rfl, hr, hb⟩
  have B17 := Lib.hid hb
  have H17 := Lib.hid (hr.at)
  clear hb hr
  go_wp2_with fail
  refine (same_bl _ _ [1] [1] _ (H17.out.keep (bal _ _)) (lit_bytes w17 [1] (by decide) rfl) rfl).mono ?_
  rintro e w18 ⟨rfl, hb⟩
  have B18 := Lib.hid (below_of_alloc (hb.mono (by simp)))
  clear hb
  go_wp2_with fail
  refine (putText_bl ⟨#[97, 98]⟩ _ (by decide) _ ex13).mono ?_
  rintro e w19 ⟨r12, rfl, hr, hb⟩
  have B19 := Lib.hid hb
  have H19 := Lib.hid (hr.at)
  clear hb hr
  go_wp2_with fail
  refine (same_bl _ _ [2, 97, 98] [2, 97, 98] _ (H19.out.keep (bal _ _)) (lit_bytes w19 [2, 97, 98] (by decide) rfl) rfl).mono ?_
  rintro e w20 ⟨rfl, hb⟩
  have B20 := Lib.hid (below_of_alloc (hb.mono (by simp)))
  clear hb
  go_wp2_with fail
  go_ret
  exact ⟨rfl, bt (bt (bt (bt (bt (bt (bt (bt (bt (bt (bt (bt (bt (bt (bt (bt (bt (bt (bt (B1.out) B2.out) B3.out) B4.out) B5.out) B6.out) B7.out) B8.out) B9.out) B10.out) B11.out) B12.out) B13.out) B14.out) B15.out) B16.out) B17.out) B18.out) B19.out) B20.out⟩
end Go.Proofs.Ytibikehfeobikaa

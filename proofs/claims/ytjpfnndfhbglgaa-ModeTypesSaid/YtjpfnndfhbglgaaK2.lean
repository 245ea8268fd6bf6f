import Derived.WalkKit
import Derived.WalkSpells
import Derived.WalkLawsBesides
import Derived.Handy
import Derived.BigQuiet
import Derived.Outline
import Derived.Deep.RegionHeld3
import Derived.Deep.DeepCutAuto
import Derived.Deep.DeepMust
import Derived.Deep.DeepFit
import Derived.Deep.LoopGhost
import Derived.Lib.Hide
import Derived.IntWalk
import Derived.Deep.CutBlock
import Derived.Deep.RegionWith
import Derived.Test.YtjpfnndfhbglgaaJ
/-
  THE MIDDLE PART OF mode.clone (printed by a program).
-/
namespace Go.Proofs.Ytjpfnndfhbglgaa
open Go.RowKit

set_option maxRecDepth 100000 in
set_option maxHeartbeats 40000000 in
theorem cloneB (w wc : World) (l : List Ty) (q0 q8 q13 : List (List Value)) (x0 : Option Addr) (z0 : Nat) (x1 : Option Addr) (z1 : Nat) (x2 : Option Addr) (z2 : Nat) (y2 : Nat) (x3 : Option Addr) (z3 : Nat) (y3 : Nat) (x4 : Option Addr) (z4 : Nat) (y4 : Nat) (x5 : Option Addr) (z5 : Nat) (y5 : Nat) (x6 : Option Addr) (z6 : Nat) (y6 : Nat) (x7 : Option Addr) (z7 : Nat) (y7 : Nat) (x8 : Option Addr) (z8 : Nat) (x9 : Option Addr) (z9 : Nat) (y9 : Nat) (x10 : Option Addr) (z10 : Nat) (y10 : Nat) (x11 : Option Addr) (z11 : Nat) (y11 : Nat) (x12 : Option Addr) (z12 : Nat) (y12 : Nat) (x13 : Option Addr) (z13 : Nat) (x14 : Option Addr) (z14 : Nat) (y14 : Nat) (x15 : Option Addr) (z15 : Nat) (y15 : Nat) (x16 : Option Addr) (z16 : Nat) (y16 : Nat)
    (d3 : List Value) (d4 : List Value) (d5 : List Value) (d6 : List Value) (d7 : List Value) (d9 : List Value) (d10 : List Value) (d11 : List Value) (d12 : List Value) (d14 : List Value) (d15 : List Value) (d16 : List Value)
    (HS3 : Hid (SliceAt w (.slice x3 y3 z3) 9 y3 d3)) (b3 : y3 * 80 ≤ 140737488355328)
    (HS4 : Hid (SliceAt w (.slice x4 y4 z4) 11 y4 d4)) (b4 : y4 * 96 ≤ 140737488355328)
    (HS5 : Hid (SliceAt w (.slice x5 y5 z5) 2 y5 d5)) (b5 : y5 * 24 ≤ 140737488355328)
    (HS6 : Hid (SliceAt w (.slice x6 y6 z6) 1 y6 d6)) (b6 : y6 * 16 ≤ 140737488355328)
    (HS7 : Hid (SliceAt w (.slice x7 y7 z7) 1 y7 d7)) (b7 : y7 * 16 ≤ 140737488355328)
    (HS8 : Hid (SliceAt w (.slice x8 q8.length z8) 10 q8.length q8.flatten)) (b8 : q8.length * 112 ≤ 140737488355328)
    (HS9 : Hid (SliceAt w (.slice x9 y9 z9) 13 y9 d9)) (b9 : y9 * 104 ≤ 140737488355328)
    (HS10 : Hid (SliceAt w (.slice x10 y10 z10) 13 y10 d10)) (b10 : y10 * 112 ≤ 140737488355328)
    (HS11 : Hid (SliceAt w (.slice x11 y11 z11) 10 y11 d11)) (b11 : y11 * 80 ≤ 140737488355328)
    (HS12 : Hid (SliceAt w (.slice x12 y12 z12) 13 y12 d12)) (b12 : y12 * 104 ≤ 140737488355328)
    (HS13 : Hid (SliceAt w (.slice x13 q13.length z13) 13 q13.length q13.flatten)) (b13 : q13.length * 128 ≤ 140737488355328)
    (HS14 : Hid (SliceAt w (.slice x14 y14 z14) 8 y14 d14)) (b14 : y14 * 72 ≤ 140737488355328)
    (HS15 : Hid (SliceAt w (.slice x15 y15 z15) 9 y15 d15)) (b15 : y15 * 80 ≤ 140737488355328)
    (HS16 : Hid (SliceAt w (.slice x16 y16 z16) 10 y16 d16)) (b16 : y16 * 88 ≤ 140737488355328)
    (HE8 : Hid (∀ x ∈ q8, ∃ f, Rd Try.prog w f 91 x))
    (HE13 : Hid (∀ x ∈ q13, ∃ (c p : Int) (b : Bool) (e : List Value), x = .int .i64 c :: .int .u32 p :: .bool b :: e ∧ ∃ f, Rd Try.prog w f 91 e))
    (a0 : Option Addr) (c0 : Nat) (a1 : Option Addr) (c1 : Nat) (a2 : Option Addr) (c2 : Nat)
    (W0 : Whole wc w.heap.size 48 #[.slice x0 q0.length z0, .slice x1 l.length z1, .slice x2 y2 z2, .slice x3 y3 z3, .slice x4 y4 z4, .slice x5 y5 z5, .slice x6 y6 z6, .slice x7 y7 z7, .slice x8 q8.length z8, .slice x9 y9 z9, .slice x10 y10 z10, .slice x11 y11 z11, .slice x12 y12 z12, .slice x13 q13.length z13, .slice x14 y14 z14, .slice x15 y15 z15, .slice x16 y16 z16]) (W1 : Whole wc (w.heap.size + 1) 48 #[.slice none 0 0, .slice none 0 0, .slice none 0 0, .slice none 0 0, .slice none 0 0, .slice none 0 0, .slice none 0 0, .slice none 0 0, .slice none 0 0, .slice none 0 0, .slice none 0 0, .slice none 0 0, .slice none 0 0, .slice none 0 0, .slice none 0 0, .slice none 0 0, .slice none 0 0]) (W2 : Whole wc (w.heap.size + 2) 48 #[.slice a0 q0.length c0, .slice a1 l.length c1, .slice a2 y2 c2, .slice x3 y3 z3, .slice x4 y4 z4, .slice x5 y5 z5, .slice x6 y6 z6, .slice x7 y7 z7, .slice x8 q8.length z8, .slice x9 y9 z9, .slice x10 y10 z10, .slice x11 y11 z11, .slice x12 y12 z12, .slice x13 q13.length z13, .slice x14 y14 z14, .slice x15 y15 z15, .slice x16 y16 z16]) (o0 : TyOwn (w.heap.size + 3) l a1 c1 wc) (hb : Below w.heap.size w wc)
    (s0 s4 s5 s6 s7 s8 s9 s10 s11 s12 s13 s14 s15 s16 s17 s18 s19 s20 s21 s22 s23 s24 s25 s26 s27 s28 s29 s30 s31 s32 s33 s34 s35 s36 s37 s38 s39 s40 s41 s42 s43 s44 s45 s46 s47 s48 s49 s50 s51 s52 s53 s54 s55 s56 s57 s58 s59 s60 s61 s62 s63 s64 s65 s66 s67 s68 s69 s70 s71 s72 s73 s74 s75 s76 s77 s78 s79 s80 s81 s82 s83 s84 s85 s86 s87 s88 s89 s90 s91 s92 s93 s94 s95 s96 s97 s98 s99 s100 s101 s102 s103 s104 s105 s106 s107 s108 s109 s110 s111 s112 s113 s114 s115 s116 s117 s118 s119 s120 s121 s122 s123 s124 s125 s126 s127 s128 s129 s130 s131 s132 s133 s134 s135 s136 s137 s138 s139 s140 s141 s142 s143 s144 s145 s146 s147 s148 s149 s150 s151 : Value) :
    Code.wp Try.prog (seqTail 5 ((Try.f21.body).getD .skip)) (bodyPost Try.prog Try.f21 (ClonePost w ⟨.slice x0 q0.length z0, .slice x1 l.length z1, .slice x2 y2 z2, .slice x3 y3 z3, .slice x4 y4 z4, .slice x5 y5 z5, .slice x6 y6 z6, .slice x7 y7 z7, .slice x8 q8.length z8, .slice x9 y9 z9, .slice x10 y10 z10, .slice x11 y11 z11, .slice x12 y12 z12, .slice x13 q13.length z13, .slice x14 y14 z14, .slice x15 y15 z15, .slice x16 y16 z16⟩ l)) ⟨#[s0, .pointer (some ⟨w.heap.size, 0, none⟩), .pointer (some ⟨(w.heap.size + 1), 0, none⟩), .pointer (some ⟨(w.heap.size + 2), 0, none⟩), s4, s5, s6, s7, s8, s9, s10, s11, s12, s13, s14, s15, s16, s17, s18, s19, s20, s21, s22, s23, s24, s25, s26, s27, s28, s29, s30, s31, s32, s33, s34, s35, s36, s37, s38, s39, s40, s41, s42, s43, s44, s45, s46, s47, s48, s49, s50, s51, s52, s53, s54, s55, s56, s57, s58, s59, s60, s61, s62, s63, s64, s65, s66, s67, s68, s69, s70, s71, s72, s73, s74, s75, s76, s77, s78, s79, s80, s81, s82, s83, s84, s85, s86, s87, s88, s89, s90, s91, s92, s93, s94, s95, s96, s97, s98, s99, s100, s101, s102, s103, s104, s105, s106, s107, s108, s109, s110, s111, s112, s113, s114, s115, s116, s117, s118, s119, s120, s121, s122, s123, s124, s125, s126, s127, s128, s129, s130, s131, s132, s133, s134, s135, s136, s137, s138, s139, s140, s141, s142, s143, s144, s145, s146, s147, s148, s149, s150, s151], []⟩ wc := by
  conv => arg 2; whnf
  conv => arg 4; dsimp only
  go_upto_region 13 with fail
  go_cut [] (fun wc => ∃ (a0 : Option Addr) (c0 : Nat) (a1 : Option Addr) (c1 : Nat) (a2 : Option Addr) (c2 : Nat) (a3 : Option Addr) (c3 : Nat) (a4 : Option Addr) (c4 : Nat) (a5 : Option Addr) (c5 : Nat) , Whole wc w.heap.size 48 #[.slice x0 q0.length z0, .slice x1 l.length z1, .slice x2 y2 z2, .slice x3 y3 z3, .slice x4 y4 z4, .slice x5 y5 z5, .slice x6 y6 z6, .slice x7 y7 z7, .slice x8 q8.length z8, .slice x9 y9 z9, .slice x10 y10 z10, .slice x11 y11 z11, .slice x12 y12 z12, .slice x13 q13.length z13, .slice x14 y14 z14, .slice x15 y15 z15, .slice x16 y16 z16] ∧ Whole wc (w.heap.size + 1) 48 #[.slice none 0 0, .slice none 0 0, .slice none 0 0, .slice none 0 0, .slice none 0 0, .slice none 0 0, .slice none 0 0, .slice none 0 0, .slice none 0 0, .slice none 0 0, .slice none 0 0, .slice none 0 0, .slice none 0 0, .slice none 0 0, .slice none 0 0, .slice none 0 0, .slice none 0 0] ∧ Whole wc (w.heap.size + 2) 48 #[.slice a0 q0.length c0, .slice a1 l.length c1, .slice a2 y2 c2, .slice a3 y3 c3, .slice a4 y4 c4, .slice a5 y5 c5, .slice x6 y6 z6, .slice x7 y7 z7, .slice x8 q8.length z8, .slice x9 y9 z9, .slice x10 y10 z10, .slice x11 y11 z11, .slice x12 y12 z12, .slice x13 q13.length z13, .slice x14 y14 z14, .slice x15 y15 z15, .slice x16 y16 z16] ∧ TyOwn (w.heap.size + 3) l a1 c1 wc ∧ Below w.heap.size w wc)
  case first =>
    have HA := Lib.hid W0
    have HB := Lib.hid W1
    have HC := Lib.hid W2
    have kg3 := (W0.both 3 _ rfl).1
    have kg4 := (W0.both 4 _ rfl).1
    have kg5 := (W0.both 5 _ rfl).1
    clear W0 W1 W2
    go_region_held3 (fun w' => w'.cell? ⟨w.heap.size, 3, none⟩ = some (.slice x3 y3 z3) ∧ w'.cell? ⟨w.heap.size, 4, none⟩ = some (.slice x4 y4 z4) ∧ w'.cell? ⟨w.heap.size, 5, none⟩ = some (.slice x5 y5 z5)) (go_keep)
        (first
          | (go_at_call_of 28 (Value.slice x3 y3 z3); go_must (refine (clone28 _ y3 d3 _ ?_ b3).mono ?_; (exact HS3.out.keep (by first | exact hb | exact hb.drew)); rintro e w3 ⟨a3, c3, rfl, n3, -, hb3⟩; have hw3 : Below w.heap.size w w3 := Below.trans (b := _) (by first | exact hb | exact hb.drew) (hb3.mono (Nat.le_of_lt (Whole.lt HA.out))); have HA3 := Lib.hid (Whole.under hb3 HA.out (Whole.lt HA.out)); have HB3 := Lib.hid (Whole.under hb3 HB.out (Whole.lt HB.out)); have HC3 := Lib.hid (Whole.under hb3 HC.out (Whole.lt HC.out)); have o0_3 := TyOwn.keep hb3 o0 (Nat.le_refl _); have kg3_3 := (HA3.out.both 3 _ rfl).1; have kg4_3 := (HA3.out.both 4 _ rfl).1; have kg5_3 := (HA3.out.both 5 _ rfl).1))
          | (go_at_call_of 29 (Value.slice x4 y4 z4); go_must (refine (clone29 _ y4 d4 _ ?_ b4).mono ?_; (exact HS4.out.keep (by first | exact hw3 | exact hw3.drew)); rintro e w4 ⟨a4, c4, rfl, n4, -, hb4⟩; have hw4 : Below w.heap.size w w4 := Below.trans (b := _) (by first | exact hw3 | exact hw3.drew) (hb4.mono (Nat.le_of_lt (Whole.lt HA3.out))); have HA4 := Lib.hid (Whole.under hb4 HA3.out (Whole.lt HA3.out)); have HB4 := Lib.hid (Whole.under hb4 HB3.out (Whole.lt HB3.out)); have HC4 := Lib.hid (Whole.under hb4 HC3.out (Whole.lt HC3.out)); have o0_4 := TyOwn.keep hb4 o0_3 (Nat.le_refl _); have n3_4 := own_keep hb4 n3 (Nat.le_refl _); have kg3_4 := (HA4.out.both 3 _ rfl).1; have kg4_4 := (HA4.out.both 4 _ rfl).1; have kg5_4 := (HA4.out.both 5 _ rfl).1))
          | (go_at_call_of 30 (Value.slice x5 y5 z5); go_must (refine (clone30 _ y5 d5 _ ?_ b5).mono ?_; (exact HS5.out.keep (by first | exact hw4 | exact hw4.drew)); rintro e w5 ⟨a5, c5, rfl, n5, -, hb5⟩; have hw5 : Below w.heap.size w w5 := Below.trans (b := _) (by first | exact hw4 | exact hw4.drew) (hb5.mono (Nat.le_of_lt (Whole.lt HA4.out))); have HA5 := Lib.hid (Whole.under hb5 HA4.out (Whole.lt HA4.out)); have HB5 := Lib.hid (Whole.under hb5 HB4.out (Whole.lt HB4.out)); have HC5 := Lib.hid (Whole.under hb5 HC4.out (Whole.lt HC4.out)); have o0_5 := TyOwn.keep hb5 o0_4 (Nat.le_refl _); have n3_5 := own_keep hb5 n3_4 (Nat.le_refl _); have n4_5 := own_keep hb5 n4 (Nat.le_refl _); have kg3_5 := (HA5.out.both 3 _ rfl).1; have kg4_5 := (HA5.out.both 4 _ rfl).1; have kg5_5 := (HA5.out.both 5 _ rfl).1; have ⟨ks3, fs3⟩ := HC5.out.both 3 _ rfl; have ⟨ks4, fs4⟩ := HC5.out.both 4 _ rfl; have ⟨ks5, fs5⟩ := HC5.out.both 5 _ rfl)))
    go_wp2_with fail
    go_meet
    have S := (((Sto.cell w5 (w.heap.size + 2) 3 (.slice a3 y3 c3)).trans (Sto.cell _ (w.heap.size + 2) 4 (.slice a4 y4 c4))).trans (Sto.cell _ (w.heap.size + 2) 5 (.slice a5 y5 c5)))
    exact ⟨a0, c0, a1, c1, a2, c2, a3, c3, a4, c4, a5, c5, S.whole HA5.out (by omega), S.whole HB5.out (by omega), heap_setCell_same _ _ 5 _ _ _ (heap_setCell_same _ _ 4 _ _ _ (heap_setCell_same _ _ 3 _ _ _ HC5.out)), TyOwn.sto S o0_5 (by omega), hw5.trans (S.below (by omega))⟩
  case rest =>
  obtain ⟨a0, c0, a1, c1, a2, c2, a3, c3, a4, c4, a5, c5, W0, W1, W2, o0, hb⟩ := hcut
  go_upto_region 14 with fail
  go_cut [] (fun wc => ∃ (a0 : Option Addr) (c0 : Nat) (a1 : Option Addr) (c1 : Nat) (a2 : Option Addr) (c2 : Nat) (a3 : Option Addr) (c3 : Nat) (a4 : Option Addr) (c4 : Nat) (a5 : Option Addr) (c5 : Nat) (a6 : Option Addr) (c6 : Nat) (a7 : Option Addr) (c7 : Nat) (a8 : Option Addr) (c8 : Nat) , Whole wc w.heap.size 48 #[.slice x0 q0.length z0, .slice x1 l.length z1, .slice x2 y2 z2, .slice x3 y3 z3, .slice x4 y4 z4, .slice x5 y5 z5, .slice x6 y6 z6, .slice x7 y7 z7, .slice x8 q8.length z8, .slice x9 y9 z9, .slice x10 y10 z10, .slice x11 y11 z11, .slice x12 y12 z12, .slice x13 q13.length z13, .slice x14 y14 z14, .slice x15 y15 z15, .slice x16 y16 z16] ∧ Whole wc (w.heap.size + 1) 48 #[.slice none 0 0, .slice none 0 0, .slice none 0 0, .slice none 0 0, .slice none 0 0, .slice none 0 0, .slice none 0 0, .slice none 0 0, .slice none 0 0, .slice none 0 0, .slice none 0 0, .slice none 0 0, .slice none 0 0, .slice none 0 0, .slice none 0 0, .slice none 0 0, .slice none 0 0] ∧ Whole wc (w.heap.size + 2) 48 #[.slice a0 q0.length c0, .slice a1 l.length c1, .slice a2 y2 c2, .slice a3 y3 c3, .slice a4 y4 c4, .slice a5 y5 c5, .slice a6 y6 c6, .slice a7 y7 c7, .slice a8 q8.length c8, .slice x9 y9 z9, .slice x10 y10 z10, .slice x11 y11 z11, .slice x12 y12 z12, .slice x13 q13.length z13, .slice x14 y14 z14, .slice x15 y15 z15, .slice x16 y16 z16] ∧ TyOwn (w.heap.size + 3) l a1 c1 wc ∧ wc.ownsRow (w.heap.size + 3) 91 10 (.slice a8 q8.length c8) q8.length q8.flatten ∧ Below w.heap.size w wc)
  case first =>
    have HA := Lib.hid W0
    have HB := Lib.hid W1
    have HC := Lib.hid W2
    have kg6 := (W0.both 6 _ rfl).1
    have kg7 := (W0.both 7 _ rfl).1
    have kg8 := (W0.both 8 _ rfl).1
    clear W0 W1 W2
    go_region_held3 (fun w' => w'.cell? ⟨w.heap.size, 6, none⟩ = some (.slice x6 y6 z6) ∧ w'.cell? ⟨w.heap.size, 7, none⟩ = some (.slice x7 y7 z7) ∧ w'.cell? ⟨w.heap.size, 8, none⟩ = some (.slice x8 q8.length z8)) (go_keep)
        (first
          | (go_at_call_of 27 (Value.slice x6 y6 z6); go_must (refine (clone27 _ y6 d6 _ ?_ b6).mono ?_; (exact HS6.out.keep (by first | exact hb | exact hb.drew)); rintro e w6 ⟨a6, c6, rfl, n6, -, hb6⟩; have hw6 : Below w.heap.size w w6 := Below.trans (b := _) (by first | exact hb | exact hb.drew) (hb6.mono (Nat.le_of_lt (Whole.lt HA.out))); have HA6 := Lib.hid (Whole.under hb6 HA.out (Whole.lt HA.out)); have HB6 := Lib.hid (Whole.under hb6 HB.out (Whole.lt HB.out)); have HC6 := Lib.hid (Whole.under hb6 HC.out (Whole.lt HC.out)); have o0_6 := TyOwn.keep hb6 o0 (Nat.le_refl _); have kg6_6 := (HA6.out.both 6 _ rfl).1; have kg7_6 := (HA6.out.both 7 _ rfl).1; have kg8_6 := (HA6.out.both 8 _ rfl).1))
          | (go_at_call_of 27 (Value.slice x7 y7 z7); go_must (refine (clone27 _ y7 d7 _ ?_ b7).mono ?_; (exact HS7.out.keep (by first | exact hw6 | exact hw6.drew)); rintro e w7 ⟨a7, c7, rfl, n7, -, hb7⟩; have hw7 : Below w.heap.size w w7 := Below.trans (b := _) (by first | exact hw6 | exact hw6.drew) (hb7.mono (Nat.le_of_lt (Whole.lt HA6.out))); have HA7 := Lib.hid (Whole.under hb7 HA6.out (Whole.lt HA6.out)); have HB7 := Lib.hid (Whole.under hb7 HB6.out (Whole.lt HB6.out)); have HC7 := Lib.hid (Whole.under hb7 HC6.out (Whole.lt HC6.out)); have o0_7 := TyOwn.keep hb7 o0_6 (Nat.le_refl _); have n6_7 := own_keep hb7 n6 (Nat.le_refl _); have kg6_7 := (HA7.out.both 6 _ rfl).1; have kg7_7 := (HA7.out.both 7 _ rfl).1; have kg8_7 := (HA7.out.both 8 _ rfl).1))
          | (go_at_call_of 31 (Value.slice x8 q8.length z8); go_must (refine (clone31 _ q8.length q8.flatten _ ?_ b8).mono ?_; (exact HS8.out.keep (by first | exact hw7 | exact hw7.drew)); rintro e w8 ⟨a8, c8, rfl, n8, -, hb8⟩; have hw8 : Below w.heap.size w w8 := Below.trans (b := _) (by first | exact hw7 | exact hw7.drew) (hb8.mono (Nat.le_of_lt (Whole.lt HA7.out))); have HA8 := Lib.hid (Whole.under hb8 HA7.out (Whole.lt HA7.out)); have HB8 := Lib.hid (Whole.under hb8 HB7.out (Whole.lt HB7.out)); have HC8 := Lib.hid (Whole.under hb8 HC7.out (Whole.lt HC7.out)); have o0_8 := TyOwn.keep hb8 o0_7 (Nat.le_refl _); have n6_8 := own_keep hb8 n6_7 (Nat.le_refl _); have n7_8 := own_keep hb8 n7 (Nat.le_refl _); have kg6_8 := (HA8.out.both 6 _ rfl).1; have kg7_8 := (HA8.out.both 7 _ rfl).1; have kg8_8 := (HA8.out.both 8 _ rfl).1; have ⟨ks6, fs6⟩ := HC8.out.both 6 _ rfl; have ⟨ks7, fs7⟩ := HC8.out.both 7 _ rfl; have ⟨ks8, fs8⟩ := HC8.out.both 8 _ rfl)))
    go_wp2_with fail
    go_meet
    have S := (((Sto.cell w8 (w.heap.size + 2) 6 (.slice a6 y6 c6)).trans (Sto.cell _ (w.heap.size + 2) 7 (.slice a7 y7 c7))).trans (Sto.cell _ (w.heap.size + 2) 8 (.slice a8 q8.length c8)))
    exact ⟨a0, c0, a1, c1, a2, c2, a3, c3, a4, c4, a5, c5, a6, c6, a7, c7, a8, c8, S.whole HA8.out (by omega), S.whole HB8.out (by omega), heap_setCell_same _ _ 8 _ _ _ (heap_setCell_same _ _ 7 _ _ _ (heap_setCell_same _ _ 6 _ _ _ HC8.out)), TyOwn.sto S o0_8 (by omega), S.own (own_low n8 (Whole.lt HC7.out)) (own_far n8 (Whole.lt HC7.out)), hw8.trans (S.below (by omega))⟩
  case rest =>
  obtain ⟨a0, c0, a1, c1, a2, c2, a3, c3, a4, c4, a5, c5, a6, c6, a7, c7, a8, c8, W0, W1, W2, o0, o1, hb⟩ := hcut
  have kq := (W2.both 8 _ rfl).1
  go_upto_block 4 with fail
  go_cut [] (fun wc => ∃ (a0 : Option Addr) (c0 : Nat) (a1 : Option Addr) (c1 : Nat) (a2 : Option Addr) (c2 : Nat) (a3 : Option Addr) (c3 : Nat) (a4 : Option Addr) (c4 : Nat) (a5 : Option Addr) (c5 : Nat) (a6 : Option Addr) (c6 : Nat) (a7 : Option Addr) (c7 : Nat) (a8 : Option Addr) (c8 : Nat) , Whole wc w.heap.size 48 #[.slice x0 q0.length z0, .slice x1 l.length z1, .slice x2 y2 z2, .slice x3 y3 z3, .slice x4 y4 z4, .slice x5 y5 z5, .slice x6 y6 z6, .slice x7 y7 z7, .slice x8 q8.length z8, .slice x9 y9 z9, .slice x10 y10 z10, .slice x11 y11 z11, .slice x12 y12 z12, .slice x13 q13.length z13, .slice x14 y14 z14, .slice x15 y15 z15, .slice x16 y16 z16] ∧ Whole wc (w.heap.size + 1) 48 #[.slice none 0 0, .slice none 0 0, .slice none 0 0, .slice none 0 0, .slice none 0 0, .slice none 0 0, .slice none 0 0, .slice none 0 0, .slice none 0 0, .slice none 0 0, .slice none 0 0, .slice none 0 0, .slice none 0 0, .slice none 0 0, .slice none 0 0, .slice none 0 0, .slice none 0 0] ∧ Whole wc (w.heap.size + 2) 48 #[.slice a0 q0.length c0, .slice a1 l.length c1, .slice a2 y2 c2, .slice a3 y3 c3, .slice a4 y4 c4, .slice a5 y5 c5, .slice a6 y6 c6, .slice a7 y7 c7, .slice a8 q8.length c8, .slice x9 y9 z9, .slice x10 y10 z10, .slice x11 y11 z11, .slice x12 y12 z12, .slice x13 q13.length z13, .slice x14 y14 z14, .slice x15 y15 z15, .slice x16 y16 z16] ∧ TyOwn (w.heap.size + 3) l a1 c1 wc ∧ Below w.heap.size w wc)
  case first =>
    have HA := Lib.hid W0
    have HB := Lib.hid W1
    have HC := Lib.hid W2
    clear W0 W1 W2 kq
    have hnm : q8.length ≤ 9223372036854775807 := by omega
    go_wp2_with fail
    have HE8L : Hid (∀ x ∈ q8, x.length = 10) := fun x hx => by obtain ⟨f, hf⟩ := HE8.out x hx; exact expr_len hf
    go_loopw [86] (fun i wr => ∃ (k : Nat) (xs : List (List Value)), k ≤ q8.length ∧ i = .int .i64 k ∧ Hid (xs.length = q8.length) ∧ Hid (∀ x ∈ xs, x.length = 10) ∧ Hid (∀ i, k ≤ i → xs[i]? = q8[i]?) ∧ wr.ownsRow (w.heap.size + 3) 91 10 (.slice a8 q8.length c8) q8.length xs.flatten ∧ TyOwn (w.heap.size + 3) l a1 c1 wr ∧ Below (w.heap.size + 3) wc wr) (fun i _ => q8.length - (intOf i).toNat)
    case atStart => exact ⟨0, q8, by omega, rfl, rfl, HE8L.out, fun _ _ => rfl, o1, o0, Below.refl _ _⟩
    case round =>
      obtain ⟨k, xs, hk, rfl, hxl, hxK, hxk, hown, p0, hbl⟩ := hrel
      have hbw : Below w.heap.size w wr := hb.trans (hbl.mono (by omega))
      have WQ : Whole wr (w.heap.size + 2) 48 _ := Whole.under hbl HC.out (by omega)
      have kq := (WQ.both 8 _ rfl).1
      have HWQ := Lib.hid WQ
      clear WQ
      by_cases hlt : k < q8.length
      · obtain ⟨g, cap, cur, hv, hg, hW, hnc, hcm, hcs, htk⟩ := own_open hown (by omega)
        simp only [Value.slice.injEq] at hv
        obtain ⟨rfl, -, rfl⟩ := hv
        have hkx : q8[k]? = some q8[k] := List.getElem?_eq_getElem hlt
        have hxx := (hxk.out k (Nat.le_refl _)).trans hkx
        obtain ⟨f1, hrd⟩ := HE8.out _ (List.getElem_mem hlt)
        generalize q8[k] = x at *
        obtain ⟨f2, xop, xa, xrel, xb, t0, t1, t2, t3, xnv, xkv, xnn, xns, xks, -, rfl, -, -, -, -, -⟩ := expr_open hrd
        have q0' := row_cell hW hxK.out htk hxx 0 _ rfl
        have q1' := row_cell hW hxK.out htk hxx 1 _ rfl
        have q2' := row_cell hW hxK.out htk hxx 2 _ rfl
        have q3' := row_cell hW hxK.out htk hxx 3 _ rfl
        have q4' := row_cell hW hxK.out htk hxx 4 _ rfl
        have q5' := row_cell hW hxK.out htk hxx 5 _ rfl
        have q6' := row_cell hW hxK.out htk hxx 6 _ rfl
        have q7' := row_cell hW hxK.out htk hxx 7 _ rfl
        have q8' := row_cell hW hxK.out htk hxx 8 _ rfl
        have q9' := row_cell hW hxK.out htk hxx 9 _ rfl
        rw [Nat.add_zero] at q0'
        have HG := Lib.hid hW
        have HF := Lib.hid (And.intro hcs htk)
        have HXX := Lib.hid hxx
        have HRD := Lib.hid hrd
        clear hW hcs htk hxx hrd
        clear hkx
        go_upto_region 18 with fail
        go_region_with ((go_at_call 32; go_must (refine (expr_any f1 f1 (Nat.le_refl _) _ _ (HRD.out.keep (Below.trans (b := wr) hbw (by go_grown)))).mono ?_; rintro e w3 ⟨op3, a3, rel3, b3, na3, nn3, nc3, r0, r1, r2, r3, ka3, kn3, kc3, rfl, hb3⟩; have hbl3 : Below (w.heap.size + 3) wc w3 := hbl.trans (Below.trans (b := _) (by go_grown) (hb3.mono (Whole.lt HWQ.out))); have W3 := Whole.under hb3 HWQ.out (Whole.lt HWQ.out); have kq3 := (W3.both 8 _ rfl).1; have HG3 := Lib.hid (Whole.under hb3 HG.out (Whole.lt HG.out)); clear W3; have e0' := (hb3.cell (p := ⟨g, k * 10, none⟩) (Whole.lt HG.out)).trans q0'; have f0' := HG3.out.frozen (k * 10); have e1' := (hb3.cell (p := ⟨g, k * 10 + 1, none⟩) (Whole.lt HG.out)).trans q1'; have f1' := HG3.out.frozen (k * 10 + 1); have e2' := (hb3.cell (p := ⟨g, k * 10 + 2, none⟩) (Whole.lt HG.out)).trans q2'; have f2' := HG3.out.frozen (k * 10 + 2); have e3' := (hb3.cell (p := ⟨g, k * 10 + 3, none⟩) (Whole.lt HG.out)).trans q3'; have f3' := HG3.out.frozen (k * 10 + 3); have e4' := (hb3.cell (p := ⟨g, k * 10 + 4, none⟩) (Whole.lt HG.out)).trans q4'; have f4' := HG3.out.frozen (k * 10 + 4); have e5' := (hb3.cell (p := ⟨g, k * 10 + 5, none⟩) (Whole.lt HG.out)).trans q5'; have f5' := HG3.out.frozen (k * 10 + 5); have e6' := (hb3.cell (p := ⟨g, k * 10 + 6, none⟩) (Whole.lt HG.out)).trans q6'; have f6' := HG3.out.frozen (k * 10 + 6); have e7' := (hb3.cell (p := ⟨g, k * 10 + 7, none⟩) (Whole.lt HG.out)).trans q7'; have f7' := HG3.out.frozen (k * 10 + 7); have e8' := (hb3.cell (p := ⟨g, k * 10 + 8, none⟩) (Whole.lt HG.out)).trans q8'; have f8' := HG3.out.frozen (k * 10 + 8); have e9' := (hb3.cell (p := ⟨g, k * 10 + 9, none⟩) (Whole.lt HG.out)).trans q9'; have f9' := HG3.out.frozen (k * 10 + 9); have p0_3 := TyOwn.keep hb3 p0 (Nat.le_refl _))))
        all_goals
          obtain ⟨S, SW⟩ := setCells_blk [.int .i64 op3, .int .i64 a3, .int .i64 rel3, .int .i64 b3, .slice na3 nn3 nc3, .int .u64 r0, .int .u64 r1, .int .u64 r2, .int .u64 r3, .slice ka3 kn3 kc3] (k * 10) cur w3 HG3.out
          replace S := Lib.hid S
          replace SW := Lib.hid SW
          clear q0' e0' f0' q1' e1' f1' q2' e2' f2' q3' e3' f3' q4' e4' f4' q5' e5' f5' q6' e6' f6' q7' e7' f7' q8' e8' f8' q9' e9' f9'
          go_wp2
          go_roundw
          case rel =>
            refine ⟨k + 1, xs.set k _, by omega, by go_num, (List.length_set ..).trans hxl.out, ?_, ?_, own_splice hxK.out hxl.out hg hnc hcm HF.out.1 HF.out.2 HXX.out (o := 0) (l := [.int .i64 op3, .int .i64 a3, .int .i64 rel3, .int .i64 b3, .slice na3 nn3 nc3, .int .u64 r0, .int .u64 r1, .int .u64 r2, .int .u64 r3, .slice ka3 kn3 kc3]) (by show 0 + 10 ≤ 10; omega) SW.out, TyOwn.blk S.out p0_3 HG3.out (by decide), hbl3.trans (S.out.below hg)⟩
            · intro x hx
              rcases List.mem_or_eq_of_mem_set hx with h | rfl
              · exact hxK.out x h
              · rfl
            · intro i hi
              rw [List.getElem?_set_ne (by omega)]
              exact hxk.out i (by omega)
          case measure => simp [intOf]; omega
      · go_wp2_with fail
        go_meet
        exact ⟨a0, c0, a1, c1, a2, c2, a3, c3, a4, c4, a5, c5, a6, c6, a7, c7, a8, c8, Whole.under hbl HA.out (by omega), Whole.under hbl HB.out (by omega), HWQ.out, p0, hbw⟩
  case rest =>
  obtain ⟨a0, c0, a1, c1, a2, c2, a3, c3, a4, c4, a5, c5, a6, c6, a7, c7, a8, c8, W0, W1, W2, o0, hb⟩ := hcut
  rename_i hK
  refine hK _ _ ?_
  clear hK
  exact cloneC w wc l q0 q8 q13 x0 z0 x1 z1 x2 z2 y2 x3 z3 y3 x4 z4 y4 x5 z5 y5 x6 z6 y6 x7 z7 y7 x8 z8 x9 z9 y9 x10 z10 y10 x11 z11 y11 x12 z12 y12 x13 z13 x14 z14 y14 x15 z15 y15 x16 z16 y16 d9 d10 d11 d12 d14 d15 d16 HS9 b9 HS10 b10 HS11 b11 HS12 b12 HS13 b13 HS14 b14 HS15 b15 HS16 b16 HE13 a0 c0 a1 c1 a2 c2 a3 c3 a4 c4 a5 c5 a6 c6 a7 c7 a8 c8 W0 W1 W2 o0 hb _ _ _ _ _ _ _ _ _ _ _ _ _ _ _ _ _ _ _ _ _ _ _ _ _ _ _ _ _ _ _ _ _ _ _ _ _ _ _ _ _ _ _ _ _ _ _ _ _ _ _ _ _ _ _ _ _ _ _ _ _ _ _ _ _ _ _ _ _ _ _ _ _ _ _ _ _ _ _ _ _ _ _ _ _ _ _ _ _ _ _ _ _ _ _ _ _ _ _ _ _ _ _ _ _ _ _ _ _ _ _ _ _ _ _ _ _ _ _ _ _ _ _ _ _ _ _ _ _ _ _ _ _ _ _ _ _ _ _ _ _ _ _ _ _ _ _ _ _

end Go.Proofs.Ytjpfnndfhbglgaa

import Derived.WalkKit
import Derived.WalkSpells
import Derived.WalkLawsBesides
import Derived.Handy
import Derived.BigQuiet
import Derived.Outline
import Derived.Deep.RegionHeld3
import Derived.Deep.DeepCutAuto
import Derived.Deep.DeepMust
import Derived.Deep.DeepFit
import Derived.Deep.LoopGhost
import Derived.Lib.Hide
import Derived.IntWalk
import Derived.Deep.CutBlock
import Derived.Deep.RegionWith
import Derived.Test.YtjpfnndfhbglgaaI
/-
  THE LAST PART OF mode.clone (printed by a program).
-/
namespace Go.Proofs.Ytjpfnndfhbglgaa
open Go.RowKit

set_option maxRecDepth 100000 in
set_option maxHeartbeats 40000000 in
theorem cloneC (w wc : World) (l : List Ty) (q0 q8 q13 : List (List Value)) (x0 : Option Addr) (z0 : Nat) (x1 : Option Addr) (z1 : Nat) (x2 : Option Addr) (z2 : Nat) (y2 : Nat) (x3 : Option Addr) (z3 : Nat) (y3 : Nat) (x4 : Option Addr) (z4 : Nat) (y4 : Nat) (x5 : Option Addr) (z5 : Nat) (y5 : Nat) (x6 : Option Addr) (z6 : Nat) (y6 : Nat) (x7 : Option Addr) (z7 : Nat) (y7 : Nat) (x8 : Option Addr) (z8 : Nat) (x9 : Option Addr) (z9 : Nat) (y9 : Nat) (x10 : Option Addr) (z10 : Nat) (y10 : Nat) (x11 : Option Addr) (z11 : Nat) (y11 : Nat) (x12 : Option Addr) (z12 : Nat) (y12 : Nat) (x13 : Option Addr) (z13 : Nat) (x14 : Option Addr) (z14 : Nat) (y14 : Nat) (x15 : Option Addr) (z15 : Nat) (y15 : Nat) (x16 : Option Addr) (z16 : Nat) (y16 : Nat)
    (d9 : List Value) (d10 : List Value) (d11 : List Value) (d12 : List Value) (d14 : List Value) (d15 : List Value) (d16 : List Value)
    (HS9 : Hid (SliceAt w (.slice x9 y9 z9) 13 y9 d9)) (b9 : y9 * 104 ≤ 140737488355328)
    (HS10 : Hid (SliceAt w (.slice x10 y10 z10) 13 y10 d10)) (b10 : y10 * 112 ≤ 140737488355328)
    (HS11 : Hid (SliceAt w (.slice x11 y11 z11) 10 y11 d11)) (b11 : y11 * 80 ≤ 140737488355328)
    (HS12 : Hid (SliceAt w (.slice x12 y12 z12) 13 y12 d12)) (b12 : y12 * 104 ≤ 140737488355328)
    (HS13 : Hid (SliceAt w (.slice x13 q13.length z13) 13 q13.length q13.flatten)) (b13 : q13.length * 128 ≤ 140737488355328)
    (HS14 : Hid (SliceAt w (.slice x14 y14 z14) 8 y14 d14)) (b14 : y14 * 72 ≤ 140737488355328)
    (HS15 : Hid (SliceAt w (.slice x15 y15 z15) 9 y15 d15)) (b15 : y15 * 80 ≤ 140737488355328)
    (HS16 : Hid (SliceAt w (.slice x16 y16 z16) 10 y16 d16)) (b16 : y16 * 88 ≤ 140737488355328)
    (HE13 : Hid (∀ x ∈ q13, ∃ (c p : Int) (b : Bool) (e : List Value), x = .int .i64 c :: .int .u32 p :: .bool b :: e ∧ ∃ f, Rd Try.prog w f 91 e))
    (a0 : Option Addr) (c0 : Nat) (a1 : Option Addr) (c1 : Nat) (a2 : Option Addr) (c2 : Nat) (a3 : Option Addr) (c3 : Nat) (a4 : Option Addr) (c4 : Nat) (a5 : Option Addr) (c5 : Nat) (a6 : Option Addr) (c6 : Nat) (a7 : Option Addr) (c7 : Nat) (a8 : Option Addr) (c8 : Nat)
    (W0 : Whole wc w.heap.size 48 #[.slice x0 q0.length z0, .slice x1 l.length z1, .slice x2 y2 z2, .slice x3 y3 z3, .slice x4 y4 z4, .slice x5 y5 z5, .slice x6 y6 z6, .slice x7 y7 z7, .slice x8 q8.length z8, .slice x9 y9 z9, .slice x10 y10 z10, .slice x11 y11 z11, .slice x12 y12 z12, .slice x13 q13.length z13, .slice x14 y14 z14, .slice x15 y15 z15, .slice x16 y16 z16]) (W1 : Whole wc (w.heap.size + 1) 48 #[.slice none 0 0, .slice none 0 0, .slice none 0 0, .slice none 0 0, .slice none 0 0, .slice none 0 0, .slice none 0 0, .slice none 0 0, .slice none 0 0, .slice none 0 0, .slice none 0 0, .slice none 0 0, .slice none 0 0, .slice none 0 0, .slice none 0 0, .slice none 0 0, .slice none 0 0]) (W2 : Whole wc (w.heap.size + 2) 48 #[.slice a0 q0.length c0, .slice a1 l.length c1, .slice a2 y2 c2, .slice a3 y3 c3, .slice a4 y4 c4, .slice a5 y5 c5, .slice a6 y6 c6, .slice a7 y7 c7, .slice a8 q8.length c8, .slice x9 y9 z9, .slice x10 y10 z10, .slice x11 y11 z11, .slice x12 y12 z12, .slice x13 q13.length z13, .slice x14 y14 z14, .slice x15 y15 z15, .slice x16 y16 z16]) (o0 : TyOwn (w.heap.size + 3) l a1 c1 wc) (hb : Below w.heap.size w wc)
    (s0 s4 s5 s6 s7 s8 s9 s10 s11 s12 s13 s14 s15 s16 s17 s18 s19 s20 s21 s22 s23 s24 s25 s26 s27 s28 s29 s30 s31 s32 s33 s34 s35 s36 s37 s38 s39 s40 s41 s42 s43 s44 s45 s46 s47 s48 s49 s50 s51 s52 s53 s54 s55 s56 s57 s58 s59 s60 s61 s62 s63 s64 s65 s66 s67 s68 s69 s70 s71 s72 s73 s74 s75 s76 s77 s78 s79 s80 s81 s82 s83 s84 s85 s86 s87 s88 s89 s90 s91 s92 s93 s94 s95 s96 s97 s98 s99 s100 s101 s102 s103 s104 s105 s106 s107 s108 s109 s110 s111 s112 s113 s114 s115 s116 s117 s118 s119 s120 s121 s122 s123 s124 s125 s126 s127 s128 s129 s130 s131 s132 s133 s134 s135 s136 s137 s138 s139 s140 s141 s142 s143 s144 s145 s146 s147 s148 s149 s150 s151 : Value) :
    Code.wp Try.prog (seqTail 8 ((Try.f21.body).getD .skip)) (bodyPost Try.prog Try.f21 (ClonePost w ⟨.slice x0 q0.length z0, .slice x1 l.length z1, .slice x2 y2 z2, .slice x3 y3 z3, .slice x4 y4 z4, .slice x5 y5 z5, .slice x6 y6 z6, .slice x7 y7 z7, .slice x8 q8.length z8, .slice x9 y9 z9, .slice x10 y10 z10, .slice x11 y11 z11, .slice x12 y12 z12, .slice x13 q13.length z13, .slice x14 y14 z14, .slice x15 y15 z15, .slice x16 y16 z16⟩ l)) ⟨#[s0, .pointer (some ⟨w.heap.size, 0, none⟩), .pointer (some ⟨(w.heap.size + 1), 0, none⟩), .pointer (some ⟨(w.heap.size + 2), 0, none⟩), s4, s5, s6, s7, s8, s9, s10, s11, s12, s13, s14, s15, s16, s17, s18, s19, s20, s21, s22, s23, s24, s25, s26, s27, s28, s29, s30, s31, s32, s33, s34, s35, s36, s37, s38, s39, s40, s41, s42, s43, s44, s45, s46, s47, s48, s49, s50, s51, s52, s53, s54, s55, s56, s57, s58, s59, s60, s61, s62, s63, s64, s65, s66, s67, s68, s69, s70, s71, s72, s73, s74, s75, s76, s77, s78, s79, s80, s81, s82, s83, s84, s85, s86, s87, s88, s89, s90, s91, s92, s93, s94, s95, s96, s97, s98, s99, s100, s101, s102, s103, s104, s105, s106, s107, s108, s109, s110, s111, s112, s113, s114, s115, s116, s117, s118, s119, s120, s121, s122, s123, s124, s125, s126, s127, s128, s129, s130, s131, s132, s133, s134, s135, s136, s137, s138, s139, s140, s141, s142, s143, s144, s145, s146, s147, s148, s149, s150, s151], []⟩ wc := by
  conv => arg 2; whnf
  conv => arg 4; dsimp only
  go_upto_region 20 with fail
  go_cut [] (fun wc => ∃ (a0 : Option Addr) (c0 : Nat) (a1 : Option Addr) (c1 : Nat) (a2 : Option Addr) (c2 : Nat) (a3 : Option Addr) (c3 : Nat) (a4 : Option Addr) (c4 : Nat) (a5 : Option Addr) (c5 : Nat) (a6 : Option Addr) (c6 : Nat) (a7 : Option Addr) (c7 : Nat) (a8 : Option Addr) (c8 : Nat) (a9 : Option Addr) (c9 : Nat) (a10 : Option Addr) (c10 : Nat) (a11 : Option Addr) (c11 : Nat) (a12 : Option Addr) (c12 : Nat) , Whole wc w.heap.size 48 #[.slice x0 q0.length z0, .slice x1 l.length z1, .slice x2 y2 z2, .slice x3 y3 z3, .slice x4 y4 z4, .slice x5 y5 z5, .slice x6 y6 z6, .slice x7 y7 z7, .slice x8 q8.length z8, .slice x9 y9 z9, .slice x10 y10 z10, .slice x11 y11 z11, .slice x12 y12 z12, .slice x13 q13.length z13, .slice x14 y14 z14, .slice x15 y15 z15, .slice x16 y16 z16] ∧ Whole wc (w.heap.size + 1) 48 #[.slice none 0 0, .slice none 0 0, .slice none 0 0, .slice none 0 0, .slice none 0 0, .slice none 0 0, .slice none 0 0, .slice none 0 0, .slice none 0 0, .slice none 0 0, .slice none 0 0, .slice none 0 0, .slice none 0 0, .slice none 0 0, .slice none 0 0, .slice none 0 0, .slice none 0 0] ∧ Whole wc (w.heap.size + 2) 48 #[.slice a0 q0.length c0, .slice a1 l.length c1, .slice a2 y2 c2, .slice a3 y3 c3, .slice a4 y4 c4, .slice a5 y5 c5, .slice a6 y6 c6, .slice a7 y7 c7, .slice a8 q8.length c8, .slice a9 y9 c9, .slice a10 y10 c10, .slice a11 y11 c11, .slice a12 y12 c12, .slice x13 q13.length z13, .slice x14 y14 z14, .slice x15 y15 z15, .slice x16 y16 z16] ∧ TyOwn (w.heap.size + 3) l a1 c1 wc ∧ Below w.heap.size w wc)
  case first =>
    have HA := Lib.hid W0
    have HB := Lib.hid W1
    have HC := Lib.hid W2
    have kg9 := (W0.both 9 _ rfl).1
    have kg10 := (W0.both 10 _ rfl).1
    have kg11 := (W0.both 11 _ rfl).1
    have kg12 := (W0.both 12 _ rfl).1
    clear W0 W1 W2
    go_region_held3 (fun w' => w'.cell? ⟨w.heap.size, 9, none⟩ = some (.slice x9 y9 z9) ∧ w'.cell? ⟨w.heap.size, 10, none⟩ = some (.slice x10 y10 z10) ∧ w'.cell? ⟨w.heap.size, 11, none⟩ = some (.slice x11 y11 z11) ∧ w'.cell? ⟨w.heap.size, 12, none⟩ = some (.slice x12 y12 z12)) (go_keep)
        (first
          | (go_at_call_of 33 (Value.slice x9 y9 z9); go_must (refine (clone33 _ y9 d9 _ ?_ b9).mono ?_; (exact HS9.out.keep (by first | exact hb | exact hb.drew)); rintro e w9 ⟨a9, c9, rfl, n9, -, hb9⟩; have hw9 : Below w.heap.size w w9 := Below.trans (b := _) (by first | exact hb | exact hb.drew) (hb9.mono (Nat.le_of_lt (Whole.lt HA.out))); have HA9 := Lib.hid (Whole.under hb9 HA.out (Whole.lt HA.out)); have HB9 := Lib.hid (Whole.under hb9 HB.out (Whole.lt HB.out)); have HC9 := Lib.hid (Whole.under hb9 HC.out (Whole.lt HC.out)); have o0_9 := TyOwn.keep hb9 o0 (Nat.le_refl _); have kg9_9 := (HA9.out.both 9 _ rfl).1; have kg10_9 := (HA9.out.both 10 _ rfl).1; have kg11_9 := (HA9.out.both 11 _ rfl).1; have kg12_9 := (HA9.out.both 12 _ rfl).1))
          | (go_at_call_of 34 (Value.slice x10 y10 z10); go_must (refine (clone34 _ y10 d10 _ ?_ b10).mono ?_; (exact HS10.out.keep (by first | exact hw9 | exact hw9.drew)); rintro e w10 ⟨a10, c10, rfl, n10, -, hb10⟩; have hw10 : Below w.heap.size w w10 := Below.trans (b := _) (by first | exact hw9 | exact hw9.drew) (hb10.mono (Nat.le_of_lt (Whole.lt HA9.out))); have HA10 := Lib.hid (Whole.under hb10 HA9.out (Whole.lt HA9.out)); have HB10 := Lib.hid (Whole.under hb10 HB9.out (Whole.lt HB9.out)); have HC10 := Lib.hid (Whole.under hb10 HC9.out (Whole.lt HC9.out)); have o0_10 := TyOwn.keep hb10 o0_9 (Nat.le_refl _); have n9_10 := own_keep hb10 n9 (Nat.le_refl _); have kg9_10 := (HA10.out.both 9 _ rfl).1; have kg10_10 := (HA10.out.both 10 _ rfl).1; have kg11_10 := (HA10.out.both 11 _ rfl).1; have kg12_10 := (HA10.out.both 12 _ rfl).1))
          | (go_at_call_of 35 (Value.slice x11 y11 z11); go_must (refine (clone35 _ y11 d11 _ ?_ b11).mono ?_; (exact HS11.out.keep (by first | exact hw10 | exact hw10.drew)); rintro e w11 ⟨a11, c11, rfl, n11, -, hb11⟩; have hw11 : Below w.heap.size w w11 := Below.trans (b := _) (by first | exact hw10 | exact hw10.drew) (hb11.mono (Nat.le_of_lt (Whole.lt HA10.out))); have HA11 := Lib.hid (Whole.under hb11 HA10.out (Whole.lt HA10.out)); have HB11 := Lib.hid (Whole.under hb11 HB10.out (Whole.lt HB10.out)); have HC11 := Lib.hid (Whole.under hb11 HC10.out (Whole.lt HC10.out)); have o0_11 := TyOwn.keep hb11 o0_10 (Nat.le_refl _); have n9_11 := own_keep hb11 n9_10 (Nat.le_refl _); have n10_11 := own_keep hb11 n10 (Nat.le_refl _); have kg9_11 := (HA11.out.both 9 _ rfl).1; have kg10_11 := (HA11.out.both 10 _ rfl).1; have kg11_11 := (HA11.out.both 11 _ rfl).1; have kg12_11 := (HA11.out.both 12 _ rfl).1))
          | (go_at_call_of 36 (Value.slice x12 y12 z12); go_must (refine (clone36 _ y12 d12 _ ?_ b12).mono ?_; (exact HS12.out.keep (by first | exact hw11 | exact hw11.drew)); rintro e w12 ⟨a12, c12, rfl, n12, -, hb12⟩; have hw12 : Below w.heap.size w w12 := Below.trans (b := _) (by first | exact hw11 | exact hw11.drew) (hb12.mono (Nat.le_of_lt (Whole.lt HA11.out))); have HA12 := Lib.hid (Whole.under hb12 HA11.out (Whole.lt HA11.out)); have HB12 := Lib.hid (Whole.under hb12 HB11.out (Whole.lt HB11.out)); have HC12 := Lib.hid (Whole.under hb12 HC11.out (Whole.lt HC11.out)); have o0_12 := TyOwn.keep hb12 o0_11 (Nat.le_refl _); have n9_12 := own_keep hb12 n9_11 (Nat.le_refl _); have n10_12 := own_keep hb12 n10_11 (Nat.le_refl _); have n11_12 := own_keep hb12 n11 (Nat.le_refl _); have kg9_12 := (HA12.out.both 9 _ rfl).1; have kg10_12 := (HA12.out.both 10 _ rfl).1; have kg11_12 := (HA12.out.both 11 _ rfl).1; have kg12_12 := (HA12.out.both 12 _ rfl).1; have ⟨ks9, fs9⟩ := HC12.out.both 9 _ rfl; have ⟨ks10, fs10⟩ := HC12.out.both 10 _ rfl; have ⟨ks11, fs11⟩ := HC12.out.both 11 _ rfl; have ⟨ks12, fs12⟩ := HC12.out.both 12 _ rfl)))
    go_wp2_with fail
    go_meet
    have S := ((((Sto.cell w12 (w.heap.size + 2) 9 (.slice a9 y9 c9)).trans (Sto.cell _ (w.heap.size + 2) 10 (.slice a10 y10 c10))).trans (Sto.cell _ (w.heap.size + 2) 11 (.slice a11 y11 c11))).trans (Sto.cell _ (w.heap.size + 2) 12 (.slice a12 y12 c12)))
    exact ⟨a0, c0, a1, c1, a2, c2, a3, c3, a4, c4, a5, c5, a6, c6, a7, c7, a8, c8, a9, c9, a10, c10, a11, c11, a12, c12, S.whole HA12.out (by omega), S.whole HB12.out (by omega), heap_setCell_same _ _ 12 _ _ _ (heap_setCell_same _ _ 11 _ _ _ (heap_setCell_same _ _ 10 _ _ _ (heap_setCell_same _ _ 9 _ _ _ HC12.out))), TyOwn.sto S o0_12 (by omega), hw12.trans (S.below (by omega))⟩
  case rest =>
  obtain ⟨a0, c0, a1, c1, a2, c2, a3, c3, a4, c4, a5, c5, a6, c6, a7, c7, a8, c8, a9, c9, a10, c10, a11, c11, a12, c12, W0, W1, W2, o0, hb⟩ := hcut
  go_upto_region 21 with fail
  go_cut [] (fun wc => ∃ (a0 : Option Addr) (c0 : Nat) (a1 : Option Addr) (c1 : Nat) (a2 : Option Addr) (c2 : Nat) (a3 : Option Addr) (c3 : Nat) (a4 : Option Addr) (c4 : Nat) (a5 : Option Addr) (c5 : Nat) (a6 : Option Addr) (c6 : Nat) (a7 : Option Addr) (c7 : Nat) (a8 : Option Addr) (c8 : Nat) (a9 : Option Addr) (c9 : Nat) (a10 : Option Addr) (c10 : Nat) (a11 : Option Addr) (c11 : Nat) (a12 : Option Addr) (c12 : Nat) (a13 : Option Addr) (c13 : Nat) , Whole wc w.heap.size 48 #[.slice x0 q0.length z0, .slice x1 l.length z1, .slice x2 y2 z2, .slice x3 y3 z3, .slice x4 y4 z4, .slice x5 y5 z5, .slice x6 y6 z6, .slice x7 y7 z7, .slice x8 q8.length z8, .slice x9 y9 z9, .slice x10 y10 z10, .slice x11 y11 z11, .slice x12 y12 z12, .slice x13 q13.length z13, .slice x14 y14 z14, .slice x15 y15 z15, .slice x16 y16 z16] ∧ Whole wc (w.heap.size + 1) 48 #[.slice none 0 0, .slice none 0 0, .slice none 0 0, .slice none 0 0, .slice none 0 0, .slice none 0 0, .slice none 0 0, .slice none 0 0, .slice none 0 0, .slice none 0 0, .slice none 0 0, .slice none 0 0, .slice none 0 0, .slice none 0 0, .slice none 0 0, .slice none 0 0, .slice none 0 0] ∧ Whole wc (w.heap.size + 2) 48 #[.slice a0 q0.length c0, .slice a1 l.length c1, .slice a2 y2 c2, .slice a3 y3 c3, .slice a4 y4 c4, .slice a5 y5 c5, .slice a6 y6 c6, .slice a7 y7 c7, .slice a8 q8.length c8, .slice a9 y9 c9, .slice a10 y10 c10, .slice a11 y11 c11, .slice a12 y12 c12, .slice a13 q13.length c13, .slice x14 y14 z14, .slice x15 y15 z15, .slice x16 y16 z16] ∧ TyOwn (w.heap.size + 3) l a1 c1 wc ∧ wc.ownsRow (w.heap.size + 3) 107 13 (.slice a13 q13.length c13) q13.length q13.flatten ∧ Below w.heap.size w wc)
  case first =>
    have HA := Lib.hid W0
    have HB := Lib.hid W1
    have HC := Lib.hid W2
    have kg13 := (W0.both 13 _ rfl).1
    clear W0 W1 W2
    go_wp2_with (first
          | (go_at_call_of 37 (Value.slice x13 q13.length z13); go_must (refine (clone37 _ q13.length q13.flatten _ ?_ b13).mono ?_; (exact HS13.out.keep (by first | exact hb | exact hb.drew)); rintro e w13 ⟨a13, c13, rfl, n13, -, hb13⟩; have hw13 : Below w.heap.size w w13 := Below.trans (b := _) (by first | exact hb | exact hb.drew) (hb13.mono (Nat.le_of_lt (Whole.lt HA.out))); have HA13 := Lib.hid (Whole.under hb13 HA.out (Whole.lt HA.out)); have HB13 := Lib.hid (Whole.under hb13 HB.out (Whole.lt HB.out)); have HC13 := Lib.hid (Whole.under hb13 HC.out (Whole.lt HC.out)); have o0_13 := TyOwn.keep hb13 o0 (Nat.le_refl _); have kg13_13 := (HA13.out.both 13 _ rfl).1; have ⟨ks13, fs13⟩ := HC13.out.both 13 _ rfl)))
    go_meet
    have S := (Sto.cell w13 (w.heap.size + 2) 13 (.slice a13 q13.length c13))
    exact ⟨a0, c0, a1, c1, a2, c2, a3, c3, a4, c4, a5, c5, a6, c6, a7, c7, a8, c8, a9, c9, a10, c10, a11, c11, a12, c12, a13, c13, S.whole HA13.out (by omega), S.whole HB13.out (by omega), heap_setCell_same _ _ 13 _ _ _ HC13.out, TyOwn.sto S o0_13 (by omega), S.own (own_low n13 (Whole.lt HC.out)) (own_far n13 (Whole.lt HC.out)), hw13.trans (S.below (by omega))⟩
  case rest =>
  obtain ⟨a0, c0, a1, c1, a2, c2, a3, c3, a4, c4, a5, c5, a6, c6, a7, c7, a8, c8, a9, c9, a10, c10, a11, c11, a12, c12, a13, c13, W0, W1, W2, o0, o1, hb⟩ := hcut
  have kq := (W2.both 13 _ rfl).1
  go_upto_block 6 with fail
  go_cut [] (fun wc => ∃ (a0 : Option Addr) (c0 : Nat) (a1 : Option Addr) (c1 : Nat) (a2 : Option Addr) (c2 : Nat) (a3 : Option Addr) (c3 : Nat) (a4 : Option Addr) (c4 : Nat) (a5 : Option Addr) (c5 : Nat) (a6 : Option Addr) (c6 : Nat) (a7 : Option Addr) (c7 : Nat) (a8 : Option Addr) (c8 : Nat) (a9 : Option Addr) (c9 : Nat) (a10 : Option Addr) (c10 : Nat) (a11 : Option Addr) (c11 : Nat) (a12 : Option Addr) (c12 : Nat) (a13 : Option Addr) (c13 : Nat) , Whole wc w.heap.size 48 #[.slice x0 q0.length z0, .slice x1 l.length z1, .slice x2 y2 z2, .slice x3 y3 z3, .slice x4 y4 z4, .slice x5 y5 z5, .slice x6 y6 z6, .slice x7 y7 z7, .slice x8 q8.length z8, .slice x9 y9 z9, .slice x10 y10 z10, .slice x11 y11 z11, .slice x12 y12 z12, .slice x13 q13.length z13, .slice x14 y14 z14, .slice x15 y15 z15, .slice x16 y16 z16] ∧ Whole wc (w.heap.size + 1) 48 #[.slice none 0 0, .slice none 0 0, .slice none 0 0, .slice none 0 0, .slice none 0 0, .slice none 0 0, .slice none 0 0, .slice none 0 0, .slice none 0 0, .slice none 0 0, .slice none 0 0, .slice none 0 0, .slice none 0 0, .slice none 0 0, .slice none 0 0, .slice none 0 0, .slice none 0 0] ∧ Whole wc (w.heap.size + 2) 48 #[.slice a0 q0.length c0, .slice a1 l.length c1, .slice a2 y2 c2, .slice a3 y3 c3, .slice a4 y4 c4, .slice a5 y5 c5, .slice a6 y6 c6, .slice a7 y7 c7, .slice a8 q8.length c8, .slice a9 y9 c9, .slice a10 y10 c10, .slice a11 y11 c11, .slice a12 y12 c12, .slice a13 q13.length c13, .slice x14 y14 z14, .slice x15 y15 z15, .slice x16 y16 z16] ∧ TyOwn (w.heap.size + 3) l a1 c1 wc ∧ Below w.heap.size w wc)
  case first =>
    have HA := Lib.hid W0
    have HB := Lib.hid W1
    have HC := Lib.hid W2
    clear W0 W1 W2 kq
    have hnm : q13.length ≤ 9223372036854775807 := by omega
    go_wp2_with fail
    have HE13L : Hid (∀ x ∈ q13, x.length = 13) := fun x hx => by obtain ⟨c, p, b, e, rfl, f, hf⟩ := HE13.out x hx; simp [expr_len hf]
    go_loopw [123] (fun i wr => ∃ (k : Nat) (xs : List (List Value)), k ≤ q13.length ∧ i = .int .i64 k ∧ Hid (xs.length = q13.length) ∧ Hid (∀ x ∈ xs, x.length = 13) ∧ Hid (∀ i, k ≤ i → xs[i]? = q13[i]?) ∧ wr.ownsRow (w.heap.size + 3) 107 13 (.slice a13 q13.length c13) q13.length xs.flatten ∧ TyOwn (w.heap.size + 3) l a1 c1 wr ∧ Below (w.heap.size + 3) wc wr) (fun i _ => q13.length - (intOf i).toNat)
    case atStart => exact ⟨0, q13, by omega, rfl, rfl, HE13L.out, fun _ _ => rfl, o1, o0, Below.refl _ _⟩
    case round =>
      obtain ⟨k, xs, hk, rfl, hxl, hxK, hxk, hown, p0, hbl⟩ := hrel
      have hbw : Below w.heap.size w wr := hb.trans (hbl.mono (by omega))
      have WQ : Whole wr (w.heap.size + 2) 48 _ := Whole.under hbl HC.out (by omega)
      have kq := (WQ.both 13 _ rfl).1
      have HWQ := Lib.hid WQ
      clear WQ
      by_cases hlt : k < q13.length
      · obtain ⟨g, cap, cur, hv, hg, hW, hnc, hcm, hcs, htk⟩ := own_open hown (by omega)
        simp only [Value.slice.injEq] at hv
        obtain ⟨rfl, -, rfl⟩ := hv
        have hkx : q13[k]? = some q13[k] := List.getElem?_eq_getElem hlt
        have hxx := (hxk.out k (Nat.le_refl _)).trans hkx
        obtain ⟨ec, ep, eb, x, hx, f1, hrd⟩ := HE13.out _ (List.getElem_mem hlt)
        rw [hx] at hxx
        clear hkx hx
        obtain ⟨f2, xop, xa, xrel, xb, t0, t1, t2, t3, xnv, xkv, xnn, xns, xks, -, rfl, -, -, -, -, -⟩ := expr_open hrd
        have q0' := row_cell hW hxK.out htk hxx 3 _ rfl
        have q1' := row_cell hW hxK.out htk hxx 4 _ rfl
        have q2' := row_cell hW hxK.out htk hxx 5 _ rfl
        have q3' := row_cell hW hxK.out htk hxx 6 _ rfl
        have q4' := row_cell hW hxK.out htk hxx 7 _ rfl
        have q5' := row_cell hW hxK.out htk hxx 8 _ rfl
        have q6' := row_cell hW hxK.out htk hxx 9 _ rfl
        have q7' := row_cell hW hxK.out htk hxx 10 _ rfl
        have q8' := row_cell hW hxK.out htk hxx 11 _ rfl
        have q9' := row_cell hW hxK.out htk hxx 12 _ rfl
        have HG := Lib.hid hW
        have HF := Lib.hid (And.intro hcs htk)
        have HXX := Lib.hid hxx
        have HRD := Lib.hid hrd
        clear hW hcs htk hxx hrd
        go_upto_region 25 with fail
        go_region_with ((go_at_call 32; go_must (refine (expr_any f1 f1 (Nat.le_refl _) _ _ (HRD.out.keep (Below.trans (b := wr) hbw (by go_grown)))).mono ?_; rintro e w3 ⟨op3, a3, rel3, b3, na3, nn3, nc3, r0, r1, r2, r3, ka3, kn3, kc3, rfl, hb3⟩; have hbl3 : Below (w.heap.size + 3) wc w3 := hbl.trans (Below.trans (b := _) (by go_grown) (hb3.mono (Whole.lt HWQ.out))); have W3 := Whole.under hb3 HWQ.out (Whole.lt HWQ.out); have kq3 := (W3.both 13 _ rfl).1; have HG3 := Lib.hid (Whole.under hb3 HG.out (Whole.lt HG.out)); clear W3; have e0' := (hb3.cell (p := ⟨g, k * 13 + 3, none⟩) (Whole.lt HG.out)).trans q0'; have f0' := HG3.out.frozen (k * 13 + 3); have e1' := (hb3.cell (p := ⟨g, k * 13 + 4, none⟩) (Whole.lt HG.out)).trans q1'; have f1' := HG3.out.frozen (k * 13 + 4); have e2' := (hb3.cell (p := ⟨g, k * 13 + 5, none⟩) (Whole.lt HG.out)).trans q2'; have f2' := HG3.out.frozen (k * 13 + 5); have e3' := (hb3.cell (p := ⟨g, k * 13 + 6, none⟩) (Whole.lt HG.out)).trans q3'; have f3' := HG3.out.frozen (k * 13 + 6); have e4' := (hb3.cell (p := ⟨g, k * 13 + 7, none⟩) (Whole.lt HG.out)).trans q4'; have f4' := HG3.out.frozen (k * 13 + 7); have e5' := (hb3.cell (p := ⟨g, k * 13 + 8, none⟩) (Whole.lt HG.out)).trans q5'; have f5' := HG3.out.frozen (k * 13 + 8); have e6' := (hb3.cell (p := ⟨g, k * 13 + 9, none⟩) (Whole.lt HG.out)).trans q6'; have f6' := HG3.out.frozen (k * 13 + 9); have e7' := (hb3.cell (p := ⟨g, k * 13 + 10, none⟩) (Whole.lt HG.out)).trans q7'; have f7' := HG3.out.frozen (k * 13 + 10); have e8' := (hb3.cell (p := ⟨g, k * 13 + 11, none⟩) (Whole.lt HG.out)).trans q8'; have f8' := HG3.out.frozen (k * 13 + 11); have e9' := (hb3.cell (p := ⟨g, k * 13 + 12, none⟩) (Whole.lt HG.out)).trans q9'; have f9' := HG3.out.frozen (k * 13 + 12); have p0_3 := TyOwn.keep hb3 p0 (Nat.le_refl _))))
        all_goals
          obtain ⟨S, SW⟩ := setCells_blk [.int .i64 op3, .int .i64 a3, .int .i64 rel3, .int .i64 b3, .slice na3 nn3 nc3, .int .u64 r0, .int .u64 r1, .int .u64 r2, .int .u64 r3, .slice ka3 kn3 kc3] (k * 13 + 3) cur w3 HG3.out
          replace S := Lib.hid S
          replace SW := Lib.hid SW
          clear q0' e0' f0' q1' e1' f1' q2' e2' f2' q3' e3' f3' q4' e4' f4' q5' e5' f5' q6' e6' f6' q7' e7' f7' q8' e8' f8' q9' e9' f9'
          go_wp2
          go_roundw
          case rel =>
            refine ⟨k + 1, xs.set k _, by omega, by go_num, (List.length_set ..).trans hxl.out, ?_, ?_, own_splice hxK.out hxl.out hg hnc hcm HF.out.1 HF.out.2 HXX.out (o := 3) (l := [.int .i64 op3, .int .i64 a3, .int .i64 rel3, .int .i64 b3, .slice na3 nn3 nc3, .int .u64 r0, .int .u64 r1, .int .u64 r2, .int .u64 r3, .slice ka3 kn3 kc3]) (by show 3 + 10 ≤ 13; omega) SW.out, TyOwn.blk S.out p0_3 HG3.out (by decide), hbl3.trans (S.out.below hg)⟩
            · intro x hx
              rcases List.mem_or_eq_of_mem_set hx with h | rfl
              · exact hxK.out x h
              · rfl
            · intro i hi
              rw [List.getElem?_set_ne (by omega)]
              exact hxk.out i (by omega)
          case measure => simp [intOf]; omega
      · go_wp2_with fail
        go_meet
        exact ⟨a0, c0, a1, c1, a2, c2, a3, c3, a4, c4, a5, c5, a6, c6, a7, c7, a8, c8, a9, c9, a10, c10, a11, c11, a12, c12, a13, c13, Whole.under hbl HA.out (by omega), Whole.under hbl HB.out (by omega), HWQ.out, p0, hbw⟩
  case rest =>
  obtain ⟨a0, c0, a1, c1, a2, c2, a3, c3, a4, c4, a5, c5, a6, c6, a7, c7, a8, c8, a9, c9, a10, c10, a11, c11, a12, c12, a13, c13, W0, W1, W2, o0, hb⟩ := hcut
  go_upto_region 27 with fail
  go_cut [] (fun wc => ∃ (a0 : Option Addr) (c0 : Nat) (a1 : Option Addr) (c1 : Nat) (a2 : Option Addr) (c2 : Nat) (a3 : Option Addr) (c3 : Nat) (a4 : Option Addr) (c4 : Nat) (a5 : Option Addr) (c5 : Nat) (a6 : Option Addr) (c6 : Nat) (a7 : Option Addr) (c7 : Nat) (a8 : Option Addr) (c8 : Nat) (a9 : Option Addr) (c9 : Nat) (a10 : Option Addr) (c10 : Nat) (a11 : Option Addr) (c11 : Nat) (a12 : Option Addr) (c12 : Nat) (a13 : Option Addr) (c13 : Nat) (a14 : Option Addr) (c14 : Nat) (a15 : Option Addr) (c15 : Nat) (a16 : Option Addr) (c16 : Nat) , Whole wc w.heap.size 48 #[.slice x0 q0.length z0, .slice x1 l.length z1, .slice x2 y2 z2, .slice x3 y3 z3, .slice x4 y4 z4, .slice x5 y5 z5, .slice x6 y6 z6, .slice x7 y7 z7, .slice x8 q8.length z8, .slice x9 y9 z9, .slice x10 y10 z10, .slice x11 y11 z11, .slice x12 y12 z12, .slice x13 q13.length z13, .slice x14 y14 z14, .slice x15 y15 z15, .slice x16 y16 z16] ∧ Whole wc (w.heap.size + 1) 48 #[.slice none 0 0, .slice none 0 0, .slice none 0 0, .slice none 0 0, .slice none 0 0, .slice none 0 0, .slice none 0 0, .slice none 0 0, .slice none 0 0, .slice none 0 0, .slice none 0 0, .slice none 0 0, .slice none 0 0, .slice none 0 0, .slice none 0 0, .slice none 0 0, .slice none 0 0] ∧ Whole wc (w.heap.size + 2) 48 #[.slice a0 q0.length c0, .slice a1 l.length c1, .slice a2 y2 c2, .slice a3 y3 c3, .slice a4 y4 c4, .slice a5 y5 c5, .slice a6 y6 c6, .slice a7 y7 c7, .slice a8 q8.length c8, .slice a9 y9 c9, .slice a10 y10 c10, .slice a11 y11 c11, .slice a12 y12 c12, .slice a13 q13.length c13, .slice a14 y14 c14, .slice a15 y15 c15, .slice a16 y16 c16] ∧ TyOwn (w.heap.size + 3) l a1 c1 wc ∧ Below w.heap.size w wc)
  case first =>
    have HA := Lib.hid W0
    have HB := Lib.hid W1
    have HC := Lib.hid W2
    have kg14 := (W0.both 14 _ rfl).1
    have kg15 := (W0.both 15 _ rfl).1
    have kg16 := (W0.both 16 _ rfl).1
    clear W0 W1 W2
    go_region_held3 (fun w' => w'.cell? ⟨w.heap.size, 14, none⟩ = some (.slice x14 y14 z14) ∧ w'.cell? ⟨w.heap.size, 15, none⟩ = some (.slice x15 y15 z15) ∧ w'.cell? ⟨w.heap.size, 16, none⟩ = some (.slice x16 y16 z16)) (go_keep)
        (first
          | (go_at_call_of 38 (Value.slice x14 y14 z14); go_must (refine (clone38 _ y14 d14 _ ?_ b14).mono ?_; (exact HS14.out.keep (by first | exact hb | exact hb.drew)); rintro e w14 ⟨a14, c14, rfl, n14, -, hb14⟩; have hw14 : Below w.heap.size w w14 := Below.trans (b := _) (by first | exact hb | exact hb.drew) (hb14.mono (Nat.le_of_lt (Whole.lt HA.out))); have HA14 := Lib.hid (Whole.under hb14 HA.out (Whole.lt HA.out)); have HB14 := Lib.hid (Whole.under hb14 HB.out (Whole.lt HB.out)); have HC14 := Lib.hid (Whole.under hb14 HC.out (Whole.lt HC.out)); have o0_14 := TyOwn.keep hb14 o0 (Nat.le_refl _); have kg14_14 := (HA14.out.both 14 _ rfl).1; have kg15_14 := (HA14.out.both 15 _ rfl).1; have kg16_14 := (HA14.out.both 16 _ rfl).1))
          | (go_at_call_of 39 (Value.slice x15 y15 z15); go_must (refine (clone39 _ y15 d15 _ ?_ b15).mono ?_; (exact HS15.out.keep (by first | exact hw14 | exact hw14.drew)); rintro e w15 ⟨a15, c15, rfl, n15, -, hb15⟩; have hw15 : Below w.heap.size w w15 := Below.trans (b := _) (by first | exact hw14 | exact hw14.drew) (hb15.mono (Nat.le_of_lt (Whole.lt HA14.out))); have HA15 := Lib.hid (Whole.under hb15 HA14.out (Whole.lt HA14.out)); have HB15 := Lib.hid (Whole.under hb15 HB14.out (Whole.lt HB14.out)); have HC15 := Lib.hid (Whole.under hb15 HC14.out (Whole.lt HC14.out)); have o0_15 := TyOwn.keep hb15 o0_14 (Nat.le_refl _); have n14_15 := own_keep hb15 n14 (Nat.le_refl _); have kg14_15 := (HA15.out.both 14 _ rfl).1; have kg15_15 := (HA15.out.both 15 _ rfl).1; have kg16_15 := (HA15.out.both 16 _ rfl).1))
          | (go_at_call_of 40 (Value.slice x16 y16 z16); go_must (refine (clone40 _ y16 d16 _ ?_ b16).mono ?_; (exact HS16.out.keep (by first | exact hw15 | exact hw15.drew)); rintro e w16 ⟨a16, c16, rfl, n16, -, hb16⟩; have hw16 : Below w.heap.size w w16 := Below.trans (b := _) (by first | exact hw15 | exact hw15.drew) (hb16.mono (Nat.le_of_lt (Whole.lt HA15.out))); have HA16 := Lib.hid (Whole.under hb16 HA15.out (Whole.lt HA15.out)); have HB16 := Lib.hid (Whole.under hb16 HB15.out (Whole.lt HB15.out)); have HC16 := Lib.hid (Whole.under hb16 HC15.out (Whole.lt HC15.out)); have o0_16 := TyOwn.keep hb16 o0_15 (Nat.le_refl _); have n14_16 := own_keep hb16 n14_15 (Nat.le_refl _); have n15_16 := own_keep hb16 n15 (Nat.le_refl _); have kg14_16 := (HA16.out.both 14 _ rfl).1; have kg15_16 := (HA16.out.both 15 _ rfl).1; have kg16_16 := (HA16.out.both 16 _ rfl).1; have ⟨ks14, fs14⟩ := HC16.out.both 14 _ rfl; have ⟨ks15, fs15⟩ := HC16.out.both 15 _ rfl; have ⟨ks16, fs16⟩ := HC16.out.both 16 _ rfl)))
    go_wp2_with fail
    go_meet
    have S := (((Sto.cell w16 (w.heap.size + 2) 14 (.slice a14 y14 c14)).trans (Sto.cell _ (w.heap.size + 2) 15 (.slice a15 y15 c15))).trans (Sto.cell _ (w.heap.size + 2) 16 (.slice a16 y16 c16)))
    exact ⟨a0, c0, a1, c1, a2, c2, a3, c3, a4, c4, a5, c5, a6, c6, a7, c7, a8, c8, a9, c9, a10, c10, a11, c11, a12, c12, a13, c13, a14, c14, a15, c15, a16, c16, S.whole HA16.out (by omega), S.whole HB16.out (by omega), heap_setCell_same _ _ 16 _ _ _ (heap_setCell_same _ _ 15 _ _ _ (heap_setCell_same _ _ 14 _ _ _ HC16.out)), TyOwn.sto S o0_16 (by omega), hw16.trans (S.below (by omega))⟩
  case rest =>
  obtain ⟨a0, c0, a1, c1, a2, c2, a3, c3, a4, c4, a5, c5, a6, c6, a7, c7, a8, c8, a9, c9, a10, c10, a11, c11, a12, c12, a13, c13, a14, c14, a15, c15, a16, c16, W0, W1, W2, o0, hb⟩ := hcut
  have HB := Lib.hid W1
  have HC := Lib.hid W2
  clear W0 W1 W2
  go_wp2_with (first | (refine wpList_load_row rfl 48 _ rfl (w.heap.size + 2) rfl 48 _ (0, 0) _ HC.out Try.underlying48 rfl size48 ?_) | (refine wpList_store_blk rfl 48 _ _ rfl (w.heap.size + 1) 0 (.agg _) rfl rfl 48 _ HB.out (by simp [Value.cells]) size48 rfl ?_))
  intro w2 S2 W2
  simp only [splice, List.setIfInBounds_toArray, List.set_cons_zero, List.set_cons_succ] at W2
  have HW2 := Lib.hid W2
  have HS2 := Lib.hid S2
  clear W2 S2 HB HC
  go_wp
  refine bodyPost_ret (results_cell_row rfl _ _ (w.heap.size + 1) 48 _ (0, 0) _ rfl HW2.out Try.underlying48 rfl size48) rfl ⟨⟨.slice a0 q0.length c0, .slice a1 l.length c1, .slice a2 y2 c2, .slice a3 y3 c3, .slice a4 y4 c4, .slice a5 y5 c5, .slice a6 y6 c6, .slice a7 y7 c7, .slice a8 q8.length c8, .slice a9 y9 c9, .slice a10 y10 c10, .slice a11 y11 c11, .slice a12 y12 c12, .slice a13 q13.length c13, .slice a14 y14 c14, .slice a15 y15 c15, .slice a16 y16 c16⟩, rfl, ⟨⟨_, _, _, rfl⟩, ⟨_, _, _, rfl⟩, ⟨_, _, _, rfl⟩, ⟨_, _, _, rfl⟩, ⟨_, _, _, rfl⟩, ⟨_, _, _, rfl⟩, ⟨_, _, _, rfl⟩, ⟨_, _, _, rfl⟩, ⟨_, _, _, rfl⟩, ⟨_, _, _, rfl⟩, ⟨_, _, _, rfl⟩, ⟨_, _, _, rfl⟩, ⟨_, _, _, rfl⟩, ⟨_, _, _, rfl⟩, ⟨_, _, _, rfl⟩, ⟨_, _, _, rfl⟩, ⟨_, _, _, rfl⟩⟩, ⟨_, _, _, _, _, rfl, rfl⟩, ⟨_, _, _, _, _, rfl, rfl⟩, ⟨_, _, _, _, _, rfl, rfl⟩, a1, c1, rfl, TyOwn.sto HS2.out o0 (by omega), hb.trans (HS2.out.below (by omega))⟩

end Go.Proofs.Ytjpfnndfhbglgaa

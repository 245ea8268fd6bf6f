import Derived.WalkKit
import Derived.WalkSpells
import Derived.WalkLawsBesides
import Derived.Handy
import Derived.BigQuiet
import Derived.Outline
import Derived.Deep.RegionHeld3
import Derived.Deep.DeepCutAuto
import Derived.Deep.DeepMust
import Derived.Deep.DeepFit
import Derived.Deep.LoopGhost
import Derived.Lib.Hide
import Derived.IntWalk
import Derived.Deep.CutBlock
import Derived.Deep.RegionWith
import Derived.Test.YtjpfnndfhbglgaaK2
/-
  THE CONTRACT OF mode.clone (printed by a program).
-/
namespace Go.Proofs.Ytjpfnndfhbglgaa
open Go.RowKit


set_option maxRecDepth 100000 in
set_option maxHeartbeats 40000000 in
theorem clone_any (p : Pol) (l : List Ty) (w : World) (hp : p.At w l) : Calls Try.prog 21 #[p.val] w (ClonePost w p l) := by
  obtain ⟨v0, v1, v2, v3, v4, v5, v6, v7, v8, v9, v10, v11, v12, v13, v14, v15, v16⟩ := p
  obtain ⟨r0, r1, r2, r3, r4, r5, r6, r7, r8, r9, r10, r11, r12, r13, r14, r15, r16⟩ := hp
  obtain ⟨q0, u0, b0, e0⟩ := r0
  dsimp only at u0
  obtain ⟨x0, z0, rfl⟩ := u0.shape
  obtain ⟨u1, b1, e1⟩ := r1
  dsimp only at u1 b1 e1
  have t1 := u1
  obtain ⟨x1, z1, rfl⟩ := u1.shape
  obtain ⟨y2, d2, u2, b2⟩ := r2
  dsimp only at u2
  obtain ⟨x2, z2, rfl⟩ := u2.shape
  obtain ⟨y3, d3, u3, b3⟩ := r3
  dsimp only at u3
  obtain ⟨x3, z3, rfl⟩ := u3.shape
  obtain ⟨y4, d4, u4, b4⟩ := r4
  dsimp only at u4
  obtain ⟨x4, z4, rfl⟩ := u4.shape
  obtain ⟨y5, d5, u5, b5⟩ := r5
  dsimp only at u5
  obtain ⟨x5, z5, rfl⟩ := u5.shape
  obtain ⟨y6, d6, u6, b6⟩ := r6
  dsimp only at u6
  obtain ⟨x6, z6, rfl⟩ := u6.shape
  obtain ⟨y7, d7, u7, b7⟩ := r7
  dsimp only at u7
  obtain ⟨x7, z7, rfl⟩ := u7.shape
  obtain ⟨q8, u8, b8, e8⟩ := r8
  dsimp only at u8
  obtain ⟨x8, z8, rfl⟩ := u8.shape
  obtain ⟨y9, d9, u9, b9⟩ := r9
  dsimp only at u9
  obtain ⟨x9, z9, rfl⟩ := u9.shape
  obtain ⟨y10, d10, u10, b10⟩ := r10
  dsimp only at u10
  obtain ⟨x10, z10, rfl⟩ := u10.shape
  obtain ⟨y11, d11, u11, b11⟩ := r11
  dsimp only at u11
  obtain ⟨x11, z11, rfl⟩ := u11.shape
  obtain ⟨y12, d12, u12, b12⟩ := r12
  dsimp only at u12
  obtain ⟨x12, z12, rfl⟩ := u12.shape
  obtain ⟨q13, u13, b13, e13⟩ := r13
  dsimp only at u13
  obtain ⟨x13, z13, rfl⟩ := u13.shape
  obtain ⟨y14, d14, u14, b14⟩ := r14
  dsimp only at u14
  obtain ⟨x14, z14, rfl⟩ := u14.shape
  obtain ⟨y15, d15, u15, b15⟩ := r15
  dsimp only at u15
  obtain ⟨x15, z15, rfl⟩ := u15.shape
  obtain ⟨y16, d16, u16, b16⟩ := r16
  dsimp only at u16
  obtain ⟨x16, z16, rfl⟩ := u16.shape
  unfold Pol.val
  have HS0 := Lib.hid u0
  have HS1 := Lib.hid u1
  have HS2 := Lib.hid u2
  have HS3 := Lib.hid u3
  have HS4 := Lib.hid u4
  have HS5 := Lib.hid u5
  have HS6 := Lib.hid u6
  have HS7 := Lib.hid u7
  have HS8 := Lib.hid u8
  have HS9 := Lib.hid u9
  have HS10 := Lib.hid u10
  have HS11 := Lib.hid u11
  have HS12 := Lib.hid u12
  have HS13 := Lib.hid u13
  have HS14 := Lib.hid u14
  have HS15 := Lib.hid u15
  have HS16 := Lib.hid u16
  have HT1 := Lib.hid t1
  clear t1
  have HE0 := Lib.hid e0
  have HE1 := Lib.hid e1
  have HE8 := Lib.hid e8
  have HE13 := Lib.hid e13
  clear e0 e1 e8 e13
  clear u0 u1 u2 u3 u4 u5 u6 u7 u8 u9 u10 u11 u12 u13 u14 u15 u16
  have HW := Lib.hid (heap_three w (.cells #[.slice x0 q0.length z0, .slice x1 l.length z1, .slice x2 y2 z2, .slice x3 y3 z3, .slice x4 y4 z4, .slice x5 y5 z5, .slice x6 y6 z6, .slice x7 y7 z7, .slice x8 q8.length z8, .slice x9 y9 z9, .slice x10 y10 z10, .slice x11 y11 z11, .slice x12 y12 z12, .slice x13 q13.length z13, .slice x14 y14 z14, .slice x15 y15 z15, .slice x16 y16 z16] 48) (.cells #[.slice none 0 0, .slice none 0 0, .slice none 0 0, .slice none 0 0, .slice none 0 0, .slice none 0 0, .slice none 0 0, .slice none 0 0, .slice none 0 0, .slice none 0 0, .slice none 0 0, .slice none 0 0, .slice none 0 0, .slice none 0 0, .slice none 0 0, .slice none 0 0, .slice none 0 0] 48) (.cells #[.slice x0 q0.length z0, .slice x1 l.length z1, .slice x2 y2 z2, .slice x3 y3 z3, .slice x4 y4 z4, .slice x5 y5 z5, .slice x6 y6 z6, .slice x7 y7 z7, .slice x8 q8.length z8, .slice x9 y9 z9, .slice x10 y10 z10, .slice x11 y11 z11, .slice x12 y12 z12, .slice x13 q13.length z13, .slice x14 y14 z14, .slice x15 y15 z15, .slice x16 y16 z16] 48))
  go_enter Try.func21, Try.ntmps21
  go_upto_region 1 with fail
  go_cut [3] (fun s3 wc => s3 = .pointer (some ⟨(w.heap.size + 2), 0, none⟩) ∧ Whole wc w.heap.size 48 #[.slice x0 q0.length z0, .slice x1 l.length z1, .slice x2 y2 z2, .slice x3 y3 z3, .slice x4 y4 z4, .slice x5 y5 z5, .slice x6 y6 z6, .slice x7 y7 z7, .slice x8 q8.length z8, .slice x9 y9 z9, .slice x10 y10 z10, .slice x11 y11 z11, .slice x12 y12 z12, .slice x13 q13.length z13, .slice x14 y14 z14, .slice x15 y15 z15, .slice x16 y16 z16] ∧ Whole wc (w.heap.size + 1) 48 #[.slice none 0 0, .slice none 0 0, .slice none 0 0, .slice none 0 0, .slice none 0 0, .slice none 0 0, .slice none 0 0, .slice none 0 0, .slice none 0 0, .slice none 0 0, .slice none 0 0, .slice none 0 0, .slice none 0 0, .slice none 0 0, .slice none 0 0, .slice none 0 0, .slice none 0 0] ∧ Whole wc (w.heap.size + 2) 48 #[.slice x0 q0.length z0, .slice x1 l.length z1, .slice x2 y2 z2, .slice x3 y3 z3, .slice x4 y4 z4, .slice x5 y5 z5, .slice x6 y6 z6, .slice x7 y7 z7, .slice x8 q8.length z8, .slice x9 y9 z9, .slice x10 y10 z10, .slice x11 y11 z11, .slice x12 y12 z12, .slice x13 q13.length z13, .slice x14 y14 z14, .slice x15 y15 z15, .slice x16 y16 z16] ∧ Below w.heap.size w wc)
  case first =>
    as_aux_lemma =>
      go_wp2_with fail
      go_meet
      exact ⟨rfl, HW.out.1, HW.out.2.1, HW.out.2.2, by go_grown⟩
  case rest =>
  obtain ⟨rfl, W0, W1, W2, hb⟩ := hcut
  go_upto_region 2 with fail
  go_cut [] (fun wc => ∃ (a0 : Option Addr) (c0 : Nat) (a1 : Option Addr) (c1 : Nat) (a2 : Option Addr) (c2 : Nat) , Whole wc w.heap.size 48 #[.slice x0 q0.length z0, .slice x1 l.length z1, .slice x2 y2 z2, .slice x3 y3 z3, .slice x4 y4 z4, .slice x5 y5 z5, .slice x6 y6 z6, .slice x7 y7 z7, .slice x8 q8.length z8, .slice x9 y9 z9, .slice x10 y10 z10, .slice x11 y11 z11, .slice x12 y12 z12, .slice x13 q13.length z13, .slice x14 y14 z14, .slice x15 y15 z15, .slice x16 y16 z16] ∧ Whole wc (w.heap.size + 1) 48 #[.slice none 0 0, .slice none 0 0, .slice none 0 0, .slice none 0 0, .slice none 0 0, .slice none 0 0, .slice none 0 0, .slice none 0 0, .slice none 0 0, .slice none 0 0, .slice none 0 0, .slice none 0 0, .slice none 0 0, .slice none 0 0, .slice none 0 0, .slice none 0 0, .slice none 0 0] ∧ Whole wc (w.heap.size + 2) 48 #[.slice a0 q0.length c0, .slice a1 l.length c1, .slice a2 y2 c2, .slice x3 y3 z3, .slice x4 y4 z4, .slice x5 y5 z5, .slice x6 y6 z6, .slice x7 y7 z7, .slice x8 q8.length z8, .slice x9 y9 z9, .slice x10 y10 z10, .slice x11 y11 z11, .slice x12 y12 z12, .slice x13 q13.length z13, .slice x14 y14 z14, .slice x15 y15 z15, .slice x16 y16 z16] ∧ wc.ownsRow (w.heap.size + 3) 67 2 (.slice a0 q0.length c0) q0.length q0.flatten ∧ wc.ownsRow (w.heap.size + 3) 62 3 (.slice a1 l.length c1) l.length (tyCells l) ∧ Below w.heap.size w wc)
  case first =>
    as_aux_lemma =>
      have HA := Lib.hid W0
      have HB := Lib.hid W1
      have HC := Lib.hid W2
      have kg0 := (W0.both 0 _ rfl).1
      have kg1 := (W0.both 1 _ rfl).1
      have kg2 := (W0.both 2 _ rfl).1
      clear W0 W1 W2
      go_region_held3 (fun w' => w'.cell? ⟨w.heap.size, 0, none⟩ = some (.slice x0 q0.length z0) ∧ w'.cell? ⟨w.heap.size, 1, none⟩ = some (.slice x1 l.length z1) ∧ w'.cell? ⟨w.heap.size, 2, none⟩ = some (.slice x2 y2 z2)) (go_keep)
          (first
            | (go_at_call_of 24 (Value.slice x0 q0.length z0); go_must (refine (clone24 _ q0.length q0.flatten _ ?_ b0).mono ?_; (exact HS0.out.keep (by first | exact hb | exact hb.drew)); rintro e w0 ⟨a0, c0, rfl, n0, -, hb0⟩; have hw0 : Below w.heap.size w w0 := Below.trans (b := _) (by first | exact hb | exact hb.drew) (hb0.mono (Nat.le_of_lt (Whole.lt HA.out))); have HA0 := Lib.hid (Whole.under hb0 HA.out (Whole.lt HA.out)); have HB0 := Lib.hid (Whole.under hb0 HB.out (Whole.lt HB.out)); have HC0 := Lib.hid (Whole.under hb0 HC.out (Whole.lt HC.out)); have kg0_0 := (HA0.out.both 0 _ rfl).1; have kg1_0 := (HA0.out.both 1 _ rfl).1; have kg2_0 := (HA0.out.both 2 _ rfl).1))
            | (go_at_call_of 25 (Value.slice x1 l.length z1); go_must (refine (clone25 _ l.length (tyCells l) _ ?_ b1).mono ?_; (exact HS1.out.keep (by first | exact hw0 | exact hw0.drew)); rintro e w1 ⟨a1, c1, rfl, n1, -, hb1⟩; have hw1 : Below w.heap.size w w1 := Below.trans (b := _) (by first | exact hw0 | exact hw0.drew) (hb1.mono (Nat.le_of_lt (Whole.lt HA0.out))); have HA1 := Lib.hid (Whole.under hb1 HA0.out (Whole.lt HA0.out)); have HB1 := Lib.hid (Whole.under hb1 HB0.out (Whole.lt HB0.out)); have HC1 := Lib.hid (Whole.under hb1 HC0.out (Whole.lt HC0.out)); have n0_1 := own_keep hb1 n0 (Nat.le_refl _); have kg0_1 := (HA1.out.both 0 _ rfl).1; have kg1_1 := (HA1.out.both 1 _ rfl).1; have kg2_1 := (HA1.out.both 2 _ rfl).1))
            | (go_at_call_of 26 (Value.slice x2 y2 z2); go_must (refine (clone26 _ y2 d2 _ ?_ b2).mono ?_; (exact HS2.out.keep (by first | exact hw1 | exact hw1.drew)); rintro e w2 ⟨a2, c2, rfl, n2, -, hb2⟩; have hw2 : Below w.heap.size w w2 := Below.trans (b := _) (by first | exact hw1 | exact hw1.drew) (hb2.mono (Nat.le_of_lt (Whole.lt HA1.out))); have HA2 := Lib.hid (Whole.under hb2 HA1.out (Whole.lt HA1.out)); have HB2 := Lib.hid (Whole.under hb2 HB1.out (Whole.lt HB1.out)); have HC2 := Lib.hid (Whole.under hb2 HC1.out (Whole.lt HC1.out)); have n0_2 := own_keep hb2 n0_1 (Nat.le_refl _); have n1_2 := own_keep hb2 n1 (Nat.le_refl _); have kg0_2 := (HA2.out.both 0 _ rfl).1; have kg1_2 := (HA2.out.both 1 _ rfl).1; have kg2_2 := (HA2.out.both 2 _ rfl).1; have ⟨ks0, fs0⟩ := HC2.out.both 0 _ rfl; have ⟨ks1, fs1⟩ := HC2.out.both 1 _ rfl; have ⟨ks2, fs2⟩ := HC2.out.both 2 _ rfl)))
      go_wp2_with fail
      go_meet
      have S := (((Sto.cell w2 (w.heap.size + 2) 0 (.slice a0 q0.length c0)).trans (Sto.cell _ (w.heap.size + 2) 1 (.slice a1 l.length c1))).trans (Sto.cell _ (w.heap.size + 2) 2 (.slice a2 y2 c2)))
      exact ⟨a0, c0, a1, c1, a2, c2, S.whole HA2.out (by omega), S.whole HB2.out (by omega), heap_setCell_same _ _ 2 _ _ _ (heap_setCell_same _ _ 1 _ _ _ (heap_setCell_same _ _ 0 _ _ _ HC2.out)), S.own (own_low n0_2 (Whole.lt HC.out)) (own_far n0_2 (Whole.lt HC.out)), S.own (own_low n1_2 (Whole.lt HC0.out)) (own_far n1_2 (Whole.lt HC0.out)), hw2.trans (S.below (by omega))⟩
  case rest =>
  obtain ⟨a0, c0, a1, c1, a2, c2, W0, W1, W2, o0, o1, hb⟩ := hcut
  have kq := (W2.both 0 _ rfl).1
  go_upto_block 0 with fail
  go_cut [] (fun wc => ∃ (a0 : Option Addr) (c0 : Nat) (a1 : Option Addr) (c1 : Nat) (a2 : Option Addr) (c2 : Nat) , Whole wc w.heap.size 48 #[.slice x0 q0.length z0, .slice x1 l.length z1, .slice x2 y2 z2, .slice x3 y3 z3, .slice x4 y4 z4, .slice x5 y5 z5, .slice x6 y6 z6, .slice x7 y7 z7, .slice x8 q8.length z8, .slice x9 y9 z9, .slice x10 y10 z10, .slice x11 y11 z11, .slice x12 y12 z12, .slice x13 q13.length z13, .slice x14 y14 z14, .slice x15 y15 z15, .slice x16 y16 z16] ∧ Whole wc (w.heap.size + 1) 48 #[.slice none 0 0, .slice none 0 0, .slice none 0 0, .slice none 0 0, .slice none 0 0, .slice none 0 0, .slice none 0 0, .slice none 0 0, .slice none 0 0, .slice none 0 0, .slice none 0 0, .slice none 0 0, .slice none 0 0, .slice none 0 0, .slice none 0 0, .slice none 0 0, .slice none 0 0] ∧ Whole wc (w.heap.size + 2) 48 #[.slice a0 q0.length c0, .slice a1 l.length c1, .slice a2 y2 c2, .slice x3 y3 z3, .slice x4 y4 z4, .slice x5 y5 z5, .slice x6 y6 z6, .slice x7 y7 z7, .slice x8 q8.length z8, .slice x9 y9 z9, .slice x10 y10 z10, .slice x11 y11 z11, .slice x12 y12 z12, .slice x13 q13.length z13, .slice x14 y14 z14, .slice x15 y15 z15, .slice x16 y16 z16] ∧ wc.ownsRow (w.heap.size + 3) 62 3 (.slice a1 l.length c1) l.length (tyCells l) ∧ Below w.heap.size w wc)
  case first =>
    as_aux_lemma =>
      have HA := Lib.hid W0
      have HB := Lib.hid W1
      have HC := Lib.hid W2
      clear W0 W1 W2 kq
      have hnm : q0.length ≤ 9223372036854775807 := by omega
      go_wp2_with fail
      have HE0L : Hid (∀ x ∈ q0, x.length = 2) := fun x hx => by obtain ⟨s, v, rfl, _⟩ := HE0.out x hx; rfl
      go_loopw [24] (fun i wr => ∃ (k : Nat) (xs : List (List Value)), k ≤ q0.length ∧ i = .int .i64 k ∧ Hid (xs.length = q0.length) ∧ Hid (∀ x ∈ xs, x.length = 2) ∧ Hid (∀ i, k ≤ i → xs[i]? = q0[i]?) ∧ wr.ownsRow (w.heap.size + 3) 67 2 (.slice a0 q0.length c0) q0.length xs.flatten ∧ wr.ownsRow (w.heap.size + 3) 62 3 (.slice a1 l.length c1) l.length (tyCells l) ∧ Below (w.heap.size + 3) wc wr) (fun i _ => q0.length - (intOf i).toNat)
      case atStart => exact ⟨0, q0, by omega, rfl, rfl, HE0L.out, fun _ _ => rfl, o0, o1, Below.refl _ _⟩
      case round =>
        obtain ⟨k, xs, hk, rfl, hxl, hxK, hxk, hown, p1, hbl⟩ := hrel
        have hbw : Below w.heap.size w wr := hb.trans (hbl.mono (by omega))
        have WQ : Whole wr (w.heap.size + 2) 48 _ := Whole.under hbl HC.out (by omega)
        have kq := (WQ.both 0 _ rfl).1
        have HWQ := Lib.hid WQ
        clear WQ
        by_cases hlt : k < q0.length
        · obtain ⟨g, cap, cur, hv, hg, hW, hnc, hcm, hcs, htk⟩ := own_open hown (by omega)
          simp only [Value.slice.injEq] at hv
          obtain ⟨rfl, -, rfl⟩ := hv
          have hkx : q0[k]? = some q0[k] := List.getElem?_eq_getElem hlt
          have hxx := (hxk.out k (Nat.le_refl _)).trans hkx
          obtain ⟨s, v, hx, nn, ns, hsn, hnb⟩ := HE0.out _ (List.getElem_mem hlt)
          rw [hx] at hxx
          clear hkx hx
          obtain ⟨xa, xc, rfl⟩ := hsn.shape
          have c1 := row_cell hW hxK.out htk hxx 1 _ rfl
          have HG := Lib.hid hW
          have HF := Lib.hid (And.intro hcs htk)
          have HXX := Lib.hid hxx
          have HSN := Lib.hid hsn
          clear hW hcs htk hsn hxx
          go_upto_region 6 with fail
          go_region_with ((go_at_call 27; go_must (refine (clone27 _ nn ns _ ?_ hnb).mono ?_; (exact HSN.out.keep (Below.trans (b := wr) hbw (by go_grown))); rintro e w3 ⟨a3, c3, rfl, -, -, hb3⟩; have hbl3 : Below (w.heap.size + 3) wc w3 := hbl.trans (Below.trans (b := _) (by go_grown) (hb3.mono (Whole.lt HWQ.out))); have W3 := Whole.under hb3 HWQ.out (Whole.lt HWQ.out); have kq3 := (W3.both 0 _ rfl).1; have HG3 := Lib.hid (Whole.under hb3 HG.out (Whole.lt HG.out)); clear W3; have c3' := (hb3.cell (p := ⟨g, k * 2 + 1, none⟩) (Whole.lt HG.out)).trans c1; have f3 := HG3.out.frozen (k * 2 + 1); have p1_3 := own_keep hb3 p1 (Nat.le_refl _))))
          all_goals
            have S := Lib.hid (Sto.cell w3 g (k * 2 + 1) (.slice a3 nn c3))
            have SW := Lib.hid (heap_setCell_same w3 g (k * 2 + 1) cur 67 (.slice a3 nn c3) HG3.out)
            clear c3' f3 c1
            go_wp2
            go_roundw
            case rel =>
              refine ⟨k + 1, xs.set k _, by omega, by go_num, (List.length_set ..).trans hxl.out, ?_, ?_, own_splice hxK.out hxl.out hg hnc hcm HF.out.1 HF.out.2 HXX.out (o := 1) (l := [.slice a3 nn c3]) (Nat.le_refl 2) SW.out, S.out.own p1_3 (own_blk_far p1_3 HG3.out (by decide)), hbl3.trans (S.out.below hg)⟩
              · intro x hx
                rcases List.mem_or_eq_of_mem_set hx with h | rfl
                · exact hxK.out x h
                · rfl
              · intro i hi
                rw [List.getElem?_set_ne (by omega)]
                exact hxk.out i (by omega)
            case measure => simp [intOf]; omega
        · go_wp2_with fail
          go_meet
          exact ⟨a0, c0, a1, c1, a2, c2, Whole.under hbl HA.out (by omega), Whole.under hbl HB.out (by omega), HWQ.out, p1, hbw⟩
  case rest =>
  obtain ⟨a0, c0, a1, c1, a2, c2, W0, W1, W2, o0, hb⟩ := hcut
  have kq := (W2.both 1 _ rfl).1
  go_upto_block 2 with fail
  go_cut [] (fun wc => ∃ (a0 : Option Addr) (c0 : Nat) (a1 : Option Addr) (c1 : Nat) (a2 : Option Addr) (c2 : Nat) , Whole wc w.heap.size 48 #[.slice x0 q0.length z0, .slice x1 l.length z1, .slice x2 y2 z2, .slice x3 y3 z3, .slice x4 y4 z4, .slice x5 y5 z5, .slice x6 y6 z6, .slice x7 y7 z7, .slice x8 q8.length z8, .slice x9 y9 z9, .slice x10 y10 z10, .slice x11 y11 z11, .slice x12 y12 z12, .slice x13 q13.length z13, .slice x14 y14 z14, .slice x15 y15 z15, .slice x16 y16 z16] ∧ Whole wc (w.heap.size + 1) 48 #[.slice none 0 0, .slice none 0 0, .slice none 0 0, .slice none 0 0, .slice none 0 0, .slice none 0 0, .slice none 0 0, .slice none 0 0, .slice none 0 0, .slice none 0 0, .slice none 0 0, .slice none 0 0, .slice none 0 0, .slice none 0 0, .slice none 0 0, .slice none 0 0, .slice none 0 0] ∧ Whole wc (w.heap.size + 2) 48 #[.slice a0 q0.length c0, .slice a1 l.length c1, .slice a2 y2 c2, .slice x3 y3 z3, .slice x4 y4 z4, .slice x5 y5 z5, .slice x6 y6 z6, .slice x7 y7 z7, .slice x8 q8.length z8, .slice x9 y9 z9, .slice x10 y10 z10, .slice x11 y11 z11, .slice x12 y12 z12, .slice x13 q13.length z13, .slice x14 y14 z14, .slice x15 y15 z15, .slice x16 y16 z16] ∧ TyOwn (w.heap.size + 3) l a1 c1 wc ∧ Below w.heap.size w wc)
  case first =>
    as_aux_lemma =>
      have HA := Lib.hid W0
      have HB := Lib.hid W1
      have HC := Lib.hid W2
      clear W0 W1 W2 kq
      have hnm : l.length ≤ 9223372036854775807 := by omega
      go_wp2_with fail
      go_loopw [43] (fun i wr => ∃ (k : Nat) (ls : List Ty), k ≤ l.length ∧ i = .int .i64 k ∧ Hid (ls.length = l.length) ∧ Hid (∀ (i : Nat) (a b : Ty), l[i]? = some a → ls[i]? = some b → a.Alike b) ∧ Hid (∀ i, k ≤ i → ls[i]? = l[i]?) ∧ wr.ownsRow (w.heap.size + 3) 62 3 (.slice a1 l.length c1) l.length (ls.map Ty.cells).flatten ∧ Below (w.heap.size + 3) wc wr) (fun i _ => l.length - (intOf i).toNat)
      case atStart => exact ⟨0, l, by omega, rfl, rfl, alike_self l, fun _ _ => rfl, (by simpa [tyCells, List.flatMap_def] using o0), Below.refl _ _⟩
      case round =>
        obtain ⟨k, ls, hk, rfl, hxl, hxK, hxk, hown, hbl⟩ := hrel
        have hbw : Below w.heap.size w wr := hb.trans (hbl.mono (by omega))
        have WQ : Whole wr (w.heap.size + 2) 48 _ := Whole.under hbl HC.out (by omega)
        have kq := (WQ.both 1 _ rfl).1
        have HWQ := Lib.hid WQ
        clear WQ
        by_cases hlt : k < l.length
        · obtain ⟨g, cap, cur, hv, hg, hW, hnc, hcm, hcs, htk⟩ := own_open hown (by omega)
          simp only [Value.slice.injEq] at hv
          obtain ⟨rfl, -, rfl⟩ := hv
          have hkx : l[k]? = some l[k] := List.getElem?_eq_getElem hlt
          have hxx := (hxk.out k (Nat.le_refl _)).trans hkx
          obtain ⟨nn, ns, hsn, hnb⟩ := HE1.out _ (List.getElem_mem hlt)
          generalize l[k] = x at *
          obtain ⟨xn, xa, xm, xc, xp⟩ := x
          obtain ⟨sa, sc, hsh⟩ := hsn.shape
          simp only [Ty.al, Value.slice.injEq] at hsh
          obtain ⟨rfl, rfl, rfl⟩ := hsh
          simp only [Ty.al] at hsn
          have hmx : (ls.map Ty.cells)[k]? = some [.string xn, .slice xa xm xc, .bool xp] := by rw [List.getElem?_map, hxx]; rfl
          have hmK : ∀ x ∈ ls.map Ty.cells, x.length = 3 := ty_rows ls
          have hml : (ls.map Ty.cells).length = l.length := by rw [List.length_map]; exact hxl.out
          have c1 := row_cell hW hmK htk hmx 1 _ rfl
          have HG := Lib.hid hW
          have HF := Lib.hid (And.intro hcs htk)
          have HXX := Lib.hid hmx
          have HSN := Lib.hid hsn
          have HX2 := Lib.hid hxx
          have HKX := Lib.hid hkx
          have HML := Lib.hid hml
          have HMK := Lib.hid hmK
          clear hxx hkx hml hmK
          clear hW hcs htk hsn hmx
          go_upto_region 11 with fail
          go_region_with ((go_at_call 27; go_must (refine (clone27 _ xm ns _ ?_ hnb).mono ?_; (exact HSN.out.keep (Below.trans (b := wr) hbw (by go_grown))); rintro e w3 ⟨a3, c3, rfl, -, -, hb3⟩; have hbl3 : Below (w.heap.size + 3) wc w3 := hbl.trans (Below.trans (b := _) (by go_grown) (hb3.mono (Whole.lt HWQ.out))); have W3 := Whole.under hb3 HWQ.out (Whole.lt HWQ.out); have kq3 := (W3.both 1 _ rfl).1; have HG3 := Lib.hid (Whole.under hb3 HG.out (Whole.lt HG.out)); clear W3; have c3' := (hb3.cell (p := ⟨g, k * 3 + 1, none⟩) (Whole.lt HG.out)).trans c1; have f3 := HG3.out.frozen (k * 3 + 1))))
          all_goals
            have S := Lib.hid (Sto.cell w3 g (k * 3 + 1) (.slice a3 xm c3))
            have SW := Lib.hid (heap_setCell_same w3 g (k * 3 + 1) cur 62 (.slice a3 xm c3) HG3.out)
            clear c3' f3 c1
            go_wp2
            go_roundw
            case rel =>
              refine ⟨k + 1, ls.set k ⟨xn, a3, xm, c3, xp⟩, by omega, by go_num, (List.length_set ..).trans hxl.out, ?_, ?_, ?_, hbl3.trans (S.out.below hg)⟩
              · intro i a b ha hb'
                by_cases hik : i = k
                · subst hik
                  rw [List.getElem?_set_self (by rw [hxl.out]; exact hlt)] at hb'
                  obtain rfl := Option.some.inj hb'
                  obtain rfl := Option.some.inj (HKX.out.symm.trans ha)
                  exact ⟨rfl, rfl, rfl⟩
                · rw [List.getElem?_set_ne (Ne.symm hik)] at hb'
                  exact hxK.out i a b ha hb'
              · intro i hi
                rw [List.getElem?_set_ne (by omega)]
                exact hxk.out i (by omega)
              · have h := own_splice HMK.out HML.out hg hnc hcm HF.out.1 HF.out.2 HXX.out (o := 1) (l := [.slice a3 xm c3]) (by show 2 ≤ 3; omega) SW.out
                rw [List.map_set]
                exact h
            case measure => simp [intOf]; omega
        · go_wp2_with fail
          go_meet
          exact ⟨a0, c0, a1, c1, a2, c2, Whole.under hbl HA.out (by omega), Whole.under hbl HB.out (by omega), HWQ.out, ⟨ls, hxl.out, hxK.out, by simpa [tyCells, List.flatMap_def] using hown⟩, hbw⟩
  case rest =>
  obtain ⟨a0, c0, a1, c1, a2, c2, W0, W1, W2, o0, hb⟩ := hcut
  rename_i hK
  refine hK _ _ ?_
  clear hK
  exact cloneB w wc l q0 q8 q13 x0 z0 x1 z1 x2 z2 y2 x3 z3 y3 x4 z4 y4 x5 z5 y5 x6 z6 y6 x7 z7 y7 x8 z8 x9 z9 y9 x10 z10 y10 x11 z11 y11 x12 z12 y12 x13 z13 x14 z14 y14 x15 z15 y15 x16 z16 y16 d3 d4 d5 d6 d7 d9 d10 d11 d12 d14 d15 d16 HS3 b3 HS4 b4 HS5 b5 HS6 b6 HS7 b7 HS8 b8 HS9 b9 HS10 b10 HS11 b11 HS12 b12 HS13 b13 HS14 b14 HS15 b15 HS16 b16 HE8 HE13 a0 c0 a1 c1 a2 c2 W0 W1 W2 o0 hb _ _ _ _ _ _ _ _ _ _ _ _ _ _ _ _ _ _ _ _ _ _ _ _ _ _ _ _ _ _ _ _ _ _ _ _ _ _ _ _ _ _ _ _ _ _ _ _ _ _ _ _ _ _ _ _ _ _ _ _ _ _ _ _ _ _ _ _ _ _ _ _ _ _ _ _ _ _ _ _ _ _ _ _ _ _ _ _ _ _ _ _ _ _ _ _ _ _ _ _ _ _ _ _ _ _ _ _ _ _ _ _ _ _ _ _ _ _ _ _ _ _ _ _ _ _ _ _ _ _ _ _ _ _ _ _ _ _ _ _ _ _ _ _ _ _ _ _ _


end Go.Proofs.Ytjpfnndfhbglgaa

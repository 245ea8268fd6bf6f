import Derived.Outline
import Derived.Deep.RegionWith
import Derived.Deep.DeepCutAuto
import Derived.Deep.DeepMust
import Derived.Handy
import Derived.BigQuiet
import Derived.Test.YtjpfnndfhbglgaaK
import Derived.Test.YtjpfnndfhbglgaaC
/-
  THE CONTRACT OF mode.expr.
-/
namespace Go.Proofs.Ytjpfnndfhbglgaa
open Go.RowKit

theorem cellsOf37 : Try.prog.cellsOf 37 = 1 := by kernel_rfl
theorem cellsOf9 : Try.prog.cellsOf 9 = 1 := by kernel_rfl
theorem cellsOf70 : Try.prog.cellsOf 70 = 1 := by kernel_rfl
theorem cellsOf91 : Try.prog.cellsOf 91 = 10 := by kernel_rfl
theorem bytesOf9 : Try.prog.bytesOf 9 = 16 := by kernel_rfl
theorem bytesOf91 : Try.prog.bytesOf 91 = 112 := by kernel_rfl

theorem list4 {α} {l : List α} (h : l.length = 4) : ∃ a b c d, l = [a, b, c, d] := by
  match l, h with
  | [a, b, c, d], _ => exact ⟨a, b, c, d, rfl⟩

theorem reach_le {n : Nat} (h : n ≤ reachBytes) : n ≤ 140737488355328 := by unfold reachBytes at h; omega

theorem set_open {w : World} {f : Nat} {cs : List Value} (h : Rd Try.prog w f 72 cs) : ∃ s0 s1 s2 s3 : Int, cs = [.int .u64 s0, .int .u64 s1, .int .u64 s2, .int .u64 s3] := by
  obtain ⟨f', rfl, es, rfl, hl, hx⟩ := h.array Try.underlying72
  obtain ⟨x0, x1, x2, x3, rfl⟩ := list4 hl
  obtain ⟨s0, rfl, _⟩ := (hx x0 (by simp)).2.int Try.underlying70
  obtain ⟨s1, rfl, _⟩ := (hx x1 (by simp)).2.int Try.underlying70
  obtain ⟨s2, rfl, _⟩ := (hx x2 (by simp)).2.int Try.underlying70
  obtain ⟨s3, rfl, _⟩ := (hx x3 (by simp)).2.int Try.underlying70
  exact ⟨s0, s1, s2, s3, rfl⟩

theorem strs_open {w : World} {f : Nat} {cs : List Value} (h : Rd Try.prog w f 37 cs) : ∃ v n ns, cs = [v] ∧ SliceAt w v 1 n ns ∧ n * 16 ≤ 140737488355328 := by
  obtain ⟨f', v, rfl, rfl, es, hs, hx, hr⟩ := h.slice Try.underlying37
  rw [cellsOf9] at hs
  rw [bytesOf9] at hr
  exact ⟨v, _, _, rfl, hs, reach_le hr⟩

set_option maxRecDepth 100000 in
theorem expr_open {w : World} {f : Nat} {cs : List Value} (h : Rd Try.prog w f 91 cs) :
    ∃ (f' : Nat) (op a rel b s0 s1 s2 s3 : Int) (nv kv : Value) (nn : Nat) (ns : List Value) (ks : List (List Value)), f' < f ∧
      cs = [.int .i64 op, .int .i64 a, .int .i64 rel, .int .i64 b, nv, .int .u64 s0, .int .u64 s1, .int .u64 s2, .int .u64 s3, kv] ∧
      SliceAt w nv 1 nn ns ∧ nn * 16 ≤ 140737488355328 ∧ SliceAt w kv 10 ks.length ks.flatten ∧ ks.length * 112 ≤ 140737488355328 ∧ ∀ x ∈ ks, x.length = 10 ∧ Rd Try.prog w f' 91 x := by
  obtain ⟨f', rfl, h⟩ := h.struct Try.underlying91
  obtain ⟨c0, _, rfl, -, r0, c1, _, rfl, -, r1, c2, _, rfl, -, r2, c3, _, rfl, -, r3, c4, _, rfl, -, r4, c5, _, rfl, -, r5, c6, _, rfl, -, r6, hn⟩ := h
  obtain rfl : _ = [] := hn
  obtain ⟨op, rfl, _⟩ := r0.int Try.underlying3
  obtain ⟨a, rfl, _⟩ := r1.int Try.underlying3
  obtain ⟨rel, rfl, _⟩ := r2.int Try.underlying3
  obtain ⟨b, rfl, _⟩ := r3.int Try.underlying3
  obtain ⟨nv, nn, ns, rfl, hns, hnb⟩ := strs_open r4
  obtain ⟨s0, s1, s2, s3, rfl⟩ := set_open r5
  obtain ⟨f'', kv, rfl, rfl, ks, hks, hx, hkr⟩ := r6.slice Try.underlying38
  rw [cellsOf91] at hks hx
  rw [bytesOf91] at hkr
  exact ⟨f'', op, a, rel, b, s0, s1, s2, s3, nv, kv, nn, ns, ks, by omega, rfl, hns, hnb, hks, reach_le hkr, hx⟩

def ExprPost (w : World) (e : Ending) (w' : World) : Prop :=
  ∃ (op a rel b : Int) (na : Option Addr) (nn nc : Nat) (s0 s1 s2 s3 : Int) (ka : Option Addr) (kn kc : Nat),
    e = .returned (.agg #[.int .i64 op, .int .i64 a, .int .i64 rel, .int .i64 b, .slice na nn nc, .int .u64 s0, .int .u64 s1, .int .u64 s2, .int .u64 s3, .slice ka kn kc]) ∧ Below w.heap.size w w'

theorem size91 : (Try.prog.info? 91).map (·.size) = some 10 := by kernel_rfl

theorem cells10 {B g o : Nat} {t : TypeId} {cur : Array Value} {wr w3 : World} (hb : Below B wr w3) (hg : g < B) (W : Whole wr g t cur) {c0 c1 c2 c3 c4 c5 c6 c7 c8 c9 : Value} (q0 : wr.cell? ⟨g, o, none⟩ = some c0) (q1 : wr.cell? ⟨g, o + 1, none⟩ = some c1) (q2 : wr.cell? ⟨g, o + 2, none⟩ = some c2) (q3 : wr.cell? ⟨g, o + 3, none⟩ = some c3) (q4 : wr.cell? ⟨g, o + 4, none⟩ = some c4) (q5 : wr.cell? ⟨g, o + 5, none⟩ = some c5) (q6 : wr.cell? ⟨g, o + 6, none⟩ = some c6) (q7 : wr.cell? ⟨g, o + 7, none⟩ = some c7) (q8 : wr.cell? ⟨g, o + 8, none⟩ = some c8) (q9 : wr.cell? ⟨g, o + 9, none⟩ = some c9) :
    w3.cell? ⟨g, o, none⟩ = some c0 ∧ w3.frozen? ⟨g, o, none⟩ = false ∧ w3.cell? ⟨g, o + 1, none⟩ = some c1 ∧ w3.frozen? ⟨g, o + 1, none⟩ = false ∧ w3.cell? ⟨g, o + 2, none⟩ = some c2 ∧ w3.frozen? ⟨g, o + 2, none⟩ = false ∧ w3.cell? ⟨g, o + 3, none⟩ = some c3 ∧ w3.frozen? ⟨g, o + 3, none⟩ = false ∧ w3.cell? ⟨g, o + 4, none⟩ = some c4 ∧ w3.frozen? ⟨g, o + 4, none⟩ = false ∧ w3.cell? ⟨g, o + 5, none⟩ = some c5 ∧ w3.frozen? ⟨g, o + 5, none⟩ = false ∧ w3.cell? ⟨g, o + 6, none⟩ = some c6 ∧ w3.frozen? ⟨g, o + 6, none⟩ = false ∧ w3.cell? ⟨g, o + 7, none⟩ = some c7 ∧ w3.frozen? ⟨g, o + 7, none⟩ = false ∧ w3.cell? ⟨g, o + 8, none⟩ = some c8 ∧ w3.frozen? ⟨g, o + 8, none⟩ = false ∧ w3.cell? ⟨g, o + 9, none⟩ = some c9 ∧ w3.frozen? ⟨g, o + 9, none⟩ = false := by
  have F := fun i => (Whole.under hb W hg).frozen i
  exact ⟨(hb.cell hg).trans q0, F _, (hb.cell hg).trans q1, F _, (hb.cell hg).trans q2, F _, (hb.cell hg).trans q3, F _, (hb.cell hg).trans q4, F _, (hb.cell hg).trans q5, F _, (hb.cell hg).trans q6, F _, (hb.cell hg).trans q7, F _, (hb.cell hg).trans q8, F _, (hb.cell hg).trans q9, F _⟩

set_option maxRecDepth 100000 in
set_option maxHeartbeats 2000000 in
theorem expr_any (n : Nat) : ∀ (f : Nat), f ≤ n → ∀ (cs : List Value) (w : World), Rd Try.prog w f 91 cs → Calls Try.prog 32 #[.agg cs.toArray] w (ExprPost w) := by
  induction n with
  | zero => intro f hf cs w h; obtain rfl : f = 0 := Nat.le_zero.1 hf; exact h.elim
  | succ n ih =>
    intro f hf cs w h
    obtain ⟨f', op, a, rel, b, s0, s1, s2, s3, nv, kv, nn, ns, ks, hlt, rfl, hns, hnb, hks, hkb, hx⟩ := expr_open h
    clear h
    have IH := Lib.hid (fun cs w h => ih f' (by omega) cs w h)
    clear ih
    have HN := Lib.hid hns
    have HK := Lib.hid hks
    have HX := Lib.hid hx
    obtain ⟨na, nc, rfl⟩ := hns.shape
    obtain ⟨ka, kc, rfl⟩ := hks.shape
    clear hns hks hx hf hlt
    have HW := Lib.hid (heap_two w (.cells #[.int .i64 op, .int .i64 a, .int .i64 rel, .int .i64 b, .slice na nn nc, .int .u64 s0, .int .u64 s1, .int .u64 s2, .int .u64 s3, .slice ka ks.length kc] 91) (.cells #[.int .i64 0, .int .i64 0, .int .i64 0, .int .i64 0, .slice none 0 0, .int .u64 0, .int .u64 0, .int .u64 0, .int .u64 0, .slice none 0 0] 91))
    go_enter Try.func32, Try.ntmps32
    go_upto_region 1 with fail
    go_cut [] (fun wc => ∃ (a1 : Option Addr) (c1 : Nat) (a2 : Option Addr) (c2 : Nat), Whole wc w.heap.size 91 #[.int .i64 op, .int .i64 a, .int .i64 rel, .int .i64 b, .slice a1 nn c1, .int .u64 s0, .int .u64 s1, .int .u64 s2, .int .u64 s3, .slice a2 ks.length c2] ∧
      Whole wc (w.heap.size + 1) 91 #[.int .i64 0, .int .i64 0, .int .i64 0, .int .i64 0, .slice none 0 0, .int .u64 0, .int .u64 0, .int .u64 0, .int .u64 0, .slice none 0 0] ∧
      wc.ownsRow (w.heap.size + 2) 91 10 (.slice a2 ks.length c2) ks.length ks.flatten ∧ Below w.heap.size w wc)
    case first =>
      go_region_with (first
        | (go_at_call 27; go_must (refine (clone27 _ nn ns _ ?_ hnb).mono ?_; (first | exact HN.out.keep (by go_grown)); rintro e w1 ⟨a1, c1, rfl, own1, -, hb1⟩; have hbw1 : Below w.heap.size w w1 := Below.trans (b := _) (by go_grown) (hb1.mono (Nat.le_of_lt (Whole.lt HW.out.1))); have W1 : Whole w1 w.heap.size 91 _ := Whole.under hb1 HW.out.1 (Whole.lt HW.out.1); have V1 : Whole w1 (w.heap.size + 1) 91 _ := Whole.under hb1 HW.out.2 (Whole.lt HW.out.2); have k9 := (W1.both 9 _ rfl).1; have HW1 := Lib.hid W1; have HV1 := Lib.hid V1; clear W1 V1))
        | (go_at_call 31; go_must (refine (clone31 _ ks.length ks.flatten _ ?_ hkb).mono ?_; (exact HK.out.keep (by go_grown)); rintro e w2 ⟨a2, c2, rfl, own2, -, hb2⟩; have hbw2 : Below w.heap.size w w2 := hbw1.trans (hb2.mono hbw1.size); have W2 : Whole w2 w.heap.size 91 _ := Whole.under hb2 HW1.out (Whole.lt HW1.out); have V2 : Whole w2 (w.heap.size + 1) 91 _ := Whole.under hb2 HV1.out (Whole.lt HV1.out); have ⟨k4, f4⟩ := W2.both 4 _ rfl; have ⟨k9', f9⟩ := W2.both 9 _ rfl; have HW2 := Lib.hid W2; have HV2 := Lib.hid V2; clear W2 V2)))
      all_goals
        go_wp2_with fail
        go_meet
        have S := (Sto.cell w2 w.heap.size 4 (.slice a1 nn c1)).trans (Sto.cell _ w.heap.size 9 (.slice a2 ks.length c2))
        refine ⟨a1, c1, a2, c2, ?_, S.whole HV2.out (by omega), S.own (own_low own2 ?_) ?_, hbw2.trans (S.below (Nat.le_refl _))⟩
        · exact heap_setCell_same _ _ 9 _ _ _ (heap_setCell_same _ _ 4 _ _ _ HW2.out)
        · exact Whole.lt HV1.out
        · intro e
          have := (own2.lt _ e).1
          have := Whole.lt HW1.out
          omega
    case rest =>
      obtain ⟨a1, c1, a2, c2, W0, W1, hown, hb⟩ := hcut
      have HW0 := Lib.hid W0
      have HW1 := Lib.hid W1
      have k9 := (W0.both 9 _ rfl).1
      clear W0 W1
      have hkm : ks.length ≤ 9223372036854775807 := by omega
      go_wp2
      go_loopw [15] (fun i wr => ∃ (k : Nat) (xs : List (List Value)), k ≤ ks.length ∧ i = .int .i64 k ∧ xs.length = ks.length ∧ Hid (∀ x ∈ xs, x.length = 10 ∧ ∀ u ∈ x, u.oneCell' = true) ∧ Hid (∀ i, k ≤ i → xs[i]? = ks[i]?) ∧
        wr.ownsRow (w.heap.size + 2) 91 10 (.slice a2 ks.length c2) ks.length xs.flatten ∧ Below (w.heap.size + 2) wc wr) (fun i _ => ks.length - (intOf i).toNat)
      case atStart => exact ⟨0, ks, by omega, rfl, rfl, fun x hx => ⟨(HX.out x hx).1, (HX.out x hx).2.one⟩, fun _ _ => rfl, hown, Below.refl _ _⟩
      case round =>
        obtain ⟨k, xs, hk, rfl, hxl, hx10, hxk, hown', hbl⟩ := hrel
        have hbw : Below w.heap.size w wr := hb.trans (hbl.mono (by omega))
        have W0 : Whole wr w.heap.size 91 _ := Whole.under hbl HW0.out (by omega)
        have k9 := (W0.both 9 _ rfl).1
        by_cases hlt : k < ks.length
        · obtain ⟨g, cap, cur, hv, hg, hW, hnc, hcm, hcs, htk⟩ := own_open hown' (by omega)
          simp only [Value.slice.injEq] at hv
          obtain ⟨rfl, -, rfl⟩ := hv
          have hkx : ks[k]? = some ks[k] := List.getElem?_eq_getElem hlt
          have hxx := (hxk.out k (Nat.le_refl _)).trans hkx
          obtain ⟨hr10, hrd⟩ := HX.out _ (List.getElem_mem hlt)
          generalize ks[k] = x at *
          obtain ⟨f2, xop, xa, xrel, xb, t0, t1, t2, t3, xnv, xkv, xnn, xns, xks, -, rfl, -, -, -, -, -⟩ := expr_open hrd
          have cellAt : ∀ j u, j < 10 → [Value.int .i64 xop, .int .i64 xa, .int .i64 xrel, .int .i64 xb, xnv, .int .u64 t0, .int .u64 t1, .int .u64 t2, .int .u64 t3, xkv][j]? = some u → wr.cell? ⟨g, k * 10 + j, none⟩ = some u := fun j u hj hu => by
            rw [hW.cell]
            have h1 := flatten_row (fun y hy => (hx10.out y hy).1) hxx j hj
            rw [hu, ← htk, List.getElem?_take] at h1
            split at h1
            · simpa using h1
            · cases h1
          have q0 := cellAt 0 _ (by omega) rfl
          have q1 := cellAt 1 _ (by omega) rfl
          have q2 := cellAt 2 _ (by omega) rfl
          have q3 := cellAt 3 _ (by omega) rfl
          have q4 := cellAt 4 _ (by omega) rfl
          have q5 := cellAt 5 _ (by omega) rfl
          have q6 := cellAt 6 _ (by omega) rfl
          have q7 := cellAt 7 _ (by omega) rfl
          have q8 := cellAt 8 _ (by omega) rfl
          have q9 := cellAt 9 _ (by omega) rfl
          rw [Nat.add_zero] at q0
          have HC := Lib.hid (And.intro hcs (And.intro htk hxl))
          have HWg := Lib.hid hW
          have HWr := Lib.hid W0
          have HWr1 := Lib.hid (Whole.under hbl HW1.out (by omega))
          have HXX := Lib.hid hxx
          have HRD := Lib.hid hrd
          clear cellAt hcs htk hxl hW W0 hxx hkx hrd hr10
          go_upto_region 5 with fail
          go_region_with ((go_at_call 32; go_must (refine (IH.out _ _ (HRD.out.keep (Below.trans (b := wr) hbw (by go_grown)))).mono ?_; rintro e w3 ⟨op3, a3, rel3, b3, na3, nn3, nc3, r0, r1, r2, r3, ka3, kn3, kc3, rfl, hb3⟩; have hbw3 : Below (w.heap.size + 2) wc w3 := hbl.trans (Below.trans (b := _) (by go_grown) (hb3.mono (Whole.lt HWr1.out))); have W3 := Whole.under hb3 HWr.out (Whole.lt HWr.out); have k9' := (W3.both 9 _ rfl).1; have HG3 := Lib.hid (Whole.under hb3 HWg.out (Whole.lt HWg.out)); clear W3; obtain ⟨p0, f0, p1, f1, p2, f2, p3, f3, p4, f4, p5, f5, p6, f6, p7, f7, p8, f8, p9, f9⟩ := cells10 hb3 (Whole.lt HWg.out) HWg.out q0 q1 q2 q3 q4 q5 q6 q7 q8 q9)))
          all_goals
            obtain ⟨S, SW⟩ := setCells_blk [.int .i64 op3, .int .i64 a3, .int .i64 rel3, .int .i64 b3, .slice na3 nn3 nc3, .int .u64 r0, .int .u64 r1, .int .u64 r2, .int .u64 r3, .slice ka3 kn3 kc3] (k * 10) cur w3 HG3.out
            have HS := Lib.hid S
            have HSW := Lib.hid SW
            clear S SW p0 p1 p2 p3 p4 p5 p6 p7 p8 p9 f0 f1 f2 f3 f4 f5 f6 f7 f8 f9 q0 q1 q2 q3 q4 q5 q6 q7 q8 q9
            go_wp2
            go_roundw
            case rel =>
              refine ⟨k + 1, xs.set k [.int .i64 op3, .int .i64 a3, .int .i64 rel3, .int .i64 b3, .slice na3 nn3 nc3, .int .u64 r0, .int .u64 r1, .int .u64 r2, .int .u64 r3, .slice ka3 kn3 kc3], by omega, by go_num, by rw [List.length_set]; exact HC.out.2.2, ?_, ?_, ?_, ?_⟩
              · intro x hx
                rcases List.mem_or_eq_of_mem_set hx with h | rfl
                · exact hx10.out x h
                · exact ⟨rfl, by simp [Value.oneCell']⟩
              · intro i hi
                rw [List.getElem?_set_ne (by omega)]
                exact hxk.out i (by omega)
              · exact own_set (fun x hx => (hx10.out x hx).1) HC.out.2.2 hg hnc hcm HC.out.1 HC.out.2.1 hlt rfl HSW.out
              · exact hbw3.trans (HS.out.below hg)
            case measure => simp [intOf]; omega
        · have HW1' := Lib.hid (Whole.under hbl HW1.out (by omega))
          have HW0' := Lib.hid W0
          clear W0
          go_wp2_with (first | (refine wpList_load_row rfl 91 _ rfl w.heap.size rfl 91 _ (0, 0) _ HW0'.out Try.underlying91 rfl size91 ?_) | (refine wpList_store_blk rfl 91 _ _ rfl (w.heap.size + 1) 0 (.agg _) rfl rfl 91 _ HW1'.out (by simp [Value.cells]) size91 rfl ?_))
          intro w2 S2 W2
          simp only [splice, List.setIfInBounds_toArray, List.set_cons_zero, List.set_cons_succ] at W2
          have HW2 := Lib.hid W2
          have HS2 := Lib.hid S2
          clear W2 S2 HW0' HW1'
          go_wp2
          exact bodyPost_ret (results_cell_row rfl _ _ (w.heap.size + 1) 91 _ (0, 0) _ rfl HW2.out Try.underlying91 rfl size91) rfl ⟨op, a, rel, b, a1, nn, c1, s0, s1, s2, s3, a2, ks.length, c2, rfl, hbw.trans (HS2.out.below (by omega))⟩
end Go.Proofs.Ytjpfnndfhbglgaa

import Derived.WalkKit
import Derived.WalkSpells
import Derived.WalkLawsBesides
import Derived.Handy
import Derived.BigQuiet
import Derived.Outline
import Derived.Deep.RegionHeld3
import Derived.Deep.DeepCutAuto
import Derived.Deep.DeepMust
import Derived.Deep.DeepFit
import Derived.Deep.LoopGhost
import Derived.Lib.Hide
import Derived.IntWalk
import Derived.Deep.CutBlock
import Derived.Deep.RegionWith
import Derived.Test.YtjpfnndfhbglgaaK3
/-
  THE CONTRACT OF mode.With (printed by a program).
-/
namespace Go.Proofs.Ytjpfnndfhbglgaa
open Go.RowKit

theorem RowsAt.keep {w w' : World} {v : Value} {k b : Nat} (hb : Below w.heap.size w w') (h : RowsAt w v k b) : RowsAt w' v k b :=
  let ⟨n, cs, h1, h2⟩ := h
  ⟨n, cs, h1.keep hb, h2⟩
theorem ClsAt.keep {w w' : World} {v : Value} (hb : Below w.heap.size w w') (h : ClsAt w v) : ClsAt w' v :=
  let ⟨xs, h1, h2, h3⟩ := h
  ⟨xs, h1.keep hb, h2, fun x hx => let ⟨s, v, e, h⟩ := h3 x hx; ⟨s, v, e, h.keep hb⟩⟩
theorem TysAt.keep {w w' : World} {v : Value} {l : List Ty} (hb : Below w.heap.size w w') (h : TysAt w v l) : TysAt w' v l :=
  ⟨h.1.keep hb, h.2.1, fun t ht => (h.2.2 t ht).keep hb⟩
theorem ExpsAt.keep {w w' : World} {v : Value} (hb : Below w.heap.size w w') (h : ExpsAt w v) : ExpsAt w' v :=
  let ⟨xs, h1, h2, h3⟩ := h
  ⟨xs, h1.keep hb, h2, fun x hx => let ⟨f, h⟩ := h3 x hx; ⟨f, h.keep hb⟩⟩
theorem ConsAt.keep {w w' : World} {v : Value} (hb : Below w.heap.size w w') (h : ConsAt w v) : ConsAt w' v :=
  let ⟨xs, h1, h2, h3⟩ := h
  ⟨xs, h1.keep hb, h2, fun x hx => let ⟨c, p, b, e, he, f, h⟩ := h3 x hx; ⟨c, p, b, e, he, f, h.keep hb⟩⟩
theorem Pol.At.keep {w w' : World} {p : Pol} {l : List Ty} (hb : Below w.heap.size w w') (h : p.At w l) : p.At w' l :=
  ⟨h.s0.keep hb, h.s1.keep hb, h.s2.keep hb, h.s3.keep hb, h.s4.keep hb, h.s5.keep hb, h.s6.keep hb, h.s7.keep hb, h.s8.keep hb, h.s9.keep hb, h.s10.keep hb, h.s11.keep hb, h.s12.keep hb, h.s13.keep hb, h.s14.keep hb, h.s15.keep hb, h.s16.keep hb⟩

/-- What With gives: the types with the marks of the list; the lengths of some other parts. -/
def WithRel (zs : List Int) (l ls : List Ty) : Prop := ls.length = l.length ∧ ∀ (i : Nat) (a b : Ty), l[i]? = some a → ls[i]? = some b → b.name = a.name ∧ b.aln = a.aln ∧ b.perm = hasB zs i
def WithPost (w : World) (p : Pol) (l : List Ty) (zs : List Int) (e : Ending) (w' : World) : Prop :=
  ∃ (p' : Pol) (ls : List Ty), e = .returned p'.val ∧ p'.Sl ∧ LenEq p.c0 p'.c0 ∧ LenEq p.c9 p'.c9 ∧ LenEq p.c14 p'.c14 ∧ WithRel zs l ls ∧ w'.ownsRow w.heap.size 62 3 p'.c1 l.length (tyCells ls) ∧ Below w.heap.size w w'

theorem sl_agg {v : Value} (h : IsSl v) : ∃ a n c, v = .slice a n c := h

theorem size4 : (Try.prog.info? 4).map (·.size) = some 1 := by kernel_rfl

set_option maxRecDepth 100000 in
set_option maxHeartbeats 4000000 in
theorem with_any (p : Pol) (l : List Ty) (z : Value) (zs : List Int) (w : World) (hp : p.At w l) (hz : SliceAt w z 1 zs.length (intCells zs)) : Calls Try.prog 13 #[p.val, z] w (WithPost w p l zs) := by
  have hlm : l.length ≤ 9223372036854775807 := by have := hp.s1.2.1; omega
  have HP := Lib.hid hp
  have HZ := Lib.hid hz
  have CA := fun W h => clone_any p l W h
  have HCA := Lib.hid CA
  clear hp hz CA
  obtain ⟨v0, v1, v2, v3, v4, v5, v6, v7, v8, v9, v10, v11, v12, v13, v14, v15, v16⟩ := p
  unfold Pol.val
  unfold Pol.val at HCA
  have HW := Lib.hid (heap_two w (.cells #[v0, v1, v2, v3, v4, v5, v6, v7, v8, v9, v10, v11, v12, v13, v14, v15, v16] 48) (.cells #[.slice none 0 0, .slice none 0 0, .slice none 0 0, .slice none 0 0, .slice none 0 0, .slice none 0 0, .slice none 0 0, .slice none 0 0, .slice none 0 0, .slice none 0 0, .slice none 0 0, .slice none 0 0, .slice none 0 0, .slice none 0 0, .slice none 0 0, .slice none 0 0, .slice none 0 0] 48))
  go_enter Try.func13, Try.ntmps13
  go_upto_region 1 with fail
  go_cut [] (fun wc => ∃ (a0 : Option Addr) (n0 : Nat) (c0 : Nat) (a1 : Option Addr) (c1 : Nat) (a2 : Option Addr) (n2 : Nat) (c2 : Nat) (a3 : Option Addr) (n3 : Nat) (c3 : Nat) (a4 : Option Addr) (n4 : Nat) (c4 : Nat) (a5 : Option Addr) (n5 : Nat) (c5 : Nat) (a6 : Option Addr) (n6 : Nat) (c6 : Nat) (a7 : Option Addr) (n7 : Nat) (c7 : Nat) (a8 : Option Addr) (n8 : Nat) (c8 : Nat) (a9 : Option Addr) (n9 : Nat) (c9 : Nat) (a10 : Option Addr) (n10 : Nat) (c10 : Nat) (a11 : Option Addr) (n11 : Nat) (c11 : Nat) (a12 : Option Addr) (n12 : Nat) (c12 : Nat) (a13 : Option Addr) (n13 : Nat) (c13 : Nat) (a14 : Option Addr) (n14 : Nat) (c14 : Nat) (a15 : Option Addr) (n15 : Nat) (c15 : Nat) (a16 : Option Addr) (n16 : Nat) (c16 : Nat), Whole wc w.heap.size 48 #[.slice a0 n0 c0, .slice a1 l.length c1, .slice a2 n2 c2, .slice a3 n3 c3, .slice a4 n4 c4, .slice a5 n5 c5, .slice a6 n6 c6, .slice a7 n7 c7, .slice a8 n8 c8, .slice a9 n9 c9, .slice a10 n10 c10, .slice a11 n11 c11, .slice a12 n12 c12, .slice a13 n13 c13, .slice a14 n14 c14, .slice a15 n15 c15, .slice a16 n16 c16] ∧ Whole wc (w.heap.size + 1) 48 #[.slice none 0 0, .slice none 0 0, .slice none 0 0, .slice none 0 0, .slice none 0 0, .slice none 0 0, .slice none 0 0, .slice none 0 0, .slice none 0 0, .slice none 0 0, .slice none 0 0, .slice none 0 0, .slice none 0 0, .slice none 0 0, .slice none 0 0, .slice none 0 0, .slice none 0 0] ∧
    LenEq v0 (.slice a0 n0 c0) ∧ LenEq v9 (.slice a9 n9 c9) ∧ LenEq v14 (.slice a14 n14 c14) ∧ TyOwn (w.heap.size + 2) l a1 c1 wc ∧ Below w.heap.size w wc)
  case first =>
    go_wp2_with (first
      | (go_at_call 21; go_must (refine (HCA.out _ (HP.out.keep (by go_grown))).mono ?_; rintro e w1 ⟨p', rfl, ⟨s0, s1, s2, s3, s4, s5, s6, s7, s8, s9, s10, s11, s12, s13, s14, s15, s16⟩, g0, g9, g14, a1, c1, g1, ht, hb1⟩; obtain ⟨x0, x1, x2, x3, x4, x5, x6, x7, x8, x9, x10, x11, x12, x13, x14, x15, x16⟩ := p'; obtain ⟨a0, n0, c0, rfl⟩ := sl_agg s0; obtain ⟨a2, n2, c2, rfl⟩ := sl_agg s2; obtain ⟨a3, n3, c3, rfl⟩ := sl_agg s3; obtain ⟨a4, n4, c4, rfl⟩ := sl_agg s4; obtain ⟨a5, n5, c5, rfl⟩ := sl_agg s5; obtain ⟨a6, n6, c6, rfl⟩ := sl_agg s6; obtain ⟨a7, n7, c7, rfl⟩ := sl_agg s7; obtain ⟨a8, n8, c8, rfl⟩ := sl_agg s8; obtain ⟨a9, n9, c9, rfl⟩ := sl_agg s9; obtain ⟨a10, n10, c10, rfl⟩ := sl_agg s10; obtain ⟨a11, n11, c11, rfl⟩ := sl_agg s11; obtain ⟨a12, n12, c12, rfl⟩ := sl_agg s12; obtain ⟨a13, n13, c13, rfl⟩ := sl_agg s13; obtain ⟨a14, n14, c14, rfl⟩ := sl_agg s14; obtain ⟨a15, n15, c15, rfl⟩ := sl_agg s15; obtain ⟨a16, n16, c16, rfl⟩ := sl_agg s16; obtain rfl := g1; unfold Pol.val; have hw1 : Below w.heap.size w w1 := Below.trans (b := _) (by go_grown) (hb1.mono (by simp; omega)); have hA := Lib.hid (Whole.under hb1 HW.out.1 (Whole.lt HW.out.1)); have hB := Lib.hid (Whole.under hb1 HW.out.2 (Whole.lt HW.out.2))))
      | (refine wpList_store_blk rfl 48 _ _ rfl w.heap.size 0 (.agg #[.slice a0 n0 c0, .slice a1 l.length c1, .slice a2 n2 c2, .slice a3 n3 c3, .slice a4 n4 c4, .slice a5 n5 c5, .slice a6 n6 c6, .slice a7 n7 c7, .slice a8 n8 c8, .slice a9 n9 c9, .slice a10 n10 c10, .slice a11 n11 c11, .slice a12 n12 c12, .slice a13 n13 c13, .slice a14 n14 c14, .slice a15 n15 c15, .slice a16 n16 c16]) rfl rfl 48 _ hA.out (by simp [Value.cells]) size48 rfl ?_))
    intro w2 S2 W2
    simp only [splice, List.setIfInBounds_toArray, List.set_cons_zero, List.set_cons_succ] at W2
    have HW2 := Lib.hid W2
    have HS2 := Lib.hid S2
    clear W2 S2
    go_wp2_with fail
    go_meet
    have HT : TyOwn (w.heap.size + 2) l a1 c1 w2 := by
      obtain ⟨ls, h1, h2, h3⟩ := ht
      exact TyOwn.sto HS2.out ⟨ls, h1, h2, own_low h3 (by simp)⟩ (by omega)
    exact ⟨a0, n0, c0, a1, c1, a2, n2, c2, a3, n3, c3, a4, n4, c4, a5, n5, c5, a6, n6, c6, a7, n7, c7, a8, n8, c8, a9, n9, c9, a10, n10, c10, a11, n11, c11, a12, n12, c12, a13, n13, c13, a14, n14, c14, a15, n15, c15, a16, n16, c16, HW2.out, HS2.out.whole hB.out (by omega), g0, g9, g14, HT, hw1.trans (HS2.out.below (Nat.le_refl _))⟩
  case rest =>
  obtain ⟨a0, n0, c0, a1, c1, a2, n2, c2, a3, n3, c3, a4, n4, c4, a5, n5, c5, a6, n6, c6, a7, n7, c7, a8, n8, c8, a9, n9, c9, a10, n10, c10, a11, n11, c11, a12, n12, c12, a13, n13, c13, a14, n14, c14, a15, n15, c15, a16, n16, c16, W0, W1, g0, g9, g14, ht, hb⟩ := hcut
  have HA := Lib.hid W0
  have HB := Lib.hid W1
  have kq := (W0.both 1 _ rfl).1
  clear W0 W1
  go_wp2
  go_loopw [11] (fun i wr => ∃ (k : Nat) (ls : List Ty), k ≤ l.length ∧ i = .int .i64 k ∧ Hid (ls.length = l.length) ∧ Hid (∀ (i : Nat) (a b : Ty), l[i]? = some a → ls[i]? = some b → b.name = a.name ∧ b.aln = a.aln ∧ (i < k → b.perm = hasB zs i)) ∧
    wr.ownsRow (w.heap.size + 2) 62 3 (.slice a1 l.length c1) l.length (ls.map Ty.cells).flatten ∧ Below (w.heap.size + 2) wc wr) (fun i _ => l.length - (intOf i).toNat)
  case atStart =>
    obtain ⟨ls, h1, h2, h3⟩ := ht
    exact ⟨0, ls, by omega, rfl, h1, fun i a b ha hb' => ⟨(h2 i a b ha hb').name.symm, (h2 i a b ha hb').aln.symm, fun h => by omega⟩, by simpa [tyCells, List.flatMap_def] using h3, Below.refl _ _⟩
  case round =>
    obtain ⟨k, ls, hk, rfl, hxl, hxK, hown, hbl⟩ := hrel
    have hbw : Below w.heap.size w wr := hb.trans (hbl.mono (by omega))
    have WQ : Whole wr w.heap.size 48 _ := Whole.under hbl HA.out (by omega)
    have kq := (WQ.both 1 _ rfl).1
    have HWQ := Lib.hid WQ
    clear WQ
    by_cases hlt : k < l.length
    · obtain ⟨g, cap, cur, hv, hg, hW, hnc, hcm, hcs, htk⟩ := own_open hown (by omega)
      simp only [Value.slice.injEq] at hv
      obtain ⟨rfl, -, rfl⟩ := hv
      have hkl : k < ls.length := by rw [hxl.out]; exact hlt
      obtain ⟨x, hlx⟩ : ∃ x, ls[k]? = some x := ⟨_, List.getElem?_eq_getElem hkl⟩
      clear hkl
      obtain ⟨xn, xa, xm, xc, xp⟩ := x
      have hmx : (ls.map Ty.cells)[k]? = some [.string xn, .slice xa xm xc, .bool xp] := by rw [List.getElem?_map, hlx]; rfl
      have c2 := row_cell hW (ty_rows ls) htk hmx 2 _ rfl
      have f2 := hW.frozen (k * 3 + 2)
      have HG := Lib.hid hW
      have HF := Lib.hid (And.intro hcs htk)
      have HMX := Lib.hid hmx
      have HLX := Lib.hid hlx
      clear hW hcs htk hmx hlx
      go_upto_region 5 with fail
      go_region_with ((go_at_call 22; go_must (refine (contains_any _ zs _ _ (HZ.out.keep (by go_grown))).mono ?_; rintro e w' ⟨rfl, rfl⟩)))
      all_goals
        have S := Lib.hid (Sto.cell wr g (k * 3 + 2) (.bool (hasB zs k)))
        have SW := Lib.hid (heap_setCell_same wr g (k * 3 + 2) cur 62 (.bool (hasB zs k)) HG.out)
        clear c2 f2
        go_wp2
        go_roundw
        case rel =>
          refine ⟨k + 1, ls.set k ⟨xn, xa, xm, xc, hasB zs k⟩, by omega, by go_num, (List.length_set ..).trans hxl.out, ?_, ?_, ?_⟩
          · intro i a b ha hb'
            by_cases hik : i = k
            · subst hik
              rw [List.getElem?_set_self (by rw [hxl.out]; exact hlt)] at hb'
              obtain rfl := Option.some.inj hb'
              have := hxK.out i a _ ha HLX.out
              exact ⟨this.1, this.2.1, fun _ => rfl⟩
            · rw [List.getElem?_set_ne (Ne.symm hik)] at hb'
              have := hxK.out i a b ha hb'
              exact ⟨this.1, this.2.1, fun h => this.2.2 (by omega)⟩
          · rw [List.map_set]
            exact own_splice (ty_rows ls) (by rw [List.length_map]; exact hxl.out) hg hnc hcm HF.out.1 HF.out.2 HMX.out (o := 2) (l := [.bool (hasB zs k)]) (by show 3 ≤ 3; omega) SW.out
          · exact (hbl.trans (S.out.below hg)).drew
        case measure => simp [intOf]; omega
    · have HB1 := Lib.hid (Whole.under hbl HB.out (by omega))
      obtain rfl : k = l.length := by omega
      have hrel : WithRel zs l ls := ⟨hxl.out, fun i a b ha hb' => by
        have := hxK.out i a b ha hb'
        exact ⟨this.1, this.2.1, this.2.2 (List.getElem?_eq_some_iff.1 ha).1⟩⟩
      have HR := Lib.hid hrel
      clear hrel kq
      go_wp2_with (first | (refine wpList_load_row rfl 48 _ rfl w.heap.size rfl 48 _ (0, 0) _ HWQ.out Try.underlying48 rfl size48 ?_) | (refine wpList_store_blk rfl 48 _ _ rfl (w.heap.size + 1) 0 (.agg _) rfl rfl 48 _ HB1.out (by simp [Value.cells]) size48 rfl ?_))
      intro w2 S2 W2
      simp only [splice, List.setIfInBounds_toArray, List.set_cons_zero, List.set_cons_succ] at W2
      have HW2 := Lib.hid W2
      have HS2 := Lib.hid S2
      clear W2 S2
      go_wp
      refine bodyPost_ret (results_cell_row rfl _ _ (w.heap.size + 1) 48 _ (0, 0) _ rfl HW2.out Try.underlying48 rfl size48) rfl ⟨⟨.slice a0 n0 c0, .slice a1 l.length c1, .slice a2 n2 c2, .slice a3 n3 c3, .slice a4 n4 c4, .slice a5 n5 c5, .slice a6 n6 c6, .slice a7 n7 c7, .slice a8 n8 c8, .slice a9 n9 c9, .slice a10 n10 c10, .slice a11 n11 c11, .slice a12 n12 c12, .slice a13 n13 c13, .slice a14 n14 c14, .slice a15 n15 c15, .slice a16 n16 c16⟩, ls, rfl, ⟨⟨_, _, _, rfl⟩, ⟨_, _, _, rfl⟩, ⟨_, _, _, rfl⟩, ⟨_, _, _, rfl⟩, ⟨_, _, _, rfl⟩, ⟨_, _, _, rfl⟩, ⟨_, _, _, rfl⟩, ⟨_, _, _, rfl⟩, ⟨_, _, _, rfl⟩, ⟨_, _, _, rfl⟩, ⟨_, _, _, rfl⟩, ⟨_, _, _, rfl⟩, ⟨_, _, _, rfl⟩, ⟨_, _, _, rfl⟩, ⟨_, _, _, rfl⟩, ⟨_, _, _, rfl⟩, ⟨_, _, _, rfl⟩⟩, g0, g9, g14, HR.out, HS2.out.own (own_low (by simpa [tyCells, List.flatMap_def] using hown) (by omega)) (own_far hown (by omega)), hbw.trans (HS2.out.below (by omega))⟩
end Go.Proofs.Ytjpfnndfhbglgaa

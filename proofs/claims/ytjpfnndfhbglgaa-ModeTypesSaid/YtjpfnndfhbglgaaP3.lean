import Derived.WalkKit
import Derived.WalkSpells
import Derived.WalkLawsBesides
import Derived.Handy
import Derived.BigQuiet
import Derived.Outline
import Derived.Deep.RegionHeld3
import Derived.Deep.DeepCutAuto
import Derived.Deep.DeepMust
import Derived.Lib.Hide
import Derived.Deep.RegionWith
import Derived.Test.YtjpfnndfhbglgaaA
import Derived.Test.YtjpfnndfhbglgaaB
import Derived.Test.YtjpfnndfhbglgaaW
import Derived.Test.YtjpfnndfhbglgaaK
import Derived.Test.YtjpfnndfhbglgaaP2
/-
  THE LAW ModeEnforces: its walk.
-/
namespace Go.Proofs.Ytjpfnndfhbglgaa
open Go.RowKit

def EnR (wc : World) (dV pV : Value) (onc ofc : Array Value) (L : Nat → Bool) (u5 u6 u7 u8 u9 u10 u11 u12 : Value) (wx : World) : Prop :=
  Below wc.heap.size wc wx ∧ (L 0 = true → u7 = dV) ∧ (L 1 = true → u8 = pV) ∧ (L 2 = true → u9 = .agg onc) ∧ (L 3 = true → u10 = dV) ∧ (L 4 = true → u11 = pV) ∧ (L 5 = true → u12 = .agg ofc) ∧
  (L 6 = true → VarAt wc.heap.size 26 (if L 8 then onc else z5) u5 wx) ∧ (L 7 = true → VarAt wc.heap.size 26 (if L 9 then ofc else z5) u6 wx) ∧ (L 6 = true → L 7 = true → u5 ≠ u6) ∧
  (L 8 = true → L 6 = true) ∧ (L 9 = true → L 7 = true)

theorem two_vars {w w' : World} {g1 g2 : Nat} {t1 t2 : TypeId} {c1 c2 : Array Value} (hb : Below w.heap.size w w') (h : Hid (Whole w g1 t1 c1 ∧ Whole w g2 t2 c2)) : Hid (Whole w' g1 t1 c1 ∧ Whole w' g2 t2 c2) :=
  ⟨Whole.under hb h.out.1 (Whole.lt h.out.1), Whole.under hb h.out.2 (Whole.lt h.out.2)⟩

set_option maxRecDepth 100000 in
set_option maxHeartbeats 1000000 in
theorem enforces_core (A B C S p D G Y : Int) (P og op xp : Bool) (w : World)
    (h1 : ∀ W, Calls Try.prog 8 #[.agg #[.int .u32 A, .int .u32 B, .int .u32 C, .bool P, .int .i64 S], .int .u32 p, .bool true] W fun e w' => e = .returned (.agg #[.bool og, .int .u32 D, .int .u32 G, .int .u32 Y, .bool op]) ∧ Below W.heap.size W w')
    (h2 : ∀ W, Calls Try.prog 8 #[.agg #[.int .u32 A, .int .u32 B, .int .u32 C, .bool P, .int .i64 S], .int .u32 p, .bool false] W fun e w' => e = .returned (.agg #[.bool true, .int .u32 D, .int .u32 G, .int .u32 Y, .bool xp]) ∧ Below W.heap.size W w')
    (h3 : ∀ W, Calls Try.prog 10 #[.agg #[.bool og, .int .u32 D, .int .u32 G, .int .u32 Y, .bool op]] W fun e w' => e = .returned (.int .u32 (bits .or .u32 G Y)) ∧ Below W.heap.size W w')
    (hD : bits .andNot .u32 p A = D) (hGY : bits .and .u32 G Y = 0) (hAu : bits .andNot .u32 (bits .or .u32 G Y) p = 0)
    (hP : P = true → og = true) (hQ : P = false → og = (D == 0) ∧ op = false) :
    Calls Try.prog 7 #[.agg #[.int .u32 A, .int .u32 B, .int .u32 C, .bool P, .int .i64 S], .int .u32 p] w fun e w' => e = .returned (.bool true) ∧ Below w.heap.size w w' := by
  have K1 := Lib.hid h1
  have K2 := Lib.hid h2
  have K3 := Lib.hid h3
  have H4 := Lib.hid (And.intro hD (And.intro hGY hAu))
  have HPQ := Lib.hid (And.intro hP hQ)
  clear h1 h2 h3 hD hGY hAu hP hQ
  have hd := Whole.new w 24 #[.int .u32 A, .int .u32 B, .int .u32 C, .bool P, .int .i64 S]
  have hbw : Below w.heap.size w (w.alloc (.cells #[.int .u32 A, .int .u32 B, .int .u32 C, .bool P, .int .i64 S] 24)) := by go_grown
  go_enter Try.func7, Try.ntmps7
  go_wp2_with fail
  generalize w.alloc (.cells #[.int .u32 A, .int .u32 B, .int .u32 C, .bool P, .int .i64 S] 24) = wo at *
  have hl1 := Whole.lt hd
  have HB := Lib.hid hbw
  have HD := Lib.hid (cellsW hd)
  have HDW := Lib.hid hd
  clear hd hbw
  go_cut [5, 6] (fun s5 s6 wd => ∃ (g1 g2 : Nat), s5 = .pointer (some ⟨g1, 0, none⟩) ∧ s6 = .pointer (some ⟨g2, 0, none⟩) ∧ Whole wd g1 26 #[.bool og, .int .u32 D, .int .u32 G, .int .u32 Y, .bool op] ∧ Whole wd g2 26 #[.bool true, .int .u32 D, .int .u32 G, .int .u32 Y, .bool xp] ∧ Below wo.heap.size wo wd)
  case first =>
    refine wp_region_slots [5, 6, 7, 8, 9, 10, 11, 12] (by kernel_rfl) (by kernel_rfl) (EnR wo (.agg #[.int .u32 A, .int .u32 B, .int .u32 C, .bool P, .int .i64 S]) (.int .u32 p) #[.bool og, .int .u32 D, .int .u32 G, .int .u32 Y, .bool op] #[.bool true, .int .u32 D, .int .u32 G, .int .u32 Y, .bool xp]) ?_ ⟨?_, ?_, ?_, ?_, ?_, ?_, ?_, ?_, ?_, ?_, trivial⟩ ?_
    · refine (?_ : EnR wo (.agg #[.int .u32 A, .int .u32 B, .int .u32 C, .bool P, .int .i64 S]) (.int .u32 p) #[.bool og, .int .u32 D, .int .u32 G, .int .u32 Y, .bool op] #[.bool true, .int .u32 D, .int .u32 G, .int .u32 Y, .bool xp] (fun _ => false) _ _ _ _ _ _ _ _ wo.drew)
      exact ⟨(Below.refl _ _).drew, (fun h => by cases h), (fun h => by cases h), (fun h => by cases h), (fun h => by cases h), (fun h => by cases h), (fun h => by cases h), (fun h => by cases h), (fun h => by cases h), (fun h => by cases h), (fun h => by cases h), (fun h => by cases h)⟩
    · rintro L a wx Q' ⟨u5, u6, u7, u8, u9, u10, u11, u12, rfl, hR⟩ hL hA hK
      have HR := Lib.hid hR
      clear hR
      simp only [List.setIfInBounds_toArray, List.set_cons_zero, List.set_cons_succ]
      obtain ⟨e0, e1, e2, e3, e4⟩ := cells5 HR.out.1 hl1 HD.out.1 HD.out.2.1 HD.out.2.2.1 HD.out.2.2.2.1 HD.out.2.2.2.2
      clear hA
      go_wp2_with fail
      obtain ⟨hb, f0, f1, f2, f3, f4, f5, f6, f7, f8, f9, fx⟩ := HR.out
      refine exC_mk _ _ _ _ (by simp only [setsC, List.setIfInBounds_toArray, List.set_cons_zero, List.set_cons_succ]; rfl) ?_
      exact ⟨hb, fun _ => rfl, f1, f2, f3, f4, f5, f6, f7, f8, f9, fx⟩
    · rintro L a wx Q' ⟨u5, u6, u7, u8, u9, u10, u11, u12, rfl, hR⟩ hL hA hK
      have HR := Lib.hid hR
      clear hR
      simp only [List.setIfInBounds_toArray, List.set_cons_zero, List.set_cons_succ]
      clear hA
      go_wp2_with fail
      obtain ⟨hb, f0, f1, f2, f3, f4, f5, f6, f7, f8, f9, fx⟩ := HR.out
      refine exC_mk _ _ _ _ (by simp only [setsC, List.setIfInBounds_toArray, List.set_cons_zero, List.set_cons_succ]; rfl) ?_
      exact ⟨hb, f0, fun _ => rfl, f2, f3, f4, f5, f6, f7, f8, f9, fx⟩
    · rintro L a wx Q' ⟨u5, u6, u7, u8, u9, u10, u11, u12, rfl, hR⟩ hL hA hK
      have HR := Lib.hid hR
      clear hR
      simp only [List.setIfInBounds_toArray, List.set_cons_zero, List.set_cons_succ]
      have l0 : L 0 = true := hA ⟨0, .data⟩ (by simp) rfl
      have l1 : L 1 = true := hA ⟨1, .data⟩ (by simp) rfl
      have hu := HR.out.2.1 l0
      have hv := HR.out.2.2.1 l1
      subst hu hv
      clear hA
      go_wp2_with (go_at_call 8; go_must (refine (K1.out _).mono ?_; rintro e w1 ⟨rfl, hb1⟩))
      obtain ⟨hb, f0, f1, f2, f3, f4, f5, f6, f7, f8, f9, fx⟩ := HR.out
      refine exC_mk _ _ _ _ (by simp only [setsC, List.setIfInBounds_toArray, List.set_cons_zero, List.set_cons_succ]; rfl) ?_
      exact ⟨hb.trans (hb1.mono hb.size), fun _ => rfl, fun _ => rfl, fun _ => rfl, f3, f4, f5, fun h => (f6 h).keep hb1, fun h => (f7 h).keep hb1, f8, f9, fx⟩
    · rintro L a wx Q' ⟨u5, u6, u7, u8, u9, u10, u11, u12, rfl, hR⟩ hL hA hK
      have HR := Lib.hid hR
      clear hR
      simp only [List.setIfInBounds_toArray, List.set_cons_zero, List.set_cons_succ]
      obtain ⟨e0, e1, e2, e3, e4⟩ := cells5 HR.out.1 hl1 HD.out.1 HD.out.2.1 HD.out.2.2.1 HD.out.2.2.2.1 HD.out.2.2.2.2
      clear hA
      go_wp2_with fail
      obtain ⟨hb, f0, f1, f2, f3, f4, f5, f6, f7, f8, f9, fx⟩ := HR.out
      refine exC_mk _ _ _ _ (by simp only [setsC, List.setIfInBounds_toArray, List.set_cons_zero, List.set_cons_succ]; rfl) ?_
      exact ⟨hb, f0, f1, f2, fun _ => rfl, f4, f5, f6, f7, f8, f9, fx⟩
    · rintro L a wx Q' ⟨u5, u6, u7, u8, u9, u10, u11, u12, rfl, hR⟩ hL hA hK
      have HR := Lib.hid hR
      clear hR
      simp only [List.setIfInBounds_toArray, List.set_cons_zero, List.set_cons_succ]
      clear hA
      go_wp2_with fail
      obtain ⟨hb, f0, f1, f2, f3, f4, f5, f6, f7, f8, f9, fx⟩ := HR.out
      refine exC_mk _ _ _ _ (by simp only [setsC, List.setIfInBounds_toArray, List.set_cons_zero, List.set_cons_succ]; rfl) ?_
      exact ⟨hb, f0, f1, f2, f3, fun _ => rfl, f5, f6, f7, f8, f9, fx⟩
    · rintro L a wx Q' ⟨u5, u6, u7, u8, u9, u10, u11, u12, rfl, hR⟩ hL hA hK
      have HR := Lib.hid hR
      clear hR
      simp only [List.setIfInBounds_toArray, List.set_cons_zero, List.set_cons_succ]
      have l0 : L 3 = true := hA ⟨3, .data⟩ (by simp) rfl
      have l1 : L 4 = true := hA ⟨4, .data⟩ (by simp) rfl
      have hu := HR.out.2.2.2.2.1 l0
      have hv := HR.out.2.2.2.2.2.1 l1
      subst hu hv
      clear hA
      go_wp2_with (go_at_call 8; go_must (refine (K2.out _).mono ?_; rintro e w1 ⟨rfl, hb1⟩))
      obtain ⟨hb, f0, f1, f2, f3, f4, f5, f6, f7, f8, f9, fx⟩ := HR.out
      refine exC_mk _ _ _ _ (by simp only [setsC, List.setIfInBounds_toArray, List.set_cons_zero, List.set_cons_succ]; rfl) ?_
      exact ⟨hb.trans (hb1.mono hb.size), f0, f1, f2, fun _ => rfl, fun _ => rfl, fun _ => rfl, fun h => (f6 h).keep hb1, fun h => (f7 h).keep hb1, f8, f9, fx⟩
    · rintro L a wx Q' ⟨u5, u6, u7, u8, u9, u10, u11, u12, rfl, hR⟩ hL hA hK
      have HR := Lib.hid hR
      clear hR
      simp only [List.setIfInBounds_toArray, List.set_cons_zero, List.set_cons_succ]
      clear hA
      have hL6 : L 8 = false := by
        cases hx : L 8 with
        | false => rfl
        | true => rw [HR.out.2.2.2.2.2.2.2.2.2.2.1 hx] at hL; cases hL
      have HL6 := Lib.hid hL6
      clear hL6 hL
      go_wp2_with fail
      obtain ⟨hb, f0, f1, f2, f3, f4, f5, f6, f7, f8, f9, fx⟩ := HR.out
      refine exC_mk _ _ _ _ (by simp only [setsC, List.setIfInBounds_toArray, List.set_cons_zero, List.set_cons_succ]; rfl) ?_
      exact ⟨hb.alloc hb.size _, f0, f1, f2, f3, f4, f5, fun _ => by rw [show upd L 6 8 = false from HL6.out]; exact VarAt.new wx 26 z5 hb.size, fun h => (f7 h).keep ((Below.refl _ _).alloc (Nat.le_refl _) _), fun _ h => Ne.symm (f7 h).ne, fun _ => rfl, fx⟩
    · rintro L a wx Q' ⟨u5, u6, u7, u8, u9, u10, u11, u12, rfl, hR⟩ hL hA hK
      have HR := Lib.hid hR
      clear hR
      simp only [List.setIfInBounds_toArray, List.set_cons_zero, List.set_cons_succ]
      clear hA
      have hL6 : L 9 = false := by
        cases hx : L 9 with
        | false => rfl
        | true => rw [HR.out.2.2.2.2.2.2.2.2.2.2.2 hx] at hL; cases hL
      have HL6 := Lib.hid hL6
      clear hL6 hL
      go_wp2_with fail
      obtain ⟨hb, f0, f1, f2, f3, f4, f5, f6, f7, f8, f9, fx⟩ := HR.out
      refine exC_mk _ _ _ _ (by simp only [setsC, List.setIfInBounds_toArray, List.set_cons_zero, List.set_cons_succ]; rfl) ?_
      exact ⟨hb.alloc hb.size _, f0, f1, f2, f3, f4, f5, fun h => (f6 h).keep ((Below.refl _ _).alloc (Nat.le_refl _) _), fun _ => by rw [show upd L 7 9 = false from HL6.out]; exact VarAt.new wx 26 z5 hb.size, fun h _ => (f6 h).ne, f9, fun _ => rfl⟩
    · rintro L a wx Q' ⟨u5, u6, u7, u8, u9, u10, u11, u12, rfl, hR⟩ hL hA hK
      have HR := Lib.hid hR
      clear hR
      simp only [List.setIfInBounds_toArray, List.set_cons_zero, List.set_cons_succ]
      have l0 : L 2 = true := hA ⟨2, .data⟩ (by simp) rfl
      have l1 : L 6 = true := hA ⟨6, .data⟩ (by simp) rfl
      have hu := HR.out.2.2.2.1 l0
      subst hu
      obtain ⟨g, hg, hgB, hgW⟩ := HR.out.2.2.2.2.2.2.2.1 l1
      rw [hL] at hgW
      subst hg
      clear hA
      have HG := Lib.hid hgW
      have HL := Lib.hid (And.intro l0 l1)
      clear hgW l0 l1 hL
      go_wp2_with (refine wpList_store_blk rfl 26 _ _ rfl g 0 (.agg _) rfl rfl 26 _ HG.out (by simp [Value.cells, z5]) size26 rfl ?_)
      intro w2 S2 W2
      go_wp2_with fail
      obtain ⟨hb, f0, f1, f2, f3, f4, f5, f6, f7, f8, f9, fx⟩ := HR.out
      refine exC_mk _ _ _ _ (by simp only [setsC, List.setIfInBounds_toArray, List.set_cons_zero, List.set_cons_succ]; rfl) ?_
      exact ⟨hb.trans (S2.below hgB), f0, f1, fun _ => rfl, f3, f4, f5, fun _ => ⟨g, rfl, hgB, W2⟩, fun h => (f7 h).sto S2 (Ne.symm (f8 HL.out.2 h)), f8, fun _ => HL.out.2, fx⟩
    · rintro L a wx Q' ⟨u5, u6, u7, u8, u9, u10, u11, u12, rfl, hR⟩ hL hA hK
      have HR := Lib.hid hR
      clear hR
      simp only [List.setIfInBounds_toArray, List.set_cons_zero, List.set_cons_succ]
      have l0 : L 5 = true := hA ⟨5, .data⟩ (by simp) rfl
      have l1 : L 7 = true := hA ⟨7, .data⟩ (by simp) rfl
      have hu := HR.out.2.2.2.2.2.2.1 l0
      subst hu
      obtain ⟨g, hg, hgB, hgW⟩ := HR.out.2.2.2.2.2.2.2.2.1 l1
      rw [hL] at hgW
      subst hg
      clear hA
      have HG := Lib.hid hgW
      have HL := Lib.hid (And.intro l0 l1)
      clear hgW l0 l1 hL
      go_wp2_with (refine wpList_store_blk rfl 26 _ _ rfl g 0 (.agg _) rfl rfl 26 _ HG.out (by simp [Value.cells, z5]) size26 rfl ?_)
      intro w2 S2 W2
      go_wp2_with fail
      obtain ⟨hb, f0, f1, f2, f3, f4, f5, f6, f7, f8, f9, fx⟩ := HR.out
      refine exC_mk _ _ _ _ (by simp only [setsC, List.setIfInBounds_toArray, List.set_cons_zero, List.set_cons_succ]; rfl) ?_
      exact ⟨hb.trans (S2.below hgB), f0, f1, f2, f3, f4, fun _ => rfl, fun h => (f6 h).sto S2 (f8 h HL.out.2), fun _ => ⟨g, rfl, hgB, W2⟩, f8, f9, fun _ => HL.out.2⟩
    · rintro L a wx ⟨u5, u6, u7, u8, u9, u10, u11, u12, rfl, hR⟩ hL
      have l : ∀ i, i < 10 → L i = true := hL
      obtain ⟨hb, f0, f1, f2, f3, f4, f5, f6, f7, f8, f9, fx⟩ := hR
      obtain ⟨g1, rfl, hg1, W1⟩ := f6 (l 6 (by omega))
      obtain ⟨g2, rfl, hg2, W2⟩ := f7 (l 7 (by omega))
      rw [l 8 (by omega)] at W1
      rw [l 9 (by omega)] at W2
      clear f0 f1 f2 f3 f4 f5 f6 f7 f8 f9 fx l hL
      simp only [List.setIfInBounds_toArray, List.set_cons_zero, List.set_cons_succ]
      have K1 := Lib.hid W1
      have K2 := Lib.hid W2
      clear W1 W2
      go_wp2_with fail
      go_meet
      exact ⟨g1, g2, rfl, rfl, K1.out, K2.out, hb⟩
  case rest =>
  obtain ⟨g1, g2, rfl, rfl, W1, W2, hb⟩ := hcut
  have KD := Lib.hid (Whole.under hb HDW.out hl1)
  have KV := Lib.hid (And.intro W1 W2)
  have HB2 := Lib.hid (HB.out.trans (hb.mono HB.out.size))
  obtain ⟨e0, e1, e2, e3, e4⟩ := cellsW KD.out
  obtain ⟨m0, m1, m2, m3, m4⟩ := cellsW W1
  obtain ⟨q0, q1, q2, q3, q4⟩ := cellsW W2
  clear W1 W2 hb HD HB HDW
  obtain ⟨hD, hGY, hAu⟩ := H4.out
  obtain ⟨hP, hQ⟩ := HPQ.out
  clear HPQ H4
  cases P with
  | true =>
    obtain rfl : og = true := hP rfl
    clear hP hQ
    go_wp2_with (first
      | (go_at_call 10; go_must (refine (K3.out _).mono ?_; rintro e w1 ⟨rfl, hb1⟩; have KD1 := Lib.hid (Whole.under hb1 KD.out (Whole.lt KD.out)); have KV1 := two_vars hb1 KV; have HB3 := Lib.hid (HB2.out.trans (hb1.mono HB2.out.size)); clear e0 e1 e2 e3 e4 m0 m1 m2 m3 m4 q0 q1 q2 q3 q4 hb1; obtain ⟨e0, e1, e2, e3, e4⟩ := cellsW KD1.out; obtain ⟨m0, m1, m2, m3, m4⟩ := cellsW KV1.out.1))
      | (go_at_call 12; go_must (refine (awake_any _).mono ?_; rintro e w2 ⟨rfl, hb2⟩; have HB4 := Lib.hid (HB3.out.trans (hb2.mono HB3.out.size)); clear hb2)))
    go_ret
    exact ⟨rfl, HB4.out⟩
  | false =>
    obtain ⟨rfl, rfl⟩ := hQ rfl
    clear hP hQ
    go_wp2_with (first
      | (go_at_call 10; go_must (refine (K3.out _).mono ?_; rintro e w1 ⟨rfl, hb1⟩; have KD1 := Lib.hid (Whole.under hb1 KD.out (Whole.lt KD.out)); have KV1 := two_vars hb1 KV; have HB3 := Lib.hid (HB2.out.trans (hb1.mono HB2.out.size)); clear e0 e1 e2 e3 e4 m0 m1 m2 m3 m4 q0 q1 q2 q3 q4 hb1; obtain ⟨e0, e1, e2, e3, e4⟩ := cellsW KD1.out; obtain ⟨m0, m1, m2, m3, m4⟩ := cellsW KV1.out.1))
      | (go_at_call 12; go_must (refine (awake_any _).mono ?_; rintro e w2 ⟨rfl, hb2⟩; have HB4 := Lib.hid (HB3.out.trans (hb2.mono HB3.out.size)); clear hb2)))
    go_ret
    exact ⟨rfl, HB4.out⟩

theorem bv_gy (p A B C : BitVec 32) : p &&& A &&& B &&& (p &&& ~~~A &&& C) = 0#32 := by
  ext i hi
  simp
  intros
  simp_all
theorem bv_au (p A B C : BitVec 32) : (p &&& A &&& B ||| p &&& ~~~A &&& C) &&& ~~~p = 0#32 := by
  ext i hi
  simp
  intro h
  rcases h with h | h <;> simp [h]

theorem modeEnforces_any (A B C S p : Int) (P : Bool) (w : World) : Calls Try.prog 7 #[.agg #[.int .u32 A, .int .u32 B, .int .u32 C, .bool P, .int .i64 S], .int .u32 p] w fun e w' => e = .returned (.bool true) ∧ Below w.heap.size w w' := by
  refine enforces_core A B C S p (bits .andNot .u32 p A) (bits .and .u32 (bits .and .u32 p A) B) (bits .and .u32 (bits .andNot .u32 p A) C) P (bits .andNot .u32 p A == 0 || (!true || P)) (bits .andNot .u32 p A != 0 && (!true || P)) (bits .andNot .u32 p A != 0) w
    (fun W => judge_any A B C S p P true W) ?_ ?_ rfl ?_ ?_ ?_ ?_
  · intro W
    have h := judge_any A B C S p P false W
    have e : judgeV A B C p P false = ⟨true, bits .andNot .u32 p A, bits .and .u32 (bits .and .u32 p A) B, bits .and .u32 (bits .andNot .u32 p A) C, bits .andNot .u32 p A != 0⟩ := by
      unfold judgeV
      simp
    rw [e] at h
    exact h
  · intro W
    exact audited_any (judgeV A B C p P true) W
  · simp only [bits_u32, ofInt_bits, bv_gy]
    rfl
  · simp only [bits_u32, ofInt_bits, bv_au]
    rfl
  · intro h
    subst h
    simp
  · intro h
    subst h
    simp
end Go.Proofs.Ytjpfnndfhbglgaa

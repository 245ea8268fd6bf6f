import Derived.Test.YtlkkdpoliafjbaaPC
/-
  same, large, alive.
-/
namespace Go.Proofs.Ytlkkdpoliafjbaa
open Go Go.WideMaps Go.RowKit

set_option maxRecDepth 100000 in
set_option maxHeartbeats 8000000 in
theorem sameT_any (w : World) (base tb : Nat) (L S : List AEntry) (vals : List Bool) (ev vv qv : Value) (Q : List Quest) (hT : TabAt w base tb L S vals) (hE : SliceAt w ev 7 L.length (L.flatMap AEntry.cells)) (hV : SliceAt w vv 1 vals.length (vals.map aBool)) (hS : S = seenL L vals)
    (hok : ∀ x ∈ L, x.Ok) (hlen : L.length ≤ 100000) (hvl : vals.length ≤ 1000000) (hQ : SliceAt w qv 4 Q.length (Q.flatMap Quest.cells)) (hqok : ∀ q ∈ Q, q.Ok) (hql : Q.length ≤ 1000000) :
    Calls Try.prog 12 #[.pointer (some ⟨tb, 0, none⟩), .agg #[ev, vv], qv] w fun e w' => e = .returned (.bool true) ∧ RowKit.Below w.heap.size w w' := by
  obtain ⟨wo, hwo⟩ : ∃ wo, wo = (w.alloc (.cells #[ev, vv] 30)) := ⟨_, rfl⟩
  have HBO := Lib.hid (show RowKit.Below w.heap.size w wo by rw [hwo]; exact (Below.refl _ w).alloc (Nat.le_refl _) _)
  have HST := Lib.hid (show Whole wo w.heap.size 30 #[ev, vv] by rw [hwo]; exact Whole.new w 30 _)
  obtain ⟨n, hn⟩ : ∃ n, n = Q.length := ⟨_, rfl⟩
  rw [← hn] at hQ hql
  obtain ⟨qa, qc, rfl, hqac, hqmx, hcell⟩ := hQ.form (by decide)
  have HN := Lib.hid hn
  have HC := Lib.hid hcell
  have HT := Lib.hid (hT.keep HBO.out)
  have HE := Lib.hid (hE.keep HBO.out)
  have HV := Lib.hid (hV.keep HBO.out)
  have HSE := Lib.hid hS
  have HOK := Lib.hid hok
  have HLEN := Lib.hid hlen
  have HVL := Lib.hid hvl
  have HQOK := Lib.hid hqok
  clear hn hcell hT hE hV hS hok hlen hvl hQ hqok
  go_enter Try.func12, Try.ntmps12
  go_upto_region 1 with fail
  rw [← hwo]
  clear hwo
  refine sm1 wo base tb w.heap.size L S vals ev vv _ _ _ _ _ _ _ _ _ _ _ _ _ _ _ _ _ _ _ _ _ _ _ _ _ _ _ _ _ _ _ _ _ _ _ _ _ _ _ _ _ _ _ _ _ _ _ _ _ _ _ _ _ _ _ _ _ _ _ _ _ _ _ _ _ _ _ _ _ _ _ _ _ _ _ _ _ _ _ _ _ _ _ _ _ _ _ _ _ _ _ _ _ _ _ _ _ _ _ _ _ _ _ _ _ _ _ _ _ _ _ _ _ _ _ _ _ _ _ _ _ _ _ HT HST HE HV HSE HOK HLEN HVL ?_
  intro v15 v16 v17 v18 v19 v20 v21 v22 v23 v24 v25 v26 v27 v28 v29 v30 v31 v32 v33 v34 v35 v36 v37 v38 w1 hb1
  have HB1 := Lib.hid hb1
  clear hb1
  go_wp2_with fail
  go_loopw [7] (fun ix wr => ∃ m : Nat, m ≤ n ∧ ix = .int .i64 m ∧ RowKit.Below wo.heap.size wo wr) (fun ix _ => n - (intOf ix).toNat)
  case atStart => exact ⟨0, Nat.zero_le _, rfl, HB1.out⟩
  case round =>
    obtain ⟨m, hm, rfl, hBr⟩ := hrel
    have HBr := Lib.hid hBr
    have HBwr := Lib.hid (HBO.out.trans (hBr.mono HBO.out.size))
    clear hBr
    by_cases hlt : m < n
    · obtain ⟨y, hy⟩ : ∃ y, Q[m]? = some y := ⟨_, List.getElem?_eq_getElem (by rw [← HN.out]; exact hlt)⟩
      obtain ⟨b, off, hab, hcl⟩ := HC.out m hlt
      subst hab
      have hk0 : wr.cell? ⟨b, off + m * 4, none⟩ = some (.int .i64 y.s) := cell_later HBwr.out (hcl 0 _ (by rw [flat_at quest_len hy 0 (by decide)]; rfl))
      have hk1 : wr.cell? ⟨b, off + m * 4 + 1, none⟩ = some (.int .i64 y.t) := cell_later HBwr.out (hcl 1 _ (by rw [flat_at quest_len hy 1 (by decide)]; rfl))
      have hk2 : wr.cell? ⟨b, off + m * 4 + 2, none⟩ = some (.int .i64 y.c) := cell_later HBwr.out (hcl 2 _ (by rw [flat_at quest_len hy 2 (by decide)]; rfl))
      have hk3 : wr.cell? ⟨b, off + m * 4 + 3, none⟩ = some (.int .u32 y.p) := cell_later HBwr.out (hcl 3 _ (by rw [flat_at quest_len hy 3 (by decide)]; rfl))
      have HYO := Lib.hid (HQOK.out y (List.mem_of_getElem? hy))
      clear hcl hy
      go_upto_region 7 with (refine wpList_store_blk rfl 48 _ _ rfl wr.heap.size 0 (.agg #[.int .i64 y.s, .int .i64 y.t, .int .i64 y.c, .int .u32 y.p]) rfl rfl 48 _ (Whole.new wr 48 _) (by simp [Value.cells]) size48 rfl ?_; intro w3 S3 W3; rw [splice_all _ _ (by rfl)] at W3; have HS3 := Lib.hid S3; have HW3 := Lib.hid (show Whole w3 wr.heap.size 48 #[.int .i64 y.s, .int .i64 y.t, .int .i64 y.c, .int .u32 y.p] from W3); clear S3 W3)
      clear hk0 hk1 hk2 hk3
      have HB3 := Lib.hid (show RowKit.Below wr.heap.size wr w3 from ((Below.refl _ wr).alloc (Nat.le_refl _) _).trans (HS3.out.below (Nat.le_refl _)))
      have HBo3 := Lib.hid (HBr.out.trans (HB3.out.mono HBr.out.size))
      obtain ⟨u, hu⟩ : ∃ u, u = lookV S ⟨y.s, y.t, y.c, 0⟩ := ⟨_, rfl⟩
      have HF1 := Lib.hid (find_any w3 base tb L S vals y.s y.t y.c (HT.out.keep HBo3.out) HYO.out.s HYO.out.t HYO.out.c)
      rw [← hu] at HF1
      have HF2 := Lib.hid (show ∀ W, RowKit.Below w3.heap.size w3 W → Calls Try.prog 31 #[.agg #[ev, vv], .int .i64 y.s, .int .i64 y.t, .int .i64 y.c] W fun e w' => e = .returned (.tuple #[.int .u32 u.allow, .int .u32 u.audit, .int .u32 u.dont]) ∧ RowKit.Below W.heap.size W w' from fun W hW => by
        have hb := HBo3.out.trans (hW.mono HBo3.out.size)
        have h := rfind_any W ev vv L vals y.s y.t y.c (HE.out.keep hb) (HV.out.keep hb) HLEN.out HVL.out HOK.out
        rw [← HSE.out, find_same (HSE.out ▸ seen_bare L vals), ← hu] at h
        exact h)
      clear hu
      have kq0 : w3.cell? ⟨wr.heap.size, 0, none⟩ = some (.int .i64 y.s) := HW3.out.cell 0
      have kq1 : w3.cell? ⟨wr.heap.size, 1, none⟩ = some (.int .i64 y.t) := HW3.out.cell 1
      have kq2 : w3.cell? ⟨wr.heap.size, 2, none⟩ = some (.int .i64 y.c) := HW3.out.cell 2
      go_upto_region 8 with (go_at_call 19; go_must (refine HF1.out.mono ?_; rintro e w4 ⟨rfl, hb⟩; have HB4 := Lib.hid hb; clear hb))
      clear kq0 kq1 kq2
      have HW4 := Lib.hid (Whole.under HB4.out HW3.out HW3.out.lt)
      have HBo4 := Lib.hid (HBo3.out.trans (HB4.out.mono HBo3.out.size))
      have HST4 := Lib.hid (Whole.under HBo4.out HST.out HST.out.lt)
      have kq0 : w4.cell? ⟨wr.heap.size, 0, none⟩ = some (.int .i64 y.s) := HW4.out.cell 0
      have kq1 : w4.cell? ⟨wr.heap.size, 1, none⟩ = some (.int .i64 y.t) := HW4.out.cell 1
      have kq2 : w4.cell? ⟨wr.heap.size, 2, none⟩ = some (.int .i64 y.c) := HW4.out.cell 2
      have s0 : w4.cell? ⟨w.heap.size, 0, none⟩ = some ev := HST4.out.cell 0
      have s1 : w4.cell? ⟨w.heap.size, 1, none⟩ = some vv := HST4.out.cell 1
      go_upto_region 9 with (go_at_call 31; go_must (refine (HF2.out w4 HB4.out).mono ?_; rintro e w5 ⟨rfl, hb⟩; have HB5 := Lib.hid hb; clear hb))
      clear kq0 kq1 kq2 s0 s1
      have HBo5 := Lib.hid (HBo4.out.trans (HB5.out.mono HBo4.out.size))
      go_upto_region 11 with fail
      refine sm11 w5 base tb w.heap.size L S vals ev vv wr.heap.size y _ _ _ _ _ _ _ _ _ _ _ _ _ _ _ _ _ _ _ _ _ _ _ _ _ _ _ _ _ _ _ _ _ _ _ _ _ _ _ _ _ _ _ _ _ _ _ _ _ _ _ _ _ _ _ _ _ _ _ _ _ _ _ _ _ _ _ _ _ _ _ _ _ _ _ _ _ _ _ _ _ _ _ _ _ _ _ _ _ _ _ _ _ _ _ _ _ _ _ _ _ _ _ _ _ _ _ _ _ _ _ _ _ _ _ _ _ _ _ _ _ _ (Lib.hid (HT.out.keep HBo5.out)) (Lib.hid (Whole.under HBo5.out HST.out HST.out.lt)) (Lib.hid (HE.out.keep HBo5.out)) (Lib.hid (HV.out.keep HBo5.out)) HSE HOK HLEN HVL (Lib.hid (Whole.under HB5.out HW4.out HW4.out.lt)) ?_
      intro v87 v88 v89 v90 v91 v92 v93 v94 v95 v96 v97 v98 v99 v100 v101 v102 v103 v104 v105 v106 v107 v108 v109 v110 v111 v112 v113 v114 v115 v116 v117 v118 v119 v120 v121 v122 v123 w6 hb6
      have HBo6 := Lib.hid (HBo5.out.trans (hb6.mono HBo5.out.size))
      clear hb6
      go_wp2_with fail
      go_roundw
      case rel => exact ⟨m + 1, by omega, by go_num, HBo6.out⟩
      case measure => simp [intOf]; omega
    · obtain rfl : m = n := by omega
      go_wp2
      go_ret
      exact ⟨ret_val rfl, HBwr.out⟩
theorem large_yes1 (w : World) (a1 a2 a3 : Option Addr) (n1 n2 n3 c1 c2 c3 : Nat) (h : 300 < n1) :
    Calls Try.prog 8 #[.slice a1 n1 c1, .slice a2 n2 c2, .slice a3 n3 c3] w fun e w' => e = .returned (.bool true) ∧ w = w' := by
  go_enter Try.func8, Try.ntmps8
  go_wp2
  go_ret
  exact ⟨ret_val rfl, rfl⟩
theorem large_yes2 (w : World) (a1 a2 a3 : Option Addr) (n1 n2 n3 c1 c2 c3 : Nat) (h : ¬ 300 < n1) (h2 : 100 < n2) :
    Calls Try.prog 8 #[.slice a1 n1 c1, .slice a2 n2 c2, .slice a3 n3 c3] w fun e w' => e = .returned (.bool true) ∧ w = w' := by
  go_enter Try.func8, Try.ntmps8
  go_wp2
  go_ret
  exact ⟨ret_val rfl, rfl⟩
theorem large_yes3 (w : World) (a1 a2 a3 : Option Addr) (n1 n2 n3 c1 c2 c3 : Nat) (h : ¬ 300 < n1) (h2 : ¬ 100 < n2) (h3 : 20 < n3) :
    Calls Try.prog 8 #[.slice a1 n1 c1, .slice a2 n2 c2, .slice a3 n3 c3] w fun e w' => e = .returned (.bool true) ∧ w = w' := by
  go_enter Try.func8, Try.ntmps8
  go_wp2
  go_ret
  refine ⟨ret_val ?_, rfl⟩
  have e : (decide ((300 : Int) < n1) || decide ((100 : Int) < n2) || decide ((20 : Int) < n3)) = true := by simp; omega
  exact congrArg Value.bool e
theorem large_no (w : World) (a1 a2 a3 : Option Addr) (n1 n2 n3 c1 c2 c3 : Nat) (h : ¬ 300 < n1) (h2 : ¬ 100 < n2) (h3 : ¬ 20 < n3) :
    Calls Try.prog 8 #[.slice a1 n1 c1, .slice a2 n2 c2, .slice a3 n3 c3] w fun e w' => e = .returned (.bool false) ∧ w = w' := by
  go_enter Try.func8, Try.ntmps8
  go_wp2
  go_ret
  refine ⟨ret_val ?_, rfl⟩
  have e : (decide ((300 : Int) < n1) || decide ((100 : Int) < n2) || decide ((20 : Int) < n3)) = false := by simp; omega
  exact congrArg Value.bool e
theorem large_any (w : World) (a1 a2 a3 : Option Addr) (n1 n2 n3 c1 c2 c3 : Nat) :
    Calls Try.prog 8 #[.slice a1 n1 c1, .slice a2 n2 c2, .slice a3 n3 c3] w fun e w' => e = .returned (.bool (decide (300 < n1 ∨ 100 < n2 ∨ 20 < n3))) ∧ w = w' := by
  by_cases h : 300 < n1
  · rw [decide_eq_true (.inl h)]; exact large_yes1 w a1 a2 a3 n1 n2 n3 c1 c2 c3 h
  · by_cases h2 : 100 < n2
    · rw [decide_eq_true (.inr (.inl h2))]; exact large_yes2 w a1 a2 a3 n1 n2 n3 c1 c2 c3 h h2
    · by_cases h3 : 20 < n3
      · rw [decide_eq_true (.inr (.inr h3))]; exact large_yes3 w a1 a2 a3 n1 n2 n3 c1 c2 c3 h h2 h3
      · rw [decide_eq_false (by omega)]; exact large_no w a1 a2 a3 n1 n2 n3 c1 c2 c3 h h2 h3
/-! ### The example -/
def exL : List AEntry := [⟨0, 1, 0, 0, 1, 0, 0⟩, ⟨0, 1, 0, 1, 2, 0, 0⟩, ⟨0, 1, 0, 0, 4, 0, 0⟩]
def exJ : List AEntry := [⟨0, 1, 0, 0, 5, 0, 0⟩, ⟨0, 1, 0, 1, 2, 0, 0⟩]
def exS : List AEntry := [⟨0, 1, 0, 0, 5, 0, 0⟩]
def exT : List AEntry := [⟨0, 1, 0, 0, 7, 0, 0⟩]
theorem ex_join : joinL exL = exJ := by kernel_rfl
theorem ex_seen : seenL exJ [] = exS := by kernel_rfl
theorem ex_seen1 : seenL exJ [true] = exT := by kernel_rfl
theorem ex_look : lookV exS ⟨0, 1, 0, 0⟩ = ⟨5, 0, 0⟩ := by kernel_rfl
theorem ex_look1 : lookV exT ⟨0, 1, 0, 0⟩ = ⟨7, 0, 0⟩ := by kernel_rfl
theorem ex_tgt : targetsL exS 0 0 2 = [] := by kernel_rfl
theorem ex_tgt1 : targetsL exT 0 0 2 = [1] := by kernel_rfl
theorem ex_src1 : sourcesL exT 1 0 1 = [0] := by kernel_rfl
theorem ex_ok : ∀ x ∈ exL, x.Ok := by
  intro x hx
  simp only [exL, List.mem_cons, List.not_mem_nil, or_false] at hx
  rcases hx with rfl | rfl | rfl <;> exact ⟨⟨⟨by decide, by decide⟩, ⟨by decide, by decide⟩, ⟨by decide, by decide⟩, ⟨by decide, by decide⟩⟩, ⟨⟨by decide, by decide⟩, ⟨by decide, by decide⟩, ⟨by decide, by decide⟩⟩⟩
theorem one_sort (x : Int) : ([x].mergeSort fun x y => decide (x ≤ y)) = [x] := by simp
set_option maxRecDepth 100000 in
set_option maxHeartbeats 8000000 in
theorem alive_any (w : World) : Calls Try.prog 9 #[] w fun e w' => e = .returned (.bool true) ∧ RowKit.Below w.heap.size w w' := by
  obtain ⟨wo, hwo⟩ : ∃ wo, wo = (w.alloc (.cells #[.int .i64 0, .int .i64 1, .int .i64 0, .int .i64 0, .int .u32 1, .int .u32 0, .int .u32 0, .int .i64 0, .int .i64 1, .int .i64 0, .int .i64 1, .int .u32 2, .int .u32 0, .int .u32 0, .int .i64 0, .int .i64 1, .int .i64 0, .int .i64 0, .int .u32 4, .int .u32 0, .int .u32 0] 37)) := ⟨_, rfl⟩
  have HBO := Lib.hid (show RowKit.Below w.heap.size w wo by rw [hwo]; exact (Below.refl _ w).alloc (Nat.le_refl _) _)
  have HSL := Lib.hid (show SliceAt wo (.slice (some ⟨w.heap.size, 0, none⟩) 3 3) 7 exL.length (exL.flatMap AEntry.cells) from ⟨rfl, by decide, ecells_one _, .inr ⟨_, _, rfl, Nat.le_refl _, by rw [hwo]; exact row_new w (exL.flatMap AEntry.cells) 37⟩⟩)
  have HNW := Lib.hid (new_any wo (.slice (some ⟨w.heap.size, 0, none⟩) 3 3) exL HSL.out ex_ok (by decide))
  rw [ex_join, ex_seen] at HNW
  rw [hwo] at HNW
  go_enter Try.func9, Try.ntmps9
  go_upto_region 2 with (go_at_call 10; go_must (refine HNW.out.mono ?_; rintro e w1 ⟨tb, rfl, ht, hb⟩; rw [← hwo] at ht hb; have HT1 := Lib.hid ht; have HB1 := Lib.hid hb; clear ht hb))
  clear hwo HNW
  have HL := Lib.hid (len_any w1 _ tb exJ exS [] HT1.out)
  rw [show ((exJ.length : Nat) : Int) = 2 from rfl] at HL
  go_upto_region 4 with (go_at_call 20; go_must (refine HL.out.mono ?_; rintro e w2 ⟨rfl, rfl⟩))
  have HF := Lib.hid (find_any w1 _ tb exJ exS [] 0 1 0 HT1.out ⟨by decide, by decide⟩ ⟨by decide, by decide⟩ ⟨by decide, by decide⟩)
  rw [ex_look] at HF
  go_upto_region 5 with (go_at_call 19; go_must (refine HF.out.mono ?_; rintro e w2 ⟨rfl, hb⟩; have HB2 := Lib.hid hb; clear hb))
  have HTG := Lib.hid (targets_any w2 _ tb exS exJ [] 0 0 2 (HT1.out.keep HB2.out) (by decide))
  rw [ex_tgt] at HTG
  go_upto_region 6 with (go_at_call 22; go_must (refine HTG.out.mono ?_; rintro e w3 ⟨v, rfl, ho, hb⟩; obtain ⟨ta, tc, rfl⟩ := own_shape ho; have HB3 := Lib.hid hb; clear hb ho))
  have HB23 := Lib.hid (HB2.out.trans (HB3.out.mono HB2.out.size))
  obtain ⟨w4, hw4⟩ : ∃ w4, w4 = w3.alloc (.cells #[.bool true] 4) := ⟨_, rfl⟩
  have HB4 := Lib.hid (show RowKit.Below w1.heap.size w1 w4 by rw [hw4]; exact HB23.out.alloc HB23.out.size _)
  have HAC := Lib.hid (activate_any w4 _ tb (.slice (some ⟨w3.heap.size, 0, none⟩) 1 1) exJ exS [] [true] (HT1.out.keep HB4.out) ⟨rfl, by decide, bools_one _, .inr ⟨_, _, rfl, Nat.le_refl _, by rw [hw4]; exact row_new w3 ([true].map aBool) 4⟩⟩ (by decide) (by decide))
  rw [ex_seen1, hw4] at HAC
  go_upto_region 7 with (go_at_call 13; go_must (refine HAC.out.mono ?_; rintro e w5 ⟨rfl, ht, hg⟩; rw [← hw4] at hg; have HT5 := Lib.hid ht; have HG5 := Lib.hid hg; clear ht hg))
  clear hw4 HAC
  have HF5 := Lib.hid (find_any w5 _ tb exJ exT [true] 0 1 0 HT5.out ⟨by decide, by decide⟩ ⟨by decide, by decide⟩ ⟨by decide, by decide⟩)
  rw [ex_look1] at HF5
  go_upto_region 8 with (go_at_call 19; go_must (refine HF5.out.mono ?_; rintro e w6 ⟨rfl, hb⟩; have HB6 := Lib.hid hb; clear hb))
  have HT6 := Lib.hid (HT5.out.keep HB6.out)
  have HTG6 := Lib.hid (targets_any w6 _ tb exT exJ [true] 0 0 2 HT6.out (by decide))
  rw [ex_tgt1, one_sort] at HTG6
  have HSG := Lib.hid (fun W (hW : RowKit.Below w6.heap.size w6 W) => by have h := sources_any W _ tb exT exJ [true] 1 0 1 (HT6.out.keep hW) (by decide); rw [ex_src1, one_sort] at h; exact h)
  go_wp2_with (first
    | (have hZ := HTG6; clear hZ; go_at_call 22; go_must (refine HTG6.out.mono ?_; rintro e w7 ⟨v7, rfl, ho, hb⟩; obtain ⟨ua, uc, rfl⟩ := own_shape ho; have HO7 := Lib.hid ho; have HB7 := Lib.hid hb; clear ho hb HTG6; have HI7 := Lib.hid (ints_any (w7.alloc (.cells #[.int .i64 1] 3)) _ (.slice (some ⟨w7.heap.size, 0, none⟩) 1 1) [1] [1] ((SliceAt.of_own HO7.out (ints_one _)).keep ((Below.refl _ w7).alloc (Nat.le_refl _) _)) ⟨rfl, by decide, ints_one [1], .inr ⟨_, _, rfl, Nat.le_refl _, row_new w7 ([1].map anInt) 3⟩⟩)))
    | (have hZ := HI7; clear hZ; go_at_call 24; go_must (refine HI7.out.mono ?_; rintro e w8 ⟨rfl, hb⟩; have HB8 := Lib.hid (HB7.out.trans ((below_of_alloc (hb.mono (by simp))).mono HB7.out.size)); clear hb HI7 HB7; have HS8 := Lib.hid (HSG.out w8 HB8.out)))
    | (have hZ := HS8; clear hZ; go_at_call 23; go_must (refine HS8.out.mono ?_; rintro e w9 ⟨v9, rfl, ho, hb⟩; obtain ⟨xa, xc, rfl⟩ := own_shape ho; have HO9 := Lib.hid ho; have HB9 := Lib.hid (HB8.out.trans (hb.mono HB8.out.size)); clear ho hb HS8 HB8; have HI9 := Lib.hid (ints_any (w9.alloc (.cells #[.int .i64 0] 3)) _ (.slice (some ⟨w9.heap.size, 0, none⟩) 1 1) [0] [0] ((SliceAt.of_own HO9.out (ints_one _)).keep ((Below.refl _ w9).alloc (Nat.le_refl _) _)) ⟨rfl, by decide, ints_one [0], .inr ⟨_, _, rfl, Nat.le_refl _, row_new w9 ([0].map anInt) 3⟩⟩)))
    | (have hZ := HI9; clear hZ; go_at_call 24; go_must (refine HI9.out.mono ?_; rintro e w10 ⟨rfl, hb⟩; have HB10 := Lib.hid (HB9.out.trans ((below_of_alloc (hb.mono (by simp))).mono HB9.out.size)); clear hb HI9 HB9)))
  go_ret
  refine ⟨ret_val rfl, ?_⟩
  have hb4 : RowKit.Below wo.heap.size wo w4 := HB1.out.trans (HB4.out.mono HB1.out.size)
  have hb5 : RowKit.Below wo.heap.size wo w5 := hb4.grown HG5.out hb4.size (fun q hq => by cases hq; exact HT1.out.lo)
  exact HBO.out.trans (((hb5.trans (HB6.out.mono hb5.size)).trans (HB10.out.mono (Nat.le_trans hb5.size HB6.out.size))).mono HBO.out.size)
end Go.Proofs.Ytlkkdpoliafjbaa

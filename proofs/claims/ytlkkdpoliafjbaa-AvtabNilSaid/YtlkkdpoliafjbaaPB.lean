import Derived.Test.YtlkkdpoliafjbaaPA
/-
  The reference: visible, Visible, Find, Targets, Sources, Activate, First, Len.
-/
namespace Go.Proofs.Ytlkkdpoliafjbaa
open Go Go.WideMaps Go.RowKit

theorem size30 : (Try.prog.info? 30).map (·.size) = some 2 := by kernel_rfl
theorem size3 : (Try.prog.info? 3).map (·.size) = some 1 := by kernel_rfl
theorem size22 : (Try.prog.info? 22).map (·.size) = some 1 := by kernel_rfl
set_option maxRecDepth 100000 in
theorem value_any (w : World) (ev vv : Value) (vals : List Bool) (i : Nat) (HV : SliceAt w vv 1 vals.length (vals.map aBool)) :
    Calls Try.prog 47 #[.agg #[ev, vv], .int .i64 (i : Int)] w fun e w' => e = .returned (.bool (vals.getD i false)) ∧ RowKit.Below w.heap.size w w' := by
  obtain ⟨wo, hwo⟩ : ∃ wo, wo = (w.alloc (.cells #[ev, vv] 30)) := ⟨_, rfl⟩
  have HBO := Lib.hid (show RowKit.Below w.heap.size w wo by rw [hwo]; exact (Below.refl _ w).alloc (Nat.le_refl _) _)
  have HST := Lib.hid (show Whole wo w.heap.size 30 #[ev, vv] by rw [hwo]; exact Whole.new w 30 _)
  have hv := HV.keep HBO.out
  obtain ⟨n, hn⟩ : ∃ n, n = vals.length := ⟨_, rfl⟩
  rw [← hn] at hv
  obtain ⟨a, cp, rfl, hac, hmx, hcell⟩ := hv.form (by decide)
  have e1 : wo.cell? ⟨w.heap.size, 1, none⟩ = some (.slice a n cp) := HST.out.cell 1
  obtain ⟨r, hr⟩ : ∃ r, r = vals.getD i false := ⟨_, rfl⟩
  rw [← hr]
  have HR := Lib.hid hr
  have HN := Lib.hid hn
  have HC := Lib.hid hcell
  clear HV hv hn hr hcell hac hmx
  by_cases hin : i < n
  · obtain ⟨b, off, hab, hcl⟩ := HC.out i hin
    subst hab
    obtain ⟨u, hu⟩ : ∃ u, vals[i]? = some u := ⟨_, List.getElem?_eq_getElem (by rw [← HN.out]; exact hin)⟩
    have c0 : wo.cell? ⟨b, off + i * 1, none⟩ = some (.bool u) := hcl 0 _ (by simp [hu, aBool])
    rw [Nat.mul_one] at c0
    have HU := Lib.hid (show r = u by rw [HR.out, List.getD_eq_getElem?_getD, hu]; rfl)
    clear hcl hu
    go_enter Try.func47, Try.ntmps47
    go_upto_region 1 with fail
    rw [← hwo]
    clear hwo
    go_wp2
    go_ret
    rw [HU.out]
    exact ⟨rfl, HBO.out⟩
  · have HU := Lib.hid (show r = false by rw [HR.out, List.getD_eq_getElem?_getD, List.getElem?_eq_none (by rw [← HN.out]; omega)]; rfl)
    go_enter Try.func47, Try.ntmps47
    go_upto_region 1 with fail
    rw [← hwo]
    clear hwo
    go_wp2
    go_ret
    rw [HU.out]
    exact ⟨rfl, HBO.out⟩
set_option maxRecDepth 100000 in
theorem rvis_any (w : World) (ev vv : Value) (vals : List Bool) (c : Int) (HV : SliceAt w vv 1 vals.length (vals.map aBool)) (hc : I64 c) :
    Calls Try.prog 42 #[.agg #[ev, vv], .int .i64 c] w fun e w' => e = .returned (.bool (visB vals c)) ∧ RowKit.Below w.heap.size w w' := by
  obtain ⟨wo, hwo⟩ : ∃ wo, wo = (w.alloc (.cells #[ev, vv] 30)) := ⟨_, rfl⟩
  have HBO := Lib.hid (show RowKit.Below w.heap.size w wo by rw [hwo]; exact (Below.refl _ w).alloc (Nat.le_refl _) _)
  have HST := Lib.hid (show Whole wo w.heap.size 30 #[ev, vv] by rw [hwo]; exact Whole.new w 30 _)
  have e0 : wo.cell? ⟨w.heap.size, 0, none⟩ = some ev := HST.out.cell 0
  have e1 : wo.cell? ⟨w.heap.size, 1, none⟩ = some vv := HST.out.cell 1
  obtain ⟨r, hr⟩ : ∃ r, r = visB vals c := ⟨_, rfl⟩
  rw [← hr]
  unfold visB at hr
  have HR := Lib.hid hr
  obtain ⟨hc1, hc2⟩ := hc
  have HVA := Lib.hid (fun i => value_any wo ev vv vals i (HV.keep HBO.out))
  clear HV hr
  by_cases hz : c = 0
  · subst hz
    have HU := Lib.hid (show r = true from HR.out)
    go_enter Try.func42, Try.ntmps42
    go_upto_region 1 with fail
    rw [← hwo]
    clear hwo
    go_wp2
    go_ret
    rw [HU.out]
    exact ⟨rfl, HBO.out⟩
  · by_cases hp : 0 < c
    · obtain ⟨i, hi⟩ : ∃ i : Nat, c - 1 = (i : Int) := ⟨(c - 1).toNat, by omega⟩
      have HU := Lib.hid (show r = vals.getD i false by rw [HR.out, if_neg hz, if_pos hp, show (c - 1).toNat = i by omega])
      go_enter Try.func42, Try.ntmps42
      go_upto_region 1 with fail
      rw [← hwo]
      clear hwo
      go_wp2_with (go_at_call 47; go_must (refine (HVA.out i).mono ?_; rintro e w1 ⟨rfl, hb⟩; have HB := Lib.hid hb; clear hb))
      go_ret
      rw [HU.out]
      exact ⟨ret_val rfl, HBO.out.trans (HB.out.mono HBO.out.size)⟩
    · obtain ⟨i, hi⟩ : ∃ i : Nat, -(c + 1) = (i : Int) := ⟨(-(c + 1)).toNat, by omega⟩
      have HU := Lib.hid (show r = !(vals.getD i false) by rw [HR.out, if_neg hz, if_neg hp, show (-c - 1).toNat = i by omega])
      go_enter Try.func42, Try.ntmps42
      go_upto_region 1 with fail
      rw [← hwo]
      clear hwo
      go_wp2_with (go_at_call 47; go_must (refine (HVA.out i).mono ?_; rintro e w1 ⟨rfl, hb⟩; have HB := Lib.hid hb; clear hb))
      go_ret
      rw [HU.out]
      exact ⟨ret_val rfl, HBO.out.trans (HB.out.mono HBO.out.size)⟩
set_option maxRecDepth 100000 in
set_option maxHeartbeats 4000000 in
theorem rvisL_any (w : World) (ev vv : Value) (L : List AEntry) (vals : List Bool) (HE : SliceAt w ev 7 L.length (L.flatMap AEntry.cells)) (HV : SliceAt w vv 1 vals.length (vals.map aBool)) (hlen : L.length ≤ 100000) (_ : vals.length ≤ 1000000) (hok : ∀ x ∈ L, x.Ok) :
    Calls Try.prog 30 #[.agg #[ev, vv]] w fun e w' => ∃ v, e = .returned v ∧ w'.ownsRow w.heap.size 37 7 v (seenL L vals).length ((seenL L vals).flatMap AEntry.cells) ∧ RowKit.Below w.heap.size w w' := by
  obtain ⟨i0, z0, hi0, hz0, hz1, hz2, hzs⟩ := infoOf info37
  obtain ⟨wo, hwo⟩ : ∃ wo, wo = (w.alloc (.cells #[ev, vv] 30)) := ⟨_, rfl⟩
  have HBO := Lib.hid (show RowKit.Below w.heap.size w wo by rw [hwo]; exact (Below.refl _ w).alloc (Nat.le_refl _) _)
  have HST := Lib.hid (show Whole wo w.heap.size 30 #[ev, vv] by rw [hwo]; exact Whole.new w 30 _)
  obtain ⟨n, hn⟩ : ∃ n, n = L.length := ⟨_, rfl⟩
  rw [← hn] at HE hlen
  obtain ⟨a, c, rfl, hac, hmx, hcell⟩ := HE.form (by decide)
  have HN := Lib.hid hn
  have HC := Lib.hid hcell
  have HLEN := Lib.hid hlen
  have HVV := Lib.hid (HV.keep HBO.out)
  have HOKL := Lib.hid hok
  clear HE HV hn hcell hok
  go_enter Try.func30, Try.ntmps30
  go_upto_region 1 with fail
  rw [← hwo]
  clear hwo
  go_wp2_with fail
  go_loopw [4, 3] (fun ix u wr => ∃ m : Nat, m ≤ n ∧ ix = .int .i64 m ∧ wr.ownsRow wo.heap.size 37 7 u (seenOf (L.take m) vals).length ((seenOf (L.take m) vals).flatMap AEntry.cells) ∧ RowKit.Below wo.heap.size wo wr) (fun ix _ _ => n - (intOf ix).toNat)
  case atStart => exact ⟨0, Nat.zero_le _, rfl, by simpa [seenOf] using World.ownsRow_nil _ _ _ _, Below.refl _ _⟩
  case round =>
    obtain ⟨m, hm, rfl, hOr, hBr⟩ := hrel
    obtain ⟨p, hp⟩ : ∃ p, p = (seenOf (L.take m) vals).length := ⟨_, rfl⟩
    rw [← hp] at hOr
    obtain ⟨ua, uc, rfl⟩ := own_shape hOr
    have HOr := Lib.hid hOr
    have HBr := Lib.hid hBr
    have HPP := Lib.hid hp
    have HPL := Lib.hid (show p ≤ 100000 by rw [hp]; have := seenOf_length (L.take m) vals; have h3 : (L.take m).length ≤ L.length := by {rw [List.length_take]; omega}; have := HN.out; omega)
    have HSTr := Lib.hid (Whole.under hBr HST.out HST.out.lt)
    have s0 : wr.cell? ⟨w.heap.size, 0, none⟩ = some (.slice a n c) := HSTr.out.cell 0
    clear hOr hBr hp
    by_cases hlt : m < n
    · obtain ⟨x, hx⟩ : ∃ x, L[m]? = some x := ⟨_, List.getElem?_eq_getElem (by rw [← HN.out]; exact hlt)⟩
      obtain ⟨b, off, hab, hcl⟩ := HC.out m hlt
      subst hab
      have HBwr := Lib.hid (HBO.out.trans (HBr.out.mono HBO.out.size))
      have hk0 : wr.cell? ⟨b, off + m * 7, none⟩ = some (.int .i64 x.src) := cell_later HBwr.out (hcl 0 _ (by rw [flat_at entry_len hx 0 (by decide)]; rfl))
      have hk1 : wr.cell? ⟨b, off + m * 7 + 1, none⟩ = some (.int .i64 x.tgt) := cell_later HBwr.out (hcl 1 _ (by rw [flat_at entry_len hx 1 (by decide)]; rfl))
      have hk2 : wr.cell? ⟨b, off + m * 7 + 2, none⟩ = some (.int .i64 x.cls) := cell_later HBwr.out (hcl 2 _ (by rw [flat_at entry_len hx 2 (by decide)]; rfl))
      have hk3 : wr.cell? ⟨b, off + m * 7 + 3, none⟩ = some (.int .i64 x.cond) := cell_later HBwr.out (hcl 3 _ (by rw [flat_at entry_len hx 3 (by decide)]; rfl))
      have hk4 : wr.cell? ⟨b, off + m * 7 + 4, none⟩ = some (.int .u32 x.allow) := cell_later HBwr.out (hcl 4 _ (by rw [flat_at entry_len hx 4 (by decide)]; rfl))
      have hk5 : wr.cell? ⟨b, off + m * 7 + 5, none⟩ = some (.int .u32 x.audit) := cell_later HBwr.out (hcl 5 _ (by rw [flat_at entry_len hx 5 (by decide)]; rfl))
      have hk6 : wr.cell? ⟨b, off + m * 7 + 6, none⟩ = some (.int .u32 x.dont) := cell_later HBwr.out (hcl 6 _ (by rw [flat_at entry_len hx 6 (by decide)]; rfl))
      have HTK := Lib.hid (show L.take (m + 1) = L.take m ++ [x] from take_snoc hx)
      have HXO := Lib.hid (HOKL.out x (List.mem_of_getElem? hx))
      obtain ⟨r, hr⟩ : ∃ r, r = visB vals x.cond := ⟨_, rfl⟩
      have HR := Lib.hid hr
      clear hcl hx hr
      go_upto_region 6 with (refine wpList_store_blk rfl 37 _ _ rfl wr.heap.size 0 (.agg #[.int .i64 x.src, .int .i64 x.tgt, .int .i64 x.cls, .int .i64 x.cond, .int .u32 x.allow, .int .u32 x.audit, .int .u32 x.dont]) rfl rfl 37 _ (Whole.new wr 37 _) (by simp [Value.cells]) size37 rfl ?_; intro w3 S3 W3; rw [splice_all _ _ (by rfl)] at W3; have HS3 := Lib.hid S3; have HW3 := Lib.hid (show Whole w3 wr.heap.size 37 #[.int .i64 x.src, .int .i64 x.tgt, .int .i64 x.cls, .int .i64 x.cond, .int .u32 x.allow, .int .u32 x.audit, .int .u32 x.dont] from W3); clear S3 W3)
      clear hk0 hk1 hk2 hk3 hk4 hk5 hk6 s0
      have HB3 := Lib.hid (show RowKit.Below wr.heap.size wr w3 from ((Below.refl _ wr).alloc (Nat.le_refl _) _).trans (HS3.out.below (Nat.le_refl _)))
      have HBo3 := Lib.hid (HBr.out.trans (HB3.out.mono HBr.out.size))
      have HST3 := Lib.hid (Whole.under HB3.out HSTr.out HSTr.out.lt)
      have s0 : w3.cell? ⟨w.heap.size, 0, none⟩ = some (.slice (some ⟨b, off, none⟩) n c) := HST3.out.cell 0
      have s1 : w3.cell? ⟨w.heap.size, 1, none⟩ = some vv := HST3.out.cell 1
      have x3 : w3.cell? ⟨wr.heap.size, 3, none⟩ = some (.int .i64 x.cond) := HW3.out.cell 3
      have HVC := Lib.hid (rvis_any w3 (.slice (some ⟨b, off, none⟩) n c) vv vals x.cond (HVV.out.keep HBo3.out) HXO.out.1.cond)
      rw [← HR.out] at HVC
      have HOLD := Lib.hid (show ∀ q, (Value.slice ua p uc).ownBlock = some q → q < wr.heap.size from fun q hq => (HOr.out.lt q hq).2)
      cases r with
      | true =>
        go_upto_region 7 with (go_at_call 42; go_must (refine HVC.out.mono ?_; rintro e w4 ⟨rfl, hb⟩; have HB4 := Lib.hid hb; clear hb))
        clear s0 s1 x3
        have HW4 := Lib.hid (Whole.under HB4.out HW3.out HW3.out.lt)
        go_upto_region 8 with (refine wpList_store_blk rfl 3 _ _ rfl wr.heap.size 3 (.int .i64 0) rfl rfl 37 _ HW4.out (by simp [Value.cells]) size3 rfl ?_; intro w5 S5 W5; have HS5 := Lib.hid S5; have HW5 := Lib.hid (show Whole w5 wr.heap.size 37 #[.int .i64 x.src, .int .i64 x.tgt, .int .i64 x.cls, .int .i64 0, .int .u32 x.allow, .int .u32 x.audit, .int .u32 x.dont] from W5); clear S5 W5)
        have kb0 : w5.cell? ⟨wr.heap.size, 0, none⟩ = some (.int .i64 x.src) := HW5.out.cell 0
        have kb1 : w5.cell? ⟨wr.heap.size, 1, none⟩ = some (.int .i64 x.tgt) := HW5.out.cell 1
        have kb2 : w5.cell? ⟨wr.heap.size, 2, none⟩ = some (.int .i64 x.cls) := HW5.out.cell 2
        have kb3 : w5.cell? ⟨wr.heap.size, 3, none⟩ = some (.int .i64 0) := HW5.out.cell 3
        have kb4 : w5.cell? ⟨wr.heap.size, 4, none⟩ = some (.int .u32 x.allow) := HW5.out.cell 4
        have kb5 : w5.cell? ⟨wr.heap.size, 5, none⟩ = some (.int .u32 x.audit) := HW5.out.cell 5
        have kb6 : w5.cell? ⟨wr.heap.size, 6, none⟩ = some (.int .u32 x.dont) := HW5.out.cell 6
        have HO5 := Lib.hid (HS5.out.own (own_keep HB4.out (own_keep HB3.out HOr.out (Nat.le_refl _)) (Nat.le_refl _)) (fun e => absurd (HOLD.out _ e) (Nat.lt_irrefl _)))
        have HBo5 := Lib.hid ((HBo3.out.trans (HB4.out.mono HBo3.out.size)).trans ((HS5.out.below (Nat.le_refl _)).mono HBr.out.size))
        go_wp2_with (at_builtin; go_must (refine wpList_append_own _ rfl _ _ 22 rfl wo.heap.size 37 i0 z0 7 48 Try.underlying22 hi0 hz0 hz1 hz2 hzs (by decide) _ _ _ rfl (own_alloc HO5.out _) ⟨w5.heap.size, 0, none⟩ 1 1 [.int .i64 x.src, .int .i64 x.tgt, .int .i64 x.cls, .int .i64 0, .int .u32 x.allow, .int .u32 x.audit, .int .u32 x.dont] rfl rfl (row_new _ _ _) ?c2 ?c3 ?c4 ?c5 ?_))
        case c2 => simp [Value.oneCell']
        case c3 => have := HPL.out; unfold maxLen; omega
        case c4 => have := HPL.out; omega
        case c5 => have := HBo5.out.size; simp; omega
        intro u9 w9 ho9 hg9 hn9
        have HB9 := Lib.hid ((HBo5.out.alloc HBo5.out.size _).grown hg9 (by have := HBo5.out.size; simp; omega) (fun q hq => (HO5.out.lt q hq).1))
        have HO9 := Lib.hid ho9
        clear hg9 hn9 ho9 kb0 kb1 kb2 kb3 kb4 kb5 kb6
        go_wp2_with fail
        go_roundw
        case rel => exact ⟨m + 1, by omega, by go_num, by rw [HTK.out, seenOf_snoc, if_pos HR.out.symm, List.length_append, List.flatMap_append, ← HPP.out]; exact HO9.out, HB9.out⟩
        case measure => simp [intOf]; omega
      | false =>
        go_wp2_with (go_at_call 42; go_must (refine HVC.out.mono ?_; rintro e w4 ⟨rfl, hb⟩; have HB4 := Lib.hid hb; clear hb))
        clear s0 s1 x3
        go_roundw
        case rel => exact ⟨m + 1, by omega, by go_num, by rw [HTK.out, seenOf_snoc, if_neg (by rw [← HR.out]; simp), ← HPP.out]; exact own_keep HB4.out (own_keep HB3.out HOr.out (Nat.le_refl _)) (Nat.le_refl _), HBo3.out.trans (HB4.out.mono HBo3.out.size)⟩
        case measure => simp [intOf]; omega
    · obtain rfl : m = n := by omega
      have hfull : L.take m = L := List.take_of_length_le (by rw [HN.out]; exact Nat.le_refl _)
      rw [hfull] at HOr HPP
      clear hfull
      have HMG := Lib.hid (merge_any wr (.slice ua p uc) (seenOf L vals) (by have h := SliceAt.of_own HOr.out (ecells_one _); rw [← HPP.out]; exact h) (by have := HPL.out; rw [← HPP.out]; omega))
      go_wp2_with (go_at_call 28; go_must (refine HMG.out.mono ?_; rintro e w9 ⟨v9, rfl, ho, hb⟩; have HO9 := Lib.hid ho; have HB9 := Lib.hid hb; clear ho hb))
      go_ret
      refine ⟨_, ret_val rfl, own_low HO9.out (Nat.le_trans HBO.out.size HBr.out.size), HBO.out.trans ((HBr.out.trans (HB9.out.mono HBr.out.size)).mono HBO.out.size)⟩
set_option maxRecDepth 100000 in
set_option maxHeartbeats 4000000 in
theorem rf5_0 (w : World) (b off m n c : Nat) (x : AEntry) (s1 s2 s3 : Int) (x0 x4 x5 x6 x7 x8 x9 x10 x13 x14 x15 x16 x17 x18 x19 x20 x21 x22 x23 x24 x25 x26 x27 x28 x29 x30 x31 x32 x33 x34 x35 x36 x37 x38 x39 x40 x41 x42 x43 x44 x45 x46 x47 x48 x49 x50 x51 x52 x53 x54 x55 x56 x57 x58 x59 x60 : Value) (hm : m < n) (HE : Hid (∀ j u, x.cells[j]? = some u → w.cell? ⟨b, off + m * 7 + j, none⟩ = some u)) (HQ : Hid (¬ x.src = s1))
    {Q' : Exit → Act → World → Prop} (hend : ∀ (v21 v22 v23 v24 v25 v26 v27 v28 v29 v30 v31 v32 v33 v34 v35 v36 v37 v38 v39 v40 v41 v42 v43 v44 : Value) , True → Q' .normal ⟨#[x0, .int .i64 s1, .int .i64 s2, .int .i64 s3, x4, x5, x6, x7, x8, x9, x10, .slice (some ⟨b, off, none⟩) n c, .int .i64 (m : Nat), x13, x14, x15, x16, x17, x18, x19, x20, v21, v22, v23, v24, v25, v26, v27, v28, v29, v30, v31, v32, v33, v34, v35, v36, v37, v38, v39, v40, v41, v42, v43, v44, .bool false, x46, x47, x48, x49, x50, x51, x52, x53, x54, x55, x56, x57, x58, x59, x60], []⟩ w) :
    Code.wp Try.prog (findRegion7 5 ((Try.f31.body).getD .skip)) Q' ⟨#[x0, .int .i64 s1, .int .i64 s2, .int .i64 s3, x4, x5, x6, x7, x8, x9, x10, .slice (some ⟨b, off, none⟩) n c, .int .i64 (m : Nat), x13, x14, x15, x16, x17, x18, x19, x20, x21, x22, x23, x24, x25, x26, x27, x28, x29, x30, x31, x32, x33, x34, x35, x36, x37, x38, x39, x40, x41, x42, x43, x44, x45, x46, x47, x48, x49, x50, x51, x52, x53, x54, x55, x56, x57, x58, x59, x60], []⟩ w := by
  have HEND := Lib.hid hend
  clear hend
  conv => arg 2; whnf
  conv => arg 4; dsimp only
  have kx0 : w.cell? ⟨b, off + m * 7, none⟩ = some (.int .i64 x.src) := HE.out 0 _ rfl
  have kx1 : w.cell? ⟨b, off + m * 7 + 1, none⟩ = some (.int .i64 x.tgt) := HE.out 1 _ rfl
  have kx2 : w.cell? ⟨b, off + m * 7 + 2, none⟩ = some (.int .i64 x.cls) := HE.out 2 _ rfl
  have h0 : (x.src == s1) = false := by simpa using HQ.out
  go_wp2_with fail
  exact HEND.out _ _ _ _ _ _ _ _ _ _ _ _ _ _ _ _ _ _ _ _ _ _ _ _ trivial
set_option maxRecDepth 100000 in
set_option maxHeartbeats 4000000 in
theorem rf5_1 (w : World) (b off m n c : Nat) (x : AEntry) (s1 s2 s3 : Int) (x0 x4 x5 x6 x7 x8 x9 x10 x13 x14 x15 x16 x17 x18 x19 x20 x21 x22 x23 x24 x25 x26 x27 x28 x29 x30 x31 x32 x33 x34 x35 x36 x37 x38 x39 x40 x41 x42 x43 x44 x45 x46 x47 x48 x49 x50 x51 x52 x53 x54 x55 x56 x57 x58 x59 x60 : Value) (hm : m < n) (HE : Hid (∀ j u, x.cells[j]? = some u → w.cell? ⟨b, off + m * 7 + j, none⟩ = some u)) (HQ : Hid (x.src = s1 ∧ ¬ x.tgt = s2))
    {Q' : Exit → Act → World → Prop} (hend : ∀ (v21 v22 v23 v24 v25 v26 v27 v28 v29 v30 v31 v32 v33 v34 v35 v36 v37 v38 v39 v40 v41 v42 v43 v44 : Value) , True → Q' .normal ⟨#[x0, .int .i64 s1, .int .i64 s2, .int .i64 s3, x4, x5, x6, x7, x8, x9, x10, .slice (some ⟨b, off, none⟩) n c, .int .i64 (m : Nat), x13, x14, x15, x16, x17, x18, x19, x20, v21, v22, v23, v24, v25, v26, v27, v28, v29, v30, v31, v32, v33, v34, v35, v36, v37, v38, v39, v40, v41, v42, v43, v44, .bool false, x46, x47, x48, x49, x50, x51, x52, x53, x54, x55, x56, x57, x58, x59, x60], []⟩ w) :
    Code.wp Try.prog (findRegion7 5 ((Try.f31.body).getD .skip)) Q' ⟨#[x0, .int .i64 s1, .int .i64 s2, .int .i64 s3, x4, x5, x6, x7, x8, x9, x10, .slice (some ⟨b, off, none⟩) n c, .int .i64 (m : Nat), x13, x14, x15, x16, x17, x18, x19, x20, x21, x22, x23, x24, x25, x26, x27, x28, x29, x30, x31, x32, x33, x34, x35, x36, x37, x38, x39, x40, x41, x42, x43, x44, x45, x46, x47, x48, x49, x50, x51, x52, x53, x54, x55, x56, x57, x58, x59, x60], []⟩ w := by
  have HEND := Lib.hid hend
  clear hend
  conv => arg 2; whnf
  conv => arg 4; dsimp only
  have kx0 : w.cell? ⟨b, off + m * 7, none⟩ = some (.int .i64 x.src) := HE.out 0 _ rfl
  have kx1 : w.cell? ⟨b, off + m * 7 + 1, none⟩ = some (.int .i64 x.tgt) := HE.out 1 _ rfl
  have kx2 : w.cell? ⟨b, off + m * 7 + 2, none⟩ = some (.int .i64 x.cls) := HE.out 2 _ rfl
  have h0 : (x.src == s1) = true := by simpa using HQ.out.1
  have h1 : (x.tgt == s2) = false := by simpa using HQ.out.2
  go_wp2_with fail
  exact HEND.out _ _ _ _ _ _ _ _ _ _ _ _ _ _ _ _ _ _ _ _ _ _ _ _ trivial
set_option maxRecDepth 100000 in
set_option maxHeartbeats 4000000 in
theorem rf5_2 (w : World) (b off m n c : Nat) (x : AEntry) (s1 s2 s3 : Int) (x0 x4 x5 x6 x7 x8 x9 x10 x13 x14 x15 x16 x17 x18 x19 x20 x21 x22 x23 x24 x25 x26 x27 x28 x29 x30 x31 x32 x33 x34 x35 x36 x37 x38 x39 x40 x41 x42 x43 x44 x45 x46 x47 x48 x49 x50 x51 x52 x53 x54 x55 x56 x57 x58 x59 x60 : Value) (hm : m < n) (HE : Hid (∀ j u, x.cells[j]? = some u → w.cell? ⟨b, off + m * 7 + j, none⟩ = some u)) (HQ : Hid (x.src = s1 ∧ x.tgt = s2 ∧ ¬ x.cls = s3))
    {Q' : Exit → Act → World → Prop} (hend : ∀ (v21 v22 v23 v24 v25 v26 v27 v28 v29 v30 v31 v32 v33 v34 v35 v36 v37 v38 v39 v40 v41 v42 v43 v44 : Value) , True → Q' .normal ⟨#[x0, .int .i64 s1, .int .i64 s2, .int .i64 s3, x4, x5, x6, x7, x8, x9, x10, .slice (some ⟨b, off, none⟩) n c, .int .i64 (m : Nat), x13, x14, x15, x16, x17, x18, x19, x20, v21, v22, v23, v24, v25, v26, v27, v28, v29, v30, v31, v32, v33, v34, v35, v36, v37, v38, v39, v40, v41, v42, v43, v44, .bool false, x46, x47, x48, x49, x50, x51, x52, x53, x54, x55, x56, x57, x58, x59, x60], []⟩ w) :
    Code.wp Try.prog (findRegion7 5 ((Try.f31.body).getD .skip)) Q' ⟨#[x0, .int .i64 s1, .int .i64 s2, .int .i64 s3, x4, x5, x6, x7, x8, x9, x10, .slice (some ⟨b, off, none⟩) n c, .int .i64 (m : Nat), x13, x14, x15, x16, x17, x18, x19, x20, x21, x22, x23, x24, x25, x26, x27, x28, x29, x30, x31, x32, x33, x34, x35, x36, x37, x38, x39, x40, x41, x42, x43, x44, x45, x46, x47, x48, x49, x50, x51, x52, x53, x54, x55, x56, x57, x58, x59, x60], []⟩ w := by
  have HEND := Lib.hid hend
  clear hend
  conv => arg 2; whnf
  conv => arg 4; dsimp only
  have kx0 : w.cell? ⟨b, off + m * 7, none⟩ = some (.int .i64 x.src) := HE.out 0 _ rfl
  have kx1 : w.cell? ⟨b, off + m * 7 + 1, none⟩ = some (.int .i64 x.tgt) := HE.out 1 _ rfl
  have kx2 : w.cell? ⟨b, off + m * 7 + 2, none⟩ = some (.int .i64 x.cls) := HE.out 2 _ rfl
  have h0 : (x.src == s1) = true := by simpa using HQ.out.1
  have h1 : (x.tgt == s2) = true := by simpa using HQ.out.2.1
  have h2 : (x.cls == s3) = false := by simpa using HQ.out.2.2
  go_wp2_with fail
  exact HEND.out _ _ _ _ _ _ _ _ _ _ _ _ _ _ _ _ _ _ _ _ _ _ _ _ trivial
set_option maxRecDepth 100000 in
set_option maxHeartbeats 4000000 in
theorem rf5_3 (w : World) (b off m n c : Nat) (x : AEntry) (s1 s2 s3 : Int) (x0 x4 x5 x6 x7 x8 x9 x10 x13 x14 x15 x16 x17 x18 x19 x20 x21 x22 x23 x24 x25 x26 x27 x28 x29 x30 x31 x32 x33 x34 x35 x36 x37 x38 x39 x40 x41 x42 x43 x44 x45 x46 x47 x48 x49 x50 x51 x52 x53 x54 x55 x56 x57 x58 x59 x60 : Value) (hm : m < n) (HE : Hid (∀ j u, x.cells[j]? = some u → w.cell? ⟨b, off + m * 7 + j, none⟩ = some u)) (HQ : Hid (x.src = s1 ∧ x.tgt = s2 ∧ x.cls = s3))
    {Q' : Exit → Act → World → Prop} (hend : ∀ (v21 v22 v23 v24 v25 v26 v27 v28 v29 v30 v31 v32 v33 v34 v35 v36 v37 v38 v39 v40 v41 v42 v43 v44 : Value) , True → Q' .normal ⟨#[x0, .int .i64 s1, .int .i64 s2, .int .i64 s3, x4, x5, x6, x7, x8, x9, x10, .slice (some ⟨b, off, none⟩) n c, .int .i64 (m : Nat), x13, x14, x15, x16, x17, x18, x19, x20, v21, v22, v23, v24, v25, v26, v27, v28, v29, v30, v31, v32, v33, v34, v35, v36, v37, v38, v39, v40, v41, v42, v43, v44, .bool true, x46, x47, x48, x49, x50, x51, x52, x53, x54, x55, x56, x57, x58, x59, x60], []⟩ w) :
    Code.wp Try.prog (findRegion7 5 ((Try.f31.body).getD .skip)) Q' ⟨#[x0, .int .i64 s1, .int .i64 s2, .int .i64 s3, x4, x5, x6, x7, x8, x9, x10, .slice (some ⟨b, off, none⟩) n c, .int .i64 (m : Nat), x13, x14, x15, x16, x17, x18, x19, x20, x21, x22, x23, x24, x25, x26, x27, x28, x29, x30, x31, x32, x33, x34, x35, x36, x37, x38, x39, x40, x41, x42, x43, x44, x45, x46, x47, x48, x49, x50, x51, x52, x53, x54, x55, x56, x57, x58, x59, x60], []⟩ w := by
  have HEND := Lib.hid hend
  clear hend
  conv => arg 2; whnf
  conv => arg 4; dsimp only
  have kx0 : w.cell? ⟨b, off + m * 7, none⟩ = some (.int .i64 x.src) := HE.out 0 _ rfl
  have kx1 : w.cell? ⟨b, off + m * 7 + 1, none⟩ = some (.int .i64 x.tgt) := HE.out 1 _ rfl
  have kx2 : w.cell? ⟨b, off + m * 7 + 2, none⟩ = some (.int .i64 x.cls) := HE.out 2 _ rfl
  have h0 : (x.src == s1) = true := by simpa using HQ.out.1
  have h1 : (x.tgt == s2) = true := by simpa using HQ.out.2.1
  have h2 : (x.cls == s3) = true := by simpa using HQ.out.2.2
  go_wp2_with fail
  exact HEND.out _ _ _ _ _ _ _ _ _ _ _ _ _ _ _ _ _ _ _ _ _ _ _ _ trivial
theorem rf5_any (w : World) (b off m n c : Nat) (x : AEntry) (s1 s2 s3 : Int) (r : Bool) (x0 x4 x5 x6 x7 x8 x9 x10 x13 x14 x15 x16 x17 x18 x19 x20 x21 x22 x23 x24 x25 x26 x27 x28 x29 x30 x31 x32 x33 x34 x35 x36 x37 x38 x39 x40 x41 x42 x43 x44 x45 x46 x47 x48 x49 x50 x51 x52 x53 x54 x55 x56 x57 x58 x59 x60 : Value) (hm : m < n) (HE : Hid (∀ j u, x.cells[j]? = some u → w.cell? ⟨b, off + m * 7 + j, none⟩ = some u)) (hr : r = decide (x.src = s1 ∧ x.tgt = s2 ∧ x.cls = s3))
    {Q' : Exit → Act → World → Prop} (hend : ∀ (v21 v22 v23 v24 v25 v26 v27 v28 v29 v30 v31 v32 v33 v34 v35 v36 v37 v38 v39 v40 v41 v42 v43 v44 : Value), True → Q' .normal ⟨#[x0, .int .i64 s1, .int .i64 s2, .int .i64 s3, x4, x5, x6, x7, x8, x9, x10, .slice (some ⟨b, off, none⟩) n c, .int .i64 (m : Nat), x13, x14, x15, x16, x17, x18, x19, x20, v21, v22, v23, v24, v25, v26, v27, v28, v29, v30, v31, v32, v33, v34, v35, v36, v37, v38, v39, v40, v41, v42, v43, v44, .bool r, x46, x47, x48, x49, x50, x51, x52, x53, x54, x55, x56, x57, x58, x59, x60], []⟩ w) :
    Code.wp Try.prog (findRegion7 5 ((Try.f31.body).getD .skip)) Q' ⟨#[x0, .int .i64 s1, .int .i64 s2, .int .i64 s3, x4, x5, x6, x7, x8, x9, x10, .slice (some ⟨b, off, none⟩) n c, .int .i64 (m : Nat), x13, x14, x15, x16, x17, x18, x19, x20, x21, x22, x23, x24, x25, x26, x27, x28, x29, x30, x31, x32, x33, x34, x35, x36, x37, x38, x39, x40, x41, x42, x43, x44, x45, x46, x47, x48, x49, x50, x51, x52, x53, x54, x55, x56, x57, x58, x59, x60], []⟩ w := by
  by_cases h0 : x.src = s1
  · by_cases h1 : x.tgt = s2
    · by_cases h2 : x.cls = s3
      · rw [decide_eq_true ⟨h0, h1, h2⟩] at hr
        subst hr
        exact rf5_3 w b off m n c x s1 s2 s3 x0 x4 x5 x6 x7 x8 x9 x10 x13 x14 x15 x16 x17 x18 x19 x20 x21 x22 x23 x24 x25 x26 x27 x28 x29 x30 x31 x32 x33 x34 x35 x36 x37 x38 x39 x40 x41 x42 x43 x44 x45 x46 x47 x48 x49 x50 x51 x52 x53 x54 x55 x56 x57 x58 x59 x60 hm HE (Lib.hid ⟨h0, h1, h2⟩) hend
      · rw [decide_eq_false fun e => h2 e.2.2] at hr
        subst hr
        exact rf5_2 w b off m n c x s1 s2 s3 x0 x4 x5 x6 x7 x8 x9 x10 x13 x14 x15 x16 x17 x18 x19 x20 x21 x22 x23 x24 x25 x26 x27 x28 x29 x30 x31 x32 x33 x34 x35 x36 x37 x38 x39 x40 x41 x42 x43 x44 x45 x46 x47 x48 x49 x50 x51 x52 x53 x54 x55 x56 x57 x58 x59 x60 hm HE (Lib.hid ⟨h0, h1, h2⟩) hend
    · rw [decide_eq_false fun e => h1 e.2.1] at hr
      subst hr
      exact rf5_1 w b off m n c x s1 s2 s3 x0 x4 x5 x6 x7 x8 x9 x10 x13 x14 x15 x16 x17 x18 x19 x20 x21 x22 x23 x24 x25 x26 x27 x28 x29 x30 x31 x32 x33 x34 x35 x36 x37 x38 x39 x40 x41 x42 x43 x44 x45 x46 x47 x48 x49 x50 x51 x52 x53 x54 x55 x56 x57 x58 x59 x60 hm HE (Lib.hid ⟨h0, h1⟩) hend
  · rw [decide_eq_false fun e => h0 e.1] at hr
    subst hr
    exact rf5_0 w b off m n c x s1 s2 s3 x0 x4 x5 x6 x7 x8 x9 x10 x13 x14 x15 x16 x17 x18 x19 x20 x21 x22 x23 x24 x25 x26 x27 x28 x29 x30 x31 x32 x33 x34 x35 x36 x37 x38 x39 x40 x41 x42 x43 x44 x45 x46 x47 x48 x49 x50 x51 x52 x53 x54 x55 x56 x57 x58 x59 x60 hm HE (Lib.hid h0) hend
set_option maxRecDepth 100000 in
set_option maxHeartbeats 4000000 in
theorem rf6 (w : World) (b off m n c : Nat) (x : AEntry) (x0 x1 x2 x3 x4 x5 x6 x7 x8 x9 x10 x13 x14 x15 x16 x17 x18 x19 x20 x21 x22 x23 x24 x25 x26 x27 x28 x29 x30 x31 x32 x33 x34 x35 x36 x37 x38 x39 x40 x41 x42 x43 x44 x45 x46 x47 x48 x49 x50 x51 x52 x53 x54 x55 x56 x57 x58 x59 x60 : Value) (hm : m < n) (HE : Hid (∀ j u, x.cells[j]? = some u → w.cell? ⟨b, off + m * 7 + j, none⟩ = some u))
    {Q' : Exit → Act → World → Prop} (hend : ∀ (v46 v47 v48 v49 v50 v51 v52 v53 v54 v55 v56 v57 v58 v59 v60 : Value) (w' : World), RowKit.Below w.heap.size w w' → Q' .normal ⟨#[x0, x1, x2, x3, x4, x5, x6, x7, .int .u32 x.allow, .int .u32 x.audit, .int .u32 x.dont, .slice (some ⟨b, off, none⟩) n c, .int .i64 (m : Nat), x13, x14, x15, x16, x17, x18, x19, x20, x21, x22, x23, x24, x25, x26, x27, x28, x29, x30, x31, x32, x33, x34, x35, x36, x37, x38, x39, x40, x41, x42, x43, x44, x45, v46, v47, v48, v49, v50, v51, v52, v53, v54, v55, v56, v57, v58, v59, v60], []⟩ w') :
    Code.wp Try.prog (findRegion7 6 ((Try.f31.body).getD .skip)) Q' ⟨#[x0, x1, x2, x3, x4, x5, x6, x7, x8, x9, x10, .slice (some ⟨b, off, none⟩) n c, .int .i64 (m : Nat), x13, x14, x15, x16, x17, x18, x19, x20, x21, x22, x23, x24, x25, x26, x27, x28, x29, x30, x31, x32, x33, x34, x35, x36, x37, x38, x39, x40, x41, x42, x43, x44, x45, x46, x47, x48, x49, x50, x51, x52, x53, x54, x55, x56, x57, x58, x59, x60], []⟩ w := by
  have HEND := Lib.hid hend
  clear hend
  conv => arg 2; whnf
  conv => arg 4; dsimp only
  refine wp_region_goods [some 46, some 47, some 48, some 49, some 50, some 51, some 52, some 53, some 54, some 55, some 56, some 57, some 58, some 59, some 60, some 8, some 9] [isW (.slice (some ⟨b, off, none⟩) n c), isW (.int .i64 (m : Nat)), isW (.pointer (some ⟨b, off + m * 7, none⟩)), isW (.pointer (some ⟨b, off + m * 7 + 4, none⟩)), isW (.int .u32 x.allow), isW (.slice (some ⟨b, off, none⟩) n c), isW (.int .i64 (m : Nat)), isW (.pointer (some ⟨b, off + m * 7, none⟩)), isW (.pointer (some ⟨b, off + m * 7 + 5, none⟩)), isW (.int .u32 x.audit), isW (.slice (some ⟨b, off, none⟩) n c), isW (.int .i64 (m : Nat)), isW (.pointer (some ⟨b, off + m * 7, none⟩)), isW (.pointer (some ⟨b, off + m * 7 + 6, none⟩)), isW (.int .u32 x.dont), isW (.int .u32 x.allow), isW (.int .u32 x.audit)] (fun _ w' => RowKit.Below w.heap.size w w') [] (by kernel_rfl) (by kernel_rfl) (by kernel_rfl) rfl (by decide) rfl rfl ((Below.refl _ _).drew) ⟨lastsW_is _, lastsW_is _, lastsW_is _, lastsW_is _, lastsW_is _, lastsW_is _, lastsW_is _, lastsW_is _, lastsW_is _, lastsW_is _, lastsW_is _, lastsW_is _, lastsW_is _, lastsW_is _, lastsW_is _, lastsW_is _, lastsW_is _, trivial⟩ ⟨?_, ?_, ?_, ?_, ?_, ?_, ?_, ?_, ?_, ?_, ?_, ?_, ?_, ?_, ?_, ?_, ?_, ?_⟩
  · intro L a wy Q' hL hi H F hK
    try dsimp only at hi
    have h11 : a.tmps[11]? = some (.slice (some ⟨b, off, none⟩) n c) := F 11 rfl
    have HI := Lib.hid hi
    clear H F hi hL
    go_wp2_with fail
    exact hK _ _ (Below.refl _ _) HI.out rfl
  · intro L a wy Q' hL hi H F hK
    try dsimp only at hi
    have h12 : a.tmps[12]? = some (.int .i64 (m : Nat)) := F 12 rfl
    have HI := Lib.hid hi
    clear H F hi hL
    go_wp2_with fail
    exact hK _ _ (Below.refl _ _) HI.out rfl
  · intro L a wy Q' hL hi H F hK
    try dsimp only at hi
    obtain ⟨_, h46, rfl⟩ := H 0 ⟨.data, by simp, rfl⟩ _ rfl
    replace h46 := h46 _ rfl
    obtain ⟨_, h47, rfl⟩ := H 1 ⟨.data, by simp, rfl⟩ _ rfl
    replace h47 := h47 _ rfl
    have HI := Lib.hid hi
    clear H F hi hL
    go_wp2_with fail
    exact hK _ _ (Below.refl _ _) HI.out rfl
  · intro L a wy Q' hL hi H F hK
    try dsimp only at hi
    obtain ⟨_, h48, rfl⟩ := H 2 ⟨.data, by simp, rfl⟩ _ rfl
    replace h48 := h48 _ rfl
    have HI := Lib.hid hi
    clear H F hi hL
    go_wp2_with fail
    exact hK _ _ (Below.refl _ _) HI.out rfl
  · intro L a wy Q' hL hi H F hK
    try dsimp only at hi
    obtain ⟨_, h49, rfl⟩ := H 3 ⟨.data, by simp, rfl⟩ _ rfl
    replace h49 := h49 _ rfl
    have HI := Lib.hid hi
    clear H F hi hL
    have kq : wy.cell? ⟨b, off + m * 7 + 4, none⟩ = some (.int .u32 x.allow) := cell_later HI.out (HE.out 4 _ rfl)
    go_wp2_with fail
    exact hK _ _ (Below.refl _ _) HI.out rfl
  · intro L a wy Q' hL hi H F hK
    try dsimp only at hi
    have h11 : a.tmps[11]? = some (.slice (some ⟨b, off, none⟩) n c) := F 11 rfl
    have HI := Lib.hid hi
    clear H F hi hL
    go_wp2_with fail
    exact hK _ _ (Below.refl _ _) HI.out rfl
  · intro L a wy Q' hL hi H F hK
    try dsimp only at hi
    have h12 : a.tmps[12]? = some (.int .i64 (m : Nat)) := F 12 rfl
    have HI := Lib.hid hi
    clear H F hi hL
    go_wp2_with fail
    exact hK _ _ (Below.refl _ _) HI.out rfl
  · intro L a wy Q' hL hi H F hK
    try dsimp only at hi
    obtain ⟨_, h51, rfl⟩ := H 5 ⟨.data, by simp, rfl⟩ _ rfl
    replace h51 := h51 _ rfl
    obtain ⟨_, h52, rfl⟩ := H 6 ⟨.data, by simp, rfl⟩ _ rfl
    replace h52 := h52 _ rfl
    have HI := Lib.hid hi
    clear H F hi hL
    go_wp2_with fail
    exact hK _ _ (Below.refl _ _) HI.out rfl
  · intro L a wy Q' hL hi H F hK
    try dsimp only at hi
    obtain ⟨_, h53, rfl⟩ := H 7 ⟨.data, by simp, rfl⟩ _ rfl
    replace h53 := h53 _ rfl
    have HI := Lib.hid hi
    clear H F hi hL
    go_wp2_with fail
    exact hK _ _ (Below.refl _ _) HI.out rfl
  · intro L a wy Q' hL hi H F hK
    try dsimp only at hi
    obtain ⟨_, h54, rfl⟩ := H 8 ⟨.data, by simp, rfl⟩ _ rfl
    replace h54 := h54 _ rfl
    have HI := Lib.hid hi
    clear H F hi hL
    have kq : wy.cell? ⟨b, off + m * 7 + 5, none⟩ = some (.int .u32 x.audit) := cell_later HI.out (HE.out 5 _ rfl)
    go_wp2_with fail
    exact hK _ _ (Below.refl _ _) HI.out rfl
  · intro L a wy Q' hL hi H F hK
    try dsimp only at hi
    have h11 : a.tmps[11]? = some (.slice (some ⟨b, off, none⟩) n c) := F 11 rfl
    have HI := Lib.hid hi
    clear H F hi hL
    go_wp2_with fail
    exact hK _ _ (Below.refl _ _) HI.out rfl
  · intro L a wy Q' hL hi H F hK
    try dsimp only at hi
    have h12 : a.tmps[12]? = some (.int .i64 (m : Nat)) := F 12 rfl
    have HI := Lib.hid hi
    clear H F hi hL
    go_wp2_with fail
    exact hK _ _ (Below.refl _ _) HI.out rfl
  · intro L a wy Q' hL hi H F hK
    try dsimp only at hi
    obtain ⟨_, h56, rfl⟩ := H 10 ⟨.data, by simp, rfl⟩ _ rfl
    replace h56 := h56 _ rfl
    obtain ⟨_, h57, rfl⟩ := H 11 ⟨.data, by simp, rfl⟩ _ rfl
    replace h57 := h57 _ rfl
    have HI := Lib.hid hi
    clear H F hi hL
    go_wp2_with fail
    exact hK _ _ (Below.refl _ _) HI.out rfl
  · intro L a wy Q' hL hi H F hK
    try dsimp only at hi
    obtain ⟨_, h58, rfl⟩ := H 12 ⟨.data, by simp, rfl⟩ _ rfl
    replace h58 := h58 _ rfl
    have HI := Lib.hid hi
    clear H F hi hL
    go_wp2_with fail
    exact hK _ _ (Below.refl _ _) HI.out rfl
  · intro L a wy Q' hL hi H F hK
    try dsimp only at hi
    obtain ⟨_, h59, rfl⟩ := H 13 ⟨.data, by simp, rfl⟩ _ rfl
    replace h59 := h59 _ rfl
    have HI := Lib.hid hi
    clear H F hi hL
    have kq : wy.cell? ⟨b, off + m * 7 + 6, none⟩ = some (.int .u32 x.dont) := cell_later HI.out (HE.out 6 _ rfl)
    go_wp2_with fail
    exact hK _ _ (Below.refl _ _) HI.out rfl
  · intro L a wy Q' hL hi H F hK
    try dsimp only at hi
    obtain ⟨_, h50, rfl⟩ := H 4 ⟨.data, by simp, rfl⟩ _ rfl
    replace h50 := h50 _ rfl
    have HI := Lib.hid hi
    clear H F hi hL
    go_wp2_with fail
    exact hK _ _ (Below.refl _ _) HI.out rfl
  · intro L a wy Q' hL hi H F hK
    try dsimp only at hi
    obtain ⟨_, h55, rfl⟩ := H 9 ⟨.data, by simp, rfl⟩ _ rfl
    replace h55 := h55 _ rfl
    have HI := Lib.hid hi
    clear H F hi hL
    go_wp2_with fail
    exact hK _ _ (Below.refl _ _) HI.out rfl
  · intro a wy L hl hi hL Q' hK
    try dsimp only at hi
    have HB := Lib.hid hi
    clear hi hL
    obtain ⟨_, rfl, _, rfl, _, rfl, _, rfl, _, rfl, _, rfl, _, rfl, _, rfl, _, rfl, _, rfl, _, rfl, _, rfl, _, rfl, _, rfl, _, rfl, _, rfl, _, rfl, rfl⟩ := hl
    simp only [List.setIfInBounds_toArray, List.set_cons_zero, List.set_cons_succ]
    go_wp2_with fail
    exact HEND.out _ _ _ _ _ _ _ _ _ _ _ _ _ _ _ _ HB.out
/-- The first entry for a case. -/
def findL (S : List AEntry) (s1 s2 s3 : Int) : AVec := match S.find? (fun x => decide (x.src = s1 ∧ x.tgt = s2 ∧ x.cls = s3)) with
  | some x => x.vecs
  | none => AVec.zero
theorem findL_some {S : List AEntry} {s1 s2 s3 : Int} {m : Nat} {x : AEntry} (hx : S[m]? = some x) (hno : ∀ (j : Nat) (y : AEntry), j < m → S[j]? = some y → decide (y.src = s1 ∧ y.tgt = s2 ∧ y.cls = s3) = false) (h : decide (x.src = s1 ∧ x.tgt = s2 ∧ x.cls = s3) = true) : findL S s1 s2 s3 = x.vecs := by
  obtain ⟨hl, rfl⟩ := List.getElem?_eq_some_iff.1 hx
  unfold findL
  rw [show S.find? (fun x => decide (x.src = s1 ∧ x.tgt = s2 ∧ x.cls = s3)) = some S[m] from List.find?_eq_some_iff_getElem.2 ⟨h, m, hl, rfl, fun j hj => by rw [hno j _ hj (List.getElem?_eq_getElem (by omega))]; rfl⟩]
theorem findL_none {S : List AEntry} {s1 s2 s3 : Int} (hno : ∀ (j : Nat) (y : AEntry), S[j]? = some y → decide (y.src = s1 ∧ y.tgt = s2 ∧ y.cls = s3) = false) : findL S s1 s2 s3 = AVec.zero := by
  unfold findL
  rw [List.find?_eq_none.2 fun x hx => by
    obtain ⟨j, hj⟩ := List.getElem?_of_mem hx
    rw [hno j x hj]
    simp]
set_option maxRecDepth 100000 in
set_option maxHeartbeats 4000000 in
theorem rfind_any (w : World) (ev vv : Value) (L : List AEntry) (vals : List Bool) (s1 s2 s3 : Int) (HE : SliceAt w ev 7 L.length (L.flatMap AEntry.cells)) (HV : SliceAt w vv 1 vals.length (vals.map aBool)) (hlen : L.length ≤ 100000) (hvl : vals.length ≤ 1000000) (hok : ∀ x ∈ L, x.Ok) :
    Calls Try.prog 31 #[.agg #[ev, vv], .int .i64 s1, .int .i64 s2, .int .i64 s3] w fun e w' => e = .returned (.tuple #[.int .u32 (findL (seenL L vals) s1 s2 s3).allow, .int .u32 (findL (seenL L vals) s1 s2 s3).audit, .int .u32 (findL (seenL L vals) s1 s2 s3).dont]) ∧ RowKit.Below w.heap.size w w' := by
  obtain ⟨wo, hwo⟩ : ∃ wo, wo = (w.alloc (.cells #[ev, vv] 30)) := ⟨_, rfl⟩
  have HBO := Lib.hid (show RowKit.Below w.heap.size w wo by rw [hwo]; exact (Below.refl _ w).alloc (Nat.le_refl _) _)
  have HST := Lib.hid (show Whole wo w.heap.size 30 #[ev, vv] by rw [hwo]; exact Whole.new w 30 _)
  have HVS := Lib.hid (rvisL_any wo ev vv L vals (HE.keep HBO.out) (HV.keep HBO.out) hlen hvl hok)
  have e0 : wo.cell? ⟨w.heap.size, 0, none⟩ = some ev := HST.out.cell 0
  have e1 : wo.cell? ⟨w.heap.size, 1, none⟩ = some vv := HST.out.cell 1
  have HLEN := Lib.hid hlen
  obtain ⟨S, hS⟩ : ∃ S, S = seenL L vals := ⟨_, rfl⟩
  rw [← hS] at HVS ⊢
  obtain ⟨u, hu⟩ : ∃ u, u = findL S s1 s2 s3 := ⟨_, rfl⟩
  rw [← hu]
  have HU := Lib.hid hu
  clear HE HV hlen hvl hok
  go_enter Try.func31, Try.ntmps31
  go_upto_region 1 with fail
  rw [← hwo]
  clear hwo
  go_wp2_with (go_at_call 30; go_must (refine HVS.out.mono ?_; rintro e w1 ⟨v1, rfl, ho, hb⟩; have HO1 := Lib.hid ho; have HB1 := Lib.hid hb; clear ho hb))
  clear e0 e1
  obtain ⟨n, hn⟩ : ∃ n, n = S.length := ⟨_, rfl⟩
  rw [← hn] at HO1
  have HN := Lib.hid hn
  have hnl : n ≤ 100000 := by rw [hn, hS]; have h1 := joinL_length (seenOf L vals); have h2 := seenOf_length L vals; have := HLEN.out; unfold seenL; omega
  obtain ⟨oa, oc, rfl⟩ := own_shape HO1.out
  clear hn hS hu
  have HSL := Lib.hid (SliceAt.of_own HO1.out (ecells_one _))
  go_wp2_with fail
  go_loopw [12] (fun ix wr => ∃ m : Nat, m ≤ n ∧ ix = .int .i64 m ∧ Hid (∀ (j : Nat) (y : AEntry), j < m → S[j]? = some y → decide (y.src = s1 ∧ y.tgt = s2 ∧ y.cls = s3) = false) ∧ RowKit.Below w1.heap.size w1 wr) (fun ix _ => n - (intOf ix).toNat)
  case atStart => exact ⟨0, Nat.zero_le _, rfl, Lib.hid fun j y hj => by omega, Below.refl _ _⟩
  case round =>
    obtain ⟨m, hm, rfl, HNO, hBr⟩ := hrel
    have HBr := Lib.hid hBr
    clear hBr
    by_cases hlt : m < n
    · obtain ⟨x, hx⟩ : ∃ x, S[m]? = some x := ⟨_, List.getElem?_eq_getElem (by rw [← HN.out]; exact hlt)⟩
      obtain ⟨a0, c0, hv0, -, -, hcell⟩ := HSL.out.form (by decide)
      cases hv0
      obtain ⟨b, off, hab, hcl⟩ := hcell m hlt
      subst hab
      have HEx := Lib.hid (show ∀ j u, x.cells[j]? = some u → wr.cell? ⟨b, off + m * 7 + j, none⟩ = some u from fun j u hu => cell_later HBr.out (hcl j u (by rw [flat_at entry_len hx j (by exact (List.getElem?_eq_some_iff.1 hu).1)]; exact hu)))
      obtain ⟨r, hr⟩ : ∃ r, r = decide (x.src = s1 ∧ x.tgt = s2 ∧ x.cls = s3) := ⟨_, rfl⟩
      have HR := Lib.hid hr
      have HXI := Lib.hid hx
      clear hcell hcl hx
      go_upto_region 5 with fail
      refine rf5_any wr b off m n oc x s1 s2 s3 r _ _ _ _ _ _ _ _ _ _ _ _ _ _ _ _ _ _ _ _ _ _ _ _ _ _ _ _ _ _ _ _ _ _ _ _ _ _ _ _ _ _ _ _ _ _ _ _ _ _ _ _ _ _ _ _ hlt HEx hr ?_
      intro v21 v22 v23 v24 v25 v26 v27 v28 v29 v30 v31 v32 v33 v34 v35 v36 v37 v38 v39 v40 v41 v42 v43 v44 _
      clear hr
      cases r with
      | true =>
        go_upto_region 6 with fail
        refine rf6 wr b off m n oc x _ _ _ _ _ _ _ _ _ _ _ _ _ _ _ _ _ _ _ _ _ _ _ _ _ _ _ _ _ _ _ _ _ _ _ _ _ _ _ _ _ _ _ _ _ _ _ _ _ _ _ _ _ _ _ _ _ _ _ hlt HEx ?_
        intro v46 v47 v48 v49 v50 v51 v52 v53 v54 v55 v56 v57 v58 v59 v60 w6 hb6
        have HB6 := Lib.hid hb6
        clear hb6
        go_wp2
        go_ret3
        have e : u = x.vecs := HU.out.trans (findL_some HXI.out HNO.out HR.out.symm)
        rw [e]
        exact ⟨rfl, HBO.out.trans ((HB1.out.trans ((HBr.out.trans (HB6.out.mono HBr.out.size)).mono HB1.out.size)).mono HBO.out.size)⟩
      | false =>
        go_wp2_with fail
        go_roundw
        case rel => exact ⟨m + 1, by omega, by go_num, Lib.hid fun j y hj hy => by
          by_cases e : j = m
          · subst e
            rw [HXI.out] at hy
            cases hy
            exact HR.out.symm
          · exact HNO.out j y (by omega) hy, HBr.out⟩
        case measure => simp [intOf]; omega
    · obtain rfl : m = n := by omega
      go_wp2
      go_ret3
      have e : u = AVec.zero := HU.out.trans (findL_none fun j y hy => HNO.out j y (by have := (List.getElem?_eq_some_iff.1 hy).1; rw [HN.out]; exact this) hy)
      rw [e]
      exact ⟨rfl, HBO.out.trans ((HB1.out.trans (HBr.out.mono HB1.out.size)).mono HBO.out.size)⟩
set_option maxRecDepth 100000 in
set_option maxHeartbeats 4000000 in
theorem rtargets6_0 (w : World) (b off m n c : Nat) (x : AEntry) (s1 s2 s3 : Int) (x0 x4 x5 x6 x7 x8 x9 x12 x13 x14 x15 x16 x17 x18 x19 x20 x21 x22 x23 x24 x25 x26 x27 x28 x29 x30 x31 x32 x33 x34 x35 x36 x37 x38 x39 x40 x41 x42 x43 x44 x45 x46 x47 x48 x49 x50 x51 x52 x53 x54 x55 : Value) (hm : m < n) (HE : Hid (∀ j u, x.cells[j]? = some u → w.cell? ⟨b, off + m * 7 + j, none⟩ = some u)) (HQ : Hid (¬ x.src = s1))
    {Q' : Exit → Act → World → Prop} (hend : ∀ (v20 v21 v22 v23 v24 v25 v26 v27 v28 v29 v30 v31 v32 v33 v34 v35 v36 v37 v38 v39 v40 v41 v42 v43 v44 v45 : Value) , True → Q' .normal ⟨#[x0, .int .i64 s1, .int .i64 s2, .int .u32 s3, x4, x5, x6, x7, x8, x9, .slice (some ⟨b, off, none⟩) n c, .int .i64 (m : Nat), x12, x13, x14, x15, x16, x17, x18, x19, v20, v21, v22, v23, v24, v25, v26, v27, v28, v29, v30, v31, v32, v33, v34, v35, v36, v37, v38, v39, v40, v41, v42, v43, v44, v45, .bool false, x47, x48, x49, x50, x51, x52, x53, x54, x55], []⟩ w) :
    Code.wp Try.prog (findRegion7 6 ((Try.f32.body).getD .skip)) Q' ⟨#[x0, .int .i64 s1, .int .i64 s2, .int .u32 s3, x4, x5, x6, x7, x8, x9, .slice (some ⟨b, off, none⟩) n c, .int .i64 (m : Nat), x12, x13, x14, x15, x16, x17, x18, x19, x20, x21, x22, x23, x24, x25, x26, x27, x28, x29, x30, x31, x32, x33, x34, x35, x36, x37, x38, x39, x40, x41, x42, x43, x44, x45, x46, x47, x48, x49, x50, x51, x52, x53, x54, x55], []⟩ w := by
  have HEND := Lib.hid hend
  clear hend
  conv => arg 2; whnf
  conv => arg 4; dsimp only
  have kx0 : w.cell? ⟨b, off + m * 7, none⟩ = some (.int .i64 x.src) := HE.out 0 _ rfl
  have kx2 : w.cell? ⟨b, off + m * 7 + 2, none⟩ = some (.int .i64 x.cls) := HE.out 2 _ rfl
  have kx4 : w.cell? ⟨b, off + m * 7 + 4, none⟩ = some (.int .u32 x.allow) := HE.out 4 _ rfl
  have h0 : (x.src == s1) = false := by simpa using HQ.out
  go_wp2_with fail
  exact HEND.out _ _ _ _ _ _ _ _ _ _ _ _ _ _ _ _ _ _ _ _ _ _ _ _ _ _ trivial
set_option maxRecDepth 100000 in
set_option maxHeartbeats 4000000 in
theorem rtargets6_1 (w : World) (b off m n c : Nat) (x : AEntry) (s1 s2 s3 : Int) (x0 x4 x5 x6 x7 x8 x9 x12 x13 x14 x15 x16 x17 x18 x19 x20 x21 x22 x23 x24 x25 x26 x27 x28 x29 x30 x31 x32 x33 x34 x35 x36 x37 x38 x39 x40 x41 x42 x43 x44 x45 x46 x47 x48 x49 x50 x51 x52 x53 x54 x55 : Value) (hm : m < n) (HE : Hid (∀ j u, x.cells[j]? = some u → w.cell? ⟨b, off + m * 7 + j, none⟩ = some u)) (HQ : Hid (x.src = s1 ∧ ¬ x.cls = s2))
    {Q' : Exit → Act → World → Prop} (hend : ∀ (v20 v21 v22 v23 v24 v25 v26 v27 v28 v29 v30 v31 v32 v33 v34 v35 v36 v37 v38 v39 v40 v41 v42 v43 v44 v45 : Value) , True → Q' .normal ⟨#[x0, .int .i64 s1, .int .i64 s2, .int .u32 s3, x4, x5, x6, x7, x8, x9, .slice (some ⟨b, off, none⟩) n c, .int .i64 (m : Nat), x12, x13, x14, x15, x16, x17, x18, x19, v20, v21, v22, v23, v24, v25, v26, v27, v28, v29, v30, v31, v32, v33, v34, v35, v36, v37, v38, v39, v40, v41, v42, v43, v44, v45, .bool false, x47, x48, x49, x50, x51, x52, x53, x54, x55], []⟩ w) :
    Code.wp Try.prog (findRegion7 6 ((Try.f32.body).getD .skip)) Q' ⟨#[x0, .int .i64 s1, .int .i64 s2, .int .u32 s3, x4, x5, x6, x7, x8, x9, .slice (some ⟨b, off, none⟩) n c, .int .i64 (m : Nat), x12, x13, x14, x15, x16, x17, x18, x19, x20, x21, x22, x23, x24, x25, x26, x27, x28, x29, x30, x31, x32, x33, x34, x35, x36, x37, x38, x39, x40, x41, x42, x43, x44, x45, x46, x47, x48, x49, x50, x51, x52, x53, x54, x55], []⟩ w := by
  have HEND := Lib.hid hend
  clear hend
  conv => arg 2; whnf
  conv => arg 4; dsimp only
  have kx0 : w.cell? ⟨b, off + m * 7, none⟩ = some (.int .i64 x.src) := HE.out 0 _ rfl
  have kx2 : w.cell? ⟨b, off + m * 7 + 2, none⟩ = some (.int .i64 x.cls) := HE.out 2 _ rfl
  have kx4 : w.cell? ⟨b, off + m * 7 + 4, none⟩ = some (.int .u32 x.allow) := HE.out 4 _ rfl
  have h0 : (x.src == s1) = true := by simpa using HQ.out.1
  have h1 : (x.cls == s2) = false := by simpa using HQ.out.2
  go_wp2_with fail
  exact HEND.out _ _ _ _ _ _ _ _ _ _ _ _ _ _ _ _ _ _ _ _ _ _ _ _ _ _ trivial
set_option maxRecDepth 100000 in
set_option maxHeartbeats 4000000 in
theorem rtargets6_2 (w : World) (b off m n c : Nat) (x : AEntry) (s1 s2 s3 : Int) (x0 x4 x5 x6 x7 x8 x9 x12 x13 x14 x15 x16 x17 x18 x19 x20 x21 x22 x23 x24 x25 x26 x27 x28 x29 x30 x31 x32 x33 x34 x35 x36 x37 x38 x39 x40 x41 x42 x43 x44 x45 x46 x47 x48 x49 x50 x51 x52 x53 x54 x55 : Value) (hm : m < n) (HE : Hid (∀ j u, x.cells[j]? = some u → w.cell? ⟨b, off + m * 7 + j, none⟩ = some u)) (HQ : Hid (x.src = s1 ∧ x.cls = s2 ∧ ¬ bits .and .u32 x.allow s3 = s3))
    {Q' : Exit → Act → World → Prop} (hend : ∀ (v20 v21 v22 v23 v24 v25 v26 v27 v28 v29 v30 v31 v32 v33 v34 v35 v36 v37 v38 v39 v40 v41 v42 v43 v44 v45 : Value) , True → Q' .normal ⟨#[x0, .int .i64 s1, .int .i64 s2, .int .u32 s3, x4, x5, x6, x7, x8, x9, .slice (some ⟨b, off, none⟩) n c, .int .i64 (m : Nat), x12, x13, x14, x15, x16, x17, x18, x19, v20, v21, v22, v23, v24, v25, v26, v27, v28, v29, v30, v31, v32, v33, v34, v35, v36, v37, v38, v39, v40, v41, v42, v43, v44, v45, .bool false, x47, x48, x49, x50, x51, x52, x53, x54, x55], []⟩ w) :
    Code.wp Try.prog (findRegion7 6 ((Try.f32.body).getD .skip)) Q' ⟨#[x0, .int .i64 s1, .int .i64 s2, .int .u32 s3, x4, x5, x6, x7, x8, x9, .slice (some ⟨b, off, none⟩) n c, .int .i64 (m : Nat), x12, x13, x14, x15, x16, x17, x18, x19, x20, x21, x22, x23, x24, x25, x26, x27, x28, x29, x30, x31, x32, x33, x34, x35, x36, x37, x38, x39, x40, x41, x42, x43, x44, x45, x46, x47, x48, x49, x50, x51, x52, x53, x54, x55], []⟩ w := by
  have HEND := Lib.hid hend
  clear hend
  conv => arg 2; whnf
  conv => arg 4; dsimp only
  have kx0 : w.cell? ⟨b, off + m * 7, none⟩ = some (.int .i64 x.src) := HE.out 0 _ rfl
  have kx2 : w.cell? ⟨b, off + m * 7 + 2, none⟩ = some (.int .i64 x.cls) := HE.out 2 _ rfl
  have kx4 : w.cell? ⟨b, off + m * 7 + 4, none⟩ = some (.int .u32 x.allow) := HE.out 4 _ rfl
  have h0 : (x.src == s1) = true := by simpa using HQ.out.1
  have h1 : (x.cls == s2) = true := by simpa using HQ.out.2.1
  have h2 : (bits .and .u32 x.allow s3 == s3) = false := by simpa using HQ.out.2.2
  go_wp2_with fail
  exact HEND.out _ _ _ _ _ _ _ _ _ _ _ _ _ _ _ _ _ _ _ _ _ _ _ _ _ _ trivial
set_option maxRecDepth 100000 in
set_option maxHeartbeats 4000000 in
theorem rtargets6_3 (w : World) (b off m n c : Nat) (x : AEntry) (s1 s2 s3 : Int) (x0 x4 x5 x6 x7 x8 x9 x12 x13 x14 x15 x16 x17 x18 x19 x20 x21 x22 x23 x24 x25 x26 x27 x28 x29 x30 x31 x32 x33 x34 x35 x36 x37 x38 x39 x40 x41 x42 x43 x44 x45 x46 x47 x48 x49 x50 x51 x52 x53 x54 x55 : Value) (hm : m < n) (HE : Hid (∀ j u, x.cells[j]? = some u → w.cell? ⟨b, off + m * 7 + j, none⟩ = some u)) (HQ : Hid (x.src = s1 ∧ x.cls = s2 ∧ bits .and .u32 x.allow s3 = s3))
    {Q' : Exit → Act → World → Prop} (hend : ∀ (v20 v21 v22 v23 v24 v25 v26 v27 v28 v29 v30 v31 v32 v33 v34 v35 v36 v37 v38 v39 v40 v41 v42 v43 v44 v45 : Value) , True → Q' .normal ⟨#[x0, .int .i64 s1, .int .i64 s2, .int .u32 s3, x4, x5, x6, x7, x8, x9, .slice (some ⟨b, off, none⟩) n c, .int .i64 (m : Nat), x12, x13, x14, x15, x16, x17, x18, x19, v20, v21, v22, v23, v24, v25, v26, v27, v28, v29, v30, v31, v32, v33, v34, v35, v36, v37, v38, v39, v40, v41, v42, v43, v44, v45, .bool true, x47, x48, x49, x50, x51, x52, x53, x54, x55], []⟩ w) :
    Code.wp Try.prog (findRegion7 6 ((Try.f32.body).getD .skip)) Q' ⟨#[x0, .int .i64 s1, .int .i64 s2, .int .u32 s3, x4, x5, x6, x7, x8, x9, .slice (some ⟨b, off, none⟩) n c, .int .i64 (m : Nat), x12, x13, x14, x15, x16, x17, x18, x19, x20, x21, x22, x23, x24, x25, x26, x27, x28, x29, x30, x31, x32, x33, x34, x35, x36, x37, x38, x39, x40, x41, x42, x43, x44, x45, x46, x47, x48, x49, x50, x51, x52, x53, x54, x55], []⟩ w := by
  have HEND := Lib.hid hend
  clear hend
  conv => arg 2; whnf
  conv => arg 4; dsimp only
  have kx0 : w.cell? ⟨b, off + m * 7, none⟩ = some (.int .i64 x.src) := HE.out 0 _ rfl
  have kx2 : w.cell? ⟨b, off + m * 7 + 2, none⟩ = some (.int .i64 x.cls) := HE.out 2 _ rfl
  have kx4 : w.cell? ⟨b, off + m * 7 + 4, none⟩ = some (.int .u32 x.allow) := HE.out 4 _ rfl
  have h0 : (x.src == s1) = true := by simpa using HQ.out.1
  have h1 : (x.cls == s2) = true := by simpa using HQ.out.2.1
  have h2 : (bits .and .u32 x.allow s3 == s3) = true := by simpa using HQ.out.2.2
  go_wp2_with fail
  exact HEND.out _ _ _ _ _ _ _ _ _ _ _ _ _ _ _ _ _ _ _ _ _ _ _ _ _ _ trivial
theorem rtargets6_any (w : World) (b off m n c : Nat) (x : AEntry) (s1 s2 s3 : Int) (r : Bool) (x0 x4 x5 x6 x7 x8 x9 x12 x13 x14 x15 x16 x17 x18 x19 x20 x21 x22 x23 x24 x25 x26 x27 x28 x29 x30 x31 x32 x33 x34 x35 x36 x37 x38 x39 x40 x41 x42 x43 x44 x45 x46 x47 x48 x49 x50 x51 x52 x53 x54 x55 : Value) (hm : m < n) (HE : Hid (∀ j u, x.cells[j]? = some u → w.cell? ⟨b, off + m * 7 + j, none⟩ = some u)) (hr : r = decide (x.src = s1 ∧ x.cls = s2 ∧ bits .and .u32 x.allow s3 = s3))
    {Q' : Exit → Act → World → Prop} (hend : ∀ (v20 v21 v22 v23 v24 v25 v26 v27 v28 v29 v30 v31 v32 v33 v34 v35 v36 v37 v38 v39 v40 v41 v42 v43 v44 v45 : Value), True → Q' .normal ⟨#[x0, .int .i64 s1, .int .i64 s2, .int .u32 s3, x4, x5, x6, x7, x8, x9, .slice (some ⟨b, off, none⟩) n c, .int .i64 (m : Nat), x12, x13, x14, x15, x16, x17, x18, x19, v20, v21, v22, v23, v24, v25, v26, v27, v28, v29, v30, v31, v32, v33, v34, v35, v36, v37, v38, v39, v40, v41, v42, v43, v44, v45, .bool r, x47, x48, x49, x50, x51, x52, x53, x54, x55], []⟩ w) :
    Code.wp Try.prog (findRegion7 6 ((Try.f32.body).getD .skip)) Q' ⟨#[x0, .int .i64 s1, .int .i64 s2, .int .u32 s3, x4, x5, x6, x7, x8, x9, .slice (some ⟨b, off, none⟩) n c, .int .i64 (m : Nat), x12, x13, x14, x15, x16, x17, x18, x19, x20, x21, x22, x23, x24, x25, x26, x27, x28, x29, x30, x31, x32, x33, x34, x35, x36, x37, x38, x39, x40, x41, x42, x43, x44, x45, x46, x47, x48, x49, x50, x51, x52, x53, x54, x55], []⟩ w := by
  by_cases h0 : x.src = s1
  · by_cases h1 : x.cls = s2
    · by_cases h2 : bits .and .u32 x.allow s3 = s3
      · rw [decide_eq_true ⟨h0, h1, h2⟩] at hr
        subst hr
        exact rtargets6_3 w b off m n c x s1 s2 s3 x0 x4 x5 x6 x7 x8 x9 x12 x13 x14 x15 x16 x17 x18 x19 x20 x21 x22 x23 x24 x25 x26 x27 x28 x29 x30 x31 x32 x33 x34 x35 x36 x37 x38 x39 x40 x41 x42 x43 x44 x45 x46 x47 x48 x49 x50 x51 x52 x53 x54 x55 hm HE (Lib.hid ⟨h0, h1, h2⟩) hend
      · rw [decide_eq_false fun e => h2 e.2.2] at hr
        subst hr
        exact rtargets6_2 w b off m n c x s1 s2 s3 x0 x4 x5 x6 x7 x8 x9 x12 x13 x14 x15 x16 x17 x18 x19 x20 x21 x22 x23 x24 x25 x26 x27 x28 x29 x30 x31 x32 x33 x34 x35 x36 x37 x38 x39 x40 x41 x42 x43 x44 x45 x46 x47 x48 x49 x50 x51 x52 x53 x54 x55 hm HE (Lib.hid ⟨h0, h1, h2⟩) hend
    · rw [decide_eq_false fun e => h1 e.2.1] at hr
      subst hr
      exact rtargets6_1 w b off m n c x s1 s2 s3 x0 x4 x5 x6 x7 x8 x9 x12 x13 x14 x15 x16 x17 x18 x19 x20 x21 x22 x23 x24 x25 x26 x27 x28 x29 x30 x31 x32 x33 x34 x35 x36 x37 x38 x39 x40 x41 x42 x43 x44 x45 x46 x47 x48 x49 x50 x51 x52 x53 x54 x55 hm HE (Lib.hid ⟨h0, h1⟩) hend
  · rw [decide_eq_false fun e => h0 e.1] at hr
    subst hr
    exact rtargets6_0 w b off m n c x s1 s2 s3 x0 x4 x5 x6 x7 x8 x9 x12 x13 x14 x15 x16 x17 x18 x19 x20 x21 x22 x23 x24 x25 x26 x27 x28 x29 x30 x31 x32 x33 x34 x35 x36 x37 x38 x39 x40 x41 x42 x43 x44 x45 x46 x47 x48 x49 x50 x51 x52 x53 x54 x55 hm HE (Lib.hid h0) hend
theorem targetsR_eq (S : List AEntry) (s c pm : Int) : targetsL S s c pm = (S.filter fun x => decide (x.src = s ∧ x.cls = c ∧ bits .and .u32 x.allow pm = pm)).map AEntry.tgt := by
  unfold targetsL
  congr 2
  funext e
  rw [Bool.eq_iff_iff]
  simp [and_assoc]
theorem targetsR_snoc (S : List AEntry) (y : AEntry) (s c pm : Int) : targetsL (S ++ [y]) s c pm = if decide (y.src = s ∧ y.cls = c ∧ bits .and .u32 y.allow pm = pm) = true then targetsL S s c pm ++ [y.tgt] else targetsL S s c pm := by
  rw [targetsR_eq, targetsR_eq, List.filter_append, List.map_append, filter_one]
  by_cases h : decide (y.src = s ∧ y.cls = c ∧ bits .and .u32 y.allow pm = pm) = true
  · rw [if_pos h, if_pos h]
    rfl
  · rw [if_neg h, if_neg h]
    simp
set_option maxRecDepth 100000 in
set_option maxHeartbeats 4000000 in
theorem rtargets_any (w : World) (ev vv : Value) (L : List AEntry) (vals : List Bool) (s1 s2 s3 : Int) (HE : SliceAt w ev 7 L.length (L.flatMap AEntry.cells)) (HV : SliceAt w vv 1 vals.length (vals.map aBool)) (hlen : L.length ≤ 100000) (hvl : vals.length ≤ 1000000) (hok : ∀ x ∈ L, x.Ok) :
    Calls Try.prog 32 #[.agg #[ev, vv], .int .i64 s1, .int .i64 s2, .int .u32 s3] w fun e w' => ∃ v, e = .returned v ∧ w'.ownsRow w.heap.size 3 1 v (targetsL (seenL L vals) s1 s2 s3).length ((targetsL (seenL L vals) s1 s2 s3).map anInt) ∧ RowKit.Below w.heap.size w w' := by
  obtain ⟨i0, z0, hi0, hz0, hz1, hz2, hzs⟩ := infoOf info3
  obtain ⟨wo, hwo⟩ : ∃ wo, wo = (w.alloc (.cells #[ev, vv] 30)) := ⟨_, rfl⟩
  have HBO := Lib.hid (show RowKit.Below w.heap.size w wo by rw [hwo]; exact (Below.refl _ w).alloc (Nat.le_refl _) _)
  have HST := Lib.hid (show Whole wo w.heap.size 30 #[ev, vv] by rw [hwo]; exact Whole.new w 30 _)
  have HVS := Lib.hid (rvisL_any wo ev vv L vals (HE.keep HBO.out) (HV.keep HBO.out) hlen hvl hok)
  have e0 : wo.cell? ⟨w.heap.size, 0, none⟩ = some ev := HST.out.cell 0
  have e1 : wo.cell? ⟨w.heap.size, 1, none⟩ = some vv := HST.out.cell 1
  have HLEN := Lib.hid hlen
  obtain ⟨S, hS⟩ : ∃ S, S = seenL L vals := ⟨_, rfl⟩
  rw [← hS] at HVS ⊢
  clear HE HV hlen hvl hok
  go_enter Try.func32, Try.ntmps32
  go_upto_region 1 with fail
  rw [← hwo]
  clear hwo
  go_wp2_with (go_at_call 30; go_must (refine HVS.out.mono ?_; rintro e w1 ⟨v1, rfl, ho, hb⟩; have HO1 := Lib.hid ho; have HB1 := Lib.hid hb; clear ho hb))
  clear e0 e1
  obtain ⟨n, hn⟩ : ∃ n, n = S.length := ⟨_, rfl⟩
  rw [← hn] at HO1
  have HN := Lib.hid hn
  have HNL := Lib.hid (show n ≤ 100000 by rw [hn, hS]; have h1 := joinL_length (seenOf L vals); have h2 := seenOf_length L vals; have := HLEN.out; unfold seenL; omega)
  have hnl := HNL.out
  obtain ⟨oa, oc, rfl⟩ := own_shape HO1.out
  clear hn hS
  have HSL := Lib.hid (SliceAt.of_own HO1.out (ecells_one _))
  go_wp2_with fail
  go_loopw [11, 9] (fun ix u wr => ∃ m : Nat, m ≤ n ∧ ix = .int .i64 m ∧ wr.ownsRow w1.heap.size 3 1 u (targetsL (S.take m) s1 s2 s3).length ((targetsL (S.take m) s1 s2 s3).map anInt) ∧ RowKit.Below w1.heap.size w1 wr) (fun ix _ _ => n - (intOf ix).toNat)
  case atStart => exact ⟨0, Nat.zero_le _, rfl, by simpa [targetsL] using World.ownsRow_nil _ _ _ _, Below.refl _ _⟩
  case round =>
    obtain ⟨m, hm, rfl, hOr, hBr⟩ := hrel
    obtain ⟨p, hp⟩ : ∃ p, p = (targetsL (S.take m) s1 s2 s3).length := ⟨_, rfl⟩
    rw [← hp] at hOr
    obtain ⟨ua, uc, rfl⟩ := own_shape hOr
    have HOr := Lib.hid hOr
    have HBr := Lib.hid hBr
    have HPP := Lib.hid hp
    have HPL := Lib.hid (show p ≤ 100000 by rw [hp]; have := targetsL_len (S.take m) s1 s2 s3; have h3 : (S.take m).length ≤ S.length := by {rw [List.length_take]; omega}; have := HN.out; omega)
    clear hOr hBr hp
    by_cases hlt : m < n
    · obtain ⟨x, hx⟩ : ∃ x, S[m]? = some x := ⟨_, List.getElem?_eq_getElem (by rw [← HN.out]; exact hlt)⟩
      obtain ⟨a0, c0, hv0, -, -, hcell⟩ := HSL.out.form (by decide)
      cases hv0
      obtain ⟨b, off, hab, hcl⟩ := hcell m hlt
      subst hab
      have HEx := Lib.hid (show ∀ j u, x.cells[j]? = some u → wr.cell? ⟨b, off + m * 7 + j, none⟩ = some u from fun j u hu => cell_later HBr.out (hcl j u (by rw [flat_at entry_len hx j (by exact (List.getElem?_eq_some_iff.1 hu).1)]; exact hu)))
      have HNX := Lib.hid (show targetsL (S.take (m + 1)) s1 s2 s3 = _ from (congrArg (fun q => targetsL q s1 s2 s3) (take_snoc hx)).trans (targetsR_snoc (S.take m) x s1 s2 s3))
      obtain ⟨r, hr⟩ : ∃ r, r = decide (x.src = s1 ∧ x.cls = s2 ∧ bits .and .u32 x.allow s3 = s3) := ⟨_, rfl⟩
      have HR := Lib.hid hr
      clear hcell hcl hx
      go_upto_region 6 with fail
      refine rtargets6_any wr b off m n oc x s1 s2 s3 r _ _ _ _ _ _ _ _ _ _ _ _ _ _ _ _ _ _ _ _ _ _ _ _ _ _ _ _ _ _ _ _ _ _ _ _ _ _ _ _ _ _ _ _ _ _ _ _ _ _ _ hlt HEx hr ?_
      intro v20 v21 v22 v23 v24 v25 v26 v27 v28 v29 v30 v31 v32 v33 v34 v35 v36 v37 v38 v39 v40 v41 v42 v43 v44 v45 _
      clear hr
      rw [← HR.out] at HNX
      cases r with
      | true =>
        have kq : wr.cell? ⟨b, off + m * 7 + 1, none⟩ = some (.int .i64 x.tgt) := HEx.out 1 _ rfl
        go_wp2_with (at_builtin; go_must (refine wpList_append_own _ rfl _ _ 53 rfl w1.heap.size 3 i0 z0 1 8 Try.underlying53 hi0 hz0 hz1 hz2 hzs (by decide) _ _ _ rfl (own_alloc HOr.out _) ⟨wr.heap.size, 0, none⟩ 1 1 [.int .i64 x.tgt] rfl rfl (row_new _ _ _) ?c2 ?c3 ?c4 ?c5 ?_))
        case c2 => simp [Value.oneCell']
        case c3 => have := HPL.out; unfold maxLen; omega
        case c4 => have := HPL.out; omega
        case c5 => have := HBr.out.size; simp; omega
        intro u9 w9 ho9 hg9 hn9
        have HB9 := Lib.hid ((HBr.out.alloc HBr.out.size _).grown hg9 (by have := HBr.out.size; simp; omega) (fun q hq => (HOr.out.lt q hq).1))
        have HO9 := Lib.hid ho9
        clear hg9 hn9 ho9 kq
        go_wp2_with fail
        go_roundw
        case rel => exact ⟨m + 1, by omega, by go_num, by rw [HNX.out, if_pos True.intro, List.length_append, List.map_append, ← HPP.out]; exact HO9.out, HB9.out⟩
        case measure => simp [intOf]; omega
      | false =>
        go_wp2_with fail
        go_roundw
        case rel => exact ⟨m + 1, by omega, by go_num, by rw [HNX.out, if_neg (by simp), ← HPP.out]; exact HOr.out, HBr.out⟩
        case measure => simp [intOf]; omega
    · obtain rfl : m = n := by omega
      have hfull : S.take m = S := List.take_of_length_le (by rw [HN.out]; exact Nat.le_refl _)
      rw [hfull] at HOr HPP
      clear hfull
      go_wp2
      go_ret
      refine ⟨_, ret_val rfl, ?_, HBO.out.trans ((HB1.out.trans (HBr.out.mono HB1.out.size)).mono HBO.out.size)⟩
      rw [← HPP.out]
      exact own_low HOr.out (Nat.le_trans HBO.out.size HB1.out.size)
set_option maxRecDepth 100000 in
set_option maxHeartbeats 4000000 in
theorem rsources6_0 (w : World) (b off m n c : Nat) (x : AEntry) (s1 s2 s3 : Int) (x0 x4 x5 x6 x7 x8 x9 x12 x13 x14 x15 x16 x17 x18 x19 x20 x21 x22 x23 x24 x25 x26 x27 x28 x29 x30 x31 x32 x33 x34 x35 x36 x37 x38 x39 x40 x41 x42 x43 x44 x45 x46 x47 x48 x49 x50 x51 x52 x53 x54 x55 : Value) (hm : m < n) (HE : Hid (∀ j u, x.cells[j]? = some u → w.cell? ⟨b, off + m * 7 + j, none⟩ = some u)) (HQ : Hid (¬ x.tgt = s1))
    {Q' : Exit → Act → World → Prop} (hend : ∀ (v20 v21 v22 v23 v24 v25 v26 v27 v28 v29 v30 v31 v32 v33 v34 v35 v36 v37 v38 v39 v40 v41 v42 v43 v44 v45 : Value) , True → Q' .normal ⟨#[x0, .int .i64 s1, .int .i64 s2, .int .u32 s3, x4, x5, x6, x7, x8, x9, .slice (some ⟨b, off, none⟩) n c, .int .i64 (m : Nat), x12, x13, x14, x15, x16, x17, x18, x19, v20, v21, v22, v23, v24, v25, v26, v27, v28, v29, v30, v31, v32, v33, v34, v35, v36, v37, v38, v39, v40, v41, v42, v43, v44, v45, .bool false, x47, x48, x49, x50, x51, x52, x53, x54, x55], []⟩ w) :
    Code.wp Try.prog (findRegion7 6 ((Try.f33.body).getD .skip)) Q' ⟨#[x0, .int .i64 s1, .int .i64 s2, .int .u32 s3, x4, x5, x6, x7, x8, x9, .slice (some ⟨b, off, none⟩) n c, .int .i64 (m : Nat), x12, x13, x14, x15, x16, x17, x18, x19, x20, x21, x22, x23, x24, x25, x26, x27, x28, x29, x30, x31, x32, x33, x34, x35, x36, x37, x38, x39, x40, x41, x42, x43, x44, x45, x46, x47, x48, x49, x50, x51, x52, x53, x54, x55], []⟩ w := by
  have HEND := Lib.hid hend
  clear hend
  conv => arg 2; whnf
  conv => arg 4; dsimp only
  have kx1 : w.cell? ⟨b, off + m * 7 + 1, none⟩ = some (.int .i64 x.tgt) := HE.out 1 _ rfl
  have kx2 : w.cell? ⟨b, off + m * 7 + 2, none⟩ = some (.int .i64 x.cls) := HE.out 2 _ rfl
  have kx4 : w.cell? ⟨b, off + m * 7 + 4, none⟩ = some (.int .u32 x.allow) := HE.out 4 _ rfl
  have h0 : (x.tgt == s1) = false := by simpa using HQ.out
  go_wp2_with fail
  exact HEND.out _ _ _ _ _ _ _ _ _ _ _ _ _ _ _ _ _ _ _ _ _ _ _ _ _ _ trivial
set_option maxRecDepth 100000 in
set_option maxHeartbeats 4000000 in
theorem rsources6_1 (w : World) (b off m n c : Nat) (x : AEntry) (s1 s2 s3 : Int) (x0 x4 x5 x6 x7 x8 x9 x12 x13 x14 x15 x16 x17 x18 x19 x20 x21 x22 x23 x24 x25 x26 x27 x28 x29 x30 x31 x32 x33 x34 x35 x36 x37 x38 x39 x40 x41 x42 x43 x44 x45 x46 x47 x48 x49 x50 x51 x52 x53 x54 x55 : Value) (hm : m < n) (HE : Hid (∀ j u, x.cells[j]? = some u → w.cell? ⟨b, off + m * 7 + j, none⟩ = some u)) (HQ : Hid (x.tgt = s1 ∧ ¬ x.cls = s2))
    {Q' : Exit → Act → World → Prop} (hend : ∀ (v20 v21 v22 v23 v24 v25 v26 v27 v28 v29 v30 v31 v32 v33 v34 v35 v36 v37 v38 v39 v40 v41 v42 v43 v44 v45 : Value) , True → Q' .normal ⟨#[x0, .int .i64 s1, .int .i64 s2, .int .u32 s3, x4, x5, x6, x7, x8, x9, .slice (some ⟨b, off, none⟩) n c, .int .i64 (m : Nat), x12, x13, x14, x15, x16, x17, x18, x19, v20, v21, v22, v23, v24, v25, v26, v27, v28, v29, v30, v31, v32, v33, v34, v35, v36, v37, v38, v39, v40, v41, v42, v43, v44, v45, .bool false, x47, x48, x49, x50, x51, x52, x53, x54, x55], []⟩ w) :
    Code.wp Try.prog (findRegion7 6 ((Try.f33.body).getD .skip)) Q' ⟨#[x0, .int .i64 s1, .int .i64 s2, .int .u32 s3, x4, x5, x6, x7, x8, x9, .slice (some ⟨b, off, none⟩) n c, .int .i64 (m : Nat), x12, x13, x14, x15, x16, x17, x18, x19, x20, x21, x22, x23, x24, x25, x26, x27, x28, x29, x30, x31, x32, x33, x34, x35, x36, x37, x38, x39, x40, x41, x42, x43, x44, x45, x46, x47, x48, x49, x50, x51, x52, x53, x54, x55], []⟩ w := by
  have HEND := Lib.hid hend
  clear hend
  conv => arg 2; whnf
  conv => arg 4; dsimp only
  have kx1 : w.cell? ⟨b, off + m * 7 + 1, none⟩ = some (.int .i64 x.tgt) := HE.out 1 _ rfl
  have kx2 : w.cell? ⟨b, off + m * 7 + 2, none⟩ = some (.int .i64 x.cls) := HE.out 2 _ rfl
  have kx4 : w.cell? ⟨b, off + m * 7 + 4, none⟩ = some (.int .u32 x.allow) := HE.out 4 _ rfl
  have h0 : (x.tgt == s1) = true := by simpa using HQ.out.1
  have h1 : (x.cls == s2) = false := by simpa using HQ.out.2
  go_wp2_with fail
  exact HEND.out _ _ _ _ _ _ _ _ _ _ _ _ _ _ _ _ _ _ _ _ _ _ _ _ _ _ trivial
set_option maxRecDepth 100000 in
set_option maxHeartbeats 4000000 in
theorem rsources6_2 (w : World) (b off m n c : Nat) (x : AEntry) (s1 s2 s3 : Int) (x0 x4 x5 x6 x7 x8 x9 x12 x13 x14 x15 x16 x17 x18 x19 x20 x21 x22 x23 x24 x25 x26 x27 x28 x29 x30 x31 x32 x33 x34 x35 x36 x37 x38 x39 x40 x41 x42 x43 x44 x45 x46 x47 x48 x49 x50 x51 x52 x53 x54 x55 : Value) (hm : m < n) (HE : Hid (∀ j u, x.cells[j]? = some u → w.cell? ⟨b, off + m * 7 + j, none⟩ = some u)) (HQ : Hid (x.tgt = s1 ∧ x.cls = s2 ∧ ¬ bits .and .u32 x.allow s3 = s3))
    {Q' : Exit → Act → World → Prop} (hend : ∀ (v20 v21 v22 v23 v24 v25 v26 v27 v28 v29 v30 v31 v32 v33 v34 v35 v36 v37 v38 v39 v40 v41 v42 v43 v44 v45 : Value) , True → Q' .normal ⟨#[x0, .int .i64 s1, .int .i64 s2, .int .u32 s3, x4, x5, x6, x7, x8, x9, .slice (some ⟨b, off, none⟩) n c, .int .i64 (m : Nat), x12, x13, x14, x15, x16, x17, x18, x19, v20, v21, v22, v23, v24, v25, v26, v27, v28, v29, v30, v31, v32, v33, v34, v35, v36, v37, v38, v39, v40, v41, v42, v43, v44, v45, .bool false, x47, x48, x49, x50, x51, x52, x53, x54, x55], []⟩ w) :
    Code.wp Try.prog (findRegion7 6 ((Try.f33.body).getD .skip)) Q' ⟨#[x0, .int .i64 s1, .int .i64 s2, .int .u32 s3, x4, x5, x6, x7, x8, x9, .slice (some ⟨b, off, none⟩) n c, .int .i64 (m : Nat), x12, x13, x14, x15, x16, x17, x18, x19, x20, x21, x22, x23, x24, x25, x26, x27, x28, x29, x30, x31, x32, x33, x34, x35, x36, x37, x38, x39, x40, x41, x42, x43, x44, x45, x46, x47, x48, x49, x50, x51, x52, x53, x54, x55], []⟩ w := by
  have HEND := Lib.hid hend
  clear hend
  conv => arg 2; whnf
  conv => arg 4; dsimp only
  have kx1 : w.cell? ⟨b, off + m * 7 + 1, none⟩ = some (.int .i64 x.tgt) := HE.out 1 _ rfl
  have kx2 : w.cell? ⟨b, off + m * 7 + 2, none⟩ = some (.int .i64 x.cls) := HE.out 2 _ rfl
  have kx4 : w.cell? ⟨b, off + m * 7 + 4, none⟩ = some (.int .u32 x.allow) := HE.out 4 _ rfl
  have h0 : (x.tgt == s1) = true := by simpa using HQ.out.1
  have h1 : (x.cls == s2) = true := by simpa using HQ.out.2.1
  have h2 : (bits .and .u32 x.allow s3 == s3) = false := by simpa using HQ.out.2.2
  go_wp2_with fail
  exact HEND.out _ _ _ _ _ _ _ _ _ _ _ _ _ _ _ _ _ _ _ _ _ _ _ _ _ _ trivial
set_option maxRecDepth 100000 in
set_option maxHeartbeats 4000000 in
theorem rsources6_3 (w : World) (b off m n c : Nat) (x : AEntry) (s1 s2 s3 : Int) (x0 x4 x5 x6 x7 x8 x9 x12 x13 x14 x15 x16 x17 x18 x19 x20 x21 x22 x23 x24 x25 x26 x27 x28 x29 x30 x31 x32 x33 x34 x35 x36 x37 x38 x39 x40 x41 x42 x43 x44 x45 x46 x47 x48 x49 x50 x51 x52 x53 x54 x55 : Value) (hm : m < n) (HE : Hid (∀ j u, x.cells[j]? = some u → w.cell? ⟨b, off + m * 7 + j, none⟩ = some u)) (HQ : Hid (x.tgt = s1 ∧ x.cls = s2 ∧ bits .and .u32 x.allow s3 = s3))
    {Q' : Exit → Act → World → Prop} (hend : ∀ (v20 v21 v22 v23 v24 v25 v26 v27 v28 v29 v30 v31 v32 v33 v34 v35 v36 v37 v38 v39 v40 v41 v42 v43 v44 v45 : Value) , True → Q' .normal ⟨#[x0, .int .i64 s1, .int .i64 s2, .int .u32 s3, x4, x5, x6, x7, x8, x9, .slice (some ⟨b, off, none⟩) n c, .int .i64 (m : Nat), x12, x13, x14, x15, x16, x17, x18, x19, v20, v21, v22, v23, v24, v25, v26, v27, v28, v29, v30, v31, v32, v33, v34, v35, v36, v37, v38, v39, v40, v41, v42, v43, v44, v45, .bool true, x47, x48, x49, x50, x51, x52, x53, x54, x55], []⟩ w) :
    Code.wp Try.prog (findRegion7 6 ((Try.f33.body).getD .skip)) Q' ⟨#[x0, .int .i64 s1, .int .i64 s2, .int .u32 s3, x4, x5, x6, x7, x8, x9, .slice (some ⟨b, off, none⟩) n c, .int .i64 (m : Nat), x12, x13, x14, x15, x16, x17, x18, x19, x20, x21, x22, x23, x24, x25, x26, x27, x28, x29, x30, x31, x32, x33, x34, x35, x36, x37, x38, x39, x40, x41, x42, x43, x44, x45, x46, x47, x48, x49, x50, x51, x52, x53, x54, x55], []⟩ w := by
  have HEND := Lib.hid hend
  clear hend
  conv => arg 2; whnf
  conv => arg 4; dsimp only
  have kx1 : w.cell? ⟨b, off + m * 7 + 1, none⟩ = some (.int .i64 x.tgt) := HE.out 1 _ rfl
  have kx2 : w.cell? ⟨b, off + m * 7 + 2, none⟩ = some (.int .i64 x.cls) := HE.out 2 _ rfl
  have kx4 : w.cell? ⟨b, off + m * 7 + 4, none⟩ = some (.int .u32 x.allow) := HE.out 4 _ rfl
  have h0 : (x.tgt == s1) = true := by simpa using HQ.out.1
  have h1 : (x.cls == s2) = true := by simpa using HQ.out.2.1
  have h2 : (bits .and .u32 x.allow s3 == s3) = true := by simpa using HQ.out.2.2
  go_wp2_with fail
  exact HEND.out _ _ _ _ _ _ _ _ _ _ _ _ _ _ _ _ _ _ _ _ _ _ _ _ _ _ trivial
theorem rsources6_any (w : World) (b off m n c : Nat) (x : AEntry) (s1 s2 s3 : Int) (r : Bool) (x0 x4 x5 x6 x7 x8 x9 x12 x13 x14 x15 x16 x17 x18 x19 x20 x21 x22 x23 x24 x25 x26 x27 x28 x29 x30 x31 x32 x33 x34 x35 x36 x37 x38 x39 x40 x41 x42 x43 x44 x45 x46 x47 x48 x49 x50 x51 x52 x53 x54 x55 : Value) (hm : m < n) (HE : Hid (∀ j u, x.cells[j]? = some u → w.cell? ⟨b, off + m * 7 + j, none⟩ = some u)) (hr : r = decide (x.tgt = s1 ∧ x.cls = s2 ∧ bits .and .u32 x.allow s3 = s3))
    {Q' : Exit → Act → World → Prop} (hend : ∀ (v20 v21 v22 v23 v24 v25 v26 v27 v28 v29 v30 v31 v32 v33 v34 v35 v36 v37 v38 v39 v40 v41 v42 v43 v44 v45 : Value), True → Q' .normal ⟨#[x0, .int .i64 s1, .int .i64 s2, .int .u32 s3, x4, x5, x6, x7, x8, x9, .slice (some ⟨b, off, none⟩) n c, .int .i64 (m : Nat), x12, x13, x14, x15, x16, x17, x18, x19, v20, v21, v22, v23, v24, v25, v26, v27, v28, v29, v30, v31, v32, v33, v34, v35, v36, v37, v38, v39, v40, v41, v42, v43, v44, v45, .bool r, x47, x48, x49, x50, x51, x52, x53, x54, x55], []⟩ w) :
    Code.wp Try.prog (findRegion7 6 ((Try.f33.body).getD .skip)) Q' ⟨#[x0, .int .i64 s1, .int .i64 s2, .int .u32 s3, x4, x5, x6, x7, x8, x9, .slice (some ⟨b, off, none⟩) n c, .int .i64 (m : Nat), x12, x13, x14, x15, x16, x17, x18, x19, x20, x21, x22, x23, x24, x25, x26, x27, x28, x29, x30, x31, x32, x33, x34, x35, x36, x37, x38, x39, x40, x41, x42, x43, x44, x45, x46, x47, x48, x49, x50, x51, x52, x53, x54, x55], []⟩ w := by
  by_cases h0 : x.tgt = s1
  · by_cases h1 : x.cls = s2
    · by_cases h2 : bits .and .u32 x.allow s3 = s3
      · rw [decide_eq_true ⟨h0, h1, h2⟩] at hr
        subst hr
        exact rsources6_3 w b off m n c x s1 s2 s3 x0 x4 x5 x6 x7 x8 x9 x12 x13 x14 x15 x16 x17 x18 x19 x20 x21 x22 x23 x24 x25 x26 x27 x28 x29 x30 x31 x32 x33 x34 x35 x36 x37 x38 x39 x40 x41 x42 x43 x44 x45 x46 x47 x48 x49 x50 x51 x52 x53 x54 x55 hm HE (Lib.hid ⟨h0, h1, h2⟩) hend
      · rw [decide_eq_false fun e => h2 e.2.2] at hr
        subst hr
        exact rsources6_2 w b off m n c x s1 s2 s3 x0 x4 x5 x6 x7 x8 x9 x12 x13 x14 x15 x16 x17 x18 x19 x20 x21 x22 x23 x24 x25 x26 x27 x28 x29 x30 x31 x32 x33 x34 x35 x36 x37 x38 x39 x40 x41 x42 x43 x44 x45 x46 x47 x48 x49 x50 x51 x52 x53 x54 x55 hm HE (Lib.hid ⟨h0, h1, h2⟩) hend
    · rw [decide_eq_false fun e => h1 e.2.1] at hr
      subst hr
      exact rsources6_1 w b off m n c x s1 s2 s3 x0 x4 x5 x6 x7 x8 x9 x12 x13 x14 x15 x16 x17 x18 x19 x20 x21 x22 x23 x24 x25 x26 x27 x28 x29 x30 x31 x32 x33 x34 x35 x36 x37 x38 x39 x40 x41 x42 x43 x44 x45 x46 x47 x48 x49 x50 x51 x52 x53 x54 x55 hm HE (Lib.hid ⟨h0, h1⟩) hend
  · rw [decide_eq_false fun e => h0 e.1] at hr
    subst hr
    exact rsources6_0 w b off m n c x s1 s2 s3 x0 x4 x5 x6 x7 x8 x9 x12 x13 x14 x15 x16 x17 x18 x19 x20 x21 x22 x23 x24 x25 x26 x27 x28 x29 x30 x31 x32 x33 x34 x35 x36 x37 x38 x39 x40 x41 x42 x43 x44 x45 x46 x47 x48 x49 x50 x51 x52 x53 x54 x55 hm HE (Lib.hid h0) hend
theorem sourcesR_eq (S : List AEntry) (s c pm : Int) : sourcesL S s c pm = (S.filter fun x => decide (x.tgt = s ∧ x.cls = c ∧ bits .and .u32 x.allow pm = pm)).map AEntry.src := by
  unfold sourcesL
  congr 2
  funext e
  rw [Bool.eq_iff_iff]
  simp [and_assoc]
theorem sourcesR_snoc (S : List AEntry) (y : AEntry) (s c pm : Int) : sourcesL (S ++ [y]) s c pm = if decide (y.tgt = s ∧ y.cls = c ∧ bits .and .u32 y.allow pm = pm) = true then sourcesL S s c pm ++ [y.src] else sourcesL S s c pm := by
  rw [sourcesR_eq, sourcesR_eq, List.filter_append, List.map_append, filter_one]
  by_cases h : decide (y.tgt = s ∧ y.cls = c ∧ bits .and .u32 y.allow pm = pm) = true
  · rw [if_pos h, if_pos h]
    rfl
  · rw [if_neg h, if_neg h]
    simp
set_option maxRecDepth 100000 in
set_option maxHeartbeats 4000000 in
theorem rsources_any (w : World) (ev vv : Value) (L : List AEntry) (vals : List Bool) (s1 s2 s3 : Int) (HE : SliceAt w ev 7 L.length (L.flatMap AEntry.cells)) (HV : SliceAt w vv 1 vals.length (vals.map aBool)) (hlen : L.length ≤ 100000) (hvl : vals.length ≤ 1000000) (hok : ∀ x ∈ L, x.Ok) :
    Calls Try.prog 33 #[.agg #[ev, vv], .int .i64 s1, .int .i64 s2, .int .u32 s3] w fun e w' => ∃ v, e = .returned v ∧ w'.ownsRow w.heap.size 3 1 v (sourcesL (seenL L vals) s1 s2 s3).length ((sourcesL (seenL L vals) s1 s2 s3).map anInt) ∧ RowKit.Below w.heap.size w w' := by
  obtain ⟨i0, z0, hi0, hz0, hz1, hz2, hzs⟩ := infoOf info3
  obtain ⟨wo, hwo⟩ : ∃ wo, wo = (w.alloc (.cells #[ev, vv] 30)) := ⟨_, rfl⟩
  have HBO := Lib.hid (show RowKit.Below w.heap.size w wo by rw [hwo]; exact (Below.refl _ w).alloc (Nat.le_refl _) _)
  have HST := Lib.hid (show Whole wo w.heap.size 30 #[ev, vv] by rw [hwo]; exact Whole.new w 30 _)
  have HVS := Lib.hid (rvisL_any wo ev vv L vals (HE.keep HBO.out) (HV.keep HBO.out) hlen hvl hok)
  have e0 : wo.cell? ⟨w.heap.size, 0, none⟩ = some ev := HST.out.cell 0
  have e1 : wo.cell? ⟨w.heap.size, 1, none⟩ = some vv := HST.out.cell 1
  have HLEN := Lib.hid hlen
  obtain ⟨S, hS⟩ : ∃ S, S = seenL L vals := ⟨_, rfl⟩
  rw [← hS] at HVS ⊢
  clear HE HV hlen hvl hok
  go_enter Try.func33, Try.ntmps33
  go_upto_region 1 with fail
  rw [← hwo]
  clear hwo
  go_wp2_with (go_at_call 30; go_must (refine HVS.out.mono ?_; rintro e w1 ⟨v1, rfl, ho, hb⟩; have HO1 := Lib.hid ho; have HB1 := Lib.hid hb; clear ho hb))
  clear e0 e1
  obtain ⟨n, hn⟩ : ∃ n, n = S.length := ⟨_, rfl⟩
  rw [← hn] at HO1
  have HN := Lib.hid hn
  have HNL := Lib.hid (show n ≤ 100000 by rw [hn, hS]; have h1 := joinL_length (seenOf L vals); have h2 := seenOf_length L vals; have := HLEN.out; unfold seenL; omega)
  have hnl := HNL.out
  obtain ⟨oa, oc, rfl⟩ := own_shape HO1.out
  clear hn hS
  have HSL := Lib.hid (SliceAt.of_own HO1.out (ecells_one _))
  go_wp2_with fail
  go_loopw [11, 9] (fun ix u wr => ∃ m : Nat, m ≤ n ∧ ix = .int .i64 m ∧ wr.ownsRow w1.heap.size 3 1 u (sourcesL (S.take m) s1 s2 s3).length ((sourcesL (S.take m) s1 s2 s3).map anInt) ∧ RowKit.Below w1.heap.size w1 wr) (fun ix _ _ => n - (intOf ix).toNat)
  case atStart => exact ⟨0, Nat.zero_le _, rfl, by simpa [sourcesL] using World.ownsRow_nil _ _ _ _, Below.refl _ _⟩
  case round =>
    obtain ⟨m, hm, rfl, hOr, hBr⟩ := hrel
    obtain ⟨p, hp⟩ : ∃ p, p = (sourcesL (S.take m) s1 s2 s3).length := ⟨_, rfl⟩
    rw [← hp] at hOr
    obtain ⟨ua, uc, rfl⟩ := own_shape hOr
    have HOr := Lib.hid hOr
    have HBr := Lib.hid hBr
    have HPP := Lib.hid hp
    have HPL := Lib.hid (show p ≤ 100000 by rw [hp]; have := sourcesL_len (S.take m) s1 s2 s3; have h3 : (S.take m).length ≤ S.length := by {rw [List.length_take]; omega}; have := HN.out; omega)
    clear hOr hBr hp
    by_cases hlt : m < n
    · obtain ⟨x, hx⟩ : ∃ x, S[m]? = some x := ⟨_, List.getElem?_eq_getElem (by rw [← HN.out]; exact hlt)⟩
      obtain ⟨a0, c0, hv0, -, -, hcell⟩ := HSL.out.form (by decide)
      cases hv0
      obtain ⟨b, off, hab, hcl⟩ := hcell m hlt
      subst hab
      have HEx := Lib.hid (show ∀ j u, x.cells[j]? = some u → wr.cell? ⟨b, off + m * 7 + j, none⟩ = some u from fun j u hu => cell_later HBr.out (hcl j u (by rw [flat_at entry_len hx j (by exact (List.getElem?_eq_some_iff.1 hu).1)]; exact hu)))
      have HNX := Lib.hid (show sourcesL (S.take (m + 1)) s1 s2 s3 = _ from (congrArg (fun q => sourcesL q s1 s2 s3) (take_snoc hx)).trans (sourcesR_snoc (S.take m) x s1 s2 s3))
      obtain ⟨r, hr⟩ : ∃ r, r = decide (x.tgt = s1 ∧ x.cls = s2 ∧ bits .and .u32 x.allow s3 = s3) := ⟨_, rfl⟩
      have HR := Lib.hid hr
      clear hcell hcl hx
      go_upto_region 6 with fail
      refine rsources6_any wr b off m n oc x s1 s2 s3 r _ _ _ _ _ _ _ _ _ _ _ _ _ _ _ _ _ _ _ _ _ _ _ _ _ _ _ _ _ _ _ _ _ _ _ _ _ _ _ _ _ _ _ _ _ _ _ _ _ _ _ hlt HEx hr ?_
      intro v20 v21 v22 v23 v24 v25 v26 v27 v28 v29 v30 v31 v32 v33 v34 v35 v36 v37 v38 v39 v40 v41 v42 v43 v44 v45 _
      clear hr
      rw [← HR.out] at HNX
      cases r with
      | true =>
        have kq : wr.cell? ⟨b, off + m * 7, none⟩ = some (.int .i64 x.src) := HEx.out 0 _ rfl
        go_wp2_with (at_builtin; go_must (refine wpList_append_own _ rfl _ _ 53 rfl w1.heap.size 3 i0 z0 1 8 Try.underlying53 hi0 hz0 hz1 hz2 hzs (by decide) _ _ _ rfl (own_alloc HOr.out _) ⟨wr.heap.size, 0, none⟩ 1 1 [.int .i64 x.src] rfl rfl (row_new _ _ _) ?c2 ?c3 ?c4 ?c5 ?_))
        case c2 => simp [Value.oneCell']
        case c3 => have := HPL.out; unfold maxLen; omega
        case c4 => have := HPL.out; omega
        case c5 => have := HBr.out.size; simp; omega
        intro u9 w9 ho9 hg9 hn9
        have HB9 := Lib.hid ((HBr.out.alloc HBr.out.size _).grown hg9 (by have := HBr.out.size; simp; omega) (fun q hq => (HOr.out.lt q hq).1))
        have HO9 := Lib.hid ho9
        clear hg9 hn9 ho9 kq
        go_wp2_with fail
        go_roundw
        case rel => exact ⟨m + 1, by omega, by go_num, by rw [HNX.out, if_pos True.intro, List.length_append, List.map_append, ← HPP.out]; exact HO9.out, HB9.out⟩
        case measure => simp [intOf]; omega
      | false =>
        go_wp2_with fail
        go_roundw
        case rel => exact ⟨m + 1, by omega, by go_num, by rw [HNX.out, if_neg (by simp), ← HPP.out]; exact HOr.out, HBr.out⟩
        case measure => simp [intOf]; omega
    · obtain rfl : m = n := by omega
      have hfull : S.take m = S := List.take_of_length_le (by rw [HN.out]; exact Nat.le_refl _)
      rw [hfull] at HOr HPP
      clear hfull
      go_wp2
      go_ret
      refine ⟨_, ret_val rfl, ?_, HBO.out.trans ((HB1.out.trans (HBr.out.mono HB1.out.size)).mono HBO.out.size)⟩
      rw [← HPP.out]
      exact own_low HOr.out (Nat.le_trans HBO.out.size HB1.out.size)
end Go.Proofs.Ytlkkdpoliafjbaa

import Derived.Test.YtlkkdpoliafjbaaPD
/-
  AvtabFinds, AvtabCopies.
-/
namespace Go.Proofs.Ytlkkdpoliafjbaa
open Go Go.WideMaps Go.RowKit

/-- What is joined is joined. -/
theorem joinL_again {l : List AEntry} (hok : ∀ x ∈ l, x.Ok) : joinL (joinL l) = joinL l := by
  have h1 := joinL_canon hok
  have hok2 : ∀ x ∈ joinL l, x.Ok := fun x hx => by
    have h := (h1.mem x).1 hx
    obtain ⟨y, hy, e⟩ := joinL_key l hx
    exact ⟨by rw [e]; exact (hok y hy).1, by rw [h.1]; exact accE_val _ _⟩
  have h2 := joinL_canon hok2
  rw [canon_same h1] at h2
  exact h2.uniq h1
set_option maxRecDepth 100000 in
set_option maxHeartbeats 8000000 in
theorem finds_any (w : World) (lv vv qv : Value) (l : List AEntry) (vals : List Bool) (Q : List Quest) (hl : SliceAt w lv 7 l.length (l.flatMap AEntry.cells)) (hv : SliceAt w vv 1 vals.length (vals.map aBool)) (hq : SliceAt w qv 4 Q.length (Q.flatMap Quest.cells)) (hok : ∀ x ∈ l, x.Ok) (hqok : ∀ q ∈ Q, q.Ok) :
    Calls Try.prog 3 #[lv, vv, qv] w fun e w' => e = .returned (.bool true) ∧ RowKit.Below w.heap.size w w' := by
  have HL := Lib.hid hl
  have HV := Lib.hid hv
  have HQ := Lib.hid hq
  have HQOK := Lib.hid hqok
  obtain ⟨la, lc, rfl⟩ := hl.shape
  obtain ⟨va, vc, rfl⟩ := hv.shape
  obtain ⟨qa, qc, rfl⟩ := hq.shape
  have HLG := Lib.hid (large_any w la va qa l.length vals.length Q.length lc vc qc)
  obtain ⟨r, hr⟩ : ∃ r, r = decide (300 < l.length ∨ 100 < vals.length ∨ 20 < Q.length) := ⟨_, rfl⟩
  rw [← hr] at HLG
  have HR := Lib.hid hr
  have HNW := Lib.hid (fun h => new_any w _ l HL.out hok h)
  clear hl hv hq hok hqok hr
  cases r with
  | true =>
    go_enter Try.func3, Try.ntmps3
    go_wp2_with (first | (go_at_call 8; go_must (refine HLG.out.mono ?_; rintro e w1 ⟨rfl, rfl⟩; skip)) | (go_at_call 9; go_must (refine (alive_any w).mono ?_; rintro e w2 ⟨rfl, hb⟩; have HB2 := Lib.hid hb; clear hb)))
    go_ret
    exact ⟨ret_val rfl, HB2.out⟩
  | false =>
    have hsz : ¬ (300 < l.length ∨ 100 < vals.length ∨ 20 < Q.length) := of_decide_eq_false HR.out.symm
    have HLN := Lib.hid (show l.length ≤ 100000 by omega)
    have HVN := Lib.hid (show vals.length ≤ 1000000 by omega)
    have HQN := Lib.hid (show Q.length ≤ 1000000 by omega)
    have HNW := Lib.hid (HNW.out HLN.out)
    clear hsz
    go_enter Try.func3, Try.ntmps3
    go_upto_region 4 with (first | (go_at_call 8; go_must (refine HLG.out.mono ?_; rintro e w0 ⟨rfl, rfl⟩; skip)) | (go_at_call 10; go_must (refine HNW.out.mono ?_; rintro e w1 ⟨tb, rfl, ht, hb⟩; have HT1 := Lib.hid ht; have HB1 := Lib.hid hb; have HFR := Lib.hid (first_any w1 _ l (HL.out.keep hb) HLN.out); clear ht hb)) | (go_at_call 11; go_must (refine HFR.out.mono ?_; rintro e w2 ⟨ev, rfl, ho, hb⟩; obtain ⟨ea, ec, rfl⟩ := own_shape ho; have HO2 := Lib.hid ho; have HB2 := Lib.hid hb; clear ho hb)) | (refine wpList_store_blk rfl 30 _ _ rfl w2.heap.size 0 (.agg #[.slice ea (joinL l).length ec, .slice none 0 0]) rfl rfl 30 _ (Whole.new w2 30 _) (by simp [Value.cells]) size30 rfl ?_; intro w3 S3 W3; rw [splice_all _ _ (by rfl)] at W3; have HS3 := Lib.hid S3; have HW3 := Lib.hid (show Whole w3 w2.heap.size 30 #[.slice ea (joinL l).length ec, .slice none 0 0] from W3); clear S3 W3))
    obtain ⟨J, hJ⟩ : ∃ J, J = joinL l := ⟨_, rfl⟩
    have HJL := Lib.hid (show J.length ≤ 100000 by rw [hJ]; have := joinL_length l; have := HLN.out; omega)
    rw [← hJ] at HT1 HO2 HW3 ⊢
    clear hJ
    have HB23 := Lib.hid (show RowKit.Below w2.heap.size w2 w3 from ((Below.refl _ w2).alloc (Nat.le_refl _) _).trans (HS3.out.below (Nat.le_refl _)))
    have HT3 := Lib.hid ((HT1.out.keep HB2.out).keep HB23.out)
    have HO3 := Lib.hid (own_keep HB23.out HO2.out (Nat.le_refl _))
    have HBw3 := Lib.hid ((HB1.out.trans (HB2.out.mono HB1.out.size)).trans (HB23.out.mono (Nat.le_trans HB1.out.size HB2.out.size)))
    have HTL := Lib.hid (show w.heap.size ≤ tb from HT1.out.lo)
    have s0 : w3.cell? ⟨w2.heap.size, 0, none⟩ = some (.slice ea J.length ec) := HW3.out.cell 0
    have s1 : w3.cell? ⟨w2.heap.size, 1, none⟩ = some (.slice none 0 0) := HW3.out.cell 1
    have HSM := Lib.hid (sameT_any w3 _ tb J _ [] (.slice ea J.length ec) (.slice none 0 0) _ Q HT3.out (SliceAt.of_own HO3.out (ecells_one _)) (SliceAt.nil _ _) rfl (tab_ok HT3.out) HJL.out (by simp) (HQ.out.keep HBw3.out) HQOK.out HQN.out)
    go_upto_region 6 with (go_at_call 12; go_must (refine HSM.out.mono ?_; rintro e w4 ⟨rfl, hb⟩; have HB4 := Lib.hid hb; clear hb))
    clear s0 s1
    have HT4 := Lib.hid (HT3.out.keep HB4.out)
    have HO4 := Lib.hid (own_keep HB4.out HO3.out (Nat.le_refl _))
    have HW4 := Lib.hid (Whole.under HB4.out HW3.out HW3.out.lt)
    have HBw4 := Lib.hid (HBw3.out.trans (HB4.out.mono HBw3.out.size))
    have HAC := Lib.hid (activate_any w4 _ tb _ J _ [] vals HT4.out (HV.out.keep HBw4.out) HJL.out HVN.out)
    go_upto_region 7 with (go_at_call 13; go_must (refine HAC.out.mono ?_; rintro e w5 ⟨rfl, ht, hg⟩; have HT5 := Lib.hid ht; have HG5 := Lib.hid hg; clear ht hg))
    obtain ⟨_, _, _, htw, -⟩ := HT4.out.ex
    have HW5 := Lib.hid (HW4.out.grown HG5.out (fun e => whole_ty HW4.out htw (by decide) (Option.some.inj e)))
    have HO5 := Lib.hid (HO4.out.kept HG5.out (.inr (own_blk_far HO4.out htw (by decide))))
    have HBw5 := Lib.hid (HBw4.out.grown HG5.out HBw4.out.size (fun q hq => by cases hq; exact HTL.out))
    clear htw
    have s0 : w5.cell? ⟨w2.heap.size, 0, none⟩ = some (.slice ea J.length ec) := HW5.out.cell 0
    have s1 : w5.cell? ⟨w2.heap.size, 1, none⟩ = some (.slice none 0 0) := HW5.out.cell 1
    have HRA := Lib.hid (ractivate_any w5 (.slice ea J.length ec) (.slice none 0 0) _ J vals (SliceAt.of_own HO5.out (ecells_one _)) ⟨_, _, _, rfl⟩ (HV.out.keep HBw5.out) HVN.out)
    go_wp2_with (first
      | (have hZ := HRA; clear hZ; (go_at_call 14; go_must (refine HRA.out.mono ?_; rintro e w6 ⟨vv, rfl, hs, hb⟩; obtain ⟨xa, xc, rfl⟩ := hs.shape; have HB6 := Lib.hid hb; have HSM := Lib.hid (sameT_any w6 _ tb J _ vals (.slice ea J.length ec) _ _ Q (HT5.out.keep hb) ((SliceAt.of_own HO5.out (ecells_one _)).keep hb) hs rfl (tab_ok HT5.out) HJL.out HVN.out (HQ.out.keep (HBw5.out.trans (hb.mono HBw5.out.size))) HQOK.out HQN.out); clear hb hs HRA)))
      | (have hZ := HB6; clear hZ; (go_at_call 12; go_must (refine HSM.out.mono ?_; rintro e w7 ⟨rfl, hb⟩; have HB7 := Lib.hid (HB6.out.trans (hb.mono HB6.out.size)); clear hb HB6)))
      | (have hZ := HB7; clear hZ; (go_at_call 9; go_must (refine (alive_any w7).mono ?_; rintro e w8 ⟨rfl, hb⟩; have HB8 := Lib.hid (HB7.out.trans (hb.mono HB7.out.size)); clear hb HB7))))
    go_ret
    exact ⟨ret_val rfl, HBw5.out.trans (HB8.out.mono HBw5.out.size)⟩
set_option maxRecDepth 100000 in
set_option maxHeartbeats 8000000 in
theorem copies_any (w : World) (lv vv uv : Value) (l : List AEntry) (vals vals2 : List Bool) (hl : SliceAt w lv 7 l.length (l.flatMap AEntry.cells)) (hv : SliceAt w vv 1 vals.length (vals.map aBool)) (hu : SliceAt w uv 1 vals2.length (vals2.map aBool)) (hok : ∀ x ∈ l, x.Ok) :
    Calls Try.prog 6 #[lv, vv, uv] w fun e w' => e = .returned (.bool true) ∧ RowKit.Below w.heap.size w w' := by
  have HL := Lib.hid hl
  have HV := Lib.hid hv
  have HU := Lib.hid hu
  obtain ⟨la, lc, rfl⟩ := hl.shape
  obtain ⟨va, vc, rfl⟩ := hv.shape
  obtain ⟨ua, uc, rfl⟩ := hu.shape
  have HLG := Lib.hid (large_any w la va none l.length vals.length 0 lc vc 0)
  obtain ⟨r, hr⟩ : ∃ r, r = decide (300 < l.length ∨ 100 < vals.length ∨ 20 < 0) := ⟨_, rfl⟩
  rw [← hr] at HLG
  have HR := Lib.hid hr
  have HNW := Lib.hid (fun h => new_any w _ l HL.out hok h)
  obtain ⟨n2, hn2⟩ : ∃ n, n = vals2.length := ⟨_, rfl⟩
  have HN2 := Lib.hid hn2
  rw [← hn2] at HU ⊢
  have HOKL := Lib.hid hok
  clear hl hv hu hok hr hn2
  by_cases hbig : r = true ∨ 100 < n2
  · cases r with
    | true =>
      clear hbig
      go_enter Try.func6, Try.ntmps6
      go_wp2_with (first | (go_at_call 8; go_must (refine HLG.out.mono ?_; rintro e w1 ⟨rfl, rfl⟩; skip)) | (go_at_call 9; go_must (refine (alive_any w).mono ?_; rintro e w2 ⟨rfl, hb⟩; have HB2 := Lib.hid hb; clear hb)))
      go_ret
      exact ⟨ret_val rfl, HB2.out⟩
    | false =>
      have hb2 : 100 < n2 := hbig.resolve_left (by simp)
      clear hbig
      go_enter Try.func6, Try.ntmps6
      go_wp2_with (first | (go_at_call 8; go_must (refine HLG.out.mono ?_; rintro e w1 ⟨rfl, rfl⟩; skip)) | (go_at_call 9; go_must (refine (alive_any w).mono ?_; rintro e w2 ⟨rfl, hb⟩; have HB2 := Lib.hid hb; clear hb)))
      go_ret
      exact ⟨ret_val rfl, HB2.out⟩
  · obtain ⟨hr1, hb2⟩ : r = false ∧ ¬ 100 < n2 := ⟨Bool.eq_false_iff.2 fun e => hbig (.inl e), fun e => hbig (.inr e)⟩
    subst hr1
    clear hbig
    have hsz : ¬ (300 < l.length ∨ 100 < vals.length ∨ 20 < 0) := of_decide_eq_false HR.out.symm
    have HLN := Lib.hid (show l.length ≤ 100000 by omega)
    have HVN := Lib.hid (show vals.length ≤ 1000000 by omega)
    have HUN := Lib.hid (show vals2.length ≤ 1000000 by rw [← HN2.out]; omega)
    have HNW := Lib.hid (HNW.out HLN.out)
    have HJJ := Lib.hid (joinL_again HOKL.out)
    clear hsz
    go_enter Try.func6, Try.ntmps6
    go_upto_region 4 with (first | (go_at_call 8; go_must (refine HLG.out.mono ?_; rintro e w0 ⟨rfl, rfl⟩; skip)) | (go_at_call 10; go_must (refine HNW.out.mono ?_; rintro e w1 ⟨tb, rfl, ht, hb⟩; have HT1 := Lib.hid ht; have HB1 := Lib.hid hb; have HFR := Lib.hid (first_any w1 _ l (HL.out.keep hb) HLN.out); clear ht hb)) | (go_at_call 11; go_must (refine HFR.out.mono ?_; rintro e w2 ⟨ev, rfl, ho, hb⟩; obtain ⟨ea, ec, rfl⟩ := own_shape ho; have HO2 := Lib.hid ho; have HB2 := Lib.hid hb; clear ho hb)) | (refine wpList_store_blk rfl 30 _ _ rfl w2.heap.size 0 (.agg #[.slice ea (joinL l).length ec, .slice none 0 0]) rfl rfl 30 _ (Whole.new w2 30 _) (by simp [Value.cells]) size30 rfl ?_; intro w3 S3 W3; rw [splice_all _ _ (by rfl)] at W3; have HS3 := Lib.hid S3; have HW3 := Lib.hid (show Whole w3 w2.heap.size 30 #[.slice ea (joinL l).length ec, .slice none 0 0] from W3); clear S3 W3))
    obtain ⟨J, hJ⟩ : ∃ J, J = joinL l := ⟨_, rfl⟩
    have HJL := Lib.hid (show J.length ≤ 100000 by rw [hJ]; have := joinL_length l; have := HLN.out; omega)
    rw [← hJ] at HT1 HO2 HW3 HJJ ⊢
    clear hJ
    have HB23 := Lib.hid (show RowKit.Below w2.heap.size w2 w3 from ((Below.refl _ w2).alloc (Nat.le_refl _) _).trans (HS3.out.below (Nat.le_refl _)))
    have HT3 := Lib.hid ((HT1.out.keep HB2.out).keep HB23.out)
    have HO3 := Lib.hid (own_keep HB23.out HO2.out (Nat.le_refl _))
    have HBw3 := Lib.hid ((HB1.out.trans (HB2.out.mono HB1.out.size)).trans (HB23.out.mono (Nat.le_trans HB1.out.size HB2.out.size)))
    have HTL := Lib.hid (show w.heap.size ≤ tb from HT1.out.lo)
    have HAC := Lib.hid (activate_any w3 _ tb _ J _ [] vals HT3.out (HV.out.keep HBw3.out) HJL.out HVN.out)
    go_upto_region 7 with (go_at_call 13; go_must (refine HAC.out.mono ?_; rintro e w4 ⟨rfl, ht, hg⟩; have HT4 := Lib.hid ht; have HG4 := Lib.hid hg; clear ht hg))
    obtain ⟨_, _, _, htw, -⟩ := HT3.out.ex
    have HW4 := Lib.hid (HW3.out.grown HG4.out (fun e => whole_ty HW3.out htw (by decide) (Option.some.inj e)))
    have HO4 := Lib.hid (HO3.out.kept HG4.out (.inr (own_blk_far HO3.out htw (by decide))))
    have HBw4 := Lib.hid (HBw3.out.grown HG4.out HBw3.out.size (fun q hq => by cases hq; exact HTL.out))
    clear htw
    have HCP := Lib.hid (copy_any w4 _ tb J _ vals HT4.out HJL.out HVN.out HJJ.out)
    go_upto_region 8 with (go_at_call 21; go_must (refine HCP.out.mono ?_; rintro e w5 ⟨cb, rfl, ht, hb⟩; have HC5 := Lib.hid ht; have HB5 := Lib.hid hb; clear ht hb))
    have HT5 := Lib.hid (HT4.out.keep HB5.out)
    have HW5 := Lib.hid (Whole.under HB5.out HW4.out HW4.out.lt)
    have HO5 := Lib.hid (own_keep HB5.out HO4.out (Nat.le_refl _))
    have HBw5 := Lib.hid (HBw4.out.trans (HB5.out.mono HBw4.out.size))
    have HNE := Lib.hid (show cb ≠ tb from fun e => by have h1 := HC5.out.lo; have h2 := HT4.out.lt; omega)
    have HAC2 := Lib.hid (activate_any w5 _ tb (.slice ua n2 uc) J _ vals vals2 HT5.out (by have h := HU.out.keep HBw5.out; rw [HN2.out] at h ⊢; exact h) HJL.out HUN.out)
    go_upto_region 9 with (go_at_call 13; go_must (refine HAC2.out.mono ?_; rintro e w6 ⟨rfl, ht, hg⟩; have HT6 := Lib.hid ht; have HG6 := Lib.hid hg; clear ht hg))
    have HC6 := Lib.hid (HC5.out.other HT5.out HG6.out HNE.out)
    obtain ⟨_, _, _, htw, -⟩ := HT5.out.ex
    have HW6 := Lib.hid (HW5.out.grown HG6.out (fun e => whole_ty HW5.out htw (by decide) (Option.some.inj e)))
    have HO6 := Lib.hid (HO5.out.kept HG6.out (.inr (own_blk_far HO5.out htw (by decide))))
    have HBw6 := Lib.hid (HBw5.out.grown HG6.out HBw5.out.size (fun q hq => by cases hq; exact HTL.out))
    clear htw
    have s0 : w6.cell? ⟨w2.heap.size, 0, none⟩ = some (.slice ea J.length ec) := HW6.out.cell 0
    have s1 : w6.cell? ⟨w2.heap.size, 1, none⟩ = some (.slice none 0 0) := HW6.out.cell 1
    have HRA := Lib.hid (ractivate_any w6 (.slice ea J.length ec) (.slice none 0 0) _ J vals (SliceAt.of_own HO6.out (ecells_one _)) ⟨_, _, _, rfl⟩ (HV.out.keep HBw6.out) HVN.out)
    have HFIN := Lib.hid (fun W (hW : RowKit.Below w6.heap.size w6 W) (vz : Value) (zs : List Bool) (cq : Nat) (bq : Nat) (hzs : SliceAt W vz 1 zs.length (zs.map aBool)) (hz : zs.length ≤ 1000000) (ht : TabAt W bq cq J (seenL J zs) zs) => sameT_any W bq cq J _ zs (.slice ea J.length ec) vz (.slice none 0 0) [] ht ((SliceAt.of_own HO6.out (ecells_one _)).keep hW) hzs rfl (tab_ok ht) HJL.out hz (SliceAt.nil _ _) (by simp) (by simp))
    go_wp2_with (first
      | (have hZ := HRA; clear hZ; (go_at_call 14; go_must (refine HRA.out.mono ?_; rintro e w7 ⟨vv, rfl, hs, hb⟩; obtain ⟨xa, xc, rfl⟩ := hs.shape; have HB7 := Lib.hid hb; have HSM7 := Lib.hid (HFIN.out w7 hb _ vals cb _ hs HVN.out (HC6.out.keep hb)); clear hb hs HRA s0 s1)))
      | (have hZ := HSM7; clear hZ; (go_at_call 12; go_must (refine HSM7.out.mono ?_; rintro e w8 ⟨rfl, hb⟩; have HB8 := Lib.hid (HB7.out.trans (hb.mono HB7.out.size)); clear hb HB7 HSM7; have HW8 := Lib.hid (Whole.under HB8.out HW6.out HW6.out.lt); have s0 : w8.cell? ⟨w2.heap.size, 0, none⟩ = some (.slice ea J.length ec) := HW8.out.cell 0; have s1 : w8.cell? ⟨w2.heap.size, 1, none⟩ = some (.slice none 0 0) := HW8.out.cell 1; have HRB := Lib.hid (ractivate_any w8 (.slice ea J.length ec) (.slice none 0 0) (.slice ua n2 uc) J vals2 ((SliceAt.of_own HO6.out (ecells_one _)).keep HB8.out) ⟨_, _, _, rfl⟩ (by have h := HU.out.keep (HBw6.out.trans (HB8.out.mono HBw6.out.size)); rw [HN2.out] at h ⊢; exact h) HUN.out))))
      | (have hZ := HRB; clear hZ; (go_at_call 14; go_must (refine HRB.out.mono ?_; rintro e w9 ⟨vv9, rfl, hs, hb⟩; obtain ⟨ya, yc, rfl⟩ := hs.shape; have HB9 := Lib.hid (HB8.out.trans (hb.mono HB8.out.size)); have HSM9 := Lib.hid (HFIN.out w9 HB9.out _ vals2 tb _ hs HUN.out (HT6.out.keep HB9.out)); clear hb hs HRB HB8)))
      | (have hZ := HSM9; clear hZ; (go_at_call 12; go_must (refine HSM9.out.mono ?_; rintro e w10 ⟨rfl, hb⟩; have HB10 := Lib.hid (HB9.out.trans (hb.mono HB9.out.size)); clear hb HB9 HSM9)))
      | (have hZ := HB10; clear hZ; (go_at_call 9; go_must (refine (alive_any w10).mono ?_; rintro e w11 ⟨rfl, hb⟩; have HB11 := Lib.hid (HB10.out.trans (hb.mono HB10.out.size)); clear hb HB10))))
    go_ret
    exact ⟨ret_val rfl, HBw6.out.trans (HB11.out.mono HBw6.out.size)⟩
end Go.Proofs.Ytlkkdpoliafjbaa

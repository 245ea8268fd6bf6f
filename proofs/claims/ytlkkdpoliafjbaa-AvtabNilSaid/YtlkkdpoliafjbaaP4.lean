import Derived.Test.YtlkkdpoliafjbaaP3
import Derived.Test.YtlkkdpoliafjbaaSH
/-
  Tables: slices.Clone; what a table holds; show.
-/
namespace Go.Proofs.Ytlkkdpoliafjbaa
open Go Go.WideMaps Go.RowKit

theorem bools_one (l : List Bool) : ∀ u ∈ l.map aBool, u.oneCell' = true := fun u hu => by
  obtain ⟨b, _, rfl⟩ := List.mem_map.1 hu
  rfl
set_option maxRecDepth 100000 in
theorem clone_zero (w : World) (a : Addr) (c : Nat) : Calls Try.prog 35 #[.slice (some a) 0 c] w fun e w' => ∃ v', e = .returned v' ∧ w'.ownsRow w.heap.size 4 1 v' 0 [] ∧ RowKit.Below w.heap.size w w' := by
  have q : ∀ W, (binOp .eql 23 (.slice (some a) 0 c) (.slice none 0 0)).run Try.prog W = .ok (.bool false) W := fun W => by kernel_rfl
  go_enter Try.func35, Try.ntmps35
  go_wp2
  go_ret
  refine ⟨_, ret_val rfl, ?_, (Below.refl _ w).alloc (Nat.le_refl _) _⟩
  exact ⟨by simp, .inr ⟨w.heap.size, 0, #[], rfl, Nat.le_refl _, Whole.new w 4 #[], Nat.le_refl _, by simp [maxLen], by simp, by simp⟩⟩
theorem clone_any (w : World) (v : Value) (vals : List Bool) (h : SliceAt w v 1 vals.length (vals.map aBool)) (hbig : vals.length ≤ 1000000) :
    Calls Try.prog 35 #[v] w fun e w' => ∃ v', e = .returned v' ∧ w'.ownsRow w.heap.size 4 1 v' vals.length (vals.map aBool) ∧ RowKit.Below w.heap.size w w' := by
  obtain ⟨i0, z, hi0, hz0, hz1, hz2, hzs⟩ := infoOf info4
  obtain ⟨n, hn⟩ : ∃ n, n = vals.length := ⟨_, rfl⟩
  rcases h.2.2.2 with ⟨rfl, h0⟩ | ⟨a, c, rfl, hac, hc⟩
  · have : vals = [] := List.eq_nil_of_length_eq_zero h0
    subst this
    refine (slices_Clone_nil 0 0 w).mono ?_
    rintro e w' ⟨rfl, rfl⟩
    exact ⟨_, rfl, World.ownsRow_nil _ _ _ _, Below.refl _ _⟩
  · cases vals with
    | nil => exact clone_zero w a c
    | cons b0 bs =>
      obtain ⟨b, off, rfl⟩ := spot_none (hc 0 _ (by simp; rfl))
      refine (slices_Clone i0 z 1 1 hi0 hz0 hz1 hz2 hzs (by decide) (fun w => by kernel_rfl) b off _ c ((b0 :: bs).map aBool) w (by simp) h.2.1 (by omega) (fun j u hu => by have := hc j u hu; rwa [Addr.add_mid] at this) (bools_one _)).mono ?_
      rintro e w' ⟨v', rfl, ho, -, hb⟩
      exact ⟨v', rfl, ho, hb⟩

/-! ### Tables -/
/-- Block tb is a table that holds the entries L, of which S are seen, with the values 'vals'. -/
structure TabAt (w : World) (base tb : Nat) (L S : List AEntry) (vals : List Bool) : Prop where
  ex : ∃ sa ss vv, Whole w tb 51 #[.pointer (some ⟨sa, 0, none⟩), .pointer (some ⟨ss, 0, none⟩), vv] ∧ StoreAt w base sa L ∧ StoreAt w base ss S ∧ w.ownsRow base 4 1 vv vals.length (vals.map aBool)
  lo : base ≤ tb
theorem StoreAt.grown {w w' : World} {base sb tb : Nat} {L : List AEntry} {t : TypeId} {cs : Array Value} (h : StoreAt w base sb L) (hg : w.grownBy w' (some tb)) (hT : Whole w tb t cs) (h1 : t ≠ 73) (h2 : t ≠ 60) : StoreAt w' base sb L := by
  obtain ⟨mb, kv, hS, hM, hO, h4, h5⟩ := h.ex
  refine ⟨⟨mb, kv, hS.grown hg fun e => ?_, hM.kept (hg.block _ hM.lt fun e => ?_), hO.kept hg (.inr ?_), h4, h5⟩, h.ord, h.ok⟩
  · cases e
    exact whole_ty hS hT (fun e => h1 e.symm) rfl
  · cases e
    exact map_ne hM hT rfl
  · exact own_blk_far hO hT (fun e => h2 e.symm)
theorem TabAt.keep {w w' : World} {base tb : Nat} {L S : List AEntry} {vals : List Bool} (h : TabAt w base tb L S vals) (hb : RowKit.Below w.heap.size w w') : TabAt w' base tb L S vals := by
  obtain ⟨sa, ss, vv, h1, h2, h3, h4⟩ := h.ex
  exact ⟨⟨sa, ss, vv, Whole.under hb h1 h1.lt, h2.keep hb, h3.keep hb, own_keep hb h4 (Nat.le_refl _)⟩, h.lo⟩
theorem TabAt.lt {w : World} {base tb : Nat} {L S : List AEntry} {vals : List Bool} (h : TabAt w base tb L S vals) : tb < w.heap.size := by
  obtain ⟨sa, ss, vv, h1, -⟩ := h.ex
  exact h1.lt
theorem TabAt.low {w : World} {base base' tb : Nat} {L S : List AEntry} {vals : List Bool} (h : TabAt w base tb L S vals) (hb : base' ≤ base) : TabAt w base' tb L S vals := by
  obtain ⟨sa, ss, vv, h1, h2, h3, h4⟩ := h.ex
  exact ⟨⟨sa, ss, vv, h1, h2.low hb, h3.low hb, own_low h4 hb⟩, Nat.le_trans hb h.lo⟩
/-- Another table is not touched. -/
theorem TabAt.other {w w' : World} {base base' tb c : Nat} {L S L' S' : List AEntry} {vals vals' : List Bool} (h : TabAt w base c L S vals) (k : TabAt w base' tb L' S' vals') (hg : w.grownBy w' (some tb)) (hne : c ≠ tb) : TabAt w' base c L S vals := by
  obtain ⟨sa, ss, vv, h1, h2, h3, h4⟩ := h.ex
  obtain ⟨_, _, _, k1, -⟩ := k.ex
  exact ⟨⟨sa, ss, vv, h1.grown hg (fun e => hne (Option.some.inj e)), h2.grown hg k1 (by decide) (by decide), h3.grown hg k1 (by decide) (by decide), h4.kept hg (.inr (own_blk_far h4 k1 (by decide)))⟩, h.lo⟩
/-- An entry without its condition. -/
def bare (e : AEntry) : AEntry := ⟨e.src, e.tgt, e.cls, 0, e.allow, e.audit, e.dont⟩
def seenOf (L : List AEntry) (vals : List Bool) : List AEntry := (L.filter fun e => visB vals e.cond).map bare
def seenL (L : List AEntry) (vals : List Bool) : List AEntry := joinL (seenOf L vals)
theorem seenOf_snoc (L : List AEntry) (x : AEntry) (vals : List Bool) : seenOf (L ++ [x]) vals = if visB vals x.cond then seenOf L vals ++ [bare x] else seenOf L vals := by
  unfold seenOf
  rw [List.filter_append, List.map_append]
  by_cases h : visB vals x.cond <;> simp [h]
theorem ins_length {x : AEntry} : ∀ {l : List AEntry}, (ins x l).length ≤ l.length + 1
  | [] => by simp [ins]
  | y :: l => by
    rw [ins]
    split
    · simp
    · split
      · have := ins_length (x := x) (l := l)
        simp only [List.length_cons]
        omega
      · simp
theorem addR_length (l : List AEntry) (x : AEntry) : (addR l x).length ≤ l.length + 1 := by
  unfold addR
  split
  · omega
  · exact ins_length
theorem joinL_length (l : List AEntry) : (joinL l).length ≤ l.length := by
  have : ∀ (l I : List AEntry), (l.foldl addR I).length ≤ I.length + l.length := by
    intro l
    induction l with
    | nil => intro I; simp
    | cons x l ih =>
      intro I
      rw [List.foldl_cons]
      have h1 := ih (addR I x)
      have h2 := addR_length I x
      simp only [List.length_cons]
      omega
  have h := this l []
  unfold joinL
  simpa using h
theorem seenOf_length (L : List AEntry) (vals : List Bool) : (seenOf L vals).length ≤ L.length := by
  unfold seenOf
  rw [List.length_map]
  exact List.length_filter_le _ _
theorem flat_cell {w : World} {b off : Nat} {ks : List Key4} {i : Nat} {k : Key4} (h : ∀ j u, (flat ks)[i * 4 + j]? = some u → w.cell? ⟨b, off + i * 4 + j, none⟩ = some u) (hk : ks[i]? = some k) : ∀ j u, k.cells[j]? = some u → w.cell? ⟨b, off + i * 4 + j, none⟩ = some u := fun j u hu => h j u (by
  have hj : j < 4 := (List.getElem?_eq_some_iff.1 hu).1
  rw [show (flat ks)[i * 4 + j]? = k.cells[j]? from flat_at key_len hk j hj]
  exact hu)
set_option maxRecDepth 100000 in
set_option maxHeartbeats 4000000 in
theorem show_any (w : World) (base tb sa : Nat) (x vv : Value) (L : List AEntry) (vals : List Bool) (hT : Whole w tb 51 #[.pointer (some ⟨sa, 0, none⟩), x, vv]) (hS : StoreAt w base sa L) (hv : w.ownsRow base 4 1 vv vals.length (vals.map aBool)) (hlen : L.length ≤ 100000) (hbig : vals.length ≤ 1000000) :
    Calls Try.prog 27 #[.pointer (some ⟨tb, 0, none⟩)] w fun e w' => e = .returned (.tuple #[]) ∧ ∃ ss, Whole w' tb 51 #[.pointer (some ⟨sa, 0, none⟩), .pointer (some ⟨ss, 0, none⟩), vv] ∧ StoreAt w' w.heap.size ss (seenL L vals) ∧ w.grownBy w' (some tb) := by
  obtain ⟨mb, kv, hSa, hM, hO, -, -⟩ := hS.ex
  obtain ⟨n, hn⟩ : ∃ n, n = L.length := ⟨_, rfl⟩
  have hsl := SliceAt.of_own hO (flat_one _)
  rw [← hn] at hsl
  obtain ⟨ka, kc, rfl, hkc, hkm, hcell⟩ := hsl.form (by decide)
  have HN := Lib.hid hn
  have HCL := Lib.hid (show ∀ W, w.grownBy W (some tb) → ∀ i, i < n → ∃ b off, ka = some ⟨b, off, none⟩ ∧ ∀ j u, (flat (L.map AEntry.key))[i * 4 + j]? = some u → W.cell? ⟨b, off + i * 4 + j, none⟩ = some u from fun W hW => by
    have hs := SliceAt.of_own (hO.kept hW (.inr (own_blk_far hO hT (by decide)))) (flat_one _)
    rw [← hn] at hs
    obtain ⟨ka', kc', e, -, -, hc⟩ := hs.form (by decide)
    cases e
    exact hc)
  have HT := Lib.hid hT
  have HS := Lib.hid hS
  have HSA := Lib.hid hSa
  have HM := Lib.hid hM
  have HV := Lib.hid hv
  have HLEN := Lib.hid hlen
  have HBIG := Lib.hid hbig
  have HTS := Lib.hid (whole_ty hT hSa (by decide))
  rw [← hn] at hlen
  clear hT hS hv hbig hSa hM hO hsl hcell hn
  go_enter Try.func27, Try.ntmps27
  go_wp2_with (first | (go_at_call 25; go_must (refine (fresh_any w).mono ?_; rintro e w1 ⟨ss, rfl, hs1, hb1⟩; have HS1 := Lib.hid hs1; have HB1 := Lib.hid hb1; have HT1 := Lib.hid (Whole.under hb1 HT.out HT.out.lt); have HSA1 := Lib.hid (Whole.under hb1 HSA.out HSA.out.lt); clear hs1 hb1)) | (refine wpList_store_blk rfl 49 _ _ rfl tb 1 (.pointer (some ⟨ss, 0, none⟩)) rfl rfl 51 _ HT1.out (by simp [Value.cells]) size49 rfl ?_; intro w2 S2 W2; have HS2 := Lib.hid S2; have HT2 := Lib.hid (show Whole w2 tb 51 #[.pointer (some ⟨sa, 0, none⟩), .pointer (some ⟨ss, 0, none⟩), vv] from W2); have HSA2 := Lib.hid (S2.whole HSA1.out (fun e => HTS.out e.symm)); clear S2 W2; have t0 : w2.cell? ⟨tb, 0, none⟩ = some (.pointer (some ⟨sa, 0, none⟩)) := HT2.out.cell 0; have k1 : w2.cell? ⟨sa, 1, none⟩ = some (.slice ka n kc) := HSA2.out.cell 1))
  clear t0 k1
  have HG2 := Lib.hid (grown_trans (below_grown HB1.out (some tb)) HS2.out.grown)
  have HSS2 := Lib.hid (HS1.out.grown HS2.out.grown HT1.out (by decide) (by decide))
  clear HS1 HB1 HT1 HSA1 HS2
  go_loopw [16] (fun i wr => ∃ m : Nat, m ≤ n ∧ i = .int .i64 m ∧ Whole wr tb 51 #[.pointer (some ⟨sa, 0, none⟩), .pointer (some ⟨ss, 0, none⟩), vv] ∧ StoreAt wr w.heap.size ss (joinL (seenOf (L.take m) vals)) ∧ w.grownBy wr (some tb)) (fun i _ => n - (intOf i).toNat)
  case atStart => exact ⟨0, Nat.zero_le _, rfl, HT2.out, by simpa [seenOf, joinL] using HSS2.out, HG2.out⟩
  case round =>
    obtain ⟨m, hm, rfl, hTr, hSr, hGr⟩ := hrel
    have HTr := Lib.hid hTr
    have HSr := Lib.hid hSr
    have HGr := Lib.hid hGr
    clear hTr hSr hGr
    by_cases hlt : m < n
    · obtain ⟨y, hy⟩ : ∃ y, L[m]? = some y := ⟨_, List.getElem?_eq_getElem (by rw [← HN.out]; exact hlt)⟩
      obtain ⟨b, off, hka, hcl⟩ := HCL.out wr HGr.out m hlt
      subst hka
      have hk0 : wr.cell? ⟨b, off + m * 4, none⟩ = some (.int .i64 y.key.src) := flat_cell hcl (by rw [List.getElem?_map, hy]; rfl) 0 _ rfl
      have hk1 : wr.cell? ⟨b, off + m * 4 + 1, none⟩ = some (.int .i64 y.key.tgt) := flat_cell hcl (by rw [List.getElem?_map, hy]; rfl) 1 _ rfl
      have hk2 : wr.cell? ⟨b, off + m * 4 + 2, none⟩ = some (.int .i64 y.key.cls) := flat_cell hcl (by rw [List.getElem?_map, hy]; rfl) 2 _ rfl
      have hk3 : wr.cell? ⟨b, off + m * 4 + 3, none⟩ = some (.int .i64 y.key.cond) := flat_cell hcl (by rw [List.getElem?_map, hy]; rfl) 3 _ rfl
      have HYO := Lib.hid (HS.out.ok y (at_mem hy))
      have HY := Lib.hid hy
      obtain ⟨vb, hvb⟩ : ∃ vb, vb = visB vals y.key.cond := ⟨_, rfl⟩
      have HVB := Lib.hid hvb
      have HTK := Lib.hid (show L.take (m + 1) = L.take m ++ [y] from take_snoc hy)
      have HVV := Lib.hid (show ∀ W, RowKit.Below wr.heap.size wr W → SliceAt W vv 1 vals.length (vals.map aBool) from fun W hW => (SliceAt.of_own (HV.out.kept HGr.out (.inr (own_blk_far HV.out HT.out (by decide)))) (bools_one _)).keep hW)
      clear hvb hcl hy
      go_upto_region 4 with (refine wpList_store_blk rfl 60 _ _ rfl wr.heap.size 0 (.agg #[.int .i64 y.key.src, .int .i64 y.key.tgt, .int .i64 y.key.cls, .int .i64 y.key.cond]) rfl rfl 60 _ (Whole.new wr 60 _) (by simp [Value.cells]) size60 rfl ?_; intro w3 S3 W3; rw [splice_all _ _ (by rfl)] at W3; have HS3 := Lib.hid S3; have HW3 := Lib.hid (show Whole w3 wr.heap.size 60 #[.int .i64 y.key.src, .int .i64 y.key.tgt, .int .i64 y.key.cls, .int .i64 y.key.cond] from W3); clear S3 W3)
      clear hk0 hk1 hk2 hk3
      have HB3 := Lib.hid (show RowKit.Below wr.heap.size wr w3 from ((Below.refl _ wr).alloc (Nat.le_refl _) _).trans (HS3.out.below (Nat.le_refl _)))
      have HT3 := Lib.hid (Whole.under HB3.out HTr.out HTr.out.lt)
      have c3 : w3.cell? ⟨wr.heap.size, 3, none⟩ = some (.int .i64 y.key.cond) := HW3.out.cell 3
      have HVC := Lib.hid (visible_any w3 tb _ _ vv vals y.key.cond HT3.out (HVV.out w3 HB3.out) HYO.out.1.cond HBIG.out)
      rw [← HVB.out] at HVC
      have HG3 := Lib.hid (grown_below HGr.out (HB3.out.mono HGr.out.size))
      cases vb with
      | true =>
        go_upto_region 5 with (go_at_call 41; go_must (refine HVC.out.mono ?_; rintro e w4 ⟨rfl, rfl⟩))
        clear c3 HVC
        refine show5 w3 tb wr.heap.size sa ss mb (.slice (some ⟨b, off, none⟩) n kc) vv y.key y.vecs (fun W w' => StoreAt w' w.heap.size ss (joinL (seenOf (L.take (m + 1)) vals)) ∧ Chg w.heap.size W w') _ _ _ _ _ _ _ _ _ _ _ _ _ _ _ _ _ _ _ _ _ _ _ _ _ _ _ _ _ _ _ _ _ _ _ _ _ _ _ _ _ _ _ _ HT3 (Lib.hid (HSA.out.grown HG3.out (fun e => HTS.out (Option.some.inj e).symm))) HW3 (Lib.hid fun W hW => by
          have h := store_look (((HM.out.kept (HG3.out.block _ HM.out.lt (fun e => map_ne HM.out HT.out (Option.some.inj e))))).kept (hW.block _ (Nat.lt_of_lt_of_le HM.out.lt HG3.out.size))) HS.out.ord HYO.out.1
          rwa [lookV_at HS.out.ord HY.out rfl] at h) (Lib.hid fun W hW => by
          have hst := (HSr.out.keep HB3.out).keep hW
          have hlen' : (joinL (seenOf (L.take m) vals)).length ≤ 100000 := by
            have h1 := joinL_length (seenOf (L.take m) vals)
            have h2 := seenOf_length (L.take m) vals
            have h3 : (L.take m).length ≤ L.length := by rw [List.length_take]; omega
            have := HLEN.out
            omega
          have h := add_any W w.heap.size ss _ ⟨y.key.src, y.key.tgt, y.key.cls, 0⟩ y.vecs hst (Nat.le_trans HG3.out.size hW.size) ⟨HYO.out.1.src, HYO.out.1.tgt, HYO.out.1.cls, (⟨by decide, by decide⟩ : I64 0)⟩ HYO.out.2 hlen'
          refine h.mono ?_
          rintro e w' ⟨h1, h2, h3⟩
          refine ⟨h1, ?_, h3⟩
          rw [HTK.out, seenOf_snoc, if_pos (show visB vals y.cond = true from HVB.out.symm), joinL_snoc]
          exact h2) ?_
        intro v24 v25 v26 v27 v28 v29 v30 v31 v32 v33 v34 v35 v36 v37 v38 v39 v40 v41 v42 v43 v44 W w5 hf
        have HW5 := Lib.hid hf.1
        have HST5 := Lib.hid hf.2.1
        have HCH5 := Lib.hid hf.2.2
        clear hf
        go_wp2_with fail
        go_roundw
        case rel => exact ⟨m + 1, by omega, by go_num, HCH5.out.kept _ _ _ (Whole.under HW5.out HT3.out HT3.out.lt) (by decide) (by decide), HST5.out, grown_below (grown_below HG3.out (HW5.out.mono HG3.out.size)) HCH5.out.blw⟩
        case measure => simp [intOf]; omega
      | false =>
        go_wp2_with (go_at_call 41; go_must (refine HVC.out.mono ?_; rintro e w4 ⟨rfl, rfl⟩))
        clear c3 HVC
        go_roundw
        case rel => exact ⟨m + 1, by omega, by go_num, HT3.out, by rw [HTK.out, seenOf_snoc, if_neg (by rw [show visB vals y.cond = false from HVB.out.symm]; simp)]; exact HSr.out.keep HB3.out, HG3.out⟩
        case measure => simp [intOf]; omega
    · obtain rfl : m = n := by omega
      have hfull : L.take m = L := List.take_of_length_le (by rw [HN.out]; exact Nat.le_refl _)
      rw [hfull] at HSr
      clear hfull
      go_wp2
      go_returns
      exact ⟨rfl, ss, HTr.out, HSr.out, HGr.out⟩
end Go.Proofs.Ytlkkdpoliafjbaa

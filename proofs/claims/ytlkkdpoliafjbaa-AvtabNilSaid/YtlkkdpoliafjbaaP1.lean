import Derived.Test.YtlkkdpoliafjbaaJ
/-
  store.put.
-/
namespace Go.Proofs.Ytlkkdpoliafjbaa
open Go Go.WideMaps Go.RowKit

theorem whole_ty {w : World} {a b : Nat} {s t : TypeId} {x y : Array Value} (h : Whole w a s x) (k : Whole w b t y) (hne : s ≠ t) : a ≠ b := fun e => by
  subst e
  unfold Whole at h k
  rw [h] at k
  cases k
  exact hne rfl
theorem map_ne {w : World} {mb g : Nat} {t kt : TypeId} {cs : Array Value} {D : List (Value × Value)} (h : MapAt w Try.prog kt mb D) (k : Whole w g t cs) : mb ≠ g := fun e => by
  subst e
  obtain ⟨es, clock, hm, -⟩ := h.size
  unfold Whole at k
  rw [hm] at k
  cases k
theorem map_whole {w : World} {mb g : Nat} {t kt : TypeId} {cs : Array Value} {D : List (Value × Value)} (h : MapAt w Try.prog kt mb D) (k : Whole w g t cs) (e : mb = g) : False := map_ne h k e
theorem own_at {w : World} {base : Nat} {e : TypeId} {k n : Nat} {v : Value} {xs : List Value} (h : w.ownsRow base e k v n xs) {g : Nat} (hg : v.ownBlock = some g) : ∃ cur, w.heap[g]? = some (.cells cur e (0, 0)) := by
  rcases h.2 with ⟨rfl, _⟩ | ⟨g', cap, cur, rfl, _, hh, _⟩
  · simp [Value.ownBlock] at hg
  · have : g' = g := by simpa [Value.ownBlock] using hg
    subst this
    exact ⟨cur, hh⟩
theorem own_map {w : World} {base mb k n : Nat} {t kt : TypeId} {v : Value} {xs : List Value} {D : List (Value × Value)} (h : w.ownsRow base t k v n xs) (m : MapAt w Try.prog kt mb D) : v.ownBlock ≠ some mb := fun e => by
  obtain ⟨cur, hc⟩ := own_at h e
  obtain ⟨es, clock, hm, -⟩ := m.size
  rw [hm] at hc
  cases hc
theorem set_keys {L : List AEntry} {j : Nat} {y : AEntry} {k : Key4} {v : AVec} (hj : L[j]? = some y) (hk : y.key = k) : (L.set j (mkE k v)).map AEntry.key = L.map AEntry.key := by
  rw [List.map_set]
  refine List.ext_getElem? fun i => ?_
  rw [List.getElem?_set]
  by_cases e : j = i
  · subst e
    rw [if_pos rfl, if_pos (by simpa using (List.getElem?_eq_some_iff.1 hj).1), List.getElem?_map, hj, mkE_key, ← hk]
    rfl
  · rw [if_neg e]
theorem set_ord {L : List AEntry} {j : Nat} {y : AEntry} {k : Key4} {v : AVec} (h : L.Pairwise Bef) (hj : L[j]? = some y) (hk : y.key = k) : (L.set j (mkE k v)).Pairwise Bef := by
  have e := set_keys (v := v) hj hk
  have h1 : (L.map AEntry.key).Pairwise (fun a b => befB (mkE a AVec.zero) (mkE b AVec.zero) = true) := List.pairwise_map.2 (h.imp fun {a b} hab => by rw [befB_key (show (mkE a.key AVec.zero).key = a.key from rfl) (show (mkE b.key AVec.zero).key = b.key from rfl)]; exact hab)
  rw [← e] at h1
  exact (List.pairwise_map.1 h1).imp fun {a b} hab => by
    rw [befB_key (show (mkE a.key AVec.zero).key = a.key from rfl) (show (mkE b.key AVec.zero).key = b.key from rfl)] at hab
    exact hab
theorem set_perm {L : List AEntry} {j : Nat} {y : AEntry} {k : Key4} {v : AVec} (hj : L[j]? = some y) (hk : y.key = k) : ∃ R, (L.map epair).Perm ((kval k, vval y.vecs) :: R) ∧ ((kval k, vval v) :: R).Perm ((L.set j (mkE k v)).map epair) := by
  obtain ⟨hl, rfl⟩ := List.getElem?_eq_some_iff.1 hj
  refine ⟨(L.take j ++ L.drop (j + 1)).map epair, ?_, ?_⟩
  · have e : L = L.take j ++ L[j] :: L.drop (j + 1) := by rw [← List.drop_eq_getElem_cons hl, List.take_append_drop]
    conv => lhs; rw [e]
    rw [List.map_append, List.map_cons, List.map_append, ← hk]
    exact List.perm_middle
  · have e : L.set j (mkE k v) = L.take j ++ mkE k v :: L.drop (j + 1) := by rw [List.set_eq_take_append_cons_drop, if_pos hl]
    rw [e]
    simp only [List.map_append, List.map_cons]
    exact List.perm_middle.symm
set_option maxRecDepth 100000 in
set_option maxHeartbeats 4000000 in
theorem put_new (w : World) (base sb : Nat) (L : List AEntry) (k : Key4) (v : AVec) (h : StoreAt w base sb L) (hb : base ≤ w.heap.size) (hk : k.Ok) (hv : v.Ok) (hno : k ∉ L.map AEntry.key) (hlen : L.length ≤ 100000) :
    Calls Try.prog 40 #[.pointer (some ⟨sb, 0, none⟩), .agg #[.int .i64 k.src, .int .i64 k.tgt, .int .i64 k.cls, .int .i64 k.cond], .agg #[.int .u32 v.allow, .int .u32 v.audit, .int .u32 v.dont]] w fun e w' => e = .returned (.tuple #[]) ∧ StoreAt w' base sb (ins (mkE k v) L) ∧ Chg base w w' := by
  obtain ⟨mb, kv, hS, hM, hO, hsb, hmb⟩ := h.ex
  have HORD := Lib.hid h.ord
  have HOKL := Lib.hid h.ok
  have HKO := Lib.hid hk
  have HVO := Lib.hid hv
  have HBW := Lib.hid hb
  have HSB := Lib.hid hsb
  have HMB := Lib.hid hmb
  obtain ⟨wo, hwo⟩ : ∃ wo, wo = ((w.alloc (.cells #[.int .i64 k.src, .int .i64 k.tgt, .int .i64 k.cls, .int .i64 k.cond] 60)).alloc (.cells #[.int .u32 v.allow, .int .u32 v.audit, .int .u32 v.dont] 62)) := ⟨_, rfl⟩
  have HBO := Lib.hid (show RowKit.Below w.heap.size w wo by rw [hwo]; exact ((Below.refl _ w).alloc (Nat.le_refl _) _).alloc (by simp) _)
  have HK0 := Lib.hid (show Whole wo w.heap.size 60 #[.int .i64 k.src, .int .i64 k.tgt, .int .i64 k.cls, .int .i64 k.cond] by rw [hwo]; exact (Whole.new w 60 _).alloc _)
  have HV0 := Lib.hid (show Whole wo (w.heap.size + 1) 62 #[.int .u32 v.allow, .int .u32 v.audit, .int .u32 v.dont] by rw [hwo]; exact whole_two w _ #[.int .u32 v.allow, .int .u32 v.audit, .int .u32 v.dont] _)
  have HS0 := Lib.hid (Whole.under HBO.out hS hS.lt)
  have HM0 := Lib.hid (hM.kept (HBO.out.block _ hM.lt))
  have HO0 := Lib.hid (own_keep HBO.out hO (Nat.le_refl _))
  have HOW := Lib.hid hO
  have HNO := Lib.hid hno
  have HLEN := Lib.hid hlen
  clear hno hlen h hk hv hb hS hM hO hsb hmb
  go_enter Try.func40, Try.ntmps40
  go_upto_region 1 with fail
  rw [← hwo]
  clear hwo
  refine put1 wo sb w.heap.size mb kv k (lookV L k) false _ _ _ _ _ _ _ _ _ _ _ _ _ _ _ _ _ _ _ _ _ _ _ _ _ _ _ _ _ _ _ _ _ _ _ _ _ _ _ _ _ _ _ _ _ HS0 HK0 (Lib.hid fun W hW => by
    have h := store_look2 (HM0.out.kept (hW.block _ HM0.out.lt)) HORD.out HKO.out
    rw [decide_eq_false HNO.out] at h
    exact h) ?_
  intro v6 v10 v11 v12 v13 v14 v15 v16 v17 v18 w1 hb1
  have HS1 := Lib.hid (Whole.under hb1 HS0.out HS0.out.lt)
  have HK1 := Lib.hid (Whole.under hb1 HK0.out HK0.out.lt)
  have HV1 := Lib.hid (Whole.under hb1 HV0.out HV0.out.lt)
  have HM1 := Lib.hid (HM0.out.kept (hb1.block _ HM0.out.lt))
  have HO1 := Lib.hid (own_keep hb1 HO0.out (Nat.le_refl _))
  have HB1 := Lib.hid (HBO.out.trans (hb1.mono HBO.out.size))
  clear hb1 HS0 HK0 HV0 HM0 HO0
  obtain ⟨p, hp⟩ : ∃ p, p = posK (L.map AEntry.key) k := ⟨_, rfl⟩
  have HP := Lib.hid hp
  clear hp
  go_upto_region 3 with fail
  refine put3 w1 sb w.heap.size mb p kv k _ _ _ _ _ _ _ _ _ _ _ _ _ _ _ _ _ _ _ _ _ _ _ _ _ _ _ _ _ _ _ _ _ _ _ _ _ _ _ _ _ _ _ _ _ HS1 HK1 (Lib.hid fun W hW => by
    have h := search_any W kv (L.map AEntry.key) k (by
      have h := (SliceAt.of_own HO1.out (flat_one _)).keep hW
      rw [List.length_map]
      exact h) (by rw [List.length_map]; have := HLEN.out; omega) (keys_down HORD.out k)
    refine h.mono ?_
    rintro e w' ⟨q, f, rfl, hq, h1, h2, h3, h4⟩
    have hqp : q = p := by
      rw [HP.out]
      exact place_one hq (posK_le _ _) h1 h2 (posK_lo _ _) (posK_hi _ _ (keys_down HORD.out k))
    subst hqp
    rw [h3 HNO.out]
    exact ⟨rfl, h4⟩) ?_
  intro v9 v21 v22 v23 v24 v25 v26 v27 v28 v29 w2 hb2
  have HS2 := Lib.hid (Whole.under hb2 HS1.out HS1.out.lt)
  have HK2 := Lib.hid (Whole.under hb2 HK1.out HK1.out.lt)
  have HV2 := Lib.hid (Whole.under hb2 HV1.out HV1.out.lt)
  have HM2 := Lib.hid (HM1.out.kept (hb2.block _ HM1.out.lt))
  have HO2 := Lib.hid (own_keep hb2 HO1.out (Nat.le_refl _))
  have HB2 := Lib.hid (HB1.out.trans (hb2.mono HB1.out.size))
  have HOWB := Lib.hid (show ∀ q, kv.ownBlock = some q → q < w.heap.size from fun q hq => (HOW.out.lt q hq).2)
  clear hb2 HS1 HK1 HV1 HM1 HO1 HB1
  go_upto_region 4 with fail
  refine put4 w2 base sb w.heap.size mb p L.length kv k (flat ((L.map AEntry.key).take p ++ k :: (L.map AEntry.key).drop p)) _ _ _ _ _ _ _ _ _ _ _ _ _ _ _ _ _ _ _ _ _ _ _ _ _ _ _ _ _ _ _ _ _ _ _ _ _ _ _ _ _ _ _ _ HS2 HK2 (Lib.hid (own_blk_far HO2.out HS2.out (by decide))) (Lib.hid fun e => absurd (HOWB.out _ e) (Nat.lt_irrefl _)) (Lib.hid fun q hq => (HO2.out.lt q hq).2) (Lib.hid fun q hq => (HO2.out.lt q hq).1) (Lib.hid (Nat.le_trans HBW.out HB2.out.size)) HSB (Lib.hid fun W g hW hg hne => by
    have h := insertK_any W base g p kv (L.map AEntry.key) k (by rw [List.length_map]; exact own_keep hW HO2.out (Nat.le_refl _)) (by rw [HP.out]; exact posK_le _ _) (by rw [List.length_map]; exact HLEN.out) hg hne (Nat.le_trans HBW.out (Nat.le_trans HB2.out.size hW.size))
    rw [List.length_map] at h
    exact h) ?_
  intro v30 v31 v32 v33 v34 v35 v36 v37 v38 v39 v40 kv4 w4 hf4
  have HF4 := Lib.hid hf4
  have HK4 := Lib.hid ((hf4.2.2.1 _ HK2.out.lt (fun e => (whole_ty HK2.out HS2.out (by decide)) e) (fun e => absurd (HOWB.out _ e) (Nat.lt_irrefl _))).trans HK2.out)
  have HV4 := Lib.hid ((hf4.2.2.1 _ HV2.out.lt (fun e => (whole_ty HV2.out HS2.out (by decide)) e) (own_blk_far HO2.out HV2.out (by decide))).trans HV2.out)
  have HM4 := Lib.hid (HM2.out.kept (hf4.2.2.1 _ HM2.out.lt (map_ne HM2.out HS2.out) (own_map HO2.out HM2.out)))
  have HS4 := Lib.hid hf4.1
  have HO4 := Lib.hid hf4.2.1
  clear hf4
  go_upto_region 5 with fail
  refine put5 w4 sb w.heap.size (w.heap.size + 1) mb kv4 k v (fun W w' => MapAt w' Try.prog 60 mb ((kval k, vval v) :: L.map epair) ∧ W.grownBy w' (some mb) ∧ w'.heap.size = W.heap.size) _ _ _ _ _ _ _ _ _ _ _ _ _ _ _ _ _ _ _ _ _ _ _ _ _ _ _ _ _ _ _ _ _ _ _ _ _ _ _ _ _ _ _ _ HS4 HK4 HV4 (Lib.hid fun W hW => by
    obtain ⟨l, hl⟩ := key_ok HKO.out
    exact (HM4.out.kept (hW.block _ HM4.out.lt)).put_new keyed60 Try.underlying70 hl (epair_key HNO.out)) ?_
  intro v41 v42 v43 v44 v45 v46 W w5 hf5
  have HF5 := Lib.hid hf5
  clear hf5
  go_wp2

  go_returns
  have hins : ins (mkE k v) L = L.take p ++ mkE k v :: L.drop p := ins_at HORD.out HNO.out (by rw [HP.out]; have := posK_le (L.map AEntry.key) k; simpa using this)
    (fun q y hq hy => by
      rw [← cmpK_neg]
      exact posK_lo (L.map AEntry.key) k q y.key (by rw [← HP.out]; exact hq) (by rw [List.getElem?_map, hy]; rfl))
    (fun q y hq hy => by
      cases e : befB y (mkE k v) with
      | false => rfl
      | true =>
        rw [← cmpK_neg] at e
        exact absurd e (posK_hi (L.map AEntry.key) k (keys_down HORD.out k) q y.key (by rw [← HP.out]; exact hq) (by rw [List.getElem?_map, hy]; rfl)))
  have hb5 : RowKit.Below w4.heap.size w4 W := HF5.out.1
  have hSm : mb ≠ sb := map_ne HM2.out HS2.out
  have hchg : Chg base w w5 := by
    refine ⟨?_, fun g t cs hw h1 h2 => ?_⟩
    · have hm4 : base ≤ w4.heap.size := Nat.le_trans HBW.out (Nat.le_trans HB2.out.size HF4.out.2.2.2.size)
      refine (((HB2.out.mono HBW.out).trans HF4.out.2.2.2).trans (hb5.mono hm4)).grown HF5.out.2.2.1 (Nat.le_trans hm4 hb5.size) (fun q hq => by cases hq; exact HMB.out)
    · have hw2 : Whole w2 g t cs := Whole.under HB2.out hw hw.lt
      have hw4 : Whole w4 g t cs := (HF4.out.2.2.1 g hw2.lt (fun e => whole_ty hw2 HS2.out h1 e) (own_blk_far HO2.out hw2 (fun e => h2 e.symm))).trans hw2
      have hwW : Whole W g t cs := Whole.under hb5 hw4 hw4.lt
      exact hwW.grown HF5.out.2.2.1 (fun e => map_whole HM2.out hw2 (Option.some.inj e).symm)
  refine ⟨rfl, ⟨⟨mb, kv4, ?_, ?_, ?_, HSB.out, HMB.out⟩, ins_sorted HORD.out, fun y hy => ?_⟩, hchg⟩
  · exact (Whole.under hb5 HS4.out HS4.out.lt).grown HF5.out.2.2.1 (fun e => hSm (Option.some.inj e).symm)
  · rw [hins]
    refine HF5.out.2.1.perm ?_
    rw [List.map_append, List.map_cons]
    have e : L.map epair = (L.take p).map epair ++ (L.drop p).map epair := by rw [← List.map_append, List.take_append_drop]
    rw [e]
    exact List.perm_middle.symm
  · have ho : W.ownsRow base 60 4 kv4 (L.length + 1) _ := own_keep hb5 HO4.out (Nat.le_refl _)
    have hl : (ins (mkE k v) L).length = L.length + 1 := by rw [(ins_new HNO.out).length_eq]; simp
    have hkeys : (ins (mkE k v) L).map AEntry.key = (L.map AEntry.key).take p ++ k :: (L.map AEntry.key).drop p := by rw [hins]; simp [List.map_take, List.map_drop, mkE_key]
    rw [hl, hkeys]
    have hMW : MapAt W Try.prog 60 mb (L.map epair) := HM4.out.kept (hb5.block _ HM4.out.lt)
    exact ho.kept HF5.out.2.2.1 (.inr (own_map ho hMW))
  · rcases List.mem_append.1 ((ins_new HNO.out).mem_iff.1 hy) with hy | hy
    · exact HOKL.out y hy
    · rw [List.mem_singleton] at hy
      subst hy
      exact ⟨HKO.out, HVO.out⟩
set_option maxRecDepth 100000 in
set_option maxHeartbeats 4000000 in
theorem put_old (w : World) (base sb : Nat) (L : List AEntry) (k : Key4) (v : AVec) (h : StoreAt w base sb L) (hb : base ≤ w.heap.size) (hk : k.Ok) (hv : v.Ok) (j : Nat) (y : AEntry) (hj : L[j]? = some y) (hyk : y.key = k) :
    Calls Try.prog 40 #[.pointer (some ⟨sb, 0, none⟩), .agg #[.int .i64 k.src, .int .i64 k.tgt, .int .i64 k.cls, .int .i64 k.cond], .agg #[.int .u32 v.allow, .int .u32 v.audit, .int .u32 v.dont]] w fun e w' => e = .returned (.tuple #[]) ∧ StoreAt w' base sb (L.set j (mkE k v)) ∧ Chg base w w' := by
  obtain ⟨mb, kv, hS, hM, hO, hsb, hmb⟩ := h.ex
  have HORD := Lib.hid h.ord
  have HOKL := Lib.hid h.ok
  have HKO := Lib.hid hk
  have HVO := Lib.hid hv
  have HBW := Lib.hid hb
  have HSB := Lib.hid hsb
  have HMB := Lib.hid hmb
  obtain ⟨wo, hwo⟩ : ∃ wo, wo = ((w.alloc (.cells #[.int .i64 k.src, .int .i64 k.tgt, .int .i64 k.cls, .int .i64 k.cond] 60)).alloc (.cells #[.int .u32 v.allow, .int .u32 v.audit, .int .u32 v.dont] 62)) := ⟨_, rfl⟩
  have HBO := Lib.hid (show RowKit.Below w.heap.size w wo by rw [hwo]; exact ((Below.refl _ w).alloc (Nat.le_refl _) _).alloc (by simp) _)
  have HK0 := Lib.hid (show Whole wo w.heap.size 60 #[.int .i64 k.src, .int .i64 k.tgt, .int .i64 k.cls, .int .i64 k.cond] by rw [hwo]; exact (Whole.new w 60 _).alloc _)
  have HV0 := Lib.hid (show Whole wo (w.heap.size + 1) 62 #[.int .u32 v.allow, .int .u32 v.audit, .int .u32 v.dont] by rw [hwo]; exact whole_two w _ #[.int .u32 v.allow, .int .u32 v.audit, .int .u32 v.dont] _)
  have HS0 := Lib.hid (Whole.under HBO.out hS hS.lt)
  have HM0 := Lib.hid (hM.kept (HBO.out.block _ hM.lt))
  have HO0 := Lib.hid (own_keep HBO.out hO (Nat.le_refl _))
  have HOW := Lib.hid hO
  have HJ := Lib.hid hj
  have HYK := Lib.hid hyk
  clear hj hyk h hk hv hb hS hM hO hsb hmb
  go_enter Try.func40, Try.ntmps40
  go_upto_region 1 with fail
  rw [← hwo]
  clear hwo
  refine put1 wo sb w.heap.size mb kv k (lookV L k) true _ _ _ _ _ _ _ _ _ _ _ _ _ _ _ _ _ _ _ _ _ _ _ _ _ _ _ _ _ _ _ _ _ _ _ _ _ _ _ _ _ _ _ _ _ HS0 HK0 (Lib.hid fun W hW => by
    have h := store_look2 (HM0.out.kept (hW.block _ HM0.out.lt)) HORD.out HKO.out
    rw [decide_eq_true (show k ∈ L.map AEntry.key from List.mem_map.2 ⟨y, at_mem HJ.out, HYK.out⟩)] at h
    exact h) ?_
  intro v6 v10 v11 v12 v13 v14 v15 v16 v17 v18 w1 hb1
  have HS1 := Lib.hid (Whole.under hb1 HS0.out HS0.out.lt)
  have HK1 := Lib.hid (Whole.under hb1 HK0.out HK0.out.lt)
  have HV1 := Lib.hid (Whole.under hb1 HV0.out HV0.out.lt)
  have HM1 := Lib.hid (HM0.out.kept (hb1.block _ HM0.out.lt))
  have HO1 := Lib.hid (own_keep hb1 HO0.out (Nat.le_refl _))
  have HB1 := Lib.hid (HBO.out.trans (hb1.mono HBO.out.size))
  clear hb1 HS0 HK0 HV0 HM0 HO0
  go_upto_region 5 with fail
  refine put5 w1 sb w.heap.size (w.heap.size + 1) mb kv k v (fun W w' => MapAt w' Try.prog 60 mb ((L.set j (mkE k v)).map epair) ∧ W.grownBy w' (some mb) ∧ w'.heap.size = W.heap.size) _ _ _ _ _ _ _ _ _ _ _ _ _ _ _ _ _ _ _ _ _ _ _ _ _ _ _ _ _ _ _ _ _ _ _ _ _ _ _ _ _ _ _ _ HS1 HK1 HV1 (Lib.hid fun W hW => by
    obtain ⟨l, hl⟩ := key_ok HKO.out
    obtain ⟨R, h1, h2⟩ := set_perm (v := v) HJ.out HYK.out
    obtain ⟨w', r1, r2, r3⟩ := (HM1.out.kept (hW.block _ HM1.out.lt)).put_old (val := vval v) keyed60 Try.underlying70 hl h1
    exact ⟨w', r1, r2.perm h2, r3⟩) ?_
  intro v41 v42 v43 v44 v45 v46 W w5 hf5
  have HF5 := Lib.hid hf5
  clear hf5
  go_wp2

  go_returns
  have hb5 : RowKit.Below w1.heap.size w1 W := HF5.out.1
  have hSm : mb ≠ sb := map_ne HM1.out HS1.out
  have hbW : RowKit.Below w.heap.size w W := HB1.out.trans (hb5.mono HB1.out.size)
  have hchg : Chg base w w5 := by
    refine ⟨(hbW.mono HBW.out).grown HF5.out.2.2.1 (Nat.le_trans HBW.out hbW.size) (fun q hq => by cases hq; exact HMB.out), fun g t cs hw _ _ => ?_⟩
    exact (Whole.under hbW hw hw.lt).grown HF5.out.2.2.1 (fun e => map_whole HM1.out (Whole.under HB1.out hw hw.lt) (Option.some.inj e).symm)
  refine ⟨rfl, ⟨⟨mb, kv, ?_, HF5.out.2.1, ?_, HSB.out, HMB.out⟩, set_ord HORD.out HJ.out HYK.out, fun z hz => ?_⟩, hchg⟩
  · exact (Whole.under hb5 HS1.out HS1.out.lt).grown HF5.out.2.2.1 (fun e => hSm (Option.some.inj e).symm)
  · have ho : W.ownsRow base 60 4 kv L.length _ := own_keep hb5 HO1.out (Nat.le_refl _)
    have hMW : MapAt W Try.prog 60 mb (L.map epair) := HM1.out.kept (hb5.block _ HM1.out.lt)
    rw [List.length_set, set_keys HJ.out HYK.out]
    exact ho.kept HF5.out.2.2.1 (.inr (own_map ho hMW))
  · rcases List.mem_or_eq_of_mem_set hz with hz | rfl
    · exact HOKL.out z hz
    · exact ⟨HKO.out, HVO.out⟩
end Go.Proofs.Ytlkkdpoliafjbaa

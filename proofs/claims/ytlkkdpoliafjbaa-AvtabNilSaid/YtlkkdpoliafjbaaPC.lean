import Derived.Test.YtlkkdpoliafjbaaPB
/-
  The reference: Activate, First, Len; plain laws of what is seen; same.
-/
namespace Go.Proofs.Ytlkkdpoliafjbaa
open Go Go.WideMaps Go.RowKit

set_option maxRecDepth 100000 in
theorem rlen_any (w : World) (ev vv : Value) (L : List AEntry) (HE : SliceAt w ev 7 L.length (L.flatMap AEntry.cells)) :
    Calls Try.prog 29 #[.agg #[ev, vv]] w fun e w' => e = .returned (.int .i64 L.length) ∧ RowKit.Below w.heap.size w w' := by
  obtain ⟨wo, hwo⟩ : ∃ wo, wo = (w.alloc (.cells #[ev, vv] 30)) := ⟨_, rfl⟩
  have HBO := Lib.hid (show RowKit.Below w.heap.size w wo by rw [hwo]; exact (Below.refl _ w).alloc (Nat.le_refl _) _)
  have HST := Lib.hid (show Whole wo w.heap.size 30 #[ev, vv] by rw [hwo]; exact Whole.new w 30 _)
  obtain ⟨a, c, rfl⟩ := HE.shape
  have e0 : wo.cell? ⟨w.heap.size, 0, none⟩ = some (.slice a L.length c) := HST.out.cell 0
  obtain ⟨n, hn⟩ : ∃ n, n = L.length := ⟨_, rfl⟩
  rw [← hn] at hwo e0 HST ⊢
  clear HE hn
  go_enter Try.func29, Try.ntmps29
  go_upto_region 1 with fail
  rw [← hwo]
  clear hwo
  go_wp2
  go_ret
  exact ⟨ret_val rfl, HBO.out⟩
set_option maxRecDepth 100000 in
theorem first_any (w : World) (v : Value) (l : List AEntry) (h : SliceAt w v 7 l.length (l.flatMap AEntry.cells)) (hlen : l.length ≤ 100000) :
    Calls Try.prog 11 #[v] w fun e w' => ∃ ev, e = .returned (.agg #[ev, .slice none 0 0]) ∧ w'.ownsRow w.heap.size 37 7 ev (joinL l).length ((joinL l).flatMap AEntry.cells) ∧ RowKit.Below w.heap.size w w' := by
  obtain ⟨wo, hwo⟩ : ∃ wo, wo = (w.alloc (.cells #[.slice none 0 0, .slice none 0 0] 30)) := ⟨_, rfl⟩
  have HBO := Lib.hid (show RowKit.Below w.heap.size w wo by rw [hwo]; exact (Below.refl _ w).alloc (Nat.le_refl _) _)
  have HST := Lib.hid (show Whole wo w.heap.size 30 #[.slice none 0 0, .slice none 0 0] by rw [hwo]; exact Whole.new w 30 _)
  have HMG := Lib.hid (merge_any wo v l (h.keep HBO.out) hlen)
  obtain ⟨a, c, rfl⟩ := h.shape
  clear h hlen
  go_enter Try.func11, Try.ntmps11
  go_upto_region 1 with fail
  rw [← hwo]
  clear hwo
  go_wp2_with (first | (go_at_call 28; go_must (refine HMG.out.mono ?_; rintro e w1 ⟨v1, rfl, ho, hb⟩; obtain ⟨xa, xc, rfl⟩ := own_shape ho; have HO1 := Lib.hid ho; have HB1 := Lib.hid hb; have HS1 := Lib.hid (Whole.under hb HST.out HST.out.lt); clear ho hb)) | (refine wpList_store_blk rfl 30 _ _ rfl w.heap.size 0 (.agg #[.slice xa (joinL l).length xc, .slice none 0 0]) rfl rfl 30 _ HS1.out (by simp [Value.cells]) size30 rfl ?_; intro w5 S5 W5; rw [splice_all _ _ (by rfl)] at W5; have HS5 := Lib.hid S5; have HW5 := Lib.hid (show Whole w5 w.heap.size 30 #[.slice xa (joinL l).length xc, .slice none 0 0] from W5); clear S5 W5))
  refine bodyPost_ret (results_cell_row rfl _ _ w.heap.size 30 _ (0, 0) _ rfl HW5.out Try.underlying30 rfl size30) rfl ⟨_, rfl, own_low (HS5.out.own HO1.out (own_blk_far HO1.out HS1.out (by decide))) HBO.out.size, (HBO.out.trans (HB1.out.mono HBO.out.size)).trans (HS5.out.below (Nat.le_refl _))⟩
set_option maxRecDepth 100000 in
theorem ractivate_any (w : World) (ev vv v : Value) (L : List AEntry) (vals' : List Bool) (HE : SliceAt w ev 7 L.length (L.flatMap AEntry.cells)) (hvv : ∃ a n c, vv = .slice a n c) (HV : SliceAt w v 1 vals'.length (vals'.map aBool)) (hbig : vals'.length ≤ 1000000) :
    Calls Try.prog 14 #[.agg #[ev, vv], v] w fun e w' => ∃ vv', e = .returned (.agg #[ev, vv']) ∧ SliceAt w' vv' 1 vals'.length (vals'.map aBool) ∧ RowKit.Below w.heap.size w w' := by
  obtain ⟨i0, z0, hi0, hz0, hz1, hz2, hzs⟩ := infoOf info4
  obtain ⟨ea, ec, rfl⟩ := HE.shape
  obtain ⟨va, vn, vc, rfl⟩ := hvv
  obtain ⟨en, hen⟩ : ∃ en, en = L.length := ⟨_, rfl⟩
  rw [← hen]
  obtain ⟨wo, hwo⟩ : ∃ wo, wo = ((w.alloc (.cells #[.slice ea en ec, .slice va vn vc] 30)).alloc (.cells #[.slice none 0 0, .slice none 0 0] 30)) := ⟨_, rfl⟩
  have HBO := Lib.hid (show RowKit.Below w.heap.size w wo by rw [hwo]; exact ((Below.refl _ w).alloc (Nat.le_refl _) _).alloc (by simp) _)
  have HST := Lib.hid (show Whole wo w.heap.size 30 #[.slice ea en ec, .slice va vn vc] by rw [hwo]; exact (Whole.new w 30 _).alloc _)
  have HRS := Lib.hid (show Whole wo (w.heap.size + 1) 30 #[.slice none 0 0, .slice none 0 0] by rw [hwo]; exact whole_two w _ _ _)
  have HSZ := Lib.hid (show w.heap.size + 1 < wo.heap.size by rw [hwo]; simp)
  obtain ⟨n, hn⟩ : ∃ n, n = vals'.length := ⟨_, rfl⟩
  have HN := Lib.hid hn
  have HVV := Lib.hid (HV.keep HBO.out)
  rw [← hn] at hbig
  have HBIG := Lib.hid hbig
  clear HE hen
  rcases HV.2.2.2 with ⟨rfl, h0⟩ | ⟨sa, sc, rfl, hac, hcl⟩
  · obtain rfl : vals' = [] := List.eq_nil_of_length_eq_zero h0
    clear HV
    go_enter Try.func14, Try.ntmps14
    go_upto_region 1 with fail
    rw [← hwo]
    clear hwo
    have HR2 := Lib.hid (HRS.out.alloc (.cells #[] 4))
    have HT2 := Lib.hid (HST.out.alloc (.cells #[] 4))
    go_wp2_with (first | (have hZ := HT2; clear hZ; refine wpList_store_blk rfl 23 _ _ rfl w.heap.size 1 (.slice (some ⟨wo.heap.size, 0, none⟩) 0 0) rfl rfl 30 _ HT2.out (by simp [Value.cells]) size23 rfl ?_; intro w4 S4 W4; have HS4 := Lib.hid S4; have HW4 := Lib.hid (show Whole w4 w.heap.size 30 #[.slice ea en ec, .slice (some ⟨wo.heap.size, 0, none⟩) 0 0] from W4); have HR4 := Lib.hid (S4.whole HR2.out (by omega)); clear S4 W4 HT2; have c0 : w4.cell? ⟨w.heap.size, 0, none⟩ = some (.slice ea en ec) := HW4.out.cell 0; have c1 : w4.cell? ⟨w.heap.size, 1, none⟩ = some (.slice (some ⟨wo.heap.size, 0, none⟩) 0 0) := HW4.out.cell 1) | (refine wpList_store_blk rfl 30 _ _ rfl (w.heap.size + 1) 0 (.agg #[.slice ea en ec, .slice (some ⟨wo.heap.size, 0, none⟩) 0 0]) rfl rfl 30 _ HR4.out (by simp [Value.cells]) size30 rfl ?_; intro w5 S5 W5; rw [splice_all _ _ (by rfl)] at W5; have HS5 := Lib.hid S5; have HW5 := Lib.hid (show Whole w5 (w.heap.size + 1) 30 #[.slice ea en ec, .slice (some ⟨wo.heap.size, 0, none⟩) 0 0] from W5); clear S5 W5))
    refine bodyPost_ret (results_cell_row rfl _ _ (w.heap.size + 1) 30 _ (0, 0) _ rfl HW5.out Try.underlying30 rfl size30) rfl ⟨_, rfl, ⟨by simp, by simp [maxLen], by simp, .inr ⟨_, _, rfl, by simp, by simp⟩⟩, ?_⟩
    exact ((HBO.out.trans ((Below.refl _ wo).alloc HBO.out.size _)).trans (HS4.out.below (Nat.le_refl _))).trans (HS5.out.below (Nat.le_succ _))
  · by_cases h0 : n = 0
    · subst h0
      obtain rfl : vals' = [] := List.eq_nil_of_length_eq_zero hn.symm
      clear HV hn hbig hac hcl
      show Calls Try.prog 14 #[.agg #[.slice ea en ec, .slice va vn vc], .slice (some sa) 0 sc] w _
      go_enter Try.func14, Try.ntmps14
      go_upto_region 1 with fail
      rw [← hwo]
      clear hwo
      have HR2 := Lib.hid (HRS.out.alloc (.cells #[] 4))
      have HT2 := Lib.hid (HST.out.alloc (.cells #[] 4))
      go_wp2_with (first | (have hZ := HT2; clear hZ; refine wpList_store_blk rfl 23 _ _ rfl w.heap.size 1 (.slice (some ⟨wo.heap.size, 0, none⟩) 0 0) rfl rfl 30 _ HT2.out (by simp [Value.cells]) size23 rfl ?_; intro w4 S4 W4; have HS4 := Lib.hid S4; have HW4 := Lib.hid (show Whole w4 w.heap.size 30 #[.slice ea en ec, .slice (some ⟨wo.heap.size, 0, none⟩) 0 0] from W4); have HR4 := Lib.hid (S4.whole HR2.out (by omega)); clear S4 W4 HT2; have c0 : w4.cell? ⟨w.heap.size, 0, none⟩ = some (.slice ea en ec) := HW4.out.cell 0; have c1 : w4.cell? ⟨w.heap.size, 1, none⟩ = some (.slice (some ⟨wo.heap.size, 0, none⟩) 0 0) := HW4.out.cell 1) | (refine wpList_store_blk rfl 30 _ _ rfl (w.heap.size + 1) 0 (.agg #[.slice ea en ec, .slice (some ⟨wo.heap.size, 0, none⟩) 0 0]) rfl rfl 30 _ HR4.out (by simp [Value.cells]) size30 rfl ?_; intro w5 S5 W5; rw [splice_all _ _ (by rfl)] at W5; have HS5 := Lib.hid S5; have HW5 := Lib.hid (show Whole w5 (w.heap.size + 1) 30 #[.slice ea en ec, .slice (some ⟨wo.heap.size, 0, none⟩) 0 0] from W5); clear S5 W5))
      refine bodyPost_ret (results_cell_row rfl _ _ (w.heap.size + 1) 30 _ (0, 0) _ rfl HW5.out Try.underlying30 rfl size30) rfl ⟨_, rfl, ⟨by simp, by simp [maxLen], by simp, .inr ⟨_, _, rfl, by simp, by simp⟩⟩, ?_⟩
      exact ((HBO.out.trans ((Below.refl _ wo).alloc HBO.out.size _)).trans (HS4.out.below (Nat.le_refl _))).trans (HS5.out.below (Nat.le_succ _))
    · rw [← hn] at hac ⊢
      have HROW := Lib.hid (show ∀ j u, (vals'.map aBool)[j]? = some u → (wo.alloc (.cells #[] 4)).cell? (sa.add j) = some u from fun j u hu => cell_later (HBO.out.alloc HBO.out.size _) (hcl j u hu))
      clear HV hcl hn
      go_enter Try.func14, Try.ntmps14
      go_upto_region 1 with fail
      rw [← hwo]
      clear hwo
      go_wp2_with (first | (at_builtin; go_must (refine wpList_append_own _ rfl _ _ 23 rfl wo.heap.size 4 i0 z0 1 1 Try.underlying23 hi0 hz0 hz1 hz2 hzs (by decide) (.slice (some ⟨wo.heap.size, 0, none⟩) 0 0) 0 [] rfl ⟨by simp, .inr ⟨wo.heap.size, 0, #[], rfl, Nat.le_refl _, Whole.new wo 4 #[], Nat.le_refl _, by simp [maxLen], by simp, by simp⟩⟩ sa n sc (vals'.map aBool) rfl (by have := HN.out; simp [this]) HROW.out ?c2 ?c3 ?c4 ?c5 ?_)))
      case c2 => exact bools_one _
      case c3 => have := HBIG.out; unfold maxLen; omega
      case c4 => have := HBIG.out; omega
      case c5 => simp
      intro u1 w1 ho1 hg1 hn1
      try simp only [Nat.zero_add, List.nil_append] at ho1
      obtain ⟨xa, xc, rfl⟩ := own_shape ho1
      have HO1 := Lib.hid ho1
      have HB1 := Lib.hid (((Below.refl _ wo).alloc (Nat.le_refl _) _).grown hg1 (by simp) (fun q hq => by have h9 : wo.heap.size = q := (by simpa [Value.ownBlock] using hq); omega))
      have HST1 := Lib.hid (Whole.under HB1.out HST.out HST.out.lt)
      have HR1 := Lib.hid (Whole.under HB1.out HRS.out HRS.out.lt)
      clear hg1 hn1 ho1
      go_wp2_with (first | (have hZ := HST1; clear hZ; refine wpList_store_blk rfl 23 _ _ rfl w.heap.size 1 (.slice xa n xc) rfl rfl 30 _ HST1.out (by simp [Value.cells]) size23 rfl ?_; intro w4 S4 W4; have HS4 := Lib.hid S4; have HW4 := Lib.hid (show Whole w4 w.heap.size 30 #[.slice ea en ec, .slice xa n xc] from W4); have HR4 := Lib.hid (S4.whole HR1.out (by omega)); have HO4 := Lib.hid (S4.own HO1.out (own_blk_far HO1.out HST1.out (by decide))); clear S4 W4 HST1; have c0 : w4.cell? ⟨w.heap.size, 0, none⟩ = some (.slice ea en ec) := HW4.out.cell 0; have c1 : w4.cell? ⟨w.heap.size, 1, none⟩ = some (.slice xa n xc) := HW4.out.cell 1) | (refine wpList_store_blk rfl 30 _ _ rfl (w.heap.size + 1) 0 (.agg #[.slice ea en ec, .slice xa n xc]) rfl rfl 30 _ HR4.out (by simp [Value.cells]) size30 rfl ?_; intro w5 S5 W5; rw [splice_all _ _ (by rfl)] at W5; have HS5 := Lib.hid S5; have HW5 := Lib.hid (show Whole w5 (w.heap.size + 1) 30 #[.slice ea en ec, .slice xa n xc] from W5); have HO5 := Lib.hid (S5.own HO4.out (own_blk_far HO4.out HR4.out (by decide))); clear S5 W5))
      refine bodyPost_ret (results_cell_row rfl _ _ (w.heap.size + 1) 30 _ (0, 0) _ rfl HW5.out Try.underlying30 rfl size30) rfl ⟨_, rfl, SliceAt.of_own HO5.out (bools_one _), ?_⟩
      exact ((HBO.out.trans (HB1.out.mono HBO.out.size)).trans (HS4.out.below (Nat.le_refl _))).trans (HS5.out.below (Nat.le_succ _))
/-! ### What is seen -/
theorem joinL_key : ∀ (l : List AEntry) {z : AEntry}, z ∈ joinL l → ∃ x ∈ l, z.key = x.key := by
  have : ∀ (l I : List AEntry) {z : AEntry}, z ∈ l.foldl addR I → z ∈ I ∨ ∃ x ∈ l, z.key = x.key := by
    intro l
    induction l with
    | nil => intro I z h; exact .inl h
    | cons x l ih =>
      intro I z h
      rw [List.foldl_cons] at h
      rcases ih _ h with h | ⟨y, hy, e⟩
      · unfold addR at h
        split at h
        · exact .inl h
        · rcases ins_key h with e | e
          · exact .inr ⟨x, by simp, e⟩
          · exact .inl e
      · exact .inr ⟨y, by simp [hy], e⟩
  intro l z h
  rcases this l [] h with h | h
  · cases h
  · exact h
theorem seen_bare (L : List AEntry) (vals : List Bool) : ∀ x ∈ seenL L vals, x.cond = 0 := fun x hx => by
  obtain ⟨y, hy, e⟩ := joinL_key _ hx
  obtain ⟨z, -, rfl⟩ := List.mem_map.1 hy
  exact congrArg Key4.cond e
theorem tab_ord {w : World} {base tb : Nat} {L S : List AEntry} {vals : List Bool} (h : TabAt w base tb L S vals) : S.Pairwise Bef := by
  obtain ⟨_, _, _, _, _, h2, _⟩ := h.ex
  exact h2.ord
theorem tab_ok {w : World} {base tb : Nat} {L S : List AEntry} {vals : List Bool} (h : TabAt w base tb L S vals) : ∀ x ∈ L, x.Ok := by
  obtain ⟨_, _, _, _, h2, _, _⟩ := h.ex
  exact h2.ok
theorem find_same {S : List AEntry} (hb : ∀ x ∈ S, x.cond = 0) (s t c : Int) : findL S s t c = lookV S ⟨s, t, c, 0⟩ := by
  have : S.find? (fun x => decide (x.src = s ∧ x.tgt = t ∧ x.cls = c)) = S.find? (fun y => decide (y.key = ⟨s, t, c, 0⟩)) := by
    induction S with
    | nil => rfl
    | cons x S ih =>
      have e : decide (x.src = s ∧ x.tgt = t ∧ x.cls = c) = decide (x.key = ⟨s, t, c, 0⟩) := by
        rw [Bool.eq_iff_iff]
        simp [AEntry.key, hb x (by simp)]
      rw [List.find?_cons, List.find?_cons, e, ih fun y hy => hb y (by simp [hy])]
  unfold findL lookV
  rw [this]
  cases S.find? (fun y => decide (y.key = ⟨s, t, c, 0⟩)) <;> rfl
theorem targets_sorted {S : List AEntry} {s c pm : Int} (h : S.Pairwise Bef) (hb : ∀ x ∈ S, x.cond = 0) : ((targetsL S s c pm).mergeSort fun x y => decide (x ≤ y)) = targetsL S s c pm := by
  refine List.mergeSort_of_pairwise ?_
  unfold targetsL
  rw [List.pairwise_map]
  have hf : (S.filter fun e => decide (e.src = s ∧ e.cls = c) && (bits .and .u32 e.allow pm == pm)).Pairwise Bef := h.sublist List.filter_sublist
  refine hf.imp_of_mem fun {x y} hx hy hxy => ?_
  have h1 := (List.mem_filter.1 hx)
  have h2 := (List.mem_filter.1 hy)
  simp only [Bool.and_eq_true, decide_eq_true_eq] at h1 h2
  have c1 := hb x h1.1
  have c2 := hb y h2.1
  unfold Bef befB at hxy
  simp only [decide_eq_true_eq] at hxy ⊢
  obtain ⟨-, ⟨e1, e2⟩, -⟩ := h1
  obtain ⟨-, ⟨e3, e4⟩, -⟩ := h2
  omega
theorem sources_sorted {S : List AEntry} {s c pm : Int} (h : S.Pairwise Bef) (hb : ∀ x ∈ S, x.cond = 0) : ((sourcesL S s c pm).mergeSort fun x y => decide (x ≤ y)) = sourcesL S s c pm := by
  refine List.mergeSort_of_pairwise ?_
  unfold sourcesL
  rw [List.pairwise_map]
  have hf : (S.filter fun e => decide (e.tgt = s ∧ e.cls = c) && (bits .and .u32 e.allow pm == pm)).Pairwise Bef := h.sublist List.filter_sublist
  refine hf.imp_of_mem fun {x y} hx hy hxy => ?_
  have h1 := (List.mem_filter.1 hx)
  have h2 := (List.mem_filter.1 hy)
  simp only [Bool.and_eq_true, decide_eq_true_eq] at h1 h2
  have c1 := hb x h1.1
  have c2 := hb y h2.1
  unfold Bef befB at hxy
  simp only [decide_eq_true_eq] at hxy ⊢
  obtain ⟨-, ⟨e1, e2⟩, -⟩ := h1
  obtain ⟨-, ⟨e3, e4⟩, -⟩ := h2
  omega
theorem ints_one (l : List Int) : ∀ u ∈ l.map anInt, u.oneCell' = true := fun u hu => by
  obtain ⟨b, _, rfl⟩ := List.mem_map.1 hu
  rfl
structure Quest where
  s : Int
  t : Int
  c : Int
  p : Int
def Quest.cells (q : Quest) : List Value := [.int .i64 q.s, .int .i64 q.t, .int .i64 q.c, .int .u32 q.p]
theorem quest_len (q : Quest) : q.cells.length = 4 := rfl
structure Quest.Ok (q : Quest) : Prop where
  s : I64 q.s
  t : I64 q.t
  c : I64 q.c
theorem size48 : (Try.prog.info? 48).map (·.size) = some 4 := by kernel_rfl
set_option maxRecDepth 100000 in
set_option maxHeartbeats 4000000 in
theorem sm1 (w : World) (base tb sb : Nat) (Ea S : List AEntry) (vals : List Bool) (ev vv : Value) (x1 x2 x3 x5 x6 x7 x8 x9 x10 x11 x12 x13 x14 x15 x16 x17 x18 x19 x20 x21 x22 x23 x24 x25 x26 x27 x28 x29 x30 x31 x32 x33 x34 x35 x36 x37 x38 x39 x40 x41 x42 x43 x44 x45 x46 x47 x48 x49 x50 x51 x52 x53 x54 x55 x56 x57 x58 x59 x60 x61 x62 x63 x64 x65 x66 x67 x68 x69 x70 x71 x72 x73 x74 x75 x76 x77 x78 x79 x80 x81 x82 x83 x84 x85 x86 x87 x88 x89 x90 x91 x92 x93 x94 x95 x96 x97 x98 x99 x100 x101 x102 x103 x104 x105 x106 x107 x108 x109 x110 x111 x112 x113 x114 x115 x116 x117 x118 x119 x120 x121 x122 x123 x124 : Value) (HT : Hid (TabAt w base tb Ea S vals)) (HST : Hid (Whole w sb 30 #[ev, vv])) (HE : Hid (SliceAt w ev 7 Ea.length (Ea.flatMap AEntry.cells))) (HV : Hid (SliceAt w vv 1 vals.length (vals.map aBool))) (HSE : Hid (S = seenL Ea vals)) (HOK : Hid (∀ x ∈ Ea, x.Ok)) (HLEN : Hid (Ea.length ≤ 100000)) (HVL : Hid (vals.length ≤ 1000000))
    {Q' : Exit → Act → World → Prop} (hend : ∀ (v15 v16 v17 v18 v19 v20 v21 v22 v23 v24 v25 v26 v27 v28 v29 v30 v31 v32 v33 v34 v35 v36 v37 v38 : Value) (w' : World), RowKit.Below w.heap.size w w' → Q' .normal ⟨#[.pointer (some ⟨tb, 0, none⟩), x1, x2, x3, .pointer (some ⟨sb, 0, none⟩), x5, x6, x7, x8, x9, x10, x11, x12, x13, x14, v15, v16, v17, v18, v19, v20, v21, v22, v23, v24, v25, v26, v27, v28, v29, v30, v31, v32, v33, v34, v35, v36, v37, v38, .bool false, x40, x41, x42, x43, x44, x45, x46, x47, x48, x49, x50, x51, x52, x53, x54, x55, x56, x57, x58, x59, x60, x61, x62, x63, x64, x65, x66, x67, x68, x69, x70, x71, x72, x73, x74, x75, x76, x77, x78, x79, x80, x81, x82, x83, x84, x85, x86, x87, x88, x89, x90, x91, x92, x93, x94, x95, x96, x97, x98, x99, x100, x101, x102, x103, x104, x105, x106, x107, x108, x109, x110, x111, x112, x113, x114, x115, x116, x117, x118, x119, x120, x121, x122, x123, x124], []⟩ w') :
    Code.wp Try.prog (findRegion7 1 ((Try.f12.body).getD .skip)) Q' ⟨#[.pointer (some ⟨tb, 0, none⟩), x1, x2, x3, .pointer (some ⟨sb, 0, none⟩), x5, x6, x7, x8, x9, x10, x11, x12, x13, x14, x15, x16, x17, x18, x19, x20, x21, x22, x23, x24, x25, x26, x27, x28, x29, x30, x31, x32, x33, x34, x35, x36, x37, x38, x39, x40, x41, x42, x43, x44, x45, x46, x47, x48, x49, x50, x51, x52, x53, x54, x55, x56, x57, x58, x59, x60, x61, x62, x63, x64, x65, x66, x67, x68, x69, x70, x71, x72, x73, x74, x75, x76, x77, x78, x79, x80, x81, x82, x83, x84, x85, x86, x87, x88, x89, x90, x91, x92, x93, x94, x95, x96, x97, x98, x99, x100, x101, x102, x103, x104, x105, x106, x107, x108, x109, x110, x111, x112, x113, x114, x115, x116, x117, x118, x119, x120, x121, x122, x123, x124], []⟩ w := by
  have HEND := Lib.hid hend
  clear hend
  conv => arg 2; whnf
  conv => arg 4; dsimp only
  refine wp_region_goods [some 15, some 16, some 17, some 18, some 19, some 20, some 21, some 22, some 23, some 24, some 25, some 26, some 27, some 28, some 29, some 30, some 31, some 32, some 33, some 34, some 35, some 36, some 37, some 38] [isW (.pointer (some ⟨tb, 0, none⟩)), isW (.bool false), isW (.bool false), isW (.pointer (some ⟨tb, 0, none⟩)), isW (.int .i64 (Ea.length : Nat)), isW (.agg #[ev, vv]), isW (.int .i64 (Ea.length : Nat)), isW (.bool false), isW (.bool false), isW (.bool false), isW (.pointer (some ⟨tb, 0, none⟩)), (fun _ v w' => SliceAt w' v 7 Ea.length (Ea.flatMap AEntry.cells)), isW (.pointer (some ⟨sb, 0, none⟩)), isW (ev), isW (.bool true), isW (.bool false), isW (.bool false), isW (.bool false), isW (.pointer (some ⟨tb, 0, none⟩)), (fun _ v w' => SliceAt w' v 7 S.length (S.flatMap AEntry.cells)), isW (.agg #[ev, vv]), (fun _ v w' => SliceAt w' v 7 S.length (S.flatMap AEntry.cells)), isW (.bool true), isW (.bool false)] (fun _ w' => RowKit.Below w.heap.size w w') [] (by kernel_rfl) (by kernel_rfl) (by kernel_rfl) rfl (by decide) rfl rfl ((Below.refl _ _).drew) ⟨lastsW_is _, lastsW_is _, lastsW_is _, lastsW_is _, lastsW_is _, lastsW_is _, lastsW_is _, lastsW_is _, lastsW_is _, lastsW_is _, lastsW_is _, (fun _ _ _ _ _ _ h hb => h.keep hb), lastsW_is _, lastsW_is _, lastsW_is _, lastsW_is _, lastsW_is _, lastsW_is _, lastsW_is _, (fun _ _ _ _ _ _ h hb => h.keep hb), lastsW_is _, (fun _ _ _ _ _ _ h hb => h.keep hb), lastsW_is _, lastsW_is _, trivial⟩ ⟨?_, ?_, ?_, ?_, ?_, ?_, ?_, ?_, ?_, ?_, ?_, ?_, ?_, ?_, ?_, ?_, ?_, ?_, ?_, ?_, ?_, ?_, ?_, ?_, ?_⟩
  · intro L a wy Q' hL hi H F hK
    try dsimp only at hi
    have h0 : a.tmps[0]? = some (.pointer (some ⟨tb, 0, none⟩)) := F 0 rfl
    have HI := Lib.hid hi
    clear H F hi hL
    go_wp2_with fail
    exact hK _ _ (Below.refl _ _) HI.out rfl
  · intro L a wy Q' hL hi H F hK
    try dsimp only at hi
    obtain ⟨_, h15, rfl⟩ := H 0 ⟨.data, by simp, rfl⟩ _ rfl
    replace h15 := h15 _ rfl
    have HI := Lib.hid hi
    clear H F hi hL
    go_wp2_with fail
    exact hK _ _ (Below.refl _ _) HI.out rfl
  · intro L a wy Q' hL hi H F hK
    try dsimp only at hi
    obtain ⟨_, h16, rfl⟩ := H 1 ⟨.data, by simp, rfl⟩ _ rfl
    replace h16 := h16 _ rfl
    have HI := Lib.hid hi
    clear H F hi hL
    go_wp2_with fail
    exact hK _ _ (Below.refl _ _) HI.out rfl
  · intro L a wy Q' hL hi H F hK
    try dsimp only at hi
    obtain ⟨_, h17, rfl⟩ := H 2 ⟨.guard, by simp, rfl⟩ _ rfl
    replace h17 := h17 _ rfl
    have h0 : a.tmps[0]? = some (.pointer (some ⟨tb, 0, none⟩)) := F 0 rfl
    have HI := Lib.hid hi
    clear H F hi hL
    go_wp2_with fail
    exact hK _ _ (Below.refl _ _) HI.out rfl
  · intro L a wy Q' hL hi H F hK
    try dsimp only at hi
    obtain ⟨_, h18, rfl⟩ := H 3 ⟨.data, by simp, rfl⟩ _ rfl
    replace h18 := h18 _ rfl
    obtain ⟨_, h17, rfl⟩ := H 2 ⟨.guard, by simp, rfl⟩ _ rfl
    replace h17 := h17 _ rfl
    have HI := Lib.hid hi
    clear H F hi hL
    have HK9 := Lib.hid hK
    clear hK
    go_wp2_with (go_at_call 20; go_must (refine (len_any wy base tb Ea S vals (HT.out.keep HI.out)).mono ?_; rintro e w1 ⟨rfl, rfl⟩))
    exact HK9.out _ _ (Below.refl _ _) HI.out rfl
  · intro L a wy Q' hL hi H F hK
    try dsimp only at hi
    obtain ⟨_, h17, rfl⟩ := H 2 ⟨.guard, by simp, rfl⟩ _ rfl
    replace h17 := h17 _ rfl
    have h4 : a.tmps[4]? = some (.pointer (some ⟨sb, 0, none⟩)) := F 4 rfl
    have HI := Lib.hid hi
    clear H F hi hL
    have kq0 : wy.cell? ⟨sb, 0, none⟩ = some (ev) := (Whole.under HI.out HST.out (Whole.lt HST.out)).cell 0
    have kq1 : wy.cell? ⟨sb, 1, none⟩ = some (vv) := (Whole.under HI.out HST.out (Whole.lt HST.out)).cell 1
    go_wp2_with fail
    exact hK _ _ (Below.refl _ _) HI.out rfl
  · intro L a wy Q' hL hi H F hK
    try dsimp only at hi
    obtain ⟨_, h20, rfl⟩ := H 5 ⟨.data, by simp, rfl⟩ _ rfl
    replace h20 := h20 _ rfl
    obtain ⟨_, h17, rfl⟩ := H 2 ⟨.guard, by simp, rfl⟩ _ rfl
    replace h17 := h17 _ rfl
    have HI := Lib.hid hi
    clear H F hi hL
    have HK9 := Lib.hid hK
    clear hK
    go_wp2_with (go_at_call 29; go_must (refine (rlen_any wy ev vv Ea (HE.out.keep HI.out)).mono ?_; rintro e w1 ⟨rfl, hb1⟩))
    exact HK9.out _ _ hb1 (HI.out.trans (hb1.mono HI.out.size)) rfl
  · intro L a wy Q' hL hi H F hK
    try dsimp only at hi
    obtain ⟨_, h19, rfl⟩ := H 4 ⟨.data, by simp, rfl⟩ _ rfl
    replace h19 := h19 _ rfl
    obtain ⟨_, h21, rfl⟩ := H 6 ⟨.data, by simp, rfl⟩ _ rfl
    replace h21 := h21 _ rfl
    obtain ⟨_, h17, rfl⟩ := H 2 ⟨.guard, by simp, rfl⟩ _ rfl
    replace h17 := h17 _ rfl
    have HI := Lib.hid hi
    clear H F hi hL
    go_wp2_with fail
    exact hK _ _ (Below.refl _ _) HI.out rfl
  · intro L a wy Q' hL hi H F hK
    try dsimp only at hi
    obtain ⟨_, h17, rfl⟩ := H 2 ⟨.data, by simp, rfl⟩ _ rfl
    replace h17 := h17 _ rfl
    obtain ⟨_, h22, rfl⟩ := H 7 ⟨.data, by simp, rfl⟩ _ rfl
    replace h22 := h22 _ rfl
    have HI := Lib.hid hi
    clear H F hi hL
    go_wp2_with fail
    exact hK _ _ (Below.refl _ _) HI.out rfl
  · intro L a wy Q' hL hi H F hK
    try dsimp only at hi
    obtain ⟨_, h23, rfl⟩ := H 8 ⟨.data, by simp, rfl⟩ _ rfl
    replace h23 := h23 _ rfl
    have HI := Lib.hid hi
    clear H F hi hL
    go_wp2_with fail
    exact hK _ _ (Below.refl _ _) HI.out rfl
  · intro L a wy Q' hL hi H F hK
    try dsimp only at hi
    obtain ⟨_, h24, rfl⟩ := H 9 ⟨.guard, by simp, rfl⟩ _ rfl
    replace h24 := h24 _ rfl
    have h0 : a.tmps[0]? = some (.pointer (some ⟨tb, 0, none⟩)) := F 0 rfl
    have HI := Lib.hid hi
    clear H F hi hL
    go_wp2_with fail
    exact hK _ _ (Below.refl _ _) HI.out rfl
  · intro L a wy Q' hL hi H F hK
    try dsimp only at hi
    obtain ⟨_, h25, rfl⟩ := H 10 ⟨.data, by simp, rfl⟩ _ rfl
    replace h25 := h25 _ rfl
    obtain ⟨_, h24, rfl⟩ := H 9 ⟨.guard, by simp, rfl⟩ _ rfl
    replace h24 := h24 _ rfl
    have HI := Lib.hid hi
    clear H F hi hL
    have HK9 := Lib.hid hK
    clear hK
    go_wp2_with (go_at_call 16; go_must (refine (tentries_any wy base tb Ea S vals (HT.out.keep HI.out) HLEN.out).mono ?_; rintro e w1 ⟨v, rfl, ho, hb1⟩))
    exact HK9.out _ _ hb1 (HI.out.trans (hb1.mono HI.out.size)) (SliceAt.of_own ho (ecells_one _))
  · intro L a wy Q' hL hi H F hK
    try dsimp only at hi
    obtain ⟨_, h24, rfl⟩ := H 9 ⟨.guard, by simp, rfl⟩ _ rfl
    replace h24 := h24 _ rfl
    have h4 : a.tmps[4]? = some (.pointer (some ⟨sb, 0, none⟩)) := F 4 rfl
    have HI := Lib.hid hi
    clear H F hi hL
    go_wp2_with fail
    exact hK _ _ (Below.refl _ _) HI.out rfl
  · intro L a wy Q' hL hi H F hK
    try dsimp only at hi
    obtain ⟨_, h27, rfl⟩ := H 12 ⟨.data, by simp, rfl⟩ _ rfl
    replace h27 := h27 _ rfl
    obtain ⟨_, h24, rfl⟩ := H 9 ⟨.guard, by simp, rfl⟩ _ rfl
    replace h24 := h24 _ rfl
    have HI := Lib.hid hi
    clear H F hi hL
    have kq0 : wy.cell? ⟨sb, 0, none⟩ = some (ev) := (Whole.under HI.out HST.out (Whole.lt HST.out)).cell 0
    go_wp2_with fail
    exact hK _ _ (Below.refl _ _) HI.out rfl
  · intro L a wy Q' hL hi H F hK
    try dsimp only at hi
    obtain ⟨v26, h26, hv26⟩ := H 11 ⟨.data, by simp, rfl⟩ _ rfl
    replace h26 := h26 _ rfl
    have HV26 := Lib.hid hv26
    clear hv26
    obtain ⟨_, h28, rfl⟩ := H 13 ⟨.data, by simp, rfl⟩ _ rfl
    replace h28 := h28 _ rfl
    obtain ⟨_, h24, rfl⟩ := H 9 ⟨.guard, by simp, rfl⟩ _ rfl
    replace h24 := h24 _ rfl
    have HI := Lib.hid hi
    clear H F hi hL
    obtain ⟨sa1, sc1, hsh⟩ := HV26.out.shape
    subst hsh
    have HK9 := Lib.hid hK
    clear hK
    go_wp2_with (go_at_call 15; go_must (refine (same_any wy _ _ Ea Ea HV26.out (HE.out.keep HI.out)).mono ?_; rintro e w1 ⟨rfl, hb1⟩))
    exact HK9.out _ _ hb1 (HI.out.trans (hb1.mono HI.out.size)) rfl
  · intro L a wy Q' hL hi H F hK
    try dsimp only at hi
    obtain ⟨_, h29, rfl⟩ := H 14 ⟨.data, by simp, rfl⟩ _ rfl
    replace h29 := h29 _ rfl
    obtain ⟨_, h24, rfl⟩ := H 9 ⟨.guard, by simp, rfl⟩ _ rfl
    replace h24 := h24 _ rfl
    have HI := Lib.hid hi
    clear H F hi hL
    go_wp2_with fail
    exact hK _ _ (Below.refl _ _) HI.out rfl
  · intro L a wy Q' hL hi H F hK
    try dsimp only at hi
    obtain ⟨_, h24, rfl⟩ := H 9 ⟨.data, by simp, rfl⟩ _ rfl
    replace h24 := h24 _ rfl
    obtain ⟨_, h30, rfl⟩ := H 15 ⟨.data, by simp, rfl⟩ _ rfl
    replace h30 := h30 _ rfl
    have HI := Lib.hid hi
    clear H F hi hL
    go_wp2_with fail
    exact hK _ _ (Below.refl _ _) HI.out rfl
  · intro L a wy Q' hL hi H F hK
    try dsimp only at hi
    obtain ⟨_, h31, rfl⟩ := H 16 ⟨.data, by simp, rfl⟩ _ rfl
    replace h31 := h31 _ rfl
    have HI := Lib.hid hi
    clear H F hi hL
    go_wp2_with fail
    exact hK _ _ (Below.refl _ _) HI.out rfl
  · intro L a wy Q' hL hi H F hK
    try dsimp only at hi
    obtain ⟨_, h32, rfl⟩ := H 17 ⟨.guard, by simp, rfl⟩ _ rfl
    replace h32 := h32 _ rfl
    have h0 : a.tmps[0]? = some (.pointer (some ⟨tb, 0, none⟩)) := F 0 rfl
    have HI := Lib.hid hi
    clear H F hi hL
    go_wp2_with fail
    exact hK _ _ (Below.refl _ _) HI.out rfl
  · intro L a wy Q' hL hi H F hK
    try dsimp only at hi
    obtain ⟨_, h33, rfl⟩ := H 18 ⟨.data, by simp, rfl⟩ _ rfl
    replace h33 := h33 _ rfl
    obtain ⟨_, h32, rfl⟩ := H 17 ⟨.guard, by simp, rfl⟩ _ rfl
    replace h32 := h32 _ rfl
    have HI := Lib.hid hi
    clear H F hi hL
    have HK9 := Lib.hid hK
    clear hK
    go_wp2_with (go_at_call 17; go_must (refine (tvisible_any wy base tb Ea S vals (HT.out.keep HI.out) (by have h1 := joinL_length (seenOf Ea vals); have h2 := seenOf_length Ea vals; have := HLEN.out; rw [HSE.out]; unfold seenL; omega)).mono ?_; rintro e w1 ⟨v, rfl, ho, hb1⟩))
    exact HK9.out _ _ hb1 (HI.out.trans (hb1.mono HI.out.size)) (SliceAt.of_own ho (ecells_one _))
  · intro L a wy Q' hL hi H F hK
    try dsimp only at hi
    obtain ⟨_, h32, rfl⟩ := H 17 ⟨.guard, by simp, rfl⟩ _ rfl
    replace h32 := h32 _ rfl
    have h4 : a.tmps[4]? = some (.pointer (some ⟨sb, 0, none⟩)) := F 4 rfl
    have HI := Lib.hid hi
    clear H F hi hL
    have kq0 : wy.cell? ⟨sb, 0, none⟩ = some (ev) := (Whole.under HI.out HST.out (Whole.lt HST.out)).cell 0
    have kq1 : wy.cell? ⟨sb, 1, none⟩ = some (vv) := (Whole.under HI.out HST.out (Whole.lt HST.out)).cell 1
    go_wp2_with fail
    exact hK _ _ (Below.refl _ _) HI.out rfl
  · intro L a wy Q' hL hi H F hK
    try dsimp only at hi
    obtain ⟨_, h35, rfl⟩ := H 20 ⟨.data, by simp, rfl⟩ _ rfl
    replace h35 := h35 _ rfl
    obtain ⟨_, h32, rfl⟩ := H 17 ⟨.guard, by simp, rfl⟩ _ rfl
    replace h32 := h32 _ rfl
    have HI := Lib.hid hi
    clear H F hi hL
    have HK9 := Lib.hid hK
    clear hK
    go_wp2_with (go_at_call 30; go_must (refine (rvisL_any wy ev vv Ea vals (HE.out.keep HI.out) (HV.out.keep HI.out) HLEN.out HVL.out HOK.out).mono ?_; rintro e w1 ⟨v, rfl, ho, hb1⟩))
    exact HK9.out _ _ hb1 (HI.out.trans (hb1.mono HI.out.size)) (by rw [HSE.out]; exact SliceAt.of_own ho (ecells_one _))
  · intro L a wy Q' hL hi H F hK
    try dsimp only at hi
    obtain ⟨v34, h34, hv34⟩ := H 19 ⟨.data, by simp, rfl⟩ _ rfl
    replace h34 := h34 _ rfl
    have HV34 := Lib.hid hv34
    clear hv34
    obtain ⟨v36, h36, hv36⟩ := H 21 ⟨.data, by simp, rfl⟩ _ rfl
    replace h36 := h36 _ rfl
    have HV36 := Lib.hid hv36
    clear hv36
    obtain ⟨_, h32, rfl⟩ := H 17 ⟨.guard, by simp, rfl⟩ _ rfl
    replace h32 := h32 _ rfl
    have HI := Lib.hid hi
    clear H F hi hL
    obtain ⟨sa1, sc1, hsh⟩ := HV34.out.shape
    subst hsh
    obtain ⟨sa2, sc2, hsh⟩ := HV36.out.shape
    subst hsh
    have HK9 := Lib.hid hK
    clear hK
    go_wp2_with (go_at_call 15; go_must (refine (same_any wy _ _ S S HV34.out HV36.out).mono ?_; rintro e w1 ⟨rfl, hb1⟩))
    exact HK9.out _ _ hb1 (HI.out.trans (hb1.mono HI.out.size)) rfl
  · intro L a wy Q' hL hi H F hK
    try dsimp only at hi
    obtain ⟨_, h37, rfl⟩ := H 22 ⟨.data, by simp, rfl⟩ _ rfl
    replace h37 := h37 _ rfl
    obtain ⟨_, h32, rfl⟩ := H 17 ⟨.guard, by simp, rfl⟩ _ rfl
    replace h32 := h32 _ rfl
    have HI := Lib.hid hi
    clear H F hi hL
    go_wp2_with fail
    exact hK _ _ (Below.refl _ _) HI.out rfl
  · intro a wy L hl hi hL Q' hK
    try dsimp only at hi
    have HB := Lib.hid hi
    clear hi hL
    obtain ⟨_, rfl, _, rfl, _, rfl, _, rfl, _, rfl, _, rfl, _, rfl, _, rfl, _, rfl, _, rfl, _, rfl, u26, hu26, _, rfl, _, rfl, _, rfl, _, rfl, _, rfl, _, rfl, _, rfl, u34, hu34, _, rfl, u36, hu36, _, rfl, _, rfl, rfl⟩ := hl
    have HU26 := Lib.hid hu26
    clear hu26
    have HU34 := Lib.hid hu34
    clear hu34
    have HU36 := Lib.hid hu36
    clear hu36
    simp only [List.setIfInBounds_toArray, List.set_cons_zero, List.set_cons_succ]
    go_wp2_with fail
    exact HEND.out _ _ _ _ _ _ _ _ _ _ _ _ _ _ _ _ _ _ _ _ _ _ _ _ _ HB.out
set_option maxRecDepth 100000 in
set_option maxHeartbeats 4000000 in
theorem sm11 (w : World) (base tb sb : Nat) (Ea S : List AEntry) (vals : List Bool) (ev vv : Value) (qb : Nat) (y : Quest) (x1 x2 x3 x5 x6 x7 x9 x10 x11 x12 x13 x14 x15 x16 x17 x18 x19 x20 x21 x22 x23 x24 x25 x26 x27 x28 x29 x30 x31 x32 x33 x34 x35 x36 x37 x38 x39 x40 x41 x42 x43 x44 x45 x46 x47 x48 x49 x50 x51 x52 x53 x54 x55 x56 x57 x58 x59 x60 x61 x62 x63 x64 x65 x66 x67 x68 x69 x70 x71 x72 x73 x74 x75 x76 x77 x78 x79 x80 x81 x82 x83 x84 x85 x86 x87 x88 x89 x90 x91 x92 x93 x94 x95 x96 x97 x98 x99 x100 x101 x102 x103 x104 x105 x106 x107 x108 x109 x110 x111 x112 x113 x114 x115 x116 x117 x118 x119 x120 x121 x122 x123 x124 : Value) (HT : Hid (TabAt w base tb Ea S vals)) (HST : Hid (Whole w sb 30 #[ev, vv])) (HE : Hid (SliceAt w ev 7 Ea.length (Ea.flatMap AEntry.cells))) (HV : Hid (SliceAt w vv 1 vals.length (vals.map aBool))) (HSE : Hid (S = seenL Ea vals)) (HOK : Hid (∀ x ∈ Ea, x.Ok)) (HLEN : Hid (Ea.length ≤ 100000)) (HVL : Hid (vals.length ≤ 1000000)) (HQ : Hid (Whole w qb 48 #[.int .i64 y.s, .int .i64 y.t, .int .i64 y.c, .int .u32 y.p]))
    {Q' : Exit → Act → World → Prop} (hend : ∀ (v87 v88 v89 v90 v91 v92 v93 v94 v95 v96 v97 v98 v99 v100 v101 v102 v103 v104 v105 v106 v107 v108 v109 v110 v111 v112 v113 v114 v115 v116 v117 v118 v119 v120 v121 v122 v123 : Value) (w' : World), RowKit.Below w.heap.size w w' → Q' .normal ⟨#[.pointer (some ⟨tb, 0, none⟩), x1, x2, x3, .pointer (some ⟨sb, 0, none⟩), x5, x6, x7, .pointer (some ⟨qb, 0, none⟩), x9, x10, x11, x12, x13, x14, x15, x16, x17, x18, x19, x20, x21, x22, x23, x24, x25, x26, x27, x28, x29, x30, x31, x32, x33, x34, x35, x36, x37, x38, x39, x40, x41, x42, x43, x44, x45, x46, x47, x48, x49, x50, x51, x52, x53, x54, x55, x56, x57, x58, x59, x60, x61, x62, x63, x64, x65, x66, x67, x68, x69, x70, x71, x72, x73, x74, x75, x76, x77, x78, x79, x80, x81, x82, x83, x84, x85, x86, v87, v88, v89, v90, v91, v92, v93, v94, v95, v96, v97, v98, v99, v100, v101, v102, v103, v104, v105, v106, v107, v108, v109, v110, v111, v112, v113, v114, v115, v116, v117, v118, v119, v120, v121, v122, v123, .bool false], []⟩ w') :
    Code.wp Try.prog (findRegion7 11 ((Try.f12.body).getD .skip)) Q' ⟨#[.pointer (some ⟨tb, 0, none⟩), x1, x2, x3, .pointer (some ⟨sb, 0, none⟩), x5, x6, x7, .pointer (some ⟨qb, 0, none⟩), x9, x10, x11, x12, x13, x14, x15, x16, x17, x18, x19, x20, x21, x22, x23, x24, x25, x26, x27, x28, x29, x30, x31, x32, x33, x34, x35, x36, x37, x38, x39, x40, x41, x42, x43, x44, x45, x46, x47, x48, x49, x50, x51, x52, x53, x54, x55, x56, x57, x58, x59, x60, x61, x62, x63, x64, x65, x66, x67, x68, x69, x70, x71, x72, x73, x74, x75, x76, x77, x78, x79, x80, x81, x82, x83, x84, x85, x86, x87, x88, x89, x90, x91, x92, x93, x94, x95, x96, x97, x98, x99, x100, x101, x102, x103, x104, x105, x106, x107, x108, x109, x110, x111, x112, x113, x114, x115, x116, x117, x118, x119, x120, x121, x122, x123, x124], []⟩ w := by
  have HEND := Lib.hid hend
  clear hend
  conv => arg 2; whnf
  conv => arg 4; dsimp only
  refine wp_region_goods [some 87, some 88, some 89, some 90, some 91, some 92, some 93, some 94, some 95, some 96, some 97, some 98, some 99, some 100, some 101, some 102, some 103, some 104, some 105, some 106, some 107, some 108, some 109, some 110, some 111, some 112, some 113, some 114, some 115, some 116, some 117, some 118, some 119, some 120, some 121, some 122, some 123] [isW (.pointer (some ⟨tb, 0, none⟩)), isW (.pointer (some ⟨qb, 0, none⟩)), isW (.int .i64 y.s), isW (.pointer (some ⟨qb, 2, none⟩)), isW (.int .i64 y.c), isW (.pointer (some ⟨qb, 3, none⟩)), isW (.int .u32 y.p), (fun _ v w' => SliceAt w' v 1 (targetsL S y.s y.c y.p).length ((targetsL S y.s y.c y.p).map anInt)), isW (.agg #[ev, vv]), isW (.pointer (some ⟨qb, 0, none⟩)), isW (.int .i64 y.s), isW (.pointer (some ⟨qb, 2, none⟩)), isW (.int .i64 y.c), isW (.pointer (some ⟨qb, 3, none⟩)), isW (.int .u32 y.p), (fun _ v w' => SliceAt w' v 1 (targetsL S y.s y.c y.p).length ((targetsL S y.s y.c y.p).map anInt)), isW (.bool true), isW (.bool false), isW (.bool false), isW (.pointer (some ⟨tb, 0, none⟩)), isW (.pointer (some ⟨qb, 1, none⟩)), isW (.int .i64 y.t), isW (.pointer (some ⟨qb, 2, none⟩)), isW (.int .i64 y.c), isW (.pointer (some ⟨qb, 3, none⟩)), isW (.int .u32 y.p), (fun _ v w' => SliceAt w' v 1 (sourcesL S y.t y.c y.p).length ((sourcesL S y.t y.c y.p).map anInt)), isW (.agg #[ev, vv]), isW (.pointer (some ⟨qb, 1, none⟩)), isW (.int .i64 y.t), isW (.pointer (some ⟨qb, 2, none⟩)), isW (.int .i64 y.c), isW (.pointer (some ⟨qb, 3, none⟩)), isW (.int .u32 y.p), (fun _ v w' => SliceAt w' v 1 (sourcesL S y.t y.c y.p).length ((sourcesL S y.t y.c y.p).map anInt)), isW (.bool true), isW (.bool false)] (fun _ w' => RowKit.Below w.heap.size w w') [] (by kernel_rfl) (by kernel_rfl) (by kernel_rfl) rfl (by decide) rfl rfl ((Below.refl _ _).drew) ⟨lastsW_is _, lastsW_is _, lastsW_is _, lastsW_is _, lastsW_is _, lastsW_is _, lastsW_is _, (fun _ _ _ _ _ _ h hb => h.keep hb), lastsW_is _, lastsW_is _, lastsW_is _, lastsW_is _, lastsW_is _, lastsW_is _, lastsW_is _, (fun _ _ _ _ _ _ h hb => h.keep hb), lastsW_is _, lastsW_is _, lastsW_is _, lastsW_is _, lastsW_is _, lastsW_is _, lastsW_is _, lastsW_is _, lastsW_is _, lastsW_is _, (fun _ _ _ _ _ _ h hb => h.keep hb), lastsW_is _, lastsW_is _, lastsW_is _, lastsW_is _, lastsW_is _, lastsW_is _, lastsW_is _, (fun _ _ _ _ _ _ h hb => h.keep hb), lastsW_is _, lastsW_is _, trivial⟩ ⟨?_, ?_, ?_, ?_, ?_, ?_, ?_, ?_, ?_, ?_, ?_, ?_, ?_, ?_, ?_, ?_, ?_, ?_, ?_, ?_, ?_, ?_, ?_, ?_, ?_, ?_, ?_, ?_, ?_, ?_, ?_, ?_, ?_, ?_, ?_, ?_, ?_, ?_⟩
  · intro L a wy Q' hL hi H F hK
    try dsimp only at hi
    have h0 : a.tmps[0]? = some (.pointer (some ⟨tb, 0, none⟩)) := F 0 rfl
    have HI := Lib.hid hi
    clear H F hi hL
    go_wp2_with fail
    exact hK _ _ (Below.refl _ _) HI.out rfl
  · intro L a wy Q' hL hi H F hK
    try dsimp only at hi
    have h8 : a.tmps[8]? = some (.pointer (some ⟨qb, 0, none⟩)) := F 8 rfl
    have HI := Lib.hid hi
    clear H F hi hL
    go_wp2_with fail
    exact hK _ _ (Below.refl _ _) HI.out rfl
  · intro L a wy Q' hL hi H F hK
    try dsimp only at hi
    obtain ⟨_, h88, rfl⟩ := H 1 ⟨.data, by simp, rfl⟩ _ rfl
    replace h88 := h88 _ rfl
    have HI := Lib.hid hi
    clear H F hi hL
    have kq0 : wy.cell? ⟨qb, 0, none⟩ = some (.int .i64 y.s) := (Whole.under HI.out HQ.out (Whole.lt HQ.out)).cell 0
    go_wp2_with fail
    exact hK _ _ (Below.refl _ _) HI.out rfl
  · intro L a wy Q' hL hi H F hK
    try dsimp only at hi
    have h8 : a.tmps[8]? = some (.pointer (some ⟨qb, 0, none⟩)) := F 8 rfl
    have HI := Lib.hid hi
    clear H F hi hL
    go_wp2_with fail
    exact hK _ _ (Below.refl _ _) HI.out rfl
  · intro L a wy Q' hL hi H F hK
    try dsimp only at hi
    obtain ⟨_, h90, rfl⟩ := H 3 ⟨.data, by simp, rfl⟩ _ rfl
    replace h90 := h90 _ rfl
    have HI := Lib.hid hi
    clear H F hi hL
    have kq0 : wy.cell? ⟨qb, 2, none⟩ = some (.int .i64 y.c) := (Whole.under HI.out HQ.out (Whole.lt HQ.out)).cell 2
    go_wp2_with fail
    exact hK _ _ (Below.refl _ _) HI.out rfl
  · intro L a wy Q' hL hi H F hK
    try dsimp only at hi
    have h8 : a.tmps[8]? = some (.pointer (some ⟨qb, 0, none⟩)) := F 8 rfl
    have HI := Lib.hid hi
    clear H F hi hL
    go_wp2_with fail
    exact hK _ _ (Below.refl _ _) HI.out rfl
  · intro L a wy Q' hL hi H F hK
    try dsimp only at hi
    obtain ⟨_, h92, rfl⟩ := H 5 ⟨.data, by simp, rfl⟩ _ rfl
    replace h92 := h92 _ rfl
    have HI := Lib.hid hi
    clear H F hi hL
    have kq0 : wy.cell? ⟨qb, 3, none⟩ = some (.int .u32 y.p) := (Whole.under HI.out HQ.out (Whole.lt HQ.out)).cell 3
    go_wp2_with fail
    exact hK _ _ (Below.refl _ _) HI.out rfl
  · intro L a wy Q' hL hi H F hK
    try dsimp only at hi
    obtain ⟨_, h87, rfl⟩ := H 0 ⟨.data, by simp, rfl⟩ _ rfl
    replace h87 := h87 _ rfl
    obtain ⟨_, h89, rfl⟩ := H 2 ⟨.data, by simp, rfl⟩ _ rfl
    replace h89 := h89 _ rfl
    obtain ⟨_, h91, rfl⟩ := H 4 ⟨.data, by simp, rfl⟩ _ rfl
    replace h91 := h91 _ rfl
    obtain ⟨_, h93, rfl⟩ := H 6 ⟨.data, by simp, rfl⟩ _ rfl
    replace h93 := h93 _ rfl
    have HI := Lib.hid hi
    clear H F hi hL
    have HK9 := Lib.hid hK
    clear hK
    go_wp2_with (go_at_call 22; go_must (refine (targets_any wy base tb S Ea vals y.s y.c y.p (HT.out.keep HI.out) (by have h1 := joinL_length (seenOf Ea vals); have h2 := seenOf_length Ea vals; have := HLEN.out; rw [HSE.out]; unfold seenL; omega)).mono ?_; rintro e w1 ⟨v, rfl, ho, hb1⟩))
    exact HK9.out _ _ hb1 (HI.out.trans (hb1.mono HI.out.size)) (by have h := SliceAt.of_own ho (ints_one _); rwa [targets_sorted (tab_ord HT.out) (HSE.out ▸ seen_bare Ea vals)] at h)
  · intro L a wy Q' hL hi H F hK
    try dsimp only at hi
    have h4 : a.tmps[4]? = some (.pointer (some ⟨sb, 0, none⟩)) := F 4 rfl
    have HI := Lib.hid hi
    clear H F hi hL
    have kq0 : wy.cell? ⟨sb, 0, none⟩ = some (ev) := (Whole.under HI.out HST.out (Whole.lt HST.out)).cell 0
    have kq1 : wy.cell? ⟨sb, 1, none⟩ = some (vv) := (Whole.under HI.out HST.out (Whole.lt HST.out)).cell 1
    go_wp2_with fail
    exact hK _ _ (Below.refl _ _) HI.out rfl
  · intro L a wy Q' hL hi H F hK
    try dsimp only at hi
    have h8 : a.tmps[8]? = some (.pointer (some ⟨qb, 0, none⟩)) := F 8 rfl
    have HI := Lib.hid hi
    clear H F hi hL
    go_wp2_with fail
    exact hK _ _ (Below.refl _ _) HI.out rfl
  · intro L a wy Q' hL hi H F hK
    try dsimp only at hi
    obtain ⟨_, h96, rfl⟩ := H 9 ⟨.data, by simp, rfl⟩ _ rfl
    replace h96 := h96 _ rfl
    have HI := Lib.hid hi
    clear H F hi hL
    have kq0 : wy.cell? ⟨qb, 0, none⟩ = some (.int .i64 y.s) := (Whole.under HI.out HQ.out (Whole.lt HQ.out)).cell 0
    go_wp2_with fail
    exact hK _ _ (Below.refl _ _) HI.out rfl
  · intro L a wy Q' hL hi H F hK
    try dsimp only at hi
    have h8 : a.tmps[8]? = some (.pointer (some ⟨qb, 0, none⟩)) := F 8 rfl
    have HI := Lib.hid hi
    clear H F hi hL
    go_wp2_with fail
    exact hK _ _ (Below.refl _ _) HI.out rfl
  · intro L a wy Q' hL hi H F hK
    try dsimp only at hi
    obtain ⟨_, h98, rfl⟩ := H 11 ⟨.data, by simp, rfl⟩ _ rfl
    replace h98 := h98 _ rfl
    have HI := Lib.hid hi
    clear H F hi hL
    have kq0 : wy.cell? ⟨qb, 2, none⟩ = some (.int .i64 y.c) := (Whole.under HI.out HQ.out (Whole.lt HQ.out)).cell 2
    go_wp2_with fail
    exact hK _ _ (Below.refl _ _) HI.out rfl
  · intro L a wy Q' hL hi H F hK
    try dsimp only at hi
    have h8 : a.tmps[8]? = some (.pointer (some ⟨qb, 0, none⟩)) := F 8 rfl
    have HI := Lib.hid hi
    clear H F hi hL
    go_wp2_with fail
    exact hK _ _ (Below.refl _ _) HI.out rfl
  · intro L a wy Q' hL hi H F hK
    try dsimp only at hi
    obtain ⟨_, h100, rfl⟩ := H 13 ⟨.data, by simp, rfl⟩ _ rfl
    replace h100 := h100 _ rfl
    have HI := Lib.hid hi
    clear H F hi hL
    have kq0 : wy.cell? ⟨qb, 3, none⟩ = some (.int .u32 y.p) := (Whole.under HI.out HQ.out (Whole.lt HQ.out)).cell 3
    go_wp2_with fail
    exact hK _ _ (Below.refl _ _) HI.out rfl
  · intro L a wy Q' hL hi H F hK
    try dsimp only at hi
    obtain ⟨_, h95, rfl⟩ := H 8 ⟨.data, by simp, rfl⟩ _ rfl
    replace h95 := h95 _ rfl
    obtain ⟨_, h97, rfl⟩ := H 10 ⟨.data, by simp, rfl⟩ _ rfl
    replace h97 := h97 _ rfl
    obtain ⟨_, h99, rfl⟩ := H 12 ⟨.data, by simp, rfl⟩ _ rfl
    replace h99 := h99 _ rfl
    obtain ⟨_, h101, rfl⟩ := H 14 ⟨.data, by simp, rfl⟩ _ rfl
    replace h101 := h101 _ rfl
    have HI := Lib.hid hi
    clear H F hi hL
    have HK9 := Lib.hid hK
    clear hK
    go_wp2_with (go_at_call 32; go_must (refine (rtargets_any wy ev vv Ea vals y.s y.c y.p (HE.out.keep HI.out) (HV.out.keep HI.out) HLEN.out HVL.out HOK.out).mono ?_; rintro e w1 ⟨v, rfl, ho, hb1⟩))
    exact HK9.out _ _ hb1 (HI.out.trans (hb1.mono HI.out.size)) (by rw [HSE.out]; exact SliceAt.of_own ho (ints_one _))
  · intro L a wy Q' hL hi H F hK
    try dsimp only at hi
    obtain ⟨v94, h94, hv94⟩ := H 7 ⟨.data, by simp, rfl⟩ _ rfl
    replace h94 := h94 _ rfl
    have HV94 := Lib.hid hv94
    clear hv94
    obtain ⟨v102, h102, hv102⟩ := H 15 ⟨.data, by simp, rfl⟩ _ rfl
    replace h102 := h102 _ rfl
    have HV102 := Lib.hid hv102
    clear hv102
    have HI := Lib.hid hi
    clear H F hi hL
    obtain ⟨sa1, sc1, hsh⟩ := HV94.out.shape
    subst hsh
    obtain ⟨sa2, sc2, hsh⟩ := HV102.out.shape
    subst hsh
    have HK9 := Lib.hid hK
    clear hK
    go_wp2_with (go_at_call 24; go_must (refine (ints_any wy _ _ (targetsL S y.s y.c y.p) (targetsL S y.s y.c y.p) (by rw [← ints_flat]; exact HV94.out) (by rw [← ints_flat]; exact HV102.out)).mono ?_; rintro e w1 ⟨rfl, hb1⟩))
    exact HK9.out _ _ hb1 (HI.out.trans (hb1.mono HI.out.size)) rfl
  · intro L a wy Q' hL hi H F hK
    try dsimp only at hi
    obtain ⟨_, h103, rfl⟩ := H 16 ⟨.data, by simp, rfl⟩ _ rfl
    replace h103 := h103 _ rfl
    have HI := Lib.hid hi
    clear H F hi hL
    go_wp2_with fail
    exact hK _ _ (Below.refl _ _) HI.out rfl
  · intro L a wy Q' hL hi H F hK
    try dsimp only at hi
    obtain ⟨_, h104, rfl⟩ := H 17 ⟨.data, by simp, rfl⟩ _ rfl
    replace h104 := h104 _ rfl
    have HI := Lib.hid hi
    clear H F hi hL
    go_wp2_with fail
    exact hK _ _ (Below.refl _ _) HI.out rfl
  · intro L a wy Q' hL hi H F hK
    try dsimp only at hi
    obtain ⟨_, h105, rfl⟩ := H 18 ⟨.guard, by simp, rfl⟩ _ rfl
    replace h105 := h105 _ rfl
    have h0 : a.tmps[0]? = some (.pointer (some ⟨tb, 0, none⟩)) := F 0 rfl
    have HI := Lib.hid hi
    clear H F hi hL
    go_wp2_with fail
    exact hK _ _ (Below.refl _ _) HI.out rfl
  · intro L a wy Q' hL hi H F hK
    try dsimp only at hi
    obtain ⟨_, h105, rfl⟩ := H 18 ⟨.guard, by simp, rfl⟩ _ rfl
    replace h105 := h105 _ rfl
    have h8 : a.tmps[8]? = some (.pointer (some ⟨qb, 0, none⟩)) := F 8 rfl
    have HI := Lib.hid hi
    clear H F hi hL
    go_wp2_with fail
    exact hK _ _ (Below.refl _ _) HI.out rfl
  · intro L a wy Q' hL hi H F hK
    try dsimp only at hi
    obtain ⟨_, h107, rfl⟩ := H 20 ⟨.data, by simp, rfl⟩ _ rfl
    replace h107 := h107 _ rfl
    obtain ⟨_, h105, rfl⟩ := H 18 ⟨.guard, by simp, rfl⟩ _ rfl
    replace h105 := h105 _ rfl
    have HI := Lib.hid hi
    clear H F hi hL
    have kq0 : wy.cell? ⟨qb, 1, none⟩ = some (.int .i64 y.t) := (Whole.under HI.out HQ.out (Whole.lt HQ.out)).cell 1
    go_wp2_with fail
    exact hK _ _ (Below.refl _ _) HI.out rfl
  · intro L a wy Q' hL hi H F hK
    try dsimp only at hi
    obtain ⟨_, h105, rfl⟩ := H 18 ⟨.guard, by simp, rfl⟩ _ rfl
    replace h105 := h105 _ rfl
    have h8 : a.tmps[8]? = some (.pointer (some ⟨qb, 0, none⟩)) := F 8 rfl
    have HI := Lib.hid hi
    clear H F hi hL
    go_wp2_with fail
    exact hK _ _ (Below.refl _ _) HI.out rfl
  · intro L a wy Q' hL hi H F hK
    try dsimp only at hi
    obtain ⟨_, h109, rfl⟩ := H 22 ⟨.data, by simp, rfl⟩ _ rfl
    replace h109 := h109 _ rfl
    obtain ⟨_, h105, rfl⟩ := H 18 ⟨.guard, by simp, rfl⟩ _ rfl
    replace h105 := h105 _ rfl
    have HI := Lib.hid hi
    clear H F hi hL
    have kq0 : wy.cell? ⟨qb, 2, none⟩ = some (.int .i64 y.c) := (Whole.under HI.out HQ.out (Whole.lt HQ.out)).cell 2
    go_wp2_with fail
    exact hK _ _ (Below.refl _ _) HI.out rfl
  · intro L a wy Q' hL hi H F hK
    try dsimp only at hi
    obtain ⟨_, h105, rfl⟩ := H 18 ⟨.guard, by simp, rfl⟩ _ rfl
    replace h105 := h105 _ rfl
    have h8 : a.tmps[8]? = some (.pointer (some ⟨qb, 0, none⟩)) := F 8 rfl
    have HI := Lib.hid hi
    clear H F hi hL
    go_wp2_with fail
    exact hK _ _ (Below.refl _ _) HI.out rfl
  · intro L a wy Q' hL hi H F hK
    try dsimp only at hi
    obtain ⟨_, h111, rfl⟩ := H 24 ⟨.data, by simp, rfl⟩ _ rfl
    replace h111 := h111 _ rfl
    obtain ⟨_, h105, rfl⟩ := H 18 ⟨.guard, by simp, rfl⟩ _ rfl
    replace h105 := h105 _ rfl
    have HI := Lib.hid hi
    clear H F hi hL
    have kq0 : wy.cell? ⟨qb, 3, none⟩ = some (.int .u32 y.p) := (Whole.under HI.out HQ.out (Whole.lt HQ.out)).cell 3
    go_wp2_with fail
    exact hK _ _ (Below.refl _ _) HI.out rfl
  · intro L a wy Q' hL hi H F hK
    try dsimp only at hi
    obtain ⟨_, h106, rfl⟩ := H 19 ⟨.data, by simp, rfl⟩ _ rfl
    replace h106 := h106 _ rfl
    obtain ⟨_, h108, rfl⟩ := H 21 ⟨.data, by simp, rfl⟩ _ rfl
    replace h108 := h108 _ rfl
    obtain ⟨_, h110, rfl⟩ := H 23 ⟨.data, by simp, rfl⟩ _ rfl
    replace h110 := h110 _ rfl
    obtain ⟨_, h112, rfl⟩ := H 25 ⟨.data, by simp, rfl⟩ _ rfl
    replace h112 := h112 _ rfl
    obtain ⟨_, h105, rfl⟩ := H 18 ⟨.guard, by simp, rfl⟩ _ rfl
    replace h105 := h105 _ rfl
    have HI := Lib.hid hi
    clear H F hi hL
    have HK9 := Lib.hid hK
    clear hK
    go_wp2_with (go_at_call 23; go_must (refine (sources_any wy base tb S Ea vals y.t y.c y.p (HT.out.keep HI.out) (by have h1 := joinL_length (seenOf Ea vals); have h2 := seenOf_length Ea vals; have := HLEN.out; rw [HSE.out]; unfold seenL; omega)).mono ?_; rintro e w1 ⟨v, rfl, ho, hb1⟩))
    exact HK9.out _ _ hb1 (HI.out.trans (hb1.mono HI.out.size)) (by have h := SliceAt.of_own ho (ints_one _); rwa [sources_sorted (tab_ord HT.out) (HSE.out ▸ seen_bare Ea vals)] at h)
  · intro L a wy Q' hL hi H F hK
    try dsimp only at hi
    obtain ⟨_, h105, rfl⟩ := H 18 ⟨.guard, by simp, rfl⟩ _ rfl
    replace h105 := h105 _ rfl
    have h4 : a.tmps[4]? = some (.pointer (some ⟨sb, 0, none⟩)) := F 4 rfl
    have HI := Lib.hid hi
    clear H F hi hL
    have kq0 : wy.cell? ⟨sb, 0, none⟩ = some (ev) := (Whole.under HI.out HST.out (Whole.lt HST.out)).cell 0
    have kq1 : wy.cell? ⟨sb, 1, none⟩ = some (vv) := (Whole.under HI.out HST.out (Whole.lt HST.out)).cell 1
    go_wp2_with fail
    exact hK _ _ (Below.refl _ _) HI.out rfl
  · intro L a wy Q' hL hi H F hK
    try dsimp only at hi
    obtain ⟨_, h105, rfl⟩ := H 18 ⟨.guard, by simp, rfl⟩ _ rfl
    replace h105 := h105 _ rfl
    have h8 : a.tmps[8]? = some (.pointer (some ⟨qb, 0, none⟩)) := F 8 rfl
    have HI := Lib.hid hi
    clear H F hi hL
    go_wp2_with fail
    exact hK _ _ (Below.refl _ _) HI.out rfl
  · intro L a wy Q' hL hi H F hK
    try dsimp only at hi
    obtain ⟨_, h115, rfl⟩ := H 28 ⟨.data, by simp, rfl⟩ _ rfl
    replace h115 := h115 _ rfl
    obtain ⟨_, h105, rfl⟩ := H 18 ⟨.guard, by simp, rfl⟩ _ rfl
    replace h105 := h105 _ rfl
    have HI := Lib.hid hi
    clear H F hi hL
    have kq0 : wy.cell? ⟨qb, 1, none⟩ = some (.int .i64 y.t) := (Whole.under HI.out HQ.out (Whole.lt HQ.out)).cell 1
    go_wp2_with fail
    exact hK _ _ (Below.refl _ _) HI.out rfl
  · intro L a wy Q' hL hi H F hK
    try dsimp only at hi
    obtain ⟨_, h105, rfl⟩ := H 18 ⟨.guard, by simp, rfl⟩ _ rfl
    replace h105 := h105 _ rfl
    have h8 : a.tmps[8]? = some (.pointer (some ⟨qb, 0, none⟩)) := F 8 rfl
    have HI := Lib.hid hi
    clear H F hi hL
    go_wp2_with fail
    exact hK _ _ (Below.refl _ _) HI.out rfl
  · intro L a wy Q' hL hi H F hK
    try dsimp only at hi
    obtain ⟨_, h117, rfl⟩ := H 30 ⟨.data, by simp, rfl⟩ _ rfl
    replace h117 := h117 _ rfl
    obtain ⟨_, h105, rfl⟩ := H 18 ⟨.guard, by simp, rfl⟩ _ rfl
    replace h105 := h105 _ rfl
    have HI := Lib.hid hi
    clear H F hi hL
    have kq0 : wy.cell? ⟨qb, 2, none⟩ = some (.int .i64 y.c) := (Whole.under HI.out HQ.out (Whole.lt HQ.out)).cell 2
    go_wp2_with fail
    exact hK _ _ (Below.refl _ _) HI.out rfl
  · intro L a wy Q' hL hi H F hK
    try dsimp only at hi
    obtain ⟨_, h105, rfl⟩ := H 18 ⟨.guard, by simp, rfl⟩ _ rfl
    replace h105 := h105 _ rfl
    have h8 : a.tmps[8]? = some (.pointer (some ⟨qb, 0, none⟩)) := F 8 rfl
    have HI := Lib.hid hi
    clear H F hi hL
    go_wp2_with fail
    exact hK _ _ (Below.refl _ _) HI.out rfl
  · intro L a wy Q' hL hi H F hK
    try dsimp only at hi
    obtain ⟨_, h119, rfl⟩ := H 32 ⟨.data, by simp, rfl⟩ _ rfl
    replace h119 := h119 _ rfl
    obtain ⟨_, h105, rfl⟩ := H 18 ⟨.guard, by simp, rfl⟩ _ rfl
    replace h105 := h105 _ rfl
    have HI := Lib.hid hi
    clear H F hi hL
    have kq0 : wy.cell? ⟨qb, 3, none⟩ = some (.int .u32 y.p) := (Whole.under HI.out HQ.out (Whole.lt HQ.out)).cell 3
    go_wp2_with fail
    exact hK _ _ (Below.refl _ _) HI.out rfl
  · intro L a wy Q' hL hi H F hK
    try dsimp only at hi
    obtain ⟨_, h114, rfl⟩ := H 27 ⟨.data, by simp, rfl⟩ _ rfl
    replace h114 := h114 _ rfl
    obtain ⟨_, h116, rfl⟩ := H 29 ⟨.data, by simp, rfl⟩ _ rfl
    replace h116 := h116 _ rfl
    obtain ⟨_, h118, rfl⟩ := H 31 ⟨.data, by simp, rfl⟩ _ rfl
    replace h118 := h118 _ rfl
    obtain ⟨_, h120, rfl⟩ := H 33 ⟨.data, by simp, rfl⟩ _ rfl
    replace h120 := h120 _ rfl
    obtain ⟨_, h105, rfl⟩ := H 18 ⟨.guard, by simp, rfl⟩ _ rfl
    replace h105 := h105 _ rfl
    have HI := Lib.hid hi
    clear H F hi hL
    have HK9 := Lib.hid hK
    clear hK
    go_wp2_with (go_at_call 33; go_must (refine (rsources_any wy ev vv Ea vals y.t y.c y.p (HE.out.keep HI.out) (HV.out.keep HI.out) HLEN.out HVL.out HOK.out).mono ?_; rintro e w1 ⟨v, rfl, ho, hb1⟩))
    exact HK9.out _ _ hb1 (HI.out.trans (hb1.mono HI.out.size)) (by rw [HSE.out]; exact SliceAt.of_own ho (ints_one _))
  · intro L a wy Q' hL hi H F hK
    try dsimp only at hi
    obtain ⟨v113, h113, hv113⟩ := H 26 ⟨.data, by simp, rfl⟩ _ rfl
    replace h113 := h113 _ rfl
    have HV113 := Lib.hid hv113
    clear hv113
    obtain ⟨v121, h121, hv121⟩ := H 34 ⟨.data, by simp, rfl⟩ _ rfl
    replace h121 := h121 _ rfl
    have HV121 := Lib.hid hv121
    clear hv121
    obtain ⟨_, h105, rfl⟩ := H 18 ⟨.guard, by simp, rfl⟩ _ rfl
    replace h105 := h105 _ rfl
    have HI := Lib.hid hi
    clear H F hi hL
    obtain ⟨sa1, sc1, hsh⟩ := HV113.out.shape
    subst hsh
    obtain ⟨sa2, sc2, hsh⟩ := HV121.out.shape
    subst hsh
    have HK9 := Lib.hid hK
    clear hK
    go_wp2_with (go_at_call 24; go_must (refine (ints_any wy _ _ (sourcesL S y.t y.c y.p) (sourcesL S y.t y.c y.p) (by rw [← ints_flat]; exact HV113.out) (by rw [← ints_flat]; exact HV121.out)).mono ?_; rintro e w1 ⟨rfl, hb1⟩))
    exact HK9.out _ _ hb1 (HI.out.trans (hb1.mono HI.out.size)) rfl
  · intro L a wy Q' hL hi H F hK
    try dsimp only at hi
    obtain ⟨_, h122, rfl⟩ := H 35 ⟨.data, by simp, rfl⟩ _ rfl
    replace h122 := h122 _ rfl
    obtain ⟨_, h105, rfl⟩ := H 18 ⟨.guard, by simp, rfl⟩ _ rfl
    replace h105 := h105 _ rfl
    have HI := Lib.hid hi
    clear H F hi hL
    go_wp2_with fail
    exact hK _ _ (Below.refl _ _) HI.out rfl
  · intro a wy L hl hi hL Q' hK
    try dsimp only at hi
    have HB := Lib.hid hi
    clear hi hL
    obtain ⟨_, rfl, _, rfl, _, rfl, _, rfl, _, rfl, _, rfl, _, rfl, u94, hu94, _, rfl, _, rfl, _, rfl, _, rfl, _, rfl, _, rfl, _, rfl, u102, hu102, _, rfl, _, rfl, _, rfl, _, rfl, _, rfl, _, rfl, _, rfl, _, rfl, _, rfl, _, rfl, u113, hu113, _, rfl, _, rfl, _, rfl, _, rfl, _, rfl, _, rfl, _, rfl, u121, hu121, _, rfl, _, rfl, rfl⟩ := hl
    have HU94 := Lib.hid hu94
    clear hu94
    have HU102 := Lib.hid hu102
    clear hu102
    have HU113 := Lib.hid hu113
    clear hu113
    have HU121 := Lib.hid hu121
    clear hu121
    simp only [List.setIfInBounds_toArray, List.set_cons_zero, List.set_cons_succ]
    go_wp2_with fail
    exact HEND.out _ _ _ _ _ _ _ _ _ _ _ _ _ _ _ _ _ _ _ _ _ _ _ _ _ _ _ _ _ _ _ _ _ _ _ _ _ _ HB.out
end Go.Proofs.Ytlkkdpoliafjbaa

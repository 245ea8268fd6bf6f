import Derived.Test.YtmkfabdkadocdaaDoorO4
/-
  expand.Entries, Count.
-/
namespace Go.Proofs.YtmkfabdkadocdaaDoor
open Go Go.WideMaps Go.RowKit Go.Sort

theorem size63 : (Tryd.prog.info? 63).map (·.size) = some 2 := by kernel_rfl
theorem size27 : (Tryd.prog.info? 27).map (·.size) = some 13 := by kernel_rfl
theorem size50 : (Tryd.prog.info? 50).map (·.size) = some 17 := by kernel_rfl
structure ARule.Wf (r : ARule) : Prop where
  ok : r.Ok
  kind : I64 r.kind
  cls : I64 r.cls
  cond : I64 r.cond
  perms : U32 r.perms
def pkey (r : ARule) (p : Nat × Nat) : Key4 := ⟨p.1, p.2, r.cls, r.cond⟩
/-- What a rule puts into the map. -/
def ruleKV (r : ARule) (P : List (Nat × Nat)) : List (Key4 × AVec) := P.map fun p => (pkey r p, vecOf r.kind r.perms)
def kvR (l : List ARule) : List (Key4 × AVec) := l.flatMap fun r => ruleKV r r.pairs
theorem kvR_take {l : List ARule} {i : Nat} {r : ARule} (h : l[i]? = some r) : kvR (l.take (i + 1)) = kvR (l.take i) ++ ruleKV r r.pairs := by
  unfold kvR
  rw [take_snoc h, List.flatMap_append, List.flatMap_singleton]
theorem pairs_lt {r : ARule} {p : Nat × Nat} (h : p ∈ r.pairs) : p.1 < 256 ∧ p.2 < 256 := by
  unfold ARule.pairs ARule.pairsTo at h
  obtain ⟨s, hs, hp⟩ := List.mem_flatMap.1 h
  obtain ⟨t, ht, rfl⟩ := List.mem_map.1 hp
  simp [elems, elemsTo] at hs ht
  exact ⟨hs.1, ht.1⟩
theorem elems_len (s : ASet) : (elems s).length ≤ 256 := elemsTo_len s 256
theorem pairs_len (r : ARule) : r.pairs.length ≤ 65536 := by
  have h1 := pairs_small r (elems r.src)
  have h2 := elems_len r.src
  unfold ARule.pairs
  omega
theorem kvR_len (l : List ARule) : (kvR l).length ≤ l.length * 65536 := by
  induction l with
  | nil => simp [kvR]
  | cons r l ih =>
    have e : kvR (r :: l) = ruleKV r r.pairs ++ kvR l := by simp [kvR]
    have := pairs_len r
    rw [e, List.length_append, List.length_cons]
    unfold ruleKV
    rw [List.length_map]
    omega
theorem ARule.Wf.key {r : ARule} (h : r.Wf) {p : Nat × Nat} (hp : p ∈ r.pairs) : (pkey r p).Ok := by
  have := pairs_lt hp
  exact ⟨⟨by show _ ≤ (p.1 : Int); omega, by show (p.1 : Int) < _; omega⟩, ⟨by show _ ≤ (p.2 : Int); omega, by show (p.2 : Int) < _; omega⟩, h.cls, h.cond⟩
theorem ARule.Wf.vec {r : ARule} (h : r.Wf) : (vecOf r.kind r.perms).Ok := by
  have h0 : U32 0 := ⟨by decide, by decide⟩
  unfold vecOf
  split
  · exact ⟨h.perms, h0, h0⟩
  · split
    · exact ⟨h0, h.perms, h0⟩
    · split
      · exact ⟨h0, h0, h.perms⟩
      · exact ⟨h0, h0, h0⟩
theorem MapK.more {w : World} {mb n m : Nat} {f : Key4 → AVec} (h : MapK w mb n f) (hm : n ≤ m) : MapK w mb m f := by
  obtain ⟨D, h1, h2, h3, h4⟩ := h.ex
  exact ⟨D, h1, h2, h3, by omega⟩
theorem accum_skip {L M : List (Key4 × AVec)} (hM : ∀ p ∈ M, p.2 = AVec.zero) (hL : ∀ k, (accum L k).Ok) : accum (L ++ M) = accum L := by
  induction M generalizing L with
  | nil => simp
  | cons p M ih =>
    have e : L ++ p :: M = (L ++ [p]) ++ M := by simp
    have h1 : accum (L ++ [p]) = accum L := by
      rw [accum_snoc]
      funext x
      unfold updV
      split
      · rename_i hx
        subst hx
        rw [hM p (by simp), AVec.or_zero (hL _)]
      · rfl
    rw [e, ih (fun q hq => hM q (by simp [hq])) (by rw [h1]; exact hL), h1]
theorem accum_next (L : List (Key4 × AVec)) (k : Key4) (v : AVec) : accum (L ++ [(k, v)]) = fun x => if x = k then (accum L k).or v else accum L x := by rw [accum_snoc]; rfl

theorem cell_lt {w : World} {b o : Nat} {u : Value} (h : w.cell? ⟨b, o, none⟩ = some u) : b < w.heap.size := by
  obtain ⟨c, e, fr, h1, -⟩ := cells_of_cell? h
  exact (Array.getElem?_eq_some_iff.1 h1).1
/-- Some rules' pairs are in the map. -/
structure Expand (w wr : World) (mb : Nat) (M : List (Key4 × AVec)) : Prop where
  map : MapK wr mb M.length (accum M)
  blw : RowKit.Below w.heap.size w wr
  new : w.heap.size ≤ mb
theorem Expand.keep {w wr w' : World} {mb : Nat} {M : List (Key4 × AVec)} (h : Expand w wr mb M) (hb : RowKit.Below wr.heap.size wr w') : Expand w w' mb M :=
  ⟨h.map.kept (hb.block _ h.map.lt), h.blw.trans (hb.mono h.blw.size), h.new⟩
theorem Expand.skip {w wr w' : World} {mb i : Nat} {l : List ARule} {r : ARule} (h : Expand w wr mb (kvR (l.take i))) (hr : l[i]? = some r) (hz : vecOf r.kind r.perms = AVec.zero) (hb : RowKit.Below wr.heap.size wr w') : Expand w w' mb (kvR (l.take (i + 1))) := by
  obtain ⟨h1, h2, h3⟩ := h.keep hb
  refine ⟨?_, h2, h3⟩
  rw [kvR_take hr, accum_skip (fun p hp => ?_) (fun k => h1.val k)]
  · exact h1.more (by simp)
  · obtain ⟨q, -, rfl⟩ := List.mem_map.1 hp
    exact hz
/-- .. with the rule in hand. -/
structure ExpIn (w wr : World) (mb rb vb : Nat) (r : ARule) (V : AVec) (pa : Option Addr) (pn pc : Nat) (L : List (Key4 × AVec)) (j : Nat) : Prop where
  exp : Expand w wr mb (L ++ ruleKV r (r.pairs.take j))
  rule : Whole wr rb 27 #[.int .i64 r.kind, .int .u64 r.src.a, .int .u64 r.src.b, .int .u64 r.src.c, .int .u64 r.src.d, .int .u64 r.tgt.a, .int .u64 r.tgt.b, .int .u64 r.tgt.c, .int .u64 r.tgt.d, .bool r.self, .int .i64 r.cls, .int .u32 r.perms, .int .i64 r.cond]
  vec : Whole wr vb 73 #[.int .u32 V.allow, .int .u32 V.audit, .int .u32 V.dont]
  cell : ∀ i, i < r.pairs.length → ∃ b off, pa = some ⟨b, off, none⟩ ∧ ∀ j u, (pcells r.pairs)[i * 2 + j]? = some u → wr.cell? ⟨b, off + i * 2 + j, none⟩ = some u
  rne : rb ≠ mb
  vne : vb ≠ mb
  pne : ∀ b off, pa = some ⟨b, off, none⟩ → b ≠ mb
theorem ExpIn.step {w wq w6 wx w7 : World} {mb rb vb m : Nat} {r : ARule} {V : AVec} {pa : Option Addr} {pn pc : Nat} {L : List (Key4 × AVec)} {j : Nat} {y : Nat × Nat} {f : Key4 → AVec} (h : ExpIn w wq mb rb vb r V pa pn pc L j) (hf : f = accum (L ++ ruleKV r (r.pairs.take j)) ∧ V = vecOf r.kind r.perms) (hm : m = (L ++ ruleKV r (r.pairs.take j)).length)
    (hb : RowKit.Below wq.heap.size wq w6) (hb2 : RowKit.Below w6.heap.size w6 wx) (hM : MapK w7 mb (m + 1) (fun x => if x = pkey r y then (f (pkey r y)).or V else f x)) (hg : wx.grownBy w7 (some mb)) (hs : w7.heap.size = wx.heap.size) (hy : r.pairs[j]? = some y) : ExpIn w w7 mb rb vb r V pa pn pc L (j + 1) := by
  obtain ⟨rfl, rfl⟩ := hf
  have hb3 : RowKit.Below wq.heap.size wq wx := hb.trans (hb2.mono hb.size)
  have e : L ++ ruleKV r (r.pairs.take (j + 1)) = (L ++ ruleKV r (r.pairs.take j)) ++ [(pkey r y, vecOf r.kind r.perms)] := by
    unfold ruleKV
    rw [take_snoc hy, List.map_append, List.map_singleton, List.append_assoc]
  have k := h.exp.keep hb3
  refine ⟨⟨?_, ?_, k.new⟩, ?_, ?_, ?_, h.rne, h.vne, h.pne⟩
  · rw [e, accum_next, List.length_append, List.length_singleton, ← hm]
    exact hM
  · exact k.blw.trans (Below.of_iter hg k.new k.blw.size hs)
  · exact (Whole.under hb3 h.rule h.rule.lt).grown hg (fun e => h.rne (by cases e; rfl))
  · exact (Whole.under hb3 h.vec h.vec.lt).grown hg (fun e => h.vne (by cases e; rfl))
  · intro i hi
    obtain ⟨b, off, hpa, hc⟩ := h.cell i hi
    refine ⟨b, off, hpa, fun j u hu => ?_⟩
    have h1 := cell_later hb3 (hc j u hu)
    have hlt := cell_lt (hc j u hu)
    rw [← h1]
    exact World.cell?_of_block (hg.block b (by have := hb3.size; exact Nat.lt_of_lt_of_le hlt this) (fun e => h.pne b off hpa (by cases e; rfl)))
theorem ent_b3 {wr w1 w2 w3 : World} {o o2 : Obj} (h1 : Sto (wr.alloc o) w1 wr.heap.size) (h2 : RowKit.Below w1.heap.size w1 w2) (h3 : Sto (w2.alloc o2) w3 w2.heap.size) : RowKit.Below wr.heap.size wr w3 := by
  have a : RowKit.Below wr.heap.size wr w1 := ((Below.refl _ wr).alloc (Nat.le_refl _) _).trans (h1.below (Nat.le_refl _))
  have b := a.trans (h2.mono a.size)
  exact (b.alloc b.size _).trans (h3.below (by have := b.size; omega))
theorem ent_b6 {wq w5 w6 : World} {o o2 : Obj} (h1 : Sto (wq.alloc o) w5 wq.heap.size) (h3 : Sto (w5.alloc o2) w6 w5.heap.size) : RowKit.Below wq.heap.size wq w6 := by
  have a : RowKit.Below wq.heap.size wq w5 := ((Below.refl _ wq).alloc (Nat.le_refl _) _).trans (h1.below (Nat.le_refl _))
  exact (a.alloc a.size _).trans (h3.below (by have := a.size; omega))

set_option maxRecDepth 100000 in
set_option maxHeartbeats 8000000 in
theorem expEntries_any (w : World) (a0 a1 a2 a3 a4 a5 a6 a7 a8 v a10 a11 a12 a13 a14 a15 a16 : Value) (l : List ARule) (h : SliceAt w v 13 l.length (l.flatMap ARule.cells)) (hok : ∀ r ∈ l, r.Wf) (hlen : l.length ≤ 1000) :
    Calls Tryd.prog 17 #[.agg #[a0, a1, a2, a3, a4, a5, a6, a7, a8, v, a10, a11, a12, a13, a14, a15, a16]] w fun e w' => ∃ v' l', e = .returned v' ∧ Canon (accum (kvR l)) l' ∧ (∀ x ∈ l', x.Ok) ∧ l'.length ≤ 65536000 ∧ SliceAt w' v' 7 l'.length (l'.flatMap AEntry.cells) ∧ RowKit.Below w.heap.size w w' := by
  obtain ⟨n, hn⟩ : ∃ n, n = l.length := ⟨_, rfl⟩
  obtain ⟨a, c, rfl, hc, hmx, hcell⟩ := h.form (by decide)
  have HL := Lib.hid hn
  have HC := Lib.hid (And.intro hcell hc)
  have HOK := Lib.hid hok
  rw [← hn] at hlen hmx hc
  simp only [← hn]
  clear hn hcell h hok
  obtain ⟨wo, hwo⟩ : ∃ wo, wo = w.alloc (.cells #[a0, a1, a2, a3, a4, a5, a6, a7, a8, .slice a n c, a10, a11, a12, a13, a14, a15, a16] 50) := ⟨_, rfl⟩
  have HWO := Lib.hid (show RowKit.Below w.heap.size w wo by rw [hwo]; exact (Below.refl _ w).alloc (Nat.le_refl _) _)
  have k9 : (wo.alloc (.map #[] 0)).cell? ⟨w.heap.size, 9, none⟩ = some (.slice a n c) := by rw [hwo]; exact ((Whole.new w 50 _).alloc _).cell 9
  have q1 : (Instr.makeMap 71 none).run Tryd.prog wo = .ok (.map (some wo.heap.size)) (wo.alloc (.map #[] 0)) := rfl
  go_enter Tryd.func17, Tryd.ntmps17
  go_upto_region 1 with fail
  rw [← hwo]
  clear hwo
  go_wp2
  obtain ⟨mb, hmb⟩ : ∃ mb, mb = wo.heap.size := ⟨_, rfl⟩
  have HR0 := Lib.hid (show Expand w (wo.alloc (.map #[] 0)) mb (kvR (l.take 0)) from ⟨by rw [hmb]; simpa [kvR, accum_nil] using MapK.made wo, HWO.out.alloc HWO.out.size _, by rw [hmb]; exact HWO.out.size⟩)
  obtain ⟨wm, hwm⟩ : ∃ wm, wm = wo.alloc (.map #[] 0) := ⟨_, rfl⟩
  rw [← hwm] at HR0
  rw [← hmb, ← hwm]
  clear hwm hmb q1 k9
  go_loopw [14] (fun i wr => ∃ k : Nat, k ≤ n ∧ i = .int .i64 k ∧ Expand w wr mb (kvR (l.take k))) (fun i _ => n - (intOf i).toNat)
  case atStart => exact ⟨0, Nat.zero_le _, rfl, HR0.out⟩
  case round =>
    clear HR0
    obtain ⟨wz, rfl⟩ : ∃ wz : World, wz = wr := ⟨_, rfl⟩
    obtain ⟨i, hi, rfl, hR⟩ := hrel
    have HR := Lib.hid hR
    clear hR
    by_cases hlt : i < n
    · have hln : i < l.length := by rw [← HL.out]; exact hlt
      obtain ⟨r, hr⟩ : ∃ r, l[i]? = some r := ⟨_, List.getElem?_eq_getElem hln⟩
      have HRI := Lib.hid hr
      have HRK := Lib.hid (HOK.out r (List.mem_of_getElem? hr))
      obtain ⟨b, off, rfl, hcl⟩ := HC.out.1 i hln
      have e0 : wz.cell? ⟨b, off + i * 13, none⟩ = some (.int .i64 r.kind) := cell_later HR.out.blw (hcl 0 _ (by rw [flat_at rule_len hr 0 (by decide)]; rfl))
      have e1 : wz.cell? ⟨b, off + i * 13 + 1, none⟩ = some (.int .u64 r.src.a) := cell_later HR.out.blw (hcl 1 _ (by rw [flat_at rule_len hr 1 (by decide)]; rfl))
      have e2 : wz.cell? ⟨b, off + i * 13 + 2, none⟩ = some (.int .u64 r.src.b) := cell_later HR.out.blw (hcl 2 _ (by rw [flat_at rule_len hr 2 (by decide)]; rfl))
      have e3 : wz.cell? ⟨b, off + i * 13 + 3, none⟩ = some (.int .u64 r.src.c) := cell_later HR.out.blw (hcl 3 _ (by rw [flat_at rule_len hr 3 (by decide)]; rfl))
      have e4 : wz.cell? ⟨b, off + i * 13 + 4, none⟩ = some (.int .u64 r.src.d) := cell_later HR.out.blw (hcl 4 _ (by rw [flat_at rule_len hr 4 (by decide)]; rfl))
      have e5 : wz.cell? ⟨b, off + i * 13 + 5, none⟩ = some (.int .u64 r.tgt.a) := cell_later HR.out.blw (hcl 5 _ (by rw [flat_at rule_len hr 5 (by decide)]; rfl))
      have e6 : wz.cell? ⟨b, off + i * 13 + 6, none⟩ = some (.int .u64 r.tgt.b) := cell_later HR.out.blw (hcl 6 _ (by rw [flat_at rule_len hr 6 (by decide)]; rfl))
      have e7 : wz.cell? ⟨b, off + i * 13 + 7, none⟩ = some (.int .u64 r.tgt.c) := cell_later HR.out.blw (hcl 7 _ (by rw [flat_at rule_len hr 7 (by decide)]; rfl))
      have e8 : wz.cell? ⟨b, off + i * 13 + 8, none⟩ = some (.int .u64 r.tgt.d) := cell_later HR.out.blw (hcl 8 _ (by rw [flat_at rule_len hr 8 (by decide)]; rfl))
      have e9 : wz.cell? ⟨b, off + i * 13 + 9, none⟩ = some (.bool r.self) := cell_later HR.out.blw (hcl 9 _ (by rw [flat_at rule_len hr 9 (by decide)]; rfl))
      have e10 : wz.cell? ⟨b, off + i * 13 + 10, none⟩ = some (.int .i64 r.cls) := cell_later HR.out.blw (hcl 10 _ (by rw [flat_at rule_len hr 10 (by decide)]; rfl))
      have e11 : wz.cell? ⟨b, off + i * 13 + 11, none⟩ = some (.int .u32 r.perms) := cell_later HR.out.blw (hcl 11 _ (by rw [flat_at rule_len hr 11 (by decide)]; rfl))
      have e12 : wz.cell? ⟨b, off + i * 13 + 12, none⟩ = some (.int .i64 r.cond) := cell_later HR.out.blw (hcl 12 _ (by rw [flat_at rule_len hr 12 (by decide)]; rfl))
      clear hr hcl hln
      obtain ⟨V, hV⟩ : ∃ V, V = vecOf r.kind r.perms := ⟨_, rfl⟩
      have HV := Lib.hid hV
      clear hV
      have HCV := Lib.hid (show ∀ W, Calls Tryd.prog 33 #[.int .i64 r.kind, .int .u32 r.perms] W fun e w' => e = .returned (.agg #[.int .u32 V.allow, .int .u32 V.audit, .int .u32 V.dont]) ∧ RowKit.Below W.heap.size W w' from fun W => by rw [HV.out]; exact of_vec W r.kind r.perms)
      by_cases hv : V = AVec.zero
      · have q : ∀ W : World, (Op.equalIn 10000 73 (.agg #[.int .u32 V.allow, .int .u32 V.audit, .int .u32 V.dont]) (.agg #[.int .u32 0, .int .u32 0, .int .u32 0])).run Tryd.prog W = .ok true W := fun W => by rw [eq_vec0]; simp [hv]
        have HVZ := Lib.hid hv
        clear hv
        go_wp2_with (first | (refine wpList_store_blk rfl 27 _ _ rfl wz.heap.size 0 (.agg #[.int .i64 r.kind, .int .u64 r.src.a, .int .u64 r.src.b, .int .u64 r.src.c, .int .u64 r.src.d, .int .u64 r.tgt.a, .int .u64 r.tgt.b, .int .u64 r.tgt.c, .int .u64 r.tgt.d, .bool r.self, .int .i64 r.cls, .int .u32 r.perms, .int .i64 r.cond]) rfl rfl 27 _ (Whole.new wz 27 _) (by simp [Value.cells]) size27 rfl ?_; intro w1 SE1 WE1; rw [splice_all _ _ (by rfl)] at WE1; have HSE1 := Lib.hid SE1; have HE1 := Lib.hid (show Whole w1 wz.heap.size 27 #[.int .i64 r.kind, .int .u64 r.src.a, .int .u64 r.src.b, .int .u64 r.src.c, .int .u64 r.src.d, .int .u64 r.tgt.a, .int .u64 r.tgt.b, .int .u64 r.tgt.c, .int .u64 r.tgt.d, .bool r.self, .int .i64 r.cls, .int .u32 r.perms, .int .i64 r.cond] from WE1); clear SE1 WE1 e0 e1 e2 e3 e4 e5 e6 e7 e8 e9 e10 e11 e12; have k0 : w1.cell? ⟨wz.heap.size, 0, none⟩ = some (.int .i64 r.kind) := HE1.out.cell 0; have k11 : w1.cell? ⟨wz.heap.size, 11, none⟩ = some (.int .u32 r.perms) := HE1.out.cell 11) | (go_at_call 33; go_must (refine (HCV.out _).mono ?_; rintro e w2 ⟨rfl, hb2⟩; have HB2 := Lib.hid hb2; clear hb2 k0 k11)) | (refine wpList_store_blk rfl 73 _ _ rfl w2.heap.size 0 (.agg #[.int .u32 V.allow, .int .u32 V.audit, .int .u32 V.dont]) rfl rfl 73 _ (Whole.new w2 73 _) (by simp [Value.cells]) size73 rfl ?_; intro w3 SE3 WE3; rw [splice_all _ _ (by rfl)] at WE3; have HSE3 := Lib.hid SE3; have HE3 := Lib.hid (show Whole w3 w2.heap.size 73 #[.int .u32 V.allow, .int .u32 V.audit, .int .u32 V.dont] from WE3); clear SE3 WE3 ; have HB3 := Lib.hid (ent_b3 HSE1.out HB2.out HSE3.out); have HR3 := Lib.hid (Whole.under (((Below.refl _ w2).alloc (Nat.le_refl _) _).trans (HSE3.out.below (Nat.le_refl _))) (Whole.under HB2.out HE1.out HE1.out.lt) (by have := HB2.out.size; have := HE1.out.lt; omega)); have HBV := Lib.hid (show wz.heap.size ≤ w2.heap.size from Nat.le_trans (by have := HSE1.out.size; simp at this; omega) HB2.out.size); clear HSE1 HB2 HSE3 HE1) | (refine wpList_load_row rfl 73 _ rfl w2.heap.size rfl 73 _ (0, 0) _ HE3.out Tryd.underlying73 rfl size73 ?_))
        go_roundw
        case rel => exact ⟨i + 1, by omega, by go_num, HR.out.skip HRI.out (by rw [← HV.out]; exact HVZ.out) HB3.out⟩
        case measure => simp [intOf]; omega
      · have q : ∀ W : World, (Op.equalIn 10000 73 (.agg #[.int .u32 V.allow, .int .u32 V.audit, .int .u32 V.dont]) (.agg #[.int .u32 0, .int .u32 0, .int .u32 0])).run Tryd.prog W = .ok false W := fun W => by rw [eq_vec0]; simp [hv]
        clear hv
        obtain ⟨pn, hpn⟩ : ∃ pn, pn = r.pairs.length := ⟨_, rfl⟩
        have HPN := Lib.hid hpn
        have hpl : pn ≤ 65536 := by rw [hpn]; exact pairs_len r
        clear hpn
        go_wp2_with (first | (refine wpList_store_blk rfl 27 _ _ rfl wz.heap.size 0 (.agg #[.int .i64 r.kind, .int .u64 r.src.a, .int .u64 r.src.b, .int .u64 r.src.c, .int .u64 r.src.d, .int .u64 r.tgt.a, .int .u64 r.tgt.b, .int .u64 r.tgt.c, .int .u64 r.tgt.d, .bool r.self, .int .i64 r.cls, .int .u32 r.perms, .int .i64 r.cond]) rfl rfl 27 _ (Whole.new wz 27 _) (by simp [Value.cells]) size27 rfl ?_; intro w1 SE1 WE1; rw [splice_all _ _ (by rfl)] at WE1; have HSE1 := Lib.hid SE1; have HE1 := Lib.hid (show Whole w1 wz.heap.size 27 #[.int .i64 r.kind, .int .u64 r.src.a, .int .u64 r.src.b, .int .u64 r.src.c, .int .u64 r.src.d, .int .u64 r.tgt.a, .int .u64 r.tgt.b, .int .u64 r.tgt.c, .int .u64 r.tgt.d, .bool r.self, .int .i64 r.cls, .int .u32 r.perms, .int .i64 r.cond] from WE1); clear SE1 WE1 e0 e1 e2 e3 e4 e5 e6 e7 e8 e9 e10 e11 e12; have k0 : w1.cell? ⟨wz.heap.size, 0, none⟩ = some (.int .i64 r.kind) := HE1.out.cell 0; have k11 : w1.cell? ⟨wz.heap.size, 11, none⟩ = some (.int .u32 r.perms) := HE1.out.cell 11) | (go_at_call 33; go_must (refine (HCV.out _).mono ?_; rintro e w2 ⟨rfl, hb2⟩; have HB2 := Lib.hid hb2; clear hb2 k0 k11)) | (refine wpList_store_blk rfl 73 _ _ rfl w2.heap.size 0 (.agg #[.int .u32 V.allow, .int .u32 V.audit, .int .u32 V.dont]) rfl rfl 73 _ (Whole.new w2 73 _) (by simp [Value.cells]) size73 rfl ?_; intro w3 SE3 WE3; rw [splice_all _ _ (by rfl)] at WE3; have HSE3 := Lib.hid SE3; have HE3 := Lib.hid (show Whole w3 w2.heap.size 73 #[.int .u32 V.allow, .int .u32 V.audit, .int .u32 V.dont] from WE3); clear SE3 WE3 ; have HB3 := Lib.hid (ent_b3 HSE1.out HB2.out HSE3.out); have HR3 := Lib.hid (Whole.under (((Below.refl _ w2).alloc (Nat.le_refl _) _).trans (HSE3.out.below (Nat.le_refl _))) (Whole.under HB2.out HE1.out HE1.out.lt) (by have := HB2.out.size; have := HE1.out.lt; omega)); have HBV := Lib.hid (show wz.heap.size ≤ w2.heap.size from Nat.le_trans (by have := HSE1.out.size; simp at this; omega) HB2.out.size); clear HSE1 HB2 HSE3 HE1) | (refine wpList_load_row rfl 73 _ rfl w2.heap.size rfl 73 _ (0, 0) _ HE3.out Tryd.underlying73 rfl size73 ?_) | (have hZ := HR3; clear hZ; refine wpList_load_row rfl 27 _ rfl wz.heap.size rfl 27 _ (0, 0) _ HR3.out Tryd.underlying27 rfl size27 ?_) | (go_at_call 11; go_must (refine (rule_any _ r HRK.out.ok).mono ?_; rintro e w4 ⟨v4, rfl, ho4, hb4⟩; obtain ⟨pa, pc, rfl, hpc, -, hpcell⟩ := (SliceAt.of_own ho4 (pcells_one _)).form (by decide); have HO4 := Lib.hid ho4; rw [← HPN.out] at hpc ⊢; have HPL := Lib.hid (And.intro hpcell hpc); have HB4 := Lib.hid (HB3.out.trans (hb4.mono HB3.out.size)); have HR4 := Lib.hid (Whole.under hb4 HR3.out HR3.out.lt); have HV4 := Lib.hid (Whole.under hb4 HE3.out HE3.out.lt); clear ho4 hb4 hpcell HR3 HE3)))
        have hmz := HR.out.map.lt
        have HIN := Lib.hid (show ExpIn w w4 mb wz.heap.size w2.heap.size r V pa pn pc (kvR (l.take i)) 0 from
          ⟨by simpa [ruleKV] using HR.out.keep HB4.out, HR4.out, HV4.out, HPL.out.1, by omega, by have := HBV.out; omega, fun b off e => by
            subst e
            have h1 := (HO4.out.lt b rfl).1
            have h2 := HB3.out.size
            omega⟩)
        clear HB4 HR4 HV4 HO4 HB3 HBV HPL hmz
        go_loopw [29] (fun u wq => ∃ j : Nat, j ≤ pn ∧ u = .int .i64 j ∧ ExpIn w wq mb wz.heap.size w2.heap.size r V pa pn pc (kvR (l.take i)) j) (fun u _ => pn - (intOf u).toNat)
        case atStart => exact ⟨0, Nat.zero_le _, rfl, HIN.out⟩
        case round =>
          clear HIN
          obtain ⟨j, hj, rfl, hI⟩ := hrel
          have HI := Lib.hid hI
          clear hI
          by_cases hjl : j < pn
          · have hjp : j < r.pairs.length := by rw [← HPN.out]; exact hjl
            obtain ⟨y, hy⟩ : ∃ y, r.pairs[j]? = some y := ⟨_, List.getElem?_eq_getElem hjp⟩
            have HY := Lib.hid hy
            have HYK := Lib.hid (HRK.out.key (List.mem_of_getElem? hy))
            obtain ⟨b2, off2, rfl, hcl2⟩ := HI.out.cell j hjp
            have p0 : wr.cell? ⟨b2, off2 + j * 2, none⟩ = some (.int .i64 (y.1 : Int)) := hcl2 0 _ (by unfold pcells; rw [flat_at (f := pcell) (fun _ => rfl) hy 0 (by decide)]; rfl)
            have p1 : wr.cell? ⟨b2, off2 + j * 2 + 1, none⟩ = some (.int .i64 (y.2 : Int)) := hcl2 1 _ (by unfold pcells; rw [flat_at (f := pcell) (fun _ => rfl) hy 1 (by decide)]; rfl)
            clear hy hcl2 hjp
            obtain ⟨f, hf⟩ : ∃ f, f = accum (kvR (l.take i) ++ ruleKV r (r.pairs.take j)) := ⟨_, rfl⟩
            obtain ⟨m, hm⟩ : ∃ m, m = (kvR (l.take i) ++ ruleKV r (r.pairs.take j)).length := ⟨_, rfl⟩
            have HFJ := Lib.hid (And.intro hf HV.out)
            have HMJ := Lib.hid hm
            clear hf hm
            go_upto_region 11 with (first | (refine wpList_store_blk rfl 63 _ _ rfl wr.heap.size 0 (.agg #[.int .i64 (y.1 : Int), .int .i64 (y.2 : Int)]) rfl rfl 63 _ (Whole.new wr 63 _) (by simp [Value.cells]) size63 rfl ?_; intro w5 SF1 WF1; rw [splice_all _ _ (by rfl)] at WF1; have HSF1 := Lib.hid SF1; have HF1 := Lib.hid (show Whole w5 wr.heap.size 63 #[.int .i64 (y.1 : Int), .int .i64 (y.2 : Int)] from WF1); have HR5 := Lib.hid (HSF1.out.whole (HI.out.rule.alloc _) (by have := HI.out.rule.lt; omega)); clear SF1 WF1 p0 p1; have q0 : w5.cell? ⟨wr.heap.size, 0, none⟩ = some (.int .i64 (y.1 : Int)) := HF1.out.cell 0; have q1 : w5.cell? ⟨wr.heap.size, 1, none⟩ = some (.int .i64 (y.2 : Int)) := HF1.out.cell 1; have k10 : w5.cell? ⟨wz.heap.size, 10, none⟩ = some (.int .i64 r.cls) := HR5.out.cell 10; have k12 : w5.cell? ⟨wz.heap.size, 12, none⟩ = some (.int .i64 r.cond) := HR5.out.cell 12) | (refine wpList_store_blk rfl 76 _ _ rfl w5.heap.size 0 (.agg #[.int .i64 (y.1 : Int), .int .i64 (y.2 : Int), .int .i64 r.cls, .int .i64 r.cond]) rfl rfl 76 _ (Whole.new w5 76 _) (by simp [Value.cells]) size76 rfl ?_; intro w6 SF2 WF2; rw [splice_all _ _ (by rfl)] at WF2; have HSF2 := Lib.hid SF2; have HF2 := Lib.hid (show Whole w6 w5.heap.size 76 #[.int .i64 (y.1 : Int), .int .i64 (y.2 : Int), .int .i64 r.cls, .int .i64 r.cond] from WF2); clear SF2 WF2 q0 q1 k10 k12; have HB6 := Lib.hid (ent_b6 HSF1.out HSF2.out)))
            have HM6 := Lib.hid (show MapK w6 mb m f by rw [HFJ.out.1, HMJ.out]; exact HI.out.exp.map.kept (HB6.out.block _ HI.out.exp.map.lt))
            have HV6 := Lib.hid (Whole.under HB6.out HI.out.vec HI.out.vec.lt)
            have HIO := HI
            clear HSF1 HF1 HSF2 HR5 HI
            refine wp_region_last (fun w w' => Below w.heap.size w w') [some 42, some 43, some 44, some 45, some 46, some 47, some 48] [isV (.map (some mb)), isV (.agg #[.int .i64 (y.1 : Int), .int .i64 (y.2 : Int), .int .i64 r.cls, .int .i64 r.cond]), isV (.map (some mb)), isV (.agg #[.int .i64 (y.1 : Int), .int .i64 (y.2 : Int), .int .i64 r.cls, .int .i64 r.cond]), isV (.agg #[.int .u32 (f (pkey r y)).allow, .int .u32 (f (pkey r y)).audit, .int .u32 (f (pkey r y)).dont]), isV (.agg #[.int .u32 V.allow, .int .u32 V.audit, .int .u32 V.dont]), isV (.agg #[.int .u32 ((f (pkey r y)).or V).allow, .int .u32 ((f (pkey r y)).or V).audit, .int .u32 ((f (pkey r y)).or V).dont])] (fun _ w' => RowKit.Below w6.heap.size w6 w') 7 (by kernel_rfl) (by kernel_rfl) (by kernel_rfl) rfl (by decide) rfl rfl ((Below.refl _ _).drew) ⟨lasts_is _, lasts_is _, lasts_is _, lasts_is _, lasts_is _, lasts_is _, lasts_is _, trivial⟩ ⟨(fun _ => lastsR_is _), (fun _ => lastsR_is _), (fun _ => lastsR_is _), (fun _ => lastsR_is _), (fun _ => lastsR_is _), (fun _ => lastsR_is _), (fun _ => lastsR_is _), trivial⟩ ⟨?_, ?_, ?_, ?_, ?_, ?_, ?_, ?_⟩
            · intro L a wx Q' hL hi H F hK
              try dsimp only at hi
              have h3 : a.tmps[3]? = some (.map (some mb)) := F 3 rfl
              have HI := Lib.hid hi
              clear H F hi hL
              go_wp2_with fail
              exact hK _ _ (Below.refl _ _) HI.out rfl
            · intro L a wx Q' hL hi H F hK
              try dsimp only at hi
              have h9 : a.tmps[9]? = some (.pointer (some ⟨w5.heap.size, 0, none⟩)) := F 9 rfl
              have HI := Lib.hid hi
              clear H F hi hL
              have kq0 : wx.cell? ⟨w5.heap.size, 0, none⟩ = some (.int .i64 (y.1 : Int)) := (Whole.under HI.out HF2.out (Whole.lt HF2.out)).cell 0
              have kq1 : wx.cell? ⟨w5.heap.size, 1, none⟩ = some (.int .i64 (y.2 : Int)) := (Whole.under HI.out HF2.out (Whole.lt HF2.out)).cell 1
              have kq2 : wx.cell? ⟨w5.heap.size, 2, none⟩ = some (.int .i64 r.cls) := (Whole.under HI.out HF2.out (Whole.lt HF2.out)).cell 2
              have kq3 : wx.cell? ⟨w5.heap.size, 3, none⟩ = some (.int .i64 r.cond) := (Whole.under HI.out HF2.out (Whole.lt HF2.out)).cell 3
              go_wp2_with fail
              exact hK _ _ (Below.refl _ _) HI.out rfl
            · intro L a wx Q' hL hi H F hK
              try dsimp only at hi
              have h3 : a.tmps[3]? = some (.map (some mb)) := F 3 rfl
              have HI := Lib.hid hi
              clear H F hi hL
              go_wp2_with fail
              exact hK _ _ (Below.refl _ _) HI.out rfl
            · intro L a wx Q' hL hi H F hK
              try dsimp only at hi
              have h9 : a.tmps[9]? = some (.pointer (some ⟨w5.heap.size, 0, none⟩)) := F 9 rfl
              have HI := Lib.hid hi
              clear H F hi hL
              have kq0 : wx.cell? ⟨w5.heap.size, 0, none⟩ = some (.int .i64 (y.1 : Int)) := (Whole.under HI.out HF2.out (Whole.lt HF2.out)).cell 0
              have kq1 : wx.cell? ⟨w5.heap.size, 1, none⟩ = some (.int .i64 (y.2 : Int)) := (Whole.under HI.out HF2.out (Whole.lt HF2.out)).cell 1
              have kq2 : wx.cell? ⟨w5.heap.size, 2, none⟩ = some (.int .i64 r.cls) := (Whole.under HI.out HF2.out (Whole.lt HF2.out)).cell 2
              have kq3 : wx.cell? ⟨w5.heap.size, 3, none⟩ = some (.int .i64 r.cond) := (Whole.under HI.out HF2.out (Whole.lt HF2.out)).cell 3
              go_wp2_with fail
              exact hK _ _ (Below.refl _ _) HI.out rfl
            · intro L a wx Q' hL hi H F hK
              try dsimp only at hi
              obtain ⟨_, h44, rfl⟩ := H 2 ⟨.data, by simp, rfl⟩ _ rfl
              replace h44 := h44 _ rfl
              obtain ⟨_, h45, rfl⟩ := H 3 ⟨.data, by simp, rfl⟩ _ rfl
              replace h45 := h45 _ rfl
              have HI := Lib.hid hi
              clear H F hi hL
              have q : (Instr.lookup 71 (.map (some mb)) (.agg #[.int .i64 (y.1 : Int), .int .i64 (y.2 : Int), .int .i64 r.cls, .int .i64 r.cond]) false).run Tryd.prog wx = .ok (.agg #[.int .u32 (f (pkey r y)).allow, .int .u32 (f (pkey r y)).audit, .int .u32 (f (pkey r y)).dont]) wx := (MapK.kept HM6.out (HI.out.block _ HM6.out.lt)).look HYK.out
              go_wp2_with fail
              exact hK _ _ (Below.refl _ _) HI.out rfl
            · intro L a wx Q' hL hi H F hK
              try dsimp only at hi
              have h6 : a.tmps[6]? = some (.pointer (some ⟨w2.heap.size, 0, none⟩)) := F 6 rfl
              have HI := Lib.hid hi
              clear H F hi hL
              have kq0 : wx.cell? ⟨w2.heap.size, 0, none⟩ = some (.int .u32 V.allow) := (Whole.under HI.out HV6.out (Whole.lt HV6.out)).cell 0
              have kq1 : wx.cell? ⟨w2.heap.size, 1, none⟩ = some (.int .u32 V.audit) := (Whole.under HI.out HV6.out (Whole.lt HV6.out)).cell 1
              have kq2 : wx.cell? ⟨w2.heap.size, 2, none⟩ = some (.int .u32 V.dont) := (Whole.under HI.out HV6.out (Whole.lt HV6.out)).cell 2
              go_wp2_with fail
              exact hK _ _ (Below.refl _ _) HI.out rfl
            · intro L a wx Q' hL hi H F hK
              try dsimp only at hi
              obtain ⟨_, h46, rfl⟩ := H 4 ⟨.data, by simp, rfl⟩ _ rfl
              replace h46 := h46 _ rfl
              obtain ⟨_, h47, rfl⟩ := H 5 ⟨.data, by simp, rfl⟩ _ rfl
              replace h47 := h47 _ rfl
              have HI := Lib.hid hi
              clear H F hi hL
              go_wp2_with (go_at_call 34; go_must (refine (vor_any wx (f (pkey r y)) V).mono ?_; rintro e w1 ⟨rfl, hb1⟩))
              exact hK _ _ hb1 (HI.out.trans (hb1.mono HI.out.size)) rfl
            · intro a wx hl L hi hL Q' hK
              try dsimp only at hi
              have HB := Lib.hid hi
              clear hi hL
              obtain ⟨_, rfl, _, rfl, _, rfl, _, rfl, _, rfl, _, rfl, _, rfl, rfl⟩ := hl
              simp only [List.setIfInBounds_toArray, List.set_cons_zero, List.set_cons_succ]
              go_wp2_with (refine wpList_put _ rfl (.tmp 42) (.tmp 43) (.tmp 48) 71 rfl (.map (some mb)) (.agg #[.int .i64 (y.1 : Int), .int .i64 (y.2 : Int), .int .i64 r.cls, .int .i64 r.cond]) (.agg #[.int .u32 ((f (pkey r y)).or V).allow, .int .u32 ((f (pkey r y)).or V).audit, .int .u32 ((f (pkey r y)).or V).dont]) rfl rfl rfl (fun w' => MapK w' mb (m + 1) (fun x => if x = (pkey r y) then ((f (pkey r y)).or V) else f x) ∧ wx.grownBy w' (some mb) ∧ w'.heap.size = wx.heap.size) ((MapK.kept HM6.out (HB.out.block _ HM6.out.lt)).put HYK.out (AVec.or_ok _ _)) ?_; intro w7 hp; have HP := Lib.hid hp; clear hp)
              go_roundw
              case rel => exact ⟨j + 1, by omega, by go_num, HIO.out.step HFJ.out HMJ.out HB6.out HB.out HP.out.1 HP.out.2.1 HP.out.2.2 HY.out⟩
              case measure => simp [intOf]; omega
          · obtain rfl : j = pn := by omega
            have HX := Lib.hid (show Expand w wr mb (kvR (l.take (i + 1))) by
              have h := HI.out.exp
              rw [HPN.out, List.take_length] at h
              rw [kvR_take HRI.out]
              exact h)
            go_wp2_with fail
            go_roundw
            case rel => exact ⟨i + 1, by omega, by go_num, HX.out⟩
            case measure => simp [intOf]; omega
    · obtain rfl : i = n := by omega
      have hML : (kvR (l.take i)).length ≤ 65536000 := by have := kvR_len (l.take i); have := List.length_take_le i l; omega
      have HC1 := Lib.hid (entries_canon wz mb _ _ HR.out.map (Nat.le_trans hML (by decide)))
      have HML := Lib.hid hML
      clear hlen hlt hi hmx hML
      go_wp2_with (go_at_call 35; go_must (refine HC1.out.mono ?_; rintro e w1 ⟨v1, l1, rfl, hq⟩; have HQ := Lib.hid hq; clear hq))
      go_ret
      obtain ⟨hc1, ho1, hl1, hs1, hb1⟩ := HQ.out
      refine ⟨_, l1, rfl, ?_, ho1, Nat.le_trans hl1 HML.out, hs1, HR.out.blw.trans (hb1.mono HR.out.blw.size)⟩
      rwa [HL.out, List.take_length] at hc1
end Go.Proofs.YtmkfabdkadocdaaDoor

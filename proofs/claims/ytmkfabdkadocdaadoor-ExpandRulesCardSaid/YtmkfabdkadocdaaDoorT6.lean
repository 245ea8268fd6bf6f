import Derived.Test.YtmkfabdkadocdaaDoorT5
/-
  expand.targets.
-/
namespace Go.Proofs.YtmkfabdkadocdaaDoor
open Go Go.WideMaps Go.RowKit Go.Sort

theorem size83 : (Tryd.prog.info? 83).map (·.size) = some 4 := by kernel_rfl
def kv3 (p : Int × Int) : Value × Value := (.int .i64 p.1, .int .u32 p.2)
def D3 (x : AEntry) : List (Int × Int) := [(3, x.dont), (2, x.audit), (1, x.allow)]
theorem nil_none (w : World) : Sem.run Tryd.prog (binOp .eql 84 (.map none) (.map none)) w = .ok (.bool true) w := by kernel_rfl
theorem nil_some (b : Nat) (w : World) : Sem.run Tryd.prog (binOp .eql 84 (.map (some b)) (.map none)) w = .ok (.bool false) w := by kernel_rfl
theorem lit_put {w : World} {b : Nat} {D : List (Int × Int)} {n v : Int} (h : MapAt w Tryd.prog 3 b (D.map kv3)) (hn : -9223372036854775808 ≤ n ∧ n < 9223372036854775808) (hno : ∀ p ∈ D, p.1 ≠ n) :
    ∃ w', (Instr.mapUpdate 99 (.map (some b)) (.int .i64 n) (.int .u32 v)).run Tryd.prog w = .ok () w' ∧ (MapAt w' Tryd.prog 3 b (((n, v) :: D).map kv3) ∧ w.grownBy w' (some b) ∧ w'.heap.size = w.heap.size) := by
  obtain ⟨l, hl⟩ := key3 (n := n) hn
  obtain ⟨w', h1, h2, h3, h4⟩ := h.put_new (val := .int .u32 v) (Maps.int_keyed Tryd.underlying3) Tryd.underlying99 hl (by
    intro p hp e
    obtain ⟨q, hq, rfl⟩ := List.mem_map.1 hp
    simp [kv3] at e
    exact hno q hq e)
  exact ⟨w', h1, h2, h3, h4⟩
/-- Some of an entry's kinds are in the map. -/
structure TIn (w wr : World) (mb N xb m3 r3 : Nat) (S0 : List (AEntry × Int)) (x : AEntry) (F : Grp → Option Nat) (done : List (Int × Int)) (left : List (Value × Value)) : Prop where
  map : TMap wr w.heap.size mb (N + done.length) (S0 ++ done.map fun p => (x, p.1)) F (fun b => b = m3 ∨ b = r3 ∨ b = xb)
  perm : ((D3 x).map kv3).Perm (left ++ done.map kv3)
  rng : Ranging wr Tryd.prog 3 m3 r3 ((D3 x).map kv3) left
  box : Whole wr xb 61 #[.int .i64 x.src, .int .i64 x.tgt, .int .i64 x.cls, .int .i64 x.cond, .int .u32 x.allow, .int .u32 x.audit, .int .u32 x.dont]
  blw : RowKit.Below w.heap.size w wr
  m3b : w.heap.size ≤ m3
  r3b : w.heap.size ≤ r3
  xr : xb ≠ r3
theorem TIn.next {w wr wn : World} {mb N xb m3 r3 : Nat} {S0 : List (AEntry × Int)} {x : AEntry} {F : Grp → Option Nat} {done : List (Int × Int)} {left left' : List (Value × Value)} {p : Int × Int} (h : TIn w wr mb N xb m3 r3 S0 x F done left) (hp : left.Perm (kv3 p :: left'))
    (hr : Ranging wn Tryd.prog 3 m3 r3 ((D3 x).map kv3) left') (hg : wr.grownBy wn (some r3)) (hs : wn.heap.size = wr.heap.size) :
    TMap wn w.heap.size mb (N + done.length) (S0 ++ done.map fun p => (x, p.1)) F (fun b => b = m3 ∨ b = r3 ∨ b = xb) ∧ ((D3 x).map kv3).Perm (left' ++ (done ++ [p]).map kv3) ∧ Whole wn xb 61 #[.int .i64 x.src, .int .i64 x.tgt, .int .i64 x.cls, .int .i64 x.cond, .int .u32 x.allow, .int .u32 x.audit, .int .u32 x.dont] ∧ RowKit.Below w.heap.size w wn := by
  refine ⟨h.map.kept fun b hb hz => hg.block b hb (fun e => hz (.inr (.inl (by cases e; rfl)))), ?_, h.box.grown hg (fun e => h.xr (by cases e; rfl)), h.blw.trans (Below.of_iter hg h.r3b h.blw.size hs)⟩
  refine h.perm.trans ((hp.append_right _).trans ?_)
  rw [List.map_append, List.map_singleton, ← List.append_assoc]
  exact (List.perm_append_singleton _ _).symm
/-- One more has been read. -/
structure TMid (w wn : World) (mb N xb m3 r3 : Nat) (S0 : List (AEntry × Int)) (x : AEntry) (F : Grp → Option Nat) (done : List (Int × Int)) (p : Int × Int) (left : List (Value × Value)) : Prop where
  map : TMap wn w.heap.size mb (N + done.length) (S0 ++ done.map fun p => (x, p.1)) F (fun b => b = m3 ∨ b = r3 ∨ b = xb)
  perm : ((D3 x).map kv3).Perm (left ++ (done ++ [p]).map kv3)
  rng : Ranging wn Tryd.prog 3 m3 r3 ((D3 x).map kv3) left
  box : Whole wn xb 61 #[.int .i64 x.src, .int .i64 x.tgt, .int .i64 x.cls, .int .i64 x.cond, .int .u32 x.allow, .int .u32 x.audit, .int .u32 x.dont]
  blw : RowKit.Below w.heap.size w wn
  m3b : w.heap.size ≤ m3
  r3b : w.heap.size ≤ r3
  xr : xb ≠ r3
theorem TMid.skip {w wn : World} {mb N xb m3 r3 : Nat} {S0 : List (AEntry × Int)} {x : AEntry} {F : Grp → Option Nat} {done : List (Int × Int)} {p : Int × Int} {left : List (Value × Value)} (h : TMid w wn mb N xb m3 r3 S0 x F done p left) (hz : x.vec p.1 = 0) : TIn w wn mb N xb m3 r3 S0 x F (done ++ [p]) left := by
  refine ⟨?_, h.perm, h.rng, h.box, h.blw, h.m3b, h.r3b, h.xr⟩
  rw [List.map_append, List.map_singleton, ← List.append_assoc, List.length_append]
  exact (h.map.say (TT_zero _ hz)).more (by simp)
theorem TMid.step {w wn w8 wx w9 : World} {mb N xb m3 r3 b : Nat} {S0 S1 : List (AEntry × Int)} {x : AEntry} {F F1 : Grp → Option Nat} {done : List (Int × Int)} {kd v : Int} {left : List (Value × Value)} (h : TMid w wn mb N xb m3 r3 S0 x F done (kd, v) left) (hb8 : RowKit.Below w.heap.size w w8 ∧ Ranging w8 Tryd.prog 3 m3 r3 ((D3 x).map kv3) left ∧ Whole w8 xb 61 #[.int .i64 x.src, .int .i64 x.tgt, .int .i64 x.cls, .int .i64 x.cond, .int .u32 x.allow, .int .u32 x.audit, .int .u32 x.dont]) (hbx : RowKit.Below w8.heap.size w8 wx)
    (hT : TMap w9 w.heap.size mb (N + done.length + 1) (S1 ++ [(x, kd)]) F1 (fun b => b = m3 ∨ b = r3 ∨ b = xb)) (hg : wx.grownBy w9 (some b)) (hs : w9.heap.size = wx.heap.size) (hbb : w.heap.size ≤ b) (hz : ¬ (b = m3 ∨ b = r3 ∨ b = xb)) (hS : S1 = S0 ++ done.map fun p => (x, p.1)) (_ : True) : TIn w w9 mb N xb m3 r3 S0 x F1 (done ++ [(kd, v)]) left := by
  obtain ⟨b8, r8, x8⟩ := hb8
  have hlm := r8.map.lt
  have hlr := r8.lt
  have hsz := hbx.size
  refine ⟨?_, h.perm, (r8.kept (hbx.block _ hlm) (hbx.block _ hlr)).kept (hg.block _ (by omega) fun e => hz (.inl (by cases e; rfl))) (hg.block _ (by omega) fun e => hz (.inr (.inl (by cases e; rfl)))), (Whole.under hbx x8 x8.lt).grown hg (fun e => hz (.inr (.inr (by cases e; rfl)))), (b8.trans (hbx.mono b8.size)).trans (Below.of_iter hg hbb (Nat.le_trans b8.size hbx.size) hs), h.m3b, h.r3b, h.xr⟩
  rw [List.map_append, List.map_singleton, ← List.append_assoc, List.length_append, ← hS]
  exact hT
theorem bl_ins {w w1 w2 : World} {b B : Nat} (h : RowKit.Below B w w1) (hg : w1.grownBy w2 (some b) ∧ w2.heap.size = w1.heap.size) (hb : B ≤ b) (hB : B ≤ w1.heap.size) : RowKit.Below B w w2 := h.trans (Below.of_iter hg.1 hb hB hg.2)
theorem TMid.to7 {w wn w7 : World} {mb N xb m3 r3 : Nat} {S0 : List (AEntry × Int)} {x : AEntry} {F : Grp → Option Nat} {done : List (Int × Int)} {p : Int × Int} {left : List (Value × Value)} (h : TMid w wn mb N xb m3 r3 S0 x F done p left) (hb : RowKit.Below wn.heap.size wn w7) :
    RowKit.Below w.heap.size w w7 ∧ Ranging w7 Tryd.prog 3 m3 r3 ((D3 x).map kv3) left ∧ Whole w7 xb 61 #[.int .i64 x.src, .int .i64 x.tgt, .int .i64 x.cls, .int .i64 x.cond, .int .u32 x.allow, .int .u32 x.audit, .int .u32 x.dont] :=
  ⟨h.blw.trans (hb.mono h.blw.size), h.rng.kept (hb.block _ h.rng.map.lt) (hb.block _ h.rng.lt), Whole.under hb h.box h.box.lt⟩
theorem TMid.to8 {w wn wa w8 : World} {mb N xb m3 r3 : Nat} {S0 : List (AEntry × Int)} {x : AEntry} {F : Grp → Option Nat} {done : List (Int × Int)} {p : Int × Int} {left : List (Value × Value)} (h : TMid w wn mb N xb m3 r3 S0 x F done p left) (hb : RowKit.Below wn.heap.size wn wa) (hg : wa.grownBy w8 (some mb) ∧ w8.heap.size = wa.heap.size) :
    RowKit.Below w.heap.size w w8 ∧ Ranging w8 Tryd.prog 3 m3 r3 ((D3 x).map kv3) left ∧ Whole w8 xb 61 #[.int .i64 x.src, .int .i64 x.tgt, .int .i64 x.cls, .int .i64 x.cond, .int .u32 x.allow, .int .u32 x.audit, .int .u32 x.dont] := by
  obtain ⟨h1, h2, h3⟩ := h.to7 hb
  have hz := h.map.zmb
  refine ⟨bl_ins h1 hg h.map.bmb h1.size, h2.kept (hg.1.block _ h2.map.lt fun e => hz (.inl (by cases e; rfl))) (hg.1.block _ h2.lt fun e => hz (.inr (.inl (by cases e; rfl)))), h3.grown hg.1 (fun e => hz (.inr (.inr (by cases e; rfl))))⟩
theorem aside3 {a b c d : Nat} (h1 : b < a) (h2 : c < a) (h3 : d < a) : ¬ (fun z => z = b ∨ z = c ∨ z = d) a := by
  rintro (h | h | h) <;> omega
theorem D3_mem {x : AEntry} {kd v : Int} (h : (kd, v) ∈ D3 x) : (kd = 1 ∨ kd = 2 ∨ kd = 3) ∧ x.vec kd = v := by
  simp [D3] at h
  rcases h with ⟨rfl, rfl⟩ | ⟨rfl, rfl⟩ | ⟨rfl, rfl⟩ <;> simp [AEntry.vec]
theorem AEntry.Ok.vec {x : AEntry} (h : x.Ok) (k : Int) : U32 (x.vec k) := by
  unfold AEntry.vec
  split
  · exact h.2.allow
  · split
    · exact h.2.audit
    · exact h.2.dont
theorem kv3_perm {x : AEntry} {done : List (Int × Int)} (h : ((D3 x).map kv3).Perm (done.map kv3)) : (D3 x).Perm done := by
  have e : ∀ l : List (Int × Int), (l.map kv3).map (fun q => match q with | (.int _ a, .int _ b) => (a, b) | _ => (0, 0)) = l := fun l => by
    rw [List.map_map]
    conv => rhs; rw [← List.map_id l]
    exact List.map_congr_left fun p _ => rfl
  have := h.map (fun q : Value × Value => match q with | (.int _ a, .int _ b) => (a, b) | _ => ((0 : Int), (0 : Int)))
  rwa [e, e] at this
theorem TIn.done {w wr : World} {mb N xb m3 r3 : Nat} {S0 : List (AEntry × Int)} {x : AEntry} {F : Grp → Option Nat} {done : List (Int × Int)} (h : TIn w wr mb N xb m3 r3 S0 x F done []) (hx : x.inR = true) : TMap wr w.heap.size mb (N + 3) (S0 ++ kinds x) F (fun _ => False) := by
  have hp := kv3_perm (by simpa using h.perm)
  have hl := hp.length_eq
  have h2 := h.map.drop
  rw [← hl] at h2
  refine h2.say fun g s => TT_ext (fun p => ?_) g s
  unfold kinds
  rw [if_pos hx, List.mem_append, List.mem_append, (hp.map fun p => (x, p.1)).mem_iff.symm]
  simp only [D3, List.map_cons, List.map_nil, List.mem_cons, List.not_mem_nil, or_false]
  constructor <;> (rintro (h | h | h | h) <;> simp [h])
set_option maxRecDepth 100000 in
set_option maxHeartbeats 2000000 in
theorem targets_any (w : World) (v : Value) (l : List AEntry) (h : SliceAt w v 7 l.length (l.flatMap AEntry.cells)) (hok : ∀ x ∈ l, x.Ok) :
    Calls Tryd.prog 37 #[v] w fun e w' => ∃ mb F, e = .returned (.map (some mb)) ∧ TMap w' w.heap.size mb (3 * l.length) (pairsOf l) F (fun _ => False) ∧ RowKit.Below w.heap.size w w' := by
  obtain ⟨n, hn⟩ : ∃ n, n = l.length := ⟨_, rfl⟩
  obtain ⟨a, c, rfl, hc, hmx, hcell⟩ := h.form (by decide)
  have HL := Lib.hid hn
  have HC := Lib.hid (And.intro hcell hc)
  have HOK := Lib.hid hok
  rw [← hn] at hmx hc
  simp only [← hn]
  clear hn hcell h hok
  have q1 : (Instr.makeMap 80 none).run Tryd.prog w = .ok (.map (some w.heap.size)) (w.alloc (.map #[] 0)) := rfl
  go_enter Tryd.func37, Tryd.ntmps37
  go_wp2_with fail
  obtain ⟨mb, hmb⟩ : ∃ mb, mb = w.heap.size := ⟨_, rfl⟩
  have HR0 := Lib.hid (show TMap (w.alloc (.map #[] 0)) w.heap.size mb (3 * 0) (pairsOf (l.take 0)) (fun _ => none) (fun _ => False) ∧ RowKit.Below w.heap.size w (w.alloc (.map #[] 0)) from ⟨by rw [hmb]; exact TMap.made w (Nat.le_refl _), (Below.refl _ w).alloc (Nat.le_refl _) _⟩)
  obtain ⟨wm, hwm⟩ : ∃ wm, wm = w.alloc (.map #[] 0) := ⟨_, rfl⟩
  rw [← hwm] at HR0
  rw [← hmb, ← hwm]
  clear hwm hmb q1
  go_loopw [12] (fun i wr => ∃ (k : Nat) (F : Grp → Option Nat), k ≤ n ∧ i = .int .i64 k ∧ TMap wr w.heap.size mb (3 * k) (pairsOf (l.take k)) F (fun _ => False) ∧ RowKit.Below w.heap.size w wr) (fun i _ => n - (intOf i).toNat)
  case atStart => exact ⟨0, _, Nat.zero_le _, rfl, HR0.out⟩
  case round =>
    clear HR0
    obtain ⟨wz, rfl⟩ : ∃ wz : World, wz = wr := ⟨_, rfl⟩
    obtain ⟨i, F, hi, rfl, hR⟩ := hrel
    have HR := Lib.hid hR
    clear hR
    by_cases hlt : i < n
    · have hln : i < l.length := by rw [← HL.out]; exact hlt
      obtain ⟨x, hx⟩ : ∃ x, l[i]? = some x := ⟨_, List.getElem?_eq_getElem hln⟩
      have HXI := Lib.hid hx
      have HXK := Lib.hid (HOK.out x (List.mem_of_getElem? hx))
      obtain ⟨b, off, rfl, hcl⟩ := HC.out.1 i hln
      have e0 : wz.cell? ⟨b, off + i * 7, none⟩ = some (.int .i64 x.src) := cell_later HR.out.2 (hcl 0 _ (by rw [flat_at entry_len hx 0 (by decide)]; rfl))
      have e1 : wz.cell? ⟨b, off + i * 7 + 1, none⟩ = some (.int .i64 x.tgt) := cell_later HR.out.2 (hcl 1 _ (by rw [flat_at entry_len hx 1 (by decide)]; rfl))
      have e2 : wz.cell? ⟨b, off + i * 7 + 2, none⟩ = some (.int .i64 x.cls) := cell_later HR.out.2 (hcl 2 _ (by rw [flat_at entry_len hx 2 (by decide)]; rfl))
      have e3 : wz.cell? ⟨b, off + i * 7 + 3, none⟩ = some (.int .i64 x.cond) := cell_later HR.out.2 (hcl 3 _ (by rw [flat_at entry_len hx 3 (by decide)]; rfl))
      have e4 : wz.cell? ⟨b, off + i * 7 + 4, none⟩ = some (.int .u32 x.allow) := cell_later HR.out.2 (hcl 4 _ (by rw [flat_at entry_len hx 4 (by decide)]; rfl))
      have e5 : wz.cell? ⟨b, off + i * 7 + 5, none⟩ = some (.int .u32 x.audit) := cell_later HR.out.2 (hcl 5 _ (by rw [flat_at entry_len hx 5 (by decide)]; rfl))
      have e6 : wz.cell? ⟨b, off + i * 7 + 6, none⟩ = some (.int .u32 x.dont) := cell_later HR.out.2 (hcl 6 _ (by rw [flat_at entry_len hx 6 (by decide)]; rfl))
      clear hx hcl hln
      by_cases h1 : x.src < 0
      · have hd1 : decide (x.src < 0) = true := by simp [h1]
        have HNR := Lib.hid (show x.inR = false by simp [AEntry.inR]; omega)
        clear h1 
        go_wp2_with (refine wpList_store_blk rfl 61 _ _ rfl wz.heap.size 0 (.agg #[.int .i64 x.src, .int .i64 x.tgt, .int .i64 x.cls, .int .i64 x.cond, .int .u32 x.allow, .int .u32 x.audit, .int .u32 x.dont]) rfl rfl 61 _ (Whole.new wz 61 _) (by simp [Value.cells]) size61 rfl ?_; intro w1 SE1 WE1; rw [splice_all _ _ (by rfl)] at WE1; have HSE1 := Lib.hid SE1; have HE1 := Lib.hid (show Whole w1 wz.heap.size 61 #[.int .i64 x.src, .int .i64 x.tgt, .int .i64 x.cls, .int .i64 x.cond, .int .u32 x.allow, .int .u32 x.audit, .int .u32 x.dont] from WE1); clear SE1 WE1 e0 e1 e2 e3 e4 e5 e6; have HBz := Lib.hid (((Below.refl _ wz).alloc (Nat.le_refl _) _).trans (HSE1.out.below (Nat.le_refl _))); have q2 : (Instr.makeMap 99 none).run Tryd.prog w1 = .ok (.map (some w1.heap.size)) (w1.alloc (.map #[] 0)) := rfl; have k0 : w1.cell? ⟨wz.heap.size, 0, none⟩ = some (.int .i64 x.src) := HE1.out.cell 0; have k1 : w1.cell? ⟨wz.heap.size, 1, none⟩ = some (.int .i64 x.tgt) := HE1.out.cell 1; have k4 : (w1.alloc (.map #[] 0)).cell? ⟨wz.heap.size, 4, none⟩ = some (.int .u32 x.allow) := (HE1.out.alloc _).cell 4)
        go_roundw
        case rel => exact ⟨i + 1, F, by omega, by go_num, by rw [pairsOf_next HXI.out, kinds, HNR.out]; simpa using ((HR.out.1.under HBz.out).more (by omega)), HR.out.2.trans (HBz.out.mono HR.out.2.size)⟩
        case measure => simp [intOf]; omega
      · by_cases h2 : 256 ≤ x.src
        · have hd1 : decide (x.src < 0) = false := by simp [h1]
          have hd2 : decide (256 ≤ x.src) = true := by simp [h2]
          have HNR := Lib.hid (show x.inR = false by simp [AEntry.inR]; omega)
          clear h1 h2
          go_wp2_with (refine wpList_store_blk rfl 61 _ _ rfl wz.heap.size 0 (.agg #[.int .i64 x.src, .int .i64 x.tgt, .int .i64 x.cls, .int .i64 x.cond, .int .u32 x.allow, .int .u32 x.audit, .int .u32 x.dont]) rfl rfl 61 _ (Whole.new wz 61 _) (by simp [Value.cells]) size61 rfl ?_; intro w1 SE1 WE1; rw [splice_all _ _ (by rfl)] at WE1; have HSE1 := Lib.hid SE1; have HE1 := Lib.hid (show Whole w1 wz.heap.size 61 #[.int .i64 x.src, .int .i64 x.tgt, .int .i64 x.cls, .int .i64 x.cond, .int .u32 x.allow, .int .u32 x.audit, .int .u32 x.dont] from WE1); clear SE1 WE1 e0 e1 e2 e3 e4 e5 e6; have HBz := Lib.hid (((Below.refl _ wz).alloc (Nat.le_refl _) _).trans (HSE1.out.below (Nat.le_refl _))); have q2 : (Instr.makeMap 99 none).run Tryd.prog w1 = .ok (.map (some w1.heap.size)) (w1.alloc (.map #[] 0)) := rfl; have k0 : w1.cell? ⟨wz.heap.size, 0, none⟩ = some (.int .i64 x.src) := HE1.out.cell 0; have k1 : w1.cell? ⟨wz.heap.size, 1, none⟩ = some (.int .i64 x.tgt) := HE1.out.cell 1; have k4 : (w1.alloc (.map #[] 0)).cell? ⟨wz.heap.size, 4, none⟩ = some (.int .u32 x.allow) := (HE1.out.alloc _).cell 4)
          go_roundw
          case rel => exact ⟨i + 1, F, by omega, by go_num, by rw [pairsOf_next HXI.out, kinds, HNR.out]; simpa using ((HR.out.1.under HBz.out).more (by omega)), HR.out.2.trans (HBz.out.mono HR.out.2.size)⟩
          case measure => simp [intOf]; omega
        · by_cases h3 : x.tgt < 0
          · have hd1 : decide (x.src < 0) = false := by simp [h1]
            have hd2 : decide (256 ≤ x.src) = false := by simp; omega
            have hd3 : decide (x.tgt < 0) = true := by simp [h3]
            have HNR := Lib.hid (show x.inR = false by simp [AEntry.inR]; omega)
            clear h1 h2 h3
            go_wp2_with (refine wpList_store_blk rfl 61 _ _ rfl wz.heap.size 0 (.agg #[.int .i64 x.src, .int .i64 x.tgt, .int .i64 x.cls, .int .i64 x.cond, .int .u32 x.allow, .int .u32 x.audit, .int .u32 x.dont]) rfl rfl 61 _ (Whole.new wz 61 _) (by simp [Value.cells]) size61 rfl ?_; intro w1 SE1 WE1; rw [splice_all _ _ (by rfl)] at WE1; have HSE1 := Lib.hid SE1; have HE1 := Lib.hid (show Whole w1 wz.heap.size 61 #[.int .i64 x.src, .int .i64 x.tgt, .int .i64 x.cls, .int .i64 x.cond, .int .u32 x.allow, .int .u32 x.audit, .int .u32 x.dont] from WE1); clear SE1 WE1 e0 e1 e2 e3 e4 e5 e6; have HBz := Lib.hid (((Below.refl _ wz).alloc (Nat.le_refl _) _).trans (HSE1.out.below (Nat.le_refl _))); have q2 : (Instr.makeMap 99 none).run Tryd.prog w1 = .ok (.map (some w1.heap.size)) (w1.alloc (.map #[] 0)) := rfl; have k0 : w1.cell? ⟨wz.heap.size, 0, none⟩ = some (.int .i64 x.src) := HE1.out.cell 0; have k1 : w1.cell? ⟨wz.heap.size, 1, none⟩ = some (.int .i64 x.tgt) := HE1.out.cell 1; have k4 : (w1.alloc (.map #[] 0)).cell? ⟨wz.heap.size, 4, none⟩ = some (.int .u32 x.allow) := (HE1.out.alloc _).cell 4)
            go_roundw
            case rel => exact ⟨i + 1, F, by omega, by go_num, by rw [pairsOf_next HXI.out, kinds, HNR.out]; simpa using ((HR.out.1.under HBz.out).more (by omega)), HR.out.2.trans (HBz.out.mono HR.out.2.size)⟩
            case measure => simp [intOf]; omega
          · by_cases h4 : 256 ≤ x.tgt
            · have hd1 : decide (x.src < 0) = false := by simp [h1]
              have hd2 : decide (256 ≤ x.src) = false := by simp; omega
              have hd3 : decide (x.tgt < 0) = false := by simp [h3]
              have hd4 : decide (256 ≤ x.tgt) = true := by simp [h4]
              have HNR := Lib.hid (show x.inR = false by simp [AEntry.inR]; omega)
              clear h1 h2 h3 h4
              go_wp2_with (refine wpList_store_blk rfl 61 _ _ rfl wz.heap.size 0 (.agg #[.int .i64 x.src, .int .i64 x.tgt, .int .i64 x.cls, .int .i64 x.cond, .int .u32 x.allow, .int .u32 x.audit, .int .u32 x.dont]) rfl rfl 61 _ (Whole.new wz 61 _) (by simp [Value.cells]) size61 rfl ?_; intro w1 SE1 WE1; rw [splice_all _ _ (by rfl)] at WE1; have HSE1 := Lib.hid SE1; have HE1 := Lib.hid (show Whole w1 wz.heap.size 61 #[.int .i64 x.src, .int .i64 x.tgt, .int .i64 x.cls, .int .i64 x.cond, .int .u32 x.allow, .int .u32 x.audit, .int .u32 x.dont] from WE1); clear SE1 WE1 e0 e1 e2 e3 e4 e5 e6; have HBz := Lib.hid (((Below.refl _ wz).alloc (Nat.le_refl _) _).trans (HSE1.out.below (Nat.le_refl _))); have q2 : (Instr.makeMap 99 none).run Tryd.prog w1 = .ok (.map (some w1.heap.size)) (w1.alloc (.map #[] 0)) := rfl; have k0 : w1.cell? ⟨wz.heap.size, 0, none⟩ = some (.int .i64 x.src) := HE1.out.cell 0; have k1 : w1.cell? ⟨wz.heap.size, 1, none⟩ = some (.int .i64 x.tgt) := HE1.out.cell 1; have k4 : (w1.alloc (.map #[] 0)).cell? ⟨wz.heap.size, 4, none⟩ = some (.int .u32 x.allow) := (HE1.out.alloc _).cell 4)
              go_roundw
              case rel => exact ⟨i + 1, F, by omega, by go_num, by rw [pairsOf_next HXI.out, kinds, HNR.out]; simpa using ((HR.out.1.under HBz.out).more (by omega)), HR.out.2.trans (HBz.out.mono HR.out.2.size)⟩
              case measure => simp [intOf]; omega
            · have HIN := Lib.hid (show x.inR = true by simp [AEntry.inR]; omega)
              have HSK := Lib.hid (show 0 ≤ x.src ∧ x.src < 256 by omega)
              have hd1 : decide (x.src < 0) = false := by simp [h1]
              have hd2 : decide (256 ≤ x.src) = false := by simp; omega
              have hd3 : decide (x.tgt < 0) = false := by simp [h3]
              have hd4 : decide (256 ≤ x.tgt) = false := by simp; omega
              clear h1 h2 h3 h4
              go_wp2_with (first | (refine wpList_store_blk rfl 61 _ _ rfl wz.heap.size 0 (.agg #[.int .i64 x.src, .int .i64 x.tgt, .int .i64 x.cls, .int .i64 x.cond, .int .u32 x.allow, .int .u32 x.audit, .int .u32 x.dont]) rfl rfl 61 _ (Whole.new wz 61 _) (by simp [Value.cells]) size61 rfl ?_; intro w1 SE1 WE1; rw [splice_all _ _ (by rfl)] at WE1; have HSE1 := Lib.hid SE1; have HE1 := Lib.hid (show Whole w1 wz.heap.size 61 #[.int .i64 x.src, .int .i64 x.tgt, .int .i64 x.cls, .int .i64 x.cond, .int .u32 x.allow, .int .u32 x.audit, .int .u32 x.dont] from WE1); clear SE1 WE1 e0 e1 e2 e3 e4 e5 e6; have HBz := Lib.hid (((Below.refl _ wz).alloc (Nat.le_refl _) _).trans (HSE1.out.below (Nat.le_refl _))); have q2 : (Instr.makeMap 99 none).run Tryd.prog w1 = .ok (.map (some w1.heap.size)) (w1.alloc (.map #[] 0)) := rfl; have k0 : w1.cell? ⟨wz.heap.size, 0, none⟩ = some (.int .i64 x.src) := HE1.out.cell 0; have k1 : w1.cell? ⟨wz.heap.size, 1, none⟩ = some (.int .i64 x.tgt) := HE1.out.cell 1; have k4 : (w1.alloc (.map #[] 0)).cell? ⟨wz.heap.size, 4, none⟩ = some (.int .u32 x.allow) := (HE1.out.alloc _).cell 4) | (have hZ := HBz; clear hZ; refine wpList_insert _ rfl (.tmp 34) (.const (.int .i64 1)) (.tmp 36) 99 rfl (.map (some w1.heap.size)) (.int .i64 1) (.int .u32 x.allow) rfl rfl rfl (fun w' => MapAt w' Tryd.prog 3 w1.heap.size (([(1, x.allow)] : List (Int × Int)).map kv3) ∧ (w1.alloc (.map #[] 0)).grownBy w' (some w1.heap.size) ∧ w'.heap.size = ((w1.alloc (.map #[] 0))).heap.size) (lit_put (D := []) (MapAt.made w1 _ _) (by decide) (by simp)) ?_; intro w2 hp1; have HM1 := Lib.hid hp1.1; have HBX1 := Lib.hid (Whole.grown (Lib.hid (HE1.out.alloc (.map #[] 0))).out hp1.2.1 (fun e => by have := Option.some.inj e; have := HE1.out.lt; omega)); have HZ1 := Lib.hid hp1.2; clear hp1 k4; have k5 : w2.cell? ⟨wz.heap.size, 5, none⟩ = some (.int .u32 x.audit) := HBX1.out.cell 5) | (have hZ := HBX1; clear hZ; refine wpList_insert _ rfl (.tmp 34) (.const (.int .i64 2)) (.tmp 38) 99 rfl (.map (some w1.heap.size)) (.int .i64 2) (.int .u32 x.audit) rfl rfl rfl (fun w' => MapAt w' Tryd.prog 3 w1.heap.size (([(2, x.audit), (1, x.allow)] : List (Int × Int)).map kv3) ∧ w2.grownBy w' (some w1.heap.size) ∧ w'.heap.size = (w2).heap.size) (lit_put HM1.out (by decide) (by simp)) ?_; intro w3 hp2; have HM2 := Lib.hid hp2.1; have HBX2 := Lib.hid (Whole.grown HBX1.out hp2.2.1 (fun e => by have := Option.some.inj e; have := HE1.out.lt; omega)); have HZ2 := Lib.hid hp2.2; clear HBX1; clear hp2 k5; have k6 : w3.cell? ⟨wz.heap.size, 6, none⟩ = some (.int .u32 x.dont) := HBX2.out.cell 6) | (have hZ := HBX2; clear hZ; refine wpList_insert _ rfl (.tmp 34) (.const (.int .i64 3)) (.tmp 40) 99 rfl (.map (some w1.heap.size)) (.int .i64 3) (.int .u32 x.dont) rfl rfl rfl (fun w' => MapAt w' Tryd.prog 3 w1.heap.size (([(3, x.dont), (2, x.audit), (1, x.allow)] : List (Int × Int)).map kv3) ∧ w3.grownBy w' (some w1.heap.size) ∧ w'.heap.size = (w3).heap.size) (lit_put HM2.out (by decide) (by simp)) ?_; intro w4 hp3; have HM3 := Lib.hid hp3.1; have HBX3 := Lib.hid (Whole.grown HBX2.out hp3.2.1 (fun e => by have := Option.some.inj e; have := HE1.out.lt; omega)); have HZ3 := Lib.hid hp3.2; clear HBX2; clear hp3 k6) | (have hZ := HBX3; clear hZ; refine wpList_range_at _ rfl (.tmp 41) 99 rfl 3 25 Tryd.underlying99 w1.heap.size ((D3 x).map kv3) rfl HM3.out ?_; intro w5 hr5 hg5 hs5; have HR5 := Lib.hid hr5; have HG5 := Lib.hid hg5; have HS5 := Lib.hid hs5; clear hr5 hg5 hs5))
              have hB1 := HBz.out.alloc HBz.out.size (.map #[] 0)
              have hxb := HE1.out.lt
              have hB2 := bl_ins hB1 HZ1.out (Nat.le_of_lt hxb) (Nat.le_trans HBz.out.size (by simp))
              have hB3 := bl_ins hB2 HZ2.out (Nat.le_of_lt hxb) hB2.size
              have hB4 := bl_ins hB3 HZ3.out (Nat.le_of_lt hxb) hB3.size
              have hs1 := HZ1.out.2
              have hs2 := HZ2.out.2
              have hs3 := HZ3.out.2
              have hs4 : w4.heap.size = w1.heap.size + 1 := by rw [hs3, hs2, hs1]; simp
              have hB5 : RowKit.Below wz.heap.size wz w5 := hB4.trans ⟨HG5.out.os, HG5.out.tape, HG5.out.output, by have := HS5.out; omega, fun k hk => HG5.out.block k (by omega) (fun e => by cases e)⟩
              have HTI := Lib.hid (show TIn w w5 mb (3 * i) wz.heap.size w1.heap.size w4.heap.size (pairsOf (l.take i)) x F [] ((D3 x).map kv3) from
                ⟨by simpa using (HR.out.1.aside (Z' := fun b => b = w1.heap.size ∨ b = w4.heap.size ∨ b = wz.heap.size) (fun b hb => by rcases hb with rfl | rfl | rfl <;> omega)).under hB5, by simp, HR5.out, HBX3.out.grown HG5.out (fun e => by cases e), HR.out.2.trans (hB5.mono HR.out.2.size), by have := HR.out.2.size; omega, by have := HR.out.2.size; omega, by omega⟩)
              clear hB1 hB2 hB3 hB4 hB5 hxb hs1 hs2 hs3 hs4 HZ1 HZ2 HZ3 HM1 HM2 HM3 HBX3 HR5 HG5 HS5 HBz HE1 HSE1 HR
              obtain ⟨m3, hm3⟩ : ∃ m3, m3 = w1.heap.size := ⟨_, rfl⟩
              obtain ⟨r3, hr3⟩ : ∃ r3, r3 = w4.heap.size := ⟨_, rfl⟩
              rw [← hm3, ← hr3] at HTI ⊢
              clear hm3 hr3
              simp only [Act.put, List.setIfInBounds_toArray, List.set_cons_zero, List.set_cons_succ]
              go_loopw [44] (fun _ wr => ∃ F done left, TIn w wr mb (3 * i) wz.heap.size m3 r3 (pairsOf (l.take i)) x F done left) (fun _ wr => wr.rangeLeft m3 r3)
              case atStart => exact ⟨_, _, _, HTI.out⟩
              case round =>
                clear HTI F
                obtain ⟨F, done, left, hT⟩ := hrel
                have HLE := Lib.hid hT.rng.left_eq
                rcases hT.rng.next 0 with ⟨h0, hrun⟩ | ⟨key, val, left', wn, hp, hrun, hrg, hgr, hsz, hen⟩
                · subst h0
                  have HD := Lib.hid (hT.done HIN.out)
                  have HBT := Lib.hid hT.blw
                  clear hT
                  go_wp2_with fail
                  go_roundw
                  case rel => exact ⟨i + 1, F, by omega, by go_num, by rw [pairsOf_next HXI.out]; exact HD.out, HBT.out⟩
                  case measure => simp [intOf]; omega
                · have hmem : (key, val) ∈ (D3 x).map kv3 := hT.perm.mem_iff.2 (List.mem_append_left _ (hp.mem_iff.2 (by simp)))
                  obtain ⟨⟨kd, v⟩, hkm, he⟩ := List.mem_map.1 hmem
                  obtain ⟨rfl, rfl⟩ : (.int .i64 kd : Value) = key ∧ (.int .u32 v : Value) = val := Prod.mk.inj he
                  have HKV := Lib.hid (D3_mem hkm)
                  have HM := Lib.hid (show TMid w wn mb (3 * i) wz.heap.size m3 r3 (pairsOf (l.take i)) x F done (kd, v) left' from let h := hT.next (p := (kd, v)) hp hrg hgr hsz; ⟨h.1, h.2.1, hrg, h.2.2.1, h.2.2.2, hT.m3b, hT.r3b, hT.xr⟩)
                  have HLL := Lib.hid (And.intro hp hsz)
                  clear hmem hkm he hp hrg hgr hsz hT
                  by_cases hv : v = 0
                  · have hd : (v == 0) = true := by simp [hv]
                    have HVZ := Lib.hid hv
                    clear hv
                    go_wp2_with fail
                    have HN9 := Lib.hid (HM.out.skip (HKV.out.2.trans HVZ.out))
                    go_roundw
                    case rel => exact ⟨F, done ++ [(kd, v)], left', HN9.out⟩
                    case measure =>
                      have h1 := HN9.out.rng.left_eq
                      have h2 := HLL.out.1.length_eq
                      have h3 := HLE.out
                      simp only [List.length_cons] at h2
                      omega
                  · have hd : (v == 0) = false := by simp [hv]
                    have HVN := Lib.hid hv
                    clear hv
                    have HGK := Lib.hid (show Grp.Ok (⟨kd, x.cls, x.cond, v⟩ : Grp) from ⟨by rcases HKV.out.1 with h | h | h <;> (show I64 kd; rw [h]; exact ⟨by decide, by decide⟩), HXK.out.1.cls, HXK.out.1.cond, by have := HXK.out.vec kd; rwa [HKV.out.2] at this⟩)
                    have y2 : wn.cell? ⟨wz.heap.size, 2, none⟩ = some (.int .i64 x.cls) := HM.out.box.cell 2
                    have y3 : wn.cell? ⟨wz.heap.size, 3, none⟩ = some (.int .i64 x.cond) := HM.out.box.cell 3
                    have HHT := Lib.hid (show hits (⟨kd, x.cls, x.cond, v⟩ : Grp) x.src (x, kd) = true by simp [hits, HIN.out, HKV.out.2, HVN.out])
                    obtain ⟨S1, hS1⟩ : ∃ S1, S1 = pairsOf (l.take i) ++ done.map fun p => (x, p.1) := ⟨_, rfl⟩
                    have HS1 := Lib.hid hS1
                    obtain ⟨t, ht⟩ : ∃ t, t = TT S1 (⟨kd, x.cls, x.cond, v⟩ : Grp) x.src := ⟨_, rfl⟩
                    have HTT := Lib.hid ht
                    clear hS1 ht
                    cases hF : F (⟨kd, x.cls, x.cond, v⟩ : Grp) with
                    | none =>
                      have HFN := Lib.hid hF
                      go_upto_region 13 with (first | (refine wpList_store_blk rfl 83 _ _ rfl wn.heap.size 0 (.agg #[.int .i64 kd, .int .i64 x.cls, .int .i64 x.cond, .int .u32 v]) rfl rfl 83 _ (Whole.new wn 83 _) (by simp [Value.cells]) size83 rfl ?_; intro w7 SG7 WG7; rw [splice_all _ _ (by rfl)] at WG7; have HSG7 := Lib.hid SG7; have HG7 := Lib.hid (show Whole w7 wn.heap.size 83 #[.int .i64 kd, .int .i64 x.cls, .int .i64 x.cond, .int .u32 v] from WG7); clear SG7 WG7 y2 y3; have HB7 := Lib.hid (((Below.refl _ wn).alloc (Nat.le_refl _) _).trans (HSG7.out.below (Nat.le_refl _))); have HT7 := Lib.hid (HM.out.map.under HB7.out); have q : (Instr.lookup 80 (.map (some mb)) (.agg #[.int .i64 kd, .int .i64 x.cls, .int .i64 x.cond, .int .u32 v]) false).run Tryd.prog w7 = .ok (.map none) w7 := (by have h := HT7.out.map.look (k := (⟨kd, x.cls, x.cond, v⟩ : Grp)) HGK.out; rw [hF] at h; exact h); have qn := nil_none w7; have q3 : (Instr.makeMap 84 none).run Tryd.prog w7 = .ok (.map (some w7.heap.size)) (w7.alloc (.map #[] 0)) := rfl) | (refine wpList_load_row rfl 83 _ rfl wn.heap.size rfl 83 _ (0, 0) _ HG7.out Tryd.underlying83 rfl size83 ?_) | (have hZ := HG7; clear hZ; refine wpList_put _ rfl (.tmp 61) (.tmp 62) (.tmp 63) 80 rfl (.map (some mb)) (.agg #[.int .i64 kd, .int .i64 x.cls, .int .i64 x.cond, .int .u32 v]) (.map (some w7.heap.size)) rfl rfl rfl _ (HT7.out.fresh (g := (⟨kd, x.cls, x.cond, v⟩ : Grp)) HGK.out HFN.out (aside3 (by have := HM.out.rng.map.lt; have := HB7.out.size; omega) (by have := HM.out.rng.lt; have := HB7.out.size; omega) (by have := HM.out.box.lt; have := HB7.out.size; omega)) (by have := HM.out.blw.size; have := HB7.out.size; omega)) ?_; intro w8 hp8; have HP8 := Lib.hid hp8; clear hp8 q q3))
                      have HB8 := Lib.hid (HM.out.to8 (HB7.out.alloc HB7.out.size _) HP8.out.2)
                      have HG8 := Lib.hid ((HG7.out.alloc (.map #[] 0)).grown HP8.out.2.1 (fun e => by have := Option.some.inj e; have := HM.out.map.map.lt; omega))
                      obtain ⟨F1, b, HT8, HF8⟩ : ∃ F1 b, Hid (TMap w8 w.heap.size mb (3 * i + done.length + 1) S1 F1 (fun b => b = m3 ∨ b = r3 ∨ b = wz.heap.size)) ∧ Hid (F1 (⟨kd, x.cls, x.cond, v⟩ : Grp) = some b) := ⟨_, _, Lib.hid (by rw [HS1.out]; exact HP8.out.1), Lib.hid (if_pos rfl)⟩
                      have HX8 := Lib.hid HB8.out.2.2
                      clear HP8 HT7 HG7 HSG7 HFN
                      refine wp_region_last (fun w w' => Below w.heap.size w w') [some 64, some 65, some 66, some 67, some 68, some 69, some 70, some 71, some 72, some 73, some 74, some 75, some 76, some 77] [isV (.map (some mb)), isV (.agg #[.int .i64 kd, .int .i64 x.cls, .int .i64 x.cond, .int .u32 v]), isV (.map (some b)), isV (.pointer (some ⟨wz.heap.size, 0, none⟩)), isV (.int .i64 x.src), isV (.map (some mb)), isV (.agg #[.int .i64 kd, .int .i64 x.cls, .int .i64 x.cond, .int .u32 v]), isV (.map (some b)), isV (.pointer (some ⟨wz.heap.size, 0, none⟩)), isV (.int .i64 x.src), isV (.agg #[.int .u64 t.a, .int .u64 t.b, .int .u64 t.c, .int .u64 t.d]), isV (.pointer (some ⟨wz.heap.size, 1, none⟩)), isV (.int .i64 x.tgt), isV (.agg #[.int .u64 (t.with x.tgt).a, .int .u64 (t.with x.tgt).b, .int .u64 (t.with x.tgt).c, .int .u64 (t.with x.tgt).d])] (fun _ w' => RowKit.Below w8.heap.size w8 w') 14 (by kernel_rfl) (by kernel_rfl) (by kernel_rfl) rfl (by decide) rfl rfl ((Below.refl _ _).drew) ⟨lasts_is _, lasts_is _, lasts_is _, lasts_is _, lasts_is _, lasts_is _, lasts_is _, lasts_is _, lasts_is _, lasts_is _, lasts_is _, lasts_is _, lasts_is _, lasts_is _, trivial⟩ ⟨(fun _ => lastsR_is _), (fun _ => lastsR_is _), (fun _ => lastsR_is _), (fun _ => lastsR_is _), (fun _ => lastsR_is _), (fun _ => lastsR_is _), (fun _ => lastsR_is _), (fun _ => lastsR_is _), (fun _ => lastsR_is _), (fun _ => lastsR_is _), (fun _ => lastsR_is _), (fun _ => lastsR_is _), (fun _ => lastsR_is _), (fun _ => lastsR_is _), trivial⟩ ⟨?_, ?_, ?_, ?_, ?_, ?_, ?_, ?_, ?_, ?_, ?_, ?_, ?_, ?_, ?_⟩
                      · intro L a wx Q' hL hi H F hK
                        try dsimp only at hi
                        have h3 : a.tmps[3]? = some (.map (some mb)) := F 3 rfl
                        have HI := Lib.hid hi
                        clear H F hi hL
                        go_wp2_with fail
                        exact hK _ _ (Below.refl _ _) HI.out rfl
                      · intro L a wx Q' hL hi H F hK
                        try dsimp only at hi
                        have h8 : a.tmps[8]? = some (.pointer (some ⟨wn.heap.size, 0, none⟩)) := F 8 rfl
                        have HI := Lib.hid hi
                        clear H F hi hL
                        have kq0 : wx.cell? ⟨wn.heap.size, 0, none⟩ = some (.int .i64 kd) := (Whole.under HI.out HG8.out (Whole.lt HG8.out)).cell 0
                        have kq1 : wx.cell? ⟨wn.heap.size, 1, none⟩ = some (.int .i64 x.cls) := (Whole.under HI.out HG8.out (Whole.lt HG8.out)).cell 1
                        have kq2 : wx.cell? ⟨wn.heap.size, 2, none⟩ = some (.int .i64 x.cond) := (Whole.under HI.out HG8.out (Whole.lt HG8.out)).cell 2
                        have kq3 : wx.cell? ⟨wn.heap.size, 3, none⟩ = some (.int .u32 v) := (Whole.under HI.out HG8.out (Whole.lt HG8.out)).cell 3
                        go_wp2_with fail
                        exact hK _ _ (Below.refl _ _) HI.out rfl
                      · intro L a wx Q' hL hi H F hK
                        try dsimp only at hi
                        obtain ⟨_, h64, rfl⟩ := H 0 ⟨.data, by simp, rfl⟩ _ rfl
                        replace h64 := h64 _ rfl
                        obtain ⟨_, h65, rfl⟩ := H 1 ⟨.data, by simp, rfl⟩ _ rfl
                        replace h65 := h65 _ rfl
                        have HI := Lib.hid hi
                        clear H F hi hL
                        have q : (Instr.lookup 80 (.map (some mb)) (.agg #[.int .i64 kd, .int .i64 x.cls, .int .i64 x.cond, .int .u32 v]) false).run Tryd.prog wx = .ok (.map (some b)) wx := by have h := (HT8.out.under HI.out).map.look (k := (⟨kd, x.cls, x.cond, v⟩ : Grp)) HGK.out; rw [HF8.out] at h; exact h
                        go_wp2_with fail
                        exact hK _ _ (Below.refl _ _) HI.out rfl
                      · intro L a wx Q' hL hi H F hK
                        try dsimp only at hi
                        have h5 : a.tmps[5]? = some (.pointer (some ⟨wz.heap.size, 0, none⟩)) := F 5 rfl
                        have HI := Lib.hid hi
                        clear H F hi hL
                        go_wp2_with fail
                        exact hK _ _ (Below.refl _ _) HI.out rfl
                      · intro L a wx Q' hL hi H F hK
                        try dsimp only at hi
                        obtain ⟨_, h67, rfl⟩ := H 3 ⟨.data, by simp, rfl⟩ _ rfl
                        replace h67 := h67 _ rfl
                        have HI := Lib.hid hi
                        clear H F hi hL
                        have kq0 : wx.cell? ⟨wz.heap.size, 0, none⟩ = some (.int .i64 x.src) := (Whole.under HI.out HX8.out (Whole.lt HX8.out)).cell 0
                        go_wp2_with fail
                        exact hK _ _ (Below.refl _ _) HI.out rfl
                      · intro L a wx Q' hL hi H F hK
                        try dsimp only at hi
                        have h3 : a.tmps[3]? = some (.map (some mb)) := F 3 rfl
                        have HI := Lib.hid hi
                        clear H F hi hL
                        go_wp2_with fail
                        exact hK _ _ (Below.refl _ _) HI.out rfl
                      · intro L a wx Q' hL hi H F hK
                        try dsimp only at hi
                        have h8 : a.tmps[8]? = some (.pointer (some ⟨wn.heap.size, 0, none⟩)) := F 8 rfl
                        have HI := Lib.hid hi
                        clear H F hi hL
                        have kq0 : wx.cell? ⟨wn.heap.size, 0, none⟩ = some (.int .i64 kd) := (Whole.under HI.out HG8.out (Whole.lt HG8.out)).cell 0
                        have kq1 : wx.cell? ⟨wn.heap.size, 1, none⟩ = some (.int .i64 x.cls) := (Whole.under HI.out HG8.out (Whole.lt HG8.out)).cell 1
                        have kq2 : wx.cell? ⟨wn.heap.size, 2, none⟩ = some (.int .i64 x.cond) := (Whole.under HI.out HG8.out (Whole.lt HG8.out)).cell 2
                        have kq3 : wx.cell? ⟨wn.heap.size, 3, none⟩ = some (.int .u32 v) := (Whole.under HI.out HG8.out (Whole.lt HG8.out)).cell 3
                        go_wp2_with fail
                        exact hK _ _ (Below.refl _ _) HI.out rfl
                      · intro L a wx Q' hL hi H F hK
                        try dsimp only at hi
                        obtain ⟨_, h69, rfl⟩ := H 5 ⟨.data, by simp, rfl⟩ _ rfl
                        replace h69 := h69 _ rfl
                        obtain ⟨_, h70, rfl⟩ := H 6 ⟨.data, by simp, rfl⟩ _ rfl
                        replace h70 := h70 _ rfl
                        have HI := Lib.hid hi
                        clear H F hi hL
                        have q : (Instr.lookup 80 (.map (some mb)) (.agg #[.int .i64 kd, .int .i64 x.cls, .int .i64 x.cond, .int .u32 v]) false).run Tryd.prog wx = .ok (.map (some b)) wx := by have h := (HT8.out.under HI.out).map.look (k := (⟨kd, x.cls, x.cond, v⟩ : Grp)) HGK.out; rw [HF8.out] at h; exact h
                        go_wp2_with fail
                        exact hK _ _ (Below.refl _ _) HI.out rfl
                      · intro L a wx Q' hL hi H F hK
                        try dsimp only at hi
                        have h5 : a.tmps[5]? = some (.pointer (some ⟨wz.heap.size, 0, none⟩)) := F 5 rfl
                        have HI := Lib.hid hi
                        clear H F hi hL
                        go_wp2_with fail
                        exact hK _ _ (Below.refl _ _) HI.out rfl
                      · intro L a wx Q' hL hi H F hK
                        try dsimp only at hi
                        obtain ⟨_, h72, rfl⟩ := H 8 ⟨.data, by simp, rfl⟩ _ rfl
                        replace h72 := h72 _ rfl
                        have HI := Lib.hid hi
                        clear H F hi hL
                        have kq0 : wx.cell? ⟨wz.heap.size, 0, none⟩ = some (.int .i64 x.src) := (Whole.under HI.out HX8.out (Whole.lt HX8.out)).cell 0
                        go_wp2_with fail
                        exact hK _ _ (Below.refl _ _) HI.out rfl
                      · intro L a wx Q' hL hi H F hK
                        try dsimp only at hi
                        obtain ⟨_, h71, rfl⟩ := H 7 ⟨.data, by simp, rfl⟩ _ rfl
                        replace h71 := h71 _ rfl
                        obtain ⟨_, h73, rfl⟩ := H 9 ⟨.data, by simp, rfl⟩ _ rfl
                        replace h73 := h73 _ rfl
                        have HI := Lib.hid hi
                        clear H F hi hL
                        have q : (Instr.lookup 84 (.map (some b)) (.int .i64 x.src) false).run Tryd.prog wx = .ok (.agg #[.int .u64 t.a, .int .u64 t.b, .int .u64 t.c, .int .u64 t.d]) wx := by obtain ⟨_, _, _, _, h⟩ := (HT8.out.under HI.out).inner _ _ HF8.out; have h2 := h.look (k := x.src) HSK.out; rw [← HTT.out] at h2; exact h2
                        go_wp2_with fail
                        exact hK _ _ (Below.refl _ _) HI.out rfl
                      · intro L a wx Q' hL hi H F hK
                        try dsimp only at hi
                        have h5 : a.tmps[5]? = some (.pointer (some ⟨wz.heap.size, 0, none⟩)) := F 5 rfl
                        have HI := Lib.hid hi
                        clear H F hi hL
                        go_wp2_with fail
                        exact hK _ _ (Below.refl _ _) HI.out rfl
                      · intro L a wx Q' hL hi H F hK
                        try dsimp only at hi
                        obtain ⟨_, h75, rfl⟩ := H 11 ⟨.data, by simp, rfl⟩ _ rfl
                        replace h75 := h75 _ rfl
                        have HI := Lib.hid hi
                        clear H F hi hL
                        have kq0 : wx.cell? ⟨wz.heap.size, 1, none⟩ = some (.int .i64 x.tgt) := (Whole.under HI.out HX8.out (Whole.lt HX8.out)).cell 1
                        go_wp2_with fail
                        exact hK _ _ (Below.refl _ _) HI.out rfl
                      · intro L a wx Q' hL hi H F hK
                        try dsimp only at hi
                        obtain ⟨_, h74, rfl⟩ := H 10 ⟨.data, by simp, rfl⟩ _ rfl
                        replace h74 := h74 _ rfl
                        obtain ⟨_, h76, rfl⟩ := H 12 ⟨.data, by simp, rfl⟩ _ rfl
                        replace h76 := h76 _ rfl
                        have HI := Lib.hid hi
                        clear H F hi hL
                        go_wp2_with (go_at_call 27; go_must (refine (with_any wx t (by rw [HTT.out]; exact TT_ok _ _ _) x.tgt).mono ?_; rintro e w1 ⟨rfl, hb1⟩))
                        exact hK _ _ hb1 (HI.out.trans (hb1.mono HI.out.size)) rfl
                      · intro a wx hl L hi hL Q' hK
                        try dsimp only at hi
                        have HB := Lib.hid hi
                        clear hi hL
                        obtain ⟨_, rfl, _, rfl, _, rfl, _, rfl, _, rfl, _, rfl, _, rfl, _, rfl, _, rfl, _, rfl, _, rfl, _, rfl, _, rfl, _, rfl, rfl⟩ := hl
                        simp only [List.setIfInBounds_toArray, List.set_cons_zero, List.set_cons_succ]
                        go_wp2_with (refine wpList_put _ rfl (.tmp 66) (.tmp 68) (.tmp 77) 84 rfl (.map (some b)) (.int .i64 x.src) (.agg #[.int .u64 (t.with x.tgt).a, .int .u64 (t.with x.tgt).b, .int .u64 (t.with x.tgt).c, .int .u64 (t.with x.tgt).d]) rfl rfl rfl (fun w' => TMap w' w.heap.size mb (3 * i + done.length + 1) (S1 ++ [(x, kd)]) F1 (fun b => b = m3 ∨ b = r3 ∨ b = wz.heap.size) ∧ wx.grownBy w' (some b) ∧ w'.heap.size = wx.heap.size) (by have h := (HT8.out.under HB.out).add (g := (⟨kd, x.cls, x.cond, v⟩ : Grp)) (x := x) HF8.out HHT.out; rw [← HTT.out] at h; exact h) ?_; intro w9 hp; have HP := Lib.hid hp; clear hp)
                        have HN9 := Lib.hid (HM.out.step HB8.out HB.out HP.out.1 HP.out.2.1 HP.out.2.2 (HT8.out.inner _ _ HF8.out).1 (HT8.out.inner _ _ HF8.out).2.2.1 HS1.out trivial)
                        go_roundw
                        case rel => (repeat apply Exists.intro); first | exact HN9.out | exact ⟨⟨F1, done ++ [(kd, v)], left', HN9.out⟩, rfl⟩ | exact ⟨HN9.out, rfl⟩
                        case measure =>
                          have h1 := HN9.out.rng.left_eq
                          have h2 := HLL.out.1.length_eq
                          have h3 := HLE.out
                          simp only [List.length_cons] at h2
                          omega
                    | some b =>
                      go_upto_region 13 with (first | (refine wpList_store_blk rfl 83 _ _ rfl wn.heap.size 0 (.agg #[.int .i64 kd, .int .i64 x.cls, .int .i64 x.cond, .int .u32 v]) rfl rfl 83 _ (Whole.new wn 83 _) (by simp [Value.cells]) size83 rfl ?_; intro w7 SG7 WG7; rw [splice_all _ _ (by rfl)] at WG7; have HSG7 := Lib.hid SG7; have HG7 := Lib.hid (show Whole w7 wn.heap.size 83 #[.int .i64 kd, .int .i64 x.cls, .int .i64 x.cond, .int .u32 v] from WG7); clear SG7 WG7 y2 y3; have HB7 := Lib.hid (((Below.refl _ wn).alloc (Nat.le_refl _) _).trans (HSG7.out.below (Nat.le_refl _))); have HT7 := Lib.hid (HM.out.map.under HB7.out); have q : (Instr.lookup 80 (.map (some mb)) (.agg #[.int .i64 kd, .int .i64 x.cls, .int .i64 x.cond, .int .u32 v]) false).run Tryd.prog w7 = .ok (.map (some b)) w7 := (by have h := HT7.out.map.look (k := (⟨kd, x.cls, x.cond, v⟩ : Grp)) HGK.out; rw [hF] at h; exact h); have qn := nil_some b w7) | (refine wpList_load_row rfl 83 _ rfl wn.heap.size rfl 83 _ (0, 0) _ HG7.out Tryd.underlying83 rfl size83 ?_))
                      clear q
                      obtain ⟨w8, hw8⟩ : ∃ w8, w8 = w7 := ⟨_, rfl⟩
                      have HB8 := Lib.hid (HM.out.to7 HB7.out)
                      obtain ⟨F1, HT8, HF8⟩ : ∃ F1, Hid (TMap w7 w.heap.size mb (3 * i + done.length + 1) S1 F1 (fun b => b = m3 ∨ b = r3 ∨ b = wz.heap.size)) ∧ Hid (F1 (⟨kd, x.cls, x.cond, v⟩ : Grp) = some b) := ⟨F, Lib.hid (by rw [HS1.out]; exact HT7.out.more (by omega)), Lib.hid hF⟩
                      have HG8 := HG7
                      have HX8 := Lib.hid HB8.out.2.2
                      clear HT7 HG7 HSG7 hF
                      rw [← hw8] at HB8 HT8 HG8 HX8 ⊢
                      clear hw8
                      refine wp_region_last (fun w w' => Below w.heap.size w w') [some 64, some 65, some 66, some 67, some 68, some 69, some 70, some 71, some 72, some 73, some 74, some 75, some 76, some 77] [isV (.map (some mb)), isV (.agg #[.int .i64 kd, .int .i64 x.cls, .int .i64 x.cond, .int .u32 v]), isV (.map (some b)), isV (.pointer (some ⟨wz.heap.size, 0, none⟩)), isV (.int .i64 x.src), isV (.map (some mb)), isV (.agg #[.int .i64 kd, .int .i64 x.cls, .int .i64 x.cond, .int .u32 v]), isV (.map (some b)), isV (.pointer (some ⟨wz.heap.size, 0, none⟩)), isV (.int .i64 x.src), isV (.agg #[.int .u64 t.a, .int .u64 t.b, .int .u64 t.c, .int .u64 t.d]), isV (.pointer (some ⟨wz.heap.size, 1, none⟩)), isV (.int .i64 x.tgt), isV (.agg #[.int .u64 (t.with x.tgt).a, .int .u64 (t.with x.tgt).b, .int .u64 (t.with x.tgt).c, .int .u64 (t.with x.tgt).d])] (fun _ w' => RowKit.Below w8.heap.size w8 w') 14 (by kernel_rfl) (by kernel_rfl) (by kernel_rfl) rfl (by decide) rfl rfl ((Below.refl _ _).drew) ⟨lasts_is _, lasts_is _, lasts_is _, lasts_is _, lasts_is _, lasts_is _, lasts_is _, lasts_is _, lasts_is _, lasts_is _, lasts_is _, lasts_is _, lasts_is _, lasts_is _, trivial⟩ ⟨(fun _ => lastsR_is _), (fun _ => lastsR_is _), (fun _ => lastsR_is _), (fun _ => lastsR_is _), (fun _ => lastsR_is _), (fun _ => lastsR_is _), (fun _ => lastsR_is _), (fun _ => lastsR_is _), (fun _ => lastsR_is _), (fun _ => lastsR_is _), (fun _ => lastsR_is _), (fun _ => lastsR_is _), (fun _ => lastsR_is _), (fun _ => lastsR_is _), trivial⟩ ⟨?_, ?_, ?_, ?_, ?_, ?_, ?_, ?_, ?_, ?_, ?_, ?_, ?_, ?_, ?_⟩
                      · intro L a wx Q' hL hi H F hK
                        try dsimp only at hi
                        have h3 : a.tmps[3]? = some (.map (some mb)) := F 3 rfl
                        have HI := Lib.hid hi
                        clear H F hi hL
                        go_wp2_with fail
                        exact hK _ _ (Below.refl _ _) HI.out rfl
                      · intro L a wx Q' hL hi H F hK
                        try dsimp only at hi
                        have h8 : a.tmps[8]? = some (.pointer (some ⟨wn.heap.size, 0, none⟩)) := F 8 rfl
                        have HI := Lib.hid hi
                        clear H F hi hL
                        have kq0 : wx.cell? ⟨wn.heap.size, 0, none⟩ = some (.int .i64 kd) := (Whole.under HI.out HG8.out (Whole.lt HG8.out)).cell 0
                        have kq1 : wx.cell? ⟨wn.heap.size, 1, none⟩ = some (.int .i64 x.cls) := (Whole.under HI.out HG8.out (Whole.lt HG8.out)).cell 1
                        have kq2 : wx.cell? ⟨wn.heap.size, 2, none⟩ = some (.int .i64 x.cond) := (Whole.under HI.out HG8.out (Whole.lt HG8.out)).cell 2
                        have kq3 : wx.cell? ⟨wn.heap.size, 3, none⟩ = some (.int .u32 v) := (Whole.under HI.out HG8.out (Whole.lt HG8.out)).cell 3
                        go_wp2_with fail
                        exact hK _ _ (Below.refl _ _) HI.out rfl
                      · intro L a wx Q' hL hi H F hK
                        try dsimp only at hi
                        obtain ⟨_, h64, rfl⟩ := H 0 ⟨.data, by simp, rfl⟩ _ rfl
                        replace h64 := h64 _ rfl
                        obtain ⟨_, h65, rfl⟩ := H 1 ⟨.data, by simp, rfl⟩ _ rfl
                        replace h65 := h65 _ rfl
                        have HI := Lib.hid hi
                        clear H F hi hL
                        have q : (Instr.lookup 80 (.map (some mb)) (.agg #[.int .i64 kd, .int .i64 x.cls, .int .i64 x.cond, .int .u32 v]) false).run Tryd.prog wx = .ok (.map (some b)) wx := by have h := (HT8.out.under HI.out).map.look (k := (⟨kd, x.cls, x.cond, v⟩ : Grp)) HGK.out; rw [HF8.out] at h; exact h
                        go_wp2_with fail
                        exact hK _ _ (Below.refl _ _) HI.out rfl
                      · intro L a wx Q' hL hi H F hK
                        try dsimp only at hi
                        have h5 : a.tmps[5]? = some (.pointer (some ⟨wz.heap.size, 0, none⟩)) := F 5 rfl
                        have HI := Lib.hid hi
                        clear H F hi hL
                        go_wp2_with fail
                        exact hK _ _ (Below.refl _ _) HI.out rfl
                      · intro L a wx Q' hL hi H F hK
                        try dsimp only at hi
                        obtain ⟨_, h67, rfl⟩ := H 3 ⟨.data, by simp, rfl⟩ _ rfl
                        replace h67 := h67 _ rfl
                        have HI := Lib.hid hi
                        clear H F hi hL
                        have kq0 : wx.cell? ⟨wz.heap.size, 0, none⟩ = some (.int .i64 x.src) := (Whole.under HI.out HX8.out (Whole.lt HX8.out)).cell 0
                        go_wp2_with fail
                        exact hK _ _ (Below.refl _ _) HI.out rfl
                      · intro L a wx Q' hL hi H F hK
                        try dsimp only at hi
                        have h3 : a.tmps[3]? = some (.map (some mb)) := F 3 rfl
                        have HI := Lib.hid hi
                        clear H F hi hL
                        go_wp2_with fail
                        exact hK _ _ (Below.refl _ _) HI.out rfl
                      · intro L a wx Q' hL hi H F hK
                        try dsimp only at hi
                        have h8 : a.tmps[8]? = some (.pointer (some ⟨wn.heap.size, 0, none⟩)) := F 8 rfl
                        have HI := Lib.hid hi
                        clear H F hi hL
                        have kq0 : wx.cell? ⟨wn.heap.size, 0, none⟩ = some (.int .i64 kd) := (Whole.under HI.out HG8.out (Whole.lt HG8.out)).cell 0
                        have kq1 : wx.cell? ⟨wn.heap.size, 1, none⟩ = some (.int .i64 x.cls) := (Whole.under HI.out HG8.out (Whole.lt HG8.out)).cell 1
                        have kq2 : wx.cell? ⟨wn.heap.size, 2, none⟩ = some (.int .i64 x.cond) := (Whole.under HI.out HG8.out (Whole.lt HG8.out)).cell 2
                        have kq3 : wx.cell? ⟨wn.heap.size, 3, none⟩ = some (.int .u32 v) := (Whole.under HI.out HG8.out (Whole.lt HG8.out)).cell 3
                        go_wp2_with fail
                        exact hK _ _ (Below.refl _ _) HI.out rfl
                      · intro L a wx Q' hL hi H F hK
                        try dsimp only at hi
                        obtain ⟨_, h69, rfl⟩ := H 5 ⟨.data, by simp, rfl⟩ _ rfl
                        replace h69 := h69 _ rfl
                        obtain ⟨_, h70, rfl⟩ := H 6 ⟨.data, by simp, rfl⟩ _ rfl
                        replace h70 := h70 _ rfl
                        have HI := Lib.hid hi
                        clear H F hi hL
                        have q : (Instr.lookup 80 (.map (some mb)) (.agg #[.int .i64 kd, .int .i64 x.cls, .int .i64 x.cond, .int .u32 v]) false).run Tryd.prog wx = .ok (.map (some b)) wx := by have h := (HT8.out.under HI.out).map.look (k := (⟨kd, x.cls, x.cond, v⟩ : Grp)) HGK.out; rw [HF8.out] at h; exact h
                        go_wp2_with fail
                        exact hK _ _ (Below.refl _ _) HI.out rfl
                      · intro L a wx Q' hL hi H F hK
                        try dsimp only at hi
                        have h5 : a.tmps[5]? = some (.pointer (some ⟨wz.heap.size, 0, none⟩)) := F 5 rfl
                        have HI := Lib.hid hi
                        clear H F hi hL
                        go_wp2_with fail
                        exact hK _ _ (Below.refl _ _) HI.out rfl
                      · intro L a wx Q' hL hi H F hK
                        try dsimp only at hi
                        obtain ⟨_, h72, rfl⟩ := H 8 ⟨.data, by simp, rfl⟩ _ rfl
                        replace h72 := h72 _ rfl
                        have HI := Lib.hid hi
                        clear H F hi hL
                        have kq0 : wx.cell? ⟨wz.heap.size, 0, none⟩ = some (.int .i64 x.src) := (Whole.under HI.out HX8.out (Whole.lt HX8.out)).cell 0
                        go_wp2_with fail
                        exact hK _ _ (Below.refl _ _) HI.out rfl
                      · intro L a wx Q' hL hi H F hK
                        try dsimp only at hi
                        obtain ⟨_, h71, rfl⟩ := H 7 ⟨.data, by simp, rfl⟩ _ rfl
                        replace h71 := h71 _ rfl
                        obtain ⟨_, h73, rfl⟩ := H 9 ⟨.data, by simp, rfl⟩ _ rfl
                        replace h73 := h73 _ rfl
                        have HI := Lib.hid hi
                        clear H F hi hL
                        have q : (Instr.lookup 84 (.map (some b)) (.int .i64 x.src) false).run Tryd.prog wx = .ok (.agg #[.int .u64 t.a, .int .u64 t.b, .int .u64 t.c, .int .u64 t.d]) wx := by obtain ⟨_, _, _, _, h⟩ := (HT8.out.under HI.out).inner _ _ HF8.out; have h2 := h.look (k := x.src) HSK.out; rw [← HTT.out] at h2; exact h2
                        go_wp2_with fail
                        exact hK _ _ (Below.refl _ _) HI.out rfl
                      · intro L a wx Q' hL hi H F hK
                        try dsimp only at hi
                        have h5 : a.tmps[5]? = some (.pointer (some ⟨wz.heap.size, 0, none⟩)) := F 5 rfl
                        have HI := Lib.hid hi
                        clear H F hi hL
                        go_wp2_with fail
                        exact hK _ _ (Below.refl _ _) HI.out rfl
                      · intro L a wx Q' hL hi H F hK
                        try dsimp only at hi
                        obtain ⟨_, h75, rfl⟩ := H 11 ⟨.data, by simp, rfl⟩ _ rfl
                        replace h75 := h75 _ rfl
                        have HI := Lib.hid hi
                        clear H F hi hL
                        have kq0 : wx.cell? ⟨wz.heap.size, 1, none⟩ = some (.int .i64 x.tgt) := (Whole.under HI.out HX8.out (Whole.lt HX8.out)).cell 1
                        go_wp2_with fail
                        exact hK _ _ (Below.refl _ _) HI.out rfl
                      · intro L a wx Q' hL hi H F hK
                        try dsimp only at hi
                        obtain ⟨_, h74, rfl⟩ := H 10 ⟨.data, by simp, rfl⟩ _ rfl
                        replace h74 := h74 _ rfl
                        obtain ⟨_, h76, rfl⟩ := H 12 ⟨.data, by simp, rfl⟩ _ rfl
                        replace h76 := h76 _ rfl
                        have HI := Lib.hid hi
                        clear H F hi hL
                        go_wp2_with (go_at_call 27; go_must (refine (with_any wx t (by rw [HTT.out]; exact TT_ok _ _ _) x.tgt).mono ?_; rintro e w1 ⟨rfl, hb1⟩))
                        exact hK _ _ hb1 (HI.out.trans (hb1.mono HI.out.size)) rfl
                      · intro a wx hl L hi hL Q' hK
                        try dsimp only at hi
                        have HB := Lib.hid hi
                        clear hi hL
                        obtain ⟨_, rfl, _, rfl, _, rfl, _, rfl, _, rfl, _, rfl, _, rfl, _, rfl, _, rfl, _, rfl, _, rfl, _, rfl, _, rfl, _, rfl, rfl⟩ := hl
                        simp only [List.setIfInBounds_toArray, List.set_cons_zero, List.set_cons_succ]
                        go_wp2_with (refine wpList_put _ rfl (.tmp 66) (.tmp 68) (.tmp 77) 84 rfl (.map (some b)) (.int .i64 x.src) (.agg #[.int .u64 (t.with x.tgt).a, .int .u64 (t.with x.tgt).b, .int .u64 (t.with x.tgt).c, .int .u64 (t.with x.tgt).d]) rfl rfl rfl (fun w' => TMap w' w.heap.size mb (3 * i + done.length + 1) (S1 ++ [(x, kd)]) F1 (fun b => b = m3 ∨ b = r3 ∨ b = wz.heap.size) ∧ wx.grownBy w' (some b) ∧ w'.heap.size = wx.heap.size) (by have h := (HT8.out.under HB.out).add (g := (⟨kd, x.cls, x.cond, v⟩ : Grp)) (x := x) HF8.out HHT.out; rw [← HTT.out] at h; exact h) ?_; intro w9 hp; have HP := Lib.hid hp; clear hp)
                        have HN9 := Lib.hid (HM.out.step HB8.out HB.out HP.out.1 HP.out.2.1 HP.out.2.2 (HT8.out.inner _ _ HF8.out).1 (HT8.out.inner _ _ HF8.out).2.2.1 HS1.out trivial)
                        go_roundw
                        case rel => (repeat apply Exists.intro); first | exact HN9.out | exact ⟨⟨F1, done ++ [(kd, v)], left', HN9.out⟩, rfl⟩ | exact ⟨HN9.out, rfl⟩
                        case measure =>
                          have h1 := HN9.out.rng.left_eq
                          have h2 := HLL.out.1.length_eq
                          have h3 := HLE.out
                          simp only [List.length_cons] at h2
                          omega
    · obtain rfl : i = n := by omega
      go_wp2_with fail
      go_ret
      refine ⟨mb, F, rfl, ?_, HR.out.2⟩
      have h := HR.out.1
      rw [show l.take i = l by rw [HL.out, List.take_length]] at h
      exact h
end Go.Proofs.YtmkfabdkadocdaaDoor

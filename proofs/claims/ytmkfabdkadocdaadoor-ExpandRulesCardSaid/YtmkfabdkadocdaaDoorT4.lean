import Derived.Test.YtmkfabdkadocdaaDoorO4
/-
  Maps as functions, of whatever kind of keys and values; the maps of expand.targets and Compress.
-/
namespace Go.Proofs.YtmkfabdkadocdaaDoor
open Go Go.WideMaps Go.RowKit Go.Sort

theorem wpList_insert {P : Program} (w : World) {ops : Array Oper} {rest : List Oper} {o : Oper} {a : Act} {Q : Exit → Act → World → Prop} (hg : o.guard = none) (m x v : Operand) (t : TypeId) (hop : o.op = Op.insert t m x v) (mv key val : Value) (hm : a.eval m = mv) (hx : a.eval x = key) (hv : a.eval v = val)
    (Post : World → Prop) (hrun : ∃ w', (Instr.mapUpdate t mv key val).run P w = .ok () w' ∧ Post w')
    (hK : ∀ w', Post w' → wpList P ops Q rest (a.put o.dst undef) w') : wpList P ops Q (o :: rest) a w := by
  refine wpList_plain hg fun K' hK' => ?_
  obtain ⟨w', hr, hp⟩ := hrun
  unfold Oper.wp
  simp [execOp, hop, hm, hx, hv, hr, Result.andThen]
  exact hK' _ _ (hK w' hp)

/-- A kind of maps: how keys and values read. -/
structure KV (κ υ : Type) where
  kv : κ → Value
  vv : υ → Value
  inj : ∀ a b, kv a = kv b → a = b
  zero : υ
  kok : κ → Prop
  vok : υ → Prop
  m : TypeId
  t : TypeId
  e : TypeId
  keyed : Maps.Keyed Tryd.prog m
  und : Tryd.prog.underlying t = some (.map m e)
  key : ∀ k, kok k → ∃ l, keyOf Tryd.prog m (kv k) = some l
  zeroes : ∀ w, (zeroValue e).run Tryd.prog w = .ok (vv zero) w
section
variable {κ υ : Type} (K : KV κ υ)
def KV.pair (p : κ × υ) : Value × Value := (K.kv p.1, K.vv p.2)
/-- Block mb is a map that says 'f', with at most n entries. -/
structure MapF (w : World) (mb n : Nat) (f : κ → υ) : Prop where
  ex : ∃ D : List (κ × υ), MapAt w Tryd.prog K.m mb (D.map K.pair) ∧ (∀ p ∈ D, p.2 = f p.1 ∧ K.kok p.1 ∧ K.vok p.2) ∧ (∀ k, f k ≠ K.zero → k ∈ D.map Prod.fst) ∧ D.length ≤ n ∧ (D.map Prod.fst).Nodup
variable {K} {w w' : World} {mb n : Nat} {f : κ → υ}
theorem MapF.lt (h : MapF K w mb n f) : mb < w.heap.size := by
  obtain ⟨D, h1, _⟩ := h.ex
  exact h1.lt
theorem MapF.kept (h : MapF K w mb n f) (hb : w'.heap[mb]? = w.heap[mb]?) : MapF K w' mb n f := by
  obtain ⟨D, h1, h2⟩ := h.ex
  exact ⟨D, h1.kept hb, h2⟩
theorem MapF.under (h : MapF K w mb n f) (hb : Below w.heap.size w w') : MapF K w' mb n f := h.kept (hb.block _ h.lt)
theorem MapF.more {m : Nat} (h : MapF K w mb n f) (hm : n ≤ m) : MapF K w mb m f := by
  obtain ⟨D, h1, h2, h3, h4, h5⟩ := h.ex
  exact ⟨D, h1, h2, h3, by omega, h5⟩
theorem MapF.made (w : World) : MapF K (w.alloc (.map #[] 0)) w.heap.size 0 (fun _ => K.zero) :=
  ⟨[], MapAt.made w _ _, by simp, by simp, Nat.le_refl _, by simp⟩
theorem MapF.val (h : MapF K w mb n f) (k : κ) : f k = K.zero ∨ K.vok (f k) := by
  obtain ⟨D, h1, h2, h3, h4, h5⟩ := h.ex
  by_cases hz : f k = K.zero
  · exact .inl hz
  · obtain ⟨p, hp, rfl⟩ := List.mem_map.1 (h3 _ hz)
    have := h2 p hp
    rw [← this.1]
    exact .inr this.2.2
theorem MapF.look (h : MapF K w mb n f) {k : κ} (hk : K.kok k) : (Instr.lookup K.t (.map (some mb)) (K.kv k) false).run Tryd.prog w = .ok (K.vv (f k)) w := by
  obtain ⟨D, h1, h2, h3, h4, h5⟩ := h.ex
  obtain ⟨l, hl⟩ := K.key k hk
  by_cases hm : k ∈ D.map Prod.fst
  · obtain ⟨p, hp, rfl⟩ := List.mem_map.1 hm
    have := h1.look_some false K.keyed K.und hl (val := K.vv p.2) (List.mem_map.2 ⟨p, hp, rfl⟩)
    rw [← (h2 p hp).1]
    exact this
  · have hz : f k = K.zero := Classical.byContradiction fun h => hm (h3 k h)
    rw [hz]
    refine h1.look_none false K.keyed K.und (K.zeroes w) hl ?_
    intro p hp e
    obtain ⟨q, hq, rfl⟩ := List.mem_map.1 hp
    exact hm (List.mem_map.2 ⟨q, hq, K.inj _ _ e⟩)
/-- What the entries are. -/
theorem MapF.graph (h : MapF K w mb n f) (hz : ∀ v, K.vok v → v ≠ K.zero) : ∃ D : List (κ × υ), MapAt w Tryd.prog K.m mb (D.map K.pair) ∧ (∀ p, p ∈ D ↔ p.2 = f p.1 ∧ f p.1 ≠ K.zero) ∧ (D.map Prod.fst).Nodup ∧ D.length ≤ n ∧ ∀ p ∈ D, K.kok p.1 ∧ K.vok p.2 := by
  obtain ⟨D, h1, h2, h3, h4, h5⟩ := h.ex
  refine ⟨D, h1, fun p => ⟨fun hp => ?_, fun ⟨e, hne⟩ => ?_⟩, h5, h4, fun p hp => (h2 p hp).2⟩
  · obtain ⟨e, _, hv⟩ := h2 p hp
    exact ⟨e, e ▸ hz _ hv⟩
  · obtain ⟨q, hq, hk⟩ := List.mem_map.1 (h3 _ hne)
    have hv := (h2 q hq).1
    obtain ⟨a, b⟩ := p
    obtain ⟨c, d⟩ := q
    dsimp only at *
    subst hk
    rw [e, ← hv]
    exact hq
theorem MapF.put [DecidableEq κ] (h : MapF K w mb n f) {k : κ} (hk : K.kok k) {v : υ} (hv : K.vok v) :
    ∃ w', (Instr.mapUpdate K.t (.map (some mb)) (K.kv k) (K.vv v)).run Tryd.prog w = .ok () w' ∧ (MapF K w' mb (n + 1) (fun x => if x = k then v else f x) ∧ w.grownBy w' (some mb) ∧ w'.heap.size = w.heap.size) := by
  obtain ⟨D, h1, h2, h3, h4, h5⟩ := h.ex
  obtain ⟨l, hl⟩ := K.key k hk
  by_cases hm : k ∈ D.map Prod.fst
  · obtain ⟨p, hp, rfl⟩ := List.mem_map.1 hm
    obtain ⟨R, hR⟩ : ∃ R, D.Perm (p :: R) := by
      obtain ⟨s, t, rfl⟩ := List.append_of_mem hp
      exact ⟨s ++ t, List.perm_middle⟩
    have hnd := ((hR.map Prod.fst).nodup_iff.1 h5)
    have hnd2 := hnd
    simp only [List.map_cons, List.nodup_cons] at hnd2
    obtain ⟨w', hw, hM, hg, hs⟩ := h1.put_old (key := K.kv p.1) (val := K.vv v) (old := K.vv p.2) (R := R.map K.pair) K.keyed K.und hl (by simpa [KV.pair] using hR.map K.pair)
    refine ⟨w', hw, ⟨(p.1, v) :: R, hM, ?_, ?_, ?_, by simpa using hnd⟩, hg, hs⟩
    · intro q hq
      rcases List.mem_cons.1 hq with rfl | hq
      · exact ⟨by simp, hk, hv⟩
      · have hne : q.1 ≠ p.1 := fun e => hnd2.1 (e ▸ List.mem_map.2 ⟨q, hq, rfl⟩)
        simp only [if_neg hne]
        exact h2 q (hR.mem_iff.2 (List.mem_cons_of_mem _ hq))
    · intro x hx
      by_cases hxk : x = p.1
      · subst hxk; simp
      · simp only [if_neg hxk] at hx
        have := (hR.map Prod.fst).mem_iff.1 (h3 x hx)
        simpa using this
    · have := hR.length_eq
      simp at this ⊢
      omega
  · obtain ⟨w', hw, hM, hg, hs⟩ := h1.put_new (key := K.kv k) (val := K.vv v) K.keyed K.und hl (by
      intro p hp e
      obtain ⟨q, hq, rfl⟩ := List.mem_map.1 hp
      exact hm (List.mem_map.2 ⟨q, hq, K.inj _ _ e⟩))
    refine ⟨w', hw, ⟨(k, v) :: D, hM, ?_, ?_, by simp; omega, by simpa using ⟨by simpa using hm, h5⟩⟩, hg, hs⟩
    · intro q hq
      rcases List.mem_cons.1 hq with rfl | hq
      · exact ⟨by simp, hk, hv⟩
      · have hne : q.1 ≠ k := fun e => hm (e ▸ List.mem_map.2 ⟨q, hq, rfl⟩)
        simp only [if_neg hne]
        exact h2 q hq
    · intro x hx
      by_cases hxk : x = k
      · subst hxk; simp
      · simp only [if_neg hxk] at hx
        exact List.mem_cons_of_mem _ (h3 x hx)
end

/-- What the sources of a rule have in common. -/
structure Grp where
  kind : Int
  cls : Int
  cond : Int
  perms : Int
deriving DecidableEq
structure Grp.Ok (g : Grp) : Prop where
  kind : I64 g.kind
  cls : I64 g.cls
  cond : I64 g.cond
  perms : U32 g.perms
def gval (g : Grp) : Value := .agg #[.int .i64 g.kind, .int .i64 g.cls, .int .i64 g.cond, .int .u32 g.perms]
def sval (s : ASet) : Value := .agg #[.int .u64 s.a, .int .u64 s.b, .int .u64 s.c, .int .u64 s.d]
theorem gval_inj (a b : Grp) (h : gval a = gval b) : a = b := by
  cases a; cases b; simpa [gval] using h
theorem sval_inj (a b : ASet) (h : sval a = sval b) : a = b := by
  obtain ⟨a1, a2, a3, a4⟩ := a
  obtain ⟨b1, b2, b3, b4⟩ := b
  simp [sval] at h
  obtain ⟨h1, h2, h3, h4⟩ := h
  have e1 : a1 = b1 := by exact_mod_cast h1
  have e2 : a2 = b2 := by exact_mod_cast h2
  have e3 : a3 = b3 := by exact_mod_cast h3
  have e4 : a4 = b4 := by exact_mod_cast h4
  rw [e1, e2, e3, e4]
theorem u32_wf {a : Int} (h : U32 a) : (Lit.int .u32 a).wf = true := by
  have h1 : (0 ≤ a ∧ a < 4294967296) := h
  simp [Lit.wf, IntKind.min, IntKind.max, IntKind.signed, IntKind.bits]
  omega
theorem u64_wf {a : Nat} (h : U64 a) : (Lit.int .u64 a).wf = true := by
  have h1 : a < 18446744073709551616 := h
  simp [Lit.wf, IntKind.min, IntKind.max, IntKind.signed, IntKind.bits]
  omega
theorem lit25 (m : Nat) {a : Int} (wa : (Lit.int .u32 a).wf = true) : Tryd.prog.keyLits (m + 1) 25 [.int .u32 a] = some [.int .u32 a] := by
  unfold Program.keyLits
  simp [Tryd.underlying25, wa]
theorem lit22 (m : Nat) {a : Int} (wa : (Lit.int .u64 a).wf = true) : Tryd.prog.keyLits (m + 1) 22 [.int .u64 a] = some [.int .u64 a] := by
  unfold Program.keyLits
  simp [Tryd.underlying22, wa]
theorem key83 {g : Grp} (h : g.Ok) : ∃ l, keyOf Tryd.prog 83 (gval g) = some l := by
  obtain ⟨m, hm⟩ := sizeT
  have wa := i64_wf h.kind
  have wb := i64_wf h.cls
  have wc := i64_wf h.cond
  have wd := u32_wf h.perms
  obtain ⟨a, b, c, d⟩ := g
  dsimp only at wa wb wc wd
  have hu : Tryd.prog.underlying 83 = some (.struct (Tryd.prog.fieldsOf 83)) := by kernel_rfl
  have hk : Tryd.prog.keyType 83 = true := by kernel_rfl
  have hc : Tryd.prog.cellsOf 83 = 4 := by kernel_rfl
  have hc3 : Tryd.prog.cellsOf 3 = 1 := by kernel_rfl
  have hc25 : Tryd.prog.cellsOf 25 = 1 := by kernel_rfl
  have hf : (Tryd.prog.fieldsOf 83).toList.map (fun f => (f.type, f.offset)) = [(3, 0), (3, 1), (3, 2), (25, 3)] := by kernel_rfl
  have hn : (Tryd.prog.fieldsOf 83).all (fun f => f.name != "_") = true := by kernel_rfl
  have hform : (Value.agg #[.int .i64 a, .int .i64 b, .int .i64 c, .int .u32 d]).formed Tryd.prog 83 = true := by kernel_rfl
  unfold keyOf gval
  simp only [hu]
  rw [if_pos (by rw [hk, hform]; rfl), hm]
  unfold Program.keyLits
  simp only [hu, Value.cells]
  rw [if_pos ⟨by rw [hc]; rfl, hn⟩]
  generalize (Tryd.prog.fieldsOf 83).toList = fs at hf
  obtain ⟨f0, f1, f2, f3, rfl⟩ : ∃ f0 f1 f2 f3, fs = [f0, f1, f2, f3] := by
    rcases fs with _ | ⟨f0, _ | ⟨f1, _ | ⟨f2, _ | ⟨f3, _ | ⟨f4, r⟩⟩⟩⟩⟩
    · simp at hf
    · simp at hf
    · simp at hf
    · simp at hf
    · exact ⟨_, _, _, _, rfl⟩
    · simp at hf
  simp only [List.map_cons, List.map_nil, List.cons.injEq, Prod.mk.injEq, and_true] at hf
  obtain ⟨⟨t0, o0⟩, ⟨t1, o1⟩, ⟨t2, o2⟩, ⟨t3, o3⟩⟩ := hf
  obtain ⟨m', rfl⟩ : ∃ m', m = m' + 1 := ⟨m - 1, by have h : 1 < Tryd.prog.types.size := of_decide_eq_true (by kernel_rfl); omega⟩
  simp [List.mapM_cons, t0, o0, t1, o1, t2, o2, t3, o3, hc3, hc25, lit3, lit25, wa, wb, wc, wd]
theorem key24 {s : ASet} (h : s.Ok) : ∃ l, keyOf Tryd.prog 24 (sval s) = some l := by
  obtain ⟨m, hm⟩ := sizeT
  have wa := u64_wf h.a
  have wb := u64_wf h.b
  have wc := u64_wf h.c
  have wd := u64_wf h.d
  obtain ⟨a, b, c, d⟩ := s
  dsimp only at wa wb wc wd
  have hu : Tryd.prog.underlying 24 = some (.array 4 22) := by kernel_rfl
  have hk : Tryd.prog.keyType 24 = true := by kernel_rfl
  have hc : Tryd.prog.cellsOf 24 = 4 := by kernel_rfl
  have hc22 : Tryd.prog.cellsOf 22 = 1 := by kernel_rfl
  have hform : (Value.agg #[.int .u64 a, .int .u64 b, .int .u64 c, .int .u64 d]).formed Tryd.prog 24 = true := by kernel_rfl
  unfold keyOf sval
  simp only [hu]
  rw [if_pos (by rw [hk, hform]; rfl), hm]
  unfold Program.keyLits
  simp only [hu, Value.cells]
  rw [if_pos (by rw [hc]; rfl)]
  obtain ⟨m', rfl⟩ : ∃ m', m = m' + 1 := ⟨m - 1, by have h : 1 < Tryd.prog.types.size := of_decide_eq_true (by kernel_rfl); omega⟩
  rw [show List.range 4 = [0, 1, 2, 3] from rfl]
  simp [List.mapM_cons, hc22, lit22, wa, wb, wc, wd]
theorem key3 {n : Int} (h : I64 n) : ∃ l, keyOf Tryd.prog 3 (.int .i64 n) = some l := by
  unfold keyOf
  simp [Tryd.underlying3, mapKey, i64_wf h]
def KI : KV Int ASet where
  kv n := .int .i64 n
  vv := sval
  inj a b h := by injection h
  zero := ASet.zero
  kok n := 0 ≤ n ∧ n < 256
  vok s := s.Ok ∧ s ≠ ASet.zero
  m := 3
  t := 84
  e := 24
  keyed := Maps.int_keyed Tryd.underlying3
  und := Tryd.underlying84
  key n h := key3 ⟨by omega, by omega⟩
  zeroes w := by kernel_rfl
def KT : KV ASet ASet where
  kv := sval
  vv := sval
  inj := sval_inj
  zero := ASet.zero
  kok s := s.Ok
  vok s := s.Ok ∧ s ≠ ASet.zero
  m := 24
  t := 85
  e := 24
  keyed := keyed24
  und := Tryd.underlying85
  key s h := key24 h
  zeroes w := by kernel_rfl
def KG : KV Grp (Option Nat) where
  kv := gval
  vv o := .map o
  inj := gval_inj
  zero := none
  kok := Grp.Ok
  vok o := o.isSome
  m := 83
  t := 80
  e := 84
  keyed := keyed83
  und := Tryd.underlying80
  key g h := key83 h
  zeroes w := by kernel_rfl
end Go.Proofs.YtmkfabdkadocdaaDoor

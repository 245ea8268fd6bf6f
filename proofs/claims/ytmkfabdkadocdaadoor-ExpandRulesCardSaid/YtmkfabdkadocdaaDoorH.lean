import Derived.Test.YtmkfabdkadocdaaDoorG
import Derived.ChangeKeysEq
import Derived.Laws.StructEq
/-
  Equality; lists compared.
-/
namespace Go.Proofs.YtmkfabdkadocdaaDoor
open Go Go.WideMaps Go.RowKit

structure AEntry where
  src : Int
  tgt : Int
  cls : Int
  cond : Int
  allow : Int
  audit : Int
  dont : Int
deriving DecidableEq
def AEntry.cells (x : AEntry) : List Value := [.int .i64 x.src, .int .i64 x.tgt, .int .i64 x.cls, .int .i64 x.cond, .int .u32 x.allow, .int .u32 x.audit, .int .u32 x.dont]
theorem entry_len (x : AEntry) : x.cells.length = 7 := rfl
theorem rule_len (x : ARule) : x.cells.length = 13 := rfl
theorem info22 : infoB (Tryd.prog.info? 22) 1 8 = true := by kernel_rfl
theorem cOf22 : Tryd.prog.cellsOf 22 = 1 := by kernel_rfl
theorem cOf3 : Tryd.prog.cellsOf 3 = 1 := by kernel_rfl
theorem eqi (d : Nat) (a b : Int) (w : World) : (Op.equalIn (d + 1) 3 (.int .i64 a) (.int .i64 b)).run Tryd.prog w = .ok (decide (a = b)) w := by
  by_cases h : a = b <;> simp [Op.equalIn, run_underlying Tryd.underlying3, h]
theorem eqw (d : Nat) (a b : Int) (w : World) : (Op.equalIn (d + 1) 22 (.int .u64 a) (.int .u64 b)).run Tryd.prog w = .ok (decide (a = b)) w := by
  by_cases h : a = b <;> simp [Op.equalIn, run_underlying Tryd.underlying22, h]
theorem equ (d : Nat) (a b : Int) (w : World) : (Op.equalIn (d + 1) 25 (.int .u32 a) (.int .u32 b)).run Tryd.prog w = .ok (decide (a = b)) w := by
  by_cases h : a = b <;> simp [Op.equalIn, run_underlying Tryd.underlying25, h]
theorem eqb (d : Nat) (a b : Bool) (w : World) : (Op.equalIn (d + 1) 4 (.bool a) (.bool b)).run Tryd.prog w = .ok (decide (a = b)) w := by
  by_cases h : a = b <;> simp [Op.equalIn, run_underlying Tryd.underlying4, h]
theorem eqi9 (a b : Int) (w : World) : (Op.equalIn 9999 3 (.int .i64 a) (.int .i64 b)).run Tryd.prog w = .ok (decide (a = b)) w := eqi 9998 a b w
theorem eqw9 (a b : Int) (w : World) : (Op.equalIn 9999 22 (.int .u64 a) (.int .u64 b)).run Tryd.prog w = .ok (decide (a = b)) w := eqw 9998 a b w
theorem eqw8 (a b : Int) (w : World) : (Op.equalIn 9998 22 (.int .u64 a) (.int .u64 b)).run Tryd.prog w = .ok (decide (a = b)) w := eqw 9997 a b w
theorem equ9 (a b : Int) (w : World) : (Op.equalIn 9999 25 (.int .u32 a) (.int .u32 b)).run Tryd.prog w = .ok (decide (a = b)) w := equ 9998 a b w
theorem eqb9 (a b : Bool) (w : World) : (Op.equalIn 9999 4 (.bool a) (.bool b)).run Tryd.prog w = .ok (decide (a = b)) w := eqb 9998 a b w
theorem eq_set (x0 x1 x2 x3 y0 y1 y2 y3 : Int) (w : World) : (Op.equalIn 10000 24 (.agg #[.int .u64 x0, .int .u64 x1, .int .u64 x2, .int .u64 x3]) (.agg #[.int .u64 y0, .int .u64 y1, .int .u64 y2, .int .u64 y3])).run Tryd.prog w = .ok (decide (x0 = y0 ∧ x1 = y1 ∧ x2 = y2 ∧ x3 = y3)) w := by
  obtain ⟨i0, z, hi, _⟩ := infoOf info22
  rw [show (10000 : Nat) = 9999 + 1 from rfl, run_equalIn_array w 9999 _ _ Tryd.underlying24 hi, cOf22]
  have p0 : ∀ x0 x1 x2 x3 : Int, (part 22 #[.int .u64 x0, .int .u64 x1, .int .u64 x2, .int .u64 x3] (0 * 1)).run Tryd.prog w = .ok (.int .u64 x0) w := fun x0 x1 x2 x3 => by kernel_rfl
  have p1 : ∀ x0 x1 x2 x3 : Int, (part 22 #[.int .u64 x0, .int .u64 x1, .int .u64 x2, .int .u64 x3] (1 * 1)).run Tryd.prog w = .ok (.int .u64 x1) w := fun x0 x1 x2 x3 => by kernel_rfl
  have p2 : ∀ x0 x1 x2 x3 : Int, (part 22 #[.int .u64 x0, .int .u64 x1, .int .u64 x2, .int .u64 x3] (2 * 1)).run Tryd.prog w = .ok (.int .u64 x2) w := fun x0 x1 x2 x3 => by kernel_rfl
  have p3 : ∀ x0 x1 x2 x3 : Int, (part 22 #[.int .u64 x0, .int .u64 x1, .int .u64 x2, .int .u64 x3] (3 * 1)).run Tryd.prog w = .ok (.int .u64 x3) w := fun x0 x1 x2 x3 => by kernel_rfl
  rw [show List.range 4 = [0, 1, 2, 3] from rfl]
  simp only [Op.eqItems, Sem.run_bind, p0, Result.andThen_ok, eqw9]
  by_cases h0 : x0 = y0 <;> by_cases h1 : x1 = y1 <;> by_cases h2 : x2 = y2 <;> by_cases h3 : x3 = y3 <;> simp [h0, h1, h2, h3, Sem.run_bind, p1, p2, p3, eqw9]

theorem eq_set9 (x0 x1 x2 x3 y0 y1 y2 y3 : Int) (w : World) : (Op.equalIn 9999 24 (.agg #[.int .u64 x0, .int .u64 x1, .int .u64 x2, .int .u64 x3]) (.agg #[.int .u64 y0, .int .u64 y1, .int .u64 y2, .int .u64 y3])).run Tryd.prog w = .ok (decide (x0 = y0 ∧ x1 = y1 ∧ x2 = y2 ∧ x3 = y3)) w := by
  obtain ⟨i0, z, hi, _⟩ := infoOf info22
  rw [show (9999 : Nat) = 9998 + 1 from rfl, run_equalIn_array w 9998 _ _ Tryd.underlying24 hi, cOf22]
  have p0 : ∀ x0 x1 x2 x3 : Int, (part 22 #[.int .u64 x0, .int .u64 x1, .int .u64 x2, .int .u64 x3] (0 * 1)).run Tryd.prog w = .ok (.int .u64 x0) w := fun x0 x1 x2 x3 => by kernel_rfl
  have p1 : ∀ x0 x1 x2 x3 : Int, (part 22 #[.int .u64 x0, .int .u64 x1, .int .u64 x2, .int .u64 x3] (1 * 1)).run Tryd.prog w = .ok (.int .u64 x1) w := fun x0 x1 x2 x3 => by kernel_rfl
  have p2 : ∀ x0 x1 x2 x3 : Int, (part 22 #[.int .u64 x0, .int .u64 x1, .int .u64 x2, .int .u64 x3] (2 * 1)).run Tryd.prog w = .ok (.int .u64 x2) w := fun x0 x1 x2 x3 => by kernel_rfl
  have p3 : ∀ x0 x1 x2 x3 : Int, (part 22 #[.int .u64 x0, .int .u64 x1, .int .u64 x2, .int .u64 x3] (3 * 1)).run Tryd.prog w = .ok (.int .u64 x3) w := fun x0 x1 x2 x3 => by kernel_rfl
  rw [show List.range 4 = [0, 1, 2, 3] from rfl]
  simp only [Op.eqItems, Sem.run_bind, p0, Result.andThen_ok, eqw8]
  by_cases h0 : x0 = y0 <;> by_cases h1 : x1 = y1 <;> by_cases h2 : x2 = y2 <;> by_cases h3 : x3 = y3 <;> simp [h0, h1, h2, h3, Sem.run_bind, p1, p2, p3, eqw8]

theorem eq_pair (x0 x1 y0 y1 : Int) (w : World) : (Op.equalIn 10000 63 (.agg #[.int .i64 x0, .int .i64 x1]) (.agg #[.int .i64 y0, .int .i64 y1])).run Tryd.prog w = .ok (decide (x0 = y0 ∧ x1 = y1)) w := by
  obtain ⟨i0, z, hi, _⟩ := infoOf info3
  rw [show (10000 : Nat) = 9999 + 1 from rfl, run_equalIn_array w 9999 _ _ Tryd.underlying63 hi, cOf3]
  have p0 : ∀ x0 x1 : Int, (part 3 #[.int .i64 x0, .int .i64 x1] (0 * 1)).run Tryd.prog w = .ok (.int .i64 x0) w := fun x0 x1 => by kernel_rfl
  have p1 : ∀ x0 x1 : Int, (part 3 #[.int .i64 x0, .int .i64 x1] (1 * 1)).run Tryd.prog w = .ok (.int .i64 x1) w := fun x0 x1 => by kernel_rfl
  rw [show List.range 2 = [0, 1] from rfl]
  simp only [Op.eqItems, Sem.run_bind, p0, Result.andThen_ok, eqi9]
  by_cases h0 : x0 = y0 <;> by_cases h1 : x1 = y1 <;> simp [h0, h1, Sem.run_bind, p1, eqi9]

/-- Fields compared one by one. -/
theorem eq_fields {xs ys : Array Value} {W : World} {d : Nat} : ∀ (fs : List Field) (rs : List Bool), fs.length = rs.length → (fs.all fun f => f.name != "_") = true → (∀ (i : Nat) (f : Field) (r : Bool), fs[i]? = some f → rs[i]? = some r → ∃ x y, (part f.type xs f.offset).run Tryd.prog W = .ok x W ∧ (part f.type ys f.offset).run Tryd.prog W = .ok y W ∧ (Op.equalIn d f.type x y).run Tryd.prog W = .ok r W) → (Op.eqFields d xs ys fs).run Tryd.prog W = .ok (rs.all id) W
  | [], [], _, _, _ => rfl
  | f :: fs, r :: rs, hl, hn, h => by
    obtain ⟨x, y, h1, h2, h3⟩ := h 0 f r rfl rfl
    have ih := eq_fields fs rs (by simpa using hl) (by simp at hn; simpa using hn.2) fun i g s hg hs => h (i + 1) g s (by simpa using hg) (by simpa using hs)
    unfold Op.eqFields
    have hne : f.name ≠ "_" := by simp at hn; exact hn.1
    rw [if_pos hne]
    simp only [Sem.run_bind, h1, h2, h3, Result.andThen_ok]
    cases r with
    | false => simp
    | true => simpa using ih
  | [], _ :: _, h, _, _ => by simp at h
  | _ :: _, [], h, _, _ => by simp at h
set_option maxRecDepth 100000 in
theorem eq_entry (x y : AEntry) (w : World) : (Op.equalIn 10000 61 (.agg #[.int .i64 x.src, .int .i64 x.tgt, .int .i64 x.cls, .int .i64 x.cond, .int .u32 x.allow, .int .u32 x.audit, .int .u32 x.dont]) (.agg #[.int .i64 y.src, .int .i64 y.tgt, .int .i64 y.cls, .int .i64 y.cond, .int .u32 y.allow, .int .u32 y.audit, .int .u32 y.dont])).run Tryd.prog w = .ok (([decide (x.src = y.src), decide (x.tgt = y.tgt), decide (x.cls = y.cls), decide (x.cond = y.cond), decide (x.allow = y.allow), decide (x.audit = y.audit), decide (x.dont = y.dont)] : List Bool).all id) w := by
  have hf : (Tryd.prog.fieldsOf 61).toList.map (fun f => (f.type, f.offset)) = [(3, 0), (3, 1), (3, 2), (3, 3), (25, 4), (25, 5), (25, 6)] := by kernel_rfl
  rw [run_equalIn_agg w 9999 61 _ _ (by kernel_rfl) (by kernel_rfl)]
  refine eq_fields _ _ (by kernel_rfl) (by kernel_rfl) fun i f r hi hr => ?_
  have hm := congrArg (fun z : List (Nat × Nat) => z[i]?) hf
  simp only [List.getElem?_map, hi, Option.map_some] at hm
  have hlt : i < 7 := (List.getElem?_eq_some_iff.1 hr).1
  match i, hlt with
  | 0, _ =>
    obtain ⟨h1, h2⟩ := Prod.mk.inj (Option.some.inj hm)
    obtain rfl := Option.some.inj hr
    rw [h1, h2]
    exact ⟨.int .i64 x.src, .int .i64 y.src, by kernel_rfl, by kernel_rfl, eqi9 _ _ _⟩
  | 1, _ =>
    obtain ⟨h1, h2⟩ := Prod.mk.inj (Option.some.inj hm)
    obtain rfl := Option.some.inj hr
    rw [h1, h2]
    exact ⟨.int .i64 x.tgt, .int .i64 y.tgt, by kernel_rfl, by kernel_rfl, eqi9 _ _ _⟩
  | 2, _ =>
    obtain ⟨h1, h2⟩ := Prod.mk.inj (Option.some.inj hm)
    obtain rfl := Option.some.inj hr
    rw [h1, h2]
    exact ⟨.int .i64 x.cls, .int .i64 y.cls, by kernel_rfl, by kernel_rfl, eqi9 _ _ _⟩
  | 3, _ =>
    obtain ⟨h1, h2⟩ := Prod.mk.inj (Option.some.inj hm)
    obtain rfl := Option.some.inj hr
    rw [h1, h2]
    exact ⟨.int .i64 x.cond, .int .i64 y.cond, by kernel_rfl, by kernel_rfl, eqi9 _ _ _⟩
  | 4, _ =>
    obtain ⟨h1, h2⟩ := Prod.mk.inj (Option.some.inj hm)
    obtain rfl := Option.some.inj hr
    rw [h1, h2]
    exact ⟨.int .u32 x.allow, .int .u32 y.allow, by kernel_rfl, by kernel_rfl, equ9 _ _ _⟩
  | 5, _ =>
    obtain ⟨h1, h2⟩ := Prod.mk.inj (Option.some.inj hm)
    obtain rfl := Option.some.inj hr
    rw [h1, h2]
    exact ⟨.int .u32 x.audit, .int .u32 y.audit, by kernel_rfl, by kernel_rfl, equ9 _ _ _⟩
  | 6, _ =>
    obtain ⟨h1, h2⟩ := Prod.mk.inj (Option.some.inj hm)
    obtain rfl := Option.some.inj hr
    rw [h1, h2]
    exact ⟨.int .u32 x.dont, .int .u32 y.dont, by kernel_rfl, by kernel_rfl, equ9 _ _ _⟩

set_option maxRecDepth 100000 in
theorem eq_rule (x y : ARule) (w : World) : (Op.equalIn 10000 27 (.agg #[.int .i64 x.kind, .int .u64 x.src.a, .int .u64 x.src.b, .int .u64 x.src.c, .int .u64 x.src.d, .int .u64 x.tgt.a, .int .u64 x.tgt.b, .int .u64 x.tgt.c, .int .u64 x.tgt.d, .bool x.self, .int .i64 x.cls, .int .u32 x.perms, .int .i64 x.cond]) (.agg #[.int .i64 y.kind, .int .u64 y.src.a, .int .u64 y.src.b, .int .u64 y.src.c, .int .u64 y.src.d, .int .u64 y.tgt.a, .int .u64 y.tgt.b, .int .u64 y.tgt.c, .int .u64 y.tgt.d, .bool y.self, .int .i64 y.cls, .int .u32 y.perms, .int .i64 y.cond])).run Tryd.prog w = .ok (([decide (x.kind = y.kind), decide ((x.src.a : Int) = y.src.a ∧ (x.src.b : Int) = y.src.b ∧ (x.src.c : Int) = y.src.c ∧ (x.src.d : Int) = y.src.d), decide ((x.tgt.a : Int) = y.tgt.a ∧ (x.tgt.b : Int) = y.tgt.b ∧ (x.tgt.c : Int) = y.tgt.c ∧ (x.tgt.d : Int) = y.tgt.d), decide (x.self = y.self), decide (x.cls = y.cls), decide (x.perms = y.perms), decide (x.cond = y.cond)] : List Bool).all id) w := by
  have hf : (Tryd.prog.fieldsOf 27).toList.map (fun f => (f.type, f.offset)) = [(3, 0), (24, 1), (24, 5), (4, 9), (3, 10), (25, 11), (3, 12)] := by kernel_rfl
  rw [run_equalIn_agg w 9999 27 _ _ (by kernel_rfl) (by kernel_rfl)]
  refine eq_fields _ _ (by kernel_rfl) (by kernel_rfl) fun i f r hi hr => ?_
  have hm := congrArg (fun z : List (Nat × Nat) => z[i]?) hf
  simp only [List.getElem?_map, hi, Option.map_some] at hm
  have hlt : i < 7 := (List.getElem?_eq_some_iff.1 hr).1
  match i, hlt with
  | 0, _ =>
    obtain ⟨h1, h2⟩ := Prod.mk.inj (Option.some.inj hm)
    obtain rfl := Option.some.inj hr
    rw [h1, h2]
    exact ⟨.int .i64 x.kind, .int .i64 y.kind, by kernel_rfl, by kernel_rfl, eqi9 _ _ _⟩
  | 1, _ =>
    obtain ⟨h1, h2⟩ := Prod.mk.inj (Option.some.inj hm)
    obtain rfl := Option.some.inj hr
    rw [h1, h2]
    exact ⟨.agg #[.int .u64 x.src.a, .int .u64 x.src.b, .int .u64 x.src.c, .int .u64 x.src.d], .agg #[.int .u64 y.src.a, .int .u64 y.src.b, .int .u64 y.src.c, .int .u64 y.src.d], by kernel_rfl, by kernel_rfl, eq_set9 _ _ _ _ _ _ _ _ _⟩
  | 2, _ =>
    obtain ⟨h1, h2⟩ := Prod.mk.inj (Option.some.inj hm)
    obtain rfl := Option.some.inj hr
    rw [h1, h2]
    exact ⟨.agg #[.int .u64 x.tgt.a, .int .u64 x.tgt.b, .int .u64 x.tgt.c, .int .u64 x.tgt.d], .agg #[.int .u64 y.tgt.a, .int .u64 y.tgt.b, .int .u64 y.tgt.c, .int .u64 y.tgt.d], by kernel_rfl, by kernel_rfl, eq_set9 _ _ _ _ _ _ _ _ _⟩
  | 3, _ =>
    obtain ⟨h1, h2⟩ := Prod.mk.inj (Option.some.inj hm)
    obtain rfl := Option.some.inj hr
    rw [h1, h2]
    exact ⟨.bool x.self, .bool y.self, by kernel_rfl, by kernel_rfl, eqb9 _ _ _⟩
  | 4, _ =>
    obtain ⟨h1, h2⟩ := Prod.mk.inj (Option.some.inj hm)
    obtain rfl := Option.some.inj hr
    rw [h1, h2]
    exact ⟨.int .i64 x.cls, .int .i64 y.cls, by kernel_rfl, by kernel_rfl, eqi9 _ _ _⟩
  | 5, _ =>
    obtain ⟨h1, h2⟩ := Prod.mk.inj (Option.some.inj hm)
    obtain rfl := Option.some.inj hr
    rw [h1, h2]
    exact ⟨.int .u32 x.perms, .int .u32 y.perms, by kernel_rfl, by kernel_rfl, equ9 _ _ _⟩
  | 6, _ =>
    obtain ⟨h1, h2⟩ := Prod.mk.inj (Option.some.inj hm)
    obtain rfl := Option.some.inj hr
    rw [h1, h2]
    exact ⟨.int .i64 x.cond, .int .i64 y.cond, by kernel_rfl, by kernel_rfl, eqi9 _ _ _⟩

theorem pairs_any_eq (y : Nat × Nat) (w : World) : (Op.equalIn 10000 63 (.agg #[.int .i64 (y.1 : Int), .int .i64 (y.2 : Int)]) (.agg #[.int .i64 (y.1 : Int), .int .i64 (y.2 : Int)])).run Tryd.prog w = .ok true w := by rw [eq_pair]; simp
theorem same_any_eq (y : AEntry) (w : World) : (Op.equalIn 10000 61 (.agg #[.int .i64 y.src, .int .i64 y.tgt, .int .i64 y.cls, .int .i64 y.cond, .int .u32 y.allow, .int .u32 y.audit, .int .u32 y.dont]) (.agg #[.int .i64 y.src, .int .i64 y.tgt, .int .i64 y.cls, .int .i64 y.cond, .int .u32 y.allow, .int .u32 y.audit, .int .u32 y.dont])).run Tryd.prog w = .ok true w := by rw [eq_entry]; simp
theorem rules_any_eq (y : ARule) (w : World) : (Op.equalIn 10000 27 (.agg #[.int .i64 y.kind, .int .u64 y.src.a, .int .u64 y.src.b, .int .u64 y.src.c, .int .u64 y.src.d, .int .u64 y.tgt.a, .int .u64 y.tgt.b, .int .u64 y.tgt.c, .int .u64 y.tgt.d, .bool y.self, .int .i64 y.cls, .int .u32 y.perms, .int .i64 y.cond]) (.agg #[.int .i64 y.kind, .int .u64 y.src.a, .int .u64 y.src.b, .int .u64 y.src.c, .int .u64 y.src.d, .int .u64 y.tgt.a, .int .u64 y.tgt.b, .int .u64 y.tgt.c, .int .u64 y.tgt.d, .bool y.self, .int .i64 y.cls, .int .u32 y.perms, .int .i64 y.cond])).run Tryd.prog w = .ok true w := by rw [eq_rule]; simp
set_option maxRecDepth 100000 in
set_option maxHeartbeats 4000000 in
theorem pairs_any (w : World) (v v' : Value) (l : List (Nat × Nat)) (h : SliceAt w v 2 l.length (l.flatMap pcell)) (h' : SliceAt w v' 2 l.length (l.flatMap pcell)) : Calls Tryd.prog 10 #[v, v'] w fun e w' => e = .returned (.bool true) ∧ Below w.heap.size w w' := by
  obtain ⟨a, c, rfl, hac, hmx, HA⟩ := h.form (by decide)
  obtain ⟨a', c', rfl, hac', -, HA'⟩ := h'.form (by decide)
  have H1 := Lib.hid HA
  have H2 := Lib.hid HA'
  clear HA HA' h h'
  obtain ⟨N, hN⟩ : ∃ N, N = l.length := ⟨_, rfl⟩
  rw [← hN] at H1 H2 hac hac' hmx ⊢
  have HN := Lib.hid hN
  clear hN
  go_enter Tryd.func10, Tryd.ntmps10
  go_wp2
  go_loopw [13] (fun i wr => ∃ n : Nat, n ≤ N ∧ i = .int .i64 n ∧ Below w.heap.size w wr) (fun i _ => N - (intOf i).toNat)
  case atStart => exact ⟨0, Nat.zero_le _, rfl, Below.refl _ _⟩
  case round =>
    obtain ⟨n, hn, rfl, hb⟩ := hrel
    have HB := Lib.hid hb
    clear hb
    by_cases hlt : n < N
    · obtain ⟨b, off, rfl, hc⟩ := H1.out n hlt
      obtain ⟨b', off', rfl, hc'⟩ := H2.out n hlt
      obtain ⟨y, hy⟩ : ∃ y, l[n]? = some y := ⟨_, List.getElem?_eq_getElem (by have := HN.out; omega)⟩
      have key : ∀ j, j < 2 → (l.flatMap pcell)[n * 2 + j]? = (pcell y)[j]? := fun j hj => flat_at (f := pcell) (fun _ => rfl) hy j hj
      have c0 : wr.cell? ⟨b, off + n * 2, none⟩ = some (.int .i64 (y.1 : Int)) := cell_later HB.out (hc 0 _ (key 0 (by omega)))
      have d0 : wr.cell? ⟨b', off' + n * 2, none⟩ = some (.int .i64 (y.1 : Int)) := cell_later HB.out (hc' 0 _ (key 0 (by omega)))
      have c1 : wr.cell? ⟨b, off + n * 2 + 1, none⟩ = some (.int .i64 (y.2 : Int)) := cell_later HB.out (hc 1 _ (key 1 (by omega)))
      have d1 : wr.cell? ⟨b', off' + n * 2 + 1, none⟩ = some (.int .i64 (y.2 : Int)) := cell_later HB.out (hc' 1 _ (key 1 (by omega)))
      have q : ∀ W : World, (Op.equalIn 10000 63 (.agg #[.int .i64 (y.1 : Int), .int .i64 (y.2 : Int)]) (.agg #[.int .i64 (y.1 : Int), .int .i64 (y.2 : Int)])).run Tryd.prog W = .ok true W := fun W => pairs_any_eq y W
      clear hc hc' key hy
      go_wp2
      go_quiet (fail)
      go_wp2
      go_roundw
      case rel => exact ⟨n + 1, by omega, by go_num, below_drewN HB.out _⟩
      case measure => simp [intOf]; omega
    · obtain rfl : n = N := by omega
      go_wp2
      go_ret
      exact ⟨rfl, HB.out⟩

set_option maxRecDepth 100000 in
set_option maxHeartbeats 4000000 in
theorem same_any (w : World) (v v' : Value) (l : List AEntry) (h : SliceAt w v 7 l.length (l.flatMap AEntry.cells)) (h' : SliceAt w v' 7 l.length (l.flatMap AEntry.cells)) : Calls Tryd.prog 16 #[v, v'] w fun e w' => e = .returned (.bool true) ∧ Below w.heap.size w w' := by
  obtain ⟨a, c, rfl, hac, hmx, HA⟩ := h.form (by decide)
  obtain ⟨a', c', rfl, hac', -, HA'⟩ := h'.form (by decide)
  have H1 := Lib.hid HA
  have H2 := Lib.hid HA'
  clear HA HA' h h'
  obtain ⟨N, hN⟩ : ∃ N, N = l.length := ⟨_, rfl⟩
  rw [← hN] at H1 H2 hac hac' hmx ⊢
  have HN := Lib.hid hN
  clear hN
  go_enter Tryd.func16, Tryd.ntmps16
  go_wp2
  go_loopw [5] (fun i wr => ∃ n : Nat, n ≤ N ∧ i = .int .i64 n ∧ Below w.heap.size w wr) (fun i _ => N - (intOf i).toNat)
  case atStart => exact ⟨0, Nat.zero_le _, rfl, Below.refl _ _⟩
  case round =>
    obtain ⟨n, hn, rfl, hb⟩ := hrel
    have HB := Lib.hid hb
    clear hb
    by_cases hlt : n < N
    · obtain ⟨b, off, rfl, hc⟩ := H1.out n hlt
      obtain ⟨b', off', rfl, hc'⟩ := H2.out n hlt
      obtain ⟨y, hy⟩ : ∃ y, l[n]? = some y := ⟨_, List.getElem?_eq_getElem (by have := HN.out; omega)⟩
      have key : ∀ j, j < 7 → (l.flatMap AEntry.cells)[n * 7 + j]? = (AEntry.cells y)[j]? := fun j hj => flat_at (f := AEntry.cells) entry_len hy j hj
      have c0 : wr.cell? ⟨b, off + n * 7, none⟩ = some (.int .i64 y.src) := cell_later HB.out (hc 0 _ (key 0 (by omega)))
      have d0 : wr.cell? ⟨b', off' + n * 7, none⟩ = some (.int .i64 y.src) := cell_later HB.out (hc' 0 _ (key 0 (by omega)))
      have c1 : wr.cell? ⟨b, off + n * 7 + 1, none⟩ = some (.int .i64 y.tgt) := cell_later HB.out (hc 1 _ (key 1 (by omega)))
      have d1 : wr.cell? ⟨b', off' + n * 7 + 1, none⟩ = some (.int .i64 y.tgt) := cell_later HB.out (hc' 1 _ (key 1 (by omega)))
      have c2 : wr.cell? ⟨b, off + n * 7 + 2, none⟩ = some (.int .i64 y.cls) := cell_later HB.out (hc 2 _ (key 2 (by omega)))
      have d2 : wr.cell? ⟨b', off' + n * 7 + 2, none⟩ = some (.int .i64 y.cls) := cell_later HB.out (hc' 2 _ (key 2 (by omega)))
      have c3 : wr.cell? ⟨b, off + n * 7 + 3, none⟩ = some (.int .i64 y.cond) := cell_later HB.out (hc 3 _ (key 3 (by omega)))
      have d3 : wr.cell? ⟨b', off' + n * 7 + 3, none⟩ = some (.int .i64 y.cond) := cell_later HB.out (hc' 3 _ (key 3 (by omega)))
      have c4 : wr.cell? ⟨b, off + n * 7 + 4, none⟩ = some (.int .u32 y.allow) := cell_later HB.out (hc 4 _ (key 4 (by omega)))
      have d4 : wr.cell? ⟨b', off' + n * 7 + 4, none⟩ = some (.int .u32 y.allow) := cell_later HB.out (hc' 4 _ (key 4 (by omega)))
      have c5 : wr.cell? ⟨b, off + n * 7 + 5, none⟩ = some (.int .u32 y.audit) := cell_later HB.out (hc 5 _ (key 5 (by omega)))
      have d5 : wr.cell? ⟨b', off' + n * 7 + 5, none⟩ = some (.int .u32 y.audit) := cell_later HB.out (hc' 5 _ (key 5 (by omega)))
      have c6 : wr.cell? ⟨b, off + n * 7 + 6, none⟩ = some (.int .u32 y.dont) := cell_later HB.out (hc 6 _ (key 6 (by omega)))
      have d6 : wr.cell? ⟨b', off' + n * 7 + 6, none⟩ = some (.int .u32 y.dont) := cell_later HB.out (hc' 6 _ (key 6 (by omega)))
      have q : ∀ W : World, (Op.equalIn 10000 61 (.agg #[.int .i64 y.src, .int .i64 y.tgt, .int .i64 y.cls, .int .i64 y.cond, .int .u32 y.allow, .int .u32 y.audit, .int .u32 y.dont]) (.agg #[.int .i64 y.src, .int .i64 y.tgt, .int .i64 y.cls, .int .i64 y.cond, .int .u32 y.allow, .int .u32 y.audit, .int .u32 y.dont])).run Tryd.prog W = .ok true W := fun W => same_any_eq y W
      clear hc hc' key hy
      go_wp2
      go_quiet (fail)
      go_wp2
      go_roundw
      case rel => exact ⟨n + 1, by omega, by go_num, below_drewN HB.out _⟩
      case measure => simp [intOf]; omega
    · obtain rfl : n = N := by omega
      go_wp2
      go_ret
      exact ⟨rfl, HB.out⟩

set_option maxRecDepth 100000 in
set_option maxHeartbeats 4000000 in
theorem rules_any (w : World) (v v' : Value) (l : List ARule) (h : SliceAt w v 13 l.length (l.flatMap ARule.cells)) (h' : SliceAt w v' 13 l.length (l.flatMap ARule.cells)) : Calls Tryd.prog 23 #[v, v'] w fun e w' => e = .returned (.bool true) ∧ Below w.heap.size w w' := by
  obtain ⟨a, c, rfl, hac, hmx, HA⟩ := h.form (by decide)
  obtain ⟨a', c', rfl, hac', -, HA'⟩ := h'.form (by decide)
  have H1 := Lib.hid HA
  have H2 := Lib.hid HA'
  clear HA HA' h h'
  obtain ⟨N, hN⟩ : ∃ N, N = l.length := ⟨_, rfl⟩
  rw [← hN] at H1 H2 hac hac' hmx ⊢
  have HN := Lib.hid hN
  clear hN
  go_enter Tryd.func23, Tryd.ntmps23
  go_wp2
  go_loopw [13] (fun i wr => ∃ n : Nat, n ≤ N ∧ i = .int .i64 n ∧ Below w.heap.size w wr) (fun i _ => N - (intOf i).toNat)
  case atStart => exact ⟨0, Nat.zero_le _, rfl, Below.refl _ _⟩
  case round =>
    obtain ⟨n, hn, rfl, hb⟩ := hrel
    have HB := Lib.hid hb
    clear hb
    by_cases hlt : n < N
    · obtain ⟨b, off, rfl, hc⟩ := H1.out n hlt
      obtain ⟨b', off', rfl, hc'⟩ := H2.out n hlt
      obtain ⟨y, hy⟩ : ∃ y, l[n]? = some y := ⟨_, List.getElem?_eq_getElem (by have := HN.out; omega)⟩
      have key : ∀ j, j < 13 → (l.flatMap ARule.cells)[n * 13 + j]? = (ARule.cells y)[j]? := fun j hj => flat_at (f := ARule.cells) rule_len hy j hj
      have c0 : wr.cell? ⟨b, off + n * 13, none⟩ = some (.int .i64 y.kind) := cell_later HB.out (hc 0 _ (key 0 (by omega)))
      have d0 : wr.cell? ⟨b', off' + n * 13, none⟩ = some (.int .i64 y.kind) := cell_later HB.out (hc' 0 _ (key 0 (by omega)))
      have c1 : wr.cell? ⟨b, off + n * 13 + 1, none⟩ = some (.int .u64 y.src.a) := cell_later HB.out (hc 1 _ (key 1 (by omega)))
      have d1 : wr.cell? ⟨b', off' + n * 13 + 1, none⟩ = some (.int .u64 y.src.a) := cell_later HB.out (hc' 1 _ (key 1 (by omega)))
      have c2 : wr.cell? ⟨b, off + n * 13 + 2, none⟩ = some (.int .u64 y.src.b) := cell_later HB.out (hc 2 _ (key 2 (by omega)))
      have d2 : wr.cell? ⟨b', off' + n * 13 + 2, none⟩ = some (.int .u64 y.src.b) := cell_later HB.out (hc' 2 _ (key 2 (by omega)))
      have c3 : wr.cell? ⟨b, off + n * 13 + 3, none⟩ = some (.int .u64 y.src.c) := cell_later HB.out (hc 3 _ (key 3 (by omega)))
      have d3 : wr.cell? ⟨b', off' + n * 13 + 3, none⟩ = some (.int .u64 y.src.c) := cell_later HB.out (hc' 3 _ (key 3 (by omega)))
      have c4 : wr.cell? ⟨b, off + n * 13 + 4, none⟩ = some (.int .u64 y.src.d) := cell_later HB.out (hc 4 _ (key 4 (by omega)))
      have d4 : wr.cell? ⟨b', off' + n * 13 + 4, none⟩ = some (.int .u64 y.src.d) := cell_later HB.out (hc' 4 _ (key 4 (by omega)))
      have c5 : wr.cell? ⟨b, off + n * 13 + 5, none⟩ = some (.int .u64 y.tgt.a) := cell_later HB.out (hc 5 _ (key 5 (by omega)))
      have d5 : wr.cell? ⟨b', off' + n * 13 + 5, none⟩ = some (.int .u64 y.tgt.a) := cell_later HB.out (hc' 5 _ (key 5 (by omega)))
      have c6 : wr.cell? ⟨b, off + n * 13 + 6, none⟩ = some (.int .u64 y.tgt.b) := cell_later HB.out (hc 6 _ (key 6 (by omega)))
      have d6 : wr.cell? ⟨b', off' + n * 13 + 6, none⟩ = some (.int .u64 y.tgt.b) := cell_later HB.out (hc' 6 _ (key 6 (by omega)))
      have c7 : wr.cell? ⟨b, off + n * 13 + 7, none⟩ = some (.int .u64 y.tgt.c) := cell_later HB.out (hc 7 _ (key 7 (by omega)))
      have d7 : wr.cell? ⟨b', off' + n * 13 + 7, none⟩ = some (.int .u64 y.tgt.c) := cell_later HB.out (hc' 7 _ (key 7 (by omega)))
      have c8 : wr.cell? ⟨b, off + n * 13 + 8, none⟩ = some (.int .u64 y.tgt.d) := cell_later HB.out (hc 8 _ (key 8 (by omega)))
      have d8 : wr.cell? ⟨b', off' + n * 13 + 8, none⟩ = some (.int .u64 y.tgt.d) := cell_later HB.out (hc' 8 _ (key 8 (by omega)))
      have c9 : wr.cell? ⟨b, off + n * 13 + 9, none⟩ = some (.bool y.self) := cell_later HB.out (hc 9 _ (key 9 (by omega)))
      have d9 : wr.cell? ⟨b', off' + n * 13 + 9, none⟩ = some (.bool y.self) := cell_later HB.out (hc' 9 _ (key 9 (by omega)))
      have c10 : wr.cell? ⟨b, off + n * 13 + 10, none⟩ = some (.int .i64 y.cls) := cell_later HB.out (hc 10 _ (key 10 (by omega)))
      have d10 : wr.cell? ⟨b', off' + n * 13 + 10, none⟩ = some (.int .i64 y.cls) := cell_later HB.out (hc' 10 _ (key 10 (by omega)))
      have c11 : wr.cell? ⟨b, off + n * 13 + 11, none⟩ = some (.int .u32 y.perms) := cell_later HB.out (hc 11 _ (key 11 (by omega)))
      have d11 : wr.cell? ⟨b', off' + n * 13 + 11, none⟩ = some (.int .u32 y.perms) := cell_later HB.out (hc' 11 _ (key 11 (by omega)))
      have c12 : wr.cell? ⟨b, off + n * 13 + 12, none⟩ = some (.int .i64 y.cond) := cell_later HB.out (hc 12 _ (key 12 (by omega)))
      have d12 : wr.cell? ⟨b', off' + n * 13 + 12, none⟩ = some (.int .i64 y.cond) := cell_later HB.out (hc' 12 _ (key 12 (by omega)))
      have q : ∀ W : World, (Op.equalIn 10000 27 (.agg #[.int .i64 y.kind, .int .u64 y.src.a, .int .u64 y.src.b, .int .u64 y.src.c, .int .u64 y.src.d, .int .u64 y.tgt.a, .int .u64 y.tgt.b, .int .u64 y.tgt.c, .int .u64 y.tgt.d, .bool y.self, .int .i64 y.cls, .int .u32 y.perms, .int .i64 y.cond]) (.agg #[.int .i64 y.kind, .int .u64 y.src.a, .int .u64 y.src.b, .int .u64 y.src.c, .int .u64 y.src.d, .int .u64 y.tgt.a, .int .u64 y.tgt.b, .int .u64 y.tgt.c, .int .u64 y.tgt.d, .bool y.self, .int .i64 y.cls, .int .u32 y.perms, .int .i64 y.cond])).run Tryd.prog W = .ok true W := fun W => rules_any_eq y W
      clear hc hc' key hy
      go_wp2
      go_quiet (fail)
      go_wp2
      go_roundw
      case rel => exact ⟨n + 1, by omega, by go_num, below_drewN HB.out _⟩
      case measure => simp [intOf]; omega
    · obtain rfl : n = N := by omega
      go_wp2
      go_ret
      exact ⟨rfl, HB.out⟩

end Go.Proofs.YtmkfabdkadocdaaDoor

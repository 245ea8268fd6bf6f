import Derived.Test.YtmkfabdkadocdaaDoorE
/-
  A rule; the pairs of a rule: expand.Rule.
-/
namespace Go.Proofs.YtmkfabdkadocdaaDoor
open Go Go.RowKit

structure ARule where
  kind : Int
  src : ASet
  tgt : ASet
  self : Bool
  cls : Int
  perms : Int
  cond : Int
structure ARule.Ok (r : ARule) : Prop where
  src : r.src.Ok
  tgt : r.tgt.Ok
def ARule.cells (r : ARule) : List Value := [.int .i64 r.kind, .int .u64 r.src.a, .int .u64 r.src.b, .int .u64 r.src.c, .int .u64 r.src.d, .int .u64 r.tgt.a, .int .u64 r.tgt.b, .int .u64 r.tgt.c, .int .u64 r.tgt.d, .bool r.self, .int .i64 r.cls, .int .u32 r.perms, .int .i64 r.cond]
/-- The targets of a source. -/
def ARule.tgts (r : ARule) (s : Nat) : ASet := if r.self then r.tgt.with s else r.tgt
theorem ARule.tgts_ok {r : ARule} (h : r.Ok) (s : Nat) : (r.tgts s).Ok := by
  unfold ARule.tgts
  split
  · exact ASet.with_ok h.tgt _
  · exact h.tgt
/-- The pairs of a rule, ascending. -/
def ARule.pairsTo (r : ARule) (l : List Nat) : List (Nat × Nat) := l.flatMap fun s => (elems (r.tgts s)).map fun t => (s, t)
def ARule.pairs (r : ARule) : List (Nat × Nat) := r.pairsTo (elems r.src)
def pcell (p : Nat × Nat) : List Value := [.int .i64 (p.1 : Int), .int .i64 (p.2 : Int)]
def pcells (l : List (Nat × Nat)) : List Value := l.flatMap pcell
theorem pcells_app (a b : List (Nat × Nat)) : pcells (a ++ b) = pcells a ++ pcells b := List.flatMap_append
theorem pcells_len (a : List (Nat × Nat)) : (pcells a).length = a.length * 2 := flat_length (f := pcell) (fun _ => rfl) a
theorem pcells_one (a : List (Nat × Nat)) : ∀ u ∈ pcells a, u.oneCell' = true := by
  intro u hu
  obtain ⟨p, -, hp⟩ := List.mem_flatMap.1 hu
  simp [pcell] at hp
  rcases hp with rfl | rfl <;> rfl
theorem ints_one (a : List Nat) : ∀ u ∈ ints a, u.oneCell' = true := by
  intro u hu
  obtain ⟨p, -, rfl⟩ := List.mem_map.1 hu
  rfl
theorem own_apart {w : World} {b b' : Nat} {e e' : TypeId} {k k' n n' : Nat} {v v' : Value} {xs xs' : List Value} (h : w.ownsRow b e k v n xs) (h' : w.ownsRow b' e' k' v' n' xs') (hne : e ≠ e') : v.ownBlock = none ∨ v.ownBlock ≠ v'.ownBlock := by
  rcases h.2 with ⟨rfl, _⟩ | ⟨g, cap, cur, rfl, _, hg, _⟩
  · exact .inl rfl
  · refine .inr fun e1 => own_blk_far h' (g := g) (t := e) (cs := cur) hg (fun e2 => hne e2.symm) ?_
    rw [← e1]; rfl
theorem own_grown {w w' : World} {b b' : Nat} {e e' : TypeId} {k k' n n' : Nat} {v v' : Value} {xs xs' : List Value} (h : w.ownsRow b e k v n xs) (h' : w.ownsRow b' e' k' v' n' xs') (hne : e ≠ e') (hg : w.grownBy w' v'.ownBlock) : w'.ownsRow b e k v n xs :=
  h.kept hg (own_apart h h' hne)
theorem own_alloc {w : World} {b : Nat} {e : TypeId} {k n : Nat} {v : Value} {xs : List Value} (h : w.ownsRow b e k v n xs) (o : Obj) : (w.alloc o).ownsRow b e k v n xs := own_keep ((Below.refl _ w).alloc (Nat.le_refl _) o) h (Nat.le_refl _)
theorem own_drop {w : World} {b b' : Nat} {e : TypeId} {k n : Nat} {v : Value} {xs : List Value} (h : w.ownsRow b e k v n xs) (hb : b' ≤ b) : w.ownsRow b' e k v n xs := own_low h hb
theorem int_cell {w : World} {base n c : Nat} {a : Option Addr} {l : List Nat} (h : w.ownsRow base 3 1 (.slice a n c) n (ints l)) {k y : Nat} (hk : l[k]? = some y) : ∃ g, a = some ⟨g, 0, none⟩ ∧ w.cell? ⟨g, k, none⟩ = some (.int .i64 (y : Int)) := by
  have hl := h.1
  rw [ints_len] at hl
  have hk0 : k < l.length := (List.getElem?_eq_some_iff.1 hk).1
  rcases h.2 with ⟨h1, h2⟩ | ⟨g, cap, cur, h1, _, hg, _, _, _, h3⟩
  · omega
  · injection h1 with e1 e2 e3
    refine ⟨g, e1, (Whole.cell (show Whole w g 3 cur from hg) k).trans ?_⟩
    rw [← Array.getElem?_toList, ← List.getElem?_take_of_lt (show k < n * 1 by omega), h3]
    simp [ints, hk]
theorem row_cap {w : World} {base n c k : Nat} {e : TypeId} {a : Option Addr} {xs : List Value} (h : w.ownsRow base e k (.slice a n c) n xs) : n ≤ c := by
  rcases h.2 with ⟨h1, h2⟩ | ⟨g, cap, cur, h1, _, _, h4, _⟩
  · omega
  · injection h1 with e1 e2 e3
    omega
theorem info63 : infoB (Tryd.prog.info? 63) 2 16 = true := by kernel_rfl
theorem pair_new (w : World) (u v : Value) (t : TypeId) : ∀ j x, ([u, v] : List Value)[j]? = some x → (w.alloc (.cells #[u, v] t)).cell? ((⟨w.heap.size, 0, none⟩ : Addr).add j) = some x := fun j x hj => by
  rw [Addr.add_lit, Nat.zero_add]
  exact ((Whole.new w t #[u, v]).cell j).trans (by simpa using hj)

/-- The round of the inner loop, its list in hand. -/
def InR (w : World) (r : ARule) (a1 : Option Addr) (c1 n1 : Nat) (a2 : Option Addr) (c2 n2 : Nat) (l2 : List Nat) (P : List (Nat × Nat)) (u : Value) (wr : World) : Prop :=
  wr.ownsRow w.heap.size 63 2 u P.length (pcells P) ∧ wr.ownsRow w.heap.size 3 1 (.slice a1 n1 c1) n1 (ints (elems r.src)) ∧ wr.ownsRow w.heap.size 3 1 (.slice a2 n2 c2) n2 (ints l2) ∧ Below w.heap.size w wr ∧ Whole wr w.heap.size 27 #[.int .i64 r.kind, .int .u64 r.src.a, .int .u64 r.src.b, .int .u64 r.src.c, .int .u64 r.src.d, .int .u64 r.tgt.a, .int .u64 r.tgt.b, .int .u64 r.tgt.c, .int .u64 r.tgt.d, .bool r.self, .int .i64 r.cls, .int .u32 r.perms, .int .i64 r.cond]
def OutR (w : World) (r : ARule) (a1 : Option Addr) (c1 n1 : Nat) (P : List (Nat × Nat)) (u : Value) (wr : World) : Prop :=
  wr.ownsRow w.heap.size 63 2 u P.length (pcells P) ∧ wr.ownsRow w.heap.size 3 1 (.slice a1 n1 c1) n1 (ints (elems r.src)) ∧ Below w.heap.size w wr ∧ Whole wr w.heap.size 27 #[.int .i64 r.kind, .int .u64 r.src.a, .int .u64 r.src.b, .int .u64 r.src.c, .int .u64 r.src.d, .int .u64 r.tgt.a, .int .u64 r.tgt.b, .int .u64 r.tgt.c, .int .u64 r.tgt.d, .bool r.self, .int .i64 r.cls, .int .u32 r.perms, .int .i64 r.cond]
theorem OutR.keep {w wr w' : World} {r : ARule} {a1 : Option Addr} {c1 n1 : Nat} {P : List (Nat × Nat)} {u : Value} (h : OutR w r a1 c1 n1 P u wr) (hb : Below wr.heap.size wr w') : OutR w r a1 c1 n1 P u w' :=
  ⟨own_keep hb h.1 (Nat.le_refl _), own_keep hb h.2.1 (Nat.le_refl _), h.2.2.1.trans (hb.mono h.2.2.1.size), Whole.under hb h.2.2.2 h.2.2.2.lt⟩
theorem pairs_small (r : ARule) (l : List Nat) : (r.pairsTo l).length ≤ l.length * 256 := by
  induction l with
  | nil => simp [ARule.pairsTo]
  | cons s l ih =>
    have h1 := elemsTo_len (r.tgts s) 256
    have e : (r.pairsTo (s :: l)).length = (elems (r.tgts s)).length + (r.pairsTo l).length := by simp [ARule.pairsTo]
    rw [e, List.length_cons, Nat.add_mul]
    unfold elems
    omega
theorem pairsTo_snoc (r : ARule) (l : List Nat) (s : Nat) : r.pairsTo (l ++ [s]) = r.pairsTo l ++ (elems (r.tgts s)).map fun t => (s, t) := by simp [ARule.pairsTo]
/-- A pair appended. -/
theorem InR.more {w wr w2 : World} {r : ARule} {a1 a2 : Option Addr} {c1 n1 c2 n2 : Nat} {l2 : List Nat} {P : List (Nat × Nat)} {u v' : Value} {s y : Nat} (h : InR w r a1 c1 n1 a2 c2 n2 l2 P u wr)
    (hown : w2.ownsRow w.heap.size 63 2 v' (P.length + 1) (pcells P ++ pcell (s, y))) (hg : (wr.alloc (.cells #[.int .i64 (s : Int), .int .i64 (y : Int)] 63)).grownBy w2 u.ownBlock) : InR w r a1 c1 n1 a2 c2 n2 l2 (P ++ [(s, y)]) v' w2 := by
  obtain ⟨h1, h2, h3, h4, h5⟩ := h
  have ho := own_alloc h1 (.cells #[.int .i64 (s : Int), .int .i64 (y : Int)] 63)
  refine ⟨?_, own_grown (own_alloc h2 _) ho (by decide) hg, own_grown (own_alloc h3 _) ho (by decide) hg, (h4.alloc h4.size _).grown hg (by have := h4.size; simp; omega) (fun q hq => by have := (h1.lt q hq).1; omega), (h5.alloc _).grown hg (fun e => own_blk_far h1 h5 (by decide) e.symm)⟩
  rw [List.length_append, pcells_app]
  exact hown

set_option maxRecDepth 100000 in
set_option maxHeartbeats 8000000 in
theorem rule_any (w : World) (r : ARule) (hr : r.Ok) :
    Calls Tryd.prog 11 #[.agg #[.int .i64 r.kind, .int .u64 r.src.a, .int .u64 r.src.b, .int .u64 r.src.c, .int .u64 r.src.d, .int .u64 r.tgt.a, .int .u64 r.tgt.b, .int .u64 r.tgt.c, .int .u64 r.tgt.d, .bool r.self, .int .i64 r.cls, .int .u32 r.perms, .int .i64 r.cond]] w fun e w' => ∃ v, e = .returned v ∧ w'.ownsRow w.heap.size 63 2 v r.pairs.length (pcells r.pairs) ∧ Below w.heap.size w w' := by
  obtain ⟨i0, z, hi, hz0, hz1, hz2, hzs⟩ := infoOf info63
  have HR := Lib.hid hr
  clear hr
  have HW0 := Lib.hid (Whole.new w 27 #[.int .i64 r.kind, .int .u64 r.src.a, .int .u64 r.src.b, .int .u64 r.src.c, .int .u64 r.src.d, .int .u64 r.tgt.a, .int .u64 r.tgt.b, .int .u64 r.tgt.c, .int .u64 r.tgt.d, .bool r.self, .int .i64 r.cls, .int .u32 r.perms, .int .i64 r.cond])
  have k1 : (w.alloc (.cells #[.int .i64 r.kind, .int .u64 r.src.a, .int .u64 r.src.b, .int .u64 r.src.c, .int .u64 r.src.d, .int .u64 r.tgt.a, .int .u64 r.tgt.b, .int .u64 r.tgt.c, .int .u64 r.tgt.d, .bool r.self, .int .i64 r.cls, .int .u32 r.perms, .int .i64 r.cond] 27)).cell? ⟨w.heap.size, 1, none⟩ = some (.int .u64 r.src.a) := HW0.out.cell 1
  have k2 : (w.alloc (.cells #[.int .i64 r.kind, .int .u64 r.src.a, .int .u64 r.src.b, .int .u64 r.src.c, .int .u64 r.src.d, .int .u64 r.tgt.a, .int .u64 r.tgt.b, .int .u64 r.tgt.c, .int .u64 r.tgt.d, .bool r.self, .int .i64 r.cls, .int .u32 r.perms, .int .i64 r.cond] 27)).cell? ⟨w.heap.size, 2, none⟩ = some (.int .u64 r.src.b) := HW0.out.cell 2
  have k3 : (w.alloc (.cells #[.int .i64 r.kind, .int .u64 r.src.a, .int .u64 r.src.b, .int .u64 r.src.c, .int .u64 r.src.d, .int .u64 r.tgt.a, .int .u64 r.tgt.b, .int .u64 r.tgt.c, .int .u64 r.tgt.d, .bool r.self, .int .i64 r.cls, .int .u32 r.perms, .int .i64 r.cond] 27)).cell? ⟨w.heap.size, 3, none⟩ = some (.int .u64 r.src.c) := HW0.out.cell 3
  have k4 : (w.alloc (.cells #[.int .i64 r.kind, .int .u64 r.src.a, .int .u64 r.src.b, .int .u64 r.src.c, .int .u64 r.src.d, .int .u64 r.tgt.a, .int .u64 r.tgt.b, .int .u64 r.tgt.c, .int .u64 r.tgt.d, .bool r.self, .int .i64 r.cls, .int .u32 r.perms, .int .i64 r.cond] 27)).cell? ⟨w.heap.size, 4, none⟩ = some (.int .u64 r.src.d) := HW0.out.cell 4
  go_enter Tryd.func11, Tryd.ntmps11
  go_wp2_with (go_at_call 26; go_must (refine (list_any _ r.src HR.out.src).mono ?_; rintro e w1 ⟨v1, rfl, hl1, hb1⟩; have HL0 := Lib.hid hl1; have HB0 := Lib.hid hb1; obtain ⟨a1, c1, hv1⟩ := row_form hl1; subst hv1; clear hl1 hb1))
  clear k1 k2 k3 k4
  obtain ⟨n1, hn1⟩ : ∃ n, n = (elems r.src).length := ⟨_, rfl⟩
  have HN1 := Lib.hid hn1
  have HL1 : Hid (w1.ownsRow w.heap.size 3 1 (.slice a1 n1 c1) n1 (ints (elems r.src))) := by
    have h := HL0.out
    rw [← hn1] at h
    exact own_drop h (by simp)
  clear HL0
  rw [← hn1]
  have HO1 := Lib.hid (show OutR w r a1 c1 n1 [] (.slice none 0 0) w1 from ⟨World.ownsRow_nil _ _ _ _, HL1.out, ((Below.refl _ w).alloc (Nat.le_refl _) _).trans (HB0.out.mono (by simp)), Whole.under HB0.out HW0.out (by simp)⟩)
  have hn1b : n1 ≤ 256 := by rw [hn1]; exact elemsTo_len _ _
  have hc1 := row_cap HL1.out
  clear hn1 HL1 HB0 HW0
  go_loopw [3, 13] (fun u i wr => ∃ k : Nat, k ≤ n1 ∧ i = .int .i64 k ∧ OutR w r a1 c1 n1 (r.pairsTo ((elems r.src).take k)) u wr) (fun _ i _ => n1 - (intOf i).toNat)
  case atStart => exact ⟨0, Nat.zero_le _, rfl, HO1.out⟩
  case round =>
    clear HO1
    obtain ⟨k, hk, rfl, hO⟩ := hrel
    have HO := Lib.hid hO
    clear hO
    by_cases hlt : k < n1
    · obtain ⟨s, hs⟩ : ∃ s, (elems r.src)[k]? = some s := ⟨_, List.getElem?_eq_getElem (by have := HN1.out; omega)⟩
      obtain ⟨g1, rfl, hcell⟩ := int_cell HO.out.2.1 hs
      have HS := Lib.hid hs
      have hs256 : s < 256 := by
        have := List.mem_of_getElem? hs
        simp [elems, elemsTo] at this
        exact this.1
      clear hs
      have hP := pairs_small r ((elems r.src).take k)
      have hP2 := List.length_take_le k (elems r.src)
      obtain ⟨P, hPe⟩ : ∃ P, P = r.pairsTo ((elems r.src).take k) := ⟨_, rfl⟩
      rw [← hPe] at HO hP
      have HPE := Lib.hid hPe
      have hPl : P.length ≤ 65536 := Nat.le_trans hP (by omega)
      clear hPe hP hP2
      have k5 : wr.cell? ⟨w.heap.size, 5, none⟩ = some (.int .u64 r.tgt.a) := (show Hid (Whole wr w.heap.size 27 #[.int .i64 r.kind, .int .u64 r.src.a, .int .u64 r.src.b, .int .u64 r.src.c, .int .u64 r.src.d, .int .u64 r.tgt.a, .int .u64 r.tgt.b, .int .u64 r.tgt.c, .int .u64 r.tgt.d, .bool r.self, .int .i64 r.cls, .int .u32 r.perms, .int .i64 r.cond]) from HO.out.2.2.2).out.cell 5
      have k6 : wr.cell? ⟨w.heap.size, 6, none⟩ = some (.int .u64 r.tgt.b) := (show Hid (Whole wr w.heap.size 27 #[.int .i64 r.kind, .int .u64 r.src.a, .int .u64 r.src.b, .int .u64 r.src.c, .int .u64 r.src.d, .int .u64 r.tgt.a, .int .u64 r.tgt.b, .int .u64 r.tgt.c, .int .u64 r.tgt.d, .bool r.self, .int .i64 r.cls, .int .u32 r.perms, .int .i64 r.cond]) from HO.out.2.2.2).out.cell 6
      have k7 : wr.cell? ⟨w.heap.size, 7, none⟩ = some (.int .u64 r.tgt.c) := (show Hid (Whole wr w.heap.size 27 #[.int .i64 r.kind, .int .u64 r.src.a, .int .u64 r.src.b, .int .u64 r.src.c, .int .u64 r.src.d, .int .u64 r.tgt.a, .int .u64 r.tgt.b, .int .u64 r.tgt.c, .int .u64 r.tgt.d, .bool r.self, .int .i64 r.cls, .int .u32 r.perms, .int .i64 r.cond]) from HO.out.2.2.2).out.cell 7
      have k8 : wr.cell? ⟨w.heap.size, 8, none⟩ = some (.int .u64 r.tgt.d) := (show Hid (Whole wr w.heap.size 27 #[.int .i64 r.kind, .int .u64 r.src.a, .int .u64 r.src.b, .int .u64 r.src.c, .int .u64 r.src.d, .int .u64 r.tgt.a, .int .u64 r.tgt.b, .int .u64 r.tgt.c, .int .u64 r.tgt.d, .bool r.self, .int .i64 r.cls, .int .u32 r.perms, .int .i64 r.cond]) from HO.out.2.2.2).out.cell 8
      have k9 : wr.cell? ⟨w.heap.size, 9, none⟩ = some (.bool r.self) := (show Hid (Whole wr w.heap.size 27 #[.int .i64 r.kind, .int .u64 r.src.a, .int .u64 r.src.b, .int .u64 r.src.c, .int .u64 r.src.d, .int .u64 r.tgt.a, .int .u64 r.tgt.b, .int .u64 r.tgt.c, .int .u64 r.tgt.d, .bool r.self, .int .i64 r.cls, .int .u32 r.perms, .int .i64 r.cond]) from HO.out.2.2.2).out.cell 9
      by_cases hsf : r.self = true
      · rw [hsf] at k9
        have HSF := Lib.hid hsf
        clear hsf
        go_wp2_with (first | (refine wpList_store_blk rfl 24 _ _ rfl (wr.heap.size) 0 (.agg #[.int .u64 r.tgt.a, .int .u64 r.tgt.b, .int .u64 r.tgt.c, .int .u64 r.tgt.d]) rfl rfl 24 _ (Whole.new wr 24 _) (by simp [Value.cells]) size24 rfl ?_; intro w2 S2 W2; rw [splice_all _ _ (by rfl)] at W2; have HB2 := Lib.hid (show Below wr.heap.size wr w2 from ((Below.refl _ wr).alloc (Nat.le_refl _) _).trans (S2.below (Nat.le_refl _))); have HW2 := Lib.hid (show Whole w2 wr.heap.size 24 #[.int .u64 r.tgt.a, .int .u64 r.tgt.b, .int .u64 r.tgt.c, .int .u64 r.tgt.d] from W2); have kz : w2.cell? ⟨w.heap.size, 9, none⟩ = some (.bool true) := cell_later HB2.out k9; clear S2 W2 k5 k6 k7 k8 k9) | (refine wpList_load_row rfl 24 _ rfl (wr.heap.size) rfl 24 _ (0, 0) _ HW4.out Tryd.underlying24 rfl size24 ?_) | (refine wpList_load_row rfl 24 _ rfl (wr.heap.size) rfl 24 _ (0, 0) _ HW2.out Tryd.underlying24 rfl size24 ?_) | (go_at_call 27; go_must (refine (with_any w2 r.tgt HR.out.tgt (s : Int)).mono ?_; rintro e w3 ⟨rfl, hb3⟩; have HB3 := Lib.hid (HB2.out.trans (hb3.mono HB2.out.size)); have HW3 := Lib.hid (Whole.under hb3 HW2.out HW2.out.lt); clear hb3 HW2 kz)) | (refine wpList_store_blk rfl 24 _ _ rfl (wr.heap.size) 0 (.agg #[.int .u64 (r.tgt.with s).a, .int .u64 (r.tgt.with s).b, .int .u64 (r.tgt.with s).c, .int .u64 (r.tgt.with s).d]) rfl rfl 24 _ HW3.out (by simp [Value.cells]) size24 rfl ?_; intro w4 S4 W4; rw [splice_all _ _ (by rfl)] at W4; have HB4 := Lib.hid (HB3.out.trans (S4.below (Nat.le_refl _))); have HW4 := Lib.hid (show Whole w4 wr.heap.size 24 #[.int .u64 (r.tgt.with s).a, .int .u64 (r.tgt.with s).b, .int .u64 (r.tgt.with s).c, .int .u64 (r.tgt.with s).d] from W4); clear S4 W4 HW3) | (go_at_call 26; go_must (refine (list_any w4 (r.tgt.with s) (ASet.with_ok HR.out.tgt _)).mono ?_; rintro e w5 ⟨v2, rfl, hl2, hb5⟩; have HO5 := Lib.hid (HO.out.keep (HB4.out.trans (hb5.mono HB4.out.size))); have HLZ := Lib.hid (own_drop (b' := w.heap.size) hl2 (by have := HO.out.2.2.1.size; have := HB4.out.size; omega)); obtain ⟨a2, c2, hv2⟩ := row_form hl2; subst hv2; clear hl2 hb5)))
        obtain ⟨n2, hn2⟩ : ∃ n, n = (elems (r.tgt.with s)).length := ⟨_, rfl⟩
        rw [← hn2] at HLZ ⊢
        have HN2 := Lib.hid hn2
        have hn2b : n2 ≤ 256 := by rw [hn2]; exact elemsTo_len _ _
        have hc2 := row_cap HLZ.out
        have HT := Lib.hid (show elems (r.tgts s) = elems (r.tgt.with s) by unfold ARule.tgts; have hsf := HSF.out; simp [hsf])
        clear hn2 HSF
        go_loopw [3, 27] (fun u i wq => ∃ q : Nat, q ≤ n2 ∧ i = .int .i64 q ∧ InR w r (some ⟨g1, 0, none⟩) c1 n1 a2 c2 n2 (elems (r.tgt.with s)) (P ++ ((elems (r.tgt.with s)).take q).map fun t => (s, t)) u wq) (fun _ i _ => n2 - (intOf i).toNat)
        case atStart => exact ⟨0, Nat.zero_le _, rfl, by simpa using (show InR w r (some ⟨g1, 0, none⟩) c1 n1 a2 c2 n2 (elems (r.tgt.with s)) P _ w5 from ⟨HO5.out.1, HO5.out.2.1, HLZ.out, HO5.out.2.2.1, HO5.out.2.2.2⟩)⟩
        case round =>
          clear HO5 HLZ
          obtain ⟨q, hq, rfl, hI⟩ := hrel
          have HI := Lib.hid hI
          clear hI
          by_cases hqlt : q < n2
          · obtain ⟨y, hy⟩ : ∃ y, (elems (r.tgt.with s))[q]? = some y := ⟨_, List.getElem?_eq_getElem (by have := HN2.out; omega)⟩
            obtain ⟨g2, rfl, hcell2⟩ := int_cell HI.out.2.2.1 hy
            have HY := Lib.hid hy
            clear hy
            have hlp : (P ++ ((elems (r.tgt.with s)).take q).map fun t => (s, t)).length ≤ 65536 + q := by rw [List.length_append, List.length_map]; have := List.length_take_le q (elems (r.tgt.with s)); omega
            obtain ⟨PQ, hPQ⟩ : ∃ PQ, PQ = P ++ ((elems (r.tgt.with s)).take q).map fun t => (s, t) := ⟨_, rfl⟩
            rw [← hPQ] at HI hlp
            have HPQ := Lib.hid hPQ
            clear hPQ
            have HII := HI
            go_wp2_with (at_builtin; go_must (refine wpList_append_own _ rfl _ _ 29 rfl w.heap.size 63 i0 z 2 16 Tryd.underlying29 hi hz0 hz1 hz2 hzs (by decide) _ _ _ rfl (own_alloc HI.out.1 _) ⟨wr.heap.size, 0, none⟩ 1 1 [.int .i64 (s : Int), .int .i64 (y : Int)] rfl rfl (pair_new _ _ _ _) ?c2 ?c3 ?c4 ?c5 ?_))
            case c2 => simp [Value.oneCell']
            case c3 => unfold maxLen; omega
            case c4 => omega
            case c5 => have := HI.out.2.2.2.1.size; simp; omega
            intro v' w9 hown' hgrow hnil
            have HN9 := Lib.hid (HII.out.more (s := s) (y := y) hown' hgrow)
            clear hgrow hnil hown'
            go_wp2
            go_roundw
            case rel => exact ⟨q + 1, by omega, by go_num, by rw [take_snoc HY.out, List.map_append, ← List.append_assoc, ← HPQ.out]; exact HN9.out⟩
            case measure => simp [intOf]; omega
          · obtain rfl : q = n2 := by omega
            have HOO := Lib.hid (show OutR w r (some ⟨g1, 0, none⟩) c1 n1 (r.pairsTo ((elems r.src).take (k + 1))) _ wr by
              rw [take_snoc HS.out, pairsTo_snoc, ← HPE.out, HT.out]
              have h := HI.out
              rw [List.take_of_length_le (by rw [HN2.out]; exact Nat.le_refl _)] at h
              exact ⟨h.1, h.2.1, h.2.2.2.1, h.2.2.2.2⟩)
            go_wp2_with fail
            go_roundw
            case rel => exact ⟨k + 1, by omega, by go_num, HOO.out⟩
            case measure => simp [intOf]; omega
      · rw [Bool.eq_false_iff.2 hsf] at k9
        have HSF := Lib.hid hsf
        clear hsf
        go_wp2_with (first | (refine wpList_store_blk rfl 24 _ _ rfl (wr.heap.size) 0 (.agg #[.int .u64 r.tgt.a, .int .u64 r.tgt.b, .int .u64 r.tgt.c, .int .u64 r.tgt.d]) rfl rfl 24 _ (Whole.new wr 24 _) (by simp [Value.cells]) size24 rfl ?_; intro w2 S2 W2; rw [splice_all _ _ (by rfl)] at W2; have HB2 := Lib.hid (show Below wr.heap.size wr w2 from ((Below.refl _ wr).alloc (Nat.le_refl _) _).trans (S2.below (Nat.le_refl _))); have HW2 := Lib.hid (show Whole w2 wr.heap.size 24 #[.int .u64 r.tgt.a, .int .u64 r.tgt.b, .int .u64 r.tgt.c, .int .u64 r.tgt.d] from W2); have kz : w2.cell? ⟨w.heap.size, 9, none⟩ = some (.bool false) := cell_later HB2.out k9; clear S2 W2 k5 k6 k7 k8 k9) | (refine wpList_load_row rfl 24 _ rfl (wr.heap.size) rfl 24 _ (0, 0) _ HW2.out Tryd.underlying24 rfl size24 ?_) | (go_at_call 26; go_must (refine (list_any w2 r.tgt HR.out.tgt).mono ?_; rintro e w5 ⟨v2, rfl, hl2, hb5⟩; have HO5 := Lib.hid (HO.out.keep (HB2.out.trans (hb5.mono HB2.out.size))); have HLZ := Lib.hid (own_drop (b' := w.heap.size) hl2 (by have := HO.out.2.2.1.size; have := HB2.out.size; omega)); obtain ⟨a2, c2, hv2⟩ := row_form hl2; subst hv2; clear hl2 hb5 kz)))
        obtain ⟨n2, hn2⟩ : ∃ n, n = (elems r.tgt).length := ⟨_, rfl⟩
        rw [← hn2] at HLZ ⊢
        have HN2 := Lib.hid hn2
        have hn2b : n2 ≤ 256 := by rw [hn2]; exact elemsTo_len _ _
        have hc2 := row_cap HLZ.out
        have HT := Lib.hid (show elems (r.tgts s) = elems r.tgt by unfold ARule.tgts; have hsf := HSF.out; simp [hsf])
        clear hn2 HSF
        go_loopw [3, 27] (fun u i wq => ∃ q : Nat, q ≤ n2 ∧ i = .int .i64 q ∧ InR w r (some ⟨g1, 0, none⟩) c1 n1 a2 c2 n2 (elems r.tgt) (P ++ ((elems r.tgt).take q).map fun t => (s, t)) u wq) (fun _ i _ => n2 - (intOf i).toNat)
        case atStart => exact ⟨0, Nat.zero_le _, rfl, by simpa using (show InR w r (some ⟨g1, 0, none⟩) c1 n1 a2 c2 n2 (elems r.tgt) P _ w5 from ⟨HO5.out.1, HO5.out.2.1, HLZ.out, HO5.out.2.2.1, HO5.out.2.2.2⟩)⟩
        case round =>
          clear HO5 HLZ
          obtain ⟨q, hq, rfl, hI⟩ := hrel
          have HI := Lib.hid hI
          clear hI
          by_cases hqlt : q < n2
          · obtain ⟨y, hy⟩ : ∃ y, (elems r.tgt)[q]? = some y := ⟨_, List.getElem?_eq_getElem (by have := HN2.out; omega)⟩
            obtain ⟨g2, rfl, hcell2⟩ := int_cell HI.out.2.2.1 hy
            have HY := Lib.hid hy
            clear hy
            have hlp : (P ++ ((elems r.tgt).take q).map fun t => (s, t)).length ≤ 65536 + q := by rw [List.length_append, List.length_map]; have := List.length_take_le q (elems r.tgt); omega
            obtain ⟨PQ, hPQ⟩ : ∃ PQ, PQ = P ++ ((elems r.tgt).take q).map fun t => (s, t) := ⟨_, rfl⟩
            rw [← hPQ] at HI hlp
            have HPQ := Lib.hid hPQ
            clear hPQ
            have HII := HI
            go_wp2_with (at_builtin; go_must (refine wpList_append_own _ rfl _ _ 29 rfl w.heap.size 63 i0 z 2 16 Tryd.underlying29 hi hz0 hz1 hz2 hzs (by decide) _ _ _ rfl (own_alloc HI.out.1 _) ⟨wr.heap.size, 0, none⟩ 1 1 [.int .i64 (s : Int), .int .i64 (y : Int)] rfl rfl (pair_new _ _ _ _) ?c2 ?c3 ?c4 ?c5 ?_))
            case c2 => simp [Value.oneCell']
            case c3 => unfold maxLen; omega
            case c4 => omega
            case c5 => have := HI.out.2.2.2.1.size; simp; omega
            intro v' w9 hown' hgrow hnil
            have HN9 := Lib.hid (HII.out.more (s := s) (y := y) hown' hgrow)
            clear hgrow hnil hown'
            go_wp2
            go_roundw
            case rel => exact ⟨q + 1, by omega, by go_num, by rw [take_snoc HY.out, List.map_append, ← List.append_assoc, ← HPQ.out]; exact HN9.out⟩
            case measure => simp [intOf]; omega
          · obtain rfl : q = n2 := by omega
            have HOO := Lib.hid (show OutR w r (some ⟨g1, 0, none⟩) c1 n1 (r.pairsTo ((elems r.src).take (k + 1))) _ wr by
              rw [take_snoc HS.out, pairsTo_snoc, ← HPE.out, HT.out]
              have h := HI.out
              rw [List.take_of_length_le (by rw [HN2.out]; exact Nat.le_refl _)] at h
              exact ⟨h.1, h.2.1, h.2.2.2.1, h.2.2.2.2⟩)
            go_wp2_with fail
            go_roundw
            case rel => exact ⟨k + 1, by omega, by go_num, HOO.out⟩
            case measure => simp [intOf]; omega
    · obtain rfl : k = n1 := by omega
      go_wp2_with fail
      go_ret
      refine ⟨_, rfl, ?_, HO.out.2.2.1⟩
      have h := HO.out.1
      rw [List.take_of_length_le (by rw [HN1.out]; exact Nat.le_refl _)] at h
      exact h
end Go.Proofs.YtmkfabdkadocdaaDoor

import Derived.Test.YtmkfabdkadocdaaDoorT9
import Derived.Test.YtmkfabdkadocdaaDoorT10
/-
  The chapter's examples: awake.
-/
namespace Go.Proofs.YtmkfabdkadocdaaDoor
open Go Go.WideMaps Go.RowKit Go.Sort

theorem new_row (w : World) (t : TypeId) (k n : Nat) (cs : List Value) (hl : cs.length = n * k) (h1 : ∀ u ∈ cs, u.oneCell' = true) (hn : n ≤ maxLen) : SliceAt (w.alloc (.cells cs.toArray t)) (.slice (some ⟨w.heap.size, 0, none⟩) n n) k n cs :=
  ⟨hl, hn, h1, .inr ⟨_, _, rfl, Nat.le_refl _, fun j u hj => row_new w cs t j u hj⟩⟩
theorem whole_slice {w : World} {b : Nat} {t : TypeId} {k n : Nat} {cs : List Value} (hl : cs.length = n * k) (hn : n ≤ maxLen) (h1 : ∀ u ∈ cs, u.oneCell' = true) (h : Whole w b t cs.toArray) : SliceAt w (.slice (some ⟨b, 0, none⟩) n n) k n cs :=
  ⟨hl, hn, h1, .inr ⟨_, _, rfl, Nat.le_refl _, fun j u hj => by
    rw [Addr.add_lit, Nat.zero_add]
    exact (h.cell j).trans (by simpa using hj)⟩⟩
theorem ex_slice {r : ARule} {l : List (Nat × Nat)} {w : World} {base : Nat} {v : Value} (hp : r.pairs = l) (h : w.ownsRow base 63 2 v r.pairs.length (pcells r.pairs)) : SliceAt w v 2 l.length (l.flatMap pcell) := by
  subst hp
  exact SliceAt.of_own h (pcells_one _)
theorem small64 {n : Nat} (h : n < 100) : U64 n := by unfold U64; omega
theorem ex_ok : s01.Ok ∧ t1.Ok ∧ s0.Ok := by
  refine ⟨⟨?_, ?_, ?_, ?_⟩, ⟨?_, ?_, ?_, ?_⟩, ⟨?_, ?_, ?_, ?_⟩⟩ <;> exact small64 (by decide)
theorem ex_wf : ∀ r ∈ exRules, r.Wf := fun r hr => by
  simp [exRules] at hr
  rcases hr with rfl | rfl | rfl <;> exact ⟨⟨ex_ok.2.2, ex_ok.2.1⟩, ⟨by decide, by decide⟩, ⟨by decide, by decide⟩, ⟨by decide, by decide⟩, ⟨by decide, by decide⟩⟩
theorem ent_ok (a b c d e f g : Int) (h : ((0 ≤ a ∧ a < 100) ∧ (0 ≤ b ∧ b < 100) ∧ (0 ≤ c ∧ c < 100) ∧ 0 ≤ d ∧ d < 100) ∧ (0 ≤ e ∧ e < 100) ∧ (0 ≤ f ∧ f < 100) ∧ 0 ≤ g ∧ g < 100) : (⟨a, b, c, d, e, f, g⟩ : AEntry).Ok := by
  refine ⟨⟨?_, ?_, ?_, ?_⟩, ⟨?_, ?_, ?_⟩⟩ <;> (constructor <;> (simp only [AEntry.key, AEntry.vecs]; omega))
theorem ex_ents_ok : ∀ x ∈ exEnts, x.Ok := fun x hx => by
  simp [exEnts] at hx
  rcases hx with rfl | rfl | rfl | rfl <;> exact ent_ok _ _ _ _ _ _ _ (by decide)
theorem ex_merge_ok : ∀ x ∈ exMerge, x.Ok := fun x hx => by
  simp [exMerge] at hx
  rcases hx with rfl | rfl | rfl | rfl <;> exact ent_ok _ _ _ _ _ _ _ (by decide)
theorem wpList_load_row_g {P : Program} {ops : Array Oper} {rest : List Oper} {o : Oper} {a : Act} {w : World} {Q : Exit → Act → World → Prop} (hgd : Region.wanted o (yielded ops a.tmps) = true) (ty : TypeId) (x : Operand) (ho : o.op = .load ty x)
    (g : Nat) (hx : a.eval x = .pointer (some ⟨g, 0, none⟩)) (t : TypeId) (cs : Array Value) (fr : Nat × Nat) (d : TypeDesc) (hg : w.heap[g]? = some (.cells cs t fr))
    (hu : P.underlying ty = some d) (hd : (match d with | .struct _ | .array _ _ => true | _ => false) = true) (hi : (P.info? ty).map (·.size) = some cs.size)
    (h : wpList P ops Q rest (a.put o.dst (.agg cs)) w) : wpList P ops Q (o :: rest) a w :=
  wpList_step fun _ hK => by rw [if_pos hgd]; exact wp_load_row ty x ho g hx t cs fr d hg hu hd hi (hK _ _ h)
theorem wp_region_plan_l {P : Program} {Q : Exit → Act → World → Prop} {id : Nat} {l : List Oper} {t : Array Value} {d : List Deferred} {w : World} (slots : List Nat) (goods : List (Value → World → Prop)) (inv : World → Prop)
    (hm : P.follows .mixedOrders = true) (hord : ordered 0 l = true) (hslots : l.map (·.dst) = slots.map some) (hnd : slots.Nodup) (hbd : slots.all (fun s => decide (s < t.size)) = true)
    (h0 : inv w.drew) (hinv : ∀ w w', inv w → RowKit.Below w.heap.size w w' → inv w') (hst0 : LastsAll goods)
    (hstep : ∀ SL GL TL, SL = slots → GL = goods → TL = t → PlanSteps P l.toArray SL GL inv TL 0 l goods)
    (hend : ∀ (a : Act) (w : World), PlanAt slots goods inv t d (fun _ => true) a w → Q .normal a w) :
    (Code.region id l.toArray true).wp P Q ⟨t, d⟩ w :=
  wp_region_plan slots goods inv hm hord hslots hnd hbd h0 hinv hst0 (hstep _ _ _ rfl rfl rfl) hend
def seqTail : Nat → Code → Code
  | n + 1, .seq _ b => seqTail n b
  | _, c => c
set_option maxRecDepth 100000 in
set_option maxHeartbeats 4000000 in
theorem awake_tail (w wk : World) (tb pb rb lb : Nat) (s t p q : ASet) (x0 x1 x5 x6 x7 x8 x9 x10 x11 x12 x13 x14 x15 x16 x17 x18 x19 x20 x21 x22 x23 x24 x25 x26 x27 x28 x29 x30 x31 x32 x33 x34 x35 x36 x37 x38 x39 x40 x41 x42 x43 x44 x45 x46 x47 x48 x49 x50 x51 x52 x53 x54 x55 x56 x57 x58 x59 x60 x61 x62 x63 x64 x65 x66 x67 x68 x69 x70 x71 x72 x73 x74 x75 x76 x77 x78 x79 x80 x81 x82 : Value) (HBK : Hid (RowKit.Below w.heap.size w wk)) (HT : Hid (Tab w))
    (HTB : Hid (Whole wk tb 24 #[.int .u64 t.a, .int .u64 t.b, .int .u64 t.c, .int .u64 t.d])) (HPB : Hid (Whole wk pb 50 #[.slice none 0 0, .slice none 0 0, .slice none 0 0, .slice none 0 0, .slice none 0 0, .slice none 0 0, .slice none 0 0, .slice none 0 0, .slice none 0 0, .slice (some ⟨rb, 0, none⟩) 3 3, .slice none 0 0, .slice none 0 0, .slice none 0 0, .slice none 0 0, .slice none 0 0, .slice none 0 0, .slice none 0 0])) (HLB : Hid (Whole wk lb 61 #[.int .i64 0, .int .i64 1, .int .i64 0, .int .i64 0, .int .u32 1, .int .u32 0, .int .u32 0, .int .i64 0, .int .i64 2, .int .i64 0, .int .i64 0, .int .u32 1, .int .u32 0, .int .u32 0, .int .i64 1, .int .i64 1, .int .i64 0, .int .i64 0, .int .u32 1, .int .u32 0, .int .u32 0, .int .i64 1, .int .i64 2, .int .i64 0, .int .i64 0, .int .u32 1, .int .u32 0, .int .u32 0]))
    (HRS : Hid (SliceAt wk (.slice (some ⟨rb, 0, none⟩) 3 3) 13 3 (([⟨1, s, t, false, 0, 1, 0⟩, ⟨1, s, t, false, 0, 2, 0⟩, ⟨4, s, t, false, 0, 2, 0⟩] : List ARule).flatMap ARule.cells))) (HLS : Hid (SliceAt wk (.slice (some ⟨lb, 0, none⟩) 4 4) 7 exEnts.length (exEnts.flatMap AEntry.cells)))
    (HS01 : Hid (ofs [0, 1] = p)) (HS12 : Hid (ofs [1, 2] = q)) (HPP : Hid ((⟨0, p, t, true, 0, 0, 0⟩ : ARule).pairs = ([(0, 0), (0, 1), (1, 1)] : List (Nat × Nat)))) (HCE : Hid (Canon (accum (kvR ([⟨1, s, t, false, 0, 1, 0⟩, ⟨1, s, t, false, 0, 2, 0⟩, ⟨4, s, t, false, 0, 2, 0⟩] : List ARule))) ([⟨0, 1, 0, 0, 3, 0, 0⟩] : List AEntry))) (HNE : Hid (neverL ([⟨1, s, t, false, 0, 1, 0⟩, ⟨1, s, t, false, 0, 2, 0⟩, ⟨4, s, t, false, 0, 2, 0⟩] : List ARule) ([⟨0, 1, 0, 0, 3, 0, 0⟩] : List AEntry) = ([⟨0, 1, 0, 0, 2, 0, 0⟩] : List AEntry))) (HCR : Hid (CanonR (pairsOf exEnts) ([⟨1, p, q, false, 0, 1, 0⟩] : List ARule)))
    (HOKP : Hid ((⟨0, p, t, true, 0, 0, 0⟩ : ARule).Ok)) (HOKR : Hid (∀ r ∈ ([⟨1, s, t, false, 0, 1, 0⟩, ⟨1, s, t, false, 0, 2, 0⟩, ⟨4, s, t, false, 0, 2, 0⟩] : List ARule), r.Wf)) (HOKE : Hid (∀ x ∈ exEnts, x.Ok)) (HOKM : Hid (∀ x ∈ exMerge, x.Ok)) :
    Code.wp Tryd.prog (seqTail 4 ((Tryd.f13.body).getD .skip)) (bodyPost Tryd.prog Tryd.f13 fun e w' => e = .returned (.bool true) ∧ RowKit.Below w.heap.size w w') ⟨#[x0, x1, .pointer (some ⟨tb, 0, none⟩), .pointer (some ⟨pb, 0, none⟩), .slice (some ⟨lb, 0, none⟩) 4 4, x5, x6, x7, x8, x9, x10, x11, x12, x13, x14, x15, x16, x17, x18, x19, x20, x21, x22, x23, x24, x25, x26, x27, x28, x29, x30, x31, x32, x33, x34, x35, x36, x37, x38, x39, x40, x41, x42, x43, x44, x45, x46, x47, x48, x49, x50, x51, x52, x53, x54, x55, x56, x57, x58, x59, x60, x61, x62, x63, x64, x65, x66, x67, x68, x69, x70, x71, x72, x73, x74, x75, x76, x77, x78, x79, x80, x81, x82], []⟩ wk := by
  conv => arg 2; whnf
  conv => arg 4; dsimp only
  go_upto_region 4 with fail
  refine wp_region_plan_l [25, 26, 27, 28, 29, 30, 31, 32, 33, 34, 35, 36, 37, 38, 39, 40, 41, 42, 43, 44, 45, 46, 47, 48, 49, 50, 51, 52, 53, 54, 55, 56, 57, 58, 59, 60, 61, 62, 63, 64, 65, 66, 67, 68, 69, 70, 71, 72, 73, 74, 75, 76, 77, 78, 79, 80, 81, 82, 0] [(fun v w' => SliceAt w' v 1 ([0, 1] : List Int).length (([0, 1] : List Int).map anInt)), isV (.agg #[.int .u64 p.a, .int .u64 p.b, .int .u64 p.c, .int .u64 p.d]), isV (.agg #[.int .u64 t.a, .int .u64 t.b, .int .u64 t.c, .int .u64 t.d]), isV (.agg #[.int .i64 0, .int .u64 p.a, .int .u64 p.b, .int .u64 p.c, .int .u64 p.d, .int .u64 t.a, .int .u64 t.b, .int .u64 t.c, .int .u64 t.d, .bool true, .int .i64 0, .int .u32 0, .int .i64 0]), (fun v w' => SliceAt w' v 2 (([(0, 0), (0, 1), (1, 1)] : List (Nat × Nat))).length ((([(0, 0), (0, 1), (1, 1)] : List (Nat × Nat))).flatMap pcell)), isV (.agg #[.int .i64 0, .int .i64 0]), isV (.agg #[.int .i64 0, .int .i64 1]), isV (.agg #[.int .i64 1, .int .i64 1]), (fun v w' => SliceAt w' v 2 (([(0, 0), (0, 1), (1, 1)] : List (Nat × Nat))).length ((([(0, 0), (0, 1), (1, 1)] : List (Nat × Nat))).flatMap pcell)), isV (.bool true), isV (.bool true), isV (.agg #[.slice none 0 0, .slice none 0 0, .slice none 0 0, .slice none 0 0, .slice none 0 0, .slice none 0 0, .slice none 0 0, .slice none 0 0, .slice none 0 0, .slice (some ⟨rb, 0, none⟩) 3 3, .slice none 0 0, .slice none 0 0, .slice none 0 0, .slice none 0 0, .slice none 0 0, .slice none 0 0, .slice none 0 0]), (fun v w' => SliceAt w' v 7 (([⟨0, 1, 0, 0, 3, 0, 0⟩] : List AEntry)).length ((([⟨0, 1, 0, 0, 3, 0, 0⟩] : List AEntry)).flatMap AEntry.cells)), isV (.agg #[.int .i64 0, .int .i64 1, .int .i64 0, .int .i64 0, .int .u32 3, .int .u32 0, .int .u32 0]), (fun v w' => SliceAt w' v 7 (([⟨0, 1, 0, 0, 3, 0, 0⟩] : List AEntry)).length ((([⟨0, 1, 0, 0, 3, 0, 0⟩] : List AEntry)).flatMap AEntry.cells)), isV (.bool true), isV (.bool true), isV (.bool true), isV (.agg #[.slice none 0 0, .slice none 0 0, .slice none 0 0, .slice none 0 0, .slice none 0 0, .slice none 0 0, .slice none 0 0, .slice none 0 0, .slice none 0 0, .slice (some ⟨rb, 0, none⟩) 3 3, .slice none 0 0, .slice none 0 0, .slice none 0 0, .slice none 0 0, .slice none 0 0, .slice none 0 0, .slice none 0 0]), (fun v w' => SliceAt w' v 7 (([⟨0, 1, 0, 0, 2, 0, 0⟩] : List AEntry)).length ((([⟨0, 1, 0, 0, 2, 0, 0⟩] : List AEntry)).flatMap AEntry.cells)), isV (.agg #[.int .i64 0, .int .i64 1, .int .i64 0, .int .i64 0, .int .u32 2, .int .u32 0, .int .u32 0]), (fun v w' => SliceAt w' v 7 (([⟨0, 1, 0, 0, 2, 0, 0⟩] : List AEntry)).length ((([⟨0, 1, 0, 0, 2, 0, 0⟩] : List AEntry)).flatMap AEntry.cells)), isV (.bool true), isV (.bool true), isV (.bool true), isV (.agg #[.slice none 0 0, .slice none 0 0, .slice none 0 0, .slice none 0 0, .slice none 0 0, .slice none 0 0, .slice none 0 0, .slice none 0 0, .slice none 0 0, .slice (some ⟨rb, 0, none⟩) 3 3, .slice none 0 0, .slice none 0 0, .slice none 0 0, .slice none 0 0, .slice none 0 0, .slice none 0 0, .slice none 0 0]), isV (.int .i64 1), isV (.bool true), isV (.bool true), isV (.bool true), isV (.slice (some ⟨lb, 0, none⟩) 4 4), (fun v w' => SliceAt w' v 13 (([⟨1, p, q, false, 0, 1, 0⟩] : List ARule)).length ((([⟨1, p, q, false, 0, 1, 0⟩] : List ARule)).flatMap ARule.cells)), (fun v w' => SliceAt w' v 1 ([0, 1] : List Int).length (([0, 1] : List Int).map anInt)), isV (.agg #[.int .u64 p.a, .int .u64 p.b, .int .u64 p.c, .int .u64 p.d]), (fun v w' => SliceAt w' v 1 ([1, 2] : List Int).length (([1, 2] : List Int).map anInt)), isV (.agg #[.int .u64 q.a, .int .u64 q.b, .int .u64 q.c, .int .u64 q.d]), isV (.agg #[.int .i64 1, .int .u64 p.a, .int .u64 p.b, .int .u64 p.c, .int .u64 p.d, .int .u64 q.a, .int .u64 q.b, .int .u64 q.c, .int .u64 q.d, .bool false, .int .i64 0, .int .u32 1, .int .i64 0]), (fun v w' => SliceAt w' v 13 (([⟨1, p, q, false, 0, 1, 0⟩] : List ARule)).length ((([⟨1, p, q, false, 0, 1, 0⟩] : List ARule)).flatMap ARule.cells)), isV (.bool true), isV (.bool true), isV (.bool true), isV (.slice (some ⟨lb, 0, none⟩) 4 4), isV (.pointer (some ⟨lb, 21, none⟩)), isV (.agg #[.int .i64 1, .int .i64 2, .int .i64 0, .int .i64 0, .int .u32 1, .int .u32 0, .int .u32 0]), isV (.slice (some ⟨lb, 0, none⟩) 4 4), isV (.pointer (some ⟨lb, 0, none⟩)), isV (.agg #[.int .i64 0, .int .i64 1, .int .i64 0, .int .i64 0, .int .u32 1, .int .u32 0, .int .u32 0]), isV (.agg #[.int .i64 0, .int .i64 1, .int .i64 0, .int .i64 0, .int .u32 0, .int .u32 0, .int .u32 4]), isV (.agg #[.int .i64 0, .int .i64 7, .int .i64 0, .int .i64 0, .int .u32 0, .int .u32 0, .int .u32 0]), (fun v w' => SliceAt w' v 7 (exMerge).length ((exMerge).flatMap AEntry.cells)), (fun v w' => SliceAt w' v 7 (([⟨0, 1, 0, 0, 1, 0, 4⟩, ⟨1, 2, 0, 0, 1, 0, 0⟩] : List AEntry)).length ((([⟨0, 1, 0, 0, 1, 0, 4⟩, ⟨1, 2, 0, 0, 1, 0, 0⟩] : List AEntry)).flatMap AEntry.cells)), isV (.agg #[.int .i64 0, .int .i64 1, .int .i64 0, .int .i64 0, .int .u32 1, .int .u32 0, .int .u32 4]), isV (.slice (some ⟨lb, 0, none⟩) 4 4), isV (.pointer (some ⟨lb, 21, none⟩)), isV (.agg #[.int .i64 1, .int .i64 2, .int .i64 0, .int .i64 0, .int .u32 1, .int .u32 0, .int .u32 0]), (fun v w' => SliceAt w' v 7 (([⟨0, 1, 0, 0, 1, 0, 4⟩, ⟨1, 2, 0, 0, 1, 0, 0⟩] : List AEntry)).length ((([⟨0, 1, 0, 0, 1, 0, 4⟩, ⟨1, 2, 0, 0, 1, 0, 0⟩] : List AEntry)).flatMap AEntry.cells)), isV (.bool true), isV (.bool true), isV (.bool true)] (RowKit.Below wk.heap.size wk) (by kernel_rfl) (by kernel_rfl) rfl (by decide) rfl ((Below.refl _ _).drew) (fun w w' h hb => h.trans (hb.mono h.size)) ⟨(fun u wa wb h hb => h.keep hb), lasts_is _, lasts_is _, lasts_is _, (fun u wa wb h hb => h.keep hb), lasts_is _, lasts_is _, lasts_is _, (fun u wa wb h hb => h.keep hb), lasts_is _, lasts_is _, lasts_is _, (fun u wa wb h hb => h.keep hb), lasts_is _, (fun u wa wb h hb => h.keep hb), lasts_is _, lasts_is _, lasts_is _, lasts_is _, (fun u wa wb h hb => h.keep hb), lasts_is _, (fun u wa wb h hb => h.keep hb), lasts_is _, lasts_is _, lasts_is _, lasts_is _, lasts_is _, lasts_is _, lasts_is _, lasts_is _, lasts_is _, (fun u wa wb h hb => h.keep hb), (fun u wa wb h hb => h.keep hb), lasts_is _, (fun u wa wb h hb => h.keep hb), lasts_is _, lasts_is _, (fun u wa wb h hb => h.keep hb), lasts_is _, lasts_is _, lasts_is _, lasts_is _, lasts_is _, lasts_is _, lasts_is _, lasts_is _, lasts_is _, lasts_is _, lasts_is _, (fun u wa wb h hb => h.keep hb), (fun u wa wb h hb => h.keep hb), lasts_is _, lasts_is _, lasts_is _, lasts_is _, (fun u wa wb h hb => h.keep hb), lasts_is _, lasts_is _, lasts_is _, trivial⟩ (fun SL GL TL eS eG eT => ⟨?_, ?_, ?_, ?_, ?_, ?_, ?_, ?_, ?_, ?_, ?_, ?_, ?_, ?_, ?_, ?_, ?_, ?_, ?_, ?_, ?_, ?_, ?_, ?_, ?_, ?_, ?_, ?_, ?_, ?_, ?_, ?_, ?_, ?_, ?_, ?_, ?_, ?_, ?_, ?_, ?_, ?_, ?_, ?_, ?_, ?_, ?_, ?_, ?_, ?_, ?_, ?_, ?_, ?_, ?_, ?_, ?_, ?_, ?_, trivial⟩) ?_
  · intro a wx Q' hi H F hK
    have HI := Lib.hid hi
    clear H F hi eS eG eT
    go_wp2_with fail
    exact hK _ _ ((Below.refl _ _).alloc (Nat.le_refl _) _) (new_row _ _ _ _ _ rfl (by simp [Value.oneCell']) (by decide))
  · intro a wx Q' hi H F hK
    obtain ⟨v25, h25, hv25⟩ := H 0 ⟨.data, by simp, rfl⟩ 25 _ (by rw [eS]; rfl) (by rw [eG]; rfl)
    have HV25 := Lib.hid hv25
    clear hv25
    have HI := Lib.hid hi
    clear H F hi eS eG eT
    go_wp2_with (go_at_call 29; go_must (refine (of_any wx _ [0, 1] HV25.out).mono ?_; rw [HS01.out]; rintro e w1 ⟨rfl, hb1⟩))
    exact hK _ _ hb1 rfl
  · intro a wx Q' hi H F hK
    have h2 : a.tmps[2]? = some (.pointer (some ⟨tb, 0, none⟩)) := (F 2 (by rw [eS]; rfl)).trans (by rw [eT]; rfl)
    have HI := Lib.hid hi
    clear H F hi eS eG eT
    have kq0 : wx.cell? ⟨tb, 0, none⟩ = some (.int .u64 t.a) := (Whole.under HI.out HTB.out (Whole.lt HTB.out)).cell 0
    have kq1 : wx.cell? ⟨tb, 1, none⟩ = some (.int .u64 t.b) := (Whole.under HI.out HTB.out (Whole.lt HTB.out)).cell 1
    have kq2 : wx.cell? ⟨tb, 2, none⟩ = some (.int .u64 t.c) := (Whole.under HI.out HTB.out (Whole.lt HTB.out)).cell 2
    have kq3 : wx.cell? ⟨tb, 3, none⟩ = some (.int .u64 t.d) := (Whole.under HI.out HTB.out (Whole.lt HTB.out)).cell 3
    go_wp2_with fail
    exact hK _ _ (Below.refl _ _) rfl
  · intro a wx Q' hi H F hK
    obtain ⟨_, h26, rfl⟩ := H 1 ⟨.data, by simp, rfl⟩ 26 _ (by rw [eS]; rfl) (by rw [eG]; rfl)
    obtain ⟨_, h27, rfl⟩ := H 2 ⟨.data, by simp, rfl⟩ 27 _ (by rw [eS]; rfl) (by rw [eG]; rfl)
    have HI := Lib.hid hi
    clear H F hi eS eG eT
    go_wp2_with fail
    exact hK _ _ (Below.refl _ _) rfl
  · intro a wx Q' hi H F hK
    obtain ⟨_, h28, rfl⟩ := H 3 ⟨.data, by simp, rfl⟩ 28 _ (by rw [eS]; rfl) (by rw [eG]; rfl)
    have HI := Lib.hid hi
    clear H F hi eS eG eT
    go_wp2_with (go_at_call 11; go_must (refine (rule_any wx ⟨0, p, t, true, 0, 0, 0⟩ HOKP.out).mono ?_; rintro e w1 ⟨v1, rfl, ho1, hb1⟩))
    exact hK _ _ hb1 (ex_slice HPP.out ho1)
  · intro a wx Q' hi H F hK
    have HI := Lib.hid hi
    clear H F hi eS eG eT
    go_wp2_with fail
    exact hK _ _ (Below.refl _ _) rfl
  · intro a wx Q' hi H F hK
    have HI := Lib.hid hi
    clear H F hi eS eG eT
    go_wp2_with fail
    exact hK _ _ (Below.refl _ _) rfl
  · intro a wx Q' hi H F hK
    have HI := Lib.hid hi
    clear H F hi eS eG eT
    go_wp2_with fail
    exact hK _ _ (Below.refl _ _) rfl
  · intro a wx Q' hi H F hK
    obtain ⟨_, h30, rfl⟩ := H 5 ⟨.data, by simp, rfl⟩ 30 _ (by rw [eS]; rfl) (by rw [eG]; rfl)
    obtain ⟨_, h31, rfl⟩ := H 6 ⟨.data, by simp, rfl⟩ 31 _ (by rw [eS]; rfl) (by rw [eG]; rfl)
    obtain ⟨_, h32, rfl⟩ := H 7 ⟨.data, by simp, rfl⟩ 32 _ (by rw [eS]; rfl) (by rw [eG]; rfl)
    have HI := Lib.hid hi
    clear H F hi eS eG eT
    go_wp2_with fail
    exact hK _ _ ((Below.refl _ _).alloc (Nat.le_refl _) _) (new_row _ _ _ _ _ rfl (by simp [Value.oneCell']) (by decide))
  · intro a wx Q' hi H F hK
    obtain ⟨v29, h29, hv29⟩ := H 4 ⟨.data, by simp, rfl⟩ 29 _ (by rw [eS]; rfl) (by rw [eG]; rfl)
    have HV29 := Lib.hid hv29
    clear hv29
    obtain ⟨v33, h33, hv33⟩ := H 8 ⟨.data, by simp, rfl⟩ 33 _ (by rw [eS]; rfl) (by rw [eG]; rfl)
    have HV33 := Lib.hid hv33
    clear hv33
    have HI := Lib.hid hi
    clear H F hi eS eG eT
    go_wp2_with (go_at_call 10; go_must (refine (pairs_any wx _ _ ([(0, 0), (0, 1), (1, 1)] : List (Nat × Nat)) HV29.out HV33.out).mono ?_; rintro e w1 ⟨rfl, hb1⟩))
    exact hK _ _ hb1 rfl
  · intro a wx Q' hi H F hK
    obtain ⟨_, h34, rfl⟩ := H 9 ⟨.data, by simp, rfl⟩ 34 _ (by rw [eS]; rfl) (by rw [eG]; rfl)
    have HI := Lib.hid hi
    clear H F hi eS eG eT
    go_wp2_with fail
    exact hK _ _ (Below.refl _ _) rfl
  · intro a wx Q' hi H F hK
    obtain ⟨_, h35, rfl⟩ := H 10 ⟨.guard, by simp, rfl⟩ 35 _ (by rw [eS]; rfl) (by rw [eG]; rfl)
    have h3 : a.tmps[3]? = some (.pointer (some ⟨pb, 0, none⟩)) := (F 3 (by rw [eS]; rfl)).trans (by rw [eT]; rfl)
    have HI := Lib.hid hi
    clear H F hi eS eG eT
    have HW := Lib.hid (Whole.under HI.out HPB.out (Whole.lt HPB.out))
    go_wp2_with (refine wpList_load_row_g (by simp [Region.wanted, yielded, *]) 50 _ rfl pb (by simp [Act.eval, *]) 50 _ (0, 0) _ HW.out Tryd.underlying50 rfl size50 ?_)
    exact hK _ _ (Below.refl _ _) rfl
  · intro a wx Q' hi H F hK
    obtain ⟨_, h36, rfl⟩ := H 11 ⟨.data, by simp, rfl⟩ 36 _ (by rw [eS]; rfl) (by rw [eG]; rfl)
    obtain ⟨_, h35, rfl⟩ := H 10 ⟨.guard, by simp, rfl⟩ 35 _ (by rw [eS]; rfl) (by rw [eG]; rfl)
    have HI := Lib.hid hi
    clear H F hi eS eG eT
    go_wp2_with (go_at_call 17; go_must (refine (expEntries_any wx (.slice none 0 0) (.slice none 0 0) (.slice none 0 0) (.slice none 0 0) (.slice none 0 0) (.slice none 0 0) (.slice none 0 0) (.slice none 0 0) (.slice none 0 0) (.slice (some ⟨rb, 0, none⟩) 3 3) (.slice none 0 0) (.slice none 0 0) (.slice none 0 0) (.slice none 0 0) (.slice none 0 0) (.slice none 0 0) (.slice none 0 0) ([⟨1, s, t, false, 0, 1, 0⟩, ⟨1, s, t, false, 0, 2, 0⟩, ⟨4, s, t, false, 0, 2, 0⟩] : List ARule) (HRS.out.keep HI.out) HOKR.out (by simp)).mono ?_; rintro e w1 ⟨v1, l1, rfl, hc1, -, -, hs1, hb1⟩))
    exact hK _ _ hb1 (by rw [← hc1.uniq HCE.out]; exact hs1)
  · intro a wx Q' hi H F hK
    obtain ⟨_, h35, rfl⟩ := H 10 ⟨.guard, by simp, rfl⟩ 35 _ (by rw [eS]; rfl) (by rw [eG]; rfl)
    have HI := Lib.hid hi
    clear H F hi eS eG eT
    go_wp2_with fail
    exact hK _ _ (Below.refl _ _) rfl
  · intro a wx Q' hi H F hK
    obtain ⟨_, h38, rfl⟩ := H 13 ⟨.data, by simp, rfl⟩ 38 _ (by rw [eS]; rfl) (by rw [eG]; rfl)
    obtain ⟨_, h35, rfl⟩ := H 10 ⟨.guard, by simp, rfl⟩ 35 _ (by rw [eS]; rfl) (by rw [eG]; rfl)
    have HI := Lib.hid hi
    clear H F hi eS eG eT
    go_wp2_with fail
    exact hK _ _ ((Below.refl _ _).alloc (Nat.le_refl _) _) (new_row _ _ _ _ _ rfl (by simp [Value.oneCell']) (by decide))
  · intro a wx Q' hi H F hK
    obtain ⟨v37, h37, hv37⟩ := H 12 ⟨.data, by simp, rfl⟩ 37 _ (by rw [eS]; rfl) (by rw [eG]; rfl)
    have HV37 := Lib.hid hv37
    clear hv37
    obtain ⟨v39, h39, hv39⟩ := H 14 ⟨.data, by simp, rfl⟩ 39 _ (by rw [eS]; rfl) (by rw [eG]; rfl)
    have HV39 := Lib.hid hv39
    clear hv39
    obtain ⟨_, h35, rfl⟩ := H 10 ⟨.guard, by simp, rfl⟩ 35 _ (by rw [eS]; rfl) (by rw [eG]; rfl)
    have HI := Lib.hid hi
    clear H F hi eS eG eT
    go_wp2_with (go_at_call 16; go_must (refine (same_any wx _ _ ([⟨0, 1, 0, 0, 3, 0, 0⟩] : List AEntry) HV37.out HV39.out).mono ?_; rintro e w1 ⟨rfl, hb1⟩))
    exact hK _ _ hb1 rfl
  · intro a wx Q' hi H F hK
    obtain ⟨_, h35, rfl⟩ := H 10 ⟨.data, by simp, rfl⟩ 35 _ (by rw [eS]; rfl) (by rw [eG]; rfl)
    obtain ⟨_, h40, rfl⟩ := H 15 ⟨.data, by simp, rfl⟩ 40 _ (by rw [eS]; rfl) (by rw [eG]; rfl)
    have HI := Lib.hid hi
    clear H F hi eS eG eT
    go_wp2_with fail
    exact hK _ _ (Below.refl _ _) rfl
  · intro a wx Q' hi H F hK
    obtain ⟨_, h41, rfl⟩ := H 16 ⟨.data, by simp, rfl⟩ 41 _ (by rw [eS]; rfl) (by rw [eG]; rfl)
    have HI := Lib.hid hi
    clear H F hi eS eG eT
    go_wp2_with fail
    exact hK _ _ (Below.refl _ _) rfl
  · intro a wx Q' hi H F hK
    obtain ⟨_, h42, rfl⟩ := H 17 ⟨.guard, by simp, rfl⟩ 42 _ (by rw [eS]; rfl) (by rw [eG]; rfl)
    have h3 : a.tmps[3]? = some (.pointer (some ⟨pb, 0, none⟩)) := (F 3 (by rw [eS]; rfl)).trans (by rw [eT]; rfl)
    have HI := Lib.hid hi
    clear H F hi eS eG eT
    have HW := Lib.hid (Whole.under HI.out HPB.out (Whole.lt HPB.out))
    go_wp2_with (refine wpList_load_row_g (by simp [Region.wanted, yielded, *]) 50 _ rfl pb (by simp [Act.eval, *]) 50 _ (0, 0) _ HW.out Tryd.underlying50 rfl size50 ?_)
    exact hK _ _ (Below.refl _ _) rfl
  · intro a wx Q' hi H F hK
    obtain ⟨_, h43, rfl⟩ := H 18 ⟨.data, by simp, rfl⟩ 43 _ (by rw [eS]; rfl) (by rw [eG]; rfl)
    obtain ⟨_, h42, rfl⟩ := H 17 ⟨.guard, by simp, rfl⟩ 42 _ (by rw [eS]; rfl) (by rw [eG]; rfl)
    have HI := Lib.hid hi
    clear H F hi eS eG eT
    go_wp2_with (go_at_call 21; go_must (refine (never_any wx (.slice none 0 0) (.slice none 0 0) (.slice none 0 0) (.slice none 0 0) (.slice none 0 0) (.slice none 0 0) (.slice none 0 0) (.slice none 0 0) (.slice none 0 0) (.slice (some ⟨rb, 0, none⟩) 3 3) (.slice none 0 0) (.slice none 0 0) (.slice none 0 0) (.slice none 0 0) (.slice none 0 0) (.slice none 0 0) (.slice none 0 0) ([⟨1, s, t, false, 0, 1, 0⟩, ⟨1, s, t, false, 0, 2, 0⟩, ⟨4, s, t, false, 0, 2, 0⟩] : List ARule) (HRS.out.keep HI.out) HOKR.out (by simp)).mono ?_; rintro e w1 ⟨v1, l1, rfl, hc1, hs1, hb1⟩))
    exact hK _ _ hb1 (by rw [hc1.uniq HCE.out, HNE.out] at hs1; exact hs1)
  · intro a wx Q' hi H F hK
    obtain ⟨_, h42, rfl⟩ := H 17 ⟨.guard, by simp, rfl⟩ 42 _ (by rw [eS]; rfl) (by rw [eG]; rfl)
    have HI := Lib.hid hi
    clear H F hi eS eG eT
    go_wp2_with fail
    exact hK _ _ (Below.refl _ _) rfl
  · intro a wx Q' hi H F hK
    obtain ⟨_, h45, rfl⟩ := H 20 ⟨.data, by simp, rfl⟩ 45 _ (by rw [eS]; rfl) (by rw [eG]; rfl)
    obtain ⟨_, h42, rfl⟩ := H 17 ⟨.guard, by simp, rfl⟩ 42 _ (by rw [eS]; rfl) (by rw [eG]; rfl)
    have HI := Lib.hid hi
    clear H F hi eS eG eT
    go_wp2_with fail
    exact hK _ _ ((Below.refl _ _).alloc (Nat.le_refl _) _) (new_row _ _ _ _ _ rfl (by simp [Value.oneCell']) (by decide))
  · intro a wx Q' hi H F hK
    obtain ⟨v44, h44, hv44⟩ := H 19 ⟨.data, by simp, rfl⟩ 44 _ (by rw [eS]; rfl) (by rw [eG]; rfl)
    have HV44 := Lib.hid hv44
    clear hv44
    obtain ⟨v46, h46, hv46⟩ := H 21 ⟨.data, by simp, rfl⟩ 46 _ (by rw [eS]; rfl) (by rw [eG]; rfl)
    have HV46 := Lib.hid hv46
    clear hv46
    obtain ⟨_, h42, rfl⟩ := H 17 ⟨.guard, by simp, rfl⟩ 42 _ (by rw [eS]; rfl) (by rw [eG]; rfl)
    have HI := Lib.hid hi
    clear H F hi eS eG eT
    go_wp2_with (go_at_call 16; go_must (refine (same_any wx _ _ ([⟨0, 1, 0, 0, 2, 0, 0⟩] : List AEntry) HV44.out HV46.out).mono ?_; rintro e w1 ⟨rfl, hb1⟩))
    exact hK _ _ hb1 rfl
  · intro a wx Q' hi H F hK
    obtain ⟨_, h42, rfl⟩ := H 17 ⟨.data, by simp, rfl⟩ 42 _ (by rw [eS]; rfl) (by rw [eG]; rfl)
    obtain ⟨_, h47, rfl⟩ := H 22 ⟨.data, by simp, rfl⟩ 47 _ (by rw [eS]; rfl) (by rw [eG]; rfl)
    have HI := Lib.hid hi
    clear H F hi eS eG eT
    go_wp2_with fail
    exact hK _ _ (Below.refl _ _) rfl
  · intro a wx Q' hi H F hK
    obtain ⟨_, h48, rfl⟩ := H 23 ⟨.data, by simp, rfl⟩ 48 _ (by rw [eS]; rfl) (by rw [eG]; rfl)
    have HI := Lib.hid hi
    clear H F hi eS eG eT
    go_wp2_with fail
    exact hK _ _ (Below.refl _ _) rfl
  · intro a wx Q' hi H F hK
    obtain ⟨_, h49, rfl⟩ := H 24 ⟨.guard, by simp, rfl⟩ 49 _ (by rw [eS]; rfl) (by rw [eG]; rfl)
    have h3 : a.tmps[3]? = some (.pointer (some ⟨pb, 0, none⟩)) := (F 3 (by rw [eS]; rfl)).trans (by rw [eT]; rfl)
    have HI := Lib.hid hi
    clear H F hi eS eG eT
    have HW := Lib.hid (Whole.under HI.out HPB.out (Whole.lt HPB.out))
    go_wp2_with (refine wpList_load_row_g (by simp [Region.wanted, yielded, *]) 50 _ rfl pb (by simp [Act.eval, *]) 50 _ (0, 0) _ HW.out Tryd.underlying50 rfl size50 ?_)
    exact hK _ _ (Below.refl _ _) rfl
  · intro a wx Q' hi H F hK
    obtain ⟨_, h50, rfl⟩ := H 25 ⟨.data, by simp, rfl⟩ 50 _ (by rw [eS]; rfl) (by rw [eG]; rfl)
    obtain ⟨_, h49, rfl⟩ := H 24 ⟨.guard, by simp, rfl⟩ 49 _ (by rw [eS]; rfl) (by rw [eG]; rfl)
    have HI := Lib.hid hi
    clear H F hi eS eG eT
    go_wp2_with (go_at_call 18; go_must (refine (count_any wx (.slice none 0 0) (.slice none 0 0) (.slice none 0 0) (.slice none 0 0) (.slice none 0 0) (.slice none 0 0) (.slice none 0 0) (.slice none 0 0) (.slice none 0 0) (.slice (some ⟨rb, 0, none⟩) 3 3) (.slice none 0 0) (.slice none 0 0) (.slice none 0 0) (.slice none 0 0) (.slice none 0 0) (.slice none 0 0) (.slice none 0 0) ([⟨1, s, t, false, 0, 1, 0⟩, ⟨1, s, t, false, 0, 2, 0⟩, ⟨4, s, t, false, 0, 2, 0⟩] : List ARule) (HRS.out.keep HI.out) HOKR.out (by simp)).mono ?_; rintro e w1 ⟨l1, rfl, hc1, hb1⟩; rw [hc1.uniq HCE.out]))
    exact hK _ _ hb1 rfl
  · intro a wx Q' hi H F hK
    obtain ⟨_, h51, rfl⟩ := H 26 ⟨.data, by simp, rfl⟩ 51 _ (by rw [eS]; rfl) (by rw [eG]; rfl)
    obtain ⟨_, h49, rfl⟩ := H 24 ⟨.guard, by simp, rfl⟩ 49 _ (by rw [eS]; rfl) (by rw [eG]; rfl)
    have HI := Lib.hid hi
    clear H F hi eS eG eT
    go_wp2_with fail
    exact hK _ _ (Below.refl _ _) rfl
  · intro a wx Q' hi H F hK
    obtain ⟨_, h49, rfl⟩ := H 24 ⟨.data, by simp, rfl⟩ 49 _ (by rw [eS]; rfl) (by rw [eG]; rfl)
    obtain ⟨_, h52, rfl⟩ := H 27 ⟨.data, by simp, rfl⟩ 52 _ (by rw [eS]; rfl) (by rw [eG]; rfl)
    have HI := Lib.hid hi
    clear H F hi eS eG eT
    go_wp2_with fail
    exact hK _ _ (Below.refl _ _) rfl
  · intro a wx Q' hi H F hK
    obtain ⟨_, h53, rfl⟩ := H 28 ⟨.data, by simp, rfl⟩ 53 _ (by rw [eS]; rfl) (by rw [eG]; rfl)
    have HI := Lib.hid hi
    clear H F hi eS eG eT
    go_wp2_with fail
    exact hK _ _ (Below.refl _ _) rfl
  · intro a wx Q' hi H F hK
    obtain ⟨_, h54, rfl⟩ := H 29 ⟨.guard, by simp, rfl⟩ 54 _ (by rw [eS]; rfl) (by rw [eG]; rfl)
    have h4 : a.tmps[4]? = some (.slice (some ⟨lb, 0, none⟩) 4 4) := (F 4 (by rw [eS]; rfl)).trans (by rw [eT]; rfl)
    have HI := Lib.hid hi
    clear H F hi eS eG eT
    go_wp2_with fail
    exact hK _ _ (Below.refl _ _) rfl
  · intro a wx Q' hi H F hK
    obtain ⟨_, h55, rfl⟩ := H 30 ⟨.data, by simp, rfl⟩ 55 _ (by rw [eS]; rfl) (by rw [eG]; rfl)
    obtain ⟨_, h54, rfl⟩ := H 29 ⟨.guard, by simp, rfl⟩ 54 _ (by rw [eS]; rfl) (by rw [eG]; rfl)
    have HI := Lib.hid hi
    clear H F hi eS eG eT
    go_wp2_with (go_at_call 24; go_must (refine (compress_any wx _ exEnts (HLS.out.keep HI.out) HOKE.out (by decide) (HT.out.later (HBK.out.trans (HI.out.mono HBK.out.size)))).mono ?_; rintro e w1 ⟨v1, E1, R1, rfl, hc1, -, -, hr1, hs1, hb1⟩))
    exact hK _ _ hb1 (by rw [hc1.uniq ex_ents] at hr1; rw [hr1.uniq HCR.out] at hs1; exact hs1)
  · intro a wx Q' hi H F hK
    obtain ⟨_, h54, rfl⟩ := H 29 ⟨.guard, by simp, rfl⟩ 54 _ (by rw [eS]; rfl) (by rw [eG]; rfl)
    have HI := Lib.hid hi
    clear H F hi eS eG eT
    go_wp2_with fail
    exact hK _ _ ((Below.refl _ _).alloc (Nat.le_refl _) _) (new_row _ _ _ _ _ rfl (by simp [Value.oneCell']) (by decide))
  · intro a wx Q' hi H F hK
    obtain ⟨v57, h57, hv57⟩ := H 32 ⟨.data, by simp, rfl⟩ 57 _ (by rw [eS]; rfl) (by rw [eG]; rfl)
    have HV57 := Lib.hid hv57
    clear hv57
    obtain ⟨_, h54, rfl⟩ := H 29 ⟨.guard, by simp, rfl⟩ 54 _ (by rw [eS]; rfl) (by rw [eG]; rfl)
    have HI := Lib.hid hi
    clear H F hi eS eG eT
    go_wp2_with (go_at_call 29; go_must (refine (of_any wx _ [0, 1] HV57.out).mono ?_; rw [HS01.out]; rintro e w1 ⟨rfl, hb1⟩))
    exact hK _ _ hb1 rfl
  · intro a wx Q' hi H F hK
    obtain ⟨_, h54, rfl⟩ := H 29 ⟨.guard, by simp, rfl⟩ 54 _ (by rw [eS]; rfl) (by rw [eG]; rfl)
    have HI := Lib.hid hi
    clear H F hi eS eG eT
    go_wp2_with fail
    exact hK _ _ ((Below.refl _ _).alloc (Nat.le_refl _) _) (new_row _ _ _ _ _ rfl (by simp [Value.oneCell']) (by decide))
  · intro a wx Q' hi H F hK
    obtain ⟨v59, h59, hv59⟩ := H 34 ⟨.data, by simp, rfl⟩ 59 _ (by rw [eS]; rfl) (by rw [eG]; rfl)
    have HV59 := Lib.hid hv59
    clear hv59
    obtain ⟨_, h54, rfl⟩ := H 29 ⟨.guard, by simp, rfl⟩ 54 _ (by rw [eS]; rfl) (by rw [eG]; rfl)
    have HI := Lib.hid hi
    clear H F hi eS eG eT
    go_wp2_with (go_at_call 29; go_must (refine (of_any wx _ [1, 2] HV59.out).mono ?_; rw [HS12.out]; rintro e w1 ⟨rfl, hb1⟩))
    exact hK _ _ hb1 rfl
  · intro a wx Q' hi H F hK
    obtain ⟨_, h58, rfl⟩ := H 33 ⟨.data, by simp, rfl⟩ 58 _ (by rw [eS]; rfl) (by rw [eG]; rfl)
    obtain ⟨_, h60, rfl⟩ := H 35 ⟨.data, by simp, rfl⟩ 60 _ (by rw [eS]; rfl) (by rw [eG]; rfl)
    obtain ⟨_, h54, rfl⟩ := H 29 ⟨.guard, by simp, rfl⟩ 54 _ (by rw [eS]; rfl) (by rw [eG]; rfl)
    have HI := Lib.hid hi
    clear H F hi eS eG eT
    go_wp2_with fail
    exact hK _ _ (Below.refl _ _) rfl
  · intro a wx Q' hi H F hK
    obtain ⟨_, h61, rfl⟩ := H 36 ⟨.data, by simp, rfl⟩ 61 _ (by rw [eS]; rfl) (by rw [eG]; rfl)
    obtain ⟨_, h54, rfl⟩ := H 29 ⟨.guard, by simp, rfl⟩ 54 _ (by rw [eS]; rfl) (by rw [eG]; rfl)
    have HI := Lib.hid hi
    clear H F hi eS eG eT
    go_wp2_with fail
    exact hK _ _ ((Below.refl _ _).alloc (Nat.le_refl _) _) (new_row _ _ _ _ _ rfl (by simp [Value.oneCell']) (by decide))
  · intro a wx Q' hi H F hK
    obtain ⟨v56, h56, hv56⟩ := H 31 ⟨.data, by simp, rfl⟩ 56 _ (by rw [eS]; rfl) (by rw [eG]; rfl)
    have HV56 := Lib.hid hv56
    clear hv56
    obtain ⟨v62, h62, hv62⟩ := H 37 ⟨.data, by simp, rfl⟩ 62 _ (by rw [eS]; rfl) (by rw [eG]; rfl)
    have HV62 := Lib.hid hv62
    clear hv62
    obtain ⟨_, h54, rfl⟩ := H 29 ⟨.guard, by simp, rfl⟩ 54 _ (by rw [eS]; rfl) (by rw [eG]; rfl)
    have HI := Lib.hid hi
    clear H F hi eS eG eT
    go_wp2_with (go_at_call 23; go_must (refine (rules_any wx _ _ ([⟨1, p, q, false, 0, 1, 0⟩] : List ARule) HV56.out HV62.out).mono ?_; rintro e w1 ⟨rfl, hb1⟩))
    exact hK _ _ hb1 rfl
  · intro a wx Q' hi H F hK
    obtain ⟨_, h54, rfl⟩ := H 29 ⟨.data, by simp, rfl⟩ 54 _ (by rw [eS]; rfl) (by rw [eG]; rfl)
    obtain ⟨_, h63, rfl⟩ := H 38 ⟨.data, by simp, rfl⟩ 63 _ (by rw [eS]; rfl) (by rw [eG]; rfl)
    have HI := Lib.hid hi
    clear H F hi eS eG eT
    go_wp2_with fail
    exact hK _ _ (Below.refl _ _) rfl
  · intro a wx Q' hi H F hK
    obtain ⟨_, h64, rfl⟩ := H 39 ⟨.data, by simp, rfl⟩ 64 _ (by rw [eS]; rfl) (by rw [eG]; rfl)
    have HI := Lib.hid hi
    clear H F hi eS eG eT
    go_wp2_with fail
    exact hK _ _ (Below.refl _ _) rfl
  · intro a wx Q' hi H F hK
    obtain ⟨_, h65, rfl⟩ := H 40 ⟨.guard, by simp, rfl⟩ 65 _ (by rw [eS]; rfl) (by rw [eG]; rfl)
    have h4 : a.tmps[4]? = some (.slice (some ⟨lb, 0, none⟩) 4 4) := (F 4 (by rw [eS]; rfl)).trans (by rw [eT]; rfl)
    have HI := Lib.hid hi
    clear H F hi eS eG eT
    go_wp2_with fail
    exact hK _ _ (Below.refl _ _) rfl
  · intro a wx Q' hi H F hK
    obtain ⟨_, h66, rfl⟩ := H 41 ⟨.data, by simp, rfl⟩ 66 _ (by rw [eS]; rfl) (by rw [eG]; rfl)
    obtain ⟨_, h65, rfl⟩ := H 40 ⟨.guard, by simp, rfl⟩ 65 _ (by rw [eS]; rfl) (by rw [eG]; rfl)
    have HI := Lib.hid hi
    clear H F hi eS eG eT
    go_wp2_with fail
    exact hK _ _ (Below.refl _ _) rfl
  · intro a wx Q' hi H F hK
    obtain ⟨_, h67, rfl⟩ := H 42 ⟨.data, by simp, rfl⟩ 67 _ (by rw [eS]; rfl) (by rw [eG]; rfl)
    obtain ⟨_, h65, rfl⟩ := H 40 ⟨.guard, by simp, rfl⟩ 65 _ (by rw [eS]; rfl) (by rw [eG]; rfl)
    have HI := Lib.hid hi
    clear H F hi eS eG eT
    have kq0 : wx.cell? ⟨lb, 21, none⟩ = some (.int .i64 1) := (Whole.under HI.out HLB.out (Whole.lt HLB.out)).cell 21
    have kq1 : wx.cell? ⟨lb, 22, none⟩ = some (.int .i64 2) := (Whole.under HI.out HLB.out (Whole.lt HLB.out)).cell 22
    have kq2 : wx.cell? ⟨lb, 23, none⟩ = some (.int .i64 0) := (Whole.under HI.out HLB.out (Whole.lt HLB.out)).cell 23
    have kq3 : wx.cell? ⟨lb, 24, none⟩ = some (.int .i64 0) := (Whole.under HI.out HLB.out (Whole.lt HLB.out)).cell 24
    have kq4 : wx.cell? ⟨lb, 25, none⟩ = some (.int .u32 1) := (Whole.under HI.out HLB.out (Whole.lt HLB.out)).cell 25
    have kq5 : wx.cell? ⟨lb, 26, none⟩ = some (.int .u32 0) := (Whole.under HI.out HLB.out (Whole.lt HLB.out)).cell 26
    have kq6 : wx.cell? ⟨lb, 27, none⟩ = some (.int .u32 0) := (Whole.under HI.out HLB.out (Whole.lt HLB.out)).cell 27
    go_wp2_with fail
    exact hK _ _ (Below.refl _ _) rfl
  · intro a wx Q' hi H F hK
    obtain ⟨_, h65, rfl⟩ := H 40 ⟨.guard, by simp, rfl⟩ 65 _ (by rw [eS]; rfl) (by rw [eG]; rfl)
    have h4 : a.tmps[4]? = some (.slice (some ⟨lb, 0, none⟩) 4 4) := (F 4 (by rw [eS]; rfl)).trans (by rw [eT]; rfl)
    have HI := Lib.hid hi
    clear H F hi eS eG eT
    go_wp2_with fail
    exact hK _ _ (Below.refl _ _) rfl
  · intro a wx Q' hi H F hK
    obtain ⟨_, h69, rfl⟩ := H 44 ⟨.data, by simp, rfl⟩ 69 _ (by rw [eS]; rfl) (by rw [eG]; rfl)
    obtain ⟨_, h65, rfl⟩ := H 40 ⟨.guard, by simp, rfl⟩ 65 _ (by rw [eS]; rfl) (by rw [eG]; rfl)
    have HI := Lib.hid hi
    clear H F hi eS eG eT
    go_wp2_with fail
    exact hK _ _ (Below.refl _ _) rfl
  · intro a wx Q' hi H F hK
    obtain ⟨_, h70, rfl⟩ := H 45 ⟨.data, by simp, rfl⟩ 70 _ (by rw [eS]; rfl) (by rw [eG]; rfl)
    obtain ⟨_, h65, rfl⟩ := H 40 ⟨.guard, by simp, rfl⟩ 65 _ (by rw [eS]; rfl) (by rw [eG]; rfl)
    have HI := Lib.hid hi
    clear H F hi eS eG eT
    have kq0 : wx.cell? ⟨lb, 0, none⟩ = some (.int .i64 0) := (Whole.under HI.out HLB.out (Whole.lt HLB.out)).cell 0
    have kq1 : wx.cell? ⟨lb, 1, none⟩ = some (.int .i64 1) := (Whole.under HI.out HLB.out (Whole.lt HLB.out)).cell 1
    have kq2 : wx.cell? ⟨lb, 2, none⟩ = some (.int .i64 0) := (Whole.under HI.out HLB.out (Whole.lt HLB.out)).cell 2
    have kq3 : wx.cell? ⟨lb, 3, none⟩ = some (.int .i64 0) := (Whole.under HI.out HLB.out (Whole.lt HLB.out)).cell 3
    have kq4 : wx.cell? ⟨lb, 4, none⟩ = some (.int .u32 1) := (Whole.under HI.out HLB.out (Whole.lt HLB.out)).cell 4
    have kq5 : wx.cell? ⟨lb, 5, none⟩ = some (.int .u32 0) := (Whole.under HI.out HLB.out (Whole.lt HLB.out)).cell 5
    have kq6 : wx.cell? ⟨lb, 6, none⟩ = some (.int .u32 0) := (Whole.under HI.out HLB.out (Whole.lt HLB.out)).cell 6
    go_wp2_with fail
    exact hK _ _ (Below.refl _ _) rfl
  · intro a wx Q' hi H F hK
    obtain ⟨_, h65, rfl⟩ := H 40 ⟨.guard, by simp, rfl⟩ 65 _ (by rw [eS]; rfl) (by rw [eG]; rfl)
    have HI := Lib.hid hi
    clear H F hi eS eG eT
    go_wp2_with fail
    exact hK _ _ (Below.refl _ _) rfl
  · intro a wx Q' hi H F hK
    obtain ⟨_, h65, rfl⟩ := H 40 ⟨.guard, by simp, rfl⟩ 65 _ (by rw [eS]; rfl) (by rw [eG]; rfl)
    have HI := Lib.hid hi
    clear H F hi eS eG eT
    go_wp2_with fail
    exact hK _ _ (Below.refl _ _) rfl
  · intro a wx Q' hi H F hK
    obtain ⟨_, h68, rfl⟩ := H 43 ⟨.data, by simp, rfl⟩ 68 _ (by rw [eS]; rfl) (by rw [eG]; rfl)
    obtain ⟨_, h71, rfl⟩ := H 46 ⟨.data, by simp, rfl⟩ 71 _ (by rw [eS]; rfl) (by rw [eG]; rfl)
    obtain ⟨_, h72, rfl⟩ := H 47 ⟨.data, by simp, rfl⟩ 72 _ (by rw [eS]; rfl) (by rw [eG]; rfl)
    obtain ⟨_, h73, rfl⟩ := H 48 ⟨.data, by simp, rfl⟩ 73 _ (by rw [eS]; rfl) (by rw [eG]; rfl)
    obtain ⟨_, h65, rfl⟩ := H 40 ⟨.guard, by simp, rfl⟩ 65 _ (by rw [eS]; rfl) (by rw [eG]; rfl)
    have HI := Lib.hid hi
    clear H F hi eS eG eT
    go_wp2_with fail
    exact hK _ _ ((Below.refl _ _).alloc (Nat.le_refl _) _) (new_row _ _ _ _ _ rfl (by simp [Value.oneCell']) (by decide))
  · intro a wx Q' hi H F hK
    obtain ⟨v74, h74, hv74⟩ := H 49 ⟨.data, by simp, rfl⟩ 74 _ (by rw [eS]; rfl) (by rw [eG]; rfl)
    have HV74 := Lib.hid hv74
    clear hv74
    obtain ⟨_, h65, rfl⟩ := H 40 ⟨.guard, by simp, rfl⟩ 65 _ (by rw [eS]; rfl) (by rw [eG]; rfl)
    have HI := Lib.hid hi
    clear H F hi eS eG eT
    go_wp2_with (go_at_call 19; go_must (refine (merge_any wx _ exMerge HV74.out HOKM.out (by decide)).mono ?_; rintro e w1 ⟨v1, l1, rfl, hc1, -, -, hs1, hb1⟩))
    exact hK _ _ hb1 (by rw [hc1.uniq ex_merge] at hs1; exact hs1)
  · intro a wx Q' hi H F hK
    obtain ⟨_, h65, rfl⟩ := H 40 ⟨.guard, by simp, rfl⟩ 65 _ (by rw [eS]; rfl) (by rw [eG]; rfl)
    have HI := Lib.hid hi
    clear H F hi eS eG eT
    go_wp2_with fail
    exact hK _ _ (Below.refl _ _) rfl
  · intro a wx Q' hi H F hK
    obtain ⟨_, h65, rfl⟩ := H 40 ⟨.guard, by simp, rfl⟩ 65 _ (by rw [eS]; rfl) (by rw [eG]; rfl)
    have h4 : a.tmps[4]? = some (.slice (some ⟨lb, 0, none⟩) 4 4) := (F 4 (by rw [eS]; rfl)).trans (by rw [eT]; rfl)
    have HI := Lib.hid hi
    clear H F hi eS eG eT
    go_wp2_with fail
    exact hK _ _ (Below.refl _ _) rfl
  · intro a wx Q' hi H F hK
    obtain ⟨_, h77, rfl⟩ := H 52 ⟨.data, by simp, rfl⟩ 77 _ (by rw [eS]; rfl) (by rw [eG]; rfl)
    obtain ⟨_, h65, rfl⟩ := H 40 ⟨.guard, by simp, rfl⟩ 65 _ (by rw [eS]; rfl) (by rw [eG]; rfl)
    have HI := Lib.hid hi
    clear H F hi eS eG eT
    go_wp2_with fail
    exact hK _ _ (Below.refl _ _) rfl
  · intro a wx Q' hi H F hK
    obtain ⟨_, h78, rfl⟩ := H 53 ⟨.data, by simp, rfl⟩ 78 _ (by rw [eS]; rfl) (by rw [eG]; rfl)
    obtain ⟨_, h65, rfl⟩ := H 40 ⟨.guard, by simp, rfl⟩ 65 _ (by rw [eS]; rfl) (by rw [eG]; rfl)
    have HI := Lib.hid hi
    clear H F hi eS eG eT
    have kq0 : wx.cell? ⟨lb, 21, none⟩ = some (.int .i64 1) := (Whole.under HI.out HLB.out (Whole.lt HLB.out)).cell 21
    have kq1 : wx.cell? ⟨lb, 22, none⟩ = some (.int .i64 2) := (Whole.under HI.out HLB.out (Whole.lt HLB.out)).cell 22
    have kq2 : wx.cell? ⟨lb, 23, none⟩ = some (.int .i64 0) := (Whole.under HI.out HLB.out (Whole.lt HLB.out)).cell 23
    have kq3 : wx.cell? ⟨lb, 24, none⟩ = some (.int .i64 0) := (Whole.under HI.out HLB.out (Whole.lt HLB.out)).cell 24
    have kq4 : wx.cell? ⟨lb, 25, none⟩ = some (.int .u32 1) := (Whole.under HI.out HLB.out (Whole.lt HLB.out)).cell 25
    have kq5 : wx.cell? ⟨lb, 26, none⟩ = some (.int .u32 0) := (Whole.under HI.out HLB.out (Whole.lt HLB.out)).cell 26
    have kq6 : wx.cell? ⟨lb, 27, none⟩ = some (.int .u32 0) := (Whole.under HI.out HLB.out (Whole.lt HLB.out)).cell 27
    go_wp2_with fail
    exact hK _ _ (Below.refl _ _) rfl
  · intro a wx Q' hi H F hK
    obtain ⟨_, h76, rfl⟩ := H 51 ⟨.data, by simp, rfl⟩ 76 _ (by rw [eS]; rfl) (by rw [eG]; rfl)
    obtain ⟨_, h79, rfl⟩ := H 54 ⟨.data, by simp, rfl⟩ 79 _ (by rw [eS]; rfl) (by rw [eG]; rfl)
    obtain ⟨_, h65, rfl⟩ := H 40 ⟨.guard, by simp, rfl⟩ 65 _ (by rw [eS]; rfl) (by rw [eG]; rfl)
    have HI := Lib.hid hi
    clear H F hi eS eG eT
    go_wp2_with fail
    exact hK _ _ ((Below.refl _ _).alloc (Nat.le_refl _) _) (new_row _ _ _ _ _ rfl (by simp [Value.oneCell']) (by decide))
  · intro a wx Q' hi H F hK
    obtain ⟨v75, h75, hv75⟩ := H 50 ⟨.data, by simp, rfl⟩ 75 _ (by rw [eS]; rfl) (by rw [eG]; rfl)
    have HV75 := Lib.hid hv75
    clear hv75
    obtain ⟨v80, h80, hv80⟩ := H 55 ⟨.data, by simp, rfl⟩ 80 _ (by rw [eS]; rfl) (by rw [eG]; rfl)
    have HV80 := Lib.hid hv80
    clear hv80
    obtain ⟨_, h65, rfl⟩ := H 40 ⟨.guard, by simp, rfl⟩ 65 _ (by rw [eS]; rfl) (by rw [eG]; rfl)
    have HI := Lib.hid hi
    clear H F hi eS eG eT
    go_wp2_with (go_at_call 16; go_must (refine (same_any wx _ _ ([⟨0, 1, 0, 0, 1, 0, 4⟩, ⟨1, 2, 0, 0, 1, 0, 0⟩] : List AEntry) HV75.out HV80.out).mono ?_; rintro e w1 ⟨rfl, hb1⟩))
    exact hK _ _ hb1 rfl
  · intro a wx Q' hi H F hK
    obtain ⟨_, h65, rfl⟩ := H 40 ⟨.data, by simp, rfl⟩ 65 _ (by rw [eS]; rfl) (by rw [eG]; rfl)
    obtain ⟨_, h81, rfl⟩ := H 56 ⟨.data, by simp, rfl⟩ 81 _ (by rw [eS]; rfl) (by rw [eG]; rfl)
    have HI := Lib.hid hi
    clear H F hi eS eG eT
    go_wp2_with fail
    exact hK _ _ (Below.refl _ _) rfl
  · intro a wx Q' hi H F hK
    obtain ⟨_, h82, rfl⟩ := H 57 ⟨.data, by simp, rfl⟩ 82 _ (by rw [eS]; rfl) (by rw [eG]; rfl)
    have HI := Lib.hid hi
    clear H F hi eS eG eT
    go_wp2_with fail
    exact hK _ _ (Below.refl _ _) rfl
  · rintro ⟨tmps, defers⟩ wx hR
    obtain ⟨_, h0, rfl⟩ := hR.done 58 rfl 0 _ rfl rfl
    obtain rfl := hR.defers
    have HG := Lib.hid (HBK.out.trans (hR.inv.mono HBK.out.size))
    clear hR
    go_wp2_with fail
    refine bodyPost_ret (v := .bool true) ?_ rfl ⟨rfl, HG.out⟩
    simp [results, Tryd.results13, h0]
set_option maxRecDepth 100000 in
set_option maxHeartbeats 4000000 in
theorem awake_any (w : World) (hT : Tab w) : Calls Tryd.prog 13 #[] w fun e w' => e = .returned (.bool true) ∧ RowKit.Below w.heap.size w w' := by
  obtain ⟨s, hs⟩ : ∃ s, s = s0 := ⟨_, rfl⟩
  obtain ⟨t, ht⟩ : ∃ t, t = t1 := ⟨_, rfl⟩
  have HS := Lib.hid (show ofs [0] = s by rw [hs]; exact ofs_0)
  have HT1 := Lib.hid (show ofs [1] = t by rw [ht]; exact ofs_1)
  have HST := Lib.hid (And.intro hs ht)
  have HT := Lib.hid hT
  have HA := Lib.hid (row_ints (l := [0]) (by simp) (Whole.new w 3 _))
  clear hs ht hT
  go_enter Tryd.func13, Tryd.ntmps13
  go_upto_region 3 with (first | (have hZ := HA; clear hZ; go_at_call 29; go_must (refine (of_any _ _ [0] HA.out).mono ?_; rw [HS.out]; rintro e w1 ⟨rfl, hb1⟩; have HB1 := Lib.hid (((Below.refl _ w).alloc (Nat.le_refl _) _).trans (hb1.mono (by simp))); have HA2 := Lib.hid (row_ints (l := [1]) (by simp) (Whole.new w1 3 _)); clear hb1 HA)) | (have hZ := HA2; clear hZ; go_at_call 29; go_must (refine (of_any _ _ [1] HA2.out).mono ?_; rw [HT1.out]; rintro e w2 ⟨rfl, hb2⟩; have HB2 := Lib.hid ((HB1.out.alloc HB1.out.size _).trans (hb2.mono (by have := HB1.out.size; simp; omega))); clear hb2 HA2 HB1)) | (have hZ := HB2; clear hZ; refine wpList_store_blk rfl 24 _ _ rfl w2.heap.size 0 (.agg #[.int .u64 s.a, .int .u64 s.b, .int .u64 s.c, .int .u64 s.d]) rfl rfl 24 _ ((Whole.new w2 24 _).alloc _) (by simp [Value.cells]) size24 rfl ?_; intro w3 S3 W3; rw [splice_all _ _ (by rfl)] at W3; have HS3 := Lib.hid S3; have HW3 := Lib.hid (show Whole w3 w2.heap.size 24 #[.int .u64 s.a, .int .u64 s.b, .int .u64 s.c, .int .u64 s.d] from W3); clear S3 W3) | (have hZ := HW3; clear hZ; refine wpList_store_blk rfl 24 _ _ rfl (w2.heap.size + 1) 0 (.agg #[.int .u64 t.a, .int .u64 t.b, .int .u64 t.c, .int .u64 t.d]) rfl rfl 24 _ (HS3.out.whole (whole_two w2 _ _ _) (by omega)) (by simp [Value.cells]) size24 rfl ?_; intro w4 S4 W4; rw [splice_all _ _ (by rfl)] at W4; have HS4 := Lib.hid S4; have HTB := Lib.hid (show Whole w4 (w2.heap.size + 1) 24 #[.int .u64 t.a, .int .u64 t.b, .int .u64 t.c, .int .u64 t.d] from W4); have HSB := Lib.hid (HS4.out.whole HW3.out (by omega)); have HB4 := Lib.hid (HB2.out.trans ((two_b6 HS3.out HS4.out).mono HB2.out.size)); clear S4 W4 HW3 HS3 HS4 HB2) | (refine wpList_load_row rfl 24 _ rfl w2.heap.size rfl 24 _ (0, 0) _ HSB.out Tryd.underlying24 rfl size24 ?_) | (refine wpList_load_row rfl 24 _ rfl (w2.heap.size + 1) rfl 24 _ (0, 0) _ HTB.out Tryd.underlying24 rfl size24 ?_))
  have HB5 := Lib.hid (HB4.out.alloc HB4.out.size (.cells #[.int .i64 1, .int .u64 s.a, .int .u64 s.b, .int .u64 s.c, .int .u64 s.d, .int .u64 t.a, .int .u64 t.b, .int .u64 t.c, .int .u64 t.d, .bool false, .int .i64 0, .int .u32 1, .int .i64 0, .int .i64 1, .int .u64 s.a, .int .u64 s.b, .int .u64 s.c, .int .u64 s.d, .int .u64 t.a, .int .u64 t.b, .int .u64 t.c, .int .u64 t.d, .bool false, .int .i64 0, .int .u32 2, .int .i64 0, .int .i64 4, .int .u64 s.a, .int .u64 s.b, .int .u64 s.c, .int .u64 s.d, .int .u64 t.a, .int .u64 t.b, .int .u64 t.c, .int .u64 t.d, .bool false, .int .i64 0, .int .u32 2, .int .i64 0] 27))
  have HB6 := Lib.hid (HB5.out.alloc HB5.out.size (.cells #[.slice none 0 0, .slice none 0 0, .slice none 0 0, .slice none 0 0, .slice none 0 0, .slice none 0 0, .slice none 0 0, .slice none 0 0, .slice none 0 0, .slice (some ⟨w4.heap.size, 0, none⟩) 3 3, .slice none 0 0, .slice none 0 0, .slice none 0 0, .slice none 0 0, .slice none 0 0, .slice none 0 0, .slice none 0 0] 50))
  go_cut [4] (fun s4 wk => s4 = .slice (some ⟨w4.heap.size + 1 + 1, 0, none⟩) 4 4 ∧ wk = ((w4.alloc (.cells #[.int .i64 1, .int .u64 s.a, .int .u64 s.b, .int .u64 s.c, .int .u64 s.d, .int .u64 t.a, .int .u64 t.b, .int .u64 t.c, .int .u64 t.d, .bool false, .int .i64 0, .int .u32 1, .int .i64 0, .int .i64 1, .int .u64 s.a, .int .u64 s.b, .int .u64 s.c, .int .u64 s.d, .int .u64 t.a, .int .u64 t.b, .int .u64 t.c, .int .u64 t.d, .bool false, .int .i64 0, .int .u32 2, .int .i64 0, .int .i64 4, .int .u64 s.a, .int .u64 s.b, .int .u64 s.c, .int .u64 s.d, .int .u64 t.a, .int .u64 t.b, .int .u64 t.c, .int .u64 t.d, .bool false, .int .i64 0, .int .u32 2, .int .i64 0] 27)).alloc (.cells #[.slice none 0 0, .slice none 0 0, .slice none 0 0, .slice none 0 0, .slice none 0 0, .slice none 0 0, .slice none 0 0, .slice none 0 0, .slice none 0 0, .slice (some ⟨w4.heap.size, 0, none⟩) 3 3, .slice none 0 0, .slice none 0 0, .slice none 0 0, .slice none 0 0, .slice none 0 0, .slice none 0 0, .slice none 0 0] 50)).alloc (.cells #[.int .i64 0, .int .i64 1, .int .i64 0, .int .i64 0, .int .u32 1, .int .u32 0, .int .u32 0, .int .i64 0, .int .i64 2, .int .i64 0, .int .i64 0, .int .u32 1, .int .u32 0, .int .u32 0, .int .i64 1, .int .i64 1, .int .i64 0, .int .i64 0, .int .u32 1, .int .u32 0, .int .u32 0, .int .i64 1, .int .i64 2, .int .i64 0, .int .i64 0, .int .u32 1, .int .u32 0, .int .u32 0] 61))
  case first =>
    go_wp2_with fail
    go_meet
    exact ⟨rfl, rfl⟩
  case rest =>
  obtain ⟨wk, rfl⟩ : ∃ wk : World, wk = wc := ⟨_, rfl⟩
  obtain ⟨rfl, hwk⟩ := hcut
  have HBK := Lib.hid (show RowKit.Below w.heap.size w wk by rw [hwk]; exact HB6.out.alloc HB6.out.size _)
  have hkk : RowKit.Below w4.heap.size w4 wk := by
    rw [hwk]
    have h1 := (Below.refl w4.heap.size w4).alloc (Nat.le_refl _) (.cells #[.int .i64 1, .int .u64 s.a, .int .u64 s.b, .int .u64 s.c, .int .u64 s.d, .int .u64 t.a, .int .u64 t.b, .int .u64 t.c, .int .u64 t.d, .bool false, .int .i64 0, .int .u32 1, .int .i64 0, .int .i64 1, .int .u64 s.a, .int .u64 s.b, .int .u64 s.c, .int .u64 s.d, .int .u64 t.a, .int .u64 t.b, .int .u64 t.c, .int .u64 t.d, .bool false, .int .i64 0, .int .u32 2, .int .i64 0, .int .i64 4, .int .u64 s.a, .int .u64 s.b, .int .u64 s.c, .int .u64 s.d, .int .u64 t.a, .int .u64 t.b, .int .u64 t.c, .int .u64 t.d, .bool false, .int .i64 0, .int .u32 2, .int .i64 0] 27)
    have h2 := h1.alloc h1.size (.cells #[.slice none 0 0, .slice none 0 0, .slice none 0 0, .slice none 0 0, .slice none 0 0, .slice none 0 0, .slice none 0 0, .slice none 0 0, .slice none 0 0, .slice (some ⟨w4.heap.size, 0, none⟩) 3 3, .slice none 0 0, .slice none 0 0, .slice none 0 0, .slice none 0 0, .slice none 0 0, .slice none 0 0, .slice none 0 0] 50)
    exact h2.alloc h2.size _
  have hs1 : (w4.alloc (.cells #[.int .i64 1, .int .u64 s.a, .int .u64 s.b, .int .u64 s.c, .int .u64 s.d, .int .u64 t.a, .int .u64 t.b, .int .u64 t.c, .int .u64 t.d, .bool false, .int .i64 0, .int .u32 1, .int .i64 0, .int .i64 1, .int .u64 s.a, .int .u64 s.b, .int .u64 s.c, .int .u64 s.d, .int .u64 t.a, .int .u64 t.b, .int .u64 t.c, .int .u64 t.d, .bool false, .int .i64 0, .int .u32 2, .int .i64 0, .int .i64 4, .int .u64 s.a, .int .u64 s.b, .int .u64 s.c, .int .u64 s.d, .int .u64 t.a, .int .u64 t.b, .int .u64 t.c, .int .u64 t.d, .bool false, .int .i64 0, .int .u32 2, .int .i64 0] 27)).heap.size = w4.heap.size + 1 := by simp
  have HTB' := Lib.hid (Whole.under hkk HTB.out HTB.out.lt)
  have HRS' : SliceAt wk (.slice (some ⟨w4.heap.size, 0, none⟩) 3 3) 13 3 (([⟨1, s, t, false, 0, 1, 0⟩, ⟨1, s, t, false, 0, 2, 0⟩, ⟨4, s, t, false, 0, 2, 0⟩] : List ARule).flatMap ARule.cells) := by
    rw [hwk]
    have h0 : SliceAt (w4.alloc (.cells #[.int .i64 1, .int .u64 s.a, .int .u64 s.b, .int .u64 s.c, .int .u64 s.d, .int .u64 t.a, .int .u64 t.b, .int .u64 t.c, .int .u64 t.d, .bool false, .int .i64 0, .int .u32 1, .int .i64 0, .int .i64 1, .int .u64 s.a, .int .u64 s.b, .int .u64 s.c, .int .u64 s.d, .int .u64 t.a, .int .u64 t.b, .int .u64 t.c, .int .u64 t.d, .bool false, .int .i64 0, .int .u32 2, .int .i64 0, .int .i64 4, .int .u64 s.a, .int .u64 s.b, .int .u64 s.c, .int .u64 s.d, .int .u64 t.a, .int .u64 t.b, .int .u64 t.c, .int .u64 t.d, .bool false, .int .i64 0, .int .u32 2, .int .i64 0] 27)) (.slice (some ⟨w4.heap.size, 0, none⟩) 3 3) 13 3 (([⟨1, s, t, false, 0, 1, 0⟩, ⟨1, s, t, false, 0, 2, 0⟩, ⟨4, s, t, false, 0, 2, 0⟩] : List ARule).flatMap ARule.cells) := new_row _ _ _ _ _ rfl (by simp [Value.oneCell']) (by decide)
    have h1 := (Below.refl _ (w4.alloc (.cells #[.int .i64 1, .int .u64 s.a, .int .u64 s.b, .int .u64 s.c, .int .u64 s.d, .int .u64 t.a, .int .u64 t.b, .int .u64 t.c, .int .u64 t.d, .bool false, .int .i64 0, .int .u32 1, .int .i64 0, .int .i64 1, .int .u64 s.a, .int .u64 s.b, .int .u64 s.c, .int .u64 s.d, .int .u64 t.a, .int .u64 t.b, .int .u64 t.c, .int .u64 t.d, .bool false, .int .i64 0, .int .u32 2, .int .i64 0, .int .i64 4, .int .u64 s.a, .int .u64 s.b, .int .u64 s.c, .int .u64 s.d, .int .u64 t.a, .int .u64 t.b, .int .u64 t.c, .int .u64 t.d, .bool false, .int .i64 0, .int .u32 2, .int .i64 0] 27))).alloc (Nat.le_refl _) (.cells #[.slice none 0 0, .slice none 0 0, .slice none 0 0, .slice none 0 0, .slice none 0 0, .slice none 0 0, .slice none 0 0, .slice none 0 0, .slice none 0 0, .slice (some ⟨w4.heap.size, 0, none⟩) 3 3, .slice none 0 0, .slice none 0 0, .slice none 0 0, .slice none 0 0, .slice none 0 0, .slice none 0 0, .slice none 0 0] 50)
    exact h0.keep (h1.alloc h1.size _)
  have HPB' := Lib.hid (show Whole wk (w4.heap.size + 1) 50 #[.slice none 0 0, .slice none 0 0, .slice none 0 0, .slice none 0 0, .slice none 0 0, .slice none 0 0, .slice none 0 0, .slice none 0 0, .slice none 0 0, .slice (some ⟨w4.heap.size, 0, none⟩) 3 3, .slice none 0 0, .slice none 0 0, .slice none 0 0, .slice none 0 0, .slice none 0 0, .slice none 0 0, .slice none 0 0] by rw [hwk, ← hs1]; exact (Whole.new _ 50 _).alloc _)
  have HLB' := Lib.hid (show Whole wk (w4.heap.size + 1 + 1) 61 #[.int .i64 0, .int .i64 1, .int .i64 0, .int .i64 0, .int .u32 1, .int .u32 0, .int .u32 0, .int .i64 0, .int .i64 2, .int .i64 0, .int .i64 0, .int .u32 1, .int .u32 0, .int .u32 0, .int .i64 1, .int .i64 1, .int .i64 0, .int .i64 0, .int .u32 1, .int .u32 0, .int .u32 0, .int .i64 1, .int .i64 2, .int .i64 0, .int .i64 0, .int .u32 1, .int .u32 0, .int .u32 0] by
    rw [hwk]
    have h := Whole.new ((w4.alloc (.cells #[.int .i64 1, .int .u64 s.a, .int .u64 s.b, .int .u64 s.c, .int .u64 s.d, .int .u64 t.a, .int .u64 t.b, .int .u64 t.c, .int .u64 t.d, .bool false, .int .i64 0, .int .u32 1, .int .i64 0, .int .i64 1, .int .u64 s.a, .int .u64 s.b, .int .u64 s.c, .int .u64 s.d, .int .u64 t.a, .int .u64 t.b, .int .u64 t.c, .int .u64 t.d, .bool false, .int .i64 0, .int .u32 2, .int .i64 0, .int .i64 4, .int .u64 s.a, .int .u64 s.b, .int .u64 s.c, .int .u64 s.d, .int .u64 t.a, .int .u64 t.b, .int .u64 t.c, .int .u64 t.d, .bool false, .int .i64 0, .int .u32 2, .int .i64 0] 27)).alloc (.cells #[.slice none 0 0, .slice none 0 0, .slice none 0 0, .slice none 0 0, .slice none 0 0, .slice none 0 0, .slice none 0 0, .slice none 0 0, .slice none 0 0, .slice (some ⟨w4.heap.size, 0, none⟩) 3 3, .slice none 0 0, .slice none 0 0, .slice none 0 0, .slice none 0 0, .slice none 0 0, .slice none 0 0, .slice none 0 0] 50)) 61 #[.int .i64 0, .int .i64 1, .int .i64 0, .int .i64 0, .int .u32 1, .int .u32 0, .int .u32 0, .int .i64 0, .int .i64 2, .int .i64 0, .int .i64 0, .int .u32 1, .int .u32 0, .int .u32 0, .int .i64 1, .int .i64 1, .int .i64 0, .int .i64 0, .int .u32 1, .int .u32 0, .int .u32 0, .int .i64 1, .int .i64 2, .int .i64 0, .int .i64 0, .int .u32 1, .int .u32 0, .int .u32 0]
    have e : ((w4.alloc (.cells #[.int .i64 1, .int .u64 s.a, .int .u64 s.b, .int .u64 s.c, .int .u64 s.d, .int .u64 t.a, .int .u64 t.b, .int .u64 t.c, .int .u64 t.d, .bool false, .int .i64 0, .int .u32 1, .int .i64 0, .int .i64 1, .int .u64 s.a, .int .u64 s.b, .int .u64 s.c, .int .u64 s.d, .int .u64 t.a, .int .u64 t.b, .int .u64 t.c, .int .u64 t.d, .bool false, .int .i64 0, .int .u32 2, .int .i64 0, .int .i64 4, .int .u64 s.a, .int .u64 s.b, .int .u64 s.c, .int .u64 s.d, .int .u64 t.a, .int .u64 t.b, .int .u64 t.c, .int .u64 t.d, .bool false, .int .i64 0, .int .u32 2, .int .i64 0] 27)).alloc (.cells #[.slice none 0 0, .slice none 0 0, .slice none 0 0, .slice none 0 0, .slice none 0 0, .slice none 0 0, .slice none 0 0, .slice none 0 0, .slice none 0 0, .slice (some ⟨w4.heap.size, 0, none⟩) 3 3, .slice none 0 0, .slice none 0 0, .slice none 0 0, .slice none 0 0, .slice none 0 0, .slice none 0 0, .slice none 0 0] 50)).heap.size = w4.heap.size + 1 + 1 := by simp
    rwa [e] at h)
  clear hwk hkk hs1 HSB HB5 HB6 HTB HB4
  obtain ⟨rb, hrb⟩ : ∃ rb, rb = w4.heap.size := ⟨_, rfl⟩
  obtain ⟨tb, htb⟩ : ∃ tb, tb = w2.heap.size + 1 := ⟨_, rfl⟩
  rw [← hrb] at HPB' HLB' HRS' ⊢
  obtain ⟨lb, hlb⟩ : ∃ lb, lb = rb + 1 + 1 := ⟨_, rfl⟩
  rw [← hlb] at HLB' ⊢
  obtain ⟨pb, hpb⟩ : ∃ pb, pb = rb + 1 := ⟨_, rfl⟩
  rw [← hpb] at HPB' ⊢
  rw [← htb] at HTB' ⊢
  have HTB := HTB'
  have HPB := HPB'
  have HLB := HLB'
  have HRS := Lib.hid HRS'
  clear hrb htb hlb hpb HTB' HPB' HLB' HRS'
  have HLS := Lib.hid (show SliceAt wk (.slice (some ⟨lb, 0, none⟩) 4 4) 7 exEnts.length (exEnts.flatMap AEntry.cells) from whole_slice (n := 4) rfl (by decide) (by simp [exEnts, Value.oneCell', AEntry.cells]) HLB.out)
  obtain ⟨p, hp⟩ : ∃ p, p = s01 := ⟨_, rfl⟩
  obtain ⟨q, hq⟩ : ∃ q, q = t12 := ⟨_, rfl⟩
  have HS01 := Lib.hid (show ofs [0, 1] = p by rw [hp]; exact ofs_01)
  have HS12 := Lib.hid (show ofs [1, 2] = q by rw [hq]; exact ofs_12)
  have HPP := Lib.hid (show (⟨0, p, t, true, 0, 0, 0⟩ : ARule).pairs = ([(0, 0), (0, 1), (1, 1)] : List (Nat × Nat)) by rw [hp, HST.out.2]; exact ex_pairs)
  have HCE := Lib.hid (show Canon (accum (kvR ([⟨1, s, t, false, 0, 1, 0⟩, ⟨1, s, t, false, 0, 2, 0⟩, ⟨4, s, t, false, 0, 2, 0⟩] : List ARule))) ([⟨0, 1, 0, 0, 3, 0, 0⟩] : List AEntry) by rw [HST.out.1, HST.out.2]; exact ex_entries)
  have HNE := Lib.hid (show neverL ([⟨1, s, t, false, 0, 1, 0⟩, ⟨1, s, t, false, 0, 2, 0⟩, ⟨4, s, t, false, 0, 2, 0⟩] : List ARule) ([⟨0, 1, 0, 0, 3, 0, 0⟩] : List AEntry) = ([⟨0, 1, 0, 0, 2, 0, 0⟩] : List AEntry) by rw [HST.out.1, HST.out.2]; exact ex_never)
  have HCR := Lib.hid (show CanonR (pairsOf exEnts) ([⟨1, p, q, false, 0, 1, 0⟩] : List ARule) by rw [hp, hq]; exact ex_compress)
  have HOKP := Lib.hid (show (⟨0, p, t, true, 0, 0, 0⟩ : ARule).Ok by rw [hp, HST.out.2]; exact ⟨ex_ok.1, ex_ok.2.1⟩)
  have HOKR := Lib.hid (show ∀ r ∈ ([⟨1, s, t, false, 0, 1, 0⟩, ⟨1, s, t, false, 0, 2, 0⟩, ⟨4, s, t, false, 0, 2, 0⟩] : List ARule), r.Wf by rw [HST.out.1, HST.out.2]; exact ex_wf)
  have HOKE := Lib.hid ex_ents_ok
  have HOKM := Lib.hid ex_merge_ok
  clear hp hq
  rename_i hK
  refine hK _ _ (awake_tail w wk tb pb rb lb s t p q _ _ _ _ _ _ _ _ _ _ _ _ _ _ _ _ _ _ _ _ _ _ _ _ _ _ _ _ _ _ _ _ _ _ _ _ _ _ _ _ _ _ _ _ _ _ _ _ _ _ _ _ _ _ _ _ _ _ _ _ _ _ _ _ _ _ _ _ _ _ _ _ _ _ _ _ _ _ _ _ HBK HT HTB HPB HLB HRS HLS HS01 HS12 HPP HCE HNE HCR HOKP HOKR HOKE HOKM)
end Go.Proofs.YtmkfabdkadocdaaDoor

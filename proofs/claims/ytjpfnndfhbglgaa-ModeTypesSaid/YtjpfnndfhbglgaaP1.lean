import Derived.WalkKit
import Derived.WalkSpells
import Derived.WalkLawsBesides
import Derived.Handy
import Derived.BigQuiet
import Derived.Outline
import Derived.Deep.RegionHeld3
import Derived.Deep.DeepCutAuto
import Derived.Deep.DeepMust
import Derived.Lib.Hide
import Derived.Deep.RegionWith
import Derived.Test.YtjpfnndfhbglgaaA
import Derived.Test.YtjpfnndfhbglgaaB
import Derived.Test.YtjpfnndfhbglgaaW
import Derived.Test.YtjpfnndfhbglgaaK
/-
  THE LAWS ModeJudge, ModeWorst: their walks.
-/
namespace Go.Proofs.Ytjpfnndfhbglgaa
open Go.RowKit

theorem cellsW {w : World} {g : Nat} {t : TypeId} {c0 c1 c2 c3 c4 : Value} (h : Whole w g t #[c0, c1, c2, c3, c4]) :
    w.cell? ⟨g, 0, none⟩ = some c0 ∧ w.cell? ⟨g, 1, none⟩ = some c1 ∧ w.cell? ⟨g, 2, none⟩ = some c2 ∧ w.cell? ⟨g, 3, none⟩ = some c3 ∧ w.cell? ⟨g, 4, none⟩ = some c4 :=
  ⟨h.cell 0, h.cell 1, h.cell 2, h.cell 3, h.cell 4⟩
theorem u32_of {n : Int} (h : (Lit.int .u32 n).wf = true) : U32 n := by
  have := bounds_u32 h
  exact ⟨this.1, by omega⟩
/-- Two variables through a step that leaves what was there. -/
theorem step2 {w wc w' : World} {g1 g2 : Nat} {t1 t2 : TypeId} {c1 c2 : Array Value} (hb : Below wc.heap.size wc w') (h : Hid (Below w.heap.size w wc ∧ Whole wc g1 t1 c1 ∧ Whole wc g2 t2 c2)) :
    Hid (Below w.heap.size w w' ∧ Whole w' g1 t1 c1 ∧ Whole w' g2 t2 c2) :=
  ⟨h.out.1.trans (hb.mono h.out.1.size), Whole.under hb h.out.2.1 (Whole.lt h.out.2.1), Whole.under hb h.out.2.2 (Whole.lt h.out.2.2)⟩
theorem bits_comm (x y : Int) : bits .or .u32 x y = bits .or .u32 y x := by
  rw [bits_u32, bits_u32]
  simp only [BitVec.or_comm]
theorem worst_comm (a b : Verd) : worstV b a = worstV a b := by
  unfold worstV
  rw [bits_comm b.denied, bits_comm b.grant, bits_comm b.deny, Bool.and_comm b.granted, Bool.or_comm b.permissive]
set_option maxRecDepth 100000 in
theorem verd_open {w : World} {v : Value} (h : Arg Try.prog w 26 v) : ∃ d : Verd, d.Ok ∧ v = d.val := by
  obtain ⟨f, cs, h, rfl⟩ := h
  rw [Try.underlying26]
  obtain ⟨f', rfl, h⟩ := h.struct Try.underlying26
  obtain ⟨c0, _, rfl, -, r0, c1, _, rfl, -, r1, c2, _, rfl, -, r2, c3, _, rfl, -, r3, c4, _, rfl, -, r4, hn⟩ := h
  obtain rfl : _ = [] := hn
  obtain ⟨g, rfl⟩ := r0.bool Try.underlying4
  obtain ⟨d, rfl, wd⟩ := r1.int Try.underlying22
  obtain ⟨a, rfl, wa⟩ := r2.int Try.underlying22
  obtain ⟨y, rfl, wy⟩ := r3.int Try.underlying22
  obtain ⟨p, rfl⟩ := r4.bool Try.underlying4
  exact ⟨⟨g, d, a, y, p⟩, ⟨(u32_of wd), (u32_of wa), (u32_of wy)⟩, rfl⟩

set_option maxRecDepth 100000 in
set_option maxHeartbeats 1000000 in
theorem modeJudge_any (A B C S p : Int) (P en : Bool) (w : World) :
    Calls Try.prog 3 #[.agg #[.int .u32 A, .int .u32 B, .int .u32 C, .bool P, .int .i64 S], .int .u32 p, .bool en] w fun e w' => e = .returned (.bool true) ∧ Below w.heap.size w w' := by
  have HJ := fun W => judge_any A B C S p P en W
  have HI := fun W => rjudge_any A B C S p P en W
  generalize judgeV A B C p P en = v at HJ HI
  have HA := fun W => audited_any v W
  have HB := fun W => raudited_any v W
  generalize auditedV v = n at HA HB
  obtain ⟨vg, vd, va, vy, vp⟩ := v
  unfold Verd.val at HJ HI HA HB
  have KJ := Lib.hid HJ
  have KI := Lib.hid HI
  have KA := Lib.hid HA
  have KB := Lib.hid HB
  clear HJ HI HA HB
  go_enter Try.func3, Try.ntmps3
  go_wp2_with ((go_at_call 8; go_must (refine (KJ.out _).mono ?_; rintro e w1 ⟨rfl, hb1⟩)))
  have hd := (Whole.under hb1 (Whole.new w 24 #[.int .u32 A, .int .u32 B, .int .u32 C, .bool P, .int .i64 S]) (by simp)).alloc (.cells #[.bool vg, .int .u32 vd, .int .u32 va, .int .u32 vy, .bool vp] 26)
  have hv := Whole.new w1 26 #[.bool vg, .int .u32 vd, .int .u32 va, .int .u32 vy, .bool vp]
  have hbw : Below w.heap.size w (w1.alloc (.cells #[.bool vg, .int .u32 vd, .int .u32 va, .int .u32 vy, .bool vp] 26)) := (below_of_alloc (by simpa using hb1)).alloc (by have := hb1.size; simp at this; omega) _
  generalize w1.alloc (.cells #[.bool vg, .int .u32 vd, .int .u32 va, .int .u32 vy, .bool vp] 26) = wc at *
  generalize w1.heap.size = g at *
  have K : Hid (Below w.heap.size w wc.drew ∧ Whole wc.drew w.heap.size 24 #[.int .u32 A, .int .u32 B, .int .u32 C, .bool P, .int .i64 S] ∧ Whole wc.drew g 26 #[.bool vg, .int .u32 vd, .int .u32 va, .int .u32 vy, .bool vp]) := ⟨hbw.drew, hd, hv⟩
  obtain ⟨e0, e1, e2, e3, e4⟩ := cellsW hd
  obtain ⟨m0, m1, m2, m3, m4⟩ := cellsW hv
  clear hd hv hbw hb1
  go_region_held3 (fun w' => w'.cell? ⟨w.heap.size, 0, none⟩ = some (.int .u32 A) ∧ w'.cell? ⟨w.heap.size, 1, none⟩ = some (.int .u32 B) ∧ w'.cell? ⟨w.heap.size, 2, none⟩ = some (.int .u32 C) ∧ w'.cell? ⟨w.heap.size, 3, none⟩ = some (.bool P) ∧ w'.cell? ⟨w.heap.size, 4, none⟩ = some (.int .i64 S) ∧ w'.cell? ⟨g, 0, none⟩ = some (.bool vg) ∧ w'.cell? ⟨g, 1, none⟩ = some (.int .u32 vd) ∧ w'.cell? ⟨g, 2, none⟩ = some (.int .u32 va) ∧ w'.cell? ⟨g, 3, none⟩ = some (.int .u32 vy) ∧ w'.cell? ⟨g, 4, none⟩ = some (.bool vp)) (go_keep)
    (first | (go_at_call 9; (with_reducible refine (KI.out _).mono ?_); rintro e w2 ⟨rfl, hb2⟩; replace K := step2 hb2 K; clear hb2 e0 e1 e2 e3 e4 m0 m1 m2 m3 m4; obtain ⟨e0, e1, e2, e3, e4⟩ := cellsW K.out.2.1; obtain ⟨m0, m1, m2, m3, m4⟩ := cellsW K.out.2.2) | (go_at_call 10; (with_reducible refine (KA.out _).mono ?_); rintro e w2 ⟨rfl, hb2⟩; replace K := step2 hb2 K; clear hb2 e0 e1 e2 e3 e4 m0 m1 m2 m3 m4; obtain ⟨e0, e1, e2, e3, e4⟩ := cellsW K.out.2.1; obtain ⟨m0, m1, m2, m3, m4⟩ := cellsW K.out.2.2) | (go_at_call 11; (with_reducible refine (KB.out _).mono ?_); rintro e w2 ⟨rfl, hb2⟩; replace K := step2 hb2 K; clear hb2 e0 e1 e2 e3 e4 m0 m1 m2 m3 m4; obtain ⟨e0, e1, e2, e3, e4⟩ := cellsW K.out.2.1; obtain ⟨m0, m1, m2, m3, m4⟩ := cellsW K.out.2.2) | (go_at_call 12; (with_reducible refine (awake_any _).mono ?_); rintro e w2 ⟨rfl, hb2⟩; replace K := step2 hb2 K; clear hb2 e0 e1 e2 e3 e4 m0 m1 m2 m3 m4; obtain ⟨e0, e1, e2, e3, e4⟩ := cellsW K.out.2.1; obtain ⟨m0, m1, m2, m3, m4⟩ := cellsW K.out.2.2))
  all_goals
    go_wp2_with fail
    go_ret
    exact ⟨rfl, K.out.1⟩

set_option maxRecDepth 100000 in
set_option maxHeartbeats 1000000 in
theorem modeWorst_any (a b : Verd) (ha : a.Ok) (hb : b.Ok) (w : World) : Calls Try.prog 5 #[a.val, b.val] w fun e w' => e = .returned (.bool true) ∧ Below w.heap.size w w' := by
  have e1 : worstV b a = worstV a b := worst_comm a b
  have HJ := fun W => worst_any a b ha W
  have HK := fun W => worst_any b a hb W
  rw [e1] at HK
  have HS := fun W => worst_any a a ha W
  have HR := fun W => rworst_any a b W
  have HT := fun W => rworst_any a a W
  clear e1 ha hb
  generalize worstV a b = v at HJ HK HR
  generalize worstV a a = x at HS HT
  obtain ⟨ag, ad, aa, ay, ap⟩ := a
  obtain ⟨bg, bd, ba, bY, bp⟩ := b
  obtain ⟨vg, vd, va, vy, vp⟩ := v
  obtain ⟨xg, xd, xa, xy, xp⟩ := x
  unfold Verd.val at HJ HK HS HR HT ⊢
  have KJ := Lib.hid HJ
  have KK := Lib.hid HK
  have KS := Lib.hid HS
  have KR := Lib.hid HR
  have KT := Lib.hid HT
  clear HJ HK HS HR HT
  obtain ⟨hd, hv⟩ := heap_two w (.cells #[.bool ag, .int .u32 ad, .int .u32 aa, .int .u32 ay, .bool ap] 26) (.cells #[.bool bg, .int .u32 bd, .int .u32 ba, .int .u32 bY, .bool bp] 26)
  have hbw : Below w.heap.size w ((w.alloc (.cells #[.bool ag, .int .u32 ad, .int .u32 aa, .int .u32 ay, .bool ap] 26)).alloc (.cells #[.bool bg, .int .u32 bd, .int .u32 ba, .int .u32 bY, .bool bp] 26)) := by go_grown
  go_enter Try.func5, Try.ntmps5
  go_wp2_with fail
  generalize (w.alloc (.cells #[.bool ag, .int .u32 ad, .int .u32 aa, .int .u32 ay, .bool ap] 26)).alloc (.cells #[.bool bg, .int .u32 bd, .int .u32 ba, .int .u32 bY, .bool bp] 26) = wc at *
  generalize w.heap.size + 1 = g at *
  have K : Hid (Below w.heap.size w wc.drew ∧ Whole wc.drew w.heap.size 26 #[.bool ag, .int .u32 ad, .int .u32 aa, .int .u32 ay, .bool ap] ∧ Whole wc.drew g 26 #[.bool bg, .int .u32 bd, .int .u32 ba, .int .u32 bY, .bool bp]) := ⟨hbw.drew, hd, hv⟩
  obtain ⟨e0, e1, e2, e3, e4⟩ := cellsW (show Whole wc w.heap.size 26 #[.bool ag, .int .u32 ad, .int .u32 aa, .int .u32 ay, .bool ap] from hd)
  obtain ⟨m0, m1, m2, m3, m4⟩ := cellsW (show Whole wc g 26 #[.bool bg, .int .u32 bd, .int .u32 ba, .int .u32 bY, .bool bp] from hv)
  clear hd hv hbw
  go_region_held3 (fun w' => w'.cell? ⟨w.heap.size, 0, none⟩ = some (.bool ag) ∧ w'.cell? ⟨w.heap.size, 1, none⟩ = some (.int .u32 ad) ∧ w'.cell? ⟨w.heap.size, 2, none⟩ = some (.int .u32 aa) ∧ w'.cell? ⟨w.heap.size, 3, none⟩ = some (.int .u32 ay) ∧ w'.cell? ⟨w.heap.size, 4, none⟩ = some (.bool ap) ∧ w'.cell? ⟨g, 0, none⟩ = some (.bool bg) ∧ w'.cell? ⟨g, 1, none⟩ = some (.int .u32 bd) ∧ w'.cell? ⟨g, 2, none⟩ = some (.int .u32 ba) ∧ w'.cell? ⟨g, 3, none⟩ = some (.int .u32 bY) ∧ w'.cell? ⟨g, 4, none⟩ = some (.bool bp)) (go_keep)
    (first | (go_at_call 19; (with_reducible refine (KJ.out _).mono ?_); rintro e w2 ⟨rfl, hb2⟩; replace K := step2 hb2 K; clear hb2 e0 e1 e2 e3 e4 m0 m1 m2 m3 m4; obtain ⟨e0, e1, e2, e3, e4⟩ := cellsW K.out.2.1; obtain ⟨m0, m1, m2, m3, m4⟩ := cellsW K.out.2.2) | (go_at_call 19; (with_reducible refine (KK.out _).mono ?_); rintro e w2 ⟨rfl, hb2⟩; replace K := step2 hb2 K; clear hb2 e0 e1 e2 e3 e4 m0 m1 m2 m3 m4; obtain ⟨e0, e1, e2, e3, e4⟩ := cellsW K.out.2.1; obtain ⟨m0, m1, m2, m3, m4⟩ := cellsW K.out.2.2) | (go_at_call 19; (with_reducible refine (KS.out _).mono ?_); rintro e w2 ⟨rfl, hb2⟩; replace K := step2 hb2 K; clear hb2 e0 e1 e2 e3 e4 m0 m1 m2 m3 m4; obtain ⟨e0, e1, e2, e3, e4⟩ := cellsW K.out.2.1; obtain ⟨m0, m1, m2, m3, m4⟩ := cellsW K.out.2.2) | (go_at_call 20; (with_reducible refine (KR.out _).mono ?_); rintro e w2 ⟨rfl, hb2⟩; replace K := step2 hb2 K; clear hb2 e0 e1 e2 e3 e4 m0 m1 m2 m3 m4; obtain ⟨e0, e1, e2, e3, e4⟩ := cellsW K.out.2.1; obtain ⟨m0, m1, m2, m3, m4⟩ := cellsW K.out.2.2) | (go_at_call 20; (with_reducible refine (KT.out _).mono ?_); rintro e w2 ⟨rfl, hb2⟩; replace K := step2 hb2 K; clear hb2 e0 e1 e2 e3 e4 m0 m1 m2 m3 m4; obtain ⟨e0, e1, e2, e3, e4⟩ := cellsW K.out.2.1; obtain ⟨m0, m1, m2, m3, m4⟩ := cellsW K.out.2.2) | (go_at_call 12; (with_reducible refine (awake_any _).mono ?_); rintro e w2 ⟨rfl, hb2⟩; replace K := step2 hb2 K; clear hb2 e0 e1 e2 e3 e4 m0 m1 m2 m3 m4; obtain ⟨e0, e1, e2, e3, e4⟩ := cellsW K.out.2.1; obtain ⟨m0, m1, m2, m3, m4⟩ := cellsW K.out.2.2))
  all_goals
    go_wp2_with fail
    go_ret
    exact ⟨rfl, K.out.1⟩

end Go.Proofs.Ytjpfnndfhbglgaa

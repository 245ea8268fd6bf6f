import Derived.WalkKit
import Derived.WalkSpells
import Derived.WalkLawsBesides
import Derived.Handy
import Derived.BigQuiet
import Derived.Outline
import Derived.Deep.RegionHeld3
import Derived.Deep.DeepCutAuto
import Derived.Deep.DeepMust
import Derived.Lib.Hide
import Derived.Deep.RegionWith
import Derived.Test.YtjpfnndfhbglgaaA
import Derived.Test.YtjpfnndfhbglgaaB
import Derived.Test.YtjpfnndfhbglgaaW
import Derived.Test.YtjpfnndfhbglgaaK
import Derived.Test.YtjpfnndfhbglgaaP1
/-
  THE LAW ModeParts: its walk.
-/
namespace Go.Proofs.Ytjpfnndfhbglgaa
open Go.RowKit

theorem cells3 {w : World} {g : Nat} {t : TypeId} {c0 c1 c2 : Value} (h : Whole w g t #[c0, c1, c2]) :
    w.cell? ⟨g, 0, none⟩ = some c0 ∧ w.cell? ⟨g, 1, none⟩ = some c1 ∧ w.cell? ⟨g, 2, none⟩ = some c2 := ⟨h.cell 0, h.cell 1, h.cell 2⟩

theorem bits_ok (op : BinOp) (x y : Int) : U32 (bits op .u32 x y) := by
  rw [bits_u32]
  generalize (match op with
    | .and => BitVec.ofInt 32 x &&& BitVec.ofInt 32 y
    | .or => BitVec.ofInt 32 x ||| BitVec.ofInt 32 y
    | .xor => BitVec.ofInt 32 x ^^^ BitVec.ofInt 32 y
    | _ => BitVec.ofInt 32 x &&& ~~~BitVec.ofInt 32 y) = b
  have := b.isLt
  exact ⟨by omega, by omega⟩
theorem judge_ok (A B C p : Int) (P en : Bool) : (judgeV A B C p P en).Ok := by
  unfold judgeV
  exact ⟨bits_ok .andNot p A, bits_ok .and (bits .and .u32 p A) B, bits_ok .and (bits .andNot .u32 p A) C⟩
theorem ofInt_bits (b : BitVec 32) : BitVec.ofInt 32 (b.toNat : Int) = b := by
  apply BitVec.eq_of_toNat_eq
  rw [BitVec.toNat_ofInt]
  have := b.isLt
  omega
theorem zero_or (a b : BitVec 32) : (((a ||| b).toNat : Int) == 0) = (((a.toNat : Int) == 0) && ((b.toNat : Int) == 0)) := by
  have h : a ||| b = 0#32 ↔ a = 0#32 ∧ b = 0#32 := BitVec.or_eq_zero_iff
  have e : ∀ c : BitVec 32, ((c.toNat : Int) == 0) = decide (c = 0#32) := fun c => by
    rw [Bool.eq_iff_iff]
    simp [BitVec.toNat_eq]
  rw [e, e, e, Bool.eq_iff_iff]
  simp [h]
theorem bv_or_and (X Y A : BitVec 32) : (X ||| Y) &&& A = (X &&& A) ||| (Y &&& A) := by
  ext i hi
  simp only [BitVec.getElem_and, BitVec.getElem_or]
  generalize X[i] = p
  generalize Y[i] = q
  cases p <;> cases q <;> simp
theorem bv_or_andNot (X Y A : BitVec 32) : (X ||| Y) &&& ~~~A = (X &&& ~~~A) ||| (Y &&& ~~~A) := bv_or_and X Y (~~~A)
theorem judge_parts (A B C x y : Int) (P en : Bool) : judgeV A B C (bits .or .u32 x y) P en = worstV (judgeV A B C x P en) (judgeV A B C y P en) := by
  have e1 : bits .andNot .u32 (bits .or .u32 x y) A = bits .or .u32 (bits .andNot .u32 x A) (bits .andNot .u32 y A) := by
    simp only [bits_u32, ofInt_bits]
    rw [bv_or_andNot]
  have e2 : bits .and .u32 (bits .and .u32 (bits .or .u32 x y) A) B = bits .or .u32 (bits .and .u32 (bits .and .u32 x A) B) (bits .and .u32 (bits .and .u32 y A) B) := by
    simp only [bits_u32, ofInt_bits]
    rw [bv_or_and, bv_or_and]
  have e3 : bits .and .u32 (bits .or .u32 (bits .andNot .u32 x A) (bits .andNot .u32 y A)) C = bits .or .u32 (bits .and .u32 (bits .andNot .u32 x A) C) (bits .and .u32 (bits .andNot .u32 y A) C) := by
    simp only [bits_u32, ofInt_bits]
    rw [bv_or_and]
  have e4 : (bits .or .u32 (bits .andNot .u32 x A) (bits .andNot .u32 y A) == 0) = ((bits .andNot .u32 x A == 0) && (bits .andNot .u32 y A == 0)) := by
    simp only [bits_u32, ofInt_bits]
    exact zero_or _ _
  unfold judgeV worstV
  dsimp only
  rw [e1, e2, e3]
  simp only [bne, e4]
  cases (bits .andNot .u32 x A == 0) <;> cases (bits .andNot .u32 y A == 0) <;> cases P <;> cases en <;> rfl

set_option maxRecDepth 100000 in
set_option maxHeartbeats 1000000 in
theorem modeParts_any (A B C S x y : Int) (P en : Bool) (w : World) :
    Calls Try.prog 6 #[.agg #[.int .u32 A, .int .u32 B, .int .u32 C, .bool P, .int .i64 S], .agg #[.int .u32 x, .int .u32 y, .bool en]] w fun e w' => e = .returned (.bool true) ∧ Below w.heap.size w w' := by
  have HJ := fun W => judge_any A B C S (bits .or .u32 x y) P en W
  have HK := fun W => judge_any A B C S x P en W
  have HS := fun W => judge_any A B C S y P en W
  have HR := fun W => worst_any (judgeV A B C x P en) (judgeV A B C y P en) (judge_ok ..) W
  rw [judge_parts] at HJ
  generalize worstV (judgeV A B C x P en) (judgeV A B C y P en) = v at HJ HR
  generalize judgeV A B C x P en = a at HK HR
  generalize judgeV A B C y P en = b at HS HR
  obtain ⟨ag, ad, aa, ay, ap⟩ := a
  obtain ⟨bg, bd, ba, bY, bp⟩ := b
  obtain ⟨vg, vd, va, vy, vp⟩ := v
  unfold Verd.val at HJ HK HS HR
  have KJ := Lib.hid HJ
  have KK := Lib.hid HK
  have KS := Lib.hid HS
  have KR := Lib.hid HR
  clear HJ HK HS HR
  obtain ⟨hd, hv⟩ := heap_two w (.cells #[.int .u32 A, .int .u32 B, .int .u32 C, .bool P, .int .i64 S] 24) (.cells #[.int .u32 x, .int .u32 y, .bool en] 58)
  have hbw : Below w.heap.size w ((w.alloc (.cells #[.int .u32 A, .int .u32 B, .int .u32 C, .bool P, .int .i64 S] 24)).alloc (.cells #[.int .u32 x, .int .u32 y, .bool en] 58)) := by go_grown
  go_enter Try.func6, Try.ntmps6
  go_wp2_with fail
  generalize (w.alloc (.cells #[.int .u32 A, .int .u32 B, .int .u32 C, .bool P, .int .i64 S] 24)).alloc (.cells #[.int .u32 x, .int .u32 y, .bool en] 58) = wc at *
  generalize w.heap.size + 1 = g at *
  have K : Hid (Below w.heap.size w wc.drew ∧ Whole wc.drew w.heap.size 24 #[.int .u32 A, .int .u32 B, .int .u32 C, .bool P, .int .i64 S] ∧ Whole wc.drew g 58 #[.int .u32 x, .int .u32 y, .bool en]) := ⟨hbw.drew, hd, hv⟩
  obtain ⟨e0, e1, e2, e3, e4⟩ := cellsW (show Whole wc w.heap.size 24 #[.int .u32 A, .int .u32 B, .int .u32 C, .bool P, .int .i64 S] from hd)
  obtain ⟨m0, m1, m2⟩ := cells3 (show Whole wc g 58 #[.int .u32 x, .int .u32 y, .bool en] from hv)
  clear hd hv hbw
  go_region_held3 (fun w' => w'.cell? ⟨w.heap.size, 0, none⟩ = some (.int .u32 A) ∧ w'.cell? ⟨w.heap.size, 1, none⟩ = some (.int .u32 B) ∧ w'.cell? ⟨w.heap.size, 2, none⟩ = some (.int .u32 C) ∧ w'.cell? ⟨w.heap.size, 3, none⟩ = some (.bool P) ∧ w'.cell? ⟨w.heap.size, 4, none⟩ = some (.int .i64 S) ∧ w'.cell? ⟨g, 0, none⟩ = some (.int .u32 x) ∧ w'.cell? ⟨g, 1, none⟩ = some (.int .u32 y) ∧ w'.cell? ⟨g, 2, none⟩ = some (.bool en)) (go_keep)
    (first | (go_at_call 8; (with_reducible refine (KJ.out _).mono ?_); rintro e w2 ⟨rfl, hb2⟩; replace K := step2 hb2 K; clear hb2 e0 e1 e2 e3 e4 m0 m1 m2; obtain ⟨e0, e1, e2, e3, e4⟩ := cellsW K.out.2.1; obtain ⟨m0, m1, m2⟩ := cells3 K.out.2.2) | (go_at_call 8; (with_reducible refine (KK.out _).mono ?_); rintro e w2 ⟨rfl, hb2⟩; replace K := step2 hb2 K; clear hb2 e0 e1 e2 e3 e4 m0 m1 m2; obtain ⟨e0, e1, e2, e3, e4⟩ := cellsW K.out.2.1; obtain ⟨m0, m1, m2⟩ := cells3 K.out.2.2) | (go_at_call 8; (with_reducible refine (KS.out _).mono ?_); rintro e w2 ⟨rfl, hb2⟩; replace K := step2 hb2 K; clear hb2 e0 e1 e2 e3 e4 m0 m1 m2; obtain ⟨e0, e1, e2, e3, e4⟩ := cellsW K.out.2.1; obtain ⟨m0, m1, m2⟩ := cells3 K.out.2.2) | (go_at_call 19; (with_reducible refine (KR.out _).mono ?_); rintro e w2 ⟨rfl, hb2⟩; replace K := step2 hb2 K; clear hb2 e0 e1 e2 e3 e4 m0 m1 m2; obtain ⟨e0, e1, e2, e3, e4⟩ := cellsW K.out.2.1; obtain ⟨m0, m1, m2⟩ := cells3 K.out.2.2) | (go_at_call 12; (with_reducible refine (awake_any _).mono ?_); rintro e w2 ⟨rfl, hb2⟩; replace K := step2 hb2 K; clear hb2 e0 e1 e2 e3 e4 m0 m1 m2; obtain ⟨e0, e1, e2, e3, e4⟩ := cellsW K.out.2.1; obtain ⟨m0, m1, m2⟩ := cells3 K.out.2.2))
  all_goals
    go_wp2_with fail
    go_ret
    exact ⟨rfl, K.out.1⟩
end Go.Proofs.Ytjpfnndfhbglgaa

import Derived.WalkKit
import Derived.WalkSpells
import Derived.WalkLawsBesides
import Derived.Handy
import Derived.BigQuiet
import Derived.Outline
import Derived.Deep.RegionHeld3
import Derived.Deep.DeepCutAuto
import Derived.Deep.DeepMust
import Derived.Deep.DeepFit
import Derived.Deep.LoopGhost
import Derived.Lib.Hide
import Derived.IntWalk
import Derived.Deep.CutBlock
import Derived.Deep.RegionWith
import Derived.Laws.IdiomStrings
import Derived.Laws.Bits64
import Derived.Test.YtibikehfeobikaaC
/-
  THE CONTRACTS of PutSigned, PutText, PutSet.
-/
namespace Go.Proofs.Ytibikehfeobikaa
open Go.RowKit

/-- A signed number as an unsigned one. -/
def zig (m : Int) : Nat := if 0 ≤ m then (2 * m).toNat else (-2 * m - 1).toNat

def I64 (m : Int) : Prop := -9223372036854775808 ≤ m ∧ m ≤ 9223372036854775807
theorem zig_lt {m : Int} (h : I64 m) : zig m < 18446744073709551616 := by
  unfold zig I64 at *
  split <;> omega

theorem xor_ones (a : Nat) (h : a < 18446744073709551616) : bits .xor .u64 (a : Int) ((18446744073709551615 : Nat) : Int) = ((18446744073709551615 - a : Nat) : Int) := by
  rw [bits_xor_u64_nat _ _ h (by omega)]
  have h1 := congrArg BitVec.toNat (BitVec.xor_allOnes (x := BitVec.ofNat 64 a))
  rw [BitVec.toNat_xor, BitVec.toNat_not, BitVec.toNat_allOnes, BitVec.toNat_ofNat, Nat.mod_eq_of_lt h] at h1
  exact congrArg (fun n : Nat => (n : Int)) h1

/-- What PutSigned makes of m. -/
theorem zig_bits {m : Int} (h : I64 m) : bits .xor .u64 (IntKind.u64.wrap (IntKind.u64.wrap m * 2)) (IntKind.u64.wrap (m / 9223372036854775808)) = (zig m : Int) := by
  unfold I64 at h
  rw [IntKind.wrap_u64, IntKind.wrap_u64, IntKind.wrap_u64]
  unfold zig
  by_cases h0 : 0 ≤ m
  · rw [if_pos h0]
    have e1 : m % 18446744073709551616 * 2 % 18446744073709551616 = (((2 * m).toNat : Nat) : Int) := by omega
    have e2 : m / 9223372036854775808 % 18446744073709551616 = ((0 : Nat) : Int) := by omega
    rw [e1, e2, bits_xor_u64_nat _ _ (by omega) (by omega), Nat.xor_zero]
  · rw [if_neg h0]
    have e1 : m % 18446744073709551616 * 2 % 18446744073709551616 = (((2 * m + 18446744073709551616).toNat : Nat) : Int) := by omega
    have e2 : m / 9223372036854775808 % 18446744073709551616 = ((18446744073709551615 : Nat) : Int) := by omega
    rw [e1, e2, xor_ones _ (by omega)]
    omega

set_option maxRecDepth 100000 in
set_option maxHeartbeats 1000000 in
theorem putSigned_any (v : Value) (xs : List Nat) (m : Int) (B : Nat) (w : World) (h : OwnB w B v xs) (hB : B ≤ w.heap.size) (hm : I64 m) (hl : xs.length ≤ 90000) :
    Calls Try.prog 17 #[v, .int .i64 m] w fun e w' => ∃ r, e = .returned r ∧ OwnB w' B r (xs ++ putNum (zig m)) ∧ Below B w w' ∧ K5 w w' := by
  have hc := putNumber_any v xs (zig m) B w h hB (zig_lt hm) hl
  rw [← zig_bits hm] at hc
  have HC := Lib.hid hc
  clear h hm hl hc
  go_enter Try.func17, Try.ntmps17
  go_wp2_with fail
  refine HC.out.mono ?_
  rintro e w1 ⟨r, rfl, hr, hb, hk⟩
  have HK := Lib.hid hk
  clear hk
  have HR := Lib.hid hr
  have HB := Lib.hid hb
  clear hr hb
  go_wp2_with fail
  go_ret
  exact ⟨r, rfl, HR.out, HB.out, HK.out⟩

def strBytes (s : ByteArray) : List Nat := s.data.toList.map UInt8.toNat
theorem strBytes_ok (s : ByteArray) : Bytes (strBytes s) := fun x hx => by
  obtain ⟨y, _, rfl⟩ := List.mem_map.1 hx
  exact y.toNat_lt
theorem strBytes_len (s : ByteArray) : (strBytes s).length = s.size := by simp [strBytes]
theorem str_bytes (w : World) (s : ByteArray) (hs : s.size ≤ 100000) : ∃ v w', (convert 9 22 (.string s)).run Try.prog w = .ok v w' ∧ BytesAt w' v (strBytes s) ∧ Below w.heap.size w w' := by
  refine ⟨_, _, run_bytes_of_string w 9 22 5 s Try.underlying9 Try.underlying22 Try.underlying5, ?_, (Below.refl _ w).drew.alloc (Nat.le_refl _) _⟩
  refine ⟨⟨by simp [byteCells], by rw [strBytes_len]; unfold maxLen; omega, byte_one _, .inr ⟨_, _, by rw [strBytes_len], ?_, fun j u hu => ?_⟩⟩, strBytes_ok s⟩
  · rw [strBytes_len]; exact grownCap_ge ..
  · rw [Addr.add_lit, Nat.zero_add]
    have hg : (w.drew.alloc (.cells (bytesRow s (grownCap w s.size 0 5)) 5 ((bytesRow s (grownCap w s.size 0 5)).size, (bytesRow s (grownCap w s.size 0 5)).size + 1))).heap[w.heap.size]? = some (.cells (bytesRow s (grownCap w s.size 0 5)) 5 ((bytesRow s (grownCap w s.size 0 5)).size, (bytesRow s (grownCap w s.size 0 5)).size + 1)) := heap_alloc_new w.drew _
    rw [cell_of_row _ _ j _ _ _ hg]
    have hj : j < s.size := by
      have := (List.getElem?_eq_some_iff.1 hu).1
      simpa [byteCells, strBytes] using this
    unfold bytesRow
    rw [Array.getElem?_append_left (by simpa using hj)]
    simpa [byteCells, strBytes] using hu

theorem wpList_convert_string {w : World} {ops : Array Oper} {rest : List Oper} {o : Oper} {a : Act} {Q : Exit → Act → World → Prop} (hgd : o.guard = none) (x : Operand)
    (ho : o.op = .convert 9 22 x) (s : ByteArray) (hx : a.eval x = .string s) (hs : s.size ≤ 100000)
    (h : ∀ v' w', BytesAt w' v' (strBytes s) → Below w.heap.size w w' → wpList Try.prog ops Q rest (a.put o.dst v') w') : wpList Try.prog ops Q (o :: rest) a w := by
  obtain ⟨v, w', hrun, hv, hb⟩ := str_bytes w s hs
  refine wpList_plain hgd fun K hK => ?_
  unfold Oper.wp
  simp [execOp, ho, hx, hrun, Result.andThen]
  exact hK _ _ (h v w' hv hb)

set_option maxRecDepth 100000 in
set_option maxHeartbeats 1000000 in
theorem putText_any (v : Value) (xs : List Nat) (s : ByteArray) (B : Nat) (w : World) (h : OwnB w B v xs) (hB : B ≤ w.heap.size) (hs : s.size ≤ 400) (hl : xs.length ≤ 80000) :
    Calls Try.prog 16 #[v, .string s] w fun e w' => ∃ r, e = .returned r ∧ OwnB w' B r (xs ++ (putNum s.size ++ strBytes s)) ∧ Below B w w' ∧ K5 w w' := by
  have HC := Lib.hid (putNumber_any v xs s.size B w h hB (by omega) (by omega))
  have hpl := putNum_len10 (n := s.size) (by omega)
  have hsl := strBytes_len s
  clear h
  have HP := Lib.hid (And.intro hpl hsl)
  clear hpl hsl
  go_enter Try.func16, Try.ntmps16
  go_wp2_with fail
  refine HC.out.mono ?_
  rintro e w1 ⟨r, rfl, hr, hb, hk⟩
  have HK := Lib.hid hk
  clear hk
  have HR := Lib.hid hr
  have HB := Lib.hid hb
  clear hr hb
  go_wp2_with (refine wpList_convert_string rfl _ rfl s rfl (by omega) ?_)
  intro v' w2 hv hb2
  have HV := Lib.hid hv
  have hz := HB.out.size
  have hz2 := hb2.size
  have HB2 := Lib.hid (HB.out.trans (hb2.mono (by omega)))
  have HR2 := Lib.hid (HR.out.keep hb2)
  have HK2 := Lib.hid (HK.out.below hb2)
  clear hv hb2
  go_wp2_with fail
  refine (joined_any r v' _ _ B w2 HR2.out HV.out (by omega) (by have := HP.out.1; have := HP.out.2; simp; omega)).mono ?_
  rintro e w3 ⟨r', rfl, hr, hb, hk⟩
  have HK3 := Lib.hid (HK2.out.trans hk)
  clear hk
  have HR3 := Lib.hid hr
  have HB3 := Lib.hid (HB2.out.trans hb)
  clear hr hb
  go_wp2_with fail
  go_ret
  exact ⟨r', rfl, by have := HR3.out; rwa [List.append_assoc] at this, HB3.out, HK3.out⟩
end Go.Proofs.Ytibikehfeobikaa

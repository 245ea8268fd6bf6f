import Derived.Test.YtmkfabdkadocdaaDoorK
import Derived.Test.YtmkfabdkadocdaaDoorM
import Derived.Test.YtmkfabdkadocdaaDoorZW
import Derived.Test.YtmkfabdkadocdaaDoorRows
import Derived.Lib.Hide
import Derived.Handy
import Derived.Laws.Bits64b
import Derived.Deep.DeepCutAuto
/-
  Sets of 256 numbers in four words; bitset.Has, ref01.Has.
-/
namespace Go.Proofs.YtmkfabdkadocdaaDoor
open Go Go.RowKit

def U64 (n : Nat) : Prop := n < 18446744073709551616
structure ASet where
  a : Nat
  b : Nat
  c : Nat
  d : Nat
deriving DecidableEq
def ASet.cells (s : ASet) : List Value := [.int .u64 s.a, .int .u64 s.b, .int .u64 s.c, .int .u64 s.d]
structure ASet.Ok (s : ASet) : Prop where
  a : U64 s.a
  b : U64 s.b
  c : U64 s.c
  d : U64 s.d
def ASet.word (s : ASet) (i : Nat) : Nat := if i = 0 then s.a else if i = 1 then s.b else if i = 2 then s.c else s.d
def ASet.put (s : ASet) (i x : Nat) : ASet := if i = 0 then ⟨x, s.b, s.c, s.d⟩ else if i = 1 then ⟨s.a, x, s.c, s.d⟩ else if i = 2 then ⟨s.a, s.b, x, s.d⟩ else ⟨s.a, s.b, s.c, x⟩
def ASet.has (s : ASet) (n : Nat) : Bool := (s.word (n / 64)).testBit (n % 64)
/-- Whether a number is an element. -/
def ASet.mem (s : ASet) (n : Int) : Bool := decide (0 ≤ n ∧ n < 256) && s.has n.toNat
def ASet.add (s : ASet) (n : Nat) : ASet := s.put (n / 64) (s.word (n / 64) ||| 2 ^ (n % 64))
def ASet.with (s : ASet) (n : Int) : ASet := if 0 ≤ n ∧ n < 256 then s.add n.toNat else s
def ASet.zero : ASet := ⟨0, 0, 0, 0⟩
theorem ASet.word_ok {s : ASet} (h : s.Ok) (i : Nat) : U64 (s.word i) := by
  unfold ASet.word
  split
  · exact h.a
  · split
    · exact h.b
    · split
      · exact h.c
      · exact h.d
theorem ASet.put_ok {s : ASet} (h : s.Ok) (i : Nat) {x : Nat} (hx : U64 x) : (s.put i x).Ok := by
  unfold ASet.put
  split
  · exact ⟨hx, h.b, h.c, h.d⟩
  · split
    · exact ⟨h.a, hx, h.c, h.d⟩
    · split
      · exact ⟨h.a, h.b, hx, h.d⟩
      · exact ⟨h.a, h.b, h.c, hx⟩
theorem four {i : Nat} (h : i < 4) : i = 0 ∨ i = 1 ∨ i = 2 ∨ i = 3 := by omega
theorem ASet.word_put (s : ASet) {i j : Nat} (hi : i < 4) (hj : j < 4) (x : Nat) : (s.put i x).word j = if j = i then x else s.word j := by
  rcases four hi with rfl | rfl | rfl | rfl <;> rcases four hj with rfl | rfl | rfl | rfl <;> rfl
theorem ASet.cell_at (s : ASet) {i : Nat} (hi : i < 4) : s.cells[i]? = some (.int .u64 (s.word i)) := by
  rcases four hi with rfl | rfl | rfl | rfl <;> rfl
theorem two_lt {j : Nat} (h : j < 64) : U64 (2 ^ j) := Nat.pow_lt_pow_right (by decide) h
theorem or_lt {x y : Nat} (hx : U64 x) (hy : U64 y) : U64 (x ||| y) := Nat.or_lt_two_pow (n := 64) hx hy
theorem ASet.add_ok {s : ASet} (h : s.Ok) (n : Nat) : (s.add n).Ok := ASet.put_ok h _ (or_lt (ASet.word_ok h _) (two_lt (Nat.mod_lt _ (by decide))))
theorem ASet.with_ok {s : ASet} (h : s.Ok) (n : Int) : (s.with n).Ok := by
  unfold ASet.with
  split
  · exact ASet.add_ok h _
  · exact h
theorem ASet.has_add (s : ASet) {n m : Nat} (hn : n < 256) (hm : m < 256) : (s.add n).has m = (decide (m = n) || s.has m) := by
  unfold ASet.has ASet.add
  rw [ASet.word_put s (by omega) (by omega)]
  by_cases h : m / 64 = n / 64
  · rw [if_pos h, Nat.testBit_or, h, Nat.testBit_two_pow, Bool.or_comm]
    congr 1
    by_cases e : m = n
    · subst e; simp
    · have : n % 64 ≠ m % 64 := fun h2 => e (by omega)
      simp [e, this]
  · rw [if_neg h]
    have : m ≠ n := fun e => h (by rw [e])
    simp [this]
theorem ASet.has_zero (n : Nat) : ASet.zero.has n = false := by
  unfold ASet.has ASet.word ASet.zero
  split
  · exact Nat.zero_testBit _
  · split
    · exact Nat.zero_testBit _
    · split <;> exact Nat.zero_testBit _
theorem word_eq {x y : Nat} (hx : U64 x) (hy : U64 y) (h : ∀ j, j < 64 → x.testBit j = y.testBit j) : x = y := by
  refine Nat.eq_of_testBit_eq fun j => ?_
  by_cases hj : j < 64
  · exact h j hj
  · have e : ∀ {z : Nat}, U64 z → z.testBit j = false := fun {z} hz => Nat.testBit_lt_two_pow (Nat.lt_of_lt_of_le hz (Nat.pow_le_pow_right (n := 2) (by decide) (by omega : 64 ≤ j)))
    rw [e hx, e hy]
theorem ASet.ext {s t : ASet} (hs : s.Ok) (ht : t.Ok) (h : ∀ n, n < 256 → s.has n = t.has n) : s = t := by
  have key : ∀ i, i < 4 → s.word i = t.word i := fun i hi => word_eq (ASet.word_ok hs i) (ASet.word_ok ht i) fun j hj => by
    have := h (i * 64 + j) (by omega)
    unfold ASet.has at this
    rwa [show (i * 64 + j) / 64 = i by omega, show (i * 64 + j) % 64 = j by omega] at this
  have h0 := key 0 (by decide)
  have h1 := key 1 (by decide)
  have h2 := key 2 (by decide)
  have h3 := key 3 (by decide)
  obtain ⟨a, b, c, d⟩ := s
  obtain ⟨a', b', c', d'⟩ := t
  simp [ASet.word] at h0 h1 h2 h3
  subst h0 h1 h2 h3
  rfl
theorem shr_bit {x j : Nat} (hx : U64 x) : (bits BinOp.and IntKind.u64 ((x : Int) / 2 ^ j) 1 == 1) = x.testBit j := by
  have e : (x : Int) / 2 ^ j = ((x / 2 ^ j : Nat) : Int) := by simp
  have hlt : x / 2 ^ j < 18446744073709551616 := Nat.lt_of_le_of_lt (Nat.div_le_self _ _) hx
  rw [e]
  have h := bits_and_u64_nat (x / 2 ^ j) 1 hlt (by decide)
  rw [show ((1 : Nat) : Int) = 1 from rfl] at h
  rw [h]
  rw [Nat.testBit_eq_decide_div_mod_eq, Nat.and_one_is_mod]
  rcases Nat.mod_two_eq_zero_or_one (x / 2 ^ j) with h | h <;> rw [h] <;> rfl
theorem and_two {x j : Nat} (hx : U64 x) (hj : j < 64) : (bits BinOp.and IntKind.u64 (x : Int) ((2 ^ j : Nat) : Int) != 0) = x.testBit j := by
  rw [bits_and_u64_nat x (2 ^ j) hx (two_lt hj)]
  cases h : x.testBit j with
  | false =>
    have e : x &&& 2 ^ j = 0 := Nat.eq_of_testBit_eq fun i => by
      rw [Nat.testBit_and, Nat.testBit_two_pow, Nat.zero_testBit]
      by_cases hi : j = i
      · subst hi; simp [h]
      · simp [hi]
    rw [e]; rfl
  | true =>
    have e : x &&& 2 ^ j ≠ 0 := fun e => by
      have := congrArg (fun z => z.testBit j) e
      simp [Nat.testBit_and, h] at this
    have e' : ((x &&& 2 ^ j : Nat) : Int) ≠ 0 := fun h => e (by exact_mod_cast h)
    simpa using e'
end Go.Proofs.YtmkfabdkadocdaaDoor

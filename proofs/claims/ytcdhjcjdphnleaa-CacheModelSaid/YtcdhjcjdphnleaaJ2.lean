import Derived.Test.YtcdhjcjdphnleaaJ
import Derived.ChangeKeysEq
namespace Go.Proofs.Ytcdhjcjdphnleaa
open Go Go.WideMaps Go.RowKit

theorem info3 : ∃ i z, Try.prog.info? 3 = some i ∧ i.zero = some z ∧ i.size = 1 ∧ i.bytes = 8 ∧ z.cells.size = 1 := infoOf (by kernel_rfl)
theorem cOf3 : Try.prog.cellsOf 3 = 1 := by kernel_rfl
theorem eq_int' (d : Nat) (a b : Int) (w : World) : (Op.equalIn (d + 1) 3 (.int .i64 a) (.int .i64 b)).run Try.prog w = .ok (decide (a = b)) w := by
  by_cases h : a = b <;> simp [Op.equalIn, run_underlying Try.underlying3, h]
theorem eq_int (a b : Int) (w : World) : (Op.equalIn 9999 3 (.int .i64 a) (.int .i64 b)).run Try.prog w = .ok (decide (a = b)) w := eq_int' 9998 a b w
theorem eq_key (a b c a' b' c' : Int) (w : World) : (Op.equalIn 10000 41 (.agg #[.int .i64 a, .int .i64 b, .int .i64 c]) (.agg #[.int .i64 a', .int .i64 b', .int .i64 c'])).run Try.prog w = .ok (decide ((⟨a, b, c⟩ : Key) = ⟨a', b', c'⟩)) w := by
  obtain ⟨i0, z, hi, _⟩ := info3
  rw [show (10000 : Nat) = 9999 + 1 from rfl, run_equalIn_array w 9999 _ _ Try.underlying41 hi, cOf3]
  have p0 : ∀ a b c : Int, (part 3 #[.int .i64 a, .int .i64 b, .int .i64 c] (0 * 1)).run Try.prog w = .ok (.int .i64 a) w := fun a b c => by kernel_rfl
  have p1 : ∀ a b c : Int, (part 3 #[.int .i64 a, .int .i64 b, .int .i64 c] (1 * 1)).run Try.prog w = .ok (.int .i64 b) w := fun a b c => by kernel_rfl
  have p2 : ∀ a b c : Int, (part 3 #[.int .i64 a, .int .i64 b, .int .i64 c] (2 * 1)).run Try.prog w = .ok (.int .i64 c) w := fun a b c => by kernel_rfl
  rw [show List.range 3 = [0, 1, 2] from rfl]
  simp only [Op.eqItems, Sem.run_bind, p0, Result.andThen_ok, eq_int]
  by_cases h0 : a = a' <;> by_cases h1 : b = b' <;> by_cases h2 : c = c' <;> simp [h0, h1, h2, Sem.run_bind, p1, p2, eq_int]
end Go.Proofs.Ytcdhjcjdphnleaa

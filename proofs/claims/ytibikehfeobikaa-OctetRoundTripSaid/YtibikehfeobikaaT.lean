import Derived.Test.YtibikehfeobikaaN
/-
  PLAIN LAWS: what is encoded is decoded as it was.
-/
namespace Go.Proofs.Ytibikehfeobikaa
open Go.RowKit

theorem numGo_put : ∀ (m i n : Nat) (r : List Nat), m * 128 ^ i < 18446744073709551616 → (0 < i → 0 < m) → numGo i n (putNum m ++ r) = (n + m * 128 ^ i, r, 0) := by
  intro m
  induction m using Nat.strongRecOn with
  | ind m ih =>
    intro i n r hm h0
    have hi : i ≤ 9 := by
      refine Classical.byContradiction fun hi => ?_
      have h1 : (128 : Nat) ^ 10 ≤ 128 ^ i := Nat.pow_le_pow_right (by omega) (by omega)
      have h2 : 1 * 128 ^ i ≤ m * 128 ^ i := Nat.mul_le_mul_right _ (h0 (by omega))
      have h3 : (128 : Nat) ^ 10 = 1180591620717411303424 := by decide
      omega
    have h9 : i = 9 → m ≤ 1 := fun e => by
      subst e
      have h3 : (128 : Nat) ^ 9 = 9223372036854775808 := by decide
      rw [h3] at hm
      omega
    rw [putNum]
    by_cases hlt : m < 128
    · rw [if_pos hlt]
      show numGo i n (m :: r) = _
      unfold numGo
      rw [if_neg (by omega), if_neg (by omega), if_pos hlt, Nat.mod_eq_of_lt hlt]
    · rw [if_neg hlt]
      show numGo i n ((m % 128 + 128) :: (putNum (m / 128) ++ r)) = _
      unfold numGo
      rw [if_neg (by omega), if_neg (by omega), if_neg (by omega)]
      have hd : m / 128 * 128 ^ (i + 1) + m % 128 * 128 ^ i = m * 128 ^ i := by
        rw [Nat.pow_succ, Nat.mul_comm (128 ^ i) 128, ← Nat.mul_assoc, ← Nat.add_mul]
        congr 1
        omega
      rw [ih (m / 128) (by omega) (i + 1) _ r (by omega) (fun _ => by omega), show (m % 128 + 128) % 128 = m % 128 by omega]
      congr 1
      omega
theorem number_put (n : Nat) (r : List Nat) (h : n < 18446744073709551616) : number (putNum n ++ r) = (n, r, 0) := by
  have := numGo_put n 0 0 r (by simpa using h) (by omega)
  simpa [number] using this
theorem zag_zig {m : Int} (h : I64 m) : zag (zig m) = m := by
  unfold zag zig I64 at *
  split <;> split <;> omega
theorem signed_put (m : Int) (r : List Nat) (h : I64 m) : signedF (putNum (zig m) ++ r) = (m, r, 0) := by
  unfold signedF
  rw [number_put _ r (zig_lt h)]
  simp [zag_zig h]
theorem text_put (s : ByteArray) (r : List Nat) (h : s.size ≤ 400) : textF ((putNum s.size ++ strBytes s) ++ r) s.size = (strBytes s, r, 0) := by
  have hl := strBytes_len s
  unfold textF
  rw [List.append_assoc, number_put _ _ (by omega)]
  simp only [ne_eq, not_true_eq_false, if_false]
  rw [if_neg (by omega), if_neg (by rw [List.length_append]; omega), ← hl, List.take_left, List.drop_left]
theorem strOf_strBytes (s : ByteArray) : strOf (strBytes s) = s := by
  unfold strOf strBytes
  rw [List.map_map]
  have : ∀ x ∈ s.data.toList, (UInt8.ofNat ∘ UInt8.toNat) x = x := fun x _ => by simp
  rw [List.map_congr_left this]
  simp
theorem getNums_put : ∀ (xs r : List Nat), (∀ x ∈ xs, U64 x) → getNums xs.length (xs.flatMap putNum ++ r) = (xs, r, 0)
  | [], r, _ => rfl
  | x :: xs, r, h => by
    have ih := getNums_put xs r fun y hy => h y (by simp [hy])
    rw [List.length_cons, getNums, List.flatMap_cons, List.append_assoc, number_put _ _ (h x (by simp))]
    simp [ih]
theorem set_put (a b c d : Nat) (r : List Nat) (ha : U64 a) (hb : U64 b) (hc : U64 c) (hd : U64 d) : setF (putSet a b c d ++ r) = ([a, b, c, d], r, 0) := by
  have hle := setLen_le a b c d
  have hn : U64 (setLen a b c d) := by unfold U64; omega
  have hmem : ∀ x ∈ ([a, b, c, d] : List Nat).take (setLen a b c d), U64 x := fun x hx => by
    have := List.mem_of_mem_take hx
    simp at this
    rcases this with rfl | rfl | rfl | rfl <;> assumption
  have hlen : (([a, b, c, d] : List Nat).take (setLen a b c d)).length = setLen a b c d := by rw [List.length_take]; simp; omega
  have hg := getNums_put (([a, b, c, d] : List Nat).take (setLen a b c d)) r hmem
  rw [hlen] at hg
  unfold setF putSet
  rw [List.append_assoc, number_put _ _ hn]
  simp only [ne_eq, not_true_eq_false, if_false]
  rw [if_neg (by omega), hg]
  simp only [not_true_eq_false, if_false]
  have key : ¬ (0 < setLen a b c d ∧ (([a, b, c, d] : List Nat).take (setLen a b c d))[setLen a b c d - 1]? = some 0) ∧ ([a, b, c, d] : List Nat).take (setLen a b c d) ++ List.replicate (4 - setLen a b c d) 0 = [a, b, c, d] := by
    unfold setLen
    by_cases h4 : d = 0
    · by_cases h3 : c = 0
      · by_cases h2 : b = 0
        · by_cases h1 : a = 0
          · simp [h1, h2, h3, h4]
          · simp [h1, h2, h3, h4]
        · simp [h2, h3, h4]
      · simp [h3, h4]
    · simp [h4]
  rw [if_neg key.1, key.2]
end Go.Proofs.Ytibikehfeobikaa

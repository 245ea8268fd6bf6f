import Derived.Test.YtibikehfeobikaaJ
/-
  PLAIN LAWS: what is decoded is encoded as it was; what is encoded is decoded as it was.
-/
namespace Go.Proofs.Ytibikehfeobikaa
open Go.RowKit

theorem numGo_ok : ∀ (l : List Nat) (i n v : Nat) (r : List Nat), Bytes l → numGo i n l = (v, r, 0) → ∃ m, v = n + m * 128 ^ i ∧ putNum m ++ r = l ∧ (0 < i → 0 < m)
  | [], i, n, v, r, _, h => by
    simp only [numGo, Prod.mk.injEq] at h
    have h3 := h.2.2
    split at h3 <;> simp at h3
  | c :: t, i, n, v, r, hb, h => by
    have hc := hb c (by simp)
    have ht : Bytes t := fun x hx => hb x (by simp [hx])
    unfold numGo at h
    split at h
    · simp at h
    · split at h
      · simp at h
      · rename_i h1 h2
        split at h
        · rename_i h3
          simp only [Prod.mk.injEq, and_true] at h
          obtain ⟨rfl, rfl⟩ := h
          refine ⟨c, by rw [Nat.mod_eq_of_lt h3], by rw [putNum, if_pos h3]; rfl, fun hi => ?_⟩
          omega
        · rename_i h3
          obtain ⟨m, hv, hp, hm⟩ := numGo_ok t (i + 1) _ v r ht h
          have hm0 := hm (by omega)
          refine ⟨c % 128 + 128 * m, ?_, ?_, fun _ => by omega⟩
          · rw [hv, Nat.pow_succ, Nat.add_mul, Nat.add_assoc]
            congr 2
            rw [Nat.mul_comm 128 m, Nat.mul_assoc, Nat.mul_comm 128]
          · rw [putNum, if_neg (by omega), show (c % 128 + 128 * m) % 128 + 128 = c by omega, show (c % 128 + 128 * m) / 128 = m by omega]
            simp [hp]
theorem number_ok {l : List Nat} {n : Nat} {r : List Nat} (hb : Bytes l) (h : number l = (n, r, 0)) : putNum n ++ r = l := by
  obtain ⟨m, hv, hp, _⟩ := numGo_ok l 0 0 n r hb h
  simp at hv
  rw [hv]
  exact hp
theorem zig_zag {n : Nat} (h : n < 18446744073709551616) : zig (zag n) = n ∧ I64 (zag n) := by
  unfold zig zag I64
  by_cases hp : n % 2 = 0
  · rw [if_pos hp]
    exact ⟨by rw [if_pos (by omega)]; omega, by omega, by omega⟩
  · rw [if_neg hp]
    exact ⟨by rw [if_neg (by omega)]; omega, by omega, by omega⟩
theorem signed_ok {l : List Nat} {m : Int} {r : List Nat} (hb : Bytes l) (h : signedF l = (m, r, 0)) : putNum (zig m) ++ r = l ∧ I64 m := by
  have hn := number_lt l
  unfold signedF at h
  split at h
  · rename_i he
    simp only [Prod.mk.injEq, and_true] at h
    obtain ⟨rfl, rfl⟩ := h
    have := zig_zag hn
    rw [this.1]
    exact ⟨number_ok hb (by rw [← he]), this.2⟩
  · rename_i he
    simp only [Prod.mk.injEq] at h
    exact absurd h.2.2 he
theorem strBytes_strOf {l : List Nat} (h : Bytes l) : strBytes (strOf l) = l := by
  unfold strBytes strOf
  rw [List.map_map]
  have : ∀ x ∈ l, (UInt8.toNat ∘ UInt8.ofNat) x = x := fun x hx => by
    have := h x hx
    simp
    omega
  rw [List.map_congr_left this]
  simp
theorem strOf_size (l : List Nat) : (strOf l).size = l.length := by
  show (l.map UInt8.ofNat).toArray.size = l.length
  simp
theorem text_ok {l s r : List Nat} {most : Int} (hb : Bytes l) (h : textF l most = (s, r, 0)) : putNum s.length ++ s ++ r = l ∧ (s.length : Int) ≤ most ∧ Bytes s := by
  unfold textF at h
  have hbr : Bytes (number l).2.1 := (numGo_bytes l 0 0 hb).1
  split at h
  · rename_i he
    simp only [Prod.mk.injEq] at h
    exact absurd h.2.2 he
  · rename_i he
    split at h
    · simp at h
    · rename_i h1
      split at h
      · simp at h
      · rename_i h2
        simp only [Prod.mk.injEq, and_true] at h
        obtain ⟨rfl, rfl⟩ := h
        have he' : (number l).2.2 = 0 := by simpa using he
        have hl : ((number l).2.1.take (number l).1).length = (number l).1 := by rw [List.length_take]; omega
        rw [hl, List.append_assoc, List.take_append_drop]
        exact ⟨number_ok hb (by rw [← he']), by omega, hbr.take _⟩
theorem getNums_ok : ∀ (k : Nat) (l xs r : List Nat), Bytes l → getNums k l = (xs, r, 0) → xs.length = k ∧ (∀ x ∈ xs, U64 x) ∧ xs.flatMap putNum ++ r = l ∧ Bytes r
  | 0, l, xs, r, hb, h => by
    simp only [getNums, Prod.mk.injEq, and_true] at h
    obtain ⟨rfl, rfl⟩ := h
    exact ⟨rfl, by simp, rfl, hb⟩
  | k + 1, l, xs, r, hb, h => by
    unfold getNums at h
    split at h
    · rename_i he
      simp only [Prod.mk.injEq] at h
      exact absurd h.2.2 he
    · rename_i he
      simp only [Prod.mk.injEq] at h
      obtain ⟨rfl, rfl, h3⟩ := h
      have he' : (number l).2.2 = 0 := by simpa using he
      have hbr : Bytes (number l).2.1 := (numGo_bytes l 0 0 hb).1
      obtain ⟨h4, h5, h6, h7⟩ := getNums_ok k (number l).2.1 _ _ hbr (by rw [← h3])
      refine ⟨by simp [h4], ?_, ?_, h7⟩
      · intro x hx
        rcases List.mem_cons.1 hx with rfl | hx
        · exact number_lt l
        · exact h5 x hx
      · rw [List.flatMap_cons, List.append_assoc, h6]
        exact number_ok hb (by rw [← he'])
theorem set_ok {l ss r : List Nat} (hb : Bytes l) (h : setF l = (ss, r, 0)) : ∃ a b c d, ss = [a, b, c, d] ∧ U64 a ∧ U64 b ∧ U64 c ∧ U64 d ∧ putSet a b c d ++ r = l := by
  unfold setF at h
  have hbr : Bytes (number l).2.1 := (numGo_bytes l 0 0 hb).1
  split at h
  · rename_i he
    simp only [Prod.mk.injEq] at h
    exact absurd h.2.2 he
  · rename_i he
    split at h
    · simp at h
    · rename_i h1
      split at h
      · rename_i h2
        simp only [Prod.mk.injEq] at h
        exact absurd h.2.2 h2
      · rename_i h2
        split at h
        · simp at h
        · rename_i h3
          simp only [Prod.mk.injEq, and_true] at h
          obtain ⟨rfl, rfl⟩ := h
          have he' : (number l).2.2 = 0 := by simpa using he
          have h2' : (getNums (number l).1 (number l).2.1).2.2 = 0 := by simpa using h2
          obtain ⟨h4, h5, h6, _⟩ := getNums_ok _ _ _ _ hbr (show getNums (number l).1 (number l).2.1 = (_, _, 0) by rw [← h2'])
          have hnl := number_ok (n := (number l).1) (r := (number l).2.1) hb (by rw [← he'])
          generalize (getNums (number l).1 (number l).2.1).2.1 = rr at *
          generalize (getNums (number l).1 (number l).2.1).1 = xs at *
          generalize (number l).1 = k at *
          have z : U64 0 := by unfold U64; omega
          subst h4
          rw [← hnl, ← h6]
          match xs, h1, h3, h5 with
          | [], _, _, _ => exact ⟨0, 0, 0, 0, rfl, z, z, z, z, by simp [putSet, setLen]⟩
          | [a], _, h3, h5 =>
            have ha : a ≠ 0 := by simpa using h3
            exact ⟨a, 0, 0, 0, rfl, h5 a (by simp), z, z, z, by simp [putSet, setLen, ha]⟩
          | [a, b], _, h3, h5 =>
            have ha : b ≠ 0 := by simpa using h3
            exact ⟨a, b, 0, 0, rfl, h5 a (by simp), h5 b (by simp), z, z, by simp [putSet, setLen, ha]⟩
          | [a, b, c], _, h3, h5 =>
            have ha : c ≠ 0 := by simpa using h3
            exact ⟨a, b, c, 0, rfl, h5 a (by simp), h5 b (by simp), h5 c (by simp), z, by simp [putSet, setLen, ha]⟩
          | [a, b, c, d], _, h3, h5 =>
            have ha : d ≠ 0 := by simpa using h3
            exact ⟨a, b, c, d, rfl, h5 a (by simp), h5 b (by simp), h5 c (by simp), h5 d (by simp), by simp [putSet, setLen, ha]⟩
          | _ :: _ :: _ :: _ :: _ :: _, h1, _, _ => simp at h1
end Go.Proofs.Ytibikehfeobikaa

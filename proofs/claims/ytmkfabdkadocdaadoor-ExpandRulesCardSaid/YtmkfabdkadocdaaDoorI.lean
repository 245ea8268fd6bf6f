import Derived.Test.YtmkfabdkadocdaaDoorH
/-
  cmp.Compare, cmp.Or.
-/
namespace Go.Proofs.YtmkfabdkadocdaaDoor
open Go Go.RowKit

/-- What cmp.Compare says. -/
def cmpI (a b : Int) : Int := if a < b then -1 else if b < a then 1 else 0
theorem cmpI_zero {a b : Int} : cmpI a b = 0 ↔ a = b := by
  unfold cmpI
  split
  · constructor <;> intro h <;> omega
  · split
    · constructor <;> intro h <;> omega
    · constructor <;> intro h <;> omega
theorem cmpI_neg {a b : Int} : cmpI a b < 0 ↔ a < b := by
  unfold cmpI
  split
  · constructor <;> intro h <;> omega
  · split
    · constructor <;> intro h <;> omega
    · constructor <;> intro h <;> omega
/-- The first that is not 0. -/
def orI : List Int → Int
  | [] => 0
  | x :: l => if x = 0 then orI l else x
theorem orI_skip : ∀ {l : List Int} {k : Nat}, (∀ j, j < k → l[j]? = some 0) → orI l = orI (l.drop k)
  | _, 0, _ => rfl
  | [], k + 1, h => by simp
  | x :: l, k + 1, h => by
    have h0 := h 0 (by omega)
    simp at h0
    subst h0
    rw [List.drop_succ_cons, ← orI_skip (l := l) (k := k) fun j hj => by have := h (j + 1) (by omega); simpa using this]
    simp [orI]
theorem compare_0 (w : World) (a b : Int) (h : a < b) : Calls Tryd.prog 56 #[.int .i64 a, .int .i64 b] w fun e w' => e = .returned (.int .i64 (-1)) ∧ w = w' := by
  go_enter Tryd.func56, Tryd.ntmps56
  go_wp2
  go_ret
  exact ⟨rfl, rfl⟩
theorem compare_1 (w : World) (a b : Int) (h : b < a) : Calls Tryd.prog 56 #[.int .i64 a, .int .i64 b] w fun e w' => e = .returned (.int .i64 1) ∧ w = w' := by
  have h1 : ¬ a < b := by omega
  go_enter Tryd.func56, Tryd.ntmps56
  go_wp2
  go_ret
  exact ⟨rfl, rfl⟩
theorem compare_2 (w : World) (a b : Int) (h : a = b) : Calls Tryd.prog 56 #[.int .i64 a, .int .i64 b] w fun e w' => e = .returned (.int .i64 0) ∧ w = w' := by
  subst h
  go_enter Tryd.func56, Tryd.ntmps56
  go_wp2
  go_ret
  exact ⟨rfl, rfl⟩
theorem compare_any (w : World) (a b : Int) : Calls Tryd.prog 56 #[.int .i64 a, .int .i64 b] w fun e w' => e = .returned (.int .i64 (cmpI a b)) ∧ w = w' := by
  unfold cmpI
  by_cases h : a < b
  · rw [if_pos h]; exact compare_0 w a b h
  · rw [if_neg h]
    by_cases h1 : b < a
    · rw [if_pos h1]; exact compare_1 w a b h1
    · rw [if_neg h1]; exact compare_2 w a b (by omega)

theorem compareU_0 (w : World) (a b : Int) (h : a < b) : Calls Tryd.prog 57 #[.int .u32 a, .int .u32 b] w fun e w' => e = .returned (.int .i64 (-1)) ∧ w = w' := by
  go_enter Tryd.func57, Tryd.ntmps57
  go_wp2
  go_ret
  exact ⟨rfl, rfl⟩
theorem compareU_1 (w : World) (a b : Int) (h : b < a) : Calls Tryd.prog 57 #[.int .u32 a, .int .u32 b] w fun e w' => e = .returned (.int .i64 1) ∧ w = w' := by
  have h1 : ¬ a < b := by omega
  go_enter Tryd.func57, Tryd.ntmps57
  go_wp2
  go_ret
  exact ⟨rfl, rfl⟩
theorem compareU_2 (w : World) (a b : Int) (h : a = b) : Calls Tryd.prog 57 #[.int .u32 a, .int .u32 b] w fun e w' => e = .returned (.int .i64 0) ∧ w = w' := by
  subst h
  go_enter Tryd.func57, Tryd.ntmps57
  go_wp2
  go_ret
  exact ⟨rfl, rfl⟩
theorem compareU_any (w : World) (a b : Int) : Calls Tryd.prog 57 #[.int .u32 a, .int .u32 b] w fun e w' => e = .returned (.int .i64 (cmpI a b)) ∧ w = w' := by
  unfold cmpI
  by_cases h : a < b
  · rw [if_pos h]; exact compareU_0 w a b h
  · rw [if_neg h]
    by_cases h1 : b < a
    · rw [if_pos h1]; exact compareU_1 w a b h1
    · rw [if_neg h1]; exact compareU_2 w a b (by omega)

def anInt (x : Int) : Value := .int .i64 x
set_option maxHeartbeats 2000000 in
theorem or_any (w : World) (v : Value) (l : List Int) (h : SliceAt w v 1 l.length (l.map anInt)) : Calls Tryd.prog 55 #[v] w fun e w' => e = .returned (.int .i64 (orI l)) ∧ w = w' := by
  obtain ⟨a, c, rfl, hac, hmx, HA⟩ := h.form (by decide)
  have H1 := Lib.hid HA
  clear HA h
  obtain ⟨N, hN⟩ : ∃ N, N = l.length := ⟨_, rfl⟩
  rw [← hN] at H1 hac hmx ⊢
  have HN := Lib.hid hN
  clear hN
  go_enter Tryd.func55, Tryd.ntmps55
  go_wp2
  go_loop [8] (fun i => ∃ n : Nat, n ≤ N ∧ i = .int .i64 n ∧ Hid (∀ j, j < n → l[j]? = some 0)) (fun i => N - (intOf i).toNat)
  case atStart => exact ⟨0, Nat.zero_le _, rfl, fun j hj => by omega⟩
  case round =>
    obtain ⟨n, hn, rfl, hpre⟩ := hrel
    by_cases hlt : n < N
    · obtain ⟨b, off, rfl, hc⟩ := H1.out n hlt
      obtain ⟨y, hy⟩ : ∃ y, l[n]? = some y := ⟨_, List.getElem?_eq_getElem (by have := HN.out; omega)⟩
      have c0 : w.cell? ⟨b, off + n * 1, none⟩ = some (.int .i64 y) := hc 0 _ (by simp [hy, anInt])
      rw [Nat.mul_one] at c0
      have HY := Lib.hid hy
      clear hy hc
      by_cases h0 : y = 0
      · subst h0
        go_wp2
        go_round
        case rel => exact ⟨n + 1, by omega, by go_num, fun j hj => by
          by_cases hjn : j = n
          · subst hjn; exact HY.out
          · exact hpre.out j (by omega)⟩
        case measure => simp [intOf]; omega
      · go_wp2
        go_ret
        refine ⟨ret_int ?_, rfl⟩
        rw [orI_skip hpre.out]
        have hl : n < l.length := by have := HN.out; omega
        rw [List.drop_eq_getElem_cons hl]
        have e : l[n] = y := Option.some.inj ((List.getElem?_eq_getElem hl).symm.trans HY.out)
        rw [e]
        simp [orI, h0]
    · obtain rfl : n = N := by omega
      go_wp2
      go_ret
      refine ⟨ret_int ?_, rfl⟩
      rw [orI_skip hpre.out, List.drop_of_length_le (by rw [HN.out]; exact Nat.le_refl _)]
      rfl
end Go.Proofs.YtmkfabdkadocdaaDoor

import Derived.WalkKit
import Derived.WalkSpells
import Derived.WalkLawsBesides
import Derived.Handy
import Derived.BigQuiet
import Derived.Outline
import Derived.Deep.RegionHeld3
import Derived.Deep.DeepCutAuto
import Derived.Deep.DeepMust
import Derived.Deep.DeepFit
import Derived.Deep.LoopGhost
import Derived.Lib.Hide
import Derived.IntWalk
import Derived.Deep.CutBlock
import Derived.Deep.RegionWith
import Derived.Laws.Bits64
import Derived.Test.YtibikehfeobikaaC
/-
  THE CONTRACT of Number (printed by a program).
-/
namespace Go.Proofs.Ytibikehfeobikaa
open Go.RowKit

/-- Decoding from the i-th byte on: the number, the bytes behind it, the error. -/
def numGo (i n : Nat) : List Nat → Nat × List Nat × Int
  | [] => (0, [], if i < 10 then 5 else 6)
  | c :: r => if 10 ≤ i then (0, [], 6) else if (i = 9 ∧ 1 < c) ∨ (0 < i ∧ c = 0) then (0, [], 6) else if c < 128 then (n + c % 128 * 128 ^ i, r, 0) else numGo (i + 1) (n + c % 128 * 128 ^ i) r
def number (l : List Nat) : Nat × List Nat × Int := numGo 0 0 l

theorem numGo_ten (n : Nat) (l : List Nat) : numGo 10 n l = (0, [], 6) := by cases l <;> simp [numGo]
theorem drop_at {l : List Nat} {k y : Nat} (h : l[k]? = some y) : l.drop k = y :: l.drop (k + 1) := by
  obtain ⟨hk, he⟩ := List.getElem?_eq_some_iff.1 h
  rw [List.drop_eq_getElem_cons hk, he]
theorem andNot128 : ∀ y : Nat, y < 256 → bits .andNot .u8 (y : Int) 128 = ((y % 128 : Nat) : Int) := by decide +kernel
theorem bits_or_u64_nat (a b : Nat) (ha : a < 18446744073709551616) (hb : b < 18446744073709551616) : bits .or .u64 (a : Int) (b : Int) = ((a ||| b : Nat) : Int) := by
  have hx : a ||| b < 2 ^ 64 := Nat.or_lt_two_pow (by omega) (by omega)
  have h1 : (BitVec.ofInt 64 (a : Int)).toNat = a := by
    rw [BitVec.ofInt_natCast, BitVec.toNat_ofNat]; exact Nat.mod_eq_of_lt (by omega)
  have h2 : (BitVec.ofInt 64 (b : Int)).toNat = b := by
    rw [BitVec.ofInt_natCast, BitVec.toNat_ofNat]; exact Nat.mod_eq_of_lt (by omega)
  show IntKind.u64.wrap ((BitVec.ofInt 64 (a : Int) ||| BitVec.ofInt 64 (b : Int)).toNat : Int) = _
  rw [BitVec.toNat_or, h1, h2, IntKind.wrap_u64]
  omega
theorem pow_lt {k x : Nat} (hk : k ≤ 9) (hx : x < 128) (h9 : k = 9 → x ≤ 1) : x * 128 ^ k < 18446744073709551616 := by
  obtain rfl | rfl | rfl | rfl | rfl | rfl | rfl | rfl | rfl | rfl : k = 0 ∨ k = 1 ∨ k = 2 ∨ k = 3 ∨ k = 4 ∨ k = 5 ∨ k = 6 ∨ k = 7 ∨ k = 8 ∨ k = 9 := by omega
  all_goals simp at h9 ⊢; omega
theorem pow_lt' {k m : Nat} (hk : k ≤ 9) (hm : m < 128 ^ k) : m < 18446744073709551616 := by
  have := pow_lt (k := k) (x := 1) hk (by omega) (by omega)
  omega
/-- A group more. -/
theorem num_or (k m y P : Nat) (hP : P = 128 ^ k) (hk : k ≤ 9) (hm : m < 128 ^ k) (hy : y < 256) (h9 : k = 9 → y % 128 ≤ 1) :
    bits .or .u64 (m : Int) (IntKind.u64.wrap (IntKind.u64.wrap (bits .andNot .u8 (y : Int) 128) * (P : Int))) = ((m + y % 128 * 128 ^ k : Nat) : Int) := by
  have hb := pow_lt hk (Nat.mod_lt y (by omega)) h9
  have hm' := pow_lt' hk hm
  rw [andNot128 y hy, IntKind.wrap_u64, IntKind.wrap_u64]
  have e1 : ((y % 128 : Nat) : Int) % 18446744073709551616 = ((y % 128 : Nat) : Int) := by omega
  rw [e1, ← Int.natCast_mul, hP]
  have e2 : ((y % 128 * 128 ^ k : Nat) : Int) % 18446744073709551616 = ((y % 128 * 128 ^ k : Nat) : Int) := by
    generalize y % 128 * 128 ^ k = z at hb
    omega
  rw [e2, bits_or_u64_nat _ _ hm' hb]
  have e3 : (128 : Nat) ^ k = 2 ^ (7 * k) := by rw [Nat.pow_mul]
  rw [Nat.or_comm, Nat.add_comm m, Nat.mul_comm (y % 128), e3, ← Nat.two_pow_add_eq_or_of_lt (by rw [← e3]; exact hm)]
theorem num_or0 (m y : Nat) (hm : m < 128 ^ 0) (hy : y < 256) : bits .or .u64 (m : Int) (IntKind.u64.wrap (IntKind.u64.wrap (bits .andNot .u8 (y : Int) 128))) = ((m + y % 128 * 128 ^ 0 : Nat) : Int) := by
  have h := num_or 0 m y 1 rfl (by omega) hm hy (by omega)
  rwa [show ((1 : Nat) : Int) = 1 from rfl, Int.mul_one] at h
theorem num_lt {k m y : Nat} (hm : m < 128 ^ k) : m + y % 128 * 128 ^ k < 128 ^ (k + 1) := by
  rw [Nat.pow_succ]
  have h1 : y % 128 * 128 ^ k ≤ 127 * 128 ^ k := Nat.mul_le_mul_right _ (by omega)
  omega

set_option maxRecDepth 100000 in
set_option maxHeartbeats 8000000 in
theorem number_sub (v : Value) (l : List Nat) (w : World) (h : BytesAt w v l) :
    Calls Try.prog 19 #[v] w fun e w' => ∃ r, e = .returned (.tuple #[.int .u64 (number l).1, r, .int .i64 (number l).2.2]) ∧ Sub v l r (number l).2.1 ∧ w = w' := by
  have HX := Lib.hid h
  obtain ⟨a, c, rfl, hc, hm, ha⟩ := bytesOpen h
  generalize hN : l.length = N at *
  have HA := Lib.hid ha
  have HN := Lib.hid hN
  clear ha h hN
  go_enter Try.func19, Try.ntmps19
  go_wp2_with fail
  go_loop [5, 8] (fun n i => ∃ k m : Nat, k ≤ 10 ∧ k ≤ N ∧ i = .int .i64 k ∧ n = .int .u64 m ∧ Hid (m < 128 ^ k) ∧ Hid (number l = numGo k m (l.drop k))) (fun _ i => 10 - (intOf i).toNat)
  case atStart => exact ⟨0, 0, by omega, Nat.zero_le _, rfl, rfl, Nat.one_pos, rfl⟩
  case round =>
    obtain ⟨k, m, hk, hkl, rfl, rfl, hmb, heq⟩ := hrel
    by_cases hk10 : k = 10
    · subst hk10
      have HE := Lib.hid (heq.out.trans (numGo_ten m _))
      clear heq hmb
      go_wp2_with fail
      go_ret3
      rw [HE.out]
      exact ⟨_, rfl, fun W _ => BytesAt.nil W, rfl⟩
    · by_cases hlt : k < N
      · obtain ⟨y, b, off, rfl, hy, hyb, hcell⟩ := HA.out k hlt
        have HD := Lib.hid (drop_at hy)
        have HQ := Lib.hid (heq.out.trans (by rw [HD.out]))
        clear hy heq
        obtain rfl | rfl | rfl | rfl | rfl | rfl | rfl | rfl | rfl | rfl : k = 0 ∨ k = 1 ∨ k = 2 ∨ k = 3 ∨ k = 4 ∨ k = 5 ∨ k = 6 ∨ k = 7 ∨ k = 8 ∨ k = 9 := by omega
        · have HRest := Lib.hid (rest_sub _ l 1 w HX.out (by rw [HN.out]; omega))
          rw [Nat.add_zero] at hcell
          have h0l : ¬ (N : Int) ≤ 0 := by omega
          obtain ⟨m', hm'⟩ : ∃ m' : Nat, m' = m + y % 128 * 128 ^ 0 := ⟨_, rfl⟩
          have hval : bits .or .u64 (m : Int) (IntKind.u64.wrap (IntKind.u64.wrap (bits .andNot .u8 (y : Int) 128))) = (m' : Int) := by rw [hm']; exact num_or0 m y hmb.out hyb
          have HM := Lib.hid hm'
          have HB := Lib.hid (show m' < 128 ^ 1 by rw [hm']; exact num_lt hmb.out)
          clear hm'
          by_cases h3 : y < 128
          · have HE := Lib.hid (show number l = (m', l.drop 1, 0) by rw [HQ.out, HM.out]; simp [numGo, h3])
            clear HQ hmb HM
            go_wp2_with (go_at_call 26; go_must (refine HRest.out.mono ?_; rintro e w' ⟨r, rfl, hr, rfl⟩; have HR := Lib.hid hr; clear hr))
            go_ret3
            rw [HE.out]
            exact ⟨r, rfl, HR.out, rfl⟩
          · have HE := Lib.hid (show number l = numGo 1 m' (l.drop 1) by rw [HQ.out, HM.out]; simp [numGo, h3])
            clear HQ hmb HM
            go_wp2_with fail
            go_round
            case rel => exact ⟨1, m', by omega, by omega, rfl, rfl, HB.out, HE.out⟩
            case measure => simp [intOf]
        · have HRest := Lib.hid (rest_sub _ l 2 w HX.out (by rw [HN.out]; omega))
          by_cases h1 : y = 0
          · have HE := Lib.hid (show number l = (0, [], 6) by rw [HQ.out]; simp [numGo, h1])
            subst h1
            clear HQ hmb HRest
            go_wp2_with fail
            go_ret3
            rw [HE.out]
            exact ⟨_, rfl, fun W _ => BytesAt.nil W, rfl⟩
          have hz : ((y : Int) == 0) = false := by simp; omega
          obtain ⟨m', hm'⟩ : ∃ m' : Nat, m' = m + y % 128 * 128 ^ 1 := ⟨_, rfl⟩
          have hval : bits .or .u64 (m : Int) (IntKind.u64.wrap (IntKind.u64.wrap (bits .andNot .u8 (y : Int) 128) * 128)) = (m' : Int) := by rw [hm']; exact num_or 1 m y 128 (by decide) (by omega) hmb.out hyb (by omega)
          have HM := Lib.hid hm'
          have HB := Lib.hid (show m' < 128 ^ 2 by rw [hm']; exact num_lt hmb.out)
          clear hm'
          by_cases h3 : y < 128
          · have HE := Lib.hid (show number l = (m', l.drop 2, 0) by rw [HQ.out, HM.out]; simp [numGo, h1, h3])
            clear HQ hmb HM
            go_wp2_with (go_at_call 26; go_must (refine HRest.out.mono ?_; rintro e w' ⟨r, rfl, hr, rfl⟩; have HR := Lib.hid hr; clear hr))
            go_ret3
            rw [HE.out]
            exact ⟨r, rfl, HR.out, rfl⟩
          · have HE := Lib.hid (show number l = numGo 2 m' (l.drop 2) by rw [HQ.out, HM.out]; simp [numGo, h1, h3])
            clear HQ hmb HM
            go_wp2_with fail
            go_round
            case rel => exact ⟨2, m', by omega, by omega, rfl, rfl, HB.out, HE.out⟩
            case measure => simp [intOf]
        · have HRest := Lib.hid (rest_sub _ l 3 w HX.out (by rw [HN.out]; omega))
          by_cases h1 : y = 0
          · have HE := Lib.hid (show number l = (0, [], 6) by rw [HQ.out]; simp [numGo, h1])
            subst h1
            clear HQ hmb HRest
            go_wp2_with fail
            go_ret3
            rw [HE.out]
            exact ⟨_, rfl, fun W _ => BytesAt.nil W, rfl⟩
          have hz : ((y : Int) == 0) = false := by simp; omega
          obtain ⟨m', hm'⟩ : ∃ m' : Nat, m' = m + y % 128 * 128 ^ 2 := ⟨_, rfl⟩
          have hval : bits .or .u64 (m : Int) (IntKind.u64.wrap (IntKind.u64.wrap (bits .andNot .u8 (y : Int) 128) * 16384)) = (m' : Int) := by rw [hm']; exact num_or 2 m y 16384 (by decide) (by omega) hmb.out hyb (by omega)
          have HM := Lib.hid hm'
          have HB := Lib.hid (show m' < 128 ^ 3 by rw [hm']; exact num_lt hmb.out)
          clear hm'
          by_cases h3 : y < 128
          · have HE := Lib.hid (show number l = (m', l.drop 3, 0) by rw [HQ.out, HM.out]; simp [numGo, h1, h3])
            clear HQ hmb HM
            go_wp2_with (go_at_call 26; go_must (refine HRest.out.mono ?_; rintro e w' ⟨r, rfl, hr, rfl⟩; have HR := Lib.hid hr; clear hr))
            go_ret3
            rw [HE.out]
            exact ⟨r, rfl, HR.out, rfl⟩
          · have HE := Lib.hid (show number l = numGo 3 m' (l.drop 3) by rw [HQ.out, HM.out]; simp [numGo, h1, h3])
            clear HQ hmb HM
            go_wp2_with fail
            go_round
            case rel => exact ⟨3, m', by omega, by omega, rfl, rfl, HB.out, HE.out⟩
            case measure => simp [intOf]
        · have HRest := Lib.hid (rest_sub _ l 4 w HX.out (by rw [HN.out]; omega))
          by_cases h1 : y = 0
          · have HE := Lib.hid (show number l = (0, [], 6) by rw [HQ.out]; simp [numGo, h1])
            subst h1
            clear HQ hmb HRest
            go_wp2_with fail
            go_ret3
            rw [HE.out]
            exact ⟨_, rfl, fun W _ => BytesAt.nil W, rfl⟩
          have hz : ((y : Int) == 0) = false := by simp; omega
          obtain ⟨m', hm'⟩ : ∃ m' : Nat, m' = m + y % 128 * 128 ^ 3 := ⟨_, rfl⟩
          have hval : bits .or .u64 (m : Int) (IntKind.u64.wrap (IntKind.u64.wrap (bits .andNot .u8 (y : Int) 128) * 2097152)) = (m' : Int) := by rw [hm']; exact num_or 3 m y 2097152 (by decide) (by omega) hmb.out hyb (by omega)
          have HM := Lib.hid hm'
          have HB := Lib.hid (show m' < 128 ^ 4 by rw [hm']; exact num_lt hmb.out)
          clear hm'
          by_cases h3 : y < 128
          · have HE := Lib.hid (show number l = (m', l.drop 4, 0) by rw [HQ.out, HM.out]; simp [numGo, h1, h3])
            clear HQ hmb HM
            go_wp2_with (go_at_call 26; go_must (refine HRest.out.mono ?_; rintro e w' ⟨r, rfl, hr, rfl⟩; have HR := Lib.hid hr; clear hr))
            go_ret3
            rw [HE.out]
            exact ⟨r, rfl, HR.out, rfl⟩
          · have HE := Lib.hid (show number l = numGo 4 m' (l.drop 4) by rw [HQ.out, HM.out]; simp [numGo, h1, h3])
            clear HQ hmb HM
            go_wp2_with fail
            go_round
            case rel => exact ⟨4, m', by omega, by omega, rfl, rfl, HB.out, HE.out⟩
            case measure => simp [intOf]
        · have HRest := Lib.hid (rest_sub _ l 5 w HX.out (by rw [HN.out]; omega))
          by_cases h1 : y = 0
          · have HE := Lib.hid (show number l = (0, [], 6) by rw [HQ.out]; simp [numGo, h1])
            subst h1
            clear HQ hmb HRest
            go_wp2_with fail
            go_ret3
            rw [HE.out]
            exact ⟨_, rfl, fun W _ => BytesAt.nil W, rfl⟩
          have hz : ((y : Int) == 0) = false := by simp; omega
          obtain ⟨m', hm'⟩ : ∃ m' : Nat, m' = m + y % 128 * 128 ^ 4 := ⟨_, rfl⟩
          have hval : bits .or .u64 (m : Int) (IntKind.u64.wrap (IntKind.u64.wrap (bits .andNot .u8 (y : Int) 128) * 268435456)) = (m' : Int) := by rw [hm']; exact num_or 4 m y 268435456 (by decide) (by omega) hmb.out hyb (by omega)
          have HM := Lib.hid hm'
          have HB := Lib.hid (show m' < 128 ^ 5 by rw [hm']; exact num_lt hmb.out)
          clear hm'
          by_cases h3 : y < 128
          · have HE := Lib.hid (show number l = (m', l.drop 5, 0) by rw [HQ.out, HM.out]; simp [numGo, h1, h3])
            clear HQ hmb HM
            go_wp2_with (go_at_call 26; go_must (refine HRest.out.mono ?_; rintro e w' ⟨r, rfl, hr, rfl⟩; have HR := Lib.hid hr; clear hr))
            go_ret3
            rw [HE.out]
            exact ⟨r, rfl, HR.out, rfl⟩
          · have HE := Lib.hid (show number l = numGo 5 m' (l.drop 5) by rw [HQ.out, HM.out]; simp [numGo, h1, h3])
            clear HQ hmb HM
            go_wp2_with fail
            go_round
            case rel => exact ⟨5, m', by omega, by omega, rfl, rfl, HB.out, HE.out⟩
            case measure => simp [intOf]
        · have HRest := Lib.hid (rest_sub _ l 6 w HX.out (by rw [HN.out]; omega))
          by_cases h1 : y = 0
          · have HE := Lib.hid (show number l = (0, [], 6) by rw [HQ.out]; simp [numGo, h1])
            subst h1
            clear HQ hmb HRest
            go_wp2_with fail
            go_ret3
            rw [HE.out]
            exact ⟨_, rfl, fun W _ => BytesAt.nil W, rfl⟩
          have hz : ((y : Int) == 0) = false := by simp; omega
          obtain ⟨m', hm'⟩ : ∃ m' : Nat, m' = m + y % 128 * 128 ^ 5 := ⟨_, rfl⟩
          have hval : bits .or .u64 (m : Int) (IntKind.u64.wrap (IntKind.u64.wrap (bits .andNot .u8 (y : Int) 128) * 34359738368)) = (m' : Int) := by rw [hm']; exact num_or 5 m y 34359738368 (by decide) (by omega) hmb.out hyb (by omega)
          have HM := Lib.hid hm'
          have HB := Lib.hid (show m' < 128 ^ 6 by rw [hm']; exact num_lt hmb.out)
          clear hm'
          by_cases h3 : y < 128
          · have HE := Lib.hid (show number l = (m', l.drop 6, 0) by rw [HQ.out, HM.out]; simp [numGo, h1, h3])
            clear HQ hmb HM
            go_wp2_with (go_at_call 26; go_must (refine HRest.out.mono ?_; rintro e w' ⟨r, rfl, hr, rfl⟩; have HR := Lib.hid hr; clear hr))
            go_ret3
            rw [HE.out]
            exact ⟨r, rfl, HR.out, rfl⟩
          · have HE := Lib.hid (show number l = numGo 6 m' (l.drop 6) by rw [HQ.out, HM.out]; simp [numGo, h1, h3])
            clear HQ hmb HM
            go_wp2_with fail
            go_round
            case rel => exact ⟨6, m', by omega, by omega, rfl, rfl, HB.out, HE.out⟩
            case measure => simp [intOf]
        · have HRest := Lib.hid (rest_sub _ l 7 w HX.out (by rw [HN.out]; omega))
          by_cases h1 : y = 0
          · have HE := Lib.hid (show number l = (0, [], 6) by rw [HQ.out]; simp [numGo, h1])
            subst h1
            clear HQ hmb HRest
            go_wp2_with fail
            go_ret3
            rw [HE.out]
            exact ⟨_, rfl, fun W _ => BytesAt.nil W, rfl⟩
          have hz : ((y : Int) == 0) = false := by simp; omega
          obtain ⟨m', hm'⟩ : ∃ m' : Nat, m' = m + y % 128 * 128 ^ 6 := ⟨_, rfl⟩
          have hval : bits .or .u64 (m : Int) (IntKind.u64.wrap (IntKind.u64.wrap (bits .andNot .u8 (y : Int) 128) * 4398046511104)) = (m' : Int) := by rw [hm']; exact num_or 6 m y 4398046511104 (by decide) (by omega) hmb.out hyb (by omega)
          have HM := Lib.hid hm'
          have HB := Lib.hid (show m' < 128 ^ 7 by rw [hm']; exact num_lt hmb.out)
          clear hm'
          by_cases h3 : y < 128
          · have HE := Lib.hid (show number l = (m', l.drop 7, 0) by rw [HQ.out, HM.out]; simp [numGo, h1, h3])
            clear HQ hmb HM
            go_wp2_with (go_at_call 26; go_must (refine HRest.out.mono ?_; rintro e w' ⟨r, rfl, hr, rfl⟩; have HR := Lib.hid hr; clear hr))
            go_ret3
            rw [HE.out]
            exact ⟨r, rfl, HR.out, rfl⟩
          · have HE := Lib.hid (show number l = numGo 7 m' (l.drop 7) by rw [HQ.out, HM.out]; simp [numGo, h1, h3])
            clear HQ hmb HM
            go_wp2_with fail
            go_round
            case rel => exact ⟨7, m', by omega, by omega, rfl, rfl, HB.out, HE.out⟩
            case measure => simp [intOf]
        · have HRest := Lib.hid (rest_sub _ l 8 w HX.out (by rw [HN.out]; omega))
          by_cases h1 : y = 0
          · have HE := Lib.hid (show number l = (0, [], 6) by rw [HQ.out]; simp [numGo, h1])
            subst h1
            clear HQ hmb HRest
            go_wp2_with fail
            go_ret3
            rw [HE.out]
            exact ⟨_, rfl, fun W _ => BytesAt.nil W, rfl⟩
          have hz : ((y : Int) == 0) = false := by simp; omega
          obtain ⟨m', hm'⟩ : ∃ m' : Nat, m' = m + y % 128 * 128 ^ 7 := ⟨_, rfl⟩
          have hval : bits .or .u64 (m : Int) (IntKind.u64.wrap (IntKind.u64.wrap (bits .andNot .u8 (y : Int) 128) * 562949953421312)) = (m' : Int) := by rw [hm']; exact num_or 7 m y 562949953421312 (by decide) (by omega) hmb.out hyb (by omega)
          have HM := Lib.hid hm'
          have HB := Lib.hid (show m' < 128 ^ 8 by rw [hm']; exact num_lt hmb.out)
          clear hm'
          by_cases h3 : y < 128
          · have HE := Lib.hid (show number l = (m', l.drop 8, 0) by rw [HQ.out, HM.out]; simp [numGo, h1, h3])
            clear HQ hmb HM
            go_wp2_with (go_at_call 26; go_must (refine HRest.out.mono ?_; rintro e w' ⟨r, rfl, hr, rfl⟩; have HR := Lib.hid hr; clear hr))
            go_ret3
            rw [HE.out]
            exact ⟨r, rfl, HR.out, rfl⟩
          · have HE := Lib.hid (show number l = numGo 8 m' (l.drop 8) by rw [HQ.out, HM.out]; simp [numGo, h1, h3])
            clear HQ hmb HM
            go_wp2_with fail
            go_round
            case rel => exact ⟨8, m', by omega, by omega, rfl, rfl, HB.out, HE.out⟩
            case measure => simp [intOf]
        · have HRest := Lib.hid (rest_sub _ l 9 w HX.out (by rw [HN.out]; omega))
          by_cases h1 : y = 0
          · have HE := Lib.hid (show number l = (0, [], 6) by rw [HQ.out]; simp [numGo, h1])
            subst h1
            clear HQ hmb HRest
            go_wp2_with fail
            go_ret3
            rw [HE.out]
            exact ⟨_, rfl, fun W _ => BytesAt.nil W, rfl⟩
          have hz : ((y : Int) == 0) = false := by simp; omega
          obtain ⟨m', hm'⟩ : ∃ m' : Nat, m' = m + y % 128 * 128 ^ 8 := ⟨_, rfl⟩
          have hval : bits .or .u64 (m : Int) (IntKind.u64.wrap (IntKind.u64.wrap (bits .andNot .u8 (y : Int) 128) * 72057594037927936)) = (m' : Int) := by rw [hm']; exact num_or 8 m y 72057594037927936 (by decide) (by omega) hmb.out hyb (by omega)
          have HM := Lib.hid hm'
          have HB := Lib.hid (show m' < 128 ^ 9 by rw [hm']; exact num_lt hmb.out)
          clear hm'
          by_cases h3 : y < 128
          · have HE := Lib.hid (show number l = (m', l.drop 9, 0) by rw [HQ.out, HM.out]; simp [numGo, h1, h3])
            clear HQ hmb HM
            go_wp2_with (go_at_call 26; go_must (refine HRest.out.mono ?_; rintro e w' ⟨r, rfl, hr, rfl⟩; have HR := Lib.hid hr; clear hr))
            go_ret3
            rw [HE.out]
            exact ⟨r, rfl, HR.out, rfl⟩
          · have HE := Lib.hid (show number l = numGo 9 m' (l.drop 9) by rw [HQ.out, HM.out]; simp [numGo, h1, h3])
            clear HQ hmb HM
            go_wp2_with fail
            go_round
            case rel => exact ⟨9, m', by omega, by omega, rfl, rfl, HB.out, HE.out⟩
            case measure => simp [intOf]
        · have HRest := Lib.hid (rest_sub _ l 10 w HX.out (by rw [HN.out]; omega))
          by_cases h1 : y = 0
          · have HE := Lib.hid (show number l = (0, [], 6) by rw [HQ.out]; simp [numGo, h1])
            subst h1
            clear HQ hmb HRest
            go_wp2_with fail
            go_ret3
            rw [HE.out]
            exact ⟨_, rfl, fun W _ => BytesAt.nil W, rfl⟩
          have hz : ((y : Int) == 0) = false := by simp; omega
          by_cases h2 : 1 < y
          · have HE := Lib.hid (show number l = (0, [], 6) by rw [HQ.out]; simp [numGo, h2])
            clear HQ hmb HRest
            go_wp2_with fail
            go_ret3
            rw [HE.out]
            exact ⟨_, rfl, fun W _ => BytesAt.nil W, rfl⟩
          obtain rfl : y = 1 := by omega
          have HV := Lib.hid (num_or 9 m 1 9223372036854775808 (by decide) (by omega) hmb.out (by omega) (by omega))
          have HE := Lib.hid (show number l = (m + 1 % 128 * 128 ^ 9, l.drop 10, 0) by rw [HQ.out]; simp [numGo])
          clear HQ hmb h1 h2 hz
          go_wp2_with (go_at_call 26; go_must (refine HRest.out.mono ?_; rintro e w' ⟨r, rfl, hr, rfl⟩; have HR := Lib.hid hr; clear hr))
          go_ret3
          rw [HE.out]
          refine ⟨r, ?_, HR.out, rfl⟩
          rw [← HV.out]
          rfl
      · have hd : l.drop k = [] := List.drop_of_length_le (by rw [HN.out]; omega)
        have HE := Lib.hid (show number l = (0, [], 5) by rw [heq.out, hd]; simp [numGo]; omega)
        clear heq hmb hd
        go_wp2_with fail
        go_ret3
        rw [HE.out]
        exact ⟨_, rfl, fun W _ => BytesAt.nil W, rfl⟩

theorem number_any (v : Value) (l : List Nat) (w : World) (h : BytesAt w v l) :
    Calls Try.prog 19 #[v] w fun e w' => ∃ r, e = .returned (.tuple #[.int .u64 (number l).1, r, .int .i64 (number l).2.2]) ∧ BytesAt w r (number l).2.1 ∧ w = w' :=
  (number_sub v l w h).mono fun _ _ ⟨r, h1, h2, h3⟩ => ⟨r, h1, h2 w h, h3⟩
end Go.Proofs.Ytibikehfeobikaa

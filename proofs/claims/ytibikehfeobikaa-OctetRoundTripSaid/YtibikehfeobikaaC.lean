import Derived.WalkKit
import Derived.WalkSpells
import Derived.WalkLawsBesides
import Derived.Handy
import Derived.BigQuiet
import Derived.Outline
import Derived.Deep.RegionHeld3
import Derived.Deep.DeepCutAuto
import Derived.Deep.DeepMust
import Derived.Deep.DeepFit
import Derived.Deep.LoopGhost
import Derived.Lib.Hide
import Derived.IntWalk
import Derived.Deep.CutBlock
import Derived.Deep.RegionWith
import Derived.Test.YtibikehfeobikaaB
/-
  NUMBERS AS BYTES: the plain laws; the contract of PutNumber.
-/
namespace Go.Proofs.Ytibikehfeobikaa
open Go.RowKit

/-- A number in groups of seven bits. -/
def putNum (n : Nat) : List Nat := if n < 128 then [n] else (n % 128 + 128) :: putNum (n / 128)
  termination_by n
  decreasing_by omega

theorem putNum_ok (n : Nat) : Bytes (putNum n) := by
  induction n using Nat.strongRecOn with
  | ind n ih =>
    rw [putNum]
    split
    · intro x hx; simp at hx; omega
    · intro x hx
      rcases List.mem_cons.1 hx with rfl | hx
      · omega
      · exact ih (n / 128) (by omega) x hx
theorem putNum_len (k : Nat) : ∀ n : Nat, n < 128 ^ (k + 1) → (putNum n).length ≤ k + 1 := by
  induction k with
  | zero => intro n h; rw [putNum, if_pos (by simpa using h)]; simp
  | succ k ih =>
    intro n h
    rw [putNum]
    split
    · simp
    · have := ih (n / 128) (by rw [Nat.pow_succ] at h; omega)
      simp only [List.length_cons]
      omega
theorem putNum_len10 {n : Nat} (h : n < 18446744073709551616) : (putNum n).length ≤ 10 := putNum_len 9 n (Nat.lt_of_lt_of_le h (by decide))

theorem or128 : ∀ x : Nat, x < 256 → bits .or .u8 (x : Int) 128 = ((x % 128 + 128 : Nat) : Int) := by decide +kernel
theorem bytes_new1 (w : World) (x : Nat) (hx : x < 256) : BytesAt (w.alloc (.cells #[.int .u8 (x : Int)] 5)) (.slice (some ⟨w.heap.size, 0, none⟩) 1 1) [x] :=
  BytesAt.new (l := [x]) (Whole.new w 5 _) (Below.refl _ _) (by simp) (by intro y hy; simp at hy; omega)

set_option maxRecDepth 100000 in
set_option maxHeartbeats 1000000 in
theorem putNumber_any (v : Value) (xs : List Nat) (n : Nat) (B : Nat) (w : World) (h : OwnB w B v xs) (hB : B ≤ w.heap.size) (hn : n < 18446744073709551616) (hl : xs.length ≤ 90000) :
    Calls Try.prog 18 #[v, .int .u64 n] w fun e w' => ∃ r, e = .returned r ∧ OwnB w' B r (xs ++ putNum n) ∧ Below B w w' ∧ K5 w w' := by
  have HX := Lib.hid h
  clear h
  have HN := Lib.hid hn
  clear hn
  go_enter Try.func18, Try.ntmps18
  go_wp2_with fail
  go_loopw [0, 1] (fun u i wr => ∃ (m : Nat) (ys : List Nat), i = .int .u64 m ∧ m ≤ n ∧ OwnB wr B u (xs ++ ys) ∧ Hid (ys ++ putNum m = putNum n) ∧ Below B w wr ∧ Hid (K5 w wr)) (fun _ i _ => (intOf i).toNat)
  case atStart => exact ⟨n, [], rfl, Nat.le_refl _, by simpa using HX.out, rfl, Below.refl _ _, K5.refl _⟩
  case round =>
    obtain ⟨m, ys, rfl, hmn, hown, heq, hb, hk5⟩ := hrel
    have HO := Lib.hid hown
    clear hown
    have hbs := hb.size
    by_cases hlt : m < 128
    · have hp : putNum m = [m] := by rw [putNum, if_pos hlt]
      have HP := Lib.hid (hp ▸ heq.out)
      have hyl : ys.length < 10 := by
        have h1 := congrArg List.length HP.out
        have := putNum_len10 HN.out
        simp at h1
        omega
      have HB1 := Lib.hid (bytes_new1 wr m (by omega))
      clear hp heq
      go_wp2_with fail
      refine (joined_any _ _ (xs ++ ys) [m] B _ (HO.out.keep (by go_grown)) HB1.out (by simp; omega) (by simp; omega)).mono ?_
      rintro e w1 ⟨r, rfl, hr, hb1, hkk⟩
      have HK1 := Lib.hid ((hk5.out.alloc _).trans hkk)
      clear hkk hk5
      have HR := Lib.hid hr
      have HB := Lib.hid ((hb.alloc (by omega) _).trans hb1)
      clear hr hb1 hb
      go_wp2_with fail
      go_ret
      exact ⟨r, rfl, by have := HR.out; rwa [List.append_assoc, HP.out] at this, HB.out, HK1.out⟩
    · have hp : putNum m = (m % 128 + 128) :: putNum (m / 128) := by rw [putNum, if_neg hlt]
      have HP := Lib.hid (hp ▸ heq.out)
      have hyl : ys.length < 10 := by
        have h1 := congrArg List.length HP.out
        have := putNum_len10 HN.out
        simp at h1
        omega
      have hbit : bits .or .u8 ((m : Int) % 256) 128 = ((m % 128 + 128 : Nat) : Int) := by
        have := or128 (m % 256) (by omega)
        rw [show m % 256 % 128 = m % 128 by omega] at this
        rw [← this]
        simp
      have HB1 := Lib.hid (bytes_new1 wr (m % 128 + 128) (by omega))
      clear hp heq
      go_wp2_with fail
      refine (joined_any _ _ (xs ++ ys) [m % 128 + 128] B _ (HO.out.keep (by go_grown)) HB1.out (by simp; omega) (by simp; omega)).mono ?_
      rintro e w1 ⟨r, rfl, hr, hb1, hkk⟩
      have HK1 := Lib.hid ((hk5.out.alloc _).trans hkk)
      clear hkk hk5
      have HR := Lib.hid hr
      have hB' := (hb.alloc (by omega) (.cells #[.int .u8 ((m % 128 + 128 : Nat) : Int)] 5)).trans hb1
      clear hr hb1 hb
      go_wp2_with fail
      go_roundw
      case rel => exact ⟨m / 128, ys ++ [m % 128 + 128], by first | rfl | go_num, by omega, by have := HR.out; rwa [List.append_assoc] at this, by rw [List.append_assoc]; exact HP.out, hB', HK1.out⟩
      case measure => simp [intOf]; omega
end Go.Proofs.Ytibikehfeobikaa

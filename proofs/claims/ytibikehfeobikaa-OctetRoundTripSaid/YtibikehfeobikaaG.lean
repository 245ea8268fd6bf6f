import Derived.WalkKit
import Derived.WalkSpells
import Derived.WalkLawsBesides
import Derived.Handy
import Derived.BigQuiet
import Derived.Outline
import Derived.Deep.RegionHeld3
import Derived.Deep.DeepCutAuto
import Derived.Deep.DeepMust
import Derived.Deep.DeepFit
import Derived.Deep.LoopGhost
import Derived.Lib.Hide
import Derived.IntWalk
import Derived.Deep.CutBlock
import Derived.Deep.RegionWith
import Derived.Deep.QuietTactic
import Derived.Test.YtibikehfeobikaaD
import Derived.Test.YtibikehfeobikaaF
import Derived.Test.YtibikehfeobikaaS
import Derived.Laws.BytesArg
/-
  THE CONTRACTS of Signed, Text.
-/
namespace Go.Proofs.Ytibikehfeobikaa
open Go.RowKit

theorem numGo_lt : ∀ (l : List Nat) (i n : Nat), i ≤ 10 → n < 128 ^ i → (numGo i n l).1 < 18446744073709551616
  | [], i, n, _, _ => by simp [numGo]
  | c :: r, i, n, hi, hn => by
    unfold numGo
    split
    · simp
    · split
      · simp
      · rename_i h1 h2
        split
        · rename_i h3
          have h9 : i = 9 → c % 128 ≤ 1 := fun h => by omega
          have hb := pow_lt (k := i) (x := c % 128) (by omega) (by omega) h9
          by_cases h8 : i = 9
          · subst h8
            have : c % 128 * 128 ^ 9 ≤ 1 * 128 ^ 9 := Nat.mul_le_mul_right _ (h9 rfl)
            simp at this hn ⊢
            omega
          · have h4 := num_lt (y := c) hn
            have h5 : (128 : Nat) ^ (i + 1) ≤ 128 ^ 9 := Nat.pow_le_pow_right (by omega) (by omega)
            simp at h5 ⊢
            omega
        · exact numGo_lt r (i + 1) _ (by omega) (num_lt hn)
theorem number_lt (l : List Nat) : (number l).1 < 18446744073709551616 := numGo_lt l 0 0 (by omega) Nat.one_pos
theorem numGo_err : ∀ (l : List Nat) (i n : Nat), (numGo i n l).2.2 ≠ 0 → (numGo i n l).1 = 0 ∧ (numGo i n l).2.1 = []
  | [], i, n, _ => ⟨rfl, rfl⟩
  | c :: r, i, n, h => by
    unfold numGo at *
    split
    · exact ⟨rfl, rfl⟩
    · split
      · exact ⟨rfl, rfl⟩
      · split
        · rename_i h1 h2 h3
          rw [if_neg h1, if_neg h2, if_pos h3] at h
          exact absurd rfl h
        · rename_i h1 h2 h3
          rw [if_neg h1, if_neg h2, if_neg h3] at h
          exact numGo_err r _ _ h
theorem numGo_bytes : ∀ (l : List Nat) (i n : Nat), Bytes l → Bytes (numGo i n l).2.1 ∧ (numGo i n l).2.1.length ≤ l.length
  | [], i, n, h => ⟨h, Nat.le_refl _⟩
  | c :: r, i, n, h => by
    have hr : Bytes r := fun x hx => h x (by simp [hx])
    have h0 : Bytes ([] : List Nat) := fun x hx => nomatch hx
    unfold numGo
    split
    · exact ⟨h0, Nat.zero_le _⟩
    · split
      · exact ⟨h0, Nat.zero_le _⟩
      · split
        · exact ⟨hr, by simp⟩
        · have := numGo_bytes r (i + 1) (n + c % 128 * 128 ^ i) hr
          exact ⟨this.1, by simp; omega⟩
theorem number_len {l : List Nat} (h : Bytes l) : (number l).2.1.length ≤ l.length := (numGo_bytes l 0 0 h).2

def zag (n : Nat) : Int := if n % 2 = 0 then ((n / 2 : Nat) : Int) else -((n / 2 : Nat) : Int) - 1
theorem xor_i64_zero {a : Int} (h0 : 0 ≤ a) (h1 : a < 9223372036854775808) : bits .xor .i64 a 0 = a := by
  show IntKind.i64.wrap ((BitVec.ofInt 64 a ^^^ BitVec.ofInt 64 0).toNat : Int) = a
  rw [show BitVec.ofInt 64 0 = 0#64 from rfl, BitVec.xor_zero, BitVec.toNat_ofInt, IntKind.wrap_i64]
  omega
theorem xor_i64_ones {a : Int} (h0 : 0 ≤ a) (h1 : a < 9223372036854775808) : bits .xor .i64 a (-1) = -a - 1 := by
  show IntKind.i64.wrap ((BitVec.ofInt 64 a ^^^ BitVec.ofInt 64 (-1)).toNat : Int) = -a - 1
  rw [show BitVec.ofInt 64 (-1) = BitVec.allOnes 64 from rfl, BitVec.xor_allOnes, BitVec.toNat_not, BitVec.toNat_ofInt, IntKind.wrap_i64]
  omega
theorem and_one (n : Nat) (h : n < 18446744073709551616) : bits .and .u64 (n : Int) 1 = ((n % 2 : Nat) : Int) := by
  have h1 : (BitVec.ofInt 64 (n : Int)).toNat = n := by
    rw [BitVec.ofInt_natCast, BitVec.toNat_ofNat]; exact Nat.mod_eq_of_lt (by omega)
  show IntKind.u64.wrap ((BitVec.ofInt 64 (n : Int) &&& BitVec.ofInt 64 1).toNat : Int) = _
  rw [BitVec.toNat_and, h1, show (BitVec.ofInt 64 1).toNat = 1 from rfl, Nat.and_one_is_mod, IntKind.wrap_u64]
  omega
theorem zag_bits (n : Nat) (h : n < 18446744073709551616) : bits .xor .i64 (wrap64 ((n : Int) / 2)) (wrap64 (-wrap64 (bits .and .u64 (n : Int) 1))) = zag n := by
  rw [and_one n h]
  have e1 : wrap64 ((n : Int) / 2) = (n : Int) / 2 := IntWalk.wrap64_in _ ⟨by omega, by omega⟩
  rw [e1]
  unfold zag
  by_cases hp : n % 2 = 0
  · rw [if_pos hp, hp]
    rw [show wrap64 (-wrap64 ((0 : Nat) : Int)) = 0 by simp [wrap64], xor_i64_zero (by omega) (by omega)]
    omega
  · rw [if_neg hp, show n % 2 = 1 by omega]
    rw [show wrap64 (-wrap64 ((1 : Nat) : Int)) = -1 by simp [wrap64], xor_i64_ones (by omega) (by omega)]
    omega
def signedF (l : List Nat) : Int × List Nat × Int := if (number l).2.2 = 0 then (zag (number l).1, (number l).2.1, 0) else (0, [], (number l).2.2)

set_option maxRecDepth 100000 in
set_option maxHeartbeats 1000000 in
theorem signed_any (v : Value) (l : List Nat) (w : World) (h : BytesAt w v l) :
    Calls Try.prog 20 #[v] w fun e w' => ∃ r, e = .returned (.tuple #[.int .i64 (signedF l).1, r, .int .i64 (signedF l).2.2]) ∧ BytesAt w r (signedF l).2.1 ∧ w = w' := by
  have HC := Lib.hid (number_any v l w h)
  have hs : signedF l = if (number l).2.2 = 0 then (zag (number l).1, (number l).2.1, 0) else (0, [], (number l).2.2) := rfl
  have hn := number_lt l
  generalize number l = p at HC hs hn
  obtain ⟨n, rl, e⟩ := p
  dsimp only at HC hs hn
  have HS := Lib.hid hs
  have HN := Lib.hid hn
  clear hs h hn
  by_cases he : e = 0
  · subst he
    go_enter Try.func20, Try.ntmps20
    go_wp2_with (go_at_call 19; go_must (refine HC.out.mono ?_; rintro e w' ⟨r, rfl, hr, rfl⟩; have HR := Lib.hid hr; clear hr))
    go_ret3
    rw [HS.out, if_pos trivial]
    exact ⟨r, by rw [← zag_bits n HN.out]; rfl, HR.out, rfl⟩
  · have ht : (e != 0) = true := by simpa using he
    have HE := Lib.hid he
    clear he
    go_enter Try.func20, Try.ntmps20
    go_wp2_with (go_at_call 19; go_must (refine HC.out.mono ?_; rintro e w' ⟨r, rfl, hr, rfl⟩; have HR := Lib.hid hr; clear hr))
    go_ret3
    rw [HS.out, if_neg HE.out]
    exact ⟨_, rfl, BytesAt.nil w, rfl⟩

def textF (l : List Nat) (most : Int) : List Nat × List Nat × Int :=
  if (number l).2.2 ≠ 0 then ([], [], (number l).2.2) else if most < 0 ∨ most < (number l).1 then ([], [], 4) else if (number l).2.1.length < (number l).1 then ([], [], 5)
  else ((number l).2.1.take (number l).1, (number l).2.1.drop (number l).1, 0)
def strOf (l : List Nat) : ByteArray := ⟨(l.map UInt8.ofNat).toArray⟩

theorem part_zero {w : World} {a : Option Addr} {c n : Nat} {l : List Nat} (h : BytesAt w (.slice a l.length c) l) (hn : n ≤ l.length) : BytesAt w (.slice a n c) (l.take n) := by
  cases a with
  | none =>
    rcases h.1.2.2.2 with ⟨h1, h2⟩ | ⟨a', c', h1, _⟩
    · simp only [Value.slice.injEq, true_and] at h1
      obtain ⟨h1, rfl⟩ := h1
      obtain rfl : l = [] := List.eq_nil_of_length_eq_zero h1
      obtain rfl : n = 0 := by simpa using hn
      exact BytesAt.nil w
    · cases h1
  | some a =>
    have h1 := h.part (i := 0) (j := n) (c' := c) (Nat.zero_le _) hn (by
      rcases h.1.2.2.2 with ⟨h1, _⟩ | ⟨a', c', h1, h2, _⟩
      · cases h1
      · simp only [Value.slice.injEq] at h1
        omega)
    have e : a.add 0 = a := by simp [Addr.add]
    rw [e] at h1
    simpa using h1
theorem string_of {w : World} {v : Value} {l : List Nat} (h : BytesAt w v l) : (convert 22 9 v).run Try.prog w = .ok (.string (strOf l)) w := by
  rcases h.1.2.2.2 with ⟨rfl, h0⟩ | ⟨a, c, rfl, hc, hx⟩
  · obtain rfl : l = [] := List.eq_nil_of_length_eq_zero h0
    exact run_convert_bytes_nil w 22 5 Try.underlying22 Try.underlying5 0 0 9 Try.underlying9
  · have := run_convert_bytes_back (P := Try.prog) w 22 9 5 a c (l.map UInt8.ofNat) Try.underlying22 Try.underlying5 Try.underlying9 (fun j hj => by
      have hj' : j < l.length := by simpa using hj
      rw [hx j (.int .u8 (l[j] : Nat)) (by simp [byteCells, hj'])]
      have hb := h.2 _ (List.getElem_mem hj')
      simp
      omega)
    simpa [strOf] using this

set_option maxRecDepth 100000 in
set_option maxHeartbeats 1000000 in
theorem text_any (v : Value) (l : List Nat) (most : Int) (w : World) (h : BytesAt w v l) (hm : most ≤ 9223372036854775807) :
    Calls Try.prog 21 #[v, .int .i64 most] w fun e w' => ∃ r, e = .returned (.tuple #[.string (strOf (textF l most).1), r, .int .i64 (textF l most).2.2]) ∧ BytesAt w' r (textF l most).2.1 ∧ Below w.heap.size w w' := by
  have HC := Lib.hid (number_any v l w h)
  have hs : textF l most = if (number l).2.2 ≠ 0 then ([], [], (number l).2.2) else if most < 0 ∨ most < (number l).1 then ([], [], 4) else if (number l).2.1.length < (number l).1 then ([], [], 5)
    else ((number l).2.1.take (number l).1, (number l).2.1.drop (number l).1, 0) := rfl
  have hn := number_lt l
  generalize number l = p at HC hs hn
  obtain ⟨n, rl, e⟩ := p
  dsimp only at HC hs hn
  have HS := Lib.hid hs
  have HN := Lib.hid hn
  clear hs h hn
  by_cases he : e = 0
  · subst he
    by_cases h1 : most < 0
    · have HE := Lib.hid (show textF l most = ([], [], 4) by rw [HS.out]; simp [h1])
      go_enter Try.func21, Try.ntmps21
      go_wp2_with (go_at_call 19; go_must (refine HC.out.mono ?_; rintro e w' ⟨r, rfl, hr, rfl⟩; have HR := Lib.hid hr; clear hr))
      go_ret3
      rw [HE.out]
      exact ⟨_, rfl, BytesAt.nil w, Below.refl _ _⟩
    · by_cases h2 : most < (n : Int)
      · have HE := Lib.hid (show textF l most = ([], [], 4) by rw [HS.out]; simp [h2])
        go_enter Try.func21, Try.ntmps21
        go_wp2_with (go_at_call 19; go_must (refine HC.out.mono ?_; rintro e w' ⟨r, rfl, hr, rfl⟩; have HR := Lib.hid hr; clear hr))
        go_ret3
        rw [HE.out]
        exact ⟨_, rfl, BytesAt.nil w, Below.refl _ _⟩
      · by_cases h3 : rl.length < n
        · have HE := Lib.hid (show textF l most = ([], [], 5) by rw [HS.out]; simp [h1, h2, h3])
          go_enter Try.func21, Try.ntmps21
          go_wp2_with (go_at_call 19; go_must (refine HC.out.mono ?_; rintro e w' ⟨r, rfl, hr, rfl⟩; obtain ⟨ra, rc, rfl, -, hrl, -⟩ := bytesOpen hr; clear hr))
          go_ret3
          rw [HE.out]
          exact ⟨_, rfl, BytesAt.nil w, Below.refl _ _⟩
        · have HE := Lib.hid (show textF l most = (rl.take n, rl.drop n, 0) by rw [HS.out]; simp [h1, h2, h3])
          go_enter Try.func21, Try.ntmps21
          go_wp2_with (go_at_call 19; go_must (refine HC.out.mono ?_; rintro e w' ⟨r, rfl, hr, rfl⟩; have HR := Lib.hid hr; obtain ⟨ra, rc, rfl, hrc, hrl, -⟩ := bytesOpen hr; clear hr))
          have hnl : n ≤ rl.length := by omega
          have hP := part_zero HR.out hnl
          have HP := Lib.hid hP
          clear hP
          refine wp_region_plan [35, 36, 37, 38, 39, 40, 41, 42, 4, 5, 6] [isV (.slice ra rl.length rc), isV (.int .u64 n), isV (.slice ra n rc), isV (.string (strOf (rl.take n))), isV (.slice ra rl.length rc), isV (.int .u64 n), isV (.int .i64 n), fun v w => BytesAt w v (rl.drop n), isV (.string (strOf (rl.take n))), fun v w => BytesAt w v (rl.drop n), isV (.int .i64 0)]
            (Below w.heap.size w) (by kernel_rfl) (by kernel_rfl) rfl (by decide) rfl ((Below.refl _ _).drew) (fun w w' h hb => h.trans (hb.mono h.size))
            ⟨lasts_is _, lasts_is _, lasts_is _, lasts_is _, lasts_is _, lasts_is _, lasts_is _, fun _ _ _ h hb => h.keep hb, lasts_is _, fun _ _ _ h hb => h.keep hb, lasts_is _, trivial⟩ ⟨?_, ?_, ?_, ?_, ?_, ?_, ?_, ?_, ?_, ?_, ?_, trivial⟩ ?_
          · intro a wx Q' hi H F hK
            have h8 : a.tmps[8]? = some (.slice ra rl.length rc) := F 8 rfl
            clear H F hi
            go_wp2_with fail
            exact hK _ _ (Below.refl _ _) rfl
          · intro a wx Q' hi H F hK
            have h7 : a.tmps[7]? = some (.int .u64 n) := F 7 rfl
            clear H F hi
            go_wp2_with fail
            exact hK _ _ (Below.refl _ _) rfl
          · intro a wx Q' hi H F hK
            obtain ⟨_, h35, rfl⟩ := H 0 ⟨.data, by simp, rfl⟩ 35 _ rfl rfl
            obtain ⟨_, h36, rfl⟩ := H 1 ⟨.data, by simp, rfl⟩ 36 _ rfl rfl
            clear H F hi
            go_wp2_with fail
            exact hK _ _ (Below.refl _ _) rfl
          · intro a wx Q' hi H F hK
            obtain ⟨_, h37, rfl⟩ := H 2 ⟨.data, by simp, rfl⟩ 37 _ rfl rfl
            have hcv := string_of (HP.out.keep hi)
            clear H F hi
            go_wp2_with fail
            exact hK _ _ (Below.refl _ _) rfl
          · intro a wx Q' hi H F hK
            have h8 : a.tmps[8]? = some (.slice ra rl.length rc) := F 8 rfl
            clear H F hi
            go_wp2_with fail
            exact hK _ _ (Below.refl _ _) rfl
          · intro a wx Q' hi H F hK
            have h7 : a.tmps[7]? = some (.int .u64 n) := F 7 rfl
            clear H F hi
            go_wp2_with fail
            exact hK _ _ (Below.refl _ _) rfl
          · intro a wx Q' hi H F hK
            obtain ⟨_, h40, rfl⟩ := H 5 ⟨.data, by simp, rfl⟩ 40 _ rfl rfl
            clear H F hi
            go_wp2_with fail
            exact hK _ _ (Below.refl _ _) rfl
          · intro a wx Q' hi H F hK
            obtain ⟨_, h39, rfl⟩ := H 4 ⟨.data, by simp, rfl⟩ 39 _ rfl rfl
            obtain ⟨_, h41, rfl⟩ := H 6 ⟨.data, by simp, rfl⟩ 41 _ rfl rfl
            have HC2 := Lib.hid (rest_any _ rl n wx (HR.out.keep hi) hnl)
            clear H F hi
            go_wp2_with (go_at_call 26; go_must (refine HC2.out.mono ?_; rintro e w1 ⟨r, rfl, hr, rfl⟩; have HQ := Lib.hid hr; clear hr))
            exact hK _ _ (Below.refl _ _) HQ.out
          · intro a wx Q' hi H F hK
            obtain ⟨_, h38, rfl⟩ := H 3 ⟨.data, by simp, rfl⟩ 38 _ rfl rfl
            clear H F hi
            go_wp2_with fail
            exact hK _ _ (Below.refl _ _) rfl
          · intro a wx Q' hi H F hK
            obtain ⟨r, h42, hr⟩ := H 7 ⟨.data, by simp, rfl⟩ 42 _ rfl rfl
            have HQ := Lib.hid hr
            clear H F hi hr
            go_wp2_with fail
            exact hK _ _ (Below.refl _ _) HQ.out
          · intro a wx Q' hi H F hK
            clear H F hi
            go_wp2_with fail
            exact hK _ _ (Below.refl _ _) rfl
          · rintro ⟨tmps, defers⟩ wx hR
            obtain ⟨_, h4, rfl⟩ := hR.done 8 rfl 4 _ rfl rfl
            obtain ⟨r, h5, hr⟩ := hR.done 9 rfl 5 _ rfl rfl
            obtain ⟨_, h6, rfl⟩ := hR.done 10 rfl 6 _ rfl rfl
            obtain rfl := hR.defers
            have HB := Lib.hid hR.inv
            have HQ := Lib.hid hr
            clear hR hr
            go_wp2_with fail
            refine bodyPost_ret (v := .tuple #[.string (strOf (rl.take n)), r, .int .i64 0]) ?_ rfl ?_
            · simp [results, Try.results21, h4, h5, h6]
            · rw [HE.out]
              exact ⟨r, rfl, HQ.out, HB.out⟩
  · have ht : (e != 0) = true := by simpa using he
    have HE := Lib.hid he
    clear he
    go_enter Try.func21, Try.ntmps21
    go_wp2_with (go_at_call 19; go_must (refine HC.out.mono ?_; rintro e w' ⟨r, rfl, hr, rfl⟩; have HR := Lib.hid hr; clear hr))
    go_ret3
    rw [HS.out, if_pos HE.out]
    exact ⟨_, rfl, BytesAt.nil w, Below.refl _ _⟩
end Go.Proofs.Ytibikehfeobikaa

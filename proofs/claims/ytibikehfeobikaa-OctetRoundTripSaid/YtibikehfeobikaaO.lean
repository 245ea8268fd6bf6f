import Derived.WalkKit
import Derived.WalkSpells
import Derived.WalkLawsBesides
import Derived.Handy
import Derived.BigQuiet
import Derived.Outline
import Derived.Deep.RegionHeld3
import Derived.Deep.DeepCutAuto
import Derived.Deep.DeepMust
import Derived.Deep.DeepFit
import Derived.Deep.LoopGhost
import Derived.Lib.Hide
import Derived.IntWalk
import Derived.Deep.CutBlock
import Derived.Deep.RegionWith
import Derived.Test.YtibikehfeobikaaN
/-
  THE LAW OctetOneEncoding: its walk (printed by a program).
-/
namespace Go.Proofs.Ytibikehfeobikaa
open Go.RowKit

theorem text_enc {l s r : List Nat} {most : Int} (hb : Bytes l) (h : textF l most = (s, r, 0)) : (putNum (strOf s).size ++ strBytes (strOf s)) ++ r = l := by
  obtain ⟨h1, h2, h3⟩ := text_ok hb h
  rw [strOf_size, strBytes_strOf h3]
  exact h1
theorem set_enc {l r : List Nat} {a b c d : Nat} (hb : Bytes l) (h : setF l = ([a, b, c, d], r, 0)) : putSet a b c d ++ r = l ∧ U64 a ∧ U64 b ∧ U64 c ∧ U64 d := by
  obtain ⟨a', b', c', d', e, h1, h2, h3, h4, h5⟩ := set_ok hb h
  simp only [List.cons.injEq, and_true] at e
  obtain ⟨rfl, rfl, rfl, rfl⟩ := e
  exact ⟨h5, h1, h2, h3, h4⟩
theorem getNums_len : ∀ (k : Nat) (l : List Nat), (getNums k l).2.2 = 0 → (getNums k l).1.length = k
  | 0, _, _ => rfl
  | k + 1, l, h => by
    unfold getNums at *
    split
    · rename_i he
      rw [if_pos he] at h
      exact absurd h he
    · rename_i he
      rw [if_neg he] at h
      simp [getNums_len k _ h]
theorem setF_four (l : List Nat) : ∃ a b c d r x, setF l = ([a, b, c, d], r, x) := by
  have z : ∀ (r : List Nat) (x : Int), ∃ a b c d r' x', (([0, 0, 0, 0], r, x) : List Nat × List Nat × Int) = ([a, b, c, d], r', x') := fun r x => ⟨_, _, _, _, _, _, rfl⟩
  unfold setF
  split
  · exact z _ _
  · split
    · exact z _ _
    · split
      · exact z _ _
      · split
        · exact z _ _
        · rename_i h1 h2 h3
          have hl := getNums_len (number l).1 (number l).2.1 (by simpa using h2)
          generalize (getNums (number l).1 (number l).2.1).1 = xs at *
          generalize (number l).1 = k at *
          subst hl
          match xs, h1 with
          | [], _ => exact ⟨_, _, _, _, _, _, rfl⟩
          | [a], _ => exact ⟨_, _, _, _, _, _, rfl⟩
          | [a, b], _ => exact ⟨_, _, _, _, _, _, rfl⟩
          | [a, b, c], _ => exact ⟨_, _, _, _, _, _, rfl⟩
          | [a, b, c, d], _ => exact ⟨_, _, _, _, _, _, rfl⟩
          | _ :: _ :: _ :: _ :: _ :: _, h1 => simp at h1
theorem set_lit (v : Value) (l : List Nat) (w : World) (h : BytesAt w v l) (a b c d : Nat) (r : List Nat) (x : Int) (hn : setF l = ([a, b, c, d], r, x)) :
    Calls Try.prog 22 #[v] w fun e w' => ∃ u, e = .returned (.tuple #[.agg #[.int .u64 a, .int .u64 b, .int .u64 c, .int .u64 d], u, .int .i64 x]) ∧ BytesAt w' u r ∧ Below w.heap.size w w' := set_bl v l w h _ _ _ hn
theorem front_bl (v s t : Value) (xs ys zs : List Nat) (w : World) (h : BytesAt w v xs) (hs : BytesAt w s ys) (ht : BytesAt w t zs) (hn : xs.length + ys.length ≤ 100000) (e : xs ++ ys = zs) :
    Calls Try.prog 23 #[v, s, t] w fun e w' => e = .returned (.bool true) ∧ Below w.heap.size w w' := by
  have := front_any v s t xs ys zs w h hs ht hn
  simpa only [e, decide_true] using this

set_option maxRecDepth 100000 in
set_option maxHeartbeats 4000000 in
theorem octetOneEncoding_core (v : Value) (l : List Nat) (w : World) (h : BytesAt w v l) (hl : l.length ≤ 400) : Calls Try.prog 5 #[v] w fun e w' => e = .returned (.bool true) ∧ Below w.heap.size w w' := by
  have HX := Lib.hid h
  have HSH := Lib.hid (show Ending.returned (.bool (decide (l.length ≤ 400))) = .returned (.bool true) by simp [hl])
  have HLL := Lib.hid hl
  obtain ⟨n1, r1, x1, e1⟩ : ∃ n r x, number l = (n, r, x) := ⟨_, _, _, rfl⟩
  obtain ⟨m2, r2, x2, e2⟩ : ∃ n r x, signedF l = (n, r, x) := ⟨_, _, _, rfl⟩
  obtain ⟨s3, r3, x3, e3⟩ : ∃ n r x, textF l 400 = (n, r, x) := ⟨_, _, _, rfl⟩
  obtain ⟨a4, b4, c4, d4, r4, x4, e4⟩ := setF_four l
  have HE1 := Lib.hid e1
  have HE2 := Lib.hid e2
  have HE3 := Lib.hid e3
  have HE4 := Lib.hid e4
  clear h hl e1 e2 e3 e4
  go_enter Try.func5, Try.ntmps5
  go_upto_region 4 with (first | (go_at_call 6; go_must (refine (short_any v l w HX.out).mono ?_; rintro e w1 ⟨hq, hb⟩; rw [HSH.out] at hq; subst hq; have HBx := Lib.hid hb; clear hb)) | (go_at_call 19; go_must (refine (number_bl v l _ (HX.out.keep HBx.out) _ _ _ HE1.out).mono ?_; rintro e w2 ⟨u1, rfl, hr, hb⟩; have HR := Lib.hid hr; have HBy := Lib.hid (bt HBx.out hb); clear hr hb HBx)))
  have HRa := HR
  have HBa := HBy
  clear HR HBy
  go_cut [34] (fun s wc => s = .bool false ∧ Below w.heap.size w wc)
  case first =>
    by_cases hx : x1 = 0
    · subst hx
      have HP := Lib.hid (show putNum n1 ++ r1 = l ∧ n1 < 18446744073709551616 ∧ (putNum n1).length + r1.length ≤ 100000 from ⟨number_ok HX.out.2 HE1.out, show n1 < 18446744073709551616 by have := number_lt l; rw [HE1.out] at this; exact this, show (putNum n1).length + r1.length ≤ 100000 by have := congrArg List.length (show putNum n1 ++ r1 = l by exact number_ok HX.out.2 HE1.out); rw [List.length_append] at this; have := HLL.out; omega⟩)
      go_wp2_with fail
      refine (putNumber_bl n1 _ HP.out.2.1 _ rfl).mono ?_
      rintro e w3 ⟨p, rfl, hr, hb⟩
      have HQ := Lib.hid hr.at
      have HB3 := Lib.hid hb
      clear hr hb
      go_wp2_with fail
      refine (front_bl p u1 v _ r1 l w3 HQ.out (HRa.out.keep HB3.out) (HX.out.keep (bt HBa.out HB3.out)) HP.out.2.2 HP.out.1).mono ?_
      rintro e w4 ⟨rfl, hb⟩
      have HB4 := Lib.hid hb
      clear hb
      go_wp2_with fail
      go_meet
      exact ⟨rfl, bt (bt HBa.out HB3.out) HB4.out⟩
    · have ht : (x1 == 0) = false := by simpa using hx
      clear hx
      go_wp2_with fail
      go_meet
      exact ⟨rfl, HBa.out⟩
  case rest =>
  obtain ⟨rfl, hb⟩ := hcut
  obtain ⟨wo0, rfl⟩ : ∃ wo : World, wo = wc := ⟨_, rfl⟩
  have HBx := Lib.hid hb
  clear hb HRa HBa
  go_upto_region 7 with (first | (go_at_call 20; go_must (refine (signed_bl v l _ (HX.out.keep HBx.out) _ _ _ HE2.out).mono ?_; rintro e w2 ⟨u1, rfl, hr, hb⟩; have HR := Lib.hid hr; have HBy := Lib.hid (bt HBx.out hb); clear hr hb HBx)))
  have HRa := HR
  have HBa := HBy
  clear HR HBy
  go_cut [50] (fun s wc => s = .bool false ∧ Below w.heap.size w wc)
  case first =>
    by_cases hx : x2 = 0
    · subst hx
      have HP := Lib.hid (show putNum (zig m2) ++ r2 = l ∧ I64 m2 ∧ (putNum (zig m2)).length + r2.length ≤ 100000 from ⟨(signed_ok HX.out.2 HE2.out).1, (signed_ok HX.out.2 HE2.out).2, show (putNum (zig m2)).length + r2.length ≤ 100000 by have := congrArg List.length (show putNum (zig m2) ++ r2 = l by exact (signed_ok HX.out.2 HE2.out).1); rw [List.length_append] at this; have := HLL.out; omega⟩)
      go_wp2_with fail
      refine (putSigned_bl m2 _ HP.out.2.1 _ rfl).mono ?_
      rintro e w3 ⟨p, rfl, hr, hb⟩
      have HQ := Lib.hid hr.at
      have HB3 := Lib.hid hb
      clear hr hb
      go_wp2_with fail
      refine (front_bl p u1 v _ r2 l w3 HQ.out (HRa.out.keep HB3.out) (HX.out.keep (bt HBa.out HB3.out)) HP.out.2.2 HP.out.1).mono ?_
      rintro e w4 ⟨rfl, hb⟩
      have HB4 := Lib.hid hb
      clear hb
      go_wp2_with fail
      go_meet
      exact ⟨rfl, bt (bt HBa.out HB3.out) HB4.out⟩
    · have ht : (x2 == 0) = false := by simpa using hx
      clear hx
      go_wp2_with fail
      go_meet
      exact ⟨rfl, HBa.out⟩
  case rest =>
  obtain ⟨rfl, hb⟩ := hcut
  obtain ⟨wo1, rfl⟩ : ∃ wo : World, wo = wc := ⟨_, rfl⟩
  have HBx := Lib.hid hb
  clear hb HRa HBa
  go_upto_region 10 with (first | (go_at_call 21; go_must (refine (text_bl v l 400 _ (HX.out.keep HBx.out) (by omega) _ _ _ HE3.out).mono ?_; rintro e w2 ⟨u1, rfl, hr, hb⟩; have HR := Lib.hid hr; have HBy := Lib.hid (bt HBx.out hb); clear hr hb HBx)))
  have HRa := HR
  have HBa := HBy
  clear HR HBy
  go_cut [66] (fun s wc => s = .bool false ∧ Below w.heap.size w wc)
  case first =>
    by_cases hx : x3 = 0
    · subst hx
      have HP := Lib.hid (show (putNum (strOf s3).size ++ strBytes (strOf s3)) ++ r3 = l ∧ (strOf s3).size ≤ 400 ∧ (putNum (strOf s3).size ++ strBytes (strOf s3)).length + r3.length ≤ 100000 from ⟨text_enc HX.out.2 HE3.out, show (strOf s3).size ≤ 400 by have := (text_ok HX.out.2 HE3.out).2.1; rw [strOf_size]; omega, show (putNum (strOf s3).size ++ strBytes (strOf s3)).length + r3.length ≤ 100000 by have := congrArg List.length (show putNum (strOf s3).size ++ strBytes (strOf s3) ++ r3 = l by exact text_enc HX.out.2 HE3.out); rw [List.length_append] at this; have := HLL.out; omega⟩)
      go_wp2_with fail
      refine (putText_bl (strOf s3) _ HP.out.2.1 _ rfl).mono ?_
      rintro e w3 ⟨p, rfl, hr, hb⟩
      have HQ := Lib.hid hr.at
      have HB3 := Lib.hid hb
      clear hr hb
      go_wp2_with fail
      refine (front_bl p u1 v _ r3 l w3 HQ.out (HRa.out.keep HB3.out) (HX.out.keep (bt HBa.out HB3.out)) HP.out.2.2 HP.out.1).mono ?_
      rintro e w4 ⟨rfl, hb⟩
      have HB4 := Lib.hid hb
      clear hb
      go_wp2_with fail
      go_meet
      exact ⟨rfl, bt (bt HBa.out HB3.out) HB4.out⟩
    · have ht : (x3 == 0) = false := by simpa using hx
      clear hx
      go_wp2_with fail
      go_meet
      exact ⟨rfl, HBa.out⟩
  case rest =>
  obtain ⟨rfl, hb⟩ := hcut
  obtain ⟨wo2, rfl⟩ : ∃ wo : World, wo = wc := ⟨_, rfl⟩
  have HBx := Lib.hid hb
  clear hb HRa HBa
  go_upto_region 13 with (first | (go_at_call 22; go_must (refine (set_lit v l _ (HX.out.keep HBx.out) _ _ _ _ _ _ HE4.out).mono ?_; rintro e w2 ⟨u1, rfl, hr, hb⟩; have HR := Lib.hid hr; have HBy := Lib.hid (bt HBx.out hb); clear hr hb HBx)))
  have HRa := Lib.hid (HR.out.keep (bal w2 (.cells #[.int .u64 a4, .int .u64 b4, .int .u64 c4, .int .u64 d4] 34)))
  have HBa := Lib.hid (bt HBy.out (bal w2 (.cells #[.int .u64 a4, .int .u64 b4, .int .u64 c4, .int .u64 d4] 34)))
  clear HR HBy
  go_cut [82] (fun s wc => s = .bool false ∧ Below w.heap.size w wc)
  case first =>
    by_cases hx : x4 = 0
    · subst hx
      have HP := Lib.hid (show putSet a4 b4 c4 d4 ++ r4 = l ∧ (U64 a4 ∧ U64 b4 ∧ U64 c4 ∧ U64 d4) ∧ (putSet a4 b4 c4 d4).length + r4.length ≤ 100000 from ⟨(set_enc HX.out.2 HE4.out).1, (set_enc HX.out.2 HE4.out).2, show (putSet a4 b4 c4 d4).length + r4.length ≤ 100000 by have := congrArg List.length (show putSet a4 b4 c4 d4 ++ r4 = l by exact (set_enc HX.out.2 HE4.out).1); rw [List.length_append] at this; have := HLL.out; omega⟩)
      go_wp2_with fail
      refine (putSet_bl a4 b4 c4 d4 _ HP.out.2.1.1 HP.out.2.1.2.1 HP.out.2.1.2.2.1 HP.out.2.1.2.2.2 _ rfl).mono ?_
      rintro e w3 ⟨p, rfl, hr, hb⟩
      have HQ := Lib.hid hr.at
      have HB3 := Lib.hid hb
      clear hr hb
      go_wp2_with fail
      refine (front_bl p u1 v _ r4 l w3 HQ.out (HRa.out.keep HB3.out) (HX.out.keep (bt HBa.out HB3.out)) HP.out.2.2 HP.out.1).mono ?_
      rintro e w4 ⟨rfl, hb⟩
      have HB4 := Lib.hid hb
      clear hb
      go_wp2_with fail
      go_meet
      exact ⟨rfl, bt (bt HBa.out HB3.out) HB4.out⟩
    · have ht : (x4 == 0) = false := by simpa using hx
      clear hx
      go_wp2_with fail
      go_meet
      exact ⟨rfl, HBa.out⟩
  case rest =>
  obtain ⟨rfl, hb⟩ := hcut
  obtain ⟨wo3, rfl⟩ : ∃ wo : World, wo = wc := ⟨_, rfl⟩
  have HBx := Lib.hid hb
  clear hb HRa HBa
  go_wp2_with (go_at_call 7; go_must (refine (awake_any _).mono ?_; rintro e w5 ⟨rfl, hb⟩; have HB5 := Lib.hid (bt HBx.out hb); clear hb))
  go_ret
  exact ⟨rfl, HB5.out⟩

set_option maxRecDepth 100000 in
set_option maxHeartbeats 1000000 in
theorem octetOneEncoding_big (v : Value) (xs : List Nat) (w : World) (h : BytesAt w v xs) (hl : ¬ xs.length ≤ 400) : Calls Try.prog 5 #[v] w fun e w' => e = .returned (.bool true) ∧ Below w.heap.size w w' := by
  have HX := Lib.hid h
  have HSH := Lib.hid (show Ending.returned (.bool (decide (xs.length ≤ 400))) = .returned (.bool false) by simp; omega)
  clear h
  go_enter Try.func5, Try.ntmps5
  go_wp2_with fail
  refine (short_any v xs w HX.out).mono ?_
  rintro e w1 ⟨hq, hb⟩
  have B1 := Lib.hid hb
  rw [HSH.out] at hq
  subst hq
  clear hb
  go_wp2_with fail
  refine (awake_any _).mono ?_
  rintro e w2 ⟨rfl, hb⟩
  have B2 := Lib.hid hb
  clear hb
  go_wp2_with fail
  go_ret
  exact ⟨rfl, bt B1.out B2.out⟩
theorem octetOneEncoding_any (v : Value) (xs : List Nat) (w : World) (h : BytesAt w v xs) : Calls Try.prog 5 #[v] w fun e w' => e = .returned (.bool true) ∧ Below w.heap.size w w' := by
  by_cases hl : xs.length ≤ 400
  · exact octetOneEncoding_core v xs w h hl
  · exact octetOneEncoding_big v xs w h hl
end Go.Proofs.Ytibikehfeobikaa

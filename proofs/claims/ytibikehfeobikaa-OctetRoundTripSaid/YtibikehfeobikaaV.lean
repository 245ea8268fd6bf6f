import Derived.WalkKit
import Derived.WalkSpells
import Derived.WalkLawsBesides
import Derived.Handy
import Derived.BigQuiet
import Derived.Outline
import Derived.Deep.RegionHeld3
import Derived.Deep.DeepCutAuto
import Derived.Deep.DeepMust
import Derived.Deep.DeepFit
import Derived.Deep.LoopGhost
import Derived.Lib.Hide
import Derived.IntWalk
import Derived.Deep.CutBlock
import Derived.Deep.RegionWith
import Derived.Test.YtibikehfeobikaaT
import Derived.Test.YtibikehfeobikaaO
import Derived.ChangeKeysEq
/-
  THE LAW OctetRoundTrip: its walk (printed by a program).
-/
namespace Go.Proofs.Ytibikehfeobikaa
open Go.RowKit

theorem box7 {w : World} {g : Nat} {t : TypeId} {c0 c1 c2 c3 c4 c5 c6 : Value} (h : Whole w g t #[c0, c1, c2, c3, c4, c5, c6]) :
    w.cell? ⟨g, 0, none⟩ = some c0 ∧ w.cell? ⟨g, 1, none⟩ = some c1 ∧ w.cell? ⟨g, 2, none⟩ = some c2 ∧ w.cell? ⟨g, 3, none⟩ = some c3 ∧ w.cell? ⟨g, 4, none⟩ = some c4 ∧ w.cell? ⟨g, 5, none⟩ = some c5 ∧ w.cell? ⟨g, 6, none⟩ = some c6 :=
  ⟨h.cell 0, h.cell 1, h.cell 2, h.cell 3, h.cell 4, h.cell 5, h.cell 6⟩
/-- The box through a call that appends to our own bytes. -/
theorem boxK {B : Nat} {w w1 w2 : World} {g : Nat} {cs : Array Value} (h : Hid (Below B w w1 ∧ Whole w1 g 36 cs)) (hb : Below B w1 w2) (hk : K5 w1 w2) : Hid (Below B w w2 ∧ Whole w2 g 36 cs) :=
  ⟨h.out.1.trans hb, hk g 36 cs (by decide) h.out.2⟩

set_option maxRecDepth 100000 in
set_option maxHeartbeats 4000000 in
theorem octetRoundTrip_core (n : Nat) (m : Int) (s : ByteArray) (a b c d : Nat) (v : Value) (ts : List Nat) (w : World) (h : BytesAt w v ts) (hl : ts.length ≤ 400) (hs : s.size ≤ 400) (hn : U64 n) (hm : I64 m) (ha : U64 a) (hb0 : U64 b) (hc : U64 c) (hd : U64 d) :
    Calls Try.prog 4 #[.agg #[.int .u64 n, .int .i64 m, .string s, .int .u64 a, .int .u64 b, .int .u64 c, .int .u64 d], v] w fun e w' => e = .returned (.bool true) ∧ Below w.heap.size w w' := by
  have hw := Whole.new w 36 #[.int .u64 n, .int .i64 m, .string s, .int .u64 a, .int .u64 b, .int .u64 c, .int .u64 d]
  have hbw : Below w.heap.size w (w.alloc (.cells #[.int .u64 n, .int .i64 m, .string s, .int .u64 a, .int .u64 b, .int .u64 c, .int .u64 d] 36)) := bal _ _
  have HX := Lib.hid (h.keep hbw)
  obtain ⟨ta, tc, hv⟩ := h.1.shape
  subst hv
  have HSH := Lib.hid (show Ending.returned (.bool (decide (ts.length ≤ 400))) = .returned (.bool true) by simp [hl])
  have hcell := (box7 hw).2.2.1
  have htz := h.1.2.1
  unfold maxLen at htz
  have t1 : ¬ (400 : Int) < (s.size : Int) := by omega
  have H0 := Lib.hid h
  obtain ⟨ta', tc', hv', _, _, ha'⟩ := bytesOpen h
  simp only [Value.slice.injEq, true_and] at hv'
  obtain ⟨rfl, rfl⟩ := hv'
  have HA := Lib.hid ha'
  have hl1 := putNum_len10 hn
  have hl2 := putNum_len10 (zig_lt hm)
  have hl3 := putNum_len10 (n := s.size) (by omega)
  have hl4 := strBytes_len s
  have hl5 : (putSet a b c d).length ≤ 50 := by
    have h1 := putNum_len10 (n := setLen a b c d) (by have := setLen_le a b c d; omega)
    have h2 := flat_len (setLen_le a b c d) ha hb0 hc hd
    unfold putSet
    rw [List.length_append]
    omega
  have HLL := Lib.hid (And.intro hl1 (And.intro hl2 (And.intro hl3 (And.intro hl4 (And.intro hl5 (And.intro hl hs))))))
  clear h ha' hl1 hl2 hl3 hl4 hl5 hw hbw
  go_enter Try.func4, Try.ntmps4
  go_upto_region 3 with (go_at_call 6; go_must (refine (short_any _ ts _ HX.out).mono ?_; rintro e w1 ⟨hq, hb⟩; rw [HSH.out] at hq; subst hq; have HB1 := Lib.hid hb; clear hb hcell))
  have K : Hid (Below w.heap.size w w1.drew ∧ Whole w1.drew w.heap.size 36 #[.int .u64 n, .int .i64 m, .string s, .int .u64 a, .int .u64 b, .int .u64 c, .int .u64 d]) := ⟨(below_of_alloc (HB1.out.mono (by simp))).drew, show Whole w1 w.heap.size 36 #[.int .u64 n, .int .i64 m, .string s, .int .u64 a, .int .u64 b, .int .u64 c, .int .u64 d] from Whole.under HB1.out (Whole.new w 36 #[.int .u64 n, .int .i64 m, .string s, .int .u64 a, .int .u64 b, .int .u64 c, .int .u64 d]) (by rw [World.size_alloc]; omega)⟩
  clear HB1 HX HSH
  go_cut [5] (fun s5 wc => OwnB wc w.heap.size s5 (((putNum n ++ putNum (zig m)) ++ (putNum s.size ++ strBytes s)) ++ putSet a b c d) ∧ Below w.heap.size w wc ∧ Whole wc w.heap.size 36 #[.int .u64 n, .int .i64 m, .string s, .int .u64 a, .int .u64 b, .int .u64 c, .int .u64 d])
  case first =>
    obtain ⟨k0, k1, k2, k3, k4, k5, k6⟩ := box7 (show Whole w1 w.heap.size 36 #[.int .u64 n, .int .i64 m, .string s, .int .u64 a, .int .u64 b, .int .u64 c, .int .u64 d] from K.out.2)
    go_region_held3 (fun w' => w'.cell? ⟨w.heap.size, 0, none⟩ = some (.int .u64 n) ∧ w'.cell? ⟨w.heap.size, 1, none⟩ = some (.int .i64 m) ∧ w'.cell? ⟨w.heap.size, 2, none⟩ = some (.string s) ∧ w'.cell? ⟨w.heap.size, 3, none⟩ = some (.int .u64 a) ∧ w'.cell? ⟨w.heap.size, 4, none⟩ = some (.int .u64 b) ∧ w'.cell? ⟨w.heap.size, 5, none⟩ = some (.int .u64 c) ∧ w'.cell? ⟨w.heap.size, 6, none⟩ = some (.int .u64 d)) (go_keep)
      (first
        | (go_at_call 18; go_must (refine (putNumber_any (.slice none 0 0) [] n w.heap.size _ (OwnB.nil _ _) K.out.1.size hn (by simp)).mono ?_; rintro e wn ⟨r, rfl, hr, hb, hk⟩; have HR1 := Lib.hid (show OwnB wn w.heap.size r (putNum n) by simpa using hr); replace K := boxK K hb hk; clear hr hb hk k0 k1 k2 k3 k4 k5 k6; obtain ⟨k0, k1, k2, k3, k4, k5, k6⟩ := box7 K.out.2))
        | (go_at_call 17; go_must (refine (putSigned_any _ (putNum n) m w.heap.size _ HR1.out K.out.1.size hm (by have := HLL.out; omega)).mono ?_; rintro e wn ⟨r, rfl, hr, hb, hk⟩; have HR2 := Lib.hid (show OwnB wn w.heap.size r (putNum n ++ putNum (zig m)) by exact hr); replace K := boxK K hb hk; clear hr hb hk k0 k1 k2 k3 k4 k5 k6; obtain ⟨k0, k1, k2, k3, k4, k5, k6⟩ := box7 K.out.2))
        | (go_at_call 16; go_must (refine (putText_any _ (putNum n ++ putNum (zig m)) s w.heap.size _ HR2.out K.out.1.size hs (by have := HLL.out; simp only [List.length_append]; omega)).mono ?_; rintro e wn ⟨r, rfl, hr, hb, hk⟩; have HR3 := Lib.hid (show OwnB wn w.heap.size r ((putNum n ++ putNum (zig m)) ++ (putNum s.size ++ strBytes s)) by exact hr); replace K := boxK K hb hk; clear hr hb hk k0 k1 k2 k3 k4 k5 k6; obtain ⟨k0, k1, k2, k3, k4, k5, k6⟩ := box7 K.out.2))
        | (go_at_call 15; go_must (refine (putSet_any _ ((putNum n ++ putNum (zig m)) ++ (putNum s.size ++ strBytes s)) a b c d w.heap.size _ HR3.out K.out.1.size ha hb0 hc hd (by have := HLL.out; simp only [List.length_append]; omega)).mono ?_; rintro e wn ⟨r, rfl, hr, hb, hk⟩; have HR4 := Lib.hid (show OwnB wn w.heap.size r (((putNum n ++ putNum (zig m)) ++ (putNum s.size ++ strBytes s)) ++ putSet a b c d) by exact hr); replace K := boxK K hb hk; clear hr hb hk k0 k1 k2 k3 k4 k5 k6; obtain ⟨k0, k1, k2, k3, k4, k5, k6⟩ := box7 K.out.2)))
    all_goals
      go_wp2_with fail
      go_meet
      exact ⟨HR4.out, K.out.1, K.out.2⟩
  case rest =>
  obtain ⟨hown, hb, hW⟩ := hcut
  have HO0 := Lib.hid hown
  have HB0 := Lib.hid hb
  have HW0 := Lib.hid hW
  clear hown hb hW K
  obtain ⟨i0, z, hi, hz0, hz1, hz2, hzs⟩ := info5
  generalize hP : ((putNum n ++ putNum (zig m)) ++ (putNum s.size ++ strBytes s)) ++ putSet a b c d = P at HO0
  have hPl : P.length ≤ 1000 := by
    have := HLL.out
    rw [← hP]
    simp only [List.length_append]
    omega
  have HP := Lib.hid hP
  clear hP
  go_wp2_with fail
  go_loopw [5, 39] (fun u i wr => ∃ k : Nat, k ≤ ts.length ∧ i = .int .i64 k ∧ OwnB wr w.heap.size u (P ++ ts.take k) ∧ Below w.heap.size w wr ∧ Hid (Whole wr w.heap.size 36 #[.int .u64 n, .int .i64 m, .string s, .int .u64 a, .int .u64 b, .int .u64 c, .int .u64 d])) (fun _ i _ => ts.length - (intOf i).toNat)
  case atStart => exact ⟨0, Nat.zero_le _, rfl, by simpa using HO0.out, HB0.out, HW0.out⟩
  case round =>
    clear HO0 HB0 HW0
    obtain ⟨k, hk, rfl, hown, hb, hW⟩ := hrel
    have HO := Lib.hid hown
    clear hown
    have hlk : (P ++ ts.take k).length ≤ 1000 + k := by rw [List.length_append]; have := List.length_take_le k ts; omega
    by_cases hlt : k < ts.length
    · obtain ⟨y, bb, off, rfl, hy, hyb, hcell⟩ := HA.out k hlt
      replace hcell := cell_later hb hcell
      have HY := Lib.hid hy
      clear hy
      go_wp2_with (at_builtin; refine wpList_append_own _ rfl _ _ 22 rfl w.heap.size 5 i0 z 1 1 Try.underlying22 hi hz0 hz1 hz2 hzs (by decide) _ _ _ rfl (HO.out.1.alloc _) ⟨wr.heap.size, 0, none⟩ 1 1 [.int .u8 (y : Int)] rfl rfl (cell_one_new _ _ _) ?c2 ?c3 ?c4 ?c5 ?_)
      case c2 => simp [Value.oneCell']
      case c3 => unfold maxLen; omega
      case c4 => omega
      case c5 => have := hb.size; simp; omega
      intro v' w2 hown' hgrow hnil
      have hb1 := (hb.alloc hb.size _).grown hgrow (by have := hb.size; simp; omega) (fun q hq => by have := (HO.out.1.lt q hq).1; omega)
      have HWn := Lib.hid ((hW.out.alloc (.cells #[.int .u8 (y : Int)] 5)).grown hgrow (fun e => own_blk_far HO.out.1 hW.out (by decide) e.symm))
      have HN := Lib.hid hown'
      clear hgrow hnil hown' hW
      go_wp2
      go_roundw
      case rel => exact ⟨k + 1, by omega, by go_num, by rw [take_snoc HY.out, ← List.append_assoc]; exact OwnB.snoc HN.out (by simp; omega) HO.out.2 hyb, hb1, HWn.out⟩
      case measure => simp [intOf]; omega
    · obtain rfl : k = ts.length := by omega
      have HT := Lib.hid (show BytesAt wr _ (putNum n ++ (putNum (zig m) ++ ((putNum s.size ++ strBytes s) ++ (putSet a b c d ++ ts)))) by
        have h1 := HO.out.at
        rw [List.take_length, ← HP.out] at h1
        simpa [List.append_assoc] using h1)
      have B0 := Lib.hid hb
      obtain ⟨w0, rfl⟩ : ∃ w0 : World, w0 = wr := ⟨_, rfl⟩
      clear HO hlk hlt hk hb
      go_wp2_with fail
      refine (number_bl _ _ _ HT.out _ _ _ (number_put n _ hn)).mono ?_
      rintro e w1 ⟨r1, rfl, hr, hb⟩
      have H1 := Lib.hid hr
      have B1 := Lib.hid hb
      have W1 := Lib.hid (Whole.under hb hW.out (Whole.lt hW.out))
      clear hr hb
      go_wp2_with fail
      refine (signed_bl _ _ _ H1.out _ _ _ (signed_put m _ hm)).mono ?_
      rintro e w2 ⟨r2, rfl, hr, hb⟩
      have H2 := Lib.hid hr
      have B2 := Lib.hid hb
      have W2 := Lib.hid (Whole.under hb W1.out (Whole.lt W1.out))
      clear hr hb
      have kc := (box7 W2.out).2.2.1
      go_wp2_with fail
      refine (text_bl _ _ s.size _ H2.out (by omega) _ _ _ (text_put s _ hs)).mono ?_
      rintro e w3 ⟨r3, rfl, hr, hb⟩
      rw [strOf_strBytes]
      have H3 := Lib.hid hr
      have B3 := Lib.hid hb
      have W3 := Lib.hid (Whole.under hb W2.out (Whole.lt W2.out))
      clear hr hb kc
      go_wp2_with fail
      refine (set_lit _ _ _ H3.out _ _ _ _ _ _ (set_put a b c d ts ha hb0 hc hd)).mono ?_
      rintro e w4 ⟨r4, rfl, hr, hb⟩
      have H4 := Lib.hid hr
      have B4 := Lib.hid hb
      have W4 := Lib.hid (Whole.under hb W3.out (Whole.lt W3.out))
      clear hr hb
      obtain ⟨k0, k1, k2, k3, k4, k5, k6⟩ := box7 (W4.out.alloc (.cells #[.int .u64 a, .int .u64 b, .int .u64 c, .int .u64 d] 34))
      have q := fun W : World => eq4 a b c d W
      go_wp2_with fail
      clear q k0 k1 k2 k3 k4 k5 k6
      have C4 := Lib.hid (bt (bt (bt (bt B0.out B1.out) B2.out) B3.out) B4.out)
      refine (same_bl r4 _ ts ts _ (H4.out.keep (bal _ _)) (H0.out.keep (bt C4.out (bal _ _))) rfl).mono ?_
      rintro e w5 ⟨rfl, hb⟩
      have C5 := Lib.hid (bt (bt C4.out (bal _ _)) hb)
      clear hb
      go_wp2_with fail
      refine (awake_any _).mono ?_
      rintro e w6 ⟨rfl, hb⟩
      have C6 := Lib.hid (bt C5.out hb)
      clear hb
      go_wp2_with fail
      go_ret
      exact ⟨rfl, C6.out⟩

set_option maxRecDepth 100000 in
set_option maxHeartbeats 1000000 in
theorem octetRoundTrip_long (n m a b c d : Int) (s : ByteArray) (v : Value) (w : World) (hs : 400 < s.size) :
    Calls Try.prog 4 #[.agg #[.int .u64 n, .int .i64 m, .string s, .int .u64 a, .int .u64 b, .int .u64 c, .int .u64 d], v] w fun e w' => e = .returned (.bool true) ∧ Below w.heap.size w w' := by
  have hcell := (box7 (Whole.new w 36 #[.int .u64 n, .int .i64 m, .string s, .int .u64 a, .int .u64 b, .int .u64 c, .int .u64 d])).2.2.1
  have t1 : (400 : Int) < (s.size : Int) := by omega
  clear hs
  go_enter Try.func4, Try.ntmps4
  go_wp2_with fail
  refine (awake_any _).mono ?_
  rintro e w6 ⟨rfl, hb⟩
  have C6 := Lib.hid (bt (bal _ _) hb)
  clear hb
  go_wp2_with fail
  go_ret
  exact ⟨rfl, C6.out⟩

set_option maxRecDepth 100000 in
set_option maxHeartbeats 1000000 in
theorem octetRoundTrip_tail (n m a b c d : Int) (s : ByteArray) (v : Value) (ts : List Nat) (w : World) (h : BytesAt w v ts) (hs : s.size ≤ 400) (hl : ¬ ts.length ≤ 400) :
    Calls Try.prog 4 #[.agg #[.int .u64 n, .int .i64 m, .string s, .int .u64 a, .int .u64 b, .int .u64 c, .int .u64 d], v] w fun e w' => e = .returned (.bool true) ∧ Below w.heap.size w w' := by
  have hcell := (box7 (Whole.new w 36 #[.int .u64 n, .int .i64 m, .string s, .int .u64 a, .int .u64 b, .int .u64 c, .int .u64 d])).2.2.1
  have HX := Lib.hid (h.keep (bal w (.cells #[.int .u64 n, .int .i64 m, .string s, .int .u64 a, .int .u64 b, .int .u64 c, .int .u64 d] 36)))
  have HSH := Lib.hid (show Ending.returned (.bool (decide (ts.length ≤ 400))) = .returned (.bool false) by simp; omega)
  have t1 : ¬ (400 : Int) < (s.size : Int) := by omega
  clear hs hl h
  go_enter Try.func4, Try.ntmps4
  go_wp2_with fail
  refine (short_any v ts _ HX.out).mono ?_
  rintro e w1 ⟨hq, hb⟩
  have B1 := Lib.hid (bt (bal _ _) hb)
  rw [HSH.out] at hq
  subst hq
  clear hb hcell
  go_wp2_with fail
  refine (awake_any _).mono ?_
  rintro e w6 ⟨rfl, hb⟩
  have C6 := Lib.hid (bt B1.out hb)
  clear hb
  go_wp2_with fail
  go_ret
  exact ⟨rfl, C6.out⟩
theorem octetRoundTrip_any (n : Nat) (m : Int) (s : ByteArray) (a b c d : Nat) (v : Value) (ts : List Nat) (w : World) (h : BytesAt w v ts) (hn : U64 n) (hm : I64 m) (ha : U64 a) (hb0 : U64 b) (hc : U64 c) (hd : U64 d) :
    Calls Try.prog 4 #[.agg #[.int .u64 n, .int .i64 m, .string s, .int .u64 a, .int .u64 b, .int .u64 c, .int .u64 d], v] w fun e w' => e = .returned (.bool true) ∧ Below w.heap.size w w' := by
  by_cases hs : s.size ≤ 400
  · by_cases hl : ts.length ≤ 400
    · exact octetRoundTrip_core n m s a b c d v ts w h hl hs hn hm ha hb0 hc hd
    · exact octetRoundTrip_tail n m a b c d s v ts w h hs hl
  · exact octetRoundTrip_long n m a b c d s v w (by omega)

theorem u64_nat {k : Int} (h : (Lit.int .u64 k).wf = true) : ∃ n : Nat, k = (n : Int) ∧ U64 n := by
  have hb := bounds_u64 h
  refine ⟨k.toNat, (Int.toNat_of_nonneg hb.1).symm, ?_⟩
  unfold U64
  omega
theorem list4 {α} {l : List α} (h : l.length = 4) : ∃ a b c d, l = [a, b, c, d] := by
  match l, h with
  | [a, b, c, d], _ => exact ⟨a, b, c, d, rfl⟩
set_option maxRecDepth 100000 in
theorem set_open {w : World} {f : Nat} {cs : List Value} (h : Rd Try.prog w f 34 cs) : ∃ a b c d : Nat, cs = [.int .u64 a, .int .u64 b, .int .u64 c, .int .u64 d] ∧ U64 a ∧ U64 b ∧ U64 c ∧ U64 d := by
  obtain ⟨f', rfl, es, rfl, hl, hx⟩ := h.array Try.underlying34
  obtain ⟨x0, x1, x2, x3, rfl⟩ := list4 hl
  obtain ⟨s0, rfl, h0⟩ := (hx x0 (by simp)).2.int Try.underlying32
  obtain ⟨s1, rfl, h1⟩ := (hx x1 (by simp)).2.int Try.underlying32
  obtain ⟨s2, rfl, h2⟩ := (hx x2 (by simp)).2.int Try.underlying32
  obtain ⟨s3, rfl, h3⟩ := (hx x3 (by simp)).2.int Try.underlying32
  obtain ⟨a, rfl, ha⟩ := u64_nat h0
  obtain ⟨b, rfl, hb⟩ := u64_nat h1
  obtain ⟨c, rfl, hc⟩ := u64_nat h2
  obtain ⟨d, rfl, hd⟩ := u64_nat h3
  exact ⟨a, b, c, d, rfl, ha, hb, hc, hd⟩
set_option maxRecDepth 100000 in
theorem values_open {w : World} {v : Value} (h : Arg Try.prog w 36 v) : ∃ (n : Nat) (m : Int) (s : ByteArray) (a b c d : Nat), v = .agg #[.int .u64 n, .int .i64 m, .string s, .int .u64 a, .int .u64 b, .int .u64 c, .int .u64 d] ∧ U64 n ∧ I64 m ∧ U64 a ∧ U64 b ∧ U64 c ∧ U64 d := by
  obtain ⟨f, cs, h, rfl⟩ := h
  rw [Try.underlying36]
  obtain ⟨f', rfl, hq⟩ := h.struct Try.underlying36
  obtain ⟨c0, _, rfl, -, q0, c1, _, rfl, -, q1, c2, _, rfl, -, q2, c3, _, rfl, -, q3, hn⟩ := hq
  obtain rfl : _ = [] := hn
  obtain ⟨n, rfl, wn⟩ := q0.int Try.underlying32
  obtain ⟨m, rfl, wm⟩ := q1.int Try.underlying2
  obtain ⟨s, rfl, _⟩ := q2.string Try.underlying9
  obtain ⟨a, b, c, d, rfl, ha, hb, hc, hd⟩ := set_open q3
  obtain ⟨n, rfl, hn⟩ := u64_nat wn
  have hm := bounds_i64 wm
  exact ⟨n, m, s, a, b, c, d, rfl, hn, ⟨by omega, by omega⟩, ha, hb, hc, hd⟩
end Go.Proofs.Ytibikehfeobikaa

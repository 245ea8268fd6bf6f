import Derived.WalkKit
import Derived.WalkSpells
import Derived.WalkLawsBesides
import Derived.Handy
import Derived.BigQuiet
import Derived.Outline
import Derived.Deep.RegionHeld3
import Derived.Deep.DeepCutAuto
import Derived.Deep.DeepMust
import Derived.Deep.DeepFit
import Derived.Deep.LoopGhost
import Derived.Lib.Hide
import Derived.IntWalk
import Derived.Deep.CutBlock
import Derived.Deep.RegionWith
import Derived.Deep.QuietTactic
import Derived.Test.YtibikehfeobikaaA
/-
  THE CONTRACTS of Glue, Seal (both), Open (both), front.
-/
namespace Go.Proofs.Ytibikehfeobikaa
open Go.RowKit

theorem sumF_ok (l : List Nat) : ∀ n : Int, 0 ≤ n → n < 4294967296 → 0 ≤ l.foldl sumStep n ∧ l.foldl sumStep n < 4294967296 := by
  induction l with
  | nil => intro n h0 h1; exact ⟨h0, h1⟩
  | cons c l ih => intro n _ _; exact ih _ (by unfold sumStep; omega) (by unfold sumStep; omega)
theorem sum_ok (l : List Nat) : 0 ≤ sumF l ∧ sumF l < 4294967296 := sumF_ok l _ (by omega) (by omega)
theorem OwnB.snoc {w : World} {B : Nat} {v : Value} {xs : List Nat} {y n : Nat} (h : w.ownsRow B 5 1 v n (byteCells xs ++ [.int .u8 (y : Int)])) (hn : n = xs.length + 1) (hx : Bytes xs) (hy : y < 256) : OwnB w B v (xs ++ [y]) :=
  ⟨by subst hn; rw [List.length_append]; simpa [byteCells] using h, hx.append fun z hz => by simp at hz; omega⟩

set_option maxHeartbeats 1000000 in
theorem glue_any (v s : Value) (xs ys : List Nat) (w : World) (h : BytesAt w v xs) (hs : BytesAt w s ys) (hn : xs.length + ys.length ≤ 100000) :
    Calls Try.prog 25 #[v, s] w fun e w' => ∃ r, e = .returned r ∧ OwnB w' w.heap.size r (xs ++ ys) ∧ Below w.heap.size w w' := by
  obtain ⟨i0, z, hi, hz0, hz1, hz2, hzs⟩ := info5
  obtain ⟨a, c, rfl, hc, hm, ha⟩ := bytesOpen h
  obtain ⟨a', c', rfl, hc', hm', ha'⟩ := bytesOpen hs
  have HA := Lib.hid ha
  have HA' := Lib.hid ha'
  clear ha ha' h hs
  go_enter Try.func25, Try.ntmps25
  go_wp2
  go_loopw [5, 6] (fun v i wr => ∃ k : Nat, k ≤ xs.length ∧ i = .int .i64 k ∧ OwnB wr w.heap.size v (xs.take k) ∧ Below w.heap.size w wr) (fun _ i _ => xs.length - (intOf i).toNat)
  case atStart => exact ⟨0, Nat.zero_le _, rfl, OwnB.nil _ _, Below.refl _ _⟩
  case round =>
    obtain ⟨k, hk, rfl, hown, hb⟩ := hrel
    have HO := Lib.hid hown
    clear hown
    have hlk : (xs.take k).length ≤ k := List.length_take_le k xs
    by_cases hlt : k < xs.length
    · obtain ⟨y, b, off, rfl, hy, hyb, hcell⟩ := HA.out k hlt
      replace hcell := cell_later hb hcell
      have HY := Lib.hid hy
      clear hy
      go_wp2_with (at_builtin; refine wpList_append_own _ rfl _ _ 22 rfl w.heap.size 5 i0 z 1 1 Try.underlying22 hi hz0 hz1 hz2 hzs (by decide) _ _ _ rfl (HO.out.1.alloc _) ⟨wr.heap.size, 0, none⟩ 1 1 [.int .u8 (y : Int)] rfl rfl (cell_one_new _ _ _) ?c2 ?c3 ?c4 ?c5 ?_)
      case c2 => simp [Value.oneCell']
      case c3 => unfold maxLen; omega
      case c4 => omega
      case c5 => have := hb.size; simp; omega
      intro v' w1 hown' hgrow hnil
      have hb1 := (hb.alloc hb.size _).grown hgrow (by have := hb.size; simp; omega) (fun q hq => by have := (HO.out.1.lt q hq).1; omega)
      have HN := Lib.hid hown'
      clear hgrow hnil hown'
      go_wp2
      go_roundw
      case rel => exact ⟨k + 1, by omega, by go_num, by rw [take_snoc HY.out]; exact OwnB.snoc HN.out (by simp; omega) HO.out.2 hyb, hb1⟩
      case measure => simp [intOf]; omega
    · obtain rfl : k = xs.length := by omega
      obtain ⟨wo, rfl⟩ : ∃ wo : World, wo = wr := ⟨_, rfl⟩
      have HX := Lib.hid (show OwnB wo w.heap.size _ xs by have := HO.out; rwa [List.take_length] at this)
      clear HO hlk hlt hk
      go_wp2
      go_loopw [5, 7] (fun v i wr => ∃ k : Nat, k ≤ ys.length ∧ i = .int .i64 k ∧ OwnB wr w.heap.size v (xs ++ ys.take k) ∧ Below w.heap.size w wr) (fun _ i _ => ys.length - (intOf i).toNat)
      case atStart => exact ⟨0, Nat.zero_le _, rfl, by simpa using HX.out, hb⟩
      case round =>
        clear hb HX
        obtain ⟨k, hk, rfl, hown, hb⟩ := hrel
        have HO := Lib.hid hown
        clear hown
        have hlk : (xs ++ ys.take k).length ≤ xs.length + k := by rw [List.length_append]; have := List.length_take_le k ys; omega
        by_cases hlt : k < ys.length
        · obtain ⟨y, b, off, rfl, hy, hyb, hcell⟩ := HA'.out k hlt
          replace hcell := cell_later hb hcell
          have HY := Lib.hid hy
          clear hy
          go_wp2_with (at_builtin; refine wpList_append_own _ rfl _ _ 22 rfl w.heap.size 5 i0 z 1 1 Try.underlying22 hi hz0 hz1 hz2 hzs (by decide) _ _ _ rfl (HO.out.1.alloc _) ⟨wr.heap.size, 0, none⟩ 1 1 [.int .u8 (y : Int)] rfl rfl (cell_one_new _ _ _) ?c2 ?c3 ?c4 ?c5 ?_)
          case c2 => simp [Value.oneCell']
          case c3 => unfold maxLen; omega
          case c4 => omega
          case c5 => have := hb.size; simp; omega
          intro v' w1 hown' hgrow hnil
          have hb1 := (hb.alloc hb.size _).grown hgrow (by have := hb.size; simp; omega) (fun q hq => by have := (HO.out.1.lt q hq).1; omega)
          have HN := Lib.hid hown'
          clear hgrow hnil hown'
          go_wp2
          go_roundw
          case rel => exact ⟨k + 1, by omega, by go_num, by rw [take_snoc HY.out, ← List.append_assoc]; exact OwnB.snoc HN.out (by simp; omega) HO.out.2 hyb, hb1⟩
          case measure => simp [intOf]; omega
        · obtain rfl : k = ys.length := by omega
          go_wp2
          go_ret
          exact ⟨_, rfl, by have := HO.out; rwa [List.take_length] at this, hb⟩

theorem BytesAt.new {w w' : World} {g : Nat} {l : List Nat} (h : Whole w g 5 (byteCells l).toArray) (hb : Below w.heap.size w w') (hl : l.length ≤ 100000) (hx : Bytes l) : BytesAt w' (.slice (some ⟨g, 0, none⟩) l.length l.length) l := by
  refine BytesAt.keep ⟨⟨by simp [byteCells], by unfold maxLen; omega, byte_one l, .inr ⟨_, _, rfl, Nat.le_refl _, fun j u hu => ?_⟩⟩, hx⟩ hb
  rw [Addr.add_lit, Nat.zero_add, h.cell]
  simpa using hu

theorem front_any (v s t : Value) (xs ys zs : List Nat) (w : World) (h : BytesAt w v xs) (hs : BytesAt w s ys) (ht : BytesAt w t zs) (hn : xs.length + ys.length ≤ 100000) :
    Calls Try.prog 23 #[v, s, t] w fun e w' => e = .returned (.bool (decide (xs ++ ys = zs))) ∧ Below w.heap.size w w' := by
  have H := Lib.hid (glue_any v s xs ys w h hs hn)
  have HT := Lib.hid ht
  clear h hs ht hn
  go_enter Try.func23, Try.ntmps23
  go_wp2_with fail
  refine H.out.mono ?_
  rintro e w1 ⟨r, rfl, hr, hb⟩
  have HB := Lib.hid hb
  go_wp2_with fail
  refine (same_any r t (xs ++ ys) zs w1 hr.at (HT.out.keep hb)).mono ?_
  rintro e w2 ⟨rfl, hb2⟩
  go_wp2_with fail
  go_ret
  exact ⟨rfl, HB.out.trans (hb2.mono HB.out.size)⟩

/-- The four bytes of the checksum. -/
def sumBytes (n : Int) : List Nat := [(n % 256).toNat, (n / 256 % 256).toNat, (n / 65536 % 256).toNat, (n / 16777216).toNat]

theorem sumBytes_ok {n : Int} (h0 : 0 ≤ n) (h1 : n < 4294967296) : Bytes (sumBytes n) := fun x hx => by
  simp only [sumBytes, List.mem_cons, List.not_mem_nil, or_false] at hx
  rcases hx with rfl | rfl | rfl | rfl <;> omega
theorem sumBytes_cells {n : Int} (h0 : 0 ≤ n) : (byteCells (sumBytes n)).toArray = #[.int .u8 (n % 256), .int .u8 (n / 256 % 256), .int .u8 (n / 65536 % 256), .int .u8 (n / 16777216)] := by
  have e1 : ((n % 256).toNat : Int) = n % 256 := Int.toNat_of_nonneg (by omega)
  have e2 : ((n / 256 % 256).toNat : Int) = n / 256 % 256 := Int.toNat_of_nonneg (by omega)
  have e3 : ((n / 65536 % 256).toNat : Int) = n / 65536 % 256 := Int.toNat_of_nonneg (by omega)
  have e4 : ((n / 16777216).toNat : Int) = n / 16777216 := Int.toNat_of_nonneg (by omega)
  simp only [byteCells, sumBytes, List.map_cons, List.map_nil, e1, e2, e3, e4]
/-- The slice of these four bytes, just made. -/
theorem sumBytes_new (w : World) {n : Int} (h0 : 0 ≤ n) (h1 : n < 4294967296) :
    BytesAt (w.alloc (.cells #[.int .u8 (n % 256), .int .u8 (n / 256 % 256), .int .u8 (n / 65536 % 256), .int .u8 (n / 16777216)] 5)) (.slice (some ⟨w.heap.size, 0, none⟩) 4 4) (sumBytes n) := by
  rw [← sumBytes_cells h0]
  exact BytesAt.new (l := sumBytes n) (Whole.new w 5 _) (Below.refl _ _) (by simp [sumBytes]) (sumBytes_ok h0 h1)

set_option maxHeartbeats 1000000 in
theorem rseal_any (v : Value) (xs : List Nat) (w : World) (h : BytesAt w v xs) (hn : xs.length ≤ 90000) :
    Calls Try.prog 14 #[v] w fun e w' => ∃ r, e = .returned r ∧ OwnB w' w.heap.size r (xs ++ sumBytes (sumF xs)) ∧ Below w.heap.size w w' := by
  have HX := Lib.hid h
  have hs := sum_ok xs
  generalize hg : sumF xs = n at hs
  have HS := Lib.hid (fun W h => rsum_any v xs W h)
  rw [hg] at HS
  clear h hg
  obtain ⟨hs0, hs1⟩ := hs
  go_enter Try.func14, Try.ntmps14
  go_wp2_with fail
  refine (HS.out _ HX.out).mono ?_
  rintro e w1 ⟨rfl, rfl⟩
  go_wp2_with fail
  refine (glue_any v _ xs (sumBytes n) _ (HX.out.keep (by go_grown)) (sumBytes_new w hs0 hs1) (by simp [sumBytes]; omega)).mono ?_
  rintro e w1 ⟨r, rfl, hr, hb⟩
  have HR := Lib.hid hr
  have HB := Lib.hid (below_of_alloc (by simpa using hb))
  clear hr hb
  go_wp2_with fail
  go_ret
  exact ⟨r, rfl, HR.out.low (by simp), HB.out⟩

/-- append(b, s...) where b is our own and s reads as bytes. -/
theorem wpList_append_bytes {w : World} {ops : Array Oper} {rest : List Oper} {o : Oper} {a : Act} {Q : Exit → Act → World → Prop} (hgd : o.guard = none) (s x : Operand)
    (ho : o.op = .call { callee := .builtin .append, args := #[s, x], argTypes := #[22, 22] }) (B : Nat) (v u : Value) (xs ys : List Nat) (hs : a.eval s = v) (hx : a.eval x = u) (hown : OwnB w B v xs) (hu : BytesAt w u ys) (hB : B ≤ w.heap.size) (hn : xs.length + ys.length ≤ 100000)
    (h : ∀ v' w', OwnB w' B v' (xs ++ ys) → w.grownBy w' v.ownBlock → wpList Try.prog ops Q rest (a.put o.dst v') w') : wpList Try.prog ops Q (o :: rest) a w := by
  obtain ⟨i0, z, hi, hz0, hz1, hz2, hzs⟩ := info5
  obtain ⟨hl, hm, h1, ⟨rfl, hl0⟩ | ⟨ad, c, rfl, -, hc⟩⟩ := hu.1
  · obtain rfl : ys = [] := List.eq_nil_of_length_eq_zero hl0
    exact wpList_append_own_none hgd s x 22 ho B 5 i0 1 Try.underlying22 hi v _ _ hs hown.1 hx (h v w (by rw [List.append_nil]; exact hown) ⟨rfl, rfl, rfl, Nat.le_refl _, fun _ _ _ => rfl⟩)
  · refine wpList_append_own _ hgd s x 22 ho B 5 i0 z 1 1 Try.underlying22 hi hz0 hz1 hz2 hzs (by decide) v _ _ hs hown.1 ad ys.length c (byteCells ys) hx hl hc h1 (by unfold maxLen; omega) (by omega) hB fun v' w' h2 h3 _ => h v' w' ⟨?_, hown.2.append hu.2⟩ h3
    rw [byteCells_append, List.length_append]
    exact h2
theorem own_made (w : World) : OwnB (w.alloc (.cells #[] 5)) w.heap.size (.slice (some ⟨w.heap.size, 0, none⟩) 0 0) [] :=
  ⟨World.ownsRow_made (base := w.heap.size) (e := 5) (size := 1) w #[] 0 (Nat.le_refl _) (Nat.zero_le _) (by simp), by intro x hx; cases hx⟩

set_option maxHeartbeats 1000000 in
theorem seal_any (v : Value) (xs : List Nat) (w : World) (h : BytesAt w v xs) (hn : xs.length ≤ 90000) :
    Calls Try.prog 10 #[v] w fun e w' => ∃ r, e = .returned r ∧ OwnB w' w.heap.size r (xs ++ sumBytes (sumF xs)) ∧ Below w.heap.size w w' := by
  have HX := Lib.hid h
  have hs := sum_ok xs
  generalize hg : sumF xs = n at hs
  have HS := Lib.hid (fun W h => sum_any v xs W h)
  rw [hg] at HS
  clear hg
  obtain ⟨hs0, hs1⟩ := hs
  have HM := Lib.hid (own_made w)
  have HX1 := Lib.hid (h.keep (w' := w.alloc (.cells #[] 5)) (by go_grown))
  clear h
  go_enter Try.func10, Try.ntmps10
  go_wp2_with fail
  refine (HS.out _ HX.out).mono ?_
  rintro e w1 ⟨rfl, rfl⟩
  go_wp2_with (at_builtin; refine wpList_append_bytes rfl _ _ rfl w.heap.size _ _ [] xs rfl rfl HM.out HX1.out (by simp) (by simp; omega) ?_)
  intro v' w1 ho hg
  have HO := Lib.hid ho
  have HB := Lib.hid (((Below.refl _ w).alloc (Nat.le_refl _) _).grown hg (by simp) (by intro k hk; simp [Value.ownBlock] at hk; omega))
  clear ho hg
  go_wp2_with fail
  have hz := HB.out.size
  refine (joined_any v' _ xs (sumBytes n) w.heap.size _ (HO.out.keep (by go_grown)) (sumBytes_new w1 hs0 hs1) (by simp; omega) (by simp [sumBytes]; omega)).mono ?_
  rintro e w2 ⟨r, rfl, hr, hb, -⟩
  have HR := Lib.hid hr
  have HB2 := Lib.hid ((HB.out.alloc hz _).trans hb)
  clear hr hb hz
  go_wp2_with fail
  go_ret
  exact ⟨r, rfl, HR.out, HB2.out⟩

/-- Open: the bytes, and the error. -/
def openF (l : List Nat) : List Nat × Int :=
  if l.length < 4 then ([], 5) else if l.drop (l.length - 4) = sumBytes (sumF (l.take (l.length - 4))) then (l.take (l.length - 4), 0) else ([], 7)

set_option maxHeartbeats 1000000 in
theorem ropen_any (v : Value) (xs : List Nat) (w : World) (h : BytesAt w v xs) (hn : xs.length ≤ 90000) :
    Calls Try.prog 9 #[v] w fun e w' => ∃ r, e = .returned (.tuple #[r, .int .i64 (openF xs).2]) ∧ BytesAt w' r (openF xs).1 ∧ Below w.heap.size w w' := by
  by_cases h4 : xs.length < 4
  · have e : openF xs = ([], 5) := by simp [openF, h4]
    rw [e]
    obtain ⟨a, c, rfl, hc, hm, ha⟩ := bytesOpen h
    clear ha h e
    go_enter Try.func9, Try.ntmps9
    go_wp2
    go_ret2
    exact ⟨_, rfl, BytesAt.nil _, Below.refl _ _⟩
  · have HX := Lib.hid h
    obtain ⟨a, c, rfl, hc, hm, ha⟩ := bytesOpen h
    obtain ⟨y, b, off, rfl, -⟩ := ha 0 (by omega)
    have HF := Lib.hid (h.part (i := 0) (j := xs.length - 4) (c' := c) (Nat.zero_le _) (by omega) (by omega))
    have hsp : xs.take (xs.length - 4) ++ xs.drop (xs.length - 4) = xs := List.take_append_drop _ _
    have hlt : (xs.take (xs.length - 4)).length = xs.length - 4 := by rw [List.length_take]; omega
    have HQ := Lib.hid (fun W h => rseal_any (.slice (some ⟨b, off, none⟩) (xs.length - 4) c) (xs.take (xs.length - 4)) W h (by omega))
    clear ha h
    simp only [Addr.add_lit, Nat.add_zero, Nat.sub_zero, List.drop_zero] at HF
    by_cases he : xs.drop (xs.length - 4) = sumBytes (sumF (xs.take (xs.length - 4)))
    · have e : openF xs = (xs.take (xs.length - 4), 0) := by simp [openF, h4, he]
      have hd : decide (xs.take (xs.length - 4) ++ sumBytes (sumF (xs.take (xs.length - 4))) = xs) = true := by rw [← he, hsp]; simp
      rw [e]
      have HD := Lib.hid hd
      clear he e hd hsp hlt
      go_enter Try.func9, Try.ntmps9
      go_wp2_with fail
      refine (HQ.out _ HF.out).mono ?_
      rintro e w1 ⟨r, rfl, hr, hb⟩
      have hs := same_any r (.slice (some ⟨b, off, none⟩) xs.length c) _ xs w1 hr.at (HX.out.keep hb)
      rw [HD.out] at hs
      have HB := Lib.hid hb
      clear hr hb
      go_wp2_with fail
      refine hs.mono ?_
      rintro e w2 ⟨rfl, hb2⟩
      have HB2 := Lib.hid (HB.out.trans (hb2.mono HB.out.size))
      clear hb2 hs
      go_wp2_with fail
      go_ret2
      exact ⟨_, rfl, HF.out.keep HB2.out, HB2.out⟩
    · have e : openF xs = ([], 7) := by simp [openF, h4, he]
      have hd : decide (xs.take (xs.length - 4) ++ sumBytes (sumF (xs.take (xs.length - 4))) = xs) = false := by
        rw [decide_eq_false_iff_not]
        intro h
        exact he (List.append_cancel_left (hsp.trans h.symm))
      rw [e]
      have HD := Lib.hid hd
      clear he e hd hsp hlt
      go_enter Try.func9, Try.ntmps9
      go_wp2_with fail
      refine (HQ.out _ HF.out).mono ?_
      rintro e w1 ⟨r, rfl, hr, hb⟩
      have hs := same_any r (.slice (some ⟨b, off, none⟩) xs.length c) _ xs w1 hr.at (HX.out.keep hb)
      rw [HD.out] at hs
      have HB := Lib.hid hb
      clear hr hb
      go_wp2_with fail
      refine hs.mono ?_
      rintro e w2 ⟨rfl, hb2⟩
      have HB2 := Lib.hid (HB.out.trans (hb2.mono HB.out.size))
      clear hb2 hs
      go_wp2_with fail
      go_ret2
      exact ⟨_, rfl, BytesAt.nil _, HB2.out⟩

theorem sumBytes_at (n : Int) (h0 : 0 ≤ n) (h1 : n < 4294967296) (k : Nat) (hk : k < 4) : ∃ m : Nat, (sumBytes n)[k]? = some m ∧ (m : Int) = n / 256 ^ k % 256 := by
  match k, hk with
  | 0, _ => exact ⟨_, rfl, by simp; omega⟩
  | 1, _ => exact ⟨_, rfl, by simp; omega⟩
  | 2, _ => exact ⟨_, rfl, by simp; omega⟩
  | 3, _ => exact ⟨_, rfl, by simp; omega⟩

set_option maxHeartbeats 1000000 in
theorem open_any (v : Value) (xs : List Nat) (w : World) (h : BytesAt w v xs) (hn : xs.length ≤ 90000) :
    Calls Try.prog 8 #[v] w fun e w' => ∃ r, e = .returned (.tuple #[r, .int .i64 (openF xs).2]) ∧ BytesAt w' r (openF xs).1 ∧ Below w.heap.size w w' := by
  by_cases h4 : xs.length < 4
  · have e : openF xs = ([], 5) := by simp [openF, h4]
    rw [e]
    obtain ⟨a, c, rfl, hc, hm, ha⟩ := bytesOpen h
    clear ha h e
    go_enter Try.func8, Try.ntmps8
    go_wp2
    go_ret2
    exact ⟨_, rfl, BytesAt.nil _, Below.refl _ _⟩
  · obtain ⟨a, c, rfl, hc, hm, ha⟩ := bytesOpen h
    obtain ⟨y, b, off, rfl, -⟩ := ha 0 (by omega)
    have HA := Lib.hid ha
    have hpart := h.part (i := 0) (j := xs.length - 4) (c' := c) (Nat.zero_le _) (by omega) (by omega)
    simp only [Addr.add_lit, Nat.add_zero, Nat.sub_zero, List.drop_zero] at hpart
    have HF := Lib.hid hpart
    clear hpart
    have hlt : (xs.take (xs.length - 4)).length = xs.length - 4 := by rw [List.length_take]; omega
    have HS := Lib.hid (fun W h => sum_any (.slice (some ⟨b, off, none⟩) (xs.length - 4) c) (xs.take (xs.length - 4)) W h)
    have hs := sum_ok (xs.take (xs.length - 4))
    have ho : openF xs = if xs.drop (xs.length - 4) = sumBytes (sumF (xs.take (xs.length - 4))) then (xs.take (xs.length - 4), 0) else ([], 7) := by simp [openF, h4]
    generalize sumF (xs.take (xs.length - 4)) = n at HS hs ho
    obtain ⟨hs0, hs1⟩ := hs
    have HO := Lib.hid ho
    have HL := Lib.hid hlt
    have HM := Lib.hid (fun w : World => own_made w)
    clear ha h ho hlt
    go_enter Try.func8, Try.ntmps8
    go_wp2_with fail
    refine (HS.out _ HF.out).mono ?_
    rintro e w1 ⟨rfl, rfl⟩
    go_wp2_with fail
    go_loopw [17] (fun i wr => ∃ k : Nat, k ≤ 4 ∧ i = .int .i64 k ∧ Hid (∀ j, j < k → xs[xs.length - 4 + j]? = (sumBytes n)[j]?) ∧ Below w.heap.size w wr) (fun i _ => 4 - (intOf i).toNat)
    case atStart => exact ⟨0, Nat.zero_le _, rfl, fun j hj => by omega, Below.refl _ _⟩
    case round =>
      obtain ⟨k, hk, rfl, hpre, hb⟩ := hrel
      by_cases hlt : k < 4
      · obtain ⟨y, b', off', hbo, hy, hyb, hcell⟩ := HA.out (xs.length - 4 + k) (by omega)
        simp only [Option.some.injEq, Addr.mk.injEq, and_true] at hbo
        obtain ⟨rfl, rfl⟩ := hbo
        replace hcell := cell_later hb hcell
        obtain ⟨m, hm1, hm2⟩ := sumBytes_at n hs0 hs1 k hlt
        have HY := Lib.hid (And.intro hy hm1)
        clear hy hm1
        obtain rfl | rfl | rfl | rfl : k = 0 ∨ k = 1 ∨ k = 2 ∨ k = 3 := by omega
        · have hcl : wr.cell? ⟨b, off + (xs.length - 4), none⟩ = some (.int .u8 y) := hcell
          clear hcell
          have hm3 : (m : Int) = n % 256 := by rw [hm2]; simp
          by_cases hym : y = m
          · have ht : ((y : Int) != n % 256) = false := by rw [hym, hm3]; simp
            have HYM := Lib.hid hym
            have hsl := hm3
            clear hym hm3
            have j0 : (0 : Int) ≤ (xs.length : Int) - 4 := by omega
            have j1 : (xs.length : Int) - 4 < xs.length := by omega
            have j2 : ((xs.length : Int) - 4).toNat = xs.length - 4 := by omega
            have j3 : IntKind.i64.wrap ((xs.length : Int) - 4) = (xs.length : Int) - 4 := IntWalk.i64_in _ (by omega)
            clear hm2 hsl
            go_wp2
            go_quiet (fail)
            go_wp2
            go_roundw
            case rel => exact ⟨1, by omega, by first | rfl | go_num, fun j hj => by
              by_cases hjk : j = 0
              · subst hjk; rw [HY.out.2, ← HYM.out]; exact HY.out.1
              · exact hpre.out j (by omega), below_drewN hb _⟩
            case measure => simp [intOf]
          · have ht : ((y : Int) != n % 256) = true := by simp; omega
            have HYM := Lib.hid hym
            have hsl := hm3
            clear hym hm3
            have j0 : (0 : Int) ≤ (xs.length : Int) - 4 := by omega
            have j1 : (xs.length : Int) - 4 < xs.length := by omega
            have j2 : ((xs.length : Int) - 4).toNat = xs.length - 4 := by omega
            have j3 : IntKind.i64.wrap ((xs.length : Int) - 4) = (xs.length : Int) - 4 := IntWalk.i64_in _ (by omega)
            clear hm2 hsl
            go_wp2
            go_quiet (fail)
            go_wp2
            have e : openF xs = ([], 7) := by
              rw [HO.out, if_neg]
              intro he
              have h1 := HY.out.1
              rw [← List.getElem?_drop, he, HY.out.2] at h1
              exact HYM.out (Option.some.inj h1).symm
            go_ret2
            rw [e]
            exact ⟨_, rfl, BytesAt.nil _, below_drewN hb _⟩
        · have hcl : wr.cell? ⟨b, off + (xs.length - 4 + 1), none⟩ = some (.int .u8 y) := hcell
          clear hcell
          have hm3 : (m : Int) = n / 256 % 256 := by rw [hm2]; simp
          by_cases hym : y = m
          · have ht : ((y : Int) != n / 256 % 256) = false := by rw [hym, hm3]; simp
            have HYM := Lib.hid hym
            have hsl := hm3
            clear hym hm3
            have j0 : (0 : Int) ≤ (xs.length : Int) - 4 + 1 := by omega
            have j1 : (xs.length : Int) - 4 + 1 < xs.length := by omega
            have j2 : ((xs.length : Int) - 4 + 1).toNat = xs.length - 4 + 1 := by omega
            have j3 : IntKind.i64.wrap ((xs.length : Int) - 4 + 1) = (xs.length : Int) - 4 + 1 := IntWalk.i64_in _ (by omega)
            clear hm2 hsl
            go_wp2
            go_quiet (fail)
            go_wp2
            go_roundw
            case rel => exact ⟨2, by omega, by first | rfl | go_num, fun j hj => by
              by_cases hjk : j = 1
              · subst hjk; rw [HY.out.2, ← HYM.out]; exact HY.out.1
              · exact hpre.out j (by omega), below_drewN hb _⟩
            case measure => simp [intOf]
          · have ht : ((y : Int) != n / 256 % 256) = true := by simp; omega
            have HYM := Lib.hid hym
            have hsl := hm3
            clear hym hm3
            have j0 : (0 : Int) ≤ (xs.length : Int) - 4 + 1 := by omega
            have j1 : (xs.length : Int) - 4 + 1 < xs.length := by omega
            have j2 : ((xs.length : Int) - 4 + 1).toNat = xs.length - 4 + 1 := by omega
            have j3 : IntKind.i64.wrap ((xs.length : Int) - 4 + 1) = (xs.length : Int) - 4 + 1 := IntWalk.i64_in _ (by omega)
            clear hm2 hsl
            go_wp2
            go_quiet (fail)
            go_wp2
            have e : openF xs = ([], 7) := by
              rw [HO.out, if_neg]
              intro he
              have h1 := HY.out.1
              rw [← List.getElem?_drop, he, HY.out.2] at h1
              exact HYM.out (Option.some.inj h1).symm
            go_ret2
            rw [e]
            exact ⟨_, rfl, BytesAt.nil _, below_drewN hb _⟩
        · have hcl : wr.cell? ⟨b, off + (xs.length - 4 + 2), none⟩ = some (.int .u8 y) := hcell
          clear hcell
          have hm3 : (m : Int) = n / 65536 % 256 := by rw [hm2]; simp
          by_cases hym : y = m
          · have ht : ((y : Int) != n / 65536 % 256) = false := by rw [hym, hm3]; simp
            have HYM := Lib.hid hym
            have hsl := hm3
            clear hym hm3
            have j0 : (0 : Int) ≤ (xs.length : Int) - 4 + 2 := by omega
            have j1 : (xs.length : Int) - 4 + 2 < xs.length := by omega
            have j2 : ((xs.length : Int) - 4 + 2).toNat = xs.length - 4 + 2 := by omega
            have j3 : IntKind.i64.wrap ((xs.length : Int) - 4 + 2) = (xs.length : Int) - 4 + 2 := IntWalk.i64_in _ (by omega)
            clear hm2 hsl
            go_wp2
            go_quiet (fail)
            go_wp2
            go_roundw
            case rel => exact ⟨3, by omega, by first | rfl | go_num, fun j hj => by
              by_cases hjk : j = 2
              · subst hjk; rw [HY.out.2, ← HYM.out]; exact HY.out.1
              · exact hpre.out j (by omega), below_drewN hb _⟩
            case measure => simp [intOf]
          · have ht : ((y : Int) != n / 65536 % 256) = true := by simp; omega
            have HYM := Lib.hid hym
            have hsl := hm3
            clear hym hm3
            have j0 : (0 : Int) ≤ (xs.length : Int) - 4 + 2 := by omega
            have j1 : (xs.length : Int) - 4 + 2 < xs.length := by omega
            have j2 : ((xs.length : Int) - 4 + 2).toNat = xs.length - 4 + 2 := by omega
            have j3 : IntKind.i64.wrap ((xs.length : Int) - 4 + 2) = (xs.length : Int) - 4 + 2 := IntWalk.i64_in _ (by omega)
            clear hm2 hsl
            go_wp2
            go_quiet (fail)
            go_wp2
            have e : openF xs = ([], 7) := by
              rw [HO.out, if_neg]
              intro he
              have h1 := HY.out.1
              rw [← List.getElem?_drop, he, HY.out.2] at h1
              exact HYM.out (Option.some.inj h1).symm
            go_ret2
            rw [e]
            exact ⟨_, rfl, BytesAt.nil _, below_drewN hb _⟩
        · have hcl : wr.cell? ⟨b, off + (xs.length - 4 + 3), none⟩ = some (.int .u8 y) := hcell
          clear hcell
          have hm3 : (m : Int) = n / 16777216 % 256 := by rw [hm2]; simp
          by_cases hym : y = m
          · have ht : ((y : Int) != n / 16777216) = false := by rw [hym, hm3]; simp; omega
            have HYM := Lib.hid hym
            have hsl := hm3
            clear hym hm3
            have j0 : (0 : Int) ≤ (xs.length : Int) - 4 + 3 := by omega
            have j1 : (xs.length : Int) - 4 + 3 < xs.length := by omega
            have j2 : ((xs.length : Int) - 4 + 3).toNat = xs.length - 4 + 3 := by omega
            have j3 : IntKind.i64.wrap ((xs.length : Int) - 4 + 3) = (xs.length : Int) - 4 + 3 := IntWalk.i64_in _ (by omega)
            clear hm2 hsl
            go_wp2
            go_quiet (fail)
            go_wp2
            go_roundw
            case rel => exact ⟨4, by omega, by first | rfl | go_num, fun j hj => by
              by_cases hjk : j = 3
              · subst hjk; rw [HY.out.2, ← HYM.out]; exact HY.out.1
              · exact hpre.out j (by omega), below_drewN hb _⟩
            case measure => simp [intOf]
          · have ht : ((y : Int) != n / 16777216) = true := by simp; omega
            have HYM := Lib.hid hym
            have hsl := hm3
            clear hym hm3
            have j0 : (0 : Int) ≤ (xs.length : Int) - 4 + 3 := by omega
            have j1 : (xs.length : Int) - 4 + 3 < xs.length := by omega
            have j2 : ((xs.length : Int) - 4 + 3).toNat = xs.length - 4 + 3 := by omega
            have j3 : IntKind.i64.wrap ((xs.length : Int) - 4 + 3) = (xs.length : Int) - 4 + 3 := IntWalk.i64_in _ (by omega)
            clear hm2 hsl
            go_wp2
            go_quiet (fail)
            go_wp2
            have e : openF xs = ([], 7) := by
              rw [HO.out, if_neg]
              intro he
              have h1 := HY.out.1
              rw [← List.getElem?_drop, he, HY.out.2] at h1
              exact HYM.out (Option.some.inj h1).symm
            go_ret2
            rw [e]
            exact ⟨_, rfl, BytesAt.nil _, below_drewN hb _⟩
      · obtain rfl : k = 4 := by omega
        have he : xs.drop (xs.length - 4) = sumBytes n := eq_of_at (by simp [sumBytes]; omega) fun j hj => by
          rw [List.length_drop] at hj
          rw [List.getElem?_drop]
          exact hpre.out j (by omega)
        have e : openF xs = (xs.take (xs.length - 4), 0) := by rw [HO.out, if_pos he]
        have HE := Lib.hid e
        clear he e
        have HFk := Lib.hid ((HF.out.keep hb).keep (w' := wr.alloc (.cells #[] 5)) (by go_grown))
        go_wp2_with (at_builtin; refine wpList_append_bytes rfl _ _ rfl wr.heap.size _ _ [] (xs.take (xs.length - 4)) rfl rfl (HM.out wr) HFk.out (by simp) (by have := HL.out; simp; omega) ?_)
        intro v' w2 ho hg
        have HOW := Lib.hid ho
        have HB := Lib.hid (hb.trans ((((Below.refl _ wr).alloc (Nat.le_refl _) _).grown hg (by simp) (by intro q hq; simp [Value.ownBlock] at hq; omega)).mono hb.size))
        clear ho hg hb
        go_wp2_with fail
        go_ret2
        rw [HE.out]
        exact ⟨_, rfl, HOW.out.at, HB.out⟩
end Go.Proofs.Ytibikehfeobikaa

import Derived.Test.YtlkkdpoliafjbaaRows
import Derived.Test.YtlkkdpoliafjbaaK
import Derived.Test.YtlkkdpoliafjbaaM
import Derived.Test.YtlkkdpoliafjbaaZW
import Derived.Test.YtlkkdpoliafjbaaXE
import Derived.Test.YtlkkdpoliafjbaaMD
import Derived.Lib.Hide
import Derived.Handy
import Derived.WideKeyMaps
import Derived.WideKeyPair
import Derived.DeepKeys4
import Derived.Deep.DeepCutAuto
/-
  Sizes; keys of the map; integers compared.
-/
namespace Go.Proofs.Ytlkkdpoliafjbaa
open Go Go.WideMaps Go.RowKit

theorem size60 : (Try.prog.info? 60).map (·.size) = some 4 := by kernel_rfl
theorem size62 : (Try.prog.info? 62).map (·.size) = some 3 := by kernel_rfl
theorem size37 : (Try.prog.info? 37).map (·.size) = some 7 := by kernel_rfl
theorem size73 : (Try.prog.info? 73).map (·.size) = some 2 := by kernel_rfl
theorem size51 : (Try.prog.info? 51).map (·.size) = some 3 := by kernel_rfl
theorem size35 : (Try.prog.info? 35).map (·.size) = some 1 := by kernel_rfl
theorem size49 : (Try.prog.info? 49).map (·.size) = some 1 := by kernel_rfl
theorem size71 : (Try.prog.info? 71).map (·.size) = some 1 := by kernel_rfl
theorem size23 : (Try.prog.info? 23).map (·.size) = some 1 := by kernel_rfl
theorem info60 : infoB (Try.prog.info? 60) 4 32 = true := by kernel_rfl
theorem info37 : infoB (Try.prog.info? 37) 7 48 = true := by kernel_rfl
theorem info3 : infoB (Try.prog.info? 3) 1 8 = true := by kernel_rfl
theorem info4 : infoB (Try.prog.info? 4) 1 1 = true := by kernel_rfl

/-! ### Keys of the map -/
theorem arr60 : ArrKey Try.prog 60 3 4 := ⟨Try.underlying60, by kernel_rfl, by kernel_rfl, by kernel_rfl⟩
theorem keyed60 : Maps.Keyed Try.prog 60 := Maps.Keyed.of_law arr60.law
theorem sizeT : ∃ m, Try.prog.types.size = m + 1 := ⟨Try.prog.types.size - 1, by have : 0 < Try.prog.types.size := of_decide_eq_true (by kernel_rfl); omega⟩
theorem keyOf_quad {P : Program} {k e : TypeId} {q : IntKind} (A : ArrKey P k e 4) (he : P.underlying e = some (.int q)) (hsz : ∃ m, P.types.size = m + 1) {a b c d : Int} (wa : (Lit.int q a).wf = true) (wb : (Lit.int q b).wf = true) (wc : (Lit.int q c).wf = true) (wd : (Lit.int q d).wf = true) :
    keyOf P k (.agg #[.int q a, .int q b, .int q c, .int q d]) = some (.string (keyBytes [.int q a, .int q b, .int q c, .int q d])) := by
  have hkt := A.keyType hsz
  obtain ⟨m, hm⟩ := hsz
  unfold keyOf
  simp only [A.hu]
  rw [if_pos (by simp [hkt, Value.formed, A.hu, A.size]), hm]
  unfold Program.keyLits
  simp only [A.hu, Value.cells]
  rw [if_pos (by rw [A.size]; rfl), show List.range 4 = [0, 1, 2, 3] from rfl, List.mapM_cons, List.mapM_cons, List.mapM_cons, List.mapM_cons, List.mapM_nil]
  simp [A.one, Program.keyLits, he, wa, wb, wc, wd]
def kval (k : Key4) : Value := .agg #[.int .i64 k.src, .int .i64 k.tgt, .int .i64 k.cls, .int .i64 k.cond]
def vval (v : AVec) : Value := .agg #[.int .u32 v.allow, .int .u32 v.audit, .int .u32 v.dont]
theorem kval_inj {a b : Key4} (h : kval a = kval b) : a = b := by
  cases a; cases b; simpa [kval] using h
theorem i64_wf {a : Int} (h : I64 a) : (Lit.int .i64 a).wf = true := by
  have h1 : (-9223372036854775808 ≤ a ∧ a < 9223372036854775808) := h
  simp [Lit.wf, IntKind.min, IntKind.max, IntKind.signed, IntKind.bits]
  omega
theorem key_ok {k : Key4} (h : k.Ok) : ∃ l, keyOf Try.prog 60 (kval k) = some l := ⟨_, keyOf_quad arr60 Try.underlying3 sizeT (i64_wf h.src) (i64_wf h.tgt) (i64_wf h.cls) (i64_wf h.cond)⟩
theorem zero62 (w : World) : (zeroValue 62).run Try.prog w = .ok (vval AVec.zero) w := by kernel_rfl

/-! ### Integers compared -/
def cmpI (a b : Int) : Int := if a < b then -1 else if b < a then 1 else 0
theorem cmpI_zero {a b : Int} : cmpI a b = 0 ↔ a = b := by
  unfold cmpI
  split
  · constructor <;> intro h <;> omega
  · split
    · constructor <;> intro h <;> omega
    · constructor <;> intro h <;> omega
theorem cmpI_neg {a b : Int} : cmpI a b < 0 ↔ a < b := by
  unfold cmpI
  split
  · constructor <;> intro h <;> omega
  · split
    · constructor <;> intro h <;> omega
    · constructor <;> intro h <;> omega
theorem compare_0 (w : World) (a b : Int) (h : a < b) : Calls Try.prog 64 #[.int .i64 a, .int .i64 b] w fun e w' => e = .returned (.int .i64 (-1)) ∧ w = w' := by
  go_enter Try.func64, Try.ntmps64
  go_wp2
  go_ret
  exact ⟨rfl, rfl⟩
theorem compare_1 (w : World) (a b : Int) (h : b < a) : Calls Try.prog 64 #[.int .i64 a, .int .i64 b] w fun e w' => e = .returned (.int .i64 1) ∧ w = w' := by
  have h1 : ¬ a < b := by omega
  go_enter Try.func64, Try.ntmps64
  go_wp2
  go_ret
  exact ⟨rfl, rfl⟩
theorem compare_2 (w : World) (a b : Int) (h : a = b) : Calls Try.prog 64 #[.int .i64 a, .int .i64 b] w fun e w' => e = .returned (.int .i64 0) ∧ w = w' := by
  subst h
  go_enter Try.func64, Try.ntmps64
  go_wp2
  go_ret
  exact ⟨rfl, rfl⟩
theorem compare_any (w : World) (a b : Int) : Calls Try.prog 64 #[.int .i64 a, .int .i64 b] w fun e w' => e = .returned (.int .i64 (cmpI a b)) ∧ w = w' := by
  unfold cmpI
  by_cases h : a < b
  · rw [if_pos h]; exact compare_0 w a b h
  · rw [if_neg h]
    by_cases h1 : b < a
    · rw [if_pos h1]; exact compare_1 w a b h1
    · rw [if_neg h1]; exact compare_2 w a b (by omega)
def anInt (x : Int) : Value := .int .i64 x
/-- What slices.Compare says of lists of one length. -/
def cmpL : List Int → List Int → Int
  | x :: a, y :: b => if x = y then cmpL a b else cmpI x y
  | _, _ => 0
theorem cmpL_skip : ∀ (k : Nat) (a b : List Int), a.length = b.length → (∀ j, j < k → a[j]? = b[j]?) → cmpL a b = cmpL (a.drop k) (b.drop k)
  | 0, _, _, _, _ => rfl
  | k + 1, [], [], _, _ => by simp
  | k + 1, x :: a, y :: b, hl, h => by
    have h0 := h 0 (by omega)
    simp at h0
    subst h0
    rw [List.drop_succ_cons, List.drop_succ_cons, ← cmpL_skip k a b (by simpa using hl) fun j hj => by have := h (j + 1) (by omega); simpa using this]
    simp [cmpL]
  | k + 1, [], _ :: _, hl, _ => by simp at hl
  | k + 1, _ :: _, [], hl, _ => by simp at hl
set_option maxHeartbeats 4000000 in
theorem sliceCompare_any (w : World) (v v' : Value) (N : Nat) (la lb : List Int) (h : SliceAt w v 1 N (la.map anInt)) (h' : SliceAt w v' 1 N (lb.map anInt)) (ha : la.length = N) (hb : lb.length = N) : Calls Try.prog 50 #[v, v'] w fun e w' => e = .returned (.int .i64 (cmpL la lb)) ∧ w = w' := by
  obtain ⟨a, c, rfl, hac, hmx, HA⟩ := h.form (by decide)
  obtain ⟨a', c', rfl, hac', -, HA'⟩ := h'.form (by decide)
  have H1 := Lib.hid HA
  have H2 := Lib.hid HA'
  have HNA := Lib.hid ha
  have HNB := Lib.hid hb
  clear HA HA' h h' ha hb
  go_enter Try.func50, Try.ntmps50
  go_wp2
  go_loop [11] (fun i => ∃ n : Nat, n ≤ N ∧ i = .int .i64 n ∧ Hid (∀ j, j < n → la[j]? = lb[j]?)) (fun i => N - (intOf i).toNat)
  case atStart => exact ⟨0, Nat.zero_le _, rfl, fun j hj => by omega⟩
  case round =>
    obtain ⟨n, hn, rfl, hpre⟩ := hrel
    by_cases hlt : n < N
    · obtain ⟨b, off, rfl, hc⟩ := H1.out n hlt
      obtain ⟨b', off', rfl, hc'⟩ := H2.out n hlt
      obtain ⟨x, hx⟩ : ∃ x, la[n]? = some x := ⟨_, List.getElem?_eq_getElem (by have := HNA.out; omega)⟩
      obtain ⟨y, hy⟩ : ∃ y, lb[n]? = some y := ⟨_, List.getElem?_eq_getElem (by have := HNB.out; omega)⟩
      have c0 : w.cell? ⟨b, off + n * 1, none⟩ = some (.int .i64 x) := hc 0 _ (by simp [hx, anInt])
      have d0 : w.cell? ⟨b', off' + n * 1, none⟩ = some (.int .i64 y) := hc' 0 _ (by simp [hy, anInt])
      rw [Nat.mul_one] at c0 d0
      have HX := Lib.hid hx
      have HY := Lib.hid hy
      clear hx hy hc hc'
      by_cases h0 : x = y
      · subst h0
        have hz : ((cmpI x x : Int) != 0) = false := by simp [cmpI]
        obtain ⟨z, hz'⟩ : ∃ z, z = cmpI x x := ⟨_, rfl⟩
        rw [← hz'] at hz
        have HZ := Lib.hid hz'
        have HCM := Lib.hid (show ∀ W, Calls Try.prog 64 #[.int .i64 x, .int .i64 x] W fun e w' => e = .returned (.int .i64 z) ∧ W = w' from fun W => by rw [hz']; exact compare_any W x x)
        clear hz'
        go_wp2_with (go_at_call 64; go_must (refine (HCM.out w).mono ?_; rintro e w1 ⟨rfl, rfl⟩))
        go_round
        case rel => exact ⟨n + 1, by omega, by go_num, fun j hj => by
          by_cases hjn : j = n
          · subst hjn; exact HX.out.trans HY.out.symm
          · exact hpre.out j (by omega)⟩
        case measure => simp [intOf]; omega
      · have hne : cmpI x y ≠ 0 := fun e => h0 (cmpI_zero.1 e)
        have hz : ((cmpI x y : Int) != 0) = true := by simpa using hne
        obtain ⟨z, hz'⟩ : ∃ z, z = cmpI x y := ⟨_, rfl⟩
        rw [← hz'] at hz
        have HZ := Lib.hid (And.intro hz' h0)
        have HCM := Lib.hid (show ∀ W, Calls Try.prog 64 #[.int .i64 x, .int .i64 y] W fun e w' => e = .returned (.int .i64 z) ∧ W = w' from fun W => by rw [hz']; exact compare_any W x y)
        clear hz' hne h0
        go_wp2_with (go_at_call 64; go_must (refine (HCM.out w).mono ?_; rintro e w1 ⟨rfl, rfl⟩))
        go_ret
        refine ⟨ret_int ?_, rfl⟩
        rw [cmpL_skip n la lb (by rw [HNA.out, HNB.out]) hpre.out]
        have hl : n < la.length := by have := HNA.out; omega
        have hl' : n < lb.length := by have := HNB.out; omega
        rw [List.drop_eq_getElem_cons hl, List.drop_eq_getElem_cons hl']
        have e : la[n] = x := Option.some.inj ((List.getElem?_eq_getElem hl).symm.trans HX.out)
        have e' : lb[n] = y := Option.some.inj ((List.getElem?_eq_getElem hl').symm.trans HY.out)
        rw [e, e', cmpL, if_neg HZ.out.2, HZ.out.1]
    · obtain rfl : n = N := by omega
      go_wp2
      go_ret
      refine ⟨ret_int ?_, rfl⟩
      rw [cmpL_skip n la lb (by rw [HNA.out, HNB.out]) hpre.out, List.drop_of_length_le (by rw [HNA.out]; exact Nat.le_refl _), List.drop_of_length_le (by rw [HNB.out]; exact Nat.le_refl _)]
      rfl
end Go.Proofs.Ytlkkdpoliafjbaa

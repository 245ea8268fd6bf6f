import Derived.Test.YtlkkdpoliafjbaaC
import Derived.Deep.QuietTactic
/-
  Keys compared.
-/
namespace Go.Proofs.Ytlkkdpoliafjbaa
open Go Go.WideMaps Go.RowKit

def Key4.list (k : Key4) : List Int := [k.src, k.tgt, k.cls, k.cond]
def cmpK (a b : Key4) : Int := cmpL a.list b.list
theorem cmpK_neg (a b : AEntry) : (cmpK a.key b.key < 0) ↔ befB a b = true := by
  unfold cmpK Key4.list AEntry.key befB
  simp only [cmpL, decide_eq_true_eq]
  by_cases h0 : a.src = b.src
  · by_cases h1 : a.tgt = b.tgt
    · by_cases h2 : a.cls = b.cls
      · by_cases h3 : a.cond = b.cond
        · simp [h0, h1, h2, h3]
        · simp [h0, h1, h2, h3, cmpI_neg]
      · simp [h0, h1, h2, cmpI_neg]
    · simp [h0, h1, cmpI_neg]
  · simp [h0, cmpI_neg]
theorem cmpK_zero (a b : Key4) : cmpK a b = 0 ↔ a = b := by
  obtain ⟨a0, a1, a2, a3⟩ := a
  obtain ⟨b0, b1, b2, b3⟩ := b
  unfold cmpK Key4.list
  simp only [cmpL, Key4.mk.injEq]
  by_cases h0 : a0 = b0
  · by_cases h1 : a1 = b1
    · by_cases h2 : a2 = b2
      · by_cases h3 : a3 = b3
        · simp [h0, h1, h2, h3]
        · simp [h0, h1, h2, h3, cmpI_zero]
      · simp [h0, h1, h2, cmpI_zero]
    · simp [h0, h1, cmpI_zero]
  · simp [h0, cmpI_zero]
theorem whole_slice {w : World} {g n : Nat} {t : TypeId} {cs : List Value} (h : Whole w g t cs.toArray) (hn : cs.length = n) (hm : n ≤ maxLen) (h1 : ∀ u ∈ cs, u.oneCell' = true) : SliceAt w (.slice (some ⟨g, 0, none⟩) n n) 1 n cs :=
  ⟨by omega, hm, h1, .inr ⟨_, n, rfl, Nat.le_refl _, fun j u hu => by
    rw [Addr.add_mid, h.cell, Nat.zero_add]
    simpa using hu⟩⟩
theorem whole_two (w : World) (o : Obj) (cs : Array Value) (t : TypeId) : Whole ((w.alloc o).alloc (.cells cs t)) (w.heap.size + 1) t cs := by
  have h := Whole.new (w.alloc o) t cs
  have e : (w.alloc o).heap.size = w.heap.size + 1 := by simp
  rwa [e] at h
theorem below_drewN {w w' : World} {B : Nat} (h : Below B w w') (n : Nat) : Below B w (w'.drewN n) := ⟨h.os, h.tape, h.output, h.size, h.block⟩
theorem list_cells (k : Key4) : k.list.map anInt = k.cells := rfl
theorem list_one (k : Key4) : ∀ u ∈ k.cells, u.oneCell' = true := fun u hu => by
  simp [Key4.cells] at hu
  rcases hu with rfl | rfl | rfl | rfl <;> rfl
set_option maxHeartbeats 4000000 in
theorem compareK_any (w : World) (a b : Key4) : Calls Try.prog 45 #[.agg #[.int .i64 a.src, .int .i64 a.tgt, .int .i64 a.cls, .int .i64 a.cond], .agg #[.int .i64 b.src, .int .i64 b.tgt, .int .i64 b.cls, .int .i64 b.cond]] w fun e w' => e = .returned (.int .i64 (cmpK a b)) ∧ Below w.heap.size w w' := by
  obtain ⟨wo, hwo⟩ : ∃ wo, wo = (w.alloc (.cells #[.int .i64 a.src, .int .i64 a.tgt, .int .i64 a.cls, .int .i64 a.cond] 60)).alloc (.cells #[.int .i64 b.src, .int .i64 b.tgt, .int .i64 b.cls, .int .i64 b.cond] 60) := ⟨_, rfl⟩
  have HA := Lib.hid (show Whole wo w.heap.size 60 a.cells.toArray by rw [hwo]; exact (Whole.new w 60 _).alloc _)
  have HB := Lib.hid (show Whole wo (w.heap.size + 1) 60 b.cells.toArray by rw [hwo]; exact whole_two w _ b.cells.toArray _)
  have HBO := Lib.hid (show Below w.heap.size w wo by rw [hwo]; exact ((Below.refl _ w).alloc (Nat.le_refl _) _).alloc (by simp) _)
  have HSA := Lib.hid (fun n => (whole_slice (n := 4) HA.out rfl (by unfold maxLen; omega) (list_one a)).keep (below_drewN (Below.refl _ wo) n))
  have HSB := Lib.hid (fun n => (whole_slice (n := 4) HB.out rfl (by unfold maxLen; omega) (list_one b)).keep (below_drewN (Below.refl _ wo) n))
  go_enter Try.func45, Try.ntmps45
  go_upto_region 1 with fail
  rw [← hwo]
  clear hwo
  go_quiet ((go_at_call 50; exact Calls.quiet_of_same ((sliceCompare_any _ _ _ 4 a.list b.list (HSA.out _) (HSB.out _) rfl rfl).mono fun e w' ⟨h1, h2⟩ => ⟨h1, h2.symm⟩)))
  go_wp2
  go_ret
  exact ⟨rfl, below_drewN HBO.out _⟩
end Go.Proofs.Ytlkkdpoliafjbaa

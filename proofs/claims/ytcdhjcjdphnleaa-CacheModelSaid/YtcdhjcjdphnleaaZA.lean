import Derived.Test.YtcdhjcjdphnleaaP8
import Derived.Lib.SliceRun
/-
  The reference: its state, index, Reset, Stats, Len, Seq.
-/
namespace Go.Proofs.Ytcdhjcjdphnleaa
open Go Go.WideMaps Go.RowKit

def Dec.row (d : Dec) : List Value := [.int .u32 d.allowed, .int .u32 d.auditAllow, .int .u32 d.auditDeny, .bool d.permissive, .int .i64 d.seq]
theorem row_len (d : Dec) : d.row.length = 5 := rfl
/-- The reference's state: its keys and decisions lie in slices. -/
structure RefAt (w : World) (kv dv : Value) (s : St) : Prop where
  keys : SliceAt w kv 3 s.D.length (flat s.keys)
  decs : SliceAt w dv 5 s.D.length ((s.D.map Prod.snd).flatMap Dec.row)
theorem RefAt.under {w w' : World} {kv dv : Value} {s : St} (hb : Below w.heap.size w w') (h : RefAt w kv dv s) : RefAt w' kv dv s := ⟨h.keys.keep hb, h.decs.keep hb⟩
def St.ref (s : St) (kv dv : Value) : Array Value := #[.int .i64 s.size, .int .i64 s.seq, kv, dv, .int .i64 s.h, .int .i64 s.m, .int .i64 s.e, .int .i64 s.r]
theorem size29 : (Try.prog.info? 29).map (·.size) = some 8 := by kernel_rfl
theorem size27 : (Try.prog.info? 27).map (·.size) = some 1 := by kernel_rfl
theorem keys_len (s : St) : s.keys.length = s.D.length := by simp [St.keys]

theorem refStats_any (w : World) (s : St) (kv dv : Value) : Calls Try.prog 30 #[.agg #[.int .i64 s.size, .int .i64 s.seq, kv, dv, .int .i64 s.h, .int .i64 s.m, .int .i64 s.e, .int .i64 s.r]] w fun e w' => e = .returned (.tuple #[.int .i64 s.h, .int .i64 s.m, .int .i64 s.e, .int .i64 s.r]) ∧ Below w.heap.size w w' := by
  have k4 : (w.alloc (.cells #[.int .i64 s.size, .int .i64 s.seq, kv, dv, .int .i64 s.h, .int .i64 s.m, .int .i64 s.e, .int .i64 s.r] 29)).cell? ⟨w.heap.size, 4, none⟩ = some (.int .i64 s.h) := (Whole.new w 29 _).cell 4
  have k5 : (w.alloc (.cells #[.int .i64 s.size, .int .i64 s.seq, kv, dv, .int .i64 s.h, .int .i64 s.m, .int .i64 s.e, .int .i64 s.r] 29)).cell? ⟨w.heap.size, 5, none⟩ = some (.int .i64 s.m) := (Whole.new w 29 _).cell 5
  have k6 : (w.alloc (.cells #[.int .i64 s.size, .int .i64 s.seq, kv, dv, .int .i64 s.h, .int .i64 s.m, .int .i64 s.e, .int .i64 s.r] 29)).cell? ⟨w.heap.size, 6, none⟩ = some (.int .i64 s.e) := (Whole.new w 29 _).cell 6
  have k7 : (w.alloc (.cells #[.int .i64 s.size, .int .i64 s.seq, kv, dv, .int .i64 s.h, .int .i64 s.m, .int .i64 s.e, .int .i64 s.r] 29)).cell? ⟨w.heap.size, 7, none⟩ = some (.int .i64 s.r) := (Whole.new w 29 _).cell 7
  go_enter Try.func30, Try.ntmps30
  go_wp2
  go_quiet (fail)
  go_wp2
  exact bodyPost_ret (v := .tuple #[.int .i64 s.h, .int .i64 s.m, .int .i64 s.e, .int .i64 s.r]) (by simp [results, go_sem]) rfl ⟨rfl, below_drewN ((Below.refl _ w).alloc (Nat.le_refl _) _) _⟩

theorem refSeq_any (w : World) (s : St) (kv dv : Value) : Calls Try.prog 32 #[.agg #[.int .i64 s.size, .int .i64 s.seq, kv, dv, .int .i64 s.h, .int .i64 s.m, .int .i64 s.e, .int .i64 s.r]] w fun e w' => e = .returned (.int .i64 s.seq) ∧ Below w.heap.size w w' := by
  have k1 : (w.alloc (.cells #[.int .i64 s.size, .int .i64 s.seq, kv, dv, .int .i64 s.h, .int .i64 s.m, .int .i64 s.e, .int .i64 s.r] 29)).cell? ⟨w.heap.size, 1, none⟩ = some (.int .i64 s.seq) := (Whole.new w 29 _).cell 1
  go_enter Try.func32, Try.ntmps32
  go_wp2
  go_ret
  exact ⟨rfl, (Below.refl _ w).alloc (Nat.le_refl _) _⟩

theorem refLen_any (w : World) (s : St) (kv dv : Value) (h : RefAt w kv dv s) : Calls Try.prog 31 #[.agg #[.int .i64 s.size, .int .i64 s.seq, kv, dv, .int .i64 s.h, .int .i64 s.m, .int .i64 s.e, .int .i64 s.r]] w fun e w' => e = .returned (.int .i64 s.D.length) ∧ Below w.heap.size w w' := by
  obtain ⟨a, c, rfl, hac, hmx, -⟩ := h.keys.form (by decide)
  have k2 : (w.alloc (.cells #[.int .i64 s.size, .int .i64 s.seq, .slice a s.D.length c, dv, .int .i64 s.h, .int .i64 s.m, .int .i64 s.e, .int .i64 s.r] 29)).cell? ⟨w.heap.size, 2, none⟩ = some (.slice a s.D.length c) := (Whole.new w 29 _).cell 2
  clear h
  go_enter Try.func31, Try.ntmps31
  go_wp2
  go_ret
  exact ⟨rfl, (Below.refl _ w).alloc (Nat.le_refl _) _⟩

set_option maxHeartbeats 2000000 in
theorem refIndex_any (w : World) (s : St) (kv dv : Value) (k : Key) (h : RefAt w kv dv s) :
    Calls Try.prog 38 #[.agg #[.int .i64 s.size, .int .i64 s.seq, kv, dv, .int .i64 s.h, .int .i64 s.m, .int .i64 s.e, .int .i64 s.r], .agg #[.int .i64 k.a, .int .i64 k.b, .int .i64 k.c]] w fun e w' => e = .returned (.int .i64 (place s.keys k)) ∧ Below w.heap.size w w' := by
  obtain ⟨a, c, rfl, hac, hmx, HA⟩ := h.keys.form (by decide)
  have HK := Lib.hid HA
  clear HA
  obtain ⟨N, hN⟩ : ∃ N, N = s.D.length := ⟨_, rfl⟩
  have HN := Lib.hid (show s.keys.length = N by rw [hN, keys_len])
  rw [← hN] at HK hac hmx ⊢
  clear h hN
  obtain ⟨wo, hwo⟩ : ∃ wo, wo = (w.alloc (.cells #[.int .i64 s.size, .int .i64 s.seq, .slice a N c, dv, .int .i64 s.h, .int .i64 s.m, .int .i64 s.e, .int .i64 s.r] 29)).alloc (.cells #[.int .i64 k.a, .int .i64 k.b, .int .i64 k.c] 41) := ⟨_, rfl⟩
  have HW := Lib.hid (show Whole wo w.heap.size 29 #[.int .i64 s.size, .int .i64 s.seq, .slice a N c, dv, .int .i64 s.h, .int .i64 s.m, .int .i64 s.e, .int .i64 s.r] by rw [hwo]; exact (Whole.new w 29 _).alloc _)
  have HB0 := Lib.hid (show Whole wo (w.heap.size + 1) 41 #[.int .i64 k.a, .int .i64 k.b, .int .i64 k.c] by rw [hwo]; exact whole_two w _ _ _)
  have HBO := Lib.hid (show Below w.heap.size w wo by rw [hwo]; exact ((Below.refl _ w).alloc (Nat.le_refl _) _).alloc (by simp) _)
  go_enter Try.func38, Try.ntmps38
  go_wp2_with fail
  rw [← hwo]
  clear hwo
  go_loopw [5] (fun i wr => ∃ n : Nat, n ≤ N ∧ i = .int .i64 n ∧ Hid (∀ j, j < n → s.keys[j]? ≠ some k) ∧ Below wo.heap.size wo wr) (fun i _ => N - (intOf i).toNat)
  case atStart => exact ⟨0, Nat.zero_le _, rfl, fun j hj => by omega, Below.refl _ _⟩
  case round =>
    obtain ⟨n, hn, rfl, hpre, hb⟩ := hrel
    have HB := Lib.hid hb
    clear hb
    have m2 : wr.cell? ⟨w.heap.size, 2, none⟩ = some (.slice a N c) := (Whole.under HB.out HW.out HW.out.lt).cell 2
    have d1 : wr.cell? ⟨w.heap.size + 1, 0, none⟩ = some (.int .i64 k.a) := (Whole.under HB.out HB0.out HB0.out.lt).cell 0
    have d2 : wr.cell? ⟨w.heap.size + 1, 1, none⟩ = some (.int .i64 k.b) := (Whole.under HB.out HB0.out HB0.out.lt).cell 1
    have d3 : wr.cell? ⟨w.heap.size + 1, 2, none⟩ = some (.int .i64 k.c) := (Whole.under HB.out HB0.out HB0.out.lt).cell 2
    by_cases hlt : n < N
    · obtain ⟨b, off, rfl, hc⟩ := HK.out n hlt
      obtain ⟨y, hy⟩ : ∃ y, s.keys[n]? = some y := ⟨_, List.getElem?_eq_getElem (by rw [HN.out]; exact hlt)⟩
      have key : ∀ j, j < 3 → (flat s.keys)[n * 3 + j]? = y.cells[j]? := fun j hj => flat_at (f := Key.cells) cells_len hy j hj
      have hbb := HBO.out.trans (HB.out.mono HBO.out.size)
      have c0 : wr.cell? ⟨b, off + n * 3, none⟩ = some (.int .i64 y.a) := cell_later hbb (hc 0 _ (key 0 (by omega)))
      have c1 : wr.cell? ⟨b, off + n * 3 + 1, none⟩ = some (.int .i64 y.b) := cell_later hbb (hc 1 _ (key 1 (by omega)))
      have c2 : wr.cell? ⟨b, off + n * 3 + 2, none⟩ = some (.int .i64 y.c) := cell_later hbb (hc 2 _ (key 2 (by omega)))
      have HY := Lib.hid hy
      clear hy key hc hbb
      by_cases he : y = k
      · subst he
        have q : ∀ W : World, (Op.equalIn 10000 41 (.agg #[.int .i64 y.a, .int .i64 y.b, .int .i64 y.c]) (.agg #[.int .i64 y.a, .int .i64 y.b, .int .i64 y.c])).run Try.prog W = .ok true W := fun W => by rw [eq_key]; simp
        go_wp2
        go_quiet (fail)
        go_wp2
        go_ret
        have hp : place s.keys y = n := place_at HY.out hpre.out
        exact ⟨ret_int hp.symm, HBO.out.trans ((below_drewN HB.out _).mono HBO.out.size)⟩
      · have q : ∀ W : World, (Op.equalIn 10000 41 (.agg #[.int .i64 y.a, .int .i64 y.b, .int .i64 y.c]) (.agg #[.int .i64 k.a, .int .i64 k.b, .int .i64 k.c])).run Try.prog W = .ok false W := fun W => by rw [eq_key]; simp [he]
        go_wp2
        go_quiet (fail)
        go_wp2
        go_roundw
        case rel => exact ⟨n + 1, by omega, by go_num, fun j hj => by
          by_cases hjn : j = n
          · subst hjn; rw [HY.out]; simpa using he
          · exact hpre.out j (by omega), below_drewN HB.out _⟩
        case measure => simp [intOf]; omega
    · obtain rfl : n = N := by omega
      go_wp2
      go_ret
      have hp : place s.keys k = -1 := place_none (by rw [HN.out]; exact hpre.out)
      exact ⟨ret_int hp.symm, HBO.out.trans (HB.out.mono HBO.out.size)⟩

end Go.Proofs.Ytcdhjcjdphnleaa

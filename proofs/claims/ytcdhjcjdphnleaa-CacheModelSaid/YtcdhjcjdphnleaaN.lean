import Derived.Test.YtcdhjcjdphnleaaJ2
namespace Go.Proofs.Ytcdhjcjdphnleaa
open Go Go.WideMaps Go.RowKit

set_option maxHeartbeats 2000000 in
theorem index_any (w : World) (v : Value) (ks : List Key) (k : Key) (h : KeysAt w v ks) :
    Calls Try.prog 42 #[v, k.val] w fun e w' => e = .returned (.int .i64 (place ks k)) ∧ Below w.heap.size w w' := by
  unfold Key.val
  rcases h with ⟨rfl, rfl⟩ | ⟨g, cap, cur, rfl, hg, hle, h1, hcap, hcur, hcs⟩
  · go_enter Try.func42, Try.ntmps42
    go_wp2
    go_loopw [8] (fun i wr => i = .int .i64 0 ∧ Below (w.heap.size + 1) (w.alloc (.cells #[.int .i64 k.a, .int .i64 k.b, .int .i64 k.c] 41)) wr) (fun _ _ => 0)
    case atStart => exact ⟨rfl, Below.refl _ _⟩
    case round =>
      obtain ⟨rfl, hb⟩ := hrel
      go_wp2
      go_ret
      exact ⟨ret_int (by simp [place]), below_of_alloc hb⟩
  · have HG := Lib.hid (show ∀ wr, Below w.heap.size w wr → ∀ i y, ks[i]? = some y → _ from fun wr hb i y hy => key_cells (hg.below hb hg.lt) hcs hy)
    clear hcs hcur
    unfold maxLen at hcap
    go_enter Try.func42, Try.ntmps42
    go_wp2
    go_loopw [8] (fun i wr => ∃ n : Nat, n ≤ ks.length ∧ i = .int .i64 n ∧ Hid (∀ j, j < n → ks[j]? ≠ some k) ∧ Below (w.heap.size + 1) (w.alloc (.cells #[.int .i64 k.a, .int .i64 k.b, .int .i64 k.c] 41)) wr) (fun i _ => ks.length - (intOf i).toNat)
    case atStart => exact ⟨0, Nat.zero_le _, rfl, fun j hj => by omega, Below.refl _ _⟩
    case round =>
      obtain ⟨n, hn, rfl, hpre, hb⟩ := hrel
      by_cases hlt : n < ks.length
      · obtain ⟨y, hy⟩ : ∃ y, ks[n]? = some y := ⟨_, List.getElem?_eq_getElem hlt⟩
        obtain ⟨c1, c2, c3⟩ := HG.out _ (below_of_alloc hb) n y hy
        have hwk : Whole wr w.heap.size 41 #[.int .i64 k.a, .int .i64 k.b, .int .i64 k.c] := (Whole.new w 41 _).below hb (Nat.lt_succ_self _)
        have d1 : wr.cell? ⟨w.heap.size, 0, none⟩ = some (.int .i64 k.a) := hwk.cell 0
        have d2 : wr.cell? ⟨w.heap.size, 1, none⟩ = some (.int .i64 k.b) := hwk.cell 1
        have d3 : wr.cell? ⟨w.heap.size, 2, none⟩ = some (.int .i64 k.c) := hwk.cell 2
        clear hwk
        have HY := Lib.hid hy
        clear hy
        by_cases he : y = k
        · subst he
          have q : ∀ W : World, (Op.equalIn 10000 41 (.agg #[.int .i64 y.a, .int .i64 y.b, .int .i64 y.c]) (.agg #[.int .i64 y.a, .int .i64 y.b, .int .i64 y.c])).run Try.prog W = .ok true W := fun W => by rw [eq_key]; simp
          go_wp2
          go_quiet (fail)
          go_wp2
          go_ret
          have hp : place ks y = n := place_at HY.out hpre.out
          exact ⟨ret_int hp.symm, below_of_alloc (below_drewN hb _)⟩
        · have q : ∀ W : World, (Op.equalIn 10000 41 (.agg #[.int .i64 k.a, .int .i64 k.b, .int .i64 k.c]) (.agg #[.int .i64 y.a, .int .i64 y.b, .int .i64 y.c])).run Try.prog W = .ok false W := fun W => by rw [eq_key]; simp [Ne.symm he]
          go_wp2
          go_quiet (fail)
          go_wp2
          go_roundw
          case rel => exact ⟨n + 1, by omega, by go_num, fun j hj => by
            by_cases hjn : j = n
            · subst hjn; rw [HY.out]; simpa using he
            · exact hpre.out j (by omega), below_drewN hb _⟩
          case measure => simp [intOf]; omega
      · obtain rfl : n = ks.length := by omega
        go_wp2
        go_ret
        have hp : place ks k = -1 := place_none hpre.out
        exact ⟨ret_int hp.symm, below_of_alloc hb⟩

end Go.Proofs.Ytcdhjcjdphnleaa

import Derived.Test.YtcdhjcjdphnleaaYL
import Derived.Laws.OwnMore
namespace Go.Proofs.Ytcdhjcjdphnleaa
open Go Go.WideMaps Go.RowKit

theorem size4 : (Try.prog.info? 4).map (·.size) = some 1 := by kernel_rfl
theorem info4 : infoB (Try.prog.info? 4) 1 1 = true := by kernel_rfl
def flags (bs : List Bool) : Array Value := (bs.map Value.bool).toArray
theorem flags_size (bs : List Bool) : (flags bs).size = bs.length := by simp [flags]
theorem flags_at (bs : List Bool) (i : Nat) : (flags bs)[i]? = (bs[i]?).map Value.bool := by simp [flags]
theorem flags_set (bs : List Bool) (i : Nat) (b : Bool) : splice (flags bs) i [.bool b] = flags (bs.set i b) := by
  simp [splice, flags, List.map_set]
theorem make_flags (w : World) (n : Nat) (hn : n ≤ 60) : (Instr.makeSlice 49 (.int .i64 n) (.int .i64 n)).run Try.prog w = .ok (.slice (some ⟨w.heap.size, 0, none⟩) n n) (w.alloc (.cells (flags (List.replicate n false)) 4)) := by
  obtain ⟨i0, z0, hi0, hz0, hzs, hzb, hzc⟩ := infoOf info4
  have hz : z0.cells = #[.bool false] := by
    have h1 : (Try.prog.info? 4).bind (·.zero) = some (.bool false) := by kernel_rfl
    rw [hi0] at h1
    have : i0.zero = some (.bool false) := h1
    rw [hz0] at this
    cases this
    rfl
  have h := run_makeSlice w 49 4 i0 z0 Try.underlying49 hi0 hz0 .i64 .i64 n n (by omega) (by omega) (by rw [hzs]; simp; omega) (by rw [hzb]; omega) (by omega)
  simp only [Int.toNat_natCast] at h
  rw [h, hz, hzs]
  congr 3
  apply Array.ext_getElem?
  intro i
  rw [flags_at, List.getElem?_replicate]
  simp [madeCells]
  by_cases h1 : i < n
  · simp [h1, Nat.mod_one]
  · simp [h1]

set_option maxHeartbeats 1000000 in
theorem same_any (o p : Opn) (w : World) : Calls Try.prog 24 #[.agg #[.int .u8 o.kind, .int .i64 o.src, .int .i64 o.tgt, .int .i64 o.cls, .int .u32 o.allowed, .int .i64 o.seq], .agg #[.int .u8 p.kind, .int .i64 p.src, .int .i64 p.tgt, .int .i64 p.cls, .int .u32 p.allowed, .int .i64 p.seq]] w fun e w' =>
    e = .returned (.bool (decide (o.key = p.key))) ∧ Below w.heap.size w w' := by
  by_cases h1 : o.src = p.src
  · by_cases h2 : o.tgt = p.tgt
    · by_cases h3 : o.cls = p.cls
      · have hk := Lib.hid (show decide (o.key = p.key) = true from by simp [Opn.key, h1, h2, h3])
        go_enter Try.func24, Try.ntmps24
        go_wp2
        go_ret
        exact ⟨by rw [hk.out]; rfl, ((Below.refl _ w).alloc (Nat.le_refl _) _).alloc (by simp) _⟩
      · have hk := Lib.hid (show decide (o.key = p.key) = false from by simp [Opn.key, h3])
        have h3' : (o.cls == p.cls) = false := by simpa using h3
        go_enter Try.func24, Try.ntmps24
        go_wp2
        go_ret
        exact ⟨by rw [hk.out]; rfl, ((Below.refl _ w).alloc (Nat.le_refl _) _).alloc (by simp) _⟩
    · have hk := Lib.hid (show decide (o.key = p.key) = false from by simp [Opn.key, h2])
      have h2' : (o.tgt == p.tgt) = false := by simpa using h2
      go_enter Try.func24, Try.ntmps24
      go_wp2
      go_ret
      exact ⟨by rw [hk.out]; rfl, ((Below.refl _ w).alloc (Nat.le_refl _) _).alloc (by simp) _⟩
  · have hk := Lib.hid (show decide (o.key = p.key) = false from by simp [Opn.key, h1])
    have h1' : (o.src == p.src) = false := by simpa using h1
    go_enter Try.func24, Try.ntmps24
    go_wp2
    go_ret
    exact ⟨by rw [hk.out]; rfl, ((Below.refl _ w).alloc (Nat.le_refl _) _).alloc (by simp) _⟩

theorem eq_fields {xs : Array Value} {W : World} {d : Nat} : ∀ (fs : List Field), (∀ f ∈ fs, ∃ x, (part f.type xs f.offset).run Try.prog W = .ok x W ∧ (Op.equalIn d f.type x x).run Try.prog W = .ok true W) → (Op.eqFields d xs xs fs).run Try.prog W = .ok true W
  | [], _ => rfl
  | f :: fs, h => by
    obtain ⟨x, h1, h2⟩ := h f (by simp)
    have ih := eq_fields fs fun g hg => h g (by simp [hg])
    unfold Op.eqFields
    split
    · simp only [Sem.run_bind, h1, h2, Result.andThen_ok]
      simpa using ih
    · exact ih
theorem e33' (d : Nat) (x : Int) (W : World) : (Op.equalIn (d + 1) 33 (.int .u32 x) (.int .u32 x)).run Try.prog W = .ok true W := by simp [Op.equalIn, run_underlying Try.underlying33]
theorem e3' (d : Nat) (x : Int) (W : World) : (Op.equalIn (d + 1) 3 (.int .i64 x) (.int .i64 x)).run Try.prog W = .ok true W := by simp [Op.equalIn, run_underlying Try.underlying3]
theorem e4' (d : Nat) (x : Bool) (W : World) : (Op.equalIn (d + 1) 4 (.bool x) (.bool x)).run Try.prog W = .ok true W := by simp [Op.equalIn, run_underlying Try.underlying4]
theorem eq_dec (a b c s : Int) (p : Bool) (W : World) : (Op.equalIn 10000 46 (.agg #[.int .u32 a, .int .u32 b, .int .u32 c, .bool p, .int .i64 s]) (.agg #[.int .u32 a, .int .u32 b, .int .u32 c, .bool p, .int .i64 s])).run Try.prog W = .ok true W := by
  have hf : (Try.prog.fieldsOf 46).toList.map (fun f => (f.type, f.offset)) = [(33, 0), (33, 1), (33, 2), (4, 3), (3, 4)] := by kernel_rfl
  have e33 : ∀ x : Int, (Op.equalIn 9999 33 (.int .u32 x) (.int .u32 x)).run Try.prog W = .ok true W := fun x => e33' 9998 x W
  have e3 : ∀ x : Int, (Op.equalIn 9999 3 (.int .i64 x) (.int .i64 x)).run Try.prog W = .ok true W := fun x => e3' 9998 x W
  have e4 : ∀ x : Bool, (Op.equalIn 9999 4 (.bool x) (.bool x)).run Try.prog W = .ok true W := fun x => e4' 9998 x W
  rw [run_equalIn_agg W 9999 46 _ _ (by kernel_rfl) (by kernel_rfl)]
  refine eq_fields _ fun f hm => ?_
  have : (f.type, f.offset) ∈ [((33 : Nat), (0 : Nat)), (33, 1), (33, 2), (4, 3), (3, 4)] := hf ▸ List.mem_map.2 ⟨f, hm, rfl⟩
  simp only [List.mem_cons, Prod.mk.injEq, List.not_mem_nil, or_false] at this
  rcases this with ⟨h1, h2⟩ | ⟨h1, h2⟩ | ⟨h1, h2⟩ | ⟨h1, h2⟩ | ⟨h1, h2⟩ <;> rw [h1, h2]
  · exact ⟨.int .u32 a, by kernel_rfl, e33 a⟩
  · exact ⟨.int .u32 b, by kernel_rfl, e33 b⟩
  · exact ⟨.int .u32 c, by kernel_rfl, e33 c⟩
  · exact ⟨.bool p, by kernel_rfl, e4 p⟩
  · exact ⟨.int .i64 s, by kernel_rfl, e3 s⟩

theorem copy_b (j : Nat) {X : Nat → Prop} {B : Nat} {w0 w : World} {cs : List (Nat × St)} {cb : Nat} {s : St} (h : Many X B w0 w cs) (hj : cs[j]? = some (cb, s)) :
    Calls Try.prog 19 #[.pointer (some ⟨cb, 0, none⟩)] w fun e w' => ∃ kb, e = .returned (.pointer (some ⟨kb, 0, none⟩)) ∧ Many X B w0 w' (cs ++ [(kb, s)]) ∧ Below w.heap.size w w' := by
  have h' := h
  obtain ⟨hb0, hB, hx, F, h1, h2, h3, h4⟩ := h
  refine (copy_any w cb (F j) s (h1 j cb s hj)).mono ?_
  rintro e w' ⟨kb, G, rfl, hc, hG, hb⟩
  exact ⟨kb, rfl, h'.more hb hc hG, hb⟩
end Go.Proofs.Ytcdhjcjdphnleaa

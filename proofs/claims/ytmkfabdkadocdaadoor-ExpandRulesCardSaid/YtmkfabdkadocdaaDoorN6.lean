import Derived.Test.YtmkfabdkadocdaaDoorN5
import Derived.Test.YtmkfabdkadocdaaDoorB
import Derived.WideKeyMaps
import Derived.WideKeyPair
import Derived.DeepKeys4
/-
  Keys of maps.
-/
namespace Go.Proofs.YtmkfabdkadocdaaDoor
open Go Go.WideMaps Go.RowKit

theorem laid_out : laidOutB Tryd.prog = true := by kernel_rfl
theorem law76 : KeyLaw Tryd.prog 76 := deep_law_laid laid_out (m := 5) (by decide) (of_decide_eq_true (by kernel_rfl)) (by kernel_rfl) (by kernel_rfl)
theorem keyed76 : Maps.Keyed Tryd.prog 76 := Maps.Keyed.of_law law76
theorem law83 : KeyLaw Tryd.prog 83 := deep_law_laid laid_out (m := 5) (by decide) (of_decide_eq_true (by kernel_rfl)) (by kernel_rfl) (by kernel_rfl)
theorem keyed83 : Maps.Keyed Tryd.prog 83 := Maps.Keyed.of_law law83
theorem law61 : KeyLaw Tryd.prog 61 := deep_law_laid laid_out (m := 5) (by decide) (of_decide_eq_true (by kernel_rfl)) (by kernel_rfl) (by kernel_rfl)
theorem keyed61 : Maps.Keyed Tryd.prog 61 := Maps.Keyed.of_law law61
theorem law24 : KeyLaw Tryd.prog 24 := deep_law_laid laid_out (m := 5) (by decide) (of_decide_eq_true (by kernel_rfl)) (by kernel_rfl) (by kernel_rfl)
theorem keyed24 : Maps.Keyed Tryd.prog 24 := Maps.Keyed.of_law law24
end Go.Proofs.YtmkfabdkadocdaaDoor
namespace Go.Proofs.YtmkfabdkadocdaaDoor
open Go Go.WideMaps Go.RowKit
theorem sizeT : ∃ m, Tryd.prog.types.size = m + 1 := ⟨Tryd.prog.types.size - 1, by have : 0 < Tryd.prog.types.size := of_decide_eq_true (by kernel_rfl); omega⟩
theorem lit3 (m : Nat) {a : Int} (wa : (Lit.int .i64 a).wf = true) : Tryd.prog.keyLits (m + 1) 3 [.int .i64 a] = some [.int .i64 a] := by
  unfold Program.keyLits
  simp [Tryd.underlying3, wa]
theorem key76 {a b c d : Int} (wa : (Lit.int .i64 a).wf = true) (wb : (Lit.int .i64 b).wf = true) (wc : (Lit.int .i64 c).wf = true) (wd : (Lit.int .i64 d).wf = true) :
    ∃ l, keyOf Tryd.prog 76 (.agg #[.int .i64 a, .int .i64 b, .int .i64 c, .int .i64 d]) = some l := by
  obtain ⟨m, hm⟩ := sizeT
  have hu : Tryd.prog.underlying 76 = some (.struct (Tryd.prog.fieldsOf 76)) := by kernel_rfl
  have hk : Tryd.prog.keyType 76 = true := by kernel_rfl
  have hc : Tryd.prog.cellsOf 76 = 4 := by kernel_rfl
  have hc3 : Tryd.prog.cellsOf 3 = 1 := by kernel_rfl
  have hf : (Tryd.prog.fieldsOf 76).toList.map (fun f => (f.type, f.offset)) = [(3, 0), (3, 1), (3, 2), (3, 3)] := by kernel_rfl
  have hn : (Tryd.prog.fieldsOf 76).all (fun f => f.name != "_") = true := by kernel_rfl
  have hform : (Value.agg #[.int .i64 a, .int .i64 b, .int .i64 c, .int .i64 d]).formed Tryd.prog 76 = true := by kernel_rfl
  unfold keyOf
  simp only [hu]
  rw [if_pos (by rw [hk, hform]; rfl), hm]
  unfold Program.keyLits
  simp only [hu, Value.cells]
  rw [if_pos ⟨by rw [hc]; rfl, hn⟩]
  generalize (Tryd.prog.fieldsOf 76).toList = fs at hf
  obtain ⟨f0, f1, f2, f3, rfl⟩ : ∃ f0 f1 f2 f3, fs = [f0, f1, f2, f3] := by
    rcases fs with _ | ⟨f0, _ | ⟨f1, _ | ⟨f2, _ | ⟨f3, _ | ⟨f4, r⟩⟩⟩⟩⟩
    · simp at hf
    · simp at hf
    · simp at hf
    · simp at hf
    · exact ⟨_, _, _, _, rfl⟩
    · simp at hf
  simp only [List.map_cons, List.map_nil, List.cons.injEq, Prod.mk.injEq, and_true] at hf
  obtain ⟨⟨t0, o0⟩, ⟨t1, o1⟩, ⟨t2, o2⟩, ⟨t3, o3⟩⟩ := hf
  obtain ⟨m', rfl⟩ : ∃ m', m = m' + 1 := ⟨m - 1, by have h : 1 < Tryd.prog.types.size := of_decide_eq_true (by kernel_rfl); omega⟩
  simp [List.mapM_cons, t0, o0, t1, o1, t2, o2, t3, o3, hc3, lit3, wa, wb, wc, wd]
end Go.Proofs.YtmkfabdkadocdaaDoor

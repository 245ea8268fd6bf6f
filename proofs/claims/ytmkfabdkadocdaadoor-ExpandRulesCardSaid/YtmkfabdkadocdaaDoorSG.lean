import Derived.Test.YtmkfabdkadocdaaDoorSF
import Derived.Test.YtmkfabdkadocdaaDoorO1
/-
  slices.SortFunc(entries, before).
-/
namespace Go.Proofs.YtmkfabdkadocdaaDoor
open Go Go.Shelf Go.RowKit Go.Sort

theorem lays_before (blk off size : Nat) (w : World) : CmpLays Tryd.prog 52 #[] AEntry.cells 7 beforeI blk off size w :=
  fun _ _ _ _ x y => (before_any _ x y).mono fun _ _ ⟨he, q, os, hw⟩ => ⟨he, q, os, hw⟩
theorem sortE_any (blk off cap : Nat) (d : Array AEntry) (w : World) (hH : HoldsK AEntry.cells 7 w blk off d) (hblk : blk < w.heap.size) (hsz : d.size < 4611686018427387904) :
    Calls Tryd.prog 51 #[.slice (some ⟨blk, off, none⟩) d.size cap, .func (.func 52) #[] #[]] w fun e w' => e = .returned (.tuple #[]) ∧ ∃ d' n os, PermIn 0 d.size d d' ∧ SortedIn (ltOf beforeI) 0 d.size d' ∧ w' = sortWorldK AEntry.cells 7 w blk off n d' os := by
  have eg : ∀ args w, (callFunc 52 args).run Tryd.prog w = .ok (.enter 52 args) w := enters_of Tryd.func52 (by kernel_rfl) rfl
  exact AnyQ.slices_SortFunc sortE 7 Tryd.isAgg61 Tryd.sizeOf61 AEntry.cells (fun _ => rfl) (fun x v hv => by simp [AEntry.cells] at hv; rcases hv with rfl | rfl | rfl | rfl | rfl | rfl | rfl <;> rfl) beforeI swo_before 52 #[] blk off cap d w eg (lays_before blk off d.size w) hH hblk hsz
end Go.Proofs.YtmkfabdkadocdaaDoor

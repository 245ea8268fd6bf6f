import Derived.Test.YtmkfabdkadocdaaDoorO5
/-
  expand.Count.
-/
namespace Go.Proofs.YtmkfabdkadocdaaDoor
open Go Go.WideMaps Go.RowKit Go.Sort

set_option maxRecDepth 100000 in
set_option maxHeartbeats 4000000 in
theorem count_any (w : World) (a0 a1 a2 a3 a4 a5 a6 a7 a8 v a10 a11 a12 a13 a14 a15 a16 : Value) (l : List ARule) (h : SliceAt w v 13 l.length (l.flatMap ARule.cells)) (hok : ∀ r ∈ l, r.Wf) (hlen : l.length ≤ 1000) :
    Calls Tryd.prog 18 #[.agg #[a0, a1, a2, a3, a4, a5, a6, a7, a8, v, a10, a11, a12, a13, a14, a15, a16]] w fun e w' => ∃ l', e = .returned (.int .i64 (l'.length : Int)) ∧ Canon (accum (kvR l)) l' ∧ RowKit.Below w.heap.size w w' := by
  have HOK := Lib.hid hok
  have HS := Lib.hid (show SliceAt (w.alloc (.cells #[a0, a1, a2, a3, a4, a5, a6, a7, a8, v, a10, a11, a12, a13, a14, a15, a16] 50)) v 13 l.length (l.flatMap ARule.cells) from h.keep ((Below.refl _ w).alloc (Nat.le_refl _) _))
  clear h hok
  go_enter Tryd.func18, Tryd.ntmps18
  go_wp2_with (first | (refine wpList_load_row rfl 50 _ rfl w.heap.size rfl 50 _ (0, 0) _ (Whole.new w 50 _) Tryd.underlying50 rfl size50 ?_) | (go_at_call 17; go_must (refine (expEntries_any _ a0 a1 a2 a3 a4 a5 a6 a7 a8 v a10 a11 a12 a13 a14 a15 a16 l HS.out HOK.out hlen).mono ?_; rintro e w1 ⟨v1, l1, rfl, hc1, ho1, hl1, hs1, hb1⟩; obtain ⟨xa, xc, rfl, hxc, hxm, -⟩ := hs1.form (by decide); have HQ := Lib.hid (And.intro hc1 hb1); clear hc1 ho1 hs1 hb1)))
  go_ret
  exact ⟨l1, rfl, HQ.out.1, ((Below.refl _ w).alloc (Nat.le_refl _) _).trans (HQ.out.2.mono (by simp))⟩
end Go.Proofs.YtmkfabdkadocdaaDoor

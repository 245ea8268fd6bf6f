import Derived.Test.YtmkfabdkadocdaaDoorMD
import Derived.Test.YtmkfabdkadocdaaDoorN6
import Derived.Test.YtmkfabdkadocdaaDoorO1
/-
  The map of entries by key, as a function.
-/
namespace Go.Proofs.YtmkfabdkadocdaaDoor
open Go Go.WideMaps Go.RowKit Go.Sort

def kval (k : Key4) : Value := .agg #[.int .i64 k.src, .int .i64 k.tgt, .int .i64 k.cls, .int .i64 k.cond]
def vval (v : AVec) : Value := .agg #[.int .u32 v.allow, .int .u32 v.audit, .int .u32 v.dont]
theorem kval_inj {a b : Key4} (h : kval a = kval b) : a = b := by
  cases a; cases b; simpa [kval] using h
theorem i64_wf {a : Int} (h : I64 a) : (Lit.int .i64 a).wf = true := by
  have h1 : (-9223372036854775808 ≤ a ∧ a < 9223372036854775808) := h
  simp [Lit.wf, IntKind.min, IntKind.max, IntKind.signed, IntKind.bits]
  omega
theorem key_ok {k : Key4} (h : k.Ok) : ∃ l, keyOf Tryd.prog 76 (kval k) = some l := key76 (i64_wf h.src) (i64_wf h.tgt) (i64_wf h.cls) (i64_wf h.cond)
theorem zero73 (w : World) : (zeroValue 73).run Tryd.prog w = .ok (vval AVec.zero) w := by kernel_rfl

/-- Block mb is a map that says 'f', with at most n entries. -/
structure MapK (w : World) (mb n : Nat) (f : Key4 → AVec) : Prop where
  ex : ∃ D : List (Key4 × AVec), MapAt w Tryd.prog 76 mb (D.map kvVal) ∧ (∀ p ∈ D, p.2 = f p.1 ∧ p.1.Ok ∧ p.2.Ok) ∧ (∀ k, f k ≠ AVec.zero → k ∈ D.map Prod.fst) ∧ D.length ≤ n

theorem MapK.lt {w : World} {mb n : Nat} {f : Key4 → AVec} (h : MapK w mb n f) : mb < w.heap.size := by
  obtain ⟨D, h1, _⟩ := h.ex
  exact h1.lt
theorem MapK.kept {w w' : World} {mb n : Nat} {f : Key4 → AVec} (h : MapK w mb n f) (hb : w'.heap[mb]? = w.heap[mb]?) : MapK w' mb n f := by
  obtain ⟨D, h1, h2⟩ := h.ex
  exact ⟨D, h1.kept hb, h2⟩
theorem MapK.made (w : World) : MapK (w.alloc (.map #[] 0)) w.heap.size 0 (fun _ => AVec.zero) :=
  ⟨[], MapAt.made w _ _, by simp, by simp, Nat.le_refl _⟩
theorem MapK.val {w : World} {mb n : Nat} {f : Key4 → AVec} (h : MapK w mb n f) (k : Key4) : (f k).Ok := by
  obtain ⟨D, h1, h2, h3, h4⟩ := h.ex
  by_cases hz : f k = AVec.zero
  · rw [hz]; exact AVec.zero_ok
  · obtain ⟨p, hp, rfl⟩ := List.mem_map.1 (h3 _ hz)
    have := h2 p hp
    rw [← this.1]
    exact this.2.2
theorem MapK.look {w : World} {mb n : Nat} {f : Key4 → AVec} (h : MapK w mb n f) {k : Key4} (hk : k.Ok) : (Instr.lookup 71 (.map (some mb)) (kval k) false).run Tryd.prog w = .ok (vval (f k)) w := by
  obtain ⟨D, h1, h2, h3, h4⟩ := h.ex
  obtain ⟨l, hl⟩ := key_ok hk
  by_cases hm : k ∈ D.map Prod.fst
  · obtain ⟨p, hp, rfl⟩ := List.mem_map.1 hm
    have := h1.look_some false keyed76 Tryd.underlying71 hl (val := vval p.2) (List.mem_map.2 ⟨p, hp, rfl⟩)
    rw [← (h2 p hp).1]
    exact this
  · have hz : f k = AVec.zero := Classical.byContradiction fun h => hm (h3 k h)
    rw [hz]
    refine h1.look_none false keyed76 Tryd.underlying71 (zero73 w) hl ?_
    intro p hp e
    obtain ⟨q, hq, rfl⟩ := List.mem_map.1 hp
    exact hm (List.mem_map.2 ⟨q, hq, kval_inj e⟩)
theorem perm_out {D : List (Key4 × AVec)} {p : Key4 × AVec} (h : p ∈ D) : ∃ R, D.Perm (p :: R) := by
  obtain ⟨s, t, rfl⟩ := List.append_of_mem h
  exact ⟨s ++ t, List.perm_middle⟩
theorem MapK.put {w : World} {mb n : Nat} {f : Key4 → AVec} (h : MapK w mb n f) {k : Key4} (hk : k.Ok) {v : AVec} (hv : v.Ok) :
    ∃ w', (Instr.mapUpdate 71 (.map (some mb)) (kval k) (vval v)).run Tryd.prog w = .ok () w' ∧ (MapK w' mb (n + 1) (fun x => if x = k then v else f x) ∧ w.grownBy w' (some mb) ∧ w'.heap.size = w.heap.size) := by
  obtain ⟨D, h1, h2, h3, h4⟩ := h.ex
  obtain ⟨l, hl⟩ := key_ok hk
  by_cases hm : k ∈ D.map Prod.fst
  · obtain ⟨p, hp, rfl⟩ := List.mem_map.1 hm
    obtain ⟨R, hR⟩ := perm_out hp
    have hnd : (D.map Prod.fst).Nodup := by
      have := h1.keys
      rw [List.map_map] at this
      have e : (Prod.fst ∘ kvVal) = kval ∘ Prod.fst := rfl
      rw [e, ← List.map_map] at this
      exact List.Pairwise.of_map kval (fun a b hab e => hab (congrArg kval e)) this
    have hnd2 := ((hR.map Prod.fst).nodup_iff.1 hnd)
    simp only [List.map_cons, List.nodup_cons] at hnd2
    obtain ⟨w', hw, hM, hg, hs⟩ := h1.put_old (key := kval p.1) (val := vval v) (old := vval p.2) (R := R.map kvVal) keyed76 Tryd.underlying71 hl (by simpa [kvVal, kval, vval] using hR.map kvVal)
    refine ⟨w', hw, ⟨(p.1, v) :: R, hM, ?_, ?_, ?_⟩, hg, hs⟩
    · intro q hq
      rcases List.mem_cons.1 hq with rfl | hq
      · exact ⟨by simp, hk, hv⟩
      · have hne : q.1 ≠ p.1 := fun e => hnd2.1 (e ▸ List.mem_map.2 ⟨q, hq, rfl⟩)
        simp only [if_neg hne]
        exact h2 q (hR.mem_iff.2 (List.mem_cons_of_mem _ hq))
    · intro x hx
      by_cases hxk : x = p.1
      · subst hxk; simp
      · simp only [if_neg hxk] at hx
        have := (hR.map Prod.fst).mem_iff.1 (h3 x hx)
        simpa using this
    · have := hR.length_eq
      simp at this ⊢
      omega
  · obtain ⟨w', hw, hM, hg, hs⟩ := h1.put_new (key := kval k) (val := vval v) keyed76 Tryd.underlying71 hl (by
      intro p hp e
      obtain ⟨q, hq, rfl⟩ := List.mem_map.1 hp
      exact hm (List.mem_map.2 ⟨q, hq, kval_inj e⟩))
    refine ⟨w', hw, ⟨(k, v) :: D, hM, ?_, ?_, by simp; omega⟩, hg, hs⟩
    · intro q hq
      rcases List.mem_cons.1 hq with rfl | hq
      · exact ⟨by simp, hk, hv⟩
      · have hne : q.1 ≠ k := fun e => hm (e ▸ List.mem_map.2 ⟨q, hq, rfl⟩)
        simp only [if_neg hne]
        exact h2 q hq
    · intro x hx
      by_cases hxk : x = k
      · subst hxk; simp
      · simp only [if_neg hxk] at hx
        exact List.mem_cons_of_mem _ (h3 x hx)

def AEntry.Ok (e : AEntry) : Prop := e.key.Ok ∧ e.vecs.Ok
theorem MapK.nodup {D : List (Key4 × AVec)} {w : World} {mb : Nat} (h1 : MapAt w Tryd.prog 76 mb (D.map kvVal)) : (D.map Prod.fst).Nodup := by
  have := h1.keys
  rw [List.map_map] at this
  have e : (Prod.fst ∘ kvVal) = kval ∘ Prod.fst := rfl
  rw [e, ← List.map_map] at this
  exact List.Pairwise.of_map kval (fun a b hab e => hab (congrArg kval e)) this
end Go.Proofs.YtmkfabdkadocdaaDoor

import Derived.Test.YtmkfabdkadocdaaDoorSG
import Derived.Test.YtmkfabdkadocdaaDoorM
import Derived.Shelf.SlSortCmp.NoneTotal
/-
  slices.SortFunc at an owned row: what the sort leaves, in words of lists.
-/
namespace Go.Proofs.YtmkfabdkadocdaaDoor
open Go Go.Shelf Go.RowKit Go.Sort

section
variable {α : Type} [Inhabited α] {enc : α → List Value} {k : Nat}
theorem flatK_list (hk : ∀ x, (enc x).length = k) (d : Array α) : (flatK enc k d).toList = d.toList.flatMap enc := by
  refine eq_of_at (by rw [flat_length hk]; simp) fun i hi => ?_
  have hi' : i < d.size * k := by simpa using hi
  have k0 : 0 < k := by rcases Nat.eq_zero_or_pos k with h | h; · subst h; simp at hi'
                        · exact h
  have hd : i / k < d.size := (Nat.div_lt_iff_lt_mul k0).2 hi'
  have h1 := flat_at hk (l := d.toList) (i := i / k) (t := d[i / k]!) (by rw [Array.getElem?_toList, getElem!_pos d _ hd, Array.getElem?_eq_getElem hd]) (i % k) (Nat.mod_lt _ k0)
  rw [Nat.div_add_mod' i k] at h1
  have hi2 : i < (flatK enc k d).size := by simpa using hi'
  rw [h1, Array.getElem?_toList, Array.getElem?_eq_getElem hi2, ← getElem!_pos (flatK enc k d) i hi2, get_flatK _ _ _ _ hi']
  have hm : i % k < (enc d[i / k]!).length := by rw [hk]; exact Nat.mod_lt _ k0
  rw [getElem!_pos (enc d[i / k]!) (i % k) hm, List.getElem?_eq_getElem hm]

theorem holdsK_of {w : World} {g : Nat} {t : TypeId} {cur : Array Value} {n : Nat} {l : List α} (hk : ∀ x, (enc x).length = k) (hW : Whole w g t cur) (hn : l.length = n) (ht : cur.toList.take (n * k) = l.flatMap enc) : HoldsK enc k w g 0 l.toArray := by
  intro j hj
  have hj' : j < n * k := by rw [← hn]; simpa using hj
  have hf := flatK_list hk l.toArray
  refine ⟨?_, hW.frozen _⟩
  rw [Nat.zero_add, hW.cell, getElem!_pos _ j hj]
  have h1 : cur.toList[j]? = (l.flatMap enc)[j]? := by rw [← ht, List.getElem?_take, if_pos hj']
  rw [← Array.getElem?_toList, h1]
  have : l.flatMap enc = (flatK enc k l.toArray).toList := by rw [hf]
  rw [this, Array.getElem?_toList, Array.getElem?_eq_getElem hj]
  rfl

theorem heap_mapBlock_other {w : World} {b i : Nat} {f : Array Value → Array Value} (h : i ≠ b) : (mapBlock w b f).heap[i]? = w.heap[i]? := by
  simp [mapBlock, Array.getElem?_modify, Ne.symm h]

theorem sorted_after {w : World} {g n : Nat} {d d' : Array α} {os : Array Obj} {base : Nat} (hk : ∀ x, (enc x).length = k) (h1 : ∀ x, ∀ v ∈ enc x, v.oneCell' = true) (hH : HoldsK enc k w g 0 d) (hg : g < w.heap.size) (hs : d'.size = d.size) (hb : base ≤ g) {cap : Nat} (hc : d.size ≤ cap) (hm : d.size ≤ maxLen) :
    SliceAt (sortWorldK enc k w g 0 n d' os) (.slice (some ⟨g, 0, none⟩) d.size cap) k d'.toList.length (d'.toList.flatMap enc) ∧ Below base w (sortWorldK enc k w g 0 n d' os) := by
  have hH' : HoldsK enc k (sortWorldK enc k w g 0 n d' os) g 0 d' := holdsK_grow enc k _ _ _ _ _ (by simp [putRowK, hg]) (holdsK_putRowK enc k _ _ _ d d' (holdsK_ahead enc k _ _ _ _ _ hH) hs)
  constructor
  · refine ⟨flat_length hk _, by simpa [hs] using hm, fun u hu => ?_, .inr ⟨⟨g, 0, none⟩, cap, by simp [hs], by simpa [hs] using hc, fun j u hj => ?_⟩⟩
    · obtain ⟨x, -, hx⟩ := List.mem_flatMap.1 hu
      exact h1 x u hx
    · rw [← flatK_list hk d', Array.getElem?_toList] at hj
      obtain ⟨hlt, he⟩ := Array.getElem?_eq_some_iff.1 hj
      have := (hH' j hlt).1
      rw [getElem!_pos _ j hlt, he] at this
      rw [Addr.add_lit]
      exact this
  · refine ⟨rfl, rfl, rfl, by simp [sortWorldK, putRowK], fun i hi => ?_⟩
    have hi' : i < (putRowK enc k (Sort.ahead w n) g 0 d').heap.size := by simp [putRowK]; omega
    unfold sortWorldK
    rw [heap_grow_old _ _ hi']
    exact heap_mapBlock_other (by omega)
end

theorem AEntry.len (x : AEntry) : x.cells.length = 7 := rfl
theorem AEntry.one (x : AEntry) : ∀ v ∈ x.cells, v.oneCell' = true := fun v hv => by simp [AEntry.cells] at hv; rcases hv with rfl | rfl | rfl | rfl | rfl | rfl | rfl <;> rfl

theorem sort_any (w : World) (v : Value) (l : List AEntry) (base : Nat) (h : w.ownsRow base 61 7 v l.length (l.flatMap AEntry.cells)) (hsz : l.length < 4611686018427387904) (hb : base ≤ w.heap.size) :
    Calls Tryd.prog 51 #[v, .func (.func 52) #[] #[]] w fun e w' => e = .returned (.tuple #[]) ∧ ∃ l' : List AEntry, l'.Perm l ∧ l'.Pairwise (fun x y => ltOf beforeI y x = false) ∧ SliceAt w' v 7 l'.length (l'.flatMap AEntry.cells) ∧ Below base w w' := by
  rcases Nat.eq_zero_or_pos l.length with h0 | h0
  · have hl : l = [] := List.eq_nil_of_length_eq_zero h0
    subst hl
    have hs := SliceAt.of_own h (by simp)
    obtain ⟨a, c, rfl, -⟩ := hs.form (by decide)
    refine (AnyF.slices_SortFunc_none sortE a c _ w).mono ?_
    rintro e w' ⟨rfl, rfl⟩
    exact ⟨rfl, [], List.Perm.refl _, List.Pairwise.nil, hs, Below.refl _ _⟩
  · obtain ⟨g, cap, cur, rfl, hg, hW, hn, hcm, hcs, ht⟩ := own_open h h0
    have hH := holdsK_of AEntry.len hW rfl ht
    have hc := sortE_any g 0 cap l.toArray w hH hW.lt (by simpa using hsz)
    refine hc.mono ?_
    rintro e w' ⟨rfl, d', n, os, hp, hs, rfl⟩
    have hsz' : d'.size = l.toArray.size := hp.1.symm ▸ rfl
    have hA := sorted_after (n := n) (os := os) (base := base) AEntry.len AEntry.one hH hW.lt hsz' hg (cap := cap) (by simpa using hn) (by simp; omega)
    refine ⟨rfl, d'.toList, by simpa using perm_list hp, ?_, hA.1, hA.2⟩
    exact sorted_list (by rw [hsz']; exact hs)
end Go.Proofs.YtmkfabdkadocdaaDoor

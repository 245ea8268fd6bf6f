import Derived.Test.YtmkfabdkadocdaaDoorSH
import Derived.Test.YtmkfabdkadocdaaDoorT2
/-
  slices.SortFunc(rules, ordered): what the sort leaves, in words of lists.
-/
namespace Go.Proofs.YtmkfabdkadocdaaDoor
open Go Go.Shelf Go.RowKit Go.Sort

theorem sw_block {α : Type} [Inhabited α] {enc : α → List Value} {k : Nat} {w : World} {g o n i : Nat} {d' : Array α} {os : Array Obj} (hi : i < w.heap.size) (hne : i ≠ g) : (sortWorldK enc k w g o n d' os).heap[i]? = w.heap[i]? := by
  have hi' : i < (putRowK enc k (Sort.ahead w n) g o d').heap.size := by simp [putRowK]; omega
  unfold sortWorldK
  rw [heap_grow_old _ _ hi']
  exact heap_mapBlock_other hne
abbrev OkR := {r : ARule // r.Ok}
theorem u64_0 : U64 0 := show 0 < 18446744073709551616 by decide
theorem ASet.zero_ok : ASet.zero.Ok := ⟨u64_0, u64_0, u64_0, u64_0⟩
instance : Inhabited OkR := ⟨⟨⟨0, ASet.zero, ASet.zero, false, 0, 0, 0⟩, ⟨ASet.zero_ok, ASet.zero_ok⟩⟩⟩
theorem lt_ordered (x y : ARule) : ltOf orderedI x y = decide (x.kind < y.kind ∨ x.kind = y.kind ∧ (x.cls < y.cls ∨ x.cls = y.cls ∧ (x.cond < y.cond ∨ x.cond = y.cond ∧ (x.perms < y.perms ∨ x.perms = y.perms ∧ x.src.least < y.src.least)))) := by
  unfold ltOf orderedI
  simp only [orI, cmpI_zero]
  by_cases h0 : x.kind = y.kind
  · by_cases h1 : x.cls = y.cls
    · by_cases h2 : x.cond = y.cond
      · by_cases h3 : x.perms = y.perms
        · by_cases h4 : x.src.least = y.src.least
          · simp [h0, h1, h2, h3, h4]
          · simp [h0, h1, h2, h3, h4, cmpI_neg]
        · simp [h0, h1, h2, h3, cmpI_neg]
      · simp [h0, h1, h2, cmpI_neg]
    · simp [h0, h1, cmpI_neg]
  · simp [h0, cmpI_neg]
theorem swo_ordered : SWO (ltOf orderedI) where
  irrefl x := by rw [lt_ordered]; simp
  trans x y z h1 h2 := by rw [lt_ordered] at *; simp at *; omega
  ntrans x y z h1 h2 := by rw [lt_ordered] at *; simp at *; omega
def ordR (x y : OkR) : Int := orderedI x.1 y.1
theorem swo_ordR : SWO (ltOf ordR) where
  irrefl x := swo_ordered.irrefl x.1
  trans x y z := swo_ordered.trans x.1 y.1 z.1
  ntrans x y z := swo_ordered.ntrans x.1 y.1 z.1
def encR (r : OkR) : List Value := r.1.cells
theorem lays_ordered (blk off size : Nat) (w : World) (hT : Tab w) (hb : 0 < blk) : CmpLays Tryd.prog 39 #[] encR 13 ordR blk off size w :=
  fun m os dk _ x y => by
    have hT' : Tab (sortWorldK encR 13 w blk off m dk os) := fun j hj => by
      rw [← hT j hj]
      exact World.cell?_of_block (sw_block hT.pos (Nat.ne_of_lt hb))
    exact (ordered_any _ x.1 y.1 x.2.src y.2.src hT').mono fun _ _ ⟨he, q, os, hw⟩ => ⟨he, q, os, hw⟩
theorem rcells_one (r : ARule) : ∀ v ∈ r.cells, v.oneCell' = true := fun v hv => by simp [ARule.cells] at hv; rcases hv with rfl | rfl | rfl | rfl | rfl | rfl | rfl | rfl | rfl | rfl | rfl | rfl | rfl <;> rfl
theorem sortR_any (blk off cap : Nat) (d : Array OkR) (w : World) (hT : Tab w) (hb : 0 < blk) (hH : HoldsK encR 13 w blk off d) (hblk : blk < w.heap.size) (hsz : d.size < 4611686018427387904) :
    Calls Tryd.prog 38 #[.slice (some ⟨blk, off, none⟩) d.size cap, .func (.func 39) #[] #[]] w fun e w' => e = .returned (.tuple #[]) ∧ ∃ d' n os, PermIn 0 d.size d d' ∧ SortedIn (ltOf ordR) 0 d.size d' ∧ w' = sortWorldK encR 13 w blk off n d' os := by
  have eg : ∀ args w, (callFunc 39 args).run Tryd.prog w = .ok (.enter 39 args) w := enters_of Tryd.func39 (by kernel_rfl) rfl
  exact AnyQ.slices_SortFunc sortR 13 Tryd.isAgg27 Tryd.sizeOf27 encR (fun _ => rfl) (fun x v hv => rcells_one x.1 v hv) ordR swo_ordR 39 #[] blk off cap d w eg (lays_ordered blk off d.size w hT hb) hH hblk hsz
theorem attach_flat (l : List ARule) (h : ∀ r ∈ l, r.Ok) : (l.attachWith ARule.Ok h).flatMap encR = l.flatMap ARule.cells := by
  induction l with
  | nil => rfl
  | cons r l ih => simp only [List.attachWith_cons, List.flatMap_cons]; rw [ih]; rfl
theorem attach_map (l : List ARule) (h : ∀ r ∈ l, r.Ok) : (l.attachWith ARule.Ok h).map Subtype.val = l := by
  induction l with
  | nil => rfl
  | cons r l ih => simp only [List.attachWith_cons, List.map_cons]; rw [ih]
theorem sortRules_any (w : World) (v : Value) (l : List ARule) (base : Nat) (h0 : 0 < base) (hT : Tab w) (hok : ∀ r ∈ l, r.Ok) (h : w.ownsRow base 27 13 v l.length (l.flatMap ARule.cells)) (hsz : l.length < 4611686018427387904) (hb : base ≤ w.heap.size) :
    Calls Tryd.prog 38 #[v, .func (.func 39) #[] #[]] w fun e w' => e = .returned (.tuple #[]) ∧ ∃ l' : List ARule, l'.Perm l ∧ l'.Pairwise (fun x y => ltOf orderedI y x = false) ∧ SliceAt w' v 13 l'.length (l'.flatMap ARule.cells) ∧ Below base w w' := by
  rcases Nat.eq_zero_or_pos l.length with h1 | h1
  · have hl : l = [] := List.eq_nil_of_length_eq_zero h1
    subst hl
    have hs := SliceAt.of_own h (by simp)
    obtain ⟨a, c, rfl, -⟩ := hs.form (by decide)
    refine (AnyF.slices_SortFunc_none sortR a c _ w).mono ?_
    rintro e w' ⟨rfl, rfl⟩
    exact ⟨rfl, [], List.Perm.refl _, List.Pairwise.nil, hs, Below.refl _ _⟩
  · obtain ⟨g, cap, cur, rfl, hg, hW, hn, hcm, hcs, ht⟩ := own_open h h1
    obtain ⟨k, hk⟩ : ∃ k, k = l.attachWith ARule.Ok hok := ⟨_, rfl⟩
    have hkl : k.length = l.length := by rw [hk]; simp
    have hkf : k.flatMap encR = l.flatMap ARule.cells := by rw [hk, attach_flat]
    have hkm : k.map Subtype.val = l := by rw [hk, attach_map]
    have hH := holdsK_of (enc := encR) (l := k) (fun _ => rfl) hW hkl (by rw [hkf]; exact ht)
    have hc := sortR_any g 0 cap k.toArray w hT (by omega) hH hW.lt (by simpa [hkl] using hsz)
    rw [show k.toArray.size = l.length by simp [hkl]] at hc
    refine hc.mono ?_
    rintro e w' ⟨rfl, d', n, os, hp, hs, rfl⟩
    have hsz' : d'.size = k.toArray.size := hp.1.symm ▸ rfl
    have hA := sorted_after (n := n) (os := os) (base := base) (enc := encR) (fun _ => rfl) (fun x => rcells_one x.1) hH hW.lt hsz' hg (cap := cap) (by simpa [hkl] using hn) (by simp [hkl]; omega)
    have hsl : k.toArray.size = l.length := by simp [hkl]
    have e1 : (d'.toList.map Subtype.val).flatMap ARule.cells = d'.toList.flatMap encR := by rw [List.flatMap_map]; rfl
    refine ⟨rfl, d'.toList.map Subtype.val, ?_, ?_, ?_, hA.2⟩
    · have := perm_list (d := k.toArray) (by rw [hsl]; exact hp)
      have := this.map Subtype.val
      simpa [hkm] using this
    · have := sorted_list (lt := ltOf ordR) (d := d') (by rw [hsz', hsl]; exact hs)
      exact List.pairwise_map.2 this
    · rw [e1, List.length_map]
      have := hA.1
      rwa [hsl] at this
end Go.Proofs.YtmkfabdkadocdaaDoor

import Derived.Test.YtlkkdpoliafjbaaR
import Derived.Below
/-
  A REGION THAT DRAWS ITS ORDER AND ONLY READS AND CALLS: each operation yields a value of which a fact is known; facts last in later worlds. Each operation is shown once, from a frame of which only the slots it reads are known.
-/
namespace Go.Proofs.Ytlkkdpoliafjbaa
open Go.RowKit

/-- What is known where the operations named by L have been carried out. -/
structure PlanAt (slots : List Nat) (goods : List (Value → World → Prop)) (inv : World → Prop) (t : Array Value) (d : List Deferred) (L : Nat → Bool) (a : Act) (w : World) : Prop where
  defers : a.defers = d
  inv : inv w
  done : ∀ i, L i = true → ∀ s g, slots[i]? = some s → goods[i]? = some g → ∃ v, a.tmps[s]? = some v ∧ g v w
  rest : ∀ j, slots.contains j = false → a.tmps[j]? = t[j]?
  size : a.tmps.size = t.size

/-- A fact that lasts. -/
def Lasts (g : Value → World → Prop) : Prop := ∀ v w w', g v w → Below w.heap.size w w' → g v w'
def LastsAll : List (Value → World → Prop) → Prop
  | [] => True
  | g :: r => Lasts g ∧ LastsAll r
theorem lasts_mem : ∀ {l : List (Value → World → Prop)}, LastsAll l → ∀ g ∈ l, Lasts g
  | [], _, _, h => by cases h
  | x :: r, h, g, hg => by
    rcases List.mem_cons.1 hg with rfl | hg
    · exact h.1
    · exact lasts_mem h.2 g hg
/-- The value is this. -/
def isV (x : Value) : Value → World → Prop := fun v _ => x = v
theorem lasts_is (x : Value) : Lasts (isV x) := fun _ _ _ h _ => h

/-- What is to be shown of the operations of a list, the first being number i. -/
def PlanSteps (P : Program) (ops : Array Oper) (slots : List Nat) (goods : List (Value → World → Prop)) (inv : World → Prop) (t : Array Value) : Nat → List Oper → List (Value → World → Prop) → Prop
  | _, [], _ => True
  | _, _ :: _, [] => False
  | i, o :: r, g :: gs => (∀ (a : Act) (w : World) (Q' : Exit → Act → World → Prop), inv w →
      (∀ k, (∃ gr, (⟨k, gr⟩ : Edge) ∈ o.after.toList ∧ Region.binds .any ⟨k, gr⟩ = true) → ∀ s g, slots[k]? = some s → goods[k]? = some g → ∃ v, a.tmps[s]? = some v ∧ g v w) →
      (∀ j, slots.contains j = false → a.tmps[j]? = t[j]?) →
      (∀ v w', Below w.heap.size w w' → g v w' → Q' .normal (a.put o.dst v) w') → wpList P ops Q' [o] a w) ∧ PlanSteps P ops slots goods inv t (i + 1) r gs

theorem plan_at {P : Program} {ops : Array Oper} {slots : List Nat} {goods : List (Value → World → Prop)} {inv : World → Prop} {t : Array Value} : ∀ (k : Nat) (l : List Oper) (gs : List (Value → World → Prop)), PlanSteps P ops slots goods inv t k l gs → ∀ (i : Nat) (o : Oper), l[i]? = some o →
    (∀ (a : Act) (w : World) (Q' : Exit → Act → World → Prop), inv w →
      (∀ k, (∃ gr, (⟨k, gr⟩ : Edge) ∈ o.after.toList ∧ Region.binds .any ⟨k, gr⟩ = true) → ∀ s g, slots[k]? = some s → goods[k]? = some g → ∃ v, a.tmps[s]? = some v ∧ g v w) →
      (∀ j, slots.contains j = false → a.tmps[j]? = t[j]?) →
      (∀ v w', Below w.heap.size w w' → (∀ g : Value → World → Prop, gs[i]? = some g → g v w') → Q' .normal (a.put o.dst v) w') → wpList P ops Q' [o] a w)
  | _, [], _, _, i, o, h => by simp at h
  | _, _ :: _, [], h, _, _, _ => h.elim
  | k, x :: r, g :: gs, h, 0, o, ho => by
    simp at ho
    subst ho
    exact fun a w Q' h1 h2 h3 h4 => h.1 a w Q' h1 h2 h3 fun v w' hb hg => h4 v w' hb fun g' e => by
      simp at e
      rw [← e]
      exact hg
  | k, x :: r, g :: gs, h, i + 1, o, ho => by
    have := plan_at (k + 1) r gs h.2 i o (by simpa using ho)
    simpa using this

theorem nodup_at {l : List Nat} (h : l.Nodup) {i j s : Nat} (hi : l[i]? = some s) (hj : l[j]? = some s) : i = j := by
  obtain ⟨hi1, hi2⟩ := List.getElem?_eq_some_iff.1 hi
  obtain ⟨hj1, hj2⟩ := List.getElem?_eq_some_iff.1 hj
  have hp := List.pairwise_iff_getElem.1 h
  rcases Nat.lt_trichotomy i j with hlt | he | hlt
  · exact absurd (hi2.trans hj2.symm) (hp i j hi1 hj1 hlt)
  · exact he
  · exact absurd (hj2.trans hi2.symm) (hp j i hj1 hi1 hlt)

section
variable {P : Program} {Q : Exit → Act → World → Prop}
theorem wp_region_plan {id : Nat} {l : List Oper} {t : Array Value} {d : List Deferred} {w : World} (slots : List Nat) (goods : List (Value → World → Prop)) (inv : World → Prop)
    (hm : P.follows .mixedOrders = true) (hord : ordered 0 l = true) (hslots : l.map (·.dst) = slots.map some) (hnd : slots.Nodup) (hbd : slots.all (fun s => decide (s < t.size)) = true)
    (h0 : inv w.drew) (hinv : ∀ w w', inv w → Below w.heap.size w w' → inv w') (hst0 : LastsAll goods)
    (hstep : PlanSteps P l.toArray slots goods inv t 0 l goods)
    (hend : ∀ (a : Act) (w : World), PlanAt slots goods inv t d (fun _ => true) a w → Q .normal a w) :
    (Code.region id l.toArray true).wp P Q ⟨t, d⟩ w := by
  have hsl : ∀ (i : Nat) (o : Oper), l[i]? = some o → ∃ s, slots[i]? = some s ∧ o.dst = some s := fun i o ho => by
    have h := congrArg (fun x : List (Option Tmp) => x[i]?) hslots
    simp only [List.getElem?_map, ho, Option.map_some] at h
    cases hs : slots[i]? with
    | none => rw [hs] at h; cases h
    | some s => rw [hs] at h; exact ⟨s, rfl, Option.some.inj h⟩
  have hst := lasts_mem hst0
  refine wp_region_inv hm hord (fun L a w => PlanAt slots goods inv t d (fun i => L i && decide (i < l.length)) a w) ?_ ?_ ?_
  · exact ⟨rfl, h0, fun i h => by simp at h, fun _ _ => rfl, rfl⟩
  · have key : ∀ (i : Nat) (o : Oper), l[i]? = some o → ∀ (L : Nat → Bool) (a : Act) (w : World) (Q' : Exit → Act → World → Prop), PlanAt slots goods inv t d (fun i => L i && decide (i < l.length)) a w → L i = false →
        (∀ e ∈ o.after.toList, Region.binds .any e = true → L e.on = true) → (∀ a w, PlanAt slots goods inv t d (fun j => upd L i j && decide (j < l.length)) a w → Q' .normal a w) → wpList P l.toArray Q' [o] a w := by
      intro i o ho L a w Q' hI hL hA hK
      have h1 := plan_at 0 l goods hstep i o ho a w Q' hI.inv (fun k ⟨gr, hk, hb⟩ s g hs hg => hI.done k (by
          have hL1 := hA _ hk hb
          have hlt : k < l.length := by
            have h := (List.getElem?_eq_some_iff.1 hs).1
            have e := congrArg List.length hslots
            simp only [List.length_map] at e
            omega
          simp only [hlt, decide_true, Bool.and_true]
          exact hL1) s g hs hg) hI.rest
      refine h1 fun v w' hb hg => ?_
      obtain ⟨s, hs, hd⟩ := hsl i o ho
      refine hK _ _ ⟨?_, hinv _ _ hI.inv hb, ?_, ?_, ?_⟩
      · rw [hd]
        exact hI.defers
      · intro j hj s' g' hs' hg'
        rw [hd]
        by_cases hji : j = i
        · subst hji
          obtain rfl : s = s' := Option.some.inj (hs.symm.trans hs')
          refine ⟨v, ?_, hg g' hg'⟩
          have hlt : s < a.tmps.size := by
            rw [hI.size]
            have := List.all_eq_true.1 hbd s (List.mem_of_getElem? hs)
            simpa using this
          show (a.tmps.setIfInBounds s v)[s]? = some v
          rw [Array.getElem?_setIfInBounds_self_of_lt hlt]
        · have hne : s ≠ s' := fun e => hji (nodup_at hnd (e ▸ hs') hs)
          have hLj : (L j && decide (j < l.length)) = true := by
            have : (j == i) = false := by simpa using hji
            simpa [upd, this] using hj
          obtain ⟨u, hu, hgu⟩ := hI.done j hLj s' g' hs' hg'
          refine ⟨u, ?_, hst g' (List.mem_of_getElem? hg') u w w' hgu hb⟩
          show (a.tmps.setIfInBounds s v)[s']? = some u
          rw [Array.getElem?_setIfInBounds_ne hne]
          exact hu
      · intro j hj
        rw [hd]
        have hne : s ≠ j := fun e => by
          have hm : j ∈ slots := e ▸ List.mem_of_getElem? hs
          have : slots.contains j = true := by simpa using hm
          rw [this] at hj
          cases hj
        show (a.tmps.setIfInBounds s v)[j]? = t[j]?
        rw [Array.getElem?_setIfInBounds_ne hne]
        exact hI.rest j hj
      · rw [hd]
        show (a.tmps.setIfInBounds s v).size = t.size
        rw [Array.size_setIfInBounds]
        exact hI.size
    have all : ∀ (r : List Oper) (k : Nat), (∀ i o, r[i]? = some o → l[k + i]? = some o) → InvSteps P l.toArray (fun L a w => PlanAt slots goods inv t d (fun i => L i && decide (i < l.length)) a w) k r := by
      intro r
      induction r with
      | nil => intro k _; trivial
      | cons o r ih =>
        intro k h
        refine ⟨fun L a w Q' hI hL hA hK => key k o (h 0 o rfl) L a w Q' hI hL hA hK, ih (k + 1) fun i o' ho' => ?_⟩
        have := h (i + 1) o' (by simpa using ho')
        rwa [show k + 1 + i = k + (i + 1) by omega]
    exact all l 0 fun i o ho => by simpa using ho
  · intro L a w hI hL
    refine hend a w ⟨hI.defers, hI.inv, fun i _ s g hs hg => hI.done i ?_ s g hs hg, hI.rest, hI.size⟩
    have hlt : i < l.length := by
      have h := (List.getElem?_eq_some_iff.1 hs).1
      have e := congrArg List.length hslots
      simp only [List.length_map] at e
      omega
    simp only [hL i hlt, hlt, decide_true, Bool.and_true]
end
end Go.Proofs.Ytlkkdpoliafjbaa

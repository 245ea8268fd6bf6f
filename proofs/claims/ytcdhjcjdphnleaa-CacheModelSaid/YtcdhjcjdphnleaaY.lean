import Derived.Test.YtcdhjcjdphnleaaZ
/-
  A REGION THAT DRAWS ITS ORDER, WITH SEVERAL OPERATIONS THAT TURN MEMORY ('x, ok := f(..)' with a struct: a call, an allocation, a store): facts of an operation without a slot may be tied to the slot of an operation ahead of it.
-/
namespace Go.Proofs.Ytcdhjcjdphnleaa
open Go.RowKit

/-- The frame written out: each slot of the region a letter of which its fact is known; a fact of an operation without a slot may speak of the value in the slot that it is tied to. -/
def LaidT (d : List Deferred) (w : World) (a : Act) : List (Option Nat) → List (Option Nat) → List (Value → World → Prop) → Array Value → Prop
  | some s :: ss, _ :: as, g :: gs, t => ∃ u, a.tmps[s]? = some u ∧ g u w ∧ LaidT d w a ss as gs (t.setIfInBounds s u)
  | none :: ss, x :: as, g :: gs, t => ∃ u, (∀ s, x = some s → a.tmps[s]? = some u) ∧ g u w ∧ LaidT d w a ss as gs t
  | _, _, _, t => a = ⟨t, d⟩

/-- What is known where the operations named by L have been carried out; an operation without a slot leaves a fact of the world alone. -/
structure PlanT (slots anchors : List (Option Nat)) (goods : List (Value → World → Prop)) (inv : World → Prop) (t : Array Value) (d : List Deferred) (L : Nat → Bool) (a : Act) (w : World) : Prop where
  defers : a.defers = d
  inv : inv w
  done : ∀ i, L i = true → ∀ g, goods[i]? = some g → ∃ v, (∀ s, anchors[i]? = some (some s) → a.tmps[s]? = some v) ∧ g v w
  rest : ∀ j, slots.contains (some j) = false → a.tmps[j]? = t[j]?
  size : a.tmps.size = t.size

/-- Each operation speaks of its own slot, or of one that an operation ahead of it has written. -/
def tiedTo (l : List Oper) (slots : List (Option Nat)) : List Oper → List (Option Nat) → List (Option Nat) → Bool
  | o :: r, s :: ss, x :: as => (x == s || s == none && match x with
      | some y => o.after.toList.any fun e => Region.binds .any e && slots[e.on]? == some (some y)
      | none => false) && tiedTo l slots r ss as
  | _, [], [] => true
  | _, _, _ => false
theorem tiedTo_own {l : List Oper} {slots : List (Option Nat)} : ∀ {r : List Oper} {ss as : List (Option Nat)}, tiedTo l slots r ss as = true → ∀ (j s : Nat), ss[j]? = some (some s) → as[j]? = some (some s)
  | o :: r, s0 :: ss, x :: as, h, j, s, hj => by
    simp only [tiedTo, Bool.and_eq_true] at h
    obtain ⟨h1, h2⟩ := h
    cases j with
    | succ j => simpa using tiedTo_own h2 j s (by simpa using hj)
    | zero =>
      simp at hj
      subst hj
      rcases Bool.or_eq_true_iff.1 h1 with h3 | h3
      · simpa using beq_iff_eq.1 h3
      · have := (Bool.and_eq_true_iff.1 h3).1
        simp at this
  | _, [], [], _, j, s, hj => by simp at hj
  | [], _ :: _, _, h, _, _, _ => by simp [tiedTo] at h
  | _ :: _, [], _ :: _, h, _, _, _ => by simp [tiedTo] at h
  | [], [], _ :: _, h, _, _, _ => by simp [tiedTo] at h
  | _ :: _, _ :: _, [], h, _, _, _ => by simp [tiedTo] at h
theorem tiedTo_at {l : List Oper} {slots : List (Option Nat)} : ∀ {r : List Oper} {ss as : List (Option Nat)}, tiedTo l slots r ss as = true → ss.length = as.length ∧ ∀ (j : Nat) (o : Oper) (s' : Nat), r[j]? = some o → as[j]? = some (some s') →
    ss[j]? = some (some s') ∨ ss[j]? = some none ∧ ∃ e ∈ o.after.toList, Region.binds .any e = true ∧ slots[e.on]? = some (some s')
  | o :: r, s :: ss, x :: as, h => by
    simp only [tiedTo, Bool.and_eq_true] at h
    obtain ⟨h1, h2⟩ := h
    obtain ⟨hl, ih⟩ := tiedTo_at h2
    refine ⟨by simp [hl], fun j o' s' hj ha => ?_⟩
    cases j with
    | succ j => exact ih j o' s' (by simpa using hj) (by simpa using ha)
    | zero =>
      simp at hj ha
      subst hj ha
      rcases Bool.or_eq_true_iff.1 h1 with h3 | h3
      · exact .inl (by simpa using (beq_iff_eq.1 h3).symm)
      · obtain ⟨h4, h5⟩ := Bool.and_eq_true_iff.1 h3
        obtain ⟨e, he, h6⟩ := List.any_eq_true.1 h5
        obtain ⟨h7, h8⟩ := Bool.and_eq_true_iff.1 h6
        exact .inr ⟨by simpa using beq_iff_eq.1 h4, e, he, h7, beq_iff_eq.1 h8⟩
  | _, [], [], _ => ⟨rfl, fun j o s' _ ha => by simp at ha⟩
  | [], _ :: _, _, h => by simp [tiedTo] at h
  | _ :: _, [], _ :: _, h => by simp [tiedTo] at h
  | [], [], _ :: _, h => by simp [tiedTo] at h
  | _ :: _, _ :: _, [], h => by simp [tiedTo] at h

theorem laidT_of {d : List Deferred} {w : World} {a : Act} (hd : a.defers = d) : ∀ (slots anchors : List (Option Nat)) (goods : List (Value → World → Prop)) (t : Array Value), slots.length = goods.length → slots.length = anchors.length →
    (∀ (i s : Nat), slots[i]? = some (some s) → anchors[i]? = some (some s)) →
    (∀ (i : Nat) (g : Value → World → Prop), goods[i]? = some g → ∃ v, (∀ s, anchors[i]? = some (some s) → a.tmps[s]? = some v) ∧ g v w) → (∀ j, slots.contains (some j) = false → a.tmps[j]? = t[j]?) → a.tmps.size = t.size → LaidT d w a slots anchors goods t
  | [], _, [], t, _, _, _, _, hr, _ => by
    show a = ⟨t, d⟩
    obtain ⟨at', ad⟩ := a
    have e1 : at' = t := Array.ext_getElem? fun j => hr j rfl
    have e2 : ad = d := hd
    rw [e1, e2]
  | none :: ss, x :: as, g :: gs, t, hl, hla, hsa, hg, hr, hs => by
    obtain ⟨u, hu, hgu⟩ := hg 0 g rfl
    refine ⟨u, fun s e => hu s (by rw [e]; rfl), hgu, laidT_of hd ss as gs _ (by simpa using hl) (by simpa using hla) (fun i s h => by have := hsa (i + 1) s (by simpa using h); simpa using this) (fun i g' h2 => ?_) (fun j hj => hr j ?_) hs⟩
    · obtain ⟨v, h3, h4⟩ := hg (i + 1) g' (by simpa using h2)
      exact ⟨v, fun s' h1 => h3 s' (by simpa using h1), h4⟩
    · simp only [List.contains_cons, hj, Bool.or_false]
      rfl
  | some s :: ss, x :: as, g :: gs, t, hl, hla, hsa, hg, hr, hs => by
    obtain ⟨u, hu, hgu⟩ := hg 0 g rfl
    have hu := hu s (hsa 0 s rfl)
    refine ⟨u, hu, hgu, laidT_of hd ss as gs _ (by simpa using hl) (by simpa using hla) (fun i s h => by have := hsa (i + 1) s (by simpa using h); simpa using this) (fun i g' h2 => ?_) (fun j hj => ?_) (by rw [Array.size_setIfInBounds]; exact hs)⟩
    · obtain ⟨v, h3, h4⟩ := hg (i + 1) g' (by simpa using h2)
      exact ⟨v, fun s' h1 => h3 s' (by simpa using h1), h4⟩
    · by_cases h : s = j
      · subst h
        have hlt : s < a.tmps.size := (Array.getElem?_eq_some_iff.1 hu).1
        rw [hu, Array.getElem?_setIfInBounds_self_of_lt (by omega)]
      · rw [Array.getElem?_setIfInBounds_ne h]
        refine hr j ?_
        have h1 : ¬ j = s := fun e => h e.symm
        simp only [List.contains_cons, hj, Bool.or_false]
        simpa using h1
  | [], _, _ :: _, _, hl, _, _, _, _, _ => by simp at hl
  | _ :: _, _, [], _, hl, _, _, _, _, _ => by simp at hl
  | _ :: _, [], _ :: _, _, _, hl, _, _, _, _ => by simp at hl

/-- What the operations in the places ms do to the world, and what each other one does. -/
def Rw (R : Nat → World → World → Prop) (ms : List Nat) (i : Nat) : World → World → Prop := match ms.contains i with
  | true => R i
  | false => fun w w' => Below w.heap.size w w'
theorem rw_true {R : Nat → World → World → Prop} {ms : List Nat} {i : Nat} (h : ms.contains i = true) : Rw R ms i = R i := by unfold Rw; rw [h]
theorem rw_false {R : Nat → World → World → Prop} {ms : List Nat} {i : Nat} (h : ms.contains i = false) : Rw R ms i = fun w w' => Below w.heap.size w w' := by unfold Rw; rw [h]
def LastsMs (R : Nat → World → World → Prop) (ms : List Nat) : Nat → List (Value → World → Prop) → Prop
  | _, [] => True
  | j, g :: r => (∀ i, ms.contains i = true → i ≠ j → LastsR (R i) g) ∧ LastsMs R ms (j + 1) r
theorem lastsMs_at {R : Nat → World → World → Prop} {ms : List Nat} : ∀ {k : Nat} {l : List (Value → World → Prop)}, LastsMs R ms k l → ∀ (j : Nat) (g : Value → World → Prop), l[j]? = some g → ∀ i, ms.contains i = true → i ≠ k + j → LastsR (R i) g
  | _, [], _, j, _, h, _, _, _ => by simp at h
  | _, x :: _, h, 0, g, hg, i, hi, hm => by
    simp at hg
    subst hg
    exact h.1 i hi hm
  | k, _ :: r, h, j + 1, g, hg, i, hi, hm => lastsMs_at h.2 j g (by simpa using hg) i hi (by omega)

/-- One operation of the plan carried out. -/
theorem PlanT.put {slots anchors : List (Option Nat)} {goods : List (Value → World → Prop)} {inv : World → Prop} {t : Array Value} {d : List Deferred} {L : Nat → Bool} {a : Act} {w w' : World} {i : Nat} {s : Option Nat} {v u : Value} (h : PlanT slots anchors goods inv t d L a w)
    (hbd : slots.all (fun s => decide (s.getD 0 < t.size)) = true) (hst : ∀ (j : Nat) (g : Value → World → Prop), goods[j]? = some g → j ≠ i → ∀ v, g v w → g v w') {inv' : World → Prop} (hinv : inv' w') (hs : slots[i]? = some s)
    (hu : anchors[i]? = slots[i]? ∧ u = v ∨ ∃ y, anchors[i]? = some (some y) ∧ slots[i]? = some none ∧ a.tmps[y]? = some u) (hg : ∀ g : Value → World → Prop, goods[i]? = some g → g u w')
    {L' : Nat → Bool} (hL : ∀ j, L' j = true → j = i ∨ L j = true) (hfar : ∀ j s' s'', j ≠ i → L j = true → anchors[j]? = some (some s') → slots[i]? = some (some s'') → s'' ≠ s') : PlanT slots anchors goods inv' t d L' (a.put s v) w' := by
  have own : ∀ y, anchors[i]? = some (some y) → (a.put s v).tmps[y]? = some u := by
    intro y hy
    rcases hu with ⟨h1, rfl⟩ | ⟨y', h1, h2, h3⟩
    · rw [h1, hs] at hy
      cases hy
      have hlt : y < a.tmps.size := by
        rw [h.size]
        have := List.all_eq_true.1 hbd (some y) (List.mem_of_getElem? hs)
        simpa using this
      show (a.tmps.setIfInBounds y u)[y]? = some u
      rw [Array.getElem?_setIfInBounds_self_of_lt hlt]
    · rw [h1] at hy
      cases hy
      rw [h2] at hs
      cases hs
      exact h3
  refine ⟨by cases s <;> exact h.defers, hinv, ?_, ?_, ?_⟩
  · intro j hj g' hg'
    by_cases hji : j = i
    · subst hji
      exact ⟨u, own, hg g' hg'⟩
    · have hLj := (hL j hj).resolve_left hji
      obtain ⟨x, hx, hgx⟩ := h.done j hLj g' hg'
      refine ⟨x, fun s' hs' => ?_, hst j g' hg' hji x hgx⟩
      cases s with
      | none => exact hx s' hs'
      | some s =>
        have hne := hfar j s' s hji hLj hs' hs
        show (a.tmps.setIfInBounds s v)[s']? = some x
        rw [Array.getElem?_setIfInBounds_ne hne]
        exact hx s' hs'
  · intro j hj
    cases s with
    | none => exact h.rest j hj
    | some s =>
      have hne : s ≠ j := fun e => by
        have hm : some j ∈ slots := e ▸ List.mem_of_getElem? hs
        have : slots.contains (some j) = true := by simpa using hm
        rw [this] at hj
        cases hj
      show (a.tmps.setIfInBounds s v)[j]? = t[j]?
      rw [Array.getElem?_setIfInBounds_ne hne]
      exact h.rest j hj
  · cases s with
    | none => exact h.size
    | some s =>
      show (a.tmps.setIfInBounds s v).size = t.size
      rw [Array.size_setIfInBounds]
      exact h.size

/-- What is to be shown of the operations; the last one has no fact of its own. -/
def PlanStepsT (R : Nat → World → World → Prop) (P : Program) (ops : Array Oper) (slots anchors : List (Option Nat)) (goods : List (Value → World → Prop)) (inv : (Nat → Bool) → World → Prop) (ms : List Nat) (t : Array Value) (d : List Deferred) (Q : Exit → Act → World → Prop) : Nat → List Oper → List (Value → World → Prop) → Prop
  | i, o :: r, g :: gs => (∀ (L : Nat → Bool) (a : Act) (w : World) (Q' : Exit → Act → World → Prop), L i = false → inv L w →
      (∀ k, (∃ gr, (⟨k, gr⟩ : Edge) ∈ o.after.toList ∧ Region.binds .any ⟨k, gr⟩ = true) → ∀ g, goods[k]? = some g → ∃ v, (∀ s, anchors[k]? = some (some s) → a.tmps[s]? = some v) ∧ g v w) →
      (∀ j, slots.contains (some j) = false → a.tmps[j]? = t[j]?) →
      (∀ v u w', Rw R ms i w w' → inv (upd L i) w' → (anchors[i]? = slots[i]? ∧ u = v ∨ ∃ y, anchors[i]? = some (some y) ∧ slots[i]? = some none ∧ a.tmps[y]? = some u) → g u w' → Q' .normal (a.put o.dst v) w') → wpList P ops Q' [o] a w) ∧ PlanStepsT R P ops slots anchors goods inv ms t d Q (i + 1) r gs
  | _, [o], [] => ∀ (a : Act) (w : World), LaidT d w a slots anchors goods t → ∀ (L : Nat → Bool), inv L w → (∀ i, i < slots.length → L i = true) → ∀ (Q' : Exit → Act → World → Prop), (∀ a w, Q .normal a w → Q' .normal a w) → wpList P ops Q' [o] a w
  | _, _, _ => False

theorem planT_at {R : Nat → World → World → Prop} {P : Program} {ops : Array Oper} {slots anchors : List (Option Nat)} {goods : List (Value → World → Prop)} {inv : (Nat → Bool) → World → Prop} {ms : List Nat} {t : Array Value} {d : List Deferred} {Q : Exit → Act → World → Prop} : ∀ (k : Nat) (l : List Oper) (gs : List (Value → World → Prop)), PlanStepsT R P ops slots anchors goods inv ms t d Q k l gs →
    l.length = gs.length + 1 ∧
    (∀ (i : Nat) (o : Oper), l[i]? = some o → i < gs.length →
    (∀ (L : Nat → Bool) (a : Act) (w : World) (Q' : Exit → Act → World → Prop), L (k + i) = false → inv L w →
      (∀ k, (∃ gr, (⟨k, gr⟩ : Edge) ∈ o.after.toList ∧ Region.binds .any ⟨k, gr⟩ = true) → ∀ g, goods[k]? = some g → ∃ v, (∀ s, anchors[k]? = some (some s) → a.tmps[s]? = some v) ∧ g v w) →
      (∀ j, slots.contains (some j) = false → a.tmps[j]? = t[j]?) →
      (∀ v u w', Rw R ms (k + i) w w' → inv (upd L (k + i)) w' → (anchors[k + i]? = slots[k + i]? ∧ u = v ∨ ∃ y, anchors[k + i]? = some (some y) ∧ slots[k + i]? = some none ∧ a.tmps[y]? = some u) → (∀ g : Value → World → Prop, gs[i]? = some g → g u w') → Q' .normal (a.put o.dst v) w') → wpList P ops Q' [o] a w)) ∧
    (∀ o, l[gs.length]? = some o → ∀ (a : Act) (w : World), LaidT d w a slots anchors goods t → ∀ (L : Nat → Bool), inv L w → (∀ i, i < slots.length → L i = true) → ∀ (Q' : Exit → Act → World → Prop), (∀ a w, Q .normal a w → Q' .normal a w) → wpList P ops Q' [o] a w)
  | k, x :: r, g :: gs, h => by
    obtain ⟨h1, h2, h3⟩ := planT_at (k + 1) r gs h.2
    refine ⟨by simpa using h1, ?_, fun o ho => h3 o (by simpa using ho)⟩
    intro i o ho hi
    cases i with
    | zero =>
      simp at ho
      subst ho
      exact fun L a w Q' h0 h1 h2 h3 h4 => h.1 L a w Q' h0 h1 h2 h3 fun v u w' hb hi hu hg => h4 v u w' hb hi hu fun g' e => by
        simp at e
        rw [← e]
        exact hg
    | succ i =>
      have := h2 i o (by simpa using ho) (by simpa using hi)
      rw [show k + 1 + i = k + (i + 1) by omega] at this
      simpa using this
  | _, [o], [], h => ⟨rfl, fun i o' _ hi => by simp at hi, fun o' ho' => by simp at ho'; subst ho'; exact h⟩
  | _, [], _, h => by cases ‹List (Value → World → Prop)› <;> exact h.elim
  | _, _ :: _ :: _, [], h => h.elim

section
variable {P : Program} {Q : Exit → Act → World → Prop}
theorem wp_region_tied {id : Nat} {l : List Oper} {t : Array Value} {d : List Deferred} {w : World} (R : Nat → World → World → Prop) (slots anchors : List (Option Nat)) (goods : List (Value → World → Prop)) (inv : (Nat → Bool) → World → Prop) (ms : List Nat)
    (hm : P.follows .mixedOrders = true) (hord : ordered 0 l = true) (hcons : consumed l = true) (hslots : (l.map (·.dst)).take slots.length = slots) (hnd : (slots.filterMap fun x => x).Nodup) (hbd : slots.all (fun s => decide (s.getD 0 < t.size)) = true) (hlen : slots.length = goods.length) (htied : tiedTo l slots l slots anchors = true)
    (h0 : inv (fun _ => false) w.drew) (hst0 : LastsAll goods) (hst1 : LastsMs R ms 0 goods)
    (hstep : PlanStepsT R P l.toArray slots anchors goods inv ms t d Q 0 l goods) :
    (Code.region id l.toArray true).wp P Q ⟨t, d⟩ w := by
  obtain ⟨hn, hat, hla⟩ := planT_at 0 l goods hstep
  rw [← hlen] at hn hat hla
  have hsl : ∀ (i : Nat) (o : Oper), l[i]? = some o → i < slots.length → slots[i]? = some o.dst := fun i o ho hi => by
    have h := congrArg (fun x : List (Option Tmp) => x[i]?) hslots
    simp only [List.getElem?_map, List.getElem?_take, if_pos hi, ho, Option.map_some] at h
    exact h.symm
  have hst := lasts_mem hst0
  have hsb := lastsMs_at hst1
  obtain ⟨hla', hti⟩ := tiedTo_at htied
  refine wp_region_inv hm hord (fun L a w => (∀ j o, l[j]? = some o → L j = true → ∀ e ∈ o.after.toList, Region.binds .any e = true → L e.on = true) ∧
    (L slots.length = false → PlanT slots anchors goods (inv L) t d (fun i => L i && decide (i < slots.length)) a w) ∧ (L slots.length = true → Q .normal a w)) ?_ ?_ ?_
  · refine ⟨fun _ _ _ h => (by cases h), fun _ => ?_, fun h => (by cases h)⟩
    exact ⟨rfl, h0, fun i h => by simp at h, fun _ _ => rfl, rfl⟩
  · have key : ∀ (i : Nat) (o : Oper), l[i]? = some o → ∀ (L : Nat → Bool) (a : Act) (w : World) (Q' : Exit → Act → World → Prop),
        ((∀ j o, l[j]? = some o → L j = true → ∀ e ∈ o.after.toList, Region.binds .any e = true → L e.on = true) ∧ (L slots.length = false → PlanT slots anchors goods (inv L) t d (fun i => L i && decide (i < slots.length)) a w) ∧ (L slots.length = true → Q .normal a w)) → L i = false →
        (∀ e ∈ o.after.toList, Region.binds .any e = true → L e.on = true) →
        (∀ a w, ((∀ j o, l[j]? = some o → upd L i j = true → ∀ e ∈ o.after.toList, Region.binds .any e = true → upd L i e.on = true) ∧ (upd L i slots.length = false → PlanT slots anchors goods (inv (upd L i)) t d (fun j => upd L i j && decide (j < slots.length)) a w) ∧ (upd L i slots.length = true → Q .normal a w)) → Q' .normal a w) →
        wpList P l.toArray Q' [o] a w := by
      intro i o ho L a w Q' ⟨hcl, hpl, hq⟩ hL hA hK
      have hil : i < slots.length + 1 := by rw [← hn]; exact (List.getElem?_eq_some_iff.1 ho).1
      have up : ∀ k, L k = true → upd L i k = true := fun k hk => by simp [upd, hk]
      have hcl' : ∀ j o, l[j]? = some o → upd L i j = true → ∀ e ∈ o.after.toList, Region.binds .any e = true → upd L i e.on = true := by
        intro j o' hj hLj e he hb
        by_cases hji : j = i
        · subst hji
          obtain rfl : o = o' := Option.some.inj (ho.symm.trans hj)
          exact up _ (hA e he hb)
        · have hne : (j == i) = false := by simpa using hji
          exact up _ (hcl j o' hj (by simpa [upd, hne] using hLj) e he hb)
      by_cases hin : i = slots.length
      · subst hin
        have hall := all_before hord hcons L hn (fun j o hj _ => hcl j o hj) (fun o' ho' => by obtain rfl : o = o' := Option.some.inj (ho.symm.trans ho'); exact hA)
        have hlt' : ∀ (i : Nat) (g : Value → World → Prop), goods[i]? = some g → (i < slots.length → L i = true) → (L i && decide (i < slots.length)) = true := fun i g h2 h3 => by
          have hi : i < slots.length := by rw [hlen]; exact (List.getElem?_eq_some_iff.1 h2).1
          simp [h3 hi, hi]
        refine hla o ho a w (laidT_of (hpl hL).defers slots anchors goods t hlen hla' (tiedTo_own htied) (fun i g h2 => (hpl hL).done i (hlt' i g h2 (hall i)) g h2) (hpl hL).rest (hpl hL).size) L (hpl hL).inv hall Q' fun a' w' hq' => hK a' w' ⟨hcl', fun h => ?_, fun _ => hq'⟩
        simp [upd] at h
      · have hi : i < slots.length := by omega
        have hLn : L slots.length = false := by
          cases hx : L slots.length with
          | false => rfl
          | true =>
            have hall := all_before hord hcons L hn (fun j o hj _ => hcl j o hj) (fun o' ho' => hcl _ o' ho' hx)
            rw [hall i hi] at hL
            cases hL
        have hI := hpl hLn
        have hne : (slots.length == i) = false := by simpa using fun e => hin (Eq.symm e)
        have h1 := hat i o ho hi L a w Q' (by rw [Nat.zero_add]; exact hL) hI.inv (fun k ⟨gr, hk, hb⟩ g hg => hI.done k (by
            have hL1 := hA _ hk hb
            have hlt : k < slots.length := by rw [hlen]; exact (List.getElem?_eq_some_iff.1 hg).1
            simp only [hlt, decide_true, Bool.and_true]
            exact hL1) g hg) hI.rest
        refine h1 fun v u w' hb hii hu hg => ?_
        have hs := hsl i o ho hi
        rw [Nat.zero_add] at hii hu hb
        have hst' : ∀ (j : Nat) (g : Value → World → Prop), goods[j]? = some g → j ≠ i → ∀ v, g v w → g v w' := by
          intro j g hg hne v hv
          cases he : ms.contains i with
          | true =>
            rw [rw_true he] at hb
            exact hsb j g hg i he (by omega) v w w' hv hb
          | false =>
            rw [rw_false he] at hb
            exact hst g (List.mem_of_getElem? hg) v w w' hv hb
        refine hK _ _ ⟨hcl', fun _ => ?_, fun h => ?_⟩
        · refine hI.put hbd hst' hii hs hu hg (fun j hj => ?_) ?_
          rotate_left
          · intro j s' s'' hji hLj ha hs''
            have hLj' : L j = true := (Bool.and_eq_true_iff.1 hLj).1
            have hjl : j < slots.length := by
              have := (Bool.and_eq_true_iff.1 hLj).2
              simpa using this
            obtain ⟨oj, hoj⟩ : ∃ oj, l[j]? = some oj := ⟨_, List.getElem?_eq_getElem (by omega)⟩
            rcases hti j oj s' hoj ha with h | ⟨_, e, he, hb', hse⟩
            · intro e
              subst e
              exact hji (nodup_some hnd h hs'')
            · intro e'
              subst e'
              have := nodup_some hnd hse hs''
              have h2 := hcl j oj hoj hLj' e he hb'
              rw [this, hL] at h2
              cases h2
          by_cases hji : j = i
          · exact .inl hji
          · have : (j == i) = false := by simpa using hji
            exact .inr (by simpa [upd, this] using hj)
        · simp [upd, hne, hLn] at h
    have all : ∀ (r : List Oper) (k : Nat), (∀ i o, r[i]? = some o → l[k + i]? = some o) → InvSteps P l.toArray (fun L a w => (∀ j o, l[j]? = some o → L j = true → ∀ e ∈ o.after.toList, Region.binds .any e = true → L e.on = true) ∧
        (L slots.length = false → PlanT slots anchors goods (inv L) t d (fun i => L i && decide (i < slots.length)) a w) ∧ (L slots.length = true → Q .normal a w)) k r := by
      intro r
      induction r with
      | nil => intro k _; trivial
      | cons o r ih =>
        intro k h
        refine ⟨fun L a w Q' hI hL hA hK => key k o (h 0 o rfl) L a w Q' hI hL hA hK, ih (k + 1) fun i o' ho' => ?_⟩
        have := h (i + 1) o' (by simpa using ho')
        rwa [show k + 1 + i = k + (i + 1) by omega]
    exact all l 0 fun i o ho => by simpa using ho
  · intro L a w hI hL
    exact hI.2.2 (hL slots.length (by omega))
end
end Go.Proofs.Ytcdhjcjdphnleaa

import Derived.Test.YtlkkdpoliafjbaaS
/-
  A REGION THAT DRAWS ITS ORDER, READS AND CALLS, AND WHOSE LAST OPERATION (that each other one leads to) DOES WHATEVER IT DOES: 'x.f = g(x.f, ..)'. And the frame behind such a region, written out.
-/
namespace Go.Proofs.Ytlkkdpoliafjbaa
open Go.RowKit

/-- The frame written out: each slot of the region a letter of which its fact is known. -/
def Laid (d : List Deferred) (w : World) (a : Act) : List (Option Nat) → List (Value → World → Prop) → Array Value → Prop
  | some s :: ss, g :: gs, t => ∃ u, g u w ∧ Laid d w a ss gs (t.setIfInBounds s u)
  | none :: ss, g :: gs, t => ∃ u, g u w ∧ Laid d w a ss gs t
  | _, _, t => a = ⟨t, d⟩

/-- What is known where the operations named by L have been carried out; an operation without a slot leaves a fact of the world alone. -/
structure PlanO (slots : List (Option Nat)) (goods : List (Value → World → Prop)) (inv : World → Prop) (t : Array Value) (d : List Deferred) (L : Nat → Bool) (a : Act) (w : World) : Prop where
  defers : a.defers = d
  inv : inv w
  done : ∀ i, L i = true → ∀ g, goods[i]? = some g → ∃ v, (∀ s, slots[i]? = some (some s) → a.tmps[s]? = some v) ∧ g v w
  rest : ∀ j, slots.contains (some j) = false → a.tmps[j]? = t[j]?
  size : a.tmps.size = t.size

theorem laid_of {d : List Deferred} {w : World} {a : Act} (hd : a.defers = d) : ∀ (slots : List (Option Nat)) (goods : List (Value → World → Prop)) (t : Array Value), slots.length = goods.length →
    (∀ (i : Nat) (g : Value → World → Prop), goods[i]? = some g → ∃ v, (∀ s, slots[i]? = some (some s) → a.tmps[s]? = some v) ∧ g v w) → (∀ j, slots.contains (some j) = false → a.tmps[j]? = t[j]?) → a.tmps.size = t.size → Laid d w a slots goods t
  | [], [], t, _, _, hr, _ => by
    show a = ⟨t, d⟩
    obtain ⟨at', ad⟩ := a
    have e1 : at' = t := Array.ext_getElem? fun j => hr j rfl
    have e2 : ad = d := hd
    rw [e1, e2]
  | none :: ss, g :: gs, t, hl, hg, hr, hs => by
    obtain ⟨u, _, hgu⟩ := hg 0 g rfl
    refine ⟨u, hgu, laid_of hd ss gs _ (by simpa using hl) (fun i g' h2 => ?_) (fun j hj => hr j ?_) hs⟩
    · obtain ⟨v, h3, h4⟩ := hg (i + 1) g' (by simpa using h2)
      exact ⟨v, fun s' h1 => h3 s' (by simpa using h1), h4⟩
    · simp only [List.contains_cons, hj, Bool.or_false]
      rfl
  | some s :: ss, g :: gs, t, hl, hg, hr, hs => by
    obtain ⟨u, hu, hgu⟩ := hg 0 g rfl
    have hu := hu s rfl
    refine ⟨u, hgu, laid_of hd ss gs _ (by simpa using hl) (fun i g' h2 => ?_) (fun j hj => ?_) (by rw [Array.size_setIfInBounds]; exact hs)⟩
    · obtain ⟨v, h3, h4⟩ := hg (i + 1) g' (by simpa using h2)
      exact ⟨v, fun s' h1 => h3 s' (by simpa using h1), h4⟩
    · by_cases h : s = j
      · subst h
        have hlt : s < a.tmps.size := (Array.getElem?_eq_some_iff.1 hu).1
        rw [hu, Array.getElem?_setIfInBounds_self_of_lt (by omega)]
      · rw [Array.getElem?_setIfInBounds_ne h]
        refine hr j ?_
        have h1 : ¬ j = s := fun e => h e.symm
        simp only [List.contains_cons, hj, Bool.or_false]
        simpa using h1
  | [], _ :: _, _, hl, _, _, _ => by simp at hl
  | _ :: _, [], _, hl, _, _, _ => by simp at hl

theorem PlanO.laid {slots : List (Option Nat)} {goods : List (Value → World → Prop)} {inv : World → Prop} {t : Array Value} {d : List Deferred} {L : Nat → Bool} {a : Act} {w : World} (h : PlanO slots goods inv t d L a w) (hl : slots.length = goods.length)
    (hL : ∀ i, i < slots.length → L i = true) : Laid d w a slots goods t :=
  laid_of h.defers slots goods t hl (fun i g h2 => h.done i (hL i (by rw [hl]; exact (List.getElem?_eq_some_iff.1 h2).1)) g h2) h.rest h.size

/-- A fact that lasts along a relation of worlds. -/
def LastsR (R : World → World → Prop) (g : Value → World → Prop) : Prop := ∀ v w w', g v w → R w w' → g v w'
/-- All but the one in place m last along R. -/
def LastsBut (R : World → World → Prop) (m : Nat) : Nat → List (Value → World → Prop) → Prop
  | _, [] => True
  | i, g :: r => (i ≠ m → LastsR R g) ∧ LastsBut R m (i + 1) r
theorem lastsBut_at {R : World → World → Prop} {m : Nat} : ∀ {k : Nat} {l : List (Value → World → Prop)}, LastsBut R m k l → ∀ (i : Nat) (g : Value → World → Prop), l[i]? = some g → k + i ≠ m → LastsR R g
  | _, [], _, i, _, h, _ => by simp at h
  | _, x :: _, h, 0, g, hg, hm => by
    simp at hg
    subst hg
    exact h.1 hm
  | k, _ :: r, h, i + 1, g, hg, hm => lastsBut_at h.2 i g (by simpa using hg) (by omega)
/-- What the operation in place m does to the world, and what each other one does. -/
def Rm (R : World → World → Prop) : Bool → World → World → Prop
  | true => R
  | false => fun w w' => Below w.heap.size w w'
theorem lastsR_is {R : World → World → Prop} (x : Value) : LastsR R (isV x) := fun _ _ _ h _ => h

theorem nodup_some {l : List (Option Nat)} (h : (l.filterMap fun x => x).Nodup) : ∀ {i j s : Nat}, l[i]? = some (some s) → l[j]? = some (some s) → i = j := by
  induction l with
  | nil => intro i j s hi; simp at hi
  | cons x l ih =>
    have key : ∀ {j s : Nat}, x = some s → l[j]? = some (some s) → False := by
      intro j s hx hj
      subst hx
      simp only [List.filterMap_cons, List.nodup_cons] at h
      exact h.1 (List.mem_filterMap.2 ⟨some s, List.mem_of_getElem? hj, rfl⟩)
    have h' : (l.filterMap fun x => x).Nodup := by
      cases x with
      | none => simpa [List.filterMap_cons] using h
      | some s => simp only [List.filterMap_cons, List.nodup_cons] at h; exact h.2
    intro i j s hi hj
    cases i with
    | zero =>
      cases j with
      | zero => rfl
      | succ j => exact (key (by simpa using hi) (by simpa using hj)).elim
    | succ i =>
      cases j with
      | zero => exact (key (by simpa using hj) (by simpa using hi)).elim
      | succ j => exact congrArg (· + 1) (ih h' (by simpa using hi) (by simpa using hj))

/-- One operation of the plan carried out. -/
theorem PlanO.put {slots : List (Option Nat)} {goods : List (Value → World → Prop)} {inv : World → Prop} {t : Array Value} {d : List Deferred} {L : Nat → Bool} {a : Act} {w w' : World} {i : Nat} {s : Option Nat} {v : Value} (h : PlanO slots goods inv t d L a w)
    (hnd : (slots.filterMap fun x => x).Nodup) (hbd : slots.all (fun s => decide (s.getD 0 < t.size)) = true) (hst : ∀ (j : Nat) (g : Value → World → Prop), goods[j]? = some g → j ≠ i → ∀ v, g v w → g v w') {inv' : World → Prop} (hinv : inv' w') (hs : slots[i]? = some s) (hg : ∀ g : Value → World → Prop, goods[i]? = some g → g v w')
    {L' : Nat → Bool} (hL : ∀ j, L' j = true → j = i ∨ L j = true) : PlanO slots goods inv' t d L' (a.put s v) w' := by
  cases s with
  | none =>
    refine ⟨h.defers, hinv, ?_, h.rest, h.size⟩
    intro j hj g' hg'
    by_cases hji : j = i
    · subst hji
      exact ⟨v, fun s' hs' => (by rw [hs] at hs'; cases hs'), hg g' hg'⟩
    · obtain ⟨u, hu, hgu⟩ := h.done j ((hL j hj).resolve_left hji) g' hg'
      exact ⟨u, hu, hst j g' hg' hji u hgu⟩
  | some s =>
    refine ⟨h.defers, hinv, ?_, ?_, ?_⟩
    · intro j hj g' hg'
      by_cases hji : j = i
      · subst hji
        refine ⟨v, fun s' hs' => ?_, hg g' hg'⟩
        obtain rfl : s = s' := Option.some.inj (Option.some.inj (hs.symm.trans hs'))
        have hlt : s < a.tmps.size := by
          rw [h.size]
          have := List.all_eq_true.1 hbd (some s) (List.mem_of_getElem? hs)
          simpa using this
        show (a.tmps.setIfInBounds s v)[s]? = some v
        rw [Array.getElem?_setIfInBounds_self_of_lt hlt]
      · obtain ⟨u, hu, hgu⟩ := h.done j ((hL j hj).resolve_left hji) g' hg'
        refine ⟨u, fun s' hs' => ?_, hst j g' hg' hji u hgu⟩
        have hne : s ≠ s' := fun e => hji (nodup_some hnd (e ▸ hs') hs)
        show (a.tmps.setIfInBounds s v)[s']? = some u
        rw [Array.getElem?_setIfInBounds_ne hne]
        exact hu s' hs'
    · intro j hj
      have hne : s ≠ j := fun e => by
        have hm : some j ∈ slots := e ▸ List.mem_of_getElem? hs
        have : slots.contains (some j) = true := by simpa using hm
        rw [this] at hj
        cases hj
      show (a.tmps.setIfInBounds s v)[j]? = t[j]?
      rw [Array.getElem?_setIfInBounds_ne hne]
      exact h.rest j hj
    · show (a.tmps.setIfInBounds s v).size = t.size
      rw [Array.size_setIfInBounds]
      exact h.size

/-- What is to be shown of the operations; the last one has no fact of its own. -/
def PlanStepsL (R : World → World → Prop) (P : Program) (ops : Array Oper) (slots : List (Option Nat)) (goods : List (Value → World → Prop)) (inv : (Nat → Bool) → World → Prop) (m : Nat) (t : Array Value) (d : List Deferred) (Q : Exit → Act → World → Prop) : Nat → List Oper → List (Value → World → Prop) → Prop
  | i, o :: r, g :: gs => (∀ (L : Nat → Bool) (a : Act) (w : World) (Q' : Exit → Act → World → Prop), L i = false → inv L w →
      (∀ k, (∃ gr, (⟨k, gr⟩ : Edge) ∈ o.after.toList ∧ Region.binds .any ⟨k, gr⟩ = true) → ∀ g, goods[k]? = some g → ∃ v, (∀ s, slots[k]? = some (some s) → a.tmps[s]? = some v) ∧ g v w) →
      (∀ j, slots.contains (some j) = false → a.tmps[j]? = t[j]?) →
      (∀ v w', Rm R (i == m) w w' → inv (upd L i) w' → g v w' → Q' .normal (a.put o.dst v) w') → wpList P ops Q' [o] a w) ∧ PlanStepsL R P ops slots goods inv m t d Q (i + 1) r gs
  | _, [o], [] => ∀ (a : Act) (w : World), Laid d w a slots goods t → ∀ (L : Nat → Bool), inv L w → (∀ i, i < slots.length → L i = true) → ∀ (Q' : Exit → Act → World → Prop), (∀ a w, Q .normal a w → Q' .normal a w) → wpList P ops Q' [o] a w
  | _, _, _ => False

theorem planL_at {R : World → World → Prop} {P : Program} {ops : Array Oper} {slots : List (Option Nat)} {goods : List (Value → World → Prop)} {inv : (Nat → Bool) → World → Prop} {m : Nat} {t : Array Value} {d : List Deferred} {Q : Exit → Act → World → Prop} : ∀ (k : Nat) (l : List Oper) (gs : List (Value → World → Prop)), PlanStepsL R P ops slots goods inv m t d Q k l gs →
    l.length = gs.length + 1 ∧
    (∀ (i : Nat) (o : Oper), l[i]? = some o → i < gs.length →
    (∀ (L : Nat → Bool) (a : Act) (w : World) (Q' : Exit → Act → World → Prop), L (k + i) = false → inv L w →
      (∀ k, (∃ gr, (⟨k, gr⟩ : Edge) ∈ o.after.toList ∧ Region.binds .any ⟨k, gr⟩ = true) → ∀ g, goods[k]? = some g → ∃ v, (∀ s, slots[k]? = some (some s) → a.tmps[s]? = some v) ∧ g v w) →
      (∀ j, slots.contains (some j) = false → a.tmps[j]? = t[j]?) →
      (∀ v w', Rm R (k + i == m) w w' → inv (upd L (k + i)) w' → (∀ g : Value → World → Prop, gs[i]? = some g → g v w') → Q' .normal (a.put o.dst v) w') → wpList P ops Q' [o] a w)) ∧
    (∀ o, l[gs.length]? = some o → ∀ (a : Act) (w : World), Laid d w a slots goods t → ∀ (L : Nat → Bool), inv L w → (∀ i, i < slots.length → L i = true) → ∀ (Q' : Exit → Act → World → Prop), (∀ a w, Q .normal a w → Q' .normal a w) → wpList P ops Q' [o] a w)
  | k, x :: r, g :: gs, h => by
    obtain ⟨h1, h2, h3⟩ := planL_at (k + 1) r gs h.2
    refine ⟨by simpa using h1, ?_, fun o ho => h3 o (by simpa using ho)⟩
    intro i o ho hi
    cases i with
    | zero =>
      simp at ho
      subst ho
      exact fun L a w Q' h0 h1 h2 h3 h4 => h.1 L a w Q' h0 h1 h2 h3 fun v w' hb hi hg => h4 v w' hb hi fun g' e => by
        simp at e
        rw [← e]
        exact hg
    | succ i =>
      have := h2 i o (by simpa using ho) (by simpa using hi)
      rw [show k + 1 + i = k + (i + 1) by omega] at this
      simpa using this
  | _, [o], [], h => ⟨rfl, fun i o' _ hi => by simp at hi, fun o' ho' => by simp at ho'; subst ho'; exact h⟩
  | _, [], _, h => by cases ‹List (Value → World → Prop)› <;> exact h.elim
  | _, _ :: _ :: _, [], h => h.elim

def consumed (l : List Oper) : Bool := (List.range (l.length - 1)).all fun i => l.any fun o => o.after.toList.any fun e => e.on == i && Region.binds .any e

theorem all_before {l : List Oper} (hord : ordered 0 l = true) (hc : consumed l = true) (L : Nat → Bool) {n : Nat} (hn : l.length = n + 1)
    (hcl : ∀ j o, l[j]? = some o → j < n → L j = true → ∀ e ∈ o.after.toList, Region.binds .any e = true → L e.on = true) (hlast : ∀ o, l[n]? = some o → ∀ e ∈ o.after.toList, Region.binds .any e = true → L e.on = true) :
    ∀ i, i < n → L i = true := by
  have key : ∀ m i, i < n → n - i = m → L i = true := by
    intro m
    induction m using Nat.strongRecOn with
    | ind m ih =>
      intro i hi hm
      have h1 := List.all_eq_true.1 hc i (by simp; omega)
      obtain ⟨o, ho, h2⟩ := List.any_eq_true.1 h1
      obtain ⟨e, he, h3⟩ := List.any_eq_true.1 h2
      simp only [Bool.and_eq_true, beq_iff_eq] at h3
      obtain ⟨rfl, hb⟩ := h3
      obtain ⟨j, hj⟩ := List.getElem?_of_mem ho
      have hlt := ordered_at 0 l hord j o hj e he hb
      have hjn : j < n + 1 := by rw [← hn]; exact (List.getElem?_eq_some_iff.1 hj).1
      by_cases hje : j = n
      · subst hje
        exact hlast o hj e he hb
      · exact hcl j o hj (by omega) (ih (n - j) (by omega) j (by omega) rfl) e he hb
  exact fun i hi => key _ i hi rfl

section
variable {P : Program} {Q : Exit → Act → World → Prop}
theorem wp_region_last {id : Nat} {l : List Oper} {t : Array Value} {d : List Deferred} {w : World} (R : World → World → Prop) (slots : List (Option Nat)) (goods : List (Value → World → Prop)) (inv : (Nat → Bool) → World → Prop) (m : Nat)
    (hm : P.follows .mixedOrders = true) (hord : ordered 0 l = true) (hcons : consumed l = true) (hslots : (l.map (·.dst)).take slots.length = slots) (hnd : (slots.filterMap fun x => x).Nodup) (hbd : slots.all (fun s => decide (s.getD 0 < t.size)) = true) (hlen : slots.length = goods.length)
    (h0 : inv (fun _ => false) w.drew) (hst0 : LastsAll goods) (hst1 : LastsBut R m 0 goods)
    (hstep : PlanStepsL R P l.toArray slots goods inv m t d Q 0 l goods) :
    (Code.region id l.toArray true).wp P Q ⟨t, d⟩ w := by
  obtain ⟨hn, hat, hla⟩ := planL_at 0 l goods hstep
  rw [← hlen] at hn hat hla
  have hsl : ∀ (i : Nat) (o : Oper), l[i]? = some o → i < slots.length → slots[i]? = some o.dst := fun i o ho hi => by
    have h := congrArg (fun x : List (Option Tmp) => x[i]?) hslots
    simp only [List.getElem?_map, List.getElem?_take, if_pos hi, ho, Option.map_some] at h
    exact h.symm
  have hst := lasts_mem hst0
  have hsb := lastsBut_at hst1
  refine wp_region_inv hm hord (fun L a w => (∀ j o, l[j]? = some o → L j = true → ∀ e ∈ o.after.toList, Region.binds .any e = true → L e.on = true) ∧
    (L slots.length = false → PlanO slots goods (inv L) t d (fun i => L i && decide (i < slots.length)) a w) ∧ (L slots.length = true → Q .normal a w)) ?_ ?_ ?_
  · refine ⟨fun _ _ _ h => (by cases h), fun _ => ?_, fun h => (by cases h)⟩
    exact ⟨rfl, h0, fun i h => by simp at h, fun _ _ => rfl, rfl⟩
  · have key : ∀ (i : Nat) (o : Oper), l[i]? = some o → ∀ (L : Nat → Bool) (a : Act) (w : World) (Q' : Exit → Act → World → Prop),
        ((∀ j o, l[j]? = some o → L j = true → ∀ e ∈ o.after.toList, Region.binds .any e = true → L e.on = true) ∧ (L slots.length = false → PlanO slots goods (inv L) t d (fun i => L i && decide (i < slots.length)) a w) ∧ (L slots.length = true → Q .normal a w)) → L i = false →
        (∀ e ∈ o.after.toList, Region.binds .any e = true → L e.on = true) →
        (∀ a w, ((∀ j o, l[j]? = some o → upd L i j = true → ∀ e ∈ o.after.toList, Region.binds .any e = true → upd L i e.on = true) ∧ (upd L i slots.length = false → PlanO slots goods (inv (upd L i)) t d (fun j => upd L i j && decide (j < slots.length)) a w) ∧ (upd L i slots.length = true → Q .normal a w)) → Q' .normal a w) →
        wpList P l.toArray Q' [o] a w := by
      intro i o ho L a w Q' ⟨hcl, hpl, hq⟩ hL hA hK
      have hil : i < slots.length + 1 := by rw [← hn]; exact (List.getElem?_eq_some_iff.1 ho).1
      have up : ∀ k, L k = true → upd L i k = true := fun k hk => by simp [upd, hk]
      have hcl' : ∀ j o, l[j]? = some o → upd L i j = true → ∀ e ∈ o.after.toList, Region.binds .any e = true → upd L i e.on = true := by
        intro j o' hj hLj e he hb
        by_cases hji : j = i
        · subst hji
          obtain rfl : o = o' := Option.some.inj (ho.symm.trans hj)
          exact up _ (hA e he hb)
        · have hne : (j == i) = false := by simpa using hji
          exact up _ (hcl j o' hj (by simpa [upd, hne] using hLj) e he hb)
      by_cases hin : i = slots.length
      · subst hin
        have hall := all_before hord hcons L hn (fun j o hj _ => hcl j o hj) (fun o' ho' => by obtain rfl : o = o' := Option.some.inj (ho.symm.trans ho'); exact hA)
        refine hla o ho a w ((hpl hL).laid hlen fun i hi => by simp [hall i hi, hi]) L (hpl hL).inv hall Q' fun a' w' hq' => hK a' w' ⟨hcl', fun h => ?_, fun _ => hq'⟩
        simp [upd] at h
      · have hi : i < slots.length := by omega
        have hLn : L slots.length = false := by
          cases hx : L slots.length with
          | false => rfl
          | true =>
            have hall := all_before hord hcons L hn (fun j o hj _ => hcl j o hj) (fun o' ho' => hcl _ o' ho' hx)
            rw [hall i hi] at hL
            cases hL
        have hI := hpl hLn
        have hne : (slots.length == i) = false := by simpa using fun e => hin (Eq.symm e)
        have h1 := hat i o ho hi L a w Q' (by rw [Nat.zero_add]; exact hL) hI.inv (fun k ⟨gr, hk, hb⟩ g hg => hI.done k (by
            have hL1 := hA _ hk hb
            have hlt : k < slots.length := by rw [hlen]; exact (List.getElem?_eq_some_iff.1 hg).1
            simp only [hlt, decide_true, Bool.and_true]
            exact hL1) g hg) hI.rest
        refine h1 fun v w' hb hii hg => ?_
        have hs := hsl i o ho hi
        rw [Nat.zero_add] at hii
        have hst' : ∀ (j : Nat) (g : Value → World → Prop), goods[j]? = some g → j ≠ i → ∀ v, g v w → g v w' := by
          intro j g hg hne v hv
          by_cases he : 0 + i = m
          · have h2 : (0 + i == m) = true := by simpa using he
            rw [h2] at hb
            exact hsb j g hg (by omega) v w w' hv hb
          · have h2 : (0 + i == m) = false := by simpa using he
            rw [h2] at hb
            exact hst g (List.mem_of_getElem? hg) v w w' hv hb
        refine hK _ _ ⟨hcl', fun _ => ?_, fun h => ?_⟩
        · refine hI.put hnd hbd hst' hii hs hg fun j hj => ?_
          by_cases hji : j = i
          · exact .inl hji
          · have : (j == i) = false := by simpa using hji
            exact .inr (by simpa [upd, this] using hj)
        · simp [upd, hne, hLn] at h
    have all : ∀ (r : List Oper) (k : Nat), (∀ i o, r[i]? = some o → l[k + i]? = some o) → InvSteps P l.toArray (fun L a w => (∀ j o, l[j]? = some o → L j = true → ∀ e ∈ o.after.toList, Region.binds .any e = true → L e.on = true) ∧
        (L slots.length = false → PlanO slots goods (inv L) t d (fun i => L i && decide (i < slots.length)) a w) ∧ (L slots.length = true → Q .normal a w)) k r := by
      intro r
      induction r with
      | nil => intro k _; trivial
      | cons o r ih =>
        intro k h
        refine ⟨fun L a w Q' hI hL hA hK => key k o (h 0 o rfl) L a w Q' hI hL hA hK, ih (k + 1) fun i o' ho' => ?_⟩
        have := h (i + 1) o' (by simpa using ho')
        rwa [show k + 1 + i = k + (i + 1) by omega]
    exact all l 0 fun i o ho => by simpa using ho
  · intro L a w hI hL
    exact hI.2.2 (hL slots.length (by omega))
end
end Go.Proofs.Ytlkkdpoliafjbaa

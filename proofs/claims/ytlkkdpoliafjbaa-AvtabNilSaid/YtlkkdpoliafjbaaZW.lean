import Derived.Test.YtlkkdpoliafjbaaZ
/-
  A REGION THAT DRAWS ITS ORDER, WITH SEVERAL OPERATIONS THAT TURN MEMORY: facts may ask which operations have been carried out; an operation that turns memory shows what it leaves of the facts of the others.
-/
namespace Go.Proofs.Ytlkkdpoliafjbaa
open Go.RowKit

/-- A fact of an operation's value, and of the world; it may ask which operations have been carried out. -/
abbrev Gd := (Nat → Bool) → Value → World → Prop
def isW (x : Value) : Gd := fun _ v _ => x = v
def LaidW (L : Nat → Bool) (d : List Deferred) (w : World) (a : Act) : List (Option Nat) → List Gd → Array Value → Prop
  | some s :: ss, g :: gs, t => ∃ u, g L u w ∧ LaidW L d w a ss gs (t.setIfInBounds s u)
  | none :: ss, g :: gs, t => ∃ u, g L u w ∧ LaidW L d w a ss gs t
  | _, _, t => a = ⟨t, d⟩

/-- What is known where the operations named by L have been carried out; an operation without a slot leaves a fact of the world alone. -/
structure PlanW (slots : List (Option Nat)) (goods : List Gd) (inv : World → Prop) (t : Array Value) (d : List Deferred) (L : Nat → Bool) (a : Act) (w : World) : Prop where
  defers : a.defers = d
  inv : inv w
  done : ∀ i, L i = true → i < slots.length → ∀ g, goods[i]? = some g → ∃ v, (∀ s, slots[i]? = some (some s) → a.tmps[s]? = some v) ∧ g L v w
  rest : ∀ j, slots.contains (some j) = false → a.tmps[j]? = t[j]?
  size : a.tmps.size = t.size

theorem laidW_of {L : Nat → Bool} {d : List Deferred} {w : World} {a : Act} (hd : a.defers = d) : ∀ (slots : List (Option Nat)) (goods : List Gd) (t : Array Value), slots.length = goods.length →
    (∀ (i : Nat) (g : Gd), goods[i]? = some g → ∃ v, (∀ s, slots[i]? = some (some s) → a.tmps[s]? = some v) ∧ g L v w) → (∀ j, slots.contains (some j) = false → a.tmps[j]? = t[j]?) → a.tmps.size = t.size → LaidW L d w a slots goods t
  | [], [], t, _, _, hr, _ => by
    show a = ⟨t, d⟩
    obtain ⟨at', ad⟩ := a
    have e1 : at' = t := Array.ext_getElem? fun j => hr j rfl
    have e2 : ad = d := hd
    rw [e1, e2]
  | none :: ss, g :: gs, t, hl, hg, hr, hs => by
    obtain ⟨u, _, hgu⟩ := hg 0 g rfl
    refine ⟨u, hgu, laidW_of hd ss gs _ (by simpa using hl) (fun i g' h2 => ?_) (fun j hj => hr j ?_) hs⟩
    · obtain ⟨v, h3, h4⟩ := hg (i + 1) g' (by simpa using h2)
      exact ⟨v, fun s' h1 => h3 s' (by simpa using h1), h4⟩
    · simp only [List.contains_cons, hj, Bool.or_false]
      rfl
  | some s :: ss, g :: gs, t, hl, hg, hr, hs => by
    obtain ⟨u, hu, hgu⟩ := hg 0 g rfl
    have hu := hu s rfl
    refine ⟨u, hgu, laidW_of hd ss gs _ (by simpa using hl) (fun i g' h2 => ?_) (fun j hj => ?_) (by rw [Array.size_setIfInBounds]; exact hs)⟩
    · obtain ⟨v, h3, h4⟩ := hg (i + 1) g' (by simpa using h2)
      exact ⟨v, fun s' h1 => h3 s' (by simpa using h1), h4⟩
    · by_cases h : s = j
      · subst h
        have hlt : s < a.tmps.size := (Array.getElem?_eq_some_iff.1 hu).1
        rw [hu, Array.getElem?_setIfInBounds_self_of_lt (by omega)]
      · rw [Array.getElem?_setIfInBounds_ne h]
        refine hr j ?_
        have h1 : ¬ j = s := fun e => h e.symm
        simp only [List.contains_cons, hj, Bool.or_false]
        simpa using h1
  | [], _ :: _, _, hl, _, _, _ => by simp at hl
  | _ :: _, [], _, hl, _, _, _ => by simp at hl

theorem PlanW.laid {slots : List (Option Nat)} {goods : List Gd} {inv : World → Prop} {t : Array Value} {d : List Deferred} {L : Nat → Bool} {a : Act} {w : World} (h : PlanW slots goods inv t d L a w) (hl : slots.length = goods.length)
    (hL : ∀ i, i < slots.length → L i = true) : LaidW L d w a slots goods t :=
  laidW_of h.defers slots goods t hl (fun i g h2 => h.done i (hL i (by rw [hl]; exact (List.getElem?_eq_some_iff.1 h2).1)) (by rw [hl]; exact (List.getElem?_eq_some_iff.1 h2).1) g h2) h.rest h.size

/-- Facts that last while an operation that is none of ms is carried out. -/
def LastsW (ms : List Nat) : List Gd → Prop
  | [] => True
  | g :: r => (∀ (L : Nat → Bool) (i : Nat) v w w', ms.contains i = false → g L v w → Below w.heap.size w w' → g (upd L i) v w') ∧ LastsW ms r
theorem lastsW_mem {ms : List Nat} : ∀ {l : List Gd}, LastsW ms l → ∀ g ∈ l, ∀ (L : Nat → Bool) (i : Nat) v w w', ms.contains i = false → g L v w → Below w.heap.size w w' → g (upd L i) v w'
  | [], _, _, h => by cases h
  | x :: r, h, g, hg => by
    rcases List.mem_cons.1 hg with rfl | hg
    · exact h.1
    · exact lastsW_mem h.2 g hg
theorem lastsW_is {ms : List Nat} (x : Value) : ∀ (L : Nat → Bool) (i : Nat) v w w', ms.contains i = false → isW x L v w → Below w.heap.size w w' → isW x (upd L i) v w' := fun _ _ _ _ _ _ h _ => h
/-- What operation i, one that turns memory, leaves of the facts of the others. -/
def KeepAll (slots : List (Option Nat)) (L : Nat → Bool) (a : Act) (w w' : World) (i : Nat) : Nat → List Gd → Prop
  | _, [] => True
  | j, g :: r => (j ≠ i → L j = true → ∀ v, (∀ s, slots[j]? = some (some s) → a.tmps[s]? = some v) → g L v w → g (upd L i) v w') ∧ KeepAll slots L a w w' i (j + 1) r
theorem keepAll_at {slots : List (Option Nat)} {L : Nat → Bool} {a : Act} {w w' : World} {i : Nat} : ∀ {k : Nat} {l : List Gd}, KeepAll slots L a w w' i k l → ∀ (j : Nat) (g : Gd), l[j]? = some g → k + j ≠ i → L (k + j) = true → ∀ v, (∀ s, slots[k + j]? = some (some s) → a.tmps[s]? = some v) → g L v w → g (upd L i) v w'
  | _, [], _, j, _, h => by simp at h
  | _, x :: _, h, 0, g, hg => by
    simp at hg
    subst hg
    exact h.1
  | k, _ :: r, h, j + 1, g, hg => by
    have := keepAll_at h.2 j g (by simpa using hg)
    rwa [show k + 1 + j = k + (j + 1) by omega] at this
/-- What an operation does: one of ms keeps the facts as it shows; any other one leaves what there was. -/
def StepW (ms : List Nat) (slots : List (Option Nat)) (goods : List Gd) (L : Nat → Bool) (a : Act) (w w' : World) (i : Nat) : Prop := match ms.contains i with
  | true => KeepAll slots L a w w' i 0 goods
  | false => Below w.heap.size w w'
theorem stepW_true {ms : List Nat} {slots : List (Option Nat)} {goods : List Gd} {L : Nat → Bool} {a : Act} {w w' : World} {i : Nat} (h : ms.contains i = true) : StepW ms slots goods L a w w' i = KeepAll slots L a w w' i 0 goods := by unfold StepW; rw [h]
theorem stepW_false {ms : List Nat} {slots : List (Option Nat)} {goods : List Gd} {L : Nat → Bool} {a : Act} {w w' : World} {i : Nat} (h : ms.contains i = false) : StepW ms slots goods L a w w' i = Below w.heap.size w w' := by unfold StepW; rw [h]

/-- One operation of the plan carried out. -/
theorem PlanW.put {slots : List (Option Nat)} {goods : List Gd} {inv : World → Prop} {t : Array Value} {d : List Deferred} {L : Nat → Bool} {a : Act} {w w' : World} {i : Nat} {s : Option Nat} {v : Value} {L' : Nat → Bool} (h : PlanW slots goods inv t d L a w)
    (hnd : (slots.filterMap fun x => x).Nodup) (hbd : slots.all (fun s => decide (s.getD 0 < t.size)) = true) (hst : ∀ (j : Nat) (g : Gd), goods[j]? = some g → j ≠ i → L j = true → ∀ v, (∀ s, slots[j]? = some (some s) → a.tmps[s]? = some v) → g L v w → g L' v w') {inv' : World → Prop} (hinv : inv' w') (hs : slots[i]? = some s) (hg : ∀ g : Gd, goods[i]? = some g → g L' v w')
    (hL : ∀ j, L' j = true → j = i ∨ L j = true) : PlanW slots goods inv' t d L' (a.put s v) w' := by
  cases s with
  | none =>
    refine ⟨h.defers, hinv, ?_, h.rest, h.size⟩
    intro j hj hjl g' hg'
    by_cases hji : j = i
    · subst hji
      exact ⟨v, fun s' hs' => (by rw [hs] at hs'; cases hs'), hg g' hg'⟩
    · obtain ⟨u, hu, hgu⟩ := h.done j ((hL j hj).resolve_left hji) hjl g' hg'
      exact ⟨u, hu, hst j g' hg' hji ((hL j hj).resolve_left hji) u hu hgu⟩
  | some s =>
    refine ⟨h.defers, hinv, ?_, ?_, ?_⟩
    · intro j hj hjl g' hg'
      by_cases hji : j = i
      · subst hji
        refine ⟨v, fun s' hs' => ?_, hg g' hg'⟩
        obtain rfl : s = s' := Option.some.inj (Option.some.inj (hs.symm.trans hs'))
        have hlt : s < a.tmps.size := by
          rw [h.size]
          have := List.all_eq_true.1 hbd (some s) (List.mem_of_getElem? hs)
          simpa using this
        show (a.tmps.setIfInBounds s v)[s]? = some v
        rw [Array.getElem?_setIfInBounds_self_of_lt hlt]
      · obtain ⟨u, hu, hgu⟩ := h.done j ((hL j hj).resolve_left hji) hjl g' hg'
        refine ⟨u, fun s' hs' => ?_, hst j g' hg' hji ((hL j hj).resolve_left hji) u hu hgu⟩
        have hne : s ≠ s' := fun e => hji (nodup_some hnd (e ▸ hs') hs)
        show (a.tmps.setIfInBounds s v)[s']? = some u
        rw [Array.getElem?_setIfInBounds_ne hne]
        exact hu s' hs'
    · intro j hj
      have hne : s ≠ j := fun e => by
        have hm : some j ∈ slots := e ▸ List.mem_of_getElem? hs
        have : slots.contains (some j) = true := by simpa using hm
        rw [this] at hj
        cases hj
      show (a.tmps.setIfInBounds s v)[j]? = t[j]?
      rw [Array.getElem?_setIfInBounds_ne hne]
      exact h.rest j hj
    · show (a.tmps.setIfInBounds s v).size = t.size
      rw [Array.size_setIfInBounds]
      exact h.size

/-- What is to be shown of the operations; the last one has no fact of its own. -/
def PlanStepsW (P : Program) (ops : Array Oper) (slots : List (Option Nat)) (goods : List Gd) (inv : (Nat → Bool) → World → Prop) (ms : List Nat) (t : Array Value) (d : List Deferred) (Q : Exit → Act → World → Prop) : Nat → List Oper → List Gd → Prop
  | i, o :: r, g :: gs => (∀ (L : Nat → Bool) (a : Act) (w : World) (Q' : Exit → Act → World → Prop), L i = false → inv L w →
      (∀ k, (∃ gr, (⟨k, gr⟩ : Edge) ∈ o.after.toList ∧ Region.binds .any ⟨k, gr⟩ = true) → ∀ g, goods[k]? = some g → ∃ v, (∀ s, slots[k]? = some (some s) → a.tmps[s]? = some v) ∧ g L v w) →
      (∀ j, slots.contains (some j) = false → a.tmps[j]? = t[j]?) →
      (∀ v w', StepW ms slots goods L a w w' i → inv (upd L i) w' → g (upd L i) v w' → Q' .normal (a.put o.dst v) w') → wpList P ops Q' [o] a w) ∧ PlanStepsW P ops slots goods inv ms t d Q (i + 1) r gs
  | _, [o], [] => ∀ (a : Act) (w : World) (L : Nat → Bool), LaidW L d w a slots goods t → inv L w → (∀ i, i < slots.length → L i = true) → ∀ (Q' : Exit → Act → World → Prop), (∀ a w, Q .normal a w → Q' .normal a w) → wpList P ops Q' [o] a w
  | _, _, _ => False

theorem planW_at {P : Program} {ops : Array Oper} {slots : List (Option Nat)} {goods : List Gd} {inv : (Nat → Bool) → World → Prop} {ms : List Nat} {t : Array Value} {d : List Deferred} {Q : Exit → Act → World → Prop} : ∀ (k : Nat) (l : List Oper) (gs : List Gd), PlanStepsW P ops slots goods inv ms t d Q k l gs →
    l.length = gs.length + 1 ∧
    (∀ (i : Nat) (o : Oper), l[i]? = some o → i < gs.length →
    (∀ (L : Nat → Bool) (a : Act) (w : World) (Q' : Exit → Act → World → Prop), L (k + i) = false → inv L w →
      (∀ k, (∃ gr, (⟨k, gr⟩ : Edge) ∈ o.after.toList ∧ Region.binds .any ⟨k, gr⟩ = true) → ∀ g, goods[k]? = some g → ∃ v, (∀ s, slots[k]? = some (some s) → a.tmps[s]? = some v) ∧ g L v w) →
      (∀ j, slots.contains (some j) = false → a.tmps[j]? = t[j]?) →
      (∀ v w', StepW ms slots goods L a w w' (k + i) → inv (upd L (k + i)) w' → (∀ g : Gd, gs[i]? = some g → g (upd L (k + i)) v w') → Q' .normal (a.put o.dst v) w') → wpList P ops Q' [o] a w)) ∧
    (∀ o, l[gs.length]? = some o → ∀ (a : Act) (w : World) (L : Nat → Bool), LaidW L d w a slots goods t → inv L w → (∀ i, i < slots.length → L i = true) → ∀ (Q' : Exit → Act → World → Prop), (∀ a w, Q .normal a w → Q' .normal a w) → wpList P ops Q' [o] a w)
  | k, x :: r, g :: gs, h => by
    obtain ⟨h1, h2, h3⟩ := planW_at (k + 1) r gs h.2
    refine ⟨by simpa using h1, ?_, fun o ho => h3 o (by simpa using ho)⟩
    intro i o ho hi
    cases i with
    | zero =>
      simp at ho
      subst ho
      exact fun L a w Q' h0 h1 h2 h3 h4 => h.1 L a w Q' h0 h1 h2 h3 fun v w' hb hi hg => h4 v w' hb hi fun g' e => by
        simp at e
        rw [← e]
        exact hg
    | succ i =>
      have := h2 i o (by simpa using ho) (by simpa using hi)
      rw [show k + 1 + i = k + (i + 1) by omega] at this
      simpa using this
  | _, [o], [], h => ⟨rfl, fun i o' _ hi => by simp at hi, fun o' ho' => by simp at ho'; subst ho'; exact h⟩
  | _, [], _, h => by cases ‹List Gd› <;> exact h.elim
  | _, _ :: _ :: _, [], h => h.elim

section
variable {P : Program} {Q : Exit → Act → World → Prop}
theorem wp_region_goods {id : Nat} {l : List Oper} {t : Array Value} {d : List Deferred} {w : World} (slots : List (Option Nat)) (goods : List Gd) (inv : (Nat → Bool) → World → Prop) (ms : List Nat)
    (hm : P.follows .mixedOrders = true) (hord : ordered 0 l = true) (hcons : consumed l = true) (hslots : (l.map (·.dst)).take slots.length = slots) (hnd : (slots.filterMap fun x => x).Nodup) (hbd : slots.all (fun s => decide (s.getD 0 < t.size)) = true) (hlen : slots.length = goods.length)
    (h0 : inv (fun _ => false) w.drew) (hst0 : LastsW ms goods)
    (hstep : PlanStepsW P l.toArray slots goods inv ms t d Q 0 l goods) :
    (Code.region id l.toArray true).wp P Q ⟨t, d⟩ w := by
  obtain ⟨hn, hat, hla⟩ := planW_at 0 l goods hstep
  rw [← hlen] at hn hat hla
  have hsl : ∀ (i : Nat) (o : Oper), l[i]? = some o → i < slots.length → slots[i]? = some o.dst := fun i o ho hi => by
    have h := congrArg (fun x : List (Option Tmp) => x[i]?) hslots
    simp only [List.getElem?_map, List.getElem?_take, if_pos hi, ho, Option.map_some] at h
    exact h.symm
  have hst := lastsW_mem hst0
  refine wp_region_inv hm hord (fun L a w => (∀ j o, l[j]? = some o → L j = true → ∀ e ∈ o.after.toList, Region.binds .any e = true → L e.on = true) ∧
    (L slots.length = false → PlanW slots goods (inv L) t d L a w) ∧ (L slots.length = true → Q .normal a w)) ?_ ?_ ?_
  · refine ⟨fun _ _ _ h => (by cases h), fun _ => ?_, fun h => (by cases h)⟩
    exact ⟨rfl, h0, fun i h => by simp at h, fun _ _ => rfl, rfl⟩
  · have key : ∀ (i : Nat) (o : Oper), l[i]? = some o → ∀ (L : Nat → Bool) (a : Act) (w : World) (Q' : Exit → Act → World → Prop),
        ((∀ j o, l[j]? = some o → L j = true → ∀ e ∈ o.after.toList, Region.binds .any e = true → L e.on = true) ∧ (L slots.length = false → PlanW slots goods (inv L) t d L a w) ∧ (L slots.length = true → Q .normal a w)) → L i = false →
        (∀ e ∈ o.after.toList, Region.binds .any e = true → L e.on = true) →
        (∀ a w, ((∀ j o, l[j]? = some o → upd L i j = true → ∀ e ∈ o.after.toList, Region.binds .any e = true → upd L i e.on = true) ∧ (upd L i slots.length = false → PlanW slots goods (inv (upd L i)) t d (upd L i) a w) ∧ (upd L i slots.length = true → Q .normal a w)) → Q' .normal a w) →
        wpList P l.toArray Q' [o] a w := by
      intro i o ho L a w Q' ⟨hcl, hpl, hq⟩ hL hA hK
      have hil : i < slots.length + 1 := by rw [← hn]; exact (List.getElem?_eq_some_iff.1 ho).1
      have up : ∀ k, L k = true → upd L i k = true := fun k hk => by simp [upd, hk]
      have hcl' : ∀ j o, l[j]? = some o → upd L i j = true → ∀ e ∈ o.after.toList, Region.binds .any e = true → upd L i e.on = true := by
        intro j o' hj hLj e he hb
        by_cases hji : j = i
        · subst hji
          obtain rfl : o = o' := Option.some.inj (ho.symm.trans hj)
          exact up _ (hA e he hb)
        · have hne : (j == i) = false := by simpa using hji
          exact up _ (hcl j o' hj (by simpa [upd, hne] using hLj) e he hb)
      by_cases hin : i = slots.length
      · subst hin
        have hall := all_before hord hcons L hn (fun j o hj _ => hcl j o hj) (fun o' ho' => by obtain rfl : o = o' := Option.some.inj (ho.symm.trans ho'); exact hA)
        refine hla o ho a w L ((hpl hL).laid hlen hall) (hpl hL).inv hall Q' fun a' w' hq' => hK a' w' ⟨hcl', fun h => ?_, fun _ => hq'⟩
        simp [upd] at h
      · have hi : i < slots.length := by omega
        have hLn : L slots.length = false := by
          cases hx : L slots.length with
          | false => rfl
          | true =>
            have hall := all_before hord hcons L hn (fun j o hj _ => hcl j o hj) (fun o' ho' => hcl _ o' ho' hx)
            rw [hall i hi] at hL
            cases hL
        have hI := hpl hLn
        have hne : (slots.length == i) = false := by simpa using fun e => hin (Eq.symm e)
        have h1 := hat i o ho hi L a w Q' (by rw [Nat.zero_add]; exact hL) hI.inv (fun k ⟨gr, hk, hb⟩ g hg => hI.done k (hA _ hk hb) (by rw [hlen]; exact (List.getElem?_eq_some_iff.1 hg).1) g hg) hI.rest
        refine h1 fun v w' hb hii hg => ?_
        have hs := hsl i o ho hi
        rw [Nat.zero_add] at hii hb hg
        have hst' : ∀ (j : Nat) (g : Gd), goods[j]? = some g → j ≠ i → L j = true → ∀ v, (∀ s, slots[j]? = some (some s) → a.tmps[s]? = some v) → g L v w → g (upd L i) v w' := by
          intro j g hgj hne hLj v hv hgv
          cases he : ms.contains i with
          | true =>
            rw [stepW_true he] at hb
            have := keepAll_at hb j g hgj (by omega) (by rw [Nat.zero_add]; exact hLj) v (by rw [Nat.zero_add]; exact hv) hgv
            exact this
          | false =>
            rw [stepW_false he] at hb
            exact hst g (List.mem_of_getElem? hgj) L i v w w' he hgv hb
        refine hK _ _ ⟨hcl', fun _ => ?_, fun h => ?_⟩
        · refine hI.put hnd hbd hst' hii hs hg fun j hj => ?_
          by_cases hji : j = i
          · exact .inl hji
          · have : (j == i) = false := by simpa using hji
            exact .inr (by simpa [upd, this] using hj)
        · simp [upd, hne, hLn] at h
    have all : ∀ (r : List Oper) (k : Nat), (∀ i o, r[i]? = some o → l[k + i]? = some o) → InvSteps P l.toArray (fun L a w => (∀ j o, l[j]? = some o → L j = true → ∀ e ∈ o.after.toList, Region.binds .any e = true → L e.on = true) ∧
        (L slots.length = false → PlanW slots goods (inv L) t d L a w) ∧ (L slots.length = true → Q .normal a w)) k r := by
      intro r
      induction r with
      | nil => intro k _; trivial
      | cons o r ih =>
        intro k h
        refine ⟨fun L a w Q' hI hL hA hK => key k o (h 0 o rfl) L a w Q' hI hL hA hK, ih (k + 1) fun i o' ho' => ?_⟩
        have := h (i + 1) o' (by simpa using ho')
        rwa [show k + 1 + i = k + (i + 1) by omega]
    exact all l 0 fun i o ho => by simpa using ho
  · intro L a w hI hL
    exact hI.2.2 (hL slots.length (by omega))
end
end Go.Proofs.Ytlkkdpoliafjbaa

import Derived.Tactics
import Derived.Orders
/-
  A REGION THAT DRAWS ITS ORDER, BY AN INVARIANT: what holds of the frame and the world where the operations named by L have been carried out; each operation is shown once, from whatever state it may come up in.
-/
namespace Go.Proofs.Ytlkkdpoliafjbaa

/-- L, and number i besides. -/
def upd (L : Nat → Bool) (i : Nat) : Nat → Bool := fun j => j == i || L j

/-- Each operation of a list, the first being number i, keeps the invariant. -/
def InvSteps (P : Program) (ops : Array Oper) (I : (Nat → Bool) → Act → World → Prop) : Nat → List Oper → Prop
  | _, [] => True
  | i, o :: r => (∀ (L : Nat → Bool) (a : Act) (w : World) (Q' : Exit → Act → World → Prop), I L a w → L i = false → (∀ e ∈ o.after.toList, Region.binds .any e = true → L e.on = true) →
      (∀ a w, I (upd L i) a w → Q' .normal a w) → wpList P ops Q' [o] a w) ∧ InvSteps P ops I (i + 1) r

def ordered : Nat → List Oper → Bool
  | _, [] => true
  | i, o :: r => o.after.toList.all (fun e => !Region.binds .any e || decide (e.on < i)) && ordered (i + 1) r

theorem ordered_at : ∀ (k : Nat) (l : List Oper), ordered k l = true → ∀ i o, l[i]? = some o → ∀ e ∈ o.after.toList, Region.binds .any e = true → e.on < k + i
  | _, [], _, i, o, h, _, _, _ => by simp at h
  | k, x :: r, h, 0, o, ho, e, he, hb => by
    simp only [ordered, Bool.and_eq_true, List.all_eq_true] at h
    simp at ho
    subst ho
    have := h.1 e he
    rw [hb] at this
    simpa using this
  | k, x :: r, h, i + 1, o, ho, e, he, hb => by
    simp only [ordered, Bool.and_eq_true] at h
    have := ordered_at (k + 1) r h.2 i o (by simpa using ho) e he hb
    omega

theorem steps_at {P : Program} {ops : Array Oper} {I : (Nat → Bool) → Act → World → Prop} : ∀ (k : Nat) (l : List Oper), InvSteps P ops I k l → ∀ i o, l[i]? = some o →
    ∀ (L : Nat → Bool) (a : Act) (w : World) (Q' : Exit → Act → World → Prop), I L a w → L (k + i) = false → (∀ e ∈ o.after.toList, Region.binds .any e = true → L e.on = true) →
      (∀ a w, I (upd L (k + i)) a w → Q' .normal a w) → wpList P ops Q' [o] a w
  | _, [], _, i, o, h => by simp at h
  | k, x :: r, h, 0, o, ho => by
    simp at ho
    subst ho
    exact h.1
  | k, x :: r, h, i + 1, o, ho => by
    have := steps_at (k + 1) r h.2 i o (by simpa using ho)
    rwa [show k + 1 + i = k + (i + 1) by omega] at this

section
variable {P : Program} {ops : Array Oper} {Q : Exit → Act → World → Prop}

theorem all_listed {listed : Array Bool} (hs : listed.size = ops.size) (hord : ∀ (i : Nat) (o : Oper), ops[i]? = some o → ∀ e ∈ o.after.toList, Region.binds .any e = true → e.on < i) (hr : Region.ready .any ops listed = []) :
    ∀ i, i < ops.size → listed.getD i false = true := by
  intro i
  induction i using Nat.strongRecOn with
  | ind i ih =>
    intro hi
    refine Classical.byContradiction fun hn => ?_
    have hm : i ∈ Region.ready .any ops listed := mem_ready.2 ⟨by
      rw [Array.getD_eq_getD_getElem?, Array.getElem?_eq_getElem (by omega)] at hn ⊢
      simpa using hn, ops[i], Array.getElem?_eq_getElem hi, fun e he hb => ih e.on (hord i _ (Array.getElem?_eq_getElem hi) e (by simpa using he) hb) (Nat.lt_trans (hord i _ (Array.getElem?_eq_getElem hi) e (by simpa using he) hb) hi)⟩
    rw [hr] at hm
    cases hm

theorem wpOp_of_list {i : Nat} {o : Oper} {a : Act} {w : World} {K : Act → World → Prop} (ho : ops[i]? = some o)
    (h : ∀ Q' : Exit → Act → World → Prop, (∀ a w, K a w → Q' .normal a w) → wpList P ops Q' [o] a w) : wpOp P ops Q i K a w := by
  have h1 := h (fun e a w => match e with | .normal => K a w | e => Q e a w) (fun _ _ h => h)
  unfold wpOp
  rw [ho]
  simp only [wpList] at h1
  dsimp only
  split
  · rename_i hw
    rw [if_pos hw] at h1
    refine h1.imp (fun h2 => ?_) (fun h2 => ⟨h2.1, h2.2⟩)
    unfold Oper.wp at *
    generalize (execOp a.eval o).run P w = r at *
    cases r with
    | ok n w' =>
      cases n <;> simp only [Oper.upon] at h2 ⊢ <;> first | exact h2 | exact Calls.mono h2 (fun e w'' he => by cases e <;> exact he)
    | halt x w' => cases x <;> simp only [Oper.upon] at h2 ⊢ <;> exact h2
  · rename_i hw
    rw [if_neg hw] at h1
    exact h1

theorem wpAny_inv (I : (Nat → Bool) → Act → World → Prop) (hord : ∀ (i : Nat) (o : Oper), ops[i]? = some o → ∀ e ∈ o.after.toList, Region.binds .any e = true → e.on < i)
    (hstep : ∀ (i : Nat) (o : Oper), ops[i]? = some o → ∀ (L : Nat → Bool) (a : Act) (w : World), I L a w → L i = false → (∀ e ∈ o.after.toList, Region.binds .any e = true → L e.on = true) → wpOp P ops Q i (I (upd L i)) a w)
    (hend : ∀ (L : Nat → Bool) (a : Act) (w : World), I L a w → (∀ i, i < ops.size → L i = true) → Q .normal a w) :
    ∀ (fuel : Nat) (listed : Array Bool) (a : Act) (w : World), listed.size = ops.size → listed.toList.count false ≤ fuel → I (fun j => listed.getD j false) a w → wpAny P .any ops Q fuel listed a w := by
  intro fuel
  induction fuel with
  | zero =>
    intro listed a w hs hc hI
    have hr : Region.ready .any ops listed = [] := by
      refine List.eq_nil_iff_forall_not_mem.2 fun j hj => ?_
      have h := mem_ready.1 hj
      obtain ⟨h0, o, ho, _⟩ := h
      have hlt : j < ops.size := (Array.getElem?_eq_some_iff.1 ho).1
      have hmem : false ∈ listed.toList := by
        rw [Array.getD_eq_getD_getElem?, Array.getElem?_eq_getElem (by omega)] at h0
        simp only [Option.getD_some] at h0
        rw [← h0]
        simp
      have := List.count_pos_iff.2 hmem
      omega
    exact ⟨hr, hend _ a w hI (all_listed hs hord hr)⟩
  | succ fuel ih =>
    intro listed a w hs hc hI
    refine ⟨fun hr => hend _ a w hI (all_listed hs hord hr), fun j hj => ?_⟩
    have h := mem_ready.1 hj
    obtain ⟨h0, o, ho, ha⟩ := h
    have hlt : j < ops.size := (Array.getElem?_eq_some_iff.1 ho).1
    have hjl : j < listed.size := by omega
    have h0' : listed[j] = false := by
      rw [Array.getD_eq_getD_getElem?, Array.getElem?_eq_getElem hjl] at h0
      simpa using h0
    refine wpOp_mono (fun a' w' hI' => ih (listed.setIfInBounds j true) a' w' (by simpa using hs) ?_ ?_) (hstep j o ho _ a w hI ?_ (fun e he hb => ha e (by simpa using he) hb))
    · rw [Array.toList_setIfInBounds, List.count_set (by simpa using hjl)]
      have hmem : false ∈ listed.toList := by
        rw [← h0']
        simp
      have := List.count_pos_iff.2 hmem
      have hb : (listed.toList[j] == false) = true := by simpa using h0'
      rw [if_pos hb, if_neg (by simp)]
      omega
    · have : (fun k => (listed.setIfInBounds j true).getD k false) = upd (fun k => listed.getD k false) j := by
        funext k
        unfold upd
        by_cases hk : k = j
        · subst hk
          simp [Array.getD_eq_getD_getElem?, hjl]
        · have : (k == j) = false := by simpa using hk
          simp only [this, Bool.false_or]
          rw [Array.getD_eq_getD_getElem?, Array.getD_eq_getD_getElem?, Array.getElem?_setIfInBounds_ne (Ne.symm hk)]
      rw [this]
      exact hI'
    · rw [Array.getD_eq_getD_getElem?, Array.getElem?_eq_getElem hjl, Option.getD_some, h0']

/-- The law: the operations are written out in the region; their edges point back. -/
theorem wp_region_inv {id : Nat} {l : List Oper} {a : Act} {w : World} (hm : P.follows .mixedOrders = true) (hord : ordered 0 l = true) (I : (Nat → Bool) → Act → World → Prop)
    (h0 : I (fun _ => false) a w.drew) (hstep : InvSteps P l.toArray I 0 l) (hend : ∀ (L : Nat → Bool) (a : Act) (w : World), I L a w → (∀ i, i < l.length → L i = true) → Q .normal a w) :
    (Code.region id l.toArray true).wp P Q a w := by
  refine wp_region_any hm (wpAny_inv I (fun i o ho e he hb => ?_) (fun i o ho L a w hI hL ha => ?_) (fun L a w hI hL => hend L a w hI (by simpa using hL)) _ _ a _ (by simp) ?_ ?_)
  · have := ordered_at 0 l hord i o (by simpa using ho) e he hb
    omega
  · refine wpOp_of_list ho fun Q' hQ' => ?_
    have := steps_at 0 l hstep i o (by simpa using ho) L a w Q' hI (by simpa using hL) ha (by simpa using hQ')
    exact this
  · exact Nat.le_trans (List.count_le_length ..) (by simp)
  · have : (fun j => (Array.replicate l.toArray.size false).getD j false) = fun _ => false := by
      funext j
      rw [Array.getD_eq_getD_getElem?, Array.getElem?_replicate]
      split <;> rfl
    rw [this]
    exact h0
end

/-! ### The invariant over some slots of a frame that is written out -/
/-- A relation of so many values and a world. -/
def Cur : List Nat → Type
  | [] => World → Prop
  | _ :: s => Value → Cur s
/-- For some values of these slots. -/
def ExC (d : List Deferred) : (s : List Nat) → Cur s → Array Value → Act → World → Prop
  | [], R, t, a, w => a = ⟨t, d⟩ ∧ R w
  | i :: s, R, t, a, w => ∃ u, ExC d s (R u) (t.setIfInBounds i u) a w
def appC : (s : List Nat) → Cur s → Array Value → World → Prop
  | [], R, _, w => R w
  | i :: s, R, t, w => appC s (R (t.getD i undef)) t w
def setsC (t' : Array Value) : List Nat → Array Value → Array Value
  | [], t => t
  | i :: s, t => setsC t' s (t.setIfInBounds i (t'.getD i undef))
theorem exC_mk {d : List Deferred} {w : World} : ∀ (s : List Nat) (R : Cur s) (t t' : Array Value), setsC t' s t = t' → appC s R t' w → ExC d s R t ⟨t', d⟩ w
  | [], _, _, _, h, hR => ⟨by rw [← h]; rfl, hR⟩
  | _ :: s, R, _, t', h, hR => ⟨_, exC_mk s (R _) _ t' h hR⟩
theorem setsC_self (t : Array Value) : ∀ s, setsC t s t = t
  | [] => rfl
  | i :: s => by
    have : t.setIfInBounds i (t.getD i undef) = t := by
      refine Array.ext_getElem? fun j => ?_
      by_cases h : i = j
      · subst h
        by_cases hi : i < t.size
        · simp [Array.getD_eq_getD_getElem?, hi]
        · simp [hi]
      · rw [Array.getElem?_setIfInBounds_ne h]
    rw [setsC, this, setsC_self t s]

section
variable {P : Program} {Q : Exit → Act → World → Prop}
/-- The law over some slots; each step's goal begins from the values as letters. -/
theorem wp_region_slots {id : Nat} {l : List Oper} {t : Array Value} {d : List Deferred} {w : World} (s : List Nat) (hm : P.follows .mixedOrders = true) (hord : ordered 0 l = true) (R : (Nat → Bool) → Cur s)
    (h0 : appC s (R fun _ => false) t w.drew) (hstep : InvSteps P l.toArray (fun L => ExC d s (R L) t) 0 l) (hend : ∀ (L : Nat → Bool) (a : Act) (w : World), ExC d s (R L) t a w → (∀ i, i < l.length → L i = true) → Q .normal a w) :
    (Code.region id l.toArray true).wp P Q ⟨t, d⟩ w :=
  wp_region_inv hm hord (fun L => ExC d s (R L) t) (exC_mk s _ t t (setsC_self t s) h0) hstep hend
end
end Go.Proofs.Ytlkkdpoliafjbaa

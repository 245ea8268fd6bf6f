/-
  HOW ARGUMENTS READ, AND A LAW's ROW: 'Rd': the cells read as a value of their type, each slice within the form's own reach; a law's row out of its walk. No function of the program is named here.
-/
import Derived.Test.YtlkkdpoliafjbaaRows
import Derived.Test.YtlkkdpoliafjbaaL
import Derived.ProofKit
import Derived.OpenShut
import Derived.SizedLaws
import Derived.DeepKeys4
namespace Go.Proofs.Ytlkkdpoliafjbaa
open Go.RowKit Go.ChangeShapes Go.WideShapes Go.ChangeAt

def Parts (P : Program) (p : TypeId → List Value → Prop) : List TypeId → List Value → Prop
  | [], cs => cs = []
  | t :: ts, cs => ∃ a b, cs = a ++ b ∧ a.length = P.cellsOf t ∧ p t a ∧ Parts P p ts b

/-- The cells read as a value of the type; each slice and string takes at most the reach's bytes. -/
def Rd (P : Program) (w : World) : Nat → TypeId → List Value → Prop
  | 0, _, _ => False
  | f + 1, t, cs =>
    match P.underlying t with
    | some .bool => ∃ b, cs = [.bool b]
    | some (.int k) => ∃ n, cs = [.int k n] ∧ (Lit.int k n).wf = true
    | some .string => ∃ s, cs = [.string s] ∧ s.size ≤ reachBytes
    | some (.slice e) => ∃ v, cs = [v] ∧ ∃ es : List (List Value), SliceAt w v (P.cellsOf e) es.length es.flatten ∧ (∀ x ∈ es, x.length = P.cellsOf e ∧ Rd P w f e x) ∧ es.length * P.bytesOf e ≤ reachBytes
    | some (.struct fs) => Parts P (Rd P w f) (fs.toList.map (·.type)) cs
    | some (.array n e) => ∃ es : List (List Value), cs = es.flatten ∧ es.length = n ∧ ∀ x ∈ es, x.length = P.cellsOf e ∧ Rd P w f e x
    | _ => ∃ v, cs = [v] ∧ v.oneCell' = true

theorem Parts.mono {P : Program} {p q : TypeId → List Value → Prop} (h : ∀ t cs, p t cs → q t cs) : ∀ {ts : List TypeId} {cs : List Value}, Parts P p ts cs → Parts P q ts cs
  | [], _, hp => hp
  | _ :: _, _, ⟨a, b, e, hl, ha, hb⟩ => ⟨a, b, e, hl, h _ _ ha, Parts.mono h hb⟩

theorem Parts.one {P : Program} {p : TypeId → List Value → Prop} (h : ∀ t cs, p t cs → ∀ u ∈ cs, u.oneCell' = true) : ∀ {ts : List TypeId} {cs : List Value}, Parts P p ts cs → ∀ u ∈ cs, u.oneCell' = true
  | [], _, hp, u, hu => by rw [show _ = [] from hp] at hu; cases hu
  | _ :: _, _, ⟨a, b, e, hl, ha, hb⟩, u, hu => by
    subst e
    rcases List.mem_append.1 hu with h1 | h1
    · exact h _ _ ha u h1
    · exact Parts.one h hb u h1

theorem Rd.one {P : Program} {w : World} : ∀ {f : Nat} {t : TypeId} {cs : List Value}, Rd P w f t cs → ∀ u ∈ cs, u.oneCell' = true
  | 0, _, _, h, _, _ => h.elim
  | f + 1, t, cs, h, u, hu => by
    unfold Rd at h
    split at h
    · obtain ⟨b, rfl⟩ := h; simp at hu; subst hu; rfl
    · obtain ⟨b, rfl, _⟩ := h; simp at hu; subst hu; rfl
    · obtain ⟨b, rfl, _⟩ := h; simp at hu; subst hu; rfl
    · obtain ⟨v, rfl, es, hs, _⟩ := h
      simp at hu; subst hu
      rcases hs.2.2.2 with ⟨rfl, _⟩ | ⟨a, c, rfl, _⟩ <;> rfl
    · exact Parts.one (fun t cs h => Rd.one h) h u hu
    · obtain ⟨es, rfl, _, hx⟩ := h
      obtain ⟨x, hx1, hx2⟩ := List.mem_flatten.1 hu
      exact Rd.one (hx x hx1).2 u hx2
    · obtain ⟨v, rfl, hv⟩ := h; simp at hu; subst hu; exact hv

theorem Rd.keep {P : Program} {w w' : World} (hb : Below w.heap.size w w') : ∀ {f : Nat} {t : TypeId} {cs : List Value}, Rd P w f t cs → Rd P w' f t cs
  | 0, _, _, h => h
  | f + 1, t, cs, h => by
    unfold Rd at h ⊢
    split at h
    · exact h
    · exact h
    · exact h
    · obtain ⟨v, rfl, es, hs, hx, hr⟩ := h
      exact ⟨v, rfl, es, hs.keep hb, fun x hx1 => ⟨(hx x hx1).1, Rd.keep hb (hx x hx1).2⟩, hr⟩
    · exact Parts.mono (fun t cs h => Rd.keep hb h) h
    · obtain ⟨es, rfl, hn, hx⟩ := h
      exact ⟨es, rfl, hn, fun x hx1 => ⟨(hx x hx1).1, Rd.keep hb (hx x hx1).2⟩⟩
    · exact h

/-! ### Opening, a type's shape at a time -/
section
variable {P : Program} {w : World} {f : Nat} {t : TypeId} {cs : List Value}
theorem Rd.bool (h : Rd P w f t cs) (hu : P.underlying t = some .bool) : ∃ b, cs = [.bool b] := by
  cases f with
  | zero => exact h.elim
  | succ f => unfold Rd at h; rw [hu] at h; exact h
theorem Rd.int {k : IntKind} (h : Rd P w f t cs) (hu : P.underlying t = some (.int k)) : ∃ n, cs = [.int k n] ∧ (Lit.int k n).wf = true := by
  cases f with
  | zero => exact h.elim
  | succ f => unfold Rd at h; rw [hu] at h; exact h
theorem Rd.string (h : Rd P w f t cs) (hu : P.underlying t = some .string) : ∃ s, cs = [.string s] ∧ s.size ≤ reachBytes := by
  cases f with
  | zero => exact h.elim
  | succ f => unfold Rd at h; rw [hu] at h; exact h
theorem Rd.slice {e : TypeId} (h : Rd P w f t cs) (hu : P.underlying t = some (.slice e)) :
    ∃ f' v, f = f' + 1 ∧ cs = [v] ∧ ∃ es : List (List Value), SliceAt w v (P.cellsOf e) es.length es.flatten ∧ (∀ x ∈ es, x.length = P.cellsOf e ∧ Rd P w f' e x) ∧ es.length * P.bytesOf e ≤ reachBytes := by
  cases f with
  | zero => exact h.elim
  | succ f => unfold Rd at h; rw [hu] at h; obtain ⟨v, hv, es, hes⟩ := h; exact ⟨f, v, rfl, hv, es, hes⟩
theorem Rd.struct {fs : Array Field} (h : Rd P w f t cs) (hu : P.underlying t = some (.struct fs)) : ∃ f', f = f' + 1 ∧ Parts P (Rd P w f') (fs.toList.map (·.type)) cs := by
  cases f with
  | zero => exact h.elim
  | succ f => unfold Rd at h; rw [hu] at h; exact ⟨f, rfl, h⟩
theorem Rd.array {n : Nat} {e : TypeId} (h : Rd P w f t cs) (hu : P.underlying t = some (.array n e)) : ∃ f', f = f' + 1 ∧ ∃ es : List (List Value), cs = es.flatten ∧ es.length = n ∧ ∀ x ∈ es, x.length = P.cellsOf e ∧ Rd P w f' e x := by
  cases f with
  | zero => exact h.elim
  | succ f => unfold Rd at h; rw [hu] at h; exact ⟨f, rfl, h⟩
/-- A slice's value is a slice. -/
theorem SliceAt.shape {v : Value} {k n : Nat} (h : SliceAt w v k n cs) : ∃ a c, v = .slice a n c := by
  rcases h.2.2.2 with ⟨rfl, rfl⟩ | ⟨a, c, rfl, _⟩
  · exact ⟨_, _, rfl⟩
  · exact ⟨_, _, rfl⟩
end

/-! ### From the form's reading -/
section
variable {H : Type} {enc : TypeId × Value → H} {P : Program} {w : World} {spare : Nat → Bool}

theorem cells_row {a : Addr} {n : Nat} {cs : List Value} (h : w.cells? 0 a n = some cs) : cs.length = n ∧ ∀ j u, cs[j]? = some u → w.cell? (a.add j) = some u := by
  obtain ⟨_, hl, hc⟩ := World.cells?_some h
  refine ⟨hl, fun j u hu => ?_⟩
  have hj := (List.getElem?_eq_some_iff.1 hu).1
  rw [hc j (by omega), hu]

theorem flatten_at {es : List (List Value)} {k : Nat} (hk : ∀ x ∈ es, x.length = k) (j : Nat) (u : Value) (h : es.flatten[j]? = some u) : ∃ i x r, es[i]? = some x ∧ r < k ∧ j = i * k + r ∧ x[r]? = some u := by
  induction es generalizing j with
  | nil => simp at h
  | cons x es ih =>
    have hx := hk x (by simp)
    rw [List.flatten_cons] at h
    by_cases hj : j < k
    · rw [List.getElem?_append_left (by omega)] at h
      exact ⟨0, x, j, rfl, hj, by omega, h⟩
    · rw [List.getElem?_append_right (by omega)] at h
      obtain ⟨i, y, r, h1, h2, h3, h4⟩ := ih (fun y hy => hk y (by simp [hy])) _ h
      exact ⟨i + 1, y, r, by simpa using h1, h2, by rw [Nat.add_mul]; omega, h4⟩

theorem add_add (a : Addr) (i j : Nat) : (a.add i).add j = a.add (i + j) := by
  unfold Addr.add
  by_cases hi : i = 0 <;> by_cases hj : j = 0 <;> simp [hi, hj, Nat.add_assoc]

theorem weights_all {e : TypeId} {l : List (DataW H)} {d : DataW H} (hd : d ∈ l) {n : Nat} (hn : n ∈ d.weights P e) : n ∈ DataW.weightsAll P e l := by
  induction l with
  | nil => cases hd
  | cons x l ih =>
    simp only [DataW.weightsAll, List.mem_append]
    rcases List.mem_cons.1 hd with rfl | h
    · exact .inl hn
    · exact .inr (ih h)

/-- Field behind field. -/
theorem parts_of {p : TypeId → List Value → Prop} : ∀ (ts : List TypeId) (cs : List Value), cs.length = (ts.map fun t => P.cellsOf t).sum →
    (∀ (j : Nat) (t : TypeId), ts[j]? = some t → p t ((cs.drop ((ts.take j).map fun t => P.cellsOf t).sum).take (P.cellsOf t))) → Parts P p ts cs
  | [], cs, hl, _ => by simpa [Parts] using hl
  | t :: ts, cs, hl, h => by
    simp only [List.map_cons, List.sum_cons] at hl
    refine ⟨cs.take (P.cellsOf t), cs.drop (P.cellsOf t), (List.take_append_drop _ _).symm, by rw [List.length_take]; omega, by simpa using h 0 t rfl, parts_of ts _ (by rw [List.length_drop]; omega) fun j u hu => ?_⟩
    have := h (j + 1) u (by simpa using hu)
    rw [List.drop_drop]
    simpa [List.take_succ_cons] using this

theorem Rd.of_trod {held : Bool} (hl : laidOutB P = true) : ∀ (f : Nat) (t : TypeId) (cs : List Value) (d : DataW H) (ps : List MemPlace), isVar P t = true →
    DataW.trod enc P w 0 (fun _ => true) held f t cs = some (d, ps) → (∀ n ∈ d.weights P t, n ≤ reachBytes) → Rd P w f t cs
  | 0, t, cs, d, ps, _, h, _ => by simp [DataW.trod] at h
  | f + 1, t, cs, d, ps, hv, h, hw => by
    have hlt : t < P.types.size := by
      unfold isVar at hv
      simp only [Bool.and_eq_true, decide_eq_true_eq] at hv
      exact hv.1
    have hrow := rowFine_of_laidOut hl hlt
    unfold rowFine at hrow
    rw [hv] at hrow
    simp only [Bool.not_true, Bool.false_or] at hrow
    unfold Rd
    split
    · rename_i hu
      obtain ⟨b, rfl, _⟩ := DataW.trod_bool hu h
      exact ⟨b, rfl⟩
    · rename_i k hu
      obtain ⟨n, rfl, _, hwf⟩ := DataW.trod_int hu h
      exact ⟨n, rfl, hwf⟩
    · rename_i hu
      obtain ⟨s, rfl, hx, _⟩ := DataW.trod_string hu h
      refine ⟨s, rfl, ?_⟩
      simp only [Prod.mk.injEq] at hx
      obtain ⟨rfl, _⟩ := hx
      have := hw s.data.toList.length (by simp [DataW.weights])
      rwa [Array.length_toList] at this
    · rename_i e hu
      rw [hu] at hrow
      simp only [Bool.and_eq_true, beq_iff_eq] at hrow
      rcases DataW.trod_slice hu h with ⟨rfl, _⟩ | ⟨a, len, cap, elems, rest, n, hf, rfl, hx, _, hlc, hcm, hel, hcell, hrest, _⟩
      · exact ⟨_, rfl, [], SliceAt.nil _ _, by simp, by simp⟩
      · obtain rfl : f = n := by omega
        simp only [Prod.mk.injEq] at hx
        obtain ⟨rfl, _⟩ := hx
        have hw1 := hw ((elems.length + rest.length) * P.bytesOf e) (by rw [DataW.weights, hu]; simp)
        have hw2 : ∀ x ∈ elems, ∀ n ∈ x.1.weights P e, n ≤ reachBytes := fun x hx n hn => hw n (by
          rw [DataW.weights, hu]
          exact List.mem_cons_of_mem _ (List.mem_append_left _ (weights_all (List.mem_map_of_mem hx) hn)))
        have each : ∀ i, i < len → ∃ es x, w.cells? 0 (a.add (i * P.cellsOf e)) (P.cellsOf e) = some es ∧ elems[i]? = some x ∧ DataW.trod enc P w 0 (fun _ => true) held f e es = some x := fun i hi => by
          have hi' : i < elems.length := by omega
          have := hcell i hi
          rw [List.getElem?_eq_getElem hi'] at this
          obtain ⟨es, h1, h2⟩ := Option.bind_eq_some_iff.1 this
          exact ⟨es, _, h1, List.getElem?_eq_getElem hi', h2⟩
        let es : List (List Value) := (List.range len).map fun i => (w.cells? 0 (a.add (i * P.cellsOf e)) (P.cellsOf e)).getD []
        have hes : ∀ i x, es[i]? = some x → i < len ∧ w.cells? 0 (a.add (i * P.cellsOf e)) (P.cellsOf e) = some x := fun i x hx => by
          have hi : i < len := by have := (List.getElem?_eq_some_iff.1 hx).1; simpa [es] using this
          obtain ⟨y, _, h1, _⟩ := each i hi
          simp only [es, List.getElem?_map, List.getElem?_range hi, Option.map_some, h1, Option.getD_some, Option.some.injEq] at hx
          exact ⟨hi, by rw [h1, hx]⟩
        have hlen : es.length = len := by simp [es]
        have hk : ∀ x ∈ es, x.length = P.cellsOf e := fun x hx => by
          obtain ⟨i, hi⟩ := List.getElem?_of_mem hx
          exact (cells_row (hes i x hi).2).1
        have hrd : ∀ x ∈ es, Rd P w f e x := fun x hx => by
          obtain ⟨i, hi⟩ := List.getElem?_of_mem hx
          obtain ⟨hil, hc⟩ := hes i x hi
          obtain ⟨y, z, h1, h2, h3⟩ := each i hil
          obtain rfl : y = x := Option.some.inj (h1.symm.trans hc)
          exact Rd.of_trod hl f e y z.1 z.2 hrow.1 h3 (hw2 z (List.mem_of_getElem? h2))
        refine ⟨_, rfl, es, ⟨?_, by rw [hlen]; omega, ?_, .inr ⟨a, cap, by rw [hlen], by rw [hlen]; exact hlc, ?_⟩⟩, fun x hx => ⟨hk x hx, hrd x hx⟩, ?_⟩
        · have : ∀ l : List (List Value), (∀ x ∈ l, x.length = P.cellsOf e) → l.flatten.length = l.length * P.cellsOf e := fun l => by
            induction l with
            | nil => simp
            | cons x l ih => intro h; rw [List.flatten_cons, List.length_append, ih (fun y hy => h y (by simp [hy])), h x (by simp), List.length_cons, Nat.add_mul]; omega
          exact this es hk
        · intro u hu
          obtain ⟨x, hx1, hx2⟩ := List.mem_flatten.1 hu
          exact (hrd x hx1).one u hx2
        · intro j u hj
          obtain ⟨i, x, r, h1, h2, rfl, h4⟩ := flatten_at hk j u hj
          have := (cells_row (hes i x h1).2).2 r u h4
          rwa [add_add] at this
        · rw [hlen]
          refine Nat.le_trans (Nat.mul_le_mul_right _ ?_) hw1
          omega
    · rename_i fs hu
      rw [hu] at hrow
      simp only [Bool.and_eq_true, beq_iff_eq, List.all_eq_true, List.mem_range] at hrow
      obtain ⟨⟨hvar, hsum⟩, hoff⟩ := hrow
      obtain ⟨xs, n, hf, hx, hcl, hxl, hfield⟩ := DataW.trod_struct hu h
      obtain rfl : f = n := by omega
      simp only [Prod.mk.injEq] at hx
      obtain ⟨rfl, _⟩ := hx
      refine parts_of _ cs (by rw [hcl, hsum, List.map_map]; rfl) fun j t' hj => ?_
      rw [List.getElem?_map] at hj
      obtain ⟨fl, hfl, rfl⟩ := Option.map_eq_some_iff.1 hj
      have hjl : j < fs.toList.length := (List.getElem?_eq_some_iff.1 hfl).1
      have ho := hoff j hjl
      rw [hfl] at ho
      simp only [beq_iff_eq] at ho
      have hxj := hfield j fl (by rw [← hfl, Array.getElem?_toList])
      have hjx : j < xs.length := by rw [hxl]; simpa using hjl
      rw [List.getElem?_eq_getElem hjx, ho] at hxj
      rw [List.map_take] at hxj
      rw [← List.map_take, List.map_map, List.map_take] 
      refine Rd.of_trod hl f _ _ xs[j].1 xs[j].2 (hvar fl (List.mem_of_getElem? hfl)) hxj fun n hn => hw n ?_
      rw [DataW.weights, hu]
      exact DataW.weights_mem_each (j := j) (by rw [List.getElem?_map, hfl]; rfl) (by rw [List.getElem?_map, List.getElem?_eq_getElem hjx]; rfl) n hn
    · rename_i n e hu
      rw [hu] at hrow
      simp only [Bool.and_eq_true, beq_iff_eq] at hrow
      obtain ⟨xs, m, hf, hx, hcl, hxl, hel⟩ := DataW.trod_array hu h
      obtain rfl : f = m := by omega
      simp only [Prod.mk.injEq] at hx
      obtain ⟨rfl, _⟩ := hx
      have hsp : ∀ (n : Nat) (cs : List Value), cs.length = n * P.cellsOf e → (∀ i, i < n → Rd P w f e ((cs.drop (i * P.cellsOf e)).take (P.cellsOf e))) →
          ∃ es : List (List Value), cs = es.flatten ∧ es.length = n ∧ ∀ x ∈ es, x.length = P.cellsOf e ∧ Rd P w f e x := fun n => by
        induction n with
        | zero => intro cs h _; exact ⟨[], by simpa using h, rfl, by simp⟩
        | succ n ih =>
          intro cs h hr
          rw [Nat.add_mul] at h
          obtain ⟨es, h1, h2, h3⟩ := ih (cs.drop (P.cellsOf e)) (by rw [List.length_drop]; omega) fun i hi => by
            have := hr (i + 1) (by omega)
            rw [List.drop_drop]
            rwa [show P.cellsOf e + i * P.cellsOf e = (i + 1) * P.cellsOf e by rw [Nat.add_mul]; omega]
          refine ⟨cs.take (P.cellsOf e) :: es, by rw [List.flatten_cons, ← h1, List.take_append_drop], by simp [h2], fun x hx => ?_⟩
          rcases List.mem_cons.1 hx with rfl | hx
          · exact ⟨by rw [List.length_take]; omega, by simpa using hr 0 (by omega)⟩
          · exact h3 x hx
      refine hsp n cs (by rw [hcl, hrow.2]) fun i hi => ?_
      have hxi := hel i hi
      have hix : i < xs.length := by omega
      rw [List.getElem?_eq_getElem hix] at hxi
      refine Rd.of_trod hl f _ _ xs[i].1 xs[i].2 hrow.1 hxi fun n hn => hw n ?_
      rw [DataW.weights, hu]
      exact weights_all (List.mem_map_of_mem (List.getElem_mem hix)) hn
    · unfold DataW.trod at h
      split at h <;> first | (simp_all; done) | exact ⟨_, rfl, rfl⟩

/-! ### An argument, and all of them -/
def Arg (P : Program) (w : World) (t : TypeId) (v : Value) : Prop :=
  ∃ f cs, Rd P w f t cs ∧ v = match P.underlying t with
    | some (.struct _) | some (.array _ _) => .agg cs.toArray
    | _ => cs.headD undef

def Args (P : Program) (w : World) : List TypeId → List Value → Prop
  | [], [] => True
  | t :: ts, v :: vs => Arg P w t v ∧ Args P w ts vs
  | _, _ => False

theorem arg_of {held : Bool} {r : Reach} {base : Nat} (hl : laidOutB P = true) {t : TypeId} {v : Value} {d : DataW H} {ps : List MemPlace} (hv : isVar P t = true) (hok : Value.okWide P w r base t v)
    (h : DataW.Trod enc P w 0 (fun _ => true) held t v d ps) (hw : ∀ n ∈ d.weights P t, n ≤ reachBytes) : Arg P w t v := by
  obtain ⟨f, h⟩ := h
  refine ⟨f, _, Rd.of_trod hl f t _ d ps hv h hw, ?_⟩
  unfold Value.okWide at hok
  split at hok
  · obtain ⟨cs, rfl, _⟩ := hok
    simp_all [Value.cells]
  · obtain ⟨cs, rfl, _⟩ := hok
    simp_all [Value.cells]
  · split
    · simp_all
    · simp_all
    · cases v <;> simp_all [Value.cells, Cell.okWide, Cell.ok]

theorem args_of {r : Reach} {base : Nat} (hl : laidOutB P = true) : ∀ {ts : List TypeId} {vs : List Value} {ds : List (DataW H)} {ps : List MemPlace}, (∀ t ∈ ts, isVar P t = true) →
    (∀ (j : Nat) t v, ts[j]? = some t → vs[j]? = some v → Value.okWide P w r base t v) → DataW.TrodAll enc P w 0 (fun _ => true) true ts vs ds ps → (∀ n ∈ DataW.weightsEach P ts ds, n ≤ reachBytes) → Args P w ts vs
  | [], [], [], _, _, _, _, _ => trivial
  | t :: ts, v :: vs, d :: ds, ps, hv, hok, ⟨p, q, h1, h2, _⟩, hw => by
    simp only [DataW.weightsEach, List.mem_append] at hw
    exact ⟨arg_of hl (hv t (by simp)) (hok 0 t v rfl rfl) h1 fun n hn => hw n (.inl hn),
      args_of hl (fun t ht => hv t (by simp [ht])) (fun j t v h1 h2 => hok (j + 1) t v (by simpa using h1) (by simpa using h2)) h2 fun n hn => hw n (.inr hn)⟩

theorem trodAll_length : ∀ {ts : List TypeId} {vs : List Value} {ds : List (DataW H)} {ps : List MemPlace}, DataW.TrodAll enc P w 0 spare true ts vs ds ps → ds.length = ts.length
  | [], [], [], _, _ => rfl
  | _ :: _, _ :: _, _ :: _, _, ⟨_, _, _, h2, _⟩ => by simp [trodAll_length h2]

theorem trodAll_keep {w' : World} (hl : laidOutB P = true) (hb : Below w.heap.size w w') : ∀ {ts : List TypeId} {vs : List Value} {ds : List (DataW H)} {ps : List MemPlace},
    (∀ t ∈ ts, isVar P t = true ∧ P.readableRec t = true) → DataW.TrodAll enc P w 0 (fun _ => true) true ts vs ds ps → (∀ x ∈ ps, x.block < w.heap.size) → DataW.TrodAll enc P w' 0 (fun b => decide (b < w.heap.size)) true ts vs ds ps
  | [], [], [], _, _, h, _ => h
  | t :: ts, v :: vs, d :: ds, _, hr, ⟨p, q, h1, h2, rfl⟩, hlt => by
    have hv := (hr t (by simp)).1
    unfold isVar at hv
    simp only [Bool.and_eq_true, decide_eq_true_eq] at hv
    exact ⟨p, q, Below.trod hl (hr t (by simp)).2 hv.1 h1 hb fun x hx => hlt x (List.mem_append_left _ hx),
      trodAll_keep hl hb (fun t ht => hr t (by simp [ht])) h2 fun x hx => hlt x (List.mem_append_right _ hx), rfl⟩
end

section
variable {H : Type} {enc : TypeId × Value → H}
/-- What a law's walk gives is what its row asks. -/
theorem law_post {P : Program} {fn : Func} {s : ChangeSpec} (laid : laidOutB P = true) (hv : s.vars = []) (tb : TypeId) (hres : fn.resultTypes = #[tb]) (hb : P.underlying tb = some .bool)
    (hpar : fn.params.toList.all (fun t => isVar P t && P.readableRec t) = true)
    (hspec : ∀ ds : List (DataW H), ds.length = fn.params.toList.length → s.fn H ds = { results := [.lit (.bool true)], args := ds })
    {W W' : World} {args : Array Value} {ds gs : List (DataW H)} {before : List MemPlace} (hW : DataW.Whole enc P fn.params.toList s.vars false W args.toList ds gs before) (hB : Below W.heap.size W W') :
    s.post enc P fn false true false false W args (.bool true) W' := by
  have hW' := hW
  have hlt := hW.lt
  obtain ⟨p, q, hA, hV, rfl, _, _⟩ := hW
  rw [hv] at hV
  obtain ⟨rfl, rfl⟩ := trodVars_none hV
  rw [List.append_nil] at hlt
  have hp : ∀ t ∈ fn.params.toList, isVar P t = true ∧ P.readableRec t = true := fun t ht => by
    have := List.all_eq_true.1 hpar t ht
    simpa using this
  have hs := hspec ds (trodAll_length hA)
  refine ⟨ds, [], _, [], p, [], hW', ?_, ?_, ?_, hB.frame _, fun h => by cases h⟩
  · rw [List.append_nil, hs, hres]
    exact trodAll_mk1 (shut_bool hb true)
  · rw [List.append_nil, hs]
    exact trodAll_keep laid hB hp hA hlt
  · rw [hv, List.append_nil, hs]
    exact rfl

theorem law_lifted {C : Checked} {os : Os} {f : FuncId} {fn : Func} {s : ChangeSpec} {conds : List PathCond} (own : ownKnob C.prog.godebug = none) (laid : laidOutB C.prog = true) (started : os.Started)
    (noInit : C.prog.inits.idxOf? f = none) (hfn : C.prog.funcs[f]? = some fn) (hv : s.vars = []) (tb : TypeId) (hres : fn.resultTypes = #[tb]) (hb : C.prog.underlying tb = some .bool)
    (hpar : fn.params.toList.all (fun t => isVar C.prog t && C.prog.readableRec t) = true)
    (hspec : ∀ ds : List (DataW H), ds.length = fn.params.toList.length → s.fn H ds = { results := [.lit (.bool true)], args := ds })
    (witness : ∃ (w : World) (tape : Tape) (i : Input), w.os = os ∧ (w.forCall tape i).Shaped C.prog ∧ i.vars = [] ∧ Input.okWide C.prog (w.forCall tape i) .any w.heap.size f i ∧
      s.pre6 enc C.prog fn conds false (w.forCall tape i).memory i.args ∧ ({} : Assume).holds C.prog (lone (Frame.enter C.prog f i.args .normal) [] (w.forCall tape i)))
    (contract : ∀ (W : World) (args : Array Value), Args C.prog W fn.params.toList args.toList → Calls C.prog f args W fun e W' => e = .returned (.bool true) ∧ Below W.heap.size W W') :
    ReturnsInHanded {} C os f .any (s.pre6 enc C.prog fn conds false) (s.post enc C.prog fn false true false false) := by
  refine returnsInHanded_of_change_sized own started noInit hfn witness ?_
  intro W base args ds gs before hval hW _ hsz _
  have hW' := hW
  obtain ⟨p, q, hA, hV, rfl, _, _⟩ := hW
  rw [hv] at hV
  obtain ⟨rfl, rfl⟩ := trodVars_none hV
  have hp : ∀ t ∈ fn.params.toList, isVar C.prog t = true ∧ C.prog.readableRec t = true := fun t ht => by
    have := List.all_eq_true.1 hpar t ht
    simpa using this
  have hw : ∀ n ∈ DataW.weightsEach C.prog fn.params.toList ds, n ≤ reachBytes := fun n hn => by
    have := List.all_eq_true.1 hsz n (by
      have : s.plain.varTypes C.prog = [] := by simp [ChangeSpec.plain, DataSpec.varTypes, hv]
      rw [this, List.append_nil, List.append_nil]
      exact hn)
    simpa using this
  refine (contract W args (args_of laid (fun t ht => (hp t ht).1) (fun j t v h1 h2 => hval j t v (by simpa using h1) (by simpa using h2)) hA hw)).mono fun e W' ⟨he, hB⟩ => ?_
  subst he
  exact ⟨_, rfl, law_post laid hv tb hres hb hpar hspec hW' hB⟩
end
end Go.Proofs.Ytlkkdpoliafjbaa

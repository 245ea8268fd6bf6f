import Derived.Maps.Own
import Derived.Maps.OwnSet
import Derived.Maps.Range
namespace Go.Proofs.Ytlkkdpoliafjbaa
open Go Go.ChangeMaps Go.MapKept
open Go.Maps (Keyed)

/-- Block b is a map whose entries are those of D, in whatever order. -/
def MapAt (w : World) (P : Program) (k : TypeId) (b : Nat) (D : List (Value × Value)) : Prop :=
  ∃ es clock, w.heap[b]? = some (.map es clock) ∧ Stamped es clock ∧ (es.toList.map fun e => (e.key, e.val)).Perm D ∧ ∀ p ∈ D, ∃ l, keyOf P k p.1 = some l

variable {P : Program} {k : TypeId} {w : World} {b : Nat} {D : List (Value × Value)}

theorem MapAt.lt (h : MapAt w P k b D) : b < w.heap.size := by
  obtain ⟨es, clock, hb, _⟩ := h
  exact (Array.getElem?_eq_some_iff.1 hb).1

theorem MapAt.kept {w' : World} (h : MapAt w P k b D) (hb : w'.heap[b]? = w.heap[b]?) : MapAt w' P k b D := by
  obtain ⟨es, clock, h1, h2⟩ := h
  exact ⟨es, clock, hb.trans h1, h2⟩

theorem MapAt.perm {D' : List (Value × Value)} (h : MapAt w P k b D) (hp : D.Perm D') : MapAt w P k b D' := by
  obtain ⟨es, clock, h1, h2, h3, h4⟩ := h
  exact ⟨es, clock, h1, h2, h3.trans hp, fun p hq => h4 p (hp.mem_iff.2 hq)⟩

theorem MapAt.made (w : World) (P : Program) (k : TypeId) : MapAt (w.alloc (.map #[] 0)) P k w.heap.size [] :=
  ⟨#[], 0, (MapKept.heap_alloc w _).1, stamped_empty 0, by simp, by simp⟩

theorem MapAt.keys (h : MapAt w P k b D) : (D.map Prod.fst).Nodup := by
  obtain ⟨es, clock, _, h2, h3, _⟩ := h
  have hn : es.toList.Pairwise (fun x y => x.key ≠ y.key) := ((stamped_iff es clock).1 h2).2.2
  have : ((es.toList.map fun e => (e.key, e.val)).map Prod.fst).Nodup := by
    rw [List.map_map, List.Nodup, List.pairwise_map]
    exact hn
  exact (h3.map Prod.fst).nodup_iff.1 this

theorem MapAt.size (h : MapAt w P k b D) : ∃ es clock, w.heap[b]? = some (.map es clock) ∧ es.size = D.length := by
  obtain ⟨es, clock, h1, _, h3, _⟩ := h
  exact ⟨es, clock, h1, by simpa using h3.length_eq⟩

theorem perm_erase {α : Type} : ∀ (l : List α) (j : Nat) (h : j < l.length), (l[j] :: l.eraseIdx j).Perm l
  | x :: l, 0, _ => List.Perm.refl _
  | x :: l, j + 1, h => (List.Perm.swap _ _ _).trans ((perm_erase l j (by simpa using h)).cons x)

/-- What the search for a key finds. -/
theorem MapAt.find {es : Array MapEntry} (K : Keyed P k) (hp : (es.toList.map fun e => (e.key, e.val)).Perm D) (hk : ∀ p ∈ D, ∃ l, keyOf P k p.1 = some l) (w : World) {key : Value} {l : Lit} (hkey : keyOf P k key = some l) :
    ((Instr.findKey k key es.toList).run P w = .ok none w ∧ (∀ e ∈ es.toList, e.key ≠ key) ∧ ∀ p ∈ D, p.1 ≠ key) ∨
    ∃ j e, (Instr.findKey k key es.toList).run P w = .ok (some (j, e.val)) w ∧ es.toList[j]? = some e ∧ e.key = key ∧ (key, e.val) ∈ D := by
  have hks : ∀ e ∈ es.toList, ∃ l, keyOf P k e.key = some l := fun e he => hk (e.key, e.val) (hp.mem_iff.1 (List.mem_map.2 ⟨e, he, rfl⟩))
  rcases K.find w hkey es.toList hks with ⟨h1, h2⟩ | ⟨j, e, h1, h2, h3⟩
  · refine Or.inl ⟨h1, h2, fun p hq he => ?_⟩
    obtain ⟨e, he', rfl⟩ := List.mem_map.1 (hp.mem_iff.2 hq)
    exact h2 e he' he
  · exact Or.inr ⟨j, e, h1, h2, h3, hp.mem_iff.1 (List.mem_map.2 ⟨e, List.mem_of_getElem? h2, by rw [h3]⟩)⟩

variable {t e : TypeId}

/-- No entry bears the key. -/
theorem MapAt.look_none (c : Bool) (h : MapAt w P k b D) (K : Keyed P k) (ht : P.underlying t = some (.map k e)) {z : Value} (hz : (zeroValue e).run P w = .ok z w) {key : Value} {l : Lit} (hkey : keyOf P k key = some l) (hno : ∀ p ∈ D, p.1 ≠ key) :
    (Instr.lookup t (.map (some b)) key c).run P w = .ok (if c then .tuple #[z, .bool false] else z) w := by
  obtain ⟨es, clock, hb, hs, hp, hk⟩ := h
  rcases MapAt.find K hp hk w hkey with ⟨h1, h2, _⟩ | ⟨j, e0, h1, h2, h3, h4⟩
  · simp [Instr.lookup, run_underlying ht, MapKept.run_getObj_map hb, K.check w _ hkey, h1, hz, Result.andThen]
  · exact absurd rfl (hno _ h4)

/-- One entry bears it. -/
theorem MapAt.look_some (c : Bool) (h : MapAt w P k b D) (K : Keyed P k) (ht : P.underlying t = some (.map k e)) {key val : Value} {l : Lit} (hkey : keyOf P k key = some l) (hin : (key, val) ∈ D) :
    (Instr.lookup t (.map (some b)) key c).run P w = .ok (if c then .tuple #[val, .bool true] else val) w := by
  have hnd := h.keys
  obtain ⟨es, clock, hb, hs, hp, hk⟩ := h
  rcases MapAt.find K hp hk w hkey with ⟨h1, h2, h5⟩ | ⟨j, e0, h1, h2, h3, h4⟩
  · exact absurd rfl (h5 _ hin)
  · have : e0.val = val := by
      have := pair_unique hnd h4 hin
      exact this
    simp [Instr.lookup, run_underlying ht, MapKept.run_getObj_map hb, K.check w _ hkey, h1, this, Result.andThen]
where
  pair_unique : ∀ {D : List (Value × Value)}, (D.map Prod.fst).Nodup → ∀ {x a b : Value}, (x, a) ∈ D → (x, b) ∈ D → a = b
  | [], _, _, _, _, h, _ => by cases h
  | p :: D, hn, x, a, b, ha, hb => by
    simp only [List.map_cons, List.nodup_cons] at hn
    rcases List.mem_cons.1 ha with rfl | ha'
    · rcases List.mem_cons.1 hb with hb' | hb'
      · exact (congrArg Prod.snd hb').symm
      · exact absurd (List.mem_map.2 ⟨_, hb', rfl⟩) hn.1
    · rcases List.mem_cons.1 hb with rfl | hb'
      · exact absurd (List.mem_map.2 ⟨_, ha', rfl⟩) hn.1
      · exact pair_unique hn.2 ha' hb'

/-- A store at a new key. -/
theorem MapAt.put_new (h : MapAt w P k b D) (K : Keyed P k) (ht : P.underlying t = some (.map k e)) {key val : Value} {l : Lit} (hkey : keyOf P k key = some l) (hno : ∀ p ∈ D, p.1 ≠ key) :
    ∃ w', (Instr.mapUpdate t (.map (some b)) key val).run P w = .ok () w' ∧ MapAt w' P k b ((key, val) :: D) ∧ w.grownBy w' (some b) ∧ w'.heap.size = w.heap.size := by
  obtain ⟨es, clock, hb, hs, hp, hk⟩ := h
  have hsz : es.size = D.length := by simpa using hp.length_eq
  rcases MapAt.find K hp hk w hkey with ⟨h1, h2, _⟩ | ⟨j, e0, h1, h2, h3, h4⟩
  · refine ⟨setBlock w b (.map (es.push ⟨key, val, clock⟩) (clock + 1)), ?_, ⟨_, _, heap_setBlock_same hb _, stamped_push hs h2, ?_, ?_⟩, ⟨rfl, rfl, rfl, by simp [setBlock], fun i _ hi => heap_setBlock_other hb _ (fun e => hi (by rw [e]))⟩, by simp [setBlock]⟩
    · simp [Instr.mapUpdate, run_underlying ht, MapKept.run_getObj_map hb, K.check w false hkey, h1, MapKept.run_setObj_map _ hb, Result.andThen, setBlock]
    · simp only [Array.toList_push, List.map_append, List.map_cons, List.map_nil]
      exact (List.perm_append_singleton _ _).trans (hp.cons _)
    · intro p hq
      rcases List.mem_cons.1 hq with rfl | hq
      · exact ⟨l, hkey⟩
      · exact hk p hq
  · exact absurd rfl (hno _ h4)

/-- A store at a key that is there. -/
theorem MapAt.put_old {old : Value} {R : List (Value × Value)} (h : MapAt w P k b D) (K : Keyed P k) (ht : P.underlying t = some (.map k e)) {key val : Value} {l : Lit} (hkey : keyOf P k key = some l) (hD : D.Perm ((key, old) :: R)) :
    ∃ w', (Instr.mapUpdate t (.map (some b)) key val).run P w = .ok () w' ∧ MapAt w' P k b ((key, val) :: R) ∧ w.grownBy w' (some b) ∧ w'.heap.size = w.heap.size := by
  have h' := h.perm hD
  have hnd := h'.keys
  obtain ⟨es, clock, hb, hs, hp, hk⟩ := h'
  rcases MapAt.find K hp hk w hkey with ⟨h1, h2, h5⟩ | ⟨j, e0, h1, h2, h3, h4⟩
  · exact absurd rfl (h5 (key, old) (by simp))
  · have hj : es[j]? = some e0 := by simpa using h2
    have hjl : j < es.toList.length := (List.getElem?_eq_some_iff.1 h2).1
    have hkeyf : ∀ e', es[j]? = some e' → ({ e' with key := key, val := val } : MapEntry).key = e'.key := fun e' he' => by rw [hj] at he'; cases he'; exact h3.symm
    have hlist : (es.modify j (fun e' => { e' with key := key, val := val })).toList = es.toList.set j { e0 with key := key, val := val } := by rw [Array.toList_modify, modify_eq_set _ _ _ _ h2]
    refine ⟨setBlock w b (.map (es.modify j (fun e' => { e' with key := key, val := val })) clock), ?_, ⟨_, _, heap_setBlock_same hb _, stamped_modify hs _ _ (fun _ _ => rfl) (fun e' _ he' => hkeyf e' he'), ?_, ?_⟩, ⟨rfl, rfl, rfl, by simp [setBlock], fun i _ hi => heap_setBlock_other hb _ (fun e => hi (by rw [e]))⟩, by simp [setBlock]⟩
    · simp [Instr.mapUpdate, run_underlying ht, MapKept.run_getObj_map hb, K.check w false hkey, h1, hj, h3, K.stays w hkey, MapKept.run_setObj_map _ hb, Result.andThen, setBlock]
    · rw [hlist, List.map_set]
      have hp0 : (es.toList.map fun e => (e.key, e.val)).Perm ((key, e0.val) :: R) := by
        have : e0.val = old := MapAt.look_some.pair_unique hnd h4 (by simp)
        rw [this]; exact hp
      have hl : j < (es.toList.map fun e => (e.key, e.val)).length := by simpa using hjl
      refine (set_perm _ _ hl _).trans (List.Perm.cons _ ?_)
      have hx : (es.toList.map fun e => (e.key, e.val))[j] = (key, e0.val) := by
        have := (List.getElem?_eq_some_iff.1 h2).2
        simp [← h3, this]
      have h6 := (perm_erase _ j hl).trans hp0
      rw [hx] at h6
      exact h6.cons_inv
    · intro p hq
      rcases List.mem_cons.1 hq with rfl | hq
      · exact ⟨l, hkey⟩
      · exact hk p (by simp [hq])

/-- An entry struck. -/
theorem MapAt.del {ty : TypeId} {old : Value} {R : List (Value × Value)} (h : MapAt w P k b D) (K : Keyed P k) (ht : P.underlying t = some (.map k e)) {key : Value} {l : Lit} (hkey : keyOf P k key = some l) (hD : D.Perm ((key, old) :: R)) :
    ∃ w', (Builtin.delete_ #[t, k] ty #[.map (some b), key]).run P w = .ok (.tuple #[]) w' ∧ MapAt w' P k b R ∧ w.grownBy w' (some b) ∧ w'.heap.size = w.heap.size := by
  have h' := h.perm hD
  have hnd := h'.keys
  obtain ⟨es, clock, hb, hs, hp, hk⟩ := h'
  rcases MapAt.find K hp hk w hkey with ⟨h1, h2, h5⟩ | ⟨j, e0, h1, h2, h3, h4⟩
  · exact absurd rfl (h5 (key, old) (by simp))
  · have hjl : j < es.toList.length := (List.getElem?_eq_some_iff.1 h2).1
    have hjs : j < es.size := by simpa using hjl
    have hsub : (es.eraseIdxIfInBounds j).toList = es.toList.eraseIdx j := by
      unfold Array.eraseIdxIfInBounds
      rw [dif_pos hjs]
      simp
    refine ⟨setBlock w b (.map (es.eraseIdxIfInBounds j) clock), ?_, ⟨_, _, heap_setBlock_same hb _, stamped_erase hs j, ?_, fun p hq => hk p (by simp [hq])⟩, ⟨rfl, rfl, rfl, by simp [setBlock], fun i _ hi => heap_setBlock_other hb _ (fun e => hi (by rw [e]))⟩, by simp [setBlock]⟩
    · simp [Builtin.delete_, run_underlying ht, MapKept.run_getObj_map hb, K.check w _ hkey, h1, MapKept.run_setObj_map _ hb, Result.andThen, setBlock]
    · rw [hsub, map_eraseIdx]
      have hp0 : (es.toList.map fun e => (e.key, e.val)).Perm ((key, e0.val) :: R) := by
        have : e0.val = old := MapAt.look_some.pair_unique hnd h4 (by simp)
        rw [this]; exact hp
      have hl : j < (es.toList.map fun e => (e.key, e.val)).length := by simpa using hjl
      have hx : (es.toList.map fun e => (e.key, e.val))[j] = (key, e0.val) := by
        have := (List.getElem?_eq_some_iff.1 h2).2
        simp [← h3, this]
      have h6 := (perm_erase _ j hl).trans hp0
      rw [hx] at h6
      exact h6.cons_inv

end Go.Proofs.Ytlkkdpoliafjbaa

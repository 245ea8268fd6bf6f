import Derived.Test.YtcdhjcjdphnleaaP8
import Derived.Test.YtcdhjcjdphnleaaY
/-
  Blocks of other types stay as they are; a store into one of these.
-/
namespace Go.Proofs.Ytcdhjcjdphnleaa
open Go Go.WideMaps Go.RowKit

def Kinds (w w' : World) : Prop := ∀ (i : Nat) (t : TypeId) (cs : Array Value), t ≠ 62 → t ≠ 41 → Whole w i t cs → Whole w' i t cs
theorem Kinds.of_below {w w' : World} (hb : Below w.heap.size w w') : Kinds w w' := fun _ _ _ _ _ h => Whole.under hb h h.lt
theorem Kinds.trans {a b c : World} (h : Kinds a b) (k : Kinds b c) : Kinds a c := fun i t cs h1 h2 h3 => k i t cs h1 h2 (h i t cs h1 h2 h3)
theorem cache_kind {w : World} {cb : Nat} {F : Nat → Prop} {s : St} (h : Cache w cb F s) {i : Nat} (hi : F i) {t : TypeId} {cs : Array Value} (h1 : t ≠ 62) (h2 : t ≠ 41) : ¬ Whole w i t cs := by
  intro hw
  obtain ⟨mb, v, hC⟩ := h
  rcases (hC.foot i).1 hi with rfl | rfl | hv
  · exact whole_ne hw hC.blk h1 rfl
  · exact map_ne hC.map hw rfl
  · exact hC.keys.far hw h2 hv
theorem Did.kinds {w w' : World} {cb : Nat} {F : Nat → Prop} {s s' : St} (hc : Cache w cb F s) (hd : Did w w' cb F s') : Kinds w w' := by
  obtain ⟨F', _, ht, _⟩ := hd
  intro i t cs h1 h2 hw
  exact ht.whole hw fun hi => cache_kind hc hi h1 h2 hw

section
variable (j : Nat) {X : Nat → Prop} {B : Nat} {w0 w : World} {cs : List (Nat × St)} {cb : Nat} {s : St}
theorem find_k (k : Key) (h : Many X B w0 w cs) (hj : cs[j]? = some (cb, s)) (hc : s.Cnt 1000000) (hk : k.ok) :
    Calls Try.prog 21 #[.pointer (some ⟨cb, 0, none⟩), .int .i64 k.a, .int .i64 k.b, .int .i64 k.c] w fun e w' => e = .returned (.tuple #[.agg (s.dec k).cells, .bool (s.has k)]) ∧ Many X B w0 w' (cs.set j (cb, s.find k)) ∧ Kinds w w' := by
  obtain ⟨hb0, hB, hx, F, h1, h2, h3, h4⟩ := h
  refine (find_any w cb (F j) s k (h1 j cb s hj) hc hk).mono ?_
  rintro e w' ⟨rfl, hd⟩
  exact ⟨rfl, (Many.turn hb0 hB hx h1 h2 h3 h4 (List.getElem?_eq_some_iff.1 hj).1 hd).1, hd.kinds (h1 j cb s hj)⟩
theorem insert_k (k : Key) (d : Dec) (h : Many X B w0 w cs) (hj : cs[j]? = some (cb, s)) (hc : s.Cnt 1000000) (hk : k.ok) :
    Calls Try.prog 22 #[.pointer (some ⟨cb, 0, none⟩), .int .i64 k.a, .int .i64 k.b, .int .i64 k.c, .agg d.cells] w fun e w' => e = .returned (.int .i64 (s.insErr d)) ∧ Many X B w0 w' (cs.set j (cb, s.insert k d)) ∧ Kinds w w' := by
  obtain ⟨hb0, hB, hx, F, h1, h2, h3, h4⟩ := h
  refine (insert_any' w cb (F j) s k d (h1 j cb s hj) hc hk).mono ?_
  rintro e w' ⟨rfl, hd⟩
  exact ⟨rfl, (Many.turn hb0 hB hx h1 h2 h3 h4 (List.getElem?_eq_some_iff.1 hj).1 hd).1, hd.kinds (h1 j cb s hj)⟩
end

/-- A store into a block that is no cache's. -/
theorem Many.sto {X : Nat → Prop} {B : Nat} {w0 w w' : World} {cs : List (Nat × St)} (h : Many X B w0 w cs) {g : Nat} {t : TypeId} {c0 : Array Value} (hw : Whole w g t c0) (h1 : t ≠ 62) (h2 : t ≠ 41) (hs : Sto w w' g) (hg : B ≤ g) : Many X B w0 w' cs := by
  obtain ⟨hb0, hB, hx, F, f1, f2, f3, f4⟩ := h
  have hsz : w'.heap.size = w.heap.size := hs.size
  refine ⟨hb0.trans (hs.below hg), by rw [hsz]; exact hB, fun i hi => by rw [hsz]; exact hx i hi, fun j i => F j i ∧ j < cs.length, fun j cb s hj => ?_, fun j i hi => by rw [hsz]; exact f2 j i hi.1, fun j j' i hi hi' => f3 j j' i hi.1 hi'.1, fun j i hi => f4 j i hi.1⟩
  have hlt := (List.getElem?_eq_some_iff.1 hj).1
  have hc := (f1 j cb s hj).tch (Tch.of_sto hs (F := fun i => i = g) rfl) fun i hi e => cache_kind (f1 j cb s hj) hi h1 h2 (e ▸ hw)
  obtain ⟨mb, v, hC⟩ := hc
  exact ⟨mb, v, hC.blk, hC.map, hC.keys, hC.nil, fun i => ⟨fun h => (hC.foot i).1 h.1, fun h => ⟨(hC.foot i).2 h, hlt⟩⟩, hC.ok⟩

/-- A decision's block, as the allocation leaves it, and as the store does. -/
def Cell46 (B : Nat) (u : Value) (w : World) : Prop := ∃ g cs, u = .pointer (some ⟨g, 0, none⟩) ∧ B ≤ g ∧ Whole w g 46 cs ∧ cs.size = 5
def Cell46d (d : Array Value) (u : Value) (w : World) : Prop := ∃ g, u = .pointer (some ⟨g, 0, none⟩) ∧ Whole w g 46 d
/-- What a store of a decision does to blocks of that type. -/
def Sto46 (w w' : World) : Prop := ∀ i cs, Whole w i 46 cs → ∃ cs', Whole w' i 46 cs' ∧ cs'.size = cs.size
theorem Sto46.of {w w' : World} {g : Nat} {c0 c1 : Array Value} (hs : Sto w w' g) (hw : Whole w g 46 c0) (hw' : Whole w' g 46 c1) (hz : c1.size = c0.size) : Sto46 w w' := by
  intro i cs h
  by_cases e : i = g
  · subst e
    have h1 := Eq.trans (Eq.symm hw) h
    simp only [Option.some.injEq, Obj.cells.injEq] at h1
    exact ⟨c1, hw', by rw [hz, h1.1]⟩
  · exact ⟨cs, hs.whole h e, rfl⟩
/-- The call is in place c; any other operation that turns memory is a store. -/
def RFind (c : Nat) (i : Nat) (w w' : World) : Prop := if i = c then Kinds w w' else Sto46 w w'
theorem cell46_lasts {B : Nat} : Lasts (Cell46 B) := fun _ _ _ ⟨g, cs, h1, h2, h3, h4⟩ hb => ⟨g, cs, h1, h2, Whole.under hb h3 h3.lt, h4⟩
theorem cell46d_lasts {d : Array Value} : Lasts (Cell46d d) := fun _ _ _ ⟨g, h1, h3⟩ hb => ⟨g, h1, Whole.under hb h3 h3.lt⟩
theorem cell46_R {B c i : Nat} : LastsR (RFind c i) (Cell46 B) := by
  rintro v w w' ⟨g, cs, h1, h2, h3, h4⟩ h
  unfold RFind at h
  split at h
  · exact ⟨g, cs, h1, h2, h g 46 cs (by decide) (by decide) h3, h4⟩
  · obtain ⟨cs', h5, h6⟩ := h g cs h3
    exact ⟨g, cs', h1, h2, h5, by rw [h6, h4]⟩
theorem cell46d_R {d : Array Value} {c : Nat} : LastsR (RFind c c) (Cell46d d) := by
  rintro v w w' ⟨g, h1, h3⟩ h
  unfold RFind at h
  rw [if_pos rfl] at h
  exact ⟨g, h1, h g 46 d (by decide) (by decide) h3⟩

/-! ### No decision is stale -/
def St.Fr (s : St) : Prop := ∀ p ∈ s.D, s.seq ≤ p.2.seq
theorem fr_fresh (n : Int) : (fresh n).Fr := fun p hp => by cases hp
theorem fr_dec {s : St} (h : s.Fr) {k : Key} (hk : s.has k = true) : s.seq ≤ (s.dec k).seq := by
  unfold St.has at hk
  unfold St.dec
  cases hg : s.get k with
  | none => rw [hg] at hk; cases hk
  | some d => exact h _ (get_mem hg)
theorem rest_sub {D : List (Key × Dec)} {k : Key} {p : Key × Dec} (h : p ∈ rest D k) : p ∈ D := (List.mem_filter.1 h).1
theorem fr_put {s : St} (h : s.Fr) (k : Key) (d : Dec) (hd : s.seq ≤ d.seq) : (s.put k d).Fr := by
  intro p hp
  rcases List.mem_cons.1 hp with rfl | hp
  · exact hd
  · exact h p (rest_sub hp)
theorem fr_find {s : St} (h : s.Fr) (k : Key) : (s.find k).Fr ∧ (s.find k).seq = s.seq := by
  unfold St.find
  split
  · exact ⟨fun p hp => h p hp, rfl⟩
  · rename_i d hg
    refine ⟨?_, rfl⟩
    intro p hp
    rcases List.mem_cons.1 hp with rfl | hp
    · exact h _ (get_mem hg)
    · exact h p (rest_sub hp)
theorem fr_play {s : St} (h : s.Fr) (o : Opn) : (s.play o).Fr := by
  unfold St.play
  split
  · exact (fr_find h _).1
  · split
    · unfold St.insert
      split
      · exact h
      · rename_i hst
        have hd : s.seq ≤ o.dec.seq := by omega
        split
        · exact fr_put h _ _ hd
        · split
          · refine fr_put (s := s.evict) (fun p hp => h p (List.dropLast_subset _ hp)) _ _ hd
          · exact fr_put h _ _ hd
    · unfold St.resets
      split
      · exact h
      · intro p hp
        cases hp
end Go.Proofs.Ytcdhjcjdphnleaa

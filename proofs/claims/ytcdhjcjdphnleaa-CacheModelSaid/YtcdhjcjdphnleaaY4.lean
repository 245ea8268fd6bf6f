import Derived.Test.YtcdhjcjdphnleaaY1
import Derived.Test.YtcdhjcjdphnleaaY2
import Derived.Test.YtcdhjcjdphnleaaY3
import Derived.Test.YtcdhjcjdphnleaaY5
namespace Go.Proofs.Ytcdhjcjdphnleaa
open Go Go.WideMaps Go.RowKit

/-! ### Each operation, one contract -/
def St.get (s : St) (k : Key) : Option Dec := (s.D.find? fun p => p.1 == k).map Prod.snd
theorem get_mem {s : St} {k : Key} {d : Dec} (h : s.get k = some d) : (k, d) ∈ s.D := by
  unfold St.get at h
  obtain ⟨p, hp, rfl⟩ := Option.map_eq_some_iff.1 h
  have h1 := List.find?_some hp
  have h2 := List.mem_of_find?_eq_some hp
  have : p.1 = k := by simpa using h1
  rw [← this]
  exact h2
theorem get_none {s : St} {k : Key} (h : s.get k = none) : ∀ p ∈ s.D, p.1 ≠ k := by
  unfold St.get at h
  have h1 := Option.map_eq_none_iff.1 h
  intro p hp e
  have := List.find?_eq_none.1 h1 p hp
  simp [e] at this
def St.find (s : St) (k : Key) : St := match s.get k with
  | none => s.miss
  | some d => s.hit k d
def St.full (s : St) : Bool := decide (s.size ≤ (s.D.length : Int))
def St.insert (s : St) (k : Key) (d : Dec) : St := if d.seq < s.seq then s else match s.get k with
  | some _ => s.put k d
  | none => if s.full then s.evict.put k d else s.put k d
def St.insErr (s : St) (d : Dec) : Int := if d.seq < s.seq then 24 else 0
def St.resets (s : St) (n : Int) : St := if n < s.seq then s else s.reset n
def St.resErr (s : St) (n : Int) : Int := if n < s.seq then 24 else 0
def St.dec (s : St) (k : Key) : Dec := (s.get k).getD Dec.none
def St.has (s : St) (k : Key) : Bool := (s.get k).isSome
def Dec.cells (d : Dec) : Array Value := #[.int .u32 d.allowed, .int .u32 d.auditAllow, .int .u32 d.auditDeny, .bool d.permissive, .int .i64 d.seq]

theorem find_any (w : World) (cb : Nat) (F : Nat → Prop) (s : St) (k : Key) (h : Cache w cb F s) (hc : s.Cnt 1000000) (hk : k.ok) :
    Calls Try.prog 21 #[.pointer (some ⟨cb, 0, none⟩), .int .i64 k.a, .int .i64 k.b, .int .i64 k.c] w fun e w' => e = .returned (.tuple #[.agg (s.dec k).cells, .bool (s.has k)]) ∧ Did w w' cb F (s.find k) := by
  unfold St.find St.dec St.has
  cases hg : s.get k with
  | none => exact find_miss w cb F s k h hc hk (get_none hg)
  | some d => exact find_hit w cb F s k h hc hk d (get_mem hg)

theorem insert_any' (w : World) (cb : Nat) (F : Nat → Prop) (s : St) (k : Key) (d : Dec) (h : Cache w cb F s) (hc : s.Cnt 1000000) (hk : k.ok) :
    Calls Try.prog 22 #[.pointer (some ⟨cb, 0, none⟩), .int .i64 k.a, .int .i64 k.b, .int .i64 k.c, .agg d.cells] w fun e w' => e = .returned (.int .i64 (s.insErr d)) ∧ Did w w' cb F (s.insert k d) := by
  unfold St.insert St.insErr
  by_cases hst : d.seq < s.seq
  · rw [if_pos hst, if_pos hst]
    refine (insert_stale w cb F s k d h hst).mono ?_
    rintro e w' ⟨rfl, hb⟩
    exact ⟨rfl, Did.of_below h hb⟩
  · rw [if_neg hst, if_neg hst]
    have hst' : s.seq ≤ d.seq := by omega
    cases hg : s.get k with
    | some d0 => exact insert_old w cb F s k d h hk hst' d0 (get_mem hg)
    | none =>
      obtain ⟨mb, v, hC⟩ := h
      have hlen := hC.ok.len
      have hlo := hC.ok.lo
      by_cases hf : s.full = true
      · have hf' : s.size ≤ (s.D.length : Int) := of_decide_eq_true hf
        simp only [hf, if_true]
        have hne : s.D ≠ [] := fun e => by rw [e] at hf'; simp at hf'; omega
        have hD : s.D = s.D.dropLast ++ [((s.D.getLast hne).1, (s.D.getLast hne).2)] := (List.dropLast_concat_getLast hne).symm
        exact insert_evict w cb F s k d ⟨mb, v, hC⟩ hk hst' _ _ _ hD (get_none hg) (by omega) hc.e0 hc.e1
      · have hf' : ¬ s.size ≤ (s.D.length : Int) := fun h => hf (decide_eq_true h)
        simp only [hf]
        exact insert_new w cb F s k d ⟨mb, v, hC⟩ hk hst' (get_none hg) (by omega)

theorem reset_any (w : World) (cb : Nat) (F : Nat → Prop) (s : St) (n : Int) (h : Cache w cb F s) (hc : s.Cnt 1000000) :
    Calls Try.prog 26 #[.pointer (some ⟨cb, 0, none⟩), .int .i64 n] w fun e w' => e = .returned (.int .i64 (s.resErr n)) ∧ Did w w' cb F (s.resets n) := by
  unfold St.resets St.resErr
  by_cases hst : n < s.seq
  · rw [if_pos hst, if_pos hst]
    refine (reset_stale w cb F s n h hst).mono ?_
    rintro e w' ⟨rfl, rfl⟩
    exact ⟨rfl, Did.of_below h (Below.refl _ _)⟩
  · rw [if_neg hst, if_neg hst]
    exact reset_yes w cb F s n h hc (by omega)

/-! ### Several caches, apart -/
structure Many (X : Nat → Prop) (B : Nat) (w0 w : World) (cs : List (Nat × St)) : Prop where
  below : Below B w0 w
  base : B ≤ w.heap.size
  aside : ∀ i, X i → i < w.heap.size
  held : ∃ F : Nat → Nat → Prop, (∀ j cb s, cs[j]? = some (cb, s) → Cache w cb (F j) s) ∧ (∀ j i, F j i → B ≤ i ∧ i < w.heap.size) ∧ (∀ j j' i, F j i → F j' i → j = j') ∧ ∀ j i, F j i → ¬ X i

/-- What stands aside is as it was. -/
structure Aft (X : Nat → Prop) (w w' : World) : Prop where
  size : w.heap.size ≤ w'.heap.size
  block : ∀ i, X i → w'.heap[i]? = w.heap[i]?
theorem Aft.trans {X : Nat → Prop} {a b c : World} (h : Aft X a b) (k : Aft X b c) : Aft X a c := ⟨Nat.le_trans h.size k.size, fun i hi => (k.block i hi).trans (h.block i hi)⟩
theorem Aft.refl (X : Nat → Prop) (w : World) : Aft X w w := ⟨Nat.le_refl _, fun _ _ => rfl⟩
theorem Aft.of_below {X : Nat → Prop} {w w' : World} (hb : Below w.heap.size w w') (hx : ∀ i, X i → i < w.heap.size) : Aft X w w' := ⟨hb.size, fun i hi => hb.block i (hx i hi)⟩
theorem Aft.whole {X : Nat → Prop} {w w' : World} (h : Aft X w w') {g : Nat} {t : TypeId} {cs : Array Value} (hw : Whole w g t cs) (hx : X g) : Whole w' g t cs := (h.block g hx).trans hw
theorem Aft.keys {X : Nat → Prop} {w w' : World} (h : Aft X w w') {v : Value} {ks : List Key} (hk : KeysAt w v ks) (hx : ∀ g, v.ownBlock = some g → X g) : KeysAt w' v ks := hk.kept fun g hg _ => h.block g (hx g hg)

section
variable {X : Nat → Prop} {B : Nat} {w0 w w' : World} {cs : List (Nat × St)}
theorem Many.start (w : World) (B : Nat) (hB : B ≤ w.heap.size) (hx : ∀ i, X i → i < w.heap.size) : Many X B w w [] := ⟨Below.refl _ _, hB, hx, fun _ _ => False, fun j cb s h => by simp at h, fun _ _ h => h.elim, fun _ _ _ h => h.elim, fun _ _ h => h.elim⟩
theorem Many.ok (h : Many X B w0 w cs) {j cb : Nat} {s : St} (hj : cs[j]? = some (cb, s)) : s.Ok := let ⟨_, h1, _⟩ := h.held; let ⟨_, _, hC⟩ := h1 j cb s hj; hC.ok
theorem Many.lt (h : Many X B w0 w cs) {j cb : Nat} {s : St} (hj : cs[j]? = some (cb, s)) : B ≤ cb ∧ cb < w.heap.size := by
  obtain ⟨F, h1, h2, _, _⟩ := h.held
  obtain ⟨mb, v, hC⟩ := h1 j cb s hj
  exact h2 j cb ((hC.foot _).2 (.inl rfl))
theorem Many.under (hb : Below w.heap.size w w') (h : Many X B w0 w cs) : Many X B w0 w' cs := by
  obtain ⟨hb0, hB, hx, F, h1, h2, h3, h4⟩ := h
  exact ⟨hb0.trans (hb.mono hB), Nat.le_trans hB hb.size, fun i hi => Nat.lt_of_lt_of_le (hx i hi) hb.size, F, fun j cb s hj => (h1 j cb s hj).under hb, fun j i hi => ⟨(h2 j i hi).1, Nat.lt_of_lt_of_le (h2 j i hi).2 hb.size⟩, h3, h4⟩
/-- Other blocks stand aside: of those that stood aside, and new ones. -/
theorem Many.other {Y : Nat → Prop} (hb : Below w.heap.size w w') (h : Many X B w0 w cs) (hY : ∀ i, Y i → (X i ∨ w.heap.size ≤ i ∧ i < w'.heap.size)) : Many Y B w0 w' cs := by
  obtain ⟨hb0, hB, hx, F, h1, h2, h3, h4⟩ := h
  refine ⟨hb0.trans (hb.mono hB), Nat.le_trans hB hb.size, fun i hi => ?_, F, fun j cb s hj => (h1 j cb s hj).under hb, fun j i hi => ⟨(h2 j i hi).1, Nat.lt_of_lt_of_le (h2 j i hi).2 hb.size⟩, h3, fun j i hi hy => ?_⟩
  · rcases hY i hi with h | h
    · exact Nat.lt_of_lt_of_le (hx i h) hb.size
    · exact h.2
  · rcases hY i hy with h | h
    · exact h4 j i hi h
    · have := (h2 j i hi).2; omega
theorem Many.take (h : Many X B w0 w cs) {r : List (Nat × St)} (hr : ∀ (j : Nat) (x : Nat × St), r[j]? = some x → cs[j]? = some x) : Many X B w0 w r := by
  obtain ⟨hb0, hB, hx, F, h1, h2, h3, h4⟩ := h
  exact ⟨hb0, hB, hx, F, fun j cb s hj => h1 j cb s (hr j _ hj), h2, h3, h4⟩
/-- One cache did something. -/
theorem Many.turn {F : Nat → Nat → Prop} (hb0 : Below B w0 w) (hB : B ≤ w.heap.size) (hx : ∀ i, X i → i < w.heap.size) (h1 : ∀ j cb s, cs[j]? = some (cb, s) → Cache w cb (F j) s) (h2 : ∀ j i, F j i → B ≤ i ∧ i < w.heap.size) (h3 : ∀ j j' i, F j i → F j' i → j = j') (h4 : ∀ j i, F j i → ¬ X i)
    {j cb : Nat} {s' : St} (hlt : j < cs.length) (hd : Did w w' cb (F j) s') : Many X B w0 w' (cs.set j (cb, s')) ∧ Aft X w w' := by
  obtain ⟨F', hc, ht, hF⟩ := hd
  refine ⟨⟨hb0.trans (ht.below (fun i hi => (h2 j i hi).1) hB), Nat.le_trans hB ht.size, fun i hi => Nat.lt_of_lt_of_le (hx i hi) ht.size, fun j' i => if j' = j then F' i else F j' i, ?_, ?_, ?_, ?_⟩, ht.size, fun i hi => ht.block i (hx i hi) fun hf => h4 j i hf hi⟩
  · intro j' cb' s'' hj'
    by_cases e : j' = j
    · subst e
      rw [List.getElem?_set_self (by omega)] at hj'
      cases hj'
      simpa using hc
    · rw [List.getElem?_set_ne (Ne.symm e)] at hj'
      simp only [if_neg e]
      exact (h1 j' cb' s'' hj').tch ht fun i hi hi' => e (h3 _ _ i hi hi')
  · intro j' i hi
    by_cases e : j' = j
    · simp only [if_pos e] at hi
      refine ⟨?_, hc.lt i hi⟩
      rcases hF i hi with h | h
      · exact (h2 j i h).1
      · omega
    · simp only [if_neg e] at hi
      exact ⟨(h2 j' i hi).1, Nat.lt_of_lt_of_le (h2 j' i hi).2 ht.size⟩
  · intro a b i ha hb
    by_cases ea : a = j <;> by_cases eb : b = j
    · rw [ea, eb]
    · simp only [if_pos ea, if_neg eb] at ha hb
      rcases hF i ha with h | h
      · rw [ea]; exact h3 _ _ i h hb
      · have := (h2 b i hb).2; omega
    · simp only [if_neg ea, if_pos eb] at ha hb
      rcases hF i hb with h | h
      · rw [eb]; exact h3 _ _ i ha h
      · have := (h2 a i ha).2; omega
    · simp only [if_neg ea, if_neg eb] at ha hb
      exact h3 _ _ i ha hb
  · intro a i ha hX
    by_cases ea : a = j
    · simp only [if_pos ea] at ha
      rcases hF i ha with h | h
      · exact h4 j i h hX
      · have := hx i hX; omega
    · simp only [if_neg ea] at ha
      exact h4 a i ha hX
/-- A cache more. -/
theorem Many.more (h : Many X B w0 w cs) {cb : Nat} {s : St} {G : Nat → Prop} (hb : Below w.heap.size w w') (hc : Cache w' cb G s) (hG : ∀ i, G i → w.heap.size ≤ i) : Many X B w0 w' (cs ++ [(cb, s)]) := by
  obtain ⟨hb0, hB, hx, F, h1, h2, h3, h4⟩ := h
  refine ⟨hb0.trans (hb.mono hB), Nat.le_trans hB hb.size, fun i hi => Nat.lt_of_lt_of_le (hx i hi) hb.size, fun j i => if j = cs.length then G i else if j < cs.length then F j i else False, ?_, ?_, ?_, ?_⟩
  · intro j cb' s' hj
    by_cases e : j = cs.length
    · subst e
      rw [List.getElem?_append_right (Nat.le_refl _)] at hj
      simp at hj
      obtain ⟨rfl, rfl⟩ := hj
      simpa using hc
    · have hlt : j < cs.length := by
        have := (List.getElem?_eq_some_iff.1 hj).1
        simp at this
        omega
      rw [List.getElem?_append_left hlt] at hj
      simp only [if_neg e, if_pos hlt]
      exact (h1 j cb' s' hj).under hb
  · intro j i hi
    by_cases e : j = cs.length
    · simp only [if_pos e] at hi
      exact ⟨Nat.le_trans hB (hG i hi), hc.lt i hi⟩
    · by_cases hlt : j < cs.length
      · simp only [if_neg e, if_pos hlt] at hi
        exact ⟨(h2 j i hi).1, Nat.lt_of_lt_of_le (h2 j i hi).2 hb.size⟩
      · simp only [if_neg e, if_neg hlt] at hi
  · intro a b i ha hb'
    by_cases ea : a = cs.length <;> by_cases eb : b = cs.length
    · rw [ea, eb]
    · by_cases hlt : b < cs.length
      · simp only [if_pos ea, if_neg eb, if_pos hlt] at ha hb'
        have := hG i ha; have := (h2 b i hb').2; omega
      · simp only [if_neg eb, if_neg hlt] at hb'
    · by_cases hlt : a < cs.length
      · simp only [if_neg ea, if_pos eb, if_pos hlt] at ha hb'
        have := hG i hb'; have := (h2 a i ha).2; omega
      · simp only [if_neg ea, if_neg hlt] at ha
    · by_cases hla : a < cs.length
      · by_cases hlb : b < cs.length
        · simp only [if_neg ea, if_neg eb, if_pos hla, if_pos hlb] at ha hb'
          exact h3 _ _ i ha hb'
        · simp only [if_neg eb, if_neg hlb] at hb'
      · simp only [if_neg ea, if_neg hla] at ha
  · intro a i ha hX
    by_cases ea : a = cs.length
    · simp only [if_pos ea] at ha
      have := hG i ha; have := hx i hX; omega
    · by_cases hla : a < cs.length
      · simp only [if_neg ea, if_pos hla] at ha
        exact h4 a i ha hX
      · simp only [if_neg ea, if_neg hla] at ha
end

section
variable (j : Nat) {X : Nat → Prop} {B : Nat} {w0 w : World} {cs : List (Nat × St)} {cb : Nat} {s : St}
theorem find_m (k : Key) (h : Many X B w0 w cs) (hj : cs[j]? = some (cb, s)) (hc : s.Cnt 1000000) (hk : k.ok) :
    Calls Try.prog 21 #[.pointer (some ⟨cb, 0, none⟩), .int .i64 k.a, .int .i64 k.b, .int .i64 k.c] w fun e w' => e = .returned (.tuple #[.agg (s.dec k).cells, .bool (s.has k)]) ∧ Many X B w0 w' (cs.set j (cb, s.find k)) ∧ Aft X w w' := by
  obtain ⟨hb0, hB, hx, F, h1, h2, h3, h4⟩ := h
  refine (find_any w cb (F j) s k (h1 j cb s hj) hc hk).mono ?_
  rintro e w' ⟨rfl, hd⟩
  exact ⟨rfl, Many.turn hb0 hB hx h1 h2 h3 h4 (List.getElem?_eq_some_iff.1 hj).1 hd⟩
theorem insert_m (k : Key) (d : Dec) (h : Many X B w0 w cs) (hj : cs[j]? = some (cb, s)) (hc : s.Cnt 1000000) (hk : k.ok) :
    Calls Try.prog 22 #[.pointer (some ⟨cb, 0, none⟩), .int .i64 k.a, .int .i64 k.b, .int .i64 k.c, .agg d.cells] w fun e w' => e = .returned (.int .i64 (s.insErr d)) ∧ Many X B w0 w' (cs.set j (cb, s.insert k d)) ∧ Aft X w w' := by
  obtain ⟨hb0, hB, hx, F, h1, h2, h3, h4⟩ := h
  refine (insert_any' w cb (F j) s k d (h1 j cb s hj) hc hk).mono ?_
  rintro e w' ⟨rfl, hd⟩
  exact ⟨rfl, Many.turn hb0 hB hx h1 h2 h3 h4 (List.getElem?_eq_some_iff.1 hj).1 hd⟩
theorem reset_m (n : Int) (h : Many X B w0 w cs) (hj : cs[j]? = some (cb, s)) (hc : s.Cnt 1000000) :
    Calls Try.prog 26 #[.pointer (some ⟨cb, 0, none⟩), .int .i64 n] w fun e w' => e = .returned (.int .i64 (s.resErr n)) ∧ Many X B w0 w' (cs.set j (cb, s.resets n)) ∧ Aft X w w' := by
  obtain ⟨hb0, hB, hx, F, h1, h2, h3, h4⟩ := h
  refine (reset_any w cb (F j) s n (h1 j cb s hj) hc).mono ?_
  rintro e w' ⟨rfl, hd⟩
  exact ⟨rfl, Many.turn hb0 hB hx h1 h2 h3 h4 (List.getElem?_eq_some_iff.1 hj).1 hd⟩
theorem copy_m (h : Many X B w0 w cs) (hj : cs[j]? = some (cb, s)) :
    Calls Try.prog 19 #[.pointer (some ⟨cb, 0, none⟩)] w fun e w' => ∃ kb, e = .returned (.pointer (some ⟨kb, 0, none⟩)) ∧ Many X B w0 w' (cs ++ [(kb, s)]) ∧ Aft X w w' := by
  have h' := h
  obtain ⟨hb0, hB, hx, F, h1, h2, h3, h4⟩ := h
  refine (copy_any w cb (F j) s (h1 j cb s hj)).mono ?_
  rintro e w' ⟨kb, G, rfl, hc, hG, hb⟩
  exact ⟨kb, rfl, h'.more hb hc hG, Aft.of_below hb hx⟩
theorem new_m (n : Int) (h : Many X B w0 w cs) (hn1 : 1 ≤ n) (hn2 : n ≤ 1024) :
    Calls Try.prog 11 #[.int .i64 n] w fun e w' => ∃ kb, e = .returned (.pointer (some ⟨kb, 0, none⟩)) ∧ Many X B w0 w' (cs ++ [(kb, fresh n)]) ∧ Aft X w w' := by
  refine (new_yes w n hn1 hn2).mono ?_
  rintro e w' ⟨cb, F, rfl, hc, hG, hb⟩
  exact ⟨cb, rfl, h.more hb hc hG, Aft.of_below hb h.aside⟩
theorem seq_m (h : Many X B w0 w cs) (hj : cs[j]? = some (cb, s)) : Calls Try.prog 20 #[.pointer (some ⟨cb, 0, none⟩)] w fun e w' => e = .returned (.int .i64 s.seq) ∧ w = w' :=
  let ⟨F, h1, _⟩ := h.held; seq_any w cb (F j) s (h1 j cb s hj)
theorem len_m (h : Many X B w0 w cs) (hj : cs[j]? = some (cb, s)) : Calls Try.prog 17 #[.pointer (some ⟨cb, 0, none⟩)] w fun e w' => e = .returned (.int .i64 s.D.length) ∧ w = w' :=
  let ⟨F, h1, _⟩ := h.held; len_any w cb (F j) s (h1 j cb s hj)
theorem stats_m (h : Many X B w0 w cs) (hj : cs[j]? = some (cb, s)) : Calls Try.prog 18 #[.pointer (some ⟨cb, 0, none⟩)] w fun e w' => e = .returned (.tuple #[.int .i64 s.h, .int .i64 s.m, .int .i64 s.e, .int .i64 s.r]) ∧ Many X B w0 w' cs ∧ Below w.heap.size w w' := by
  have h' := h
  obtain ⟨hb0, hB, hx, F, h1, h2, h3, h4⟩ := h
  refine (stats_any w cb (F j) s (h1 j cb s hj)).mono ?_
  rintro e w' ⟨rfl, hb⟩
  exact ⟨rfl, h'.under hb, hb⟩
theorem keys_m (h : Many X B w0 w cs) (hj : cs[j]? = some (cb, s)) : Calls Try.prog 16 #[.pointer (some ⟨cb, 0, none⟩)] w fun e w' => ∃ v, e = .returned v ∧ KeysAt w' v s.keys ∧ (∀ g, v.ownBlock = some g → w.heap.size ≤ g) ∧ Many X B w0 w' cs ∧ Below w.heap.size w w' := by
  have h' := h
  obtain ⟨hb0, hB, hx, F, h1, h2, h3, h4⟩ := h
  refine (keys_any w cb (F j) s (h1 j cb s hj)).mono ?_
  rintro e w' ⟨v, rfl, hk, ho, hb⟩
  exact ⟨v, rfl, hk, ho, h'.under hb, hb⟩
end
end Go.Proofs.Ytcdhjcjdphnleaa

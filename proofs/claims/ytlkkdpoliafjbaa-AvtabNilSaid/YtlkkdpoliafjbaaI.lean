import Derived.Test.YtlkkdpoliafjbaaH
/-
  A store: a map of vectors by key, and its keys in order.
-/
namespace Go.Proofs.Ytlkkdpoliafjbaa
open Go Go.WideMaps Go.RowKit

def epair (e : AEntry) : Value × Value := (kval e.key, vval e.vecs)
/-- Block sb is a store that holds the entries L; its blocks are from 'base' on. -/
structure StoreAt (w : World) (base sb : Nat) (L : List AEntry) : Prop where
  ex : ∃ mb kv, Whole w sb 73 #[.map (some mb), kv] ∧ MapAt w Try.prog 60 mb (L.map epair) ∧ w.ownsRow base 60 4 kv L.length (flat (L.map AEntry.key)) ∧ base ≤ sb ∧ base ≤ mb
  ord : L.Pairwise Bef
  ok : ∀ x ∈ L, x.Ok
/-- What has been turned: memory from 'base' on, of keys and of stores alone. -/
structure Chg (base : Nat) (w w' : World) : Prop where
  blw : RowKit.Below base w w'
  kept : ∀ g t cs, Whole w g t cs → t ≠ 73 → t ≠ 60 → Whole w' g t cs
theorem Chg.refl (base : Nat) (w : World) : Chg base w w := ⟨Below.refl _ _, fun _ _ _ h _ _ => h⟩
theorem Chg.trans {base : Nat} {a b c : World} (h : Chg base a b) (k : Chg base b c) : Chg base a c := ⟨h.blw.trans k.blw, fun g t cs hw h1 h2 => k.kept g t cs (h.kept g t cs hw h1 h2) h1 h2⟩
theorem Chg.of_below {base : Nat} {w w' : World} (h : RowKit.Below w.heap.size w w') (hb : base ≤ w.heap.size) : Chg base w w' := ⟨h.mono hb, fun _ _ _ hw _ _ => Whole.under h hw hw.lt⟩
theorem StoreAt.keep {w w' : World} {base sb : Nat} {L : List AEntry} (h : StoreAt w base sb L) (hb : RowKit.Below w.heap.size w w') : StoreAt w' base sb L := by
  obtain ⟨mb, kv, h1, h2, h3, h4, h5⟩ := h.ex
  exact ⟨⟨mb, kv, Whole.under hb h1 h1.lt, h2.kept (hb.block _ h2.lt), own_keep hb h3 (Nat.le_refl _), h4, h5⟩, h.ord, h.ok⟩
theorem StoreAt.lt {w : World} {base sb : Nat} {L : List AEntry} (h : StoreAt w base sb L) : sb < w.heap.size := by
  obtain ⟨mb, kv, h1, _⟩ := h.ex
  exact h1.lt
theorem StoreAt.low {w : World} {base base' sb : Nat} {L : List AEntry} (h : StoreAt w base sb L) (hb : base' ≤ base) : StoreAt w base' sb L := by
  obtain ⟨mb, kv, h1, h2, h3, h4, h5⟩ := h.ex
  exact ⟨⟨mb, kv, h1, h2, own_low h3 hb, Nat.le_trans hb h4, Nat.le_trans hb h5⟩, h.ord, h.ok⟩

/-! ### Where a key stands -/
theorem at_mem {L : List AEntry} {j : Nat} {y : AEntry} (h : L[j]? = some y) : y ∈ L := List.mem_of_getElem? h
theorem ord_at {L : List AEntry} (h : L.Pairwise Bef) {p q : Nat} {y z : AEntry} (hpq : p < q) (hy : L[p]? = some y) (hz : L[q]? = some z) : Bef y z := by
  obtain ⟨h1, rfl⟩ := List.getElem?_eq_some_iff.1 hy
  obtain ⟨h2, rfl⟩ := List.getElem?_eq_some_iff.1 hz
  exact (List.pairwise_iff_getElem.1 h) p q h1 h2 hpq
theorem keys_down {L : List AEntry} (h : L.Pairwise Bef) (k : Key4) : ∀ (p q : Nat) (y z : Key4), p ≤ q → (L.map AEntry.key)[p]? = some y → (L.map AEntry.key)[q]? = some z → cmpK z k < 0 → cmpK y k < 0 := by
  intro p q y z hpq hy hz hlt
  rw [List.getElem?_map] at hy hz
  obtain ⟨a, ha, rfl⟩ := Option.map_eq_some_iff.1 hy
  obtain ⟨b, hb, rfl⟩ := Option.map_eq_some_iff.1 hz
  rw [show cmpK b.key k = cmpK b.key (mkE k AVec.zero).key from rfl, cmpK_neg] at hlt
  rw [show cmpK a.key k = cmpK a.key (mkE k AVec.zero).key from rfl, cmpK_neg]
  rcases Nat.lt_or_ge p q with h1 | h1
  · exact Bef.trans _ _ _ (ord_at h h1 ha hb) hlt
  · obtain rfl : p = q := by omega
    rw [ha] at hb
    cases hb
    exact hlt
theorem ins_at {x : AEntry} : ∀ {L : List AEntry} {p : Nat}, L.Pairwise Bef → x.key ∉ L.map AEntry.key → p ≤ L.length → (∀ q y, q < p → L[q]? = some y → befB y x = true) → (∀ q y, p ≤ q → L[q]? = some y → befB y x = false) → ins x L = L.take p ++ x :: L.drop p
  | [], p, _, _, hp, _, _ => by simp at hp; subst hp; simp [ins]
  | y :: L, 0, hs, hk, _, _, hhi => by
    have h1 := hhi 0 y (Nat.le_refl _) rfl
    have h2 : befB x y = true := bef_total (fun e => hk (by simp [e])) h1
    rw [ins, if_pos h2]
    simp
  | y :: L, p + 1, hs, hk, hp, hlo, hhi => by
    have h1 := hlo 0 y (by omega) rfl
    rw [ins, if_neg (by rw [befB_asymm h1]; simp), if_pos h1, ins_at (p := p) (List.pairwise_cons.1 hs).2 (fun e => hk (by simp at e ⊢; exact .inr e)) (by simpa using hp) (fun q z hq hz => hlo (q + 1) z (by omega) (by simpa using hz)) (fun q z hq hz => hhi (q + 1) z (by omega) (by simpa using hz))]
    simp
/-- The place of a key is one. -/
theorem place_one {ks : List Key4} {k : Key4} {p q : Nat} (hp : p ≤ ks.length) (hq : q ≤ ks.length) (p1 : ∀ j y, j < p → ks[j]? = some y → cmpK y k < 0) (p2 : ∀ j y, p ≤ j → ks[j]? = some y → ¬ cmpK y k < 0) (q1 : ∀ j y, j < q → ks[j]? = some y → cmpK y k < 0) (q2 : ∀ j y, q ≤ j → ks[j]? = some y → ¬ cmpK y k < 0) : p = q := by
  rcases Nat.lt_trichotomy p q with h | h | h
  · exact absurd (q1 p _ h (List.getElem?_eq_getElem (by omega))) (p2 p _ (Nat.le_refl _) (List.getElem?_eq_getElem (by omega)))
  · exact h
  · exact absurd (p1 q _ h (List.getElem?_eq_getElem (by omega))) (q2 q _ (Nat.le_refl _) (List.getElem?_eq_getElem (by omega)))
def posK (ks : List Key4) (k : Key4) : Nat := (ks.takeWhile fun y => decide (cmpK y k < 0)).length
theorem posK_le (ks : List Key4) (k : Key4) : posK ks k ≤ ks.length := by
  unfold posK
  exact (List.takeWhile_sublist _).length_le
theorem posK_lo : ∀ (ks : List Key4) (k : Key4) (j : Nat) (y : Key4), j < posK ks k → ks[j]? = some y → cmpK y k < 0
  | [], _, j, y, h, _ => by simp [posK] at h
  | x :: ks, k, j, y, h, hy => by
    unfold posK at h
    by_cases hx : cmpK x k < 0
    · rw [List.takeWhile_cons_of_pos (by simpa using hx), List.length_cons] at h
      cases j with
      | zero => simp at hy; subst hy; exact hx
      | succ j => exact posK_lo ks k j y (by unfold posK; omega) (by simpa using hy)
    · rw [List.takeWhile_cons_of_neg (by simpa using hx)] at h
      simp at h
theorem posK_hi : ∀ (ks : List Key4) (k : Key4), (∀ (p q : Nat) (y z : Key4), p ≤ q → ks[p]? = some y → ks[q]? = some z → cmpK z k < 0 → cmpK y k < 0) → ∀ (j : Nat) (y : Key4), posK ks k ≤ j → ks[j]? = some y → ¬ cmpK y k < 0
  | [], _, _, j, y, _, hy => by simp at hy
  | x :: ks, k, hd, j, y, h, hy => by
    by_cases hx : cmpK x k < 0
    · unfold posK at h
      rw [List.takeWhile_cons_of_pos (by simpa using hx), List.length_cons] at h
      cases j with
      | zero => omega
      | succ j => exact posK_hi ks k (fun p q y z h1 h2 h3 h4 => hd (p + 1) (q + 1) y z (by omega) (by simpa using h2) (by simpa using h3) h4) j y (by unfold posK; omega) (by simpa using hy)
    · exact fun hlt => hx (hd 0 j x y (Nat.zero_le _) rfl hy hlt)
/-- What a list says of a key. -/
def lookV (L : List AEntry) (k : Key4) : AVec := match L.find? (fun y => decide (y.key = k)) with
  | some y => y.vecs
  | none => AVec.zero
theorem lookV_no {L : List AEntry} {k : Key4} (h : k ∉ L.map AEntry.key) : lookV L k = AVec.zero := by
  unfold lookV
  rw [List.find?_eq_none.2 fun x hx => by simpa using fun e => h (List.mem_map.2 ⟨x, hx, e⟩)]
theorem lookV_at {L : List AEntry} (hs : L.Pairwise Bef) {j : Nat} {y : AEntry} {k : Key4} (h : L[j]? = some y) (hk : y.key = k) : lookV L k = y.vecs := by
  unfold lookV
  cases e : L.find? (fun z => decide (z.key = k)) with
  | none => exact absurd hk (by simpa using List.find?_eq_none.1 e y (at_mem h))
  | some z =>
    have hz : z ∈ L := List.mem_of_find?_eq_some e
    have hzk : z.key = k := by simpa using List.find?_some e
    obtain ⟨i, hi⟩ := List.getElem?_of_mem hz
    have : i = j := by
      rcases Nat.lt_trichotomy i j with h1 | h1 | h1
      · have := ord_at hs h1 hi h
        rw [← befB_iff, not_of_key (hzk.trans hk.symm)] at this
        cases this
      · exact h1
      · have := ord_at hs h1 h hi
        rw [← befB_iff, not_of_key (hk.trans hzk.symm)] at this
        cases this
    subst this
    rw [h] at hi
    cases hi
    rfl
theorem lookV_ok {L : List AEntry} (hok : ∀ x ∈ L, x.Ok) (k : Key4) : (lookV L k).Ok := by
  unfold lookV
  split
  · rename_i y e
    exact (hok y (List.mem_of_find?_eq_some e)).2
  · exact AVec.zero_ok
theorem epair_key {L : List AEntry} {k : Key4} (h : k ∉ L.map AEntry.key) : ∀ p ∈ L.map epair, p.1 ≠ kval k := by
  intro p hp e
  obtain ⟨y, hy, rfl⟩ := List.mem_map.1 hp
  exact h (List.mem_map.2 ⟨y, hy, kval_inj e⟩)
/-- A lookup in a store's map. -/
theorem store_look {w : World} {mb : Nat} {L : List AEntry} (h : MapAt w Try.prog 60 mb (L.map epair)) (hs : L.Pairwise Bef) {k : Key4} (hk : k.Ok) : (Instr.lookup 70 (.map (some mb)) (kval k) false).run Try.prog w = .ok (vval (lookV L k)) w := by
  obtain ⟨l, hl⟩ := key_ok hk
  by_cases hm : k ∈ L.map AEntry.key
  · obtain ⟨y, hy, rfl⟩ := List.mem_map.1 hm
    obtain ⟨j, hj⟩ := List.getElem?_of_mem hy
    rw [lookV_at hs hj rfl]
    exact h.look_some false keyed60 Try.underlying70 hl (List.mem_map.2 ⟨y, hy, rfl⟩)
  · rw [lookV_no hm]
    exact h.look_none false keyed60 Try.underlying70 (zero62 w) hl (epair_key hm)
theorem store_look2 {w : World} {mb : Nat} {L : List AEntry} (h : MapAt w Try.prog 60 mb (L.map epair)) (hs : L.Pairwise Bef) {k : Key4} (hk : k.Ok) : (Instr.lookup 70 (.map (some mb)) (kval k) true).run Try.prog w = .ok (.tuple #[vval (lookV L k), .bool (decide (k ∈ L.map AEntry.key))]) w := by
  obtain ⟨l, hl⟩ := key_ok hk
  by_cases hm : k ∈ L.map AEntry.key
  · rw [decide_eq_true hm]
    obtain ⟨y, hy, rfl⟩ := List.mem_map.1 hm
    obtain ⟨j, hj⟩ := List.getElem?_of_mem hy
    rw [lookV_at hs hj rfl]
    exact h.look_some true keyed60 Try.underlying70 hl (List.mem_map.2 ⟨y, hy, rfl⟩)
  · rw [decide_eq_false hm, lookV_no hm]
    exact h.look_none true keyed60 Try.underlying70 (zero62 w) hl (epair_key hm)
end Go.Proofs.Ytlkkdpoliafjbaa

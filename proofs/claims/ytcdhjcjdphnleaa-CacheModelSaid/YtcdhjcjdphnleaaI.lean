import Derived.Test.YtcdhjcjdphnleaaH
namespace Go.Proofs.Ytcdhjcjdphnleaa
open Go Go.WideMaps Go.RowKit

/-- The slice v holds the keys ks: nil, or a row of its own block. -/
def KeysAt (w : World) (v : Value) (ks : List Key) : Prop :=
  (v = .slice none 0 0 ∧ ks = []) ∨ ∃ g cap cur, v = .slice (some ⟨g, 0, none⟩) ks.length cap ∧ Whole w g 41 cur ∧ ks.length ≤ cap ∧ 1 ≤ cap ∧ cap ≤ maxLen ∧ cur.size = cap * 3 ∧ cur.toList.take (ks.length * 3) = flat ks

theorem KeysAt.kept {w w' : World} {v : Value} {ks : List Key} (h : KeysAt w v ks) (hb : ∀ g, v.ownBlock = some g → g < w.heap.size → w'.heap[g]? = w.heap[g]?) : KeysAt w' v ks := by
  rcases h with h | ⟨g, cap, cur, rfl, hg, h⟩
  · exact .inl h
  · exact .inr ⟨g, cap, cur, rfl, (hb g rfl hg.lt).trans hg, h⟩

/-- What an operation on a slice of keys leaves: the slice's block may be turned, or is new. -/
def Turns (w w' : World) (v v' : Value) : Prop := w.grownBy w' v.ownBlock ∧ (v'.ownBlock = v.ownBlock ∨ ∃ g, v'.ownBlock = some g ∧ w.heap.size ≤ g)

theorem splice_take (cs : Array Value) (o n : Nat) (l : List Value) (h : o + l.length ≤ cs.size) (hn : n = o + l.length) : (splice cs o l).toList.take n = cs.toList.take o ++ l := by
  have hl : (cs.toList.take o ++ l).length = n := by simp; omega
  rw [splice_toList cs o l h, ← hl, List.take_left']
  rfl

theorem grown_any {w w' : World} (h : w.grownBy w' none) (row : Option Nat) : w.grownBy w' row := h.but row

theorem insert_any (w : World) (v : Value) (vb : Nat) (ks : List Key) (k : Key) (h : KeysAt w v ks) (hbig : ks.length ≤ 100000) (hv : Whole w vb 41 k.cells.toArray) (hne : v.ownBlock ≠ some vb) :
    Calls Try.prog 41 #[v, .int .i64 0, .slice (some ⟨vb, 0, none⟩) 1 1] w fun e w' => ∃ v', e = .returned v' ∧ KeysAt w' v' (k :: ks) ∧ Turns w w' v v' := by
  rcases h with ⟨rfl, rfl⟩ | ⟨g, cap, cur, rfl, hg, hle, h1, hcap, hcur, hcs⟩
  · refine (insert_first_new w vb k hv).mono ?_
    rintro e w' ⟨G, cur', rfl, hG1, hG2, hgr, hw, hs, ht⟩
    exact ⟨_, rfl, .inr ⟨_, G, cur', rfl, hw, hG1, hG1, hG2, hs, by simpa [flat] using ht⟩, hgr, .inr ⟨_, rfl, Nat.le_refl _⟩⟩
  · have hvg : vb ≠ g := fun e => hne (by rw [e]; rfl)
    have hfl := flat_len ks
    rcases Nat.eq_zero_or_pos ks.length with h0 | hn
    · obtain rfl := List.eq_nil_of_length_eq_zero h0
      refine (insert_first_room w g cap vb cur k hg h1 hcap hcur hv).mono ?_
      rintro e w' ⟨rfl, hs, hw⟩
      refine ⟨_, rfl, .inr ⟨g, cap, _, rfl, hw, h1, h1, hcap, by rw [splice_size]; exact hcur, ?_⟩, hs.grown, .inl rfl⟩
      show List.take 3 _ = _
      rw [splice_take cur 0 3 k.cells (by rw [cells_len]; omega) rfl]
      simp [flat]
    · by_cases hroom : ks.length + 1 ≤ cap
      · refine (insert_shift w g cap vb cur ks k hg hn hroom hcap hcur hcs hv hvg).mono ?_
        rintro e w' ⟨rfl, hs, hw⟩
        refine ⟨_, rfl, .inr ⟨g, cap, _, rfl, hw, hroom, h1, hcap, by rw [splice_size, splice_size]; exact hcur, ?_⟩, undrew hs.grown, .inl rfl⟩
        have e1 : (splice (splice cur 3 (flat ks)) 0 k.cells).toList = k.cells ++ (flat ks ++ cur.toList.drop (3 + (flat ks).length)) := by
          rw [splice_toList _ _ _ (by rw [splice_size, cells_len]; omega), splice_toList _ _ _ (by rw [hfl]; omega), cells_len]
          have h3 : (cur.toList.take 3).length = 3 := by simp; omega
          simp only [List.take_zero, List.nil_append, Nat.zero_add, List.append_assoc]
          rw [List.drop_left' h3]
        have e2 : (k.cells ++ flat ks).length = (k :: ks).length * 3 := by rw [List.length_append, hfl, cells_len, List.length_cons]; omega
        rw [e1, ← List.append_assoc, ← e2, List.take_left']
        · simp [flat]
        · rfl
      · refine (insert_grow w g cap vb cur ks k hg hn hle (by omega) hbig hcs hv).mono ?_
        rintro e w' ⟨G, cur', rfl, hG1, hG2, hgr, hw, hs⟩
        refine ⟨_, rfl, .inr ⟨_, G, _, rfl, hw, hG1, by omega, hG2, by rw [splice_size, splice_size]; exact hs, ?_⟩, grown_any hgr _, .inr ⟨_, rfl, Nat.le_refl _⟩⟩
        rw [splice_take _ _ _ _ (by rw [splice_size, hfl]; omega) (by rw [hfl]; simp only [List.length_cons]; omega), splice_take _ _ 3 _ (by rw [cells_len]; omega) rfl]
        simp [flat]

end Go.Proofs.Ytcdhjcjdphnleaa

import Derived.Test.YtlkkdpoliafjbaaG
/-
  slices.Insert of one key into a slice of keys of own memory.
-/
namespace Go.Proofs.Ytlkkdpoliafjbaa
open Go Go.WideMaps Go.RowKit

theorem run_tail_all (w : World) (b n : Nat) : (Instr.slice 71 (.slice (some ⟨b, 0, none⟩) n n) (some (.int .i64 (n : Int))) none none).run Try.prog w = .ok (.slice (some ⟨b, 0, none⟩) 0 0) w := by
  rw [run_slice_l w 71 (some ⟨b, 0, none⟩) n n und71 .i64 (n : Int) (by omega) (by omega), elem71, Try.sizeOf60]
  simp [Result.andThen, sliced]
theorem whole_row {w : World} {g : Nat} {k : Key4} (hv : Whole w g 60 k.cells.toArray) : ∀ j u, k.cells[j]? = some u → w.cell? ((⟨g, 0, none⟩ : Addr).add j) = some u := fun j u hu => by
  rw [Addr.add_mid, hv.cell, Nat.zero_add]
  simpa using hu
set_option maxRecDepth 100000 in
set_option maxHeartbeats 4000000 in
theorem insert_end (w : World) (base vb : Nat) (v : Value) (ks : List Key4) (k : Key4) (h : w.ownsRow base 60 4 v ks.length (flat ks)) (hbig : ks.length ≤ 100000) (hv : Whole w vb 60 k.cells.toArray) (hb : base ≤ w.heap.size) :
    Calls Try.prog 46 #[v, .int .i64 (ks.length : Int), .slice (some ⟨vb, 0, none⟩) 1 1] w fun e w' => ∃ v', e = .returned v' ∧ w'.ownsRow base 60 4 v' (ks.length + 1) (flat ks ++ k.cells) ∧ w.grownBy w' v.ownBlock := by
  obtain ⟨i0, z0, hi0, hz0, hz1, hz2, hzs⟩ := infoOf info60
  have HO := Lib.hid h
  have HV := Lib.hid hv
  have HBS := Lib.hid hb
  obtain ⟨n, hn⟩ : ∃ n, n = ks.length := ⟨_, rfl⟩
  have HL := Lib.hid hn
  have hq : ∃ a c, v = .slice a n c ∧ n ≤ c ∧ ∃ z, ∀ W, (Instr.slice 71 (.slice a n c) (some (.int .i64 (n : Int))) none none).run Try.prog W = .ok z W := by
    rcases h.2 with ⟨rfl, h0⟩ | ⟨g, cap, cur, rfl, _, _, hnc, _⟩
    · rw [← hn] at h0
      subst h0
      exact ⟨none, 0, rfl, Nat.le_refl _, .slice none 0 0, fun W => by
        rw [run_slice_l W 71 none 0 0 und71 .i64 ((0 : Nat) : Int) (by omega) (by omega), elem71, Try.sizeOf60]
        simp [Result.andThen, sliced]⟩
    · rw [← hn] at hnc
      rcases Nat.lt_or_ge n cap with hlt | hge
      · exact ⟨_, cap, by rw [hn], hnc, _, fun W => run_tail W g 0 n cap n (n : Int) rfl (Nat.le_refl _) hlt⟩
      · obtain rfl : n = cap := by omega
        exact ⟨_, n, by rw [hn], hnc, _, fun W => run_tail_all W g n⟩
  obtain ⟨a, c, rfl, hnc, z, q1⟩ := hq
  rw [← hn] at hbig HO ⊢
  clear h hv hb hn
  have hz : ((n : Int) == (n : Int)) = true := by simp
  go_enter Try.func46, Try.ntmps46
  go_wp2_with (at_builtin; go_must (refine wpList_append_own _ rfl _ _ 71 rfl base 60 i0 z0 4 32 Try.underlying71 hi0 hz0 hz1 hz2 hzs (by decide) _ _ _ rfl HO.out ⟨vb, 0, none⟩ 1 1 k.cells rfl rfl (whole_row HV.out) ?c2 ?c3 ?c4 ?c5 ?_))
  case c2 => exact list_one k
  case c3 => unfold maxLen; omega
  case c4 => omega
  case c5 => exact HBS.out
  intro v' w9 hown hgrow hnil
  have HO9 := Lib.hid (And.intro hown hgrow)
  clear hown hgrow hnil
  go_wp2
  go_ret
  exact ⟨_, rfl, HO9.out.1, HO9.out.2⟩
theorem splice_take (cs : Array Value) (o n : Nat) (l : List Value) (h : o + l.length ≤ cs.size) (hn : n = o + l.length) : (splice cs o l).toList.take n = cs.toList.take o ++ l := by
  have hl : (cs.toList.take o ++ l).length = n := by simp; omega
  rw [splice_toList cs o l h, ← hl, List.take_left']
  rfl
theorem take_keep {cs : Array Value} {o n : Nat} {l : List Value} (h : o + l.length ≤ cs.size) (hn : n ≤ o) : (splice cs o l).toList.take n = cs.toList.take n := by
  rw [splice_toList cs o l h, List.append_assoc, List.take_append_of_le_length (by simp; omega), List.take_take, Nat.min_eq_left hn]
theorem grown_any {w w' : World} (h : w.grownBy w' none) (row : Option Nat) : w.grownBy w' row := h.but row
/-- A key put at place i. -/
theorem insertK_any (w : World) (base vb i : Nat) (v : Value) (ks : List Key4) (k : Key4) (h : w.ownsRow base 60 4 v ks.length (flat ks)) (hi : i ≤ ks.length) (hbig : ks.length ≤ 100000) (hv : Whole w vb 60 k.cells.toArray) (hne : v.ownBlock ≠ some vb) (hb : base ≤ w.heap.size) :
    Calls Try.prog 46 #[v, .int .i64 (i : Int), .slice (some ⟨vb, 0, none⟩) 1 1] w fun e w' => ∃ v', e = .returned v' ∧ w'.ownsRow base 60 4 v' (ks.length + 1) (flat (ks.take i ++ k :: ks.drop i)) ∧ w.grownBy w' v.ownBlock := by
  by_cases hin : i = ks.length
  · subst hin
    refine (insert_end w base vb v ks k h hbig hv hb).mono ?_
    rintro e w' ⟨v', rfl, h1, h2⟩
    refine ⟨v', rfl, ?_, h2⟩
    rw [List.take_length, List.drop_length, flat_app]
    simpa [flat] using h1
  · have hlt : i < ks.length := by omega
    have hd : (flat (ks.drop i)).length = (ks.length - i) * 4 := by rw [flat_len, List.length_drop]
    have ht : (flat (ks.take i)).length = i * 4 := by rw [flat_len, List.length_take, Nat.min_eq_left hi]
    have hfl : flat (ks.take i ++ k :: ks.drop i) = (flat (ks.take i) ++ k.cells) ++ flat (ks.drop i) := by simp [flat]
    have hlen : (flat (ks.take i ++ k :: ks.drop i)).length = (ks.length + 1) * 4 := by rw [flat_len]; simp; omega
    obtain ⟨g, cap, cur, rfl, hg, hw, hnc, hcm, hcs, hct⟩ := own_open h (by omega)
    have hvg : vb ≠ g := fun e => hne (by rw [e]; rfl)
    have hcti : cur.toList.take (i * 4) = flat (ks.take i) := by
      have e : flat ks = flat (ks.take i) ++ flat (ks.drop i) := by rw [← flat_app, List.take_append_drop]
      have h1 : (cur.toList.take (ks.length * 4)).take (i * 4) = cur.toList.take (i * 4) := by rw [List.take_take, Nat.min_eq_left (by omega)]
      rw [← h1, hct, e, ← ht, List.take_left']
      rfl
    by_cases hroom : ks.length + 1 ≤ cap
    · refine (insert_shift w g cap vb i cur ks k hw hlt hroom hcm hcs hct hv hvg).mono ?_
      rintro e w' ⟨rfl, hs, hW⟩
      refine ⟨_, rfl, ⟨hlen, .inr ⟨g, cap, _, rfl, hg, hW, hroom, hcm, by rw [splice_size, splice_size]; exact hcs, ?_⟩⟩, undrew hs.grown⟩
      have e1 : (splice cur ((i + 1) * 4) (flat (ks.drop i))).toList.take ((ks.length + 1) * 4) = cur.toList.take ((i + 1) * 4) ++ flat (ks.drop i) := splice_take _ _ _ _ (by rw [hd]; omega) (by rw [hd]; omega)
      have hsz : (splice cur ((i + 1) * 4) (flat (ks.drop i))).size = cap * 4 := by rw [splice_size]; exact hcs
      rw [splice_toList _ _ _ (by rw [hsz, key_len]; omega), hfl, key_len]
      have e2 : (splice cur ((i + 1) * 4) (flat (ks.drop i))).toList.take (i * 4) = flat (ks.take i) := by rw [take_keep (by rw [hd]; omega) (by omega)]; exact hcti
      rw [e2, List.take_append, List.take_of_length_le (by rw [List.length_append, ht, key_len]; omega)]
      congr 1
      rw [List.length_append, ht, key_len, show i * 4 + 4 = (i + 1) * 4 by omega]
      have e3 : ((splice cur ((i + 1) * 4) (flat (ks.drop i))).toList.drop ((i + 1) * 4)).take ((ks.length + 1) * 4 - (i + 1) * 4) = ((splice cur ((i + 1) * 4) (flat (ks.drop i))).toList.take ((ks.length + 1) * 4)).drop ((i + 1) * 4) := by rw [List.drop_take]
      rw [e3, e1, List.drop_left']
      rw [List.length_take, Array.length_toList, hcs]
      omega
    · refine (insert_grow w g cap vb i cur ks k hw hlt hnc (by omega) hbig hct hv).mono ?_
      rintro e w' ⟨G, cur', rfl, hG1, hG2, hgr, hW, hs, hct'⟩
      refine ⟨_, rfl, ⟨hlen, .inr ⟨_, G, _, rfl, hb, hW, hG1, hG2, by rw [splice_size, splice_size]; exact hs, ?_⟩⟩, grown_any hgr _⟩
      rw [splice_take _ _ _ _ (by rw [splice_size, hd]; omega) (by rw [hd]; omega), splice_take _ _ _ _ (by rw [key_len]; omega) (by rw [key_len]; omega), hct', hfl]
end Go.Proofs.Ytlkkdpoliafjbaa

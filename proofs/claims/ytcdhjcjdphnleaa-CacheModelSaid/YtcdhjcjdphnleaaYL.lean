import Derived.Test.YtcdhjcjdphnleaaYK
import Derived.Test.YtcdhjcjdphnleaaYC
import Derived.Test.YtcdhjcjdphnleaaZW
import Derived.Laws.StructEq
/-
  CacheLast: the plain law: what is found is what was inserted last.
-/
namespace Go.Proofs.Ytcdhjcjdphnleaa
open Go Go.WideMaps Go.RowKit

/-- Operation n had this key, and its insertion no error. -/
def Hit (l : List Opn) (bs : List Bool) (n : Nat) (k : Key) : Prop := bs[n]? = some true ∧ ∃ o, l[n]? = some o ∧ o.key = k
structure LastOk (l : List Opn) (bs : List Bool) (m : Nat) (s : St) : Prop where
  got : ∀ k d, s.get k = some d → ∃ n o, n < m ∧ Hit l bs n k ∧ l[n]? = some o ∧ d = o.dec ∧ ∀ n', n < n' → n' < m → ¬ Hit l bs n' k
  rest : ∀ n, m ≤ n → bs[n]? ≠ some true

theorem get_getL (s : St) (k : Key) : s.get k = getL s.D k := rfl
theorem getL_mem {D : List (Key × Dec)} {k : Key} {d : Dec} (h : getL D k = some d) : (k, d) ∈ D := get_mem (s := ⟨0, 0, D, 0, 0, 0, 0⟩) h
theorem get_find {s : St} (k k' : Key) : (s.find k').get k = s.get k := by
  unfold St.find
  split
  · rfl
  · rename_i d hg
    show getL ((k', d) :: Go.Proofs.Ytcdhjcjdphnleaa.rest s.D k') k = getL s.D k
    rw [getL_cons]
    by_cases h : k' = k
    · subst h
      rw [if_pos rfl]
      exact hg.symm
    · rw [if_neg h]
      exact getL_rest s.D (Ne.symm h)
theorem get_put {s : St} (k k' : Key) (d : Dec) : (s.put k' d).get k = if k' = k then some d else s.get k := by
  show getL ((k', d) :: Go.Proofs.Ytcdhjcjdphnleaa.rest s.D k') k = _
  rw [getL_cons]
  by_cases h : k' = k
  · rw [if_pos h, if_pos h]
  · rw [if_neg h, if_neg h]
    exact getL_rest s.D (Ne.symm h)
theorem getL_dropLast : ∀ (D : List (Key × Dec)) (k : Key) (d : Dec), getL D.dropLast k = some d → getL D k = some d
  | [], _, _, h => h
  | [p], _, _, h => by cases h
  | p :: q :: D, k, d, h => by
    rw [List.dropLast_cons_cons, getL_cons] at h
    rw [getL_cons]
    split at h
    · rename_i h1
      rw [if_pos h1]
      exact h
    · rename_i h1
      rw [if_neg h1]
      exact getL_dropLast (q :: D) k d h
theorem get_insert {s : St} (k k' : Key) (d' d : Dec) (hst : ¬ d'.seq < s.seq) (h : (s.insert k' d').get k = some d) : k' = k ∧ d = d' ∨ k' ≠ k ∧ s.get k = some d := by
  unfold St.insert at h
  rw [if_neg hst] at h
  by_cases hk : k' = k
  · refine .inl ⟨hk, ?_⟩
    split at h
    · rw [get_put, if_pos hk] at h; cases h; rfl
    · split at h
      · rw [get_put, if_pos hk] at h; cases h; rfl
      · rw [get_put, if_pos hk] at h; cases h; rfl
  · refine .inr ⟨hk, ?_⟩
    split at h
    · rw [get_put, if_neg hk] at h; exact h
    · split at h
      · rw [get_put, if_neg hk] at h
        exact getL_dropLast s.D k d h
      · rw [get_put, if_neg hk] at h; exact h
theorem get_insert_self {s : St} (k : Key) (d : Dec) (hst : ¬ d.seq < s.seq) : (s.insert k d).get k = some d := by
  unfold St.insert
  rw [if_neg hst]
  split
  · rw [get_put, if_pos rfl]
  · split
    · rw [get_put, if_pos rfl]
    · rw [get_put, if_pos rfl]

theorem last_fresh (l : List Opn) (n : Int) (N : Nat) : LastOk l (List.replicate N false) 0 (fresh n) :=
  ⟨fun k d h => (by cases h), fun i _ h => (by
    rw [List.getElem?_replicate] at h
    split at h <;> cases h)⟩
/-- The facts about the past stay where nothing is found that was not before. -/
theorem last_keep {l : List Opn} {bs : List Bool} {m : Nat} {s s' : St} (h : LastOk l bs m s) (hg : ∀ k d, s'.get k = some d → s.get k = some d) : LastOk l bs (m + 1) s' := by
  refine ⟨fun k d hk => ?_, fun n hn => h.rest n (by omega)⟩
  obtain ⟨n, o, h1, h2, h3, h4, h5⟩ := h.got k d (hg k d hk)
  refine ⟨n, o, by omega, h2, h3, h4, fun n' h6 h7 hh => ?_⟩
  by_cases e : n' < m
  · exact h5 n' h6 e hh
  · exact h.rest n' (by omega) hh.1
theorem last_play {l : List Opn} {bs : List Bool} {m : Nat} {s : St} (h : LastOk l bs m s) {y : Opn} (hk : ¬ y.kind % 3 = 1) : LastOk l bs (m + 1) (s.play y) := by
  refine last_keep h fun k d hg => ?_
  unfold St.play at hg
  split at hg
  · rwa [get_find] at hg
  · unfold St.resets at hg
    split at hg
    · exact hg
    · cases hg
theorem hit_set {l : List Opn} {bs : List Bool} {m n : Nat} {b : Bool} {k : Key} (hn : n ≠ m) : Hit l (bs.set m b) n k ↔ Hit l bs n k := by
  unfold Hit
  rw [List.getElem?_set_ne (Ne.symm hn)]
theorem last_insert {l : List Opn} {bs : List Bool} {m : Nat} {s : St} (h : LastOk l bs m s) {y : Opn} (hy : l[m]? = some y) (hlen : bs.length = l.length) :
    LastOk l (bs.set m (decide (s.insErr y.dec = 0))) (m + 1) (s.insert y.key y.dec) := by
  have hm : m < l.length := (List.getElem?_eq_some_iff.1 hy).1
  by_cases hst : y.dec.seq < s.seq
  · have e1 : s.insErr y.dec = 24 := if_pos hst
    have e2 : s.insert y.key y.dec = s := if_pos hst
    have hf : bs.set m (decide (s.insErr y.dec = 0)) = bs := by
      rw [e1]
      have hb : bs[m] = false := by
        cases hx : bs[m]'(by omega) with
        | false => rfl
        | true => exact absurd (by rw [List.getElem?_eq_getElem (by omega), hx]) (h.rest m (Nat.le_refl _))
      have : decide ((24 : Int) = 0) = bs[m]'(by omega) := by rw [hb]; rfl
      rw [this, List.set_getElem_self]
    rw [hf, e2]
    exact last_keep h fun _ _ => id
  · have e1 : s.insErr y.dec = 0 := if_neg hst
    have hb : decide (s.insErr y.dec = 0) = true := by rw [e1]; rfl
    rw [hb]
    refine ⟨fun k d hk => ?_, fun n hn => ?_⟩
    · rcases get_insert k y.key y.dec d hst hk with ⟨rfl, rfl⟩ | ⟨hne, hg⟩
      · exact ⟨m, y, by omega, ⟨List.getElem?_set_self (by omega), y, hy, rfl⟩, hy, rfl, fun n' h6 h7 => by omega⟩
      · obtain ⟨n, o, h1, h2, h3, h4, h5⟩ := h.got k d hg
        refine ⟨n, o, by omega, (hit_set (by omega)).2 h2, h3, h4, fun n' h6 h7 hh => ?_⟩
        by_cases e : n' = m
        · subst e
          obtain ⟨_, o', ho', hk'⟩ := hh
          rw [hy] at ho'
          cases ho'
          exact hne hk'
        · exact h5 n' h6 (by omega) ((hit_set e).1 hh)
    · rw [List.getElem?_set_ne (by omega)]
      exact h.rest n (by omega)
end Go.Proofs.Ytcdhjcjdphnleaa

import Derived.Test.YtcdhjcjdphnleaaP8
/-
  CacheKeeps: the plain law: which keys stay.
-/
namespace Go.Proofs.Ytcdhjcjdphnleaa
open Go Go.WideMaps Go.RowKit

def kI (i : Int) : Key := ⟨i, 2 * i, 3 * i⟩
def dI (i : Int) : Dec := ⟨i, 0, 0, false, 0⟩
def kM : Key := ⟨-1, -1, -1⟩
def dM : Dec := ⟨7, 0, 0, false, 0⟩
/-- The c keys below m, the greatest first. -/
def desc (m : Nat) : Nat → List (Key × Dec)
  | 0 => []
  | c + 1 => (kI ((m : Int) - 1), dI ((m : Int) - 1)) :: desc (m - 1) c

theorem desc_length : ∀ (m c : Nat), (desc m c).length = c
  | _, 0 => rfl
  | m, c + 1 => by rw [desc, List.length_cons, desc_length]
theorem desc_dropLast : ∀ (m c : Nat), (desc m (c + 1)).dropLast = desc m c
  | m, 0 => rfl
  | m, c + 1 => by
    have h := desc_dropLast (m - 1) c
    rw [desc]
    conv => rhs; rw [desc]
    rw [← h]
    rw [show desc (m - 1) (c + 1) = (kI (((m - 1 : Nat) : Int) - 1), dI (((m - 1 : Nat) : Int) - 1)) :: desc (m - 1 - 1) c from rfl]
    rfl
theorem kI_inj {i j : Int} (h : kI i = kI j) : i = j := by
  have := congrArg Key.a h
  exact this
theorem kI_ne (i : Int) (h : 0 ≤ i) : kI i ≠ kM := fun e => by
  have : i = -1 := congrArg Key.a e
  omega

def getL (D : List (Key × Dec)) (k : Key) : Option Dec := (D.find? fun p => p.1 == k).map Prod.snd
theorem getL_cons (p : Key × Dec) (D : List (Key × Dec)) (k : Key) : getL (p :: D) k = if p.1 = k then some p.2 else getL D k := by
  unfold getL
  by_cases h : p.1 = k <;> simp [h]
theorem getL_rest : ∀ (D : List (Key × Dec)) {k k0 : Key}, k ≠ k0 → getL (rest D k0) k = getL D k
  | [], _, _, _ => rfl
  | p :: D, k, k0, h => by
    have ih := getL_rest D h
    unfold rest at ih ⊢
    rw [List.filter_cons]
    by_cases h1 : p.1 = k0
    · have h2 : p.1 ≠ k := fun e => h (e ▸ h1)
      simp only [h1, beq_self_eq_true, Bool.not_true, Bool.false_eq_true, if_false]
      rw [ih, getL_cons, if_neg h2]
    · have h3 : (!(p.1 == k0)) = true := by simpa using h1
      rw [if_pos h3, getL_cons, getL_cons, ih]
theorem getL_desc : ∀ (m c i : Nat), c ≤ m → getL (desc m c) (kI i) = if m ≤ i + c ∧ i < m then some (dI i) else none
  | m, 0, i, _ => by
    rw [if_neg (by omega)]
    rfl
  | m, c + 1, i, h => by
    rw [desc, getL_cons]
    by_cases e : i + 1 = m
    · have : (m : Int) - 1 = (i : Int) := by omega
      rw [this, if_pos rfl, if_pos (by omega)]
    · have hne : kI ((m : Int) - 1) ≠ kI i := fun he => by have := kI_inj he; omega
      rw [if_neg hne, getL_desc (m - 1) c i (by omega)]
      by_cases h1 : m - 1 ≤ i + c ∧ i < m - 1
      · rw [if_pos h1, if_pos (by omega)]
      · rw [if_neg h1, if_neg (by omega)]
theorem desc_keys : ∀ (m c : Nat), c ≤ m → ∀ p ∈ desc m c, ∃ i : Nat, i < m ∧ p.1 = kI i
  | m, 0, _, p, hp => by cases hp
  | m, c + 1, h, p, hp => by
    rw [desc] at hp
    rcases List.mem_cons.1 hp with rfl | hp
    · exact ⟨m - 1, by omega, by show kI _ = kI _; congr 1; omega⟩
    · obtain ⟨i, h1, h2⟩ := desc_keys (m - 1) c (by omega) p hp
      exact ⟨i, by omega, h2⟩

/-- What holds ahead of insertion m: the size is p. -/
structure KI (p m : Nat) (s : St) : Prop where
  get : s.get kM = some dM
  rest : rest s.D kM = desc m (min m (p - 1))
  size : s.size = p
  seq : s.seq = 0
  cnt : s.Cnt (2 * m + 1)

theorem KI.hit {p m : Nat} {s : St} (h : KI p m s) : s.find kM = s.hit kM dM := by
  unfold St.find
  rw [h.get]

theorem ki_start (p : Nat) (hp : 2 ≤ p) : KI p 0 ((fresh p).insert kM dM) := by
  have e : (fresh p).insert kM dM = ⟨p, 0, [(kM, dM)], 0, 0, 0, 0⟩ := by
    unfold St.insert
    rw [if_neg (by show ¬ (0 : Int) < 0; omega)]
    show (if (fresh p).full = true then ((fresh p).evict.put kM dM) else (fresh p).put kM dM) = _
    rw [if_neg]
    · rfl
    · intro h
      have : (p : Int) ≤ 0 := of_decide_eq_true h
      omega
  rw [e]
  refine ⟨rfl, ?_, rfl, rfl, ?_⟩
  · rw [Nat.zero_min]
    rfl
  · exact ⟨Int.le_refl _, Int.le_refl _, Int.le_refl _, Int.le_refl _, by show (0 : Int) ≤ _; omega, by show (0 : Int) ≤ _; omega, by show (0 : Int) ≤ _; omega, by show (0 : Int) ≤ _; omega⟩

theorem ki_next {p m : Nat} {s : St} (hp : 2 ≤ p) (h : KI p m s) : KI p (m + 1) ((s.find kM).insert (kI m) (dI m)) := by
  have hr := h.rest
  obtain ⟨c, hc⟩ : ∃ c, c = min m (p - 1) := ⟨_, rfl⟩
  rw [← hc] at hr
  have hcm : c ≤ m := by omega
  rw [h.hit]
  have hD : (s.hit kM dM).D = (kM, dM) :: desc m c := by show (kM, dM) :: Go.Proofs.Ytcdhjcjdphnleaa.rest s.D kM = _; rw [hr]
  have hno : ∀ q ∈ desc m c, q.1 ≠ kI m := fun q hq e => by
    obtain ⟨i, hi, he⟩ := desc_keys m c hcm q hq
    rw [he] at e
    have := kI_inj e
    omega
  have hnM : kM ≠ kI m := fun e => kI_ne m (by omega) e.symm
  have hnone : (s.hit kM dM).get (kI m) = none := by
    show getL (s.hit kM dM).D (kI m) = none
    rw [hD, getL_cons, if_neg hnM, getL_desc m c m hcm, if_neg (by omega)]
  have hcnt1 : (s.hit kM dM).Cnt (2 * (m : Int) + 1 + 1) := by
    have := cnt_find h.cnt kM
    rwa [h.hit] at this
  have hcnt : ((s.hit kM dM).insert (kI m) (dI m)).Cnt (2 * ((m + 1 : Nat) : Int) + 1) := (cnt_insert hcnt1 (kI m) (dI m)).mono (by omega)
  have hsz : (s.hit kM dM).size = p := h.size
  have hsq : (s.hit kM dM).seq = 0 := h.seq
  have hlen : (s.hit kM dM).D.length = c + 1 := by rw [hD, List.length_cons, desc_length]
  have hins : ((s.hit kM dM).insert (kI m) (dI m)) = if (s.hit kM dM).full then (s.hit kM dM).evict.put (kI m) (dI m) else (s.hit kM dM).put (kI m) (dI m) := by
    unfold St.insert
    rw [if_neg (by rw [hsq]; show ¬ (0 : Int) < 0; omega), hnone]
  have key : ∀ (D : List (Key × Dec)) (b : Nat), D = (kM, dM) :: desc m b → b ≤ m → b + 1 = min (m + 1) (p - 1) → getL ((kI m, dI m) :: Go.Proofs.Ytcdhjcjdphnleaa.rest D (kI m)) kM = some dM ∧ Go.Proofs.Ytcdhjcjdphnleaa.rest ((kI m, dI m) :: Go.Proofs.Ytcdhjcjdphnleaa.rest D (kI m)) kM = desc (m + 1) (min (m + 1) (p - 1)) := by
    intro D b hDb hbm hb
    have hno' : ∀ q ∈ D, q.1 ≠ kI m := fun q hq e => by
      rw [hDb] at hq
      rcases List.mem_cons.1 hq with rfl | hq
      · exact hnM e
      · obtain ⟨i, hi, he⟩ := desc_keys m b hbm q hq
        rw [he] at e
        have := kI_inj e
        omega
    rw [rest_none hno', hDb]
    refine ⟨?_, ?_⟩
    · rw [getL_cons, if_neg (Ne.symm hnM), getL_cons, if_pos rfl]
    · rw [← hb]
      have h1 : ∀ q ∈ desc m b, q.1 ≠ kM := fun q hq e => by
        obtain ⟨i, hi, he⟩ := desc_keys m b hbm q hq
        exact kI_ne i (by omega) (he ▸ e)
      have h2 : (!(kI (m : Int) == kM)) = true := by simpa using Ne.symm hnM
      have h3 : (!(kM == kM)) = false := by simp
      have hrd : List.filter (fun q => !(q.1 == kM)) (desc m b) = desc m b := rest_none h1
      unfold Go.Proofs.Ytcdhjcjdphnleaa.rest
      rw [List.filter_cons, if_pos h2, List.filter_cons]
      simp only [h3, Bool.false_eq_true, if_false]
      rw [hrd]
      show _ = (kI (((m + 1 : Nat) : Int) - 1), dI (((m + 1 : Nat) : Int) - 1)) :: desc (m + 1 - 1) b
      have e : ((m + 1 : Nat) : Int) - 1 = (m : Int) := by omega
      rw [e, Nat.add_sub_cancel]
  by_cases hf : (s.hit kM dM).full = true
  · have hf' : (p : Int) ≤ ((c + 1 : Nat) : Int) := by
      have := of_decide_eq_true hf
      rwa [hsz, hlen] at this
    rw [hins, if_pos hf] at hcnt ⊢
    obtain ⟨b, rfl⟩ : ∃ b, c = b + 1 := ⟨c - 1, by omega⟩
    have hdl : (s.hit kM dM).D.dropLast = (kM, dM) :: desc m b := by
      rw [hD, show desc m (b + 1) = (kI ((m : Int) - 1), dI ((m : Int) - 1)) :: desc (m - 1) b from rfl]
      rw [List.dropLast_cons_of_ne_nil (by simp), show (kI ((m : Int) - 1), dI ((m : Int) - 1)) :: desc (m - 1) b = desc m (b + 1) from rfl, desc_dropLast]
    obtain ⟨h1, h2⟩ := key _ b hdl (by omega) (by omega)
    exact ⟨h1, h2, hsz, hsq, hcnt⟩
  · have hf' : ¬ (p : Int) ≤ ((c + 1 : Nat) : Int) := by
      intro h
      refine hf (decide_eq_true ?_)
      rw [hsz, hlen]
      exact h
    rw [hins, if_neg hf] at hcnt ⊢
    obtain ⟨h1, h2⟩ := key _ c hD hcm (by omega)
    exact ⟨h1, h2, hsz, hsq, hcnt⟩

theorem ki_get {p m : Nat} {s : St} (h : KI p m s) (i : Nat) : s.get (kI i) = if m ≤ i + min m (p - 1) ∧ i < m then some (dI i) else none := by
  show getL s.D (kI i) = _
  rw [← getL_rest s.D (kI_ne i (by omega)), h.rest]
  exact getL_desc m _ i (by omega)
theorem ki_len {p m : Nat} {s : St} (h : KI p m s) (hok : s.Ok) : s.D.length = min m (p - 1) + 1 := by
  have h1 := (rest_perm hok.nodup (get_mem h.get)).length_eq
  rw [h1, List.length_cons, h.rest, desc_length]
theorem ki_insErr {p m : Nat} {s : St} (h : KI p m s) (i : Int) : (s.find kM).insErr (dI i) = 0 := by
  unfold St.insErr
  rw [h.hit, if_neg]
  show ¬ (0 : Int) < s.seq
  rw [h.seq]
  omega
end Go.Proofs.Ytcdhjcjdphnleaa

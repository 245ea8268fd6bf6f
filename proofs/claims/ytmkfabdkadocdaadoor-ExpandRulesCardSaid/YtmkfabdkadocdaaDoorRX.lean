import Derived.Test.YtmkfabdkadocdaaDoorPX
import Derived.Test.YtmkfabdkadocdaaDoorT11
import Derived.Test.YtmkfabdkadocdaaDoorN7
import Derived.Test.YtmkfabdkadocdaaDoorN8
import Derived.Test.YtmkfabdkadocdaaDoorT10
/-
  The reference's add, in plain words: an entry put into a canonical list.
-/
namespace Go.Proofs.YtmkfabdkadocdaaDoor
open Go Go.WideMaps Go.RowKit Go.Sort

/-- Whether the key of x is less than that of y. -/
def befB (x y : AEntry) : Bool := ltOf beforeI x y
def joinE (y x : AEntry) : AEntry := mkE y.key (y.vecs.or x.vecs)
/-- One round of the loop. -/
def addStep (x : AEntry) (s : List AEntry × Bool) (y : AEntry) : List AEntry × Bool :=
  let t := if !s.2 && befB x y then (s.1 ++ [x], true) else s
  if !befB x y && !befB y x then (t.1 ++ [joinE y x], true) else (t.1 ++ [y], t.2)
def addFold (x : AEntry) (l : List AEntry) : List AEntry × Bool := l.foldl (addStep x) ([], false)
def addF (x : AEntry) (l : List AEntry) : List AEntry := if (addFold x l).2 then (addFold x l).1 else (addFold x l).1 ++ [x]
theorem addFold_next {x : AEntry} {l : List AEntry} {i : Nat} {y : AEntry} (h : l[i]? = some y) : addFold x (l.take (i + 1)) = addStep x (addFold x (l.take i)) y := by
  unfold addFold
  rw [take_snoc h, List.foldl_append]
  rfl
theorem addStep_len (x : AEntry) (s : List AEntry × Bool) (y : AEntry) : (addStep x s y).1.length ≤ s.1.length + 2 := by
  unfold addStep
  split <;> split <;> simp <;> omega
theorem addFold_len (x : AEntry) (l : List AEntry) : (addFold x l).1.length ≤ 2 * l.length := by
  have : ∀ (l : List AEntry) (s : List AEntry × Bool), (l.foldl (addStep x) s).1.length ≤ s.1.length + 2 * l.length := by
    intro l
    induction l with
    | nil => intro s; simp
    | cons y l ih =>
      intro s
      have h1 := ih (addStep x s y)
      have h2 := addStep_len x s y
      rw [List.foldl_cons, List.length_cons]
      omega
  have := this l ([], false)
  simpa [addFold] using this

/-- The same, written from the list's head. -/
def ins (x : AEntry) : List AEntry → List AEntry
  | [] => [x]
  | y :: l => if befB x y then x :: y :: l else if befB y x then y :: ins x l else joinE y x :: l
theorem befB_iff {x y : AEntry} : befB x y = true ↔ Bef x y := Iff.rfl
theorem befB_asymm {x y : AEntry} (h : befB x y = true) : befB y x = false := by
  cases e : befB y x with
  | false => rfl
  | true => exact absurd (Bef.trans _ _ _ (befB_iff.1 h) (befB_iff.1 e)) (Bef.irrefl x)
theorem befB_key {x x' y y' : AEntry} (h1 : x.key = x'.key) (h2 : y.key = y'.key) : befB x y = befB x' y' := by
  simp only [AEntry.key, Key4.mk.injEq] at h1 h2
  unfold befB
  rw [lt_before, lt_before, h1.1, h1.2.1, h1.2.2.1, h1.2.2.2, h2.1, h2.2.1, h2.2.2.1, h2.2.2.2]
theorem key_of_not {x y : AEntry} (h1 : befB x y = false) (h2 : befB y x = false) : x.key = y.key := by
  apply Classical.byContradiction
  intro hne
  have h := bef_total hne h2
  rw [← befB_iff] at h
  rw [h] at h1
  cases h1
theorem not_of_key {x y : AEntry} (h : x.key = y.key) : befB x y = false := by
  rw [befB_key h (rfl : y.key = y.key)]
  cases e : befB y y with
  | false => rfl
  | true => exact absurd (befB_iff.1 e) (Bef.irrefl y)
theorem fold_done {x : AEntry} : ∀ (l : List AEntry) (o : List AEntry), (∀ y ∈ l, befB x y = true) → l.foldl (addStep x) (o, true) = (o ++ l, true)
  | [], o, _ => by simp
  | y :: l, o, h => by
    rw [List.foldl_cons]
    have hy := h y (by simp)
    have e : addStep x (o, true) y = (o ++ [y], true) := by unfold addStep; simp [hy]
    rw [e, fold_done l _ fun z hz => h z (by simp [hz])]
    simp
theorem fold_ins {x : AEntry} : ∀ (l : List AEntry) (o : List AEntry), l.Pairwise Bef → (if (l.foldl (addStep x) (o, false)).2 then (l.foldl (addStep x) (o, false)).1 else (l.foldl (addStep x) (o, false)).1 ++ [x]) = o ++ ins x l
  | [], o, _ => by simp [ins]
  | y :: l, o, h => by
    have h' := List.pairwise_cons.1 h
    rw [List.foldl_cons, ins]
    cases h1 : befB x y with
    | true =>
      have e : addStep x (o, false) y = (o ++ [x] ++ [y], true) := by unfold addStep; simp [h1]
      rw [e, fold_done l _ fun z hz => befB_iff.2 (Bef.trans _ _ _ (befB_iff.1 h1) (h'.1 z hz))]
      simp
    | false =>
      cases h2 : befB y x with
      | true =>
        have e : addStep x (o, false) y = (o ++ [y], false) := by unfold addStep; simp [h1, h2]
        rw [e, fold_ins l _ h'.2]
        simp
      | false =>
        have hk := key_of_not h1 h2
        have e : addStep x (o, false) y = (o ++ [joinE y x], true) := by unfold addStep; simp [h1, h2]
        rw [e, fold_done l _ fun z hz => by rw [befB_key hk (rfl : z.key = z.key)]; exact befB_iff.2 (h'.1 z hz)]
        simp
theorem addF_ins {x : AEntry} {l : List AEntry} (h : l.Pairwise Bef) : addF x l = ins x l := by
  have := fold_ins (x := x) l [] h
  rw [List.nil_append] at this
  exact this
theorem ins_key {x z : AEntry} : ∀ {l : List AEntry}, z ∈ ins x l → z.key = x.key ∨ z ∈ l
  | [], h => by simp [ins] at h; exact .inl (by rw [h])
  | y :: l, h => by
    rw [ins] at h
    split at h
    · rcases List.mem_cons.1 h with rfl | h
      · exact .inl rfl
      · exact .inr h
    · split at h
      · rcases List.mem_cons.1 h with rfl | h
        · exact .inr (by simp)
        · rcases ins_key h with e | e
          · exact .inl e
          · exact .inr (by simp [e])
      · rename_i h1 h2
        rcases List.mem_cons.1 h with rfl | h
        · exact .inl (show y.key = x.key from (key_of_not (x := x) (y := y) (by simpa using h1) (by simpa using h2)).symm)
        · exact .inr (by simp [h])
theorem ins_sorted {x : AEntry} : ∀ {l : List AEntry}, l.Pairwise Bef → (ins x l).Pairwise Bef
  | [], _ => by simp [ins]
  | y :: l, h => by
    have h' := List.pairwise_cons.1 h
    rw [ins]
    split
    · rename_i h1
      refine List.pairwise_cons.2 ⟨fun z hz => ?_, h⟩
      rcases List.mem_cons.1 hz with rfl | hz
      · exact befB_iff.1 h1
      · exact Bef.trans _ _ _ (befB_iff.1 h1) (h'.1 z hz)
    · split
      · rename_i h1 h2
        refine List.pairwise_cons.2 ⟨fun z hz => ?_, ins_sorted h'.2⟩
        rcases ins_key hz with e | e
        · rw [← befB_iff, befB_key (rfl : y.key = y.key) e]; exact h2
        · exact h'.1 z e
      · refine List.pairwise_cons.2 ⟨fun z hz => ?_, h'.2⟩
        rw [← befB_iff, befB_key (show (joinE y x).key = y.key from rfl) (rfl : z.key = z.key)]
        exact befB_iff.2 (h'.1 z hz)
theorem ins_new {x : AEntry} : ∀ {l : List AEntry}, x.key ∉ l.map AEntry.key → (ins x l).Perm (l ++ [x])
  | [], _ => by simp [ins]
  | y :: l, h => by
    have hk : x.key ≠ y.key := fun e => h (by simp [e])
    have hl : x.key ∉ l.map AEntry.key := fun e => h (by simp at e ⊢; exact .inr e)
    rw [ins]
    split
    · exact (List.perm_append_singleton x (y :: l)).symm
    · split
      · exact (ins_new hl).cons y
      · rename_i h1 h2
        exact absurd (key_of_not (by simpa using h1) (by simpa using h2)) hk
theorem ins_old {x : AEntry} : ∀ {l : List AEntry}, l.Pairwise Bef → x.key ∈ l.map AEntry.key → ∃ j y, l[j]? = some y ∧ y.key = x.key ∧ ins x l = l.set j (joinE y x)
  | [], _, h => by simp at h
  | y :: l, hs, h => by
    have h' := List.pairwise_cons.1 hs
    rw [ins]
    by_cases hk : y.key = x.key
    · refine ⟨0, y, rfl, hk, ?_⟩
      rw [if_neg (by rw [not_of_key hk.symm]; simp), if_neg (by rw [not_of_key hk]; simp)]
      rfl
    · have hm : x.key ∈ l.map AEntry.key := by
        rcases List.mem_cons.1 (by simpa using h : x.key ∈ y.key :: l.map AEntry.key) with e | e
        · exact absurd e.symm hk
        · exact e
      obtain ⟨j, z, h1, h2, h3⟩ := ins_old h'.2 hm
      have hyz : befB y z = true := befB_iff.2 (h'.1 z (List.mem_of_getElem? h1))
      have hyx : befB y x = true := by rw [befB_key (rfl : y.key = y.key) h2.symm]; exact hyz
      refine ⟨j + 1, z, by simpa using h1, h2, ?_⟩
      rw [if_neg (by rw [befB_asymm hyx]; simp), if_pos hyx, h3]
      rfl
theorem canon_uni {L l : List AEntry} (h : Canon (accE L) l) : UniL L l := by
  refine ⟨?_, h.mem⟩
  rw [List.nodup_iff_pairwise_ne, List.pairwise_map]
  exact h.ord.imp fun {a b} hab e => by
    have := not_of_key e
    rw [befB_iff.2 hab] at this
    cases this
/-- An entry that is not empty, added to the canonical list. -/
theorem canon_add {L l : List AEntry} {x : AEntry} (h : Canon (accE L) l) (hok : x.Ok) (hx : x.vecs ≠ AVec.zero) : Canon (accE (L ++ [x])) (addF x l) := by
  have hu := canon_uni h
  have hs := ins_sorted (x := x) h.ord
  rw [addF_ins h.ord]
  have hle : (ins x l).Pairwise Leq := hs.imp fun {a b} hab => leq_of_lt hab
  by_cases hk : x.key ∈ l.map AEntry.key
  · obtain ⟨j, y, h1, h2, h3⟩ := ins_old h.ord hk
    rw [h3] at hle ⊢
    exact (hu.join h1 h2 hok hx).canon (List.Perm.refl _) hle
  · exact (hu.new hok hx hk).canon (ins_new hk) hle
theorem canon_skip {L l : List AEntry} {x : AEntry} (h : Canon (accE L) l) (hx : x.vecs = AVec.zero) : Canon (accE (L ++ [x])) l :=
  ⟨h.ord, ((canon_uni h).skip hx).mem⟩
/-- The reference's add. -/
def addR (l : List AEntry) (x : AEntry) : List AEntry := if x.vecs = AVec.zero then l else addF x l
theorem canon_addR {L l : List AEntry} {x : AEntry} (h : Canon (accE L) l) (hok : x.Ok) : Canon (accE (L ++ [x])) (addR l x) := by
  unfold addR
  split
  · rename_i hx
    exact canon_skip h hx
  · rename_i hx
    exact canon_add h hok hx
end Go.Proofs.YtmkfabdkadocdaaDoor

/-
  The reference's add.
-/
namespace Go.Proofs.YtmkfabdkadocdaaDoor
open Go Go.WideMaps Go.RowKit Go.Sort

set_option maxRecDepth 100000 in
set_option maxHeartbeats 4000000 in
theorem add8_t (w : World) (xb b off i n c : Nat) (x y : AEntry) (x1 x2 x4 x5 x8 x9 x10 x11 x12 x13 x14 x15 x16 x17 x18 x19 x20 x21 x22 x23 x24 x25 x26 x27 x28 x29 x30 x31 x32 x33 x34 x35 x36 x37 x38 x39 x40 x41 x42 x43 x44 x45 x46 x47 x48 x49 x50 x51 x52 x53 x54 x55 x56 x57 x58 x59 x60 x61 x62 x63 x64 x65 x66 x67 x68 x69 x70 x71 x72 x73 x74 x75 x76 x77 x78 x79 x80 x81 x82 x83 x84 x85 : Value) (_ : i < n) (_ : Hid (Whole w xb 61 #[.int .i64 x.src, .int .i64 x.tgt, .int .i64 x.cls, .int .i64 x.cond, .int .u32 x.allow, .int .u32 x.audit, .int .u32 x.dont])) (_ : Hid (∀ j u, y.cells[j]? = some u → w.cell? ⟨b, off + i * 7 + j, none⟩ = some u)) 
    {Q' : Exit → Act → World → Prop} (hend : ∀ (v29 v30 v31 v32 v33 v34 v35 v36 v37 : Value) (w' : World), RowKit.Below w.heap.size w w' → Q' .normal ⟨#[.slice (some ⟨b, off, none⟩) n c, x1, x2, .pointer (some ⟨xb, 0, none⟩), x4, x5, .bool true, .int .i64 (i : Int), x8, x9, x10, x11, x12, x13, x14, x15, x16, x17, x18, x19, x20, x21, x22, x23, x24, x25, x26, x27, x28, v29, v30, v31, v32, v33, v34, v35, v36, v37, .bool false, x39, x40, x41, x42, x43, x44, x45, x46, x47, x48, x49, x50, x51, x52, x53, x54, x55, x56, x57, x58, x59, x60, x61, x62, x63, x64, x65, x66, x67, x68, x69, x70, x71, x72, x73, x74, x75, x76, x77, x78, x79, x80, x81, x82, x83, x84, x85], []⟩ w') :
    Code.wp Tryd.prog (findRegion7 8 ((Tryd.f40.body).getD .skip)) Q' ⟨#[.slice (some ⟨b, off, none⟩) n c, x1, x2, .pointer (some ⟨xb, 0, none⟩), x4, x5, .bool true, .int .i64 (i : Int), x8, x9, x10, x11, x12, x13, x14, x15, x16, x17, x18, x19, x20, x21, x22, x23, x24, x25, x26, x27, x28, x29, x30, x31, x32, x33, x34, x35, x36, x37, x38, x39, x40, x41, x42, x43, x44, x45, x46, x47, x48, x49, x50, x51, x52, x53, x54, x55, x56, x57, x58, x59, x60, x61, x62, x63, x64, x65, x66, x67, x68, x69, x70, x71, x72, x73, x74, x75, x76, x77, x78, x79, x80, x81, x82, x83, x84, x85], []⟩ w := by
  have HEND := Lib.hid hend
  clear hend
  conv => arg 2; whnf
  conv => arg 4; dsimp only
  refine wp_region_goods [some 29, some 30, some 31, some 32, some 33, some 34, some 35, some 36, some 37] [isW (.bool true), isW (.bool false), isW (.bool false), isW (undef), isW (undef), isW (undef), isW (undef), isW (undef), isW (undef)] (fun _ w' => RowKit.Below w.heap.size w w') [] (by kernel_rfl) (by kernel_rfl) (by kernel_rfl) rfl (by decide) rfl rfl ((Below.refl _ _).drew) ⟨lastsW_is _, lastsW_is _, lastsW_is _, lastsW_is _, lastsW_is _, lastsW_is _, lastsW_is _, lastsW_is _, lastsW_is _, trivial⟩ ⟨?_, ?_, ?_, ?_, ?_, ?_, ?_, ?_, ?_, ?_⟩
  · intro L a wy Q' hL hi H F hK
    try dsimp only at hi
    have h6 : a.tmps[6]? = some (.bool true) := F 6 rfl
    have HI := Lib.hid hi
    clear H F hi hL
    go_wp2_with fail
    exact hK _ _ (Below.refl _ _) HI.out rfl
  · intro L a wy Q' hL hi H F hK
    try dsimp only at hi
    obtain ⟨_, h29, rfl⟩ := H 0 ⟨.data, by simp, rfl⟩ _ rfl
    replace h29 := h29 _ rfl
    have HI := Lib.hid hi
    clear H F hi hL
    go_wp2_with fail
    exact hK _ _ (Below.refl _ _) HI.out rfl
  · intro L a wy Q' hL hi H F hK
    try dsimp only at hi
    obtain ⟨_, h30, rfl⟩ := H 1 ⟨.data, by simp, rfl⟩ _ rfl
    replace h30 := h30 _ rfl
    have HI := Lib.hid hi
    clear H F hi hL
    go_wp2_with fail
    exact hK _ _ (Below.refl _ _) HI.out rfl
  · intro L a wy Q' hL hi H F hK
    try dsimp only at hi
    obtain ⟨_, h31, rfl⟩ := H 2 ⟨.guard, by simp, rfl⟩ _ rfl
    replace h31 := h31 _ rfl
    have h3 : a.tmps[3]? = some (.pointer (some ⟨xb, 0, none⟩)) := F 3 rfl
    have HI := Lib.hid hi
    clear H F hi hL
    refine wpList_skip (by simp [Region.wanted, yielded, h31]) ?_
    exact hK _ _ (Below.refl _ _) HI.out rfl
  · intro L a wy Q' hL hi H F hK
    try dsimp only at hi
    obtain ⟨_, h31, rfl⟩ := H 2 ⟨.guard, by simp, rfl⟩ _ rfl
    replace h31 := h31 _ rfl
    have h0 : a.tmps[0]? = some (.slice (some ⟨b, off, none⟩) n c) := F 0 rfl
    have HI := Lib.hid hi
    clear H F hi hL
    refine wpList_skip (by simp [Region.wanted, yielded, h31]) ?_
    exact hK _ _ (Below.refl _ _) HI.out rfl
  · intro L a wy Q' hL hi H F hK
    try dsimp only at hi
    obtain ⟨_, h31, rfl⟩ := H 2 ⟨.guard, by simp, rfl⟩ _ rfl
    replace h31 := h31 _ rfl
    have h7 : a.tmps[7]? = some (.int .i64 (i : Int)) := F 7 rfl
    have HI := Lib.hid hi
    clear H F hi hL
    refine wpList_skip (by simp [Region.wanted, yielded, h31]) ?_
    exact hK _ _ (Below.refl _ _) HI.out rfl
  · intro L a wy Q' hL hi H F hK
    try dsimp only at hi
    obtain ⟨_, h33, rfl⟩ := H 4 ⟨.data, by simp, rfl⟩ _ rfl
    replace h33 := h33 _ rfl
    obtain ⟨_, h34, rfl⟩ := H 5 ⟨.data, by simp, rfl⟩ _ rfl
    replace h34 := h34 _ rfl
    obtain ⟨_, h31, rfl⟩ := H 2 ⟨.guard, by simp, rfl⟩ _ rfl
    replace h31 := h31 _ rfl
    have HI := Lib.hid hi
    clear H F hi hL
    refine wpList_skip (by simp [Region.wanted, yielded, h31]) ?_
    exact hK _ _ (Below.refl _ _) HI.out rfl
  · intro L a wy Q' hL hi H F hK
    try dsimp only at hi
    obtain ⟨_, h35, rfl⟩ := H 6 ⟨.data, by simp, rfl⟩ _ rfl
    replace h35 := h35 _ rfl
    obtain ⟨_, h31, rfl⟩ := H 2 ⟨.guard, by simp, rfl⟩ _ rfl
    replace h31 := h31 _ rfl
    have HI := Lib.hid hi
    clear H F hi hL
    refine wpList_skip (by simp [Region.wanted, yielded, h31]) ?_
    exact hK _ _ (Below.refl _ _) HI.out rfl
  · intro L a wy Q' hL hi H F hK
    try dsimp only at hi
    obtain ⟨_, h32, rfl⟩ := H 3 ⟨.data, by simp, rfl⟩ _ rfl
    replace h32 := h32 _ rfl
    obtain ⟨_, h36, rfl⟩ := H 7 ⟨.data, by simp, rfl⟩ _ rfl
    replace h36 := h36 _ rfl
    obtain ⟨_, h31, rfl⟩ := H 2 ⟨.guard, by simp, rfl⟩ _ rfl
    replace h31 := h31 _ rfl
    have HI := Lib.hid hi
    clear H F hi hL
    refine wpList_skip (by simp [Region.wanted, yielded, h31]) ?_
    exact hK _ _ (Below.refl _ _) HI.out rfl
  · intro a wy L hl hi hL Q' hK
    try dsimp only at hi
    have HB := Lib.hid hi
    clear hi hL
    obtain ⟨_, rfl, _, rfl, _, rfl, _, rfl, _, rfl, _, rfl, _, rfl, _, rfl, _, rfl, rfl⟩ := hl
    simp only [List.setIfInBounds_toArray, List.set_cons_zero, List.set_cons_succ]
    go_wp2_with fail
    exact HEND.out _ _ _ _ _ _ _ _ _ _ HB.out
set_option maxRecDepth 100000 in
set_option maxHeartbeats 4000000 in
theorem add8_f (w : World) (xb b off i n c : Nat) (x y : AEntry) (q : Bool) (x1 x2 x4 x5 x8 x9 x10 x11 x12 x13 x14 x15 x16 x17 x18 x19 x20 x21 x22 x23 x24 x25 x26 x27 x28 x29 x30 x31 x32 x33 x34 x35 x36 x37 x38 x39 x40 x41 x42 x43 x44 x45 x46 x47 x48 x49 x50 x51 x52 x53 x54 x55 x56 x57 x58 x59 x60 x61 x62 x63 x64 x65 x66 x67 x68 x69 x70 x71 x72 x73 x74 x75 x76 x77 x78 x79 x80 x81 x82 x83 x84 x85 : Value) (hin : i < n) (HX : Hid (Whole w xb 61 #[.int .i64 x.src, .int .i64 x.tgt, .int .i64 x.cls, .int .i64 x.cond, .int .u32 x.allow, .int .u32 x.audit, .int .u32 x.dont])) (HE : Hid (∀ j u, y.cells[j]? = some u → w.cell? ⟨b, off + i * 7 + j, none⟩ = some u)) (HH : Hid (∀ W, Calls Tryd.prog 59 #[.agg #[.int .i64 x.src, .int .i64 x.tgt, .int .i64 x.cls, .int .i64 x.cond, .int .u32 x.allow, .int .u32 x.audit, .int .u32 x.dont], .agg #[.int .i64 y.src, .int .i64 y.tgt, .int .i64 y.cls, .int .i64 y.cond, .int .u32 y.allow, .int .u32 y.audit, .int .u32 y.dont]] W fun e w' => e = .returned (.bool q) ∧ RowKit.Below W.heap.size W w'))
    {Q' : Exit → Act → World → Prop} (hend : ∀ (v29 v30 v31 v32 v33 v34 v35 v36 v37 : Value) (w' : World), RowKit.Below w.heap.size w w' → Q' .normal ⟨#[.slice (some ⟨b, off, none⟩) n c, x1, x2, .pointer (some ⟨xb, 0, none⟩), x4, x5, .bool false, .int .i64 (i : Int), x8, x9, x10, x11, x12, x13, x14, x15, x16, x17, x18, x19, x20, x21, x22, x23, x24, x25, x26, x27, x28, v29, v30, v31, v32, v33, v34, v35, v36, v37, .bool q, x39, x40, x41, x42, x43, x44, x45, x46, x47, x48, x49, x50, x51, x52, x53, x54, x55, x56, x57, x58, x59, x60, x61, x62, x63, x64, x65, x66, x67, x68, x69, x70, x71, x72, x73, x74, x75, x76, x77, x78, x79, x80, x81, x82, x83, x84, x85], []⟩ w') :
    Code.wp Tryd.prog (findRegion7 8 ((Tryd.f40.body).getD .skip)) Q' ⟨#[.slice (some ⟨b, off, none⟩) n c, x1, x2, .pointer (some ⟨xb, 0, none⟩), x4, x5, .bool false, .int .i64 (i : Int), x8, x9, x10, x11, x12, x13, x14, x15, x16, x17, x18, x19, x20, x21, x22, x23, x24, x25, x26, x27, x28, x29, x30, x31, x32, x33, x34, x35, x36, x37, x38, x39, x40, x41, x42, x43, x44, x45, x46, x47, x48, x49, x50, x51, x52, x53, x54, x55, x56, x57, x58, x59, x60, x61, x62, x63, x64, x65, x66, x67, x68, x69, x70, x71, x72, x73, x74, x75, x76, x77, x78, x79, x80, x81, x82, x83, x84, x85], []⟩ w := by
  have HEND := Lib.hid hend
  clear hend
  conv => arg 2; whnf
  conv => arg 4; dsimp only
  refine wp_region_goods [some 29, some 30, some 31, some 32, some 33, some 34, some 35, some 36, some 37] [isW (.bool false), isW (.bool true), isW (.bool true), isW (.agg #[.int .i64 x.src, .int .i64 x.tgt, .int .i64 x.cls, .int .i64 x.cond, .int .u32 x.allow, .int .u32 x.audit, .int .u32 x.dont]), isW (.slice (some ⟨b, off, none⟩) n c), isW (.int .i64 (i : Int)), isW (.pointer (some ⟨b, off + i * 7, none⟩)), isW (.agg #[.int .i64 y.src, .int .i64 y.tgt, .int .i64 y.cls, .int .i64 y.cond, .int .u32 y.allow, .int .u32 y.audit, .int .u32 y.dont]), isW (.bool q)] (fun _ w' => RowKit.Below w.heap.size w w') [] (by kernel_rfl) (by kernel_rfl) (by kernel_rfl) rfl (by decide) rfl rfl ((Below.refl _ _).drew) ⟨lastsW_is _, lastsW_is _, lastsW_is _, lastsW_is _, lastsW_is _, lastsW_is _, lastsW_is _, lastsW_is _, lastsW_is _, trivial⟩ ⟨?_, ?_, ?_, ?_, ?_, ?_, ?_, ?_, ?_, ?_⟩
  · intro L a wy Q' hL hi H F hK
    try dsimp only at hi
    have h6 : a.tmps[6]? = some (.bool false) := F 6 rfl
    have HI := Lib.hid hi
    clear H F hi hL
    go_wp2_with fail
    exact hK _ _ (Below.refl _ _) HI.out rfl
  · intro L a wy Q' hL hi H F hK
    try dsimp only at hi
    obtain ⟨_, h29, rfl⟩ := H 0 ⟨.data, by simp, rfl⟩ _ rfl
    replace h29 := h29 _ rfl
    have HI := Lib.hid hi
    clear H F hi hL
    go_wp2_with fail
    exact hK _ _ (Below.refl _ _) HI.out rfl
  · intro L a wy Q' hL hi H F hK
    try dsimp only at hi
    obtain ⟨_, h30, rfl⟩ := H 1 ⟨.data, by simp, rfl⟩ _ rfl
    replace h30 := h30 _ rfl
    have HI := Lib.hid hi
    clear H F hi hL
    go_wp2_with fail
    exact hK _ _ (Below.refl _ _) HI.out rfl
  · intro L a wy Q' hL hi H F hK
    try dsimp only at hi
    obtain ⟨_, h31, rfl⟩ := H 2 ⟨.guard, by simp, rfl⟩ _ rfl
    replace h31 := h31 _ rfl
    have h3 : a.tmps[3]? = some (.pointer (some ⟨xb, 0, none⟩)) := F 3 rfl
    have HI := Lib.hid hi
    clear H F hi hL
    have kq0 : wy.cell? ⟨xb, 0, none⟩ = some (.int .i64 x.src) := (Whole.under HI.out HX.out (Whole.lt HX.out)).cell 0
    have kq1 : wy.cell? ⟨xb, 1, none⟩ = some (.int .i64 x.tgt) := (Whole.under HI.out HX.out (Whole.lt HX.out)).cell 1
    have kq2 : wy.cell? ⟨xb, 2, none⟩ = some (.int .i64 x.cls) := (Whole.under HI.out HX.out (Whole.lt HX.out)).cell 2
    have kq3 : wy.cell? ⟨xb, 3, none⟩ = some (.int .i64 x.cond) := (Whole.under HI.out HX.out (Whole.lt HX.out)).cell 3
    have kq4 : wy.cell? ⟨xb, 4, none⟩ = some (.int .u32 x.allow) := (Whole.under HI.out HX.out (Whole.lt HX.out)).cell 4
    have kq5 : wy.cell? ⟨xb, 5, none⟩ = some (.int .u32 x.audit) := (Whole.under HI.out HX.out (Whole.lt HX.out)).cell 5
    have kq6 : wy.cell? ⟨xb, 6, none⟩ = some (.int .u32 x.dont) := (Whole.under HI.out HX.out (Whole.lt HX.out)).cell 6
    go_wp2_with fail
    exact hK _ _ (Below.refl _ _) HI.out rfl
  · intro L a wy Q' hL hi H F hK
    try dsimp only at hi
    obtain ⟨_, h31, rfl⟩ := H 2 ⟨.guard, by simp, rfl⟩ _ rfl
    replace h31 := h31 _ rfl
    have h0 : a.tmps[0]? = some (.slice (some ⟨b, off, none⟩) n c) := F 0 rfl
    have HI := Lib.hid hi
    clear H F hi hL
    go_wp2_with fail
    exact hK _ _ (Below.refl _ _) HI.out rfl
  · intro L a wy Q' hL hi H F hK
    try dsimp only at hi
    obtain ⟨_, h31, rfl⟩ := H 2 ⟨.guard, by simp, rfl⟩ _ rfl
    replace h31 := h31 _ rfl
    have h7 : a.tmps[7]? = some (.int .i64 (i : Int)) := F 7 rfl
    have HI := Lib.hid hi
    clear H F hi hL
    go_wp2_with fail
    exact hK _ _ (Below.refl _ _) HI.out rfl
  · intro L a wy Q' hL hi H F hK
    try dsimp only at hi
    obtain ⟨_, h33, rfl⟩ := H 4 ⟨.data, by simp, rfl⟩ _ rfl
    replace h33 := h33 _ rfl
    obtain ⟨_, h34, rfl⟩ := H 5 ⟨.data, by simp, rfl⟩ _ rfl
    replace h34 := h34 _ rfl
    obtain ⟨_, h31, rfl⟩ := H 2 ⟨.guard, by simp, rfl⟩ _ rfl
    replace h31 := h31 _ rfl
    have HI := Lib.hid hi
    clear H F hi hL
    go_wp2_with fail
    exact hK _ _ (Below.refl _ _) HI.out rfl
  · intro L a wy Q' hL hi H F hK
    try dsimp only at hi
    obtain ⟨_, h35, rfl⟩ := H 6 ⟨.data, by simp, rfl⟩ _ rfl
    replace h35 := h35 _ rfl
    obtain ⟨_, h31, rfl⟩ := H 2 ⟨.guard, by simp, rfl⟩ _ rfl
    replace h31 := h31 _ rfl
    have HI := Lib.hid hi
    clear H F hi hL
    have kq0 : wy.cell? ⟨b, off + i * 7, none⟩ = some (.int .i64 y.src) := cell_later HI.out (HE.out 0 _ rfl)
    have kq1 : wy.cell? ⟨b, off + i * 7 + 1, none⟩ = some (.int .i64 y.tgt) := cell_later HI.out (HE.out 1 _ rfl)
    have kq2 : wy.cell? ⟨b, off + i * 7 + 2, none⟩ = some (.int .i64 y.cls) := cell_later HI.out (HE.out 2 _ rfl)
    have kq3 : wy.cell? ⟨b, off + i * 7 + 3, none⟩ = some (.int .i64 y.cond) := cell_later HI.out (HE.out 3 _ rfl)
    have kq4 : wy.cell? ⟨b, off + i * 7 + 4, none⟩ = some (.int .u32 y.allow) := cell_later HI.out (HE.out 4 _ rfl)
    have kq5 : wy.cell? ⟨b, off + i * 7 + 5, none⟩ = some (.int .u32 y.audit) := cell_later HI.out (HE.out 5 _ rfl)
    have kq6 : wy.cell? ⟨b, off + i * 7 + 6, none⟩ = some (.int .u32 y.dont) := cell_later HI.out (HE.out 6 _ rfl)
    go_wp2_with fail
    exact hK _ _ (Below.refl _ _) HI.out rfl
  · intro L a wy Q' hL hi H F hK
    try dsimp only at hi
    obtain ⟨_, h32, rfl⟩ := H 3 ⟨.data, by simp, rfl⟩ _ rfl
    replace h32 := h32 _ rfl
    obtain ⟨_, h36, rfl⟩ := H 7 ⟨.data, by simp, rfl⟩ _ rfl
    replace h36 := h36 _ rfl
    obtain ⟨_, h31, rfl⟩ := H 2 ⟨.guard, by simp, rfl⟩ _ rfl
    replace h31 := h31 _ rfl
    have HI := Lib.hid hi
    clear H F hi hL
    have HK := Lib.hid hK
    clear hK
    go_wp2_with (go_at_call 59; go_must (refine (HH.out wy).mono ?_; rintro e w1 ⟨rfl, hb1⟩))
    exact HK.out _ _ hb1 (HI.out.trans (hb1.mono HI.out.size)) rfl
  · intro a wy L hl hi hL Q' hK
    try dsimp only at hi
    have HB := Lib.hid hi
    clear hi hL
    obtain ⟨_, rfl, _, rfl, _, rfl, _, rfl, _, rfl, _, rfl, _, rfl, _, rfl, _, rfl, rfl⟩ := hl
    simp only [List.setIfInBounds_toArray, List.set_cons_zero, List.set_cons_succ]
    go_wp2_with fail
    exact HEND.out _ _ _ _ _ _ _ _ _ _ HB.out
theorem own_below {w : World} {b k n : Nat} {t : TypeId} {v : Value} {xs : List Value} (h : w.ownsRow b t k v n xs) : ∀ g, v.ownBlock = some g → g < w.heap.size := fun g hg => by
  obtain ⟨_, cur, hc⟩ := own_at h hg
  exact (Array.getElem?_eq_some_iff.1 hc).1
theorem own_yb {v : Value} {g : Nat} (h : ∀ k, v.ownBlock = some k → k < g) : v.ownBlock ≠ some g := fun e => absurd (h g e) (Nat.lt_irrefl g)
theorem vecs_zero (x : AEntry) : x.vecs = AVec.zero ↔ x.allow = 0 ∧ x.audit = 0 ∧ x.dont = 0 := by unfold AEntry.vecs AVec.zero; rw [AVec.mk.injEq]
set_option maxRecDepth 100000 in
set_option maxHeartbeats 2000000 in
theorem add_1 (w : World) (xb : Nat) (x : AEntry) (x0 x1 x2 x4 x5 x6 x7 x8 x9 x10 x11 x12 x13 x14 x15 x16 x17 x18 x19 x20 x21 x22 x23 x24 x25 x26 x27 x28 x29 x30 x31 x32 x33 x34 x35 x36 x37 x38 x39 x40 x41 x42 x43 x44 x45 x46 x47 x48 x49 x50 x51 x52 x53 x54 x55 x56 x57 x58 x59 x60 x61 x62 x63 x64 x65 x66 x67 x68 x69 x70 x71 x72 x73 x74 x75 x76 x77 x78 x79 x80 x81 x82 x83 x84 x85 : Value) (HX : Hid (Whole w xb 61 #[.int .i64 x.src, .int .i64 x.tgt, .int .i64 x.cls, .int .i64 x.cond, .int .u32 x.allow, .int .u32 x.audit, .int .u32 x.dont]))
    {Q' : Exit → Act → World → Prop} (hend : ∀ ( v9 v10 v11 v12 v13 v14 v15 v16 v17 v18 v19 v20 : Value), Q' .normal ⟨#[x0, x1, x2, .pointer (some ⟨xb, 0, none⟩), x4, x5, x6, x7, x8, v9, v10, v11, v12, v13, v14, v15, v16, v17, v18, v19, v20, .bool (decide (x.vecs = AVec.zero)), x22, x23, x24, x25, x26, x27, x28, x29, x30, x31, x32, x33, x34, x35, x36, x37, x38, x39, x40, x41, x42, x43, x44, x45, x46, x47, x48, x49, x50, x51, x52, x53, x54, x55, x56, x57, x58, x59, x60, x61, x62, x63, x64, x65, x66, x67, x68, x69, x70, x71, x72, x73, x74, x75, x76, x77, x78, x79, x80, x81, x82, x83, x84, x85], []⟩ w) :
    Code.wp Tryd.prog (findRegion7 1 ((Tryd.f40.body).getD .skip)) Q' ⟨#[x0, x1, x2, .pointer (some ⟨xb, 0, none⟩), x4, x5, x6, x7, x8, x9, x10, x11, x12, x13, x14, x15, x16, x17, x18, x19, x20, x21, x22, x23, x24, x25, x26, x27, x28, x29, x30, x31, x32, x33, x34, x35, x36, x37, x38, x39, x40, x41, x42, x43, x44, x45, x46, x47, x48, x49, x50, x51, x52, x53, x54, x55, x56, x57, x58, x59, x60, x61, x62, x63, x64, x65, x66, x67, x68, x69, x70, x71, x72, x73, x74, x75, x76, x77, x78, x79, x80, x81, x82, x83, x84, x85], []⟩ w := by
  have hv : decide (x.vecs = AVec.zero) = (decide (x.allow = 0) && (decide (x.audit = 0) && decide (x.dont = 0))) := by
    have e2 : decide (x.vecs = AVec.zero) = decide (x.allow = 0 ∧ x.audit = 0 ∧ x.dont = 0) := decide_eq_decide.2 (vecs_zero x)
    rw [e2]
    by_cases h1 : x.allow = 0 <;> by_cases h2 : x.audit = 0 <;> by_cases h3 : x.dont = 0 <;> simp [h1, h2, h3]
  have k4 : w.cell? ⟨xb, 4, none⟩ = some (.int .u32 x.allow) := HX.out.cell 4
  have k5 : w.cell? ⟨xb, 5, none⟩ = some (.int .u32 x.audit) := HX.out.cell 5
  have k6 : w.cell? ⟨xb, 6, none⟩ = some (.int .u32 x.dont) := HX.out.cell 6
  by_cases h1 : x.allow = 0
  · have hd1 : (x.allow == 0) = true := by simp [h1]
    by_cases h2 : x.audit = 0
    · have hd2 : (x.audit == 0) = true := by simp [h2]
      by_cases h3 : x.dont = 0
      · have hd3 : (x.dont == 0) = true := by simp [h3]
        rw [show decide (x.vecs = AVec.zero) = true by rw [hv]; simp [h1, h2, h3]] at hend
        have HEND := Lib.hid hend
        clear hend hv h1 h2 h3
        conv => arg 2; whnf
        conv => arg 4; dsimp only
        go_wp2_with fail
        exact HEND.out _ _ _ _ _ _ _ _ _ _ _ _
      · have hd3 : (x.dont == 0) = false := by simp [h3]
        rw [show decide (x.vecs = AVec.zero) = false by rw [hv]; simp [h3]] at hend
        have HEND := Lib.hid hend
        clear hend hv h1 h2 h3
        conv => arg 2; whnf
        conv => arg 4; dsimp only
        go_wp2_with fail
        exact HEND.out _ _ _ _ _ _ _ _ _ _ _ _
    · have hd2 : (x.audit == 0) = false := by simp [h2]
      rw [show decide (x.vecs = AVec.zero) = false by rw [hv]; simp [h2]] at hend
      have HEND := Lib.hid hend
      clear hend hv h1 h2
      conv => arg 2; whnf
      conv => arg 4; dsimp only
      go_wp2_with fail
      exact HEND.out _ _ _ _ _ _ _ _ _ _ _ _
  · have hd1 : (x.allow == 0) = false := by simp [h1]
    rw [show decide (x.vecs = AVec.zero) = false by rw [hv]; simp [h1]] at hend
    have HEND := Lib.hid hend
    clear hend hv h1
    conv => arg 2; whnf
    conv => arg 4; dsimp only
    go_wp2_with fail
    exact HEND.out _ _ _ _ _ _ _ _ _ _ _ _
set_option maxRecDepth 100000 in
set_option maxHeartbeats 8000000 in
theorem add_any (w : World) (v : Value) (l : List AEntry) (x : AEntry) (h : SliceAt w v 7 l.length (l.flatMap AEntry.cells)) (hlen : l.length ≤ 1000) :
    Calls Tryd.prog 40 #[v, .agg #[.int .i64 x.src, .int .i64 x.tgt, .int .i64 x.cls, .int .i64 x.cond, .int .u32 x.allow, .int .u32 x.audit, .int .u32 x.dont]] w fun e w' => ∃ v', e = .returned v' ∧ SliceAt w' v' 7 (addR l x).length ((addR l x).flatMap AEntry.cells) ∧ RowKit.Below w.heap.size w w' := by
  obtain ⟨i0, z0, hi0, hz0, hz1, hz2, hzs⟩ := infoOf info61
  obtain ⟨n, hn⟩ : ∃ n, n = l.length := ⟨_, rfl⟩
  obtain ⟨a, c, rfl, hc, hmx, hcell⟩ := h.form (by decide)
  have HL := Lib.hid hn
  have HC := Lib.hid (And.intro hcell hc)
  have HSL := Lib.hid h
  rw [← hn] at hlen hmx hc HSL
  obtain ⟨wo, hwo⟩ : ∃ wo, wo = w.alloc (.cells #[.int .i64 x.src, .int .i64 x.tgt, .int .i64 x.cls, .int .i64 x.cond, .int .u32 x.allow, .int .u32 x.audit, .int .u32 x.dont] 61) := ⟨_, rfl⟩
  have HWO := Lib.hid (show RowKit.Below w.heap.size w wo by rw [hwo]; exact (Below.refl _ w).alloc (Nat.le_refl _) _)
  have HX0 := Lib.hid (show Whole wo w.heap.size 61 #[.int .i64 x.src, .int .i64 x.tgt, .int .i64 x.cls, .int .i64 x.cond, .int .u32 x.allow, .int .u32 x.audit, .int .u32 x.dont] by rw [hwo]; exact Whole.new w 61 _)
  have HLT := Lib.hid (show w.heap.size < wo.heap.size by rw [hwo]; simp)
  have k4 : wo.cell? ⟨w.heap.size, 4, none⟩ = some (.int .u32 x.allow) := HX0.out.cell 4
  have k5 : wo.cell? ⟨w.heap.size, 5, none⟩ = some (.int .u32 x.audit) := HX0.out.cell 5
  have k6 : wo.cell? ⟨w.heap.size, 6, none⟩ = some (.int .u32 x.dont) := HX0.out.cell 6
  rw [← hn]
  clear hn hcell h
  by_cases hz : x.vecs = AVec.zero
  · have hzz := (vecs_zero x).1 hz
    have hd4 : (x.allow == 0) = true := by simp [hzz.1]
    have hd5 : (x.audit == 0) = true := by simp [hzz.2.1]
    have hd6 : (x.dont == 0) = true := by simp [hzz.2.2]
    have HR := Lib.hid (show addR l x = l by unfold addR; rw [if_pos hz])
    clear hzz hz
    go_enter Tryd.func40, Tryd.ntmps40
    go_upto_region 1 with fail
    rw [← hwo]
    clear hwo
    go_wp2_with fail
    go_ret
    exact ⟨_, rfl, by rw [HR.out, ← HL.out]; exact HSL.out.keep HWO.out, HWO.out⟩
  · have HR := Lib.hid (show addR l x = addF x l by unfold addR; rw [if_neg hz])
    have hzz : ¬ (x.allow = 0 ∧ x.audit = 0 ∧ x.dont = 0) := fun e => hz ((vecs_zero x).2 e)
    clear hz
    obtain ⟨bs, hbs⟩ : ∃ bs, bs = wo.heap.size := ⟨_, rfl⟩
    rw [← hbs] at HLT
    have HS0 := Lib.hid (show bs ≤ wo.heap.size by rw [hbs]; exact Nat.le_refl _)
    have HZ := Lib.hid (show decide (x.vecs = AVec.zero) = false by rw [decide_eq_false_iff_not, vecs_zero]; exact hzz)
    clear hzz k4 k5 k6
    go_enter Tryd.func40, Tryd.ntmps40
    go_upto_region 1 with fail
    rw [← hwo]
    clear hwo hbs
    refine add_1 wo w.heap.size x _ _ _ _ _ _ _ _ _ _ _ _ _ _ _ _ _ _ _ _ _ _ _ _ _ _ _ _ _ _ _ _ _ _ _ _ _ _ _ _ _ _ _ _ _ _ _ _ _ _ _ _ _ _ _ _ _ _ _ _ _ _ _ _ _ _ _ _ _ _ _ _ _ _ _ _ _ _ _ _ _ _ _ _ _ HX0 ?_
    intro v9 v10 v11 v12 v13 v14 v15 v16 v17 v18 v19 v20
    rw [HZ.out]
    clear HZ
    go_wp2_with fail
    go_loopw [7, 5, 6] (fun ix u dv wr => ∃ (k : Nat) (d : Bool) (O : List AEntry), k ≤ n ∧ ix = .int .i64 k ∧ dv = .bool d ∧ addFold x (l.take k) = (O, d) ∧ wr.ownsRow bs 61 7 u O.length (O.flatMap AEntry.cells) ∧ RowKit.Below bs wo wr) (fun ix _ _ _ => n - (intOf ix).toNat)
    case atStart => exact ⟨0, false, [], Nat.zero_le _, rfl, rfl, rfl, World.ownsRow_nil _ _ _ _, Below.refl _ _⟩
    case round =>
      obtain ⟨i, d, O, hi, rfl, rfl, hf, ho, hb⟩ := hrel
      have HF := Lib.hid hf
      have HOr := Lib.hid ho
      have HBr := Lib.hid hb
      have HWr := Lib.hid (HWO.out.trans (hb.mono (Nat.le_of_lt HLT.out)))
      have HOL := Lib.hid (show O.length ≤ 2000 by
        have h1 := addFold_len x (l.take i)
        rw [hf] at h1
        have h2 := List.length_take_le i l
        dsimp only at h1
        omega)
      clear hf ho hb
      by_cases hlt : i < n
      · have hln : i < l.length := by rw [← HL.out]; exact hlt
        obtain ⟨y, hy⟩ : ∃ y, l[i]? = some y := ⟨_, List.getElem?_eq_getElem hln⟩
        have HYI := Lib.hid hy
        obtain ⟨b, off, rfl, hcl⟩ := HC.out.1 i hln
        have HXC := Lib.hid (show ∀ j u, y.cells[j]? = some u → w.cell? ⟨b, off + i * 7 + j, none⟩ = some u from fun j u hu => hcl j u (by
          have hj : j < 7 := (List.getElem?_eq_some_iff.1 hu).1
          rw [flat_at entry_len hy j hj]; exact hu))
        have HE := Lib.hid (show ∀ j u, y.cells[j]? = some u → wr.cell? ⟨b, off + i * 7 + j, none⟩ = some u from fun j u hu => cell_later HWr.out (HXC.out j u hu))
        clear hy hcl hln
        go_upto_region 8 with fail
        cases d with
        | false =>
          cases hxy : befB x y with
          | true =>
            have HBXY := Lib.hid hxy
            have HBYX := Lib.hid (befB_asymm hxy)
            have HXY := Lib.hid (show ∀ W, Calls Tryd.prog 59 #[.agg #[.int .i64 x.src, .int .i64 x.tgt, .int .i64 x.cls, .int .i64 x.cond, .int .u32 x.allow, .int .u32 x.audit, .int .u32 x.dont], .agg #[.int .i64 y.src, .int .i64 y.tgt, .int .i64 y.cls, .int .i64 y.cond, .int .u32 y.allow, .int .u32 y.audit, .int .u32 y.dont]] W fun e w' => e = .returned (.bool true) ∧ RowKit.Below W.heap.size W w' from fun W => by rw [← hxy]; exact rbefore_any W x y)
            clear hxy
            refine add8_f wr w.heap.size b off i n c x y true _ _ _ _ _ _ _ _ _ _ _ _ _ _ _ _ _ _ _ _ _ _ _ _ _ _ _ _ _ _ _ _ _ _ _ _ _ _ _ _ _ _ _ _ _ _ _ _ _ _ _ _ _ _ _ _ _ _ _ _ _ _ _ _ _ _ _ _ _ _ _ _ _ _ _ _ _ _ _ _ _ _ hlt (Lib.hid (Whole.under HBr.out HX0.out HLT.out)) HE HXY ?_
            intro v29 v30 v31 v32 v33 v34 v35 v36 v37 w4 hb4
            have HB4 := Lib.hid (HBr.out.trans (hb4.mono (Nat.le_trans HS0.out HBr.out.size)))
            have HO4 := Lib.hid (own_keep hb4 HOr.out (Nat.le_refl _))
            clear hb4 HE
            go_wp2_with (first | (have hZ := HB4; clear hZ; refine wpList_load_row rfl 61 _ rfl w.heap.size rfl 61 _ (0, 0) _ (Whole.under HB4.out HX0.out HLT.out) Tryd.underlying61 rfl size61 ?_) | (have hZ := HB4; clear hZ; at_builtin; go_must (refine wpList_append_own _ rfl _ _ 52 rfl bs 61 i0 z0 7 48 Tryd.underlying52 hi0 hz0 hz1 hz2 hzs (by decide) _ _ _ rfl (own_alloc HO4.out _) ⟨w4.heap.size, 0, none⟩ 1 1 [.int .i64 x.src, .int .i64 x.tgt, .int .i64 x.cls, .int .i64 x.cond, .int .u32 x.allow, .int .u32 x.audit, .int .u32 x.dont] rfl rfl (row_new _ _ _) ?c2 ?c3 ?c4 ?c5 ?_)))
            case c2 => simp [Value.oneCell']
            case c3 => have := HOL.out; unfold maxLen; omega
            case c4 => have := HOL.out; omega
            case c5 => have := HS0.out; have := HB4.out.size; simp; omega
            intro u5 w5 ho5 hg5 hn5
            have HB5 := Lib.hid ((HB4.out.alloc (Nat.le_trans HS0.out HB4.out.size) _).grown hg5 (by have := HS0.out; have := HB4.out.size; simp; omega) (fun q hq => (HO4.out.lt q hq).1))
            have HO5 := Lib.hid ho5
            clear hg5 hn5 ho5 HO4 HB4
            have e0 : w5.cell? ⟨b, off + i * 7, none⟩ = some (.int .i64 y.src) := cell_later (HWO.out.trans (HB5.out.mono (Nat.le_of_lt HLT.out))) (HXC.out 0 _ rfl)
            have e1 : w5.cell? ⟨b, off + i * 7 + 1, none⟩ = some (.int .i64 y.tgt) := cell_later (HWO.out.trans (HB5.out.mono (Nat.le_of_lt HLT.out))) (HXC.out 1 _ rfl)
            have e2 : w5.cell? ⟨b, off + i * 7 + 2, none⟩ = some (.int .i64 y.cls) := cell_later (HWO.out.trans (HB5.out.mono (Nat.le_of_lt HLT.out))) (HXC.out 2 _ rfl)
            have e3 : w5.cell? ⟨b, off + i * 7 + 3, none⟩ = some (.int .i64 y.cond) := cell_later (HWO.out.trans (HB5.out.mono (Nat.le_of_lt HLT.out))) (HXC.out 3 _ rfl)
            have e4 : w5.cell? ⟨b, off + i * 7 + 4, none⟩ = some (.int .u32 y.allow) := cell_later (HWO.out.trans (HB5.out.mono (Nat.le_of_lt HLT.out))) (HXC.out 4 _ rfl)
            have e5 : w5.cell? ⟨b, off + i * 7 + 5, none⟩ = some (.int .u32 y.audit) := cell_later (HWO.out.trans (HB5.out.mono (Nat.le_of_lt HLT.out))) (HXC.out 5 _ rfl)
            have e6 : w5.cell? ⟨b, off + i * 7 + 6, none⟩ = some (.int .u32 y.dont) := cell_later (HWO.out.trans (HB5.out.mono (Nat.le_of_lt HLT.out))) (HXC.out 6 _ rfl)
            go_wp2_with (first | (have hZ := HB5; clear hZ; refine wpList_store_blk rfl 61 _ _ rfl w5.heap.size 0 (.agg #[.int .i64 y.src, .int .i64 y.tgt, .int .i64 y.cls, .int .i64 y.cond, .int .u32 y.allow, .int .u32 y.audit, .int .u32 y.dont]) rfl rfl 61 _ (Whole.new w5 61 _) (by simp [Value.cells]) size61 rfl ?_; intro w6 SY6 WY6; rw [splice_all _ _ (by rfl)] at WY6; have HSY6 := Lib.hid SY6; have HHY6 := Lib.hid (show Whole w6 w5.heap.size 61 #[.int .i64 y.src, .int .i64 y.tgt, .int .i64 y.cls, .int .i64 y.cond, .int .u32 y.allow, .int .u32 y.audit, .int .u32 y.dont] from WY6); clear SY6 WY6 e0 e1 e2 e3 e4 e5 e6; have hbn := (((Below.refl _ w5).alloc (Nat.le_refl _) _).trans (HSY6.out.below (Nat.le_refl _))); have HB6 := Lib.hid (HB5.out.trans (hbn.mono (Nat.le_trans HS0.out HB5.out.size))); have HO6 := Lib.hid (own_keep hbn HO5.out (Nat.le_refl _)); have HY6 := HHY6; have HOB := Lib.hid (own_below HO5.out); have HYL := Lib.hid (Nat.le_trans HS0.out HB5.out.size); clear hbn HSY6 HHY6 HO5 HB5) | (have hZ := HB6; clear hZ; refine wpList_load_row rfl 61 _ rfl w.heap.size rfl 61 _ (0, 0) _ (Whole.under HB6.out HX0.out HLT.out) Tryd.underlying61 rfl size61 ?_) | (have hZ := HY6; clear hZ; refine wpList_load_row rfl 61 _ rfl w5.heap.size rfl 61 _ (0, 0) _ HY6.out Tryd.underlying61 rfl size61 ?_) | (have hZ := HB6; clear hZ; go_at_call 59; go_must (refine (HXY.out w6).mono ?_; rintro e w7 ⟨rfl, hb7⟩; have HB7 := Lib.hid (HB6.out.trans (hb7.mono (Nat.le_trans HS0.out HB6.out.size))); have HO7 := Lib.hid (own_keep hb7 HO6.out (Nat.le_refl _)); have HY7 := Lib.hid (Whole.under hb7 HY6.out HY6.out.lt); clear hb7 HB6 HO6 HY6)) | (have hZ := HY7; clear hZ; refine wpList_load_row rfl 61 _ rfl w5.heap.size rfl 61 _ (0, 0) _ HY7.out Tryd.underlying61 rfl size61 ?_) | (have hZ := HB7; clear hZ; at_builtin; go_must (refine wpList_append_own _ rfl _ _ 52 rfl bs 61 i0 z0 7 48 Tryd.underlying52 hi0 hz0 hz1 hz2 hzs (by decide) _ _ _ rfl (own_alloc HO7.out _) ⟨w7.heap.size, 0, none⟩ 1 1 [.int .i64 y.src, .int .i64 y.tgt, .int .i64 y.cls, .int .i64 y.cond, .int .u32 y.allow, .int .u32 y.audit, .int .u32 y.dont] rfl rfl (row_new _ _ _) ?c2 ?c3 ?c4 ?c5 ?_)))
            case c2 => simp [Value.oneCell']
            case c3 => have := HOL.out; unfold maxLen; omega
            case c4 => have := HOL.out; omega
            case c5 => have := HS0.out; have := HB7.out.size; simp; omega
            intro u20 w20 ho20 hg20 hn20
            have HB20 := Lib.hid ((HB7.out.alloc (Nat.le_trans HS0.out HB7.out.size) _).grown hg20 (by have := HS0.out; have := HB7.out.size; simp; omega) (fun q hq => (HO7.out.lt q hq).1))
            have HO20 := Lib.hid ho20
            clear hg20 hn20 ho20 HO7 HB7
            go_wp2
            go_roundw
            case rel => exact ⟨i + 1, true, (O ++ [x]) ++ [y], by omega, by go_num, rfl, by rw [addFold_next HYI.out, HF.out]; simp [addStep, HBXY.out, HBYX.out], by simpa [AEntry.cells, joinE, mkE, AEntry.key, AEntry.vecs, AVec.or] using HO20.out, HB20.out⟩
            case measure => simp [intOf]; omega
          | false =>
            have HBXY := Lib.hid hxy
            have HXY := Lib.hid (show ∀ W, Calls Tryd.prog 59 #[.agg #[.int .i64 x.src, .int .i64 x.tgt, .int .i64 x.cls, .int .i64 x.cond, .int .u32 x.allow, .int .u32 x.audit, .int .u32 x.dont], .agg #[.int .i64 y.src, .int .i64 y.tgt, .int .i64 y.cls, .int .i64 y.cond, .int .u32 y.allow, .int .u32 y.audit, .int .u32 y.dont]] W fun e w' => e = .returned (.bool false) ∧ RowKit.Below W.heap.size W w' from fun W => by rw [← hxy]; exact rbefore_any W x y)
            clear hxy
            cases hyx : befB y x with
            | true =>
              have HBYX := Lib.hid hyx
              have HYX := Lib.hid (show ∀ W, Calls Tryd.prog 59 #[.agg #[.int .i64 y.src, .int .i64 y.tgt, .int .i64 y.cls, .int .i64 y.cond, .int .u32 y.allow, .int .u32 y.audit, .int .u32 y.dont], .agg #[.int .i64 x.src, .int .i64 x.tgt, .int .i64 x.cls, .int .i64 x.cond, .int .u32 x.allow, .int .u32 x.audit, .int .u32 x.dont]] W fun e w' => e = .returned (.bool true) ∧ RowKit.Below W.heap.size W w' from fun W => by rw [← hyx]; exact rbefore_any W y x)
              clear hyx
              refine add8_f wr w.heap.size b off i n c x y false _ _ _ _ _ _ _ _ _ _ _ _ _ _ _ _ _ _ _ _ _ _ _ _ _ _ _ _ _ _ _ _ _ _ _ _ _ _ _ _ _ _ _ _ _ _ _ _ _ _ _ _ _ _ _ _ _ _ _ _ _ _ _ _ _ _ _ _ _ _ _ _ _ _ _ _ _ _ _ _ _ _ hlt (Lib.hid (Whole.under HBr.out HX0.out HLT.out)) HE HXY ?_
              intro v29 v30 v31 v32 v33 v34 v35 v36 v37 w4 hb4
              have HB4 := Lib.hid (HBr.out.trans (hb4.mono (Nat.le_trans HS0.out HBr.out.size)))
              have HO4 := Lib.hid (own_keep hb4 HOr.out (Nat.le_refl _))
              clear hb4 HE
              have e0 : w4.cell? ⟨b, off + i * 7, none⟩ = some (.int .i64 y.src) := cell_later (HWO.out.trans (HB4.out.mono (Nat.le_of_lt HLT.out))) (HXC.out 0 _ rfl)
              have e1 : w4.cell? ⟨b, off + i * 7 + 1, none⟩ = some (.int .i64 y.tgt) := cell_later (HWO.out.trans (HB4.out.mono (Nat.le_of_lt HLT.out))) (HXC.out 1 _ rfl)
              have e2 : w4.cell? ⟨b, off + i * 7 + 2, none⟩ = some (.int .i64 y.cls) := cell_later (HWO.out.trans (HB4.out.mono (Nat.le_of_lt HLT.out))) (HXC.out 2 _ rfl)
              have e3 : w4.cell? ⟨b, off + i * 7 + 3, none⟩ = some (.int .i64 y.cond) := cell_later (HWO.out.trans (HB4.out.mono (Nat.le_of_lt HLT.out))) (HXC.out 3 _ rfl)
              have e4 : w4.cell? ⟨b, off + i * 7 + 4, none⟩ = some (.int .u32 y.allow) := cell_later (HWO.out.trans (HB4.out.mono (Nat.le_of_lt HLT.out))) (HXC.out 4 _ rfl)
              have e5 : w4.cell? ⟨b, off + i * 7 + 5, none⟩ = some (.int .u32 y.audit) := cell_later (HWO.out.trans (HB4.out.mono (Nat.le_of_lt HLT.out))) (HXC.out 5 _ rfl)
              have e6 : w4.cell? ⟨b, off + i * 7 + 6, none⟩ = some (.int .u32 y.dont) := cell_later (HWO.out.trans (HB4.out.mono (Nat.le_of_lt HLT.out))) (HXC.out 6 _ rfl)
              go_wp2_with (first | (have hZ := HB4; clear hZ; refine wpList_store_blk rfl 61 _ _ rfl w4.heap.size 0 (.agg #[.int .i64 y.src, .int .i64 y.tgt, .int .i64 y.cls, .int .i64 y.cond, .int .u32 y.allow, .int .u32 y.audit, .int .u32 y.dont]) rfl rfl 61 _ (Whole.new w4 61 _) (by simp [Value.cells]) size61 rfl ?_; intro w6 SY6 WY6; rw [splice_all _ _ (by rfl)] at WY6; have HSY6 := Lib.hid SY6; have HHY6 := Lib.hid (show Whole w6 w4.heap.size 61 #[.int .i64 y.src, .int .i64 y.tgt, .int .i64 y.cls, .int .i64 y.cond, .int .u32 y.allow, .int .u32 y.audit, .int .u32 y.dont] from WY6); clear SY6 WY6 e0 e1 e2 e3 e4 e5 e6; have hbn := (((Below.refl _ w4).alloc (Nat.le_refl _) _).trans (HSY6.out.below (Nat.le_refl _))); have HB6 := Lib.hid (HB4.out.trans (hbn.mono (Nat.le_trans HS0.out HB4.out.size))); have HO6 := Lib.hid (own_keep hbn HO4.out (Nat.le_refl _)); have HY6 := HHY6; have HOB := Lib.hid (own_below HO4.out); have HYL := Lib.hid (Nat.le_trans HS0.out HB4.out.size); clear hbn HSY6 HHY6 HO4 HB4) | (have hZ := HB6; clear hZ; refine wpList_load_row rfl 61 _ rfl w.heap.size rfl 61 _ (0, 0) _ (Whole.under HB6.out HX0.out HLT.out) Tryd.underlying61 rfl size61 ?_) | (have hZ := HY6; clear hZ; refine wpList_load_row rfl 61 _ rfl w4.heap.size rfl 61 _ (0, 0) _ HY6.out Tryd.underlying61 rfl size61 ?_) | (have hZ := HB6; clear hZ; go_at_call 59; go_must (refine (HXY.out w6).mono ?_; rintro e w7 ⟨rfl, hb7⟩; have HB7 := Lib.hid (HB6.out.trans (hb7.mono (Nat.le_trans HS0.out HB6.out.size))); have HO7 := Lib.hid (own_keep hb7 HO6.out (Nat.le_refl _)); have HY7 := Lib.hid (Whole.under hb7 HY6.out HY6.out.lt); clear hb7 HB6 HO6 HY6)) | (have hZ := HB7; clear hZ; refine wpList_load_row_g rfl 61 _ rfl w.heap.size rfl 61 _ (0, 0) _ (Whole.under HB7.out HX0.out HLT.out) Tryd.underlying61 rfl size61 ?_) | (have hZ := HY7; clear hZ; refine wpList_load_row_g rfl 61 _ rfl w4.heap.size rfl 61 _ (0, 0) _ HY7.out Tryd.underlying61 rfl size61 ?_) | (have hZ := HB7; clear hZ; go_at_call 59; go_must (refine (HYX.out w7).mono ?_; rintro e w8 ⟨rfl, hb8⟩; have HB8 := Lib.hid (HB7.out.trans (hb8.mono (Nat.le_trans HS0.out HB7.out.size))); have HO8 := Lib.hid (own_keep hb8 HO7.out (Nat.le_refl _)); have HY8 := Lib.hid (Whole.under hb8 HY7.out HY7.out.lt); clear hb8 HB7 HO7 HY7)) | (have hZ := HY8; clear hZ; refine wpList_load_row rfl 61 _ rfl w4.heap.size rfl 61 _ (0, 0) _ HY8.out Tryd.underlying61 rfl size61 ?_) | (have hZ := HB8; clear hZ; at_builtin; go_must (refine wpList_append_own _ rfl _ _ 52 rfl bs 61 i0 z0 7 48 Tryd.underlying52 hi0 hz0 hz1 hz2 hzs (by decide) _ _ _ rfl (own_alloc HO8.out _) ⟨w8.heap.size, 0, none⟩ 1 1 [.int .i64 y.src, .int .i64 y.tgt, .int .i64 y.cls, .int .i64 y.cond, .int .u32 y.allow, .int .u32 y.audit, .int .u32 y.dont] rfl rfl (row_new _ _ _) ?c2 ?c3 ?c4 ?c5 ?_)))
              case c2 => simp [Value.oneCell']
              case c3 => have := HOL.out; unfold maxLen; omega
              case c4 => have := HOL.out; omega
              case c5 => have := HS0.out; have := HB8.out.size; simp; omega
              intro u20 w20 ho20 hg20 hn20
              have HB20 := Lib.hid ((HB8.out.alloc (Nat.le_trans HS0.out HB8.out.size) _).grown hg20 (by have := HS0.out; have := HB8.out.size; simp; omega) (fun q hq => (HO8.out.lt q hq).1))
              have HO20 := Lib.hid ho20
              clear hg20 hn20 ho20 HO8 HB8
              go_wp2
              go_roundw
              case rel => exact ⟨i + 1, false, O ++ [y], by omega, by go_num, rfl, by rw [addFold_next HYI.out, HF.out]; simp [addStep, HBXY.out, HBYX.out], by simpa [AEntry.cells, joinE, mkE, AEntry.key, AEntry.vecs, AVec.or] using HO20.out, HB20.out⟩
              case measure => simp [intOf]; omega
            | false =>
              have HBYX := Lib.hid hyx
              have HYX := Lib.hid (show ∀ W, Calls Tryd.prog 59 #[.agg #[.int .i64 y.src, .int .i64 y.tgt, .int .i64 y.cls, .int .i64 y.cond, .int .u32 y.allow, .int .u32 y.audit, .int .u32 y.dont], .agg #[.int .i64 x.src, .int .i64 x.tgt, .int .i64 x.cls, .int .i64 x.cond, .int .u32 x.allow, .int .u32 x.audit, .int .u32 x.dont]] W fun e w' => e = .returned (.bool false) ∧ RowKit.Below W.heap.size W w' from fun W => by rw [← hyx]; exact rbefore_any W y x)
              clear hyx
              refine add8_f wr w.heap.size b off i n c x y false _ _ _ _ _ _ _ _ _ _ _ _ _ _ _ _ _ _ _ _ _ _ _ _ _ _ _ _ _ _ _ _ _ _ _ _ _ _ _ _ _ _ _ _ _ _ _ _ _ _ _ _ _ _ _ _ _ _ _ _ _ _ _ _ _ _ _ _ _ _ _ _ _ _ _ _ _ _ _ _ _ _ hlt (Lib.hid (Whole.under HBr.out HX0.out HLT.out)) HE HXY ?_
              intro v29 v30 v31 v32 v33 v34 v35 v36 v37 w4 hb4
              have HB4 := Lib.hid (HBr.out.trans (hb4.mono (Nat.le_trans HS0.out HBr.out.size)))
              have HO4 := Lib.hid (own_keep hb4 HOr.out (Nat.le_refl _))
              clear hb4 HE
              have e0 : w4.cell? ⟨b, off + i * 7, none⟩ = some (.int .i64 y.src) := cell_later (HWO.out.trans (HB4.out.mono (Nat.le_of_lt HLT.out))) (HXC.out 0 _ rfl)
              have e1 : w4.cell? ⟨b, off + i * 7 + 1, none⟩ = some (.int .i64 y.tgt) := cell_later (HWO.out.trans (HB4.out.mono (Nat.le_of_lt HLT.out))) (HXC.out 1 _ rfl)
              have e2 : w4.cell? ⟨b, off + i * 7 + 2, none⟩ = some (.int .i64 y.cls) := cell_later (HWO.out.trans (HB4.out.mono (Nat.le_of_lt HLT.out))) (HXC.out 2 _ rfl)
              have e3 : w4.cell? ⟨b, off + i * 7 + 3, none⟩ = some (.int .i64 y.cond) := cell_later (HWO.out.trans (HB4.out.mono (Nat.le_of_lt HLT.out))) (HXC.out 3 _ rfl)
              have e4 : w4.cell? ⟨b, off + i * 7 + 4, none⟩ = some (.int .u32 y.allow) := cell_later (HWO.out.trans (HB4.out.mono (Nat.le_of_lt HLT.out))) (HXC.out 4 _ rfl)
              have e5 : w4.cell? ⟨b, off + i * 7 + 5, none⟩ = some (.int .u32 y.audit) := cell_later (HWO.out.trans (HB4.out.mono (Nat.le_of_lt HLT.out))) (HXC.out 5 _ rfl)
              have e6 : w4.cell? ⟨b, off + i * 7 + 6, none⟩ = some (.int .u32 y.dont) := cell_later (HWO.out.trans (HB4.out.mono (Nat.le_of_lt HLT.out))) (HXC.out 6 _ rfl)
              go_wp2_with (first | (have hZ := HB4; clear hZ; refine wpList_store_blk rfl 61 _ _ rfl w4.heap.size 0 (.agg #[.int .i64 y.src, .int .i64 y.tgt, .int .i64 y.cls, .int .i64 y.cond, .int .u32 y.allow, .int .u32 y.audit, .int .u32 y.dont]) rfl rfl 61 _ (Whole.new w4 61 _) (by simp [Value.cells]) size61 rfl ?_; intro w6 SY6 WY6; rw [splice_all _ _ (by rfl)] at WY6; have HSY6 := Lib.hid SY6; have HHY6 := Lib.hid (show Whole w6 w4.heap.size 61 #[.int .i64 y.src, .int .i64 y.tgt, .int .i64 y.cls, .int .i64 y.cond, .int .u32 y.allow, .int .u32 y.audit, .int .u32 y.dont] from WY6); clear SY6 WY6 e0 e1 e2 e3 e4 e5 e6; have hbn := (((Below.refl _ w4).alloc (Nat.le_refl _) _).trans (HSY6.out.below (Nat.le_refl _))); have HB6 := Lib.hid (HB4.out.trans (hbn.mono (Nat.le_trans HS0.out HB4.out.size))); have HO6 := Lib.hid (own_keep hbn HO4.out (Nat.le_refl _)); have HY6 := HHY6; have HOB := Lib.hid (own_below HO4.out); have HYL := Lib.hid (Nat.le_trans HS0.out HB4.out.size); clear hbn HSY6 HHY6 HO4 HB4) | (have hZ := HB6; clear hZ; refine wpList_load_row rfl 61 _ rfl w.heap.size rfl 61 _ (0, 0) _ (Whole.under HB6.out HX0.out HLT.out) Tryd.underlying61 rfl size61 ?_) | (have hZ := HY6; clear hZ; refine wpList_load_row rfl 61 _ rfl w4.heap.size rfl 61 _ (0, 0) _ HY6.out Tryd.underlying61 rfl size61 ?_) | (have hZ := HB6; clear hZ; go_at_call 59; go_must (refine (HXY.out w6).mono ?_; rintro e w7 ⟨rfl, hb7⟩; have HB7 := Lib.hid (HB6.out.trans (hb7.mono (Nat.le_trans HS0.out HB6.out.size))); have HO7 := Lib.hid (own_keep hb7 HO6.out (Nat.le_refl _)); have HY7 := Lib.hid (Whole.under hb7 HY6.out HY6.out.lt); clear hb7 HB6 HO6 HY6)) | (have hZ := HB7; clear hZ; refine wpList_load_row_g rfl 61 _ rfl w.heap.size rfl 61 _ (0, 0) _ (Whole.under HB7.out HX0.out HLT.out) Tryd.underlying61 rfl size61 ?_) | (have hZ := HY7; clear hZ; refine wpList_load_row_g rfl 61 _ rfl w4.heap.size rfl 61 _ (0, 0) _ HY7.out Tryd.underlying61 rfl size61 ?_) | (have hZ := HB7; clear hZ; go_at_call 59; go_must (refine (HYX.out w7).mono ?_; rintro e w8 ⟨rfl, hb8⟩; have HB8 := Lib.hid (HB7.out.trans (hb8.mono (Nat.le_trans HS0.out HB7.out.size))); have HO8 := Lib.hid (own_keep hb8 HO7.out (Nat.le_refl _)); have HY8 := Lib.hid (Whole.under hb8 HY7.out HY7.out.lt); clear hb8 HB7 HO7 HY7; have hxx := Whole.under HB8.out HX0.out HLT.out; have y4 : w8.cell? ⟨w4.heap.size, 4, none⟩ = some _ := HY8.out.cell 4; have y5 : w8.cell? ⟨w4.heap.size, 5, none⟩ = some _ := HY8.out.cell 5; have y6 : w8.cell? ⟨w4.heap.size, 6, none⟩ = some _ := HY8.out.cell 6; have x4 : w8.cell? ⟨w.heap.size, 4, none⟩ = some _ := hxx.cell 4; have x5 : w8.cell? ⟨w.heap.size, 5, none⟩ = some _ := hxx.cell 5; have x6 : w8.cell? ⟨w.heap.size, 6, none⟩ = some _ := hxx.cell 6; clear hxx)) | (have hZ := HY8; clear hZ; refine wpList_store_blk rfl 25 _ _ rfl w4.heap.size 4 (.int .u32 (bits .or .u32 y.allow x.allow)) rfl rfl 61 _ HY8.out (by simp [Value.cells]) size25 rfl ?_; intro w9 S9 W9; have HB9 := Lib.hid (HB8.out.trans ((S9.below (Nat.le_refl _)).mono HYL.out)); have HO9 := Lib.hid (S9.own HO8.out (own_yb HOB.out)); have HY9 := Lib.hid (show Whole w9 w4.heap.size 61 #[.int .i64 y.src, .int .i64 y.tgt, .int .i64 y.cls, .int .i64 y.cond, .int .u32 (bits .or .u32 y.allow x.allow), .int .u32 y.audit, .int .u32 y.dont] from W9); clear S9 W9 HY8 HB8 HO8 y4 y5 y6 x4 x5 x6; have hxx := Whole.under HB9.out HX0.out HLT.out; have y4 : w9.cell? ⟨w4.heap.size, 4, none⟩ = some _ := HY9.out.cell 4; have y5 : w9.cell? ⟨w4.heap.size, 5, none⟩ = some _ := HY9.out.cell 5; have y6 : w9.cell? ⟨w4.heap.size, 6, none⟩ = some _ := HY9.out.cell 6; have x4 : w9.cell? ⟨w.heap.size, 4, none⟩ = some _ := hxx.cell 4; have x5 : w9.cell? ⟨w.heap.size, 5, none⟩ = some _ := hxx.cell 5; have x6 : w9.cell? ⟨w.heap.size, 6, none⟩ = some _ := hxx.cell 6; clear hxx) | (have hZ := HY9; clear hZ; refine wpList_store_blk rfl 25 _ _ rfl w4.heap.size 5 (.int .u32 (bits .or .u32 y.audit x.audit)) rfl rfl 61 _ HY9.out (by simp [Value.cells]) size25 rfl ?_; intro w10 S9 W9; have HB10 := Lib.hid (HB9.out.trans ((S9.below (Nat.le_refl _)).mono HYL.out)); have HO10 := Lib.hid (S9.own HO9.out (own_yb HOB.out)); have HY10 := Lib.hid (show Whole w10 w4.heap.size 61 #[.int .i64 y.src, .int .i64 y.tgt, .int .i64 y.cls, .int .i64 y.cond, .int .u32 (bits .or .u32 y.allow x.allow), .int .u32 (bits .or .u32 y.audit x.audit), .int .u32 y.dont] from W9); clear S9 W9 HY9 HB9 HO9 y4 y5 y6 x4 x5 x6; have hxx := Whole.under HB10.out HX0.out HLT.out; have y4 : w10.cell? ⟨w4.heap.size, 4, none⟩ = some _ := HY10.out.cell 4; have y5 : w10.cell? ⟨w4.heap.size, 5, none⟩ = some _ := HY10.out.cell 5; have y6 : w10.cell? ⟨w4.heap.size, 6, none⟩ = some _ := HY10.out.cell 6; have x4 : w10.cell? ⟨w.heap.size, 4, none⟩ = some _ := hxx.cell 4; have x5 : w10.cell? ⟨w.heap.size, 5, none⟩ = some _ := hxx.cell 5; have x6 : w10.cell? ⟨w.heap.size, 6, none⟩ = some _ := hxx.cell 6; clear hxx) | (have hZ := HY10; clear hZ; refine wpList_store_blk rfl 25 _ _ rfl w4.heap.size 6 (.int .u32 (bits .or .u32 y.dont x.dont)) rfl rfl 61 _ HY10.out (by simp [Value.cells]) size25 rfl ?_; intro w11 S9 W9; have HB11 := Lib.hid (HB10.out.trans ((S9.below (Nat.le_refl _)).mono HYL.out)); have HO11 := Lib.hid (S9.own HO10.out (own_yb HOB.out)); have HY11 := Lib.hid (show Whole w11 w4.heap.size 61 #[.int .i64 y.src, .int .i64 y.tgt, .int .i64 y.cls, .int .i64 y.cond, .int .u32 (bits .or .u32 y.allow x.allow), .int .u32 (bits .or .u32 y.audit x.audit), .int .u32 (bits .or .u32 y.dont x.dont)] from W9); clear S9 W9 HY10 HB10 HO10 y4 y5 y6 x4 x5 x6; skip) | (have hZ := HY11; clear hZ; refine wpList_load_row rfl 61 _ rfl w4.heap.size rfl 61 _ (0, 0) _ HY11.out Tryd.underlying61 rfl size61 ?_) | (have hZ := HB11; clear hZ; at_builtin; go_must (refine wpList_append_own _ rfl _ _ 52 rfl bs 61 i0 z0 7 48 Tryd.underlying52 hi0 hz0 hz1 hz2 hzs (by decide) _ _ _ rfl (own_alloc HO11.out _) ⟨w11.heap.size, 0, none⟩ 1 1 [.int .i64 y.src, .int .i64 y.tgt, .int .i64 y.cls, .int .i64 y.cond, .int .u32 (bits .or .u32 y.allow x.allow), .int .u32 (bits .or .u32 y.audit x.audit), .int .u32 (bits .or .u32 y.dont x.dont)] rfl rfl (row_new _ _ _) ?c2 ?c3 ?c4 ?c5 ?_)))
              case c2 => simp [Value.oneCell']
              case c3 => have := HOL.out; unfold maxLen; omega
              case c4 => have := HOL.out; omega
              case c5 => have := HS0.out; have := HB11.out.size; simp; omega
              intro u20 w20 ho20 hg20 hn20
              have HB20 := Lib.hid ((HB11.out.alloc (Nat.le_trans HS0.out HB11.out.size) _).grown hg20 (by have := HS0.out; have := HB11.out.size; simp; omega) (fun q hq => (HO11.out.lt q hq).1))
              have HO20 := Lib.hid ho20
              clear hg20 hn20 ho20 HO11 HB11
              go_wp2
              go_roundw
              case rel => exact ⟨i + 1, true, O ++ [joinE y x], by omega, by go_num, rfl, by rw [addFold_next HYI.out, HF.out]; simp [addStep, HBXY.out, HBYX.out], by simpa [AEntry.cells, joinE, mkE, AEntry.key, AEntry.vecs, AVec.or] using HO20.out, HB20.out⟩
              case measure => simp [intOf]; omega
        | true =>
          cases hxy : befB x y with
          | true =>
            have HBXY := Lib.hid hxy
            have HBYX := Lib.hid (befB_asymm hxy)
            have HXY := Lib.hid (show ∀ W, Calls Tryd.prog 59 #[.agg #[.int .i64 x.src, .int .i64 x.tgt, .int .i64 x.cls, .int .i64 x.cond, .int .u32 x.allow, .int .u32 x.audit, .int .u32 x.dont], .agg #[.int .i64 y.src, .int .i64 y.tgt, .int .i64 y.cls, .int .i64 y.cond, .int .u32 y.allow, .int .u32 y.audit, .int .u32 y.dont]] W fun e w' => e = .returned (.bool true) ∧ RowKit.Below W.heap.size W w' from fun W => by rw [← hxy]; exact rbefore_any W x y)
            clear hxy
            refine add8_t wr w.heap.size b off i n c x y _ _ _ _ _ _ _ _ _ _ _ _ _ _ _ _ _ _ _ _ _ _ _ _ _ _ _ _ _ _ _ _ _ _ _ _ _ _ _ _ _ _ _ _ _ _ _ _ _ _ _ _ _ _ _ _ _ _ _ _ _ _ _ _ _ _ _ _ _ _ _ _ _ _ _ _ _ _ _ _ _ _ hlt (Lib.hid (Whole.under HBr.out HX0.out HLT.out)) HE ?_
            intro v29 v30 v31 v32 v33 v34 v35 v36 v37 w4 hb4
            have HB4 := Lib.hid (HBr.out.trans (hb4.mono (Nat.le_trans HS0.out HBr.out.size)))
            have HO4 := Lib.hid (own_keep hb4 HOr.out (Nat.le_refl _))
            clear hb4 HE
            have e0 : w4.cell? ⟨b, off + i * 7, none⟩ = some (.int .i64 y.src) := cell_later (HWO.out.trans (HB4.out.mono (Nat.le_of_lt HLT.out))) (HXC.out 0 _ rfl)
            have e1 : w4.cell? ⟨b, off + i * 7 + 1, none⟩ = some (.int .i64 y.tgt) := cell_later (HWO.out.trans (HB4.out.mono (Nat.le_of_lt HLT.out))) (HXC.out 1 _ rfl)
            have e2 : w4.cell? ⟨b, off + i * 7 + 2, none⟩ = some (.int .i64 y.cls) := cell_later (HWO.out.trans (HB4.out.mono (Nat.le_of_lt HLT.out))) (HXC.out 2 _ rfl)
            have e3 : w4.cell? ⟨b, off + i * 7 + 3, none⟩ = some (.int .i64 y.cond) := cell_later (HWO.out.trans (HB4.out.mono (Nat.le_of_lt HLT.out))) (HXC.out 3 _ rfl)
            have e4 : w4.cell? ⟨b, off + i * 7 + 4, none⟩ = some (.int .u32 y.allow) := cell_later (HWO.out.trans (HB4.out.mono (Nat.le_of_lt HLT.out))) (HXC.out 4 _ rfl)
            have e5 : w4.cell? ⟨b, off + i * 7 + 5, none⟩ = some (.int .u32 y.audit) := cell_later (HWO.out.trans (HB4.out.mono (Nat.le_of_lt HLT.out))) (HXC.out 5 _ rfl)
            have e6 : w4.cell? ⟨b, off + i * 7 + 6, none⟩ = some (.int .u32 y.dont) := cell_later (HWO.out.trans (HB4.out.mono (Nat.le_of_lt HLT.out))) (HXC.out 6 _ rfl)
            go_wp2_with (first | (have hZ := HB4; clear hZ; refine wpList_store_blk rfl 61 _ _ rfl w4.heap.size 0 (.agg #[.int .i64 y.src, .int .i64 y.tgt, .int .i64 y.cls, .int .i64 y.cond, .int .u32 y.allow, .int .u32 y.audit, .int .u32 y.dont]) rfl rfl 61 _ (Whole.new w4 61 _) (by simp [Value.cells]) size61 rfl ?_; intro w6 SY6 WY6; rw [splice_all _ _ (by rfl)] at WY6; have HSY6 := Lib.hid SY6; have HHY6 := Lib.hid (show Whole w6 w4.heap.size 61 #[.int .i64 y.src, .int .i64 y.tgt, .int .i64 y.cls, .int .i64 y.cond, .int .u32 y.allow, .int .u32 y.audit, .int .u32 y.dont] from WY6); clear SY6 WY6 e0 e1 e2 e3 e4 e5 e6; have hbn := (((Below.refl _ w4).alloc (Nat.le_refl _) _).trans (HSY6.out.below (Nat.le_refl _))); have HB6 := Lib.hid (HB4.out.trans (hbn.mono (Nat.le_trans HS0.out HB4.out.size))); have HO6 := Lib.hid (own_keep hbn HO4.out (Nat.le_refl _)); have HY6 := HHY6; have HOB := Lib.hid (own_below HO4.out); have HYL := Lib.hid (Nat.le_trans HS0.out HB4.out.size); clear hbn HSY6 HHY6 HO4 HB4) | (have hZ := HB6; clear hZ; refine wpList_load_row rfl 61 _ rfl w.heap.size rfl 61 _ (0, 0) _ (Whole.under HB6.out HX0.out HLT.out) Tryd.underlying61 rfl size61 ?_) | (have hZ := HY6; clear hZ; refine wpList_load_row rfl 61 _ rfl w4.heap.size rfl 61 _ (0, 0) _ HY6.out Tryd.underlying61 rfl size61 ?_) | (have hZ := HB6; clear hZ; go_at_call 59; go_must (refine (HXY.out w6).mono ?_; rintro e w7 ⟨rfl, hb7⟩; have HB7 := Lib.hid (HB6.out.trans (hb7.mono (Nat.le_trans HS0.out HB6.out.size))); have HO7 := Lib.hid (own_keep hb7 HO6.out (Nat.le_refl _)); have HY7 := Lib.hid (Whole.under hb7 HY6.out HY6.out.lt); clear hb7 HB6 HO6 HY6)) | (have hZ := HY7; clear hZ; refine wpList_load_row rfl 61 _ rfl w4.heap.size rfl 61 _ (0, 0) _ HY7.out Tryd.underlying61 rfl size61 ?_) | (have hZ := HB7; clear hZ; at_builtin; go_must (refine wpList_append_own _ rfl _ _ 52 rfl bs 61 i0 z0 7 48 Tryd.underlying52 hi0 hz0 hz1 hz2 hzs (by decide) _ _ _ rfl (own_alloc HO7.out _) ⟨w7.heap.size, 0, none⟩ 1 1 [.int .i64 y.src, .int .i64 y.tgt, .int .i64 y.cls, .int .i64 y.cond, .int .u32 y.allow, .int .u32 y.audit, .int .u32 y.dont] rfl rfl (row_new _ _ _) ?c2 ?c3 ?c4 ?c5 ?_)))
            case c2 => simp [Value.oneCell']
            case c3 => have := HOL.out; unfold maxLen; omega
            case c4 => have := HOL.out; omega
            case c5 => have := HS0.out; have := HB7.out.size; simp; omega
            intro u20 w20 ho20 hg20 hn20
            have HB20 := Lib.hid ((HB7.out.alloc (Nat.le_trans HS0.out HB7.out.size) _).grown hg20 (by have := HS0.out; have := HB7.out.size; simp; omega) (fun q hq => (HO7.out.lt q hq).1))
            have HO20 := Lib.hid ho20
            clear hg20 hn20 ho20 HO7 HB7
            go_wp2
            go_roundw
            case rel => exact ⟨i + 1, true, O ++ [y], by omega, by go_num, rfl, by rw [addFold_next HYI.out, HF.out]; simp [addStep, HBXY.out, HBYX.out], by simpa [AEntry.cells, joinE, mkE, AEntry.key, AEntry.vecs, AVec.or] using HO20.out, HB20.out⟩
            case measure => simp [intOf]; omega
          | false =>
            have HBXY := Lib.hid hxy
            have HXY := Lib.hid (show ∀ W, Calls Tryd.prog 59 #[.agg #[.int .i64 x.src, .int .i64 x.tgt, .int .i64 x.cls, .int .i64 x.cond, .int .u32 x.allow, .int .u32 x.audit, .int .u32 x.dont], .agg #[.int .i64 y.src, .int .i64 y.tgt, .int .i64 y.cls, .int .i64 y.cond, .int .u32 y.allow, .int .u32 y.audit, .int .u32 y.dont]] W fun e w' => e = .returned (.bool false) ∧ RowKit.Below W.heap.size W w' from fun W => by rw [← hxy]; exact rbefore_any W x y)
            clear hxy
            cases hyx : befB y x with
            | true =>
              have HBYX := Lib.hid hyx
              have HYX := Lib.hid (show ∀ W, Calls Tryd.prog 59 #[.agg #[.int .i64 y.src, .int .i64 y.tgt, .int .i64 y.cls, .int .i64 y.cond, .int .u32 y.allow, .int .u32 y.audit, .int .u32 y.dont], .agg #[.int .i64 x.src, .int .i64 x.tgt, .int .i64 x.cls, .int .i64 x.cond, .int .u32 x.allow, .int .u32 x.audit, .int .u32 x.dont]] W fun e w' => e = .returned (.bool true) ∧ RowKit.Below W.heap.size W w' from fun W => by rw [← hyx]; exact rbefore_any W y x)
              clear hyx
              refine add8_t wr w.heap.size b off i n c x y _ _ _ _ _ _ _ _ _ _ _ _ _ _ _ _ _ _ _ _ _ _ _ _ _ _ _ _ _ _ _ _ _ _ _ _ _ _ _ _ _ _ _ _ _ _ _ _ _ _ _ _ _ _ _ _ _ _ _ _ _ _ _ _ _ _ _ _ _ _ _ _ _ _ _ _ _ _ _ _ _ _ hlt (Lib.hid (Whole.under HBr.out HX0.out HLT.out)) HE ?_
              intro v29 v30 v31 v32 v33 v34 v35 v36 v37 w4 hb4
              have HB4 := Lib.hid (HBr.out.trans (hb4.mono (Nat.le_trans HS0.out HBr.out.size)))
              have HO4 := Lib.hid (own_keep hb4 HOr.out (Nat.le_refl _))
              clear hb4 HE
              have e0 : w4.cell? ⟨b, off + i * 7, none⟩ = some (.int .i64 y.src) := cell_later (HWO.out.trans (HB4.out.mono (Nat.le_of_lt HLT.out))) (HXC.out 0 _ rfl)
              have e1 : w4.cell? ⟨b, off + i * 7 + 1, none⟩ = some (.int .i64 y.tgt) := cell_later (HWO.out.trans (HB4.out.mono (Nat.le_of_lt HLT.out))) (HXC.out 1 _ rfl)
              have e2 : w4.cell? ⟨b, off + i * 7 + 2, none⟩ = some (.int .i64 y.cls) := cell_later (HWO.out.trans (HB4.out.mono (Nat.le_of_lt HLT.out))) (HXC.out 2 _ rfl)
              have e3 : w4.cell? ⟨b, off + i * 7 + 3, none⟩ = some (.int .i64 y.cond) := cell_later (HWO.out.trans (HB4.out.mono (Nat.le_of_lt HLT.out))) (HXC.out 3 _ rfl)
              have e4 : w4.cell? ⟨b, off + i * 7 + 4, none⟩ = some (.int .u32 y.allow) := cell_later (HWO.out.trans (HB4.out.mono (Nat.le_of_lt HLT.out))) (HXC.out 4 _ rfl)
              have e5 : w4.cell? ⟨b, off + i * 7 + 5, none⟩ = some (.int .u32 y.audit) := cell_later (HWO.out.trans (HB4.out.mono (Nat.le_of_lt HLT.out))) (HXC.out 5 _ rfl)
              have e6 : w4.cell? ⟨b, off + i * 7 + 6, none⟩ = some (.int .u32 y.dont) := cell_later (HWO.out.trans (HB4.out.mono (Nat.le_of_lt HLT.out))) (HXC.out 6 _ rfl)
              go_wp2_with (first | (have hZ := HB4; clear hZ; refine wpList_store_blk rfl 61 _ _ rfl w4.heap.size 0 (.agg #[.int .i64 y.src, .int .i64 y.tgt, .int .i64 y.cls, .int .i64 y.cond, .int .u32 y.allow, .int .u32 y.audit, .int .u32 y.dont]) rfl rfl 61 _ (Whole.new w4 61 _) (by simp [Value.cells]) size61 rfl ?_; intro w6 SY6 WY6; rw [splice_all _ _ (by rfl)] at WY6; have HSY6 := Lib.hid SY6; have HHY6 := Lib.hid (show Whole w6 w4.heap.size 61 #[.int .i64 y.src, .int .i64 y.tgt, .int .i64 y.cls, .int .i64 y.cond, .int .u32 y.allow, .int .u32 y.audit, .int .u32 y.dont] from WY6); clear SY6 WY6 e0 e1 e2 e3 e4 e5 e6; have hbn := (((Below.refl _ w4).alloc (Nat.le_refl _) _).trans (HSY6.out.below (Nat.le_refl _))); have HB6 := Lib.hid (HB4.out.trans (hbn.mono (Nat.le_trans HS0.out HB4.out.size))); have HO6 := Lib.hid (own_keep hbn HO4.out (Nat.le_refl _)); have HY6 := HHY6; have HOB := Lib.hid (own_below HO4.out); have HYL := Lib.hid (Nat.le_trans HS0.out HB4.out.size); clear hbn HSY6 HHY6 HO4 HB4) | (have hZ := HB6; clear hZ; refine wpList_load_row rfl 61 _ rfl w.heap.size rfl 61 _ (0, 0) _ (Whole.under HB6.out HX0.out HLT.out) Tryd.underlying61 rfl size61 ?_) | (have hZ := HY6; clear hZ; refine wpList_load_row rfl 61 _ rfl w4.heap.size rfl 61 _ (0, 0) _ HY6.out Tryd.underlying61 rfl size61 ?_) | (have hZ := HB6; clear hZ; go_at_call 59; go_must (refine (HXY.out w6).mono ?_; rintro e w7 ⟨rfl, hb7⟩; have HB7 := Lib.hid (HB6.out.trans (hb7.mono (Nat.le_trans HS0.out HB6.out.size))); have HO7 := Lib.hid (own_keep hb7 HO6.out (Nat.le_refl _)); have HY7 := Lib.hid (Whole.under hb7 HY6.out HY6.out.lt); clear hb7 HB6 HO6 HY6)) | (have hZ := HB7; clear hZ; refine wpList_load_row_g rfl 61 _ rfl w.heap.size rfl 61 _ (0, 0) _ (Whole.under HB7.out HX0.out HLT.out) Tryd.underlying61 rfl size61 ?_) | (have hZ := HY7; clear hZ; refine wpList_load_row_g rfl 61 _ rfl w4.heap.size rfl 61 _ (0, 0) _ HY7.out Tryd.underlying61 rfl size61 ?_) | (have hZ := HB7; clear hZ; go_at_call 59; go_must (refine (HYX.out w7).mono ?_; rintro e w8 ⟨rfl, hb8⟩; have HB8 := Lib.hid (HB7.out.trans (hb8.mono (Nat.le_trans HS0.out HB7.out.size))); have HO8 := Lib.hid (own_keep hb8 HO7.out (Nat.le_refl _)); have HY8 := Lib.hid (Whole.under hb8 HY7.out HY7.out.lt); clear hb8 HB7 HO7 HY7)) | (have hZ := HY8; clear hZ; refine wpList_load_row rfl 61 _ rfl w4.heap.size rfl 61 _ (0, 0) _ HY8.out Tryd.underlying61 rfl size61 ?_) | (have hZ := HB8; clear hZ; at_builtin; go_must (refine wpList_append_own _ rfl _ _ 52 rfl bs 61 i0 z0 7 48 Tryd.underlying52 hi0 hz0 hz1 hz2 hzs (by decide) _ _ _ rfl (own_alloc HO8.out _) ⟨w8.heap.size, 0, none⟩ 1 1 [.int .i64 y.src, .int .i64 y.tgt, .int .i64 y.cls, .int .i64 y.cond, .int .u32 y.allow, .int .u32 y.audit, .int .u32 y.dont] rfl rfl (row_new _ _ _) ?c2 ?c3 ?c4 ?c5 ?_)))
              case c2 => simp [Value.oneCell']
              case c3 => have := HOL.out; unfold maxLen; omega
              case c4 => have := HOL.out; omega
              case c5 => have := HS0.out; have := HB8.out.size; simp; omega
              intro u20 w20 ho20 hg20 hn20
              have HB20 := Lib.hid ((HB8.out.alloc (Nat.le_trans HS0.out HB8.out.size) _).grown hg20 (by have := HS0.out; have := HB8.out.size; simp; omega) (fun q hq => (HO8.out.lt q hq).1))
              have HO20 := Lib.hid ho20
              clear hg20 hn20 ho20 HO8 HB8
              go_wp2
              go_roundw
              case rel => exact ⟨i + 1, true, O ++ [y], by omega, by go_num, rfl, by rw [addFold_next HYI.out, HF.out]; simp [addStep, HBXY.out, HBYX.out], by simpa [AEntry.cells, joinE, mkE, AEntry.key, AEntry.vecs, AVec.or] using HO20.out, HB20.out⟩
              case measure => simp [intOf]; omega
            | false =>
              have HBYX := Lib.hid hyx
              have HYX := Lib.hid (show ∀ W, Calls Tryd.prog 59 #[.agg #[.int .i64 y.src, .int .i64 y.tgt, .int .i64 y.cls, .int .i64 y.cond, .int .u32 y.allow, .int .u32 y.audit, .int .u32 y.dont], .agg #[.int .i64 x.src, .int .i64 x.tgt, .int .i64 x.cls, .int .i64 x.cond, .int .u32 x.allow, .int .u32 x.audit, .int .u32 x.dont]] W fun e w' => e = .returned (.bool false) ∧ RowKit.Below W.heap.size W w' from fun W => by rw [← hyx]; exact rbefore_any W y x)
              clear hyx
              refine add8_t wr w.heap.size b off i n c x y _ _ _ _ _ _ _ _ _ _ _ _ _ _ _ _ _ _ _ _ _ _ _ _ _ _ _ _ _ _ _ _ _ _ _ _ _ _ _ _ _ _ _ _ _ _ _ _ _ _ _ _ _ _ _ _ _ _ _ _ _ _ _ _ _ _ _ _ _ _ _ _ _ _ _ _ _ _ _ _ _ _ hlt (Lib.hid (Whole.under HBr.out HX0.out HLT.out)) HE ?_
              intro v29 v30 v31 v32 v33 v34 v35 v36 v37 w4 hb4
              have HB4 := Lib.hid (HBr.out.trans (hb4.mono (Nat.le_trans HS0.out HBr.out.size)))
              have HO4 := Lib.hid (own_keep hb4 HOr.out (Nat.le_refl _))
              clear hb4 HE
              have e0 : w4.cell? ⟨b, off + i * 7, none⟩ = some (.int .i64 y.src) := cell_later (HWO.out.trans (HB4.out.mono (Nat.le_of_lt HLT.out))) (HXC.out 0 _ rfl)
              have e1 : w4.cell? ⟨b, off + i * 7 + 1, none⟩ = some (.int .i64 y.tgt) := cell_later (HWO.out.trans (HB4.out.mono (Nat.le_of_lt HLT.out))) (HXC.out 1 _ rfl)
              have e2 : w4.cell? ⟨b, off + i * 7 + 2, none⟩ = some (.int .i64 y.cls) := cell_later (HWO.out.trans (HB4.out.mono (Nat.le_of_lt HLT.out))) (HXC.out 2 _ rfl)
              have e3 : w4.cell? ⟨b, off + i * 7 + 3, none⟩ = some (.int .i64 y.cond) := cell_later (HWO.out.trans (HB4.out.mono (Nat.le_of_lt HLT.out))) (HXC.out 3 _ rfl)
              have e4 : w4.cell? ⟨b, off + i * 7 + 4, none⟩ = some (.int .u32 y.allow) := cell_later (HWO.out.trans (HB4.out.mono (Nat.le_of_lt HLT.out))) (HXC.out 4 _ rfl)
              have e5 : w4.cell? ⟨b, off + i * 7 + 5, none⟩ = some (.int .u32 y.audit) := cell_later (HWO.out.trans (HB4.out.mono (Nat.le_of_lt HLT.out))) (HXC.out 5 _ rfl)
              have e6 : w4.cell? ⟨b, off + i * 7 + 6, none⟩ = some (.int .u32 y.dont) := cell_later (HWO.out.trans (HB4.out.mono (Nat.le_of_lt HLT.out))) (HXC.out 6 _ rfl)
              go_wp2_with (first | (have hZ := HB4; clear hZ; refine wpList_store_blk rfl 61 _ _ rfl w4.heap.size 0 (.agg #[.int .i64 y.src, .int .i64 y.tgt, .int .i64 y.cls, .int .i64 y.cond, .int .u32 y.allow, .int .u32 y.audit, .int .u32 y.dont]) rfl rfl 61 _ (Whole.new w4 61 _) (by simp [Value.cells]) size61 rfl ?_; intro w6 SY6 WY6; rw [splice_all _ _ (by rfl)] at WY6; have HSY6 := Lib.hid SY6; have HHY6 := Lib.hid (show Whole w6 w4.heap.size 61 #[.int .i64 y.src, .int .i64 y.tgt, .int .i64 y.cls, .int .i64 y.cond, .int .u32 y.allow, .int .u32 y.audit, .int .u32 y.dont] from WY6); clear SY6 WY6 e0 e1 e2 e3 e4 e5 e6; have hbn := (((Below.refl _ w4).alloc (Nat.le_refl _) _).trans (HSY6.out.below (Nat.le_refl _))); have HB6 := Lib.hid (HB4.out.trans (hbn.mono (Nat.le_trans HS0.out HB4.out.size))); have HO6 := Lib.hid (own_keep hbn HO4.out (Nat.le_refl _)); have HY6 := HHY6; have HOB := Lib.hid (own_below HO4.out); have HYL := Lib.hid (Nat.le_trans HS0.out HB4.out.size); clear hbn HSY6 HHY6 HO4 HB4) | (have hZ := HB6; clear hZ; refine wpList_load_row rfl 61 _ rfl w.heap.size rfl 61 _ (0, 0) _ (Whole.under HB6.out HX0.out HLT.out) Tryd.underlying61 rfl size61 ?_) | (have hZ := HY6; clear hZ; refine wpList_load_row rfl 61 _ rfl w4.heap.size rfl 61 _ (0, 0) _ HY6.out Tryd.underlying61 rfl size61 ?_) | (have hZ := HB6; clear hZ; go_at_call 59; go_must (refine (HXY.out w6).mono ?_; rintro e w7 ⟨rfl, hb7⟩; have HB7 := Lib.hid (HB6.out.trans (hb7.mono (Nat.le_trans HS0.out HB6.out.size))); have HO7 := Lib.hid (own_keep hb7 HO6.out (Nat.le_refl _)); have HY7 := Lib.hid (Whole.under hb7 HY6.out HY6.out.lt); clear hb7 HB6 HO6 HY6)) | (have hZ := HB7; clear hZ; refine wpList_load_row_g rfl 61 _ rfl w.heap.size rfl 61 _ (0, 0) _ (Whole.under HB7.out HX0.out HLT.out) Tryd.underlying61 rfl size61 ?_) | (have hZ := HY7; clear hZ; refine wpList_load_row_g rfl 61 _ rfl w4.heap.size rfl 61 _ (0, 0) _ HY7.out Tryd.underlying61 rfl size61 ?_) | (have hZ := HB7; clear hZ; go_at_call 59; go_must (refine (HYX.out w7).mono ?_; rintro e w8 ⟨rfl, hb8⟩; have HB8 := Lib.hid (HB7.out.trans (hb8.mono (Nat.le_trans HS0.out HB7.out.size))); have HO8 := Lib.hid (own_keep hb8 HO7.out (Nat.le_refl _)); have HY8 := Lib.hid (Whole.under hb8 HY7.out HY7.out.lt); clear hb8 HB7 HO7 HY7; have hxx := Whole.under HB8.out HX0.out HLT.out; have y4 : w8.cell? ⟨w4.heap.size, 4, none⟩ = some _ := HY8.out.cell 4; have y5 : w8.cell? ⟨w4.heap.size, 5, none⟩ = some _ := HY8.out.cell 5; have y6 : w8.cell? ⟨w4.heap.size, 6, none⟩ = some _ := HY8.out.cell 6; have x4 : w8.cell? ⟨w.heap.size, 4, none⟩ = some _ := hxx.cell 4; have x5 : w8.cell? ⟨w.heap.size, 5, none⟩ = some _ := hxx.cell 5; have x6 : w8.cell? ⟨w.heap.size, 6, none⟩ = some _ := hxx.cell 6; clear hxx)) | (have hZ := HY8; clear hZ; refine wpList_store_blk rfl 25 _ _ rfl w4.heap.size 4 (.int .u32 (bits .or .u32 y.allow x.allow)) rfl rfl 61 _ HY8.out (by simp [Value.cells]) size25 rfl ?_; intro w9 S9 W9; have HB9 := Lib.hid (HB8.out.trans ((S9.below (Nat.le_refl _)).mono HYL.out)); have HO9 := Lib.hid (S9.own HO8.out (own_yb HOB.out)); have HY9 := Lib.hid (show Whole w9 w4.heap.size 61 #[.int .i64 y.src, .int .i64 y.tgt, .int .i64 y.cls, .int .i64 y.cond, .int .u32 (bits .or .u32 y.allow x.allow), .int .u32 y.audit, .int .u32 y.dont] from W9); clear S9 W9 HY8 HB8 HO8 y4 y5 y6 x4 x5 x6; have hxx := Whole.under HB9.out HX0.out HLT.out; have y4 : w9.cell? ⟨w4.heap.size, 4, none⟩ = some _ := HY9.out.cell 4; have y5 : w9.cell? ⟨w4.heap.size, 5, none⟩ = some _ := HY9.out.cell 5; have y6 : w9.cell? ⟨w4.heap.size, 6, none⟩ = some _ := HY9.out.cell 6; have x4 : w9.cell? ⟨w.heap.size, 4, none⟩ = some _ := hxx.cell 4; have x5 : w9.cell? ⟨w.heap.size, 5, none⟩ = some _ := hxx.cell 5; have x6 : w9.cell? ⟨w.heap.size, 6, none⟩ = some _ := hxx.cell 6; clear hxx) | (have hZ := HY9; clear hZ; refine wpList_store_blk rfl 25 _ _ rfl w4.heap.size 5 (.int .u32 (bits .or .u32 y.audit x.audit)) rfl rfl 61 _ HY9.out (by simp [Value.cells]) size25 rfl ?_; intro w10 S9 W9; have HB10 := Lib.hid (HB9.out.trans ((S9.below (Nat.le_refl _)).mono HYL.out)); have HO10 := Lib.hid (S9.own HO9.out (own_yb HOB.out)); have HY10 := Lib.hid (show Whole w10 w4.heap.size 61 #[.int .i64 y.src, .int .i64 y.tgt, .int .i64 y.cls, .int .i64 y.cond, .int .u32 (bits .or .u32 y.allow x.allow), .int .u32 (bits .or .u32 y.audit x.audit), .int .u32 y.dont] from W9); clear S9 W9 HY9 HB9 HO9 y4 y5 y6 x4 x5 x6; have hxx := Whole.under HB10.out HX0.out HLT.out; have y4 : w10.cell? ⟨w4.heap.size, 4, none⟩ = some _ := HY10.out.cell 4; have y5 : w10.cell? ⟨w4.heap.size, 5, none⟩ = some _ := HY10.out.cell 5; have y6 : w10.cell? ⟨w4.heap.size, 6, none⟩ = some _ := HY10.out.cell 6; have x4 : w10.cell? ⟨w.heap.size, 4, none⟩ = some _ := hxx.cell 4; have x5 : w10.cell? ⟨w.heap.size, 5, none⟩ = some _ := hxx.cell 5; have x6 : w10.cell? ⟨w.heap.size, 6, none⟩ = some _ := hxx.cell 6; clear hxx) | (have hZ := HY10; clear hZ; refine wpList_store_blk rfl 25 _ _ rfl w4.heap.size 6 (.int .u32 (bits .or .u32 y.dont x.dont)) rfl rfl 61 _ HY10.out (by simp [Value.cells]) size25 rfl ?_; intro w11 S9 W9; have HB11 := Lib.hid (HB10.out.trans ((S9.below (Nat.le_refl _)).mono HYL.out)); have HO11 := Lib.hid (S9.own HO10.out (own_yb HOB.out)); have HY11 := Lib.hid (show Whole w11 w4.heap.size 61 #[.int .i64 y.src, .int .i64 y.tgt, .int .i64 y.cls, .int .i64 y.cond, .int .u32 (bits .or .u32 y.allow x.allow), .int .u32 (bits .or .u32 y.audit x.audit), .int .u32 (bits .or .u32 y.dont x.dont)] from W9); clear S9 W9 HY10 HB10 HO10 y4 y5 y6 x4 x5 x6; skip) | (have hZ := HY11; clear hZ; refine wpList_load_row rfl 61 _ rfl w4.heap.size rfl 61 _ (0, 0) _ HY11.out Tryd.underlying61 rfl size61 ?_) | (have hZ := HB11; clear hZ; at_builtin; go_must (refine wpList_append_own _ rfl _ _ 52 rfl bs 61 i0 z0 7 48 Tryd.underlying52 hi0 hz0 hz1 hz2 hzs (by decide) _ _ _ rfl (own_alloc HO11.out _) ⟨w11.heap.size, 0, none⟩ 1 1 [.int .i64 y.src, .int .i64 y.tgt, .int .i64 y.cls, .int .i64 y.cond, .int .u32 (bits .or .u32 y.allow x.allow), .int .u32 (bits .or .u32 y.audit x.audit), .int .u32 (bits .or .u32 y.dont x.dont)] rfl rfl (row_new _ _ _) ?c2 ?c3 ?c4 ?c5 ?_)))
              case c2 => simp [Value.oneCell']
              case c3 => have := HOL.out; unfold maxLen; omega
              case c4 => have := HOL.out; omega
              case c5 => have := HS0.out; have := HB11.out.size; simp; omega
              intro u20 w20 ho20 hg20 hn20
              have HB20 := Lib.hid ((HB11.out.alloc (Nat.le_trans HS0.out HB11.out.size) _).grown hg20 (by have := HS0.out; have := HB11.out.size; simp; omega) (fun q hq => (HO11.out.lt q hq).1))
              have HO20 := Lib.hid ho20
              clear hg20 hn20 ho20 HO11 HB11
              go_wp2
              go_roundw
              case rel => exact ⟨i + 1, true, O ++ [joinE y x], by omega, by go_num, rfl, by rw [addFold_next HYI.out, HF.out]; simp [addStep, HBXY.out, HBYX.out], by simpa [AEntry.cells, joinE, mkE, AEntry.key, AEntry.vecs, AVec.or] using HO20.out, HB20.out⟩
              case measure => simp [intOf]; omega
      · obtain rfl : i = n := by omega
        have HAF := Lib.hid (show addR l x = if d then O else O ++ [x] by
          rw [HR.out]
          unfold addF
          have h := HF.out
          rw [HL.out, List.take_length] at h
          rw [h])
        clear hlt hi
        cases d with
        | true =>
          go_wp2_with fail
          go_ret
          exact ⟨_, rfl, by rw [HAF.out]; exact SliceAt.of_own HOr.out (ecells_one _), HWr.out⟩
        | false =>
          go_wp2_with (first | (have hZ := HBr; clear hZ; refine wpList_load_row rfl 61 _ rfl w.heap.size rfl 61 _ (0, 0) _ (Whole.under HBr.out HX0.out HLT.out) Tryd.underlying61 rfl size61 ?_) | (have hZ := HBr; clear hZ; at_builtin; go_must (refine wpList_append_own _ rfl _ _ 52 rfl bs 61 i0 z0 7 48 Tryd.underlying52 hi0 hz0 hz1 hz2 hzs (by decide) _ _ _ rfl (own_alloc HOr.out _) ⟨wr.heap.size, 0, none⟩ 1 1 [.int .i64 x.src, .int .i64 x.tgt, .int .i64 x.cls, .int .i64 x.cond, .int .u32 x.allow, .int .u32 x.audit, .int .u32 x.dont] rfl rfl (row_new _ _ _) ?c2 ?c3 ?c4 ?c5 ?_)))
          case c2 => simp [Value.oneCell']
          case c3 => have := HOL.out; unfold maxLen; omega
          case c4 => have := HOL.out; omega
          case c5 => have := HS0.out; have := HBr.out.size; simp; omega
          intro u21 w21 ho21 hg21 hn21
          have HB21 := Lib.hid ((HBr.out.alloc (Nat.le_trans HS0.out HBr.out.size) _).grown hg21 (by have := HS0.out; have := HBr.out.size; simp; omega) (fun q hq => (HOr.out.lt q hq).1))
          have HO21 := Lib.hid ho21
          clear hg21 hn21 ho21 HOr HBr
          go_wp2
          go_ret
          exact ⟨_, rfl, by rw [HAF.out]; exact SliceAt.of_own (by simpa [AEntry.cells] using HO21.out) (ecells_one _), HWO.out.trans (HB21.out.mono (Nat.le_of_lt HLT.out))⟩
end Go.Proofs.YtmkfabdkadocdaaDoor

/-
  The reference's targets.
-/
namespace Go.Proofs.YtmkfabdkadocdaaDoor
open Go Go.WideMaps Go.RowKit Go.Sort

/-- Whether an entry is one of a source for a rule. -/
def AEntry.hit (x : AEntry) (r : ARule) (s : Int) : Bool := decide (x.src = s) && x.fits r
def tgtStep (r : ARule) (s : Int) (a : ASet) (x : AEntry) : ASet := if x.hit r s then a.with x.tgt else a
def tgtF (l : List AEntry) (r : ARule) (s : Int) : ASet := l.foldl (tgtStep r s) ASet.zero
theorem tgtF_next {l : List AEntry} {i : Nat} {x : AEntry} {r : ARule} {s : Int} (h : l[i]? = some x) : tgtF (l.take (i + 1)) r s = if x.hit r s then (tgtF (l.take i) r s).with x.tgt else tgtF (l.take i) r s := by
  unfold tgtF
  rw [take_snoc h, List.foldl_append]
  rfl
set_option maxRecDepth 100000 in
set_option maxHeartbeats 4000000 in
theorem tgt5_t (w : World) (rb b off i n c : Nat) (r : ARule) (x : AEntry) (s : Int) (q : Bool) (x1 x3 x5 x6 x7 x9 x10 x11 x12 x13 x14 x15 x16 x17 x18 x19 x20 x21 x22 x23 x24 x25 x26 x27 x28 x29 x30 x31 x32 x33 x34 x35 x36 x37 : Value) (hin : i < n) (HR : Hid (Whole w rb 27 #[.int .i64 r.kind, .int .u64 r.src.a, .int .u64 r.src.b, .int .u64 r.src.c, .int .u64 r.src.d, .int .u64 r.tgt.a, .int .u64 r.tgt.b, .int .u64 r.tgt.c, .int .u64 r.tgt.d, .bool r.self, .int .i64 r.cls, .int .u32 r.perms, .int .i64 r.cond])) (HE : Hid (∀ j u, x.cells[j]? = some u → w.cell? ⟨b, off + i * 7 + j, none⟩ = some u)) (hs : (x.src == s) = true) (HF : Hid (∀ W, Calls Tryd.prog 43 #[.agg #[.int .i64 x.src, .int .i64 x.tgt, .int .i64 x.cls, .int .i64 x.cond, .int .u32 x.allow, .int .u32 x.audit, .int .u32 x.dont], .agg #[.int .i64 r.kind, .int .u64 r.src.a, .int .u64 r.src.b, .int .u64 r.src.c, .int .u64 r.src.d, .int .u64 r.tgt.a, .int .u64 r.tgt.b, .int .u64 r.tgt.c, .int .u64 r.tgt.d, .bool r.self, .int .i64 r.cls, .int .u32 r.perms, .int .i64 r.cond]] W fun e w' => e = .returned (.bool q) ∧ RowKit.Below W.heap.size W w'))
    {Q' : Exit → Act → World → Prop} (hend : ∀ (v15 v16 v17 v18 v19 v20 v21 v22 v23 v24 v25 v26 v27 v28 : Value) (w' : World), RowKit.Below w.heap.size w w' → Q' .normal ⟨#[.slice (some ⟨b, off, none⟩) n c, x1, .int .i64 s, x3, .pointer (some ⟨rb, 0, none⟩), x5, x6, x7, .int .i64 (i : Int), x9, x10, x11, x12, x13, x14, v15, v16, v17, v18, v19, v20, v21, v22, v23, v24, v25, v26, v27, v28, .bool q, x30, x31, x32, x33, x34, x35, x36, x37], []⟩ w') :
    Code.wp Tryd.prog (findRegion7 5 ((Tryd.f42.body).getD .skip)) Q' ⟨#[.slice (some ⟨b, off, none⟩) n c, x1, .int .i64 s, x3, .pointer (some ⟨rb, 0, none⟩), x5, x6, x7, .int .i64 (i : Int), x9, x10, x11, x12, x13, x14, x15, x16, x17, x18, x19, x20, x21, x22, x23, x24, x25, x26, x27, x28, x29, x30, x31, x32, x33, x34, x35, x36, x37], []⟩ w := by
  have HEND := Lib.hid hend
  clear hend
  conv => arg 2; whnf
  conv => arg 4; dsimp only
  refine wp_region_goods [some 15, some 16, some 17, some 18, some 19, some 20, some 21, some 22, some 23, some 24, some 25, some 26, some 27, some 28] [isW (.slice (some ⟨b, off, none⟩) n c), isW (.int .i64 (i : Int)), isW (.pointer (some ⟨b, off + i * 7, none⟩)), isW (.pointer (some ⟨b, off + i * 7, none⟩)), isW (.int .i64 x.src), isW (.int .i64 s), isW (.bool true), isW (.bool true), isW (.slice (some ⟨b, off, none⟩) n c), isW (.int .i64 (i : Int)), isW (.pointer (some ⟨b, off + i * 7, none⟩)), isW (.agg #[.int .i64 x.src, .int .i64 x.tgt, .int .i64 x.cls, .int .i64 x.cond, .int .u32 x.allow, .int .u32 x.audit, .int .u32 x.dont]), isW (.agg #[.int .i64 r.kind, .int .u64 r.src.a, .int .u64 r.src.b, .int .u64 r.src.c, .int .u64 r.src.d, .int .u64 r.tgt.a, .int .u64 r.tgt.b, .int .u64 r.tgt.c, .int .u64 r.tgt.d, .bool r.self, .int .i64 r.cls, .int .u32 r.perms, .int .i64 r.cond]), isW (.bool q)] (fun _ w' => RowKit.Below w.heap.size w w') [] (by kernel_rfl) (by kernel_rfl) (by kernel_rfl) rfl (by decide) rfl rfl ((Below.refl _ _).drew) ⟨lastsW_is _, lastsW_is _, lastsW_is _, lastsW_is _, lastsW_is _, lastsW_is _, lastsW_is _, lastsW_is _, lastsW_is _, lastsW_is _, lastsW_is _, lastsW_is _, lastsW_is _, lastsW_is _, trivial⟩ ⟨?_, ?_, ?_, ?_, ?_, ?_, ?_, ?_, ?_, ?_, ?_, ?_, ?_, ?_, ?_⟩
  · intro L a wy Q' hL hi H F hK
    try dsimp only at hi
    have h0 : a.tmps[0]? = some (.slice (some ⟨b, off, none⟩) n c) := F 0 rfl
    have HI := Lib.hid hi
    clear H F hi hL
    go_wp2_with fail
    exact hK _ _ (Below.refl _ _) HI.out rfl
  · intro L a wy Q' hL hi H F hK
    try dsimp only at hi
    have h8 : a.tmps[8]? = some (.int .i64 (i : Int)) := F 8 rfl
    have HI := Lib.hid hi
    clear H F hi hL
    go_wp2_with fail
    exact hK _ _ (Below.refl _ _) HI.out rfl
  · intro L a wy Q' hL hi H F hK
    try dsimp only at hi
    obtain ⟨_, h15, rfl⟩ := H 0 ⟨.data, by simp, rfl⟩ _ rfl
    replace h15 := h15 _ rfl
    obtain ⟨_, h16, rfl⟩ := H 1 ⟨.data, by simp, rfl⟩ _ rfl
    replace h16 := h16 _ rfl
    have HI := Lib.hid hi
    clear H F hi hL
    go_wp2_with fail
    exact hK _ _ (Below.refl _ _) HI.out rfl
  · intro L a wy Q' hL hi H F hK
    try dsimp only at hi
    obtain ⟨_, h17, rfl⟩ := H 2 ⟨.data, by simp, rfl⟩ _ rfl
    replace h17 := h17 _ rfl
    have HI := Lib.hid hi
    clear H F hi hL
    go_wp2_with fail
    exact hK _ _ (Below.refl _ _) HI.out rfl
  · intro L a wy Q' hL hi H F hK
    try dsimp only at hi
    obtain ⟨_, h18, rfl⟩ := H 3 ⟨.data, by simp, rfl⟩ _ rfl
    replace h18 := h18 _ rfl
    have HI := Lib.hid hi
    clear H F hi hL
    have kq0 : wy.cell? ⟨b, off + i * 7, none⟩ = some (.int .i64 x.src) := cell_later HI.out (HE.out 0 _ rfl)
    go_wp2_with fail
    exact hK _ _ (Below.refl _ _) HI.out rfl
  · intro L a wy Q' hL hi H F hK
    try dsimp only at hi
    have h2 : a.tmps[2]? = some (.int .i64 s) := F 2 rfl
    have HI := Lib.hid hi
    clear H F hi hL
    go_wp2_with fail
    exact hK _ _ (Below.refl _ _) HI.out rfl
  · intro L a wy Q' hL hi H F hK
    try dsimp only at hi
    obtain ⟨_, h19, rfl⟩ := H 4 ⟨.data, by simp, rfl⟩ _ rfl
    replace h19 := h19 _ rfl
    obtain ⟨_, h20, rfl⟩ := H 5 ⟨.data, by simp, rfl⟩ _ rfl
    replace h20 := h20 _ rfl
    have HI := Lib.hid hi
    clear H F hi hL
    go_wp2_with fail
    exact hK _ _ (Below.refl _ _) HI.out rfl
  · intro L a wy Q' hL hi H F hK
    try dsimp only at hi
    obtain ⟨_, h21, rfl⟩ := H 6 ⟨.data, by simp, rfl⟩ _ rfl
    replace h21 := h21 _ rfl
    have HI := Lib.hid hi
    clear H F hi hL
    go_wp2_with fail
    exact hK _ _ (Below.refl _ _) HI.out rfl
  · intro L a wy Q' hL hi H F hK
    try dsimp only at hi
    obtain ⟨_, h22, rfl⟩ := H 7 ⟨.guard, by simp, rfl⟩ _ rfl
    replace h22 := h22 _ rfl
    have h0 : a.tmps[0]? = some (.slice (some ⟨b, off, none⟩) n c) := F 0 rfl
    have HI := Lib.hid hi
    clear H F hi hL
    go_wp2_with fail
    exact hK _ _ (Below.refl _ _) HI.out rfl
  · intro L a wy Q' hL hi H F hK
    try dsimp only at hi
    obtain ⟨_, h22, rfl⟩ := H 7 ⟨.guard, by simp, rfl⟩ _ rfl
    replace h22 := h22 _ rfl
    have h8 : a.tmps[8]? = some (.int .i64 (i : Int)) := F 8 rfl
    have HI := Lib.hid hi
    clear H F hi hL
    go_wp2_with fail
    exact hK _ _ (Below.refl _ _) HI.out rfl
  · intro L a wy Q' hL hi H F hK
    try dsimp only at hi
    obtain ⟨_, h23, rfl⟩ := H 8 ⟨.data, by simp, rfl⟩ _ rfl
    replace h23 := h23 _ rfl
    obtain ⟨_, h24, rfl⟩ := H 9 ⟨.data, by simp, rfl⟩ _ rfl
    replace h24 := h24 _ rfl
    obtain ⟨_, h22, rfl⟩ := H 7 ⟨.guard, by simp, rfl⟩ _ rfl
    replace h22 := h22 _ rfl
    have HI := Lib.hid hi
    clear H F hi hL
    go_wp2_with fail
    exact hK _ _ (Below.refl _ _) HI.out rfl
  · intro L a wy Q' hL hi H F hK
    try dsimp only at hi
    obtain ⟨_, h25, rfl⟩ := H 10 ⟨.data, by simp, rfl⟩ _ rfl
    replace h25 := h25 _ rfl
    obtain ⟨_, h22, rfl⟩ := H 7 ⟨.guard, by simp, rfl⟩ _ rfl
    replace h22 := h22 _ rfl
    have HI := Lib.hid hi
    clear H F hi hL
    have kq0 : wy.cell? ⟨b, off + i * 7, none⟩ = some (.int .i64 x.src) := cell_later HI.out (HE.out 0 _ rfl)
    have kq1 : wy.cell? ⟨b, off + i * 7 + 1, none⟩ = some (.int .i64 x.tgt) := cell_later HI.out (HE.out 1 _ rfl)
    have kq2 : wy.cell? ⟨b, off + i * 7 + 2, none⟩ = some (.int .i64 x.cls) := cell_later HI.out (HE.out 2 _ rfl)
    have kq3 : wy.cell? ⟨b, off + i * 7 + 3, none⟩ = some (.int .i64 x.cond) := cell_later HI.out (HE.out 3 _ rfl)
    have kq4 : wy.cell? ⟨b, off + i * 7 + 4, none⟩ = some (.int .u32 x.allow) := cell_later HI.out (HE.out 4 _ rfl)
    have kq5 : wy.cell? ⟨b, off + i * 7 + 5, none⟩ = some (.int .u32 x.audit) := cell_later HI.out (HE.out 5 _ rfl)
    have kq6 : wy.cell? ⟨b, off + i * 7 + 6, none⟩ = some (.int .u32 x.dont) := cell_later HI.out (HE.out 6 _ rfl)
    go_wp2_with fail
    exact hK _ _ (Below.refl _ _) HI.out rfl
  · intro L a wy Q' hL hi H F hK
    try dsimp only at hi
    obtain ⟨_, h22, rfl⟩ := H 7 ⟨.guard, by simp, rfl⟩ _ rfl
    replace h22 := h22 _ rfl
    have h4 : a.tmps[4]? = some (.pointer (some ⟨rb, 0, none⟩)) := F 4 rfl
    have HI := Lib.hid hi
    clear H F hi hL
    have kq0 : wy.cell? ⟨rb, 0, none⟩ = some (.int .i64 r.kind) := (Whole.under HI.out HR.out (Whole.lt HR.out)).cell 0
    have kq1 : wy.cell? ⟨rb, 1, none⟩ = some (.int .u64 r.src.a) := (Whole.under HI.out HR.out (Whole.lt HR.out)).cell 1
    have kq2 : wy.cell? ⟨rb, 2, none⟩ = some (.int .u64 r.src.b) := (Whole.under HI.out HR.out (Whole.lt HR.out)).cell 2
    have kq3 : wy.cell? ⟨rb, 3, none⟩ = some (.int .u64 r.src.c) := (Whole.under HI.out HR.out (Whole.lt HR.out)).cell 3
    have kq4 : wy.cell? ⟨rb, 4, none⟩ = some (.int .u64 r.src.d) := (Whole.under HI.out HR.out (Whole.lt HR.out)).cell 4
    have kq5 : wy.cell? ⟨rb, 5, none⟩ = some (.int .u64 r.tgt.a) := (Whole.under HI.out HR.out (Whole.lt HR.out)).cell 5
    have kq6 : wy.cell? ⟨rb, 6, none⟩ = some (.int .u64 r.tgt.b) := (Whole.under HI.out HR.out (Whole.lt HR.out)).cell 6
    have kq7 : wy.cell? ⟨rb, 7, none⟩ = some (.int .u64 r.tgt.c) := (Whole.under HI.out HR.out (Whole.lt HR.out)).cell 7
    have kq8 : wy.cell? ⟨rb, 8, none⟩ = some (.int .u64 r.tgt.d) := (Whole.under HI.out HR.out (Whole.lt HR.out)).cell 8
    have kq9 : wy.cell? ⟨rb, 9, none⟩ = some (.bool r.self) := (Whole.under HI.out HR.out (Whole.lt HR.out)).cell 9
    have kq10 : wy.cell? ⟨rb, 10, none⟩ = some (.int .i64 r.cls) := (Whole.under HI.out HR.out (Whole.lt HR.out)).cell 10
    have kq11 : wy.cell? ⟨rb, 11, none⟩ = some (.int .u32 r.perms) := (Whole.under HI.out HR.out (Whole.lt HR.out)).cell 11
    have kq12 : wy.cell? ⟨rb, 12, none⟩ = some (.int .i64 r.cond) := (Whole.under HI.out HR.out (Whole.lt HR.out)).cell 12
    go_wp2_with fail
    exact hK _ _ (Below.refl _ _) HI.out rfl
  · intro L a wy Q' hL hi H F hK
    try dsimp only at hi
    obtain ⟨_, h26, rfl⟩ := H 11 ⟨.data, by simp, rfl⟩ _ rfl
    replace h26 := h26 _ rfl
    obtain ⟨_, h27, rfl⟩ := H 12 ⟨.data, by simp, rfl⟩ _ rfl
    replace h27 := h27 _ rfl
    obtain ⟨_, h22, rfl⟩ := H 7 ⟨.guard, by simp, rfl⟩ _ rfl
    replace h22 := h22 _ rfl
    have HI := Lib.hid hi
    clear H F hi hL
    have HK := Lib.hid hK
    clear hK
    go_wp2_with (go_at_call 43; go_must (refine (HF.out wy).mono ?_; rintro e w1 ⟨rfl, hb1⟩))
    exact HK.out _ _ hb1 (HI.out.trans (hb1.mono HI.out.size)) rfl
  · intro a wy L hl hi hL Q' hK
    try dsimp only at hi
    have HB := Lib.hid hi
    clear hi hL
    obtain ⟨_, rfl, _, rfl, _, rfl, _, rfl, _, rfl, _, rfl, _, rfl, _, rfl, _, rfl, _, rfl, _, rfl, _, rfl, _, rfl, _, rfl, rfl⟩ := hl
    simp only [List.setIfInBounds_toArray, List.set_cons_zero, List.set_cons_succ]
    go_wp2_with fail
    exact HEND.out _ _ _ _ _ _ _ _ _ _ _ _ _ _ _ HB.out
set_option maxRecDepth 100000 in
set_option maxHeartbeats 4000000 in
theorem tgt5_f (w : World) (rb b off i n c : Nat) (r : ARule) (x : AEntry) (s : Int)  (x1 x3 x5 x6 x7 x9 x10 x11 x12 x13 x14 x15 x16 x17 x18 x19 x20 x21 x22 x23 x24 x25 x26 x27 x28 x29 x30 x31 x32 x33 x34 x35 x36 x37 : Value) (hin : i < n) (_ : Hid (Whole w rb 27 #[.int .i64 r.kind, .int .u64 r.src.a, .int .u64 r.src.b, .int .u64 r.src.c, .int .u64 r.src.d, .int .u64 r.tgt.a, .int .u64 r.tgt.b, .int .u64 r.tgt.c, .int .u64 r.tgt.d, .bool r.self, .int .i64 r.cls, .int .u32 r.perms, .int .i64 r.cond])) (HE : Hid (∀ j u, x.cells[j]? = some u → w.cell? ⟨b, off + i * 7 + j, none⟩ = some u)) (hs : (x.src == s) = false)
    {Q' : Exit → Act → World → Prop} (hend : ∀ (v15 v16 v17 v18 v19 v20 v21 v22 v23 v24 v25 v26 v27 v28 : Value) (w' : World), RowKit.Below w.heap.size w w' → Q' .normal ⟨#[.slice (some ⟨b, off, none⟩) n c, x1, .int .i64 s, x3, .pointer (some ⟨rb, 0, none⟩), x5, x6, x7, .int .i64 (i : Int), x9, x10, x11, x12, x13, x14, v15, v16, v17, v18, v19, v20, v21, v22, v23, v24, v25, v26, v27, v28, .bool false, x30, x31, x32, x33, x34, x35, x36, x37], []⟩ w') :
    Code.wp Tryd.prog (findRegion7 5 ((Tryd.f42.body).getD .skip)) Q' ⟨#[.slice (some ⟨b, off, none⟩) n c, x1, .int .i64 s, x3, .pointer (some ⟨rb, 0, none⟩), x5, x6, x7, .int .i64 (i : Int), x9, x10, x11, x12, x13, x14, x15, x16, x17, x18, x19, x20, x21, x22, x23, x24, x25, x26, x27, x28, x29, x30, x31, x32, x33, x34, x35, x36, x37], []⟩ w := by
  have HEND := Lib.hid hend
  clear hend
  conv => arg 2; whnf
  conv => arg 4; dsimp only
  refine wp_region_goods [some 15, some 16, some 17, some 18, some 19, some 20, some 21, some 22, some 23, some 24, some 25, some 26, some 27, some 28] [isW (.slice (some ⟨b, off, none⟩) n c), isW (.int .i64 (i : Int)), isW (.pointer (some ⟨b, off + i * 7, none⟩)), isW (.pointer (some ⟨b, off + i * 7, none⟩)), isW (.int .i64 x.src), isW (.int .i64 s), isW (.bool false), isW (.bool false), isW (undef), isW (undef), isW (undef), isW (undef), isW (undef), isW (undef)] (fun _ w' => RowKit.Below w.heap.size w w') [] (by kernel_rfl) (by kernel_rfl) (by kernel_rfl) rfl (by decide) rfl rfl ((Below.refl _ _).drew) ⟨lastsW_is _, lastsW_is _, lastsW_is _, lastsW_is _, lastsW_is _, lastsW_is _, lastsW_is _, lastsW_is _, lastsW_is _, lastsW_is _, lastsW_is _, lastsW_is _, lastsW_is _, lastsW_is _, trivial⟩ ⟨?_, ?_, ?_, ?_, ?_, ?_, ?_, ?_, ?_, ?_, ?_, ?_, ?_, ?_, ?_⟩
  · intro L a wy Q' hL hi H F hK
    try dsimp only at hi
    have h0 : a.tmps[0]? = some (.slice (some ⟨b, off, none⟩) n c) := F 0 rfl
    have HI := Lib.hid hi
    clear H F hi hL
    go_wp2_with fail
    exact hK _ _ (Below.refl _ _) HI.out rfl
  · intro L a wy Q' hL hi H F hK
    try dsimp only at hi
    have h8 : a.tmps[8]? = some (.int .i64 (i : Int)) := F 8 rfl
    have HI := Lib.hid hi
    clear H F hi hL
    go_wp2_with fail
    exact hK _ _ (Below.refl _ _) HI.out rfl
  · intro L a wy Q' hL hi H F hK
    try dsimp only at hi
    obtain ⟨_, h15, rfl⟩ := H 0 ⟨.data, by simp, rfl⟩ _ rfl
    replace h15 := h15 _ rfl
    obtain ⟨_, h16, rfl⟩ := H 1 ⟨.data, by simp, rfl⟩ _ rfl
    replace h16 := h16 _ rfl
    have HI := Lib.hid hi
    clear H F hi hL
    go_wp2_with fail
    exact hK _ _ (Below.refl _ _) HI.out rfl
  · intro L a wy Q' hL hi H F hK
    try dsimp only at hi
    obtain ⟨_, h17, rfl⟩ := H 2 ⟨.data, by simp, rfl⟩ _ rfl
    replace h17 := h17 _ rfl
    have HI := Lib.hid hi
    clear H F hi hL
    go_wp2_with fail
    exact hK _ _ (Below.refl _ _) HI.out rfl
  · intro L a wy Q' hL hi H F hK
    try dsimp only at hi
    obtain ⟨_, h18, rfl⟩ := H 3 ⟨.data, by simp, rfl⟩ _ rfl
    replace h18 := h18 _ rfl
    have HI := Lib.hid hi
    clear H F hi hL
    have kq0 : wy.cell? ⟨b, off + i * 7, none⟩ = some (.int .i64 x.src) := cell_later HI.out (HE.out 0 _ rfl)
    go_wp2_with fail
    exact hK _ _ (Below.refl _ _) HI.out rfl
  · intro L a wy Q' hL hi H F hK
    try dsimp only at hi
    have h2 : a.tmps[2]? = some (.int .i64 s) := F 2 rfl
    have HI := Lib.hid hi
    clear H F hi hL
    go_wp2_with fail
    exact hK _ _ (Below.refl _ _) HI.out rfl
  · intro L a wy Q' hL hi H F hK
    try dsimp only at hi
    obtain ⟨_, h19, rfl⟩ := H 4 ⟨.data, by simp, rfl⟩ _ rfl
    replace h19 := h19 _ rfl
    obtain ⟨_, h20, rfl⟩ := H 5 ⟨.data, by simp, rfl⟩ _ rfl
    replace h20 := h20 _ rfl
    have HI := Lib.hid hi
    clear H F hi hL
    go_wp2_with fail
    exact hK _ _ (Below.refl _ _) HI.out rfl
  · intro L a wy Q' hL hi H F hK
    try dsimp only at hi
    obtain ⟨_, h21, rfl⟩ := H 6 ⟨.data, by simp, rfl⟩ _ rfl
    replace h21 := h21 _ rfl
    have HI := Lib.hid hi
    clear H F hi hL
    go_wp2_with fail
    exact hK _ _ (Below.refl _ _) HI.out rfl
  · intro L a wy Q' hL hi H F hK
    try dsimp only at hi
    obtain ⟨_, h22, rfl⟩ := H 7 ⟨.guard, by simp, rfl⟩ _ rfl
    replace h22 := h22 _ rfl
    have h0 : a.tmps[0]? = some (.slice (some ⟨b, off, none⟩) n c) := F 0 rfl
    have HI := Lib.hid hi
    clear H F hi hL
    refine wpList_skip (by simp [Region.wanted, yielded, h22]) ?_
    exact hK _ _ (Below.refl _ _) HI.out rfl
  · intro L a wy Q' hL hi H F hK
    try dsimp only at hi
    obtain ⟨_, h22, rfl⟩ := H 7 ⟨.guard, by simp, rfl⟩ _ rfl
    replace h22 := h22 _ rfl
    have h8 : a.tmps[8]? = some (.int .i64 (i : Int)) := F 8 rfl
    have HI := Lib.hid hi
    clear H F hi hL
    refine wpList_skip (by simp [Region.wanted, yielded, h22]) ?_
    exact hK _ _ (Below.refl _ _) HI.out rfl
  · intro L a wy Q' hL hi H F hK
    try dsimp only at hi
    obtain ⟨_, h23, rfl⟩ := H 8 ⟨.data, by simp, rfl⟩ _ rfl
    replace h23 := h23 _ rfl
    obtain ⟨_, h24, rfl⟩ := H 9 ⟨.data, by simp, rfl⟩ _ rfl
    replace h24 := h24 _ rfl
    obtain ⟨_, h22, rfl⟩ := H 7 ⟨.guard, by simp, rfl⟩ _ rfl
    replace h22 := h22 _ rfl
    have HI := Lib.hid hi
    clear H F hi hL
    refine wpList_skip (by simp [Region.wanted, yielded, h22]) ?_
    exact hK _ _ (Below.refl _ _) HI.out rfl
  · intro L a wy Q' hL hi H F hK
    try dsimp only at hi
    obtain ⟨_, h25, rfl⟩ := H 10 ⟨.data, by simp, rfl⟩ _ rfl
    replace h25 := h25 _ rfl
    obtain ⟨_, h22, rfl⟩ := H 7 ⟨.guard, by simp, rfl⟩ _ rfl
    replace h22 := h22 _ rfl
    have HI := Lib.hid hi
    clear H F hi hL
    refine wpList_skip (by simp [Region.wanted, yielded, h22]) ?_
    exact hK _ _ (Below.refl _ _) HI.out rfl
  · intro L a wy Q' hL hi H F hK
    try dsimp only at hi
    obtain ⟨_, h22, rfl⟩ := H 7 ⟨.guard, by simp, rfl⟩ _ rfl
    replace h22 := h22 _ rfl
    have h4 : a.tmps[4]? = some (.pointer (some ⟨rb, 0, none⟩)) := F 4 rfl
    have HI := Lib.hid hi
    clear H F hi hL
    refine wpList_skip (by simp [Region.wanted, yielded, h22]) ?_
    exact hK _ _ (Below.refl _ _) HI.out rfl
  · intro L a wy Q' hL hi H F hK
    try dsimp only at hi
    obtain ⟨_, h26, rfl⟩ := H 11 ⟨.data, by simp, rfl⟩ _ rfl
    replace h26 := h26 _ rfl
    obtain ⟨_, h27, rfl⟩ := H 12 ⟨.data, by simp, rfl⟩ _ rfl
    replace h27 := h27 _ rfl
    obtain ⟨_, h22, rfl⟩ := H 7 ⟨.guard, by simp, rfl⟩ _ rfl
    replace h22 := h22 _ rfl
    have HI := Lib.hid hi
    clear H F hi hL
    refine wpList_skip (by simp [Region.wanted, yielded, h22]) ?_
    exact hK _ _ (Below.refl _ _) HI.out rfl
  · intro a wy L hl hi hL Q' hK
    try dsimp only at hi
    have HB := Lib.hid hi
    clear hi hL
    obtain ⟨_, rfl, _, rfl, _, rfl, _, rfl, _, rfl, _, rfl, _, rfl, _, rfl, _, rfl, _, rfl, _, rfl, _, rfl, _, rfl, _, rfl, rfl⟩ := hl
    simp only [List.setIfInBounds_toArray, List.set_cons_zero, List.set_cons_succ]
    go_wp2_with fail
    exact HEND.out _ _ _ _ _ _ _ _ _ _ _ _ _ _ _ HB.out
set_option maxRecDepth 100000 in
set_option maxHeartbeats 4000000 in
theorem tgt5_any (w : World) (rb b off i n c : Nat) (r : ARule) (x : AEntry) (s : Int)  (x1 x3 x5 x6 x7 x9 x10 x11 x12 x13 x14 x15 x16 x17 x18 x19 x20 x21 x22 x23 x24 x25 x26 x27 x28 x29 x30 x31 x32 x33 x34 x35 x36 x37 : Value) (hin : i < n) (HR : Hid (Whole w rb 27 #[.int .i64 r.kind, .int .u64 r.src.a, .int .u64 r.src.b, .int .u64 r.src.c, .int .u64 r.src.d, .int .u64 r.tgt.a, .int .u64 r.tgt.b, .int .u64 r.tgt.c, .int .u64 r.tgt.d, .bool r.self, .int .i64 r.cls, .int .u32 r.perms, .int .i64 r.cond])) (HE : Hid (∀ j u, x.cells[j]? = some u → w.cell? ⟨b, off + i * 7 + j, none⟩ = some u)) 
    {Q' : Exit → Act → World → Prop} (hend : ∀ (v15 v16 v17 v18 v19 v20 v21 v22 v23 v24 v25 v26 v27 v28 : Value) (w' : World), RowKit.Below w.heap.size w w' → Q' .normal ⟨#[.slice (some ⟨b, off, none⟩) n c, x1, .int .i64 s, x3, .pointer (some ⟨rb, 0, none⟩), x5, x6, x7, .int .i64 (i : Int), x9, x10, x11, x12, x13, x14, v15, v16, v17, v18, v19, v20, v21, v22, v23, v24, v25, v26, v27, v28, .bool (x.hit r s), x30, x31, x32, x33, x34, x35, x36, x37], []⟩ w') :
    Code.wp Tryd.prog (findRegion7 5 ((Tryd.f42.body).getD .skip)) Q' ⟨#[.slice (some ⟨b, off, none⟩) n c, x1, .int .i64 s, x3, .pointer (some ⟨rb, 0, none⟩), x5, x6, x7, .int .i64 (i : Int), x9, x10, x11, x12, x13, x14, x15, x16, x17, x18, x19, x20, x21, x22, x23, x24, x25, x26, x27, x28, x29, x30, x31, x32, x33, x34, x35, x36, x37], []⟩ w := by
  by_cases hs : x.src = s
  · rw [show x.hit r s = x.fits r by unfold AEntry.hit; simp [hs]] at hend
    exact tgt5_t w rb b off i n c r x s (x.fits r) x1 x3 x5 x6 x7 x9 x10 x11 x12 x13 x14 x15 x16 x17 x18 x19 x20 x21 x22 x23 x24 x25 x26 x27 x28 x29 x30 x31 x32 x33 x34 x35 x36 x37 hin HR HE (by simp [hs]) (Lib.hid fun W => fits_any W x r) hend
  · rw [show x.hit r s = false by unfold AEntry.hit; simp [hs]] at hend
    exact tgt5_f w rb b off i n c r x s x1 x3 x5 x6 x7 x9 x10 x11 x12 x13 x14 x15 x16 x17 x18 x19 x20 x21 x22 x23 x24 x25 x26 x27 x28 x29 x30 x31 x32 x33 x34 x35 x36 x37 hin HR HE (by simp [hs]) hend

set_option maxRecDepth 100000 in
set_option maxHeartbeats 4000000 in
theorem targetsR_any (w : World) (v : Value) (l : List AEntry) (r : ARule) (s : Int) (h : SliceAt w v 7 l.length (l.flatMap AEntry.cells)) :
    Calls Tryd.prog 42 #[v, .agg #[.int .i64 r.kind, .int .u64 r.src.a, .int .u64 r.src.b, .int .u64 r.src.c, .int .u64 r.src.d, .int .u64 r.tgt.a, .int .u64 r.tgt.b, .int .u64 r.tgt.c, .int .u64 r.tgt.d, .bool r.self, .int .i64 r.cls, .int .u32 r.perms, .int .i64 r.cond], .int .i64 s] w fun e w' => e = .returned (.agg #[.int .u64 (tgtF l r s).a, .int .u64 (tgtF l r s).b, .int .u64 (tgtF l r s).c, .int .u64 (tgtF l r s).d]) ∧ RowKit.Below w.heap.size w w' := by
  obtain ⟨n, hn⟩ : ∃ n, n = l.length := ⟨_, rfl⟩
  obtain ⟨a, c, rfl, hc, hmx, hcell⟩ := h.form (by decide)
  have HL := Lib.hid hn
  have HC := Lib.hid (And.intro hcell hc)
  rw [← hn] at hmx hc
  rw [← hn]
  obtain ⟨wo, hwo⟩ : ∃ wo, wo = ((w.alloc (.cells #[.int .i64 r.kind, .int .u64 r.src.a, .int .u64 r.src.b, .int .u64 r.src.c, .int .u64 r.src.d, .int .u64 r.tgt.a, .int .u64 r.tgt.b, .int .u64 r.tgt.c, .int .u64 r.tgt.d, .bool r.self, .int .i64 r.cls, .int .u32 r.perms, .int .i64 r.cond] 27)).alloc (.cells #[.int .u64 0, .int .u64 0, .int .u64 0, .int .u64 0] 24)).alloc (.cells #[.int .u64 0, .int .u64 0, .int .u64 0, .int .u64 0] 24) := ⟨_, rfl⟩
  have HWO := Lib.hid (show RowKit.Below w.heap.size w wo by rw [hwo]; exact (((Below.refl _ w).alloc (Nat.le_refl _) _).alloc (by simp) _).alloc (by simp; omega) _)
  have HR0 := Lib.hid (show Whole wo w.heap.size 27 #[.int .i64 r.kind, .int .u64 r.src.a, .int .u64 r.src.b, .int .u64 r.src.c, .int .u64 r.src.d, .int .u64 r.tgt.a, .int .u64 r.tgt.b, .int .u64 r.tgt.c, .int .u64 r.tgt.d, .bool r.self, .int .i64 r.cls, .int .u32 r.perms, .int .i64 r.cond] by rw [hwo]; exact ((Whole.new w 27 #[.int .i64 r.kind, .int .u64 r.src.a, .int .u64 r.src.b, .int .u64 r.src.c, .int .u64 r.src.d, .int .u64 r.tgt.a, .int .u64 r.tgt.b, .int .u64 r.tgt.c, .int .u64 r.tgt.d, .bool r.self, .int .i64 r.cls, .int .u32 r.perms, .int .i64 r.cond]).alloc _).alloc _)
  have HZ0 := Lib.hid (show Whole wo (w.heap.size + 1) 24 #[.int .u64 0, .int .u64 0, .int .u64 0, .int .u64 0] by rw [hwo]; exact (whole_two w _ #[.int .u64 0, .int .u64 0, .int .u64 0, .int .u64 0] _).alloc _)
  have HA0 := Lib.hid (show Whole wo (w.heap.size + 2) 24 #[.int .u64 0, .int .u64 0, .int .u64 0, .int .u64 0] by rw [hwo]; exact whole_three w _ _ #[.int .u64 0, .int .u64 0, .int .u64 0, .int .u64 0] _)
  clear hn hcell h
  go_enter Tryd.func42, Tryd.ntmps42
  go_upto_region 2 with fail
  rw [← hwo]
  clear hwo
  go_wp2_with fail
  go_loopw [8] (fun ix wr => ∃ (k : Nat) (aa : ASet), k ≤ n ∧ ix = .int .i64 k ∧ (aa.Ok ∧ aa = tgtF (l.take k) r s) ∧ Whole wr (w.heap.size + 2) 24 #[.int .u64 aa.a, .int .u64 aa.b, .int .u64 aa.c, .int .u64 aa.d] ∧ Whole wr (w.heap.size + 1) 24 #[.int .u64 0, .int .u64 0, .int .u64 0, .int .u64 0] ∧ Whole wr w.heap.size 27 #[.int .i64 r.kind, .int .u64 r.src.a, .int .u64 r.src.b, .int .u64 r.src.c, .int .u64 r.src.d, .int .u64 r.tgt.a, .int .u64 r.tgt.b, .int .u64 r.tgt.c, .int .u64 r.tgt.d, .bool r.self, .int .i64 r.cls, .int .u32 r.perms, .int .i64 r.cond] ∧ RowKit.Below w.heap.size w wr) (fun ix _ => n - (intOf ix).toNat)
  case atStart => exact ⟨0, ASet.zero, Nat.zero_le _, rfl, ⟨ASet.zero_ok, rfl⟩, HA0.out, HZ0.out, HR0.out, HWO.out⟩
  case round =>
    clear HA0 HZ0 HR0
    obtain ⟨i, aa, hi, rfl, ha, hA, hZ, hR, hB⟩ := hrel
    have HAO := Lib.hid ha
    have HAr := Lib.hid hA
    have HZr := Lib.hid hZ
    have HRr := Lib.hid hR
    have HBr := Lib.hid hB
    clear ha hA hZ hR hB
    by_cases hlt : i < n
    · have hln : i < l.length := by rw [← HL.out]; exact hlt
      obtain ⟨x, hx⟩ : ∃ x, l[i]? = some x := ⟨_, List.getElem?_eq_getElem hln⟩
      have HXI := Lib.hid hx
      obtain ⟨b, off, rfl, hcl⟩ := HC.out.1 i hln
      have HXC := Lib.hid (show ∀ j u, x.cells[j]? = some u → w.cell? ⟨b, off + i * 7 + j, none⟩ = some u from fun j u hu => hcl j u (by
        have hj : j < 7 := (List.getElem?_eq_some_iff.1 hu).1
        rw [flat_at entry_len hx j hj]; exact hu))
      clear hx hcl hln
      go_upto_region 5 with fail
      refine tgt5_any wr w.heap.size b off i n c r x s _ _ _ _ _ _ _ _ _ _ _ _ _ _ _ _ _ _ _ _ _ _ _ _ _ _ _ _ _ _ _ _ _ _ hlt HRr (Lib.hid fun j u hu => cell_later HBr.out (HXC.out j u hu)) ?_
      intro v15 v16 v17 v18 v19 v20 v21 v22 v23 v24 v25 v26 v27 v28 w4 hb4
      have HB4 := Lib.hid (HBr.out.trans (hb4.mono HBr.out.size))
      have HA4 := Lib.hid (Whole.under hb4 HAr.out HAr.out.lt)
      have HZ4 := Lib.hid (Whole.under hb4 HZr.out HZr.out.lt)
      have HR4 := Lib.hid (Whole.under hb4 HRr.out HRr.out.lt)
      clear hb4 HAr HZr HRr HBr
      cases hh : x.hit r s with
      | true =>
        have HHT := Lib.hid (show (if x.hit r s then (tgtF (l.take i) r s).with x.tgt else tgtF (l.take i) r s) = (tgtF (l.take i) r s).with x.tgt by rw [if_pos hh])
        clear hh
        go_upto_region 6 with fail
        refine wp_region_goods [some 30, some 31, some 32, some 33, some 34, some 35, some 36] [isW (.agg #[.int .u64 aa.a, .int .u64 aa.b, .int .u64 aa.c, .int .u64 aa.d]), isW (.slice (some ⟨b, off, none⟩) n c), isW (.int .i64 (i : Int)), isW (.pointer (some ⟨b, off + i * 7, none⟩)), isW (.pointer (some ⟨b, off + i * 7 + 1, none⟩)), isW (.int .i64 x.tgt), isW (.agg #[.int .u64 (aa.with x.tgt).a, .int .u64 (aa.with x.tgt).b, .int .u64 (aa.with x.tgt).c, .int .u64 (aa.with x.tgt).d])] (fun _ w' => RowKit.Below w4.heap.size w4 w') [] (by kernel_rfl) (by kernel_rfl) (by kernel_rfl) rfl (by decide) rfl rfl ((Below.refl _ _).drew) ⟨lastsW_is _, lastsW_is _, lastsW_is _, lastsW_is _, lastsW_is _, lastsW_is _, lastsW_is _, trivial⟩ ⟨?_, ?_, ?_, ?_, ?_, ?_, ?_, ?_⟩
        · intro L a wx Q' hL hi H F hK
          try dsimp only at hi
          have h7 : a.tmps[7]? = some (.pointer (some ⟨w.heap.size + 2, 0, none⟩)) := F 7 rfl
          have HI := Lib.hid hi
          clear H F hi hL
          have kq0 : wx.cell? ⟨w.heap.size + 2, 0, none⟩ = some (.int .u64 aa.a) := (Whole.under HI.out HA4.out (Whole.lt HA4.out)).cell 0
          have kq1 : wx.cell? ⟨w.heap.size + 2, 1, none⟩ = some (.int .u64 aa.b) := (Whole.under HI.out HA4.out (Whole.lt HA4.out)).cell 1
          have kq2 : wx.cell? ⟨w.heap.size + 2, 2, none⟩ = some (.int .u64 aa.c) := (Whole.under HI.out HA4.out (Whole.lt HA4.out)).cell 2
          have kq3 : wx.cell? ⟨w.heap.size + 2, 3, none⟩ = some (.int .u64 aa.d) := (Whole.under HI.out HA4.out (Whole.lt HA4.out)).cell 3
          go_wp2_with fail
          exact hK _ _ (Below.refl _ _) HI.out rfl
        · intro L a wx Q' hL hi H F hK
          try dsimp only at hi
          have h0 : a.tmps[0]? = some (.slice (some ⟨b, off, none⟩) n c) := F 0 rfl
          have HI := Lib.hid hi
          clear H F hi hL
          go_wp2_with fail
          exact hK _ _ (Below.refl _ _) HI.out rfl
        · intro L a wx Q' hL hi H F hK
          try dsimp only at hi
          have h8 : a.tmps[8]? = some (.int .i64 (i : Int)) := F 8 rfl
          have HI := Lib.hid hi
          clear H F hi hL
          go_wp2_with fail
          exact hK _ _ (Below.refl _ _) HI.out rfl
        · intro L a wx Q' hL hi H F hK
          try dsimp only at hi
          obtain ⟨_, h31, rfl⟩ := H 1 ⟨.data, by simp, rfl⟩ _ rfl
          replace h31 := h31 _ rfl
          obtain ⟨_, h32, rfl⟩ := H 2 ⟨.data, by simp, rfl⟩ _ rfl
          replace h32 := h32 _ rfl
          have HI := Lib.hid hi
          clear H F hi hL
          go_wp2_with fail
          exact hK _ _ (Below.refl _ _) HI.out rfl
        · intro L a wx Q' hL hi H F hK
          try dsimp only at hi
          obtain ⟨_, h33, rfl⟩ := H 3 ⟨.data, by simp, rfl⟩ _ rfl
          replace h33 := h33 _ rfl
          have HI := Lib.hid hi
          clear H F hi hL
          go_wp2_with fail
          exact hK _ _ (Below.refl _ _) HI.out rfl
        · intro L a wx Q' hL hi H F hK
          try dsimp only at hi
          obtain ⟨_, h34, rfl⟩ := H 4 ⟨.data, by simp, rfl⟩ _ rfl
          replace h34 := h34 _ rfl
          have HI := Lib.hid hi
          clear H F hi hL
          have kq : wx.cell? ⟨b, off + i * 7 + 1, none⟩ = some (.int .i64 x.tgt) := cell_later (HB4.out.trans (HI.out.mono HB4.out.size)) (HXC.out 1 _ rfl)
          go_wp2_with fail
          exact hK _ _ (Below.refl _ _) HI.out rfl
        · intro L a wx Q' hL hi H F hK
          try dsimp only at hi
          obtain ⟨_, h30, rfl⟩ := H 0 ⟨.data, by simp, rfl⟩ _ rfl
          replace h30 := h30 _ rfl
          obtain ⟨_, h35, rfl⟩ := H 5 ⟨.data, by simp, rfl⟩ _ rfl
          replace h35 := h35 _ rfl
          have HI := Lib.hid hi
          clear H F hi hL
          go_wp2_with (go_at_call 44; go_must (refine (rwith_any wx aa HAO.out.1 x.tgt).mono ?_; rintro e w1 ⟨rfl, hb1⟩))
          exact hK _ _ hb1 (HI.out.trans (hb1.mono HI.out.size)) rfl
        · intro a wx L hl hi hL Q' hK
          try dsimp only at hi
          have HB := Lib.hid hi
          clear hi hL
          obtain ⟨_, rfl, _, rfl, _, rfl, _, rfl, _, rfl, _, rfl, _, rfl, rfl⟩ := hl
          simp only [List.setIfInBounds_toArray, List.set_cons_zero, List.set_cons_succ]
          have HA9 := Lib.hid (Whole.under HB.out HA4.out HA4.out.lt)
          have HZ9 := Lib.hid (Whole.under HB.out HZ4.out HZ4.out.lt)
          have HR9 := Lib.hid (Whole.under HB.out HR4.out HR4.out.lt)
          go_wp2_with (refine wpList_store_blk rfl 24 _ _ rfl (w.heap.size + 2) 0 (.agg #[.int .u64 (aa.with x.tgt).a, .int .u64 (aa.with x.tgt).b, .int .u64 (aa.with x.tgt).c, .int .u64 (aa.with x.tgt).d]) rfl rfl 24 _ HA9.out (by simp [Value.cells]) size24 rfl ?_; intro w9 S9 W9; rw [splice_all _ _ (by rfl)] at W9; have HS9 := Lib.hid S9; have HW9 := Lib.hid (show Whole w9 (w.heap.size + 2) 24 #[.int .u64 (aa.with x.tgt).a, .int .u64 (aa.with x.tgt).b, .int .u64 (aa.with x.tgt).c, .int .u64 (aa.with x.tgt).d] from W9); clear S9 W9)
          go_roundw
          case rel => exact ⟨i + 1, aa.with x.tgt, by omega, by go_num, ⟨ASet.with_ok HAO.out.1 _, by rw [tgtF_next HXI.out, HHT.out, ← HAO.out.2]⟩, HW9.out, HS9.out.whole HZ9.out (by omega), HS9.out.whole HR9.out (by omega), (HB4.out.trans (HB.out.mono HB4.out.size)).trans (HS9.out.below (by omega))⟩
          case measure => simp [intOf]; omega
      | false =>
        have HHT := Lib.hid (show (if x.hit r s then (tgtF (l.take i) r s).with x.tgt else tgtF (l.take i) r s) = tgtF (l.take i) r s by rw [if_neg (by rw [hh]; simp)])
        clear hh
        go_wp2_with fail
        go_roundw
        case rel => exact ⟨i + 1, aa, by omega, by go_num, ⟨HAO.out.1, by rw [tgtF_next HXI.out, HHT.out, ← HAO.out.2]⟩, HA4.out, HZ4.out, HR4.out, HB4.out⟩
        case measure => simp [intOf]; omega
    · obtain rfl : i = n := by omega
      have HAL := Lib.hid (show aa = tgtF l r s by have h := HAO.out.2; rw [HL.out, List.take_length] at h; exact h)
      obtain ⟨wq, rfl⟩ : ∃ wq : World, wq = wr := ⟨_, rfl⟩
      clear hlt hi
      go_wp2_with (first
        | (have hZ := HAr; clear hZ; refine wpList_load_row rfl 24 _ rfl (w.heap.size + 2) rfl 24 _ (0, 0) _ HAr.out Tryd.underlying24 rfl size24 ?_)
        | (have hZ := HZr; clear hZ; refine wpList_store_blk rfl 24 _ _ rfl (w.heap.size + 1) 0 (.agg #[.int .u64 aa.a, .int .u64 aa.b, .int .u64 aa.c, .int .u64 aa.d]) rfl rfl 24 _ HZr.out (by simp [Value.cells]) size24 rfl ?_; intro w9 S9 W9; rw [splice_all _ _ (by rfl)] at W9; have HS9 := Lib.hid S9; have HW9 := Lib.hid (show Whole w9 (w.heap.size + 1) 24 #[.int .u64 aa.a, .int .u64 aa.b, .int .u64 aa.c, .int .u64 aa.d] from W9); clear S9 W9 HZr))
      have e0 : w9.cell? ⟨w.heap.size + 1, 0, none⟩ = some (.int .u64 aa.a) := HW9.out.cell 0
      have e1 : w9.cell? ⟨w.heap.size + 1, 1, none⟩ = some (.int .u64 aa.b) := HW9.out.cell 1
      have e2 : w9.cell? ⟨w.heap.size + 1, 2, none⟩ = some (.int .u64 aa.c) := HW9.out.cell 2
      have e3 : w9.cell? ⟨w.heap.size + 1, 3, none⟩ = some (.int .u64 aa.d) := HW9.out.cell 3
      refine bodyPost_ret (v := .agg #[.int .u64 aa.a, .int .u64 aa.b, .int .u64 aa.c, .int .u64 aa.d]) ?_ rfl ⟨by rw [HAL.out], HBr.out.trans (HS9.out.below (by omega))⟩
      simp [results, Tryd.results42, go_sem, e0, e1, e2, e3]
end Go.Proofs.YtmkfabdkadocdaaDoor

/-
  The reference's insert, in plain words; less.
-/
namespace Go.Proofs.YtmkfabdkadocdaaDoor
open Go Go.WideMaps Go.RowKit Go.Sort

def lessB (x y : ARule) : Bool := ltOf orderedI x y
theorem lessB_0 {x y : ARule} (h : ¬ x.kind = y.kind) : lessB x y = decide (x.kind < y.kind) := by
  unfold lessB; rw [lt_ordered]; simp [h]
theorem lessB_1 {x y : ARule} (h0 : x.kind = y.kind) (h : ¬ x.cls = y.cls) : lessB x y = decide (x.cls < y.cls) := by
  unfold lessB; rw [lt_ordered]; simp [h0, h]
theorem lessB_2 {x y : ARule} (h0 : x.kind = y.kind) (h1 : x.cls = y.cls) (h : ¬ x.cond = y.cond) : lessB x y = decide (x.cond < y.cond) := by
  unfold lessB; rw [lt_ordered]; simp [h0, h1, h]
theorem lessB_3 {x y : ARule} (h0 : x.kind = y.kind) (h1 : x.cls = y.cls) (h2 : x.cond = y.cond) (h : ¬ x.perms = y.perms) : lessB x y = decide (x.perms < y.perms) := by
  unfold lessB; rw [lt_ordered]; simp [h0, h1, h2, h]
theorem lessB_4 {x y : ARule} (h0 : x.kind = y.kind) (h1 : x.cls = y.cls) (h2 : x.cond = y.cond) (h3 : x.perms = y.perms) : lessB x y = decide (x.src.least < y.src.least) := by
  unfold lessB; rw [lt_ordered]; simp [h0, h1, h2, h3]
theorem rless_any (w : World) (x y : ARule) (hx : x.Ok) (hy : y.Ok) : Calls Tryd.prog 60 #[.agg #[.int .i64 x.kind, .int .u64 x.src.a, .int .u64 x.src.b, .int .u64 x.src.c, .int .u64 x.src.d, .int .u64 x.tgt.a, .int .u64 x.tgt.b, .int .u64 x.tgt.c, .int .u64 x.tgt.d, .bool x.self, .int .i64 x.cls, .int .u32 x.perms, .int .i64 x.cond], .agg #[.int .i64 y.kind, .int .u64 y.src.a, .int .u64 y.src.b, .int .u64 y.src.c, .int .u64 y.src.d, .int .u64 y.tgt.a, .int .u64 y.tgt.b, .int .u64 y.tgt.c, .int .u64 y.tgt.d, .bool y.self, .int .i64 y.cls, .int .u32 y.perms, .int .i64 y.cond]] w fun e w' => e = .returned (.bool (lessB x y)) ∧ RowKit.Below w.heap.size w w' := by
  by_cases h0 : x.kind = y.kind
  · by_cases h1 : x.cls = y.cls
    · by_cases h2 : x.cond = y.cond
      · by_cases h3 : x.perms = y.perms
        · rw [lessB_4 h0 h1 h2 h3]; exact less_4 w x y hx hy h0 h1 h2 h3
        · rw [lessB_3 h0 h1 h2 h3]; exact less_3 w x y hx hy h0 h1 h2 h3
      · rw [lessB_2 h0 h1 h2]; exact less_2 w x y hx hy h0 h1 h2
    · rw [lessB_1 h0 h1]; exact less_1 w x y hx hy h0 h1
  · rw [lessB_0 h0]; exact less_0 w x y hx hy h0
theorem rule_eq_iff (x y : ARule) : (([decide (x.kind = y.kind), decide ((x.src.a : Int) = y.src.a ∧ (x.src.b : Int) = y.src.b ∧ (x.src.c : Int) = y.src.c ∧ (x.src.d : Int) = y.src.d), decide ((x.tgt.a : Int) = y.tgt.a ∧ (x.tgt.b : Int) = y.tgt.b ∧ (x.tgt.c : Int) = y.tgt.c ∧ (x.tgt.d : Int) = y.tgt.d), decide (x.self = y.self), decide (x.cls = y.cls), decide (x.perms = y.perms), decide (x.cond = y.cond)] : List Bool).all id) = decide (x = y) := by
  obtain ⟨k, ⟨a, b, c, d⟩, ⟨e, f, g, h⟩, s, cl, p, co⟩ := x
  obtain ⟨k', ⟨a', b', c', d'⟩, ⟨e', f', g', h'⟩, s', cl', p', co'⟩ := y
  simp only [List.all_cons, List.all_nil, id, Bool.and_true, ARule.mk.injEq, ASet.mk.injEq, Int.natCast_inj]
  simp only [Bool.decide_and, Bool.and_assoc]

/-- One round of the loop. -/
def insStep (r : ARule) (s : List ARule × Bool) (y : ARule) : List ARule × Bool :=
  let t := if !s.2 && lessB r y then (s.1 ++ [r], true) else s
  (t.1 ++ [y], t.2)
def insFold (r : ARule) (l : List ARule) : List ARule × Bool := l.foldl (insStep r) ([], false)
def insF (r : ARule) (l : List ARule) : List ARule := if (insFold r l).2 then (insFold r l).1 else (insFold r l).1 ++ [r]
/-- The reference's insert. -/
def insR (l : List ARule) (r : ARule) : List ARule := if r ∈ l then l else insF r l
theorem insFold_next {r : ARule} {l : List ARule} {i : Nat} {y : ARule} (h : l[i]? = some y) : insFold r (l.take (i + 1)) = insStep r (insFold r (l.take i)) y := by
  unfold insFold
  rw [take_snoc h, List.foldl_append]
  rfl
theorem insFold_len (r : ARule) (l : List ARule) : (insFold r l).1.length ≤ 2 * l.length := by
  have : ∀ (l : List ARule) (s : List ARule × Bool), (l.foldl (insStep r) s).1.length ≤ s.1.length + 2 * l.length := by
    intro l
    induction l with
    | nil => intro s; simp
    | cons y l ih =>
      intro s
      have h1 := ih (insStep r s y)
      have h2 : (insStep r s y).1.length ≤ s.1.length + 2 := by unfold insStep; split <;> simp
      rw [List.foldl_cons, List.length_cons]
      omega
  have := this l ([], false)
  simpa [insFold] using this
/-- The same, written from the list's head. -/
def insL (r : ARule) : List ARule → List ARule
  | [] => [r]
  | y :: l => if lessB r y then r :: y :: l else y :: insL r l
theorem insF_done {r : ARule} : ∀ (l o : List ARule), l.foldl (insStep r) (o, true) = (o ++ l, true)
  | [], o => by simp
  | y :: l, o => by
    rw [List.foldl_cons]
    have e : insStep r (o, true) y = (o ++ [y], true) := by unfold insStep; simp
    rw [e, insF_done l]
    simp
theorem insF_ins {r : ARule} : ∀ (l o : List ARule), (if (l.foldl (insStep r) (o, false)).2 then (l.foldl (insStep r) (o, false)).1 else (l.foldl (insStep r) (o, false)).1 ++ [r]) = o ++ insL r l
  | [], o => by simp [insL]
  | y :: l, o => by
    rw [List.foldl_cons, insL]
    cases h : lessB r y with
    | true =>
      have e : insStep r (o, false) y = (o ++ [r] ++ [y], true) := by unfold insStep; simp [h]
      rw [e, insF_done]
      simp
    | false =>
      have e : insStep r (o, false) y = (o ++ [y], false) := by unfold insStep; simp [h]
      rw [e, insF_ins l]
      simp
theorem insF_eq (r : ARule) (l : List ARule) : insF r l = insL r l := by
  have := insF_ins (r := r) l []
  rw [List.nil_append] at this
  exact this
theorem insL_mem {r z : ARule} : ∀ {l : List ARule}, z ∈ insL r l ↔ z = r ∨ z ∈ l
  | [] => by simp [insL]
  | y :: l => by
    rw [insL]
    split
    · simp
    · rw [List.mem_cons, insL_mem, List.mem_cons]
      constructor
      · rintro (h | h | h) <;> simp [h]
      · rintro (h | h | h) <;> simp [h]
theorem insL_sorted {r : ARule} : ∀ {l : List ARule}, l.Pairwise Rbef → (∀ y ∈ l, lessB r y = false → Rbef y r) → (insL r l).Pairwise Rbef
  | [], _, _ => by simp [insL]
  | y :: l, h, ht => by
    have h' := List.pairwise_cons.1 h
    rw [insL]
    split
    · rename_i hr
      refine List.pairwise_cons.2 ⟨fun z hz => ?_, h⟩
      rcases List.mem_cons.1 hz with rfl | hz
      · exact hr
      · exact Rbef.trans _ _ _ hr (h'.1 z hz)
    · rename_i hr
      refine List.pairwise_cons.2 ⟨fun z hz => ?_, insL_sorted h'.2 fun z hz => ht z (by simp [hz])⟩
      rcases insL_mem.1 hz with rfl | hz
      · exact ht y (by simp) (by simpa using hr)
      · exact h'.1 z hz
theorem insR_mem {l : List ARule} {r z : ARule} : z ∈ insR l r ↔ z = r ∨ z ∈ l := by
  unfold insR
  split
  · rename_i h
    exact ⟨.inr, fun e => by rcases e with rfl | e <;> assumption⟩
  · rw [insF_eq, insL_mem]
theorem insR_sorted {S : List (AEntry × Int)} {l : List ARule} {r : ARule} (h : l.Pairwise Rbef) (hl : ∀ y ∈ l, RuleOf S y) (hr : RuleOf S r) : (insR l r).Pairwise Rbef := by
  unfold insR
  split
  · exact h
  · rename_i hn
    rw [insF_eq]
    refine insL_sorted h fun y hy h1 => ?_
    unfold Rbef
    cases h2 : ltOf orderedI y r with
    | true => rfl
    | false =>
      have := rule_same hr (hl y hy) h1 h2
      subst this
      exact absurd hy hn
end Go.Proofs.YtmkfabdkadocdaaDoor

/-
  The reference's insert.
-/
namespace Go.Proofs.YtmkfabdkadocdaaDoor
open Go Go.WideMaps Go.RowKit Go.Sort

set_option maxRecDepth 100000 in
set_option maxHeartbeats 4000000 in
theorem insr6 (w : World) (rb b off i n c : Nat) (r y : ARule) (q : Bool) (x1 x2 x4 x5 x6 x8 x9 x10 x11 x12 x13 x14 x15 x16 x17 x18 x19 x20 x21 x22 x23 x24 x25 x26 x27 x28 x29 x30 x31 x32 x33 x34 x35 x36 x37 x38 x39 x40 x41 x42 x43 x44 x45 x46 x47 x48 : Value) (hin : i < n) (HR : Hid (Whole w rb 27 #[.int .i64 r.kind, .int .u64 r.src.a, .int .u64 r.src.b, .int .u64 r.src.c, .int .u64 r.src.d, .int .u64 r.tgt.a, .int .u64 r.tgt.b, .int .u64 r.tgt.c, .int .u64 r.tgt.d, .bool r.self, .int .i64 r.cls, .int .u32 r.perms, .int .i64 r.cond])) (HE : Hid (∀ j u, y.cells[j]? = some u → w.cell? ⟨b, off + i * 13 + j, none⟩ = some u)) (HQ : Hid (∀ W, (Op.equalIn 10000 27 (.agg #[.int .i64 y.kind, .int .u64 y.src.a, .int .u64 y.src.b, .int .u64 y.src.c, .int .u64 y.src.d, .int .u64 y.tgt.a, .int .u64 y.tgt.b, .int .u64 y.tgt.c, .int .u64 y.tgt.d, .bool y.self, .int .i64 y.cls, .int .u32 y.perms, .int .i64 y.cond]) (.agg #[.int .i64 r.kind, .int .u64 r.src.a, .int .u64 r.src.b, .int .u64 r.src.c, .int .u64 r.src.d, .int .u64 r.tgt.a, .int .u64 r.tgt.b, .int .u64 r.tgt.c, .int .u64 r.tgt.d, .bool r.self, .int .i64 r.cls, .int .u32 r.perms, .int .i64 r.cond])).run Tryd.prog W = .ok q W))
    {Q' : Exit → Act → World → Prop} (hend : ∀ (v14 v15 v16 v17 v18 : Value) (w' : World), RowKit.Below w.heap.size w w' → Q' .normal ⟨#[.slice (some ⟨b, off, none⟩) n c, x1, x2, .pointer (some ⟨rb, 0, none⟩), x4, x5, x6, .int .i64 (i : Int), x8, x9, x10, x11, x12, x13, v14, v15, v16, v17, v18, .bool q, x20, x21, x22, x23, x24, x25, x26, x27, x28, x29, x30, x31, x32, x33, x34, x35, x36, x37, x38, x39, x40, x41, x42, x43, x44, x45, x46, x47, x48], []⟩ w') :
    Code.wp Tryd.prog (findRegion7 6 ((Tryd.f45.body).getD .skip)) Q' ⟨#[.slice (some ⟨b, off, none⟩) n c, x1, x2, .pointer (some ⟨rb, 0, none⟩), x4, x5, x6, .int .i64 (i : Int), x8, x9, x10, x11, x12, x13, x14, x15, x16, x17, x18, x19, x20, x21, x22, x23, x24, x25, x26, x27, x28, x29, x30, x31, x32, x33, x34, x35, x36, x37, x38, x39, x40, x41, x42, x43, x44, x45, x46, x47, x48], []⟩ w := by
  have HEND := Lib.hid hend
  clear hend
  conv => arg 2; whnf
  conv => arg 4; dsimp only
  refine wp_region_goods [some 14, some 15, some 16, some 17, some 18] [isW (.slice (some ⟨b, off, none⟩) n c), isW (.int .i64 (i : Int)), isW (.pointer (some ⟨b, off + i * 13, none⟩)), isW (.agg #[.int .i64 y.kind, .int .u64 y.src.a, .int .u64 y.src.b, .int .u64 y.src.c, .int .u64 y.src.d, .int .u64 y.tgt.a, .int .u64 y.tgt.b, .int .u64 y.tgt.c, .int .u64 y.tgt.d, .bool y.self, .int .i64 y.cls, .int .u32 y.perms, .int .i64 y.cond]), isW (.agg #[.int .i64 r.kind, .int .u64 r.src.a, .int .u64 r.src.b, .int .u64 r.src.c, .int .u64 r.src.d, .int .u64 r.tgt.a, .int .u64 r.tgt.b, .int .u64 r.tgt.c, .int .u64 r.tgt.d, .bool r.self, .int .i64 r.cls, .int .u32 r.perms, .int .i64 r.cond])] (fun _ w' => RowKit.Below w.heap.size w w') [] (by kernel_rfl) (by kernel_rfl) (by kernel_rfl) rfl (by decide) rfl rfl ((Below.refl _ _).drew) ⟨lastsW_is _, lastsW_is _, lastsW_is _, lastsW_is _, lastsW_is _, trivial⟩ ⟨?_, ?_, ?_, ?_, ?_, ?_⟩
  · intro L a wy Q' hL hi H F hK
    try dsimp only at hi
    have h0 : a.tmps[0]? = some (.slice (some ⟨b, off, none⟩) n c) := F 0 rfl
    have HI := Lib.hid hi
    clear H F hi hL
    go_wp2_with fail
    exact hK _ _ (Below.refl _ _) HI.out rfl
  · intro L a wy Q' hL hi H F hK
    try dsimp only at hi
    have h7 : a.tmps[7]? = some (.int .i64 (i : Int)) := F 7 rfl
    have HI := Lib.hid hi
    clear H F hi hL
    go_wp2_with fail
    exact hK _ _ (Below.refl _ _) HI.out rfl
  · intro L a wy Q' hL hi H F hK
    try dsimp only at hi
    obtain ⟨_, h14, rfl⟩ := H 0 ⟨.data, by simp, rfl⟩ _ rfl
    replace h14 := h14 _ rfl
    obtain ⟨_, h15, rfl⟩ := H 1 ⟨.data, by simp, rfl⟩ _ rfl
    replace h15 := h15 _ rfl
    have HI := Lib.hid hi
    clear H F hi hL
    go_wp2_with fail
    exact hK _ _ (Below.refl _ _) HI.out rfl
  · intro L a wy Q' hL hi H F hK
    try dsimp only at hi
    obtain ⟨_, h16, rfl⟩ := H 2 ⟨.data, by simp, rfl⟩ _ rfl
    replace h16 := h16 _ rfl
    have HI := Lib.hid hi
    clear H F hi hL
    have kq0 : wy.cell? ⟨b, off + i * 13, none⟩ = some (.int .i64 y.kind) := cell_later HI.out (HE.out 0 _ rfl)
    have kq1 : wy.cell? ⟨b, off + i * 13 + 1, none⟩ = some (.int .u64 y.src.a) := cell_later HI.out (HE.out 1 _ rfl)
    have kq2 : wy.cell? ⟨b, off + i * 13 + 2, none⟩ = some (.int .u64 y.src.b) := cell_later HI.out (HE.out 2 _ rfl)
    have kq3 : wy.cell? ⟨b, off + i * 13 + 3, none⟩ = some (.int .u64 y.src.c) := cell_later HI.out (HE.out 3 _ rfl)
    have kq4 : wy.cell? ⟨b, off + i * 13 + 4, none⟩ = some (.int .u64 y.src.d) := cell_later HI.out (HE.out 4 _ rfl)
    have kq5 : wy.cell? ⟨b, off + i * 13 + 5, none⟩ = some (.int .u64 y.tgt.a) := cell_later HI.out (HE.out 5 _ rfl)
    have kq6 : wy.cell? ⟨b, off + i * 13 + 6, none⟩ = some (.int .u64 y.tgt.b) := cell_later HI.out (HE.out 6 _ rfl)
    have kq7 : wy.cell? ⟨b, off + i * 13 + 7, none⟩ = some (.int .u64 y.tgt.c) := cell_later HI.out (HE.out 7 _ rfl)
    have kq8 : wy.cell? ⟨b, off + i * 13 + 8, none⟩ = some (.int .u64 y.tgt.d) := cell_later HI.out (HE.out 8 _ rfl)
    have kq9 : wy.cell? ⟨b, off + i * 13 + 9, none⟩ = some (.bool y.self) := cell_later HI.out (HE.out 9 _ rfl)
    have kq10 : wy.cell? ⟨b, off + i * 13 + 10, none⟩ = some (.int .i64 y.cls) := cell_later HI.out (HE.out 10 _ rfl)
    have kq11 : wy.cell? ⟨b, off + i * 13 + 11, none⟩ = some (.int .u32 y.perms) := cell_later HI.out (HE.out 11 _ rfl)
    have kq12 : wy.cell? ⟨b, off + i * 13 + 12, none⟩ = some (.int .i64 y.cond) := cell_later HI.out (HE.out 12 _ rfl)
    go_wp2_with fail
    exact hK _ _ (Below.refl _ _) HI.out rfl
  · intro L a wy Q' hL hi H F hK
    try dsimp only at hi
    have h3 : a.tmps[3]? = some (.pointer (some ⟨rb, 0, none⟩)) := F 3 rfl
    have HI := Lib.hid hi
    clear H F hi hL
    have kq0 : wy.cell? ⟨rb, 0, none⟩ = some (.int .i64 r.kind) := (Whole.under HI.out HR.out (Whole.lt HR.out)).cell 0
    have kq1 : wy.cell? ⟨rb, 1, none⟩ = some (.int .u64 r.src.a) := (Whole.under HI.out HR.out (Whole.lt HR.out)).cell 1
    have kq2 : wy.cell? ⟨rb, 2, none⟩ = some (.int .u64 r.src.b) := (Whole.under HI.out HR.out (Whole.lt HR.out)).cell 2
    have kq3 : wy.cell? ⟨rb, 3, none⟩ = some (.int .u64 r.src.c) := (Whole.under HI.out HR.out (Whole.lt HR.out)).cell 3
    have kq4 : wy.cell? ⟨rb, 4, none⟩ = some (.int .u64 r.src.d) := (Whole.under HI.out HR.out (Whole.lt HR.out)).cell 4
    have kq5 : wy.cell? ⟨rb, 5, none⟩ = some (.int .u64 r.tgt.a) := (Whole.under HI.out HR.out (Whole.lt HR.out)).cell 5
    have kq6 : wy.cell? ⟨rb, 6, none⟩ = some (.int .u64 r.tgt.b) := (Whole.under HI.out HR.out (Whole.lt HR.out)).cell 6
    have kq7 : wy.cell? ⟨rb, 7, none⟩ = some (.int .u64 r.tgt.c) := (Whole.under HI.out HR.out (Whole.lt HR.out)).cell 7
    have kq8 : wy.cell? ⟨rb, 8, none⟩ = some (.int .u64 r.tgt.d) := (Whole.under HI.out HR.out (Whole.lt HR.out)).cell 8
    have kq9 : wy.cell? ⟨rb, 9, none⟩ = some (.bool r.self) := (Whole.under HI.out HR.out (Whole.lt HR.out)).cell 9
    have kq10 : wy.cell? ⟨rb, 10, none⟩ = some (.int .i64 r.cls) := (Whole.under HI.out HR.out (Whole.lt HR.out)).cell 10
    have kq11 : wy.cell? ⟨rb, 11, none⟩ = some (.int .u32 r.perms) := (Whole.under HI.out HR.out (Whole.lt HR.out)).cell 11
    have kq12 : wy.cell? ⟨rb, 12, none⟩ = some (.int .i64 r.cond) := (Whole.under HI.out HR.out (Whole.lt HR.out)).cell 12
    go_wp2_with fail
    exact hK _ _ (Below.refl _ _) HI.out rfl
  · intro a wy L hl hi hL Q' hK
    try dsimp only at hi
    have HB := Lib.hid hi
    clear hi hL
    obtain ⟨_, rfl, _, rfl, _, rfl, _, rfl, _, rfl, rfl⟩ := hl
    simp only [List.setIfInBounds_toArray, List.set_cons_zero, List.set_cons_succ]
    have q := HQ.out
    go_wp2_with fail
    exact HEND.out _ _ _ _ _ _ HB.out
set_option maxRecDepth 100000 in
set_option maxHeartbeats 4000000 in
theorem insr8_t (w : World) (rb b off i n c : Nat) (r y : ARule)  (x1 x2 x4 x5 x8 x9 x10 x11 x12 x13 x14 x15 x16 x17 x18 x19 x20 x21 x22 x23 x24 x25 x26 x27 x28 x29 x30 x31 x32 x33 x34 x35 x36 x37 x38 x39 x40 x41 x42 x43 x44 x45 x46 x47 x48 : Value) (_ : i < n) (_ : Hid (Whole w rb 27 #[.int .i64 r.kind, .int .u64 r.src.a, .int .u64 r.src.b, .int .u64 r.src.c, .int .u64 r.src.d, .int .u64 r.tgt.a, .int .u64 r.tgt.b, .int .u64 r.tgt.c, .int .u64 r.tgt.d, .bool r.self, .int .i64 r.cls, .int .u32 r.perms, .int .i64 r.cond])) (_ : Hid (∀ j u, y.cells[j]? = some u → w.cell? ⟨b, off + i * 13 + j, none⟩ = some u)) 
    {Q' : Exit → Act → World → Prop} (hend : ∀ (v21 v22 v23 v24 v25 v26 v27 v28 v29 : Value) (w' : World), RowKit.Below w.heap.size w w' → Q' .normal ⟨#[.slice (some ⟨b, off, none⟩) n c, x1, x2, .pointer (some ⟨rb, 0, none⟩), x4, x5, .bool true, .int .i64 (i : Int), x8, x9, x10, x11, x12, x13, x14, x15, x16, x17, x18, x19, x20, v21, v22, v23, v24, v25, v26, v27, v28, v29, .bool false, x31, x32, x33, x34, x35, x36, x37, x38, x39, x40, x41, x42, x43, x44, x45, x46, x47, x48], []⟩ w') :
    Code.wp Tryd.prog (findRegion7 8 ((Tryd.f45.body).getD .skip)) Q' ⟨#[.slice (some ⟨b, off, none⟩) n c, x1, x2, .pointer (some ⟨rb, 0, none⟩), x4, x5, .bool true, .int .i64 (i : Int), x8, x9, x10, x11, x12, x13, x14, x15, x16, x17, x18, x19, x20, x21, x22, x23, x24, x25, x26, x27, x28, x29, x30, x31, x32, x33, x34, x35, x36, x37, x38, x39, x40, x41, x42, x43, x44, x45, x46, x47, x48], []⟩ w := by
  have HEND := Lib.hid hend
  clear hend
  conv => arg 2; whnf
  conv => arg 4; dsimp only
  refine wp_region_goods [some 21, some 22, some 23, some 24, some 25, some 26, some 27, some 28, some 29] [isW (.bool true), isW (.bool false), isW (.bool false), isW (undef), isW (undef), isW (undef), isW (undef), isW (undef), isW (undef)] (fun _ w' => RowKit.Below w.heap.size w w') [] (by kernel_rfl) (by kernel_rfl) (by kernel_rfl) rfl (by decide) rfl rfl ((Below.refl _ _).drew) ⟨lastsW_is _, lastsW_is _, lastsW_is _, lastsW_is _, lastsW_is _, lastsW_is _, lastsW_is _, lastsW_is _, lastsW_is _, trivial⟩ ⟨?_, ?_, ?_, ?_, ?_, ?_, ?_, ?_, ?_, ?_⟩
  · intro L a wy Q' hL hi H F hK
    try dsimp only at hi
    have h6 : a.tmps[6]? = some (.bool true) := F 6 rfl
    have HI := Lib.hid hi
    clear H F hi hL
    go_wp2_with fail
    exact hK _ _ (Below.refl _ _) HI.out rfl
  · intro L a wy Q' hL hi H F hK
    try dsimp only at hi
    obtain ⟨_, h21, rfl⟩ := H 0 ⟨.data, by simp, rfl⟩ _ rfl
    replace h21 := h21 _ rfl
    have HI := Lib.hid hi
    clear H F hi hL
    go_wp2_with fail
    exact hK _ _ (Below.refl _ _) HI.out rfl
  · intro L a wy Q' hL hi H F hK
    try dsimp only at hi
    obtain ⟨_, h22, rfl⟩ := H 1 ⟨.data, by simp, rfl⟩ _ rfl
    replace h22 := h22 _ rfl
    have HI := Lib.hid hi
    clear H F hi hL
    go_wp2_with fail
    exact hK _ _ (Below.refl _ _) HI.out rfl
  · intro L a wy Q' hL hi H F hK
    try dsimp only at hi
    obtain ⟨_, h23, rfl⟩ := H 2 ⟨.guard, by simp, rfl⟩ _ rfl
    replace h23 := h23 _ rfl
    have h3 : a.tmps[3]? = some (.pointer (some ⟨rb, 0, none⟩)) := F 3 rfl
    have HI := Lib.hid hi
    clear H F hi hL
    refine wpList_skip (by simp [Region.wanted, yielded, h23]) ?_
    exact hK _ _ (Below.refl _ _) HI.out rfl
  · intro L a wy Q' hL hi H F hK
    try dsimp only at hi
    obtain ⟨_, h23, rfl⟩ := H 2 ⟨.guard, by simp, rfl⟩ _ rfl
    replace h23 := h23 _ rfl
    have h0 : a.tmps[0]? = some (.slice (some ⟨b, off, none⟩) n c) := F 0 rfl
    have HI := Lib.hid hi
    clear H F hi hL
    refine wpList_skip (by simp [Region.wanted, yielded, h23]) ?_
    exact hK _ _ (Below.refl _ _) HI.out rfl
  · intro L a wy Q' hL hi H F hK
    try dsimp only at hi
    obtain ⟨_, h23, rfl⟩ := H 2 ⟨.guard, by simp, rfl⟩ _ rfl
    replace h23 := h23 _ rfl
    have h7 : a.tmps[7]? = some (.int .i64 (i : Int)) := F 7 rfl
    have HI := Lib.hid hi
    clear H F hi hL
    refine wpList_skip (by simp [Region.wanted, yielded, h23]) ?_
    exact hK _ _ (Below.refl _ _) HI.out rfl
  · intro L a wy Q' hL hi H F hK
    try dsimp only at hi
    obtain ⟨_, h25, rfl⟩ := H 4 ⟨.data, by simp, rfl⟩ _ rfl
    replace h25 := h25 _ rfl
    obtain ⟨_, h26, rfl⟩ := H 5 ⟨.data, by simp, rfl⟩ _ rfl
    replace h26 := h26 _ rfl
    obtain ⟨_, h23, rfl⟩ := H 2 ⟨.guard, by simp, rfl⟩ _ rfl
    replace h23 := h23 _ rfl
    have HI := Lib.hid hi
    clear H F hi hL
    refine wpList_skip (by simp [Region.wanted, yielded, h23]) ?_
    exact hK _ _ (Below.refl _ _) HI.out rfl
  · intro L a wy Q' hL hi H F hK
    try dsimp only at hi
    obtain ⟨_, h27, rfl⟩ := H 6 ⟨.data, by simp, rfl⟩ _ rfl
    replace h27 := h27 _ rfl
    obtain ⟨_, h23, rfl⟩ := H 2 ⟨.guard, by simp, rfl⟩ _ rfl
    replace h23 := h23 _ rfl
    have HI := Lib.hid hi
    clear H F hi hL
    refine wpList_skip (by simp [Region.wanted, yielded, h23]) ?_
    exact hK _ _ (Below.refl _ _) HI.out rfl
  · intro L a wy Q' hL hi H F hK
    try dsimp only at hi
    obtain ⟨_, h24, rfl⟩ := H 3 ⟨.data, by simp, rfl⟩ _ rfl
    replace h24 := h24 _ rfl
    obtain ⟨_, h28, rfl⟩ := H 7 ⟨.data, by simp, rfl⟩ _ rfl
    replace h28 := h28 _ rfl
    obtain ⟨_, h23, rfl⟩ := H 2 ⟨.guard, by simp, rfl⟩ _ rfl
    replace h23 := h23 _ rfl
    have HI := Lib.hid hi
    clear H F hi hL
    refine wpList_skip (by simp [Region.wanted, yielded, h23]) ?_
    exact hK _ _ (Below.refl _ _) HI.out rfl
  · intro a wy L hl hi hL Q' hK
    try dsimp only at hi
    have HB := Lib.hid hi
    clear hi hL
    obtain ⟨_, rfl, _, rfl, _, rfl, _, rfl, _, rfl, _, rfl, _, rfl, _, rfl, _, rfl, rfl⟩ := hl
    simp only [List.setIfInBounds_toArray, List.set_cons_zero, List.set_cons_succ]
    go_wp2_with fail
    exact HEND.out _ _ _ _ _ _ _ _ _ _ HB.out
set_option maxRecDepth 100000 in
set_option maxHeartbeats 4000000 in
theorem insr8_f (w : World) (rb b off i n c : Nat) (r y : ARule) (q : Bool) (x1 x2 x4 x5 x8 x9 x10 x11 x12 x13 x14 x15 x16 x17 x18 x19 x20 x21 x22 x23 x24 x25 x26 x27 x28 x29 x30 x31 x32 x33 x34 x35 x36 x37 x38 x39 x40 x41 x42 x43 x44 x45 x46 x47 x48 : Value) (hin : i < n) (HR : Hid (Whole w rb 27 #[.int .i64 r.kind, .int .u64 r.src.a, .int .u64 r.src.b, .int .u64 r.src.c, .int .u64 r.src.d, .int .u64 r.tgt.a, .int .u64 r.tgt.b, .int .u64 r.tgt.c, .int .u64 r.tgt.d, .bool r.self, .int .i64 r.cls, .int .u32 r.perms, .int .i64 r.cond])) (HE : Hid (∀ j u, y.cells[j]? = some u → w.cell? ⟨b, off + i * 13 + j, none⟩ = some u)) (HH : Hid (∀ W, Calls Tryd.prog 60 #[.agg #[.int .i64 r.kind, .int .u64 r.src.a, .int .u64 r.src.b, .int .u64 r.src.c, .int .u64 r.src.d, .int .u64 r.tgt.a, .int .u64 r.tgt.b, .int .u64 r.tgt.c, .int .u64 r.tgt.d, .bool r.self, .int .i64 r.cls, .int .u32 r.perms, .int .i64 r.cond], .agg #[.int .i64 y.kind, .int .u64 y.src.a, .int .u64 y.src.b, .int .u64 y.src.c, .int .u64 y.src.d, .int .u64 y.tgt.a, .int .u64 y.tgt.b, .int .u64 y.tgt.c, .int .u64 y.tgt.d, .bool y.self, .int .i64 y.cls, .int .u32 y.perms, .int .i64 y.cond]] W fun e w' => e = .returned (.bool q) ∧ RowKit.Below W.heap.size W w'))
    {Q' : Exit → Act → World → Prop} (hend : ∀ (v21 v22 v23 v24 v25 v26 v27 v28 v29 : Value) (w' : World), RowKit.Below w.heap.size w w' → Q' .normal ⟨#[.slice (some ⟨b, off, none⟩) n c, x1, x2, .pointer (some ⟨rb, 0, none⟩), x4, x5, .bool false, .int .i64 (i : Int), x8, x9, x10, x11, x12, x13, x14, x15, x16, x17, x18, x19, x20, v21, v22, v23, v24, v25, v26, v27, v28, v29, .bool q, x31, x32, x33, x34, x35, x36, x37, x38, x39, x40, x41, x42, x43, x44, x45, x46, x47, x48], []⟩ w') :
    Code.wp Tryd.prog (findRegion7 8 ((Tryd.f45.body).getD .skip)) Q' ⟨#[.slice (some ⟨b, off, none⟩) n c, x1, x2, .pointer (some ⟨rb, 0, none⟩), x4, x5, .bool false, .int .i64 (i : Int), x8, x9, x10, x11, x12, x13, x14, x15, x16, x17, x18, x19, x20, x21, x22, x23, x24, x25, x26, x27, x28, x29, x30, x31, x32, x33, x34, x35, x36, x37, x38, x39, x40, x41, x42, x43, x44, x45, x46, x47, x48], []⟩ w := by
  have HEND := Lib.hid hend
  clear hend
  conv => arg 2; whnf
  conv => arg 4; dsimp only
  refine wp_region_goods [some 21, some 22, some 23, some 24, some 25, some 26, some 27, some 28, some 29] [isW (.bool false), isW (.bool true), isW (.bool true), isW (.agg #[.int .i64 r.kind, .int .u64 r.src.a, .int .u64 r.src.b, .int .u64 r.src.c, .int .u64 r.src.d, .int .u64 r.tgt.a, .int .u64 r.tgt.b, .int .u64 r.tgt.c, .int .u64 r.tgt.d, .bool r.self, .int .i64 r.cls, .int .u32 r.perms, .int .i64 r.cond]), isW (.slice (some ⟨b, off, none⟩) n c), isW (.int .i64 (i : Int)), isW (.pointer (some ⟨b, off + i * 13, none⟩)), isW (.agg #[.int .i64 y.kind, .int .u64 y.src.a, .int .u64 y.src.b, .int .u64 y.src.c, .int .u64 y.src.d, .int .u64 y.tgt.a, .int .u64 y.tgt.b, .int .u64 y.tgt.c, .int .u64 y.tgt.d, .bool y.self, .int .i64 y.cls, .int .u32 y.perms, .int .i64 y.cond]), isW (.bool q)] (fun _ w' => RowKit.Below w.heap.size w w') [] (by kernel_rfl) (by kernel_rfl) (by kernel_rfl) rfl (by decide) rfl rfl ((Below.refl _ _).drew) ⟨lastsW_is _, lastsW_is _, lastsW_is _, lastsW_is _, lastsW_is _, lastsW_is _, lastsW_is _, lastsW_is _, lastsW_is _, trivial⟩ ⟨?_, ?_, ?_, ?_, ?_, ?_, ?_, ?_, ?_, ?_⟩
  · intro L a wy Q' hL hi H F hK
    try dsimp only at hi
    have h6 : a.tmps[6]? = some (.bool false) := F 6 rfl
    have HI := Lib.hid hi
    clear H F hi hL
    go_wp2_with fail
    exact hK _ _ (Below.refl _ _) HI.out rfl
  · intro L a wy Q' hL hi H F hK
    try dsimp only at hi
    obtain ⟨_, h21, rfl⟩ := H 0 ⟨.data, by simp, rfl⟩ _ rfl
    replace h21 := h21 _ rfl
    have HI := Lib.hid hi
    clear H F hi hL
    go_wp2_with fail
    exact hK _ _ (Below.refl _ _) HI.out rfl
  · intro L a wy Q' hL hi H F hK
    try dsimp only at hi
    obtain ⟨_, h22, rfl⟩ := H 1 ⟨.data, by simp, rfl⟩ _ rfl
    replace h22 := h22 _ rfl
    have HI := Lib.hid hi
    clear H F hi hL
    go_wp2_with fail
    exact hK _ _ (Below.refl _ _) HI.out rfl
  · intro L a wy Q' hL hi H F hK
    try dsimp only at hi
    obtain ⟨_, h23, rfl⟩ := H 2 ⟨.guard, by simp, rfl⟩ _ rfl
    replace h23 := h23 _ rfl
    have h3 : a.tmps[3]? = some (.pointer (some ⟨rb, 0, none⟩)) := F 3 rfl
    have HI := Lib.hid hi
    clear H F hi hL
    have kq0 : wy.cell? ⟨rb, 0, none⟩ = some (.int .i64 r.kind) := (Whole.under HI.out HR.out (Whole.lt HR.out)).cell 0
    have kq1 : wy.cell? ⟨rb, 1, none⟩ = some (.int .u64 r.src.a) := (Whole.under HI.out HR.out (Whole.lt HR.out)).cell 1
    have kq2 : wy.cell? ⟨rb, 2, none⟩ = some (.int .u64 r.src.b) := (Whole.under HI.out HR.out (Whole.lt HR.out)).cell 2
    have kq3 : wy.cell? ⟨rb, 3, none⟩ = some (.int .u64 r.src.c) := (Whole.under HI.out HR.out (Whole.lt HR.out)).cell 3
    have kq4 : wy.cell? ⟨rb, 4, none⟩ = some (.int .u64 r.src.d) := (Whole.under HI.out HR.out (Whole.lt HR.out)).cell 4
    have kq5 : wy.cell? ⟨rb, 5, none⟩ = some (.int .u64 r.tgt.a) := (Whole.under HI.out HR.out (Whole.lt HR.out)).cell 5
    have kq6 : wy.cell? ⟨rb, 6, none⟩ = some (.int .u64 r.tgt.b) := (Whole.under HI.out HR.out (Whole.lt HR.out)).cell 6
    have kq7 : wy.cell? ⟨rb, 7, none⟩ = some (.int .u64 r.tgt.c) := (Whole.under HI.out HR.out (Whole.lt HR.out)).cell 7
    have kq8 : wy.cell? ⟨rb, 8, none⟩ = some (.int .u64 r.tgt.d) := (Whole.under HI.out HR.out (Whole.lt HR.out)).cell 8
    have kq9 : wy.cell? ⟨rb, 9, none⟩ = some (.bool r.self) := (Whole.under HI.out HR.out (Whole.lt HR.out)).cell 9
    have kq10 : wy.cell? ⟨rb, 10, none⟩ = some (.int .i64 r.cls) := (Whole.under HI.out HR.out (Whole.lt HR.out)).cell 10
    have kq11 : wy.cell? ⟨rb, 11, none⟩ = some (.int .u32 r.perms) := (Whole.under HI.out HR.out (Whole.lt HR.out)).cell 11
    have kq12 : wy.cell? ⟨rb, 12, none⟩ = some (.int .i64 r.cond) := (Whole.under HI.out HR.out (Whole.lt HR.out)).cell 12
    go_wp2_with fail
    exact hK _ _ (Below.refl _ _) HI.out rfl
  · intro L a wy Q' hL hi H F hK
    try dsimp only at hi
    obtain ⟨_, h23, rfl⟩ := H 2 ⟨.guard, by simp, rfl⟩ _ rfl
    replace h23 := h23 _ rfl
    have h0 : a.tmps[0]? = some (.slice (some ⟨b, off, none⟩) n c) := F 0 rfl
    have HI := Lib.hid hi
    clear H F hi hL
    go_wp2_with fail
    exact hK _ _ (Below.refl _ _) HI.out rfl
  · intro L a wy Q' hL hi H F hK
    try dsimp only at hi
    obtain ⟨_, h23, rfl⟩ := H 2 ⟨.guard, by simp, rfl⟩ _ rfl
    replace h23 := h23 _ rfl
    have h7 : a.tmps[7]? = some (.int .i64 (i : Int)) := F 7 rfl
    have HI := Lib.hid hi
    clear H F hi hL
    go_wp2_with fail
    exact hK _ _ (Below.refl _ _) HI.out rfl
  · intro L a wy Q' hL hi H F hK
    try dsimp only at hi
    obtain ⟨_, h25, rfl⟩ := H 4 ⟨.data, by simp, rfl⟩ _ rfl
    replace h25 := h25 _ rfl
    obtain ⟨_, h26, rfl⟩ := H 5 ⟨.data, by simp, rfl⟩ _ rfl
    replace h26 := h26 _ rfl
    obtain ⟨_, h23, rfl⟩ := H 2 ⟨.guard, by simp, rfl⟩ _ rfl
    replace h23 := h23 _ rfl
    have HI := Lib.hid hi
    clear H F hi hL
    go_wp2_with fail
    exact hK _ _ (Below.refl _ _) HI.out rfl
  · intro L a wy Q' hL hi H F hK
    try dsimp only at hi
    obtain ⟨_, h27, rfl⟩ := H 6 ⟨.data, by simp, rfl⟩ _ rfl
    replace h27 := h27 _ rfl
    obtain ⟨_, h23, rfl⟩ := H 2 ⟨.guard, by simp, rfl⟩ _ rfl
    replace h23 := h23 _ rfl
    have HI := Lib.hid hi
    clear H F hi hL
    have kq0 : wy.cell? ⟨b, off + i * 13, none⟩ = some (.int .i64 y.kind) := cell_later HI.out (HE.out 0 _ rfl)
    have kq1 : wy.cell? ⟨b, off + i * 13 + 1, none⟩ = some (.int .u64 y.src.a) := cell_later HI.out (HE.out 1 _ rfl)
    have kq2 : wy.cell? ⟨b, off + i * 13 + 2, none⟩ = some (.int .u64 y.src.b) := cell_later HI.out (HE.out 2 _ rfl)
    have kq3 : wy.cell? ⟨b, off + i * 13 + 3, none⟩ = some (.int .u64 y.src.c) := cell_later HI.out (HE.out 3 _ rfl)
    have kq4 : wy.cell? ⟨b, off + i * 13 + 4, none⟩ = some (.int .u64 y.src.d) := cell_later HI.out (HE.out 4 _ rfl)
    have kq5 : wy.cell? ⟨b, off + i * 13 + 5, none⟩ = some (.int .u64 y.tgt.a) := cell_later HI.out (HE.out 5 _ rfl)
    have kq6 : wy.cell? ⟨b, off + i * 13 + 6, none⟩ = some (.int .u64 y.tgt.b) := cell_later HI.out (HE.out 6 _ rfl)
    have kq7 : wy.cell? ⟨b, off + i * 13 + 7, none⟩ = some (.int .u64 y.tgt.c) := cell_later HI.out (HE.out 7 _ rfl)
    have kq8 : wy.cell? ⟨b, off + i * 13 + 8, none⟩ = some (.int .u64 y.tgt.d) := cell_later HI.out (HE.out 8 _ rfl)
    have kq9 : wy.cell? ⟨b, off + i * 13 + 9, none⟩ = some (.bool y.self) := cell_later HI.out (HE.out 9 _ rfl)
    have kq10 : wy.cell? ⟨b, off + i * 13 + 10, none⟩ = some (.int .i64 y.cls) := cell_later HI.out (HE.out 10 _ rfl)
    have kq11 : wy.cell? ⟨b, off + i * 13 + 11, none⟩ = some (.int .u32 y.perms) := cell_later HI.out (HE.out 11 _ rfl)
    have kq12 : wy.cell? ⟨b, off + i * 13 + 12, none⟩ = some (.int .i64 y.cond) := cell_later HI.out (HE.out 12 _ rfl)
    go_wp2_with fail
    exact hK _ _ (Below.refl _ _) HI.out rfl
  · intro L a wy Q' hL hi H F hK
    try dsimp only at hi
    obtain ⟨_, h24, rfl⟩ := H 3 ⟨.data, by simp, rfl⟩ _ rfl
    replace h24 := h24 _ rfl
    obtain ⟨_, h28, rfl⟩ := H 7 ⟨.data, by simp, rfl⟩ _ rfl
    replace h28 := h28 _ rfl
    obtain ⟨_, h23, rfl⟩ := H 2 ⟨.guard, by simp, rfl⟩ _ rfl
    replace h23 := h23 _ rfl
    have HI := Lib.hid hi
    clear H F hi hL
    have HK := Lib.hid hK
    clear hK
    go_wp2_with (go_at_call 60; go_must (refine (HH.out wy).mono ?_; rintro e w1 ⟨rfl, hb1⟩))
    exact HK.out _ _ hb1 (HI.out.trans (hb1.mono HI.out.size)) rfl
  · intro a wy L hl hi hL Q' hK
    try dsimp only at hi
    have HB := Lib.hid hi
    clear hi hL
    obtain ⟨_, rfl, _, rfl, _, rfl, _, rfl, _, rfl, _, rfl, _, rfl, _, rfl, _, rfl, rfl⟩ := hl
    simp only [List.setIfInBounds_toArray, List.set_cons_zero, List.set_cons_succ]
    go_wp2_with fail
    exact HEND.out _ _ _ _ _ _ _ _ _ _ HB.out
theorem rcells_all {l : List ARule} : ∀ v ∈ l.flatMap ARule.cells, v.oneCell' = true := fun v hv => by
  obtain ⟨r, -, hr⟩ := List.mem_flatMap.1 hv
  exact rcells_one r v hr
set_option maxRecDepth 100000 in
set_option maxHeartbeats 8000000 in
theorem insertR_any (w : World) (v : Value) (l : List ARule) (r : ARule) (h : SliceAt w v 13 l.length (l.flatMap ARule.cells)) (hr : r.Ok) (hok : ∀ y ∈ l, y.Ok) (hlen : l.length ≤ 1000) :
    Calls Tryd.prog 45 #[v, .agg #[.int .i64 r.kind, .int .u64 r.src.a, .int .u64 r.src.b, .int .u64 r.src.c, .int .u64 r.src.d, .int .u64 r.tgt.a, .int .u64 r.tgt.b, .int .u64 r.tgt.c, .int .u64 r.tgt.d, .bool r.self, .int .i64 r.cls, .int .u32 r.perms, .int .i64 r.cond]] w fun e w' => ∃ v', e = .returned v' ∧ SliceAt w' v' 13 (insR l r).length ((insR l r).flatMap ARule.cells) ∧ RowKit.Below w.heap.size w w' := by
  obtain ⟨i0, z0, hi0, hz0, hz1, hz2, hzs⟩ := infoOf info27
  obtain ⟨n, hn⟩ : ∃ n, n = l.length := ⟨_, rfl⟩
  obtain ⟨a, c, rfl, hc, hmx, hcell⟩ := h.form (by decide)
  have HL := Lib.hid hn
  have HC := Lib.hid (And.intro hcell hc)
  have HSL := Lib.hid h
  have HRO := Lib.hid hr
  have HOK := Lib.hid hok
  rw [← hn] at hlen hmx hc HSL
  obtain ⟨wo, hwo⟩ : ∃ wo, wo = w.alloc (.cells #[.int .i64 r.kind, .int .u64 r.src.a, .int .u64 r.src.b, .int .u64 r.src.c, .int .u64 r.src.d, .int .u64 r.tgt.a, .int .u64 r.tgt.b, .int .u64 r.tgt.c, .int .u64 r.tgt.d, .bool r.self, .int .i64 r.cls, .int .u32 r.perms, .int .i64 r.cond] 27) := ⟨_, rfl⟩
  have HWO := Lib.hid (show RowKit.Below w.heap.size w wo by rw [hwo]; exact (Below.refl _ w).alloc (Nat.le_refl _) _)
  have HX0 := Lib.hid (show Whole wo w.heap.size 27 #[.int .i64 r.kind, .int .u64 r.src.a, .int .u64 r.src.b, .int .u64 r.src.c, .int .u64 r.src.d, .int .u64 r.tgt.a, .int .u64 r.tgt.b, .int .u64 r.tgt.c, .int .u64 r.tgt.d, .bool r.self, .int .i64 r.cls, .int .u32 r.perms, .int .i64 r.cond] by rw [hwo]; exact Whole.new w 27 _)
  have HLT := Lib.hid (show w.heap.size < wo.heap.size by rw [hwo]; simp)
  rw [← hn]
  clear hn hcell h hr hok
  obtain ⟨bs, hbs⟩ : ∃ bs, bs = wo.heap.size := ⟨_, rfl⟩
  rw [← hbs] at HLT
  have HS0 := Lib.hid (show bs ≤ wo.heap.size by rw [hbs]; exact Nat.le_refl _)
  go_enter Tryd.func45, Tryd.ntmps45
  go_upto_region 1 with fail
  rw [← hwo]
  clear hwo hbs
  go_wp2_with fail
  go_loopw [7, 5, 6] (fun ix u dv wr => ∃ (k : Nat) (d : Bool) (O : List ARule), k ≤ n ∧ ix = .int .i64 k ∧ dv = .bool d ∧ r ∉ l.take k ∧ insFold r (l.take k) = (O, d) ∧ wr.ownsRow bs 27 13 u O.length (O.flatMap ARule.cells) ∧ RowKit.Below bs wo wr) (fun ix _ _ _ => n - (intOf ix).toNat)
  case atStart => exact ⟨0, false, [], Nat.zero_le _, rfl, rfl, by simp, rfl, World.ownsRow_nil _ _ _ _, Below.refl _ _⟩
  case round =>
    obtain ⟨i, d, O, hi, rfl, rfl, hno, hf, ho, hb⟩ := hrel
    have HNO := Lib.hid hno
    have HF := Lib.hid hf
    have HOr := Lib.hid ho
    have HBr := Lib.hid hb
    have HWr := Lib.hid (HWO.out.trans (hb.mono (Nat.le_of_lt HLT.out)))
    have HOL := Lib.hid (show O.length ≤ 2000 by
      have h1 := insFold_len r (l.take i)
      rw [hf] at h1
      have h2 := List.length_take_le i l
      dsimp only at h1
      omega)
    clear hno hf ho hb
    by_cases hlt : i < n
    · have hln : i < l.length := by rw [← HL.out]; exact hlt
      obtain ⟨y, hy⟩ : ∃ y, l[i]? = some y := ⟨_, List.getElem?_eq_getElem hln⟩
      have HYI := Lib.hid hy
      have HYO := Lib.hid (HOK.out y (List.mem_of_getElem? hy))
      obtain ⟨b, off, rfl, hcl⟩ := HC.out.1 i hln
      have HXC := Lib.hid (show ∀ j u, y.cells[j]? = some u → w.cell? ⟨b, off + i * 13 + j, none⟩ = some u from fun j u hu => hcl j u (by
        have hj : j < 13 := (List.getElem?_eq_some_iff.1 hu).1
        rw [flat_at rule_len hy j hj]; exact hu))
      have HE := Lib.hid (show ∀ j u, y.cells[j]? = some u → wr.cell? ⟨b, off + i * 13 + j, none⟩ = some u from fun j u hu => cell_later HWr.out (HXC.out j u hu))
      clear hy hcl hln
      go_upto_region 6 with fail
      by_cases hq : y = r
      · have HQ := Lib.hid hq
        refine insr6 wr w.heap.size b off i n c r y true _ _ _ _ _ _ _ _ _ _ _ _ _ _ _ _ _ _ _ _ _ _ _ _ _ _ _ _ _ _ _ _ _ _ _ _ _ _ _ _ _ _ _ _ _ _ hlt (Lib.hid (Whole.under HBr.out HX0.out HLT.out)) HE (Lib.hid fun W => by rw [eq_rule, rule_eq_iff]; simp [HQ.out]) ?_
        intro v14 v15 v16 v17 v18 w4 hb4
        have HIN := Lib.hid (show insR l r = l by unfold insR; rw [if_pos (by rw [← HQ.out]; exact List.mem_of_getElem? HYI.out)])
        have HB4 := Lib.hid (HWr.out.trans (hb4.mono HWr.out.size))
        clear hb4 hq
        go_wp2_with fail
        go_ret
        exact ⟨_, rfl, by rw [HIN.out, ← HL.out]; exact HSL.out.keep HB4.out, HB4.out⟩
      · have HQ := Lib.hid hq
        refine insr6 wr w.heap.size b off i n c r y false _ _ _ _ _ _ _ _ _ _ _ _ _ _ _ _ _ _ _ _ _ _ _ _ _ _ _ _ _ _ _ _ _ _ _ _ _ _ _ _ _ _ _ _ _ _ hlt (Lib.hid (Whole.under HBr.out HX0.out HLT.out)) HE (Lib.hid fun W => by rw [eq_rule, rule_eq_iff]; simp [HQ.out]) ?_
        intro v14 v15 v16 v17 v18 w4 hb4
        have HB4 := Lib.hid (HBr.out.trans (hb4.mono (Nat.le_trans HS0.out HBr.out.size)))
        have HO4 := Lib.hid (own_keep hb4 HOr.out (Nat.le_refl _))
        have HE4 := Lib.hid (show ∀ j u, y.cells[j]? = some u → w4.cell? ⟨b, off + i * 13 + j, none⟩ = some u from fun j u hu => cell_later hb4 (HE.out j u hu))
        have HNO2 := Lib.hid (show r ∉ l.take (i + 1) by rw [take_snoc HYI.out, List.mem_append, List.mem_singleton]; exact fun e => e.elim HNO.out (fun e => HQ.out e.symm))
        clear hb4 HE HBr HOr hq
        go_upto_region 8 with fail
        cases d with
        | true =>
          refine insr8_t w4 w.heap.size b off i n c r y _ _ _ _ _ _ _ _ _ _ _ _ _ _ _ _ _ _ _ _ _ _ _ _ _ _ _ _ _ _ _ _ _ _ _ _ _ _ _ _ _ _ _ _ _ hlt (Lib.hid (Whole.under HB4.out HX0.out HLT.out)) HE4 ?_
          intro v21 v22 v23 v24 v25 v26 v27 v28 v29 w5 hb5
          have HB5 := Lib.hid (HB4.out.trans (hb5.mono (Nat.le_trans HS0.out HB4.out.size)))
          have HO5 := Lib.hid (own_keep hb5 HO4.out (Nat.le_refl _))
          clear hb5 HE4 HB4 HO4
          have e0 : w5.cell? ⟨b, off + i * 13, none⟩ = some (.int .i64 y.kind) := cell_later (HWO.out.trans (HB5.out.mono (Nat.le_of_lt HLT.out))) (HXC.out 0 _ rfl)
          have e1 : w5.cell? ⟨b, off + i * 13 + 1, none⟩ = some (.int .u64 y.src.a) := cell_later (HWO.out.trans (HB5.out.mono (Nat.le_of_lt HLT.out))) (HXC.out 1 _ rfl)
          have e2 : w5.cell? ⟨b, off + i * 13 + 2, none⟩ = some (.int .u64 y.src.b) := cell_later (HWO.out.trans (HB5.out.mono (Nat.le_of_lt HLT.out))) (HXC.out 2 _ rfl)
          have e3 : w5.cell? ⟨b, off + i * 13 + 3, none⟩ = some (.int .u64 y.src.c) := cell_later (HWO.out.trans (HB5.out.mono (Nat.le_of_lt HLT.out))) (HXC.out 3 _ rfl)
          have e4 : w5.cell? ⟨b, off + i * 13 + 4, none⟩ = some (.int .u64 y.src.d) := cell_later (HWO.out.trans (HB5.out.mono (Nat.le_of_lt HLT.out))) (HXC.out 4 _ rfl)
          have e5 : w5.cell? ⟨b, off + i * 13 + 5, none⟩ = some (.int .u64 y.tgt.a) := cell_later (HWO.out.trans (HB5.out.mono (Nat.le_of_lt HLT.out))) (HXC.out 5 _ rfl)
          have e6 : w5.cell? ⟨b, off + i * 13 + 6, none⟩ = some (.int .u64 y.tgt.b) := cell_later (HWO.out.trans (HB5.out.mono (Nat.le_of_lt HLT.out))) (HXC.out 6 _ rfl)
          have e7 : w5.cell? ⟨b, off + i * 13 + 7, none⟩ = some (.int .u64 y.tgt.c) := cell_later (HWO.out.trans (HB5.out.mono (Nat.le_of_lt HLT.out))) (HXC.out 7 _ rfl)
          have e8 : w5.cell? ⟨b, off + i * 13 + 8, none⟩ = some (.int .u64 y.tgt.d) := cell_later (HWO.out.trans (HB5.out.mono (Nat.le_of_lt HLT.out))) (HXC.out 8 _ rfl)
          have e9 : w5.cell? ⟨b, off + i * 13 + 9, none⟩ = some (.bool y.self) := cell_later (HWO.out.trans (HB5.out.mono (Nat.le_of_lt HLT.out))) (HXC.out 9 _ rfl)
          have e10 : w5.cell? ⟨b, off + i * 13 + 10, none⟩ = some (.int .i64 y.cls) := cell_later (HWO.out.trans (HB5.out.mono (Nat.le_of_lt HLT.out))) (HXC.out 10 _ rfl)
          have e11 : w5.cell? ⟨b, off + i * 13 + 11, none⟩ = some (.int .u32 y.perms) := cell_later (HWO.out.trans (HB5.out.mono (Nat.le_of_lt HLT.out))) (HXC.out 11 _ rfl)
          have e12 : w5.cell? ⟨b, off + i * 13 + 12, none⟩ = some (.int .i64 y.cond) := cell_later (HWO.out.trans (HB5.out.mono (Nat.le_of_lt HLT.out))) (HXC.out 12 _ rfl)
          go_wp2_with (have hZ := HB5; clear hZ; at_builtin; go_must (refine wpList_append_own _ rfl _ _ 41 rfl bs 27 i0 z0 13 104 Tryd.underlying41 hi0 hz0 hz1 hz2 hzs (by decide) _ _ _ rfl (own_alloc HO5.out _) ⟨w5.heap.size, 0, none⟩ 1 1 [.int .i64 y.kind, .int .u64 y.src.a, .int .u64 y.src.b, .int .u64 y.src.c, .int .u64 y.src.d, .int .u64 y.tgt.a, .int .u64 y.tgt.b, .int .u64 y.tgt.c, .int .u64 y.tgt.d, .bool y.self, .int .i64 y.cls, .int .u32 y.perms, .int .i64 y.cond] rfl rfl (row_new _ _ _) ?c2 ?c3 ?c4 ?c5 ?_))
          case c2 => simp [Value.oneCell']
          case c3 => have := HOL.out; unfold maxLen; omega
          case c4 => have := HOL.out; omega
          case c5 => have := HS0.out; have := HB5.out.size; simp; omega
          intro u20 w20 ho20 hg20 hn20
          have HB20 := Lib.hid ((HB5.out.alloc (Nat.le_trans HS0.out HB5.out.size) _).grown hg20 (by have := HS0.out; have := HB5.out.size; simp; omega) (fun q hq => (HO5.out.lt q hq).1))
          have HO20 := Lib.hid ho20
          clear hg20 hn20 ho20 HO5 HB5
          clear e0 e1 e2 e3 e4 e5 e6 e7 e8 e9 e10 e11 e12
          go_wp2
          go_roundw
          case rel => exact ⟨i + 1, true, O ++ [y], by omega, by go_num, rfl, HNO2.out, by rw [insFold_next HYI.out, HF.out]; simp [insStep], by simpa [ARule.cells] using HO20.out, HB20.out⟩
          case measure => simp [intOf]; omega
        | false =>
          cases hls : lessB r y with
          | true =>
            have HLB := Lib.hid hls
            have HLS := Lib.hid (show ∀ W, Calls Tryd.prog 60 #[.agg #[.int .i64 r.kind, .int .u64 r.src.a, .int .u64 r.src.b, .int .u64 r.src.c, .int .u64 r.src.d, .int .u64 r.tgt.a, .int .u64 r.tgt.b, .int .u64 r.tgt.c, .int .u64 r.tgt.d, .bool r.self, .int .i64 r.cls, .int .u32 r.perms, .int .i64 r.cond], .agg #[.int .i64 y.kind, .int .u64 y.src.a, .int .u64 y.src.b, .int .u64 y.src.c, .int .u64 y.src.d, .int .u64 y.tgt.a, .int .u64 y.tgt.b, .int .u64 y.tgt.c, .int .u64 y.tgt.d, .bool y.self, .int .i64 y.cls, .int .u32 y.perms, .int .i64 y.cond]] W fun e w' => e = .returned (.bool true) ∧ RowKit.Below W.heap.size W w' from fun W => by rw [← hls]; exact rless_any W r y HRO.out HYO.out)
            clear hls
            refine insr8_f w4 w.heap.size b off i n c r y true _ _ _ _ _ _ _ _ _ _ _ _ _ _ _ _ _ _ _ _ _ _ _ _ _ _ _ _ _ _ _ _ _ _ _ _ _ _ _ _ _ _ _ _ _ hlt (Lib.hid (Whole.under HB4.out HX0.out HLT.out)) HE4 HLS ?_
            intro v21 v22 v23 v24 v25 v26 v27 v28 v29 w5 hb5
            have HB5 := Lib.hid (HB4.out.trans (hb5.mono (Nat.le_trans HS0.out HB4.out.size)))
            have HO5 := Lib.hid (own_keep hb5 HO4.out (Nat.le_refl _))
            clear hb5 HE4 HB4 HO4
            go_wp2_with (first | (have hZ := HB5; clear hZ; refine wpList_load_row rfl 27 _ rfl w.heap.size rfl 27 _ (0, 0) _ (Whole.under HB5.out HX0.out HLT.out) Tryd.underlying27 rfl size27 ?_) | (have hZ := HB5; clear hZ; at_builtin; go_must (refine wpList_append_own _ rfl _ _ 41 rfl bs 27 i0 z0 13 104 Tryd.underlying41 hi0 hz0 hz1 hz2 hzs (by decide) _ _ _ rfl (own_alloc HO5.out _) ⟨w5.heap.size, 0, none⟩ 1 1 [.int .i64 r.kind, .int .u64 r.src.a, .int .u64 r.src.b, .int .u64 r.src.c, .int .u64 r.src.d, .int .u64 r.tgt.a, .int .u64 r.tgt.b, .int .u64 r.tgt.c, .int .u64 r.tgt.d, .bool r.self, .int .i64 r.cls, .int .u32 r.perms, .int .i64 r.cond] rfl rfl (row_new _ _ _) ?c2 ?c3 ?c4 ?c5 ?_)))
            case c2 => simp [Value.oneCell']
            case c3 => have := HOL.out; unfold maxLen; omega
            case c4 => have := HOL.out; omega
            case c5 => have := HS0.out; have := HB5.out.size; simp; omega
            intro u6 w6 ho6 hg6 hn6
            have HB6 := Lib.hid ((HB5.out.alloc (Nat.le_trans HS0.out HB5.out.size) _).grown hg6 (by have := HS0.out; have := HB5.out.size; simp; omega) (fun q hq => (HO5.out.lt q hq).1))
            have HO6 := Lib.hid ho6
            clear hg6 hn6 ho6 HO5 HB5
            have e0 : w6.cell? ⟨b, off + i * 13, none⟩ = some (.int .i64 y.kind) := cell_later (HWO.out.trans (HB6.out.mono (Nat.le_of_lt HLT.out))) (HXC.out 0 _ rfl)
            have e1 : w6.cell? ⟨b, off + i * 13 + 1, none⟩ = some (.int .u64 y.src.a) := cell_later (HWO.out.trans (HB6.out.mono (Nat.le_of_lt HLT.out))) (HXC.out 1 _ rfl)
            have e2 : w6.cell? ⟨b, off + i * 13 + 2, none⟩ = some (.int .u64 y.src.b) := cell_later (HWO.out.trans (HB6.out.mono (Nat.le_of_lt HLT.out))) (HXC.out 2 _ rfl)
            have e3 : w6.cell? ⟨b, off + i * 13 + 3, none⟩ = some (.int .u64 y.src.c) := cell_later (HWO.out.trans (HB6.out.mono (Nat.le_of_lt HLT.out))) (HXC.out 3 _ rfl)
            have e4 : w6.cell? ⟨b, off + i * 13 + 4, none⟩ = some (.int .u64 y.src.d) := cell_later (HWO.out.trans (HB6.out.mono (Nat.le_of_lt HLT.out))) (HXC.out 4 _ rfl)
            have e5 : w6.cell? ⟨b, off + i * 13 + 5, none⟩ = some (.int .u64 y.tgt.a) := cell_later (HWO.out.trans (HB6.out.mono (Nat.le_of_lt HLT.out))) (HXC.out 5 _ rfl)
            have e6 : w6.cell? ⟨b, off + i * 13 + 6, none⟩ = some (.int .u64 y.tgt.b) := cell_later (HWO.out.trans (HB6.out.mono (Nat.le_of_lt HLT.out))) (HXC.out 6 _ rfl)
            have e7 : w6.cell? ⟨b, off + i * 13 + 7, none⟩ = some (.int .u64 y.tgt.c) := cell_later (HWO.out.trans (HB6.out.mono (Nat.le_of_lt HLT.out))) (HXC.out 7 _ rfl)
            have e8 : w6.cell? ⟨b, off + i * 13 + 8, none⟩ = some (.int .u64 y.tgt.d) := cell_later (HWO.out.trans (HB6.out.mono (Nat.le_of_lt HLT.out))) (HXC.out 8 _ rfl)
            have e9 : w6.cell? ⟨b, off + i * 13 + 9, none⟩ = some (.bool y.self) := cell_later (HWO.out.trans (HB6.out.mono (Nat.le_of_lt HLT.out))) (HXC.out 9 _ rfl)
            have e10 : w6.cell? ⟨b, off + i * 13 + 10, none⟩ = some (.int .i64 y.cls) := cell_later (HWO.out.trans (HB6.out.mono (Nat.le_of_lt HLT.out))) (HXC.out 10 _ rfl)
            have e11 : w6.cell? ⟨b, off + i * 13 + 11, none⟩ = some (.int .u32 y.perms) := cell_later (HWO.out.trans (HB6.out.mono (Nat.le_of_lt HLT.out))) (HXC.out 11 _ rfl)
            have e12 : w6.cell? ⟨b, off + i * 13 + 12, none⟩ = some (.int .i64 y.cond) := cell_later (HWO.out.trans (HB6.out.mono (Nat.le_of_lt HLT.out))) (HXC.out 12 _ rfl)
            go_wp2_with (have hZ := HB6; clear hZ; at_builtin; go_must (refine wpList_append_own _ rfl _ _ 41 rfl bs 27 i0 z0 13 104 Tryd.underlying41 hi0 hz0 hz1 hz2 hzs (by decide) _ _ _ rfl (own_alloc HO6.out _) ⟨w6.heap.size, 0, none⟩ 1 1 [.int .i64 y.kind, .int .u64 y.src.a, .int .u64 y.src.b, .int .u64 y.src.c, .int .u64 y.src.d, .int .u64 y.tgt.a, .int .u64 y.tgt.b, .int .u64 y.tgt.c, .int .u64 y.tgt.d, .bool y.self, .int .i64 y.cls, .int .u32 y.perms, .int .i64 y.cond] rfl rfl (row_new _ _ _) ?c2 ?c3 ?c4 ?c5 ?_))
            case c2 => simp [Value.oneCell']
            case c3 => have := HOL.out; unfold maxLen; omega
            case c4 => have := HOL.out; omega
            case c5 => have := HS0.out; have := HB6.out.size; simp; omega
            intro u20 w20 ho20 hg20 hn20
            have HB20 := Lib.hid ((HB6.out.alloc (Nat.le_trans HS0.out HB6.out.size) _).grown hg20 (by have := HS0.out; have := HB6.out.size; simp; omega) (fun q hq => (HO6.out.lt q hq).1))
            have HO20 := Lib.hid ho20
            clear hg20 hn20 ho20 HO6 HB6
            clear e0 e1 e2 e3 e4 e5 e6 e7 e8 e9 e10 e11 e12
            go_wp2
            go_roundw
            case rel => exact ⟨i + 1, true, (O ++ [r]) ++ [y], by omega, by go_num, rfl, HNO2.out, by rw [insFold_next HYI.out, HF.out]; simp [insStep, HLB.out], by simpa [ARule.cells] using HO20.out, HB20.out⟩
            case measure => simp [intOf]; omega
          | false =>
            have HLB := Lib.hid hls
            have HLS := Lib.hid (show ∀ W, Calls Tryd.prog 60 #[.agg #[.int .i64 r.kind, .int .u64 r.src.a, .int .u64 r.src.b, .int .u64 r.src.c, .int .u64 r.src.d, .int .u64 r.tgt.a, .int .u64 r.tgt.b, .int .u64 r.tgt.c, .int .u64 r.tgt.d, .bool r.self, .int .i64 r.cls, .int .u32 r.perms, .int .i64 r.cond], .agg #[.int .i64 y.kind, .int .u64 y.src.a, .int .u64 y.src.b, .int .u64 y.src.c, .int .u64 y.src.d, .int .u64 y.tgt.a, .int .u64 y.tgt.b, .int .u64 y.tgt.c, .int .u64 y.tgt.d, .bool y.self, .int .i64 y.cls, .int .u32 y.perms, .int .i64 y.cond]] W fun e w' => e = .returned (.bool false) ∧ RowKit.Below W.heap.size W w' from fun W => by rw [← hls]; exact rless_any W r y HRO.out HYO.out)
            clear hls
            refine insr8_f w4 w.heap.size b off i n c r y false _ _ _ _ _ _ _ _ _ _ _ _ _ _ _ _ _ _ _ _ _ _ _ _ _ _ _ _ _ _ _ _ _ _ _ _ _ _ _ _ _ _ _ _ _ hlt (Lib.hid (Whole.under HB4.out HX0.out HLT.out)) HE4 HLS ?_
            intro v21 v22 v23 v24 v25 v26 v27 v28 v29 w5 hb5
            have HB5 := Lib.hid (HB4.out.trans (hb5.mono (Nat.le_trans HS0.out HB4.out.size)))
            have HO5 := Lib.hid (own_keep hb5 HO4.out (Nat.le_refl _))
            clear hb5 HE4 HB4 HO4
            have e0 : w5.cell? ⟨b, off + i * 13, none⟩ = some (.int .i64 y.kind) := cell_later (HWO.out.trans (HB5.out.mono (Nat.le_of_lt HLT.out))) (HXC.out 0 _ rfl)
            have e1 : w5.cell? ⟨b, off + i * 13 + 1, none⟩ = some (.int .u64 y.src.a) := cell_later (HWO.out.trans (HB5.out.mono (Nat.le_of_lt HLT.out))) (HXC.out 1 _ rfl)
            have e2 : w5.cell? ⟨b, off + i * 13 + 2, none⟩ = some (.int .u64 y.src.b) := cell_later (HWO.out.trans (HB5.out.mono (Nat.le_of_lt HLT.out))) (HXC.out 2 _ rfl)
            have e3 : w5.cell? ⟨b, off + i * 13 + 3, none⟩ = some (.int .u64 y.src.c) := cell_later (HWO.out.trans (HB5.out.mono (Nat.le_of_lt HLT.out))) (HXC.out 3 _ rfl)
            have e4 : w5.cell? ⟨b, off + i * 13 + 4, none⟩ = some (.int .u64 y.src.d) := cell_later (HWO.out.trans (HB5.out.mono (Nat.le_of_lt HLT.out))) (HXC.out 4 _ rfl)
            have e5 : w5.cell? ⟨b, off + i * 13 + 5, none⟩ = some (.int .u64 y.tgt.a) := cell_later (HWO.out.trans (HB5.out.mono (Nat.le_of_lt HLT.out))) (HXC.out 5 _ rfl)
            have e6 : w5.cell? ⟨b, off + i * 13 + 6, none⟩ = some (.int .u64 y.tgt.b) := cell_later (HWO.out.trans (HB5.out.mono (Nat.le_of_lt HLT.out))) (HXC.out 6 _ rfl)
            have e7 : w5.cell? ⟨b, off + i * 13 + 7, none⟩ = some (.int .u64 y.tgt.c) := cell_later (HWO.out.trans (HB5.out.mono (Nat.le_of_lt HLT.out))) (HXC.out 7 _ rfl)
            have e8 : w5.cell? ⟨b, off + i * 13 + 8, none⟩ = some (.int .u64 y.tgt.d) := cell_later (HWO.out.trans (HB5.out.mono (Nat.le_of_lt HLT.out))) (HXC.out 8 _ rfl)
            have e9 : w5.cell? ⟨b, off + i * 13 + 9, none⟩ = some (.bool y.self) := cell_later (HWO.out.trans (HB5.out.mono (Nat.le_of_lt HLT.out))) (HXC.out 9 _ rfl)
            have e10 : w5.cell? ⟨b, off + i * 13 + 10, none⟩ = some (.int .i64 y.cls) := cell_later (HWO.out.trans (HB5.out.mono (Nat.le_of_lt HLT.out))) (HXC.out 10 _ rfl)
            have e11 : w5.cell? ⟨b, off + i * 13 + 11, none⟩ = some (.int .u32 y.perms) := cell_later (HWO.out.trans (HB5.out.mono (Nat.le_of_lt HLT.out))) (HXC.out 11 _ rfl)
            have e12 : w5.cell? ⟨b, off + i * 13 + 12, none⟩ = some (.int .i64 y.cond) := cell_later (HWO.out.trans (HB5.out.mono (Nat.le_of_lt HLT.out))) (HXC.out 12 _ rfl)
            go_wp2_with (have hZ := HB5; clear hZ; at_builtin; go_must (refine wpList_append_own _ rfl _ _ 41 rfl bs 27 i0 z0 13 104 Tryd.underlying41 hi0 hz0 hz1 hz2 hzs (by decide) _ _ _ rfl (own_alloc HO5.out _) ⟨w5.heap.size, 0, none⟩ 1 1 [.int .i64 y.kind, .int .u64 y.src.a, .int .u64 y.src.b, .int .u64 y.src.c, .int .u64 y.src.d, .int .u64 y.tgt.a, .int .u64 y.tgt.b, .int .u64 y.tgt.c, .int .u64 y.tgt.d, .bool y.self, .int .i64 y.cls, .int .u32 y.perms, .int .i64 y.cond] rfl rfl (row_new _ _ _) ?c2 ?c3 ?c4 ?c5 ?_))
            case c2 => simp [Value.oneCell']
            case c3 => have := HOL.out; unfold maxLen; omega
            case c4 => have := HOL.out; omega
            case c5 => have := HS0.out; have := HB5.out.size; simp; omega
            intro u20 w20 ho20 hg20 hn20
            have HB20 := Lib.hid ((HB5.out.alloc (Nat.le_trans HS0.out HB5.out.size) _).grown hg20 (by have := HS0.out; have := HB5.out.size; simp; omega) (fun q hq => (HO5.out.lt q hq).1))
            have HO20 := Lib.hid ho20
            clear hg20 hn20 ho20 HO5 HB5
            clear e0 e1 e2 e3 e4 e5 e6 e7 e8 e9 e10 e11 e12
            go_wp2
            go_roundw
            case rel => exact ⟨i + 1, false, O ++ [y], by omega, by go_num, rfl, HNO2.out, by rw [insFold_next HYI.out, HF.out]; simp [insStep, HLB.out], by simpa [ARule.cells] using HO20.out, HB20.out⟩
            case measure => simp [intOf]; omega
    · obtain rfl : i = n := by omega
      have HAF := Lib.hid (show insR l r = if d then O else O ++ [r] by
        unfold insR
        have h0 := HNO.out
        have h := HF.out
        rw [HL.out, List.take_length] at h h0
        rw [if_neg h0]
        unfold insF
        rw [h])
      clear hlt hi
      cases d with
      | true =>
        go_wp2_with fail
        go_ret
        exact ⟨_, rfl, by rw [HAF.out]; exact SliceAt.of_own HOr.out rcells_all, HWr.out⟩
      | false =>
        go_wp2_with (first | (have hZ := HBr; clear hZ; refine wpList_load_row rfl 27 _ rfl w.heap.size rfl 27 _ (0, 0) _ (Whole.under HBr.out HX0.out HLT.out) Tryd.underlying27 rfl size27 ?_) | (have hZ := HBr; clear hZ; at_builtin; go_must (refine wpList_append_own _ rfl _ _ 41 rfl bs 27 i0 z0 13 104 Tryd.underlying41 hi0 hz0 hz1 hz2 hzs (by decide) _ _ _ rfl (own_alloc HOr.out _) ⟨wr.heap.size, 0, none⟩ 1 1 [.int .i64 r.kind, .int .u64 r.src.a, .int .u64 r.src.b, .int .u64 r.src.c, .int .u64 r.src.d, .int .u64 r.tgt.a, .int .u64 r.tgt.b, .int .u64 r.tgt.c, .int .u64 r.tgt.d, .bool r.self, .int .i64 r.cls, .int .u32 r.perms, .int .i64 r.cond] rfl rfl (row_new _ _ _) ?c2 ?c3 ?c4 ?c5 ?_)))
        case c2 => simp [Value.oneCell']
        case c3 => have := HOL.out; unfold maxLen; omega
        case c4 => have := HOL.out; omega
        case c5 => have := HS0.out; have := HBr.out.size; simp; omega
        intro u21 w21 ho21 hg21 hn21
        have HB21 := Lib.hid ((HBr.out.alloc (Nat.le_trans HS0.out HBr.out.size) _).grown hg21 (by have := HS0.out; have := HBr.out.size; simp; omega) (fun q hq => (HOr.out.lt q hq).1))
        have HO21 := Lib.hid ho21
        clear hg21 hn21 ho21 HOr HBr
        go_wp2
        go_ret
        exact ⟨_, rfl, by rw [HAF.out]; exact SliceAt.of_own (by simpa [ARule.cells] using HO21.out) rcells_all, HWO.out.trans (HB21.out.mono (Nat.le_of_lt HLT.out))⟩
end Go.Proofs.YtmkfabdkadocdaaDoor

/-
  The reference's Compress, in plain words.
-/
namespace Go.Proofs.YtmkfabdkadocdaaDoor
open Go Go.WideMaps Go.RowKit Go.Sort

/-! ### The entries that are in range, joined -/
def keyIn (k : Key4) : Bool := decide (0 ≤ k.src ∧ k.src < 256 ∧ 0 ≤ k.tgt ∧ k.tgt < 256)
theorem keyIn_key (x : AEntry) : keyIn x.key = x.inR := rfl
def inStep (I : List AEntry) (x : AEntry) : List AEntry := if x.inR then addR I x else I
def inF (l : List AEntry) : List AEntry := l.foldl inStep []
theorem inF_next {l : List AEntry} {i : Nat} {x : AEntry} (h : l[i]? = some x) : inF (l.take (i + 1)) = inStep (inF (l.take i)) x := by
  unfold inF
  rw [take_snoc h, List.foldl_append]
  rfl
theorem inF_from : ∀ (l L I : List AEntry), Canon (accE L) I → (∀ x ∈ l, x.Ok) → Canon (accE (L ++ l.filter AEntry.inR)) (l.foldl inStep I)
  | [], L, I, h, _ => by simpa using h
  | x :: l, L, I, h, hok => by
    rw [List.foldl_cons]
    have hl : ∀ y ∈ l, y.Ok := fun y hy => hok y (by simp [hy])
    cases hx : x.inR with
    | true =>
      have e : inStep I x = addR I x := by unfold inStep; rw [if_pos hx]
      rw [e, List.filter_cons_of_pos hx, List.append_cons]
      exact inF_from l _ _ (canon_addR h (hok x (by simp))) hl
    | false =>
      have e : inStep I x = I := by unfold inStep; rw [if_neg (by rw [hx]; simp)]
      rw [e, List.filter_cons_of_neg (by rw [hx]; simp)]
      exact inF_from l _ _ h hl
theorem canon_none : Canon (accE []) [] := ⟨List.Pairwise.nil, fun e => by simp [accE, kvs, accum]⟩
theorem inF_canon {l : List AEntry} (hok : ∀ x ∈ l, x.Ok) : Canon (accE (l.filter AEntry.inR)) (inF l) := by
  have := inF_from l [] [] canon_none hok
  rwa [List.nil_append] at this
theorem canon_len {L I : List AEntry} (h : Canon (accE L) I) : I.length ≤ L.length := by
  have hn : I.Nodup := h.ord.imp fun {a b} hab e => by subst e; exact Bef.irrefl _ hab
  refine nodup_le (f := fun p : AEntry => mkE p.key (accE L p.key)) I L hn fun r hr => ?_
  obtain ⟨h1, h2⟩ := (h.mem r).1 hr
  have hk : r.key ∈ (kvs L).map Prod.fst := by
    apply Classical.byContradiction
    intro hno
    exact h2 (accum_out hno)
  obtain ⟨q, hq, e⟩ := List.mem_map.1 hk
  obtain ⟨p, hp, rfl⟩ := List.mem_map.1 hq
  have e : p.key = r.key := e
  exact ⟨p, hp, by rw [e, ← h1, mkE_eta]⟩
theorem inF_len {l : List AEntry} (hok : ∀ x ∈ l, x.Ok) : (inF l).length ≤ l.length := Nat.le_trans (canon_len (inF_canon hok)) (List.length_filter_le _ _)
theorem kvs_cons (x : AEntry) (l : List AEntry) : kvs (x :: l) = (x.key, x.vecs) :: kvs l := rfl
theorem acc_filter : ∀ (l : List AEntry) (f f' : Key4 → AVec), (f' = fun k => if keyIn k then f k else AVec.zero) →
    (kvs (l.filter AEntry.inR)).foldl (fun f p => updV f p.1 p.2) f' = fun k => if keyIn k then (kvs l).foldl (fun f p => updV f p.1 p.2) f k else AVec.zero
  | [], f, f', h => h
  | x :: l, f, f', h => by
    rw [kvs_cons, List.foldl_cons]
    cases hx : x.inR with
    | true =>
      rw [List.filter_cons_of_pos hx, kvs_cons, List.foldl_cons]
      refine acc_filter l _ _ ?_
      subst h
      funext k
      unfold updV
      by_cases hk : k = x.key
      · subst hk
        have hk : keyIn x.key = true := hx
        simp [hk]
      · rw [if_neg hk, if_neg hk]
    | false =>
      rw [List.filter_cons_of_neg (by rw [hx]; simp)]
      refine acc_filter l _ _ ?_
      subst h
      funext k
      unfold updV
      by_cases hk : k = x.key
      · subst hk
        have hk : keyIn x.key = false := hx
        simp [hk]
      · rw [if_neg hk]
theorem accE_filter (l : List AEntry) : accE (l.filter AEntry.inR) = fun k => if keyIn k then accE l k else AVec.zero :=
  acc_filter l (fun _ => AVec.zero) _ (by funext k; simp)
theorem accE_at (l : List AEntry) (k : Key4) : accE (l.filter AEntry.inR) k = if keyIn k then accE l k else AVec.zero := by rw [accE_filter]
theorem canon_filter {l E : List AEntry} (h : Canon (accE l) E) : Canon (accE (l.filter AEntry.inR)) (E.filter AEntry.inR) := by
  refine ⟨h.ord.filter _, fun e => ?_⟩
  rw [accE_at, List.mem_filter, h.mem, keyIn_key]
  cases he : e.inR with
  | true => simp
  | false => simp
theorem inF_eq {l E : List AEntry} (hok : ∀ x ∈ l, x.Ok) (h : Canon (accE l) E) : inF l = E.filter AEntry.inR := (inF_canon hok).uniq (canon_filter h)
theorem inF_in {l : List AEntry} (hok : ∀ x ∈ l, x.Ok) {x : AEntry} (hx : x ∈ inF l) : x.inR = true := by
  obtain ⟨h1, h2⟩ := ((inF_canon hok).mem x).1 hx
  rw [accE_at, keyIn_key] at h2
  cases he : x.inR with
  | true => rfl
  | false => rw [he] at h2; simp at h2
theorem pairsOf_filter (E : List AEntry) : pairsOf (E.filter AEntry.inR) = pairsOf E := by
  induction E with
  | nil => rfl
  | cons x E ih =>
    have e : pairsOf (x :: E) = kinds x ++ pairsOf E := by simp [pairsOf]
    cases hx : x.inR with
    | true =>
      rw [List.filter_cons_of_pos hx, e, ← ih]
      simp [pairsOf]
    | false =>
      have e2 : kinds x = [] := by unfold kinds; rw [if_neg (by rw [hx]; simp)]
      rw [List.filter_cons_of_neg (by rw [hx]; simp), e, e2, ih]
      rfl

/-! ### The targets of a source, the sources of targets -/
theorem tgtF_fold (r : ARule) (s : Int) (l : List AEntry) : ∀ t : ASet, t.Ok → (l.foldl (tgtStep r s) t).Ok ∧ ∀ n : Nat, n < 256 → ((l.foldl (tgtStep r s) t).has n = true ↔ t.has n = true ∨ ∃ x ∈ l, x.hit r s = true ∧ x.tgt = n) := by
  induction l with
  | nil => intro t ht; exact ⟨ht, fun n _ => by simp⟩
  | cons x l ih =>
    intro t ht
    rw [List.foldl_cons]
    have ht' : (tgtStep r s t x).Ok := by
      unfold tgtStep
      split
      · exact ASet.with_ok ht _
      · exact ht
    obtain ⟨h1, h2⟩ := ih _ ht'
    refine ⟨h1, fun n hn => ?_⟩
    rw [h2 n hn]
    unfold tgtStep
    by_cases hh : x.hit r s = true
    · rw [if_pos hh, with_has hn]
      constructor
      · rintro ((h | h) | ⟨q, hq, h3⟩)
        · exact .inr ⟨x, by simp, hh, h⟩
        · exact .inl h
        · exact .inr ⟨q, by simp [hq], h3⟩
      · rintro (h | ⟨q, hq, h3, h4⟩)
        · exact .inl (.inr h)
        · rcases List.mem_cons.1 hq with rfl | hq
          · exact .inl (.inl h4)
          · exact .inr ⟨q, hq, h3, h4⟩
    · rw [if_neg hh]
      constructor
      · rintro (h | ⟨q, hq, h3⟩)
        · exact .inl h
        · exact .inr ⟨q, by simp [hq], h3⟩
      · rintro (h | ⟨q, hq, h3, h4⟩)
        · exact .inl h
        · rcases List.mem_cons.1 hq with rfl | hq
          · exact absurd h3 hh
          · exact .inr ⟨q, hq, h3, h4⟩
theorem tgtF_ok (l : List AEntry) (r : ARule) (s : Int) : (tgtF l r s).Ok := (tgtF_fold r s l _ szero_ok).1
theorem tgtF_has (l : List AEntry) (r : ARule) (s : Int) {n : Nat} (hn : n < 256) : (tgtF l r s).has n = true ↔ ∃ x ∈ l, x.hit r s = true ∧ x.tgt = n := by
  unfold tgtF
  rw [(tgtF_fold r s l _ szero_ok).2 n hn, ASet.has_zero]
  simp
def srcStepR (I : List AEntry) (r : ARule) (T a : ASet) (y : AEntry) : ASet := if y.fits r && decide (tgtF I r y.src = T) then a.with y.src else a
/-- The sources that have the targets T, of the entries L. -/
def srcR (I : List AEntry) (r : ARule) (T : ASet) (L : List AEntry) : ASet := L.foldl (srcStepR I r T) ASet.zero
theorem srcR_next {I L : List AEntry} {r : ARule} {T : ASet} {i : Nat} {y : AEntry} (h : L[i]? = some y) : srcR I r T (L.take (i + 1)) = srcStepR I r T (srcR I r T (L.take i)) y := by
  unfold srcR
  rw [take_snoc h, List.foldl_append]
  rfl
theorem srcR_fold (I : List AEntry) (r : ARule) (T : ASet) (L : List AEntry) : ∀ a : ASet, a.Ok → (L.foldl (srcStepR I r T) a).Ok ∧ ∀ n : Nat, n < 256 → ((L.foldl (srcStepR I r T) a).has n = true ↔ a.has n = true ∨ ∃ y ∈ L, y.fits r = true ∧ tgtF I r y.src = T ∧ y.src = n) := by
  induction L with
  | nil => intro t ht; exact ⟨ht, fun n _ => by simp⟩
  | cons x l ih =>
    intro t ht
    rw [List.foldl_cons]
    have ht' : (srcStepR I r T t x).Ok := by
      unfold srcStepR
      split
      · exact ASet.with_ok ht _
      · exact ht
    obtain ⟨h1, h2⟩ := ih _ ht'
    refine ⟨h1, fun n hn => ?_⟩
    rw [h2 n hn]
    unfold srcStepR
    by_cases hh : (x.fits r && decide (tgtF I r x.src = T)) = true
    · rw [if_pos hh, with_has hn]
      have hh' : x.fits r = true ∧ tgtF I r x.src = T := by simpa using hh
      constructor
      · rintro ((h | h) | ⟨q, hq, h3⟩)
        · exact .inr ⟨x, by simp, hh'.1, hh'.2, h⟩
        · exact .inl h
        · exact .inr ⟨q, by simp [hq], h3⟩
      · rintro (h | ⟨q, hq, h3, h4, h5⟩)
        · exact .inl (.inr h)
        · rcases List.mem_cons.1 hq with rfl | hq
          · exact .inl (.inl h5)
          · exact .inr ⟨q, hq, h3, h4, h5⟩
    · rw [if_neg hh]
      constructor
      · rintro (h | ⟨q, hq, h3⟩)
        · exact .inl h
        · exact .inr ⟨q, by simp [hq], h3⟩
      · rintro (h | ⟨q, hq, h3, h4, h5⟩)
        · exact .inl h
        · rcases List.mem_cons.1 hq with rfl | hq
          · exact absurd (by simp [h3, h4]) hh
          · exact .inr ⟨q, hq, h3, h4, h5⟩
theorem srcR_ok (I : List AEntry) (r : ARule) (T : ASet) (L : List AEntry) : (srcR I r T L).Ok := (srcR_fold I r T L _ szero_ok).1
theorem srcR_has (I : List AEntry) (r : ARule) (T : ASet) (L : List AEntry) {n : Nat} (hn : n < 256) : (srcR I r T L).has n = true ↔ ∃ y ∈ L, y.fits r = true ∧ tgtF I r y.src = T ∧ y.src = n := by
  unfold srcR
  rw [(srcR_fold I r T L _ szero_ok).2 n hn, ASet.has_zero]
  simp

/-! ### One rule -/
def kindOk (k : Int) : Prop := k = 1 ∨ k = 2 ∨ k = 3
theorem tgtF_mk (I : List AEntry) (g : Grp) (p q : ASet × ASet) (s : Int) : tgtF I (mkR g p) s = tgtF I (mkR g q) s := rfl
theorem mem_pairs {I : List AEntry} {x : AEntry} {k : Int} (hx : x ∈ I) (hi : x.inR = true) (hk : kindOk k) : (x, k) ∈ pairsOf I := by
  refine List.mem_flatMap.2 ⟨x, hx, ?_⟩
  unfold kinds
  rw [if_pos hi]
  rcases hk with rfl | rfl | rfl <;> simp
theorem pairs_mem {I : List AEntry} {p : AEntry × Int} (h : p ∈ pairsOf I) : p.1 ∈ I ∧ p.1.inR = true ∧ kindOk p.2 := by
  obtain ⟨x, hx, hp⟩ := List.mem_flatMap.1 h
  unfold kinds at hp
  split at hp
  · rename_i hi
    simp at hp
    unfold kindOk
    rcases hp with rfl | rfl | rfl
    · exact ⟨hx, hi, by simp⟩
    · exact ⟨hx, hi, by simp⟩
    · exact ⟨hx, hi, by simp⟩
  · cases hp
theorem fits_mk (x : AEntry) (g : Grp) (p : ASet × ASet) : x.fits (mkR g p) = true ↔ x.cls = g.cls ∧ x.cond = g.cond ∧ x.vec g.kind = g.perms := by
  unfold AEntry.fits mkR
  simp [and_assoc]
theorem tgt_TT {I : List AEntry} (hI : ∀ x ∈ I, x.inR = true) {g : Grp} (hk : kindOk g.kind) (hp : g.perms ≠ 0) (p : ASet × ASet) (s : Int) : tgtF I (mkR g p) s = TT (pairsOf I) g s := by
  refine ASet.ext (tgtF_ok _ _ _) (TT_ok _ _ _) fun n hn => bool_eq ?_
  rw [tgtF_has _ _ _ hn, TT_has _ _ _ hn]
  constructor
  · rintro ⟨x, hx, hh, ht⟩
    refine ⟨(x, g.kind), mem_pairs hx (hI x hx) hk, ?_, ht⟩
    simp only [AEntry.hit, Bool.and_eq_true, decide_eq_true_eq, fits_mk] at hh
    obtain ⟨h1, h2, h3, h4⟩ := hh
    simp [hits, hI x hx, h1, h2, h3, h4, hp]
  · rintro ⟨⟨x, k⟩, hm, hh, ht⟩
    simp only [hits, Bool.and_eq_true, decide_eq_true_eq] at hh
    obtain ⟨h0, h1, h2, h3, h4, h5, h6⟩ := hh
    refine ⟨x, (pairs_mem hm).1, ?_, ht⟩
    simp only [AEntry.hit, Bool.and_eq_true, decide_eq_true_eq, fits_mk]
    exact ⟨h1, h2, h3, by rw [← h4]; exact h5⟩
def grpP (p : AEntry × Int) : Grp := ⟨p.2, p.1.cls, p.1.cond, p.1.vec p.2⟩
/-- The rule that the reference makes of an entry, for a kind. -/
def candR (I : List AEntry) (p : AEntry × Int) : ARule :=
  let T := tgtF I (mkR (grpP p) (ASet.zero, ASet.zero)) p.1.src
  mkR (grpP p) (T, srcR I (mkR (grpP p) (ASet.zero, ASet.zero)) T I)
theorem candR_eq {I : List AEntry} (hI : ∀ x ∈ I, x.inR = true) {p : AEntry × Int} (hm : p ∈ pairsOf I) (hv : p.1.vec p.2 ≠ 0) : candR I p = cand (pairsOf I) p := by
  obtain ⟨h1, h2, h3⟩ := pairs_mem hm
  have hk : kindOk (grpP p).kind := h3
  have hp : (grpP p).perms ≠ 0 := hv
  have hg : good p = true := by simp [good, h2, hv]
  have hne : TT (pairsOf I) (grpP p) p.1.src ≠ ASet.zero := TT_some hm hg
  unfold candR cand
  simp only [tgt_TT hI hk hp]
  show mkR (grpP p) (_, srcR I (mkR (grpP p) (ASet.zero, ASet.zero)) (TT (pairsOf I) (grpP p) p.1.src) I) = mkR (grpP p) (_, srcOf (TT (pairsOf I) (grpP p)) (TT (pairsOf I) (grpP p) p.1.src))
  congr 2
  refine ASet.ext (srcR_ok _ _ _ _) (srcOf_ok _ _) fun n hn => bool_eq ?_
  rw [srcR_has _ _ _ _ hn, srcOf_has _ _ hn]
  constructor
  · rintro ⟨y, hy, hf, ht, e⟩
    rw [tgt_TT hI hk hp, e] at ht
    exact ht
  · intro h
    obtain ⟨m, hm', hh⟩ := set_some (TT_ok _ _ _) hne
    rw [← h, TT_has _ _ _ hm'] at hh
    obtain ⟨⟨y, k⟩, hq, hh, _⟩ := hh
    simp only [hits, Bool.and_eq_true, decide_eq_true_eq] at hh
    obtain ⟨h0, e1, e2, e3, e4, e5, e6⟩ := hh
    refine ⟨y, (pairs_mem hq).1, (fits_mk _ _ _).2 ⟨e2, e3, by rw [← e4]; exact e5⟩, ?_, e1⟩
    rw [tgt_TT hI hk hp, e1]
    exact h

/-! ### All of them -/
def compStep (I : List AEntry) (out : List ARule) (p : AEntry × Int) : List ARule := if p.1.vec p.2 = 0 then out else insR out (candR I p)
def compF (I : List AEntry) (L : List (AEntry × Int)) : List ARule := L.foldl (compStep I) []
theorem compF_snoc (I : List AEntry) (L : List (AEntry × Int)) (p : AEntry × Int) : compF I (L ++ [p]) = compStep I (compF I L) p := by simp [compF, List.foldl_append]
structure CompI (I : List AEntry) (L : List (AEntry × Int)) (out : List ARule) : Prop where
  ord : out.Pairwise Rbef
  mem : ∀ r ∈ out, ∃ p ∈ L, p ∈ pairsOf I ∧ good p = true ∧ r = cand (pairsOf I) p
  all : ∀ p ∈ L, good p = true → cand (pairsOf I) p ∈ out
theorem CompI.rule {I : List AEntry} {L : List (AEntry × Int)} {out : List ARule} (h : CompI I L out) : ∀ r ∈ out, RuleOf (pairsOf I) r := fun r hr => by
  obtain ⟨p, _, h1, h2, h3⟩ := h.mem r hr
  exact ruleOf_iff.2 ⟨p, h1, h2, h3⟩
theorem CompI.len {I : List AEntry} {L : List (AEntry × Int)} {out : List ARule} (h : CompI I L out) : out.length ≤ L.length :=
  nodup_le (f := cand (pairsOf I)) out L (Rbef.nodup h.ord) fun r hr => let ⟨p, h1, _, _, h4⟩ := h.mem r hr; ⟨p, h1, h4⟩
theorem CompI.step {I : List AEntry} (hI : ∀ x ∈ I, x.inR = true) {L : List (AEntry × Int)} {out : List ARule} {p : AEntry × Int} (h : CompI I L out) (hp : p ∈ pairsOf I) : CompI I (L ++ [p]) (compStep I out p) := by
  unfold compStep
  split
  · rename_i hz
    refine ⟨h.ord, fun r hr => ?_, fun q hq hg => ?_⟩
    · obtain ⟨q, h1, h2⟩ := h.mem r hr
      exact ⟨q, by simp [h1], h2⟩
    · rcases List.mem_append.1 hq with hq | hq
      · exact h.all q hq hg
      · simp at hq
        subst hq
        simp [good, hz] at hg
  · rename_i hz
    have hg : good p = true := by simp [good, (pairs_mem hp).2.1, hz]
    rw [candR_eq hI hp hz]
    refine ⟨insR_sorted h.ord h.rule (ruleOf_iff.2 ⟨p, hp, hg, rfl⟩), fun r hr => ?_, fun q hq hg => ?_⟩
    · rcases insR_mem.1 hr with rfl | hr
      · exact ⟨p, by simp, hp, hg, rfl⟩
      · obtain ⟨q, h1, h2⟩ := h.mem r hr
        exact ⟨q, by simp [h1], h2⟩
    · rcases List.mem_append.1 hq with hq | hq
      · exact insR_mem.2 (.inr (h.all q hq hg))
      · simp at hq
        subst hq
        exact insR_mem.2 (.inl rfl)
theorem compI_from {I : List AEntry} (hI : ∀ x ∈ I, x.inR = true) : ∀ (L L0 : List (AEntry × Int)) (out : List ARule), CompI I L0 out → (∀ p ∈ L, p ∈ pairsOf I) → CompI I (L0 ++ L) (L.foldl (compStep I) out)
  | [], L0, out, h, _ => by simpa using h
  | p :: L, L0, out, h, hm => by
    rw [List.foldl_cons, List.append_cons]
    exact compI_from hI L _ _ (h.step hI (hm p (by simp))) fun q hq => hm q (by simp [hq])
theorem compI_all {I : List AEntry} (hI : ∀ x ∈ I, x.inR = true) {L : List (AEntry × Int)} (hm : ∀ p ∈ L, p ∈ pairsOf I) : CompI I L (compF I L) := by
  have := compI_from hI L [] [] ⟨List.Pairwise.nil, fun _ h => (by cases h), fun _ h => (by cases h)⟩ hm
  rwa [List.nil_append] at this
theorem comp_canon {I : List AEntry} (hI : ∀ x ∈ I, x.inR = true) : CanonR (pairsOf I) (compF I (pairsOf I)) := by
  have h := compI_all hI (L := pairsOf I) fun _ h => h
  exact canonR_check ⟨h.ord, fun r hr => let ⟨p, h1, _, h3⟩ := h.mem r hr; ⟨p, h1, h3⟩, h.all⟩
/-- What the reference returns is what Compress returns. -/
theorem refCompress_canon {l E : List AEntry} (hok : ∀ x ∈ l, x.Ok) (h : Canon (accE l) E) : CanonR (pairsOf E) (compF (inF l) (pairsOf (inF l))) := by
  have := comp_canon (I := inF l) fun x hx => inF_in hok hx
  have e : pairsOf (inF l) = pairsOf E := by rw [inF_eq hok h, pairsOf_filter]
  rw [e] at this ⊢
  exact this
end Go.Proofs.YtmkfabdkadocdaaDoor

/-
  The reference's Compress: its regions.
-/
namespace Go.Proofs.YtmkfabdkadocdaaDoor
open Go Go.WideMaps Go.RowKit Go.Sort

set_option maxRecDepth 100000 in
set_option maxHeartbeats 4000000 in
theorem comp5 (w : World) (b off i n c : Nat) (x : AEntry) (x1 x2 x3 x5 x6 x7 x8 x9 x10 x11 x12 x13 x14 x15 x16 x17 x18 x19 x20 x21 x22 x23 x24 x25 x26 x27 x28 x29 x30 x31 x32 x33 x34 x35 x36 x37 x38 x39 x40 x41 x42 x43 x44 x45 x46 x47 x48 x49 x50 x51 x52 x53 x54 x55 x56 x57 x58 x59 x60 x61 x62 x63 x64 x65 x66 x67 x68 x69 x70 x71 x72 x73 x74 x75 x76 x77 x78 x79 x80 x81 x82 x83 x84 x85 x86 x87 x88 x89 x90 x91 x92 x93 x94 x95 x96 x97 x98 x99 x100 x101 x102 x103 x104 x105 x106 x107 x108 x109 x110 x111 x112 x113 x114 x115 x116 x117 x118 x119 x120 x121 x122 x123 x124 x125 x126 x127 x128 x129 : Value) (hin : i < n) (HE : Hid (∀ j u, x.cells[j]? = some u → w.cell? ⟨b, off + i * 7 + j, none⟩ = some u))
    {Q' : Exit → Act → World → Prop} (hend : ∀ (v16 v17 v18 v19 v20 v21 v22 v23 v24 v25 v26 v27 v28 v29 v30 v31 v32 v33 v34 v35 v36 v37 v38 v39 v40 v41 v42 v43 v44 : Value) , Q' .normal ⟨#[.slice (some ⟨b, off, none⟩) n c, x1, x2, x3, .int .i64 (i : Int), x5, x6, x7, x8, x9, x10, x11, x12, x13, x14, x15, v16, v17, v18, v19, v20, v21, v22, v23, v24, v25, v26, v27, v28, v29, v30, v31, v32, v33, v34, v35, v36, v37, v38, v39, v40, v41, v42, v43, v44, .bool x.inR, x46, x47, x48, x49, x50, x51, x52, x53, x54, x55, x56, x57, x58, x59, x60, x61, x62, x63, x64, x65, x66, x67, x68, x69, x70, x71, x72, x73, x74, x75, x76, x77, x78, x79, x80, x81, x82, x83, x84, x85, x86, x87, x88, x89, x90, x91, x92, x93, x94, x95, x96, x97, x98, x99, x100, x101, x102, x103, x104, x105, x106, x107, x108, x109, x110, x111, x112, x113, x114, x115, x116, x117, x118, x119, x120, x121, x122, x123, x124, x125, x126, x127, x128, x129], []⟩ w) :
    Code.wp Tryd.prog (findRegion7 5 ((Tryd.f25.body).getD .skip)) Q' ⟨#[.slice (some ⟨b, off, none⟩) n c, x1, x2, x3, .int .i64 (i : Int), x5, x6, x7, x8, x9, x10, x11, x12, x13, x14, x15, x16, x17, x18, x19, x20, x21, x22, x23, x24, x25, x26, x27, x28, x29, x30, x31, x32, x33, x34, x35, x36, x37, x38, x39, x40, x41, x42, x43, x44, x45, x46, x47, x48, x49, x50, x51, x52, x53, x54, x55, x56, x57, x58, x59, x60, x61, x62, x63, x64, x65, x66, x67, x68, x69, x70, x71, x72, x73, x74, x75, x76, x77, x78, x79, x80, x81, x82, x83, x84, x85, x86, x87, x88, x89, x90, x91, x92, x93, x94, x95, x96, x97, x98, x99, x100, x101, x102, x103, x104, x105, x106, x107, x108, x109, x110, x111, x112, x113, x114, x115, x116, x117, x118, x119, x120, x121, x122, x123, x124, x125, x126, x127, x128, x129], []⟩ w := by
  have k0 : w.cell? ⟨b, off + i * 7, none⟩ = some (.int .i64 x.src) := HE.out 0 _ rfl
  have k1 : w.cell? ⟨b, off + i * 7 + 1, none⟩ = some (.int .i64 x.tgt) := HE.out 1 _ rfl
  by_cases h1 : 0 ≤ x.src
  · have hd1 : decide (0 ≤ x.src) = true := by simp [h1]
    by_cases h2 : x.src < 256
    · have hd2 : decide (x.src < 256) = true := by simp [h2]
      by_cases h3 : 0 ≤ x.tgt
      · have hd3 : decide (0 ≤ x.tgt) = true := by simp [h3]
        by_cases h4 : x.tgt < 256
        · have hd4 : decide (x.tgt < 256) = true := by simp [h4]
          rw [show x.inR = true by unfold AEntry.inR; simp; omega] at hend
          have HEND := Lib.hid hend
          clear hend h1 h2 h3 h4
          conv => arg 2; whnf
          conv => arg 4; dsimp only
          go_wp2_with fail
          exact HEND.out _ _ _ _ _ _ _ _ _ _ _ _ _ _ _ _ _ _ _ _ _ _ _ _ _ _ _ _ _
        · have hd4 : decide (x.tgt < 256) = false := by simp; omega
          rw [show x.inR = false by unfold AEntry.inR; simp; omega] at hend
          have HEND := Lib.hid hend
          clear hend h1 h2 h3 h4
          conv => arg 2; whnf
          conv => arg 4; dsimp only
          go_wp2_with fail
          exact HEND.out _ _ _ _ _ _ _ _ _ _ _ _ _ _ _ _ _ _ _ _ _ _ _ _ _ _ _ _ _
      · have hd3 : decide (0 ≤ x.tgt) = false := by simp; omega
        rw [show x.inR = false by unfold AEntry.inR; simp; omega] at hend
        have HEND := Lib.hid hend
        clear hend h1 h2 h3
        conv => arg 2; whnf
        conv => arg 4; dsimp only
        go_wp2_with fail
        exact HEND.out _ _ _ _ _ _ _ _ _ _ _ _ _ _ _ _ _ _ _ _ _ _ _ _ _ _ _ _ _
    · have hd2 : decide (x.src < 256) = false := by simp; omega
      rw [show x.inR = false by unfold AEntry.inR; simp; omega] at hend
      have HEND := Lib.hid hend
      clear hend h1 h2
      conv => arg 2; whnf
      conv => arg 4; dsimp only
      go_wp2_with fail
      exact HEND.out _ _ _ _ _ _ _ _ _ _ _ _ _ _ _ _ _ _ _ _ _ _ _ _ _ _ _ _ _
  · have hd1 : decide (0 ≤ x.src) = false := by simp; omega
    rw [show x.inR = false by unfold AEntry.inR; simp; omega] at hend
    have HEND := Lib.hid hend
    clear hend h1
    conv => arg 2; whnf
    conv => arg 4; dsimp only
    go_wp2_with fail
    exact HEND.out _ _ _ _ _ _ _ _ _ _ _ _ _ _ _ _ _ _ _ _ _ _ _ _ _ _ _ _ _
set_option maxRecDepth 100000 in
set_option maxHeartbeats 4000000 in
theorem comp14 (w : World) (b off i n c k : Nat) (x : AEntry) (pv : Int) (x0 x1 x2 x4 x5 x8 x9 x10 x11 x12 x13 x14 x15 x16 x17 x18 x19 x20 x21 x22 x23 x24 x25 x26 x27 x28 x29 x30 x31 x32 x33 x34 x35 x36 x37 x38 x39 x40 x41 x42 x43 x44 x45 x46 x47 x48 x49 x50 x51 x52 x53 x54 x55 x56 x57 x58 x59 x60 x61 x62 x63 x64 x65 x66 x67 x68 x69 x70 x71 x72 x73 x74 x75 x76 x77 x78 x79 x80 x81 x82 x83 x84 x85 x86 x87 x88 x89 x90 x91 x92 x93 x94 x95 x96 x97 x98 x99 x100 x101 x102 x103 x104 x105 x106 x107 x108 x109 x110 x111 x112 x113 x114 x115 x116 x117 x118 x119 x120 x121 x122 x123 x124 x125 x126 x127 x128 x129 : Value) (hin : i < n) (HE : Hid (∀ j u, x.cells[j]? = some u → w.cell? ⟨b, off + i * 7 + j, none⟩ = some u)) (HV : Hid (∀ W, Calls Tryd.prog 41 #[.agg #[.int .i64 x.src, .int .i64 x.tgt, .int .i64 x.cls, .int .i64 x.cond, .int .u32 x.allow, .int .u32 x.audit, .int .u32 x.dont], .int .i64 (k : Int)] W fun e w' => e = .returned (.int .u32 pv) ∧ RowKit.Below W.heap.size W w'))
    {Q' : Exit → Act → World → Prop} (hend : ∀ (v62 v63 v64 v65 v66 v67 v68 v69 v70 v71 v72 v73 v74 v75 v76 v77 v78 v79 : Value) (g : Nat) (w' : World), RowKit.Below w.heap.size w w' → w.heap.size ≤ g → Whole w' g 27 #[.int .i64 (k : Int), .int .u64 0, .int .u64 0, .int .u64 0, .int .u64 0, .int .u64 0, .int .u64 0, .int .u64 0, .int .u64 0, .bool false, .int .i64 x.cls, .int .u32 pv, .int .i64 x.cond] → Q' .normal ⟨#[x0, x1, x2, .slice (some ⟨b, off, none⟩) n c, x4, x5, .int .i64 (i : Int), .int .i64 (k : Int), .pointer (some ⟨g, 0, none⟩), x9, x10, x11, x12, x13, x14, x15, x16, x17, x18, x19, x20, x21, x22, x23, x24, x25, x26, x27, x28, x29, x30, x31, x32, x33, x34, x35, x36, x37, x38, x39, x40, x41, x42, x43, x44, x45, x46, x47, x48, x49, x50, x51, x52, x53, x54, x55, x56, x57, x58, x59, x60, x61, v62, v63, v64, v65, v66, v67, v68, v69, v70, v71, v72, v73, v74, v75, v76, v77, v78, v79, x80, x81, x82, x83, x84, x85, x86, x87, x88, x89, x90, x91, x92, x93, x94, x95, x96, x97, x98, x99, x100, x101, x102, x103, x104, x105, x106, x107, x108, x109, x110, x111, x112, x113, x114, x115, x116, x117, x118, x119, x120, x121, x122, x123, x124, x125, x126, x127, x128, x129], []⟩ w') :
    Code.wp Tryd.prog (findRegion7 14 ((Tryd.f25.body).getD .skip)) Q' ⟨#[x0, x1, x2, .slice (some ⟨b, off, none⟩) n c, x4, x5, .int .i64 (i : Int), .int .i64 (k : Int), x8, x9, x10, x11, x12, x13, x14, x15, x16, x17, x18, x19, x20, x21, x22, x23, x24, x25, x26, x27, x28, x29, x30, x31, x32, x33, x34, x35, x36, x37, x38, x39, x40, x41, x42, x43, x44, x45, x46, x47, x48, x49, x50, x51, x52, x53, x54, x55, x56, x57, x58, x59, x60, x61, x62, x63, x64, x65, x66, x67, x68, x69, x70, x71, x72, x73, x74, x75, x76, x77, x78, x79, x80, x81, x82, x83, x84, x85, x86, x87, x88, x89, x90, x91, x92, x93, x94, x95, x96, x97, x98, x99, x100, x101, x102, x103, x104, x105, x106, x107, x108, x109, x110, x111, x112, x113, x114, x115, x116, x117, x118, x119, x120, x121, x122, x123, x124, x125, x126, x127, x128, x129], []⟩ w := by
  have HEND := Lib.hid hend
  clear hend
  conv => arg 2; whnf
  conv => arg 4; dsimp only
  refine wp_region_goods [some 62, some 63, some 64, some 65, some 66, some 67, some 68, some 69, some 70, some 71, some 72, some 73, some 74, some 75, some 76, some 77, some 78, some 79, some 8] [isW (.int .i64 (k : Int)), isW (.slice (some ⟨b, off, none⟩) n c), isW (.int .i64 (i : Int)), isW (.pointer (some ⟨b, off + i * 7, none⟩)), isW (.pointer (some ⟨b, off + i * 7 + 2, none⟩)), isW (.int .i64 x.cls), isW (.slice (some ⟨b, off, none⟩) n c), isW (.int .i64 (i : Int)), isW (.pointer (some ⟨b, off + i * 7, none⟩)), isW (.pointer (some ⟨b, off + i * 7 + 3, none⟩)), isW (.int .i64 x.cond), isW (.slice (some ⟨b, off, none⟩) n c), isW (.int .i64 (i : Int)), isW (.pointer (some ⟨b, off + i * 7, none⟩)), isW (.agg #[.int .i64 x.src, .int .i64 x.tgt, .int .i64 x.cls, .int .i64 x.cond, .int .u32 x.allow, .int .u32 x.audit, .int .u32 x.dont]), isW (.int .i64 (k : Int)), isW (.int .u32 pv), isW (.agg #[.int .i64 (k : Int), .int .u64 0, .int .u64 0, .int .u64 0, .int .u64 0, .int .u64 0, .int .u64 0, .int .u64 0, .int .u64 0, .bool false, .int .i64 x.cls, .int .u32 pv, .int .i64 x.cond]), (fun _ v w' => ∃ g, v = .pointer (some ⟨g, 0, none⟩) ∧ w.heap.size ≤ g ∧ Whole w' g 27 #[.int .i64 0, .int .u64 0, .int .u64 0, .int .u64 0, .int .u64 0, .int .u64 0, .int .u64 0, .int .u64 0, .int .u64 0, .bool false, .int .i64 0, .int .u32 0, .int .i64 0])] (fun _ w' => RowKit.Below w.heap.size w w') [] (by kernel_rfl) (by kernel_rfl) (by kernel_rfl) rfl (by decide) rfl rfl ((Below.refl _ _).drew) ⟨lastsW_is _, lastsW_is _, lastsW_is _, lastsW_is _, lastsW_is _, lastsW_is _, lastsW_is _, lastsW_is _, lastsW_is _, lastsW_is _, lastsW_is _, lastsW_is _, lastsW_is _, lastsW_is _, lastsW_is _, lastsW_is _, lastsW_is _, lastsW_is _, (fun L i v w1 w2 _ h hb => let ⟨g, e, hg, hw⟩ := h; ⟨g, e, hg, Whole.under hb hw hw.lt⟩), trivial⟩ ⟨?_, ?_, ?_, ?_, ?_, ?_, ?_, ?_, ?_, ?_, ?_, ?_, ?_, ?_, ?_, ?_, ?_, ?_, ?_, ?_⟩
  · intro L a wy Q' hL hi H F hK
    try dsimp only at hi
    have h7 : a.tmps[7]? = some (.int .i64 (k : Int)) := F 7 rfl
    have HI := Lib.hid hi
    clear H F hi hL
    go_wp2_with fail
    exact hK _ _ (Below.refl _ _) HI.out rfl
  · intro L a wy Q' hL hi H F hK
    try dsimp only at hi
    have h3 : a.tmps[3]? = some (.slice (some ⟨b, off, none⟩) n c) := F 3 rfl
    have HI := Lib.hid hi
    clear H F hi hL
    go_wp2_with fail
    exact hK _ _ (Below.refl _ _) HI.out rfl
  · intro L a wy Q' hL hi H F hK
    try dsimp only at hi
    have h6 : a.tmps[6]? = some (.int .i64 (i : Int)) := F 6 rfl
    have HI := Lib.hid hi
    clear H F hi hL
    go_wp2_with fail
    exact hK _ _ (Below.refl _ _) HI.out rfl
  · intro L a wy Q' hL hi H F hK
    try dsimp only at hi
    obtain ⟨_, h63, rfl⟩ := H 1 ⟨.data, by simp, rfl⟩ _ rfl
    replace h63 := h63 _ rfl
    obtain ⟨_, h64, rfl⟩ := H 2 ⟨.data, by simp, rfl⟩ _ rfl
    replace h64 := h64 _ rfl
    have HI := Lib.hid hi
    clear H F hi hL
    go_wp2_with fail
    exact hK _ _ (Below.refl _ _) HI.out rfl
  · intro L a wy Q' hL hi H F hK
    try dsimp only at hi
    obtain ⟨_, h65, rfl⟩ := H 3 ⟨.data, by simp, rfl⟩ _ rfl
    replace h65 := h65 _ rfl
    have HI := Lib.hid hi
    clear H F hi hL
    go_wp2_with fail
    exact hK _ _ (Below.refl _ _) HI.out rfl
  · intro L a wy Q' hL hi H F hK
    try dsimp only at hi
    obtain ⟨_, h66, rfl⟩ := H 4 ⟨.data, by simp, rfl⟩ _ rfl
    replace h66 := h66 _ rfl
    have HI := Lib.hid hi
    clear H F hi hL
    have kq2 : wy.cell? ⟨b, off + i * 7 + 2, none⟩ = some (.int .i64 x.cls) := cell_later HI.out (HE.out 2 _ rfl)
    go_wp2_with fail
    exact hK _ _ (Below.refl _ _) HI.out rfl
  · intro L a wy Q' hL hi H F hK
    try dsimp only at hi
    have h3 : a.tmps[3]? = some (.slice (some ⟨b, off, none⟩) n c) := F 3 rfl
    have HI := Lib.hid hi
    clear H F hi hL
    go_wp2_with fail
    exact hK _ _ (Below.refl _ _) HI.out rfl
  · intro L a wy Q' hL hi H F hK
    try dsimp only at hi
    have h6 : a.tmps[6]? = some (.int .i64 (i : Int)) := F 6 rfl
    have HI := Lib.hid hi
    clear H F hi hL
    go_wp2_with fail
    exact hK _ _ (Below.refl _ _) HI.out rfl
  · intro L a wy Q' hL hi H F hK
    try dsimp only at hi
    obtain ⟨_, h68, rfl⟩ := H 6 ⟨.data, by simp, rfl⟩ _ rfl
    replace h68 := h68 _ rfl
    obtain ⟨_, h69, rfl⟩ := H 7 ⟨.data, by simp, rfl⟩ _ rfl
    replace h69 := h69 _ rfl
    have HI := Lib.hid hi
    clear H F hi hL
    go_wp2_with fail
    exact hK _ _ (Below.refl _ _) HI.out rfl
  · intro L a wy Q' hL hi H F hK
    try dsimp only at hi
    obtain ⟨_, h70, rfl⟩ := H 8 ⟨.data, by simp, rfl⟩ _ rfl
    replace h70 := h70 _ rfl
    have HI := Lib.hid hi
    clear H F hi hL
    go_wp2_with fail
    exact hK _ _ (Below.refl _ _) HI.out rfl
  · intro L a wy Q' hL hi H F hK
    try dsimp only at hi
    obtain ⟨_, h71, rfl⟩ := H 9 ⟨.data, by simp, rfl⟩ _ rfl
    replace h71 := h71 _ rfl
    have HI := Lib.hid hi
    clear H F hi hL
    have kq3 : wy.cell? ⟨b, off + i * 7 + 3, none⟩ = some (.int .i64 x.cond) := cell_later HI.out (HE.out 3 _ rfl)
    go_wp2_with fail
    exact hK _ _ (Below.refl _ _) HI.out rfl
  · intro L a wy Q' hL hi H F hK
    try dsimp only at hi
    have h3 : a.tmps[3]? = some (.slice (some ⟨b, off, none⟩) n c) := F 3 rfl
    have HI := Lib.hid hi
    clear H F hi hL
    go_wp2_with fail
    exact hK _ _ (Below.refl _ _) HI.out rfl
  · intro L a wy Q' hL hi H F hK
    try dsimp only at hi
    have h6 : a.tmps[6]? = some (.int .i64 (i : Int)) := F 6 rfl
    have HI := Lib.hid hi
    clear H F hi hL
    go_wp2_with fail
    exact hK _ _ (Below.refl _ _) HI.out rfl
  · intro L a wy Q' hL hi H F hK
    try dsimp only at hi
    obtain ⟨_, h73, rfl⟩ := H 11 ⟨.data, by simp, rfl⟩ _ rfl
    replace h73 := h73 _ rfl
    obtain ⟨_, h74, rfl⟩ := H 12 ⟨.data, by simp, rfl⟩ _ rfl
    replace h74 := h74 _ rfl
    have HI := Lib.hid hi
    clear H F hi hL
    go_wp2_with fail
    exact hK _ _ (Below.refl _ _) HI.out rfl
  · intro L a wy Q' hL hi H F hK
    try dsimp only at hi
    obtain ⟨_, h75, rfl⟩ := H 13 ⟨.data, by simp, rfl⟩ _ rfl
    replace h75 := h75 _ rfl
    have HI := Lib.hid hi
    clear H F hi hL
    have kq0 : wy.cell? ⟨b, off + i * 7, none⟩ = some (.int .i64 x.src) := cell_later HI.out (HE.out 0 _ rfl)
    have kq1 : wy.cell? ⟨b, off + i * 7 + 1, none⟩ = some (.int .i64 x.tgt) := cell_later HI.out (HE.out 1 _ rfl)
    have kq2 : wy.cell? ⟨b, off + i * 7 + 2, none⟩ = some (.int .i64 x.cls) := cell_later HI.out (HE.out 2 _ rfl)
    have kq3 : wy.cell? ⟨b, off + i * 7 + 3, none⟩ = some (.int .i64 x.cond) := cell_later HI.out (HE.out 3 _ rfl)
    have kq4 : wy.cell? ⟨b, off + i * 7 + 4, none⟩ = some (.int .u32 x.allow) := cell_later HI.out (HE.out 4 _ rfl)
    have kq5 : wy.cell? ⟨b, off + i * 7 + 5, none⟩ = some (.int .u32 x.audit) := cell_later HI.out (HE.out 5 _ rfl)
    have kq6 : wy.cell? ⟨b, off + i * 7 + 6, none⟩ = some (.int .u32 x.dont) := cell_later HI.out (HE.out 6 _ rfl)
    go_wp2_with fail
    exact hK _ _ (Below.refl _ _) HI.out rfl
  · intro L a wy Q' hL hi H F hK
    try dsimp only at hi
    have h7 : a.tmps[7]? = some (.int .i64 (k : Int)) := F 7 rfl
    have HI := Lib.hid hi
    clear H F hi hL
    go_wp2_with fail
    exact hK _ _ (Below.refl _ _) HI.out rfl
  · intro L a wy Q' hL hi H F hK
    try dsimp only at hi
    obtain ⟨_, h76, rfl⟩ := H 14 ⟨.data, by simp, rfl⟩ _ rfl
    replace h76 := h76 _ rfl
    obtain ⟨_, h77, rfl⟩ := H 15 ⟨.data, by simp, rfl⟩ _ rfl
    replace h77 := h77 _ rfl
    have HI := Lib.hid hi
    clear H F hi hL
    have HK := Lib.hid hK
    clear hK
    go_wp2_with (go_at_call 41; go_must (refine (HV.out wy).mono ?_; rintro e w1 ⟨rfl, hb1⟩))
    exact HK.out _ _ hb1 (HI.out.trans (hb1.mono HI.out.size)) rfl
  · intro L a wy Q' hL hi H F hK
    try dsimp only at hi
    obtain ⟨_, h62, rfl⟩ := H 0 ⟨.data, by simp, rfl⟩ _ rfl
    replace h62 := h62 _ rfl
    obtain ⟨_, h67, rfl⟩ := H 5 ⟨.data, by simp, rfl⟩ _ rfl
    replace h67 := h67 _ rfl
    obtain ⟨_, h72, rfl⟩ := H 10 ⟨.data, by simp, rfl⟩ _ rfl
    replace h72 := h72 _ rfl
    obtain ⟨_, h78, rfl⟩ := H 16 ⟨.data, by simp, rfl⟩ _ rfl
    replace h78 := h78 _ rfl
    have HI := Lib.hid hi
    clear H F hi hL
    go_wp2_with fail
    exact hK _ _ (Below.refl _ _) HI.out rfl
  · intro L a wy Q' hL hi H F hK
    try dsimp only at hi
    have HI := Lib.hid hi
    clear H F hi hL
    have HK := Lib.hid hK
    clear hK
    go_wp2_with fail
    exact HK.out _ _ ((Below.refl _ _).alloc (Nat.le_refl _) _) (HI.out.alloc HI.out.size _) ⟨wy.heap.size, rfl, HI.out.size, Whole.new wy 27 _⟩
  · intro a wy L hl hi hL Q' hK
    try dsimp only at hi
    have HB := Lib.hid hi
    clear hi hL
    obtain ⟨_, rfl, _, rfl, _, rfl, _, rfl, _, rfl, _, rfl, _, rfl, _, rfl, _, rfl, _, rfl, _, rfl, _, rfl, _, rfl, _, rfl, _, rfl, _, rfl, _, rfl, _, rfl, u8, hu8, rfl⟩ := hl
    have HU8 := Lib.hid hu8
    clear hu8
    simp only [List.setIfInBounds_toArray, List.set_cons_zero, List.set_cons_succ]
    obtain ⟨g, rfl, hg, hw⟩ := HU8.out
    have HG := Lib.hid hg
    have HW := Lib.hid hw
    clear HU8 hg hw
    go_wp2_with (refine wpList_store_blk rfl 27 _ _ rfl g 0 (.agg #[.int .i64 (k : Int), .int .u64 0, .int .u64 0, .int .u64 0, .int .u64 0, .int .u64 0, .int .u64 0, .int .u64 0, .int .u64 0, .bool false, .int .i64 x.cls, .int .u32 pv, .int .i64 x.cond]) rfl rfl 27 _ HW.out (by simp [Value.cells]) size27 rfl ?_; intro w9 S9 W9; rw [splice_all _ _ (by rfl)] at W9; have HS9 := Lib.hid S9; have HW9 := Lib.hid (show Whole w9 g 27 #[.int .i64 (k : Int), .int .u64 0, .int .u64 0, .int .u64 0, .int .u64 0, .int .u64 0, .int .u64 0, .int .u64 0, .int .u64 0, .bool false, .int .i64 x.cls, .int .u32 pv, .int .i64 x.cond] from W9); clear S9 W9)
    exact HEND.out _ _ _ _ _ _ _ _ _ _ _ _ _ _ _ _ _ _ g w9 (HB.out.trans (HS9.out.below HG.out)) HG.out HW9.out
set_option maxRecDepth 100000 in
set_option maxHeartbeats 4000000 in
theorem comp16 (w : World) (b off i n c g k : Nat) (x : AEntry) (pv : Int) (T : ASet) (x0 x1 x2 x4 x5 x7 x9 x10 x11 x12 x13 x14 x15 x16 x17 x18 x19 x20 x21 x22 x23 x24 x25 x26 x27 x28 x29 x30 x31 x32 x33 x34 x35 x36 x37 x38 x39 x40 x41 x42 x43 x44 x45 x46 x47 x48 x49 x50 x51 x52 x53 x54 x55 x56 x57 x58 x59 x60 x61 x62 x63 x64 x65 x66 x67 x68 x69 x70 x71 x72 x73 x74 x75 x76 x77 x78 x79 x80 x81 x82 x83 x84 x85 x86 x87 x88 x89 x90 x91 x92 x93 x94 x95 x96 x97 x98 x99 x100 x101 x102 x103 x104 x105 x106 x107 x108 x109 x110 x111 x112 x113 x114 x115 x116 x117 x118 x119 x120 x121 x122 x123 x124 x125 x126 x127 x128 x129 : Value) (hin : i < n) (HE : Hid (∀ j u, x.cells[j]? = some u → w.cell? ⟨b, off + i * 7 + j, none⟩ = some u)) (HR : Hid (Whole w g 27 #[.int .i64 (k : Int), .int .u64 0, .int .u64 0, .int .u64 0, .int .u64 0, .int .u64 0, .int .u64 0, .int .u64 0, .int .u64 0, .bool false, .int .i64 x.cls, .int .u32 pv, .int .i64 x.cond])) (HT : Hid (∀ W, RowKit.Below w.heap.size w W → Calls Tryd.prog 42 #[.slice (some ⟨b, off, none⟩) n c, .agg #[.int .i64 (k : Int), .int .u64 0, .int .u64 0, .int .u64 0, .int .u64 0, .int .u64 0, .int .u64 0, .int .u64 0, .int .u64 0, .bool false, .int .i64 x.cls, .int .u32 pv, .int .i64 x.cond], .int .i64 x.src] W fun e w' => e = .returned (.agg #[.int .u64 T.a, .int .u64 T.b, .int .u64 T.c, .int .u64 T.d]) ∧ RowKit.Below W.heap.size W w'))
    {Q' : Exit → Act → World → Prop} (hend : ∀ (v83 v84 v85 v86 v87 v88 v89 v90 v91 : Value) (w' : World), (∀ B, B ≤ g → B ≤ w.heap.size → RowKit.Below B w w') → Whole w' g 27 #[.int .i64 (k : Int), .int .u64 0, .int .u64 0, .int .u64 0, .int .u64 0, .int .u64 T.a, .int .u64 T.b, .int .u64 T.c, .int .u64 T.d, .bool false, .int .i64 x.cls, .int .u32 pv, .int .i64 x.cond] → Q' .normal ⟨#[x0, x1, x2, .slice (some ⟨b, off, none⟩) n c, x4, x5, .int .i64 (i : Int), x7, .pointer (some ⟨g, 0, none⟩), x9, x10, x11, x12, x13, x14, x15, x16, x17, x18, x19, x20, x21, x22, x23, x24, x25, x26, x27, x28, x29, x30, x31, x32, x33, x34, x35, x36, x37, x38, x39, x40, x41, x42, x43, x44, x45, x46, x47, x48, x49, x50, x51, x52, x53, x54, x55, x56, x57, x58, x59, x60, x61, x62, x63, x64, x65, x66, x67, x68, x69, x70, x71, x72, x73, x74, x75, x76, x77, x78, x79, x80, x81, x82, v83, v84, v85, v86, v87, v88, v89, v90, v91, x92, x93, x94, x95, x96, x97, x98, x99, x100, x101, x102, x103, x104, x105, x106, x107, x108, x109, x110, x111, x112, x113, x114, x115, x116, x117, x118, x119, x120, x121, x122, x123, x124, x125, x126, x127, x128, x129], []⟩ w') :
    Code.wp Tryd.prog (findRegion7 16 ((Tryd.f25.body).getD .skip)) Q' ⟨#[x0, x1, x2, .slice (some ⟨b, off, none⟩) n c, x4, x5, .int .i64 (i : Int), x7, .pointer (some ⟨g, 0, none⟩), x9, x10, x11, x12, x13, x14, x15, x16, x17, x18, x19, x20, x21, x22, x23, x24, x25, x26, x27, x28, x29, x30, x31, x32, x33, x34, x35, x36, x37, x38, x39, x40, x41, x42, x43, x44, x45, x46, x47, x48, x49, x50, x51, x52, x53, x54, x55, x56, x57, x58, x59, x60, x61, x62, x63, x64, x65, x66, x67, x68, x69, x70, x71, x72, x73, x74, x75, x76, x77, x78, x79, x80, x81, x82, x83, x84, x85, x86, x87, x88, x89, x90, x91, x92, x93, x94, x95, x96, x97, x98, x99, x100, x101, x102, x103, x104, x105, x106, x107, x108, x109, x110, x111, x112, x113, x114, x115, x116, x117, x118, x119, x120, x121, x122, x123, x124, x125, x126, x127, x128, x129], []⟩ w := by
  have HEND := Lib.hid hend
  clear hend
  conv => arg 2; whnf
  conv => arg 4; dsimp only
  refine wp_region_goods [some 83, some 84, some 85, some 86, some 87, some 88, some 89, some 90, some 91] [isW (.slice (some ⟨b, off, none⟩) n c), isW (.agg #[.int .i64 (k : Int), .int .u64 0, .int .u64 0, .int .u64 0, .int .u64 0, .int .u64 0, .int .u64 0, .int .u64 0, .int .u64 0, .bool false, .int .i64 x.cls, .int .u32 pv, .int .i64 x.cond]), isW (.slice (some ⟨b, off, none⟩) n c), isW (.int .i64 (i : Int)), isW (.pointer (some ⟨b, off + i * 7, none⟩)), isW (.pointer (some ⟨b, off + i * 7, none⟩)), isW (.int .i64 x.src), isW (.agg #[.int .u64 T.a, .int .u64 T.b, .int .u64 T.c, .int .u64 T.d]), isW (.pointer (some ⟨g, 5, none⟩))] (fun _ w' => RowKit.Below w.heap.size w w') [] (by kernel_rfl) (by kernel_rfl) (by kernel_rfl) rfl (by decide) rfl rfl ((Below.refl _ _).drew) ⟨lastsW_is _, lastsW_is _, lastsW_is _, lastsW_is _, lastsW_is _, lastsW_is _, lastsW_is _, lastsW_is _, lastsW_is _, trivial⟩ ⟨?_, ?_, ?_, ?_, ?_, ?_, ?_, ?_, ?_, ?_⟩
  · intro L a wy Q' hL hi H F hK
    try dsimp only at hi
    have h3 : a.tmps[3]? = some (.slice (some ⟨b, off, none⟩) n c) := F 3 rfl
    have HI := Lib.hid hi
    clear H F hi hL
    go_wp2_with fail
    exact hK _ _ (Below.refl _ _) HI.out rfl
  · intro L a wy Q' hL hi H F hK
    try dsimp only at hi
    have h8 : a.tmps[8]? = some (.pointer (some ⟨g, 0, none⟩)) := F 8 rfl
    have HI := Lib.hid hi
    clear H F hi hL
    have kq0 : wy.cell? ⟨g, 0, none⟩ = some (.int .i64 (k : Int)) := (Whole.under HI.out HR.out (Whole.lt HR.out)).cell 0
    have kq1 : wy.cell? ⟨g, 1, none⟩ = some (.int .u64 0) := (Whole.under HI.out HR.out (Whole.lt HR.out)).cell 1
    have kq2 : wy.cell? ⟨g, 2, none⟩ = some (.int .u64 0) := (Whole.under HI.out HR.out (Whole.lt HR.out)).cell 2
    have kq3 : wy.cell? ⟨g, 3, none⟩ = some (.int .u64 0) := (Whole.under HI.out HR.out (Whole.lt HR.out)).cell 3
    have kq4 : wy.cell? ⟨g, 4, none⟩ = some (.int .u64 0) := (Whole.under HI.out HR.out (Whole.lt HR.out)).cell 4
    have kq5 : wy.cell? ⟨g, 5, none⟩ = some (.int .u64 0) := (Whole.under HI.out HR.out (Whole.lt HR.out)).cell 5
    have kq6 : wy.cell? ⟨g, 6, none⟩ = some (.int .u64 0) := (Whole.under HI.out HR.out (Whole.lt HR.out)).cell 6
    have kq7 : wy.cell? ⟨g, 7, none⟩ = some (.int .u64 0) := (Whole.under HI.out HR.out (Whole.lt HR.out)).cell 7
    have kq8 : wy.cell? ⟨g, 8, none⟩ = some (.int .u64 0) := (Whole.under HI.out HR.out (Whole.lt HR.out)).cell 8
    have kq9 : wy.cell? ⟨g, 9, none⟩ = some (.bool false) := (Whole.under HI.out HR.out (Whole.lt HR.out)).cell 9
    have kq10 : wy.cell? ⟨g, 10, none⟩ = some (.int .i64 x.cls) := (Whole.under HI.out HR.out (Whole.lt HR.out)).cell 10
    have kq11 : wy.cell? ⟨g, 11, none⟩ = some (.int .u32 pv) := (Whole.under HI.out HR.out (Whole.lt HR.out)).cell 11
    have kq12 : wy.cell? ⟨g, 12, none⟩ = some (.int .i64 x.cond) := (Whole.under HI.out HR.out (Whole.lt HR.out)).cell 12
    go_wp2_with fail
    exact hK _ _ (Below.refl _ _) HI.out rfl
  · intro L a wy Q' hL hi H F hK
    try dsimp only at hi
    have h3 : a.tmps[3]? = some (.slice (some ⟨b, off, none⟩) n c) := F 3 rfl
    have HI := Lib.hid hi
    clear H F hi hL
    go_wp2_with fail
    exact hK _ _ (Below.refl _ _) HI.out rfl
  · intro L a wy Q' hL hi H F hK
    try dsimp only at hi
    have h6 : a.tmps[6]? = some (.int .i64 (i : Int)) := F 6 rfl
    have HI := Lib.hid hi
    clear H F hi hL
    go_wp2_with fail
    exact hK _ _ (Below.refl _ _) HI.out rfl
  · intro L a wy Q' hL hi H F hK
    try dsimp only at hi
    obtain ⟨_, h85, rfl⟩ := H 2 ⟨.data, by simp, rfl⟩ _ rfl
    replace h85 := h85 _ rfl
    obtain ⟨_, h86, rfl⟩ := H 3 ⟨.data, by simp, rfl⟩ _ rfl
    replace h86 := h86 _ rfl
    have HI := Lib.hid hi
    clear H F hi hL
    go_wp2_with fail
    exact hK _ _ (Below.refl _ _) HI.out rfl
  · intro L a wy Q' hL hi H F hK
    try dsimp only at hi
    obtain ⟨_, h87, rfl⟩ := H 4 ⟨.data, by simp, rfl⟩ _ rfl
    replace h87 := h87 _ rfl
    have HI := Lib.hid hi
    clear H F hi hL
    go_wp2_with fail
    exact hK _ _ (Below.refl _ _) HI.out rfl
  · intro L a wy Q' hL hi H F hK
    try dsimp only at hi
    obtain ⟨_, h88, rfl⟩ := H 5 ⟨.data, by simp, rfl⟩ _ rfl
    replace h88 := h88 _ rfl
    have HI := Lib.hid hi
    clear H F hi hL
    have kq0 : wy.cell? ⟨b, off + i * 7, none⟩ = some (.int .i64 x.src) := cell_later HI.out (HE.out 0 _ rfl)
    go_wp2_with fail
    exact hK _ _ (Below.refl _ _) HI.out rfl
  · intro L a wy Q' hL hi H F hK
    try dsimp only at hi
    obtain ⟨_, h83, rfl⟩ := H 0 ⟨.data, by simp, rfl⟩ _ rfl
    replace h83 := h83 _ rfl
    obtain ⟨_, h84, rfl⟩ := H 1 ⟨.data, by simp, rfl⟩ _ rfl
    replace h84 := h84 _ rfl
    obtain ⟨_, h89, rfl⟩ := H 6 ⟨.data, by simp, rfl⟩ _ rfl
    replace h89 := h89 _ rfl
    have HI := Lib.hid hi
    clear H F hi hL
    have HK := Lib.hid hK
    clear hK
    go_wp2_with (go_at_call 42; go_must (refine (HT.out wy HI.out).mono ?_; rintro e w1 ⟨rfl, hb1⟩))
    exact HK.out _ _ hb1 (HI.out.trans (hb1.mono HI.out.size)) rfl
  · intro L a wy Q' hL hi H F hK
    try dsimp only at hi
    have h8 : a.tmps[8]? = some (.pointer (some ⟨g, 0, none⟩)) := F 8 rfl
    have HI := Lib.hid hi
    clear H F hi hL
    go_wp2_with fail
    exact hK _ _ (Below.refl _ _) HI.out rfl
  · intro a wy L hl hi hL Q' hK
    try dsimp only at hi
    have HB := Lib.hid hi
    clear hi hL
    obtain ⟨_, rfl, _, rfl, _, rfl, _, rfl, _, rfl, _, rfl, _, rfl, _, rfl, _, rfl, rfl⟩ := hl
    simp only [List.setIfInBounds_toArray, List.set_cons_zero, List.set_cons_succ]
    have HW := Lib.hid (Whole.under HB.out HR.out HR.out.lt)
    go_wp2_with (refine wpList_store_blk rfl 24 _ _ rfl g 5 (.agg #[.int .u64 T.a, .int .u64 T.b, .int .u64 T.c, .int .u64 T.d]) rfl rfl 27 _ HW.out (by simp [Value.cells]) size24 rfl ?_; intro w9 S9 W9; have HS9 := Lib.hid S9; have HW9 := Lib.hid (show Whole w9 g 27 #[.int .i64 (k : Int), .int .u64 0, .int .u64 0, .int .u64 0, .int .u64 0, .int .u64 T.a, .int .u64 T.b, .int .u64 T.c, .int .u64 T.d, .bool false, .int .i64 x.cls, .int .u32 pv, .int .i64 x.cond] from W9); clear S9 W9)
    exact HEND.out _ _ _ _ _ _ _ _ _ w9 (fun B h1 h2 => (HB.out.mono h2).trans (HS9.out.below h1)) HW9.out
set_option maxRecDepth 100000 in
set_option maxHeartbeats 4000000 in
theorem comp20_f (w : World) (b off i n c g k : Nat) (x y : AEntry) (pv : Int) (sa T : ASet) (x0 x1 x2 x4 x5 x6 x7 x10 x11 x12 x13 x14 x15 x16 x17 x18 x19 x20 x21 x22 x23 x24 x25 x26 x27 x28 x29 x30 x31 x32 x33 x34 x35 x36 x37 x38 x39 x40 x41 x42 x43 x44 x45 x46 x47 x48 x49 x50 x51 x52 x53 x54 x55 x56 x57 x58 x59 x60 x61 x62 x63 x64 x65 x66 x67 x68 x69 x70 x71 x72 x73 x74 x75 x76 x77 x78 x79 x80 x81 x82 x83 x84 x85 x86 x87 x88 x89 x90 x91 x92 x93 x94 x95 x96 x97 x98 x99 x100 x101 x102 x103 x104 x105 x106 x107 x108 x109 x110 x111 x112 x113 x114 x115 x116 x117 x118 x119 x120 x121 x122 x123 x124 x125 x126 x127 x128 x129 : Value) (hin : i < n) (HE : Hid (∀ j u, y.cells[j]? = some u → w.cell? ⟨b, off + i * 7 + j, none⟩ = some u)) (HR : Hid (Whole w g 27 #[.int .i64 (k : Int), .int .u64 sa.a, .int .u64 sa.b, .int .u64 sa.c, .int .u64 sa.d, .int .u64 T.a, .int .u64 T.b, .int .u64 T.c, .int .u64 T.d, .bool false, .int .i64 x.cls, .int .u32 pv, .int .i64 x.cond])) (HF : Hid (∀ W, Calls Tryd.prog 43 #[.agg #[.int .i64 y.src, .int .i64 y.tgt, .int .i64 y.cls, .int .i64 y.cond, .int .u32 y.allow, .int .u32 y.audit, .int .u32 y.dont], .agg #[.int .i64 (k : Int), .int .u64 sa.a, .int .u64 sa.b, .int .u64 sa.c, .int .u64 sa.d, .int .u64 T.a, .int .u64 T.b, .int .u64 T.c, .int .u64 T.d, .bool false, .int .i64 x.cls, .int .u32 pv, .int .i64 x.cond]] W fun e w' => e = .returned (.bool false) ∧ RowKit.Below W.heap.size W w'))
    {Q' : Exit → Act → World → Prop} (hend : ∀ (v98 v99 v100 v101 v102 v103 v104 v105 v106 v107 v108 v109 v110 v111 v112 v113 v114 v115 : Value) (w' : World), RowKit.Below w.heap.size w w' → Q' .normal ⟨#[x0, x1, x2, .slice (some ⟨b, off, none⟩) n c, x4, x5, x6, x7, .pointer (some ⟨g, 0, none⟩), .int .i64 (i : Int), x10, x11, x12, x13, x14, x15, x16, x17, x18, x19, x20, x21, x22, x23, x24, x25, x26, x27, x28, x29, x30, x31, x32, x33, x34, x35, x36, x37, x38, x39, x40, x41, x42, x43, x44, x45, x46, x47, x48, x49, x50, x51, x52, x53, x54, x55, x56, x57, x58, x59, x60, x61, x62, x63, x64, x65, x66, x67, x68, x69, x70, x71, x72, x73, x74, x75, x76, x77, x78, x79, x80, x81, x82, x83, x84, x85, x86, x87, x88, x89, x90, x91, x92, x93, x94, x95, x96, x97, v98, v99, v100, v101, v102, v103, v104, v105, v106, v107, v108, v109, v110, v111, v112, v113, v114, v115, .bool false, x117, x118, x119, x120, x121, x122, x123, x124, x125, x126, x127, x128, x129], []⟩ w') :
    Code.wp Tryd.prog (findRegion7 20 ((Tryd.f25.body).getD .skip)) Q' ⟨#[x0, x1, x2, .slice (some ⟨b, off, none⟩) n c, x4, x5, x6, x7, .pointer (some ⟨g, 0, none⟩), .int .i64 (i : Int), x10, x11, x12, x13, x14, x15, x16, x17, x18, x19, x20, x21, x22, x23, x24, x25, x26, x27, x28, x29, x30, x31, x32, x33, x34, x35, x36, x37, x38, x39, x40, x41, x42, x43, x44, x45, x46, x47, x48, x49, x50, x51, x52, x53, x54, x55, x56, x57, x58, x59, x60, x61, x62, x63, x64, x65, x66, x67, x68, x69, x70, x71, x72, x73, x74, x75, x76, x77, x78, x79, x80, x81, x82, x83, x84, x85, x86, x87, x88, x89, x90, x91, x92, x93, x94, x95, x96, x97, x98, x99, x100, x101, x102, x103, x104, x105, x106, x107, x108, x109, x110, x111, x112, x113, x114, x115, x116, x117, x118, x119, x120, x121, x122, x123, x124, x125, x126, x127, x128, x129], []⟩ w := by
  have HEND := Lib.hid hend
  clear hend
  conv => arg 2; whnf
  conv => arg 4; dsimp only
  refine wp_region_goods [some 98, some 99, some 100, some 101, some 102, some 103, some 104, some 105, some 106, some 107, some 108, some 109, some 110, some 111, some 112, some 113, some 114, some 115] [isW (.slice (some ⟨b, off, none⟩) n c), isW (.int .i64 (i : Int)), isW (.pointer (some ⟨b, off + i * 7, none⟩)), isW (.agg #[.int .i64 y.src, .int .i64 y.tgt, .int .i64 y.cls, .int .i64 y.cond, .int .u32 y.allow, .int .u32 y.audit, .int .u32 y.dont]), isW (.agg #[.int .i64 (k : Int), .int .u64 sa.a, .int .u64 sa.b, .int .u64 sa.c, .int .u64 sa.d, .int .u64 T.a, .int .u64 T.b, .int .u64 T.c, .int .u64 T.d, .bool false, .int .i64 x.cls, .int .u32 pv, .int .i64 x.cond]), isW (.bool false), isW (.bool false), isW (undef), isW (undef), isW (undef), isW (undef), isW (undef), isW (undef), isW (undef), isW (undef), isW (undef), isW (undef), isW (undef)] (fun _ w' => RowKit.Below w.heap.size w w') [] (by kernel_rfl) (by kernel_rfl) (by kernel_rfl) rfl (by decide) rfl rfl ((Below.refl _ _).drew) ⟨lastsW_is _, lastsW_is _, lastsW_is _, lastsW_is _, lastsW_is _, lastsW_is _, lastsW_is _, lastsW_is _, lastsW_is _, lastsW_is _, lastsW_is _, lastsW_is _, lastsW_is _, lastsW_is _, lastsW_is _, lastsW_is _, lastsW_is _, lastsW_is _, trivial⟩ ⟨?_, ?_, ?_, ?_, ?_, ?_, ?_, ?_, ?_, ?_, ?_, ?_, ?_, ?_, ?_, ?_, ?_, ?_, ?_⟩
  · intro L a wy Q' hL hi H F hK
    try dsimp only at hi
    have h3 : a.tmps[3]? = some (.slice (some ⟨b, off, none⟩) n c) := F 3 rfl
    have HI := Lib.hid hi
    clear H F hi hL
    go_wp2_with fail
    exact hK _ _ (Below.refl _ _) HI.out rfl
  · intro L a wy Q' hL hi H F hK
    try dsimp only at hi
    have h9 : a.tmps[9]? = some (.int .i64 (i : Int)) := F 9 rfl
    have HI := Lib.hid hi
    clear H F hi hL
    go_wp2_with fail
    exact hK _ _ (Below.refl _ _) HI.out rfl
  · intro L a wy Q' hL hi H F hK
    try dsimp only at hi
    obtain ⟨_, h98, rfl⟩ := H 0 ⟨.data, by simp, rfl⟩ _ rfl
    replace h98 := h98 _ rfl
    obtain ⟨_, h99, rfl⟩ := H 1 ⟨.data, by simp, rfl⟩ _ rfl
    replace h99 := h99 _ rfl
    have HI := Lib.hid hi
    clear H F hi hL
    go_wp2_with fail
    exact hK _ _ (Below.refl _ _) HI.out rfl
  · intro L a wy Q' hL hi H F hK
    try dsimp only at hi
    obtain ⟨_, h100, rfl⟩ := H 2 ⟨.data, by simp, rfl⟩ _ rfl
    replace h100 := h100 _ rfl
    have HI := Lib.hid hi
    clear H F hi hL
    have kq0 : wy.cell? ⟨b, off + i * 7, none⟩ = some (.int .i64 y.src) := cell_later HI.out (HE.out 0 _ rfl)
    have kq1 : wy.cell? ⟨b, off + i * 7 + 1, none⟩ = some (.int .i64 y.tgt) := cell_later HI.out (HE.out 1 _ rfl)
    have kq2 : wy.cell? ⟨b, off + i * 7 + 2, none⟩ = some (.int .i64 y.cls) := cell_later HI.out (HE.out 2 _ rfl)
    have kq3 : wy.cell? ⟨b, off + i * 7 + 3, none⟩ = some (.int .i64 y.cond) := cell_later HI.out (HE.out 3 _ rfl)
    have kq4 : wy.cell? ⟨b, off + i * 7 + 4, none⟩ = some (.int .u32 y.allow) := cell_later HI.out (HE.out 4 _ rfl)
    have kq5 : wy.cell? ⟨b, off + i * 7 + 5, none⟩ = some (.int .u32 y.audit) := cell_later HI.out (HE.out 5 _ rfl)
    have kq6 : wy.cell? ⟨b, off + i * 7 + 6, none⟩ = some (.int .u32 y.dont) := cell_later HI.out (HE.out 6 _ rfl)
    go_wp2_with fail
    exact hK _ _ (Below.refl _ _) HI.out rfl
  · intro L a wy Q' hL hi H F hK
    try dsimp only at hi
    have h8 : a.tmps[8]? = some (.pointer (some ⟨g, 0, none⟩)) := F 8 rfl
    have HI := Lib.hid hi
    clear H F hi hL
    have kq0 : wy.cell? ⟨g, 0, none⟩ = some (.int .i64 (k : Int)) := (Whole.under HI.out HR.out (Whole.lt HR.out)).cell 0
    have kq1 : wy.cell? ⟨g, 1, none⟩ = some (.int .u64 sa.a) := (Whole.under HI.out HR.out (Whole.lt HR.out)).cell 1
    have kq2 : wy.cell? ⟨g, 2, none⟩ = some (.int .u64 sa.b) := (Whole.under HI.out HR.out (Whole.lt HR.out)).cell 2
    have kq3 : wy.cell? ⟨g, 3, none⟩ = some (.int .u64 sa.c) := (Whole.under HI.out HR.out (Whole.lt HR.out)).cell 3
    have kq4 : wy.cell? ⟨g, 4, none⟩ = some (.int .u64 sa.d) := (Whole.under HI.out HR.out (Whole.lt HR.out)).cell 4
    have kq5 : wy.cell? ⟨g, 5, none⟩ = some (.int .u64 T.a) := (Whole.under HI.out HR.out (Whole.lt HR.out)).cell 5
    have kq6 : wy.cell? ⟨g, 6, none⟩ = some (.int .u64 T.b) := (Whole.under HI.out HR.out (Whole.lt HR.out)).cell 6
    have kq7 : wy.cell? ⟨g, 7, none⟩ = some (.int .u64 T.c) := (Whole.under HI.out HR.out (Whole.lt HR.out)).cell 7
    have kq8 : wy.cell? ⟨g, 8, none⟩ = some (.int .u64 T.d) := (Whole.under HI.out HR.out (Whole.lt HR.out)).cell 8
    have kq9 : wy.cell? ⟨g, 9, none⟩ = some (.bool false) := (Whole.under HI.out HR.out (Whole.lt HR.out)).cell 9
    have kq10 : wy.cell? ⟨g, 10, none⟩ = some (.int .i64 x.cls) := (Whole.under HI.out HR.out (Whole.lt HR.out)).cell 10
    have kq11 : wy.cell? ⟨g, 11, none⟩ = some (.int .u32 pv) := (Whole.under HI.out HR.out (Whole.lt HR.out)).cell 11
    have kq12 : wy.cell? ⟨g, 12, none⟩ = some (.int .i64 x.cond) := (Whole.under HI.out HR.out (Whole.lt HR.out)).cell 12
    go_wp2_with fail
    exact hK _ _ (Below.refl _ _) HI.out rfl
  · intro L a wy Q' hL hi H F hK
    try dsimp only at hi
    obtain ⟨_, h101, rfl⟩ := H 3 ⟨.data, by simp, rfl⟩ _ rfl
    replace h101 := h101 _ rfl
    obtain ⟨_, h102, rfl⟩ := H 4 ⟨.data, by simp, rfl⟩ _ rfl
    replace h102 := h102 _ rfl
    have HI := Lib.hid hi
    clear H F hi hL
    have HK := Lib.hid hK
    clear hK
    go_wp2_with (go_at_call 43; go_must (refine (HF.out wy).mono ?_; rintro e w1 ⟨rfl, hb1⟩))
    exact HK.out _ _ hb1 (HI.out.trans (hb1.mono HI.out.size)) rfl
  · intro L a wy Q' hL hi H F hK
    try dsimp only at hi
    obtain ⟨_, h103, rfl⟩ := H 5 ⟨.data, by simp, rfl⟩ _ rfl
    replace h103 := h103 _ rfl
    have HI := Lib.hid hi
    clear H F hi hL
    go_wp2_with fail
    exact hK _ _ (Below.refl _ _) HI.out rfl
  · intro L a wy Q' hL hi H F hK
    try dsimp only at hi
    obtain ⟨_, h104, rfl⟩ := H 6 ⟨.guard, by simp, rfl⟩ _ rfl
    replace h104 := h104 _ rfl
    have h3 : a.tmps[3]? = some (.slice (some ⟨b, off, none⟩) n c) := F 3 rfl
    have HI := Lib.hid hi
    clear H F hi hL
    refine wpList_skip (by simp [Region.wanted, yielded, h104]) ?_
    exact hK _ _ (Below.refl _ _) HI.out rfl
  · intro L a wy Q' hL hi H F hK
    try dsimp only at hi
    obtain ⟨_, h104, rfl⟩ := H 6 ⟨.guard, by simp, rfl⟩ _ rfl
    replace h104 := h104 _ rfl
    have h8 : a.tmps[8]? = some (.pointer (some ⟨g, 0, none⟩)) := F 8 rfl
    have HI := Lib.hid hi
    clear H F hi hL
    refine wpList_skip (by simp [Region.wanted, yielded, h104]) ?_
    exact hK _ _ (Below.refl _ _) HI.out rfl
  · intro L a wy Q' hL hi H F hK
    try dsimp only at hi
    obtain ⟨_, h104, rfl⟩ := H 6 ⟨.guard, by simp, rfl⟩ _ rfl
    replace h104 := h104 _ rfl
    have h3 : a.tmps[3]? = some (.slice (some ⟨b, off, none⟩) n c) := F 3 rfl
    have HI := Lib.hid hi
    clear H F hi hL
    refine wpList_skip (by simp [Region.wanted, yielded, h104]) ?_
    exact hK _ _ (Below.refl _ _) HI.out rfl
  · intro L a wy Q' hL hi H F hK
    try dsimp only at hi
    obtain ⟨_, h104, rfl⟩ := H 6 ⟨.guard, by simp, rfl⟩ _ rfl
    replace h104 := h104 _ rfl
    have h9 : a.tmps[9]? = some (.int .i64 (i : Int)) := F 9 rfl
    have HI := Lib.hid hi
    clear H F hi hL
    refine wpList_skip (by simp [Region.wanted, yielded, h104]) ?_
    exact hK _ _ (Below.refl _ _) HI.out rfl
  · intro L a wy Q' hL hi H F hK
    try dsimp only at hi
    obtain ⟨_, h107, rfl⟩ := H 9 ⟨.data, by simp, rfl⟩ _ rfl
    replace h107 := h107 _ rfl
    obtain ⟨_, h108, rfl⟩ := H 10 ⟨.data, by simp, rfl⟩ _ rfl
    replace h108 := h108 _ rfl
    obtain ⟨_, h104, rfl⟩ := H 6 ⟨.guard, by simp, rfl⟩ _ rfl
    replace h104 := h104 _ rfl
    have HI := Lib.hid hi
    clear H F hi hL
    refine wpList_skip (by simp [Region.wanted, yielded, h104]) ?_
    exact hK _ _ (Below.refl _ _) HI.out rfl
  · intro L a wy Q' hL hi H F hK
    try dsimp only at hi
    obtain ⟨_, h109, rfl⟩ := H 11 ⟨.data, by simp, rfl⟩ _ rfl
    replace h109 := h109 _ rfl
    obtain ⟨_, h104, rfl⟩ := H 6 ⟨.guard, by simp, rfl⟩ _ rfl
    replace h104 := h104 _ rfl
    have HI := Lib.hid hi
    clear H F hi hL
    refine wpList_skip (by simp [Region.wanted, yielded, h104]) ?_
    exact hK _ _ (Below.refl _ _) HI.out rfl
  · intro L a wy Q' hL hi H F hK
    try dsimp only at hi
    obtain ⟨_, h110, rfl⟩ := H 12 ⟨.data, by simp, rfl⟩ _ rfl
    replace h110 := h110 _ rfl
    obtain ⟨_, h104, rfl⟩ := H 6 ⟨.guard, by simp, rfl⟩ _ rfl
    replace h104 := h104 _ rfl
    have HI := Lib.hid hi
    clear H F hi hL
    refine wpList_skip (by simp [Region.wanted, yielded, h104]) ?_
    exact hK _ _ (Below.refl _ _) HI.out rfl
  · intro L a wy Q' hL hi H F hK
    try dsimp only at hi
    obtain ⟨_, h105, rfl⟩ := H 7 ⟨.data, by simp, rfl⟩ _ rfl
    replace h105 := h105 _ rfl
    obtain ⟨_, h106, rfl⟩ := H 8 ⟨.data, by simp, rfl⟩ _ rfl
    replace h106 := h106 _ rfl
    obtain ⟨_, h111, rfl⟩ := H 13 ⟨.data, by simp, rfl⟩ _ rfl
    replace h111 := h111 _ rfl
    obtain ⟨_, h104, rfl⟩ := H 6 ⟨.guard, by simp, rfl⟩ _ rfl
    replace h104 := h104 _ rfl
    have HI := Lib.hid hi
    clear H F hi hL
    refine wpList_skip (by simp [Region.wanted, yielded, h104]) ?_
    exact hK _ _ (Below.refl _ _) HI.out rfl
  · intro L a wy Q' hL hi H F hK
    try dsimp only at hi
    obtain ⟨_, h104, rfl⟩ := H 6 ⟨.guard, by simp, rfl⟩ _ rfl
    replace h104 := h104 _ rfl
    have h8 : a.tmps[8]? = some (.pointer (some ⟨g, 0, none⟩)) := F 8 rfl
    have HI := Lib.hid hi
    clear H F hi hL
    refine wpList_skip (by simp [Region.wanted, yielded, h104]) ?_
    exact hK _ _ (Below.refl _ _) HI.out rfl
  · intro L a wy Q' hL hi H F hK
    try dsimp only at hi
    obtain ⟨_, h113, rfl⟩ := H 15 ⟨.data, by simp, rfl⟩ _ rfl
    replace h113 := h113 _ rfl
    obtain ⟨_, h104, rfl⟩ := H 6 ⟨.guard, by simp, rfl⟩ _ rfl
    replace h104 := h104 _ rfl
    have HI := Lib.hid hi
    clear H F hi hL
    refine wpList_skip (by simp [Region.wanted, yielded, h104]) ?_
    exact hK _ _ (Below.refl _ _) HI.out rfl
  · intro L a wy Q' hL hi H F hK
    try dsimp only at hi
    obtain ⟨_, h112, rfl⟩ := H 14 ⟨.data, by simp, rfl⟩ _ rfl
    replace h112 := h112 _ rfl
    obtain ⟨_, h114, rfl⟩ := H 16 ⟨.data, by simp, rfl⟩ _ rfl
    replace h114 := h114 _ rfl
    obtain ⟨_, h104, rfl⟩ := H 6 ⟨.guard, by simp, rfl⟩ _ rfl
    replace h104 := h104 _ rfl
    have HI := Lib.hid hi
    clear H F hi hL
    refine wpList_skip (by simp [Region.wanted, yielded, h104]) ?_
    exact hK _ _ (Below.refl _ _) HI.out rfl
  · intro a wy L hl hi hL Q' hK
    try dsimp only at hi
    have HB := Lib.hid hi
    clear hi hL
    obtain ⟨_, rfl, _, rfl, _, rfl, _, rfl, _, rfl, _, rfl, _, rfl, _, rfl, _, rfl, _, rfl, _, rfl, _, rfl, _, rfl, _, rfl, _, rfl, _, rfl, _, rfl, _, rfl, rfl⟩ := hl
    simp only [List.setIfInBounds_toArray, List.set_cons_zero, List.set_cons_succ]
    go_wp2_with fail
    exact HEND.out _ _ _ _ _ _ _ _ _ _ _ _ _ _ _ _ _ _ _ HB.out
set_option maxRecDepth 100000 in
set_option maxHeartbeats 4000000 in
theorem comp20_t (w : World) (b off i n c g k : Nat) (x y : AEntry) (pv : Int) (sa T : ASet) (U : ASet) (q : Bool) (x0 x1 x2 x4 x5 x6 x7 x10 x11 x12 x13 x14 x15 x16 x17 x18 x19 x20 x21 x22 x23 x24 x25 x26 x27 x28 x29 x30 x31 x32 x33 x34 x35 x36 x37 x38 x39 x40 x41 x42 x43 x44 x45 x46 x47 x48 x49 x50 x51 x52 x53 x54 x55 x56 x57 x58 x59 x60 x61 x62 x63 x64 x65 x66 x67 x68 x69 x70 x71 x72 x73 x74 x75 x76 x77 x78 x79 x80 x81 x82 x83 x84 x85 x86 x87 x88 x89 x90 x91 x92 x93 x94 x95 x96 x97 x98 x99 x100 x101 x102 x103 x104 x105 x106 x107 x108 x109 x110 x111 x112 x113 x114 x115 x116 x117 x118 x119 x120 x121 x122 x123 x124 x125 x126 x127 x128 x129 : Value) (hin : i < n) (HE : Hid (∀ j u, y.cells[j]? = some u → w.cell? ⟨b, off + i * 7 + j, none⟩ = some u)) (HR : Hid (Whole w g 27 #[.int .i64 (k : Int), .int .u64 sa.a, .int .u64 sa.b, .int .u64 sa.c, .int .u64 sa.d, .int .u64 T.a, .int .u64 T.b, .int .u64 T.c, .int .u64 T.d, .bool false, .int .i64 x.cls, .int .u32 pv, .int .i64 x.cond])) (HF : Hid (∀ W, Calls Tryd.prog 43 #[.agg #[.int .i64 y.src, .int .i64 y.tgt, .int .i64 y.cls, .int .i64 y.cond, .int .u32 y.allow, .int .u32 y.audit, .int .u32 y.dont], .agg #[.int .i64 (k : Int), .int .u64 sa.a, .int .u64 sa.b, .int .u64 sa.c, .int .u64 sa.d, .int .u64 T.a, .int .u64 T.b, .int .u64 T.c, .int .u64 T.d, .bool false, .int .i64 x.cls, .int .u32 pv, .int .i64 x.cond]] W fun e w' => e = .returned (.bool true) ∧ RowKit.Below W.heap.size W w')) (HT : Hid (∀ W, RowKit.Below w.heap.size w W → Calls Tryd.prog 42 #[.slice (some ⟨b, off, none⟩) n c, .agg #[.int .i64 (k : Int), .int .u64 sa.a, .int .u64 sa.b, .int .u64 sa.c, .int .u64 sa.d, .int .u64 T.a, .int .u64 T.b, .int .u64 T.c, .int .u64 T.d, .bool false, .int .i64 x.cls, .int .u32 pv, .int .i64 x.cond], .int .i64 y.src] W fun e w' => e = .returned (.agg #[.int .u64 U.a, .int .u64 U.b, .int .u64 U.c, .int .u64 U.d]) ∧ RowKit.Below W.heap.size W w')) (HQ : Hid (∀ W, (Op.equalIn 10000 24 (.agg #[.int .u64 U.a, .int .u64 U.b, .int .u64 U.c, .int .u64 U.d]) (.agg #[.int .u64 T.a, .int .u64 T.b, .int .u64 T.c, .int .u64 T.d])).run Tryd.prog W = .ok q W))
    {Q' : Exit → Act → World → Prop} (hend : ∀ (v98 v99 v100 v101 v102 v103 v104 v105 v106 v107 v108 v109 v110 v111 v112 v113 v114 v115 : Value) (w' : World), RowKit.Below w.heap.size w w' → Q' .normal ⟨#[x0, x1, x2, .slice (some ⟨b, off, none⟩) n c, x4, x5, x6, x7, .pointer (some ⟨g, 0, none⟩), .int .i64 (i : Int), x10, x11, x12, x13, x14, x15, x16, x17, x18, x19, x20, x21, x22, x23, x24, x25, x26, x27, x28, x29, x30, x31, x32, x33, x34, x35, x36, x37, x38, x39, x40, x41, x42, x43, x44, x45, x46, x47, x48, x49, x50, x51, x52, x53, x54, x55, x56, x57, x58, x59, x60, x61, x62, x63, x64, x65, x66, x67, x68, x69, x70, x71, x72, x73, x74, x75, x76, x77, x78, x79, x80, x81, x82, x83, x84, x85, x86, x87, x88, x89, x90, x91, x92, x93, x94, x95, x96, x97, v98, v99, v100, v101, v102, v103, v104, v105, v106, v107, v108, v109, v110, v111, v112, v113, v114, v115, .bool q, x117, x118, x119, x120, x121, x122, x123, x124, x125, x126, x127, x128, x129], []⟩ w') :
    Code.wp Tryd.prog (findRegion7 20 ((Tryd.f25.body).getD .skip)) Q' ⟨#[x0, x1, x2, .slice (some ⟨b, off, none⟩) n c, x4, x5, x6, x7, .pointer (some ⟨g, 0, none⟩), .int .i64 (i : Int), x10, x11, x12, x13, x14, x15, x16, x17, x18, x19, x20, x21, x22, x23, x24, x25, x26, x27, x28, x29, x30, x31, x32, x33, x34, x35, x36, x37, x38, x39, x40, x41, x42, x43, x44, x45, x46, x47, x48, x49, x50, x51, x52, x53, x54, x55, x56, x57, x58, x59, x60, x61, x62, x63, x64, x65, x66, x67, x68, x69, x70, x71, x72, x73, x74, x75, x76, x77, x78, x79, x80, x81, x82, x83, x84, x85, x86, x87, x88, x89, x90, x91, x92, x93, x94, x95, x96, x97, x98, x99, x100, x101, x102, x103, x104, x105, x106, x107, x108, x109, x110, x111, x112, x113, x114, x115, x116, x117, x118, x119, x120, x121, x122, x123, x124, x125, x126, x127, x128, x129], []⟩ w := by
  have HEND := Lib.hid hend
  clear hend
  conv => arg 2; whnf
  conv => arg 4; dsimp only
  refine wp_region_goods [some 98, some 99, some 100, some 101, some 102, some 103, some 104, some 105, some 106, some 107, some 108, some 109, some 110, some 111, some 112, some 113, some 114, some 115] [isW (.slice (some ⟨b, off, none⟩) n c), isW (.int .i64 (i : Int)), isW (.pointer (some ⟨b, off + i * 7, none⟩)), isW (.agg #[.int .i64 y.src, .int .i64 y.tgt, .int .i64 y.cls, .int .i64 y.cond, .int .u32 y.allow, .int .u32 y.audit, .int .u32 y.dont]), isW (.agg #[.int .i64 (k : Int), .int .u64 sa.a, .int .u64 sa.b, .int .u64 sa.c, .int .u64 sa.d, .int .u64 T.a, .int .u64 T.b, .int .u64 T.c, .int .u64 T.d, .bool false, .int .i64 x.cls, .int .u32 pv, .int .i64 x.cond]), isW (.bool true), isW (.bool true), isW (.slice (some ⟨b, off, none⟩) n c), isW (.agg #[.int .i64 (k : Int), .int .u64 sa.a, .int .u64 sa.b, .int .u64 sa.c, .int .u64 sa.d, .int .u64 T.a, .int .u64 T.b, .int .u64 T.c, .int .u64 T.d, .bool false, .int .i64 x.cls, .int .u32 pv, .int .i64 x.cond]), isW (.slice (some ⟨b, off, none⟩) n c), isW (.int .i64 (i : Int)), isW (.pointer (some ⟨b, off + i * 7, none⟩)), isW (.pointer (some ⟨b, off + i * 7, none⟩)), isW (.int .i64 y.src), isW (.agg #[.int .u64 U.a, .int .u64 U.b, .int .u64 U.c, .int .u64 U.d]), isW (.pointer (some ⟨g, 5, none⟩)), isW (.agg #[.int .u64 T.a, .int .u64 T.b, .int .u64 T.c, .int .u64 T.d]), isW (.bool q)] (fun _ w' => RowKit.Below w.heap.size w w') [] (by kernel_rfl) (by kernel_rfl) (by kernel_rfl) rfl (by decide) rfl rfl ((Below.refl _ _).drew) ⟨lastsW_is _, lastsW_is _, lastsW_is _, lastsW_is _, lastsW_is _, lastsW_is _, lastsW_is _, lastsW_is _, lastsW_is _, lastsW_is _, lastsW_is _, lastsW_is _, lastsW_is _, lastsW_is _, lastsW_is _, lastsW_is _, lastsW_is _, lastsW_is _, trivial⟩ ⟨?_, ?_, ?_, ?_, ?_, ?_, ?_, ?_, ?_, ?_, ?_, ?_, ?_, ?_, ?_, ?_, ?_, ?_, ?_⟩
  · intro L a wy Q' hL hi H F hK
    try dsimp only at hi
    have h3 : a.tmps[3]? = some (.slice (some ⟨b, off, none⟩) n c) := F 3 rfl
    have HI := Lib.hid hi
    clear H F hi hL
    go_wp2_with fail
    exact hK _ _ (Below.refl _ _) HI.out rfl
  · intro L a wy Q' hL hi H F hK
    try dsimp only at hi
    have h9 : a.tmps[9]? = some (.int .i64 (i : Int)) := F 9 rfl
    have HI := Lib.hid hi
    clear H F hi hL
    go_wp2_with fail
    exact hK _ _ (Below.refl _ _) HI.out rfl
  · intro L a wy Q' hL hi H F hK
    try dsimp only at hi
    obtain ⟨_, h98, rfl⟩ := H 0 ⟨.data, by simp, rfl⟩ _ rfl
    replace h98 := h98 _ rfl
    obtain ⟨_, h99, rfl⟩ := H 1 ⟨.data, by simp, rfl⟩ _ rfl
    replace h99 := h99 _ rfl
    have HI := Lib.hid hi
    clear H F hi hL
    go_wp2_with fail
    exact hK _ _ (Below.refl _ _) HI.out rfl
  · intro L a wy Q' hL hi H F hK
    try dsimp only at hi
    obtain ⟨_, h100, rfl⟩ := H 2 ⟨.data, by simp, rfl⟩ _ rfl
    replace h100 := h100 _ rfl
    have HI := Lib.hid hi
    clear H F hi hL
    have kq0 : wy.cell? ⟨b, off + i * 7, none⟩ = some (.int .i64 y.src) := cell_later HI.out (HE.out 0 _ rfl)
    have kq1 : wy.cell? ⟨b, off + i * 7 + 1, none⟩ = some (.int .i64 y.tgt) := cell_later HI.out (HE.out 1 _ rfl)
    have kq2 : wy.cell? ⟨b, off + i * 7 + 2, none⟩ = some (.int .i64 y.cls) := cell_later HI.out (HE.out 2 _ rfl)
    have kq3 : wy.cell? ⟨b, off + i * 7 + 3, none⟩ = some (.int .i64 y.cond) := cell_later HI.out (HE.out 3 _ rfl)
    have kq4 : wy.cell? ⟨b, off + i * 7 + 4, none⟩ = some (.int .u32 y.allow) := cell_later HI.out (HE.out 4 _ rfl)
    have kq5 : wy.cell? ⟨b, off + i * 7 + 5, none⟩ = some (.int .u32 y.audit) := cell_later HI.out (HE.out 5 _ rfl)
    have kq6 : wy.cell? ⟨b, off + i * 7 + 6, none⟩ = some (.int .u32 y.dont) := cell_later HI.out (HE.out 6 _ rfl)
    go_wp2_with fail
    exact hK _ _ (Below.refl _ _) HI.out rfl
  · intro L a wy Q' hL hi H F hK
    try dsimp only at hi
    have h8 : a.tmps[8]? = some (.pointer (some ⟨g, 0, none⟩)) := F 8 rfl
    have HI := Lib.hid hi
    clear H F hi hL
    have kq0 : wy.cell? ⟨g, 0, none⟩ = some (.int .i64 (k : Int)) := (Whole.under HI.out HR.out (Whole.lt HR.out)).cell 0
    have kq1 : wy.cell? ⟨g, 1, none⟩ = some (.int .u64 sa.a) := (Whole.under HI.out HR.out (Whole.lt HR.out)).cell 1
    have kq2 : wy.cell? ⟨g, 2, none⟩ = some (.int .u64 sa.b) := (Whole.under HI.out HR.out (Whole.lt HR.out)).cell 2
    have kq3 : wy.cell? ⟨g, 3, none⟩ = some (.int .u64 sa.c) := (Whole.under HI.out HR.out (Whole.lt HR.out)).cell 3
    have kq4 : wy.cell? ⟨g, 4, none⟩ = some (.int .u64 sa.d) := (Whole.under HI.out HR.out (Whole.lt HR.out)).cell 4
    have kq5 : wy.cell? ⟨g, 5, none⟩ = some (.int .u64 T.a) := (Whole.under HI.out HR.out (Whole.lt HR.out)).cell 5
    have kq6 : wy.cell? ⟨g, 6, none⟩ = some (.int .u64 T.b) := (Whole.under HI.out HR.out (Whole.lt HR.out)).cell 6
    have kq7 : wy.cell? ⟨g, 7, none⟩ = some (.int .u64 T.c) := (Whole.under HI.out HR.out (Whole.lt HR.out)).cell 7
    have kq8 : wy.cell? ⟨g, 8, none⟩ = some (.int .u64 T.d) := (Whole.under HI.out HR.out (Whole.lt HR.out)).cell 8
    have kq9 : wy.cell? ⟨g, 9, none⟩ = some (.bool false) := (Whole.under HI.out HR.out (Whole.lt HR.out)).cell 9
    have kq10 : wy.cell? ⟨g, 10, none⟩ = some (.int .i64 x.cls) := (Whole.under HI.out HR.out (Whole.lt HR.out)).cell 10
    have kq11 : wy.cell? ⟨g, 11, none⟩ = some (.int .u32 pv) := (Whole.under HI.out HR.out (Whole.lt HR.out)).cell 11
    have kq12 : wy.cell? ⟨g, 12, none⟩ = some (.int .i64 x.cond) := (Whole.under HI.out HR.out (Whole.lt HR.out)).cell 12
    go_wp2_with fail
    exact hK _ _ (Below.refl _ _) HI.out rfl
  · intro L a wy Q' hL hi H F hK
    try dsimp only at hi
    obtain ⟨_, h101, rfl⟩ := H 3 ⟨.data, by simp, rfl⟩ _ rfl
    replace h101 := h101 _ rfl
    obtain ⟨_, h102, rfl⟩ := H 4 ⟨.data, by simp, rfl⟩ _ rfl
    replace h102 := h102 _ rfl
    have HI := Lib.hid hi
    clear H F hi hL
    have HK := Lib.hid hK
    clear hK
    go_wp2_with (go_at_call 43; go_must (refine (HF.out wy).mono ?_; rintro e w1 ⟨rfl, hb1⟩))
    exact HK.out _ _ hb1 (HI.out.trans (hb1.mono HI.out.size)) rfl
  · intro L a wy Q' hL hi H F hK
    try dsimp only at hi
    obtain ⟨_, h103, rfl⟩ := H 5 ⟨.data, by simp, rfl⟩ _ rfl
    replace h103 := h103 _ rfl
    have HI := Lib.hid hi
    clear H F hi hL
    go_wp2_with fail
    exact hK _ _ (Below.refl _ _) HI.out rfl
  · intro L a wy Q' hL hi H F hK
    try dsimp only at hi
    obtain ⟨_, h104, rfl⟩ := H 6 ⟨.guard, by simp, rfl⟩ _ rfl
    replace h104 := h104 _ rfl
    have h3 : a.tmps[3]? = some (.slice (some ⟨b, off, none⟩) n c) := F 3 rfl
    have HI := Lib.hid hi
    clear H F hi hL
    go_wp2_with fail
    exact hK _ _ (Below.refl _ _) HI.out rfl
  · intro L a wy Q' hL hi H F hK
    try dsimp only at hi
    obtain ⟨_, h104, rfl⟩ := H 6 ⟨.guard, by simp, rfl⟩ _ rfl
    replace h104 := h104 _ rfl
    have h8 : a.tmps[8]? = some (.pointer (some ⟨g, 0, none⟩)) := F 8 rfl
    have HI := Lib.hid hi
    clear H F hi hL
    have kq0 : wy.cell? ⟨g, 0, none⟩ = some (.int .i64 (k : Int)) := (Whole.under HI.out HR.out (Whole.lt HR.out)).cell 0
    have kq1 : wy.cell? ⟨g, 1, none⟩ = some (.int .u64 sa.a) := (Whole.under HI.out HR.out (Whole.lt HR.out)).cell 1
    have kq2 : wy.cell? ⟨g, 2, none⟩ = some (.int .u64 sa.b) := (Whole.under HI.out HR.out (Whole.lt HR.out)).cell 2
    have kq3 : wy.cell? ⟨g, 3, none⟩ = some (.int .u64 sa.c) := (Whole.under HI.out HR.out (Whole.lt HR.out)).cell 3
    have kq4 : wy.cell? ⟨g, 4, none⟩ = some (.int .u64 sa.d) := (Whole.under HI.out HR.out (Whole.lt HR.out)).cell 4
    have kq5 : wy.cell? ⟨g, 5, none⟩ = some (.int .u64 T.a) := (Whole.under HI.out HR.out (Whole.lt HR.out)).cell 5
    have kq6 : wy.cell? ⟨g, 6, none⟩ = some (.int .u64 T.b) := (Whole.under HI.out HR.out (Whole.lt HR.out)).cell 6
    have kq7 : wy.cell? ⟨g, 7, none⟩ = some (.int .u64 T.c) := (Whole.under HI.out HR.out (Whole.lt HR.out)).cell 7
    have kq8 : wy.cell? ⟨g, 8, none⟩ = some (.int .u64 T.d) := (Whole.under HI.out HR.out (Whole.lt HR.out)).cell 8
    have kq9 : wy.cell? ⟨g, 9, none⟩ = some (.bool false) := (Whole.under HI.out HR.out (Whole.lt HR.out)).cell 9
    have kq10 : wy.cell? ⟨g, 10, none⟩ = some (.int .i64 x.cls) := (Whole.under HI.out HR.out (Whole.lt HR.out)).cell 10
    have kq11 : wy.cell? ⟨g, 11, none⟩ = some (.int .u32 pv) := (Whole.under HI.out HR.out (Whole.lt HR.out)).cell 11
    have kq12 : wy.cell? ⟨g, 12, none⟩ = some (.int .i64 x.cond) := (Whole.under HI.out HR.out (Whole.lt HR.out)).cell 12
    go_wp2_with fail
    exact hK _ _ (Below.refl _ _) HI.out rfl
  · intro L a wy Q' hL hi H F hK
    try dsimp only at hi
    obtain ⟨_, h104, rfl⟩ := H 6 ⟨.guard, by simp, rfl⟩ _ rfl
    replace h104 := h104 _ rfl
    have h3 : a.tmps[3]? = some (.slice (some ⟨b, off, none⟩) n c) := F 3 rfl
    have HI := Lib.hid hi
    clear H F hi hL
    go_wp2_with fail
    exact hK _ _ (Below.refl _ _) HI.out rfl
  · intro L a wy Q' hL hi H F hK
    try dsimp only at hi
    obtain ⟨_, h104, rfl⟩ := H 6 ⟨.guard, by simp, rfl⟩ _ rfl
    replace h104 := h104 _ rfl
    have h9 : a.tmps[9]? = some (.int .i64 (i : Int)) := F 9 rfl
    have HI := Lib.hid hi
    clear H F hi hL
    go_wp2_with fail
    exact hK _ _ (Below.refl _ _) HI.out rfl
  · intro L a wy Q' hL hi H F hK
    try dsimp only at hi
    obtain ⟨_, h107, rfl⟩ := H 9 ⟨.data, by simp, rfl⟩ _ rfl
    replace h107 := h107 _ rfl
    obtain ⟨_, h108, rfl⟩ := H 10 ⟨.data, by simp, rfl⟩ _ rfl
    replace h108 := h108 _ rfl
    obtain ⟨_, h104, rfl⟩ := H 6 ⟨.guard, by simp, rfl⟩ _ rfl
    replace h104 := h104 _ rfl
    have HI := Lib.hid hi
    clear H F hi hL
    go_wp2_with fail
    exact hK _ _ (Below.refl _ _) HI.out rfl
  · intro L a wy Q' hL hi H F hK
    try dsimp only at hi
    obtain ⟨_, h109, rfl⟩ := H 11 ⟨.data, by simp, rfl⟩ _ rfl
    replace h109 := h109 _ rfl
    obtain ⟨_, h104, rfl⟩ := H 6 ⟨.guard, by simp, rfl⟩ _ rfl
    replace h104 := h104 _ rfl
    have HI := Lib.hid hi
    clear H F hi hL
    go_wp2_with fail
    exact hK _ _ (Below.refl _ _) HI.out rfl
  · intro L a wy Q' hL hi H F hK
    try dsimp only at hi
    obtain ⟨_, h110, rfl⟩ := H 12 ⟨.data, by simp, rfl⟩ _ rfl
    replace h110 := h110 _ rfl
    obtain ⟨_, h104, rfl⟩ := H 6 ⟨.guard, by simp, rfl⟩ _ rfl
    replace h104 := h104 _ rfl
    have HI := Lib.hid hi
    clear H F hi hL
    have kq0 : wy.cell? ⟨b, off + i * 7, none⟩ = some (.int .i64 y.src) := cell_later HI.out (HE.out 0 _ rfl)
    go_wp2_with fail
    exact hK _ _ (Below.refl _ _) HI.out rfl
  · intro L a wy Q' hL hi H F hK
    try dsimp only at hi
    obtain ⟨_, h105, rfl⟩ := H 7 ⟨.data, by simp, rfl⟩ _ rfl
    replace h105 := h105 _ rfl
    obtain ⟨_, h106, rfl⟩ := H 8 ⟨.data, by simp, rfl⟩ _ rfl
    replace h106 := h106 _ rfl
    obtain ⟨_, h111, rfl⟩ := H 13 ⟨.data, by simp, rfl⟩ _ rfl
    replace h111 := h111 _ rfl
    obtain ⟨_, h104, rfl⟩ := H 6 ⟨.guard, by simp, rfl⟩ _ rfl
    replace h104 := h104 _ rfl
    have HI := Lib.hid hi
    clear H F hi hL
    have HK := Lib.hid hK
    clear hK
    go_wp2_with (go_at_call 42; go_must (refine (HT.out wy HI.out).mono ?_; rintro e w1 ⟨rfl, hb1⟩))
    exact HK.out _ _ hb1 (HI.out.trans (hb1.mono HI.out.size)) rfl
  · intro L a wy Q' hL hi H F hK
    try dsimp only at hi
    obtain ⟨_, h104, rfl⟩ := H 6 ⟨.guard, by simp, rfl⟩ _ rfl
    replace h104 := h104 _ rfl
    have h8 : a.tmps[8]? = some (.pointer (some ⟨g, 0, none⟩)) := F 8 rfl
    have HI := Lib.hid hi
    clear H F hi hL
    go_wp2_with fail
    exact hK _ _ (Below.refl _ _) HI.out rfl
  · intro L a wy Q' hL hi H F hK
    try dsimp only at hi
    obtain ⟨_, h113, rfl⟩ := H 15 ⟨.data, by simp, rfl⟩ _ rfl
    replace h113 := h113 _ rfl
    obtain ⟨_, h104, rfl⟩ := H 6 ⟨.guard, by simp, rfl⟩ _ rfl
    replace h104 := h104 _ rfl
    have HI := Lib.hid hi
    clear H F hi hL
    have kq0 : wy.cell? ⟨g, 5, none⟩ = some (.int .u64 T.a) := (Whole.under HI.out HR.out (Whole.lt HR.out)).cell 5
    have kq1 : wy.cell? ⟨g, 6, none⟩ = some (.int .u64 T.b) := (Whole.under HI.out HR.out (Whole.lt HR.out)).cell 6
    have kq2 : wy.cell? ⟨g, 7, none⟩ = some (.int .u64 T.c) := (Whole.under HI.out HR.out (Whole.lt HR.out)).cell 7
    have kq3 : wy.cell? ⟨g, 8, none⟩ = some (.int .u64 T.d) := (Whole.under HI.out HR.out (Whole.lt HR.out)).cell 8
    go_wp2_with fail
    exact hK _ _ (Below.refl _ _) HI.out rfl
  · intro L a wy Q' hL hi H F hK
    try dsimp only at hi
    obtain ⟨_, h112, rfl⟩ := H 14 ⟨.data, by simp, rfl⟩ _ rfl
    replace h112 := h112 _ rfl
    obtain ⟨_, h114, rfl⟩ := H 16 ⟨.data, by simp, rfl⟩ _ rfl
    replace h114 := h114 _ rfl
    obtain ⟨_, h104, rfl⟩ := H 6 ⟨.guard, by simp, rfl⟩ _ rfl
    replace h104 := h104 _ rfl
    have HI := Lib.hid hi
    clear H F hi hL
    have q := HQ.out
    go_wp2_with fail
    exact hK _ _ (Below.refl _ _) HI.out rfl
  · intro a wy L hl hi hL Q' hK
    try dsimp only at hi
    have HB := Lib.hid hi
    clear hi hL
    obtain ⟨_, rfl, _, rfl, _, rfl, _, rfl, _, rfl, _, rfl, _, rfl, _, rfl, _, rfl, _, rfl, _, rfl, _, rfl, _, rfl, _, rfl, _, rfl, _, rfl, _, rfl, _, rfl, rfl⟩ := hl
    simp only [List.setIfInBounds_toArray, List.set_cons_zero, List.set_cons_succ]
    go_wp2_with fail
    exact HEND.out _ _ _ _ _ _ _ _ _ _ _ _ _ _ _ _ _ _ _ HB.out
set_option maxRecDepth 100000 in
set_option maxHeartbeats 4000000 in
theorem comp21 (w : World) (b off i n c g k : Nat) (x y : AEntry) (pv : Int) (sa T : ASet) (x0 x1 x2 x4 x5 x6 x7 x10 x11 x12 x13 x14 x15 x16 x17 x18 x19 x20 x21 x22 x23 x24 x25 x26 x27 x28 x29 x30 x31 x32 x33 x34 x35 x36 x37 x38 x39 x40 x41 x42 x43 x44 x45 x46 x47 x48 x49 x50 x51 x52 x53 x54 x55 x56 x57 x58 x59 x60 x61 x62 x63 x64 x65 x66 x67 x68 x69 x70 x71 x72 x73 x74 x75 x76 x77 x78 x79 x80 x81 x82 x83 x84 x85 x86 x87 x88 x89 x90 x91 x92 x93 x94 x95 x96 x97 x98 x99 x100 x101 x102 x103 x104 x105 x106 x107 x108 x109 x110 x111 x112 x113 x114 x115 x116 x117 x118 x119 x120 x121 x122 x123 x124 x125 x126 x127 x128 x129 : Value) (hin : i < n) (HE : Hid (∀ j u, y.cells[j]? = some u → w.cell? ⟨b, off + i * 7 + j, none⟩ = some u)) (HR : Hid (Whole w g 27 #[.int .i64 (k : Int), .int .u64 sa.a, .int .u64 sa.b, .int .u64 sa.c, .int .u64 sa.d, .int .u64 T.a, .int .u64 T.b, .int .u64 T.c, .int .u64 T.d, .bool false, .int .i64 x.cls, .int .u32 pv, .int .i64 x.cond])) (HAO : Hid sa.Ok)
    {Q' : Exit → Act → World → Prop} (hend : ∀ (v117 v118 v119 v120 v121 v122 v123 v124 v125 : Value) (w' : World), (∀ B, B ≤ g → B ≤ w.heap.size → RowKit.Below B w w') → Whole w' g 27 #[.int .i64 (k : Int), .int .u64 (sa.with y.src).a, .int .u64 (sa.with y.src).b, .int .u64 (sa.with y.src).c, .int .u64 (sa.with y.src).d, .int .u64 T.a, .int .u64 T.b, .int .u64 T.c, .int .u64 T.d, .bool false, .int .i64 x.cls, .int .u32 pv, .int .i64 x.cond] → Q' .normal ⟨#[x0, x1, x2, .slice (some ⟨b, off, none⟩) n c, x4, x5, x6, x7, .pointer (some ⟨g, 0, none⟩), .int .i64 (i : Int), x10, x11, x12, x13, x14, x15, x16, x17, x18, x19, x20, x21, x22, x23, x24, x25, x26, x27, x28, x29, x30, x31, x32, x33, x34, x35, x36, x37, x38, x39, x40, x41, x42, x43, x44, x45, x46, x47, x48, x49, x50, x51, x52, x53, x54, x55, x56, x57, x58, x59, x60, x61, x62, x63, x64, x65, x66, x67, x68, x69, x70, x71, x72, x73, x74, x75, x76, x77, x78, x79, x80, x81, x82, x83, x84, x85, x86, x87, x88, x89, x90, x91, x92, x93, x94, x95, x96, x97, x98, x99, x100, x101, x102, x103, x104, x105, x106, x107, x108, x109, x110, x111, x112, x113, x114, x115, x116, v117, v118, v119, v120, v121, v122, v123, v124, v125, x126, x127, x128, x129], []⟩ w') :
    Code.wp Tryd.prog (findRegion7 21 ((Tryd.f25.body).getD .skip)) Q' ⟨#[x0, x1, x2, .slice (some ⟨b, off, none⟩) n c, x4, x5, x6, x7, .pointer (some ⟨g, 0, none⟩), .int .i64 (i : Int), x10, x11, x12, x13, x14, x15, x16, x17, x18, x19, x20, x21, x22, x23, x24, x25, x26, x27, x28, x29, x30, x31, x32, x33, x34, x35, x36, x37, x38, x39, x40, x41, x42, x43, x44, x45, x46, x47, x48, x49, x50, x51, x52, x53, x54, x55, x56, x57, x58, x59, x60, x61, x62, x63, x64, x65, x66, x67, x68, x69, x70, x71, x72, x73, x74, x75, x76, x77, x78, x79, x80, x81, x82, x83, x84, x85, x86, x87, x88, x89, x90, x91, x92, x93, x94, x95, x96, x97, x98, x99, x100, x101, x102, x103, x104, x105, x106, x107, x108, x109, x110, x111, x112, x113, x114, x115, x116, x117, x118, x119, x120, x121, x122, x123, x124, x125, x126, x127, x128, x129], []⟩ w := by
  have HEND := Lib.hid hend
  clear hend
  conv => arg 2; whnf
  conv => arg 4; dsimp only
  refine wp_region_goods [some 117, some 118, some 119, some 120, some 121, some 122, some 123, some 124, some 125] [isW (.pointer (some ⟨g, 1, none⟩)), isW (.agg #[.int .u64 sa.a, .int .u64 sa.b, .int .u64 sa.c, .int .u64 sa.d]), isW (.slice (some ⟨b, off, none⟩) n c), isW (.int .i64 (i : Int)), isW (.pointer (some ⟨b, off + i * 7, none⟩)), isW (.pointer (some ⟨b, off + i * 7, none⟩)), isW (.int .i64 y.src), isW (.agg #[.int .u64 (sa.with y.src).a, .int .u64 (sa.with y.src).b, .int .u64 (sa.with y.src).c, .int .u64 (sa.with y.src).d]), isW (.pointer (some ⟨g, 1, none⟩))] (fun _ w' => RowKit.Below w.heap.size w w') [] (by kernel_rfl) (by kernel_rfl) (by kernel_rfl) rfl (by decide) rfl rfl ((Below.refl _ _).drew) ⟨lastsW_is _, lastsW_is _, lastsW_is _, lastsW_is _, lastsW_is _, lastsW_is _, lastsW_is _, lastsW_is _, lastsW_is _, trivial⟩ ⟨?_, ?_, ?_, ?_, ?_, ?_, ?_, ?_, ?_, ?_⟩
  · intro L a wy Q' hL hi H F hK
    try dsimp only at hi
    have h8 : a.tmps[8]? = some (.pointer (some ⟨g, 0, none⟩)) := F 8 rfl
    have HI := Lib.hid hi
    clear H F hi hL
    go_wp2_with fail
    exact hK _ _ (Below.refl _ _) HI.out rfl
  · intro L a wy Q' hL hi H F hK
    try dsimp only at hi
    obtain ⟨_, h117, rfl⟩ := H 0 ⟨.data, by simp, rfl⟩ _ rfl
    replace h117 := h117 _ rfl
    have HI := Lib.hid hi
    clear H F hi hL
    have kq0 : wy.cell? ⟨g, 1, none⟩ = some (.int .u64 sa.a) := (Whole.under HI.out HR.out (Whole.lt HR.out)).cell 1
    have kq1 : wy.cell? ⟨g, 2, none⟩ = some (.int .u64 sa.b) := (Whole.under HI.out HR.out (Whole.lt HR.out)).cell 2
    have kq2 : wy.cell? ⟨g, 3, none⟩ = some (.int .u64 sa.c) := (Whole.under HI.out HR.out (Whole.lt HR.out)).cell 3
    have kq3 : wy.cell? ⟨g, 4, none⟩ = some (.int .u64 sa.d) := (Whole.under HI.out HR.out (Whole.lt HR.out)).cell 4
    go_wp2_with fail
    exact hK _ _ (Below.refl _ _) HI.out rfl
  · intro L a wy Q' hL hi H F hK
    try dsimp only at hi
    have h3 : a.tmps[3]? = some (.slice (some ⟨b, off, none⟩) n c) := F 3 rfl
    have HI := Lib.hid hi
    clear H F hi hL
    go_wp2_with fail
    exact hK _ _ (Below.refl _ _) HI.out rfl
  · intro L a wy Q' hL hi H F hK
    try dsimp only at hi
    have h9 : a.tmps[9]? = some (.int .i64 (i : Int)) := F 9 rfl
    have HI := Lib.hid hi
    clear H F hi hL
    go_wp2_with fail
    exact hK _ _ (Below.refl _ _) HI.out rfl
  · intro L a wy Q' hL hi H F hK
    try dsimp only at hi
    obtain ⟨_, h119, rfl⟩ := H 2 ⟨.data, by simp, rfl⟩ _ rfl
    replace h119 := h119 _ rfl
    obtain ⟨_, h120, rfl⟩ := H 3 ⟨.data, by simp, rfl⟩ _ rfl
    replace h120 := h120 _ rfl
    have HI := Lib.hid hi
    clear H F hi hL
    go_wp2_with fail
    exact hK _ _ (Below.refl _ _) HI.out rfl
  · intro L a wy Q' hL hi H F hK
    try dsimp only at hi
    obtain ⟨_, h121, rfl⟩ := H 4 ⟨.data, by simp, rfl⟩ _ rfl
    replace h121 := h121 _ rfl
    have HI := Lib.hid hi
    clear H F hi hL
    go_wp2_with fail
    exact hK _ _ (Below.refl _ _) HI.out rfl
  · intro L a wy Q' hL hi H F hK
    try dsimp only at hi
    obtain ⟨_, h122, rfl⟩ := H 5 ⟨.data, by simp, rfl⟩ _ rfl
    replace h122 := h122 _ rfl
    have HI := Lib.hid hi
    clear H F hi hL
    have kq0 : wy.cell? ⟨b, off + i * 7, none⟩ = some (.int .i64 y.src) := cell_later HI.out (HE.out 0 _ rfl)
    go_wp2_with fail
    exact hK _ _ (Below.refl _ _) HI.out rfl
  · intro L a wy Q' hL hi H F hK
    try dsimp only at hi
    obtain ⟨_, h118, rfl⟩ := H 1 ⟨.data, by simp, rfl⟩ _ rfl
    replace h118 := h118 _ rfl
    obtain ⟨_, h123, rfl⟩ := H 6 ⟨.data, by simp, rfl⟩ _ rfl
    replace h123 := h123 _ rfl
    have HI := Lib.hid hi
    clear H F hi hL
    have HK := Lib.hid hK
    clear hK
    go_wp2_with (go_at_call 44; go_must (refine (rwith_any wy sa HAO.out y.src).mono ?_; rintro e w1 ⟨rfl, hb1⟩))
    exact HK.out _ _ hb1 (HI.out.trans (hb1.mono HI.out.size)) rfl
  · intro L a wy Q' hL hi H F hK
    try dsimp only at hi
    have h8 : a.tmps[8]? = some (.pointer (some ⟨g, 0, none⟩)) := F 8 rfl
    have HI := Lib.hid hi
    clear H F hi hL
    go_wp2_with fail
    exact hK _ _ (Below.refl _ _) HI.out rfl
  · intro a wy L hl hi hL Q' hK
    try dsimp only at hi
    have HB := Lib.hid hi
    clear hi hL
    obtain ⟨_, rfl, _, rfl, _, rfl, _, rfl, _, rfl, _, rfl, _, rfl, _, rfl, _, rfl, rfl⟩ := hl
    simp only [List.setIfInBounds_toArray, List.set_cons_zero, List.set_cons_succ]
    have HW := Lib.hid (Whole.under HB.out HR.out HR.out.lt)
    go_wp2_with (refine wpList_store_blk rfl 24 _ _ rfl g 1 (.agg #[.int .u64 (sa.with y.src).a, .int .u64 (sa.with y.src).b, .int .u64 (sa.with y.src).c, .int .u64 (sa.with y.src).d]) rfl rfl 27 _ HW.out (by simp [Value.cells]) size24 rfl ?_; intro w9 S9 W9; have HS9 := Lib.hid S9; have HW9 := Lib.hid (show Whole w9 g 27 #[.int .i64 (k : Int), .int .u64 (sa.with y.src).a, .int .u64 (sa.with y.src).b, .int .u64 (sa.with y.src).c, .int .u64 (sa.with y.src).d, .int .u64 T.a, .int .u64 T.b, .int .u64 T.c, .int .u64 T.d, .bool false, .int .i64 x.cls, .int .u32 pv, .int .i64 x.cond] from W9); clear S9 W9)
    exact HEND.out _ _ _ _ _ _ _ _ _ w9 (fun B h1 h2 => (HB.out.mono h2).trans (HS9.out.below h1)) HW9.out
end Go.Proofs.YtmkfabdkadocdaaDoor

/-
  The reference's Compress.
-/
namespace Go.Proofs.YtmkfabdkadocdaaDoor
open Go Go.WideMaps Go.RowKit Go.Sort

theorem kinds_take {x : AEntry} (hx : x.inR = true) {k : Nat} (h1 : 1 ≤ k) (h3 : k ≤ 3) : (kinds x).take k = (kinds x).take (k - 1) ++ [(x, (k : Int))] := by
  unfold kinds
  rw [if_pos hx]
  rcases (by omega : k = 1 ∨ k = 2 ∨ k = 3) with rfl | rfl | rfl <;> rfl
theorem kinds_all {x : AEntry} : (kinds x).take 3 = kinds x := by
  unfold kinds
  split <;> rfl
theorem pre_pairs {I : List AEntry} {i k : Nat} {x : AEntry} (hx : I[i]? = some x) {p : AEntry × Int} (hp : p ∈ pairsOf (I.take i) ++ (kinds x).take k) : p ∈ pairsOf I := by
  rcases List.mem_append.1 hp with hp | hp
  · obtain ⟨y, hy, hm⟩ := List.mem_flatMap.1 hp
    exact List.mem_flatMap.2 ⟨y, List.mem_of_mem_take hy, hm⟩
  · exact List.mem_flatMap.2 ⟨x, List.mem_of_getElem? hx, List.mem_of_mem_take hp⟩
/-- The rules made so far. -/
def OutC (I : List AEntry) (L : List (AEntry × Int)) (u : Value) (w : World) : Prop := SliceAt w u 13 (compF I L).length ((compF I L).flatMap ARule.cells)
theorem OutC.keep {I : List AEntry} {L : List (AEntry × Int)} {u : Value} {w w' : World} (h : OutC I L u w) (hb : RowKit.Below w.heap.size w w') : OutC I L u w' := SliceAt.keep h hb
theorem set_eq_iff (s t : ASet) : decide ((s.a : Int) = t.a ∧ (s.b : Int) = t.b ∧ (s.c : Int) = t.c ∧ (s.d : Int) = t.d) = decide (s = t) := by
  obtain ⟨a, b, c, d⟩ := s
  obtain ⟨a', b', c', d'⟩ := t
  simp only [ASet.mk.injEq, Int.natCast_inj]
theorem eq_set' (s t : ASet) (w : World) : (Op.equalIn 10000 24 (.agg #[.int .u64 s.a, .int .u64 s.b, .int .u64 s.c, .int .u64 s.d]) (.agg #[.int .u64 t.a, .int .u64 t.b, .int .u64 t.c, .int .u64 t.d])).run Tryd.prog w = .ok (decide (s = t)) w := by
  rw [eq_set, set_eq_iff]
theorem own_form {w : World} {k n ac : Nat} {aa : Option Addr} {cs : List Value} (h : SliceAt w (.slice aa n ac) k n cs) (hk : 0 < k) {i : Nat} (hi : i < n) :
    ∃ b off, aa = some ⟨b, off, none⟩ ∧ ∀ j u, cs[i * k + j]? = some u → w.cell? ⟨b, off + i * k + j, none⟩ = some u := by
  obtain ⟨a, c, e, _, _, hc⟩ := h.form hk
  cases e
  exact hc i hi
set_option maxRecDepth 100000 in
set_option maxHeartbeats 8000000 in
theorem refCompress_any (w : World) (v : Value) (l : List AEntry) (h : SliceAt w v 7 l.length (l.flatMap AEntry.cells)) (hok : ∀ x ∈ l, x.Ok) (hlen : l.length ≤ 120) :
    Calls Tryd.prog 25 #[v] w fun e w' => ∃ v', e = .returned v' ∧ OutC (inF l) (pairsOf (inF l)) v' w' ∧ RowKit.Below w.heap.size w w' := by
  obtain ⟨n, hn⟩ : ∃ n, n = l.length := ⟨_, rfl⟩
  obtain ⟨a, c, rfl, hc, hmx, hcell⟩ := h.form (by decide)
  have HL := Lib.hid hn
  have HC := Lib.hid (And.intro hcell hc)
  have HOK := Lib.hid hok
  rw [← hn] at hlen hmx hc
  rw [← hn]
  clear hn hcell h hok
  go_enter Tryd.func25, Tryd.ntmps25
  go_wp2_with fail
  go_loopw [4, 3] (fun ix u wr => ∃ k : Nat, k ≤ n ∧ ix = .int .i64 k ∧ SliceAt wr u 7 (inF (l.take k)).length ((inF (l.take k)).flatMap AEntry.cells) ∧ RowKit.Below w.heap.size w wr) (fun ix _ _ => n - (intOf ix).toNat)
  case atStart => exact ⟨0, Nat.zero_le _, rfl, SliceAt.nil _ _, Below.refl _ _⟩
  case round =>
    obtain ⟨i, hi, rfl, hS, hB⟩ := hrel
    have HSr := Lib.hid hS
    have HBr := Lib.hid hB
    clear hS hB
    by_cases hlt : i < n
    · have hln : i < l.length := by rw [← HL.out]; exact hlt
      obtain ⟨x, hx⟩ : ∃ x, l[i]? = some x := ⟨_, List.getElem?_eq_getElem hln⟩
      have HXI := Lib.hid hx
      obtain ⟨b, off, rfl, hcl⟩ := HC.out.1 i hln
      have HXC := Lib.hid (show ∀ z u, x.cells[z]? = some u → w.cell? ⟨b, off + i * 7 + z, none⟩ = some u from fun z u hu => hcl z u (by
        have hz : z < 7 := (List.getElem?_eq_some_iff.1 hu).1
        rw [flat_at entry_len hx z hz]; exact hu))
      have HIL := Lib.hid (show (inF (l.take i)).length ≤ 1000 by
        have h1 := inF_len (l := l.take i) fun y hy => HOK.out y (List.mem_of_mem_take hy)
        have h2 := List.length_take_le i l
        omega)
      clear hx hcl hln
      go_upto_region 5 with fail
      refine comp5 wr b off i n c x _ _ _ _ _ _ _ _ _ _ _ _ _ _ _ _ _ _ _ _ _ _ _ _ _ _ _ _ _ _ _ _ _ _ _ _ _ _ _ _ _ _ _ _ _ _ _ _ _ _ _ _ _ _ _ _ _ _ _ _ _ _ _ _ _ _ _ _ _ _ _ _ _ _ _ _ _ _ _ _ _ _ _ _ _ _ _ _ _ _ _ _ _ _ _ _ _ _ _ _ _ _ _ _ _ _ _ _ _ _ _ _ _ _ _ _ _ _ _ _ _ _ _ _ _ _ _ _ hlt (Lib.hid (show ∀ j u, x.cells[j]? = some u → wr.cell? ⟨b, off + i * 7 + j, none⟩ = some u from fun j u hu => cell_later HBr.out (HXC.out j u hu))) ?_
      intro v16 v17 v18 v19 v20 v21 v22 v23 v24 v25 v26 v27 v28 v29 v30 v31 v32 v33 v34 v35 v36 v37 v38 v39 v40 v41 v42 v43 v44
      obtain ⟨z, hz⟩ : ∃ z, z = x.inR := ⟨_, rfl⟩
      have HZ := Lib.hid hz
      rw [← hz]
      clear hz
      cases z with
      | true =>
        have e0 : wr.cell? ⟨b, off + i * 7, none⟩ = some (.int .i64 x.src) := cell_later HBr.out (HXC.out 0 _ rfl)
        have e1 : wr.cell? ⟨b, off + i * 7 + 1, none⟩ = some (.int .i64 x.tgt) := cell_later HBr.out (HXC.out 1 _ rfl)
        have e2 : wr.cell? ⟨b, off + i * 7 + 2, none⟩ = some (.int .i64 x.cls) := cell_later HBr.out (HXC.out 2 _ rfl)
        have e3 : wr.cell? ⟨b, off + i * 7 + 3, none⟩ = some (.int .i64 x.cond) := cell_later HBr.out (HXC.out 3 _ rfl)
        have e4 : wr.cell? ⟨b, off + i * 7 + 4, none⟩ = some (.int .u32 x.allow) := cell_later HBr.out (HXC.out 4 _ rfl)
        have e5 : wr.cell? ⟨b, off + i * 7 + 5, none⟩ = some (.int .u32 x.audit) := cell_later HBr.out (HXC.out 5 _ rfl)
        have e6 : wr.cell? ⟨b, off + i * 7 + 6, none⟩ = some (.int .u32 x.dont) := cell_later HBr.out (HXC.out 6 _ rfl)
        go_wp2_with (go_at_call 40; go_must (refine (add_any wr u3 (inF (l.take i)) x HSr.out HIL.out).mono ?_; rintro e w1 ⟨v1, rfl, hs1, hb1⟩; have HS1 := Lib.hid hs1; have HB1 := Lib.hid (HBr.out.trans (hb1.mono HBr.out.size)); clear hs1 hb1 e0 e1 e2 e3 e4 e5 e6))
        go_roundw
        case rel => exact ⟨i + 1, by omega, by go_num, by rw [inF_next HXI.out]; unfold inStep; rw [if_pos HZ.out.symm]; exact HS1.out, HB1.out⟩
        case measure => simp [intOf]; omega
      | false =>
        go_wp2_with fail
        go_roundw
        case rel => exact ⟨i + 1, by omega, by go_num, by rw [inF_next HXI.out]; unfold inStep; rw [if_neg (by rw [← HZ.out]; simp)]; exact HSr.out, HBr.out⟩
        case measure => simp [intOf]; omega
    · obtain rfl : i = n := by omega
      obtain ⟨wI, rfl⟩ : ∃ wI : World, wI = wr := ⟨_, rfl⟩
      obtain ⟨I, hI⟩ : ∃ I, I = inF l := ⟨_, rfl⟩
      have HSI := Lib.hid (show SliceAt wI u3 7 I.length (I.flatMap AEntry.cells) by have h := HSr.out; rw [HL.out, List.take_length] at h; rw [hI]; exact h)
      have HIN := Lib.hid (show ∀ x ∈ I, x.inR = true by rw [hI]; exact fun x hx => inF_in HOK.out hx)
      have HBI := HBr
      obtain ⟨m, hm⟩ : ∃ m, m = I.length := ⟨_, rfl⟩
      have HM := Lib.hid hm
      have hm120 : m ≤ 120 := by rw [hm, hI]; have := inF_len HOK.out; have := HL.out; omega
      have HEI := Lib.hid hI
      obtain ⟨ia, ic, rfl, hic, him, -⟩ := HSI.out.form (by decide)
      rw [← hm] at hic him HSI ⊢
      clear hI hm HSr HBr hlt hi
      go_wp2_with fail
      go_loopw [6, 5] (fun ix u wr => ∃ k : Nat, k ≤ m ∧ ix = .int .i64 k ∧ OutC I (pairsOf (I.take k)) u wr ∧ RowKit.Below wI.heap.size wI wr) (fun ix _ _ => m - (intOf ix).toNat)
      case atStart => exact ⟨0, Nat.zero_le _, rfl, SliceAt.nil _ _, Below.refl _ _⟩
      case round =>
        obtain ⟨wy, rfl⟩ : ∃ wy : World, wy = wr := ⟨_, rfl⟩
        obtain ⟨i, hi, rfl, hO, hB⟩ := hrel
        have HOY := Lib.hid hO
        have HBY := Lib.hid hB
        clear hO hB
        by_cases hlt : i < m
        · have hln : i < I.length := by rw [← HM.out]; exact hlt
          obtain ⟨x, hx⟩ : ∃ x, I[i]? = some x := ⟨_, List.getElem?_eq_getElem hln⟩
          have HXI := Lib.hid hx
          have HXR := Lib.hid (HIN.out x (List.mem_of_getElem? hx))
          obtain ⟨b, off, rfl, hcl⟩ := own_form HSI.out (by decide) hlt
          have HXC := Lib.hid (show ∀ z u, x.cells[z]? = some u → wI.cell? ⟨b, off + i * 7 + z, none⟩ = some u from fun z u hu => hcl z u (by
            have hz : z < 7 := (List.getElem?_eq_some_iff.1 hu).1
            rw [flat_at entry_len hx z hz]; exact hu))
          clear hx hcl hln
          go_wp2_with fail
          go_loopw [7, 5] (fun ix u wr => ∃ k : Nat, 1 ≤ k ∧ k ≤ 4 ∧ ix = .int .i64 k ∧ OutC I (pairsOf (I.take i) ++ (kinds x).take (k - 1)) u wr ∧ RowKit.Below wI.heap.size wI wr) (fun ix _ _ => 4 - (intOf ix).toNat)
          case atStart => exact ⟨1, by omega, by omega, rfl, by simpa using HOY.out, HBY.out⟩
          case round =>
            clear HOY HBY
            obtain ⟨wz, rfl⟩ : ∃ wz : World, wz = wr := ⟨_, rfl⟩
            obtain ⟨k, hk1, hk4, rfl, hO, hB⟩ := hrel
            have HOZ := Lib.hid hO
            have HBZ := Lib.hid hB
            clear hO hB
            by_cases hk : k ≤ 3
            · obtain ⟨pv, hpv⟩ : ∃ pv, pv = x.vec (k : Int) := ⟨_, rfl⟩
              have HPV := Lib.hid hpv
              have HKO := Lib.hid (show kindOk (k : Int) by unfold kindOk; omega)
              have HPL := Lib.hid (show (kinds x).take (k + 1 - 1) = (kinds x).take (k - 1) ++ [(x, (k : Int))] by rw [Nat.add_sub_cancel]; exact kinds_take HXR.out hk1 hk)
              clear hpv
              go_upto_region 14 with fail
              refine comp14 wz b off i m ic k x pv _ _ _ _ _ _ _ _ _ _ _ _ _ _ _ _ _ _ _ _ _ _ _ _ _ _ _ _ _ _ _ _ _ _ _ _ _ _ _ _ _ _ _ _ _ _ _ _ _ _ _ _ _ _ _ _ _ _ _ _ _ _ _ _ _ _ _ _ _ _ _ _ _ _ _ _ _ _ _ _ _ _ _ _ _ _ _ _ _ _ _ _ _ _ _ _ _ _ _ _ _ _ _ _ _ _ _ _ _ _ _ _ _ _ _ _ _ _ _ _ _ _ _ _ _ _ _ hlt (Lib.hid (show ∀ j u, x.cells[j]? = some u → wz.cell? ⟨b, off + i * 7 + j, none⟩ = some u from fun j u hu => cell_later HBZ.out (HXC.out j u hu))) (Lib.hid fun W => by rw [HPV.out]; exact vector_any W x (k : Int)) ?_
              intro v62 v63 v64 v65 v66 v67 v68 v69 v70 v71 v72 v73 v74 v75 v76 v77 v78 v79 g w4 hb4 hg4 hw4
              have HB4 := Lib.hid hb4
              have HG4 := Lib.hid hg4
              have HW4 := Lib.hid hw4
              clear hb4 hg4 hw4
              have k11 : w4.cell? ⟨g, 11, none⟩ = some (.int .u32 pv) := HW4.out.cell 11
              by_cases hz : pv = 0
              · have hd : (pv == 0) = true := by simp [hz]
                have HZ := Lib.hid hz
                clear hz
                go_wp2_with fail
                go_roundw
                case rel => exact ⟨k + 1, by omega, by omega, by go_num, by rw [HPL.out, ← List.append_assoc]; unfold OutC; rw [compF_snoc]; unfold compStep; rw [if_pos (by rw [← HPV.out]; exact HZ.out)]; exact HOZ.out.keep HB4.out, HBZ.out.trans (HB4.out.mono HBZ.out.size)⟩
                case measure => simp [intOf]; omega
              · have hd : (pv == 0) = false := by simp [hz]
                have HZ := Lib.hid hz
                clear hz
                obtain ⟨T, hT⟩ : ∃ T, T = tgtF I (mkR (grpP (x, (k : Int))) (ASet.zero, ASet.zero)) x.src := ⟨_, rfl⟩
                have HT := Lib.hid hT
                clear hT
                go_upto_region 16 with fail
                refine comp16 w4 b off i m ic g k x pv T _ _ _ _ _ _ _ _ _ _ _ _ _ _ _ _ _ _ _ _ _ _ _ _ _ _ _ _ _ _ _ _ _ _ _ _ _ _ _ _ _ _ _ _ _ _ _ _ _ _ _ _ _ _ _ _ _ _ _ _ _ _ _ _ _ _ _ _ _ _ _ _ _ _ _ _ _ _ _ _ _ _ _ _ _ _ _ _ _ _ _ _ _ _ _ _ _ _ _ _ _ _ _ _ _ _ _ _ _ _ _ _ _ _ _ _ _ _ _ _ _ _ _ _ _ _ _ hlt (Lib.hid (show ∀ j u, x.cells[j]? = some u → w4.cell? ⟨b, off + i * 7 + j, none⟩ = some u from fun j u hu => cell_later (HBZ.out.trans (HB4.out.mono HBZ.out.size)) (HXC.out j u hu))) HW4 (Lib.hid fun W hW => by
                  have h := targetsR_any W _ I (⟨(k : Int), ASet.zero, ASet.zero, false, x.cls, pv, x.cond⟩ : ARule) x.src (by rw [← HM.out]; exact HSI.out.keep (HBZ.out.trans ((HB4.out.trans (hW.mono HB4.out.size)).mono HBZ.out.size)))
                  rw [HT.out]
                  have e : grpP (x, (k : Int)) = ⟨(k : Int), x.cls, x.cond, pv⟩ := by rw [HPV.out]; rfl
                  rw [e]
                  exact h) ?_
                intro v83 v84 v85 v86 v87 v88 v89 v90 v91 w5 hb5 hw5
                have HB5 := Lib.hid (HB4.out.trans (hb5 wz.heap.size HG4.out HB4.out.size))
                have HW5 := Lib.hid hw5
                have HTT := Lib.hid (show ∀ (s : ASet) (z : Int), tgtF I (⟨(k : Int), s, T, false, x.cls, pv, x.cond⟩ : ARule) z = tgtF I (mkR (grpP (x, (k : Int))) (ASet.zero, ASet.zero)) z from fun s z => by
                  have e : grpP (x, (k : Int)) = ⟨(k : Int), x.cls, x.cond, pv⟩ := by rw [HPV.out]; rfl
                  rw [e]
                  rfl)
                have HTF := Lib.hid (show ∀ (s : ASet) (z : AEntry), z.fits (⟨(k : Int), s, T, false, x.cls, pv, x.cond⟩ : ARule) = z.fits (mkR (grpP (x, (k : Int))) (ASet.zero, ASet.zero)) from fun s z => by
                  have e : grpP (x, (k : Int)) = ⟨(k : Int), x.cls, x.cond, pv⟩ := by rw [HPV.out]; rfl
                  rw [e]
                  rfl)
                obtain ⟨r0, hr0⟩ : ∃ r0, r0 = mkR (grpP (x, (k : Int))) (ASet.zero, ASet.zero) := ⟨_, rfl⟩
                rw [← hr0] at HTT HTF HT
                have HR0 := Lib.hid hr0
                clear hb5 hw5 HW4 hd k11 hr0
                go_wp2_with fail
                go_loopw [9] (fun ix wr => ∃ (q : Nat) (sa : ASet), q ≤ m ∧ ix = .int .i64 q ∧ sa = srcR I r0 T (I.take q) ∧ Whole wr g 27 #[.int .i64 (k : Int), .int .u64 sa.a, .int .u64 sa.b, .int .u64 sa.c, .int .u64 sa.d, .int .u64 T.a, .int .u64 T.b, .int .u64 T.c, .int .u64 T.d, .bool false, .int .i64 x.cls, .int .u32 pv, .int .i64 x.cond] ∧ RowKit.Below wz.heap.size wz wr) (fun ix _ => m - (intOf ix).toNat)
                case atStart => exact ⟨0, ASet.zero, Nat.zero_le _, rfl, rfl, HW5.out, HB5.out⟩
                case round =>
                  clear HW5 HB5 HB4
                  obtain ⟨j, sa, hj, rfl, hsa, hW, hB⟩ := hrel
                  have HSA := Lib.hid hsa
                  have HW := Lib.hid hW
                  have HB := Lib.hid hB
                  have HBW := Lib.hid (HBZ.out.trans (hB.mono HBZ.out.size))
                  clear hsa hW hB
                  by_cases hjl : j < m
                  · have hjn : j < I.length := by rw [← HM.out]; exact hjl
                    obtain ⟨y, hy⟩ : ∃ y, I[j]? = some y := ⟨_, List.getElem?_eq_getElem hjn⟩
                    have HYI := Lib.hid hy
                    obtain ⟨b', off', e', hcl⟩ := own_form HSI.out (by decide) hjl
                    cases e'
                    have HYC := Lib.hid (show ∀ z u, y.cells[z]? = some u → wI.cell? ⟨b, off + j * 7 + z, none⟩ = some u from fun z u hu => hcl z u (by
                      have hz : z < 7 := (List.getElem?_eq_some_iff.1 hu).1
                      rw [flat_at entry_len hy z hz]; exact hu))
                    have HYr := Lib.hid (show ∀ z u, y.cells[z]? = some u → wr.cell? ⟨b, off + j * 7 + z, none⟩ = some u from fun z u hu => cell_later HBW.out (HYC.out z u hu))
                    clear hy hcl hjn
                    obtain ⟨f, hf⟩ : ∃ f, f = y.fits (⟨(k : Int), sa, T, false, x.cls, pv, x.cond⟩ : ARule) := ⟨_, rfl⟩
                    have HFC := Lib.hid (show ∀ W, Calls Tryd.prog 43 #[.agg #[.int .i64 y.src, .int .i64 y.tgt, .int .i64 y.cls, .int .i64 y.cond, .int .u32 y.allow, .int .u32 y.audit, .int .u32 y.dont], .agg #[.int .i64 (k : Int), .int .u64 sa.a, .int .u64 sa.b, .int .u64 sa.c, .int .u64 sa.d, .int .u64 T.a, .int .u64 T.b, .int .u64 T.c, .int .u64 T.d, .bool false, .int .i64 x.cls, .int .u32 pv, .int .i64 x.cond]] W fun e w' => e = .returned (.bool f) ∧ RowKit.Below W.heap.size W w' from fun W => by rw [hf]; exact fits_any W y (⟨(k : Int), sa, T, false, x.cls, pv, x.cond⟩ : ARule))
                    have HF := Lib.hid (show y.fits r0 = f by rw [hf, HTF.out])
                    clear hf
                    go_upto_region 20 with fail
                    cases f with
                    | false =>
                      refine comp20_f wr b off j m ic g k x y pv sa T _ _ _ _ _ _ _ _ _ _ _ _ _ _ _ _ _ _ _ _ _ _ _ _ _ _ _ _ _ _ _ _ _ _ _ _ _ _ _ _ _ _ _ _ _ _ _ _ _ _ _ _ _ _ _ _ _ _ _ _ _ _ _ _ _ _ _ _ _ _ _ _ _ _ _ _ _ _ _ _ _ _ _ _ _ _ _ _ _ _ _ _ _ _ _ _ _ _ _ _ _ _ _ _ _ _ _ _ _ _ _ _ _ _ _ _ _ _ _ _ _ _ _ _ _ _ _ hjl HYr HW HFC ?_
                      intro v98 v99 v100 v101 v102 v103 v104 v105 v106 v107 v108 v109 v110 v111 v112 v113 v114 v115 w6 hb6
                      have HB6 := Lib.hid (HB.out.trans (hb6.mono HB.out.size))
                      have HW6 := Lib.hid (Whole.under hb6 HW.out HW.out.lt)
                      clear hb6 HW HB
                      go_wp2_with fail
                      go_roundw
                      case rel => exact ⟨j + 1, sa, by omega, by go_num, by rw [srcR_next HYI.out, ← HSA.out]; unfold srcStepR; rw [HF.out]; rfl, HW6.out, HB6.out⟩
                      case measure => simp [intOf]; omega
                    | true =>
                      obtain ⟨U, hU⟩ : ∃ U, U = tgtF I r0 y.src := ⟨_, rfl⟩
                      have HU := Lib.hid hU
                      obtain ⟨q, hq⟩ : ∃ q, q = decide (U = T) := ⟨_, rfl⟩
                      have HQ := Lib.hid hq
                      clear hU hq
                      refine comp20_t wr b off j m ic g k x y pv sa T U q _ _ _ _ _ _ _ _ _ _ _ _ _ _ _ _ _ _ _ _ _ _ _ _ _ _ _ _ _ _ _ _ _ _ _ _ _ _ _ _ _ _ _ _ _ _ _ _ _ _ _ _ _ _ _ _ _ _ _ _ _ _ _ _ _ _ _ _ _ _ _ _ _ _ _ _ _ _ _ _ _ _ _ _ _ _ _ _ _ _ _ _ _ _ _ _ _ _ _ _ _ _ _ _ _ _ _ _ _ _ _ _ _ _ _ _ _ _ _ _ _ _ _ _ _ _ _ hjl HYr HW HFC (Lib.hid fun W hW => by
                        have h := targetsR_any W _ I (⟨(k : Int), sa, T, false, x.cls, pv, x.cond⟩ : ARule) y.src (by rw [← HM.out]; exact HSI.out.keep (HBW.out.trans (hW.mono HBW.out.size)))
                        rw [HTT.out, ← HU.out] at h
                        exact h) (Lib.hid fun W => by rw [HQ.out]; exact eq_set' U T W) ?_
                      intro v98 v99 v100 v101 v102 v103 v104 v105 v106 v107 v108 v109 v110 v111 v112 v113 v114 v115 w6 hb6
                      have HB6 := Lib.hid (HB.out.trans (hb6.mono HB.out.size))
                      have HW6 := Lib.hid (Whole.under hb6 HW.out HW.out.lt)
                      have HY6 := Lib.hid (show ∀ z u, y.cells[z]? = some u → w6.cell? ⟨b, off + j * 7 + z, none⟩ = some u from fun z u hu => cell_later hb6 (HYr.out z u hu))
                      clear hb6 HW HB HYr
                      cases q with
                      | false =>
                        go_wp2_with fail
                        go_roundw
                        case rel => exact ⟨j + 1, sa, by omega, by go_num, by rw [srcR_next HYI.out, ← HSA.out]; unfold srcStepR; rw [HF.out, ← HU.out, ← HQ.out]; rfl, HW6.out, HB6.out⟩
                        case measure => simp [intOf]; omega
                      | true =>
                        go_upto_region 21 with fail
                        refine comp21 w6 b off j m ic g k x y pv sa T _ _ _ _ _ _ _ _ _ _ _ _ _ _ _ _ _ _ _ _ _ _ _ _ _ _ _ _ _ _ _ _ _ _ _ _ _ _ _ _ _ _ _ _ _ _ _ _ _ _ _ _ _ _ _ _ _ _ _ _ _ _ _ _ _ _ _ _ _ _ _ _ _ _ _ _ _ _ _ _ _ _ _ _ _ _ _ _ _ _ _ _ _ _ _ _ _ _ _ _ _ _ _ _ _ _ _ _ _ _ _ _ _ _ _ _ _ _ _ _ _ _ _ _ _ _ _ hjl HY6 HW6 (Lib.hid (by rw [HSA.out]; exact srcR_ok _ _ _ _)) ?_
                        intro v117 v118 v119 v120 v121 v122 v123 v124 v125 w7 hb7 hw7
                        have HB7 := Lib.hid (HB6.out.trans (hb7 wz.heap.size HG4.out HB6.out.size))
                        have HW7 := Lib.hid hw7
                        clear hb7 hw7 HW6 HB6 HY6
                        go_wp2_with fail
                        go_roundw
                        case rel => exact ⟨j + 1, sa.with y.src, by omega, by go_num, by rw [srcR_next HYI.out, ← HSA.out]; unfold srcStepR; rw [HF.out, ← HU.out, ← HQ.out]; rfl, HW7.out, HB7.out⟩
                        case measure => simp [intOf]; omega
                  · obtain rfl : j = m := by omega
                    have HSF := Lib.hid (show sa = srcR I r0 T I by have h := HSA.out; rw [HM.out, List.take_length] at h; exact h)
                    have HCI := Lib.hid (compI_all HIN.out (L := pairsOf (I.take i) ++ (kinds x).take (k - 1)) (fun p hp => pre_pairs HXI.out hp))
                    have HOL := Lib.hid (show (compF I (pairsOf (I.take i) ++ (kinds x).take (k - 1))).length ≤ 1000 by
                      have h1 := HCI.out.len
                      have h2 := pairsOf_len (I.take i)
                      have h3 := List.length_take_le i I
                      have h4 : (kinds x).length ≤ 3 := by unfold kinds; split <;> simp
                      have h5 := List.length_take_le (k - 1) (kinds x)
                      have h6 := HM.out
                      rw [List.length_append] at h1
                      omega)
                    have HCD := Lib.hid (show (⟨(k : Int), sa, T, false, x.cls, pv, x.cond⟩ : ARule) = candR I (x, (k : Int)) by
                      unfold candR
                      dsimp only
                      rw [← HR0.out, ← HT.out, ← HSF.out]
                      have e : grpP (x, (k : Int)) = ⟨(k : Int), x.cls, x.cond, pv⟩ := by rw [HPV.out]; rfl
                      rw [e]
                      rfl)
                    have HRO := Lib.hid (show ARule.Ok (⟨(k : Int), sa, T, false, x.cls, pv, x.cond⟩ : ARule) from ⟨by rw [show ARule.src (⟨(k : Int), sa, T, false, x.cls, pv, x.cond⟩ : ARule) = sa from rfl, HSF.out]; exact srcR_ok _ _ _ _, by rw [show ARule.tgt (⟨(k : Int), sa, T, false, x.cls, pv, x.cond⟩ : ARule) = T from rfl, HT.out]; exact tgtF_ok _ _ _⟩)
                    have HOW := Lib.hid (HOZ.out.keep HB.out)
                    obtain ⟨wq, rfl⟩ : ∃ wq : World, wq = wr := ⟨_, rfl⟩
                    go_wp2_with (first
                      | (refine wpList_load_row rfl 27 _ rfl g rfl 27 _ (0, 0) _ HW.out Tryd.underlying27 rfl size27 ?_)
                      | (go_at_call 45; go_must (refine (insertR_any wq u5 (compF I (pairsOf (I.take i) ++ (kinds x).take (k - 1))) (⟨(k : Int), sa, T, false, x.cls, pv, x.cond⟩ : ARule) HOW.out HRO.out (fun r hr => (HCI.out.rule r hr).ok) HOL.out).mono ?_; rintro e w9 ⟨v9, rfl, hs9, hb9⟩; have HS9 := Lib.hid hs9; have HB9 := Lib.hid (HBW.out.trans (hb9.mono HBW.out.size)); clear hs9 hb9)))
                    go_roundw
                    case rel => exact ⟨k + 1, by omega, by omega, by go_num, by rw [HPL.out, ← List.append_assoc]; unfold OutC; rw [compF_snoc]; unfold compStep; rw [if_neg (by rw [← HPV.out]; exact HZ.out), ← HCD.out]; exact HS9.out, HB9.out⟩
                    case measure => simp [intOf]; omega
            · obtain rfl : k = 4 := by omega
              have HX := Lib.hid (show OutC I (pairsOf (I.take (i + 1))) u5 wz by
                have h := HOZ.out
                rw [kinds_all] at h
                rw [pairsOf_next HXI.out]
                exact h)
              go_wp2_with fail
              go_roundw
              case rel => exact ⟨i + 1, by omega, by go_num, HX.out, HBZ.out⟩
              case measure => simp [intOf]; omega
        · obtain rfl : i = m := by omega
          go_wp2_with fail
          go_ret
          refine ⟨_, rfl, ?_, HBI.out.trans (HBY.out.mono HBI.out.size)⟩
          have h := HOY.out
          rw [HM.out, List.take_length] at h
          rw [← HEI.out]
          exact h
end Go.Proofs.YtmkfabdkadocdaaDoor

import Derived.Test.YtcdhjcjdphnleaaZH
/-
  The reference's operations are those of the abstract cache.
-/
namespace Go.Proofs.Ytcdhjcjdphnleaa
open Go Go.WideMaps Go.RowKit

theorem place_list : ∀ {D : List (Key × Dec)} {k : Key} {d : Dec}, (D.map Prod.fst).Nodup → (k, d) ∈ D → ∃ q : Nat, place (D.map Prod.fst) k = (q : Int) ∧ D[q]? = some (k, d) ∧ rest D k = D.eraseIdx q
  | [], _, _, _, h => by cases h
  | p :: D, k, d, hn, hm => by
    have hin : k ∈ (p :: D).map Prod.fst := List.mem_map.2 ⟨(k, d), hm, rfl⟩
    rw [place_in hin]
    have hn' := List.nodup_cons.1 (by simpa using hn : (p.1 :: D.map Prod.fst).Nodup)
    by_cases hp : p.1 = k
    · have hpd : p = (k, d) := by
        rcases List.mem_cons.1 hm with h | h
        · exact h.symm
        · exact absurd (List.mem_map.2 ⟨(k, d), h, rfl⟩) (by rw [← hp]; exact hn'.1)
      subst hpd
      refine ⟨0, by simp, rfl, ?_⟩
      have h0 : rest D k = D := rest_none fun p hp e => hn'.1 (List.mem_map.2 ⟨p, hp, e⟩)
      simp only [List.eraseIdx_zero, List.tail_cons]
      refine Eq.trans ?_ h0
      unfold rest
      simp
    · have hm' : (k, d) ∈ D := by
        rcases List.mem_cons.1 hm with h | h
        · exact absurd (by rw [← h]) hp
        · exact h
      obtain ⟨q, h1, h2, h3⟩ := place_list hn'.2 hm'
      rw [place_in (List.mem_map.2 ⟨(k, d), hm', rfl⟩)] at h1
      refine ⟨q + 1, ?_, by simpa using h2, ?_⟩
      · rw [List.map_cons, List.idxOf_cons, show (p.1 == k) = false by simpa using hp, cond_false]
        show ((List.idxOf k (List.map Prod.fst D) + 1 : Nat) : Int) = ((q + 1 : Nat) : Int)
        exact congrArg (fun n : Nat => ((n + 1 : Nat) : Int)) (Int.ofNat.inj h1)
      · rw [List.eraseIdx_cons_succ, ← h3]
        unfold rest
        simp [hp]

/-- What a slice of the reference may be afterwards: as before, or new. -/
def NewIn (n : Nat) (w : World) (v : Value) : Prop := ∀ g, v.ownBlock = some g → n ≤ g ∧ g < w.heap.size
structure Fresh2 (n : Nat) (w : World) (kv dv : Value) : Prop where
  k : NewIn n w kv
  d : NewIn n w dv
  tk : TyRow w 41 kv
  td : TyRow w 46 dv
def Fresh (n : Nat) (w : World) (kv dv kv' dv' : Value) : Prop := (kv' = kv ∧ dv' = dv) ∨ Fresh2 n w kv' dv'
theorem Fresh.keep {n m : Nat} {w w' : World} {kv dv kv' dv' : Value} (h : Fresh n w kv dv kv' dv') (hb : Below w.heap.size w w') (hm : m ≤ n) : Fresh m w' kv dv kv' dv' :=
  h.imp id fun h => ⟨fun g e => ⟨Nat.le_trans hm (h.k g e).1, Nat.lt_of_lt_of_le (h.k g e).2 hb.size⟩, fun g e => ⟨Nat.le_trans hm (h.d g e).1, Nat.lt_of_lt_of_le (h.d g e).2 hb.size⟩, h.tk.keep hb, h.td.keep hb⟩
theorem Fresh.sto {n : Nat} {w w' : World} {b : Nat} {cs : Array Value} {kv dv kv' dv' : Value} (h : Fresh n w kv dv kv' dv') (hs : Sto w w' b) (hw : Whole w b 29 cs) : Fresh n w' kv dv kv' dv' :=
  h.imp id fun h => ⟨fun g e => ⟨(h.k g e).1, by rw [hs.size]; exact (h.k g e).2⟩, fun g e => ⟨(h.d g e).1, by rw [hs.size]; exact (h.d g e).2⟩, h.tk.sto hs (h.tk.far hw (by decide)), h.td.sto hs (h.td.far hw (by decide))⟩
/-- A block of the state's type, not of what stands aside, is none of these. -/
theorem Fresh.far {n : Nat} {w : World} {b : Nat} {cs : Array Value} {kv dv kv' dv' : Value} (h : Fresh n w kv dv kv' dv') (hw : Whole w b 29 cs) (hk : kv.ownBlock ≠ some b) (hd : dv.ownBlock ≠ some b) : kv'.ownBlock ≠ some b ∧ dv'.ownBlock ≠ some b := by
  rcases h with ⟨rfl, rfl⟩ | h
  · exact ⟨hk, hd⟩
  · exact ⟨h.tk.far hw (by decide), h.td.far hw (by decide)⟩
theorem slice_lt {w : World} {v : Value} {k n : Nat} {cs : List Value} (h : SliceAt w v k n cs) (hk : 0 < k) (hn : 0 < n) : ∀ g, v.ownBlock = some g → g < w.heap.size := by
  intro g hg
  obtain ⟨h1, h2, h3, ⟨h4, h5⟩ | ⟨a, c, rfl, h5, h6⟩⟩ := h
  · omega
  · have hl : 0 < cs.length := by rw [h1]; exact Nat.mul_pos hn hk
    have h7 := h6 0 _ (List.getElem?_eq_getElem hl)
    have e : a.block = g := by simpa [Value.ownBlock] using hg
    obtain ⟨b, off, rfl⟩ := spot_none h7
    simp only at e
    subst e
    rw [Addr.add_lit] at h7
    by_cases hb : b < w.heap.size
    · exact hb
    · have : w.heap[b]? = none := Array.getElem?_eq_none (by omega)
      simp [World.cell?, this] at h7
theorem RefAt.newIn {w w' : World} {kv dv : Value} {s : St} (h : RefAt w' kv dv s) (hne : 0 < s.D.length) (hk : NewRow w.heap.size kv) (hd : NewRow w.heap.size dv) (tk : TyRow w' 41 kv) (td : TyRow w' 46 dv) : Fresh2 w.heap.size w' kv dv :=
  ⟨fun g e => ⟨hk g e, slice_lt h.keys (by decide) hne g e⟩, fun g e => ⟨hd g e, slice_lt h.decs (by decide) hne g e⟩, tk, td⟩
theorem cnt_none {s : St} {k : Key} (h : s.get k = none) : place s.keys k = -1 := place_out fun hm => by
  obtain ⟨p, hp, e⟩ := List.mem_map.1 hm
  exact get_none h p hp e

theorem refFind_l (w : World) (s t : St) (kv dv : Value) (k : Key) (d : Dec) (b : Bool) (hd : s.dec k = d) (hb : s.has k = b) (ht : s.find k = t) (h : RefAt w kv dv s) (hok : s.Ok) (hc : s.Cnt 1000000) :
    Calls Try.prog 27 #[.agg #[.int .i64 s.size, .int .i64 s.seq, kv, dv, .int .i64 s.h, .int .i64 s.m, .int .i64 s.e, .int .i64 s.r], .int .i64 k.a, .int .i64 k.b, .int .i64 k.c] w fun e w' => ∃ kv' dv', e = .returned (.tuple #[.agg #[.int .i64 t.size, .int .i64 t.seq, kv', dv', .int .i64 t.h, .int .i64 t.m, .int .i64 t.e, .int .i64 t.r], .agg #[.int .u32 d.allowed, .int .u32 d.auditAllow, .int .u32 d.auditDeny, .bool d.permissive, .int .i64 d.seq], .bool b]) ∧ RefAt w' kv' dv' t ∧ Fresh w.heap.size w' kv dv kv' dv' ∧ Below w.heap.size w w' := by
  have hlen : s.D.length ≤ 2000 := by have := hok.len; have := hok.hi; omega
  subst hd hb ht
  unfold St.find St.dec St.has
  cases hg : s.get k with
  | none =>
    refine (refFind_miss w s kv dv k h hc (cnt_none hg)).mono ?_
    rintro e w' ⟨rfl, hb⟩
    exact ⟨kv, dv, rfl, ⟨h.keys.keep hb, h.decs.keep hb⟩, .inl ⟨rfl, rfl⟩, hb⟩
  | some d =>
    obtain ⟨q, h1, h2, h3⟩ := place_list hok.nodup (get_mem hg)
    refine (refFind_hit w s kv dv k d q h hlen hc h1 h2).mono ?_
    rintro e w' ⟨kv', dv', rfl, hr, hnk, hnd, t1, t2, hb⟩
    have hr' : RefAt w' kv' dv' (s.hit k d) := by
      have hD : (s.hit k d).D = (k, d) :: s.D.eraseIdx q := by rw [← h3]; rfl
      refine ⟨?_, ?_⟩
      · have := hr.keys
        unfold St.keys at this ⊢
        rw [hD]; exact this
      · rw [hD]; exact hr.decs
    exact ⟨kv', dv', rfl, hr', .inr (hr.newIn (by simp) hnk hnd t1 t2), hb⟩

theorem refInsert_l (w : World) (s t : St) (kv dv : Value) (k : Key) (d : Dec) (x : Int) (hx : s.insErr d = x) (ht : s.insert k d = t) (h : RefAt w kv dv s) (hok : s.Ok) (hc : s.Cnt 1000000) :
    Calls Try.prog 28 #[.agg #[.int .i64 s.size, .int .i64 s.seq, kv, dv, .int .i64 s.h, .int .i64 s.m, .int .i64 s.e, .int .i64 s.r], .int .i64 k.a, .int .i64 k.b, .int .i64 k.c, .agg #[.int .u32 d.allowed, .int .u32 d.auditAllow, .int .u32 d.auditDeny, .bool d.permissive, .int .i64 d.seq]] w fun e w' => ∃ kv' dv', e = .returned (.tuple #[.agg #[.int .i64 t.size, .int .i64 t.seq, kv', dv', .int .i64 t.h, .int .i64 t.m, .int .i64 t.e, .int .i64 t.r], .int .i64 x]) ∧ RefAt w' kv' dv' t ∧ Fresh w.heap.size w' kv dv kv' dv' ∧ Below w.heap.size w w' := by
  have hlen : s.D.length ≤ 2000 := by have := hok.len; have := hok.hi; omega
  have turn : ∀ {u v : St} {w' : World} {kv' dv' : Value}, u.D = v.D → RefAt w' kv' dv' u → RefAt w' kv' dv' v := fun {u v w' kv' dv'} hD hr => by
    refine ⟨?_, ?_⟩
    · have := hr.keys
      unfold St.keys at this ⊢
      rw [← hD]; exact this
    · rw [← hD]; exact hr.decs
  subst hx ht
  unfold St.insert St.insErr
  by_cases hst : d.seq < s.seq
  · rw [if_pos hst, if_pos hst]
    refine (refInsert_stale w s kv dv k d h hst).mono ?_
    rintro e w' ⟨rfl, hb⟩
    exact ⟨kv, dv, rfl, ⟨h.keys.keep hb, h.decs.keep hb⟩, .inl ⟨rfl, rfl⟩, hb⟩
  · rw [if_neg hst, if_neg hst]
    cases hg : s.get k with
    | some d0 =>
      obtain ⟨q, h1, h2, h3⟩ := place_list hok.nodup (get_mem hg)
      refine (refInsert_old w s kv dv k d h hlen hst q h1 (List.getElem?_eq_some_iff.1 h2).1).mono ?_
      rintro e w' ⟨kv', dv', rfl, hr, hnk, hnd, t1, t2, hb⟩
      exact ⟨kv', dv', rfl, turn (by rw [← h3]; rfl) hr, .inr (hr.newIn (by simp) hnk hnd t1 t2), hb⟩
    | none =>
      by_cases hf : s.full = true
      · have hf' : s.size ≤ (s.D.length : Int) := of_decide_eq_true hf
        have hlo := hok.lo
        have hle := hok.len
        simp only [hf, if_true]
        refine (refInsert_evict w s kv dv k d h hlen hst (s.D.length - 1) (cnt_none hg) (by omega) (by omega) hc.e0 hc.e1).mono ?_
        rintro e w' ⟨kv', dv', rfl, hr, hnk, hnd, t1, t2, hb⟩
        refine ⟨kv', dv', rfl, turn ?_ hr, .inr (hr.newIn (by simp) hnk hnd t1 t2), hb⟩
        show (k, d) :: s.D.eraseIdx (s.D.length - 1) = (k, d) :: rest s.D.dropLast k
        rw [rest_none fun p hp => get_none hg p (List.dropLast_subset _ hp), List.eraseIdx_eq_take_drop_succ, List.dropLast_eq_take, List.drop_of_length_le (by omega), List.append_nil]
      · have hf' : ¬ s.size ≤ (s.D.length : Int) := fun h => hf (decide_eq_true h)
        simp only [hf]
        refine (refInsert_new w s kv dv k d h hlen hst (cnt_none hg) (by omega)).mono ?_
        rintro e w' ⟨kv', dv', rfl, hr, hnk, hnd, t1, t2, hb⟩
        refine ⟨kv', dv', rfl, turn ?_ hr, .inr (hr.newIn (by simp) hnk hnd t1 t2), hb⟩
        show (k, d) :: s.D = (k, d) :: rest s.D k
        rw [rest_none (get_none hg)]

theorem refReset_l (w : World) (s t : St) (kv dv : Value) (n x : Int) (hx : s.resErr n = x) (ht : s.resets n = t) (h : RefAt w kv dv s) (hc : s.Cnt 1000000) :
    Calls Try.prog 29 #[.agg #[.int .i64 s.size, .int .i64 s.seq, kv, dv, .int .i64 s.h, .int .i64 s.m, .int .i64 s.e, .int .i64 s.r], .int .i64 n] w fun e w' => ∃ kv' dv', e = .returned (.tuple #[.agg #[.int .i64 t.size, .int .i64 t.seq, kv', dv', .int .i64 t.h, .int .i64 t.m, .int .i64 t.e, .int .i64 t.r], .int .i64 x]) ∧ RefAt w' kv' dv' t ∧ Fresh w.heap.size w' kv dv kv' dv' ∧ Below w.heap.size w w' := by
  obtain ⟨ka, kc, rfl, -⟩ := h.keys.form (by decide)
  obtain ⟨da, dc, rfl, -⟩ := h.decs.form (by decide)
  subst hx ht
  unfold St.resets St.resErr
  by_cases hst : n < s.seq
  · rw [if_pos hst, if_pos hst]
    refine (refReset_stale w s ka da kc dc n hst).mono ?_
    rintro e w' ⟨rfl, hb⟩
    exact ⟨_, _, rfl, ⟨h.keys.keep hb, h.decs.keep hb⟩, .inl ⟨rfl, rfl⟩, hb⟩
  · rw [if_neg hst, if_neg hst]
    refine (refReset_yes w s ka da kc dc n hst hc.r0 hc.r1).mono ?_
    rintro e w' ⟨rfl, hb⟩
    exact ⟨_, _, rfl, ⟨SliceAt.nil _ _, SliceAt.nil _ _⟩, .inr ⟨fun g e => (by cases e), fun g e => (by cases e), fun g e => (by cases e), fun g e => (by cases e)⟩, hb⟩

/-! ### The cache's, in letters -/
section
variable {X : Nat → Prop} {B : Nat} {w0 w w' : World} {cb : Nat} {s : St} {cs : List (Nat × St)}
theorem find_l (t : St) (k : Key) (d : Dec) (b : Bool) (hd : s.dec k = d) (hb : s.has k = b) (ht : s.find k = t) (h : Many X B w0 w [(cb, s)]) (hc : s.Cnt 1000000) (hk : k.ok) :
    Calls Try.prog 21 #[.pointer (some ⟨cb, 0, none⟩), .int .i64 k.a, .int .i64 k.b, .int .i64 k.c] w fun e w' => e = .returned (.tuple #[.agg #[.int .u32 d.allowed, .int .u32 d.auditAllow, .int .u32 d.auditDeny, .bool d.permissive, .int .i64 d.seq], .bool b]) ∧ Many X B w0 w' [(cb, t)] ∧ Aft X w w' := by
  subst hd hb ht
  exact find_m 0 k h rfl hc hk
theorem insert_l (t : St) (k : Key) (d : Dec) (x : Int) (hx : s.insErr d = x) (ht : s.insert k d = t) (h : Many X B w0 w [(cb, s)]) (hc : s.Cnt 1000000) (hk : k.ok) :
    Calls Try.prog 22 #[.pointer (some ⟨cb, 0, none⟩), .int .i64 k.a, .int .i64 k.b, .int .i64 k.c, .agg #[.int .u32 d.allowed, .int .u32 d.auditAllow, .int .u32 d.auditDeny, .bool d.permissive, .int .i64 d.seq]] w fun e w' => e = .returned (.int .i64 x) ∧ Many X B w0 w' [(cb, t)] ∧ Aft X w w' := by
  subst hx ht
  exact insert_m 0 k d h rfl hc hk
theorem reset_l (t : St) (n x : Int) (hx : s.resErr n = x) (ht : s.resets n = t) (h : Many X B w0 w [(cb, s)]) (hc : s.Cnt 1000000) :
    Calls Try.prog 26 #[.pointer (some ⟨cb, 0, none⟩), .int .i64 n] w fun e w' => e = .returned (.int .i64 x) ∧ Many X B w0 w' [(cb, t)] ∧ Aft X w w' := by
  subst hx ht
  exact reset_m 0 n h rfl hc
def XR (kv dv : Value) (Y : Nat → Prop) : Nat → Prop := fun i => Y i ∨ kv.ownBlock = some i ∨ dv.ownBlock = some i
theorem Many.less {Y : Nat → Prop} (h : Many X B w0 w cs) (hY : ∀ i, Y i → X i) : Many Y B w0 w cs := h.other (Below.refl _ _) fun i hi => .inl (hY i hi)
theorem Aft.less {Y : Nat → Prop} (h : Aft X w w') (hY : ∀ i, Y i → X i) : Aft Y w w' := ⟨h.size, fun i hi => h.block i (hY i hi)⟩
theorem Many.fresh {kv dv kv' dv' : Value} (h : Many X B w0 w cs) (hk : ∀ i, kv.ownBlock = some i → X i) (hd : ∀ i, dv.ownBlock = some i → X i) (hf : Fresh w.heap.size w' kv dv kv' dv') (hb : Below w.heap.size w w') : Many (XR kv' dv' X) B w0 w' cs :=
  h.other hb fun i hi => by
    rcases hi with h1 | h1 | h1
    · exact .inl h1
    · rcases hf with ⟨rfl, rfl⟩ | h2
      · exact .inl (hk i h1)
      · exact .inr (h2.k i h1)
    · rcases hf with ⟨rfl, rfl⟩ | h2
      · exact .inl (hd i h1)
      · exact .inr (h2.d i h1)
theorem SliceAt.aft {v : Value} {k n : Nat} {cs : List Value} (h : SliceAt w v k n cs) (ha : Aft X w w') (hx : ∀ g, v.ownBlock = some g → X g) : SliceAt w' v k n cs :=
  ⟨h.1, h.2.1, h.2.2.1, h.2.2.2.imp id fun ⟨a, c, hv, hn, hc⟩ => ⟨a, c, hv, hn, fun j u hj => by
    rw [World.cell?_of_block (ha.block _ (by rw [block_add]; exact hx _ (by rw [hv]; rfl)))]; exact hc j u hj⟩⟩
theorem RefAt.aft {kv dv : Value} (h : RefAt w kv dv s) (ha : Aft X w w') (hk : ∀ g, kv.ownBlock = Option.some g → X g) (hd : ∀ g, dv.ownBlock = Option.some g → X g) : RefAt w' kv dv s := ⟨h.keys.aft ha hk, h.decs.aft ha hd⟩
end
end Go.Proofs.Ytcdhjcjdphnleaa

import Derived.Test.YtcdhjcjdphnleaaP8
namespace Go.Proofs.Ytcdhjcjdphnleaa
open Go Go.WideMaps Go.RowKit

theorem play_size (s : St) (o : Opn) : (s.play o).size = s.size := by
  unfold St.play
  split
  · unfold St.find; split <;> rfl
  · split
    · unfold St.insert; split
      · rfl
      · split
        · rfl
        · split <;> rfl
    · unfold St.resets; split <;> rfl
theorem play_finds (s : St) (o : Opn) : (s.play o).h + (s.play o).m = s.h + s.m + if o.kind % 3 = 0 then 1 else 0 := by
  unfold St.play
  split
  · rename_i h
    unfold St.find; split
    · show s.h + (s.m + 1) = _; omega
    · show (s.h + 1) + s.m = _; omega
  · rename_i h
    split
    · have : (s.insert o.key o.dec).h = s.h ∧ (s.insert o.key o.dec).m = s.m := by
        unfold St.insert; split
        · exact ⟨rfl, rfl⟩
        · split
          · exact ⟨rfl, rfl⟩
          · split <;> exact ⟨rfl, rfl⟩
      rw [this.1, this.2]; omega
    · have : (s.resets o.seq).h = s.h ∧ (s.resets o.seq).m = s.m := by
        unfold St.resets; split <;> exact ⟨rfl, rfl⟩
      rw [this.1, this.2]; omega

set_option maxRecDepth 100000 in
theorem bound_lo (w : World) (n : Int) (a : Option Addr) (c : Nat) (l : List Opn) (h : n < 1) : Calls Try.prog 4 #[.int .i64 n, .slice a l.length c] w fun e w' => e = .returned (.bool true) ∧ Below w.heap.size w w' := by
  go_enter Try.func4, Try.ntmps4
  go_wp2_with (go_at_call 10; go_must (refine (awake_any _).mono ?_; rintro e w9 ⟨rfl, hb⟩; have HB9 := Lib.hid hb; clear hb))
  go_ret
  exact ⟨rfl, HB9.out⟩

set_option maxRecDepth 100000 in
theorem bound_hi (w : World) (n : Int) (a : Option Addr) (c : Nat) (l : List Opn) (h0 : 1 ≤ n) (h : 20 < n) : Calls Try.prog 4 #[.int .i64 n, .slice a l.length c] w fun e w' => e = .returned (.bool true) ∧ Below w.heap.size w w' := by
  go_enter Try.func4, Try.ntmps4
  go_wp2_with (go_at_call 10; go_must (refine (awake_any _).mono ?_; rintro e w9 ⟨rfl, hb⟩; have HB9 := Lib.hid hb; clear hb))
  go_ret
  exact ⟨rfl, HB9.out⟩

set_option maxRecDepth 100000 in
theorem bound_l (w : World) (n : Int) (a : Option Addr) (c : Nat) (l : List Opn) (h0 : 1 ≤ n) (h1 : n ≤ 20) (h : 60 < l.length) : Calls Try.prog 4 #[.int .i64 n, .slice a l.length c] w fun e w' => e = .returned (.bool true) ∧ Below w.heap.size w w' := by
  have h' : (60 : Int) < (l.length : Int) := by omega
  clear h
  go_enter Try.func4, Try.ntmps4
  go_wp2_with (go_at_call 10; go_must (refine (awake_any _).mono ?_; rintro e w9 ⟨rfl, hb⟩; have HB9 := Lib.hid hb; clear hb))
  go_ret
  exact ⟨rfl, HB9.out⟩

theorem int_eq {k : IntKind} {a b : Int} (h : a = b) : Value.int k a = .int k b := by rw [h]
set_option maxRecDepth 100000 in
set_option maxHeartbeats 4000000 in
theorem bound_main (w : World) (n : Int) (a : Option Addr) (c : Nat) (l : List Opn) (h0 : 1 ≤ n) (h1 : n ≤ 20) (h2 : l.length ≤ 60) (hw : ∀ o ∈ l, o.Wf)
    (H1 : Hid (∀ i y, l[i]? = some y → ∃ b off, a = some ⟨b, off, none⟩ ∧ ∀ wr, Below w.heap.size w wr → wr.cell? ⟨b, off + i * 6, none⟩ = some (.int .u8 y.kind) ∧ wr.cell? ⟨b, off + i * 6 + 1, none⟩ = some (.int .i64 y.src) ∧ wr.cell? ⟨b, off + i * 6 + 2, none⟩ = some (.int .i64 y.tgt) ∧ wr.cell? ⟨b, off + i * 6 + 3, none⟩ = some (.int .i64 y.cls) ∧ wr.cell? ⟨b, off + i * 6 + 4, none⟩ = some (.int .u32 y.allowed) ∧ wr.cell? ⟨b, off + i * 6 + 5, none⟩ = some (.int .i64 y.seq))) :
    Calls Try.prog 4 #[.int .i64 n, .slice a l.length c] w fun e w' => e = .returned (.bool true) ∧ Below w.heap.size w w' := by
  have HW1 := Lib.hid hw
  clear hw
  have hl : (l.length : Int) ≤ 60 := by omega
  have HM0 := Lib.hid (Many.start (X := fun _ => False) w w.heap.size (Nat.le_refl _) (fun _ h => h.elim))
  go_enter Try.func4, Try.ntmps4
  go_wp2_with fail
  refine (new_m n HM0.out h0 (by omega)).mono ?_
  rintro e w1 ⟨cb, rfl, hm, -⟩
  have HM1 := Lib.hid (show Many (fun _ => False) w.heap.size w w1 [(cb, fresh n)] from hm)
  clear hm
  go_wp2_with fail
  go_loopw [6, 7] (fun f i wr => ∃ (m : Nat) (s : St), m ≤ l.length ∧ i = .int .i64 m ∧ Many (fun _ => False) w.heap.size w wr [(cb, s)] ∧ s.Cnt m ∧ s.size = n ∧ f = .int .i64 (s.h + s.m)) (fun _ i _ => l.length - (intOf i).toNat)
  case atStart => exact ⟨0, fresh n, Nat.zero_le _, rfl, HM1.out, cnt_fresh n, rfl, rfl⟩
  case round =>
    obtain ⟨m, s, hm, rfl, hM, hC, hsz, rfl⟩ := hrel
    have HM := Lib.hid hM
    have HC := Lib.hid hC
    have HSZ := Lib.hid hsz
    have b0 := hC.h0
    have b1 := hC.m0
    have b2 := hC.h1
    have b3 := hC.m1
    clear hM hC hsz
    by_cases hlt : m < l.length
    · obtain ⟨y, hy⟩ : ∃ y, l[m]? = some y := ⟨_, List.getElem?_eq_getElem hlt⟩
      obtain ⟨b, off, rfl, hcell⟩ := H1.out m y hy
      have HCE := Lib.hid hcell
      have HWY := Lib.hid (HW1.out y (List.mem_of_getElem? hy))
      have hk0 := HWY.out.kind.1
      have hk1 := HWY.out.kind.2
      have b4 : s.h ≤ 60 := by omega
      have b5 : s.m ≤ 60 := by omega
      clear hcell hy b2 b3
      by_cases hkk : y.kind % 3 = 0
      · have HKK := Lib.hid hkk
        obtain ⟨k0, k1, k2, k3, k4, k5⟩ := HCE.out wr HM.out.below
        go_wp2_with fail
        clear k0 k1 k2 k3 k4 k5
        obtain ⟨k0, k1, k2, k3, k4, k5⟩ := HCE.out wr HM.out.below
        refine (play_m (fun _ => False) _ w w.heap.size 0 _ cb s y HM.out rfl (HC.out.mono (by omega)) HWY.out).mono ?_
        rintro e w5 ⟨rfl, hm5, -⟩
        have HM5 := Lib.hid (show Many (fun _ => False) w.heap.size w w5 [(cb, s.play y)] from hm5)
        clear hm5 k0 k1 k2 k3 k4 k5
        go_wp2_with fail
        refine (keys_m 0 HM5.out rfl).mono ?_
        rintro e wk ⟨v, rfl, hk, -, hm, -⟩
        obtain ⟨ka, kc, hv, hkc, hkm, HKC⟩ := (keys_slice hk).form (by decide)
        have HOK := Lib.hid (hm.ok (j := 0) rfl)
        have HMK := Lib.hid hm
        clear hm hk
        have hkl : (s.play y).keys.length = (s.play y).D.length := by simp [St.keys]
        rw [hkl] at hv hkc hkm HKC
        subst hv
        have HKS := Lib.hid HKC
        clear HKC hkl
        have hle : ((s.play y).D.length : Int) ≤ n := by have h1 := HOK.out.len; have h2 := play_size s y; have h3 := HSZ.out; rw [h2, h3] at h1; exact h1
        go_wp2_with (go_at_call 17; go_must (refine (len_m 0 HMK.out rfl).mono ?_; rintro e w' ⟨rfl, rfl⟩))
        obtain ⟨L, hL⟩ : ∃ L, L = (s.play y).D.length := ⟨_, rfl⟩
        rw [← hL] at hkc hkm hle ⊢
        have HL := Lib.hid hL
        clear hL
        go_loopw [9] (fun i wr2 => ∃ p : Nat, p ≤ L ∧ i = .int .i64 p ∧ Below wk.heap.size wk wr2) (fun i _ => L - (intOf i).toNat)
        case atStart => exact ⟨0, Nat.zero_le _, rfl, Below.refl _ _⟩
        case round =>
          obtain ⟨p, hp, rfl, hb2⟩ := hrel
          have HB2 := Lib.hid hb2
          clear hb2
          by_cases hpl : p < L
          · go_wp2_with fail
            go_loopw [10] (fun i wr3 => ∃ q : Nat, q ≤ p ∧ i = .int .i64 q ∧ Below wk.heap.size wk wr3) (fun i _ => p - (intOf i).toNat)
            case atStart => exact ⟨0, Nat.zero_le _, rfl, HB2.out⟩
            case round =>
              obtain ⟨q, hq, rfl, hb3⟩ := hrel
              have HB3 := Lib.hid hb3
              clear hb3
              by_cases hqp : q < p
              · obtain ⟨yp, hyp⟩ : ∃ yp, (s.play y).keys[p]? = some yp := ⟨_, List.getElem?_eq_getElem (by have := HL.out; simp [St.keys]; omega)⟩
                obtain ⟨yq, hyq⟩ : ∃ yq, (s.play y).keys[q]? = some yq := ⟨_, List.getElem?_eq_getElem (by have := HL.out; simp [St.keys]; omega)⟩
                have hne : yp ≠ yq := fun e => by
                  have h1 := (List.getElem?_eq_some_iff.1 hyp)
                  have h2 := (List.getElem?_eq_some_iff.1 hyq)
                  have := (List.nodup_iff_pairwise_ne.1 HOK.out.nodup)
                  have h3 := List.pairwise_iff_getElem.1 this q p h2.1 h1.1 hqp
                  exact h3 (h2.2.trans (e.symm.trans h1.2.symm))
                obtain ⟨bp, op, hbp, hcp⟩ := HKS.out p (by have := HL.out; omega)
                obtain ⟨bq, oq, hbq, hcq⟩ := HKS.out q (by have := HL.out; omega)
                subst hbp
                cases hbq
                have keyp : ∀ j, j < 3 → (flat (s.play y).keys)[p * 3 + j]? = yp.cells[j]? := fun j hj => flat_at (f := Key.cells) cells_len hyp j hj
                have keyq : ∀ j, j < 3 → (flat (s.play y).keys)[q * 3 + j]? = yq.cells[j]? := fun j hj => flat_at (f := Key.cells) cells_len hyq j hj
                have c0 : wr.cell? ⟨bp, op + p * 3, none⟩ = some (.int .i64 yp.a) := cell_later HB3.out (hcp 0 _ (keyp 0 (by omega)))
                have c1 : wr.cell? ⟨bp, op + p * 3 + 1, none⟩ = some (.int .i64 yp.b) := cell_later HB3.out (hcp 1 _ (keyp 1 (by omega)))
                have c2 : wr.cell? ⟨bp, op + p * 3 + 2, none⟩ = some (.int .i64 yp.c) := cell_later HB3.out (hcp 2 _ (keyp 2 (by omega)))
                have d0 : wr.cell? ⟨bp, op + q * 3, none⟩ = some (.int .i64 yq.a) := cell_later HB3.out (hcq 0 _ (keyq 0 (by omega)))
                have d1 : wr.cell? ⟨bp, op + q * 3 + 1, none⟩ = some (.int .i64 yq.b) := cell_later HB3.out (hcq 1 _ (keyq 1 (by omega)))
                have d2 : wr.cell? ⟨bp, op + q * 3 + 2, none⟩ = some (.int .i64 yq.c) := cell_later HB3.out (hcq 2 _ (keyq 2 (by omega)))
                have qe : ∀ W : World, (Op.equalIn 10000 41 (.agg #[.int .i64 yp.a, .int .i64 yp.b, .int .i64 yp.c]) (.agg #[.int .i64 yq.a, .int .i64 yq.b, .int .i64 yq.c])).run Try.prog W = .ok false W := fun W => by rw [eq_key]; simp [hne]
                clear keyp keyq hcp hcq hyp hyq hne
                go_wp2
                go_quiet (fail)
                go_wp2
                go_roundw
                case rel => exact ⟨q + 1, by omega, by go_num, below_drewN HB3.out _⟩
                case measure => simp [intOf]; omega
              · obtain rfl : q = p := by omega
                go_wp2
                go_roundw
                case rel => exact ⟨q + 1, by omega, by go_num, HB3.out⟩
                case measure => simp [intOf]; omega
          · obtain rfl : p = L := by omega
            go_wp2
            go_roundw
            case rel => exact ⟨m + 1, s.play y, by omega, by go_num, (HMK.out.under HB2.out), (cnt_play HC.out y).mono (by omega), by rw [play_size]; exact HSZ.out, int_eq (by have h := play_finds s y; rw [if_pos HKK.out] at h; rw [h])⟩
            case measure => simp [intOf]; omega
      · have HKK := Lib.hid hkk
        obtain ⟨k0, k1, k2, k3, k4, k5⟩ := HCE.out wr HM.out.below
        go_wp2_with fail
        clear k0 k1 k2 k3 k4 k5
        obtain ⟨k0, k1, k2, k3, k4, k5⟩ := HCE.out wr HM.out.below
        refine (play_m (fun _ => False) _ w w.heap.size 0 _ cb s y HM.out rfl (HC.out.mono (by omega)) HWY.out).mono ?_
        rintro e w5 ⟨rfl, hm5, -⟩
        have HM5 := Lib.hid (show Many (fun _ => False) w.heap.size w w5 [(cb, s.play y)] from hm5)
        clear hm5 k0 k1 k2 k3 k4 k5
        go_wp2_with fail
        refine (keys_m 0 HM5.out rfl).mono ?_
        rintro e wk ⟨v, rfl, hk, -, hm, -⟩
        obtain ⟨ka, kc, hv, hkc, hkm, HKC⟩ := (keys_slice hk).form (by decide)
        have HOK := Lib.hid (hm.ok (j := 0) rfl)
        have HMK := Lib.hid hm
        clear hm hk
        have hkl : (s.play y).keys.length = (s.play y).D.length := by simp [St.keys]
        rw [hkl] at hv hkc hkm HKC
        subst hv
        have HKS := Lib.hid HKC
        clear HKC hkl
        have hle : ((s.play y).D.length : Int) ≤ n := by have h1 := HOK.out.len; have h2 := play_size s y; have h3 := HSZ.out; rw [h2, h3] at h1; exact h1
        go_wp2_with (go_at_call 17; go_must (refine (len_m 0 HMK.out rfl).mono ?_; rintro e w' ⟨rfl, rfl⟩))
        obtain ⟨L, hL⟩ : ∃ L, L = (s.play y).D.length := ⟨_, rfl⟩
        rw [← hL] at hkc hkm hle ⊢
        have HL := Lib.hid hL
        clear hL
        go_loopw [9] (fun i wr2 => ∃ p : Nat, p ≤ L ∧ i = .int .i64 p ∧ Below wk.heap.size wk wr2) (fun i _ => L - (intOf i).toNat)
        case atStart => exact ⟨0, Nat.zero_le _, rfl, Below.refl _ _⟩
        case round =>
          obtain ⟨p, hp, rfl, hb2⟩ := hrel
          have HB2 := Lib.hid hb2
          clear hb2
          by_cases hpl : p < L
          · go_wp2_with fail
            go_loopw [10] (fun i wr3 => ∃ q : Nat, q ≤ p ∧ i = .int .i64 q ∧ Below wk.heap.size wk wr3) (fun i _ => p - (intOf i).toNat)
            case atStart => exact ⟨0, Nat.zero_le _, rfl, HB2.out⟩
            case round =>
              obtain ⟨q, hq, rfl, hb3⟩ := hrel
              have HB3 := Lib.hid hb3
              clear hb3
              by_cases hqp : q < p
              · obtain ⟨yp, hyp⟩ : ∃ yp, (s.play y).keys[p]? = some yp := ⟨_, List.getElem?_eq_getElem (by have := HL.out; simp [St.keys]; omega)⟩
                obtain ⟨yq, hyq⟩ : ∃ yq, (s.play y).keys[q]? = some yq := ⟨_, List.getElem?_eq_getElem (by have := HL.out; simp [St.keys]; omega)⟩
                have hne : yp ≠ yq := fun e => by
                  have h1 := (List.getElem?_eq_some_iff.1 hyp)
                  have h2 := (List.getElem?_eq_some_iff.1 hyq)
                  have := (List.nodup_iff_pairwise_ne.1 HOK.out.nodup)
                  have h3 := List.pairwise_iff_getElem.1 this q p h2.1 h1.1 hqp
                  exact h3 (h2.2.trans (e.symm.trans h1.2.symm))
                obtain ⟨bp, op, hbp, hcp⟩ := HKS.out p (by have := HL.out; omega)
                obtain ⟨bq, oq, hbq, hcq⟩ := HKS.out q (by have := HL.out; omega)
                subst hbp
                cases hbq
                have keyp : ∀ j, j < 3 → (flat (s.play y).keys)[p * 3 + j]? = yp.cells[j]? := fun j hj => flat_at (f := Key.cells) cells_len hyp j hj
                have keyq : ∀ j, j < 3 → (flat (s.play y).keys)[q * 3 + j]? = yq.cells[j]? := fun j hj => flat_at (f := Key.cells) cells_len hyq j hj
                have c0 : wr.cell? ⟨bp, op + p * 3, none⟩ = some (.int .i64 yp.a) := cell_later HB3.out (hcp 0 _ (keyp 0 (by omega)))
                have c1 : wr.cell? ⟨bp, op + p * 3 + 1, none⟩ = some (.int .i64 yp.b) := cell_later HB3.out (hcp 1 _ (keyp 1 (by omega)))
                have c2 : wr.cell? ⟨bp, op + p * 3 + 2, none⟩ = some (.int .i64 yp.c) := cell_later HB3.out (hcp 2 _ (keyp 2 (by omega)))
                have d0 : wr.cell? ⟨bp, op + q * 3, none⟩ = some (.int .i64 yq.a) := cell_later HB3.out (hcq 0 _ (keyq 0 (by omega)))
                have d1 : wr.cell? ⟨bp, op + q * 3 + 1, none⟩ = some (.int .i64 yq.b) := cell_later HB3.out (hcq 1 _ (keyq 1 (by omega)))
                have d2 : wr.cell? ⟨bp, op + q * 3 + 2, none⟩ = some (.int .i64 yq.c) := cell_later HB3.out (hcq 2 _ (keyq 2 (by omega)))
                have qe : ∀ W : World, (Op.equalIn 10000 41 (.agg #[.int .i64 yp.a, .int .i64 yp.b, .int .i64 yp.c]) (.agg #[.int .i64 yq.a, .int .i64 yq.b, .int .i64 yq.c])).run Try.prog W = .ok false W := fun W => by rw [eq_key]; simp [hne]
                clear keyp keyq hcp hcq hyp hyq hne
                go_wp2
                go_quiet (fail)
                go_wp2
                go_roundw
                case rel => exact ⟨q + 1, by omega, by go_num, below_drewN HB3.out _⟩
                case measure => simp [intOf]; omega
              · obtain rfl : q = p := by omega
                go_wp2
                go_roundw
                case rel => exact ⟨q + 1, by omega, by go_num, HB3.out⟩
                case measure => simp [intOf]; omega
          · obtain rfl : p = L := by omega
            go_wp2
            go_roundw
            case rel => exact ⟨m + 1, s.play y, by omega, by go_num, (HMK.out.under HB2.out), (cnt_play HC.out y).mono (by omega), by rw [play_size]; exact HSZ.out, int_eq (by have h := play_finds s y; rw [if_neg HKK.out] at h; rw [h]; omega)⟩
            case measure => simp [intOf]; omega
    · obtain rfl : m = l.length := by omega
      have b4 : s.h ≤ 60 := by omega
      have b5 : s.m ≤ 60 := by omega
      clear b2 b3
      go_wp2_with fail
      refine (stats_m 0 HM.out rfl).mono ?_
      rintro e w6 ⟨rfl, hm6, -⟩
      have HM6 := Lib.hid hm6
      clear hm6
      go_wp2_with (go_at_call 10; go_must (refine (awake_any _).mono ?_; rintro e w9 ⟨rfl, hb⟩; have HM9 := Lib.hid (HM6.out.under hb); clear hb))
      go_ret
      exact ⟨rfl, HM9.out.below⟩

theorem cacheBound_any (w : World) (n : Int) (v : Value) (l : List Opn) (hl : OpsAt w v l) (hw : ∀ o ∈ l, o.Wf) :
    Calls Try.prog 4 #[.int .i64 n, v] w fun e w' => e = .returned (.bool true) ∧ Below w.heap.size w w' := by
  obtain ⟨a, c, rfl, -, hm, H1⟩ := ops_form hl
  by_cases h0 : n < 1
  · exact bound_lo w n a c l h0
  by_cases h1 : 20 < n
  · exact bound_hi w n a c l (by omega) h1
  by_cases h2 : 60 < l.length
  · exact bound_l w n a c l (by omega) (by omega) h2
  exact bound_main w n a c l (by omega) (by omega) (by omega) hw H1

end Go.Proofs.Ytcdhjcjdphnleaa

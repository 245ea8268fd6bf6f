import Derived.Test.YtmkfabdkadocdaaDoorF
/-
  The reference's Rule; pairs compared.
-/
namespace Go.Proofs.YtmkfabdkadocdaaDoor
open Go Go.RowKit

theorem tgts_has (r : ARule) {s q : Nat} (hs : s < 256) (hq : q < 256) : (r.tgts s).has q = (r.tgt.has q || (r.self && decide (q = s))) := by
  unfold ARule.tgts ASet.with
  cases r.self with
  | false => simp
  | true =>
    rw [if_pos rfl, if_pos ⟨by omega, by omega⟩, Int.toNat_natCast, ASet.has_add _ hs hq, Bool.or_comm]
    simp
def OutS (w : World) (r : ARule) (P : List (Nat × Nat)) (u : Value) (wr : World) : Prop :=
  wr.ownsRow w.heap.size 63 2 u P.length (pcells P) ∧ Below w.heap.size w wr ∧ Whole wr w.heap.size 27 #[.int .i64 r.kind, .int .u64 r.src.a, .int .u64 r.src.b, .int .u64 r.src.c, .int .u64 r.src.d, .int .u64 r.tgt.a, .int .u64 r.tgt.b, .int .u64 r.tgt.c, .int .u64 r.tgt.d, .bool r.self, .int .i64 r.cls, .int .u32 r.perms, .int .i64 r.cond]
theorem OutS.keep {w wr w' : World} {r : ARule} {P : List (Nat × Nat)} {u : Value} (h : OutS w r P u wr) (hb : Below wr.heap.size wr w') : OutS w r P u w' :=
  ⟨own_keep hb h.1 (Nat.le_refl _), h.2.1.trans (hb.mono h.2.1.size), Whole.under hb h.2.2 h.2.2.lt⟩
theorem OutS.more {w wr w2 : World} {r : ARule} {P : List (Nat × Nat)} {u v' : Value} {s y : Nat} (h : OutS w r P u wr)
    (hown : w2.ownsRow w.heap.size 63 2 v' (P.length + 1) (pcells P ++ pcell (s, y))) (hg : (wr.alloc (.cells #[.int .i64 (s : Int), .int .i64 (y : Int)] 63)).grownBy w2 u.ownBlock) : OutS w r (P ++ [(s, y)]) v' w2 := by
  obtain ⟨h1, h4, h5⟩ := h
  refine ⟨?_, (h4.alloc h4.size _).grown hg (by have := h4.size; simp; omega) (fun q hq => by have := (h1.lt q hq).1; omega), (h5.alloc _).grown hg (fun e => own_blk_far h1 h5 (by decide) e.symm)⟩
  rw [List.length_append, pcells_app]
  exact hown

set_option maxRecDepth 100000 in
set_option maxHeartbeats 8000000 in
theorem refRule_any (w : World) (r : ARule) (hr : r.Ok) :
    Calls Tryd.prog 12 #[.agg #[.int .i64 r.kind, .int .u64 r.src.a, .int .u64 r.src.b, .int .u64 r.src.c, .int .u64 r.src.d, .int .u64 r.tgt.a, .int .u64 r.tgt.b, .int .u64 r.tgt.c, .int .u64 r.tgt.d, .bool r.self, .int .i64 r.cls, .int .u32 r.perms, .int .i64 r.cond]] w fun e w' => ∃ v, e = .returned v ∧ w'.ownsRow w.heap.size 63 2 v r.pairs.length (pcells r.pairs) ∧ Below w.heap.size w w' := by
  obtain ⟨i0, z, hi, hz0, hz1, hz2, hzs⟩ := infoOf info63
  have HR := Lib.hid hr
  clear hr
  have HO0 := Lib.hid (show OutS w r [] (.slice none 0 0) (w.alloc (.cells #[.int .i64 r.kind, .int .u64 r.src.a, .int .u64 r.src.b, .int .u64 r.src.c, .int .u64 r.src.d, .int .u64 r.tgt.a, .int .u64 r.tgt.b, .int .u64 r.tgt.c, .int .u64 r.tgt.d, .bool r.self, .int .i64 r.cls, .int .u32 r.perms, .int .i64 r.cond] 27)) from ⟨World.ownsRow_nil _ _ _ _, (Below.refl _ w).alloc (Nat.le_refl _) _, Whole.new w 27 #[.int .i64 r.kind, .int .u64 r.src.a, .int .u64 r.src.b, .int .u64 r.src.c, .int .u64 r.src.d, .int .u64 r.tgt.a, .int .u64 r.tgt.b, .int .u64 r.tgt.c, .int .u64 r.tgt.d, .bool r.self, .int .i64 r.cls, .int .u32 r.perms, .int .i64 r.cond]⟩)
  go_enter Tryd.func12, Tryd.ntmps12
  go_wp2_with fail
  go_loopw [3, 4] (fun u i wr => ∃ s : Nat, s ≤ 256 ∧ i = .int .i64 s ∧ OutS w r (r.pairsTo (elemsTo r.src s)) u wr) (fun _ i _ => 256 - (intOf i).toNat)
  case atStart => exact ⟨0, Nat.zero_le _, rfl, HO0.out⟩
  case round =>
    clear HO0
    obtain ⟨s, hs, rfl, hO⟩ := hrel
    have HO := Lib.hid hO
    clear hO
    by_cases hlt : s < 256
    · have hs256 : s < 256 := hlt
      have hsi : (s : Int) < 256 := by omega
      have hP := pairs_small r (elemsTo r.src s)
      have hP2 := elemsTo_len r.src s
      obtain ⟨P, hPe⟩ : ∃ P, P = r.pairsTo (elemsTo r.src s) := ⟨_, rfl⟩
      rw [← hPe] at HO hP
      have HPE := Lib.hid hPe
      have hPl : P.length ≤ 65536 := Nat.le_trans hP (by omega)
      clear hPe hP hP2
      by_cases hsr : r.src.has s = true
      · have HSR := Lib.hid hsr
        clear hsr
        go_wp2_with fail
        go_loopw [3, 5] (fun u i wq => ∃ q : Nat, q ≤ 256 ∧ i = .int .i64 q ∧ (q = 0 ∨ r.src.has s = true) ∧ OutS w r (P ++ (elemsTo (r.tgts s) q).map fun t => (s, t)) u wq) (fun _ i _ => 256 - (intOf i).toNat)
        case atStart => exact ⟨0, Nat.zero_le _, rfl, .inl rfl, by simpa [elemsTo] using HO.out⟩
        case round =>
          clear HO
          obtain ⟨q, hq, rfl, -, hI⟩ := hrel
          have HI := Lib.hid hI
          clear hI
          by_cases hqlt : q < 256
          · have hq256 : q < 256 := hqlt
            have hqi : (q : Int) < 256 := by omega
            have hlp : (P ++ (elemsTo (r.tgts s) q).map fun t => (s, t)).length ≤ 65536 + q := by rw [List.length_append, List.length_map]; have := elemsTo_len (r.tgts s) q; omega
            obtain ⟨PQ, hPQ⟩ : ∃ PQ, PQ = P ++ (elemsTo (r.tgts s) q).map fun t => (s, t) := ⟨_, rfl⟩
            rw [← hPQ] at HI hlp
            have HPQ := Lib.hid hPQ
            clear hPQ
            have HSRC := HSR
            have k1 : wr.cell? ⟨w.heap.size, 1, none⟩ = some (.int .u64 r.src.a) := HI.out.2.2.cell 1
            have k2 : wr.cell? ⟨w.heap.size, 2, none⟩ = some (.int .u64 r.src.b) := HI.out.2.2.cell 2
            have k3 : wr.cell? ⟨w.heap.size, 3, none⟩ = some (.int .u64 r.src.c) := HI.out.2.2.cell 3
            have k4 : wr.cell? ⟨w.heap.size, 4, none⟩ = some (.int .u64 r.src.d) := HI.out.2.2.cell 4
            by_cases hth : r.tgt.has q = true
            · have HTT := Lib.hid (show (r.tgts s).has q = true by rw [tgts_has r (by omega) (by omega)]; simp [hth])
              have HTG := Lib.hid hth
              clear hth
              go_wp2_with (first | (have hZ := HSRC; clear hZ; go_at_call 28; go_must (refine (show Calls Tryd.prog 28 _ _ (fun e w' => e = .returned (.bool true) ∧ Below wr.heap.size wr w') from by have h := rhas_any wr r.src HR.out.src (s : Int); rw [ASet.mem_nat r.src hs256, HSRC.out] at h; exact h).mono ?_; rintro e w1 ⟨rfl, hb1⟩; have HB1 := Lib.hid hb1; clear hb1 HSRC k1 k2 k3 k4; have HW1 := Lib.hid (Whole.under HB1.out HI.out.2.2 HI.out.2.2.lt); have k5 : w1.cell? ⟨w.heap.size, 5, none⟩ = some (.int .u64 r.tgt.a) := HW1.out.cell 5; have k6 : w1.cell? ⟨w.heap.size, 6, none⟩ = some (.int .u64 r.tgt.b) := HW1.out.cell 6; have k7 : w1.cell? ⟨w.heap.size, 7, none⟩ = some (.int .u64 r.tgt.c) := HW1.out.cell 7; have k8 : w1.cell? ⟨w.heap.size, 8, none⟩ = some (.int .u64 r.tgt.d) := HW1.out.cell 8)) | (have hZ := HTG; clear hZ; go_at_call 28; go_must (refine (show Calls Tryd.prog 28 _ _ (fun e w' => e = .returned (.bool true) ∧ Below w1.heap.size w1 w') from by have h := rhas_any w1 r.tgt HR.out.tgt (q : Int); rw [ASet.mem_nat r.tgt hq256, HTG.out] at h; exact h).mono ?_; rintro e w2 ⟨rfl, hb1⟩; have HB2 := Lib.hid hb1; clear hb1 HTG k5 k6 k7 k8; have HZ9 := HB2)) | (at_builtin; go_must (refine wpList_append_own _ rfl _ _ 29 rfl w.heap.size 63 i0 z 2 16 Tryd.underlying29 hi hz0 hz1 hz2 hzs (by decide) _ _ _ rfl (own_alloc (own_keep HB2.out (own_keep HB1.out HI.out.1 (Nat.le_refl _)) (Nat.le_refl _)) _) ⟨w2.heap.size, 0, none⟩ 1 1 [.int .i64 (s : Int), .int .i64 (q : Int)] rfl rfl (pair_new _ _ _ _) ?c2 ?c3 ?c4 ?c5 ?_)))
              case c2 => simp [Value.oneCell']
              case c3 => unfold maxLen; omega
              case c4 => omega
              case c5 => have := HI.out.2.1.size; have := HB1.out.size; have := HB2.out.size; simp; omega
              intro v' w9 hown' hgrow hnil
              have HN9 := Lib.hid (((HI.out.keep HB1.out).keep HB2.out).more (s := s) (y := q) hown' hgrow)
              clear hgrow hnil hown'
              go_wp2
              go_roundw
              case rel => exact ⟨q + 1, by omega, by go_num, .inr HSR.out, by rw [elemsTo_yes HTT.out, List.map_append, ← List.append_assoc, ← HPQ.out]; exact HN9.out⟩
              case measure => simp [intOf]; omega
            · have hth' := Bool.eq_false_iff.2 hth
              clear hth
              by_cases hsf : r.self = true
              · by_cases heq : q = s
                · have HTT := Lib.hid (show (r.tgts s).has q = true by rw [tgts_has r (by omega) (by omega)]; simp [hsf, heq])
                  have HTG := Lib.hid hth'
                  have HSF := Lib.hid hsf
                  clear hth' hsf
                  have heq2 : (s : Int) = (q : Int) := by omega
                  have HEQ := Lib.hid heq
                  clear heq
                  have hdd : ((s : Int) == (q : Int)) = true := by simp [heq2]
                  clear heq2
                  go_wp2_with (first | (have hZ := HSRC; clear hZ; go_at_call 28; go_must (refine (show Calls Tryd.prog 28 _ _ (fun e w' => e = .returned (.bool true) ∧ Below wr.heap.size wr w') from by have h := rhas_any wr r.src HR.out.src (s : Int); rw [ASet.mem_nat r.src hs256, HSRC.out] at h; exact h).mono ?_; rintro e w1 ⟨rfl, hb1⟩; have HB1 := Lib.hid hb1; clear hb1 HSRC k1 k2 k3 k4; have HW1 := Lib.hid (Whole.under HB1.out HI.out.2.2 HI.out.2.2.lt); have k5 : w1.cell? ⟨w.heap.size, 5, none⟩ = some (.int .u64 r.tgt.a) := HW1.out.cell 5; have k6 : w1.cell? ⟨w.heap.size, 6, none⟩ = some (.int .u64 r.tgt.b) := HW1.out.cell 6; have k7 : w1.cell? ⟨w.heap.size, 7, none⟩ = some (.int .u64 r.tgt.c) := HW1.out.cell 7; have k8 : w1.cell? ⟨w.heap.size, 8, none⟩ = some (.int .u64 r.tgt.d) := HW1.out.cell 8)) | (have hZ := HTG; clear hZ; go_at_call 28; go_must (refine (show Calls Tryd.prog 28 _ _ (fun e w' => e = .returned (.bool false) ∧ Below w1.heap.size w1 w') from by have h := rhas_any w1 r.tgt HR.out.tgt (q : Int); rw [ASet.mem_nat r.tgt hq256, HTG.out] at h; exact h).mono ?_; rintro e w2 ⟨rfl, hb1⟩; have HB2 := Lib.hid hb1; clear hb1 HTG k5 k6 k7 k8; have HW2 := Lib.hid (Whole.under HB2.out HW1.out HW1.out.lt); have k9 : w2.cell? ⟨w.heap.size, 9, none⟩ = some (.bool true) := by have h := HW2.out.cell 9; simpa [HSF.out] using h)) | (at_builtin; go_must (refine wpList_append_own _ rfl _ _ 29 rfl w.heap.size 63 i0 z 2 16 Tryd.underlying29 hi hz0 hz1 hz2 hzs (by decide) _ _ _ rfl (own_alloc (own_keep HB2.out (own_keep HB1.out HI.out.1 (Nat.le_refl _)) (Nat.le_refl _)) _) ⟨w2.heap.size, 0, none⟩ 1 1 [.int .i64 (s : Int), .int .i64 (q : Int)] rfl rfl (pair_new _ _ _ _) ?c2 ?c3 ?c4 ?c5 ?_)))
                  case c2 => simp [Value.oneCell']
                  case c3 => unfold maxLen; omega
                  case c4 => omega
                  case c5 => have := HI.out.2.1.size; have := HB1.out.size; have := HB2.out.size; simp; omega
                  intro v' w9 hown' hgrow hnil
                  have HN9 := Lib.hid (((HI.out.keep HB1.out).keep HB2.out).more (s := s) (y := q) hown' hgrow)
                  clear hgrow hnil hown'
                  go_wp2
                  go_roundw
                  case rel => exact ⟨q + 1, by omega, by go_num, .inr HSR.out, by rw [elemsTo_yes HTT.out, List.map_append, ← List.append_assoc, ← HPQ.out]; exact HN9.out⟩
                  case measure => simp [intOf]; omega
                · have HTT := Lib.hid (show (r.tgts s).has q = false by rw [tgts_has r (by omega) (by omega)]; simp [hth', heq])
                  have HTG := Lib.hid hth'
                  have HSF := Lib.hid hsf
                  clear hth' hsf
                  have hdd : ((s : Int) == (q : Int)) = false := by simp; omega
                  clear heq
                  go_wp2_with (first | (have hZ := HSRC; clear hZ; go_at_call 28; go_must (refine (show Calls Tryd.prog 28 _ _ (fun e w' => e = .returned (.bool true) ∧ Below wr.heap.size wr w') from by have h := rhas_any wr r.src HR.out.src (s : Int); rw [ASet.mem_nat r.src hs256, HSRC.out] at h; exact h).mono ?_; rintro e w1 ⟨rfl, hb1⟩; have HB1 := Lib.hid hb1; clear hb1 HSRC k1 k2 k3 k4; have HW1 := Lib.hid (Whole.under HB1.out HI.out.2.2 HI.out.2.2.lt); have k5 : w1.cell? ⟨w.heap.size, 5, none⟩ = some (.int .u64 r.tgt.a) := HW1.out.cell 5; have k6 : w1.cell? ⟨w.heap.size, 6, none⟩ = some (.int .u64 r.tgt.b) := HW1.out.cell 6; have k7 : w1.cell? ⟨w.heap.size, 7, none⟩ = some (.int .u64 r.tgt.c) := HW1.out.cell 7; have k8 : w1.cell? ⟨w.heap.size, 8, none⟩ = some (.int .u64 r.tgt.d) := HW1.out.cell 8)) | (have hZ := HTG; clear hZ; go_at_call 28; go_must (refine (show Calls Tryd.prog 28 _ _ (fun e w' => e = .returned (.bool false) ∧ Below w1.heap.size w1 w') from by have h := rhas_any w1 r.tgt HR.out.tgt (q : Int); rw [ASet.mem_nat r.tgt hq256, HTG.out] at h; exact h).mono ?_; rintro e w2 ⟨rfl, hb1⟩; have HB2 := Lib.hid hb1; clear hb1 HTG k5 k6 k7 k8; have HW2 := Lib.hid (Whole.under HB2.out HW1.out HW1.out.lt); have k9 : w2.cell? ⟨w.heap.size, 9, none⟩ = some (.bool true) := by have h := HW2.out.cell 9; simpa [HSF.out] using h)))
                  go_roundw
                  case rel => exact ⟨q + 1, by omega, by go_num, .inr HSR.out, by rw [elemsTo_no HTT.out, ← HPQ.out]; exact (HI.out.keep HB1.out).keep HB2.out⟩
                  case measure => simp [intOf]; omega
              · have hsf' := Bool.eq_false_iff.2 hsf
                clear hsf
                have HTT := Lib.hid (show (r.tgts s).has q = false by rw [tgts_has r (by omega) (by omega)]; simp [hth', hsf'])
                have HTG := Lib.hid hth'
                have HSF := Lib.hid hsf'
                clear hth' hsf'
                go_wp2_with (first | (have hZ := HSRC; clear hZ; go_at_call 28; go_must (refine (show Calls Tryd.prog 28 _ _ (fun e w' => e = .returned (.bool true) ∧ Below wr.heap.size wr w') from by have h := rhas_any wr r.src HR.out.src (s : Int); rw [ASet.mem_nat r.src hs256, HSRC.out] at h; exact h).mono ?_; rintro e w1 ⟨rfl, hb1⟩; have HB1 := Lib.hid hb1; clear hb1 HSRC k1 k2 k3 k4; have HW1 := Lib.hid (Whole.under HB1.out HI.out.2.2 HI.out.2.2.lt); have k5 : w1.cell? ⟨w.heap.size, 5, none⟩ = some (.int .u64 r.tgt.a) := HW1.out.cell 5; have k6 : w1.cell? ⟨w.heap.size, 6, none⟩ = some (.int .u64 r.tgt.b) := HW1.out.cell 6; have k7 : w1.cell? ⟨w.heap.size, 7, none⟩ = some (.int .u64 r.tgt.c) := HW1.out.cell 7; have k8 : w1.cell? ⟨w.heap.size, 8, none⟩ = some (.int .u64 r.tgt.d) := HW1.out.cell 8)) | (have hZ := HTG; clear hZ; go_at_call 28; go_must (refine (show Calls Tryd.prog 28 _ _ (fun e w' => e = .returned (.bool false) ∧ Below w1.heap.size w1 w') from by have h := rhas_any w1 r.tgt HR.out.tgt (q : Int); rw [ASet.mem_nat r.tgt hq256, HTG.out] at h; exact h).mono ?_; rintro e w2 ⟨rfl, hb1⟩; have HB2 := Lib.hid hb1; clear hb1 HTG k5 k6 k7 k8; have HW2 := Lib.hid (Whole.under HB2.out HW1.out HW1.out.lt); have k9 : w2.cell? ⟨w.heap.size, 9, none⟩ = some (.bool false) := by have h := HW2.out.cell 9; simpa [HSF.out] using h)))
                go_roundw
                case rel => exact ⟨q + 1, by omega, by go_num, .inr HSR.out, by rw [elemsTo_no HTT.out, ← HPQ.out]; exact (HI.out.keep HB1.out).keep HB2.out⟩
                case measure => simp [intOf]; omega
          · obtain rfl : q = 256 := by omega
            have HOO := Lib.hid (show OutS w r (r.pairsTo (elemsTo r.src (s + 1))) _ wr by
              rw [elemsTo_yes HSR.out, pairsTo_snoc, ← HPE.out]
              exact HI.out)
            go_wp2_with fail
            go_roundw
            case rel => exact ⟨s + 1, by omega, by go_num, HOO.out⟩
            case measure => simp [intOf]; omega
      · have hsr' := Bool.eq_false_iff.2 hsr
        have HSRC := Lib.hid hsr'
        have HSR := HSRC
        clear hsr hsr'
        go_wp2_with fail
        go_loopw [3, 5] (fun u i wq => i = .int .i64 0 ∧ OutS w r P u wq) (fun _ i _ => 1)
        case atStart => exact ⟨rfl, HO.out⟩
        case round =>
          clear HO
          obtain ⟨rfl, hI⟩ := hrel
          have HI := Lib.hid hI
          clear hI
          have k1 : wr.cell? ⟨w.heap.size, 1, none⟩ = some (.int .u64 r.src.a) := HI.out.2.2.cell 1
          have k2 : wr.cell? ⟨w.heap.size, 2, none⟩ = some (.int .u64 r.src.b) := HI.out.2.2.cell 2
          have k3 : wr.cell? ⟨w.heap.size, 3, none⟩ = some (.int .u64 r.src.c) := HI.out.2.2.cell 3
          have k4 : wr.cell? ⟨w.heap.size, 4, none⟩ = some (.int .u64 r.src.d) := HI.out.2.2.cell 4
          go_wp2_with (first | (have hZ := HSRC; clear hZ; go_at_call 28; go_must (refine (show Calls Tryd.prog 28 _ _ (fun e w' => e = .returned (.bool false) ∧ Below wr.heap.size wr w') from by have h := rhas_any wr r.src HR.out.src (s : Int); rw [ASet.mem_nat r.src hs256, HSRC.out] at h; exact h).mono ?_; rintro e w1 ⟨rfl, hb1⟩; have HB1 := Lib.hid hb1; clear hb1 HSRC k1 k2 k3 k4)))
          have HOO := Lib.hid (show OutS w r (r.pairsTo (elemsTo r.src (s + 1))) _ w1 by
            rw [elemsTo_no HSR.out, ← HPE.out]
            exact HI.out.keep HB1.out)
          go_roundw
          case rel => exact ⟨s + 1, by omega, by go_num, HOO.out⟩
          case measure => simp [intOf]; omega
    · obtain rfl : s = 256 := by omega
      go_wp2_with fail
      go_ret
      exact ⟨_, rfl, HO.out.1, HO.out.2.1⟩
end Go.Proofs.YtmkfabdkadocdaaDoor

import Derived.Test.YtmkfabdkadocdaaDoorU8
/-
  ExpandOrder: the last region.
-/
namespace Go.Proofs.YtmkfabdkadocdaaDoor
open Go Go.WideMaps Go.RowKit Go.Sort

def findRegion (k : Nat) : Code → Code
  | .seq a b => match findRegion k a with
    | .skip => findRegion k b
    | c => c
  | .cond _ a b => match findRegion k a with
    | .skip => findRegion k b
    | c => c
  | .block _ a => findRegion k a
  | .loop a => findRegion k a
  | .region id ops d => if id = k then .region id ops d else .skip
  | _ => .skip
set_option maxRecDepth 100000 in
set_option maxHeartbeats 4000000 in
theorem order_region (wf : World) (pb qb : Nat) (a0 a1 a2 a3 a4 a5 a6 a7 a8 a10 a11 a12 a13 a14 a15 a16 u um : Value) (ra la : Option Addr) (i c j c2 : Nat) (rs Q : List ARule) (l M : List AEntry) (x0 x2 x4 x5 x6 x8 x10 x11 x12 x13 x14 x15 x16 x17 x18 x19 x20 x21 x22 x23 x24 x25 x26 x27 x28 x29 x30 x31 x32 x33 x34 x35 x36 x37 x38 x39 x40 x41 x42 x43 x44 x45 x46 x47 x48 x49 x50 x51 x52 x53 x54 x55 x56 x57 x58 x59 x60 x61 x62 x63 x64 x65 x66 x67 x68 x69 x70 x71 x72 x73 x74 x75 x76 x77 x78 x79 x80 x81 x82 x83 x84 : Value) (hT : Tab wf)
    (HPf : Hid (Whole wf pb 50 #[a0, a1, a2, a3, a4, a5, a6, a7, a8, .slice ra i c, a10, a11, a12, a13, a14, a15, a16])) (HQf : Hid (Whole wf qb 50 #[.slice none 0 0, .slice none 0 0, .slice none 0 0, .slice none 0 0, .slice none 0 0, .slice none 0 0, .slice none 0 0, .slice none 0 0, .slice none 0 0, u, .slice none 0 0, .slice none 0 0, .slice none 0 0, .slice none 0 0, .slice none 0 0, .slice none 0 0, .slice none 0 0])) (HSr : Hid (SliceAt wf (.slice ra i c) 13 rs.length (rs.flatMap ARule.cells))) (HSl : Hid (SliceAt wf (.slice la j c2) 7 l.length (l.flatMap AEntry.cells)))
    (HSq : Hid (SliceAt wf u 13 Q.length (Q.flatMap ARule.cells))) (HSm : Hid (SliceAt wf um 7 M.length (M.flatMap AEntry.cells))) (HRE : Hid (accum (kvR Q) = accum (kvR rs))) (HME : Hid (accE M = accE l)) (HOK : Hid (∀ r ∈ rs, r.Wf)) (HOKQ : Hid (∀ r ∈ Q, r.Wf)) (HOK2 : Hid (∀ r ∈ l, r.Ok)) (HOKM : Hid (∀ r ∈ M, r.Ok))
    (HN : Hid (rs.length ≤ 40 ∧ Q.length ≤ 40 ∧ l.length ≤ 120 ∧ M.length ≤ 120)) {Q' : Exit → Act → World → Prop} (hend : ∀ tmps wx, tmps[6]? = some (.bool true) → RowKit.Below wf.heap.size wf wx → Q' .normal ⟨tmps, []⟩ wx) :
    Code.wp Tryd.prog (findRegion 15 ((Tryd.f9.body).getD .skip)) Q' ⟨#[x0, .slice la j c2, x2, .pointer (some ⟨pb, 0, none⟩), x4, x5, x6, .pointer (some ⟨qb, 0, none⟩), x8, um, x10, x11, x12, x13, x14, x15, x16, x17, x18, x19, x20, x21, x22, x23, x24, x25, x26, x27, x28, x29, x30, x31, x32, x33, x34, x35, x36, x37, x38, x39, x40, x41, x42, x43, x44, x45, x46, x47, x48, x49, x50, x51, x52, x53, x54, x55, x56, x57, x58, x59, x60, x61, x62, x63, x64, x65, x66, x67, x68, x69, x70, x71, x72, x73, x74, x75, x76, x77, x78, x79, x80, x81, x82, x83, x84], []⟩ wf := by
  have HTf := Lib.hid hT
  clear hT
  conv => arg 2; whnf
  conv => arg 4; dsimp only
  refine wp_region_plan_l [63, 64, 65, 66, 67, 68, 69, 70, 71, 72, 73, 74, 75, 76, 77, 78, 79, 80, 81, 82, 83, 84, 6] [isV (.agg #[a0, a1, a2, a3, a4, a5, a6, a7, a8, .slice ra i c, a10, a11, a12, a13, a14, a15, a16]), (fun v w' => ∃ E, Canon (accum (kvR rs)) E ∧ SliceAt w' v 7 E.length (E.flatMap AEntry.cells)), isV (.agg #[.slice none 0 0, .slice none 0 0, .slice none 0 0, .slice none 0 0, .slice none 0 0, .slice none 0 0, .slice none 0 0, .slice none 0 0, .slice none 0 0, u, .slice none 0 0, .slice none 0 0, .slice none 0 0, .slice none 0 0, .slice none 0 0, .slice none 0 0, .slice none 0 0]), (fun v w' => ∃ E, Canon (accum (kvR rs)) E ∧ SliceAt w' v 7 E.length (E.flatMap AEntry.cells)), isV (.bool true), isV (.bool true), isV (.slice la j c2), (fun v w' => ∃ E, Canon (accE l) E ∧ SliceAt w' v 7 E.length (E.flatMap AEntry.cells)), isV (um), (fun v w' => ∃ E, Canon (accE l) E ∧ SliceAt w' v 7 E.length (E.flatMap AEntry.cells)), isV (.bool true), isV (.bool true), isV (.bool true), isV (.slice la j c2), (fun v w' => ∃ Q : List AEntry × List ARule, (Canon (accE l) Q.1 ∧ CanonR (pairsOf Q.1) Q.2) ∧ SliceAt w' v 13 Q.2.length (Q.2.flatMap ARule.cells)), isV (um), (fun v w' => ∃ Q : List AEntry × List ARule, (Canon (accE l) Q.1 ∧ CanonR (pairsOf Q.1) Q.2) ∧ SliceAt w' v 13 Q.2.length (Q.2.flatMap ARule.cells)), isV (.bool true), isV (.bool true), isV (.bool true), isV (.bool true), isV (.bool true), isV (.bool true)] (RowKit.Below wf.heap.size wf) (by kernel_rfl) (by kernel_rfl) rfl (by decide) rfl ((Below.refl _ _).drew) (fun w w' h hb => h.trans (hb.mono h.size)) ⟨lasts_is _, (fun u wa wb h hb => let ⟨E, h1, h2⟩ := h; ⟨E, h1, h2.keep hb⟩), lasts_is _, (fun u wa wb h hb => let ⟨E, h1, h2⟩ := h; ⟨E, h1, h2.keep hb⟩), lasts_is _, lasts_is _, lasts_is _, (fun u wa wb h hb => let ⟨E, h1, h2⟩ := h; ⟨E, h1, h2.keep hb⟩), lasts_is _, (fun u wa wb h hb => let ⟨E, h1, h2⟩ := h; ⟨E, h1, h2.keep hb⟩), lasts_is _, lasts_is _, lasts_is _, lasts_is _, (fun u wa wb h hb => let ⟨E, h1, h2⟩ := h; ⟨E, h1, h2.keep hb⟩), lasts_is _, (fun u wa wb h hb => let ⟨E, h1, h2⟩ := h; ⟨E, h1, h2.keep hb⟩), lasts_is _, lasts_is _, lasts_is _, lasts_is _, lasts_is _, lasts_is _, trivial⟩ (fun SL GL TL eS eG eT => ⟨?_, ?_, ?_, ?_, ?_, ?_, ?_, ?_, ?_, ?_, ?_, ?_, ?_, ?_, ?_, ?_, ?_, ?_, ?_, ?_, ?_, ?_, ?_, trivial⟩) ?_
  · intro a wx Q' hi H F hK
    have h3 : a.tmps[3]? = some (.pointer (some ⟨pb, 0, none⟩)) := (F 3 (by rw [eS]; rfl)).trans (by rw [eT]; rfl)
    have HI := Lib.hid hi
    clear H F hi eS eG eT
    have HW := Lib.hid (Whole.under HI.out HPf.out (Whole.lt HPf.out))
    go_wp2_with (refine wpList_load_row rfl 50 _ rfl pb (by simp [Act.eval, *]) 50 _ (0, 0) _ HW.out Tryd.underlying50 rfl size50 ?_)
    exact hK _ _ (Below.refl _ _) rfl
  · intro a wx Q' hi H F hK
    obtain ⟨_, h63, rfl⟩ := H 0 ⟨.data, by simp, rfl⟩ 63 _ (by rw [eS]; rfl) (by rw [eG]; rfl)
    have HI := Lib.hid hi
    clear H F hi eS eG eT
    go_wp2_with (go_at_call 17; go_must (refine (expEntries_any wx (a0) (a1) (a2) (a3) (a4) (a5) (a6) (a7) (a8) (.slice ra i c) (a10) (a11) (a12) (a13) (a14) (a15) (a16) rs (HSr.out.keep HI.out) HOK.out (by have := HN.out; omega)).mono ?_; rintro e w1 ⟨v1, E, rfl, hc1, -, -, hs1, hb1⟩))
    exact hK _ _ hb1 ⟨E, hc1, hs1⟩
  · intro a wx Q' hi H F hK
    have h7 : a.tmps[7]? = some (.pointer (some ⟨qb, 0, none⟩)) := (F 7 (by rw [eS]; rfl)).trans (by rw [eT]; rfl)
    have HI := Lib.hid hi
    clear H F hi eS eG eT
    have HW := Lib.hid (Whole.under HI.out HQf.out (Whole.lt HQf.out))
    go_wp2_with (refine wpList_load_row rfl 50 _ rfl qb (by simp [Act.eval, *]) 50 _ (0, 0) _ HW.out Tryd.underlying50 rfl size50 ?_)
    exact hK _ _ (Below.refl _ _) rfl
  · intro a wx Q' hi H F hK
    obtain ⟨_, h65, rfl⟩ := H 2 ⟨.data, by simp, rfl⟩ 65 _ (by rw [eS]; rfl) (by rw [eG]; rfl)
    have HI := Lib.hid hi
    clear H F hi eS eG eT
    go_wp2_with (go_at_call 17; go_must (refine (expEntries_any wx (.slice none 0 0) (.slice none 0 0) (.slice none 0 0) (.slice none 0 0) (.slice none 0 0) (.slice none 0 0) (.slice none 0 0) (.slice none 0 0) (.slice none 0 0) (u) (.slice none 0 0) (.slice none 0 0) (.slice none 0 0) (.slice none 0 0) (.slice none 0 0) (.slice none 0 0) (.slice none 0 0) Q (HSq.out.keep HI.out) HOKQ.out (by have := HN.out; omega)).mono ?_; rintro e w1 ⟨v1, E, rfl, hc1, -, -, hs1, hb1⟩))
    exact hK _ _ hb1 ⟨E, by rw [← HRE.out]; exact hc1, hs1⟩
  · intro a wx Q' hi H F hK
    obtain ⟨v64, h64, hv64⟩ := H 1 ⟨.data, by simp, rfl⟩ 64 _ (by rw [eS]; rfl) (by rw [eG]; rfl)
    have HV64 := Lib.hid hv64
    clear hv64
    obtain ⟨v66, h66, hv66⟩ := H 3 ⟨.data, by simp, rfl⟩ 66 _ (by rw [eS]; rfl) (by rw [eG]; rfl)
    have HV66 := Lib.hid hv66
    clear hv66
    have HI := Lib.hid hi
    clear H F hi eS eG eT
    obtain ⟨E1, hc1, hs1⟩ := HV64.out
    obtain ⟨E2, hc2, hs2⟩ := HV66.out
    obtain rfl := hc1.uniq hc2
    have HA := Lib.hid hs1
    have HBs := Lib.hid hs2
    clear hs1 hs2 hc1 hc2 HV64 HV66
    go_wp2_with (go_at_call 16; go_must (refine (same_any wx _ _ _ HA.out HBs.out).mono ?_; rintro e w1 ⟨rfl, hb1⟩))
    exact hK _ _ hb1 rfl
  · intro a wx Q' hi H F hK
    obtain ⟨_, h67, rfl⟩ := H 4 ⟨.data, by simp, rfl⟩ 67 _ (by rw [eS]; rfl) (by rw [eG]; rfl)
    have HI := Lib.hid hi
    clear H F hi eS eG eT
    go_wp2_with fail
    exact hK _ _ (Below.refl _ _) rfl
  · intro a wx Q' hi H F hK
    obtain ⟨_, h68, rfl⟩ := H 5 ⟨.guard, by simp, rfl⟩ 68 _ (by rw [eS]; rfl) (by rw [eG]; rfl)
    have h1 : a.tmps[1]? = some (.slice la j c2) := (F 1 (by rw [eS]; rfl)).trans (by rw [eT]; rfl)
    have HI := Lib.hid hi
    clear H F hi eS eG eT
    go_wp2_with fail
    exact hK _ _ (Below.refl _ _) rfl
  · intro a wx Q' hi H F hK
    obtain ⟨_, h69, rfl⟩ := H 6 ⟨.data, by simp, rfl⟩ 69 _ (by rw [eS]; rfl) (by rw [eG]; rfl)
    obtain ⟨_, h68, rfl⟩ := H 5 ⟨.guard, by simp, rfl⟩ 68 _ (by rw [eS]; rfl) (by rw [eG]; rfl)
    have HI := Lib.hid hi
    clear H F hi eS eG eT
    go_wp2_with (go_at_call 19; go_must (refine (merge_any wx _ l (HSl.out.keep HI.out) HOK2.out (by have := HN.out; omega)).mono ?_; rintro e w1 ⟨v1, E, rfl, hc1, -, -, hs1, hb1⟩))
    exact hK _ _ hb1 ⟨E, hc1, hs1⟩
  · intro a wx Q' hi H F hK
    obtain ⟨_, h68, rfl⟩ := H 5 ⟨.guard, by simp, rfl⟩ 68 _ (by rw [eS]; rfl) (by rw [eG]; rfl)
    have h9 : a.tmps[9]? = some (um) := (F 9 (by rw [eS]; rfl)).trans (by rw [eT]; rfl)
    have HI := Lib.hid hi
    clear H F hi eS eG eT
    go_wp2_with fail
    exact hK _ _ (Below.refl _ _) rfl
  · intro a wx Q' hi H F hK
    obtain ⟨_, h71, rfl⟩ := H 8 ⟨.data, by simp, rfl⟩ 71 _ (by rw [eS]; rfl) (by rw [eG]; rfl)
    obtain ⟨_, h68, rfl⟩ := H 5 ⟨.guard, by simp, rfl⟩ 68 _ (by rw [eS]; rfl) (by rw [eG]; rfl)
    have HI := Lib.hid hi
    clear H F hi eS eG eT
    go_wp2_with (go_at_call 19; go_must (refine (merge_any wx _ M (HSm.out.keep HI.out) HOKM.out (by have := HN.out; omega)).mono ?_; rintro e w1 ⟨v1, E, rfl, hc1, -, -, hs1, hb1⟩))
    exact hK _ _ hb1 ⟨E, by rw [← HME.out]; exact hc1, hs1⟩
  · intro a wx Q' hi H F hK
    obtain ⟨v70, h70, hv70⟩ := H 7 ⟨.data, by simp, rfl⟩ 70 _ (by rw [eS]; rfl) (by rw [eG]; rfl)
    have HV70 := Lib.hid hv70
    clear hv70
    obtain ⟨v72, h72, hv72⟩ := H 9 ⟨.data, by simp, rfl⟩ 72 _ (by rw [eS]; rfl) (by rw [eG]; rfl)
    have HV72 := Lib.hid hv72
    clear hv72
    obtain ⟨_, h68, rfl⟩ := H 5 ⟨.guard, by simp, rfl⟩ 68 _ (by rw [eS]; rfl) (by rw [eG]; rfl)
    have HI := Lib.hid hi
    clear H F hi eS eG eT
    obtain ⟨E1, hc1, hs1⟩ := HV70.out
    obtain ⟨E2, hc2, hs2⟩ := HV72.out
    obtain rfl := hc1.uniq hc2
    have HA := Lib.hid hs1
    have HBs := Lib.hid hs2
    clear hs1 hs2 hc1 hc2 HV70 HV72
    go_wp2_with (go_at_call 16; go_must (refine (same_any wx _ _ _ HA.out HBs.out).mono ?_; rintro e w1 ⟨rfl, hb1⟩))
    exact hK _ _ hb1 rfl
  · intro a wx Q' hi H F hK
    obtain ⟨_, h68, rfl⟩ := H 5 ⟨.data, by simp, rfl⟩ 68 _ (by rw [eS]; rfl) (by rw [eG]; rfl)
    obtain ⟨_, h73, rfl⟩ := H 10 ⟨.data, by simp, rfl⟩ 73 _ (by rw [eS]; rfl) (by rw [eG]; rfl)
    have HI := Lib.hid hi
    clear H F hi eS eG eT
    go_wp2_with fail
    exact hK _ _ (Below.refl _ _) rfl
  · intro a wx Q' hi H F hK
    obtain ⟨_, h74, rfl⟩ := H 11 ⟨.data, by simp, rfl⟩ 74 _ (by rw [eS]; rfl) (by rw [eG]; rfl)
    have HI := Lib.hid hi
    clear H F hi eS eG eT
    go_wp2_with fail
    exact hK _ _ (Below.refl _ _) rfl
  · intro a wx Q' hi H F hK
    obtain ⟨_, h75, rfl⟩ := H 12 ⟨.guard, by simp, rfl⟩ 75 _ (by rw [eS]; rfl) (by rw [eG]; rfl)
    have h1 : a.tmps[1]? = some (.slice la j c2) := (F 1 (by rw [eS]; rfl)).trans (by rw [eT]; rfl)
    have HI := Lib.hid hi
    clear H F hi eS eG eT
    go_wp2_with fail
    exact hK _ _ (Below.refl _ _) rfl
  · intro a wx Q' hi H F hK
    obtain ⟨_, h76, rfl⟩ := H 13 ⟨.data, by simp, rfl⟩ 76 _ (by rw [eS]; rfl) (by rw [eG]; rfl)
    obtain ⟨_, h75, rfl⟩ := H 12 ⟨.guard, by simp, rfl⟩ 75 _ (by rw [eS]; rfl) (by rw [eG]; rfl)
    have HI := Lib.hid hi
    clear H F hi eS eG eT
    go_wp2_with (go_at_call 24; go_must (refine (compress_any wx _ l (HSl.out.keep HI.out) HOK2.out (by have := HN.out; omega) (HTf.out.later HI.out)).mono ?_; rintro e w1 ⟨v1, E, R1, rfl, hc1, -, -, hr1, hs1, hb1⟩))
    exact hK _ _ hb1 ⟨(E, R1), ⟨hc1, hr1⟩, hs1⟩
  · intro a wx Q' hi H F hK
    obtain ⟨_, h75, rfl⟩ := H 12 ⟨.guard, by simp, rfl⟩ 75 _ (by rw [eS]; rfl) (by rw [eG]; rfl)
    have h9 : a.tmps[9]? = some (um) := (F 9 (by rw [eS]; rfl)).trans (by rw [eT]; rfl)
    have HI := Lib.hid hi
    clear H F hi eS eG eT
    go_wp2_with fail
    exact hK _ _ (Below.refl _ _) rfl
  · intro a wx Q' hi H F hK
    obtain ⟨_, h78, rfl⟩ := H 15 ⟨.data, by simp, rfl⟩ 78 _ (by rw [eS]; rfl) (by rw [eG]; rfl)
    obtain ⟨_, h75, rfl⟩ := H 12 ⟨.guard, by simp, rfl⟩ 75 _ (by rw [eS]; rfl) (by rw [eG]; rfl)
    have HI := Lib.hid hi
    clear H F hi eS eG eT
    go_wp2_with (go_at_call 24; go_must (refine (compress_any wx _ M (HSm.out.keep HI.out) HOKM.out (by have := HN.out; omega) (HTf.out.later HI.out)).mono ?_; rintro e w1 ⟨v1, E, R1, rfl, hc1, -, -, hr1, hs1, hb1⟩))
    exact hK _ _ hb1 ⟨(E, R1), ⟨by rw [← HME.out]; exact hc1, hr1⟩, hs1⟩
  · intro a wx Q' hi H F hK
    obtain ⟨v77, h77, hv77⟩ := H 14 ⟨.data, by simp, rfl⟩ 77 _ (by rw [eS]; rfl) (by rw [eG]; rfl)
    have HV77 := Lib.hid hv77
    clear hv77
    obtain ⟨v79, h79, hv79⟩ := H 16 ⟨.data, by simp, rfl⟩ 79 _ (by rw [eS]; rfl) (by rw [eG]; rfl)
    have HV79 := Lib.hid hv79
    clear hv79
    obtain ⟨_, h75, rfl⟩ := H 12 ⟨.guard, by simp, rfl⟩ 75 _ (by rw [eS]; rfl) (by rw [eG]; rfl)
    have HI := Lib.hid hi
    clear H F hi eS eG eT
    obtain ⟨E1, hc1, hs1⟩ := HV77.out
    obtain ⟨E2, hc2, hs2⟩ := HV79.out
    obtain rfl := show E1 = E2 from Prod.ext (hc1.1.uniq hc2.1) (by have h := hc1.2; rw [hc1.1.uniq hc2.1] at h; exact h.uniq hc2.2)
    have HA := Lib.hid hs1
    have HBs := Lib.hid hs2
    clear hs1 hs2 hc1 hc2 HV77 HV79
    go_wp2_with (go_at_call 23; go_must (refine (rules_any wx _ _ _ HA.out HBs.out).mono ?_; rintro e w1 ⟨rfl, hb1⟩))
    exact hK _ _ hb1 rfl
  · intro a wx Q' hi H F hK
    obtain ⟨_, h75, rfl⟩ := H 12 ⟨.data, by simp, rfl⟩ 75 _ (by rw [eS]; rfl) (by rw [eG]; rfl)
    obtain ⟨_, h80, rfl⟩ := H 17 ⟨.data, by simp, rfl⟩ 80 _ (by rw [eS]; rfl) (by rw [eG]; rfl)
    have HI := Lib.hid hi
    clear H F hi eS eG eT
    go_wp2_with fail
    exact hK _ _ (Below.refl _ _) rfl
  · intro a wx Q' hi H F hK
    obtain ⟨_, h81, rfl⟩ := H 18 ⟨.data, by simp, rfl⟩ 81 _ (by rw [eS]; rfl) (by rw [eG]; rfl)
    have HI := Lib.hid hi
    clear H F hi eS eG eT
    go_wp2_with fail
    exact hK _ _ (Below.refl _ _) rfl
  · intro a wx Q' hi H F hK
    obtain ⟨_, h82, rfl⟩ := H 19 ⟨.guard, by simp, rfl⟩ 82 _ (by rw [eS]; rfl) (by rw [eG]; rfl)
    have HI := Lib.hid hi
    clear H F hi eS eG eT
    go_wp2_with (go_at_call 13; go_must (refine (awake_any wx (HTf.out.later HI.out)).mono ?_; rintro e w1 ⟨rfl, hb1⟩))
    exact hK _ _ hb1 rfl
  · intro a wx Q' hi H F hK
    obtain ⟨_, h82, rfl⟩ := H 19 ⟨.data, by simp, rfl⟩ 82 _ (by rw [eS]; rfl) (by rw [eG]; rfl)
    obtain ⟨_, h83, rfl⟩ := H 20 ⟨.data, by simp, rfl⟩ 83 _ (by rw [eS]; rfl) (by rw [eG]; rfl)
    have HI := Lib.hid hi
    clear H F hi eS eG eT
    go_wp2_with fail
    exact hK _ _ (Below.refl _ _) rfl
  · intro a wx Q' hi H F hK
    obtain ⟨_, h84, rfl⟩ := H 21 ⟨.data, by simp, rfl⟩ 84 _ (by rw [eS]; rfl) (by rw [eG]; rfl)
    have HI := Lib.hid hi
    clear H F hi eS eG eT
    go_wp2_with fail
    exact hK _ _ (Below.refl _ _) rfl
  · rintro ⟨tmps, defers⟩ wx hR
    obtain ⟨_, h0, rfl⟩ := hR.done 22 rfl 6 _ rfl rfl
    obtain rfl := hR.defers
    exact hend _ _ h0 hR.inv
end Go.Proofs.YtmkfabdkadocdaaDoor

import Derived.Test.YtmkfabdkadocdaaDoorT8
/-
  expand.Compress.
-/
namespace Go.Proofs.YtmkfabdkadocdaaDoor
open Go Go.WideMaps Go.RowKit Go.Sort

set_option maxRecDepth 100000 in
set_option maxHeartbeats 4000000 in
theorem compress_any (w : World) (v : Value) (l : List AEntry) (h : SliceAt w v 7 l.length (l.flatMap AEntry.cells)) (hok : ∀ x ∈ l, x.Ok) (hlen : l.length ≤ 1000) (hT : Tab w) :
    Calls Tryd.prog 24 #[v] w fun e w' => ∃ v' E R, e = .returned v' ∧ Canon (accE l) E ∧ (∀ x ∈ E, x.Ok) ∧ E.length ≤ l.length ∧ CanonR (pairsOf E) R ∧ SliceAt w' v' 13 R.length (R.flatMap ARule.cells) ∧ RowKit.Below w.heap.size w w' := by
  obtain ⟨i0, z0, hi, hz0, hz1, hz2, hzs⟩ := infoOf info27
  have HC19 := Lib.hid (merge_any w v l h hok (by omega))
  have HT := Lib.hid hT
  clear h hok hT
  go_enter Tryd.func24, Tryd.ntmps24
  go_wp2_with (first | (go_at_call 19; go_must (refine HC19.out.mono ?_; rintro e w1 ⟨v1, E, rfl, hc1, ho1, hl1, hs1, hb1⟩; have HE := Lib.hid (And.intro hc1 (And.intro ho1 hl1)); have HSE := Lib.hid hs1; have HB1 := Lib.hid hb1; clear hc1 ho1 hl1 hs1 hb1 HC19)) | (have hZ := HSE; clear hZ; go_at_call 37; go_must (refine (targets_any w1 v1 E HSE.out HE.out.2.1).mono ?_; rintro e wt ⟨mb, F, rfl, hm2, hb2⟩; obtain ⟨S, hS⟩ : ∃ S, S = pairsOf E := ⟨_, rfl⟩; rw [← hS] at hm2; have HSS := Lib.hid hS; obtain ⟨D, hd1, hd2, hd3, hd4, hd5⟩ := hm2.map.graph KG_ne; have HD := Lib.hid (And.intro hd1 (And.intro hd2 (And.intro hd3 (And.intro hd4 hd5)))); have HTM := Lib.hid hm2; have HBT := Lib.hid (HB1.out.trans (hb2.mono HB1.out.size)); clear hd1 hd2 hd3 hd4 hd5 hm2 hb2 hS HSE)) | (have hZ := HTM; clear hZ; refine wpList_range_at _ rfl (.tmp 13) 80 rfl 83 84 Tryd.underlying80 mb (D.map KG.pair) rfl HD.out.1 ?_; intro w3 hr3 hg3 hs3; have HR3 := Lib.hid hr3; have HG3 := Lib.hid hg3; have HS3 := Lib.hid hs3; clear hr3 hg3 hs3))
  have HR0 := Lib.hid (show Comp wt w3 mb wt.heap.size S D [] (D.map KG.pair) (.slice none 0 0) [] from
    ⟨by simp, HR3.out, ⟨HG3.out.os, HG3.out.tape, HG3.out.output, by have := HS3.out; omega, fun k hk => HG3.out.block k hk (fun e => by cases e)⟩, Nat.le_refl _, World.ownsRow_nil _ _ _ _, fun rl => by simp, List.nodup_nil, by simp⟩)
  have HWT := Lib.hid (show Tab wt from HT.out.later HBT.out)
  clear HR3 HG3 HS3 HB1 HT
  simp only [Act.put, List.setIfInBounds_toArray, List.set_cons_zero, List.set_cons_succ]
  obtain ⟨r, hr⟩ : ∃ r, r = wt.heap.size := ⟨_, rfl⟩
  have HRW := Lib.hid hr
  rw [← hr] at HR0 ⊢
  clear hr
  go_loopw [3] (fun u wr => ∃ done left O, Comp wt wr mb r S D done left u O) (fun _ wr => wr.rangeLeft mb r)
  case atStart => exact ⟨_, _, _, HR0.out⟩
  case round =>
    clear HR0
    obtain ⟨wz, rfl⟩ : ∃ wz : World, wz = wr := ⟨_, rfl⟩
    obtain ⟨doneG, left, O, hC⟩ := hrel
    have HLE := Lib.hid hC.rng.left_eq
    rcases hC.rng.next 0 with ⟨h0, hrun⟩ | ⟨key, val, leftG, wn, hp, hrun, hrg, hgr, hsz, hen⟩
    · subst h0
      have HC := Lib.hid hC
      clear hC
      have hlD : O.length ≤ 768000 := by
        have h1 := HC.out.len
        have h2 := HC.out.perm.length_eq
        have h3 := HD.out.2.2.2.1
        have h4 := HE.out.2.2
        simp at h2
        omega
      have HO := Lib.hid (show ∀ rl ∈ O, rl.Ok from fun rl hrl => ((HC.out.mem rl).1 hrl).2.ok)
      have HTz := Lib.hid (HWT.out.later HC.out.blw)
      have HPZ := Lib.hid (show 0 < wt.heap.size from HWT.out.pos)
      go_wp2_with (first | (go_at_call 38; go_must (refine (sortRules_any wz _ O wt.heap.size HPZ.out HTz.out HO.out HC.out.row (by omega) HC.out.blw.size).mono ?_; rintro e w8 ⟨rfl, R, hp8, hs8, hsl8, hb8⟩; have HQ := Lib.hid (And.intro hp8 (And.intro hs8 (And.intro hsl8 hb8))); clear hp8 hs8 hsl8 hb8)))
      go_ret
      obtain ⟨hp8, hs8, hsl8, hb8⟩ := HQ.out
      refine ⟨_, E, R, rfl, HE.out.1, HE.out.2.1, HE.out.2.2, ?_, hsl8, HBT.out.trans ((HC.out.blw.trans hb8).mono HBT.out.size)⟩
      rw [← HSS.out]
      refine canonR_sorted hp8 hs8 HC.out.nod fun rl => (HC.out.mem rl).trans ⟨fun h => h.2, fun h => ⟨?_, h⟩⟩
      obtain ⟨_, h2, ⟨s, h3⟩, _⟩ := id h
      have hne : F (grpOf rl) ≠ none := fun e => h2 (by rw [← h3]; exact HTM.out.non _ e s)
      have hin : (grpOf rl, F (grpOf rl)) ∈ D := (HD.out.2.1 _).2 ⟨rfl, hne⟩
      have hpd : D.Perm doneG := perm_of_map KG_pair (by simpa using HC.out.perm)
      exact List.mem_map.2 ⟨_, hpd.mem_iff.1 hin, rfl⟩
    · have hmem : (key, val) ∈ D.map KG.pair := hC.perm.mem_iff.2 (List.mem_append_left _ (hp.mem_iff.2 (by simp)))
      obtain ⟨⟨g, o⟩, hgo, he⟩ := List.mem_map.1 hmem
      obtain ⟨ho1, ho2⟩ := (HD.out.2.1 _).1 hgo
      obtain ⟨b, hob⟩ : ∃ b, o = some b := by
        cases o with
        | none => exact absurd ho1.symm ho2
        | some b => exact ⟨b, rfl⟩
      subst hob
      obtain ⟨rfl, rfl⟩ : (.agg #[.int .i64 g.kind, .int .i64 g.cls, .int .i64 g.cond, .int .u32 g.perms] : Value) = key ∧ (.map (some b) : Value) = val := Prod.mk.inj he
      have HGO := Lib.hid (show F g = some b from ho1.symm)
      have HLL0 := Lib.hid hp
      have HCM := Lib.hid (hC.next (p := (g, some b)) hp hrg hgr hsz)
      obtain ⟨_, _, _, kI, hIF⟩ := HTM.out.inner g b HGO.out
      have hbt := hIF.lt
      obtain ⟨I, hi1, hi2, hi3, hi4, hi5⟩ := (hIF.under HCM.out.blw).graph KI_ne
      have HIF := Lib.hid (And.intro hi2 (And.intro hi3 hi5))
      have hbn : b < wn.heap.size := Nat.lt_of_lt_of_le hbt HCM.out.blw.size
      have HBN := Lib.hid hbn
      have HIA0 := Lib.hid hi1
      clear hi1 hi2 hi3 hi4 hi5 hIF hbt hbn hmem hgo he ho1 ho2 hp hrg hgr hsz hC
      go_upto_region 6 with (refine wpList_store_blk rfl 83 _ _ rfl wn.heap.size 0 (.agg #[.int .i64 g.kind, .int .i64 g.cls, .int .i64 g.cond, .int .u32 g.perms]) rfl rfl 83 _ (Whole.new wn 83 _) (by simp [Value.cells]) size83 rfl ?_; intro w4 SG4 WG4; rw [splice_all _ _ (by rfl)] at WG4; have HSG4 := Lib.hid SG4; have HG4 := Lib.hid (show Whole w4 wn.heap.size 83 #[.int .i64 g.kind, .int .i64 g.cls, .int .i64 g.cond, .int .u32 g.perms] from WG4); clear SG4 WG4 ; have HB4 := Lib.hid (((Below.refl _ wn).alloc (Nat.le_refl _) _).trans (HSG4.out.below (Nat.le_refl _))); have q5 : (Instr.makeMap 85 none).run Tryd.prog w4 = .ok (.map (some w4.heap.size)) (w4.alloc (.map #[] 0)) := rfl)
      clear q5
      obtain ⟨w5, hw5⟩ : ∃ w5, w5 = w4.alloc (.map #[] 0) := ⟨_, rfl⟩
      obtain ⟨sb, hsb⟩ : ∃ sb, sb = w4.heap.size := ⟨_, rfl⟩
      have HB5 := Lib.hid (show RowKit.Below w4.heap.size w4 w5 by rw [hw5]; exact (Below.refl _ w4).alloc (Nat.le_refl _) _)
      have HM5 := Lib.hid (show MapF KT w5 sb 0 (srcF []) by rw [hw5, hsb]; exact MapF.made (K := KT) w4)
      have HSZ5 := Lib.hid (show w5.heap.size = w4.heap.size + 1 by rw [hw5]; simp)
      have HIA := Lib.hid (show MapAt w5 Tryd.prog 3 b (I.map KI.pair) from (HIA0.out.kept (HB4.out.block _ HBN.out)).kept (HB5.out.block _ (Nat.lt_of_lt_of_le HBN.out HB4.out.size)))
      have HSB := Lib.hid hsb
      have HGB := Lib.hid (show wn.heap.size < w4.heap.size from HG4.out.lt)
      rw [← hw5, ← hsb]
      clear hw5 hsb HIA0
      go_wp2_with (refine wpList_range_at _ rfl (.tmp 21) 84 rfl 3 24 Tryd.underlying84 b (I.map KI.pair) rfl HIA.out ?_; intro w6 hr6 hg6 hs6; have HR6 := Lib.hid hr6; have HG6 := Lib.hid hg6; have HS6 := Lib.hid hs6; clear hr6 hg6 hs6)
      obtain ⟨r2, hr2⟩ : ∃ r2, r2 = w5.heap.size := ⟨_, rfl⟩
      have HSR := Lib.hid (show Srcs w4 w6 b sb w5.heap.size I [] (I.map KI.pair) from
        ⟨by simp, HR6.out, HM5.out.kept (HG6.out.block _ HM5.out.lt (fun e => by cases e)), HB5.out.trans ⟨HG6.out.os, HG6.out.tape, HG6.out.output, by have := HS6.out; omega, fun k hk => HG6.out.block k (by have := HSZ5.out; omega) (fun e => by cases e)⟩, by rw [HSB.out]; exact Nat.le_refl _, by have := HSZ5.out; omega, by have := HSZ5.out; have := HSB.out; omega, by have := HBN.out; have := HGB.out; omega⟩)
      have HR2 := Lib.hid hr2
      rw [← hr2] at HSR
      simp only [Act.put, List.setIfInBounds_toArray, List.set_cons_zero, List.set_cons_succ]
      rw [← hr2]
      clear HR6 HG6 HS6 hr2 HM5 HIA
      go_loopw [24] (fun _ wr => ∃ done left, Srcs w4 wr b sb r2 I done left) (fun _ wr => wr.rangeLeft b r2)
      case atStart => exact ⟨_, _, HSR.out⟩
      case round =>
        clear HSR
        obtain ⟨wy, rfl⟩ : ∃ wy : World, wy = wr := ⟨_, rfl⟩
        obtain ⟨done, left1, hS⟩ := hrel
        have HLE1 := Lib.hid hS.rng.left_eq
        rcases hS.rng.next 0 with ⟨h0, hrun⟩ | ⟨key, val, left', wq, hp, hrun, hrg, hgr, hsz, hen⟩
        · subst h0
          obtain ⟨D2, hd1, hd2, hd3, hd4, hd5⟩ := hS.map.graph KT_ne
          have HD2 := Lib.hid (And.intro hd1 (And.intro hd2 (And.intro hd3 (And.intro hd4 hd5))))
          have HS1 := Lib.hid hS
          have HPI := Lib.hid (show I.Perm done from perm_of_map KI_pair (by simpa using hS.perm))
          clear hd1 hd2 hd3 hd4 hd5 hS
          have hl2 : D2.length ≤ 256 := Nat.le_trans HD2.out.2.2.2.1 (by rw [← HPI.out.length_eq]; exact keys_short HIF.out.2.1 (fun p hp => (HIF.out.2.2 p hp).1))
          have HL2 := Lib.hid hl2
          clear hl2
          go_wp2_with (have hZ := HD2; clear hZ; refine wpList_range_at _ rfl (.tmp 35) 85 rfl 24 24 Tryd.underlying85 sb (D2.map KT.pair) rfl HD2.out.1 ?_; intro w9 hr9 hg9 hs9; have HR9 := Lib.hid hr9; have HG9 := Lib.hid hg9; have HS9 := Lib.hid hs9; clear hr9 hg9 hs9)
          have hB9 : RowKit.Below wy.heap.size wy w9 := ⟨HG9.out.os, HG9.out.tape, HG9.out.output, by have := HS9.out; omega, fun k hk => HG9.out.block k hk (fun e => by cases e)⟩
          have hB49 := HS1.out.blw.trans (hB9.mono HS1.out.blw.size)
          have HC9 := Lib.hid (HCM.out.under (HB4.out.trans (hB49.mono HB4.out.size)))
          have HO9 := Lib.hid (show Outs wt w9 wn.heap.size sb wy.heap.size mb r g D leftG D2 [] (D2.map KT.pair) _ O from
            ⟨by simp, HR9.out, Whole.under hB49 HG4.out HG4.out.lt, HC9.out.rng, HC9.out.blw, by simpa using HC9.out.row, by have := HCM.out.blw.size; have := HB4.out.size; have := HS1.out.blw.size; omega, by have := HG4.out.lt; have := HS1.out.blw.size; omega, by have := HCM.out.rng.lt; have := HB4.out.size; have := HS1.out.blw.size; omega, by have := HCM.out.rng.map.lt; have := HB4.out.size; have := HS1.out.blw.size; omega⟩)
          have HFIN := Lib.hid (And.intro HC9.out (And.intro HPI.out (And.intro HD2.out.2.1 HD2.out.2.2.1)))
          obtain ⟨gb, hgb⟩ : ∃ gb, gb = wn.heap.size := ⟨_, rfl⟩
          obtain ⟨r3, hr3⟩ : ∃ r3, r3 = wy.heap.size := ⟨_, rfl⟩
          rw [← hgb, ← hr3] at HO9
          simp only [Act.put, List.setIfInBounds_toArray, List.set_cons_zero, List.set_cons_succ]
          rw [← hgb, ← hr3]
          clear hgb hr3 hB9 hB49 HC9 HR9 HG9 HS9 HS1 HPI HD2 HG4 HSG4 HCM HB4 HB5
          go_loopw [3] (fun u wr => ∃ done2 left, Outs wt wr gb sb r3 mb r g D leftG D2 done2 left u O) (fun _ wr => wr.rangeLeft sb r3)
          case atStart => exact ⟨_, _, HO9.out⟩
          case round =>
            clear HO9
            obtain ⟨done2, left2, hO⟩ := hrel
            have HLE2 := Lib.hid hO.rng.left_eq
            rcases hO.rng.next 0 with ⟨h0, hrun⟩ | ⟨key, val, left', wp, hp, hrun, hrg, hgr, hsz, hen⟩
            · subst h0
              have HCF := Lib.hid (hO.fin HFIN.out.1 HD.out.2.2.1 (fun p => (HFIN.out.2.1.mem_iff.symm).trans (HIF.out.1 p)) HFIN.out.2.2.1 (List.Pairwise.of_map Prod.fst (fun a b hab e => hab (congrArg Prod.fst e)) HFIN.out.2.2.2) HL2.out)
              clear hO
              go_wp2_with fail
              obtain ⟨O2, hO2⟩ := HCF.out
              have HO2 := Lib.hid hO2
              clear hO2
              go_roundw
              case rel => (repeat apply Exists.intro); first | exact HO2.out | exact ⟨HO2.out, rfl⟩ | exact ⟨⟨_, _, _, HO2.out⟩, rfl⟩
              case measure =>
                have h1 := HO2.out.rng.left_eq
                have h2 := HLL0.out.length_eq
                have h3 := HLE.out
                simp only [List.length_cons] at h2
                omega
            · have hmem : (key, val) ∈ D2.map KT.pair := hO.perm.mem_iff.2 (List.mem_append_left _ (hp.mem_iff.2 (by simp)))
              obtain ⟨⟨t, s2⟩, -, he⟩ := List.mem_map.1 hmem
              obtain ⟨rfl, rfl⟩ : (.agg #[.int .u64 t.a, .int .u64 t.b, .int .u64 t.c, .int .u64 t.d] : Value) = key ∧ (.agg #[.int .u64 s2.a, .int .u64 s2.b, .int .u64 s2.c, .int .u64 s2.d] : Value) = val := Prod.mk.inj he
              have HM := Lib.hid (hO.next (p := (t, s2)) hp hrg hgr hsz)
              have HLL := Lib.hid (And.intro hp hsz)
              have hsm : (O ++ done2.map (mkR g)).length ≤ 1000000 := by
                have h1 := HFIN.out.1.len
                have h2 := HFIN.out.1.perm.length_eq
                have h3 := HD.out.2.2.2.1
                have h4 := HE.out.2.2
                have h5 := hO.perm.length_eq
                have h6 := HL2.out
                simp at h2 h5 ⊢
                omega
              clear hmem he hp hrg hgr hsz hO
              go_wp2_with (first | (refine wpList_store_blk rfl 24 _ _ rfl wp.heap.size 0 (.agg #[.int .u64 t.a, .int .u64 t.b, .int .u64 t.c, .int .u64 t.d]) rfl rfl 24 _ ((Whole.new wp 24 _).alloc _) (by simp [Value.cells]) size24 rfl ?_; intro wa Sa Wa; rw [splice_all _ _ (by rfl)] at Wa; have HSa := Lib.hid Sa; have HTa := Lib.hid (show Whole wa wp.heap.size 24 #[.int .u64 t.a, .int .u64 t.b, .int .u64 t.c, .int .u64 t.d] from Wa); clear Sa Wa) | (have hZ := HTa; clear hZ; refine wpList_store_blk rfl 24 _ _ rfl (wp.heap.size + 1) 0 (.agg #[.int .u64 s2.a, .int .u64 s2.b, .int .u64 s2.c, .int .u64 s2.d]) rfl rfl 24 _ (HSa.out.whole (whole_two wp _ _ _) (by omega)) (by simp [Value.cells]) size24 rfl ?_; intro wb Sb Wb; rw [splice_all _ _ (by rfl)] at Wb; have HSb := Lib.hid Sb; have HTb := Lib.hid (show Whole wb (wp.heap.size + 1) 24 #[.int .u64 s2.a, .int .u64 s2.b, .int .u64 s2.c, .int .u64 s2.d] from Wb); have HB6 := Lib.hid (two_b6 HSa.out HSb.out); clear Sb Wb; have a0 : wb.cell? ⟨wp.heap.size, 0, none⟩ = some (.int .u64 t.a) := (HSb.out.whole HTa.out (by omega)).cell 0; have a1 : wb.cell? ⟨wp.heap.size, 1, none⟩ = some (.int .u64 t.b) := (HSb.out.whole HTa.out (by omega)).cell 1; have a2 : wb.cell? ⟨wp.heap.size, 2, none⟩ = some (.int .u64 t.c) := (HSb.out.whole HTa.out (by omega)).cell 2; have a3 : wb.cell? ⟨wp.heap.size, 3, none⟩ = some (.int .u64 t.d) := (HSb.out.whole HTa.out (by omega)).cell 3; have b0 : wb.cell? ⟨wp.heap.size + 1, 0, none⟩ = some (.int .u64 s2.a) := HTb.out.cell 0; have b1 : wb.cell? ⟨wp.heap.size + 1, 1, none⟩ = some (.int .u64 s2.b) := HTb.out.cell 1; have b2 : wb.cell? ⟨wp.heap.size + 1, 2, none⟩ = some (.int .u64 s2.c) := HTb.out.cell 2; have b3 : wb.cell? ⟨wp.heap.size + 1, 3, none⟩ = some (.int .u64 s2.d) := HTb.out.cell 3; have c0 : wb.cell? ⟨gb, 0, none⟩ = some (.int .i64 g.kind) := (Whole.under HB6.out HM.out.box HM.out.box.lt).cell 0; have c1 : wb.cell? ⟨gb, 1, none⟩ = some (.int .i64 g.cls) := (Whole.under HB6.out HM.out.box HM.out.box.lt).cell 1; have c2 : wb.cell? ⟨gb, 2, none⟩ = some (.int .i64 g.cond) := (Whole.under HB6.out HM.out.box HM.out.box.lt).cell 2; have c3 : wb.cell? ⟨gb, 3, none⟩ = some (.int .u32 g.perms) := (Whole.under HB6.out HM.out.box HM.out.box.lt).cell 3) | (have hZ := HTb; clear hZ; at_builtin; go_must (refine wpList_append_own _ rfl _ _ 41 rfl wt.heap.size 27 i0 z0 13 104 Tryd.underlying41 hi hz0 hz1 hz2 hzs (by decide) _ _ _ rfl (own_alloc (HM.out.own HB6.out) _) ⟨wb.heap.size, 0, none⟩ 1 1 [.int .i64 g.kind, .int .u64 s2.a, .int .u64 s2.b, .int .u64 s2.c, .int .u64 s2.d, .int .u64 t.a, .int .u64 t.b, .int .u64 t.c, .int .u64 t.d, .bool false, .int .i64 g.cls, .int .u32 g.perms, .int .i64 g.cond] rfl rfl (row_new _ _ _) ?c2 ?c3 ?c4 ?c5 ?_)))
              case c2 => simp [Value.oneCell']
              case c3 => unfold maxLen; omega
              case c4 => omega
              case c5 => have := HM.out.blw.size; have := HB6.out.size; simp; omega
              intro v' w10 hown' hgrow hnil
              have HN9 := Lib.hid (HM.out.more HB6.out (by simpa [mkR, ARule.cells] using hown') hgrow)
              clear hgrow hnil hown' a0 a1 a2 a3 b0 b1 b2 b3 c0 c1 c2 c3
              go_wp2
              go_roundw
              case rel => (repeat apply Exists.intro); first | exact HN9.out | exact ⟨HN9.out, rfl⟩ | exact ⟨⟨_, _, HN9.out⟩, rfl⟩
              case measure =>
                have h1 := HN9.out.rng.left_eq
                have h2 := HLL.out.1.length_eq
                have h3 := HLE2.out
                simp only [List.length_cons] at h2
                omega
        · have hmem : (key, val) ∈ I.map KI.pair := hS.perm.mem_iff.2 (List.mem_append_left _ (hp.mem_iff.2 (by simp)))
          obtain ⟨⟨s, t⟩, hst, he⟩ := List.mem_map.1 hmem
          obtain ⟨rfl, rfl⟩ : (.int .i64 s : Value) = key ∧ (.agg #[.int .u64 t.a, .int .u64 t.b, .int .u64 t.c, .int .u64 t.d] : Value) = val := Prod.mk.inj he
          have HST := Lib.hid (show t.Ok ∧ 0 ≤ s ∧ s < 256 from ⟨(HIF.out.2.2 _ hst).2.1, (HIF.out.2.2 _ hst).1⟩)
          have HM := Lib.hid (hS.next (p := (s, t)) hp hrg hgr hsz)
          have HLL := Lib.hid (And.intro hp hsz)
          clear hmem hst he hp hrg hgr hsz hS
          go_upto_region 9 with (refine wpList_store_blk rfl 24 _ _ rfl wq.heap.size 0 (.agg #[.int .u64 t.a, .int .u64 t.b, .int .u64 t.c, .int .u64 t.d]) rfl rfl 24 _ (Whole.new wq 24 _) (by simp [Value.cells]) size24 rfl ?_; intro w7 ST7 WT7; rw [splice_all _ _ (by rfl)] at WT7; have HST7 := Lib.hid ST7; have HT7 := Lib.hid (show Whole w7 wq.heap.size 24 #[.int .u64 t.a, .int .u64 t.b, .int .u64 t.c, .int .u64 t.d] from WT7); clear ST7 WT7 ; have HB7 := Lib.hid (((Below.refl _ wq).alloc (Nat.le_refl _) _).trans (HST7.out.below (Nat.le_refl _))))
          have HM7 := Lib.hid (HM.out.map.under HB7.out)
          obtain ⟨z, hz⟩ : ∃ z, z = srcF done t := ⟨_, rfl⟩
          have HZ := Lib.hid hz
          clear hz
          refine wp_region_last (fun w w' => Below w.heap.size w w') [some 28, some 29, some 30, some 31, some 32, some 33, some 34] [isV (.map (some sb)), isV (.agg #[.int .u64 t.a, .int .u64 t.b, .int .u64 t.c, .int .u64 t.d]), isV (.map (some sb)), isV (.agg #[.int .u64 t.a, .int .u64 t.b, .int .u64 t.c, .int .u64 t.d]), isV (.agg #[.int .u64 z.a, .int .u64 z.b, .int .u64 z.c, .int .u64 z.d]), isV (.int .i64 s), isV (.agg #[.int .u64 (z.with s).a, .int .u64 (z.with s).b, .int .u64 (z.with s).c, .int .u64 (z.with s).d])] (fun _ w' => RowKit.Below w7.heap.size w7 w') 7 (by kernel_rfl) (by kernel_rfl) (by kernel_rfl) rfl (by decide) rfl rfl ((Below.refl _ _).drew) ⟨lasts_is _, lasts_is _, lasts_is _, lasts_is _, lasts_is _, lasts_is _, lasts_is _, trivial⟩ ⟨(fun _ => lastsR_is _), (fun _ => lastsR_is _), (fun _ => lastsR_is _), (fun _ => lastsR_is _), (fun _ => lastsR_is _), (fun _ => lastsR_is _), (fun _ => lastsR_is _), trivial⟩ ⟨?_, ?_, ?_, ?_, ?_, ?_, ?_, ?_⟩
          · intro L a wx Q' hL hi H F hK
            try dsimp only at hi
            have h6 : a.tmps[6]? = some (.map (some sb)) := F 6 rfl
            have HI := Lib.hid hi
            clear H F hi hL
            go_wp2_with fail
            exact hK _ _ (Below.refl _ _) HI.out rfl
          · intro L a wx Q' hL hi H F hK
            try dsimp only at hi
            have h8 : a.tmps[8]? = some (.pointer (some ⟨wq.heap.size, 0, none⟩)) := F 8 rfl
            have HI := Lib.hid hi
            clear H F hi hL
            have kq0 : wx.cell? ⟨wq.heap.size, 0, none⟩ = some (.int .u64 t.a) := (Whole.under HI.out HT7.out (Whole.lt HT7.out)).cell 0
            have kq1 : wx.cell? ⟨wq.heap.size, 1, none⟩ = some (.int .u64 t.b) := (Whole.under HI.out HT7.out (Whole.lt HT7.out)).cell 1
            have kq2 : wx.cell? ⟨wq.heap.size, 2, none⟩ = some (.int .u64 t.c) := (Whole.under HI.out HT7.out (Whole.lt HT7.out)).cell 2
            have kq3 : wx.cell? ⟨wq.heap.size, 3, none⟩ = some (.int .u64 t.d) := (Whole.under HI.out HT7.out (Whole.lt HT7.out)).cell 3
            go_wp2_with fail
            exact hK _ _ (Below.refl _ _) HI.out rfl
          · intro L a wx Q' hL hi H F hK
            try dsimp only at hi
            have h6 : a.tmps[6]? = some (.map (some sb)) := F 6 rfl
            have HI := Lib.hid hi
            clear H F hi hL
            go_wp2_with fail
            exact hK _ _ (Below.refl _ _) HI.out rfl
          · intro L a wx Q' hL hi H F hK
            try dsimp only at hi
            have h8 : a.tmps[8]? = some (.pointer (some ⟨wq.heap.size, 0, none⟩)) := F 8 rfl
            have HI := Lib.hid hi
            clear H F hi hL
            have kq0 : wx.cell? ⟨wq.heap.size, 0, none⟩ = some (.int .u64 t.a) := (Whole.under HI.out HT7.out (Whole.lt HT7.out)).cell 0
            have kq1 : wx.cell? ⟨wq.heap.size, 1, none⟩ = some (.int .u64 t.b) := (Whole.under HI.out HT7.out (Whole.lt HT7.out)).cell 1
            have kq2 : wx.cell? ⟨wq.heap.size, 2, none⟩ = some (.int .u64 t.c) := (Whole.under HI.out HT7.out (Whole.lt HT7.out)).cell 2
            have kq3 : wx.cell? ⟨wq.heap.size, 3, none⟩ = some (.int .u64 t.d) := (Whole.under HI.out HT7.out (Whole.lt HT7.out)).cell 3
            go_wp2_with fail
            exact hK _ _ (Below.refl _ _) HI.out rfl
          · intro L a wx Q' hL hi H F hK
            try dsimp only at hi
            obtain ⟨_, h30, rfl⟩ := H 2 ⟨.data, by simp, rfl⟩ _ rfl
            replace h30 := h30 _ rfl
            obtain ⟨_, h31, rfl⟩ := H 3 ⟨.data, by simp, rfl⟩ _ rfl
            replace h31 := h31 _ rfl
            have HI := Lib.hid hi
            clear H F hi hL
            have q : (Instr.lookup 85 (.map (some sb)) (.agg #[.int .u64 t.a, .int .u64 t.b, .int .u64 t.c, .int .u64 t.d]) false).run Tryd.prog wx = .ok (.agg #[.int .u64 z.a, .int .u64 z.b, .int .u64 z.c, .int .u64 z.d]) wx := by have h := (HM7.out.under HI.out).look (k := t) HST.out.1; rw [← HZ.out] at h; exact h
            go_wp2_with fail
            exact hK _ _ (Below.refl _ _) HI.out rfl
          · intro L a wx Q' hL hi H F hK
            try dsimp only at hi
            have h7 : a.tmps[7]? = some (.int .i64 s) := F 7 rfl
            have HI := Lib.hid hi
            clear H F hi hL
            go_wp2_with fail
            exact hK _ _ (Below.refl _ _) HI.out rfl
          · intro L a wx Q' hL hi H F hK
            try dsimp only at hi
            obtain ⟨_, h32, rfl⟩ := H 4 ⟨.data, by simp, rfl⟩ _ rfl
            replace h32 := h32 _ rfl
            obtain ⟨_, h33, rfl⟩ := H 5 ⟨.data, by simp, rfl⟩ _ rfl
            replace h33 := h33 _ rfl
            have HI := Lib.hid hi
            clear H F hi hL
            go_wp2_with (go_at_call 27; go_must (refine (with_any wx z (by rw [HZ.out]; exact srcF_ok _ _) s).mono ?_; rintro e w1 ⟨rfl, hb1⟩))
            exact hK _ _ hb1 (HI.out.trans (hb1.mono HI.out.size)) rfl
          · intro a wx hl L hi hL Q' hK
            try dsimp only at hi
            have HB := Lib.hid hi
            clear hi hL
            obtain ⟨_, rfl, _, rfl, _, rfl, _, rfl, _, rfl, _, rfl, _, rfl, rfl⟩ := hl
            simp only [List.setIfInBounds_toArray, List.set_cons_zero, List.set_cons_succ]
            go_wp2_with (refine wpList_put _ rfl (.tmp 28) (.tmp 29) (.tmp 34) 85 rfl (.map (some sb)) (.agg #[.int .u64 t.a, .int .u64 t.b, .int .u64 t.c, .int .u64 t.d]) (.agg #[.int .u64 (z.with s).a, .int .u64 (z.with s).b, .int .u64 (z.with s).c, .int .u64 (z.with s).d]) rfl rfl rfl (fun w' => MapF KT w' sb (done.length + 1) (fun x => if x = t then (srcF done t).with s else srcF done x) ∧ wx.grownBy w' (some sb) ∧ w'.heap.size = wx.heap.size) (by have h := (HM7.out.under HB.out).put (k := t) (v := (srcF done t).with s) HST.out.1 ⟨ASet.with_ok (srcF_ok _ _) _, with_ne HST.out.2⟩; rw [← HZ.out] at h ⊢; exact h) ?_; intro w9 hp; have HP := Lib.hid hp; clear hp)
            have HN9 := Lib.hid (HM.out.step (p := (s, t)) (HB7.out.trans (HB.out.mono HB7.out.size)) HP.out.1 HP.out.2.1 HP.out.2.2)
            go_roundw
            case rel => (repeat apply Exists.intro); first | exact HN9.out | exact ⟨HN9.out, rfl⟩ | exact ⟨⟨_, _, HN9.out⟩, rfl⟩
            case measure =>
              have h1 := HN9.out.rng.left_eq
              have h2 := HLL.out.1.length_eq
              have h3 := HLE1.out
              simp only [List.length_cons] at h2
              omega
end Go.Proofs.YtmkfabdkadocdaaDoor

import Derived.Test.YtmkfabdkadocdaaDoorPX
import Derived.Test.YtmkfabdkadocdaaDoorP6
import Derived.Test.YtmkfabdkadocdaaDoorN4
import Derived.Test.YtmkfabdkadocdaaDoorG
/-
  The reference's Entries.
-/
namespace Go.Proofs.YtmkfabdkadocdaaDoor
open Go Go.WideMaps Go.RowKit Go.Sort

theorem upd_was' {L : Nat → Bool} {i j : Nat} (h : upd L i j = false) : L j = false := by
  unfold upd at h
  cases hx : L j with
  | false => rfl
  | true => rw [hx] at h; simp at h
theorem own_types {w : World} {b1 b2 k1 k2 n1 n2 : Nat} {t1 t2 : TypeId} {v1 v2 : Value} {x1 x2 : List Value} (h1 : w.ownsRow b1 t1 k1 v1 n1 x1) (h2 : w.ownsRow b2 t2 k2 v2 n2 x2) (hne : t1 ≠ t2) : v1.ownBlock = none ∨ v1.ownBlock ≠ v2.ownBlock := by
  cases e : v1.ownBlock with
  | none => exact .inl rfl
  | some g =>
    refine .inr fun h => ?_
    obtain ⟨_, c1, hc1⟩ := own_at h1 e
    obtain ⟨_, c2, hc2⟩ := own_at h2 h.symm
    rw [hc1] at hc2
    cases hc2
    exact hne rfl
theorem own_cells {w : World} {base n k pc i : Nat} {t : TypeId} {pa : Option Addr} {xs : List Value} (h : w.ownsRow base t k (.slice pa n pc) n xs) (h1 : ∀ u ∈ xs, u.oneCell' = true) (hk : 0 < k) (hi : i < n) :
    ∃ b off, pa = some ⟨b, off, none⟩ ∧ ∀ j u, xs[i * k + j]? = some u → w.cell? ⟨b, off + i * k + j, none⟩ = some u := by
  obtain ⟨a, c, e, _, _, hc⟩ := (SliceAt.of_own h h1).form hk
  cases e
  exact hc i hi
theorem kvR_ok {l : List ARule} (h : ∀ r ∈ l, r.Wf) {x : AEntry} (hx : x ∈ (kvR l).map mkP) : x.Ok := by
  obtain ⟨p, hp, rfl⟩ := List.mem_map.1 hx
  unfold kvR ruleKV at hp
  obtain ⟨r, hr, hp⟩ := List.mem_flatMap.1 hp
  obtain ⟨q, hq, rfl⟩ := List.mem_map.1 hp
  exact ⟨(h r hr).key hq, (h r hr).vec⟩
/-- What has been gathered. -/
def GathE (bs : Nat) (M : List (Key4 × AVec)) (u : Value) (wr : World) : Prop := wr.ownsRow bs 61 7 u M.length ((M.map mkP).flatMap AEntry.cells)
structure GLen (L : List (Key4 × AVec)) (r : ARule) (j m : Nat) (FC : List Value) (V : AVec) : Prop where
  len : m = (L ++ ruleKV r (r.pairs.take j)).length
  cells : FC = ((L ++ ruleKV r (r.pairs.take j)).map mkP).flatMap AEntry.cells
  vec : V = vecOf r.kind r.perms
theorem GLen.next {L : List (Key4 × AVec)} {r : ARule} {j m : Nat} {FC : List Value} {V : AVec} {y : Nat × Nat} (hf : GLen L r j m FC V) (hy : r.pairs[j]? = some y) {bs : Nat} {u : Value} {w : World} (h : w.ownsRow bs 61 7 u (m + 1) (FC ++ [.int .i64 (y.1 : Int), .int .i64 (y.2 : Int), .int .i64 r.cls, .int .i64 r.cond, .int .u32 V.allow, .int .u32 V.audit, .int .u32 V.dont])) : GathE bs (L ++ ruleKV r (r.pairs.take (j + 1))) u w := by
  have e : L ++ ruleKV r (r.pairs.take (j + 1)) = (L ++ ruleKV r (r.pairs.take j)) ++ [(pkey r y, vecOf r.kind r.perms)] := by
    unfold ruleKV
    rw [take_snoc hy, List.map_append, List.map_singleton, List.append_assoc]
  unfold GathE
  rw [e, List.length_append, List.map_append, List.flatMap_append, ← hf.len, ← hf.cells, ← hf.vec]
  exact h

set_option maxRecDepth 100000 in
set_option maxHeartbeats 8000000 in
theorem refEntries_any (w : World) (a0 a1 a2 a3 a4 a5 a6 a7 a8 v a10 a11 a12 a13 a14 a15 a16 : Value) (l : List ARule) (h : SliceAt w v 13 l.length (l.flatMap ARule.cells)) (hok : ∀ r ∈ l, r.Wf) (hlen : l.length ≤ 1000) :
    Calls Tryd.prog 15 #[.agg #[a0, a1, a2, a3, a4, a5, a6, a7, a8, v, a10, a11, a12, a13, a14, a15, a16]] w fun e w' => ∃ v' l', e = .returned v' ∧ Canon (accum (kvR l)) l' ∧ l'.length ≤ 65536000 ∧ SliceAt w' v' 7 l'.length (l'.flatMap AEntry.cells) ∧ RowKit.Below w.heap.size w w' := by
  obtain ⟨i0, z0, hi0, hz0, hz1, hz2, hzs⟩ := infoOf info61
  obtain ⟨n, hn⟩ : ∃ n, n = l.length := ⟨_, rfl⟩
  obtain ⟨a, c, rfl, hc, hmx, hcell⟩ := h.form (by decide)
  have HL := Lib.hid hn
  have HC := Lib.hid (And.intro hcell hc)
  have HOK := Lib.hid hok
  rw [← hn] at hlen hmx hc
  simp only [← hn]
  clear hn hcell h hok
  obtain ⟨wo, hwo⟩ : ∃ wo, wo = w.alloc (.cells #[a0, a1, a2, a3, a4, a5, a6, a7, a8, .slice a n c, a10, a11, a12, a13, a14, a15, a16] 50) := ⟨_, rfl⟩
  obtain ⟨bs, hbs⟩ : ∃ bs, bs = wo.heap.size := ⟨_, rfl⟩
  have HWO := Lib.hid (show RowKit.Below w.heap.size w wo by rw [hwo]; exact (Below.refl _ w).alloc (Nat.le_refl _) _)
  have HPO0 := Lib.hid (show Whole wo w.heap.size 50 #[a0, a1, a2, a3, a4, a5, a6, a7, a8, .slice a n c, a10, a11, a12, a13, a14, a15, a16] by rw [hwo]; exact Whole.new w 50 _)
  have HLT := Lib.hid (show w.heap.size < bs by rw [hbs, hwo]; simp)
  have HB0 := Lib.hid (show bs ≤ wo.heap.size by rw [hbs]; exact Nat.le_refl _)
  clear hbs
  go_enter Tryd.func15, Tryd.ntmps15
  go_upto_region 1 with fail
  rw [← hwo]
  clear hwo
  go_wp2
  go_loopw [4, 3] (fun i u wr => ∃ k : Nat, k ≤ n ∧ i = .int .i64 k ∧ GathE bs (kvR (l.take k)) u wr ∧ RowKit.Below bs wo wr) (fun i _ _ => n - (intOf i).toNat)
  case atStart => exact ⟨0, Nat.zero_le _, rfl, by simpa [kvR, GathE] using World.ownsRow_nil wo bs 61 7, Below.refl _ _⟩
  case round =>
    obtain ⟨wz, rfl⟩ : ∃ wz : World, wz = wr := ⟨_, rfl⟩
    obtain ⟨i, hi, rfl, hG, hB⟩ := hrel
    have HG0 := Lib.hid hG
    have HBZ := Lib.hid hB
    have HPZ := Lib.hid (Whole.under hB HPO0.out HLT.out)
    have HSZ := Lib.hid (Nat.le_trans HB0.out hB.size)
    have HWZ := Lib.hid (HWO.out.trans (hB.mono (Nat.le_of_lt HLT.out)))
    clear hG hB
    have k9 : wz.cell? ⟨w.heap.size, 9, none⟩ = some (.slice a n c) := HPZ.out.cell 9
    by_cases hlt : i < n
    · have hln : i < l.length := by rw [← HL.out]; exact hlt
      obtain ⟨r, hr⟩ : ∃ r, l[i]? = some r := ⟨_, List.getElem?_eq_getElem hln⟩
      have HRI := Lib.hid hr
      have HRK := Lib.hid (HOK.out r (List.mem_of_getElem? hr))
      obtain ⟨b, off, rfl, hcl⟩ := HC.out.1 i hln
      have e0 : wz.cell? ⟨b, off + i * 13, none⟩ = some (.int .i64 r.kind) := cell_later HWZ.out (hcl 0 _ (by rw [flat_at rule_len hr 0 (by decide)]; rfl))
      have e1 : wz.cell? ⟨b, off + i * 13 + 1, none⟩ = some (.int .u64 r.src.a) := cell_later HWZ.out (hcl 1 _ (by rw [flat_at rule_len hr 1 (by decide)]; rfl))
      have e2 : wz.cell? ⟨b, off + i * 13 + 2, none⟩ = some (.int .u64 r.src.b) := cell_later HWZ.out (hcl 2 _ (by rw [flat_at rule_len hr 2 (by decide)]; rfl))
      have e3 : wz.cell? ⟨b, off + i * 13 + 3, none⟩ = some (.int .u64 r.src.c) := cell_later HWZ.out (hcl 3 _ (by rw [flat_at rule_len hr 3 (by decide)]; rfl))
      have e4 : wz.cell? ⟨b, off + i * 13 + 4, none⟩ = some (.int .u64 r.src.d) := cell_later HWZ.out (hcl 4 _ (by rw [flat_at rule_len hr 4 (by decide)]; rfl))
      have e5 : wz.cell? ⟨b, off + i * 13 + 5, none⟩ = some (.int .u64 r.tgt.a) := cell_later HWZ.out (hcl 5 _ (by rw [flat_at rule_len hr 5 (by decide)]; rfl))
      have e6 : wz.cell? ⟨b, off + i * 13 + 6, none⟩ = some (.int .u64 r.tgt.b) := cell_later HWZ.out (hcl 6 _ (by rw [flat_at rule_len hr 6 (by decide)]; rfl))
      have e7 : wz.cell? ⟨b, off + i * 13 + 7, none⟩ = some (.int .u64 r.tgt.c) := cell_later HWZ.out (hcl 7 _ (by rw [flat_at rule_len hr 7 (by decide)]; rfl))
      have e8 : wz.cell? ⟨b, off + i * 13 + 8, none⟩ = some (.int .u64 r.tgt.d) := cell_later HWZ.out (hcl 8 _ (by rw [flat_at rule_len hr 8 (by decide)]; rfl))
      have e9 : wz.cell? ⟨b, off + i * 13 + 9, none⟩ = some (.bool r.self) := cell_later HWZ.out (hcl 9 _ (by rw [flat_at rule_len hr 9 (by decide)]; rfl))
      have e10 : wz.cell? ⟨b, off + i * 13 + 10, none⟩ = some (.int .i64 r.cls) := cell_later HWZ.out (hcl 10 _ (by rw [flat_at rule_len hr 10 (by decide)]; rfl))
      have e11 : wz.cell? ⟨b, off + i * 13 + 11, none⟩ = some (.int .u32 r.perms) := cell_later HWZ.out (hcl 11 _ (by rw [flat_at rule_len hr 11 (by decide)]; rfl))
      have e12 : wz.cell? ⟨b, off + i * 13 + 12, none⟩ = some (.int .i64 r.cond) := cell_later HWZ.out (hcl 12 _ (by rw [flat_at rule_len hr 12 (by decide)]; rfl))
      have HXC0 := Lib.hid (show ∀ wy, RowKit.Below bs wz wy → ∀ j q, ([.int .i64 r.kind, .int .u64 r.src.a, .int .u64 r.src.b, .int .u64 r.src.c, .int .u64 r.src.d, .int .u64 r.tgt.a, .int .u64 r.tgt.b, .int .u64 r.tgt.c, .int .u64 r.tgt.d, .bool r.self, .int .i64 r.cls, .int .u32 r.perms, .int .i64 r.cond] : List Value)[j]? = some q → wy.cell? ⟨b, off + i * 13 + j, none⟩ = some q from fun wy hb j q hq => cell_later (HWZ.out.trans (hb.mono (Nat.le_of_lt HLT.out))) (hcl j q (by
        have hj : j < 13 := (List.getElem?_eq_some_iff.1 hq).1
        rw [flat_at rule_len hr j hj]; exact hq)))
      clear hr hcl hln
      obtain ⟨V, hV⟩ : ∃ V, V = vecOf r.kind r.perms := ⟨_, rfl⟩
      have HV := Lib.hid hV
      have HCV := Lib.hid (show ∀ W (p q : Int), Calls Tryd.prog 31 #[.agg #[.int .i64 r.kind, .int .u64 r.src.a, .int .u64 r.src.b, .int .u64 r.src.c, .int .u64 r.src.d, .int .u64 r.tgt.a, .int .u64 r.tgt.b, .int .u64 r.tgt.c, .int .u64 r.tgt.d, .bool r.self, .int .i64 r.cls, .int .u32 r.perms, .int .i64 r.cond], .agg #[.int .i64 p, .int .i64 q]] W fun e w' => e = .returned (.agg #[.int .i64 p, .int .i64 q, .int .i64 r.cls, .int .i64 r.cond, .int .u32 V.allow, .int .u32 V.audit, .int .u32 V.dont]) ∧ RowKit.Below W.heap.size W w' from fun W p q => by rw [hV]; exact entry_any W r p q)
      clear hV
      obtain ⟨pn, hpn⟩ : ∃ pn, pn = r.pairs.length := ⟨_, rfl⟩
      have HPN := Lib.hid hpn
      have hpl : pn ≤ 65536 := by rw [hpn]; exact pairs_len r
      have HCR := Lib.hid (show Calls Tryd.prog 12 #[.agg #[.int .i64 r.kind, .int .u64 r.src.a, .int .u64 r.src.b, .int .u64 r.src.c, .int .u64 r.src.d, .int .u64 r.tgt.a, .int .u64 r.tgt.b, .int .u64 r.tgt.c, .int .u64 r.tgt.d, .bool r.self, .int .i64 r.cls, .int .u32 r.perms, .int .i64 r.cond]] wz fun e w' => ∃ pa pc, e = .returned (.slice pa pn pc) ∧ pn ≤ pc ∧ w'.ownsRow wz.heap.size 63 2 (.slice pa pn pc) pn (pcells r.pairs) ∧ RowKit.Below wz.heap.size wz w' from (refRule_any wz r HRK.out.ok).mono fun e w' he => by
        obtain ⟨v, rfl, ho, hb⟩ := he
        obtain ⟨pa, pc, rfl, hpc, -, -⟩ := (SliceAt.of_own ho (pcells_one _)).form (by decide)
        rw [← HPN.out] at ho hpc ⊢
        exact ⟨pa, pc, rfl, hpc, ho, hb⟩)
      clear hpn
      go_wp2_with (go_at_call 12; go_must (refine HCR.out.mono ?_; rintro e w1 ⟨pa, pc, rfl, hpc, ho1, hb1⟩; have HO1 := Lib.hid ho1; have HB1 := Lib.hid hb1; clear ho1 hb1 HCR k9 e0 e1 e2 e3 e4 e5 e6 e7 e8 e9 e10 e11 e12))
      have HG1 := Lib.hid (show GathE bs (kvR (l.take i) ++ ruleKV r (r.pairs.take 0)) _ w1 from by simpa [ruleKV, GathE] using own_keep HB1.out HG0.out (Nat.le_refl _))
      have HBI1 := Lib.hid (show RowKit.Below bs wz w1 from HB1.out.mono HSZ.out)
      go_loopw [6, 3] (fun ix u wq => ∃ j : Nat, j ≤ pn ∧ ix = .int .i64 j ∧ GathE bs (kvR (l.take i) ++ ruleKV r (r.pairs.take j)) u wq ∧ wq.ownsRow wz.heap.size 63 2 (.slice pa pn pc) pn (pcells r.pairs) ∧ RowKit.Below bs wz wq) (fun ix _ _ => pn - (intOf ix).toNat)
      case atStart => exact ⟨0, Nat.zero_le _, rfl, HG1.out, HO1.out, HBI1.out⟩
      case round =>
        clear HG1 HO1 HB1 HBI1 HG0
        obtain ⟨j, hj, rfl, hG, hP, hB⟩ := hrel
        have HG := Lib.hid hG
        have HPO := Lib.hid hP
        have HBI := Lib.hid hB
        have HBS := Lib.hid (Nat.le_trans HSZ.out hB.size)
        have HPr := Lib.hid (Whole.under hB HPZ.out HLT.out)
        clear hG hP hB
        by_cases hjl : j < pn
        · have hjp : j < r.pairs.length := by rw [← HPN.out]; exact hjl
          obtain ⟨y, hy⟩ : ∃ y, r.pairs[j]? = some y := ⟨_, List.getElem?_eq_getElem hjp⟩
          have HY := Lib.hid hy
          obtain ⟨b2, off2, rfl, hcl2⟩ := own_cells HPO.out (pcells_one _) (by decide) hjl
          have HY0 := Lib.hid (show wr.cell? ⟨b2, off2 + j * 2, none⟩ = some (.int .i64 (y.1 : Int)) from hcl2 0 _ (by unfold pcells; rw [flat_at (f := pcell) (fun _ => rfl) hy 0 (by decide)]; rfl))
          have HY1 := Lib.hid (show wr.cell? ⟨b2, off2 + j * 2 + 1, none⟩ = some (.int .i64 (y.2 : Int)) from hcl2 1 _ (by unfold pcells; rw [flat_at (f := pcell) (fun _ => rfl) hy 1 (by decide)]; rfl))
          have HXC := Lib.hid (show ∀ wy, RowKit.Below bs wr wy → ∀ j q, ([.int .i64 r.kind, .int .u64 r.src.a, .int .u64 r.src.b, .int .u64 r.src.c, .int .u64 r.src.d, .int .u64 r.tgt.a, .int .u64 r.tgt.b, .int .u64 r.tgt.c, .int .u64 r.tgt.d, .bool r.self, .int .i64 r.cls, .int .u32 r.perms, .int .i64 r.cond] : List Value)[j]? = some q → wy.cell? ⟨b, off + i * 13 + j, none⟩ = some q from fun wy hb => HXC0.out wy (HBI.out.trans hb))
          clear hy hcl2 hjp
          obtain ⟨m, hm⟩ : ∃ m, m = (kvR (l.take i) ++ ruleKV r (r.pairs.take j)).length := ⟨_, rfl⟩
          obtain ⟨FC, hFC⟩ : ∃ FC, FC = ((kvR (l.take i) ++ ruleKV r (r.pairs.take j)).map mkP).flatMap AEntry.cells := ⟨_, rfl⟩
          have HMF := Lib.hid (show GLen (kvR (l.take i)) r j m FC V from ⟨hm, hFC, HV.out⟩)
          have HOU := Lib.hid (show wr.ownsRow bs 61 7 u3 m FC by rw [hm, hFC]; exact HG.out)
          have HML := Lib.hid (show m ≤ 65536000 + 65536 by
            have h1 := kvR_len (l.take i)
            have h2 := List.length_take_le i l
            have h3 : (ruleKV r (r.pairs.take j)).length ≤ 65536 := by
              unfold ruleKV
              rw [List.length_map]
              have := List.length_take_le j r.pairs
              have := pairs_len r
              omega
            have h4 := HL.out
            rw [hm, List.length_append]
            omega)
          clear hm hFC HG HXC0
          go_upto_region 9 with fail
          refine wp_region_goods [some 26, some 27, some 28, some 29, some 30, some 31, some 32, some 33, some 34, some 35, some 36, some 37, some 38] [isW (u3), isW (.pointer (some ⟨w.heap.size, 9, none⟩)), isW (.slice (some ⟨b, off, none⟩) n c), isW (.int .i64 (i : Int)), isW (.pointer (some ⟨b, off + i * 13, none⟩)), isW (.agg #[.int .i64 r.kind, .int .u64 r.src.a, .int .u64 r.src.b, .int .u64 r.src.c, .int .u64 r.src.d, .int .u64 r.tgt.a, .int .u64 r.tgt.b, .int .u64 r.tgt.c, .int .u64 r.tgt.d, .bool r.self, .int .i64 r.cls, .int .u32 r.perms, .int .i64 r.cond]), isW (.slice (some ⟨b2, off2, none⟩) pn pc), isW (.int .i64 (j : Int)), isW (.pointer (some ⟨b2, off2 + j * 2, none⟩)), (fun L v _ => L 9 = true ∧ v = .agg #[.int .i64 (y.1 : Int), .int .i64 (y.2 : Int)]), (fun L v _ => L 9 = true ∧ v = .agg #[.int .i64 (y.1 : Int), .int .i64 (y.2 : Int), .int .i64 r.cls, .int .i64 r.cond, .int .u32 V.allow, .int .u32 V.audit, .int .u32 V.dont]), (fun L v w' => L 9 = true ∧ (L 12 = false → ∃ g, v = .slice (some ⟨g, 0, none⟩) 1 1 ∧ ∀ j q, ([.int .i64 (y.1 : Int), .int .i64 (y.2 : Int), .int .i64 r.cls, .int .i64 r.cond, .int .u32 V.allow, .int .u32 V.audit, .int .u32 V.dont] : List Value)[j]? = some q → w'.cell? ((⟨g, 0, none⟩ : Addr).add j) = some q)), (fun L v w' => w'.ownsRow bs 61 7 v (m + 1) (FC ++ [.int .i64 (y.1 : Int), .int .i64 (y.2 : Int), .int .i64 r.cls, .int .i64 r.cond, .int .u32 V.allow, .int .u32 V.audit, .int .u32 V.dont]))] (fun L w' => (L 12 = true → L 9 = true) ∧ (L 12 = false → RowKit.Below wr.heap.size wr w') ∧ RowKit.Below bs wr w' ∧ w'.ownsRow wz.heap.size 63 2 (.slice (some ⟨b2, off2, none⟩) pn pc) pn (pcells r.pairs)) [12] (by kernel_rfl) (by kernel_rfl) (by kernel_rfl) rfl (by decide) rfl rfl (⟨(fun h => by cases h), fun _ => (RowKit.Below.refl _ _).drew, (RowKit.Below.refl _ _).drew, own_keep (RowKit.Below.refl _ _).drew HPO.out (Nat.le_refl _)⟩) ⟨lastsW_is _, lastsW_is _, lastsW_is _, lastsW_is _, lastsW_is _, lastsW_is _, lastsW_is _, lastsW_is _, lastsW_is _, (fun L i v w1 w2 _ h _ => ⟨by simp [upd, h.1], h.2⟩), (fun L i v w1 w2 _ h _ => ⟨by simp [upd, h.1], h.2⟩), (fun L i v w1 w2 hi h hb => ⟨by simp [upd, h.1], fun h5 => let ⟨g, e, hr⟩ := h.2 (upd_was' h5); ⟨g, e, fun j q hq => cell_later hb (hr j q hq)⟩⟩), (fun L i v w1 w2 _ h hb => own_keep hb h (Nat.le_refl _)), trivial⟩ ⟨?_, ?_, ?_, ?_, ?_, ?_, ?_, ?_, ?_, ?_, ?_, ?_, ?_, ?_⟩
          · intro L a wy Q' hL hi H F hK
            try dsimp only at hi
            have h3 : a.tmps[3]? = some (u3) := F 3 rfl
            have HI := Lib.hid hi
            clear H F hi hL
            go_wp2_with fail
            exact hK _ _ (Below.refl _ _) HI.out rfl
          · intro L a wy Q' hL hi H F hK
            try dsimp only at hi
            have h1 : a.tmps[1]? = some (.pointer (some ⟨w.heap.size, 0, none⟩)) := F 1 rfl
            have HI := Lib.hid hi
            clear H F hi hL
            go_wp2_with fail
            exact hK _ _ (Below.refl _ _) HI.out rfl
          · intro L a wy Q' hL hi H F hK
            try dsimp only at hi
            obtain ⟨_, h27, rfl⟩ := H 1 ⟨.data, by simp, rfl⟩ _ rfl
            replace h27 := h27 _ rfl
            have HI := Lib.hid hi
            clear H F hi hL
            have kq0 : wy.cell? ⟨w.heap.size, 9, none⟩ = some (.slice (some ⟨b, off, none⟩) n c) := (Whole.under HI.out.2.2.1 HPr.out HLT.out).cell 9
            go_wp2_with fail
            exact hK _ _ (Below.refl _ _) HI.out rfl
          · intro L a wy Q' hL hi H F hK
            try dsimp only at hi
            have h4 : a.tmps[4]? = some (.int .i64 (i : Int)) := F 4 rfl
            have HI := Lib.hid hi
            clear H F hi hL
            go_wp2_with fail
            exact hK _ _ (Below.refl _ _) HI.out rfl
          · intro L a wy Q' hL hi H F hK
            try dsimp only at hi
            obtain ⟨_, h28, rfl⟩ := H 2 ⟨.data, by simp, rfl⟩ _ rfl
            replace h28 := h28 _ rfl
            obtain ⟨_, h29, rfl⟩ := H 3 ⟨.data, by simp, rfl⟩ _ rfl
            replace h29 := h29 _ rfl
            have HI := Lib.hid hi
            clear H F hi hL
            go_wp2_with fail
            exact hK _ _ (Below.refl _ _) HI.out rfl
          · intro L a wy Q' hL hi H F hK
            try dsimp only at hi
            obtain ⟨_, h30, rfl⟩ := H 4 ⟨.data, by simp, rfl⟩ _ rfl
            replace h30 := h30 _ rfl
            have HI := Lib.hid hi
            clear H F hi hL
            have kq0 : wy.cell? ⟨b, off + i * 13, none⟩ = some (.int .i64 r.kind) := HXC.out wy HI.out.2.2.1 0 _ rfl
            have kq1 : wy.cell? ⟨b, off + i * 13 + 1, none⟩ = some (.int .u64 r.src.a) := HXC.out wy HI.out.2.2.1 1 _ rfl
            have kq2 : wy.cell? ⟨b, off + i * 13 + 2, none⟩ = some (.int .u64 r.src.b) := HXC.out wy HI.out.2.2.1 2 _ rfl
            have kq3 : wy.cell? ⟨b, off + i * 13 + 3, none⟩ = some (.int .u64 r.src.c) := HXC.out wy HI.out.2.2.1 3 _ rfl
            have kq4 : wy.cell? ⟨b, off + i * 13 + 4, none⟩ = some (.int .u64 r.src.d) := HXC.out wy HI.out.2.2.1 4 _ rfl
            have kq5 : wy.cell? ⟨b, off + i * 13 + 5, none⟩ = some (.int .u64 r.tgt.a) := HXC.out wy HI.out.2.2.1 5 _ rfl
            have kq6 : wy.cell? ⟨b, off + i * 13 + 6, none⟩ = some (.int .u64 r.tgt.b) := HXC.out wy HI.out.2.2.1 6 _ rfl
            have kq7 : wy.cell? ⟨b, off + i * 13 + 7, none⟩ = some (.int .u64 r.tgt.c) := HXC.out wy HI.out.2.2.1 7 _ rfl
            have kq8 : wy.cell? ⟨b, off + i * 13 + 8, none⟩ = some (.int .u64 r.tgt.d) := HXC.out wy HI.out.2.2.1 8 _ rfl
            have kq9 : wy.cell? ⟨b, off + i * 13 + 9, none⟩ = some (.bool r.self) := HXC.out wy HI.out.2.2.1 9 _ rfl
            have kq10 : wy.cell? ⟨b, off + i * 13 + 10, none⟩ = some (.int .i64 r.cls) := HXC.out wy HI.out.2.2.1 10 _ rfl
            have kq11 : wy.cell? ⟨b, off + i * 13 + 11, none⟩ = some (.int .u32 r.perms) := HXC.out wy HI.out.2.2.1 11 _ rfl
            have kq12 : wy.cell? ⟨b, off + i * 13 + 12, none⟩ = some (.int .i64 r.cond) := HXC.out wy HI.out.2.2.1 12 _ rfl
            go_wp2_with fail
            exact hK _ _ (Below.refl _ _) HI.out rfl
          · intro L a wy Q' hL hi H F hK
            try dsimp only at hi
            have h5 : a.tmps[5]? = some (.slice (some ⟨b2, off2, none⟩) pn pc) := F 5 rfl
            have HI := Lib.hid hi
            clear H F hi hL
            go_wp2_with fail
            exact hK _ _ (Below.refl _ _) HI.out rfl
          · intro L a wy Q' hL hi H F hK
            try dsimp only at hi
            have h6 : a.tmps[6]? = some (.int .i64 (j : Int)) := F 6 rfl
            have HI := Lib.hid hi
            clear H F hi hL
            go_wp2_with fail
            exact hK _ _ (Below.refl _ _) HI.out rfl
          · intro L a wy Q' hL hi H F hK
            try dsimp only at hi
            obtain ⟨_, h32, rfl⟩ := H 6 ⟨.data, by simp, rfl⟩ _ rfl
            replace h32 := h32 _ rfl
            obtain ⟨_, h33, rfl⟩ := H 7 ⟨.data, by simp, rfl⟩ _ rfl
            replace h33 := h33 _ rfl
            have HI := Lib.hid hi
            clear H F hi hL
            go_wp2_with fail
            exact hK _ _ (Below.refl _ _) HI.out rfl
          · intro L a wy Q' hL hi H F hK
            try dsimp only at hi
            obtain ⟨_, h34, rfl⟩ := H 8 ⟨.data, by simp, rfl⟩ _ rfl
            replace h34 := h34 _ rfl
            have HI := Lib.hid hi
            clear H F hi
            have hl12 : L 12 = false := by
              cases hx : L 12 with
              | false => rfl
              | true => have := HI.out.1 hx; rw [hL] at this; cases this
            have kq0 : wy.cell? ⟨b2, off2 + j * 2, none⟩ = some (.int .i64 (y.1 : Int)) := cell_later (HI.out.2.1 hl12) HY0.out
            have kq1 : wy.cell? ⟨b2, off2 + j * 2 + 1, none⟩ = some (.int .i64 (y.2 : Int)) := cell_later (HI.out.2.1 hl12) HY1.out
            have HK := Lib.hid hK
            clear hK hL hl12
            go_wp2_with fail
            exact HK.out _ _ (Below.refl _ _) ⟨fun _ => rfl, HI.out.2⟩ ⟨by simp [upd], rfl⟩
          · intro L a wy Q' hL hi H F hK
            try dsimp only at hi
            obtain ⟨_, h31, rfl⟩ := H 5 ⟨.data, by simp, rfl⟩ _ rfl
            replace h31 := h31 _ rfl
            obtain ⟨v35, h35, hv35⟩ := H 9 ⟨.data, by simp, rfl⟩ _ rfl
            replace h35 := h35 _ rfl
            have HV35 := Lib.hid hv35
            clear hv35
            have HI := Lib.hid hi
            clear H F hi hL
            obtain ⟨hl9, rfl⟩ := HV35.out
            go_wp2_with (go_at_call 31; go_must (refine (HCV.out wy (y.1 : Int) (y.2 : Int)).mono ?_; rintro e w1 ⟨rfl, hb1⟩))
            exact hK _ _ hb1 ⟨HI.out.1, fun h => (HI.out.2.1 h).trans (hb1.mono (HI.out.2.1 h).size), HI.out.2.2.1.trans (hb1.mono (Nat.le_trans HBS.out HI.out.2.2.1.size)), own_keep hb1 HI.out.2.2.2 (Nat.le_refl _)⟩ ⟨by simp [upd, hl9], rfl⟩
          · intro L a wy Q' hL hi H F hK
            try dsimp only at hi
            obtain ⟨v36, h36, hv36⟩ := H 10 ⟨.data, by simp, rfl⟩ _ rfl
            replace h36 := h36 _ rfl
            have HV36 := Lib.hid hv36
            clear hv36
            have HI := Lib.hid hi
            clear H F hi hL
            obtain ⟨hl9, rfl⟩ := HV36.out
            have HK := Lib.hid hK
            have HL9 := Lib.hid hl9
            clear hK hl9
            go_wp2_with fail
            exact HK.out _ _ ((Below.refl _ _).alloc (Nat.le_refl _) _) ⟨HI.out.1, fun h => (HI.out.2.1 h).alloc (HI.out.2.1 h).size _, HI.out.2.2.1.alloc (Nat.le_trans HBS.out HI.out.2.2.1.size) _, own_alloc HI.out.2.2.2 _⟩ ⟨by simp [upd, HL9.out], fun _ => ⟨_, rfl, row_new _ _ _⟩⟩
          · intro L a wy Q' hL hi H F hK
            try dsimp only at hi
            obtain ⟨_, h26, rfl⟩ := H 0 ⟨.data, by simp, rfl⟩ _ rfl
            replace h26 := h26 _ rfl
            obtain ⟨v37, h37, hv37⟩ := H 11 ⟨.data, by simp, rfl⟩ _ rfl
            replace h37 := h37 _ rfl
            have HV37 := Lib.hid hv37
            clear hv37
            have HI := Lib.hid hi
            clear H F hi
            obtain ⟨g, rfl, hrow⟩ := HV37.out.2 hL
            have hl9 := HV37.out.1
            have hown := own_keep (HI.out.2.1 hL) HOU.out (Nat.le_refl _)
            refine wpList_append_own _ rfl _ _ 52 rfl bs 61 i0 z0 7 48 Tryd.underlying52 hi0 hz0 hz1 hz2 hzs (by decide) u3 m FC (by simp [Act.eval, *]) hown ⟨g, 0, none⟩ 1 1 [.int .i64 (y.1 : Int), .int .i64 (y.2 : Int), .int .i64 r.cls, .int .i64 r.cond, .int .u32 V.allow, .int .u32 V.audit, .int .u32 V.dont] (by simp [Act.eval, *]) rfl hrow ?c2 ?c3 ?c4 ?c5 ?_
            case c2 => simp [Value.oneCell']
            case c3 => have := HML.out; unfold maxLen; omega
            case c4 => have := HML.out; omega
            case c5 => exact Nat.le_trans HBS.out HI.out.2.2.1.size
            intro v' w9 hown' hgrow hnil
            exact hK _ _ (show KeepAll _ _ _ _ _ _ _ _ from ⟨(fun _ _ _ _ h => h), (fun _ _ _ _ h => h), (fun _ _ _ _ h => h), (fun _ _ _ _ h => h), (fun _ _ _ _ h => h), (fun _ _ _ _ h => h), (fun _ _ _ _ h => h), (fun _ _ _ _ h => h), (fun _ _ _ _ h => h), (fun _ h9 _ _ h => ⟨by simp [upd, h.1], h.2⟩), (fun _ _ _ _ h => ⟨by simp [upd, h.1], h.2⟩), (fun _ _ _ _ h => ⟨by simp [upd, h.1], fun h5 => by simp [upd] at h5⟩), (fun h => absurd rfl h), trivial⟩) ⟨fun _ => by simp [upd, hl9], fun h => by simp [upd] at h, HI.out.2.2.1.grown hgrow (Nat.le_trans HBS.out HI.out.2.2.1.size) (fun q hq => (hown.lt q hq).1), HI.out.2.2.2.kept hgrow (own_types HI.out.2.2.2 hown (by decide))⟩ hown'
          · intro a wy L hl hi hL Q' hK
            try dsimp only at hi
            have HB := Lib.hid hi
            clear hi hL
            obtain ⟨_, rfl, _, rfl, _, rfl, _, rfl, _, rfl, _, rfl, _, rfl, _, rfl, _, rfl, u35, hu35, u36, hu36, u37, hu37, u38, hu38, rfl⟩ := hl
            have HU35 := Lib.hid hu35
            clear hu35
            have HU36 := Lib.hid hu36
            clear hu36
            have HU37 := Lib.hid hu37
            clear hu37
            have HU38 := Lib.hid hu38
            clear hu38
            simp only [List.setIfInBounds_toArray, List.set_cons_zero, List.set_cons_succ]
            obtain ⟨ua, uc, hua⟩ := own_shape' HU38.out
            subst hua
            have HF := Lib.hid (And.intro HB.out.2.2.1 HB.out.2.2.2)
            clear HB
            go_wp2_with fail
            go_roundw
            case rel => exact ⟨j + 1, by omega, by go_num, HMF.out.next HY.out HU38.out, HF.out.2, HBI.out.trans HF.out.1⟩
            case measure => simp [intOf]; omega
        · obtain rfl : j = pn := by omega
          have HX := Lib.hid (show GathE bs (kvR (l.take (i + 1))) u3 wr by
            have h := HG.out
            rw [HPN.out, List.take_length] at h
            rw [kvR_take HRI.out]
            exact h)
          have HBX := Lib.hid (HBZ.out.trans HBI.out)
          go_wp2_with fail
          go_roundw
          case rel => exact ⟨i + 1, by omega, by go_num, HX.out, HBX.out⟩
          case measure => simp [intOf]; omega
    · obtain rfl : i = n := by omega
      have hlm : ((kvR (l.take i)).map mkP).length ≤ 65536000 := by have := kvR_len (l.take i); have := List.length_take_le i l; rw [List.length_map]; omega
      have HU := Lib.hid (union_any wz u3 ((kvR (l.take i)).map mkP) (by have h := SliceAt.of_own HG0.out (ecells_one _); rw [List.length_map]; exact h) (fun x hx => kvR_ok (fun r hr => HOK.out r (List.mem_of_mem_take hr)) hx) (by omega))
      have HLM := Lib.hid hlm
      obtain ⟨ua, uc, rfl⟩ := own_shape' HG0.out
      clear hlm hlen
      go_wp2_with (go_at_call 32; go_must (refine HU.out.mono ?_; rintro e w1 ⟨v1, l1, rfl, hq⟩; have HQ := Lib.hid hq; clear hq))
      go_ret
      obtain ⟨hc1, hl1, hs1, hb1⟩ := HQ.out
      refine ⟨_, l1, rfl, ?_, Nat.le_trans hl1 HLM.out, hs1, HWZ.out.trans (hb1.mono HWZ.out.size)⟩
      rwa [accE_mkP, HL.out, List.take_length] at hc1
end Go.Proofs.YtmkfabdkadocdaaDoor

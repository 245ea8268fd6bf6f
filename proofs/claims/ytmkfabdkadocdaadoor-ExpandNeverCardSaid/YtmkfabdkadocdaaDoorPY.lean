import Derived.Test.YtmkfabdkadocdaaDoorPX
import Derived.Test.YtmkfabdkadocdaaDoorP6
import Derived.Test.YtmkfabdkadocdaaDoorN4
import Derived.Test.YtmkfabdkadocdaaDoorG
/-
  The reference's Entries.
-/
namespace Go.Proofs.YtmkfabdkadocdaaDoor
open Go Go.WideMaps Go.RowKit Go.Sort

theorem upd_was' {L : Nat → Bool} {i j : Nat} (h : upd L i j = false) : L j = false := by
  unfold upd at h
  cases hx : L j with
  | false => rfl
  | true => rw [hx] at h; simp at h
theorem own_types {w : World} {b1 b2 k1 k2 n1 n2 : Nat} {t1 t2 : TypeId} {v1 v2 : Value} {x1 x2 : List Value} (h1 : w.ownsRow b1 t1 k1 v1 n1 x1) (h2 : w.ownsRow b2 t2 k2 v2 n2 x2) (hne : t1 ≠ t2) : v1.ownBlock = none ∨ v1.ownBlock ≠ v2.ownBlock := by
  cases e : v1.ownBlock with
  | none => exact .inl rfl
  | some g =>
    refine .inr fun h => ?_
    obtain ⟨_, c1, hc1⟩ := own_at h1 e
    obtain ⟨_, c2, hc2⟩ := own_at h2 h.symm
    rw [hc1] at hc2
    cases hc2
    exact hne rfl
theorem own_cells {w : World} {base n k pc i : Nat} {t : TypeId} {pa : Option Addr} {xs : List Value} (h : w.ownsRow base t k (.slice pa n pc) n xs) (h1 : ∀ u ∈ xs, u.oneCell' = true) (hk : 0 < k) (hi : i < n) :
    ∃ b off, pa = some ⟨b, off, none⟩ ∧ ∀ j u, xs[i * k + j]? = some u → w.cell? ⟨b, off + i * k + j, none⟩ = some u := by
  obtain ⟨a, c, e, _, _, hc⟩ := (SliceAt.of_own h h1).form hk
  cases e
  exact hc i hi
theorem kvR_ok {l : List ARule} (h : ∀ r ∈ l, r.Wf) {x : AEntry} (hx : x ∈ (kvR l).map mkP) : x.Ok := by
  obtain ⟨p, hp, rfl⟩ := List.mem_map.1 hx
  unfold kvR ruleKV at hp
  obtain ⟨r, hr, hp⟩ := List.mem_flatMap.1 hp
  obtain ⟨q, hq, rfl⟩ := List.mem_map.1 hp
  exact ⟨(h r hr).key hq, (h r hr).vec⟩
/-- What has been gathered. -/
def GathE (bs : Nat) (M : List (Key4 × AVec)) (u : Value) (wr : World) : Prop := wr.ownsRow bs 61 7 u M.length ((M.map mkP).flatMap AEntry.cells)
structure GLen (L : List (Key4 × AVec)) (r : ARule) (j m : Nat) (FC : List Value) (V : AVec) : Prop where
  len : m = (L ++ ruleKV r (r.pairs.take j)).length
  cells : FC = ((L ++ ruleKV r (r.pairs.take j)).map mkP).flatMap AEntry.cells
  vec : V = vecOf r.kind r.perms
theorem GLen.next {L : List (Key4 × AVec)} {r : ARule} {j m : Nat} {FC : List Value} {V : AVec} {y : Nat × Nat} (hf : GLen L r j m FC V) (hy : r.pairs[j]? = some y) {bs : Nat} {u : Value} {w : World} (h : w.ownsRow bs 61 7 u (m + 1) (FC ++ [.int .i64 (y.1 : Int), .int .i64 (y.2 : Int), .int .i64 r.cls, .int .i64 r.cond, .int .u32 V.allow, .int .u32 V.audit, .int .u32 V.dont])) : GathE bs (L ++ ruleKV r (r.pairs.take (j + 1))) u w := by
  have e : L ++ ruleKV r (r.pairs.take (j + 1)) = (L ++ ruleKV r (r.pairs.take j)) ++ [(pkey r y, vecOf r.kind r.perms)] := by
    unfold ruleKV
    rw [take_snoc hy, List.map_append, List.map_singleton, List.append_assoc]
  unfold GathE
  rw [e, List.length_append, List.map_append, List.flatMap_append, ← hf.len, ← hf.cells, ← hf.vec]
  exact h

set_option maxRecDepth 100000 in
set_option maxHeartbeats 8000000 in
theorem refEntries_any (w : World) (a0 a1 a2 a3 a4 a5 a6 a7 a8 v a10 a11 a12 a13 a14 a15 a16 : Value) (l : List ARule) (h : SliceAt w v 13 l.length (l.flatMap ARule.cells)) (hok : ∀ r ∈ l, r.Wf) (hlen : l.length ≤ 1000) :
    Calls Tryd.prog 15 #[.agg #[a0, a1, a2, a3, a4, a5, a6, a7, a8, v, a10, a11, a12, a13, a14, a15, a16]] w fun e w' => ∃ v' l', e = .returned v' ∧ Canon (accum (kvR l)) l' ∧ l'.length ≤ 65536000 ∧ SliceAt w' v' 7 l'.length (l'.flatMap AEntry.cells) ∧ RowKit.Below w.heap.size w w' := by
  obtain ⟨i0, z0, hi0, hz0, hz1, hz2, hzs⟩ := infoOf info61
  obtain ⟨n, hn⟩ : ∃ n, n = l.length := ⟨_, rfl⟩
  obtain ⟨a, c, rfl, hc, hmx, hcell⟩ := h.form (by decide)
  have HL := Lib.hid hn
  have HC := Lib.hid (And.intro hcell hc)
  have HOK := Lib.hid hok
  rw [← hn] at hlen hmx hc
  simp only [← hn]
  clear hn hcell h hok
  obtain ⟨wo, hwo⟩ : ∃ wo, wo = w.alloc (.cells #[a0, a1, a2, a3, a4, a5, a6, a7, a8, .slice a n c, a10, a11, a12, a13, a14, a15, a16] 50) := ⟨_, rfl⟩
  obtain ⟨bs, hbs⟩ : ∃ bs, bs = wo.heap.size := ⟨_, rfl⟩
  have HWO := Lib.hid (show RowKit.Below w.heap.size w wo by rw [hwo]; exact (Below.refl _ w).alloc (Nat.le_refl _) _)
  have HPO0 := Lib.hid (show Whole wo w.heap.size 50 #[a0, a1, a2, a3, a4, a5, a6, a7, a8, .slice a n c, a10, a11, a12, a13, a14, a15, a16] by rw [hwo]; exact Whole.new w 50 _)
  have HLT := Lib.hid (show w.heap.size < bs by rw [hbs, hwo]; simp)
  have HB0 := Lib.hid (show bs ≤ wo.heap.size by rw [hbs]; exact Nat.le_refl _)
  clear hbs
  go_enter Tryd.func15, Tryd.ntmps15
  go_upto_region 1 with fail
  rw [← hwo]
  clear hwo
  go_wp2
  go_loopw [4, 3] (fun i u wr => ∃ k : Nat, k ≤ n ∧ i = .int .i64 k ∧ GathE bs (kvR (l.take k)) u wr ∧ RowKit.Below bs wo wr) (fun i _ _ => n - (intOf i).toNat)
  case atStart => exact ⟨0, Nat.zero_le _, rfl, by simpa [kvR, GathE] using World.ownsRow_nil wo bs 61 7, Below.refl _ _⟩
  case round =>
    obtain ⟨wz, rfl⟩ : ∃ wz : World, wz = wr := ⟨_, rfl⟩
    obtain ⟨i, hi, rfl, hG, hB⟩ := hrel
    have HG0 := Lib.hid hG
    have HBZ := Lib.hid hB
    have HPZ := Lib.hid (Whole.under hB HPO0.out HLT.out)
    have HSZ := Lib.hid (Nat.le_trans HB0.out hB.size)
    have HWZ := Lib.hid (HWO.out.trans (hB.mono (Nat.le_of_lt HLT.out)))
    clear hG hB
    have k9 : wz.cell? ⟨w.heap.size, 9, none⟩ = some (.slice a n c) := HPZ.out.cell 9
    by_cases hlt : i < n
    · have hln : i < l.length := by rw [← HL.out]; exact hlt
      obtain ⟨r, hr⟩ : ∃ r, l[i]? = some r := ⟨_, List.getElem?_eq_getElem hln⟩
      have HRI := Lib.hid hr
      have HRK := Lib.hid (HOK.out r (List.mem_of_getElem? hr))
      obtain ⟨b, off, rfl, hcl⟩ := HC.out.1 i hln
      have e0 : wz.cell? ⟨b, off + i * 13, none⟩ = some (.int .i64 r.kind) := cell_later HWZ.out (hcl 0 _ (by rw [flat_at rule_len hr 0 (by decide)]; rfl))
      have e1 : wz.cell? ⟨b, off + i * 13 + 1, none⟩ = some (.int .u64 r.src.a) := cell_later HWZ.out (hcl 1 _ (by rw [flat_at rule_len hr 1 (by decide)]; rfl))
      have e2 : wz.cell? ⟨b, off + i * 13 + 2, none⟩ = some (.int .u64 r.src.b) := cell_later HWZ.out (hcl 2 _ (by rw [flat_at rule_len hr 2 (by decide)]; rfl))
      have e3 : wz.cell? ⟨b, off + i * 13 + 3, none⟩ = some (.int .u64 r.src.c) := cell_later HWZ.out (hcl 3 _ (by rw [flat_at rule_len hr 3 (by decide)]; rfl))
      have e4 : wz.cell? ⟨b, off + i * 13 + 4, none⟩ = some (.int .u64 r.src.d) := cell_later HWZ.out (hcl 4 _ (by rw [flat_at rule_len hr 4 (by decide)]; rfl))
      have e5 : wz.cell? ⟨b, off + i * 13 + 5, none⟩ = some (.int .u64 r.tgt.a) := cell_later HWZ.out (hcl 5 _ (by rw [flat_at rule_len hr 5 (by decide)]; rfl))
      have e6 : wz.cell? ⟨b, off + i * 13 + 6, none⟩ = some (.int .u64 r.tgt.b) := cell_later HWZ.out (hcl 6 _ (by rw [flat_at rule_len hr 6 (by decide)]; rfl))
      have e7 : wz.cell? ⟨b, off + i * 13 + 7, none⟩ = some (.int .u64 r.tgt.c) := cell_later HWZ.out (hcl 7 _ (by rw [flat_at rule_len hr 7 (by decide)]; rfl))
      have e8 : wz.cell? ⟨b, off + i * 13 + 8, none⟩ = some (.int .u64 r.tgt.d) := cell_later HWZ.out (hcl 8 _ (by rw [flat_at rule_len hr 8 (by decide)]; rfl))
      have e9 : wz.cell? ⟨b, off + i * 13 + 9, none⟩ = some (.bool r.self) := cell_later HWZ.out (hcl 9 _ (by rw [flat_at rule_len hr 9 (by decide)]; rfl))
      have e10 : wz.cell? ⟨b, off + i * 13 + 10, none⟩ = some (.int .i64 r.cls) := cell_later HWZ.out (hcl 10 _ (by rw [flat_at rule_len hr 10 (by decide)]; rfl))
      have e11 : wz.cell? ⟨b, off + i * 13 + 11, none⟩ = some (.int .u32 r.perms) := cell_later HWZ.out (hcl 11 _ (by rw [flat_at rule_len hr 11 (by decide)]; rfl))
      have e12 : wz.cell? ⟨b, off + i * 13 + 12, none⟩ = some (.int .i64 r.cond) := cell_later HWZ.out (hcl 12 _ (by rw [flat_at rule_len hr 12 (by decide)]; rfl))
      have HXC0 := Lib.hid (show ∀ wy, RowKit.Below bs wz wy → ∀ j q, ([.int .i64 r.kind, .int .u64 r.src.a, .int .u64 r.src.b, .int .u64 r.src.c, .int .u64 r.src.d, .int .u64 r.tgt.a, .int .u64 r.tgt.b, .int .u64 r.tgt.c, .int .u64 r.tgt.d, .bool r.self, .int .i64 r.cls, .int .u32 r.perms, .int .i64 r.cond] : List Value)[j]? = some q → wy.cell? ⟨b, off + i * 13 + j, none⟩ = some q from fun wy hb j q hq => cell_later (HWZ.out.trans (hb.mono (Nat.le_of_lt HLT.out))) (hcl j q (by
        have hj : j < 13 := (List.getElem?_eq_some_iff.1 hq).1
        rw [flat_at rule_len hr j hj]; exact hq)))
      clear hr hcl hln
      obtain ⟨V, hV⟩ : ∃ V, V = vecOf r.kind r.perms := ⟨_, rfl⟩
      have HV := Lib.hid hV
      have HCV := Lib.hid (show ∀ W (p q : Int), Calls Tryd.prog 31 #[.agg #[.int .i64 r.kind, .int .u64 r.src.a, .int .u64 r.src.b, .int .u64 r.src.c, .int .u64 r.src.d, .int .u64 r.tgt.a, .int .u64 r.tgt.b, .int .u64 r.tgt.c, .int .u64 r.tgt.d, .bool r.self, .int .i64 r.cls, .int .u32 r.perms, .int .i64 r.cond], .agg #[.int .i64 p, .int .i64 q]] W fun e w' => e = .returned (.agg #[.int .i64 p, .int .i64 q, .int .i64 r.cls, .int .i64 r.cond, .int .u32 V.allow, .int .u32 V.audit, .int .u32 V.dont]) ∧ RowKit.Below W.heap.size W w' from fun W p q => by rw [hV]; exact entry_any W r p q)
      clear hV
      obtain ⟨pn, hpn⟩ : ∃ pn, pn = r.pairs.length := ⟨_, rfl⟩
      have HPN := Lib.hid hpn
      have hpl : pn ≤ 65536 := by rw [hpn]; exact pairs_len r
      have HCR := Lib.hid (show Calls Tryd.prog 12 #[.agg #[.int .i64 r.kind, .int .u64 r.src.a, .int .u64 r.src.b, .int .u64 r.src.c, .int .u64 r.src.d, .int .u64 r.tgt.a, .int .u64 r.tgt.b, .int .u64 r.tgt.c, .int .u64 r.tgt.d, .bool r.self, .int .i64 r.cls, .int .u32 r.perms, .int .i64 r.cond]] wz fun e w' => ∃ pa pc, e = .returned (.slice pa pn pc) ∧ pn ≤ pc ∧ w'.ownsRow wz.heap.size 63 2 (.slice pa pn pc) pn (pcells r.pairs) ∧ RowKit.Below wz.heap.size wz w' from (refRule_any wz r HRK.out.ok).mono fun e w' he => by
        obtain ⟨v, rfl, ho, hb⟩ := he
        obtain ⟨pa, pc, rfl, hpc, -, -⟩ := (SliceAt.of_own ho (pcells_one _)).form (by decide)
        rw [← HPN.out] at ho hpc ⊢
        exact ⟨pa, pc, rfl, hpc, ho, hb⟩)
      clear hpn
      go_wp2_with (go_at_call 12; go_must (refine HCR.out.mono ?_; rintro e w1 ⟨pa, pc, rfl, hpc, ho1, hb1⟩; have HO1 := Lib.hid ho1; have HB1 := Lib.hid hb1; clear ho1 hb1 HCR k9 e0 e1 e2 e3 e4 e5 e6 e7 e8 e9 e10 e11 e12))
      have HG1 := Lib.hid (show GathE bs (kvR (l.take i) ++ ruleKV r (r.pairs.take 0)) _ w1 from by simpa [ruleKV, GathE] using own_keep HB1.out HG0.out (Nat.le_refl _))
      have HBI1 := Lib.hid (show RowKit.Below bs wz w1 from HB1.out.mono HSZ.out)
      go_loopw [6, 3] (fun ix u wq => ∃ j : Nat, j ≤ pn ∧ ix = .int .i64 j ∧ GathE bs (kvR (l.take i) ++ ruleKV r (r.pairs.take j)) u wq ∧ wq.ownsRow wz.heap.size 63 2 (.slice pa pn pc) pn (pcells r.pairs) ∧ RowKit.Below bs wz wq) (fun ix _ _ => pn - (intOf ix).toNat)
      case atStart => exact ⟨0, Nat.zero_le _, rfl, HG1.out, HO1.out, HBI1.out⟩
      case round =>
        clear HG1 HO1 HB1 HBI1 HG0
        obtain ⟨j, hj, rfl, hG, hP, hB⟩ := hrel
        have HG := Lib.hid hG
        have HPO := Lib.hid hP
        have HBI := Lib.hid hB
        have HBS := Lib.hid (Nat.le_trans HSZ.out hB.size)
        have HPr := Lib.hid (Whole.under hB HPZ.out HLT.out)
        clear hG hP hB
        by_cases hjl : j < pn
        · have hjp : j < r.pairs.length := by rw [← HPN.out]; exact hjl
          obtain ⟨y, hy⟩ : ∃ y, r.pairs[j]? = some y := ⟨_, List.getElem?_eq_getElem hjp⟩
          have HY := Lib.hid hy
          obtain ⟨b2, off2, rfl, hcl2⟩ := own_cells HPO.out (pcells_one _) (by decide) hjl
          have HY0 := Lib.hid (show wr.cell? ⟨b2, off2 + j * 2, none⟩ = some (.int .i64 (y.1 : Int)) from hcl2 0 _ (by unfold pcells; rw [flat_at (f := pcell) (fun _ => rfl) hy 0 (by decide)]; rfl))
          have HY1 := Lib.hid (show wr.cell? ⟨b2, off2 + j * 2 + 1, none⟩ = some (.int .i64 (y.2 : Int)) from hcl2 1 _ (by unfold pcells; rw [flat_at (f := pcell) (fun _ => rfl) hy 1 (by decide)]; rfl))
          have HXC := Lib.hid (show ∀ wy, RowKit.Below bs wr wy → ∀ j q, ([.int .i64 r.kind, .int .u64 r.src.a, .int .u64 r.src.b, .int .u64 r.src.c, .int .u64 r.src.d, .int .u64 r.tgt.a, .int .u64 r.tgt.b, .int .u64 r.tgt.c, .int .u64 r.tgt.d, .bool r.self, .int .i64 r.cls, .int .u32 r.perms, .int .i64 r.cond] : List Value)[j]? = some q → wy.cell? ⟨b, off + i * 13 + j, none⟩ = some q from fun wy hb => HXC0.out wy (HBI.out.trans hb))
          clear hy hcl2 hjp
          obtain ⟨m, hm⟩ : ∃ m, m = (kvR (l.take i) ++ ruleKV r (r.pairs.take j)).length := ⟨_, rfl⟩
          obtain ⟨FC, hFC⟩ : ∃ FC, FC = ((kvR (l.take i) ++ ruleKV r (r.pairs.take j)).map mkP).flatMap AEntry.cells := ⟨_, rfl⟩
          have HMF := Lib.hid (show GLen (kvR (l.take i)) r j m FC V from ⟨hm, hFC, HV.out⟩)
          have HOU := Lib.hid (show wr.ownsRow bs 61 7 u3 m FC by rw [hm, hFC]; exact HG.out)
          have HML := Lib.hid (show m ≤ 65536000 + 65536 by
            have h1 := kvR_len (l.take i)
            have h2 := List.length_take_le i l
            have h3 : (ruleKV r (r.pairs.take j)).length ≤ 65536 := by
              unfold ruleKV
              rw [List.length_map]
              have := List.length_take_le j r.pairs
              have := pairs_len r
              omega
            have h4 := HL.out
            rw [hm, List.length_append]
            omega)
          clear hm hFC HG HXC0
          go_upto_region 9 with fail
          refine wp_region_goods [some 26, some 27, some 28, some 29, some 30, some 31, some 32, some 33, some 34, some 35, some 36, some 37, some 38] [isW (u3), isW (.pointer (some ⟨w.heap.size, 9, none⟩)), isW (.slice (some ⟨b, off, none⟩) n c), isW (.int .i64 (i : Int)), isW (.pointer (some ⟨b, off + i * 13, none⟩)), isW (.agg #[.int .i64 r.kind, .int .u64 r.src.a, .int .u64 r.src.b, .int .u64 r.src.c, .int .u64 r.src.d, .int .u64 r.tgt.a, .int .u64 r.tgt.b, .int .u64 r.tgt.c, .int .u64 r.tgt.d, .bool r.self, .int .i64 r.cls, .int .u32 r.perms, .int .i64 r.cond]), isW (.slice (some ⟨b2, off2, none⟩) pn pc), isW (.int .i64 (j : Int)), isW (.pointer (some ⟨b2, off2 + j * 2, none⟩)), (fun L v _ => L 9 = true ∧ v = .agg #[.int .i64 (y.1 : Int), .int .i64 (y.2 : Int)]), (fun L v _ => L 9 = true ∧ v = .agg #[.int .i64 (y.1 : Int), .int .i64 (y.2 : Int), .int .i64 r.cls, .int .i64 r.cond, .int .u32 V.allow, .int .u32 V.audit, .int .u32 V.dont]), (fun L v w' => L 9 = true ∧ (L 12 = false → ∃ g, v = .slice (some ⟨g, 0, none⟩) 1 1 ∧ ∀ j q, ([.int .i64 (y.1 : Int), .int .i64 (y.2 : Int), .int .i64 r.cls, .int .i64 r.cond, .int .u32 V.allow, .int .u32 V.audit, .int .u32 V.dont] : List Value)[j]? = some q → w'.cell? ((⟨g, 0, none⟩ : Addr).add j) = some q)), (fun L v w' => w'.ownsRow bs 61 7 v (m + 1) (FC ++ [.int .i64 (y.1 : Int), .int .i64 (y.2 : Int), .int .i64 r.cls, .int .i64 r.cond, .int .u32 V.allow, .int .u32 V.audit, .int .u32 V.dont]))] (fun L w' => (L 12 = true → L 9 = true) ∧ (L 12 = false → RowKit.Below wr.heap.size wr w') ∧ RowKit.Below bs wr w' ∧ w'.ownsRow wz.heap.size 63 2 (.slice (some ⟨b2, off2, none⟩) pn pc) pn (pcells r.pairs)) [12] (by kernel_rfl) (by kernel_rfl) (by kernel_rfl) rfl (by decide) rfl rfl (⟨(fun h => by cases h), fun _ => (RowKit.Below.refl _ _).drew, (RowKit.Below.refl _ _).drew, own_keep (RowKit.Below.refl _ _).drew HPO.out (Nat.le_refl _)⟩) ⟨lastsW_is _, lastsW_is _, lastsW_is _, lastsW_is _, lastsW_is _, lastsW_is _, lastsW_is _, lastsW_is _, lastsW_is _, (fun L i v w1 w2 _ h _ => ⟨by simp [upd, h.1], h.2⟩), (fun L i v w1 w2 _ h _ => ⟨by simp [upd, h.1], h.2⟩), (fun L i v w1 w2 hi h hb => ⟨by simp [upd, h.1], fun h5 => let ⟨g, e, hr⟩ := h.2 (upd_was' h5); ⟨g, e, fun j q hq => cell_later hb (hr j q hq)⟩⟩), (fun L i v w1 w2 _ h hb => own_keep hb h (Nat.le_refl _)), trivial⟩ ⟨?_, ?_, ?_, ?_, ?_, ?_, ?_, ?_, ?_, ?_, ?_, ?_, ?_, ?_⟩
          · intro L a wy Q' hL hi H F hK
            try dsimp only at hi
            have h3 : a.tmps[3]? = some (u3) := F 3 rfl
            have HI := Lib.hid hi
            clear H F hi hL
            go_wp2_with fail
            exact hK _ _ (Below.refl _ _) HI.out rfl
          · intro L a wy Q' hL hi H F hK
            try dsimp only at hi
            have h1 : a.tmps[1]? = some (.pointer (some ⟨w.heap.size, 0, none⟩)) := F 1 rfl
            have HI := Lib.hid hi
            clear H F hi hL
            go_wp2_with fail
            exact hK _ _ (Below.refl _ _) HI.out rfl
          · intro L a wy Q' hL hi H F hK
            try dsimp only at hi
            obtain ⟨_, h27, rfl⟩ := H 1 ⟨.data, by simp, rfl⟩ _ rfl
            replace h27 := h27 _ rfl
            have HI := Lib.hid hi
            clear H F hi hL
            have kq0 : wy.cell? ⟨w.heap.size, 9, none⟩ = some (.slice (some ⟨b, off, none⟩) n c) := (Whole.under HI.out.2.2.1 HPr.out HLT.out).cell 9
            go_wp2_with fail
            exact hK _ _ (Below.refl _ _) HI.out rfl
          · intro L a wy Q' hL hi H F hK
            try dsimp only at hi
            have h4 : a.tmps[4]? = some (.int .i64 (i : Int)) := F 4 rfl
            have HI := Lib.hid hi
            clear H F hi hL
            go_wp2_with fail
            exact hK _ _ (Below.refl _ _) HI.out rfl
          · intro L a wy Q' hL hi H F hK
            try dsimp only at hi
            obtain ⟨_, h28, rfl⟩ := H 2 ⟨.data, by simp, rfl⟩ _ rfl
            replace h28 := h28 _ rfl
            obtain ⟨_, h29, rfl⟩ := H 3 ⟨.data, by simp, rfl⟩ _ rfl
            replace h29 := h29 _ rfl
            have HI := Lib.hid hi
            clear H F hi hL
            go_wp2_with fail
            exact hK _ _ (Below.refl _ _) HI.out rfl
          · intro L a wy Q' hL hi H F hK
            try dsimp only at hi
            obtain ⟨_, h30, rfl⟩ := H 4 ⟨.data, by simp, rfl⟩ _ rfl
            replace h30 := h30 _ rfl
            have HI := Lib.hid hi
            clear H F hi hL
            have kq0 : wy.cell? ⟨b, off + i * 13, none⟩ = some (.int .i64 r.kind) := HXC.out wy HI.out.2.2.1 0 _ rfl
            have kq1 : wy.cell? ⟨b, off + i * 13 + 1, none⟩ = some (.int .u64 r.src.a) := HXC.out wy HI.out.2.2.1 1 _ rfl
            have kq2 : wy.cell? ⟨b, off + i * 13 + 2, none⟩ = some (.int .u64 r.src.b) := HXC.out wy HI.out.2.2.1 2 _ rfl
            have kq3 : wy.cell? ⟨b, off + i * 13 + 3, none⟩ = some (.int .u64 r.src.c) := HXC.out wy HI.out.2.2.1 3 _ rfl
            have kq4 : wy.cell? ⟨b, off + i * 13 + 4, none⟩ = some (.int .u64 r.src.d) := HXC.out wy HI.out.2.2.1 4 _ rfl
            have kq5 : wy.cell? ⟨b, off + i * 13 + 5, none⟩ = some (.int .u64 r.tgt.a) := HXC.out wy HI.out.2.2.1 5 _ rfl
            have kq6 : wy.cell? ⟨b, off + i * 13 + 6, none⟩ = some (.int .u64 r.tgt.b) := HXC.out wy HI.out.2.2.1 6 _ rfl
            have kq7 : wy.cell? ⟨b, off + i * 13 + 7, none⟩ = some (.int .u64 r.tgt.c) := HXC.out wy HI.out.2.2.1 7 _ rfl
            have kq8 : wy.cell? ⟨b, off + i * 13 + 8, none⟩ = some (.int .u64 r.tgt.d) := HXC.out wy HI.out.2.2.1 8 _ rfl
            have kq9 : wy.cell? ⟨b, off + i * 13 + 9, none⟩ = some (.bool r.self) := HXC.out wy HI.out.2.2.1 9 _ rfl
            have kq10 : wy.cell? ⟨b, off + i * 13 + 10, none⟩ = some (.int .i64 r.cls) := HXC.out wy HI.out.2.2.1 10 _ rfl
            have kq11 : wy.cell? ⟨b, off + i * 13 + 11, none⟩ = some (.int .u32 r.perms) := HXC.out wy HI.out.2.2.1 11 _ rfl
            have kq12 : wy.cell? ⟨b, off + i * 13 + 12, none⟩ = some (.int .i64 r.cond) := HXC.out wy HI.out.2.2.1 12 _ rfl
            go_wp2_with fail
            exact hK _ _ (Below.refl _ _) HI.out rfl
          · intro L a wy Q' hL hi H F hK
            try dsimp only at hi
            have h5 : a.tmps[5]? = some (.slice (some ⟨b2, off2, none⟩) pn pc) := F 5 rfl
            have HI := Lib.hid hi
            clear H F hi hL
            go_wp2_with fail
            exact hK _ _ (Below.refl _ _) HI.out rfl
          · intro L a wy Q' hL hi H F hK
            try dsimp only at hi
            have h6 : a.tmps[6]? = some (.int .i64 (j : Int)) := F 6 rfl
            have HI := Lib.hid hi
            clear H F hi hL
            go_wp2_with fail
            exact hK _ _ (Below.refl _ _) HI.out rfl
          · intro L a wy Q' hL hi H F hK
            try dsimp only at hi
            obtain ⟨_, h32, rfl⟩ := H 6 ⟨.data, by simp, rfl⟩ _ rfl
            replace h32 := h32 _ rfl
            obtain ⟨_, h33, rfl⟩ := H 7 ⟨.data, by simp, rfl⟩ _ rfl
            replace h33 := h33 _ rfl
            have HI := Lib.hid hi
            clear H F hi hL
            go_wp2_with fail
            exact hK _ _ (Below.refl _ _) HI.out rfl
          · intro L a wy Q' hL hi H F hK
            try dsimp only at hi
            obtain ⟨_, h34, rfl⟩ := H 8 ⟨.data, by simp, rfl⟩ _ rfl
            replace h34 := h34 _ rfl
            have HI := Lib.hid hi
            clear H F hi
            have hl12 : L 12 = false := by
              cases hx : L 12 with
              | false => rfl
              | true => have := HI.out.1 hx; rw [hL] at this; cases this
            have kq0 : wy.cell? ⟨b2, off2 + j * 2, none⟩ = some (.int .i64 (y.1 : Int)) := cell_later (HI.out.2.1 hl12) HY0.out
            have kq1 : wy.cell? ⟨b2, off2 + j * 2 + 1, none⟩ = some (.int .i64 (y.2 : Int)) := cell_later (HI.out.2.1 hl12) HY1.out
            have HK := Lib.hid hK
            clear hK hL hl12
            go_wp2_with fail
            exact HK.out _ _ (Below.refl _ _) ⟨fun _ => rfl, HI.out.2⟩ ⟨by simp [upd], rfl⟩
          · intro L a wy Q' hL hi H F hK
            try dsimp only at hi
            obtain ⟨_, h31, rfl⟩ := H 5 ⟨.data, by simp, rfl⟩ _ rfl
            replace h31 := h31 _ rfl
            obtain ⟨v35, h35, hv35⟩ := H 9 ⟨.data, by simp, rfl⟩ _ rfl
            replace h35 := h35 _ rfl
            have HV35 := Lib.hid hv35
            clear hv35
            have HI := Lib.hid hi
            clear H F hi hL
            obtain ⟨hl9, rfl⟩ := HV35.out
            go_wp2_with (go_at_call 31; go_must (refine (HCV.out wy (y.1 : Int) (y.2 : Int)).mono ?_; rintro e w1 ⟨rfl, hb1⟩))
            exact hK _ _ hb1 ⟨HI.out.1, fun h => (HI.out.2.1 h).trans (hb1.mono (HI.out.2.1 h).size), HI.out.2.2.1.trans (hb1.mono (Nat.le_trans HBS.out HI.out.2.2.1.size)), own_keep hb1 HI.out.2.2.2 (Nat.le_refl _)⟩ ⟨by simp [upd, hl9], rfl⟩
          · intro L a wy Q' hL hi H F hK
            try dsimp only at hi
            obtain ⟨v36, h36, hv36⟩ := H 10 ⟨.data, by simp, rfl⟩ _ rfl
            replace h36 := h36 _ rfl
            have HV36 := Lib.hid hv36
            clear hv36
            have HI := Lib.hid hi
            clear H F hi hL
            obtain ⟨hl9, rfl⟩ := HV36.out
            have HK := Lib.hid hK
            have HL9 := Lib.hid hl9
            clear hK hl9
            go_wp2_with fail
            exact HK.out _ _ ((Below.refl _ _).alloc (Nat.le_refl _) _) ⟨HI.out.1, fun h => (HI.out.2.1 h).alloc (HI.out.2.1 h).size _, HI.out.2.2.1.alloc (Nat.le_trans HBS.out HI.out.2.2.1.size) _, own_alloc HI.out.2.2.2 _⟩ ⟨by simp [upd, HL9.out], fun _ => ⟨_, rfl, row_new _ _ _⟩⟩
          · intro L a wy Q' hL hi H F hK
            try dsimp only at hi
            obtain ⟨_, h26, rfl⟩ := H 0 ⟨.data, by simp, rfl⟩ _ rfl
            replace h26 := h26 _ rfl
            obtain ⟨v37, h37, hv37⟩ := H 11 ⟨.data, by simp, rfl⟩ _ rfl
            replace h37 := h37 _ rfl
            have HV37 := Lib.hid hv37
            clear hv37
            have HI := Lib.hid hi
            clear H F hi
            obtain ⟨g, rfl, hrow⟩ := HV37.out.2 hL
            have hl9 := HV37.out.1
            have hown := own_keep (HI.out.2.1 hL) HOU.out (Nat.le_refl _)
            refine wpList_append_own _ rfl _ _ 52 rfl bs 61 i0 z0 7 48 Tryd.underlying52 hi0 hz0 hz1 hz2 hzs (by decide) u3 m FC (by simp [Act.eval, *]) hown ⟨g, 0, none⟩ 1 1 [.int .i64 (y.1 : Int), .int .i64 (y.2 : Int), .int .i64 r.cls, .int .i64 r.cond, .int .u32 V.allow, .int .u32 V.audit, .int .u32 V.dont] (by simp [Act.eval, *]) rfl hrow ?c2 ?c3 ?c4 ?c5 ?_
            case c2 => simp [Value.oneCell']
            case c3 => have := HML.out; unfold maxLen; omega
            case c4 => have := HML.out; omega
            case c5 => exact Nat.le_trans HBS.out HI.out.2.2.1.size
            intro v' w9 hown' hgrow hnil
            exact hK _ _ (show KeepAll _ _ _ _ _ _ _ _ from ⟨(fun _ _ _ _ h => h), (fun _ _ _ _ h => h), (fun _ _ _ _ h => h), (fun _ _ _ _ h => h), (fun _ _ _ _ h => h), (fun _ _ _ _ h => h), (fun _ _ _ _ h => h), (fun _ _ _ _ h => h), (fun _ _ _ _ h => h), (fun _ h9 _ _ h => ⟨by simp [upd, h.1], h.2⟩), (fun _ _ _ _ h => ⟨by simp [upd, h.1], h.2⟩), (fun _ _ _ _ h => ⟨by simp [upd, h.1], fun h5 => by simp [upd] at h5⟩), (fun h => absurd rfl h), trivial⟩) ⟨fun _ => by simp [upd, hl9], fun h => by simp [upd] at h, HI.out.2.2.1.grown hgrow (Nat.le_trans HBS.out HI.out.2.2.1.size) (fun q hq => (hown.lt q hq).1), HI.out.2.2.2.kept hgrow (own_types HI.out.2.2.2 hown (by decide))⟩ hown'
          · intro a wy L hl hi hL Q' hK
            try dsimp only at hi
            have HB := Lib.hid hi
            clear hi hL
            obtain ⟨_, rfl, _, rfl, _, rfl, _, rfl, _, rfl, _, rfl, _, rfl, _, rfl, _, rfl, u35, hu35, u36, hu36, u37, hu37, u38, hu38, rfl⟩ := hl
            have HU35 := Lib.hid hu35
            clear hu35
            have HU36 := Lib.hid hu36
            clear hu36
            have HU37 := Lib.hid hu37
            clear hu37
            have HU38 := Lib.hid hu38
            clear hu38
            simp only [List.setIfInBounds_toArray, List.set_cons_zero, List.set_cons_succ]
            obtain ⟨ua, uc, hua⟩ := own_shape' HU38.out
            subst hua
            have HF := Lib.hid (And.intro HB.out.2.2.1 HB.out.2.2.2)
            clear HB
            go_wp2_with fail
            go_roundw
            case rel => exact ⟨j + 1, by omega, by go_num, HMF.out.next HY.out HU38.out, HF.out.2, HBI.out.trans HF.out.1⟩
            case measure => simp [intOf]; omega
        · obtain rfl : j = pn := by omega
          have HX := Lib.hid (show GathE bs (kvR (l.take (i + 1))) u3 wr by
            have h := HG.out
            rw [HPN.out, List.take_length] at h
            rw [kvR_take HRI.out]
            exact h)
          have HBX := Lib.hid (HBZ.out.trans HBI.out)
          go_wp2_with fail
          go_roundw
          case rel => exact ⟨i + 1, by omega, by go_num, HX.out, HBX.out⟩
          case measure => simp [intOf]; omega
    · obtain rfl : i = n := by omega
      have hlm : ((kvR (l.take i)).map mkP).length ≤ 65536000 := by have := kvR_len (l.take i); have := List.length_take_le i l; rw [List.length_map]; omega
      have HU := Lib.hid (union_any wz u3 ((kvR (l.take i)).map mkP) (by have h := SliceAt.of_own HG0.out (ecells_one _); rw [List.length_map]; exact h) (fun x hx => kvR_ok (fun r hr => HOK.out r (List.mem_of_mem_take hr)) hx) (by omega))
      have HLM := Lib.hid hlm
      obtain ⟨ua, uc, rfl⟩ := own_shape' HG0.out
      clear hlm hlen
      go_wp2_with (go_at_call 32; go_must (refine HU.out.mono ?_; rintro e w1 ⟨v1, l1, rfl, hq⟩; have HQ := Lib.hid hq; clear hq))
      go_ret
      obtain ⟨hc1, hl1, hs1, hb1⟩ := HQ.out
      refine ⟨_, l1, rfl, ?_, Nat.le_trans hl1 HLM.out, hs1, HWZ.out.trans (hb1.mono HWZ.out.size)⟩
      rwa [accE_mkP, HL.out, List.take_length] at hc1
end Go.Proofs.YtmkfabdkadocdaaDoor

/-
  The reference's Never: the two regions that ask.
-/
namespace Go.Proofs.YtmkfabdkadocdaaDoor
open Go Go.WideMaps Go.RowKit Go.Sort

set_option maxRecDepth 100000 in
set_option maxHeartbeats 4000000 in
theorem nev11_t (w : World) (pb rb b off i m c : Nat) (r : ARule) (x : AEntry) (x0 x2 x4 x6 x7 x9 x10 x11 x12 x13 x14 x15 x16 x17 x18 x19 x20 x21 x22 x23 x24 x25 x26 x27 x28 x29 x30 x31 x32 x33 x34 x35 x36 x37 x38 x39 x40 x41 x42 x43 x44 x45 x46 x47 x48 x49 x50 x51 x52 x53 x54 x55 x56 x57 x58 x59 x60 x61 x62 x63 x64 x65 x66 x67 x68 x69 x70 x71 x72 x73 x74 x75 x76 x77 x78 x79 x80 x81 x82 x83 x84 x85 x86 x87 x88 x89 x90 x91 x92 x93 x94 x95 x96 x97 x98 x99 x100 x101 x102 x103 x104 : Value) (him : i < m) (HR : Hid (Whole w rb 27 #[.int .i64 r.kind, .int .u64 r.src.a, .int .u64 r.src.b, .int .u64 r.src.c, .int .u64 r.src.d, .int .u64 r.tgt.a, .int .u64 r.tgt.b, .int .u64 r.tgt.c, .int .u64 r.tgt.d, .bool r.self, .int .i64 r.cls, .int .u32 r.perms, .int .i64 r.cond])) (HE : Hid (∀ j u, x.cells[j]? = some u → w.cell? ⟨b, off + i * 7 + j, none⟩ = some u)) (HH : Hid (∀ W, Calls Tryd.prog 28 #[.agg #[.int .u64 r.tgt.a, .int .u64 r.tgt.b, .int .u64 r.tgt.c, .int .u64 r.tgt.d], .int .i64 x.tgt] W fun e w' => e = .returned (.bool true) ∧ RowKit.Below W.heap.size W w'))
    {Q' : Exit → Act → World → Prop} (hend : ∀ (v31 v32 v33 v34 v35 v36 v37 v38 v39 v40 v41 v42 v43 v44 v45 v46 v47 v48 v49 v50 v51 v52 v53 v54 v55 : Value) (w' : World), RowKit.Below w.heap.size w w' → Q' .normal ⟨#[x0, .pointer (some ⟨pb, 0, none⟩), x2, .slice (some ⟨b, off, none⟩) m c, x4, .int .i64 (i : Int), x6, x7, .pointer (some ⟨rb, 0, none⟩), .bool true, x10, x11, x12, x13, x14, x15, x16, x17, x18, x19, x20, x21, x22, x23, x24, x25, x26, x27, x28, x29, x30, v31, v32, v33, v34, v35, v36, v37, v38, v39, v40, v41, v42, v43, v44, v45, v46, v47, v48, v49, v50, v51, v52, v53, v54, v55, x56, x57, x58, x59, x60, x61, x62, x63, x64, x65, x66, x67, x68, x69, x70, x71, x72, x73, x74, x75, x76, x77, x78, x79, x80, x81, x82, x83, x84, x85, x86, x87, x88, x89, x90, x91, x92, x93, x94, x95, x96, x97, x98, x99, x100, x101, x102, x103, x104], []⟩ w') :
    Code.wp Tryd.prog (findRegion7 11 ((Tryd.f22.body).getD .skip)) Q' ⟨#[x0, .pointer (some ⟨pb, 0, none⟩), x2, .slice (some ⟨b, off, none⟩) m c, x4, .int .i64 (i : Int), x6, x7, .pointer (some ⟨rb, 0, none⟩), x9, x10, x11, x12, x13, x14, x15, x16, x17, x18, x19, x20, x21, x22, x23, x24, x25, x26, x27, x28, x29, x30, x31, x32, x33, x34, x35, x36, x37, x38, x39, x40, x41, x42, x43, x44, x45, x46, x47, x48, x49, x50, x51, x52, x53, x54, x55, x56, x57, x58, x59, x60, x61, x62, x63, x64, x65, x66, x67, x68, x69, x70, x71, x72, x73, x74, x75, x76, x77, x78, x79, x80, x81, x82, x83, x84, x85, x86, x87, x88, x89, x90, x91, x92, x93, x94, x95, x96, x97, x98, x99, x100, x101, x102, x103, x104], []⟩ w := by
  have HEND := Lib.hid hend
  clear hend
  conv => arg 2; whnf
  conv => arg 4; dsimp only
  refine wp_region_goods [some 31, some 32, some 33, some 34, some 35, some 36, some 37, some 38, some 39, some 40, some 41, some 42, some 43, some 44, some 45, some 46, some 47, some 48, some 49, some 50, some 51, some 52, some 53, some 54, some 55] [isW (.pointer (some ⟨rb, 5, none⟩)), isW (.agg #[.int .u64 r.tgt.a, .int .u64 r.tgt.b, .int .u64 r.tgt.c, .int .u64 r.tgt.d]), isW (.slice (some ⟨b, off, none⟩) m c), isW (.int .i64 (i : Int)), isW (.pointer (some ⟨b, off + i * 7, none⟩)), isW (.pointer (some ⟨b, off + i * 7 + 1, none⟩)), isW (.int .i64 x.tgt), isW (.bool true), isW (.bool true), isW (undef), isW (undef), isW (undef), isW (undef), isW (undef), isW (undef), isW (undef), isW (undef), isW (undef), isW (undef), isW (undef), isW (undef), isW (undef), isW (undef), isW (undef), isW (.bool true)] (fun _ w' => RowKit.Below w.heap.size w w') [] (by kernel_rfl) (by kernel_rfl) (by kernel_rfl) rfl (by decide) rfl rfl ((Below.refl _ _).drew) ⟨lastsW_is _, lastsW_is _, lastsW_is _, lastsW_is _, lastsW_is _, lastsW_is _, lastsW_is _, lastsW_is _, lastsW_is _, lastsW_is _, lastsW_is _, lastsW_is _, lastsW_is _, lastsW_is _, lastsW_is _, lastsW_is _, lastsW_is _, lastsW_is _, lastsW_is _, lastsW_is _, lastsW_is _, lastsW_is _, lastsW_is _, lastsW_is _, lastsW_is _, trivial⟩ ⟨?_, ?_, ?_, ?_, ?_, ?_, ?_, ?_, ?_, ?_, ?_, ?_, ?_, ?_, ?_, ?_, ?_, ?_, ?_, ?_, ?_, ?_, ?_, ?_, ?_, ?_⟩
  · intro L a wy Q' hL hi H F hK
    try dsimp only at hi
    have h8 : a.tmps[8]? = some (.pointer (some ⟨rb, 0, none⟩)) := F 8 rfl
    have HI := Lib.hid hi
    clear H F hi hL
    go_wp2_with fail
    exact hK _ _ (Below.refl _ _) HI.out rfl
  · intro L a wy Q' hL hi H F hK
    try dsimp only at hi
    obtain ⟨_, h31, rfl⟩ := H 0 ⟨.data, by simp, rfl⟩ _ rfl
    replace h31 := h31 _ rfl
    have HI := Lib.hid hi
    clear H F hi hL
    have kq0 : wy.cell? ⟨rb, 5, none⟩ = some (.int .u64 r.tgt.a) := (Whole.under HI.out HR.out (Whole.lt HR.out)).cell 5
    have kq1 : wy.cell? ⟨rb, 6, none⟩ = some (.int .u64 r.tgt.b) := (Whole.under HI.out HR.out (Whole.lt HR.out)).cell 6
    have kq2 : wy.cell? ⟨rb, 7, none⟩ = some (.int .u64 r.tgt.c) := (Whole.under HI.out HR.out (Whole.lt HR.out)).cell 7
    have kq3 : wy.cell? ⟨rb, 8, none⟩ = some (.int .u64 r.tgt.d) := (Whole.under HI.out HR.out (Whole.lt HR.out)).cell 8
    go_wp2_with fail
    exact hK _ _ (Below.refl _ _) HI.out rfl
  · intro L a wy Q' hL hi H F hK
    try dsimp only at hi
    have h3 : a.tmps[3]? = some (.slice (some ⟨b, off, none⟩) m c) := F 3 rfl
    have HI := Lib.hid hi
    clear H F hi hL
    go_wp2_with fail
    exact hK _ _ (Below.refl _ _) HI.out rfl
  · intro L a wy Q' hL hi H F hK
    try dsimp only at hi
    have h5 : a.tmps[5]? = some (.int .i64 (i : Int)) := F 5 rfl
    have HI := Lib.hid hi
    clear H F hi hL
    go_wp2_with fail
    exact hK _ _ (Below.refl _ _) HI.out rfl
  · intro L a wy Q' hL hi H F hK
    try dsimp only at hi
    obtain ⟨_, h33, rfl⟩ := H 2 ⟨.data, by simp, rfl⟩ _ rfl
    replace h33 := h33 _ rfl
    obtain ⟨_, h34, rfl⟩ := H 3 ⟨.data, by simp, rfl⟩ _ rfl
    replace h34 := h34 _ rfl
    have HI := Lib.hid hi
    clear H F hi hL
    go_wp2_with fail
    exact hK _ _ (Below.refl _ _) HI.out rfl
  · intro L a wy Q' hL hi H F hK
    try dsimp only at hi
    obtain ⟨_, h35, rfl⟩ := H 4 ⟨.data, by simp, rfl⟩ _ rfl
    replace h35 := h35 _ rfl
    have HI := Lib.hid hi
    clear H F hi hL
    go_wp2_with fail
    exact hK _ _ (Below.refl _ _) HI.out rfl
  · intro L a wy Q' hL hi H F hK
    try dsimp only at hi
    obtain ⟨_, h36, rfl⟩ := H 5 ⟨.data, by simp, rfl⟩ _ rfl
    replace h36 := h36 _ rfl
    have HI := Lib.hid hi
    clear H F hi hL
    have kq : wy.cell? ⟨b, off + i * 7 + 1, none⟩ = some (.int .i64 x.tgt) := cell_later HI.out (HE.out 1 _ rfl)
    go_wp2_with fail
    exact hK _ _ (Below.refl _ _) HI.out rfl
  · intro L a wy Q' hL hi H F hK
    try dsimp only at hi
    obtain ⟨_, h32, rfl⟩ := H 1 ⟨.data, by simp, rfl⟩ _ rfl
    replace h32 := h32 _ rfl
    obtain ⟨_, h37, rfl⟩ := H 6 ⟨.data, by simp, rfl⟩ _ rfl
    replace h37 := h37 _ rfl
    have HI := Lib.hid hi
    clear H F hi hL
    have HK := Lib.hid hK
    clear hK
    go_wp2_with (go_at_call 28; go_must (refine (HH.out wy).mono ?_; rintro e w1 ⟨rfl, hb1⟩))
    exact HK.out _ _ hb1 (HI.out.trans (hb1.mono HI.out.size)) rfl
  · intro L a wy Q' hL hi H F hK
    try dsimp only at hi
    obtain ⟨_, h38, rfl⟩ := H 7 ⟨.data, by simp, rfl⟩ _ rfl
    replace h38 := h38 _ rfl
    have HI := Lib.hid hi
    clear H F hi hL
    go_wp2_with fail
    exact hK _ _ (Below.refl _ _) HI.out rfl
  · intro L a wy Q' hL hi H F hK
    try dsimp only at hi
    obtain ⟨_, h39, rfl⟩ := H 8 ⟨.guard, by simp, rfl⟩ _ rfl
    replace h39 := h39 _ rfl
    have h8 : a.tmps[8]? = some (.pointer (some ⟨rb, 0, none⟩)) := F 8 rfl
    have HI := Lib.hid hi
    clear H F hi hL
    refine wpList_skip (by simp [Region.wanted, yielded, h39]) ?_
    exact hK _ _ (Below.refl _ _) HI.out rfl
  · intro L a wy Q' hL hi H F hK
    try dsimp only at hi
    obtain ⟨_, h40, rfl⟩ := H 9 ⟨.data, by simp, rfl⟩ _ rfl
    replace h40 := h40 _ rfl
    obtain ⟨_, h39, rfl⟩ := H 8 ⟨.guard, by simp, rfl⟩ _ rfl
    replace h39 := h39 _ rfl
    have HI := Lib.hid hi
    clear H F hi hL
    refine wpList_skip (by simp [Region.wanted, yielded, h39]) ?_
    exact hK _ _ (Below.refl _ _) HI.out rfl
  · intro L a wy Q' hL hi H F hK
    try dsimp only at hi
    obtain ⟨_, h41, rfl⟩ := H 10 ⟨.data, by simp, rfl⟩ _ rfl
    replace h41 := h41 _ rfl
    obtain ⟨_, h39, rfl⟩ := H 8 ⟨.guard, by simp, rfl⟩ _ rfl
    replace h39 := h39 _ rfl
    have HI := Lib.hid hi
    clear H F hi hL
    refine wpList_skip (by simp [Region.wanted, yielded, h39]) ?_
    exact hK _ _ (Below.refl _ _) HI.out rfl
  · intro L a wy Q' hL hi H F hK
    try dsimp only at hi
    obtain ⟨_, h42, rfl⟩ := H 11 ⟨.guard, by simp, rfl⟩ _ rfl
    replace h42 := h42 _ rfl
    have h3 : a.tmps[3]? = some (.slice (some ⟨b, off, none⟩) m c) := F 3 rfl
    have HI := Lib.hid hi
    clear H F hi hL
    refine wpList_skip (by simp [Region.wanted, yielded, undef, h42]) ?_
    exact hK _ _ (Below.refl _ _) HI.out rfl
  · intro L a wy Q' hL hi H F hK
    try dsimp only at hi
    obtain ⟨_, h42, rfl⟩ := H 11 ⟨.guard, by simp, rfl⟩ _ rfl
    replace h42 := h42 _ rfl
    have h5 : a.tmps[5]? = some (.int .i64 (i : Int)) := F 5 rfl
    have HI := Lib.hid hi
    clear H F hi hL
    refine wpList_skip (by simp [Region.wanted, yielded, undef, h42]) ?_
    exact hK _ _ (Below.refl _ _) HI.out rfl
  · intro L a wy Q' hL hi H F hK
    try dsimp only at hi
    obtain ⟨_, h43, rfl⟩ := H 12 ⟨.data, by simp, rfl⟩ _ rfl
    replace h43 := h43 _ rfl
    obtain ⟨_, h44, rfl⟩ := H 13 ⟨.data, by simp, rfl⟩ _ rfl
    replace h44 := h44 _ rfl
    obtain ⟨_, h42, rfl⟩ := H 11 ⟨.guard, by simp, rfl⟩ _ rfl
    replace h42 := h42 _ rfl
    have HI := Lib.hid hi
    clear H F hi hL
    refine wpList_skip (by simp [Region.wanted, yielded, undef, h42]) ?_
    exact hK _ _ (Below.refl _ _) HI.out rfl
  · intro L a wy Q' hL hi H F hK
    try dsimp only at hi
    obtain ⟨_, h45, rfl⟩ := H 14 ⟨.data, by simp, rfl⟩ _ rfl
    replace h45 := h45 _ rfl
    obtain ⟨_, h42, rfl⟩ := H 11 ⟨.guard, by simp, rfl⟩ _ rfl
    replace h42 := h42 _ rfl
    have HI := Lib.hid hi
    clear H F hi hL
    refine wpList_skip (by simp [Region.wanted, yielded, undef, h42]) ?_
    exact hK _ _ (Below.refl _ _) HI.out rfl
  · intro L a wy Q' hL hi H F hK
    try dsimp only at hi
    obtain ⟨_, h46, rfl⟩ := H 15 ⟨.data, by simp, rfl⟩ _ rfl
    replace h46 := h46 _ rfl
    obtain ⟨_, h42, rfl⟩ := H 11 ⟨.guard, by simp, rfl⟩ _ rfl
    replace h42 := h42 _ rfl
    have HI := Lib.hid hi
    clear H F hi hL
    refine wpList_skip (by simp [Region.wanted, yielded, undef, h42]) ?_
    exact hK _ _ (Below.refl _ _) HI.out rfl
  · intro L a wy Q' hL hi H F hK
    try dsimp only at hi
    obtain ⟨_, h42, rfl⟩ := H 11 ⟨.guard, by simp, rfl⟩ _ rfl
    replace h42 := h42 _ rfl
    have h3 : a.tmps[3]? = some (.slice (some ⟨b, off, none⟩) m c) := F 3 rfl
    have HI := Lib.hid hi
    clear H F hi hL
    refine wpList_skip (by simp [Region.wanted, yielded, undef, h42]) ?_
    exact hK _ _ (Below.refl _ _) HI.out rfl
  · intro L a wy Q' hL hi H F hK
    try dsimp only at hi
    obtain ⟨_, h42, rfl⟩ := H 11 ⟨.guard, by simp, rfl⟩ _ rfl
    replace h42 := h42 _ rfl
    have h5 : a.tmps[5]? = some (.int .i64 (i : Int)) := F 5 rfl
    have HI := Lib.hid hi
    clear H F hi hL
    refine wpList_skip (by simp [Region.wanted, yielded, undef, h42]) ?_
    exact hK _ _ (Below.refl _ _) HI.out rfl
  · intro L a wy Q' hL hi H F hK
    try dsimp only at hi
    obtain ⟨_, h48, rfl⟩ := H 17 ⟨.data, by simp, rfl⟩ _ rfl
    replace h48 := h48 _ rfl
    obtain ⟨_, h49, rfl⟩ := H 18 ⟨.data, by simp, rfl⟩ _ rfl
    replace h49 := h49 _ rfl
    obtain ⟨_, h42, rfl⟩ := H 11 ⟨.guard, by simp, rfl⟩ _ rfl
    replace h42 := h42 _ rfl
    have HI := Lib.hid hi
    clear H F hi hL
    refine wpList_skip (by simp [Region.wanted, yielded, undef, h42]) ?_
    exact hK _ _ (Below.refl _ _) HI.out rfl
  · intro L a wy Q' hL hi H F hK
    try dsimp only at hi
    obtain ⟨_, h50, rfl⟩ := H 19 ⟨.data, by simp, rfl⟩ _ rfl
    replace h50 := h50 _ rfl
    obtain ⟨_, h42, rfl⟩ := H 11 ⟨.guard, by simp, rfl⟩ _ rfl
    replace h42 := h42 _ rfl
    have HI := Lib.hid hi
    clear H F hi hL
    refine wpList_skip (by simp [Region.wanted, yielded, undef, h42]) ?_
    exact hK _ _ (Below.refl _ _) HI.out rfl
  · intro L a wy Q' hL hi H F hK
    try dsimp only at hi
    obtain ⟨_, h51, rfl⟩ := H 20 ⟨.data, by simp, rfl⟩ _ rfl
    replace h51 := h51 _ rfl
    obtain ⟨_, h42, rfl⟩ := H 11 ⟨.guard, by simp, rfl⟩ _ rfl
    replace h42 := h42 _ rfl
    have HI := Lib.hid hi
    clear H F hi hL
    refine wpList_skip (by simp [Region.wanted, yielded, undef, h42]) ?_
    exact hK _ _ (Below.refl _ _) HI.out rfl
  · intro L a wy Q' hL hi H F hK
    try dsimp only at hi
    obtain ⟨_, h47, rfl⟩ := H 16 ⟨.data, by simp, rfl⟩ _ rfl
    replace h47 := h47 _ rfl
    obtain ⟨_, h52, rfl⟩ := H 21 ⟨.data, by simp, rfl⟩ _ rfl
    replace h52 := h52 _ rfl
    obtain ⟨_, h42, rfl⟩ := H 11 ⟨.guard, by simp, rfl⟩ _ rfl
    replace h42 := h42 _ rfl
    have HI := Lib.hid hi
    clear H F hi hL
    refine wpList_skip (by simp [Region.wanted, yielded, undef, h42]) ?_
    exact hK _ _ (Below.refl _ _) HI.out rfl
  · intro L a wy Q' hL hi H F hK
    try dsimp only at hi
    obtain ⟨_, h42, rfl⟩ := H 11 ⟨.data, by simp, rfl⟩ _ rfl
    replace h42 := h42 _ rfl
    obtain ⟨_, h53, rfl⟩ := H 22 ⟨.data, by simp, rfl⟩ _ rfl
    replace h53 := h53 _ rfl
    obtain ⟨_, h39, rfl⟩ := H 8 ⟨.guard, by simp, rfl⟩ _ rfl
    replace h39 := h39 _ rfl
    have HI := Lib.hid hi
    clear H F hi hL
    refine wpList_skip (by simp [Region.wanted, yielded, h39]) ?_
    exact hK _ _ (Below.refl _ _) HI.out rfl
  · intro L a wy Q' hL hi H F hK
    try dsimp only at hi
    obtain ⟨_, h39, rfl⟩ := H 8 ⟨.data, by simp, rfl⟩ _ rfl
    replace h39 := h39 _ rfl
    obtain ⟨_, h54, rfl⟩ := H 23 ⟨.data, by simp, rfl⟩ _ rfl
    replace h54 := h54 _ rfl
    have HI := Lib.hid hi
    clear H F hi hL
    go_wp2_with fail
    exact hK _ _ (Below.refl _ _) HI.out rfl
  · intro a wy L hl hi hL Q' hK
    try dsimp only at hi
    have HB := Lib.hid hi
    clear hi hL
    obtain ⟨_, rfl, _, rfl, _, rfl, _, rfl, _, rfl, _, rfl, _, rfl, _, rfl, _, rfl, _, rfl, _, rfl, _, rfl, _, rfl, _, rfl, _, rfl, _, rfl, _, rfl, _, rfl, _, rfl, _, rfl, _, rfl, _, rfl, _, rfl, _, rfl, _, rfl, rfl⟩ := hl
    simp only [List.setIfInBounds_toArray, List.set_cons_zero, List.set_cons_succ]
    go_wp2_with fail
    exact HEND.out _ _ _ _ _ _ _ _ _ _ _ _ _ _ _ _ _ _ _ _ _ _ _ _ _ _ HB.out
set_option maxRecDepth 100000 in
set_option maxHeartbeats 4000000 in
theorem nev11_ff (w : World) (pb rb b off i m c : Nat) (r : ARule) (x : AEntry) (x0 x2 x4 x6 x7 x9 x10 x11 x12 x13 x14 x15 x16 x17 x18 x19 x20 x21 x22 x23 x24 x25 x26 x27 x28 x29 x30 x31 x32 x33 x34 x35 x36 x37 x38 x39 x40 x41 x42 x43 x44 x45 x46 x47 x48 x49 x50 x51 x52 x53 x54 x55 x56 x57 x58 x59 x60 x61 x62 x63 x64 x65 x66 x67 x68 x69 x70 x71 x72 x73 x74 x75 x76 x77 x78 x79 x80 x81 x82 x83 x84 x85 x86 x87 x88 x89 x90 x91 x92 x93 x94 x95 x96 x97 x98 x99 x100 x101 x102 x103 x104 : Value) (him : i < m) (HR : Hid (Whole w rb 27 #[.int .i64 r.kind, .int .u64 r.src.a, .int .u64 r.src.b, .int .u64 r.src.c, .int .u64 r.src.d, .int .u64 r.tgt.a, .int .u64 r.tgt.b, .int .u64 r.tgt.c, .int .u64 r.tgt.d, .bool false, .int .i64 r.cls, .int .u32 r.perms, .int .i64 r.cond])) (HE : Hid (∀ j u, x.cells[j]? = some u → w.cell? ⟨b, off + i * 7 + j, none⟩ = some u)) (HH : Hid (∀ W, Calls Tryd.prog 28 #[.agg #[.int .u64 r.tgt.a, .int .u64 r.tgt.b, .int .u64 r.tgt.c, .int .u64 r.tgt.d], .int .i64 x.tgt] W fun e w' => e = .returned (.bool false) ∧ RowKit.Below W.heap.size W w'))
    {Q' : Exit → Act → World → Prop} (hend : ∀ (v31 v32 v33 v34 v35 v36 v37 v38 v39 v40 v41 v42 v43 v44 v45 v46 v47 v48 v49 v50 v51 v52 v53 v54 v55 : Value) (w' : World), RowKit.Below w.heap.size w w' → Q' .normal ⟨#[x0, .pointer (some ⟨pb, 0, none⟩), x2, .slice (some ⟨b, off, none⟩) m c, x4, .int .i64 (i : Int), x6, x7, .pointer (some ⟨rb, 0, none⟩), .bool false, x10, x11, x12, x13, x14, x15, x16, x17, x18, x19, x20, x21, x22, x23, x24, x25, x26, x27, x28, x29, x30, v31, v32, v33, v34, v35, v36, v37, v38, v39, v40, v41, v42, v43, v44, v45, v46, v47, v48, v49, v50, v51, v52, v53, v54, v55, x56, x57, x58, x59, x60, x61, x62, x63, x64, x65, x66, x67, x68, x69, x70, x71, x72, x73, x74, x75, x76, x77, x78, x79, x80, x81, x82, x83, x84, x85, x86, x87, x88, x89, x90, x91, x92, x93, x94, x95, x96, x97, x98, x99, x100, x101, x102, x103, x104], []⟩ w') :
    Code.wp Tryd.prog (findRegion7 11 ((Tryd.f22.body).getD .skip)) Q' ⟨#[x0, .pointer (some ⟨pb, 0, none⟩), x2, .slice (some ⟨b, off, none⟩) m c, x4, .int .i64 (i : Int), x6, x7, .pointer (some ⟨rb, 0, none⟩), x9, x10, x11, x12, x13, x14, x15, x16, x17, x18, x19, x20, x21, x22, x23, x24, x25, x26, x27, x28, x29, x30, x31, x32, x33, x34, x35, x36, x37, x38, x39, x40, x41, x42, x43, x44, x45, x46, x47, x48, x49, x50, x51, x52, x53, x54, x55, x56, x57, x58, x59, x60, x61, x62, x63, x64, x65, x66, x67, x68, x69, x70, x71, x72, x73, x74, x75, x76, x77, x78, x79, x80, x81, x82, x83, x84, x85, x86, x87, x88, x89, x90, x91, x92, x93, x94, x95, x96, x97, x98, x99, x100, x101, x102, x103, x104], []⟩ w := by
  have HEND := Lib.hid hend
  clear hend
  conv => arg 2; whnf
  conv => arg 4; dsimp only
  refine wp_region_goods [some 31, some 32, some 33, some 34, some 35, some 36, some 37, some 38, some 39, some 40, some 41, some 42, some 43, some 44, some 45, some 46, some 47, some 48, some 49, some 50, some 51, some 52, some 53, some 54, some 55] [isW (.pointer (some ⟨rb, 5, none⟩)), isW (.agg #[.int .u64 r.tgt.a, .int .u64 r.tgt.b, .int .u64 r.tgt.c, .int .u64 r.tgt.d]), isW (.slice (some ⟨b, off, none⟩) m c), isW (.int .i64 (i : Int)), isW (.pointer (some ⟨b, off + i * 7, none⟩)), isW (.pointer (some ⟨b, off + i * 7 + 1, none⟩)), isW (.int .i64 x.tgt), isW (.bool false), isW (.bool false), isW (.pointer (some ⟨rb, 9, none⟩)), isW (.bool false), isW (.bool false), isW (undef), isW (undef), isW (undef), isW (undef), isW (undef), isW (undef), isW (undef), isW (undef), isW (undef), isW (undef), isW (undef), isW (.bool false), isW (.bool false)] (fun _ w' => RowKit.Below w.heap.size w w') [] (by kernel_rfl) (by kernel_rfl) (by kernel_rfl) rfl (by decide) rfl rfl ((Below.refl _ _).drew) ⟨lastsW_is _, lastsW_is _, lastsW_is _, lastsW_is _, lastsW_is _, lastsW_is _, lastsW_is _, lastsW_is _, lastsW_is _, lastsW_is _, lastsW_is _, lastsW_is _, lastsW_is _, lastsW_is _, lastsW_is _, lastsW_is _, lastsW_is _, lastsW_is _, lastsW_is _, lastsW_is _, lastsW_is _, lastsW_is _, lastsW_is _, lastsW_is _, lastsW_is _, trivial⟩ ⟨?_, ?_, ?_, ?_, ?_, ?_, ?_, ?_, ?_, ?_, ?_, ?_, ?_, ?_, ?_, ?_, ?_, ?_, ?_, ?_, ?_, ?_, ?_, ?_, ?_, ?_⟩
  · intro L a wy Q' hL hi H F hK
    try dsimp only at hi
    have h8 : a.tmps[8]? = some (.pointer (some ⟨rb, 0, none⟩)) := F 8 rfl
    have HI := Lib.hid hi
    clear H F hi hL
    go_wp2_with fail
    exact hK _ _ (Below.refl _ _) HI.out rfl
  · intro L a wy Q' hL hi H F hK
    try dsimp only at hi
    obtain ⟨_, h31, rfl⟩ := H 0 ⟨.data, by simp, rfl⟩ _ rfl
    replace h31 := h31 _ rfl
    have HI := Lib.hid hi
    clear H F hi hL
    have kq0 : wy.cell? ⟨rb, 5, none⟩ = some (.int .u64 r.tgt.a) := (Whole.under HI.out HR.out (Whole.lt HR.out)).cell 5
    have kq1 : wy.cell? ⟨rb, 6, none⟩ = some (.int .u64 r.tgt.b) := (Whole.under HI.out HR.out (Whole.lt HR.out)).cell 6
    have kq2 : wy.cell? ⟨rb, 7, none⟩ = some (.int .u64 r.tgt.c) := (Whole.under HI.out HR.out (Whole.lt HR.out)).cell 7
    have kq3 : wy.cell? ⟨rb, 8, none⟩ = some (.int .u64 r.tgt.d) := (Whole.under HI.out HR.out (Whole.lt HR.out)).cell 8
    go_wp2_with fail
    exact hK _ _ (Below.refl _ _) HI.out rfl
  · intro L a wy Q' hL hi H F hK
    try dsimp only at hi
    have h3 : a.tmps[3]? = some (.slice (some ⟨b, off, none⟩) m c) := F 3 rfl
    have HI := Lib.hid hi
    clear H F hi hL
    go_wp2_with fail
    exact hK _ _ (Below.refl _ _) HI.out rfl
  · intro L a wy Q' hL hi H F hK
    try dsimp only at hi
    have h5 : a.tmps[5]? = some (.int .i64 (i : Int)) := F 5 rfl
    have HI := Lib.hid hi
    clear H F hi hL
    go_wp2_with fail
    exact hK _ _ (Below.refl _ _) HI.out rfl
  · intro L a wy Q' hL hi H F hK
    try dsimp only at hi
    obtain ⟨_, h33, rfl⟩ := H 2 ⟨.data, by simp, rfl⟩ _ rfl
    replace h33 := h33 _ rfl
    obtain ⟨_, h34, rfl⟩ := H 3 ⟨.data, by simp, rfl⟩ _ rfl
    replace h34 := h34 _ rfl
    have HI := Lib.hid hi
    clear H F hi hL
    go_wp2_with fail
    exact hK _ _ (Below.refl _ _) HI.out rfl
  · intro L a wy Q' hL hi H F hK
    try dsimp only at hi
    obtain ⟨_, h35, rfl⟩ := H 4 ⟨.data, by simp, rfl⟩ _ rfl
    replace h35 := h35 _ rfl
    have HI := Lib.hid hi
    clear H F hi hL
    go_wp2_with fail
    exact hK _ _ (Below.refl _ _) HI.out rfl
  · intro L a wy Q' hL hi H F hK
    try dsimp only at hi
    obtain ⟨_, h36, rfl⟩ := H 5 ⟨.data, by simp, rfl⟩ _ rfl
    replace h36 := h36 _ rfl
    have HI := Lib.hid hi
    clear H F hi hL
    have kq : wy.cell? ⟨b, off + i * 7 + 1, none⟩ = some (.int .i64 x.tgt) := cell_later HI.out (HE.out 1 _ rfl)
    go_wp2_with fail
    exact hK _ _ (Below.refl _ _) HI.out rfl
  · intro L a wy Q' hL hi H F hK
    try dsimp only at hi
    obtain ⟨_, h32, rfl⟩ := H 1 ⟨.data, by simp, rfl⟩ _ rfl
    replace h32 := h32 _ rfl
    obtain ⟨_, h37, rfl⟩ := H 6 ⟨.data, by simp, rfl⟩ _ rfl
    replace h37 := h37 _ rfl
    have HI := Lib.hid hi
    clear H F hi hL
    have HK := Lib.hid hK
    clear hK
    go_wp2_with (go_at_call 28; go_must (refine (HH.out wy).mono ?_; rintro e w1 ⟨rfl, hb1⟩))
    exact HK.out _ _ hb1 (HI.out.trans (hb1.mono HI.out.size)) rfl
  · intro L a wy Q' hL hi H F hK
    try dsimp only at hi
    obtain ⟨_, h38, rfl⟩ := H 7 ⟨.data, by simp, rfl⟩ _ rfl
    replace h38 := h38 _ rfl
    have HI := Lib.hid hi
    clear H F hi hL
    go_wp2_with fail
    exact hK _ _ (Below.refl _ _) HI.out rfl
  · intro L a wy Q' hL hi H F hK
    try dsimp only at hi
    obtain ⟨_, h39, rfl⟩ := H 8 ⟨.guard, by simp, rfl⟩ _ rfl
    replace h39 := h39 _ rfl
    have h8 : a.tmps[8]? = some (.pointer (some ⟨rb, 0, none⟩)) := F 8 rfl
    have HI := Lib.hid hi
    clear H F hi hL
    go_wp2_with fail
    exact hK _ _ (Below.refl _ _) HI.out rfl
  · intro L a wy Q' hL hi H F hK
    try dsimp only at hi
    obtain ⟨_, h40, rfl⟩ := H 9 ⟨.data, by simp, rfl⟩ _ rfl
    replace h40 := h40 _ rfl
    obtain ⟨_, h39, rfl⟩ := H 8 ⟨.guard, by simp, rfl⟩ _ rfl
    replace h39 := h39 _ rfl
    have HI := Lib.hid hi
    clear H F hi hL
    have kq0 : wy.cell? ⟨rb, 9, none⟩ = some (.bool false) := (Whole.under HI.out HR.out (Whole.lt HR.out)).cell 9
    go_wp2_with fail
    exact hK _ _ (Below.refl _ _) HI.out rfl
  · intro L a wy Q' hL hi H F hK
    try dsimp only at hi
    obtain ⟨_, h41, rfl⟩ := H 10 ⟨.data, by simp, rfl⟩ _ rfl
    replace h41 := h41 _ rfl
    obtain ⟨_, h39, rfl⟩ := H 8 ⟨.guard, by simp, rfl⟩ _ rfl
    replace h39 := h39 _ rfl
    have HI := Lib.hid hi
    clear H F hi hL
    go_wp2_with fail
    exact hK _ _ (Below.refl _ _) HI.out rfl
  · intro L a wy Q' hL hi H F hK
    try dsimp only at hi
    obtain ⟨_, h42, rfl⟩ := H 11 ⟨.guard, by simp, rfl⟩ _ rfl
    replace h42 := h42 _ rfl
    have h3 : a.tmps[3]? = some (.slice (some ⟨b, off, none⟩) m c) := F 3 rfl
    have HI := Lib.hid hi
    clear H F hi hL
    refine wpList_skip (by simp [Region.wanted, yielded, h42]) ?_
    exact hK _ _ (Below.refl _ _) HI.out rfl
  · intro L a wy Q' hL hi H F hK
    try dsimp only at hi
    obtain ⟨_, h42, rfl⟩ := H 11 ⟨.guard, by simp, rfl⟩ _ rfl
    replace h42 := h42 _ rfl
    have h5 : a.tmps[5]? = some (.int .i64 (i : Int)) := F 5 rfl
    have HI := Lib.hid hi
    clear H F hi hL
    refine wpList_skip (by simp [Region.wanted, yielded, h42]) ?_
    exact hK _ _ (Below.refl _ _) HI.out rfl
  · intro L a wy Q' hL hi H F hK
    try dsimp only at hi
    obtain ⟨_, h43, rfl⟩ := H 12 ⟨.data, by simp, rfl⟩ _ rfl
    replace h43 := h43 _ rfl
    obtain ⟨_, h44, rfl⟩ := H 13 ⟨.data, by simp, rfl⟩ _ rfl
    replace h44 := h44 _ rfl
    obtain ⟨_, h42, rfl⟩ := H 11 ⟨.guard, by simp, rfl⟩ _ rfl
    replace h42 := h42 _ rfl
    have HI := Lib.hid hi
    clear H F hi hL
    refine wpList_skip (by simp [Region.wanted, yielded, h42]) ?_
    exact hK _ _ (Below.refl _ _) HI.out rfl
  · intro L a wy Q' hL hi H F hK
    try dsimp only at hi
    obtain ⟨_, h45, rfl⟩ := H 14 ⟨.data, by simp, rfl⟩ _ rfl
    replace h45 := h45 _ rfl
    obtain ⟨_, h42, rfl⟩ := H 11 ⟨.guard, by simp, rfl⟩ _ rfl
    replace h42 := h42 _ rfl
    have HI := Lib.hid hi
    clear H F hi hL
    refine wpList_skip (by simp [Region.wanted, yielded, h42]) ?_
    exact hK _ _ (Below.refl _ _) HI.out rfl
  · intro L a wy Q' hL hi H F hK
    try dsimp only at hi
    obtain ⟨_, h46, rfl⟩ := H 15 ⟨.data, by simp, rfl⟩ _ rfl
    replace h46 := h46 _ rfl
    obtain ⟨_, h42, rfl⟩ := H 11 ⟨.guard, by simp, rfl⟩ _ rfl
    replace h42 := h42 _ rfl
    have HI := Lib.hid hi
    clear H F hi hL
    refine wpList_skip (by simp [Region.wanted, yielded, h42]) ?_
    exact hK _ _ (Below.refl _ _) HI.out rfl
  · intro L a wy Q' hL hi H F hK
    try dsimp only at hi
    obtain ⟨_, h42, rfl⟩ := H 11 ⟨.guard, by simp, rfl⟩ _ rfl
    replace h42 := h42 _ rfl
    have h3 : a.tmps[3]? = some (.slice (some ⟨b, off, none⟩) m c) := F 3 rfl
    have HI := Lib.hid hi
    clear H F hi hL
    refine wpList_skip (by simp [Region.wanted, yielded, h42]) ?_
    exact hK _ _ (Below.refl _ _) HI.out rfl
  · intro L a wy Q' hL hi H F hK
    try dsimp only at hi
    obtain ⟨_, h42, rfl⟩ := H 11 ⟨.guard, by simp, rfl⟩ _ rfl
    replace h42 := h42 _ rfl
    have h5 : a.tmps[5]? = some (.int .i64 (i : Int)) := F 5 rfl
    have HI := Lib.hid hi
    clear H F hi hL
    refine wpList_skip (by simp [Region.wanted, yielded, h42]) ?_
    exact hK _ _ (Below.refl _ _) HI.out rfl
  · intro L a wy Q' hL hi H F hK
    try dsimp only at hi
    obtain ⟨_, h48, rfl⟩ := H 17 ⟨.data, by simp, rfl⟩ _ rfl
    replace h48 := h48 _ rfl
    obtain ⟨_, h49, rfl⟩ := H 18 ⟨.data, by simp, rfl⟩ _ rfl
    replace h49 := h49 _ rfl
    obtain ⟨_, h42, rfl⟩ := H 11 ⟨.guard, by simp, rfl⟩ _ rfl
    replace h42 := h42 _ rfl
    have HI := Lib.hid hi
    clear H F hi hL
    refine wpList_skip (by simp [Region.wanted, yielded, h42]) ?_
    exact hK _ _ (Below.refl _ _) HI.out rfl
  · intro L a wy Q' hL hi H F hK
    try dsimp only at hi
    obtain ⟨_, h50, rfl⟩ := H 19 ⟨.data, by simp, rfl⟩ _ rfl
    replace h50 := h50 _ rfl
    obtain ⟨_, h42, rfl⟩ := H 11 ⟨.guard, by simp, rfl⟩ _ rfl
    replace h42 := h42 _ rfl
    have HI := Lib.hid hi
    clear H F hi hL
    refine wpList_skip (by simp [Region.wanted, yielded, h42]) ?_
    exact hK _ _ (Below.refl _ _) HI.out rfl
  · intro L a wy Q' hL hi H F hK
    try dsimp only at hi
    obtain ⟨_, h51, rfl⟩ := H 20 ⟨.data, by simp, rfl⟩ _ rfl
    replace h51 := h51 _ rfl
    obtain ⟨_, h42, rfl⟩ := H 11 ⟨.guard, by simp, rfl⟩ _ rfl
    replace h42 := h42 _ rfl
    have HI := Lib.hid hi
    clear H F hi hL
    refine wpList_skip (by simp [Region.wanted, yielded, h42]) ?_
    exact hK _ _ (Below.refl _ _) HI.out rfl
  · intro L a wy Q' hL hi H F hK
    try dsimp only at hi
    obtain ⟨_, h47, rfl⟩ := H 16 ⟨.data, by simp, rfl⟩ _ rfl
    replace h47 := h47 _ rfl
    obtain ⟨_, h52, rfl⟩ := H 21 ⟨.data, by simp, rfl⟩ _ rfl
    replace h52 := h52 _ rfl
    obtain ⟨_, h42, rfl⟩ := H 11 ⟨.guard, by simp, rfl⟩ _ rfl
    replace h42 := h42 _ rfl
    have HI := Lib.hid hi
    clear H F hi hL
    refine wpList_skip (by simp [Region.wanted, yielded, h42]) ?_
    exact hK _ _ (Below.refl _ _) HI.out rfl
  · intro L a wy Q' hL hi H F hK
    try dsimp only at hi
    obtain ⟨_, h42, rfl⟩ := H 11 ⟨.data, by simp, rfl⟩ _ rfl
    replace h42 := h42 _ rfl
    obtain ⟨_, h53, rfl⟩ := H 22 ⟨.data, by simp, rfl⟩ _ rfl
    replace h53 := h53 _ rfl
    obtain ⟨_, h39, rfl⟩ := H 8 ⟨.guard, by simp, rfl⟩ _ rfl
    replace h39 := h39 _ rfl
    have HI := Lib.hid hi
    clear H F hi hL
    go_wp2_with fail
    exact hK _ _ (Below.refl _ _) HI.out rfl
  · intro L a wy Q' hL hi H F hK
    try dsimp only at hi
    obtain ⟨_, h39, rfl⟩ := H 8 ⟨.data, by simp, rfl⟩ _ rfl
    replace h39 := h39 _ rfl
    obtain ⟨_, h54, rfl⟩ := H 23 ⟨.data, by simp, rfl⟩ _ rfl
    replace h54 := h54 _ rfl
    have HI := Lib.hid hi
    clear H F hi hL
    go_wp2_with fail
    exact hK _ _ (Below.refl _ _) HI.out rfl
  · intro a wy L hl hi hL Q' hK
    try dsimp only at hi
    have HB := Lib.hid hi
    clear hi hL
    obtain ⟨_, rfl, _, rfl, _, rfl, _, rfl, _, rfl, _, rfl, _, rfl, _, rfl, _, rfl, _, rfl, _, rfl, _, rfl, _, rfl, _, rfl, _, rfl, _, rfl, _, rfl, _, rfl, _, rfl, _, rfl, _, rfl, _, rfl, _, rfl, _, rfl, _, rfl, rfl⟩ := hl
    simp only [List.setIfInBounds_toArray, List.set_cons_zero, List.set_cons_succ]
    go_wp2_with fail
    exact HEND.out _ _ _ _ _ _ _ _ _ _ _ _ _ _ _ _ _ _ _ _ _ _ _ _ _ _ HB.out
set_option maxRecDepth 100000 in
set_option maxHeartbeats 4000000 in
theorem nev11_ft (w : World) (pb rb b off i m c : Nat) (r : ARule) (x : AEntry) (x0 x2 x4 x6 x7 x9 x10 x11 x12 x13 x14 x15 x16 x17 x18 x19 x20 x21 x22 x23 x24 x25 x26 x27 x28 x29 x30 x31 x32 x33 x34 x35 x36 x37 x38 x39 x40 x41 x42 x43 x44 x45 x46 x47 x48 x49 x50 x51 x52 x53 x54 x55 x56 x57 x58 x59 x60 x61 x62 x63 x64 x65 x66 x67 x68 x69 x70 x71 x72 x73 x74 x75 x76 x77 x78 x79 x80 x81 x82 x83 x84 x85 x86 x87 x88 x89 x90 x91 x92 x93 x94 x95 x96 x97 x98 x99 x100 x101 x102 x103 x104 : Value) (him : i < m) (HR : Hid (Whole w rb 27 #[.int .i64 r.kind, .int .u64 r.src.a, .int .u64 r.src.b, .int .u64 r.src.c, .int .u64 r.src.d, .int .u64 r.tgt.a, .int .u64 r.tgt.b, .int .u64 r.tgt.c, .int .u64 r.tgt.d, .bool true, .int .i64 r.cls, .int .u32 r.perms, .int .i64 r.cond])) (HE : Hid (∀ j u, x.cells[j]? = some u → w.cell? ⟨b, off + i * 7 + j, none⟩ = some u)) (HH : Hid (∀ W, Calls Tryd.prog 28 #[.agg #[.int .u64 r.tgt.a, .int .u64 r.tgt.b, .int .u64 r.tgt.c, .int .u64 r.tgt.d], .int .i64 x.tgt] W fun e w' => e = .returned (.bool false) ∧ RowKit.Below W.heap.size W w')) (hq : (x.src == x.tgt) = true)
    {Q' : Exit → Act → World → Prop} (hend : ∀ (v31 v32 v33 v34 v35 v36 v37 v38 v39 v40 v41 v42 v43 v44 v45 v46 v47 v48 v49 v50 v51 v52 v53 v54 v55 : Value) (w' : World), RowKit.Below w.heap.size w w' → Q' .normal ⟨#[x0, .pointer (some ⟨pb, 0, none⟩), x2, .slice (some ⟨b, off, none⟩) m c, x4, .int .i64 (i : Int), x6, x7, .pointer (some ⟨rb, 0, none⟩), .bool true, x10, x11, x12, x13, x14, x15, x16, x17, x18, x19, x20, x21, x22, x23, x24, x25, x26, x27, x28, x29, x30, v31, v32, v33, v34, v35, v36, v37, v38, v39, v40, v41, v42, v43, v44, v45, v46, v47, v48, v49, v50, v51, v52, v53, v54, v55, x56, x57, x58, x59, x60, x61, x62, x63, x64, x65, x66, x67, x68, x69, x70, x71, x72, x73, x74, x75, x76, x77, x78, x79, x80, x81, x82, x83, x84, x85, x86, x87, x88, x89, x90, x91, x92, x93, x94, x95, x96, x97, x98, x99, x100, x101, x102, x103, x104], []⟩ w') :
    Code.wp Tryd.prog (findRegion7 11 ((Tryd.f22.body).getD .skip)) Q' ⟨#[x0, .pointer (some ⟨pb, 0, none⟩), x2, .slice (some ⟨b, off, none⟩) m c, x4, .int .i64 (i : Int), x6, x7, .pointer (some ⟨rb, 0, none⟩), x9, x10, x11, x12, x13, x14, x15, x16, x17, x18, x19, x20, x21, x22, x23, x24, x25, x26, x27, x28, x29, x30, x31, x32, x33, x34, x35, x36, x37, x38, x39, x40, x41, x42, x43, x44, x45, x46, x47, x48, x49, x50, x51, x52, x53, x54, x55, x56, x57, x58, x59, x60, x61, x62, x63, x64, x65, x66, x67, x68, x69, x70, x71, x72, x73, x74, x75, x76, x77, x78, x79, x80, x81, x82, x83, x84, x85, x86, x87, x88, x89, x90, x91, x92, x93, x94, x95, x96, x97, x98, x99, x100, x101, x102, x103, x104], []⟩ w := by
  have HEND := Lib.hid hend
  clear hend
  conv => arg 2; whnf
  conv => arg 4; dsimp only
  refine wp_region_goods [some 31, some 32, some 33, some 34, some 35, some 36, some 37, some 38, some 39, some 40, some 41, some 42, some 43, some 44, some 45, some 46, some 47, some 48, some 49, some 50, some 51, some 52, some 53, some 54, some 55] [isW (.pointer (some ⟨rb, 5, none⟩)), isW (.agg #[.int .u64 r.tgt.a, .int .u64 r.tgt.b, .int .u64 r.tgt.c, .int .u64 r.tgt.d]), isW (.slice (some ⟨b, off, none⟩) m c), isW (.int .i64 (i : Int)), isW (.pointer (some ⟨b, off + i * 7, none⟩)), isW (.pointer (some ⟨b, off + i * 7 + 1, none⟩)), isW (.int .i64 x.tgt), isW (.bool false), isW (.bool false), isW (.pointer (some ⟨rb, 9, none⟩)), isW (.bool true), isW (.bool true), isW (.slice (some ⟨b, off, none⟩) m c), isW (.int .i64 (i : Int)), isW (.pointer (some ⟨b, off + i * 7, none⟩)), isW (.pointer (some ⟨b, off + i * 7, none⟩)), isW (.int .i64 x.src), isW (.slice (some ⟨b, off, none⟩) m c), isW (.int .i64 (i : Int)), isW (.pointer (some ⟨b, off + i * 7, none⟩)), isW (.pointer (some ⟨b, off + i * 7 + 1, none⟩)), isW (.int .i64 x.tgt), isW (.bool true), isW (.bool true), isW (.bool true)] (fun _ w' => RowKit.Below w.heap.size w w') [] (by kernel_rfl) (by kernel_rfl) (by kernel_rfl) rfl (by decide) rfl rfl ((Below.refl _ _).drew) ⟨lastsW_is _, lastsW_is _, lastsW_is _, lastsW_is _, lastsW_is _, lastsW_is _, lastsW_is _, lastsW_is _, lastsW_is _, lastsW_is _, lastsW_is _, lastsW_is _, lastsW_is _, lastsW_is _, lastsW_is _, lastsW_is _, lastsW_is _, lastsW_is _, lastsW_is _, lastsW_is _, lastsW_is _, lastsW_is _, lastsW_is _, lastsW_is _, lastsW_is _, trivial⟩ ⟨?_, ?_, ?_, ?_, ?_, ?_, ?_, ?_, ?_, ?_, ?_, ?_, ?_, ?_, ?_, ?_, ?_, ?_, ?_, ?_, ?_, ?_, ?_, ?_, ?_, ?_⟩
  · intro L a wy Q' hL hi H F hK
    try dsimp only at hi
    have h8 : a.tmps[8]? = some (.pointer (some ⟨rb, 0, none⟩)) := F 8 rfl
    have HI := Lib.hid hi
    clear H F hi hL
    go_wp2_with fail
    exact hK _ _ (Below.refl _ _) HI.out rfl
  · intro L a wy Q' hL hi H F hK
    try dsimp only at hi
    obtain ⟨_, h31, rfl⟩ := H 0 ⟨.data, by simp, rfl⟩ _ rfl
    replace h31 := h31 _ rfl
    have HI := Lib.hid hi
    clear H F hi hL
    have kq0 : wy.cell? ⟨rb, 5, none⟩ = some (.int .u64 r.tgt.a) := (Whole.under HI.out HR.out (Whole.lt HR.out)).cell 5
    have kq1 : wy.cell? ⟨rb, 6, none⟩ = some (.int .u64 r.tgt.b) := (Whole.under HI.out HR.out (Whole.lt HR.out)).cell 6
    have kq2 : wy.cell? ⟨rb, 7, none⟩ = some (.int .u64 r.tgt.c) := (Whole.under HI.out HR.out (Whole.lt HR.out)).cell 7
    have kq3 : wy.cell? ⟨rb, 8, none⟩ = some (.int .u64 r.tgt.d) := (Whole.under HI.out HR.out (Whole.lt HR.out)).cell 8
    go_wp2_with fail
    exact hK _ _ (Below.refl _ _) HI.out rfl
  · intro L a wy Q' hL hi H F hK
    try dsimp only at hi
    have h3 : a.tmps[3]? = some (.slice (some ⟨b, off, none⟩) m c) := F 3 rfl
    have HI := Lib.hid hi
    clear H F hi hL
    go_wp2_with fail
    exact hK _ _ (Below.refl _ _) HI.out rfl
  · intro L a wy Q' hL hi H F hK
    try dsimp only at hi
    have h5 : a.tmps[5]? = some (.int .i64 (i : Int)) := F 5 rfl
    have HI := Lib.hid hi
    clear H F hi hL
    go_wp2_with fail
    exact hK _ _ (Below.refl _ _) HI.out rfl
  · intro L a wy Q' hL hi H F hK
    try dsimp only at hi
    obtain ⟨_, h33, rfl⟩ := H 2 ⟨.data, by simp, rfl⟩ _ rfl
    replace h33 := h33 _ rfl
    obtain ⟨_, h34, rfl⟩ := H 3 ⟨.data, by simp, rfl⟩ _ rfl
    replace h34 := h34 _ rfl
    have HI := Lib.hid hi
    clear H F hi hL
    go_wp2_with fail
    exact hK _ _ (Below.refl _ _) HI.out rfl
  · intro L a wy Q' hL hi H F hK
    try dsimp only at hi
    obtain ⟨_, h35, rfl⟩ := H 4 ⟨.data, by simp, rfl⟩ _ rfl
    replace h35 := h35 _ rfl
    have HI := Lib.hid hi
    clear H F hi hL
    go_wp2_with fail
    exact hK _ _ (Below.refl _ _) HI.out rfl
  · intro L a wy Q' hL hi H F hK
    try dsimp only at hi
    obtain ⟨_, h36, rfl⟩ := H 5 ⟨.data, by simp, rfl⟩ _ rfl
    replace h36 := h36 _ rfl
    have HI := Lib.hid hi
    clear H F hi hL
    have kq : wy.cell? ⟨b, off + i * 7 + 1, none⟩ = some (.int .i64 x.tgt) := cell_later HI.out (HE.out 1 _ rfl)
    go_wp2_with fail
    exact hK _ _ (Below.refl _ _) HI.out rfl
  · intro L a wy Q' hL hi H F hK
    try dsimp only at hi
    obtain ⟨_, h32, rfl⟩ := H 1 ⟨.data, by simp, rfl⟩ _ rfl
    replace h32 := h32 _ rfl
    obtain ⟨_, h37, rfl⟩ := H 6 ⟨.data, by simp, rfl⟩ _ rfl
    replace h37 := h37 _ rfl
    have HI := Lib.hid hi
    clear H F hi hL
    have HK := Lib.hid hK
    clear hK
    go_wp2_with (go_at_call 28; go_must (refine (HH.out wy).mono ?_; rintro e w1 ⟨rfl, hb1⟩))
    exact HK.out _ _ hb1 (HI.out.trans (hb1.mono HI.out.size)) rfl
  · intro L a wy Q' hL hi H F hK
    try dsimp only at hi
    obtain ⟨_, h38, rfl⟩ := H 7 ⟨.data, by simp, rfl⟩ _ rfl
    replace h38 := h38 _ rfl
    have HI := Lib.hid hi
    clear H F hi hL
    go_wp2_with fail
    exact hK _ _ (Below.refl _ _) HI.out rfl
  · intro L a wy Q' hL hi H F hK
    try dsimp only at hi
    obtain ⟨_, h39, rfl⟩ := H 8 ⟨.guard, by simp, rfl⟩ _ rfl
    replace h39 := h39 _ rfl
    have h8 : a.tmps[8]? = some (.pointer (some ⟨rb, 0, none⟩)) := F 8 rfl
    have HI := Lib.hid hi
    clear H F hi hL
    go_wp2_with fail
    exact hK _ _ (Below.refl _ _) HI.out rfl
  · intro L a wy Q' hL hi H F hK
    try dsimp only at hi
    obtain ⟨_, h40, rfl⟩ := H 9 ⟨.data, by simp, rfl⟩ _ rfl
    replace h40 := h40 _ rfl
    obtain ⟨_, h39, rfl⟩ := H 8 ⟨.guard, by simp, rfl⟩ _ rfl
    replace h39 := h39 _ rfl
    have HI := Lib.hid hi
    clear H F hi hL
    have kq0 : wy.cell? ⟨rb, 9, none⟩ = some (.bool true) := (Whole.under HI.out HR.out (Whole.lt HR.out)).cell 9
    go_wp2_with fail
    exact hK _ _ (Below.refl _ _) HI.out rfl
  · intro L a wy Q' hL hi H F hK
    try dsimp only at hi
    obtain ⟨_, h41, rfl⟩ := H 10 ⟨.data, by simp, rfl⟩ _ rfl
    replace h41 := h41 _ rfl
    obtain ⟨_, h39, rfl⟩ := H 8 ⟨.guard, by simp, rfl⟩ _ rfl
    replace h39 := h39 _ rfl
    have HI := Lib.hid hi
    clear H F hi hL
    go_wp2_with fail
    exact hK _ _ (Below.refl _ _) HI.out rfl
  · intro L a wy Q' hL hi H F hK
    try dsimp only at hi
    obtain ⟨_, h42, rfl⟩ := H 11 ⟨.guard, by simp, rfl⟩ _ rfl
    replace h42 := h42 _ rfl
    have h3 : a.tmps[3]? = some (.slice (some ⟨b, off, none⟩) m c) := F 3 rfl
    have HI := Lib.hid hi
    clear H F hi hL
    go_wp2_with fail
    exact hK _ _ (Below.refl _ _) HI.out rfl
  · intro L a wy Q' hL hi H F hK
    try dsimp only at hi
    obtain ⟨_, h42, rfl⟩ := H 11 ⟨.guard, by simp, rfl⟩ _ rfl
    replace h42 := h42 _ rfl
    have h5 : a.tmps[5]? = some (.int .i64 (i : Int)) := F 5 rfl
    have HI := Lib.hid hi
    clear H F hi hL
    go_wp2_with fail
    exact hK _ _ (Below.refl _ _) HI.out rfl
  · intro L a wy Q' hL hi H F hK
    try dsimp only at hi
    obtain ⟨_, h43, rfl⟩ := H 12 ⟨.data, by simp, rfl⟩ _ rfl
    replace h43 := h43 _ rfl
    obtain ⟨_, h44, rfl⟩ := H 13 ⟨.data, by simp, rfl⟩ _ rfl
    replace h44 := h44 _ rfl
    obtain ⟨_, h42, rfl⟩ := H 11 ⟨.guard, by simp, rfl⟩ _ rfl
    replace h42 := h42 _ rfl
    have HI := Lib.hid hi
    clear H F hi hL
    go_wp2_with fail
    exact hK _ _ (Below.refl _ _) HI.out rfl
  · intro L a wy Q' hL hi H F hK
    try dsimp only at hi
    obtain ⟨_, h45, rfl⟩ := H 14 ⟨.data, by simp, rfl⟩ _ rfl
    replace h45 := h45 _ rfl
    obtain ⟨_, h42, rfl⟩ := H 11 ⟨.guard, by simp, rfl⟩ _ rfl
    replace h42 := h42 _ rfl
    have HI := Lib.hid hi
    clear H F hi hL
    go_wp2_with fail
    exact hK _ _ (Below.refl _ _) HI.out rfl
  · intro L a wy Q' hL hi H F hK
    try dsimp only at hi
    obtain ⟨_, h46, rfl⟩ := H 15 ⟨.data, by simp, rfl⟩ _ rfl
    replace h46 := h46 _ rfl
    obtain ⟨_, h42, rfl⟩ := H 11 ⟨.guard, by simp, rfl⟩ _ rfl
    replace h42 := h42 _ rfl
    have HI := Lib.hid hi
    clear H F hi hL
    have kq : wy.cell? ⟨b, off + i * 7, none⟩ = some (.int .i64 x.src) := cell_later HI.out (HE.out 0 _ rfl)
    go_wp2_with fail
    exact hK _ _ (Below.refl _ _) HI.out rfl
  · intro L a wy Q' hL hi H F hK
    try dsimp only at hi
    obtain ⟨_, h42, rfl⟩ := H 11 ⟨.guard, by simp, rfl⟩ _ rfl
    replace h42 := h42 _ rfl
    have h3 : a.tmps[3]? = some (.slice (some ⟨b, off, none⟩) m c) := F 3 rfl
    have HI := Lib.hid hi
    clear H F hi hL
    go_wp2_with fail
    exact hK _ _ (Below.refl _ _) HI.out rfl
  · intro L a wy Q' hL hi H F hK
    try dsimp only at hi
    obtain ⟨_, h42, rfl⟩ := H 11 ⟨.guard, by simp, rfl⟩ _ rfl
    replace h42 := h42 _ rfl
    have h5 : a.tmps[5]? = some (.int .i64 (i : Int)) := F 5 rfl
    have HI := Lib.hid hi
    clear H F hi hL
    go_wp2_with fail
    exact hK _ _ (Below.refl _ _) HI.out rfl
  · intro L a wy Q' hL hi H F hK
    try dsimp only at hi
    obtain ⟨_, h48, rfl⟩ := H 17 ⟨.data, by simp, rfl⟩ _ rfl
    replace h48 := h48 _ rfl
    obtain ⟨_, h49, rfl⟩ := H 18 ⟨.data, by simp, rfl⟩ _ rfl
    replace h49 := h49 _ rfl
    obtain ⟨_, h42, rfl⟩ := H 11 ⟨.guard, by simp, rfl⟩ _ rfl
    replace h42 := h42 _ rfl
    have HI := Lib.hid hi
    clear H F hi hL
    go_wp2_with fail
    exact hK _ _ (Below.refl _ _) HI.out rfl
  · intro L a wy Q' hL hi H F hK
    try dsimp only at hi
    obtain ⟨_, h50, rfl⟩ := H 19 ⟨.data, by simp, rfl⟩ _ rfl
    replace h50 := h50 _ rfl
    obtain ⟨_, h42, rfl⟩ := H 11 ⟨.guard, by simp, rfl⟩ _ rfl
    replace h42 := h42 _ rfl
    have HI := Lib.hid hi
    clear H F hi hL
    go_wp2_with fail
    exact hK _ _ (Below.refl _ _) HI.out rfl
  · intro L a wy Q' hL hi H F hK
    try dsimp only at hi
    obtain ⟨_, h51, rfl⟩ := H 20 ⟨.data, by simp, rfl⟩ _ rfl
    replace h51 := h51 _ rfl
    obtain ⟨_, h42, rfl⟩ := H 11 ⟨.guard, by simp, rfl⟩ _ rfl
    replace h42 := h42 _ rfl
    have HI := Lib.hid hi
    clear H F hi hL
    have kq : wy.cell? ⟨b, off + i * 7 + 1, none⟩ = some (.int .i64 x.tgt) := cell_later HI.out (HE.out 1 _ rfl)
    go_wp2_with fail
    exact hK _ _ (Below.refl _ _) HI.out rfl
  · intro L a wy Q' hL hi H F hK
    try dsimp only at hi
    obtain ⟨_, h47, rfl⟩ := H 16 ⟨.data, by simp, rfl⟩ _ rfl
    replace h47 := h47 _ rfl
    obtain ⟨_, h52, rfl⟩ := H 21 ⟨.data, by simp, rfl⟩ _ rfl
    replace h52 := h52 _ rfl
    obtain ⟨_, h42, rfl⟩ := H 11 ⟨.guard, by simp, rfl⟩ _ rfl
    replace h42 := h42 _ rfl
    have HI := Lib.hid hi
    clear H F hi hL
    go_wp2_with fail
    exact hK _ _ (Below.refl _ _) HI.out rfl
  · intro L a wy Q' hL hi H F hK
    try dsimp only at hi
    obtain ⟨_, h42, rfl⟩ := H 11 ⟨.data, by simp, rfl⟩ _ rfl
    replace h42 := h42 _ rfl
    obtain ⟨_, h53, rfl⟩ := H 22 ⟨.data, by simp, rfl⟩ _ rfl
    replace h53 := h53 _ rfl
    obtain ⟨_, h39, rfl⟩ := H 8 ⟨.guard, by simp, rfl⟩ _ rfl
    replace h39 := h39 _ rfl
    have HI := Lib.hid hi
    clear H F hi hL
    go_wp2_with fail
    exact hK _ _ (Below.refl _ _) HI.out rfl
  · intro L a wy Q' hL hi H F hK
    try dsimp only at hi
    obtain ⟨_, h39, rfl⟩ := H 8 ⟨.data, by simp, rfl⟩ _ rfl
    replace h39 := h39 _ rfl
    obtain ⟨_, h54, rfl⟩ := H 23 ⟨.data, by simp, rfl⟩ _ rfl
    replace h54 := h54 _ rfl
    have HI := Lib.hid hi
    clear H F hi hL
    go_wp2_with fail
    exact hK _ _ (Below.refl _ _) HI.out rfl
  · intro a wy L hl hi hL Q' hK
    try dsimp only at hi
    have HB := Lib.hid hi
    clear hi hL
    obtain ⟨_, rfl, _, rfl, _, rfl, _, rfl, _, rfl, _, rfl, _, rfl, _, rfl, _, rfl, _, rfl, _, rfl, _, rfl, _, rfl, _, rfl, _, rfl, _, rfl, _, rfl, _, rfl, _, rfl, _, rfl, _, rfl, _, rfl, _, rfl, _, rfl, _, rfl, rfl⟩ := hl
    simp only [List.setIfInBounds_toArray, List.set_cons_zero, List.set_cons_succ]
    go_wp2_with fail
    exact HEND.out _ _ _ _ _ _ _ _ _ _ _ _ _ _ _ _ _ _ _ _ _ _ _ _ _ _ HB.out
set_option maxRecDepth 100000 in
set_option maxHeartbeats 4000000 in
theorem nev11_fn (w : World) (pb rb b off i m c : Nat) (r : ARule) (x : AEntry) (x0 x2 x4 x6 x7 x9 x10 x11 x12 x13 x14 x15 x16 x17 x18 x19 x20 x21 x22 x23 x24 x25 x26 x27 x28 x29 x30 x31 x32 x33 x34 x35 x36 x37 x38 x39 x40 x41 x42 x43 x44 x45 x46 x47 x48 x49 x50 x51 x52 x53 x54 x55 x56 x57 x58 x59 x60 x61 x62 x63 x64 x65 x66 x67 x68 x69 x70 x71 x72 x73 x74 x75 x76 x77 x78 x79 x80 x81 x82 x83 x84 x85 x86 x87 x88 x89 x90 x91 x92 x93 x94 x95 x96 x97 x98 x99 x100 x101 x102 x103 x104 : Value) (him : i < m) (HR : Hid (Whole w rb 27 #[.int .i64 r.kind, .int .u64 r.src.a, .int .u64 r.src.b, .int .u64 r.src.c, .int .u64 r.src.d, .int .u64 r.tgt.a, .int .u64 r.tgt.b, .int .u64 r.tgt.c, .int .u64 r.tgt.d, .bool true, .int .i64 r.cls, .int .u32 r.perms, .int .i64 r.cond])) (HE : Hid (∀ j u, x.cells[j]? = some u → w.cell? ⟨b, off + i * 7 + j, none⟩ = some u)) (HH : Hid (∀ W, Calls Tryd.prog 28 #[.agg #[.int .u64 r.tgt.a, .int .u64 r.tgt.b, .int .u64 r.tgt.c, .int .u64 r.tgt.d], .int .i64 x.tgt] W fun e w' => e = .returned (.bool false) ∧ RowKit.Below W.heap.size W w')) (hq : (x.src == x.tgt) = false)
    {Q' : Exit → Act → World → Prop} (hend : ∀ (v31 v32 v33 v34 v35 v36 v37 v38 v39 v40 v41 v42 v43 v44 v45 v46 v47 v48 v49 v50 v51 v52 v53 v54 v55 : Value) (w' : World), RowKit.Below w.heap.size w w' → Q' .normal ⟨#[x0, .pointer (some ⟨pb, 0, none⟩), x2, .slice (some ⟨b, off, none⟩) m c, x4, .int .i64 (i : Int), x6, x7, .pointer (some ⟨rb, 0, none⟩), .bool false, x10, x11, x12, x13, x14, x15, x16, x17, x18, x19, x20, x21, x22, x23, x24, x25, x26, x27, x28, x29, x30, v31, v32, v33, v34, v35, v36, v37, v38, v39, v40, v41, v42, v43, v44, v45, v46, v47, v48, v49, v50, v51, v52, v53, v54, v55, x56, x57, x58, x59, x60, x61, x62, x63, x64, x65, x66, x67, x68, x69, x70, x71, x72, x73, x74, x75, x76, x77, x78, x79, x80, x81, x82, x83, x84, x85, x86, x87, x88, x89, x90, x91, x92, x93, x94, x95, x96, x97, x98, x99, x100, x101, x102, x103, x104], []⟩ w') :
    Code.wp Tryd.prog (findRegion7 11 ((Tryd.f22.body).getD .skip)) Q' ⟨#[x0, .pointer (some ⟨pb, 0, none⟩), x2, .slice (some ⟨b, off, none⟩) m c, x4, .int .i64 (i : Int), x6, x7, .pointer (some ⟨rb, 0, none⟩), x9, x10, x11, x12, x13, x14, x15, x16, x17, x18, x19, x20, x21, x22, x23, x24, x25, x26, x27, x28, x29, x30, x31, x32, x33, x34, x35, x36, x37, x38, x39, x40, x41, x42, x43, x44, x45, x46, x47, x48, x49, x50, x51, x52, x53, x54, x55, x56, x57, x58, x59, x60, x61, x62, x63, x64, x65, x66, x67, x68, x69, x70, x71, x72, x73, x74, x75, x76, x77, x78, x79, x80, x81, x82, x83, x84, x85, x86, x87, x88, x89, x90, x91, x92, x93, x94, x95, x96, x97, x98, x99, x100, x101, x102, x103, x104], []⟩ w := by
  have HEND := Lib.hid hend
  clear hend
  conv => arg 2; whnf
  conv => arg 4; dsimp only
  refine wp_region_goods [some 31, some 32, some 33, some 34, some 35, some 36, some 37, some 38, some 39, some 40, some 41, some 42, some 43, some 44, some 45, some 46, some 47, some 48, some 49, some 50, some 51, some 52, some 53, some 54, some 55] [isW (.pointer (some ⟨rb, 5, none⟩)), isW (.agg #[.int .u64 r.tgt.a, .int .u64 r.tgt.b, .int .u64 r.tgt.c, .int .u64 r.tgt.d]), isW (.slice (some ⟨b, off, none⟩) m c), isW (.int .i64 (i : Int)), isW (.pointer (some ⟨b, off + i * 7, none⟩)), isW (.pointer (some ⟨b, off + i * 7 + 1, none⟩)), isW (.int .i64 x.tgt), isW (.bool false), isW (.bool false), isW (.pointer (some ⟨rb, 9, none⟩)), isW (.bool true), isW (.bool true), isW (.slice (some ⟨b, off, none⟩) m c), isW (.int .i64 (i : Int)), isW (.pointer (some ⟨b, off + i * 7, none⟩)), isW (.pointer (some ⟨b, off + i * 7, none⟩)), isW (.int .i64 x.src), isW (.slice (some ⟨b, off, none⟩) m c), isW (.int .i64 (i : Int)), isW (.pointer (some ⟨b, off + i * 7, none⟩)), isW (.pointer (some ⟨b, off + i * 7 + 1, none⟩)), isW (.int .i64 x.tgt), isW (.bool false), isW (.bool false), isW (.bool false)] (fun _ w' => RowKit.Below w.heap.size w w') [] (by kernel_rfl) (by kernel_rfl) (by kernel_rfl) rfl (by decide) rfl rfl ((Below.refl _ _).drew) ⟨lastsW_is _, lastsW_is _, lastsW_is _, lastsW_is _, lastsW_is _, lastsW_is _, lastsW_is _, lastsW_is _, lastsW_is _, lastsW_is _, lastsW_is _, lastsW_is _, lastsW_is _, lastsW_is _, lastsW_is _, lastsW_is _, lastsW_is _, lastsW_is _, lastsW_is _, lastsW_is _, lastsW_is _, lastsW_is _, lastsW_is _, lastsW_is _, lastsW_is _, trivial⟩ ⟨?_, ?_, ?_, ?_, ?_, ?_, ?_, ?_, ?_, ?_, ?_, ?_, ?_, ?_, ?_, ?_, ?_, ?_, ?_, ?_, ?_, ?_, ?_, ?_, ?_, ?_⟩
  · intro L a wy Q' hL hi H F hK
    try dsimp only at hi
    have h8 : a.tmps[8]? = some (.pointer (some ⟨rb, 0, none⟩)) := F 8 rfl
    have HI := Lib.hid hi
    clear H F hi hL
    go_wp2_with fail
    exact hK _ _ (Below.refl _ _) HI.out rfl
  · intro L a wy Q' hL hi H F hK
    try dsimp only at hi
    obtain ⟨_, h31, rfl⟩ := H 0 ⟨.data, by simp, rfl⟩ _ rfl
    replace h31 := h31 _ rfl
    have HI := Lib.hid hi
    clear H F hi hL
    have kq0 : wy.cell? ⟨rb, 5, none⟩ = some (.int .u64 r.tgt.a) := (Whole.under HI.out HR.out (Whole.lt HR.out)).cell 5
    have kq1 : wy.cell? ⟨rb, 6, none⟩ = some (.int .u64 r.tgt.b) := (Whole.under HI.out HR.out (Whole.lt HR.out)).cell 6
    have kq2 : wy.cell? ⟨rb, 7, none⟩ = some (.int .u64 r.tgt.c) := (Whole.under HI.out HR.out (Whole.lt HR.out)).cell 7
    have kq3 : wy.cell? ⟨rb, 8, none⟩ = some (.int .u64 r.tgt.d) := (Whole.under HI.out HR.out (Whole.lt HR.out)).cell 8
    go_wp2_with fail
    exact hK _ _ (Below.refl _ _) HI.out rfl
  · intro L a wy Q' hL hi H F hK
    try dsimp only at hi
    have h3 : a.tmps[3]? = some (.slice (some ⟨b, off, none⟩) m c) := F 3 rfl
    have HI := Lib.hid hi
    clear H F hi hL
    go_wp2_with fail
    exact hK _ _ (Below.refl _ _) HI.out rfl
  · intro L a wy Q' hL hi H F hK
    try dsimp only at hi
    have h5 : a.tmps[5]? = some (.int .i64 (i : Int)) := F 5 rfl
    have HI := Lib.hid hi
    clear H F hi hL
    go_wp2_with fail
    exact hK _ _ (Below.refl _ _) HI.out rfl
  · intro L a wy Q' hL hi H F hK
    try dsimp only at hi
    obtain ⟨_, h33, rfl⟩ := H 2 ⟨.data, by simp, rfl⟩ _ rfl
    replace h33 := h33 _ rfl
    obtain ⟨_, h34, rfl⟩ := H 3 ⟨.data, by simp, rfl⟩ _ rfl
    replace h34 := h34 _ rfl
    have HI := Lib.hid hi
    clear H F hi hL
    go_wp2_with fail
    exact hK _ _ (Below.refl _ _) HI.out rfl
  · intro L a wy Q' hL hi H F hK
    try dsimp only at hi
    obtain ⟨_, h35, rfl⟩ := H 4 ⟨.data, by simp, rfl⟩ _ rfl
    replace h35 := h35 _ rfl
    have HI := Lib.hid hi
    clear H F hi hL
    go_wp2_with fail
    exact hK _ _ (Below.refl _ _) HI.out rfl
  · intro L a wy Q' hL hi H F hK
    try dsimp only at hi
    obtain ⟨_, h36, rfl⟩ := H 5 ⟨.data, by simp, rfl⟩ _ rfl
    replace h36 := h36 _ rfl
    have HI := Lib.hid hi
    clear H F hi hL
    have kq : wy.cell? ⟨b, off + i * 7 + 1, none⟩ = some (.int .i64 x.tgt) := cell_later HI.out (HE.out 1 _ rfl)
    go_wp2_with fail
    exact hK _ _ (Below.refl _ _) HI.out rfl
  · intro L a wy Q' hL hi H F hK
    try dsimp only at hi
    obtain ⟨_, h32, rfl⟩ := H 1 ⟨.data, by simp, rfl⟩ _ rfl
    replace h32 := h32 _ rfl
    obtain ⟨_, h37, rfl⟩ := H 6 ⟨.data, by simp, rfl⟩ _ rfl
    replace h37 := h37 _ rfl
    have HI := Lib.hid hi
    clear H F hi hL
    have HK := Lib.hid hK
    clear hK
    go_wp2_with (go_at_call 28; go_must (refine (HH.out wy).mono ?_; rintro e w1 ⟨rfl, hb1⟩))
    exact HK.out _ _ hb1 (HI.out.trans (hb1.mono HI.out.size)) rfl
  · intro L a wy Q' hL hi H F hK
    try dsimp only at hi
    obtain ⟨_, h38, rfl⟩ := H 7 ⟨.data, by simp, rfl⟩ _ rfl
    replace h38 := h38 _ rfl
    have HI := Lib.hid hi
    clear H F hi hL
    go_wp2_with fail
    exact hK _ _ (Below.refl _ _) HI.out rfl
  · intro L a wy Q' hL hi H F hK
    try dsimp only at hi
    obtain ⟨_, h39, rfl⟩ := H 8 ⟨.guard, by simp, rfl⟩ _ rfl
    replace h39 := h39 _ rfl
    have h8 : a.tmps[8]? = some (.pointer (some ⟨rb, 0, none⟩)) := F 8 rfl
    have HI := Lib.hid hi
    clear H F hi hL
    go_wp2_with fail
    exact hK _ _ (Below.refl _ _) HI.out rfl
  · intro L a wy Q' hL hi H F hK
    try dsimp only at hi
    obtain ⟨_, h40, rfl⟩ := H 9 ⟨.data, by simp, rfl⟩ _ rfl
    replace h40 := h40 _ rfl
    obtain ⟨_, h39, rfl⟩ := H 8 ⟨.guard, by simp, rfl⟩ _ rfl
    replace h39 := h39 _ rfl
    have HI := Lib.hid hi
    clear H F hi hL
    have kq0 : wy.cell? ⟨rb, 9, none⟩ = some (.bool true) := (Whole.under HI.out HR.out (Whole.lt HR.out)).cell 9
    go_wp2_with fail
    exact hK _ _ (Below.refl _ _) HI.out rfl
  · intro L a wy Q' hL hi H F hK
    try dsimp only at hi
    obtain ⟨_, h41, rfl⟩ := H 10 ⟨.data, by simp, rfl⟩ _ rfl
    replace h41 := h41 _ rfl
    obtain ⟨_, h39, rfl⟩ := H 8 ⟨.guard, by simp, rfl⟩ _ rfl
    replace h39 := h39 _ rfl
    have HI := Lib.hid hi
    clear H F hi hL
    go_wp2_with fail
    exact hK _ _ (Below.refl _ _) HI.out rfl
  · intro L a wy Q' hL hi H F hK
    try dsimp only at hi
    obtain ⟨_, h42, rfl⟩ := H 11 ⟨.guard, by simp, rfl⟩ _ rfl
    replace h42 := h42 _ rfl
    have h3 : a.tmps[3]? = some (.slice (some ⟨b, off, none⟩) m c) := F 3 rfl
    have HI := Lib.hid hi
    clear H F hi hL
    go_wp2_with fail
    exact hK _ _ (Below.refl _ _) HI.out rfl
  · intro L a wy Q' hL hi H F hK
    try dsimp only at hi
    obtain ⟨_, h42, rfl⟩ := H 11 ⟨.guard, by simp, rfl⟩ _ rfl
    replace h42 := h42 _ rfl
    have h5 : a.tmps[5]? = some (.int .i64 (i : Int)) := F 5 rfl
    have HI := Lib.hid hi
    clear H F hi hL
    go_wp2_with fail
    exact hK _ _ (Below.refl _ _) HI.out rfl
  · intro L a wy Q' hL hi H F hK
    try dsimp only at hi
    obtain ⟨_, h43, rfl⟩ := H 12 ⟨.data, by simp, rfl⟩ _ rfl
    replace h43 := h43 _ rfl
    obtain ⟨_, h44, rfl⟩ := H 13 ⟨.data, by simp, rfl⟩ _ rfl
    replace h44 := h44 _ rfl
    obtain ⟨_, h42, rfl⟩ := H 11 ⟨.guard, by simp, rfl⟩ _ rfl
    replace h42 := h42 _ rfl
    have HI := Lib.hid hi
    clear H F hi hL
    go_wp2_with fail
    exact hK _ _ (Below.refl _ _) HI.out rfl
  · intro L a wy Q' hL hi H F hK
    try dsimp only at hi
    obtain ⟨_, h45, rfl⟩ := H 14 ⟨.data, by simp, rfl⟩ _ rfl
    replace h45 := h45 _ rfl
    obtain ⟨_, h42, rfl⟩ := H 11 ⟨.guard, by simp, rfl⟩ _ rfl
    replace h42 := h42 _ rfl
    have HI := Lib.hid hi
    clear H F hi hL
    go_wp2_with fail
    exact hK _ _ (Below.refl _ _) HI.out rfl
  · intro L a wy Q' hL hi H F hK
    try dsimp only at hi
    obtain ⟨_, h46, rfl⟩ := H 15 ⟨.data, by simp, rfl⟩ _ rfl
    replace h46 := h46 _ rfl
    obtain ⟨_, h42, rfl⟩ := H 11 ⟨.guard, by simp, rfl⟩ _ rfl
    replace h42 := h42 _ rfl
    have HI := Lib.hid hi
    clear H F hi hL
    have kq : wy.cell? ⟨b, off + i * 7, none⟩ = some (.int .i64 x.src) := cell_later HI.out (HE.out 0 _ rfl)
    go_wp2_with fail
    exact hK _ _ (Below.refl _ _) HI.out rfl
  · intro L a wy Q' hL hi H F hK
    try dsimp only at hi
    obtain ⟨_, h42, rfl⟩ := H 11 ⟨.guard, by simp, rfl⟩ _ rfl
    replace h42 := h42 _ rfl
    have h3 : a.tmps[3]? = some (.slice (some ⟨b, off, none⟩) m c) := F 3 rfl
    have HI := Lib.hid hi
    clear H F hi hL
    go_wp2_with fail
    exact hK _ _ (Below.refl _ _) HI.out rfl
  · intro L a wy Q' hL hi H F hK
    try dsimp only at hi
    obtain ⟨_, h42, rfl⟩ := H 11 ⟨.guard, by simp, rfl⟩ _ rfl
    replace h42 := h42 _ rfl
    have h5 : a.tmps[5]? = some (.int .i64 (i : Int)) := F 5 rfl
    have HI := Lib.hid hi
    clear H F hi hL
    go_wp2_with fail
    exact hK _ _ (Below.refl _ _) HI.out rfl
  · intro L a wy Q' hL hi H F hK
    try dsimp only at hi
    obtain ⟨_, h48, rfl⟩ := H 17 ⟨.data, by simp, rfl⟩ _ rfl
    replace h48 := h48 _ rfl
    obtain ⟨_, h49, rfl⟩ := H 18 ⟨.data, by simp, rfl⟩ _ rfl
    replace h49 := h49 _ rfl
    obtain ⟨_, h42, rfl⟩ := H 11 ⟨.guard, by simp, rfl⟩ _ rfl
    replace h42 := h42 _ rfl
    have HI := Lib.hid hi
    clear H F hi hL
    go_wp2_with fail
    exact hK _ _ (Below.refl _ _) HI.out rfl
  · intro L a wy Q' hL hi H F hK
    try dsimp only at hi
    obtain ⟨_, h50, rfl⟩ := H 19 ⟨.data, by simp, rfl⟩ _ rfl
    replace h50 := h50 _ rfl
    obtain ⟨_, h42, rfl⟩ := H 11 ⟨.guard, by simp, rfl⟩ _ rfl
    replace h42 := h42 _ rfl
    have HI := Lib.hid hi
    clear H F hi hL
    go_wp2_with fail
    exact hK _ _ (Below.refl _ _) HI.out rfl
  · intro L a wy Q' hL hi H F hK
    try dsimp only at hi
    obtain ⟨_, h51, rfl⟩ := H 20 ⟨.data, by simp, rfl⟩ _ rfl
    replace h51 := h51 _ rfl
    obtain ⟨_, h42, rfl⟩ := H 11 ⟨.guard, by simp, rfl⟩ _ rfl
    replace h42 := h42 _ rfl
    have HI := Lib.hid hi
    clear H F hi hL
    have kq : wy.cell? ⟨b, off + i * 7 + 1, none⟩ = some (.int .i64 x.tgt) := cell_later HI.out (HE.out 1 _ rfl)
    go_wp2_with fail
    exact hK _ _ (Below.refl _ _) HI.out rfl
  · intro L a wy Q' hL hi H F hK
    try dsimp only at hi
    obtain ⟨_, h47, rfl⟩ := H 16 ⟨.data, by simp, rfl⟩ _ rfl
    replace h47 := h47 _ rfl
    obtain ⟨_, h52, rfl⟩ := H 21 ⟨.data, by simp, rfl⟩ _ rfl
    replace h52 := h52 _ rfl
    obtain ⟨_, h42, rfl⟩ := H 11 ⟨.guard, by simp, rfl⟩ _ rfl
    replace h42 := h42 _ rfl
    have HI := Lib.hid hi
    clear H F hi hL
    go_wp2_with fail
    exact hK _ _ (Below.refl _ _) HI.out rfl
  · intro L a wy Q' hL hi H F hK
    try dsimp only at hi
    obtain ⟨_, h42, rfl⟩ := H 11 ⟨.data, by simp, rfl⟩ _ rfl
    replace h42 := h42 _ rfl
    obtain ⟨_, h53, rfl⟩ := H 22 ⟨.data, by simp, rfl⟩ _ rfl
    replace h53 := h53 _ rfl
    obtain ⟨_, h39, rfl⟩ := H 8 ⟨.guard, by simp, rfl⟩ _ rfl
    replace h39 := h39 _ rfl
    have HI := Lib.hid hi
    clear H F hi hL
    go_wp2_with fail
    exact hK _ _ (Below.refl _ _) HI.out rfl
  · intro L a wy Q' hL hi H F hK
    try dsimp only at hi
    obtain ⟨_, h39, rfl⟩ := H 8 ⟨.data, by simp, rfl⟩ _ rfl
    replace h39 := h39 _ rfl
    obtain ⟨_, h54, rfl⟩ := H 23 ⟨.data, by simp, rfl⟩ _ rfl
    replace h54 := h54 _ rfl
    have HI := Lib.hid hi
    clear H F hi hL
    go_wp2_with fail
    exact hK _ _ (Below.refl _ _) HI.out rfl
  · intro a wy L hl hi hL Q' hK
    try dsimp only at hi
    have HB := Lib.hid hi
    clear hi hL
    obtain ⟨_, rfl, _, rfl, _, rfl, _, rfl, _, rfl, _, rfl, _, rfl, _, rfl, _, rfl, _, rfl, _, rfl, _, rfl, _, rfl, _, rfl, _, rfl, _, rfl, _, rfl, _, rfl, _, rfl, _, rfl, _, rfl, _, rfl, _, rfl, _, rfl, _, rfl, rfl⟩ := hl
    simp only [List.setIfInBounds_toArray, List.set_cons_zero, List.set_cons_succ]
    go_wp2_with fail
    exact HEND.out _ _ _ _ _ _ _ _ _ _ _ _ _ _ _ _ _ _ _ _ _ _ _ _ _ _ HB.out
set_option maxRecDepth 100000 in
set_option maxHeartbeats 4000000 in
theorem nev12_f (w : World) (pb rb b off i m c : Nat) (r : ARule) (x : AEntry) (p : Bool) (x0 x2 x4 x6 x7 x10 x11 x12 x13 x14 x15 x16 x17 x18 x19 x20 x21 x22 x23 x24 x25 x26 x27 x28 x29 x30 x31 x32 x33 x34 x35 x36 x37 x38 x39 x40 x41 x42 x43 x44 x45 x46 x47 x48 x49 x50 x51 x52 x53 x54 x55 x56 x57 x58 x59 x60 x61 x62 x63 x64 x65 x66 x67 x68 x69 x70 x71 x72 x73 x74 x75 x76 x77 x78 x79 x80 x81 x82 x83 x84 x85 x86 x87 x88 x89 x90 x91 x92 x93 x94 x95 x96 x97 x98 x99 x100 x101 x102 x103 x104 : Value) (_ : i < m) (HR : Hid (Whole w rb 27 #[.int .i64 r.kind, .int .u64 r.src.a, .int .u64 r.src.b, .int .u64 r.src.c, .int .u64 r.src.d, .int .u64 r.tgt.a, .int .u64 r.tgt.b, .int .u64 r.tgt.c, .int .u64 r.tgt.d, .bool r.self, .int .i64 r.cls, .int .u32 r.perms, .int .i64 r.cond])) (_ : Hid (∀ j u, x.cells[j]? = some u → w.cell? ⟨b, off + i * 7 + j, none⟩ = some u)) (hk : (r.kind == 4) = false)
    {Q' : Exit → Act → World → Prop} (hend : ∀ (v56 v57 v58 v59 v60 v61 v62 v63 v64 v65 v66 v67 v68 v69 v70 v71 v72 v73 v74 v75 v76 v77 v78 v79 v80 : Value) (w' : World), RowKit.Below w.heap.size w w' → Q' .normal ⟨#[x0, .pointer (some ⟨pb, 0, none⟩), x2, .slice (some ⟨b, off, none⟩) m c, x4, .int .i64 (i : Int), x6, x7, .pointer (some ⟨rb, 0, none⟩), .bool p, x10, x11, x12, x13, x14, x15, x16, x17, x18, x19, x20, x21, x22, x23, x24, x25, x26, x27, x28, x29, x30, x31, x32, x33, x34, x35, x36, x37, x38, x39, x40, x41, x42, x43, x44, x45, x46, x47, x48, x49, x50, x51, x52, x53, x54, x55, v56, v57, v58, v59, v60, v61, v62, v63, v64, v65, v66, v67, v68, v69, v70, v71, v72, v73, v74, v75, v76, v77, v78, v79, v80, .bool false, x82, x83, x84, x85, x86, x87, x88, x89, x90, x91, x92, x93, x94, x95, x96, x97, x98, x99, x100, x101, x102, x103, x104], []⟩ w') :
    Code.wp Tryd.prog (findRegion7 12 ((Tryd.f22.body).getD .skip)) Q' ⟨#[x0, .pointer (some ⟨pb, 0, none⟩), x2, .slice (some ⟨b, off, none⟩) m c, x4, .int .i64 (i : Int), x6, x7, .pointer (some ⟨rb, 0, none⟩), .bool p, x10, x11, x12, x13, x14, x15, x16, x17, x18, x19, x20, x21, x22, x23, x24, x25, x26, x27, x28, x29, x30, x31, x32, x33, x34, x35, x36, x37, x38, x39, x40, x41, x42, x43, x44, x45, x46, x47, x48, x49, x50, x51, x52, x53, x54, x55, x56, x57, x58, x59, x60, x61, x62, x63, x64, x65, x66, x67, x68, x69, x70, x71, x72, x73, x74, x75, x76, x77, x78, x79, x80, x81, x82, x83, x84, x85, x86, x87, x88, x89, x90, x91, x92, x93, x94, x95, x96, x97, x98, x99, x100, x101, x102, x103, x104], []⟩ w := by
  have HEND := Lib.hid hend
  clear hend
  conv => arg 2; whnf
  conv => arg 4; dsimp only
  refine wp_region_goods [some 56, some 57, some 58, some 59, some 60, some 61, some 62, some 63, some 64, some 65, some 66, some 67, some 68, some 69, some 70, some 71, some 72, some 73, some 74, some 75, some 76, some 77, some 78, some 79, some 80] [isW (.pointer (some ⟨rb, 0, none⟩)), isW (.int .i64 r.kind), isW (.bool false), isW (.bool false), isW (undef), isW (undef), isW (undef), isW (undef), isW (undef), isW (undef), isW (undef), isW (undef), isW (.bool false), isW (.bool false), isW (undef), isW (undef), isW (undef), isW (undef), isW (undef), isW (undef), isW (undef), isW (undef), isW (.bool false), isW (.bool false), isW (undef)] (fun _ w' => RowKit.Below w.heap.size w w') [] (by kernel_rfl) (by kernel_rfl) (by kernel_rfl) rfl (by decide) rfl rfl ((Below.refl _ _).drew) ⟨lastsW_is _, lastsW_is _, lastsW_is _, lastsW_is _, lastsW_is _, lastsW_is _, lastsW_is _, lastsW_is _, lastsW_is _, lastsW_is _, lastsW_is _, lastsW_is _, lastsW_is _, lastsW_is _, lastsW_is _, lastsW_is _, lastsW_is _, lastsW_is _, lastsW_is _, lastsW_is _, lastsW_is _, lastsW_is _, lastsW_is _, lastsW_is _, lastsW_is _, trivial⟩ ⟨?_, ?_, ?_, ?_, ?_, ?_, ?_, ?_, ?_, ?_, ?_, ?_, ?_, ?_, ?_, ?_, ?_, ?_, ?_, ?_, ?_, ?_, ?_, ?_, ?_, ?_⟩
  · intro L a wy Q' hL hi H F hK
    try dsimp only at hi
    have h8 : a.tmps[8]? = some (.pointer (some ⟨rb, 0, none⟩)) := F 8 rfl
    have HI := Lib.hid hi
    clear H F hi hL
    go_wp2_with fail
    exact hK _ _ (Below.refl _ _) HI.out rfl
  · intro L a wy Q' hL hi H F hK
    try dsimp only at hi
    obtain ⟨_, h56, rfl⟩ := H 0 ⟨.data, by simp, rfl⟩ _ rfl
    replace h56 := h56 _ rfl
    have HI := Lib.hid hi
    clear H F hi hL
    have kq0 : wy.cell? ⟨rb, 0, none⟩ = some (.int .i64 r.kind) := (Whole.under HI.out HR.out (Whole.lt HR.out)).cell 0
    go_wp2_with fail
    exact hK _ _ (Below.refl _ _) HI.out rfl
  · intro L a wy Q' hL hi H F hK
    try dsimp only at hi
    obtain ⟨_, h57, rfl⟩ := H 1 ⟨.data, by simp, rfl⟩ _ rfl
    replace h57 := h57 _ rfl
    have HI := Lib.hid hi
    clear H F hi hL
    go_wp2_with fail
    exact hK _ _ (Below.refl _ _) HI.out rfl
  · intro L a wy Q' hL hi H F hK
    try dsimp only at hi
    obtain ⟨_, h58, rfl⟩ := H 2 ⟨.data, by simp, rfl⟩ _ rfl
    replace h58 := h58 _ rfl
    have HI := Lib.hid hi
    clear H F hi hL
    go_wp2_with fail
    exact hK _ _ (Below.refl _ _) HI.out rfl
  · intro L a wy Q' hL hi H F hK
    try dsimp only at hi
    obtain ⟨_, h59, rfl⟩ := H 3 ⟨.guard, by simp, rfl⟩ _ rfl
    replace h59 := h59 _ rfl
    have h8 : a.tmps[8]? = some (.pointer (some ⟨rb, 0, none⟩)) := F 8 rfl
    have HI := Lib.hid hi
    clear H F hi hL
    refine wpList_skip (by simp [Region.wanted, yielded, h59]) ?_
    exact hK _ _ (Below.refl _ _) HI.out rfl
  · intro L a wy Q' hL hi H F hK
    try dsimp only at hi
    obtain ⟨_, h60, rfl⟩ := H 4 ⟨.data, by simp, rfl⟩ _ rfl
    replace h60 := h60 _ rfl
    obtain ⟨_, h59, rfl⟩ := H 3 ⟨.guard, by simp, rfl⟩ _ rfl
    replace h59 := h59 _ rfl
    have HI := Lib.hid hi
    clear H F hi hL
    refine wpList_skip (by simp [Region.wanted, yielded, h59]) ?_
    exact hK _ _ (Below.refl _ _) HI.out rfl
  · intro L a wy Q' hL hi H F hK
    try dsimp only at hi
    obtain ⟨_, h59, rfl⟩ := H 3 ⟨.guard, by simp, rfl⟩ _ rfl
    replace h59 := h59 _ rfl
    have h3 : a.tmps[3]? = some (.slice (some ⟨b, off, none⟩) m c) := F 3 rfl
    have HI := Lib.hid hi
    clear H F hi hL
    refine wpList_skip (by simp [Region.wanted, yielded, h59]) ?_
    exact hK _ _ (Below.refl _ _) HI.out rfl
  · intro L a wy Q' hL hi H F hK
    try dsimp only at hi
    obtain ⟨_, h59, rfl⟩ := H 3 ⟨.guard, by simp, rfl⟩ _ rfl
    replace h59 := h59 _ rfl
    have h5 : a.tmps[5]? = some (.int .i64 (i : Int)) := F 5 rfl
    have HI := Lib.hid hi
    clear H F hi hL
    refine wpList_skip (by simp [Region.wanted, yielded, h59]) ?_
    exact hK _ _ (Below.refl _ _) HI.out rfl
  · intro L a wy Q' hL hi H F hK
    try dsimp only at hi
    obtain ⟨_, h62, rfl⟩ := H 6 ⟨.data, by simp, rfl⟩ _ rfl
    replace h62 := h62 _ rfl
    obtain ⟨_, h63, rfl⟩ := H 7 ⟨.data, by simp, rfl⟩ _ rfl
    replace h63 := h63 _ rfl
    obtain ⟨_, h59, rfl⟩ := H 3 ⟨.guard, by simp, rfl⟩ _ rfl
    replace h59 := h59 _ rfl
    have HI := Lib.hid hi
    clear H F hi hL
    refine wpList_skip (by simp [Region.wanted, yielded, h59]) ?_
    exact hK _ _ (Below.refl _ _) HI.out rfl
  · intro L a wy Q' hL hi H F hK
    try dsimp only at hi
    obtain ⟨_, h64, rfl⟩ := H 8 ⟨.data, by simp, rfl⟩ _ rfl
    replace h64 := h64 _ rfl
    obtain ⟨_, h59, rfl⟩ := H 3 ⟨.guard, by simp, rfl⟩ _ rfl
    replace h59 := h59 _ rfl
    have HI := Lib.hid hi
    clear H F hi hL
    refine wpList_skip (by simp [Region.wanted, yielded, h59]) ?_
    exact hK _ _ (Below.refl _ _) HI.out rfl
  · intro L a wy Q' hL hi H F hK
    try dsimp only at hi
    obtain ⟨_, h65, rfl⟩ := H 9 ⟨.data, by simp, rfl⟩ _ rfl
    replace h65 := h65 _ rfl
    obtain ⟨_, h59, rfl⟩ := H 3 ⟨.guard, by simp, rfl⟩ _ rfl
    replace h59 := h59 _ rfl
    have HI := Lib.hid hi
    clear H F hi hL
    refine wpList_skip (by simp [Region.wanted, yielded, h59]) ?_
    exact hK _ _ (Below.refl _ _) HI.out rfl
  · intro L a wy Q' hL hi H F hK
    try dsimp only at hi
    obtain ⟨_, h61, rfl⟩ := H 5 ⟨.data, by simp, rfl⟩ _ rfl
    replace h61 := h61 _ rfl
    obtain ⟨_, h66, rfl⟩ := H 10 ⟨.data, by simp, rfl⟩ _ rfl
    replace h66 := h66 _ rfl
    obtain ⟨_, h59, rfl⟩ := H 3 ⟨.guard, by simp, rfl⟩ _ rfl
    replace h59 := h59 _ rfl
    have HI := Lib.hid hi
    clear H F hi hL
    refine wpList_skip (by simp [Region.wanted, yielded, h59]) ?_
    exact hK _ _ (Below.refl _ _) HI.out rfl
  · intro L a wy Q' hL hi H F hK
    try dsimp only at hi
    obtain ⟨_, h59, rfl⟩ := H 3 ⟨.data, by simp, rfl⟩ _ rfl
    replace h59 := h59 _ rfl
    obtain ⟨_, h67, rfl⟩ := H 11 ⟨.data, by simp, rfl⟩ _ rfl
    replace h67 := h67 _ rfl
    have HI := Lib.hid hi
    clear H F hi hL
    go_wp2_with fail
    exact hK _ _ (Below.refl _ _) HI.out rfl
  · intro L a wy Q' hL hi H F hK
    try dsimp only at hi
    obtain ⟨_, h68, rfl⟩ := H 12 ⟨.data, by simp, rfl⟩ _ rfl
    replace h68 := h68 _ rfl
    have HI := Lib.hid hi
    clear H F hi hL
    go_wp2_with fail
    exact hK _ _ (Below.refl _ _) HI.out rfl
  · intro L a wy Q' hL hi H F hK
    try dsimp only at hi
    obtain ⟨_, h69, rfl⟩ := H 13 ⟨.guard, by simp, rfl⟩ _ rfl
    replace h69 := h69 _ rfl
    have h8 : a.tmps[8]? = some (.pointer (some ⟨rb, 0, none⟩)) := F 8 rfl
    have HI := Lib.hid hi
    clear H F hi hL
    refine wpList_skip (by simp [Region.wanted, yielded, h69]) ?_
    exact hK _ _ (Below.refl _ _) HI.out rfl
  · intro L a wy Q' hL hi H F hK
    try dsimp only at hi
    obtain ⟨_, h70, rfl⟩ := H 14 ⟨.data, by simp, rfl⟩ _ rfl
    replace h70 := h70 _ rfl
    obtain ⟨_, h69, rfl⟩ := H 13 ⟨.guard, by simp, rfl⟩ _ rfl
    replace h69 := h69 _ rfl
    have HI := Lib.hid hi
    clear H F hi hL
    refine wpList_skip (by simp [Region.wanted, yielded, h69]) ?_
    exact hK _ _ (Below.refl _ _) HI.out rfl
  · intro L a wy Q' hL hi H F hK
    try dsimp only at hi
    obtain ⟨_, h69, rfl⟩ := H 13 ⟨.guard, by simp, rfl⟩ _ rfl
    replace h69 := h69 _ rfl
    have h3 : a.tmps[3]? = some (.slice (some ⟨b, off, none⟩) m c) := F 3 rfl
    have HI := Lib.hid hi
    clear H F hi hL
    refine wpList_skip (by simp [Region.wanted, yielded, h69]) ?_
    exact hK _ _ (Below.refl _ _) HI.out rfl
  · intro L a wy Q' hL hi H F hK
    try dsimp only at hi
    obtain ⟨_, h69, rfl⟩ := H 13 ⟨.guard, by simp, rfl⟩ _ rfl
    replace h69 := h69 _ rfl
    have h5 : a.tmps[5]? = some (.int .i64 (i : Int)) := F 5 rfl
    have HI := Lib.hid hi
    clear H F hi hL
    refine wpList_skip (by simp [Region.wanted, yielded, h69]) ?_
    exact hK _ _ (Below.refl _ _) HI.out rfl
  · intro L a wy Q' hL hi H F hK
    try dsimp only at hi
    obtain ⟨_, h72, rfl⟩ := H 16 ⟨.data, by simp, rfl⟩ _ rfl
    replace h72 := h72 _ rfl
    obtain ⟨_, h73, rfl⟩ := H 17 ⟨.data, by simp, rfl⟩ _ rfl
    replace h73 := h73 _ rfl
    obtain ⟨_, h69, rfl⟩ := H 13 ⟨.guard, by simp, rfl⟩ _ rfl
    replace h69 := h69 _ rfl
    have HI := Lib.hid hi
    clear H F hi hL
    refine wpList_skip (by simp [Region.wanted, yielded, h69]) ?_
    exact hK _ _ (Below.refl _ _) HI.out rfl
  · intro L a wy Q' hL hi H F hK
    try dsimp only at hi
    obtain ⟨_, h74, rfl⟩ := H 18 ⟨.data, by simp, rfl⟩ _ rfl
    replace h74 := h74 _ rfl
    obtain ⟨_, h69, rfl⟩ := H 13 ⟨.guard, by simp, rfl⟩ _ rfl
    replace h69 := h69 _ rfl
    have HI := Lib.hid hi
    clear H F hi hL
    refine wpList_skip (by simp [Region.wanted, yielded, h69]) ?_
    exact hK _ _ (Below.refl _ _) HI.out rfl
  · intro L a wy Q' hL hi H F hK
    try dsimp only at hi
    obtain ⟨_, h75, rfl⟩ := H 19 ⟨.data, by simp, rfl⟩ _ rfl
    replace h75 := h75 _ rfl
    obtain ⟨_, h69, rfl⟩ := H 13 ⟨.guard, by simp, rfl⟩ _ rfl
    replace h69 := h69 _ rfl
    have HI := Lib.hid hi
    clear H F hi hL
    refine wpList_skip (by simp [Region.wanted, yielded, h69]) ?_
    exact hK _ _ (Below.refl _ _) HI.out rfl
  · intro L a wy Q' hL hi H F hK
    try dsimp only at hi
    obtain ⟨_, h71, rfl⟩ := H 15 ⟨.data, by simp, rfl⟩ _ rfl
    replace h71 := h71 _ rfl
    obtain ⟨_, h76, rfl⟩ := H 20 ⟨.data, by simp, rfl⟩ _ rfl
    replace h76 := h76 _ rfl
    obtain ⟨_, h69, rfl⟩ := H 13 ⟨.guard, by simp, rfl⟩ _ rfl
    replace h69 := h69 _ rfl
    have HI := Lib.hid hi
    clear H F hi hL
    refine wpList_skip (by simp [Region.wanted, yielded, h69]) ?_
    exact hK _ _ (Below.refl _ _) HI.out rfl
  · intro L a wy Q' hL hi H F hK
    try dsimp only at hi
    obtain ⟨_, h69, rfl⟩ := H 13 ⟨.data, by simp, rfl⟩ _ rfl
    replace h69 := h69 _ rfl
    obtain ⟨_, h77, rfl⟩ := H 21 ⟨.data, by simp, rfl⟩ _ rfl
    replace h77 := h77 _ rfl
    have HI := Lib.hid hi
    clear H F hi hL
    go_wp2_with fail
    exact hK _ _ (Below.refl _ _) HI.out rfl
  · intro L a wy Q' hL hi H F hK
    try dsimp only at hi
    obtain ⟨_, h78, rfl⟩ := H 22 ⟨.data, by simp, rfl⟩ _ rfl
    replace h78 := h78 _ rfl
    have HI := Lib.hid hi
    clear H F hi hL
    go_wp2_with fail
    exact hK _ _ (Below.refl _ _) HI.out rfl
  · intro L a wy Q' hL hi H F hK
    try dsimp only at hi
    obtain ⟨_, h79, rfl⟩ := H 23 ⟨.guard, by simp, rfl⟩ _ rfl
    replace h79 := h79 _ rfl
    have h9 : a.tmps[9]? = some (.bool p) := F 9 rfl
    have HI := Lib.hid hi
    clear H F hi hL
    refine wpList_skip (by simp [Region.wanted, yielded, h79]) ?_
    exact hK _ _ (Below.refl _ _) HI.out rfl
  · intro a wy L hl hi hL Q' hK
    try dsimp only at hi
    have HB := Lib.hid hi
    clear hi hL
    obtain ⟨_, rfl, _, rfl, _, rfl, _, rfl, _, rfl, _, rfl, _, rfl, _, rfl, _, rfl, _, rfl, _, rfl, _, rfl, _, rfl, _, rfl, _, rfl, _, rfl, _, rfl, _, rfl, _, rfl, _, rfl, _, rfl, _, rfl, _, rfl, _, rfl, _, rfl, rfl⟩ := hl
    simp only [List.setIfInBounds_toArray, List.set_cons_zero, List.set_cons_succ]
    go_wp2_with fail
    exact HEND.out _ _ _ _ _ _ _ _ _ _ _ _ _ _ _ _ _ _ _ _ _ _ _ _ _ _ HB.out
set_option maxRecDepth 100000 in
set_option maxHeartbeats 4000000 in
theorem nev12_tf (w : World) (pb rb b off i m c : Nat) (r : ARule) (x : AEntry) (p : Bool) (x0 x2 x4 x6 x7 x10 x11 x12 x13 x14 x15 x16 x17 x18 x19 x20 x21 x22 x23 x24 x25 x26 x27 x28 x29 x30 x31 x32 x33 x34 x35 x36 x37 x38 x39 x40 x41 x42 x43 x44 x45 x46 x47 x48 x49 x50 x51 x52 x53 x54 x55 x56 x57 x58 x59 x60 x61 x62 x63 x64 x65 x66 x67 x68 x69 x70 x71 x72 x73 x74 x75 x76 x77 x78 x79 x80 x81 x82 x83 x84 x85 x86 x87 x88 x89 x90 x91 x92 x93 x94 x95 x96 x97 x98 x99 x100 x101 x102 x103 x104 : Value) (him : i < m) (HR : Hid (Whole w rb 27 #[.int .i64 r.kind, .int .u64 r.src.a, .int .u64 r.src.b, .int .u64 r.src.c, .int .u64 r.src.d, .int .u64 r.tgt.a, .int .u64 r.tgt.b, .int .u64 r.tgt.c, .int .u64 r.tgt.d, .bool r.self, .int .i64 r.cls, .int .u32 r.perms, .int .i64 r.cond])) (HE : Hid (∀ j u, x.cells[j]? = some u → w.cell? ⟨b, off + i * 7 + j, none⟩ = some u)) (hk : (r.kind == 4) = true) (hc : (r.cls == x.cls) = false)
    {Q' : Exit → Act → World → Prop} (hend : ∀ (v56 v57 v58 v59 v60 v61 v62 v63 v64 v65 v66 v67 v68 v69 v70 v71 v72 v73 v74 v75 v76 v77 v78 v79 v80 : Value) (w' : World), RowKit.Below w.heap.size w w' → Q' .normal ⟨#[x0, .pointer (some ⟨pb, 0, none⟩), x2, .slice (some ⟨b, off, none⟩) m c, x4, .int .i64 (i : Int), x6, x7, .pointer (some ⟨rb, 0, none⟩), .bool p, x10, x11, x12, x13, x14, x15, x16, x17, x18, x19, x20, x21, x22, x23, x24, x25, x26, x27, x28, x29, x30, x31, x32, x33, x34, x35, x36, x37, x38, x39, x40, x41, x42, x43, x44, x45, x46, x47, x48, x49, x50, x51, x52, x53, x54, x55, v56, v57, v58, v59, v60, v61, v62, v63, v64, v65, v66, v67, v68, v69, v70, v71, v72, v73, v74, v75, v76, v77, v78, v79, v80, .bool false, x82, x83, x84, x85, x86, x87, x88, x89, x90, x91, x92, x93, x94, x95, x96, x97, x98, x99, x100, x101, x102, x103, x104], []⟩ w') :
    Code.wp Tryd.prog (findRegion7 12 ((Tryd.f22.body).getD .skip)) Q' ⟨#[x0, .pointer (some ⟨pb, 0, none⟩), x2, .slice (some ⟨b, off, none⟩) m c, x4, .int .i64 (i : Int), x6, x7, .pointer (some ⟨rb, 0, none⟩), .bool p, x10, x11, x12, x13, x14, x15, x16, x17, x18, x19, x20, x21, x22, x23, x24, x25, x26, x27, x28, x29, x30, x31, x32, x33, x34, x35, x36, x37, x38, x39, x40, x41, x42, x43, x44, x45, x46, x47, x48, x49, x50, x51, x52, x53, x54, x55, x56, x57, x58, x59, x60, x61, x62, x63, x64, x65, x66, x67, x68, x69, x70, x71, x72, x73, x74, x75, x76, x77, x78, x79, x80, x81, x82, x83, x84, x85, x86, x87, x88, x89, x90, x91, x92, x93, x94, x95, x96, x97, x98, x99, x100, x101, x102, x103, x104], []⟩ w := by
  have HEND := Lib.hid hend
  clear hend
  conv => arg 2; whnf
  conv => arg 4; dsimp only
  refine wp_region_goods [some 56, some 57, some 58, some 59, some 60, some 61, some 62, some 63, some 64, some 65, some 66, some 67, some 68, some 69, some 70, some 71, some 72, some 73, some 74, some 75, some 76, some 77, some 78, some 79, some 80] [isW (.pointer (some ⟨rb, 0, none⟩)), isW (.int .i64 r.kind), isW (.bool true), isW (.bool true), isW (.pointer (some ⟨rb, 10, none⟩)), isW (.int .i64 r.cls), isW (.slice (some ⟨b, off, none⟩) m c), isW (.int .i64 (i : Int)), isW (.pointer (some ⟨b, off + i * 7, none⟩)), isW (.pointer (some ⟨b, off + i * 7 + 2, none⟩)), isW (.int .i64 x.cls), isW (.bool false), isW (.bool false), isW (.bool false), isW (undef), isW (undef), isW (undef), isW (undef), isW (undef), isW (undef), isW (undef), isW (undef), isW (.bool false), isW (.bool false), isW (undef)] (fun _ w' => RowKit.Below w.heap.size w w') [] (by kernel_rfl) (by kernel_rfl) (by kernel_rfl) rfl (by decide) rfl rfl ((Below.refl _ _).drew) ⟨lastsW_is _, lastsW_is _, lastsW_is _, lastsW_is _, lastsW_is _, lastsW_is _, lastsW_is _, lastsW_is _, lastsW_is _, lastsW_is _, lastsW_is _, lastsW_is _, lastsW_is _, lastsW_is _, lastsW_is _, lastsW_is _, lastsW_is _, lastsW_is _, lastsW_is _, lastsW_is _, lastsW_is _, lastsW_is _, lastsW_is _, lastsW_is _, lastsW_is _, trivial⟩ ⟨?_, ?_, ?_, ?_, ?_, ?_, ?_, ?_, ?_, ?_, ?_, ?_, ?_, ?_, ?_, ?_, ?_, ?_, ?_, ?_, ?_, ?_, ?_, ?_, ?_, ?_⟩
  · intro L a wy Q' hL hi H F hK
    try dsimp only at hi
    have h8 : a.tmps[8]? = some (.pointer (some ⟨rb, 0, none⟩)) := F 8 rfl
    have HI := Lib.hid hi
    clear H F hi hL
    go_wp2_with fail
    exact hK _ _ (Below.refl _ _) HI.out rfl
  · intro L a wy Q' hL hi H F hK
    try dsimp only at hi
    obtain ⟨_, h56, rfl⟩ := H 0 ⟨.data, by simp, rfl⟩ _ rfl
    replace h56 := h56 _ rfl
    have HI := Lib.hid hi
    clear H F hi hL
    have kq0 : wy.cell? ⟨rb, 0, none⟩ = some (.int .i64 r.kind) := (Whole.under HI.out HR.out (Whole.lt HR.out)).cell 0
    go_wp2_with fail
    exact hK _ _ (Below.refl _ _) HI.out rfl
  · intro L a wy Q' hL hi H F hK
    try dsimp only at hi
    obtain ⟨_, h57, rfl⟩ := H 1 ⟨.data, by simp, rfl⟩ _ rfl
    replace h57 := h57 _ rfl
    have HI := Lib.hid hi
    clear H F hi hL
    go_wp2_with fail
    exact hK _ _ (Below.refl _ _) HI.out rfl
  · intro L a wy Q' hL hi H F hK
    try dsimp only at hi
    obtain ⟨_, h58, rfl⟩ := H 2 ⟨.data, by simp, rfl⟩ _ rfl
    replace h58 := h58 _ rfl
    have HI := Lib.hid hi
    clear H F hi hL
    go_wp2_with fail
    exact hK _ _ (Below.refl _ _) HI.out rfl
  · intro L a wy Q' hL hi H F hK
    try dsimp only at hi
    obtain ⟨_, h59, rfl⟩ := H 3 ⟨.guard, by simp, rfl⟩ _ rfl
    replace h59 := h59 _ rfl
    have h8 : a.tmps[8]? = some (.pointer (some ⟨rb, 0, none⟩)) := F 8 rfl
    have HI := Lib.hid hi
    clear H F hi hL
    go_wp2_with fail
    exact hK _ _ (Below.refl _ _) HI.out rfl
  · intro L a wy Q' hL hi H F hK
    try dsimp only at hi
    obtain ⟨_, h60, rfl⟩ := H 4 ⟨.data, by simp, rfl⟩ _ rfl
    replace h60 := h60 _ rfl
    obtain ⟨_, h59, rfl⟩ := H 3 ⟨.guard, by simp, rfl⟩ _ rfl
    replace h59 := h59 _ rfl
    have HI := Lib.hid hi
    clear H F hi hL
    have kq0 : wy.cell? ⟨rb, 10, none⟩ = some (.int .i64 r.cls) := (Whole.under HI.out HR.out (Whole.lt HR.out)).cell 10
    go_wp2_with fail
    exact hK _ _ (Below.refl _ _) HI.out rfl
  · intro L a wy Q' hL hi H F hK
    try dsimp only at hi
    obtain ⟨_, h59, rfl⟩ := H 3 ⟨.guard, by simp, rfl⟩ _ rfl
    replace h59 := h59 _ rfl
    have h3 : a.tmps[3]? = some (.slice (some ⟨b, off, none⟩) m c) := F 3 rfl
    have HI := Lib.hid hi
    clear H F hi hL
    go_wp2_with fail
    exact hK _ _ (Below.refl _ _) HI.out rfl
  · intro L a wy Q' hL hi H F hK
    try dsimp only at hi
    obtain ⟨_, h59, rfl⟩ := H 3 ⟨.guard, by simp, rfl⟩ _ rfl
    replace h59 := h59 _ rfl
    have h5 : a.tmps[5]? = some (.int .i64 (i : Int)) := F 5 rfl
    have HI := Lib.hid hi
    clear H F hi hL
    go_wp2_with fail
    exact hK _ _ (Below.refl _ _) HI.out rfl
  · intro L a wy Q' hL hi H F hK
    try dsimp only at hi
    obtain ⟨_, h62, rfl⟩ := H 6 ⟨.data, by simp, rfl⟩ _ rfl
    replace h62 := h62 _ rfl
    obtain ⟨_, h63, rfl⟩ := H 7 ⟨.data, by simp, rfl⟩ _ rfl
    replace h63 := h63 _ rfl
    obtain ⟨_, h59, rfl⟩ := H 3 ⟨.guard, by simp, rfl⟩ _ rfl
    replace h59 := h59 _ rfl
    have HI := Lib.hid hi
    clear H F hi hL
    go_wp2_with fail
    exact hK _ _ (Below.refl _ _) HI.out rfl
  · intro L a wy Q' hL hi H F hK
    try dsimp only at hi
    obtain ⟨_, h64, rfl⟩ := H 8 ⟨.data, by simp, rfl⟩ _ rfl
    replace h64 := h64 _ rfl
    obtain ⟨_, h59, rfl⟩ := H 3 ⟨.guard, by simp, rfl⟩ _ rfl
    replace h59 := h59 _ rfl
    have HI := Lib.hid hi
    clear H F hi hL
    go_wp2_with fail
    exact hK _ _ (Below.refl _ _) HI.out rfl
  · intro L a wy Q' hL hi H F hK
    try dsimp only at hi
    obtain ⟨_, h65, rfl⟩ := H 9 ⟨.data, by simp, rfl⟩ _ rfl
    replace h65 := h65 _ rfl
    obtain ⟨_, h59, rfl⟩ := H 3 ⟨.guard, by simp, rfl⟩ _ rfl
    replace h59 := h59 _ rfl
    have HI := Lib.hid hi
    clear H F hi hL
    have kq : wy.cell? ⟨b, off + i * 7 + 2, none⟩ = some (.int .i64 x.cls) := cell_later HI.out (HE.out 2 _ rfl)
    go_wp2_with fail
    exact hK _ _ (Below.refl _ _) HI.out rfl
  · intro L a wy Q' hL hi H F hK
    try dsimp only at hi
    obtain ⟨_, h61, rfl⟩ := H 5 ⟨.data, by simp, rfl⟩ _ rfl
    replace h61 := h61 _ rfl
    obtain ⟨_, h66, rfl⟩ := H 10 ⟨.data, by simp, rfl⟩ _ rfl
    replace h66 := h66 _ rfl
    obtain ⟨_, h59, rfl⟩ := H 3 ⟨.guard, by simp, rfl⟩ _ rfl
    replace h59 := h59 _ rfl
    have HI := Lib.hid hi
    clear H F hi hL
    go_wp2_with fail
    exact hK _ _ (Below.refl _ _) HI.out rfl
  · intro L a wy Q' hL hi H F hK
    try dsimp only at hi
    obtain ⟨_, h59, rfl⟩ := H 3 ⟨.data, by simp, rfl⟩ _ rfl
    replace h59 := h59 _ rfl
    obtain ⟨_, h67, rfl⟩ := H 11 ⟨.data, by simp, rfl⟩ _ rfl
    replace h67 := h67 _ rfl
    have HI := Lib.hid hi
    clear H F hi hL
    go_wp2_with fail
    exact hK _ _ (Below.refl _ _) HI.out rfl
  · intro L a wy Q' hL hi H F hK
    try dsimp only at hi
    obtain ⟨_, h68, rfl⟩ := H 12 ⟨.data, by simp, rfl⟩ _ rfl
    replace h68 := h68 _ rfl
    have HI := Lib.hid hi
    clear H F hi hL
    go_wp2_with fail
    exact hK _ _ (Below.refl _ _) HI.out rfl
  · intro L a wy Q' hL hi H F hK
    try dsimp only at hi
    obtain ⟨_, h69, rfl⟩ := H 13 ⟨.guard, by simp, rfl⟩ _ rfl
    replace h69 := h69 _ rfl
    have h8 : a.tmps[8]? = some (.pointer (some ⟨rb, 0, none⟩)) := F 8 rfl
    have HI := Lib.hid hi
    clear H F hi hL
    refine wpList_skip (by simp [Region.wanted, yielded, h69]) ?_
    exact hK _ _ (Below.refl _ _) HI.out rfl
  · intro L a wy Q' hL hi H F hK
    try dsimp only at hi
    obtain ⟨_, h70, rfl⟩ := H 14 ⟨.data, by simp, rfl⟩ _ rfl
    replace h70 := h70 _ rfl
    obtain ⟨_, h69, rfl⟩ := H 13 ⟨.guard, by simp, rfl⟩ _ rfl
    replace h69 := h69 _ rfl
    have HI := Lib.hid hi
    clear H F hi hL
    refine wpList_skip (by simp [Region.wanted, yielded, h69]) ?_
    exact hK _ _ (Below.refl _ _) HI.out rfl
  · intro L a wy Q' hL hi H F hK
    try dsimp only at hi
    obtain ⟨_, h69, rfl⟩ := H 13 ⟨.guard, by simp, rfl⟩ _ rfl
    replace h69 := h69 _ rfl
    have h3 : a.tmps[3]? = some (.slice (some ⟨b, off, none⟩) m c) := F 3 rfl
    have HI := Lib.hid hi
    clear H F hi hL
    refine wpList_skip (by simp [Region.wanted, yielded, h69]) ?_
    exact hK _ _ (Below.refl _ _) HI.out rfl
  · intro L a wy Q' hL hi H F hK
    try dsimp only at hi
    obtain ⟨_, h69, rfl⟩ := H 13 ⟨.guard, by simp, rfl⟩ _ rfl
    replace h69 := h69 _ rfl
    have h5 : a.tmps[5]? = some (.int .i64 (i : Int)) := F 5 rfl
    have HI := Lib.hid hi
    clear H F hi hL
    refine wpList_skip (by simp [Region.wanted, yielded, h69]) ?_
    exact hK _ _ (Below.refl _ _) HI.out rfl
  · intro L a wy Q' hL hi H F hK
    try dsimp only at hi
    obtain ⟨_, h72, rfl⟩ := H 16 ⟨.data, by simp, rfl⟩ _ rfl
    replace h72 := h72 _ rfl
    obtain ⟨_, h73, rfl⟩ := H 17 ⟨.data, by simp, rfl⟩ _ rfl
    replace h73 := h73 _ rfl
    obtain ⟨_, h69, rfl⟩ := H 13 ⟨.guard, by simp, rfl⟩ _ rfl
    replace h69 := h69 _ rfl
    have HI := Lib.hid hi
    clear H F hi hL
    refine wpList_skip (by simp [Region.wanted, yielded, h69]) ?_
    exact hK _ _ (Below.refl _ _) HI.out rfl
  · intro L a wy Q' hL hi H F hK
    try dsimp only at hi
    obtain ⟨_, h74, rfl⟩ := H 18 ⟨.data, by simp, rfl⟩ _ rfl
    replace h74 := h74 _ rfl
    obtain ⟨_, h69, rfl⟩ := H 13 ⟨.guard, by simp, rfl⟩ _ rfl
    replace h69 := h69 _ rfl
    have HI := Lib.hid hi
    clear H F hi hL
    refine wpList_skip (by simp [Region.wanted, yielded, h69]) ?_
    exact hK _ _ (Below.refl _ _) HI.out rfl
  · intro L a wy Q' hL hi H F hK
    try dsimp only at hi
    obtain ⟨_, h75, rfl⟩ := H 19 ⟨.data, by simp, rfl⟩ _ rfl
    replace h75 := h75 _ rfl
    obtain ⟨_, h69, rfl⟩ := H 13 ⟨.guard, by simp, rfl⟩ _ rfl
    replace h69 := h69 _ rfl
    have HI := Lib.hid hi
    clear H F hi hL
    refine wpList_skip (by simp [Region.wanted, yielded, h69]) ?_
    exact hK _ _ (Below.refl _ _) HI.out rfl
  · intro L a wy Q' hL hi H F hK
    try dsimp only at hi
    obtain ⟨_, h71, rfl⟩ := H 15 ⟨.data, by simp, rfl⟩ _ rfl
    replace h71 := h71 _ rfl
    obtain ⟨_, h76, rfl⟩ := H 20 ⟨.data, by simp, rfl⟩ _ rfl
    replace h76 := h76 _ rfl
    obtain ⟨_, h69, rfl⟩ := H 13 ⟨.guard, by simp, rfl⟩ _ rfl
    replace h69 := h69 _ rfl
    have HI := Lib.hid hi
    clear H F hi hL
    refine wpList_skip (by simp [Region.wanted, yielded, h69]) ?_
    exact hK _ _ (Below.refl _ _) HI.out rfl
  · intro L a wy Q' hL hi H F hK
    try dsimp only at hi
    obtain ⟨_, h69, rfl⟩ := H 13 ⟨.data, by simp, rfl⟩ _ rfl
    replace h69 := h69 _ rfl
    obtain ⟨_, h77, rfl⟩ := H 21 ⟨.data, by simp, rfl⟩ _ rfl
    replace h77 := h77 _ rfl
    have HI := Lib.hid hi
    clear H F hi hL
    go_wp2_with fail
    exact hK _ _ (Below.refl _ _) HI.out rfl
  · intro L a wy Q' hL hi H F hK
    try dsimp only at hi
    obtain ⟨_, h78, rfl⟩ := H 22 ⟨.data, by simp, rfl⟩ _ rfl
    replace h78 := h78 _ rfl
    have HI := Lib.hid hi
    clear H F hi hL
    go_wp2_with fail
    exact hK _ _ (Below.refl _ _) HI.out rfl
  · intro L a wy Q' hL hi H F hK
    try dsimp only at hi
    obtain ⟨_, h79, rfl⟩ := H 23 ⟨.guard, by simp, rfl⟩ _ rfl
    replace h79 := h79 _ rfl
    have h9 : a.tmps[9]? = some (.bool p) := F 9 rfl
    have HI := Lib.hid hi
    clear H F hi hL
    refine wpList_skip (by simp [Region.wanted, yielded, h79]) ?_
    exact hK _ _ (Below.refl _ _) HI.out rfl
  · intro a wy L hl hi hL Q' hK
    try dsimp only at hi
    have HB := Lib.hid hi
    clear hi hL
    obtain ⟨_, rfl, _, rfl, _, rfl, _, rfl, _, rfl, _, rfl, _, rfl, _, rfl, _, rfl, _, rfl, _, rfl, _, rfl, _, rfl, _, rfl, _, rfl, _, rfl, _, rfl, _, rfl, _, rfl, _, rfl, _, rfl, _, rfl, _, rfl, _, rfl, _, rfl, rfl⟩ := hl
    simp only [List.setIfInBounds_toArray, List.set_cons_zero, List.set_cons_succ]
    go_wp2_with fail
    exact HEND.out _ _ _ _ _ _ _ _ _ _ _ _ _ _ _ _ _ _ _ _ _ _ _ _ _ _ HB.out
set_option maxRecDepth 100000 in
set_option maxHeartbeats 4000000 in
theorem nev12_ttf (w : World) (pb rb b off i m c : Nat) (r : ARule) (x : AEntry) (p : Bool) (x0 x2 x4 x6 x7 x10 x11 x12 x13 x14 x15 x16 x17 x18 x19 x20 x21 x22 x23 x24 x25 x26 x27 x28 x29 x30 x31 x32 x33 x34 x35 x36 x37 x38 x39 x40 x41 x42 x43 x44 x45 x46 x47 x48 x49 x50 x51 x52 x53 x54 x55 x56 x57 x58 x59 x60 x61 x62 x63 x64 x65 x66 x67 x68 x69 x70 x71 x72 x73 x74 x75 x76 x77 x78 x79 x80 x81 x82 x83 x84 x85 x86 x87 x88 x89 x90 x91 x92 x93 x94 x95 x96 x97 x98 x99 x100 x101 x102 x103 x104 : Value) (him : i < m) (HR : Hid (Whole w rb 27 #[.int .i64 r.kind, .int .u64 r.src.a, .int .u64 r.src.b, .int .u64 r.src.c, .int .u64 r.src.d, .int .u64 r.tgt.a, .int .u64 r.tgt.b, .int .u64 r.tgt.c, .int .u64 r.tgt.d, .bool r.self, .int .i64 r.cls, .int .u32 r.perms, .int .i64 r.cond])) (HE : Hid (∀ j u, x.cells[j]? = some u → w.cell? ⟨b, off + i * 7 + j, none⟩ = some u)) (hk : (r.kind == 4) = true) (hc : (r.cls == x.cls) = true) (HH : Hid (∀ W, Calls Tryd.prog 28 #[.agg #[.int .u64 r.src.a, .int .u64 r.src.b, .int .u64 r.src.c, .int .u64 r.src.d], .int .i64 x.src] W fun e w' => e = .returned (.bool false) ∧ RowKit.Below W.heap.size W w'))
    {Q' : Exit → Act → World → Prop} (hend : ∀ (v56 v57 v58 v59 v60 v61 v62 v63 v64 v65 v66 v67 v68 v69 v70 v71 v72 v73 v74 v75 v76 v77 v78 v79 v80 : Value) (w' : World), RowKit.Below w.heap.size w w' → Q' .normal ⟨#[x0, .pointer (some ⟨pb, 0, none⟩), x2, .slice (some ⟨b, off, none⟩) m c, x4, .int .i64 (i : Int), x6, x7, .pointer (some ⟨rb, 0, none⟩), .bool p, x10, x11, x12, x13, x14, x15, x16, x17, x18, x19, x20, x21, x22, x23, x24, x25, x26, x27, x28, x29, x30, x31, x32, x33, x34, x35, x36, x37, x38, x39, x40, x41, x42, x43, x44, x45, x46, x47, x48, x49, x50, x51, x52, x53, x54, x55, v56, v57, v58, v59, v60, v61, v62, v63, v64, v65, v66, v67, v68, v69, v70, v71, v72, v73, v74, v75, v76, v77, v78, v79, v80, .bool false, x82, x83, x84, x85, x86, x87, x88, x89, x90, x91, x92, x93, x94, x95, x96, x97, x98, x99, x100, x101, x102, x103, x104], []⟩ w') :
    Code.wp Tryd.prog (findRegion7 12 ((Tryd.f22.body).getD .skip)) Q' ⟨#[x0, .pointer (some ⟨pb, 0, none⟩), x2, .slice (some ⟨b, off, none⟩) m c, x4, .int .i64 (i : Int), x6, x7, .pointer (some ⟨rb, 0, none⟩), .bool p, x10, x11, x12, x13, x14, x15, x16, x17, x18, x19, x20, x21, x22, x23, x24, x25, x26, x27, x28, x29, x30, x31, x32, x33, x34, x35, x36, x37, x38, x39, x40, x41, x42, x43, x44, x45, x46, x47, x48, x49, x50, x51, x52, x53, x54, x55, x56, x57, x58, x59, x60, x61, x62, x63, x64, x65, x66, x67, x68, x69, x70, x71, x72, x73, x74, x75, x76, x77, x78, x79, x80, x81, x82, x83, x84, x85, x86, x87, x88, x89, x90, x91, x92, x93, x94, x95, x96, x97, x98, x99, x100, x101, x102, x103, x104], []⟩ w := by
  have HEND := Lib.hid hend
  clear hend
  conv => arg 2; whnf
  conv => arg 4; dsimp only
  refine wp_region_goods [some 56, some 57, some 58, some 59, some 60, some 61, some 62, some 63, some 64, some 65, some 66, some 67, some 68, some 69, some 70, some 71, some 72, some 73, some 74, some 75, some 76, some 77, some 78, some 79, some 80] [isW (.pointer (some ⟨rb, 0, none⟩)), isW (.int .i64 r.kind), isW (.bool true), isW (.bool true), isW (.pointer (some ⟨rb, 10, none⟩)), isW (.int .i64 r.cls), isW (.slice (some ⟨b, off, none⟩) m c), isW (.int .i64 (i : Int)), isW (.pointer (some ⟨b, off + i * 7, none⟩)), isW (.pointer (some ⟨b, off + i * 7 + 2, none⟩)), isW (.int .i64 x.cls), isW (.bool true), isW (.bool true), isW (.bool true), isW (.pointer (some ⟨rb, 1, none⟩)), isW (.agg #[.int .u64 r.src.a, .int .u64 r.src.b, .int .u64 r.src.c, .int .u64 r.src.d]), isW (.slice (some ⟨b, off, none⟩) m c), isW (.int .i64 (i : Int)), isW (.pointer (some ⟨b, off + i * 7, none⟩)), isW (.pointer (some ⟨b, off + i * 7, none⟩)), isW (.int .i64 x.src), isW (.bool false), isW (.bool false), isW (.bool false), isW (undef)] (fun _ w' => RowKit.Below w.heap.size w w') [] (by kernel_rfl) (by kernel_rfl) (by kernel_rfl) rfl (by decide) rfl rfl ((Below.refl _ _).drew) ⟨lastsW_is _, lastsW_is _, lastsW_is _, lastsW_is _, lastsW_is _, lastsW_is _, lastsW_is _, lastsW_is _, lastsW_is _, lastsW_is _, lastsW_is _, lastsW_is _, lastsW_is _, lastsW_is _, lastsW_is _, lastsW_is _, lastsW_is _, lastsW_is _, lastsW_is _, lastsW_is _, lastsW_is _, lastsW_is _, lastsW_is _, lastsW_is _, lastsW_is _, trivial⟩ ⟨?_, ?_, ?_, ?_, ?_, ?_, ?_, ?_, ?_, ?_, ?_, ?_, ?_, ?_, ?_, ?_, ?_, ?_, ?_, ?_, ?_, ?_, ?_, ?_, ?_, ?_⟩
  · intro L a wy Q' hL hi H F hK
    try dsimp only at hi
    have h8 : a.tmps[8]? = some (.pointer (some ⟨rb, 0, none⟩)) := F 8 rfl
    have HI := Lib.hid hi
    clear H F hi hL
    go_wp2_with fail
    exact hK _ _ (Below.refl _ _) HI.out rfl
  · intro L a wy Q' hL hi H F hK
    try dsimp only at hi
    obtain ⟨_, h56, rfl⟩ := H 0 ⟨.data, by simp, rfl⟩ _ rfl
    replace h56 := h56 _ rfl
    have HI := Lib.hid hi
    clear H F hi hL
    have kq0 : wy.cell? ⟨rb, 0, none⟩ = some (.int .i64 r.kind) := (Whole.under HI.out HR.out (Whole.lt HR.out)).cell 0
    go_wp2_with fail
    exact hK _ _ (Below.refl _ _) HI.out rfl
  · intro L a wy Q' hL hi H F hK
    try dsimp only at hi
    obtain ⟨_, h57, rfl⟩ := H 1 ⟨.data, by simp, rfl⟩ _ rfl
    replace h57 := h57 _ rfl
    have HI := Lib.hid hi
    clear H F hi hL
    go_wp2_with fail
    exact hK _ _ (Below.refl _ _) HI.out rfl
  · intro L a wy Q' hL hi H F hK
    try dsimp only at hi
    obtain ⟨_, h58, rfl⟩ := H 2 ⟨.data, by simp, rfl⟩ _ rfl
    replace h58 := h58 _ rfl
    have HI := Lib.hid hi
    clear H F hi hL
    go_wp2_with fail
    exact hK _ _ (Below.refl _ _) HI.out rfl
  · intro L a wy Q' hL hi H F hK
    try dsimp only at hi
    obtain ⟨_, h59, rfl⟩ := H 3 ⟨.guard, by simp, rfl⟩ _ rfl
    replace h59 := h59 _ rfl
    have h8 : a.tmps[8]? = some (.pointer (some ⟨rb, 0, none⟩)) := F 8 rfl
    have HI := Lib.hid hi
    clear H F hi hL
    go_wp2_with fail
    exact hK _ _ (Below.refl _ _) HI.out rfl
  · intro L a wy Q' hL hi H F hK
    try dsimp only at hi
    obtain ⟨_, h60, rfl⟩ := H 4 ⟨.data, by simp, rfl⟩ _ rfl
    replace h60 := h60 _ rfl
    obtain ⟨_, h59, rfl⟩ := H 3 ⟨.guard, by simp, rfl⟩ _ rfl
    replace h59 := h59 _ rfl
    have HI := Lib.hid hi
    clear H F hi hL
    have kq0 : wy.cell? ⟨rb, 10, none⟩ = some (.int .i64 r.cls) := (Whole.under HI.out HR.out (Whole.lt HR.out)).cell 10
    go_wp2_with fail
    exact hK _ _ (Below.refl _ _) HI.out rfl
  · intro L a wy Q' hL hi H F hK
    try dsimp only at hi
    obtain ⟨_, h59, rfl⟩ := H 3 ⟨.guard, by simp, rfl⟩ _ rfl
    replace h59 := h59 _ rfl
    have h3 : a.tmps[3]? = some (.slice (some ⟨b, off, none⟩) m c) := F 3 rfl
    have HI := Lib.hid hi
    clear H F hi hL
    go_wp2_with fail
    exact hK _ _ (Below.refl _ _) HI.out rfl
  · intro L a wy Q' hL hi H F hK
    try dsimp only at hi
    obtain ⟨_, h59, rfl⟩ := H 3 ⟨.guard, by simp, rfl⟩ _ rfl
    replace h59 := h59 _ rfl
    have h5 : a.tmps[5]? = some (.int .i64 (i : Int)) := F 5 rfl
    have HI := Lib.hid hi
    clear H F hi hL
    go_wp2_with fail
    exact hK _ _ (Below.refl _ _) HI.out rfl
  · intro L a wy Q' hL hi H F hK
    try dsimp only at hi
    obtain ⟨_, h62, rfl⟩ := H 6 ⟨.data, by simp, rfl⟩ _ rfl
    replace h62 := h62 _ rfl
    obtain ⟨_, h63, rfl⟩ := H 7 ⟨.data, by simp, rfl⟩ _ rfl
    replace h63 := h63 _ rfl
    obtain ⟨_, h59, rfl⟩ := H 3 ⟨.guard, by simp, rfl⟩ _ rfl
    replace h59 := h59 _ rfl
    have HI := Lib.hid hi
    clear H F hi hL
    go_wp2_with fail
    exact hK _ _ (Below.refl _ _) HI.out rfl
  · intro L a wy Q' hL hi H F hK
    try dsimp only at hi
    obtain ⟨_, h64, rfl⟩ := H 8 ⟨.data, by simp, rfl⟩ _ rfl
    replace h64 := h64 _ rfl
    obtain ⟨_, h59, rfl⟩ := H 3 ⟨.guard, by simp, rfl⟩ _ rfl
    replace h59 := h59 _ rfl
    have HI := Lib.hid hi
    clear H F hi hL
    go_wp2_with fail
    exact hK _ _ (Below.refl _ _) HI.out rfl
  · intro L a wy Q' hL hi H F hK
    try dsimp only at hi
    obtain ⟨_, h65, rfl⟩ := H 9 ⟨.data, by simp, rfl⟩ _ rfl
    replace h65 := h65 _ rfl
    obtain ⟨_, h59, rfl⟩ := H 3 ⟨.guard, by simp, rfl⟩ _ rfl
    replace h59 := h59 _ rfl
    have HI := Lib.hid hi
    clear H F hi hL
    have kq : wy.cell? ⟨b, off + i * 7 + 2, none⟩ = some (.int .i64 x.cls) := cell_later HI.out (HE.out 2 _ rfl)
    go_wp2_with fail
    exact hK _ _ (Below.refl _ _) HI.out rfl
  · intro L a wy Q' hL hi H F hK
    try dsimp only at hi
    obtain ⟨_, h61, rfl⟩ := H 5 ⟨.data, by simp, rfl⟩ _ rfl
    replace h61 := h61 _ rfl
    obtain ⟨_, h66, rfl⟩ := H 10 ⟨.data, by simp, rfl⟩ _ rfl
    replace h66 := h66 _ rfl
    obtain ⟨_, h59, rfl⟩ := H 3 ⟨.guard, by simp, rfl⟩ _ rfl
    replace h59 := h59 _ rfl
    have HI := Lib.hid hi
    clear H F hi hL
    go_wp2_with fail
    exact hK _ _ (Below.refl _ _) HI.out rfl
  · intro L a wy Q' hL hi H F hK
    try dsimp only at hi
    obtain ⟨_, h59, rfl⟩ := H 3 ⟨.data, by simp, rfl⟩ _ rfl
    replace h59 := h59 _ rfl
    obtain ⟨_, h67, rfl⟩ := H 11 ⟨.data, by simp, rfl⟩ _ rfl
    replace h67 := h67 _ rfl
    have HI := Lib.hid hi
    clear H F hi hL
    go_wp2_with fail
    exact hK _ _ (Below.refl _ _) HI.out rfl
  · intro L a wy Q' hL hi H F hK
    try dsimp only at hi
    obtain ⟨_, h68, rfl⟩ := H 12 ⟨.data, by simp, rfl⟩ _ rfl
    replace h68 := h68 _ rfl
    have HI := Lib.hid hi
    clear H F hi hL
    go_wp2_with fail
    exact hK _ _ (Below.refl _ _) HI.out rfl
  · intro L a wy Q' hL hi H F hK
    try dsimp only at hi
    obtain ⟨_, h69, rfl⟩ := H 13 ⟨.guard, by simp, rfl⟩ _ rfl
    replace h69 := h69 _ rfl
    have h8 : a.tmps[8]? = some (.pointer (some ⟨rb, 0, none⟩)) := F 8 rfl
    have HI := Lib.hid hi
    clear H F hi hL
    go_wp2_with fail
    exact hK _ _ (Below.refl _ _) HI.out rfl
  · intro L a wy Q' hL hi H F hK
    try dsimp only at hi
    obtain ⟨_, h70, rfl⟩ := H 14 ⟨.data, by simp, rfl⟩ _ rfl
    replace h70 := h70 _ rfl
    obtain ⟨_, h69, rfl⟩ := H 13 ⟨.guard, by simp, rfl⟩ _ rfl
    replace h69 := h69 _ rfl
    have HI := Lib.hid hi
    clear H F hi hL
    have kq0 : wy.cell? ⟨rb, 1, none⟩ = some (.int .u64 r.src.a) := (Whole.under HI.out HR.out (Whole.lt HR.out)).cell 1
    have kq1 : wy.cell? ⟨rb, 2, none⟩ = some (.int .u64 r.src.b) := (Whole.under HI.out HR.out (Whole.lt HR.out)).cell 2
    have kq2 : wy.cell? ⟨rb, 3, none⟩ = some (.int .u64 r.src.c) := (Whole.under HI.out HR.out (Whole.lt HR.out)).cell 3
    have kq3 : wy.cell? ⟨rb, 4, none⟩ = some (.int .u64 r.src.d) := (Whole.under HI.out HR.out (Whole.lt HR.out)).cell 4
    go_wp2_with fail
    exact hK _ _ (Below.refl _ _) HI.out rfl
  · intro L a wy Q' hL hi H F hK
    try dsimp only at hi
    obtain ⟨_, h69, rfl⟩ := H 13 ⟨.guard, by simp, rfl⟩ _ rfl
    replace h69 := h69 _ rfl
    have h3 : a.tmps[3]? = some (.slice (some ⟨b, off, none⟩) m c) := F 3 rfl
    have HI := Lib.hid hi
    clear H F hi hL
    go_wp2_with fail
    exact hK _ _ (Below.refl _ _) HI.out rfl
  · intro L a wy Q' hL hi H F hK
    try dsimp only at hi
    obtain ⟨_, h69, rfl⟩ := H 13 ⟨.guard, by simp, rfl⟩ _ rfl
    replace h69 := h69 _ rfl
    have h5 : a.tmps[5]? = some (.int .i64 (i : Int)) := F 5 rfl
    have HI := Lib.hid hi
    clear H F hi hL
    go_wp2_with fail
    exact hK _ _ (Below.refl _ _) HI.out rfl
  · intro L a wy Q' hL hi H F hK
    try dsimp only at hi
    obtain ⟨_, h72, rfl⟩ := H 16 ⟨.data, by simp, rfl⟩ _ rfl
    replace h72 := h72 _ rfl
    obtain ⟨_, h73, rfl⟩ := H 17 ⟨.data, by simp, rfl⟩ _ rfl
    replace h73 := h73 _ rfl
    obtain ⟨_, h69, rfl⟩ := H 13 ⟨.guard, by simp, rfl⟩ _ rfl
    replace h69 := h69 _ rfl
    have HI := Lib.hid hi
    clear H F hi hL
    go_wp2_with fail
    exact hK _ _ (Below.refl _ _) HI.out rfl
  · intro L a wy Q' hL hi H F hK
    try dsimp only at hi
    obtain ⟨_, h74, rfl⟩ := H 18 ⟨.data, by simp, rfl⟩ _ rfl
    replace h74 := h74 _ rfl
    obtain ⟨_, h69, rfl⟩ := H 13 ⟨.guard, by simp, rfl⟩ _ rfl
    replace h69 := h69 _ rfl
    have HI := Lib.hid hi
    clear H F hi hL
    go_wp2_with fail
    exact hK _ _ (Below.refl _ _) HI.out rfl
  · intro L a wy Q' hL hi H F hK
    try dsimp only at hi
    obtain ⟨_, h75, rfl⟩ := H 19 ⟨.data, by simp, rfl⟩ _ rfl
    replace h75 := h75 _ rfl
    obtain ⟨_, h69, rfl⟩ := H 13 ⟨.guard, by simp, rfl⟩ _ rfl
    replace h69 := h69 _ rfl
    have HI := Lib.hid hi
    clear H F hi hL
    have kq : wy.cell? ⟨b, off + i * 7, none⟩ = some (.int .i64 x.src) := cell_later HI.out (HE.out 0 _ rfl)
    go_wp2_with fail
    exact hK _ _ (Below.refl _ _) HI.out rfl
  · intro L a wy Q' hL hi H F hK
    try dsimp only at hi
    obtain ⟨_, h71, rfl⟩ := H 15 ⟨.data, by simp, rfl⟩ _ rfl
    replace h71 := h71 _ rfl
    obtain ⟨_, h76, rfl⟩ := H 20 ⟨.data, by simp, rfl⟩ _ rfl
    replace h76 := h76 _ rfl
    obtain ⟨_, h69, rfl⟩ := H 13 ⟨.guard, by simp, rfl⟩ _ rfl
    replace h69 := h69 _ rfl
    have HI := Lib.hid hi
    clear H F hi hL
    have HK := Lib.hid hK
    clear hK
    go_wp2_with (go_at_call 28; go_must (refine (HH.out wy).mono ?_; rintro e w1 ⟨rfl, hb1⟩))
    exact HK.out _ _ hb1 (HI.out.trans (hb1.mono HI.out.size)) rfl
  · intro L a wy Q' hL hi H F hK
    try dsimp only at hi
    obtain ⟨_, h69, rfl⟩ := H 13 ⟨.data, by simp, rfl⟩ _ rfl
    replace h69 := h69 _ rfl
    obtain ⟨_, h77, rfl⟩ := H 21 ⟨.data, by simp, rfl⟩ _ rfl
    replace h77 := h77 _ rfl
    have HI := Lib.hid hi
    clear H F hi hL
    go_wp2_with fail
    exact hK _ _ (Below.refl _ _) HI.out rfl
  · intro L a wy Q' hL hi H F hK
    try dsimp only at hi
    obtain ⟨_, h78, rfl⟩ := H 22 ⟨.data, by simp, rfl⟩ _ rfl
    replace h78 := h78 _ rfl
    have HI := Lib.hid hi
    clear H F hi hL
    go_wp2_with fail
    exact hK _ _ (Below.refl _ _) HI.out rfl
  · intro L a wy Q' hL hi H F hK
    try dsimp only at hi
    obtain ⟨_, h79, rfl⟩ := H 23 ⟨.guard, by simp, rfl⟩ _ rfl
    replace h79 := h79 _ rfl
    have h9 : a.tmps[9]? = some (.bool p) := F 9 rfl
    have HI := Lib.hid hi
    clear H F hi hL
    refine wpList_skip (by simp [Region.wanted, yielded, h79]) ?_
    exact hK _ _ (Below.refl _ _) HI.out rfl
  · intro a wy L hl hi hL Q' hK
    try dsimp only at hi
    have HB := Lib.hid hi
    clear hi hL
    obtain ⟨_, rfl, _, rfl, _, rfl, _, rfl, _, rfl, _, rfl, _, rfl, _, rfl, _, rfl, _, rfl, _, rfl, _, rfl, _, rfl, _, rfl, _, rfl, _, rfl, _, rfl, _, rfl, _, rfl, _, rfl, _, rfl, _, rfl, _, rfl, _, rfl, _, rfl, rfl⟩ := hl
    simp only [List.setIfInBounds_toArray, List.set_cons_zero, List.set_cons_succ]
    go_wp2_with fail
    exact HEND.out _ _ _ _ _ _ _ _ _ _ _ _ _ _ _ _ _ _ _ _ _ _ _ _ _ _ HB.out
set_option maxRecDepth 100000 in
set_option maxHeartbeats 4000000 in
theorem nev12_ttt (w : World) (pb rb b off i m c : Nat) (r : ARule) (x : AEntry) (p : Bool) (x0 x2 x4 x6 x7 x10 x11 x12 x13 x14 x15 x16 x17 x18 x19 x20 x21 x22 x23 x24 x25 x26 x27 x28 x29 x30 x31 x32 x33 x34 x35 x36 x37 x38 x39 x40 x41 x42 x43 x44 x45 x46 x47 x48 x49 x50 x51 x52 x53 x54 x55 x56 x57 x58 x59 x60 x61 x62 x63 x64 x65 x66 x67 x68 x69 x70 x71 x72 x73 x74 x75 x76 x77 x78 x79 x80 x81 x82 x83 x84 x85 x86 x87 x88 x89 x90 x91 x92 x93 x94 x95 x96 x97 x98 x99 x100 x101 x102 x103 x104 : Value) (him : i < m) (HR : Hid (Whole w rb 27 #[.int .i64 r.kind, .int .u64 r.src.a, .int .u64 r.src.b, .int .u64 r.src.c, .int .u64 r.src.d, .int .u64 r.tgt.a, .int .u64 r.tgt.b, .int .u64 r.tgt.c, .int .u64 r.tgt.d, .bool r.self, .int .i64 r.cls, .int .u32 r.perms, .int .i64 r.cond])) (HE : Hid (∀ j u, x.cells[j]? = some u → w.cell? ⟨b, off + i * 7 + j, none⟩ = some u)) (hk : (r.kind == 4) = true) (hc : (r.cls == x.cls) = true) (HH : Hid (∀ W, Calls Tryd.prog 28 #[.agg #[.int .u64 r.src.a, .int .u64 r.src.b, .int .u64 r.src.c, .int .u64 r.src.d], .int .i64 x.src] W fun e w' => e = .returned (.bool true) ∧ RowKit.Below W.heap.size W w'))
    {Q' : Exit → Act → World → Prop} (hend : ∀ (v56 v57 v58 v59 v60 v61 v62 v63 v64 v65 v66 v67 v68 v69 v70 v71 v72 v73 v74 v75 v76 v77 v78 v79 v80 : Value) (w' : World), RowKit.Below w.heap.size w w' → Q' .normal ⟨#[x0, .pointer (some ⟨pb, 0, none⟩), x2, .slice (some ⟨b, off, none⟩) m c, x4, .int .i64 (i : Int), x6, x7, .pointer (some ⟨rb, 0, none⟩), .bool p, x10, x11, x12, x13, x14, x15, x16, x17, x18, x19, x20, x21, x22, x23, x24, x25, x26, x27, x28, x29, x30, x31, x32, x33, x34, x35, x36, x37, x38, x39, x40, x41, x42, x43, x44, x45, x46, x47, x48, x49, x50, x51, x52, x53, x54, x55, v56, v57, v58, v59, v60, v61, v62, v63, v64, v65, v66, v67, v68, v69, v70, v71, v72, v73, v74, v75, v76, v77, v78, v79, v80, .bool p, x82, x83, x84, x85, x86, x87, x88, x89, x90, x91, x92, x93, x94, x95, x96, x97, x98, x99, x100, x101, x102, x103, x104], []⟩ w') :
    Code.wp Tryd.prog (findRegion7 12 ((Tryd.f22.body).getD .skip)) Q' ⟨#[x0, .pointer (some ⟨pb, 0, none⟩), x2, .slice (some ⟨b, off, none⟩) m c, x4, .int .i64 (i : Int), x6, x7, .pointer (some ⟨rb, 0, none⟩), .bool p, x10, x11, x12, x13, x14, x15, x16, x17, x18, x19, x20, x21, x22, x23, x24, x25, x26, x27, x28, x29, x30, x31, x32, x33, x34, x35, x36, x37, x38, x39, x40, x41, x42, x43, x44, x45, x46, x47, x48, x49, x50, x51, x52, x53, x54, x55, x56, x57, x58, x59, x60, x61, x62, x63, x64, x65, x66, x67, x68, x69, x70, x71, x72, x73, x74, x75, x76, x77, x78, x79, x80, x81, x82, x83, x84, x85, x86, x87, x88, x89, x90, x91, x92, x93, x94, x95, x96, x97, x98, x99, x100, x101, x102, x103, x104], []⟩ w := by
  have HEND := Lib.hid hend
  clear hend
  conv => arg 2; whnf
  conv => arg 4; dsimp only
  refine wp_region_goods [some 56, some 57, some 58, some 59, some 60, some 61, some 62, some 63, some 64, some 65, some 66, some 67, some 68, some 69, some 70, some 71, some 72, some 73, some 74, some 75, some 76, some 77, some 78, some 79, some 80] [isW (.pointer (some ⟨rb, 0, none⟩)), isW (.int .i64 r.kind), isW (.bool true), isW (.bool true), isW (.pointer (some ⟨rb, 10, none⟩)), isW (.int .i64 r.cls), isW (.slice (some ⟨b, off, none⟩) m c), isW (.int .i64 (i : Int)), isW (.pointer (some ⟨b, off + i * 7, none⟩)), isW (.pointer (some ⟨b, off + i * 7 + 2, none⟩)), isW (.int .i64 x.cls), isW (.bool true), isW (.bool true), isW (.bool true), isW (.pointer (some ⟨rb, 1, none⟩)), isW (.agg #[.int .u64 r.src.a, .int .u64 r.src.b, .int .u64 r.src.c, .int .u64 r.src.d]), isW (.slice (some ⟨b, off, none⟩) m c), isW (.int .i64 (i : Int)), isW (.pointer (some ⟨b, off + i * 7, none⟩)), isW (.pointer (some ⟨b, off + i * 7, none⟩)), isW (.int .i64 x.src), isW (.bool true), isW (.bool true), isW (.bool true), isW (.bool p)] (fun _ w' => RowKit.Below w.heap.size w w') [] (by kernel_rfl) (by kernel_rfl) (by kernel_rfl) rfl (by decide) rfl rfl ((Below.refl _ _).drew) ⟨lastsW_is _, lastsW_is _, lastsW_is _, lastsW_is _, lastsW_is _, lastsW_is _, lastsW_is _, lastsW_is _, lastsW_is _, lastsW_is _, lastsW_is _, lastsW_is _, lastsW_is _, lastsW_is _, lastsW_is _, lastsW_is _, lastsW_is _, lastsW_is _, lastsW_is _, lastsW_is _, lastsW_is _, lastsW_is _, lastsW_is _, lastsW_is _, lastsW_is _, trivial⟩ ⟨?_, ?_, ?_, ?_, ?_, ?_, ?_, ?_, ?_, ?_, ?_, ?_, ?_, ?_, ?_, ?_, ?_, ?_, ?_, ?_, ?_, ?_, ?_, ?_, ?_, ?_⟩
  · intro L a wy Q' hL hi H F hK
    try dsimp only at hi
    have h8 : a.tmps[8]? = some (.pointer (some ⟨rb, 0, none⟩)) := F 8 rfl
    have HI := Lib.hid hi
    clear H F hi hL
    go_wp2_with fail
    exact hK _ _ (Below.refl _ _) HI.out rfl
  · intro L a wy Q' hL hi H F hK
    try dsimp only at hi
    obtain ⟨_, h56, rfl⟩ := H 0 ⟨.data, by simp, rfl⟩ _ rfl
    replace h56 := h56 _ rfl
    have HI := Lib.hid hi
    clear H F hi hL
    have kq0 : wy.cell? ⟨rb, 0, none⟩ = some (.int .i64 r.kind) := (Whole.under HI.out HR.out (Whole.lt HR.out)).cell 0
    go_wp2_with fail
    exact hK _ _ (Below.refl _ _) HI.out rfl
  · intro L a wy Q' hL hi H F hK
    try dsimp only at hi
    obtain ⟨_, h57, rfl⟩ := H 1 ⟨.data, by simp, rfl⟩ _ rfl
    replace h57 := h57 _ rfl
    have HI := Lib.hid hi
    clear H F hi hL
    go_wp2_with fail
    exact hK _ _ (Below.refl _ _) HI.out rfl
  · intro L a wy Q' hL hi H F hK
    try dsimp only at hi
    obtain ⟨_, h58, rfl⟩ := H 2 ⟨.data, by simp, rfl⟩ _ rfl
    replace h58 := h58 _ rfl
    have HI := Lib.hid hi
    clear H F hi hL
    go_wp2_with fail
    exact hK _ _ (Below.refl _ _) HI.out rfl
  · intro L a wy Q' hL hi H F hK
    try dsimp only at hi
    obtain ⟨_, h59, rfl⟩ := H 3 ⟨.guard, by simp, rfl⟩ _ rfl
    replace h59 := h59 _ rfl
    have h8 : a.tmps[8]? = some (.pointer (some ⟨rb, 0, none⟩)) := F 8 rfl
    have HI := Lib.hid hi
    clear H F hi hL
    go_wp2_with fail
    exact hK _ _ (Below.refl _ _) HI.out rfl
  · intro L a wy Q' hL hi H F hK
    try dsimp only at hi
    obtain ⟨_, h60, rfl⟩ := H 4 ⟨.data, by simp, rfl⟩ _ rfl
    replace h60 := h60 _ rfl
    obtain ⟨_, h59, rfl⟩ := H 3 ⟨.guard, by simp, rfl⟩ _ rfl
    replace h59 := h59 _ rfl
    have HI := Lib.hid hi
    clear H F hi hL
    have kq0 : wy.cell? ⟨rb, 10, none⟩ = some (.int .i64 r.cls) := (Whole.under HI.out HR.out (Whole.lt HR.out)).cell 10
    go_wp2_with fail
    exact hK _ _ (Below.refl _ _) HI.out rfl
  · intro L a wy Q' hL hi H F hK
    try dsimp only at hi
    obtain ⟨_, h59, rfl⟩ := H 3 ⟨.guard, by simp, rfl⟩ _ rfl
    replace h59 := h59 _ rfl
    have h3 : a.tmps[3]? = some (.slice (some ⟨b, off, none⟩) m c) := F 3 rfl
    have HI := Lib.hid hi
    clear H F hi hL
    go_wp2_with fail
    exact hK _ _ (Below.refl _ _) HI.out rfl
  · intro L a wy Q' hL hi H F hK
    try dsimp only at hi
    obtain ⟨_, h59, rfl⟩ := H 3 ⟨.guard, by simp, rfl⟩ _ rfl
    replace h59 := h59 _ rfl
    have h5 : a.tmps[5]? = some (.int .i64 (i : Int)) := F 5 rfl
    have HI := Lib.hid hi
    clear H F hi hL
    go_wp2_with fail
    exact hK _ _ (Below.refl _ _) HI.out rfl
  · intro L a wy Q' hL hi H F hK
    try dsimp only at hi
    obtain ⟨_, h62, rfl⟩ := H 6 ⟨.data, by simp, rfl⟩ _ rfl
    replace h62 := h62 _ rfl
    obtain ⟨_, h63, rfl⟩ := H 7 ⟨.data, by simp, rfl⟩ _ rfl
    replace h63 := h63 _ rfl
    obtain ⟨_, h59, rfl⟩ := H 3 ⟨.guard, by simp, rfl⟩ _ rfl
    replace h59 := h59 _ rfl
    have HI := Lib.hid hi
    clear H F hi hL
    go_wp2_with fail
    exact hK _ _ (Below.refl _ _) HI.out rfl
  · intro L a wy Q' hL hi H F hK
    try dsimp only at hi
    obtain ⟨_, h64, rfl⟩ := H 8 ⟨.data, by simp, rfl⟩ _ rfl
    replace h64 := h64 _ rfl
    obtain ⟨_, h59, rfl⟩ := H 3 ⟨.guard, by simp, rfl⟩ _ rfl
    replace h59 := h59 _ rfl
    have HI := Lib.hid hi
    clear H F hi hL
    go_wp2_with fail
    exact hK _ _ (Below.refl _ _) HI.out rfl
  · intro L a wy Q' hL hi H F hK
    try dsimp only at hi
    obtain ⟨_, h65, rfl⟩ := H 9 ⟨.data, by simp, rfl⟩ _ rfl
    replace h65 := h65 _ rfl
    obtain ⟨_, h59, rfl⟩ := H 3 ⟨.guard, by simp, rfl⟩ _ rfl
    replace h59 := h59 _ rfl
    have HI := Lib.hid hi
    clear H F hi hL
    have kq : wy.cell? ⟨b, off + i * 7 + 2, none⟩ = some (.int .i64 x.cls) := cell_later HI.out (HE.out 2 _ rfl)
    go_wp2_with fail
    exact hK _ _ (Below.refl _ _) HI.out rfl
  · intro L a wy Q' hL hi H F hK
    try dsimp only at hi
    obtain ⟨_, h61, rfl⟩ := H 5 ⟨.data, by simp, rfl⟩ _ rfl
    replace h61 := h61 _ rfl
    obtain ⟨_, h66, rfl⟩ := H 10 ⟨.data, by simp, rfl⟩ _ rfl
    replace h66 := h66 _ rfl
    obtain ⟨_, h59, rfl⟩ := H 3 ⟨.guard, by simp, rfl⟩ _ rfl
    replace h59 := h59 _ rfl
    have HI := Lib.hid hi
    clear H F hi hL
    go_wp2_with fail
    exact hK _ _ (Below.refl _ _) HI.out rfl
  · intro L a wy Q' hL hi H F hK
    try dsimp only at hi
    obtain ⟨_, h59, rfl⟩ := H 3 ⟨.data, by simp, rfl⟩ _ rfl
    replace h59 := h59 _ rfl
    obtain ⟨_, h67, rfl⟩ := H 11 ⟨.data, by simp, rfl⟩ _ rfl
    replace h67 := h67 _ rfl
    have HI := Lib.hid hi
    clear H F hi hL
    go_wp2_with fail
    exact hK _ _ (Below.refl _ _) HI.out rfl
  · intro L a wy Q' hL hi H F hK
    try dsimp only at hi
    obtain ⟨_, h68, rfl⟩ := H 12 ⟨.data, by simp, rfl⟩ _ rfl
    replace h68 := h68 _ rfl
    have HI := Lib.hid hi
    clear H F hi hL
    go_wp2_with fail
    exact hK _ _ (Below.refl _ _) HI.out rfl
  · intro L a wy Q' hL hi H F hK
    try dsimp only at hi
    obtain ⟨_, h69, rfl⟩ := H 13 ⟨.guard, by simp, rfl⟩ _ rfl
    replace h69 := h69 _ rfl
    have h8 : a.tmps[8]? = some (.pointer (some ⟨rb, 0, none⟩)) := F 8 rfl
    have HI := Lib.hid hi
    clear H F hi hL
    go_wp2_with fail
    exact hK _ _ (Below.refl _ _) HI.out rfl
  · intro L a wy Q' hL hi H F hK
    try dsimp only at hi
    obtain ⟨_, h70, rfl⟩ := H 14 ⟨.data, by simp, rfl⟩ _ rfl
    replace h70 := h70 _ rfl
    obtain ⟨_, h69, rfl⟩ := H 13 ⟨.guard, by simp, rfl⟩ _ rfl
    replace h69 := h69 _ rfl
    have HI := Lib.hid hi
    clear H F hi hL
    have kq0 : wy.cell? ⟨rb, 1, none⟩ = some (.int .u64 r.src.a) := (Whole.under HI.out HR.out (Whole.lt HR.out)).cell 1
    have kq1 : wy.cell? ⟨rb, 2, none⟩ = some (.int .u64 r.src.b) := (Whole.under HI.out HR.out (Whole.lt HR.out)).cell 2
    have kq2 : wy.cell? ⟨rb, 3, none⟩ = some (.int .u64 r.src.c) := (Whole.under HI.out HR.out (Whole.lt HR.out)).cell 3
    have kq3 : wy.cell? ⟨rb, 4, none⟩ = some (.int .u64 r.src.d) := (Whole.under HI.out HR.out (Whole.lt HR.out)).cell 4
    go_wp2_with fail
    exact hK _ _ (Below.refl _ _) HI.out rfl
  · intro L a wy Q' hL hi H F hK
    try dsimp only at hi
    obtain ⟨_, h69, rfl⟩ := H 13 ⟨.guard, by simp, rfl⟩ _ rfl
    replace h69 := h69 _ rfl
    have h3 : a.tmps[3]? = some (.slice (some ⟨b, off, none⟩) m c) := F 3 rfl
    have HI := Lib.hid hi
    clear H F hi hL
    go_wp2_with fail
    exact hK _ _ (Below.refl _ _) HI.out rfl
  · intro L a wy Q' hL hi H F hK
    try dsimp only at hi
    obtain ⟨_, h69, rfl⟩ := H 13 ⟨.guard, by simp, rfl⟩ _ rfl
    replace h69 := h69 _ rfl
    have h5 : a.tmps[5]? = some (.int .i64 (i : Int)) := F 5 rfl
    have HI := Lib.hid hi
    clear H F hi hL
    go_wp2_with fail
    exact hK _ _ (Below.refl _ _) HI.out rfl
  · intro L a wy Q' hL hi H F hK
    try dsimp only at hi
    obtain ⟨_, h72, rfl⟩ := H 16 ⟨.data, by simp, rfl⟩ _ rfl
    replace h72 := h72 _ rfl
    obtain ⟨_, h73, rfl⟩ := H 17 ⟨.data, by simp, rfl⟩ _ rfl
    replace h73 := h73 _ rfl
    obtain ⟨_, h69, rfl⟩ := H 13 ⟨.guard, by simp, rfl⟩ _ rfl
    replace h69 := h69 _ rfl
    have HI := Lib.hid hi
    clear H F hi hL
    go_wp2_with fail
    exact hK _ _ (Below.refl _ _) HI.out rfl
  · intro L a wy Q' hL hi H F hK
    try dsimp only at hi
    obtain ⟨_, h74, rfl⟩ := H 18 ⟨.data, by simp, rfl⟩ _ rfl
    replace h74 := h74 _ rfl
    obtain ⟨_, h69, rfl⟩ := H 13 ⟨.guard, by simp, rfl⟩ _ rfl
    replace h69 := h69 _ rfl
    have HI := Lib.hid hi
    clear H F hi hL
    go_wp2_with fail
    exact hK _ _ (Below.refl _ _) HI.out rfl
  · intro L a wy Q' hL hi H F hK
    try dsimp only at hi
    obtain ⟨_, h75, rfl⟩ := H 19 ⟨.data, by simp, rfl⟩ _ rfl
    replace h75 := h75 _ rfl
    obtain ⟨_, h69, rfl⟩ := H 13 ⟨.guard, by simp, rfl⟩ _ rfl
    replace h69 := h69 _ rfl
    have HI := Lib.hid hi
    clear H F hi hL
    have kq : wy.cell? ⟨b, off + i * 7, none⟩ = some (.int .i64 x.src) := cell_later HI.out (HE.out 0 _ rfl)
    go_wp2_with fail
    exact hK _ _ (Below.refl _ _) HI.out rfl
  · intro L a wy Q' hL hi H F hK
    try dsimp only at hi
    obtain ⟨_, h71, rfl⟩ := H 15 ⟨.data, by simp, rfl⟩ _ rfl
    replace h71 := h71 _ rfl
    obtain ⟨_, h76, rfl⟩ := H 20 ⟨.data, by simp, rfl⟩ _ rfl
    replace h76 := h76 _ rfl
    obtain ⟨_, h69, rfl⟩ := H 13 ⟨.guard, by simp, rfl⟩ _ rfl
    replace h69 := h69 _ rfl
    have HI := Lib.hid hi
    clear H F hi hL
    have HK := Lib.hid hK
    clear hK
    go_wp2_with (go_at_call 28; go_must (refine (HH.out wy).mono ?_; rintro e w1 ⟨rfl, hb1⟩))
    exact HK.out _ _ hb1 (HI.out.trans (hb1.mono HI.out.size)) rfl
  · intro L a wy Q' hL hi H F hK
    try dsimp only at hi
    obtain ⟨_, h69, rfl⟩ := H 13 ⟨.data, by simp, rfl⟩ _ rfl
    replace h69 := h69 _ rfl
    obtain ⟨_, h77, rfl⟩ := H 21 ⟨.data, by simp, rfl⟩ _ rfl
    replace h77 := h77 _ rfl
    have HI := Lib.hid hi
    clear H F hi hL
    go_wp2_with fail
    exact hK _ _ (Below.refl _ _) HI.out rfl
  · intro L a wy Q' hL hi H F hK
    try dsimp only at hi
    obtain ⟨_, h78, rfl⟩ := H 22 ⟨.data, by simp, rfl⟩ _ rfl
    replace h78 := h78 _ rfl
    have HI := Lib.hid hi
    clear H F hi hL
    go_wp2_with fail
    exact hK _ _ (Below.refl _ _) HI.out rfl
  · intro L a wy Q' hL hi H F hK
    try dsimp only at hi
    obtain ⟨_, h79, rfl⟩ := H 23 ⟨.guard, by simp, rfl⟩ _ rfl
    replace h79 := h79 _ rfl
    have h9 : a.tmps[9]? = some (.bool p) := F 9 rfl
    have HI := Lib.hid hi
    clear H F hi hL
    go_wp2_with fail
    exact hK _ _ (Below.refl _ _) HI.out rfl
  · intro a wy L hl hi hL Q' hK
    try dsimp only at hi
    have HB := Lib.hid hi
    clear hi hL
    obtain ⟨_, rfl, _, rfl, _, rfl, _, rfl, _, rfl, _, rfl, _, rfl, _, rfl, _, rfl, _, rfl, _, rfl, _, rfl, _, rfl, _, rfl, _, rfl, _, rfl, _, rfl, _, rfl, _, rfl, _, rfl, _, rfl, _, rfl, _, rfl, _, rfl, _, rfl, rfl⟩ := hl
    simp only [List.setIfInBounds_toArray, List.set_cons_zero, List.set_cons_succ]
    go_wp2_with fail
    exact HEND.out _ _ _ _ _ _ _ _ _ _ _ _ _ _ _ _ _ _ _ _ _ _ _ _ _ _ HB.out
end Go.Proofs.YtmkfabdkadocdaaDoor

/-
  The reference's Never.
-/
namespace Go.Proofs.YtmkfabdkadocdaaDoor
open Go Go.WideMaps Go.RowKit Go.Sort

/-- Whether the targets of a rule hold those of an entry. -/
def ARule.pairB (r : ARule) (x : AEntry) : Bool := r.tgt.mem x.tgt || (r.self && decide (x.src = x.tgt))
theorem nev11_any (w : World) (pb rb b off i m c : Nat) (r : ARule) (x : AEntry) (x0 x2 x4 x6 x7 x9 x10 x11 x12 x13 x14 x15 x16 x17 x18 x19 x20 x21 x22 x23 x24 x25 x26 x27 x28 x29 x30 x31 x32 x33 x34 x35 x36 x37 x38 x39 x40 x41 x42 x43 x44 x45 x46 x47 x48 x49 x50 x51 x52 x53 x54 x55 x56 x57 x58 x59 x60 x61 x62 x63 x64 x65 x66 x67 x68 x69 x70 x71 x72 x73 x74 x75 x76 x77 x78 x79 x80 x81 x82 x83 x84 x85 x86 x87 x88 x89 x90 x91 x92 x93 x94 x95 x96 x97 x98 x99 x100 x101 x102 x103 x104 : Value) (him : i < m) (hr : r.Ok) (HR : Hid (Whole w rb 27 #[.int .i64 r.kind, .int .u64 r.src.a, .int .u64 r.src.b, .int .u64 r.src.c, .int .u64 r.src.d, .int .u64 r.tgt.a, .int .u64 r.tgt.b, .int .u64 r.tgt.c, .int .u64 r.tgt.d, .bool r.self, .int .i64 r.cls, .int .u32 r.perms, .int .i64 r.cond])) (HE : Hid (∀ j u, x.cells[j]? = some u → w.cell? ⟨b, off + i * 7 + j, none⟩ = some u))
    {Q' : Exit → Act → World → Prop} (hend : ∀ (v31 v32 v33 v34 v35 v36 v37 v38 v39 v40 v41 v42 v43 v44 v45 v46 v47 v48 v49 v50 v51 v52 v53 v54 v55 : Value) (w' : World), RowKit.Below w.heap.size w w' → Q' .normal ⟨#[x0, .pointer (some ⟨pb, 0, none⟩), x2, .slice (some ⟨b, off, none⟩) m c, x4, .int .i64 (i : Int), x6, x7, .pointer (some ⟨rb, 0, none⟩), .bool (r.pairB x), x10, x11, x12, x13, x14, x15, x16, x17, x18, x19, x20, x21, x22, x23, x24, x25, x26, x27, x28, x29, x30, v31, v32, v33, v34, v35, v36, v37, v38, v39, v40, v41, v42, v43, v44, v45, v46, v47, v48, v49, v50, v51, v52, v53, v54, v55, x56, x57, x58, x59, x60, x61, x62, x63, x64, x65, x66, x67, x68, x69, x70, x71, x72, x73, x74, x75, x76, x77, x78, x79, x80, x81, x82, x83, x84, x85, x86, x87, x88, x89, x90, x91, x92, x93, x94, x95, x96, x97, x98, x99, x100, x101, x102, x103, x104], []⟩ w') :
    Code.wp Tryd.prog (findRegion7 11 ((Tryd.f22.body).getD .skip)) Q' ⟨#[x0, .pointer (some ⟨pb, 0, none⟩), x2, .slice (some ⟨b, off, none⟩) m c, x4, .int .i64 (i : Int), x6, x7, .pointer (some ⟨rb, 0, none⟩), x9, x10, x11, x12, x13, x14, x15, x16, x17, x18, x19, x20, x21, x22, x23, x24, x25, x26, x27, x28, x29, x30, x31, x32, x33, x34, x35, x36, x37, x38, x39, x40, x41, x42, x43, x44, x45, x46, x47, x48, x49, x50, x51, x52, x53, x54, x55, x56, x57, x58, x59, x60, x61, x62, x63, x64, x65, x66, x67, x68, x69, x70, x71, x72, x73, x74, x75, x76, x77, x78, x79, x80, x81, x82, x83, x84, x85, x86, x87, x88, x89, x90, x91, x92, x93, x94, x95, x96, x97, x98, x99, x100, x101, x102, x103, x104], []⟩ w := by
  cases hm : r.tgt.mem x.tgt with
  | true =>
    have e : r.pairB x = true := by unfold ARule.pairB; simp [hm]
    rw [e] at hend
    exact nev11_t w pb rb b off i m c r x x0 x2 x4 x6 x7 x9 x10 x11 x12 x13 x14 x15 x16 x17 x18 x19 x20 x21 x22 x23 x24 x25 x26 x27 x28 x29 x30 x31 x32 x33 x34 x35 x36 x37 x38 x39 x40 x41 x42 x43 x44 x45 x46 x47 x48 x49 x50 x51 x52 x53 x54 x55 x56 x57 x58 x59 x60 x61 x62 x63 x64 x65 x66 x67 x68 x69 x70 x71 x72 x73 x74 x75 x76 x77 x78 x79 x80 x81 x82 x83 x84 x85 x86 x87 x88 x89 x90 x91 x92 x93 x94 x95 x96 x97 x98 x99 x100 x101 x102 x103 x104 him HR HE (Lib.hid fun W => by have h := rhas_any W r.tgt hr.tgt x.tgt; rw [hm] at h; exact h) hend
  | false =>
    cases hs : r.self with
    | false =>
      have e : r.pairB x = false := by unfold ARule.pairB; simp [hm, hs]
      rw [e] at hend
      exact nev11_ff w pb rb b off i m c r x x0 x2 x4 x6 x7 x9 x10 x11 x12 x13 x14 x15 x16 x17 x18 x19 x20 x21 x22 x23 x24 x25 x26 x27 x28 x29 x30 x31 x32 x33 x34 x35 x36 x37 x38 x39 x40 x41 x42 x43 x44 x45 x46 x47 x48 x49 x50 x51 x52 x53 x54 x55 x56 x57 x58 x59 x60 x61 x62 x63 x64 x65 x66 x67 x68 x69 x70 x71 x72 x73 x74 x75 x76 x77 x78 x79 x80 x81 x82 x83 x84 x85 x86 x87 x88 x89 x90 x91 x92 x93 x94 x95 x96 x97 x98 x99 x100 x101 x102 x103 x104 him (Lib.hid (by have h := HR.out; rw [hs] at h; exact h)) HE (Lib.hid fun W => by have h := rhas_any W r.tgt hr.tgt x.tgt; rw [hm] at h; exact h) hend
    | true =>
      by_cases he : x.src = x.tgt
      · have e : r.pairB x = true := by unfold ARule.pairB; simp [hm, hs, he]
        rw [e] at hend
        exact nev11_ft w pb rb b off i m c r x x0 x2 x4 x6 x7 x9 x10 x11 x12 x13 x14 x15 x16 x17 x18 x19 x20 x21 x22 x23 x24 x25 x26 x27 x28 x29 x30 x31 x32 x33 x34 x35 x36 x37 x38 x39 x40 x41 x42 x43 x44 x45 x46 x47 x48 x49 x50 x51 x52 x53 x54 x55 x56 x57 x58 x59 x60 x61 x62 x63 x64 x65 x66 x67 x68 x69 x70 x71 x72 x73 x74 x75 x76 x77 x78 x79 x80 x81 x82 x83 x84 x85 x86 x87 x88 x89 x90 x91 x92 x93 x94 x95 x96 x97 x98 x99 x100 x101 x102 x103 x104 him (Lib.hid (by have h := HR.out; rw [hs] at h; exact h)) HE (Lib.hid fun W => by have h := rhas_any W r.tgt hr.tgt x.tgt; rw [hm] at h; exact h) (by simp [he]) hend
      · have e : r.pairB x = false := by unfold ARule.pairB; simp [hm, hs, he]
        rw [e] at hend
        exact nev11_fn w pb rb b off i m c r x x0 x2 x4 x6 x7 x9 x10 x11 x12 x13 x14 x15 x16 x17 x18 x19 x20 x21 x22 x23 x24 x25 x26 x27 x28 x29 x30 x31 x32 x33 x34 x35 x36 x37 x38 x39 x40 x41 x42 x43 x44 x45 x46 x47 x48 x49 x50 x51 x52 x53 x54 x55 x56 x57 x58 x59 x60 x61 x62 x63 x64 x65 x66 x67 x68 x69 x70 x71 x72 x73 x74 x75 x76 x77 x78 x79 x80 x81 x82 x83 x84 x85 x86 x87 x88 x89 x90 x91 x92 x93 x94 x95 x96 x97 x98 x99 x100 x101 x102 x103 x104 him (Lib.hid (by have h := HR.out; rw [hs] at h; exact h)) HE (Lib.hid fun W => by have h := rhas_any W r.tgt hr.tgt x.tgt; rw [hm] at h; exact h) (by simp [he]) hend
theorem nev12_any (w : World) (pb rb b off i m c : Nat) (r : ARule) (x : AEntry) (p : Bool) (x0 x2 x4 x6 x7 x10 x11 x12 x13 x14 x15 x16 x17 x18 x19 x20 x21 x22 x23 x24 x25 x26 x27 x28 x29 x30 x31 x32 x33 x34 x35 x36 x37 x38 x39 x40 x41 x42 x43 x44 x45 x46 x47 x48 x49 x50 x51 x52 x53 x54 x55 x56 x57 x58 x59 x60 x61 x62 x63 x64 x65 x66 x67 x68 x69 x70 x71 x72 x73 x74 x75 x76 x77 x78 x79 x80 x81 x82 x83 x84 x85 x86 x87 x88 x89 x90 x91 x92 x93 x94 x95 x96 x97 x98 x99 x100 x101 x102 x103 x104 : Value) (him : i < m) (hr : r.Ok) (HR : Hid (Whole w rb 27 #[.int .i64 r.kind, .int .u64 r.src.a, .int .u64 r.src.b, .int .u64 r.src.c, .int .u64 r.src.d, .int .u64 r.tgt.a, .int .u64 r.tgt.b, .int .u64 r.tgt.c, .int .u64 r.tgt.d, .bool r.self, .int .i64 r.cls, .int .u32 r.perms, .int .i64 r.cond])) (HE : Hid (∀ j u, x.cells[j]? = some u → w.cell? ⟨b, off + i * 7 + j, none⟩ = some u))
    {Q' : Exit → Act → World → Prop} (hend : ∀ (v56 v57 v58 v59 v60 v61 v62 v63 v64 v65 v66 v67 v68 v69 v70 v71 v72 v73 v74 v75 v76 v77 v78 v79 v80 : Value) (w' : World), RowKit.Below w.heap.size w w' → Q' .normal ⟨#[x0, .pointer (some ⟨pb, 0, none⟩), x2, .slice (some ⟨b, off, none⟩) m c, x4, .int .i64 (i : Int), x6, x7, .pointer (some ⟨rb, 0, none⟩), .bool p, x10, x11, x12, x13, x14, x15, x16, x17, x18, x19, x20, x21, x22, x23, x24, x25, x26, x27, x28, x29, x30, x31, x32, x33, x34, x35, x36, x37, x38, x39, x40, x41, x42, x43, x44, x45, x46, x47, x48, x49, x50, x51, x52, x53, x54, x55, v56, v57, v58, v59, v60, v61, v62, v63, v64, v65, v66, v67, v68, v69, v70, v71, v72, v73, v74, v75, v76, v77, v78, v79, v80, .bool (decide (r.kind = 4) && decide (r.cls = x.cls) && (r.src.mem x.src && p)), x82, x83, x84, x85, x86, x87, x88, x89, x90, x91, x92, x93, x94, x95, x96, x97, x98, x99, x100, x101, x102, x103, x104], []⟩ w') :
    Code.wp Tryd.prog (findRegion7 12 ((Tryd.f22.body).getD .skip)) Q' ⟨#[x0, .pointer (some ⟨pb, 0, none⟩), x2, .slice (some ⟨b, off, none⟩) m c, x4, .int .i64 (i : Int), x6, x7, .pointer (some ⟨rb, 0, none⟩), .bool p, x10, x11, x12, x13, x14, x15, x16, x17, x18, x19, x20, x21, x22, x23, x24, x25, x26, x27, x28, x29, x30, x31, x32, x33, x34, x35, x36, x37, x38, x39, x40, x41, x42, x43, x44, x45, x46, x47, x48, x49, x50, x51, x52, x53, x54, x55, x56, x57, x58, x59, x60, x61, x62, x63, x64, x65, x66, x67, x68, x69, x70, x71, x72, x73, x74, x75, x76, x77, x78, x79, x80, x81, x82, x83, x84, x85, x86, x87, x88, x89, x90, x91, x92, x93, x94, x95, x96, x97, x98, x99, x100, x101, x102, x103, x104], []⟩ w := by
  by_cases hk : r.kind = 4
  · by_cases hc : r.cls = x.cls
    · cases hm : r.src.mem x.src with
      | true =>
        rw [show (decide (r.kind = 4) && decide (r.cls = x.cls) && (r.src.mem x.src && p)) = p by simp [hk, hc, hm]] at hend
        exact nev12_ttt w pb rb b off i m c r x p x0 x2 x4 x6 x7 x10 x11 x12 x13 x14 x15 x16 x17 x18 x19 x20 x21 x22 x23 x24 x25 x26 x27 x28 x29 x30 x31 x32 x33 x34 x35 x36 x37 x38 x39 x40 x41 x42 x43 x44 x45 x46 x47 x48 x49 x50 x51 x52 x53 x54 x55 x56 x57 x58 x59 x60 x61 x62 x63 x64 x65 x66 x67 x68 x69 x70 x71 x72 x73 x74 x75 x76 x77 x78 x79 x80 x81 x82 x83 x84 x85 x86 x87 x88 x89 x90 x91 x92 x93 x94 x95 x96 x97 x98 x99 x100 x101 x102 x103 x104 him HR HE (by simp [hk]) (by simp [hc]) (Lib.hid fun W => by have h := rhas_any W r.src hr.src x.src; rw [hm] at h; exact h) hend
      | false =>
        rw [show (decide (r.kind = 4) && decide (r.cls = x.cls) && (r.src.mem x.src && p)) = false by simp [hm]] at hend
        exact nev12_ttf w pb rb b off i m c r x p x0 x2 x4 x6 x7 x10 x11 x12 x13 x14 x15 x16 x17 x18 x19 x20 x21 x22 x23 x24 x25 x26 x27 x28 x29 x30 x31 x32 x33 x34 x35 x36 x37 x38 x39 x40 x41 x42 x43 x44 x45 x46 x47 x48 x49 x50 x51 x52 x53 x54 x55 x56 x57 x58 x59 x60 x61 x62 x63 x64 x65 x66 x67 x68 x69 x70 x71 x72 x73 x74 x75 x76 x77 x78 x79 x80 x81 x82 x83 x84 x85 x86 x87 x88 x89 x90 x91 x92 x93 x94 x95 x96 x97 x98 x99 x100 x101 x102 x103 x104 him HR HE (by simp [hk]) (by simp [hc]) (Lib.hid fun W => by have h := rhas_any W r.src hr.src x.src; rw [hm] at h; exact h) hend
    · rw [show (decide (r.kind = 4) && decide (r.cls = x.cls) && (r.src.mem x.src && p)) = false by simp [hc]] at hend
      exact nev12_tf w pb rb b off i m c r x p x0 x2 x4 x6 x7 x10 x11 x12 x13 x14 x15 x16 x17 x18 x19 x20 x21 x22 x23 x24 x25 x26 x27 x28 x29 x30 x31 x32 x33 x34 x35 x36 x37 x38 x39 x40 x41 x42 x43 x44 x45 x46 x47 x48 x49 x50 x51 x52 x53 x54 x55 x56 x57 x58 x59 x60 x61 x62 x63 x64 x65 x66 x67 x68 x69 x70 x71 x72 x73 x74 x75 x76 x77 x78 x79 x80 x81 x82 x83 x84 x85 x86 x87 x88 x89 x90 x91 x92 x93 x94 x95 x96 x97 x98 x99 x100 x101 x102 x103 x104 him HR HE (by simp [hk]) (by simp [hc]) hend
  · rw [show (decide (r.kind = 4) && decide (r.cls = x.cls) && (r.src.mem x.src && p)) = false by simp [hk]] at hend
    exact nev12_f w pb rb b off i m c r x p x0 x2 x4 x6 x7 x10 x11 x12 x13 x14 x15 x16 x17 x18 x19 x20 x21 x22 x23 x24 x25 x26 x27 x28 x29 x30 x31 x32 x33 x34 x35 x36 x37 x38 x39 x40 x41 x42 x43 x44 x45 x46 x47 x48 x49 x50 x51 x52 x53 x54 x55 x56 x57 x58 x59 x60 x61 x62 x63 x64 x65 x66 x67 x68 x69 x70 x71 x72 x73 x74 x75 x76 x77 x78 x79 x80 x81 x82 x83 x84 x85 x86 x87 x88 x89 x90 x91 x92 x93 x94 x95 x96 x97 x98 x99 x100 x101 x102 x103 x104 him HR HE (by simp [hk]) hend

set_option maxRecDepth 100000 in
set_option maxHeartbeats 4000000 in
theorem refNever_any (w : World) (a0 a1 a2 a3 a4 a5 a6 a7 a8 v a10 a11 a12 a13 a14 a15 a16 : Value) (l : List ARule) (h : SliceAt w v 13 l.length (l.flatMap ARule.cells)) (hok : ∀ r ∈ l, r.Wf) (hlen : l.length ≤ 1000) :
    Calls Tryd.prog 22 #[.agg #[a0, a1, a2, a3, a4, a5, a6, a7, a8, v, a10, a11, a12, a13, a14, a15, a16]] w fun e w' => ∃ v' E, e = .returned v' ∧ Canon (accum (kvR l)) E ∧ SliceAt w' v' 7 (neverL l E).length ((neverL l E).flatMap AEntry.cells) ∧ RowKit.Below w.heap.size w w' := by
  obtain ⟨i0, z, hi0, hz0, hz1, hz2, hzs⟩ := infoOf info61
  obtain ⟨n, hn⟩ : ∃ n, n = l.length := ⟨_, rfl⟩
  obtain ⟨a, c, rfl, hc, hmx, hcell⟩ := h.form (by decide)
  have HL := Lib.hid hn
  have HC := Lib.hid (And.intro hcell hc)
  have HOK := Lib.hid hok
  have hlen' := hlen
  rw [← hn] at hlen' hmx hc
  obtain ⟨wo, hwo⟩ : ∃ wo, wo = w.alloc (.cells #[a0, a1, a2, a3, a4, a5, a6, a7, a8, .slice a n c, a10, a11, a12, a13, a14, a15, a16] 50) := ⟨_, rfl⟩
  have HWO := Lib.hid (show RowKit.Below w.heap.size w wo by rw [hwo]; exact (Below.refl _ w).alloc (Nat.le_refl _) _)
  have HWH := Lib.hid (show Whole wo w.heap.size 50 #[a0, a1, a2, a3, a4, a5, a6, a7, a8, .slice a n c, a10, a11, a12, a13, a14, a15, a16] by rw [hwo]; exact Whole.new w 50 _)
  have HC15 := Lib.hid (refEntries_any wo (a0) (a1) (a2) (a3) (a4) (a5) (a6) (a7) (a8) (.slice a n c) (a10) (a11) (a12) (a13) (a14) (a15) (a16) l (by rw [hn]; exact h.keep HWO.out) hok hlen)
  have HK9 := Lib.hid (show wo.cell? ⟨w.heap.size, 9, none⟩ = some (.slice a n c) from HWH.out.cell 9)
  simp only [← hn] at HC15 ⊢
  clear hn hcell h hok hlen
  go_enter Tryd.func22, Tryd.ntmps22
  go_upto_region 1 with fail
  rw [← hwo]
  clear hwo
  go_wp2_with (first | (refine wpList_load_row rfl 50 _ rfl w.heap.size rfl 50 _ (0, 0) _ HWH.out Tryd.underlying50 rfl size50 ?_) | (go_at_call 15; go_must (refine HC15.out.mono ?_; rintro e w1 ⟨v1, E, rfl, hc1, hl1, hs1, hb1⟩; obtain ⟨a1, c1, rfl, hc1', hm1, hcl1⟩ := hs1.form (by decide); have HE := Lib.hid (And.intro hc1 hcl1); have HB2 := Lib.hid hb1; have HB1 := Lib.hid (HWO.out.trans (hb1.mono HWO.out.size)); obtain ⟨m, hm⟩ : ∃ m, m = E.length := ⟨_, rfl⟩; have HEM := Lib.hid hm; rw [← hm] at hl1 hc1' hm1 ⊢; clear hc1 hs1 hb1 hcl1 hm HC15 HWH)))
  go_loopw [5, 4] (fun i u wr => ∃ k : Nat, k ≤ m ∧ i = .int .i64 k ∧ wr.ownsRow w1.heap.size 61 7 u (neverL l (E.take k)).length ((neverL l (E.take k)).flatMap AEntry.cells) ∧ RowKit.Below w1.heap.size w1 wr) (fun i _ _ => m - (intOf i).toNat)
  case atStart => exact ⟨0, Nat.zero_le _, rfl, World.ownsRow_nil _ _ _ _, Below.refl _ _⟩
  case round =>
    obtain ⟨wz, rfl⟩ : ∃ wz : World, wz = wr := ⟨_, rfl⟩
    obtain ⟨i, hi', rfl, hR⟩ := hrel
    have HR := Lib.hid hR
    clear hR
    by_cases hlt : i < m
    · have hln : i < E.length := by rw [← HEM.out]; exact hlt
      obtain ⟨x, hx⟩ : ∃ x, E[i]? = some x := ⟨_, List.getElem?_eq_getElem hln⟩
      have HXI := Lib.hid hx
      obtain ⟨b, off, rfl, hcl⟩ := HE.out.2 i hln
      have HX1 := Lib.hid (show ∀ j u, x.cells[j]? = some u → w1.cell? ⟨b, off + i * 7 + j, none⟩ = some u from fun j u hu => hcl j u (by
        have hj : j < 7 := (List.getElem?_eq_some_iff.1 hu).1
        rw [flat_at entry_len hx j hj]; exact hu))
      clear hx hcl hln
      go_wp2_with fail
      go_loopw [7, 6] (fun u V wq => ∃ j : Nat, j ≤ n ∧ u = .int .i64 j ∧ V = .int .u32 (badBits (l.take j) x) ∧ RowKit.Below wz.heap.size wz wq) (fun u _ _ => n - (intOf u).toNat)
      case atStart => exact ⟨0, Nat.zero_le _, rfl, by simp [badBits], Below.refl _ _⟩
      case round =>
        obtain ⟨j, hj, rfl, rfl, hI⟩ := hrel
        have HI := Lib.hid hI
        have HB1q := Lib.hid (HR.out.2.trans (hI.mono HR.out.2.size))
        have HB2q := Lib.hid (HB2.out.trans (HB1q.out.mono HB2.out.size))
        have HBq := Lib.hid (HB1.out.trans (HB1q.out.mono HB1.out.size))
        clear hI
        have k9 : wr.cell? ⟨w.heap.size, 9, none⟩ = some (.slice a n c) := cell_later HB2q.out HK9.out
        obtain ⟨V, hV⟩ : ∃ V, V = badBits (l.take j) x := ⟨_, rfl⟩
        have HV := Lib.hid hV
        rw [← hV]
        by_cases hjl : j < n
        · have hjn : j < l.length := by rw [← HL.out]; exact hjl
          obtain ⟨r, hr⟩ : ∃ r, l[j]? = some r := ⟨_, List.getElem?_eq_getElem hjn⟩
          have HRI := Lib.hid hr
          have HRK := Lib.hid (HOK.out r (List.mem_of_getElem? hr)).ok
          obtain ⟨b2, off2, rfl, hcl⟩ := HC.out.1 j hjn
          have e0 : wr.cell? ⟨b2, off2 + j * 13, none⟩ = some (.int .i64 r.kind) := cell_later HBq.out (hcl 0 _ (by rw [flat_at rule_len hr 0 (by decide)]; rfl))
          have e1 : wr.cell? ⟨b2, off2 + j * 13 + 1, none⟩ = some (.int .u64 r.src.a) := cell_later HBq.out (hcl 1 _ (by rw [flat_at rule_len hr 1 (by decide)]; rfl))
          have e2 : wr.cell? ⟨b2, off2 + j * 13 + 2, none⟩ = some (.int .u64 r.src.b) := cell_later HBq.out (hcl 2 _ (by rw [flat_at rule_len hr 2 (by decide)]; rfl))
          have e3 : wr.cell? ⟨b2, off2 + j * 13 + 3, none⟩ = some (.int .u64 r.src.c) := cell_later HBq.out (hcl 3 _ (by rw [flat_at rule_len hr 3 (by decide)]; rfl))
          have e4 : wr.cell? ⟨b2, off2 + j * 13 + 4, none⟩ = some (.int .u64 r.src.d) := cell_later HBq.out (hcl 4 _ (by rw [flat_at rule_len hr 4 (by decide)]; rfl))
          have e5 : wr.cell? ⟨b2, off2 + j * 13 + 5, none⟩ = some (.int .u64 r.tgt.a) := cell_later HBq.out (hcl 5 _ (by rw [flat_at rule_len hr 5 (by decide)]; rfl))
          have e6 : wr.cell? ⟨b2, off2 + j * 13 + 6, none⟩ = some (.int .u64 r.tgt.b) := cell_later HBq.out (hcl 6 _ (by rw [flat_at rule_len hr 6 (by decide)]; rfl))
          have e7 : wr.cell? ⟨b2, off2 + j * 13 + 7, none⟩ = some (.int .u64 r.tgt.c) := cell_later HBq.out (hcl 7 _ (by rw [flat_at rule_len hr 7 (by decide)]; rfl))
          have e8 : wr.cell? ⟨b2, off2 + j * 13 + 8, none⟩ = some (.int .u64 r.tgt.d) := cell_later HBq.out (hcl 8 _ (by rw [flat_at rule_len hr 8 (by decide)]; rfl))
          have e9 : wr.cell? ⟨b2, off2 + j * 13 + 9, none⟩ = some (.bool r.self) := cell_later HBq.out (hcl 9 _ (by rw [flat_at rule_len hr 9 (by decide)]; rfl))
          have e10 : wr.cell? ⟨b2, off2 + j * 13 + 10, none⟩ = some (.int .i64 r.cls) := cell_later HBq.out (hcl 10 _ (by rw [flat_at rule_len hr 10 (by decide)]; rfl))
          have e11 : wr.cell? ⟨b2, off2 + j * 13 + 11, none⟩ = some (.int .u32 r.perms) := cell_later HBq.out (hcl 11 _ (by rw [flat_at rule_len hr 11 (by decide)]; rfl))
          have e12 : wr.cell? ⟨b2, off2 + j * 13 + 12, none⟩ = some (.int .i64 r.cond) := cell_later HBq.out (hcl 12 _ (by rw [flat_at rule_len hr 12 (by decide)]; rfl))
          clear hr hcl hjn hV
          go_upto_region 11 with (refine wpList_store_blk rfl 27 _ _ rfl wr.heap.size 0 (.agg #[.int .i64 r.kind, .int .u64 r.src.a, .int .u64 r.src.b, .int .u64 r.src.c, .int .u64 r.src.d, .int .u64 r.tgt.a, .int .u64 r.tgt.b, .int .u64 r.tgt.c, .int .u64 r.tgt.d, .bool r.self, .int .i64 r.cls, .int .u32 r.perms, .int .i64 r.cond]) rfl rfl 27 _ (Whole.new wr 27 _) (by simp [Value.cells]) size27 rfl ?_; intro w4 SE2 WE2; rw [splice_all _ _ (by rfl)] at WE2; have HSE2 := Lib.hid SE2; have HE2 := Lib.hid (show Whole w4 wr.heap.size 27 #[.int .i64 r.kind, .int .u64 r.src.a, .int .u64 r.src.b, .int .u64 r.src.c, .int .u64 r.src.d, .int .u64 r.tgt.a, .int .u64 r.tgt.b, .int .u64 r.tgt.c, .int .u64 r.tgt.d, .bool r.self, .int .i64 r.cls, .int .u32 r.perms, .int .i64 r.cond] from WE2); clear SE2 WE2 e0 e1 e2 e3 e4 e5 e6 e7 e8 e9 e10 e11 e12; have HB4 := Lib.hid (((Below.refl _ wr).alloc (Nat.le_refl _) _).trans (HSE2.out.below (Nat.le_refl _))))
          have HXw := Lib.hid (show ∀ j u, x.cells[j]? = some u → w4.cell? ⟨b, off + i * 7 + j, none⟩ = some u from fun j u hu => cell_later (HB1q.out.trans (HB4.out.mono HB1q.out.size)) (HX1.out j u hu))
          refine nev11_any w4 w.heap.size wr.heap.size b off i m c1 r x _ _ _ _ _ _ _ _ _ _ _ _ _ _ _ _ _ _ _ _ _ _ _ _ _ _ _ _ _ _ _ _ _ _ _ _ _ _ _ _ _ _ _ _ _ _ _ _ _ _ _ _ _ _ _ _ _ _ _ _ _ _ _ _ _ _ _ _ _ _ _ _ _ _ _ _ _ _ _ _ _ _ _ _ _ _ _ _ _ _ _ _ _ _ _ _ _ _ _ _ _ hlt HRK.out HE2 HXw ?_
          intro v31 v32 v33 v34 v35 v36 v37 v38 v39 v40 v41 v42 v43 v44 v45 v46 v47 v48 v49 v50 v51 v52 v53 v54 v55 w5 hb5
          have HE5 := Lib.hid (Whole.under hb5 HE2.out HE2.out.lt)
          have HXv := Lib.hid (show ∀ j u, x.cells[j]? = some u → w5.cell? ⟨b, off + i * 7 + j, none⟩ = some u from fun j u hu => cell_later hb5 (HXw.out j u hu))
          have HB5 := Lib.hid (HB4.out.trans (hb5.mono HB4.out.size))
          clear hb5 HE2 HXw HB4 HSE2
          obtain ⟨p, hp⟩ : ∃ p, p = r.pairB x := ⟨_, rfl⟩
          have HP := Lib.hid hp
          rw [← hp]
          clear hp
          go_upto_region 12 with fail
          refine nev12_any w5 w.heap.size wr.heap.size b off i m c1 r x p _ _ _ _ _ _ _ _ _ _ _ _ _ _ _ _ _ _ _ _ _ _ _ _ _ _ _ _ _ _ _ _ _ _ _ _ _ _ _ _ _ _ _ _ _ _ _ _ _ _ _ _ _ _ _ _ _ _ _ _ _ _ _ _ _ _ _ _ _ _ _ _ _ _ _ _ _ _ _ _ _ _ _ _ _ _ _ _ _ _ _ _ _ _ _ _ _ _ _ _ hlt HRK.out HE5 HXv ?_
          intro v56 v57 v58 v59 v60 v61 v62 v63 v64 v65 v66 v67 v68 v69 v70 v71 v72 v73 v74 v75 v76 v77 v78 v79 v80 w6 hb6
          have k11 : w6.cell? ⟨wr.heap.size, 11, none⟩ = some (.int .u32 r.perms) := (Whole.under hb6 HE5.out HE5.out.lt).cell 11
          have HB6 := Lib.hid (HI.out.trans ((HB5.out.trans (hb6.mono HB5.out.size)).mono HI.out.size))
          clear hb6 HE5 HXv HB5 k9
          obtain ⟨fb, hfb⟩ : ∃ fb, fb = (decide (r.kind = 4) && decide (r.cls = x.cls) && (r.src.mem x.src && p)) := ⟨_, rfl⟩
          have HFB := Lib.hid (show r.forb x = fb by rw [hfb, HP.out]; rfl)
          rw [← hfb]
          clear hfb
          cases fb with
          | true =>
            go_wp2_with fail
            go_roundw
            case rel => exact ⟨j + 1, by omega, by go_num, by rw [bad_next HRI.out]; unfold badStep; rw [if_pos HFB.out, ← HV.out], HB6.out⟩
            case measure => simp [intOf]; omega
          | false =>
            clear k11
            go_wp2_with fail
            go_roundw
            case rel => exact ⟨j + 1, by omega, by go_num, by rw [bad_next HRI.out]; unfold badStep; rw [if_neg (by rw [HFB.out]; simp), ← HV.out], HB6.out⟩
            case measure => simp [intOf]; omega
        · obtain rfl : j = n := by omega
          have HVT := Lib.hid (show neverBits l x = bits .and .u32 x.allow V by rw [never_bad, hV, HL.out, List.take_length])
          clear hV
          have e0 : wr.cell? ⟨b, off + i * 7, none⟩ = some (.int .i64 x.src) := cell_later HB1q.out (HX1.out 0 _ rfl)
          have e1 : wr.cell? ⟨b, off + i * 7 + 1, none⟩ = some (.int .i64 x.tgt) := cell_later HB1q.out (HX1.out 1 _ rfl)
          have e2 : wr.cell? ⟨b, off + i * 7 + 2, none⟩ = some (.int .i64 x.cls) := cell_later HB1q.out (HX1.out 2 _ rfl)
          have e3 : wr.cell? ⟨b, off + i * 7 + 3, none⟩ = some (.int .i64 x.cond) := cell_later HB1q.out (HX1.out 3 _ rfl)
          have e4 : wr.cell? ⟨b, off + i * 7 + 4, none⟩ = some (.int .u32 x.allow) := cell_later HB1q.out (HX1.out 4 _ rfl)
          have e5 : wr.cell? ⟨b, off + i * 7 + 5, none⟩ = some (.int .u32 x.audit) := cell_later HB1q.out (HX1.out 5 _ rfl)
          have e6 : wr.cell? ⟨b, off + i * 7 + 6, none⟩ = some (.int .u32 x.dont) := cell_later HB1q.out (HX1.out 6 _ rfl)
          by_cases hz : bits .and .u32 x.allow V = 0
          · have hn0 : (bits .and .u32 x.allow V != 0) = false := by simp [hz]
            have HZ := Lib.hid hz
            clear hz
            go_wp2_with (first | (refine wpList_store_blk rfl 61 _ _ rfl wr.heap.size 0 (.agg #[.int .i64 x.src, .int .i64 x.tgt, .int .i64 x.cls, .int .i64 x.cond, .int .u32 x.allow, .int .u32 x.audit, .int .u32 x.dont]) rfl rfl 61 _ (Whole.new wr 61 _) (by simp [Value.cells]) size61 rfl ?_; intro w4 SE1 WE1; rw [splice_all _ _ (by rfl)] at WE1; have HSE1 := Lib.hid SE1; have HE1 := Lib.hid (show Whole w4 wr.heap.size 61 #[.int .i64 x.src, .int .i64 x.tgt, .int .i64 x.cls, .int .i64 x.cond, .int .u32 x.allow, .int .u32 x.audit, .int .u32 x.dont] from WE1); clear SE1 WE1 e0 e1 e2 e3 e4 e5 e6; have HB4 := Lib.hid (((Below.refl _ wr).alloc (Nat.le_refl _) _).trans (HSE1.out.below (Nat.le_refl _))); have k4 : w4.cell? ⟨wr.heap.size, 4, none⟩ = some (.int .u32 x.allow) := HE1.out.cell 4) | (have hZ := HE1; clear hZ; refine wpList_store_blk rfl 25 _ _ rfl wr.heap.size 4 (.int .u32 (bits .and .u32 x.allow V)) rfl rfl 61 _ HE1.out (by simp [Value.cells]) size25 rfl ?_; intro w5 S9 W9; have HS5 := Lib.hid S9; have HE5 := Lib.hid (show Whole w5 wr.heap.size 61 #[.int .i64 x.src, .int .i64 x.tgt, .int .i64 x.cls, .int .i64 x.cond, .int .u32 (bits .and .u32 x.allow V), .int .u32 x.audit, .int .u32 x.dont] from W9); clear S9 W9 HE1; clear k4) | (have hZ := HE5; clear hZ; refine wpList_store_blk rfl 25 _ _ rfl wr.heap.size 5 (.int .u32 0) rfl rfl 61 _ HE5.out (by simp [Value.cells]) size25 rfl ?_; intro w6 S9 W9; have HS6 := Lib.hid S9; have HE6 := Lib.hid (show Whole w6 wr.heap.size 61 #[.int .i64 x.src, .int .i64 x.tgt, .int .i64 x.cls, .int .i64 x.cond, .int .u32 (bits .and .u32 x.allow V), .int .u32 0, .int .u32 x.dont] from W9); clear S9 W9 HE5; skip) | (have hZ := HE6; clear hZ; refine wpList_store_blk rfl 25 _ _ rfl wr.heap.size 6 (.int .u32 0) rfl rfl 61 _ HE6.out (by simp [Value.cells]) size25 rfl ?_; intro w7 S9 W9; have HS7 := Lib.hid S9; have HE7 := Lib.hid (show Whole w7 wr.heap.size 61 #[.int .i64 x.src, .int .i64 x.tgt, .int .i64 x.cls, .int .i64 x.cond, .int .u32 (bits .and .u32 x.allow V), .int .u32 0, .int .u32 0] from W9); clear S9 W9 HE6; have k4 : w7.cell? ⟨wr.heap.size, 4, none⟩ = some (.int .u32 (bits .and .u32 x.allow V)) := HE7.out.cell 4; have HB7 := Lib.hid (((HB4.out.trans (HS5.out.below (Nat.le_refl _))).trans (HS6.out.below (Nat.le_refl _))).trans (HS7.out.below (Nat.le_refl _))); clear HB4 HS5 HS6 HS7))
            go_roundw
            case rel => exact ⟨i + 1, by omega, by go_num, by rw [neverL_next HXI.out, if_pos (by rw [HVT.out]; exact HZ.out), List.append_nil]; exact own_keep HB7.out (own_keep HI.out HR.out.1 (Nat.le_refl _)) (Nat.le_refl _), HB1q.out.trans (HB7.out.mono HB1q.out.size)⟩
            case measure => simp [intOf]; omega
          · have hn0 : (bits .and .u32 x.allow V != 0) = true := by simp [hz]
            have HZ := Lib.hid hz
            clear hz
            have HOWN := Lib.hid (own_keep HI.out HR.out.1 (Nat.le_refl _))
            have HSM := Lib.hid (show (neverL l (E.take i)).length ≤ 65536000 from Nat.le_trans (neverL_len _ _) (Nat.le_trans (List.length_take_le' _ _) (by rw [← HEM.out]; exact hl1)))
            go_wp2_with (first | (refine wpList_store_blk rfl 61 _ _ rfl wr.heap.size 0 (.agg #[.int .i64 x.src, .int .i64 x.tgt, .int .i64 x.cls, .int .i64 x.cond, .int .u32 x.allow, .int .u32 x.audit, .int .u32 x.dont]) rfl rfl 61 _ (Whole.new wr 61 _) (by simp [Value.cells]) size61 rfl ?_; intro w4 SE1 WE1; rw [splice_all _ _ (by rfl)] at WE1; have HSE1 := Lib.hid SE1; have HE1 := Lib.hid (show Whole w4 wr.heap.size 61 #[.int .i64 x.src, .int .i64 x.tgt, .int .i64 x.cls, .int .i64 x.cond, .int .u32 x.allow, .int .u32 x.audit, .int .u32 x.dont] from WE1); clear SE1 WE1 e0 e1 e2 e3 e4 e5 e6; have HB4 := Lib.hid (((Below.refl _ wr).alloc (Nat.le_refl _) _).trans (HSE1.out.below (Nat.le_refl _))); have k4 : w4.cell? ⟨wr.heap.size, 4, none⟩ = some (.int .u32 x.allow) := HE1.out.cell 4) | (have hZ := HE1; clear hZ; refine wpList_store_blk rfl 25 _ _ rfl wr.heap.size 4 (.int .u32 (bits .and .u32 x.allow V)) rfl rfl 61 _ HE1.out (by simp [Value.cells]) size25 rfl ?_; intro w5 S9 W9; have HS5 := Lib.hid S9; have HE5 := Lib.hid (show Whole w5 wr.heap.size 61 #[.int .i64 x.src, .int .i64 x.tgt, .int .i64 x.cls, .int .i64 x.cond, .int .u32 (bits .and .u32 x.allow V), .int .u32 x.audit, .int .u32 x.dont] from W9); clear S9 W9 HE1; clear k4) | (have hZ := HE5; clear hZ; refine wpList_store_blk rfl 25 _ _ rfl wr.heap.size 5 (.int .u32 0) rfl rfl 61 _ HE5.out (by simp [Value.cells]) size25 rfl ?_; intro w6 S9 W9; have HS6 := Lib.hid S9; have HE6 := Lib.hid (show Whole w6 wr.heap.size 61 #[.int .i64 x.src, .int .i64 x.tgt, .int .i64 x.cls, .int .i64 x.cond, .int .u32 (bits .and .u32 x.allow V), .int .u32 0, .int .u32 x.dont] from W9); clear S9 W9 HE5; skip) | (have hZ := HE6; clear hZ; refine wpList_store_blk rfl 25 _ _ rfl wr.heap.size 6 (.int .u32 0) rfl rfl 61 _ HE6.out (by simp [Value.cells]) size25 rfl ?_; intro w7 S9 W9; have HS7 := Lib.hid S9; have HE7 := Lib.hid (show Whole w7 wr.heap.size 61 #[.int .i64 x.src, .int .i64 x.tgt, .int .i64 x.cls, .int .i64 x.cond, .int .u32 (bits .and .u32 x.allow V), .int .u32 0, .int .u32 0] from W9); clear S9 W9 HE6; have k4 : w7.cell? ⟨wr.heap.size, 4, none⟩ = some (.int .u32 (bits .and .u32 x.allow V)) := HE7.out.cell 4; have HB7 := Lib.hid (((HB4.out.trans (HS5.out.below (Nat.le_refl _))).trans (HS6.out.below (Nat.le_refl _))).trans (HS7.out.below (Nat.le_refl _))); clear HB4 HS5 HS6 HS7) | (have hZ := HE7; clear hZ; refine wpList_load_row rfl 61 _ rfl wr.heap.size rfl 61 _ (0, 0) _ HE7.out Tryd.underlying61 rfl size61 ?_) | (have hZ := HE7; clear hZ; at_builtin; go_must (refine wpList_append_own _ rfl _ _ 52 rfl w1.heap.size 61 i0 z 7 48 Tryd.underlying52 hi0 hz0 hz1 hz2 hzs (by decide) _ _ _ rfl (own_alloc (own_keep HB7.out HOWN.out (Nat.le_refl _)) _) ⟨w7.heap.size, 0, none⟩ 1 1 [.int .i64 x.src, .int .i64 x.tgt, .int .i64 x.cls, .int .i64 x.cond, .int .u32 (bits .and .u32 x.allow V), .int .u32 0, .int .u32 0] rfl rfl (row_new _ _ _) ?c2 ?c3 ?c4 ?c5 ?_)))
            case c2 => simp [Value.oneCell']
            case c3 => have := HSM.out; unfold maxLen; omega
            case c4 => have := HSM.out; omega
            case c5 => have := HB1q.out.size; have := HB7.out.size; simp; omega
            intro v' w9 hown' hgrow hnil
            have HB9 := Lib.hid (((HB1q.out.trans (HB7.out.mono HB1q.out.size)).alloc (by have := HB1q.out.size; have := HB7.out.size; omega) _).grown hgrow (by have := HB1q.out.size; have := HB7.out.size; simp; omega) (fun q hq => (HOWN.out.lt q hq).1))
            have HOWN9 := Lib.hid hown'
            clear hgrow hnil hown'
            go_wp2
            go_roundw
            case rel => exact ⟨i + 1, by omega, by go_num, by
              rw [neverL_next HXI.out, if_neg (by rw [HVT.out]; exact HZ.out), List.length_append, List.flatMap_append, HVT.out]
              simpa [neverE, AEntry.cells] using HOWN9.out, HB9.out⟩
            case measure => simp [intOf]; omega
    · obtain rfl : i = m := by omega
      go_wp2_with fail
      go_ret
      refine ⟨_, E, rfl, HE.out.1, ?_, HB1.out.trans (HR.out.2.mono HB1.out.size)⟩
      have h := SliceAt.of_own HR.out.1 (ecells_one _)
      rwa [HEM.out, List.take_length] at h
end Go.Proofs.YtmkfabdkadocdaaDoor

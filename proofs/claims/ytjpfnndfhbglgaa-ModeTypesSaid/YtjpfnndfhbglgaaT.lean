import Derived.WalkKit
import Derived.WalkSpells
import Derived.WalkLawsBesides
import Derived.Handy
import Derived.BigQuiet
import Derived.Outline
import Derived.Deep.RegionHeld3
import Derived.Deep.DeepCutAuto
import Derived.Deep.DeepMust
import Derived.Lib.Hide
import Derived.Deep.RegionWith
import Derived.Test.YtjpfnndfhbglgaaA
import Derived.Test.YtjpfnndfhbglgaaB
import Derived.Test.YtjpfnndfhbglgaaW
import Derived.Test.YtjpfnndfhbglgaaK
import Derived.Test.YtjpfnndfhbglgaaP3
/-
  HOW A POLICY IS READ; plain facts on the types of With.
-/
namespace Go.Proofs.Ytjpfnndfhbglgaa
open Go.RowKit

theorem cOf67 : Try.prog.cellsOf 67 = 2 := by kernel_rfl
theorem bOf67 : Try.prog.bytesOf 67 = 40 := by kernel_rfl
theorem cOf62 : Try.prog.cellsOf 62 = 3 := by kernel_rfl
theorem bOf62 : Try.prog.bytesOf 62 = 48 := by kernel_rfl
theorem cOf74 : Try.prog.cellsOf 74 = 5 := by kernel_rfl
theorem bOf74 : Try.prog.bytesOf 74 = 48 := by kernel_rfl
theorem cOf78 : Try.prog.cellsOf 78 = 9 := by kernel_rfl
theorem bOf78 : Try.prog.bytesOf 78 = 80 := by kernel_rfl
theorem cOf85 : Try.prog.cellsOf 85 = 11 := by kernel_rfl
theorem bOf85 : Try.prog.bytesOf 85 = 96 := by kernel_rfl
theorem cOf88 : Try.prog.cellsOf 88 = 2 := by kernel_rfl
theorem bOf88 : Try.prog.bytesOf 88 = 24 := by kernel_rfl
theorem cOf95 : Try.prog.cellsOf 95 = 13 := by kernel_rfl
theorem bOf95 : Try.prog.bytesOf 95 = 104 := by kernel_rfl
theorem cOf98 : Try.prog.cellsOf 98 = 13 := by kernel_rfl
theorem bOf98 : Try.prog.bytesOf 98 = 112 := by kernel_rfl
theorem cOf101 : Try.prog.cellsOf 101 = 10 := by kernel_rfl
theorem bOf101 : Try.prog.bytesOf 101 = 80 := by kernel_rfl
theorem cOf104 : Try.prog.cellsOf 104 = 13 := by kernel_rfl
theorem bOf104 : Try.prog.bytesOf 104 = 104 := by kernel_rfl
theorem cOf107 : Try.prog.cellsOf 107 = 13 := by kernel_rfl
theorem bOf107 : Try.prog.bytesOf 107 = 128 := by kernel_rfl
theorem cOf112 : Try.prog.cellsOf 112 = 8 := by kernel_rfl
theorem bOf112 : Try.prog.bytesOf 112 = 72 := by kernel_rfl
theorem cOf115 : Try.prog.cellsOf 115 = 9 := by kernel_rfl
theorem bOf115 : Try.prog.bytesOf 115 = 80 := by kernel_rfl
theorem cOf118 : Try.prog.cellsOf 118 = 10 := by kernel_rfl
theorem bOf118 : Try.prog.bytesOf 118 = 88 := by kernel_rfl
theorem rows33 {w : World} {f : Nat} {cs : List Value} (h : Rd Try.prog w f 33 cs) : ∃ v, cs = [v] ∧ RowsAt w v 5 48 := by
  obtain ⟨f', v, rfl, rfl, es, hs, hx, hr⟩ := h.slice Try.underlying33
  rw [cOf74] at hs
  rw [bOf74] at hr
  exact ⟨v, rfl, _, _, hs, reach_le hr⟩
theorem rows34 {w : World} {f : Nat} {cs : List Value} (h : Rd Try.prog w f 34 cs) : ∃ v, cs = [v] ∧ RowsAt w v 9 80 := by
  obtain ⟨f', v, rfl, rfl, es, hs, hx, hr⟩ := h.slice Try.underlying34
  rw [cOf78] at hs
  rw [bOf78] at hr
  exact ⟨v, rfl, _, _, hs, reach_le hr⟩
theorem rows35 {w : World} {f : Nat} {cs : List Value} (h : Rd Try.prog w f 35 cs) : ∃ v, cs = [v] ∧ RowsAt w v 11 96 := by
  obtain ⟨f', v, rfl, rfl, es, hs, hx, hr⟩ := h.slice Try.underlying35
  rw [cOf85] at hs
  rw [bOf85] at hr
  exact ⟨v, rfl, _, _, hs, reach_le hr⟩
theorem rows36 {w : World} {f : Nat} {cs : List Value} (h : Rd Try.prog w f 36 cs) : ∃ v, cs = [v] ∧ RowsAt w v 2 24 := by
  obtain ⟨f', v, rfl, rfl, es, hs, hx, hr⟩ := h.slice Try.underlying36
  rw [cOf88] at hs
  rw [bOf88] at hr
  exact ⟨v, rfl, _, _, hs, reach_le hr⟩
theorem rows39 {w : World} {f : Nat} {cs : List Value} (h : Rd Try.prog w f 39 cs) : ∃ v, cs = [v] ∧ RowsAt w v 13 104 := by
  obtain ⟨f', v, rfl, rfl, es, hs, hx, hr⟩ := h.slice Try.underlying39
  rw [cOf95] at hs
  rw [bOf95] at hr
  exact ⟨v, rfl, _, _, hs, reach_le hr⟩
theorem rows40 {w : World} {f : Nat} {cs : List Value} (h : Rd Try.prog w f 40 cs) : ∃ v, cs = [v] ∧ RowsAt w v 13 112 := by
  obtain ⟨f', v, rfl, rfl, es, hs, hx, hr⟩ := h.slice Try.underlying40
  rw [cOf98] at hs
  rw [bOf98] at hr
  exact ⟨v, rfl, _, _, hs, reach_le hr⟩
theorem rows41 {w : World} {f : Nat} {cs : List Value} (h : Rd Try.prog w f 41 cs) : ∃ v, cs = [v] ∧ RowsAt w v 10 80 := by
  obtain ⟨f', v, rfl, rfl, es, hs, hx, hr⟩ := h.slice Try.underlying41
  rw [cOf101] at hs
  rw [bOf101] at hr
  exact ⟨v, rfl, _, _, hs, reach_le hr⟩
theorem rows42 {w : World} {f : Nat} {cs : List Value} (h : Rd Try.prog w f 42 cs) : ∃ v, cs = [v] ∧ RowsAt w v 13 104 := by
  obtain ⟨f', v, rfl, rfl, es, hs, hx, hr⟩ := h.slice Try.underlying42
  rw [cOf104] at hs
  rw [bOf104] at hr
  exact ⟨v, rfl, _, _, hs, reach_le hr⟩
theorem rows44 {w : World} {f : Nat} {cs : List Value} (h : Rd Try.prog w f 44 cs) : ∃ v, cs = [v] ∧ RowsAt w v 8 72 := by
  obtain ⟨f', v, rfl, rfl, es, hs, hx, hr⟩ := h.slice Try.underlying44
  rw [cOf112] at hs
  rw [bOf112] at hr
  exact ⟨v, rfl, _, _, hs, reach_le hr⟩
theorem rows45 {w : World} {f : Nat} {cs : List Value} (h : Rd Try.prog w f 45 cs) : ∃ v, cs = [v] ∧ RowsAt w v 9 80 := by
  obtain ⟨f', v, rfl, rfl, es, hs, hx, hr⟩ := h.slice Try.underlying45
  rw [cOf115] at hs
  rw [bOf115] at hr
  exact ⟨v, rfl, _, _, hs, reach_le hr⟩
theorem rows46 {w : World} {f : Nat} {cs : List Value} (h : Rd Try.prog w f 46 cs) : ∃ v, cs = [v] ∧ RowsAt w v 10 88 := by
  obtain ⟨f', v, rfl, rfl, es, hs, hx, hr⟩ := h.slice Try.underlying46
  rw [cOf118] at hs
  rw [bOf118] at hr
  exact ⟨v, rfl, _, _, hs, reach_le hr⟩
theorem rows37 {w : World} {f : Nat} {cs : List Value} (h : Rd Try.prog w f 37 cs) : ∃ v, cs = [v] ∧ RowsAt w v 1 16 := by
  obtain ⟨v, n, ns, rfl, hs, hr⟩ := strs_open h
  exact ⟨v, rfl, _, _, hs, hr⟩
set_option maxRecDepth 100000 in
theorem cls31 {w : World} {f : Nat} {cs : List Value} (h : Rd Try.prog w f 31 cs) : ∃ v, cs = [v] ∧ ClsAt w v := by
  obtain ⟨f', v, rfl, rfl, es, hs, hx, hr⟩ := h.slice Try.underlying31
  rw [cOf67] at hs hx
  rw [bOf67] at hr
  refine ⟨v, rfl, es, hs, reach_le hr, fun x hx1 => ?_⟩
  obtain ⟨f'', rfl, hq⟩ := (hx x hx1).2.struct Try.underlying67
  obtain ⟨c0, _, rfl, -, r0, c1, _, rfl, -, r1, hn⟩ := hq
  obtain rfl : _ = [] := hn
  obtain ⟨s, rfl, _⟩ := r0.string Try.underlying9
  obtain ⟨u, rfl, hu⟩ := rows37 r1
  exact ⟨s, u, rfl, hu⟩
theorem exps38 {w : World} {f : Nat} {cs : List Value} (h : Rd Try.prog w f 38 cs) : ∃ v, cs = [v] ∧ ExpsAt w v := by
  obtain ⟨f', v, rfl, rfl, es, hs, hx, hr⟩ := h.slice Try.underlying38
  rw [cellsOf91] at hs hx
  rw [bytesOf91] at hr
  exact ⟨v, rfl, es, hs, reach_le hr, fun x hx1 => ⟨_, (hx x hx1).2⟩⟩
set_option maxRecDepth 100000 in
theorem cons43 {w : World} {f : Nat} {cs : List Value} (h : Rd Try.prog w f 43 cs) : ∃ v, cs = [v] ∧ ConsAt w v := by
  obtain ⟨f', v, rfl, rfl, es, hs, hx, hr⟩ := h.slice Try.underlying43
  rw [cOf107] at hs hx
  rw [bOf107] at hr
  refine ⟨v, rfl, es, hs, reach_le hr, fun x hx1 => ?_⟩
  obtain ⟨f'', rfl, hq⟩ := (hx x hx1).2.struct Try.underlying107
  obtain ⟨c0, _, rfl, -, r0, c1, _, rfl, -, r1, c2, _, rfl, -, r2, c3, _, rfl, -, r3, hn⟩ := hq
  obtain rfl : _ = [] := hn
  obtain ⟨c, rfl, _⟩ := r0.int Try.underlying3
  obtain ⟨p, rfl, _⟩ := r1.int Try.underlying22
  obtain ⟨b, rfl⟩ := r2.bool Try.underlying4
  exact ⟨c, p, b, c3, by simp, _, r3⟩
set_option maxRecDepth 100000 in
theorem tys_list {w : World} : ∀ (es : List (List Value)), (∀ x ∈ es, ∃ f, Rd Try.prog w f 62 x) → ∃ l : List Ty, es = l.map Ty.cells ∧ ∀ t ∈ l, RowsAt w t.al 1 16
  | [], _ => ⟨[], rfl, by simp⟩
  | x :: es, h => by
    obtain ⟨l, rfl, hl⟩ := tys_list es fun y hy => h y (by simp [hy])
    obtain ⟨f, hx⟩ := h x (by simp)
    obtain ⟨f'', rfl, hq⟩ := hx.struct Try.underlying62
    obtain ⟨c0, _, rfl, -, r0, c1, _, rfl, -, r1, c2, _, rfl, -, r2, hn⟩ := hq
    obtain rfl : _ = [] := hn
    obtain ⟨s, rfl, _⟩ := r0.string Try.underlying9
    obtain ⟨v, rfl, n, ns, hv, hb⟩ := rows37 r1
    obtain ⟨b, rfl⟩ := r2.bool Try.underlying4
    obtain ⟨a, c, rfl⟩ := hv.shape
    refine ⟨⟨s, a, n, c, b⟩ :: l, rfl, fun t ht => ?_⟩
    rcases List.mem_cons.1 ht with rfl | ht
    · exact ⟨n, ns, hv, hb⟩
    · exact hl t ht
theorem tys32 {w : World} {f : Nat} {cs : List Value} (h : Rd Try.prog w f 32 cs) : ∃ v l, cs = [v] ∧ TysAt w v l := by
  obtain ⟨f', v, rfl, rfl, es, hs, hx, hr⟩ := h.slice Try.underlying32
  rw [cOf62] at hs
  rw [bOf62] at hr
  obtain ⟨l, rfl, hl⟩ := tys_list es fun x hx1 => ⟨_, (hx x hx1).2⟩
  rw [List.length_map] at hs hr
  refine ⟨v, l, rfl, ?_, reach_le hr, hl⟩
  simpa [tyCells, List.flatMap_def] using hs

set_option maxRecDepth 100000 in
theorem pol_open {w : World} {v : Value} (h : Arg Try.prog w 48 v) : ∃ (p : Pol) (l : List Ty), v = p.val ∧ p.At w l := by
  obtain ⟨f, cs, h, rfl⟩ := h
  rw [Try.underlying48]
  obtain ⟨f', rfl, h⟩ := h.struct Try.underlying48
  obtain ⟨c0, _, rfl, -, r0, c1, _, rfl, -, r1, c2, _, rfl, -, r2, c3, _, rfl, -, r3, c4, _, rfl, -, r4, c5, _, rfl, -, r5, c6, _, rfl, -, r6, c7, _, rfl, -, r7, c8, _, rfl, -, r8, c9, _, rfl, -, r9, c10, _, rfl, -, r10, c11, _, rfl, -, r11, c12, _, rfl, -, r12, c13, _, rfl, -, r13, c14, _, rfl, -, r14, c15, _, rfl, -, r15, c16, _, rfl, -, r16, hn⟩ := h
  obtain rfl : _ = [] := hn
  obtain ⟨v0, rfl, h0⟩ := cls31 r0
  obtain ⟨v1, l, rfl, h1⟩ := tys32 r1
  obtain ⟨v2, rfl, h2⟩ := rows33 r2
  obtain ⟨v3, rfl, h3⟩ := rows34 r3
  obtain ⟨v4, rfl, h4⟩ := rows35 r4
  obtain ⟨v5, rfl, h5⟩ := rows36 r5
  obtain ⟨v6, rfl, h6⟩ := rows37 r6
  obtain ⟨v7, rfl, h7⟩ := rows37 r7
  obtain ⟨v8, rfl, h8⟩ := exps38 r8
  obtain ⟨v9, rfl, h9⟩ := rows39 r9
  obtain ⟨v10, rfl, h10⟩ := rows40 r10
  obtain ⟨v11, rfl, h11⟩ := rows41 r11
  obtain ⟨v12, rfl, h12⟩ := rows42 r12
  obtain ⟨v13, rfl, h13⟩ := cons43 r13
  obtain ⟨v14, rfl, h14⟩ := rows44 r14
  obtain ⟨v15, rfl, h15⟩ := rows45 r15
  obtain ⟨v16, rfl, h16⟩ := rows46 r16
  exact ⟨⟨v0, v1, v2, v3, v4, v5, v6, v7, v8, v9, v10, v11, v12, v13, v14, v15, v16⟩, l, rfl, ⟨h0, h1, h2, h3, h4, h5, h6, h7, h8, h9, h10, h11, h12, h13, h14, h15, h16⟩⟩

theorem ints_list {P : Program} {w : World} {t : TypeId} (ht : P.underlying t = some (.int .i64)) : ∀ (es : List (List Value)), (∀ x ∈ es, ∃ f, Rd P w f t x) → ∃ l : List Int, es = l.map fun n => [Value.int .i64 n]
  | [], _ => ⟨[], rfl⟩
  | x :: es, h => by
    obtain ⟨l, rfl⟩ := ints_list ht es fun y hy => h y (by simp [hy])
    obtain ⟨f, hx⟩ := h x (by simp)
    obtain ⟨n, rfl, _⟩ := hx.int ht
    exact ⟨n :: l, rfl⟩
theorem flat_ints (l : List Int) : (l.map fun n => [Value.int .i64 n]).flatten = intCells l := by
  induction l with
  | nil => rfl
  | cons x l ih => simp [intCells, ih]
theorem cOf3 : Try.prog.cellsOf 3 = 1 := by kernel_rfl
set_option maxRecDepth 100000 in
theorem ints_open {w : World} {v : Value} (h : Arg Try.prog w 49 v) : ∃ zs : List Int, SliceAt w v 1 zs.length (intCells zs) := by
  obtain ⟨f, cs, h, rfl⟩ := h
  rw [Try.underlying49]
  obtain ⟨f', v, rfl, rfl, es, hs, hx, hr⟩ := h.slice Try.underlying49
  rw [cOf3] at hs
  obtain ⟨l, rfl⟩ := ints_list Try.underlying3 es fun x hx1 => ⟨_, (hx x hx1).2⟩
  rw [List.length_map, flat_ints] at hs
  exact ⟨l, hs⟩

/-! ### Plain facts -/
theorem withT_at (zs : List Int) : ∀ (k i : Nat) (l : List Ty) (b : Ty), (withT zs k l)[i]? = some b → ∃ a, l[i]? = some a ∧ b = { a with perm := hasB zs (k + i : Nat) }
  | _, _, [], _, h => by simp [withT] at h
  | k, 0, t :: l, b, h => by
    simp [withT] at h
    exact ⟨t, rfl, h.symm⟩
  | k, i + 1, t :: l, b, h => by
    obtain ⟨a, h1, h2⟩ := withT_at zs (k + 1) i l b (by simpa [withT] using h)
    refine ⟨a, by simpa using h1, ?_⟩
    rw [h2, show k + 1 + i = k + (i + 1) by omega]
theorem withRel_alike {zs : List Int} {l ls : List Ty} (h : WithRel zs l ls) : ls.length = (withT zs 0 l).length ∧ ∀ (i : Nat) (a b : Ty), ls[i]? = some a → (withT zs 0 l)[i]? = some b → a.Alike b := by
  refine ⟨h.1.trans (withT_length ..).symm, fun i a b ha hb => ?_⟩
  obtain ⟨c, hc, rfl⟩ := withT_at zs 0 i l b hb
  obtain ⟨h1, h2, h3⟩ := h.2 i c a hc ha
  exact ⟨h1, by rw [h3, Nat.zero_add], h2⟩
theorem alike_perm : ∀ (k : Nat) (a b : List Ty), a.length = b.length → (∀ (i : Nat) (x y : Ty), a[i]? = some x → b[i]? = some y → x.Alike y) → ((a.zipIdx k).filter (·.1.perm)).map (fun x => (x.2 : Int)) = ((b.zipIdx k).filter (·.1.perm)).map (fun x => (x.2 : Int))
  | _, [], [], _, _ => rfl
  | k, x :: a, y :: b, hl, h => by
    have h0 := (h 0 x y rfl rfl).perm
    have ih := alike_perm (k + 1) a b (by simpa using hl) fun i u v hu hv => h (i + 1) u v (by simpa using hu) (by simpa using hv)
    simp only [List.zipIdx_cons, List.filter_cons, h0]
    split
    · simp only [List.map_cons, ih]
    · exact ih
theorem permOf_alike {a b : List Ty} (hl : a.length = b.length) (h : ∀ (i : Nat) (x y : Ty), a[i]? = some x → b[i]? = some y → x.Alike y) : permOf a = permOf b := alike_perm 0 a b hl h
theorem mem_permOf {l : List Ty} {i : Nat} {t : Ty} (h : l[i]? = some t) : hasB (permOf l) i = t.perm := by
  have hm : ((i : Int) ∈ permOf l) ↔ t.perm = true := by
    unfold permOf
    simp only [List.mem_map, List.mem_filter]
    constructor
    · rintro ⟨⟨x, j⟩, ⟨hj, hp⟩, he⟩
      have hj' := List.mem_zipIdx_iff_getElem?.1 hj
      simp only at hj' he hp
      obtain rfl : j = i := by omega
      rw [h] at hj'
      obtain rfl := Option.some.inj hj'
      exact hp
    · intro hp
      exact ⟨(t, i), ⟨List.mem_zipIdx_iff_getElem?.2 h, hp⟩, rfl⟩
  unfold hasB
  rw [Bool.eq_iff_iff]
  simp [hm]
theorem back_alike {l ls : List Ty} (h : WithRel (permOf l) l ls) : ls.length = l.length ∧ ∀ (i : Nat) (a b : Ty), ls[i]? = some a → l[i]? = some b → a.Alike b := by
  refine ⟨h.1, fun i a b ha hb => ?_⟩
  obtain ⟨h1, h2, h3⟩ := h.2 i b a hb ha
  exact ⟨h1, by rw [h3, mem_permOf hb], h2⟩
theorem ty_one (l : List Ty) : ∀ u ∈ tyCells l, u.oneCell' = true := by
  intro u hu
  obtain ⟨t, _, ht⟩ := List.mem_flatMap.1 hu
  simp [Ty.cells, Ty.al] at ht
  rcases ht with rfl | rfl | rfl <;> rfl
end Go.Proofs.Ytjpfnndfhbglgaa

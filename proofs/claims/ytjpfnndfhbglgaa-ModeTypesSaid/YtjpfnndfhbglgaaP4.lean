import Derived.WalkKit
import Derived.WalkSpells
import Derived.WalkLawsBesides
import Derived.Handy
import Derived.BigQuiet
import Derived.Outline
import Derived.Deep.RegionHeld3
import Derived.Deep.DeepCutAuto
import Derived.Deep.DeepMust
import Derived.Lib.Hide
import Derived.Deep.RegionWith
import Derived.Test.YtjpfnndfhbglgaaA
import Derived.Test.YtjpfnndfhbglgaaB
import Derived.Test.YtjpfnndfhbglgaaW
import Derived.Test.YtjpfnndfhbglgaaK
import Derived.Test.YtjpfnndfhbglgaaT
import Derived.Test.YtjpfnndfhbglgaaS
/-
  THE LAW ModeTypes: its walk.
-/
namespace Go.Proofs.Ytjpfnndfhbglgaa
open Go.RowKit

def z17 : Array Value := #[.slice none 0 0, .slice none 0 0, .slice none 0 0, .slice none 0 0, .slice none 0 0, .slice none 0 0, .slice none 0 0, .slice none 0 0, .slice none 0 0, .slice none 0 0, .slice none 0 0, .slice none 0 0, .slice none 0 0, .slice none 0 0, .slice none 0 0, .slice none 0 0, .slice none 0 0]
def QOk (B : Nat) (p : Pol) (l : List Ty) (zs : List Int) (u : Value) (w : World) : Prop :=
  ∃ (p' : Pol) (ls : List Ty), u = p'.val ∧ p'.Sl ∧ LenEq p.c0 p'.c0 ∧ LenEq p.c9 p'.c9 ∧ LenEq p.c14 p'.c14 ∧ WithRel zs l ls ∧ w.ownsRow B 62 3 p'.c1 l.length (tyCells ls)
def ROk (B : Nat) (p : Pol) (l : List Ty) (zs : List Int) (u : Value) (w : World) : Prop :=
  ∃ v, u = ({ p with c1 := v } : Pol).val ∧ IsSl v ∧ w.ownsRow B 62 3 v l.length (tyCells (withT zs 0 l))
theorem QOk.keep {B : Nat} {p : Pol} {l : List Ty} {zs : List Int} {u : Value} {w w' : World} (h : QOk B p l zs u w) (hb : Below w.heap.size w w') : QOk B p l zs u w' :=
  let ⟨p', ls, h1, hs, h2, h3, h4, h5, h6⟩ := h
  ⟨p', ls, h1, hs, h2, h3, h4, h5, own_keep hb h6 (Nat.le_refl _)⟩
theorem QOk.sto {B : Nat} {p : Pol} {l : List Ty} {zs : List Int} {u : Value} {w w' : World} {g : Nat} {cs : Array Value} (h : QOk B p l zs u w) (S : Sto w w' g) (hg : Whole w g 48 cs) : QOk B p l zs u w' :=
  let ⟨p', ls, h1, hs, h2, h3, h4, h5, h6⟩ := h
  ⟨p', ls, h1, hs, h2, h3, h4, h5, S.own h6 (own_blk_far h6 hg (by decide))⟩
theorem ROk.keep {B : Nat} {p : Pol} {l : List Ty} {zs : List Int} {u : Value} {w w' : World} (h : ROk B p l zs u w) (hb : Below w.heap.size w w') : ROk B p l zs u w' :=
  let ⟨v, h1, hs, h6⟩ := h
  ⟨v, h1, hs, own_keep hb h6 (Nat.le_refl _)⟩
theorem ROk.sto {B : Nat} {p : Pol} {l : List Ty} {zs : List Int} {u : Value} {w w' : World} {g : Nat} {cs : Array Value} (h : ROk B p l zs u w) (S : Sto w w' g) (hg : Whole w g 48 cs) : ROk B p l zs u w' :=
  let ⟨v, h1, hs, h6⟩ := h
  ⟨v, h1, hs, S.own h6 (own_blk_far h6 hg (by decide))⟩

theorem sl_rows {w : World} {v : Value} {k b : Nat} (h : RowsAt w v k b) : IsSl v := let ⟨_, _, h1, _⟩ := h; let ⟨_, _, e⟩ := h1.shape; ⟨_, _, _, e⟩
theorem Pol.At.sl {w : World} {p : Pol} {l : List Ty} (h : p.At w l) : p.Sl := by
  refine ⟨?_, ?_, sl_rows h.s2, sl_rows h.s3, sl_rows h.s4, sl_rows h.s5, sl_rows h.s6, sl_rows h.s7, ?_, sl_rows h.s9, sl_rows h.s10, sl_rows h.s11, sl_rows h.s12, ?_, sl_rows h.s14, sl_rows h.s15, sl_rows h.s16⟩
  · obtain ⟨_, h1, _⟩ := h.s0
    obtain ⟨a, c, e⟩ := h1.shape
    exact ⟨_, _, _, e⟩
  · obtain ⟨a, c, e⟩ := h.s1.1.shape
    exact ⟨_, _, _, e⟩
  · obtain ⟨_, h1, _⟩ := h.s8
    obtain ⟨a, c, e⟩ := h1.shape
    exact ⟨_, _, _, e⟩
  · obtain ⟨_, h1, _⟩ := h.s13
    obtain ⟨a, c, e⟩ := h1.shape
    exact ⟨_, _, _, e⟩
theorem varAt_if {w : World} {B : Nat} {t : TypeId} {cs z : Array Value} {u : Value} {b : Bool} (hb : b = true) (h : VarAt B t cs u w) : VarAt B t (if b then cs else z) u w := by
  rw [if_pos hb]
  exact h
theorem own_sl {w : World} {B e k n : Nat} {v : Value} {xs : List Value} (h : w.ownsRow B e k v n xs) : IsSl v := by
  rcases h.2 with ⟨rfl, _⟩ | ⟨g, cap, cur, rfl, _⟩
  · exact ⟨_, _, _, rfl⟩
  · exact ⟨_, _, _, rfl⟩
def R3 (wo : World) (p : Pol) (z : Value) (l : List Ty) (zs : List Int) (L : Nat → Bool) (u5 u6 u18 u19 u20 u21 u22 u23 : Value) (wx : World) : Prop :=
  Below wo.heap.size wo wx ∧ (L 0 = true → u18 = p.val) ∧ (L 1 = true → u19 = z) ∧ (L 2 = true → QOk wo.heap.size p l zs u20 wx) ∧ (L 3 = true → u21 = p.val) ∧ (L 4 = true → u22 = z) ∧ (L 5 = true → ROk wo.heap.size p l zs u23 wx) ∧
  (L 6 = true → VarAt wo.heap.size 48 (if L 8 then u20.cells else z17) u5 wx) ∧ (L 7 = true → VarAt wo.heap.size 48 (if L 9 then u23.cells else z17) u6 wx) ∧ (L 6 = true → L 7 = true → u5 ≠ u6) ∧
  (L 8 = true → L 6 = true ∧ L 2 = true) ∧ (L 9 = true → L 7 = true ∧ L 5 = true)

def PermOk (l : List Ty) (u : Value) (w : World) : Prop := SliceAt w u 1 (permOf l).length (intCells (permOf l))
theorem PermOk.keep {w w' : World} {l : List Ty} {u : Value} (h : PermOk l u w) (hb : Below w.heap.size w w') : PermOk l u w' := SliceAt.keep h hb
theorem ints_true (v v' : Value) (l l' : List Int) (w : World) (h : SliceAt w v 1 l.length (intCells l)) (h' : SliceAt w v' 1 l'.length (intCells l')) (e : l = l') :
    Calls Try.prog 16 #[v, v'] w fun e w' => e = .returned (.bool true) ∧ Below w.heap.size w w' := by
  have h1 := ints_any v v' l l' w h h'
  simp only [e, decide_true] at h1
  exact h1
theorem PermOk.lasts (l : List Ty) : Lasts (PermOk l) := fun _ _ _ h hb => h.keep hb
def R4 (w3 : World) (p : Pol) (l : List Ty) (L : Nat → Bool) (u7 u24 u25 u26 u27 : Value) (wx : World) : Prop :=
  Below w3.heap.size w3 wx ∧ (L 0 = true → u24 = p.val) ∧ (L 1 = true → u25 = p.val) ∧ (L 2 = true → L 5 = false → PermOk l u26 wx) ∧ (L 3 = true → QOk w3.heap.size p l (permOf l) u27 wx) ∧
  (L 4 = true → VarAt w3.heap.size 48 (if L 5 then u27.cells else z17) u7 wx) ∧ (L 5 = true → L 4 = true ∧ L 3 = true)
set_option maxRecDepth 100000 in
set_option maxHeartbeats 1000000 in
theorem modeTypes_core (p : Pol) (l : List Ty) (z : Value) (zs : List Int) (w : World) (hp : p.At w l) (hz : SliceAt w z 1 zs.length (intCells zs)) (h300 : l.length ≤ 300) (h60 : zs.length ≤ 60) :
    Calls Try.prog 4 #[p.val, z] w fun e w' => e = .returned (.bool true) ∧ Below w.heap.size w w' := by
  have hlb := hp.s1.2.1
  have HWA := Lib.hid (fun W h1 h2 => with_any p l z zs W h1 h2)
  have hsl : p.Sl := hp.sl
  have HWB := Lib.hid (fun W u h1 h2 => with_any p l u (permOf l) W h1 h2)
  have HPM := Lib.hid (fun W h1 => permissive_any p l W h1 hlb)
  have HRM := Lib.hid (fun W h1 => rpermissive_any p l W h1 hlb)
  have HRW := Lib.hid (fun W h1 h2 => rwith_any p hsl l z zs W h1 h2 hlb)
  have hz' := hz
  obtain ⟨za, zc, rfl⟩ := hz.shape
  obtain ⟨v0, v1, v2, v3, v4, v5, v6, v7, v8, v9, v10, v11, v12, v13, v14, v15, v16⟩ := p
  obtain ⟨pa, pcap, hv1⟩ := hp.s1.1.shape
  dsimp only at hv1
  subst hv1
  obtain ⟨s0, s1, s2, s3, s4, s5, s6, s7, s8, s9, s10, s11, s12, s13, s14, s15, s16⟩ := hsl
  obtain ⟨x0, n0, k0, hx⟩ := s0; dsimp only at hx; subst hx; obtain ⟨x2, n2, k2, hx⟩ := s2; dsimp only at hx; subst hx; obtain ⟨x3, n3, k3, hx⟩ := s3; dsimp only at hx; subst hx; obtain ⟨x4, n4, k4, hx⟩ := s4; dsimp only at hx; subst hx; obtain ⟨x5, n5, k5, hx⟩ := s5; dsimp only at hx; subst hx; obtain ⟨x6, n6, k6, hx⟩ := s6; dsimp only at hx; subst hx; obtain ⟨x7, n7, k7, hx⟩ := s7; dsimp only at hx; subst hx; obtain ⟨x8, n8, k8, hx⟩ := s8; dsimp only at hx; subst hx; obtain ⟨x9, n9, k9, hx⟩ := s9; dsimp only at hx; subst hx; obtain ⟨x10, n10, k10, hx⟩ := s10; dsimp only at hx; subst hx; obtain ⟨x11, n11, k11, hx⟩ := s11; dsimp only at hx; subst hx; obtain ⟨x12, n12, k12, hx⟩ := s12; dsimp only at hx; subst hx; obtain ⟨x13, n13, k13, hx⟩ := s13; dsimp only at hx; subst hx; obtain ⟨x14, n14, k14, hx⟩ := s14; dsimp only at hx; subst hx; obtain ⟨x15, n15, k15, hx⟩ := s15; dsimp only at hx; subst hx; obtain ⟨x16, n16, k16, hx⟩ := s16; dsimp only at hx; subst hx
  unfold Pol.val
  unfold Pol.val at HWA HRW HWB HPM HRM
  dsimp only at HWA HRW HWB HPM HRM
  have hd := Whole.new w 48 #[.slice x0 n0 k0, .slice pa l.length pcap, .slice x2 n2 k2, .slice x3 n3 k3, .slice x4 n4 k4, .slice x5 n5 k5, .slice x6 n6 k6, .slice x7 n7 k7, .slice x8 n8 k8, .slice x9 n9 k9, .slice x10 n10 k10, .slice x11 n11 k11, .slice x12 n12 k12, .slice x13 n13 k13, .slice x14 n14 k14, .slice x15 n15 k15, .slice x16 n16 k16]
  have hbw : Below w.heap.size w (w.alloc (.cells #[.slice x0 n0 k0, .slice pa l.length pcap, .slice x2 n2 k2, .slice x3 n3 k3, .slice x4 n4 k4, .slice x5 n5 k5, .slice x6 n6 k6, .slice x7 n7 k7, .slice x8 n8 k8, .slice x9 n9 k9, .slice x10 n10 k10, .slice x11 n11 k11, .slice x12 n12 k12, .slice x13 n13 k13, .slice x14 n14 k14, .slice x15 n15 k15, .slice x16 n16 k16] 48)) := by go_grown
  have HPA := Lib.hid (hp.keep hbw)
  have HZ := Lib.hid (hz'.keep hbw)
  have hc1 := hd.cell 1
  have t1 : (300 : Int) < (l.length : Int) ↔ False := by simp; omega
  clear hp hz hz' hlb s1
  go_enter Try.func4, Try.ntmps4
  go_wp2_with fail
  generalize w.alloc (.cells #[.slice x0 n0 k0, .slice pa l.length pcap, .slice x2 n2 k2, .slice x3 n3 k3, .slice x4 n4 k4, .slice x5 n5 k5, .slice x6 n6 k6, .slice x7 n7 k7, .slice x8 n8 k8, .slice x9 n9 k9, .slice x10 n10 k10, .slice x11 n11 k11, .slice x12 n12 k12, .slice x13 n13 k13, .slice x14 n14 k14, .slice x15 n15 k15, .slice x16 n16 k16] 48) = wo at *
  have HP := Lib.hid hd
  have HB := Lib.hid hbw
  clear hd hbw hc1 t1
  go_cut [5, 6] (fun s5 s6 wd => ∃ (g1 g2 : Nat) (p' : Pol) (ls : List Ty) (v : Value), s5 = .pointer (some ⟨g1, 0, none⟩) ∧ s6 = .pointer (some ⟨g2, 0, none⟩) ∧ Whole wd g1 48 p'.val.cells ∧ Whole wd g2 48 ({ (⟨.slice x0 n0 k0, .slice pa l.length pcap, .slice x2 n2 k2, .slice x3 n3 k3, .slice x4 n4 k4, .slice x5 n5 k5, .slice x6 n6 k6, .slice x7 n7 k7, .slice x8 n8 k8, .slice x9 n9 k9, .slice x10 n10 k10, .slice x11 n11 k11, .slice x12 n12 k12, .slice x13 n13 k13, .slice x14 n14 k14, .slice x15 n15 k15, .slice x16 n16 k16⟩ : Pol) with c1 := v } : Pol).val.cells ∧
    LenEq (.slice x0 n0 k0) p'.c0 ∧ LenEq (.slice x9 n9 k9) p'.c9 ∧ LenEq (.slice x14 n14 k14) p'.c14 ∧ WithRel zs l ls ∧ SliceAt wd p'.c1 3 ls.length (tyCells ls) ∧ SliceAt wd v 3 (withT zs 0 l).length (tyCells (withT zs 0 l)) ∧ Below wo.heap.size wo wd)
  case first =>
    refine wp_region_slots [5, 6, 18, 19, 20, 21, 22, 23] (by kernel_rfl) (by kernel_rfl) (R3 wo ⟨.slice x0 n0 k0, .slice pa l.length pcap, .slice x2 n2 k2, .slice x3 n3 k3, .slice x4 n4 k4, .slice x5 n5 k5, .slice x6 n6 k6, .slice x7 n7 k7, .slice x8 n8 k8, .slice x9 n9 k9, .slice x10 n10 k10, .slice x11 n11 k11, .slice x12 n12 k12, .slice x13 n13 k13, .slice x14 n14 k14, .slice x15 n15 k15, .slice x16 n16 k16⟩ (.slice za zs.length zc) l zs) ?_ ⟨?_, ?_, ?_, ?_, ?_, ?_, ?_, ?_, ?_, ?_, trivial⟩ ?_
    · refine (?_ : R3 wo ⟨.slice x0 n0 k0, .slice pa l.length pcap, .slice x2 n2 k2, .slice x3 n3 k3, .slice x4 n4 k4, .slice x5 n5 k5, .slice x6 n6 k6, .slice x7 n7 k7, .slice x8 n8 k8, .slice x9 n9 k9, .slice x10 n10 k10, .slice x11 n11 k11, .slice x12 n12 k12, .slice x13 n13 k13, .slice x14 n14 k14, .slice x15 n15 k15, .slice x16 n16 k16⟩ (.slice za zs.length zc) l zs (fun _ => false) _ _ _ _ _ _ _ _ wo.drew)
      exact ⟨(Below.refl _ _).drew, (fun h => by cases h), (fun h => by cases h), (fun h => by cases h), (fun h => by cases h), (fun h => by cases h), (fun h => by cases h), (fun h => by cases h), (fun h => by cases h), (fun h => by cases h), (fun h => by cases h), (fun h => by cases h)⟩
    · rintro L a wx Q' ⟨u5, u6, u18, u19, u20, u21, u22, u23, rfl, hR⟩ hL hA hK
      have HR := Lib.hid hR
      clear hR
      simp only [List.setIfInBounds_toArray, List.set_cons_zero, List.set_cons_succ]
      have HW := Lib.hid (Whole.under HR.out.1 HP.out (Whole.lt HP.out))
      clear hA
      go_wp2_with (refine wpList_load_row_g rfl 48 _ rfl w.heap.size rfl 48 _ (0, 0) _ HW.out Try.underlying48 rfl size48 ?_)
      obtain ⟨hb, f0, f1, f2, f3, f4, f5, f6, f7, f8, f9, fx⟩ := HR.out
      refine exC_mk _ _ _ _ (by simp only [setsC, List.setIfInBounds_toArray, List.set_cons_zero, List.set_cons_succ]; rfl) ?_
      exact ⟨hb, fun _ => rfl, f1, f2, f3, f4, f5, f6, f7, f8, f9, fx⟩
    · rintro L a wx Q' ⟨u5, u6, u18, u19, u20, u21, u22, u23, rfl, hR⟩ hL hA hK
      have HR := Lib.hid hR
      clear hR
      simp only [List.setIfInBounds_toArray, List.set_cons_zero, List.set_cons_succ]
      clear hA
      go_wp2_with fail
      obtain ⟨hb, f0, f1, f2, f3, f4, f5, f6, f7, f8, f9, fx⟩ := HR.out
      refine exC_mk _ _ _ _ (by simp only [setsC, List.setIfInBounds_toArray, List.set_cons_zero, List.set_cons_succ]; rfl) ?_
      exact ⟨hb, f0, fun _ => rfl, f2, f3, f4, f5, f6, f7, f8, f9, fx⟩
    · rintro L a wx Q' ⟨u5, u6, u18, u19, u20, u21, u22, u23, rfl, hR⟩ hL hA hK
      have HR := Lib.hid hR
      clear hR
      simp only [List.setIfInBounds_toArray, List.set_cons_zero, List.set_cons_succ]
      have l0 : L 0 = true := hA ⟨0, .data⟩ (by simp) rfl
      have l1 : L 1 = true := hA ⟨1, .data⟩ (by simp) rfl
      have hu0 := HR.out.2.1 l0
      have hu1 := HR.out.2.2.1 l1
      have h8' : L 8 = false := by
        cases hx : L 8 with
        | false => rfl
        | true => rw [(HR.out.2.2.2.2.2.2.2.2.2.2.1 hx).2] at hL; cases hL
      have H8 := Lib.hid h8'
      clear h8'
      subst hu0 hu1
      clear hA
      go_wp2_with (go_at_call 13; go_must (refine (HWA.out _ (HPA.out.keep HR.out.1) (HZ.out.keep HR.out.1)).mono ?_; rintro e w1 ⟨p', ls, rfl, hsl, hg0, hg9, hg14, hrel, hown, hb1⟩; have HQ := Lib.hid (And.intro hg0 (And.intro hg9 (And.intro hg14 (And.intro hrel hown)))); clear hg0 hg9 hg14 hrel hown))
      obtain ⟨hg0, hg9, hg14, hrel, hown⟩ := HQ.out
      have h8 := H8.out
      obtain ⟨hb, f0, f1, f2, f3, f4, f5, f6, f7, f8, f9, fx⟩ := HR.out
      refine exC_mk _ _ _ _ (by simp only [setsC, List.setIfInBounds_toArray, List.set_cons_zero, List.set_cons_succ]; rfl) ?_
      exact ⟨hb.trans (hb1.mono hb.size), fun _ => rfl, fun _ => rfl, fun _ => ⟨p', ls, rfl, hsl, hg0, hg9, hg14, hrel, own_low hown hb.size⟩, f3, f4, fun h => (f5 h).keep hb1, fun h => by have h1 := f6 h; rw [h8] at h1; rw [show upd L 2 8 = false from h8]; exact h1.keep hb1, fun h => (f7 h).keep hb1, f8, fun h => ⟨(f9 h).1, rfl⟩, fx⟩
    · rintro L a wx Q' ⟨u5, u6, u18, u19, u20, u21, u22, u23, rfl, hR⟩ hL hA hK
      have HR := Lib.hid hR
      clear hR
      simp only [List.setIfInBounds_toArray, List.set_cons_zero, List.set_cons_succ]
      have HW := Lib.hid (Whole.under HR.out.1 HP.out (Whole.lt HP.out))
      clear hA
      go_wp2_with (refine wpList_load_row_g rfl 48 _ rfl w.heap.size rfl 48 _ (0, 0) _ HW.out Try.underlying48 rfl size48 ?_)
      obtain ⟨hb, f0, f1, f2, f3, f4, f5, f6, f7, f8, f9, fx⟩ := HR.out
      refine exC_mk _ _ _ _ (by simp only [setsC, List.setIfInBounds_toArray, List.set_cons_zero, List.set_cons_succ]; rfl) ?_
      exact ⟨hb, f0, f1, f2, fun _ => rfl, f4, f5, f6, f7, f8, f9, fx⟩
    · rintro L a wx Q' ⟨u5, u6, u18, u19, u20, u21, u22, u23, rfl, hR⟩ hL hA hK
      have HR := Lib.hid hR
      clear hR
      simp only [List.setIfInBounds_toArray, List.set_cons_zero, List.set_cons_succ]
      clear hA
      go_wp2_with fail
      obtain ⟨hb, f0, f1, f2, f3, f4, f5, f6, f7, f8, f9, fx⟩ := HR.out
      refine exC_mk _ _ _ _ (by simp only [setsC, List.setIfInBounds_toArray, List.set_cons_zero, List.set_cons_succ]; rfl) ?_
      exact ⟨hb, f0, f1, f2, f3, fun _ => rfl, f5, f6, f7, f8, f9, fx⟩
    · rintro L a wx Q' ⟨u5, u6, u18, u19, u20, u21, u22, u23, rfl, hR⟩ hL hA hK
      have HR := Lib.hid hR
      clear hR
      simp only [List.setIfInBounds_toArray, List.set_cons_zero, List.set_cons_succ]
      have l0 : L 3 = true := hA ⟨3, .data⟩ (by simp) rfl
      have l1 : L 4 = true := hA ⟨4, .data⟩ (by simp) rfl
      have hu0 := HR.out.2.2.2.2.1 l0
      have hu1 := HR.out.2.2.2.2.2.1 l1
      have h8' : L 9 = false := by
        cases hx : L 9 with
        | false => rfl
        | true => rw [(HR.out.2.2.2.2.2.2.2.2.2.2.2 hx).2] at hL; cases hL
      have H8 := Lib.hid h8'
      clear h8'
      subst hu0 hu1
      clear hA
      go_wp2_with (go_at_call 14; go_must (refine (HRW.out _ (HPA.out.keep HR.out.1).s1.1 (HZ.out.keep HR.out.1)).mono ?_; rintro e w1 ⟨v, rfl, hown, hb1⟩; have HQ := Lib.hid hown; clear hown))
      have hown := HQ.out
      have h8 := H8.out
      obtain ⟨hb, f0, f1, f2, f3, f4, f5, f6, f7, f8, f9, fx⟩ := HR.out
      refine exC_mk _ _ _ _ (by simp only [setsC, List.setIfInBounds_toArray, List.set_cons_zero, List.set_cons_succ]; rfl) ?_
      exact ⟨hb.trans (hb1.mono hb.size), f0, f1, fun h => (f2 h).keep hb1, fun _ => rfl, fun _ => rfl, fun _ => ⟨v, rfl, own_sl hown, own_low hown (Nat.le_trans hb.size (by omega))⟩, fun h => (f6 h).keep hb1, fun h => by have h1 := f7 h; rw [h8] at h1; rw [show upd L 5 9 = false from h8]; exact h1.keep hb1, f8, f9, fun h => ⟨(fx h).1, rfl⟩⟩
    · rintro L a wx Q' ⟨u5, u6, u18, u19, u20, u21, u22, u23, rfl, hR⟩ hL hA hK
      have HR := Lib.hid hR
      clear hR
      simp only [List.setIfInBounds_toArray, List.set_cons_zero, List.set_cons_succ]
      clear hA
      have hL6 : L 8 = false := by
        cases hx : L 8 with
        | false => rfl
        | true => rw [(HR.out.2.2.2.2.2.2.2.2.2.2.1 hx).1] at hL; cases hL
      have HL6 := Lib.hid hL6
      clear hL6 hL
      go_wp2_with fail
      obtain ⟨hb, f0, f1, f2, f3, f4, f5, f6, f7, f8, f9, fx⟩ := HR.out
      refine exC_mk _ _ _ _ (by simp only [setsC, List.setIfInBounds_toArray, List.set_cons_zero, List.set_cons_succ]; rfl) ?_
      exact ⟨hb.alloc hb.size _, f0, f1, fun h => (f2 h).keep ((Below.refl _ _).alloc (Nat.le_refl _) _), f3, f4, fun h => (f5 h).keep ((Below.refl _ _).alloc (Nat.le_refl _) _), fun _ => by rw [show upd L 6 8 = false from HL6.out]; exact VarAt.new wx 48 z17 hb.size, fun h => (f7 h).keep ((Below.refl _ _).alloc (Nat.le_refl _) _), fun _ h => Ne.symm (f7 h).ne, fun h => ⟨rfl, (f9 h).2⟩, fx⟩
    · rintro L a wx Q' ⟨u5, u6, u18, u19, u20, u21, u22, u23, rfl, hR⟩ hL hA hK
      have HR := Lib.hid hR
      clear hR
      simp only [List.setIfInBounds_toArray, List.set_cons_zero, List.set_cons_succ]
      clear hA
      have hL6 : L 9 = false := by
        cases hx : L 9 with
        | false => rfl
        | true => rw [(HR.out.2.2.2.2.2.2.2.2.2.2.2 hx).1] at hL; cases hL
      have HL6 := Lib.hid hL6
      clear hL6 hL
      go_wp2_with fail
      obtain ⟨hb, f0, f1, f2, f3, f4, f5, f6, f7, f8, f9, fx⟩ := HR.out
      refine exC_mk _ _ _ _ (by simp only [setsC, List.setIfInBounds_toArray, List.set_cons_zero, List.set_cons_succ]; rfl) ?_
      exact ⟨hb.alloc hb.size _, f0, f1, fun h => (f2 h).keep ((Below.refl _ _).alloc (Nat.le_refl _) _), f3, f4, fun h => (f5 h).keep ((Below.refl _ _).alloc (Nat.le_refl _) _), fun h => (f6 h).keep ((Below.refl _ _).alloc (Nat.le_refl _) _), fun _ => by rw [show upd L 7 9 = false from HL6.out]; exact VarAt.new wx 48 z17 hb.size, fun h _ => (f6 h).ne, f9, fun h => ⟨rfl, (fx h).2⟩⟩
    · rintro L a wx Q' ⟨u5, u6, u18, u19, u20, u21, u22, u23, rfl, hR⟩ hL hA hK
      have HR := Lib.hid hR
      clear hR
      simp only [List.setIfInBounds_toArray, List.set_cons_zero, List.set_cons_succ]
      have l0 : L 2 = true := hA ⟨2, .data⟩ (by simp) rfl
      have l1 : L 6 = true := hA ⟨6, .data⟩ (by simp) rfl
      obtain ⟨p', ls, rfl, hsl, hq⟩ := HR.out.2.2.2.1 l0
      obtain ⟨g, hg, hgB, hgW⟩ := HR.out.2.2.2.2.2.2.2.1 l1
      rw [hL] at hgW
      subst hg
      clear hA
      have HG := Lib.hid hgW
      have HL := Lib.hid (And.intro l0 l1)
      clear hgW l0 l1 hL
      obtain ⟨y0, y1, y2, y3, y4, y5, y6, y7, y8, y9, y10, y11, y12, y13, y14, y15, y16⟩ := p'
      obtain ⟨s0, s1, s2, s3, s4, s5, s6, s7, s8, s9, s10, s11, s12, s13, s14, s15, s16⟩ := hsl
      obtain ⟨a0, m0, c0, hx⟩ := s0; dsimp only at hx; subst hx; obtain ⟨a1, m1, c1, hx⟩ := s1; dsimp only at hx; subst hx; obtain ⟨a2, m2, c2, hx⟩ := s2; dsimp only at hx; subst hx; obtain ⟨a3, m3, c3, hx⟩ := s3; dsimp only at hx; subst hx; obtain ⟨a4, m4, c4, hx⟩ := s4; dsimp only at hx; subst hx; obtain ⟨a5, m5, c5, hx⟩ := s5; dsimp only at hx; subst hx; obtain ⟨a6, m6, c6, hx⟩ := s6; dsimp only at hx; subst hx; obtain ⟨a7, m7, c7, hx⟩ := s7; dsimp only at hx; subst hx; obtain ⟨a8, m8, c8, hx⟩ := s8; dsimp only at hx; subst hx; obtain ⟨a9, m9, c9, hx⟩ := s9; dsimp only at hx; subst hx; obtain ⟨a10, m10, c10, hx⟩ := s10; dsimp only at hx; subst hx; obtain ⟨a11, m11, c11, hx⟩ := s11; dsimp only at hx; subst hx; obtain ⟨a12, m12, c12, hx⟩ := s12; dsimp only at hx; subst hx; obtain ⟨a13, m13, c13, hx⟩ := s13; dsimp only at hx; subst hx; obtain ⟨a14, m14, c14, hx⟩ := s14; dsimp only at hx; subst hx; obtain ⟨a15, m15, c15, hx⟩ := s15; dsimp only at hx; subst hx; obtain ⟨a16, m16, c16, hx⟩ := s16; dsimp only at hx; subst hx
      unfold Pol.val
      dsimp only
      clear hq
      go_wp2_with (refine wpList_store_blk rfl 48 _ _ rfl g 0 (.agg _) rfl rfl 48 _ HG.out (by simp [Value.cells, z17]) size48 rfl ?_)
      intro w2 S2 W2
      unfold z17 at W2
      simp only [splice, List.setIfInBounds_toArray, List.set_cons_zero, List.set_cons_succ] at W2
      have HW2 := Lib.hid W2
      have HS2 := Lib.hid S2
      clear W2 S2
      go_wp2_with fail
      obtain ⟨hb, f0, f1, f2, f3, f4, f5, f6, f7, f8, f9, fx⟩ := HR.out
      refine exC_mk _ _ _ _ (by simp only [setsC, List.setIfInBounds_toArray, List.set_cons_zero, List.set_cons_succ]; rfl) ?_
      exact ⟨hb.trans (HS2.out.below hgB), f0, f1, fun h => (f2 h).sto HS2.out HG.out, f3, f4, fun h => (f5 h).sto HS2.out HG.out, fun _ => varAt_if rfl ⟨g, rfl, hgB, HW2.out⟩, fun h => (f7 h).sto HS2.out (Ne.symm (f8 HL.out.2 h)), f8, fun _ => ⟨HL.out.2, HL.out.1⟩, fx⟩
    · rintro L a wx Q' ⟨u5, u6, u18, u19, u20, u21, u22, u23, rfl, hR⟩ hL hA hK
      have HR := Lib.hid hR
      clear hR
      simp only [List.setIfInBounds_toArray, List.set_cons_zero, List.set_cons_succ]
      have l0 : L 5 = true := hA ⟨5, .data⟩ (by simp) rfl
      have l1 : L 7 = true := hA ⟨7, .data⟩ (by simp) rfl
      obtain ⟨v, rfl, ⟨va, vn, vc, hv⟩, hq⟩ := HR.out.2.2.2.2.2.2.1 l0
      obtain ⟨g, hg, hgB, hgW⟩ := HR.out.2.2.2.2.2.2.2.2.1 l1
      rw [hL] at hgW
      subst hg
      clear hA
      have HG := Lib.hid hgW
      have HL := Lib.hid (And.intro l0 l1)
      clear hgW l0 l1 hL
      subst hv
      unfold Pol.val
      dsimp only
      clear hq
      go_wp2_with (refine wpList_store_blk rfl 48 _ _ rfl g 0 (.agg _) rfl rfl 48 _ HG.out (by simp [Value.cells, z17]) size48 rfl ?_)
      intro w2 S2 W2
      unfold z17 at W2
      simp only [splice, List.setIfInBounds_toArray, List.set_cons_zero, List.set_cons_succ] at W2
      have HW2 := Lib.hid W2
      have HS2 := Lib.hid S2
      clear W2 S2
      go_wp2_with fail
      obtain ⟨hb, f0, f1, f2, f3, f4, f5, f6, f7, f8, f9, fx⟩ := HR.out
      refine exC_mk _ _ _ _ (by simp only [setsC, List.setIfInBounds_toArray, List.set_cons_zero, List.set_cons_succ]; rfl) ?_
      exact ⟨hb.trans (HS2.out.below hgB), f0, f1, fun h => (f2 h).sto HS2.out HG.out, f3, f4, fun h => (f5 h).sto HS2.out HG.out, fun h => (f6 h).sto HS2.out (f8 h HL.out.2), fun _ => varAt_if rfl ⟨g, rfl, hgB, HW2.out⟩, f8, f9, fun _ => ⟨HL.out.2, HL.out.1⟩⟩
    · rintro L a wx ⟨u5, u6, u18, u19, u20, u21, u22, u23, rfl, hR⟩ hL
      have l' : ∀ i, i < 10 → L i = true := hL
      obtain ⟨hb, f0, f1, f2, f3, f4, f5, f6, f7, f8, f9, fx⟩ := hR
      obtain ⟨g1, rfl, hg1, W1⟩ := f6 (l' 6 (by omega))
      obtain ⟨g2, rfl, hg2, W2⟩ := f7 (l' 7 (by omega))
      obtain ⟨p', ls, rfl, -, h0, h9, h14, hrel, hown⟩ := f2 (l' 2 (by omega))
      obtain ⟨v, rfl, -, hown'⟩ := f5 (l' 5 (by omega))
      rw [l' 8 (by omega)] at W1
      rw [l' 9 (by omega)] at W2
      clear f0 f1 f2 f3 f4 f5 f6 f7 f8 f9 fx l' hL
      simp only [List.setIfInBounds_toArray, List.set_cons_zero, List.set_cons_succ]
      have K1 := Lib.hid W1
      have K2 := Lib.hid W2
      have KR := Lib.hid (And.intro hrel (And.intro h0 (And.intro h9 h14)))
      have KO := Lib.hid (And.intro hown hown')
      clear W1 W2 hrel h0 h9 h14 hown hown'
      go_wp2_with fail
      go_meet
      exact ⟨g1, g2, p', ls, v, rfl, rfl, K1.out, K2.out, KR.out.2.1, KR.out.2.2.1, KR.out.2.2.2, KR.out.1, SliceAt.of_own (KR.out.1.1 ▸ KO.out.1) (ty_one ls), (withT_length zs 0 l).symm ▸ SliceAt.of_own KO.out.2 (ty_one _), hb⟩
  case rest =>
  obtain ⟨g1, g2, p', ls, v, rfl, rfl, W1, W2, q0, q9, q14, hrel, hs1, hs2, hb⟩ := hcut
  obtain ⟨w3, rfl⟩ : ∃ w3 : World, w3 = wc := ⟨_, rfl⟩
  have HPA3 := Lib.hid (HPA.out.keep hb)
  have HP3 := Lib.hid (Whole.under hb HP.out (Whole.lt HP.out))
  have HB3 := Lib.hid (HB.out.trans (hb.mono HB.out.size))
  have HQ3 := Lib.hid W1
  have HR3 := Lib.hid W2
  have HF := Lib.hid (And.intro q0 (And.intro q9 (And.intro q14 hrel)))
  have HS3 := Lib.hid (And.intro hs1 hs2)
  clear hb W1 W2 q0 q9 q14 hrel hs1 hs2 HPA HP HB HZ
  go_wp2_with fail
  go_cut [7] (fun s7 wd => ∃ (g3 : Nat) (pb : Pol) (lb : List Ty), s7 = .pointer (some ⟨g3, 0, none⟩) ∧ Whole wd g3 48 pb.val.cells ∧ WithRel (permOf l) l lb ∧ SliceAt wd pb.c1 3 lb.length (tyCells lb) ∧ Below w3.heap.size w3 wd)
  case first =>
    refine wp_region_slots [7, 24, 25, 26, 27] (by kernel_rfl) (by kernel_rfl) (R4 w3 ⟨.slice x0 n0 k0, .slice pa l.length pcap, .slice x2 n2 k2, .slice x3 n3 k3, .slice x4 n4 k4, .slice x5 n5 k5, .slice x6 n6 k6, .slice x7 n7 k7, .slice x8 n8 k8, .slice x9 n9 k9, .slice x10 n10 k10, .slice x11 n11 k11, .slice x12 n12 k12, .slice x13 n13 k13, .slice x14 n14 k14, .slice x15 n15 k15, .slice x16 n16 k16⟩ l) ?_ ⟨?_, ?_, ?_, ?_, ?_, ?_, trivial⟩ ?_
    · refine (?_ : R4 w3 ⟨.slice x0 n0 k0, .slice pa l.length pcap, .slice x2 n2 k2, .slice x3 n3 k3, .slice x4 n4 k4, .slice x5 n5 k5, .slice x6 n6 k6, .slice x7 n7 k7, .slice x8 n8 k8, .slice x9 n9 k9, .slice x10 n10 k10, .slice x11 n11 k11, .slice x12 n12 k12, .slice x13 n13 k13, .slice x14 n14 k14, .slice x15 n15 k15, .slice x16 n16 k16⟩ l (fun _ => false) _ _ _ _ _ w3.drew)
      exact ⟨(Below.refl _ _).drew, (fun h => by cases h), (fun h => by cases h), (fun h => by cases h), (fun h => by cases h), (fun h => by cases h), (fun h => by cases h)⟩
    · rintro L a wx Q' ⟨u7, u24, u25, u26, u27, rfl, hR⟩ hL hA hK
      have HR := Lib.hid hR
      clear hR
      simp only [List.setIfInBounds_toArray, List.set_cons_zero, List.set_cons_succ]
      have HW := Lib.hid (Whole.under HR.out.1 HP3.out (Whole.lt HP3.out))
      clear hA
      go_wp2_with (refine wpList_load_row_g rfl 48 _ rfl w.heap.size rfl 48 _ (0, 0) _ HW.out Try.underlying48 rfl size48 ?_)
      obtain ⟨hb, f0, f1, f2, f3, f4, f5⟩ := HR.out
      refine exC_mk _ _ _ _ (by simp only [setsC, List.setIfInBounds_toArray, List.set_cons_zero, List.set_cons_succ]; rfl) ?_
      exact ⟨hb, fun _ => rfl, f1, f2, f3, f4, f5⟩
    · rintro L a wx Q' ⟨u7, u24, u25, u26, u27, rfl, hR⟩ hL hA hK
      have HR := Lib.hid hR
      clear hR
      simp only [List.setIfInBounds_toArray, List.set_cons_zero, List.set_cons_succ]
      have HW := Lib.hid (Whole.under HR.out.1 HP3.out (Whole.lt HP3.out))
      clear hA
      go_wp2_with (refine wpList_load_row_g rfl 48 _ rfl w.heap.size rfl 48 _ (0, 0) _ HW.out Try.underlying48 rfl size48 ?_)
      obtain ⟨hb, f0, f1, f2, f3, f4, f5⟩ := HR.out
      refine exC_mk _ _ _ _ (by simp only [setsC, List.setIfInBounds_toArray, List.set_cons_zero, List.set_cons_succ]; rfl) ?_
      exact ⟨hb, f0, fun _ => rfl, f2, f3, f4, f5⟩
    · rintro L a wx Q' ⟨u7, u24, u25, u26, u27, rfl, hR⟩ hL hA hK
      have HR := Lib.hid hR
      clear hR
      simp only [List.setIfInBounds_toArray, List.set_cons_zero, List.set_cons_succ]
      have l0 : L 1 = true := hA ⟨1, .data⟩ (by simp) rfl
      have hu0 := HR.out.2.2.1 l0
      subst hu0
      clear hA
      go_wp2_with (go_at_call 15; go_must (refine (HPM.out _ (HPA3.out.keep HR.out.1).s1.1).mono ?_; rintro e w1 ⟨v1, rfl, hown, hb1⟩; have HQ := Lib.hid hown; clear hown))
      obtain ⟨hb, f0, f1, f2, f3, f4, f5⟩ := HR.out
      refine exC_mk _ _ _ _ (by simp only [setsC, List.setIfInBounds_toArray, List.set_cons_zero, List.set_cons_succ]; rfl) ?_
      exact ⟨hb.trans (hb1.mono hb.size), f0, fun _ => rfl, fun _ _ => SliceAt.of_own HQ.out (ints_one _), fun h => (f3 h).keep hb1, fun h => (f4 h).keep hb1, f5⟩
    · rintro L a wx Q' ⟨u7, u24, u25, u26, u27, rfl, hR⟩ hL hA hK
      have HR := Lib.hid hR
      clear hR
      simp only [List.setIfInBounds_toArray, List.set_cons_zero, List.set_cons_succ]
      have l0 : L 0 = true := hA ⟨0, .data⟩ (by simp) rfl
      have l1 : L 2 = true := hA ⟨2, .data⟩ (by simp) rfl
      have hu0 := HR.out.2.1 l0
      have hu1 := HR.out.2.2.2.1 l1
      have h8' : L 5 = false := by
        cases hx : L 5 with
        | false => rfl
        | true => rw [(HR.out.2.2.2.2.2.2 hx).2] at hL; cases hL
      have H8 := Lib.hid h8'
      have HU1 := Lib.hid (hu1 h8')
      clear h8' hu1
      subst hu0
      clear hA
      go_wp2_with (go_at_call 13; go_must (refine (HWB.out _ _ (HPA3.out.keep HR.out.1) HU1.out).mono ?_; rintro e w1 ⟨p', ls, rfl, hsl, hg0, hg9, hg14, hrel, hown, hb1⟩; have HQ := Lib.hid (And.intro hg0 (And.intro hg9 (And.intro hg14 (And.intro hrel hown)))); clear hg0 hg9 hg14 hrel hown))
      obtain ⟨hg0, hg9, hg14, hrel, hown⟩ := HQ.out
      have h8 := H8.out
      obtain ⟨hb, f0, f1, f2, f3, f4, f5⟩ := HR.out
      refine exC_mk _ _ _ _ (by simp only [setsC, List.setIfInBounds_toArray, List.set_cons_zero, List.set_cons_succ]; rfl) ?_
      exact ⟨hb.trans (hb1.mono hb.size), fun _ => rfl, f1, fun h h' => (f2 h h').keep hb1, fun _ => ⟨p', ls, rfl, hsl, hg0, hg9, hg14, hrel, own_low hown hb.size⟩, fun h => by have h1 := f4 h; rw [h8] at h1; rw [show upd L 3 5 = false from h8]; exact h1.keep hb1, fun h => ⟨(f5 h).1, rfl⟩⟩
    · rintro L a wx Q' ⟨u7, u24, u25, u26, u27, rfl, hR⟩ hL hA hK
      have HR := Lib.hid hR
      clear hR
      simp only [List.setIfInBounds_toArray, List.set_cons_zero, List.set_cons_succ]
      clear hA
      have hL6 : L 5 = false := by
        cases hx : L 5 with
        | false => rfl
        | true => rw [(HR.out.2.2.2.2.2.2 hx).1] at hL; cases hL
      have HL6 := Lib.hid hL6
      clear hL6 hL
      go_wp2_with fail
      obtain ⟨hb, f0, f1, f2, f3, f4, f5⟩ := HR.out
      refine exC_mk _ _ _ _ (by simp only [setsC, List.setIfInBounds_toArray, List.set_cons_zero, List.set_cons_succ]; rfl) ?_
      exact ⟨hb.alloc hb.size _, f0, f1, fun h h' => (f2 h h').keep ((Below.refl _ _).alloc (Nat.le_refl _) _), fun h => (f3 h).keep ((Below.refl _ _).alloc (Nat.le_refl _) _), fun _ => by rw [show upd L 4 5 = false from HL6.out]; exact VarAt.new wx 48 z17 hb.size, fun h => ⟨rfl, (f5 h).2⟩⟩
    · rintro L a wx Q' ⟨u7, u24, u25, u26, u27, rfl, hR⟩ hL hA hK
      have HR := Lib.hid hR
      clear hR
      simp only [List.setIfInBounds_toArray, List.set_cons_zero, List.set_cons_succ]
      have l0 : L 3 = true := hA ⟨3, .data⟩ (by simp) rfl
      have l1 : L 4 = true := hA ⟨4, .data⟩ (by simp) rfl
      obtain ⟨p', ls, rfl, hsl, hq⟩ := HR.out.2.2.2.2.1 l0
      obtain ⟨g, hg, hgB, hgW⟩ := HR.out.2.2.2.2.2.1 l1
      rw [hL] at hgW
      subst hg
      clear hA
      have HG := Lib.hid hgW
      have HL := Lib.hid (And.intro l0 l1)
      clear hgW l0 l1 hL
      obtain ⟨y0, y1, y2, y3, y4, y5, y6, y7, y8, y9, y10, y11, y12, y13, y14, y15, y16⟩ := p'
      obtain ⟨s0, s1, s2, s3, s4, s5, s6, s7, s8, s9, s10, s11, s12, s13, s14, s15, s16⟩ := hsl
      obtain ⟨a0, m0, c0, hx⟩ := s0; dsimp only at hx; subst hx; obtain ⟨a1, m1, c1, hx⟩ := s1; dsimp only at hx; subst hx; obtain ⟨a2, m2, c2, hx⟩ := s2; dsimp only at hx; subst hx; obtain ⟨a3, m3, c3, hx⟩ := s3; dsimp only at hx; subst hx; obtain ⟨a4, m4, c4, hx⟩ := s4; dsimp only at hx; subst hx; obtain ⟨a5, m5, c5, hx⟩ := s5; dsimp only at hx; subst hx; obtain ⟨a6, m6, c6, hx⟩ := s6; dsimp only at hx; subst hx; obtain ⟨a7, m7, c7, hx⟩ := s7; dsimp only at hx; subst hx; obtain ⟨a8, m8, c8, hx⟩ := s8; dsimp only at hx; subst hx; obtain ⟨a9, m9, c9, hx⟩ := s9; dsimp only at hx; subst hx; obtain ⟨a10, m10, c10, hx⟩ := s10; dsimp only at hx; subst hx; obtain ⟨a11, m11, c11, hx⟩ := s11; dsimp only at hx; subst hx; obtain ⟨a12, m12, c12, hx⟩ := s12; dsimp only at hx; subst hx; obtain ⟨a13, m13, c13, hx⟩ := s13; dsimp only at hx; subst hx; obtain ⟨a14, m14, c14, hx⟩ := s14; dsimp only at hx; subst hx; obtain ⟨a15, m15, c15, hx⟩ := s15; dsimp only at hx; subst hx; obtain ⟨a16, m16, c16, hx⟩ := s16; dsimp only at hx; subst hx
      unfold Pol.val
      dsimp only
      clear hq
      go_wp2_with (refine wpList_store_blk rfl 48 _ _ rfl g 0 (.agg _) rfl rfl 48 _ HG.out (by simp [Value.cells, z17]) size48 rfl ?_)
      intro w2 S2 W2
      unfold z17 at W2
      simp only [splice, List.setIfInBounds_toArray, List.set_cons_zero, List.set_cons_succ] at W2
      have HW2 := Lib.hid W2
      have HS2 := Lib.hid S2
      clear W2 S2
      go_wp2_with fail
      obtain ⟨hb, f0, f1, f2, f3, f4, f5⟩ := HR.out
      refine exC_mk _ _ _ _ (by simp only [setsC, List.setIfInBounds_toArray, List.set_cons_zero, List.set_cons_succ]; rfl) ?_
      exact ⟨hb.trans (HS2.out.below hgB), f0, f1, (fun _ h => by cases h), fun h => (f3 h).sto HS2.out HG.out, fun _ => varAt_if rfl ⟨g, rfl, hgB, HW2.out⟩, fun _ => ⟨HL.out.2, HL.out.1⟩⟩
    · rintro L a wx ⟨u7, u24, u25, u26, u27, rfl, hR⟩ hL
      have l' : ∀ i, i < 6 → L i = true := hL
      obtain ⟨hb, f0, f1, f2, f3, f4, f5⟩ := hR
      obtain ⟨g3, rfl, hg1, W1⟩ := f4 (l' 4 (by omega))
      obtain ⟨p', ls', rfl, -, -, -, -, hrel, hown⟩ := f3 (l' 3 (by omega))
      rw [l' 5 (by omega)] at W1
      clear f0 f1 f2 f3 f4 f5 l' hL
      simp only [List.setIfInBounds_toArray, List.set_cons_zero, List.set_cons_succ]
      have K1 := Lib.hid W1
      have KO := Lib.hid (And.intro hrel hown)
      clear W1 hrel hown
      go_wp2_with fail
      go_meet
      exact ⟨g3, p', ls', rfl, K1.out, KO.out.1, SliceAt.of_own (KO.out.1.1 ▸ KO.out.2) (ty_one ls'), hb⟩
  case rest =>
  obtain ⟨g3, pb, lb, rfl, W3, hrelb, hsb, hb⟩ := hcut
  obtain ⟨w5, rfl⟩ : ∃ w5 : World, w5 = wc := ⟨_, rfl⟩
  have KP := Lib.hid (Whole.under hb HP3.out (Whole.lt HP3.out))
  have KQ0 := Whole.under hb HQ3.out (Whole.lt HQ3.out)
  have KR := Lib.hid (show Whole w5 g2 48 #[.slice x0 n0 k0, v, .slice x2 n2 k2, .slice x3 n3 k3, .slice x4 n4 k4, .slice x5 n5 k5, .slice x6 n6 k6, .slice x7 n7 k7, .slice x8 n8 k8, .slice x9 n9 k9, .slice x10 n10 k10, .slice x11 n11 k11, .slice x12 n12 k12, .slice x13 n13 k13, .slice x14 n14 k14, .slice x15 n15 k15, .slice x16 n16 k16] from Whole.under hb HR3.out (Whole.lt HR3.out))
  have KB0 := W3
  have HB5 := Lib.hid (HB3.out.trans (hb.mono HB3.out.size))
  have hlsl : ls.length = l.length := HF.out.2.2.2.1
  have hlbl : lb.length = l.length := hrelb.1
  have SP := Lib.hid ((HPA3.out.keep hb).s1.1)
  have SQ0 := HS3.out.1.keep hb
  have SR := Lib.hid (HS3.out.2.keep hb)
  have SB0 := hsb
  have AQ := Lib.hid (withRel_alike HF.out.2.2.2)
  have AB := Lib.hid (back_alike hrelb)
  have EQP := Lib.hid (permOf_alike AQ.out.1 AQ.out.2)
  have hq := HF.out
  have hsq := SQ0.shape
  obtain ⟨y0, y1, y2, y3, y4, y5, y6, y7, y8, y9, y10, y11, y12, y13, y14, y15, y16⟩ := p'
  obtain ⟨b0, b1, b2, b3, b4, b5, b6, b7, b8, b9, b10, b11, b12, b13, b14, b15, b16⟩ := pb
  obtain ⟨⟨_, _, _, a0, c0, e0, rfl⟩, ⟨_, _, _, a9, c9, e9, rfl⟩, ⟨_, _, _, a14, c14, e14, rfl⟩, -⟩ := hq
  simp only [Value.slice.injEq] at e0 e9 e14
  obtain ⟨-, rfl, -⟩ := e0
  obtain ⟨-, rfl, -⟩ := e9
  obtain ⟨-, rfl, -⟩ := e14
  have KQ := Lib.hid (show Whole w5 g1 48 #[.slice a0 n0 c0, y1, y2, y3, y4, y5, y6, y7, y8, .slice a9 n9 c9, y10, y11, y12, y13, .slice a14 n14 c14, y15, y16] from KQ0)
  have KB := Lib.hid (show Whole w5 g3 48 #[b0, b1, b2, b3, b4, b5, b6, b7, b8, b9, b10, b11, b12, b13, b14, b15, b16] from KB0)
  have SQ := Lib.hid (show SliceAt w5 y1 3 ls.length (tyCells ls) from SQ0)
  have SB := Lib.hid (show SliceAt w5 b1 3 lb.length (tyCells lb) from SB0)
  have HPQ := Lib.hid (fun W h1 => permissive_any ⟨.slice a0 n0 c0, y1, y2, y3, y4, y5, y6, y7, y8, .slice a9 n9 c9, y10, y11, y12, y13, .slice a14 n14 c14, y15, y16⟩ ls W h1 (by rw [hlsl]; omega))
  have HRR := Lib.hid (fun W h1 => rpermissive_any ⟨.slice x0 n0 k0, v, .slice x2 n2 k2, .slice x3 n3 k3, .slice x4 n4 k4, .slice x5 n5 k5, .slice x6 n6 k6, .slice x7 n7 k7, .slice x8 n8 k8, .slice x9 n9 k9, .slice x10 n10 k10, .slice x11 n11 k11, .slice x12 n12 k12, .slice x13 n13 k13, .slice x14 n14 k14, .slice x15 n15 k15, .slice x16 n16 k16⟩ (withT zs 0 l) W h1 (by rw [withT_length]; omega))
  unfold Pol.val at HPQ HRR
  dsimp only at HPQ HRR
  clear KQ0 KB0 SQ0 SB0 hlsl hlbl hb hrelb hsb W3 HP3 HPA3 HQ3 HR3 HS3 HF HB3 hsq HWA HRW HWB h300 h60
  go_wp2_with fail
  refine wp_region_plan [28, 29, 30, 31, 32, 33, 34, 35, 36, 37, 38, 39, 40, 41, 42, 43, 44, 45, 46, 47, 48, 49, 50, 51, 52, 53, 54, 55, 56, 57, 58, 59, 60, 61, 62, 63, 64, 65, 66, 67, 68, 69, 70, 71, 72, 73, 74, 75, 76, 77, 78, 79, 80, 81, 82, 83, 4] [isV (.agg #[.slice x0 n0 k0, .slice pa l.length pcap, .slice x2 n2 k2, .slice x3 n3 k3, .slice x4 n4 k4, .slice x5 n5 k5, .slice x6 n6 k6, .slice x7 n7 k7, .slice x8 n8 k8, .slice x9 n9 k9, .slice x10 n10 k10, .slice x11 n11 k11, .slice x12 n12 k12, .slice x13 n13 k13, .slice x14 n14 k14, .slice x15 n15 k15, .slice x16 n16 k16]), PermOk l, isV (.agg #[.slice x0 n0 k0, .slice pa l.length pcap, .slice x2 n2 k2, .slice x3 n3 k3, .slice x4 n4 k4, .slice x5 n5 k5, .slice x6 n6 k6, .slice x7 n7 k7, .slice x8 n8 k8, .slice x9 n9 k9, .slice x10 n10 k10, .slice x11 n11 k11, .slice x12 n12 k12, .slice x13 n13 k13, .slice x14 n14 k14, .slice x15 n15 k15, .slice x16 n16 k16]), PermOk l, isV (.bool true), isV (.bool true), isV (.pointer (some ⟨g1, 1, none⟩)), isV (y1), isV (.pointer (some ⟨g2, 1, none⟩)), isV (v), isV (.bool true), isV (.bool true), isV (.bool true), isV (.pointer (some ⟨g3, 1, none⟩)), isV (b1), isV (.pointer (some ⟨w.heap.size, 1, none⟩)), isV (.slice pa l.length pcap), isV (.bool true), isV (.bool true), isV (.bool true), isV (.agg #[.slice a0 n0 c0, y1, y2, y3, y4, y5, y6, y7, y8, .slice a9 n9 c9, y10, y11, y12, y13, .slice a14 n14 c14, y15, y16]), PermOk ls, isV (.agg #[.slice x0 n0 k0, v, .slice x2 n2 k2, .slice x3 n3 k3, .slice x4 n4 k4, .slice x5 n5 k5, .slice x6 n6 k6, .slice x7 n7 k7, .slice x8 n8 k8, .slice x9 n9 k9, .slice x10 n10 k10, .slice x11 n11 k11, .slice x12 n12 k12, .slice x13 n13 k13, .slice x14 n14 k14, .slice x15 n15 k15, .slice x16 n16 k16]), PermOk (withT zs 0 l), isV (.bool true), isV (.bool true), isV (.bool true), isV (.pointer (some ⟨g1, 9, none⟩)), isV (.slice a9 n9 c9), isV (.int .i64 n9), isV (.pointer (some ⟨w.heap.size, 9, none⟩)), isV (.slice x9 n9 k9), isV (.int .i64 n9), isV (.bool true), isV (.bool true), isV (.bool true), isV (.pointer (some ⟨g1, 0, none⟩)), isV (.slice a0 n0 c0), isV (.int .i64 n0), isV (.pointer (some ⟨w.heap.size, 0, none⟩)), isV (.slice x0 n0 k0), isV (.int .i64 n0), isV (.bool true), isV (.bool true), isV (.bool true), isV (.pointer (some ⟨g1, 14, none⟩)), isV (.slice a14 n14 c14), isV (.int .i64 n14), isV (.pointer (some ⟨w.heap.size, 14, none⟩)), isV (.slice x14 n14 k14), isV (.int .i64 n14), isV (.bool true), isV (.bool true), isV (.bool true), isV (.bool true), isV (.bool true), isV (.bool true)] (Below w5.heap.size w5) (by kernel_rfl) (by kernel_rfl) rfl (by decide) rfl ((Below.refl _ _).drew) (fun w w' h hb => h.trans (hb.mono h.size)) ⟨lasts_is _, PermOk.lasts _, lasts_is _, PermOk.lasts _, lasts_is _, lasts_is _, lasts_is _, lasts_is _, lasts_is _, lasts_is _, lasts_is _, lasts_is _, lasts_is _, lasts_is _, lasts_is _, lasts_is _, lasts_is _, lasts_is _, lasts_is _, lasts_is _, lasts_is _, PermOk.lasts _, lasts_is _, PermOk.lasts _, lasts_is _, lasts_is _, lasts_is _, lasts_is _, lasts_is _, lasts_is _, lasts_is _, lasts_is _, lasts_is _, lasts_is _, lasts_is _, lasts_is _, lasts_is _, lasts_is _, lasts_is _, lasts_is _, lasts_is _, lasts_is _, lasts_is _, lasts_is _, lasts_is _, lasts_is _, lasts_is _, lasts_is _, lasts_is _, lasts_is _, lasts_is _, lasts_is _, lasts_is _, lasts_is _, lasts_is _, lasts_is _, lasts_is _, trivial⟩ ⟨?_, ?_, ?_, ?_, ?_, ?_, ?_, ?_, ?_, ?_, ?_, ?_, ?_, ?_, ?_, ?_, ?_, ?_, ?_, ?_, ?_, ?_, ?_, ?_, ?_, ?_, ?_, ?_, ?_, ?_, ?_, ?_, ?_, ?_, ?_, ?_, ?_, ?_, ?_, ?_, ?_, ?_, ?_, ?_, ?_, ?_, ?_, ?_, ?_, ?_, ?_, ?_, ?_, ?_, ?_, ?_, ?_, trivial⟩ ?_
  · intro a wx Q' hi H F hK
    have h2 : a.tmps[2]? = some (.pointer (some ⟨w.heap.size, 0, none⟩)) := F 2 rfl
    have HI := Lib.hid hi
    clear H F hi
    have HW := Lib.hid (Whole.under HI.out KP.out (Whole.lt KP.out))
    go_wp2_with (refine wpList_load_row_g rfl 48 _ rfl w.heap.size (by simp [Act.eval, *]) 48 _ (0, 0) _ HW.out Try.underlying48 rfl size48 ?_)
    exact hK _ _ (Below.refl _ _) rfl
  · intro a wx Q' hi H F hK
    obtain ⟨_, h28, rfl⟩ := H 0 ⟨.data, by simp, rfl⟩ 28 _ rfl rfl
    have HI := Lib.hid hi
    clear H F hi
    go_wp2_with (go_at_call 15; go_must (refine (HPM.out _ (SP.out.keep HI.out)).mono ?_; rintro e w1 ⟨v1, rfl, hown, hb1⟩; have HQ := Lib.hid hown; clear hown))
    exact hK _ _ hb1 (SliceAt.of_own HQ.out (ints_one _))
  · intro a wx Q' hi H F hK
    have h2 : a.tmps[2]? = some (.pointer (some ⟨w.heap.size, 0, none⟩)) := F 2 rfl
    have HI := Lib.hid hi
    clear H F hi
    have HW := Lib.hid (Whole.under HI.out KP.out (Whole.lt KP.out))
    go_wp2_with (refine wpList_load_row_g rfl 48 _ rfl w.heap.size (by simp [Act.eval, *]) 48 _ (0, 0) _ HW.out Try.underlying48 rfl size48 ?_)
    exact hK _ _ (Below.refl _ _) rfl
  · intro a wx Q' hi H F hK
    obtain ⟨_, h30, rfl⟩ := H 2 ⟨.data, by simp, rfl⟩ 30 _ rfl rfl
    have HI := Lib.hid hi
    clear H F hi
    go_wp2_with (go_at_call 17; go_must (refine (HRM.out _ (SP.out.keep HI.out)).mono ?_; rintro e w1 ⟨v1, rfl, hown, hb1⟩; have HQ := Lib.hid hown; clear hown))
    exact hK _ _ hb1 (SliceAt.of_own HQ.out (ints_one _))
  · intro a wx Q' hi H F hK
    obtain ⟨v29, h29, hv29⟩ := H 1 ⟨.data, by simp, rfl⟩ 29 _ rfl rfl
    have HV29 := Lib.hid hv29
    clear hv29
    obtain ⟨v31, h31, hv31⟩ := H 3 ⟨.data, by simp, rfl⟩ 31 _ rfl rfl
    have HV31 := Lib.hid hv31
    clear hv31
    have HI := Lib.hid hi
    clear H F hi
    go_wp2_with (go_at_call 16; go_must (refine (ints_true _ _ _ _ _ HV29.out HV31.out rfl).mono ?_; rintro e w1 ⟨rfl, hb1⟩))
    exact hK _ _ hb1 rfl
  · intro a wx Q' hi H F hK
    obtain ⟨_, h32, rfl⟩ := H 4 ⟨.data, by simp, rfl⟩ 32 _ rfl rfl
    have HI := Lib.hid hi
    clear H F hi
    go_wp2_with fail
    exact hK _ _ (Below.refl _ _) rfl
  · intro a wx Q' hi H F hK
    obtain ⟨_, h33, rfl⟩ := H 5 ⟨.guard, by simp, rfl⟩ 33 _ rfl rfl
    have h5 : a.tmps[5]? = some (.pointer (some ⟨g1, 0, none⟩)) := F 5 rfl
    have HI := Lib.hid hi
    clear H F hi
    go_wp2_with fail
    exact hK _ _ (Below.refl _ _) rfl
  · intro a wx Q' hi H F hK
    obtain ⟨_, h34, rfl⟩ := H 6 ⟨.data, by simp, rfl⟩ 34 _ rfl rfl
    obtain ⟨_, h33, rfl⟩ := H 5 ⟨.guard, by simp, rfl⟩ 33 _ rfl rfl
    have HI := Lib.hid hi
    clear H F hi
    have kq : wx.cell? ⟨g1, 1, none⟩ = some (y1) := (Whole.under HI.out KQ.out (Whole.lt KQ.out)).cell 1
    go_wp2_with fail
    exact hK _ _ (Below.refl _ _) rfl
  · intro a wx Q' hi H F hK
    obtain ⟨_, h33, rfl⟩ := H 5 ⟨.guard, by simp, rfl⟩ 33 _ rfl rfl
    have h6 : a.tmps[6]? = some (.pointer (some ⟨g2, 0, none⟩)) := F 6 rfl
    have HI := Lib.hid hi
    clear H F hi
    go_wp2_with fail
    exact hK _ _ (Below.refl _ _) rfl
  · intro a wx Q' hi H F hK
    obtain ⟨_, h36, rfl⟩ := H 8 ⟨.data, by simp, rfl⟩ 36 _ rfl rfl
    obtain ⟨_, h33, rfl⟩ := H 5 ⟨.guard, by simp, rfl⟩ 33 _ rfl rfl
    have HI := Lib.hid hi
    clear H F hi
    have kq : wx.cell? ⟨g2, 1, none⟩ = some (v) := (Whole.under HI.out KR.out (Whole.lt KR.out)).cell 1
    go_wp2_with fail
    exact hK _ _ (Below.refl _ _) rfl
  · intro a wx Q' hi H F hK
    obtain ⟨_, h35, rfl⟩ := H 7 ⟨.data, by simp, rfl⟩ 35 _ rfl rfl
    obtain ⟨_, h37, rfl⟩ := H 9 ⟨.data, by simp, rfl⟩ 37 _ rfl rfl
    obtain ⟨_, h33, rfl⟩ := H 5 ⟨.guard, by simp, rfl⟩ 33 _ rfl rfl
    have HI := Lib.hid hi
    clear H F hi
    go_wp2_with (go_at_call 18; go_must (refine (types_any _ _ ls (withT zs 0 l) _ (SQ.out.keep HI.out) (SR.out.keep HI.out) AQ.out.1 AQ.out.2).mono ?_; rintro e w1 ⟨rfl, hb1⟩))
    exact hK _ _ hb1 rfl
  · intro a wx Q' hi H F hK
    obtain ⟨_, h33, rfl⟩ := H 5 ⟨.data, by simp, rfl⟩ 33 _ rfl rfl
    obtain ⟨_, h38, rfl⟩ := H 10 ⟨.data, by simp, rfl⟩ 38 _ rfl rfl
    have HI := Lib.hid hi
    clear H F hi
    go_wp2_with fail
    exact hK _ _ (Below.refl _ _) rfl
  · intro a wx Q' hi H F hK
    obtain ⟨_, h39, rfl⟩ := H 11 ⟨.data, by simp, rfl⟩ 39 _ rfl rfl
    have HI := Lib.hid hi
    clear H F hi
    go_wp2_with fail
    exact hK _ _ (Below.refl _ _) rfl
  · intro a wx Q' hi H F hK
    obtain ⟨_, h40, rfl⟩ := H 12 ⟨.guard, by simp, rfl⟩ 40 _ rfl rfl
    have h7 : a.tmps[7]? = some (.pointer (some ⟨g3, 0, none⟩)) := F 7 rfl
    have HI := Lib.hid hi
    clear H F hi
    go_wp2_with fail
    exact hK _ _ (Below.refl _ _) rfl
  · intro a wx Q' hi H F hK
    obtain ⟨_, h41, rfl⟩ := H 13 ⟨.data, by simp, rfl⟩ 41 _ rfl rfl
    obtain ⟨_, h40, rfl⟩ := H 12 ⟨.guard, by simp, rfl⟩ 40 _ rfl rfl
    have HI := Lib.hid hi
    clear H F hi
    have kq : wx.cell? ⟨g3, 1, none⟩ = some (b1) := (Whole.under HI.out KB.out (Whole.lt KB.out)).cell 1
    go_wp2_with fail
    exact hK _ _ (Below.refl _ _) rfl
  · intro a wx Q' hi H F hK
    obtain ⟨_, h40, rfl⟩ := H 12 ⟨.guard, by simp, rfl⟩ 40 _ rfl rfl
    have h2 : a.tmps[2]? = some (.pointer (some ⟨w.heap.size, 0, none⟩)) := F 2 rfl
    have HI := Lib.hid hi
    clear H F hi
    go_wp2_with fail
    exact hK _ _ (Below.refl _ _) rfl
  · intro a wx Q' hi H F hK
    obtain ⟨_, h43, rfl⟩ := H 15 ⟨.data, by simp, rfl⟩ 43 _ rfl rfl
    obtain ⟨_, h40, rfl⟩ := H 12 ⟨.guard, by simp, rfl⟩ 40 _ rfl rfl
    have HI := Lib.hid hi
    clear H F hi
    have kq : wx.cell? ⟨w.heap.size, 1, none⟩ = some (.slice pa l.length pcap) := (Whole.under HI.out KP.out (Whole.lt KP.out)).cell 1
    go_wp2_with fail
    exact hK _ _ (Below.refl _ _) rfl
  · intro a wx Q' hi H F hK
    obtain ⟨_, h42, rfl⟩ := H 14 ⟨.data, by simp, rfl⟩ 42 _ rfl rfl
    obtain ⟨_, h44, rfl⟩ := H 16 ⟨.data, by simp, rfl⟩ 44 _ rfl rfl
    obtain ⟨_, h40, rfl⟩ := H 12 ⟨.guard, by simp, rfl⟩ 40 _ rfl rfl
    have HI := Lib.hid hi
    clear H F hi
    go_wp2_with (go_at_call 18; go_must (refine (types_any _ _ lb l _ (SB.out.keep HI.out) (SP.out.keep HI.out) AB.out.1 AB.out.2).mono ?_; rintro e w1 ⟨rfl, hb1⟩))
    exact hK _ _ hb1 rfl
  · intro a wx Q' hi H F hK
    obtain ⟨_, h40, rfl⟩ := H 12 ⟨.data, by simp, rfl⟩ 40 _ rfl rfl
    obtain ⟨_, h45, rfl⟩ := H 17 ⟨.data, by simp, rfl⟩ 45 _ rfl rfl
    have HI := Lib.hid hi
    clear H F hi
    go_wp2_with fail
    exact hK _ _ (Below.refl _ _) rfl
  · intro a wx Q' hi H F hK
    obtain ⟨_, h46, rfl⟩ := H 18 ⟨.data, by simp, rfl⟩ 46 _ rfl rfl
    have HI := Lib.hid hi
    clear H F hi
    go_wp2_with fail
    exact hK _ _ (Below.refl _ _) rfl
  · intro a wx Q' hi H F hK
    obtain ⟨_, h47, rfl⟩ := H 19 ⟨.guard, by simp, rfl⟩ 47 _ rfl rfl
    have h5 : a.tmps[5]? = some (.pointer (some ⟨g1, 0, none⟩)) := F 5 rfl
    have HI := Lib.hid hi
    clear H F hi
    have HW := Lib.hid (Whole.under HI.out KQ.out (Whole.lt KQ.out))
    go_wp2_with (refine wpList_load_row_g (by simp [Region.wanted, yielded, *]) 48 _ rfl g1 (by simp [Act.eval, *]) 48 _ (0, 0) _ HW.out Try.underlying48 rfl size48 ?_)
    exact hK _ _ (Below.refl _ _) rfl
  · intro a wx Q' hi H F hK
    obtain ⟨_, h48, rfl⟩ := H 20 ⟨.data, by simp, rfl⟩ 48 _ rfl rfl
    obtain ⟨_, h47, rfl⟩ := H 19 ⟨.guard, by simp, rfl⟩ 47 _ rfl rfl
    have HI := Lib.hid hi
    clear H F hi
    go_wp2_with (go_at_call 15; go_must (refine (HPQ.out _ (SQ.out.keep HI.out)).mono ?_; rintro e w1 ⟨v1, rfl, hown, hb1⟩; have HQ := Lib.hid hown; clear hown))
    exact hK _ _ hb1 (SliceAt.of_own HQ.out (ints_one _))
  · intro a wx Q' hi H F hK
    obtain ⟨_, h47, rfl⟩ := H 19 ⟨.guard, by simp, rfl⟩ 47 _ rfl rfl
    have h6 : a.tmps[6]? = some (.pointer (some ⟨g2, 0, none⟩)) := F 6 rfl
    have HI := Lib.hid hi
    clear H F hi
    have HW := Lib.hid (Whole.under HI.out KR.out (Whole.lt KR.out))
    go_wp2_with (refine wpList_load_row_g (by simp [Region.wanted, yielded, *]) 48 _ rfl g2 (by simp [Act.eval, *]) 48 _ (0, 0) _ HW.out Try.underlying48 rfl size48 ?_)
    exact hK _ _ (Below.refl _ _) rfl
  · intro a wx Q' hi H F hK
    obtain ⟨_, h50, rfl⟩ := H 22 ⟨.data, by simp, rfl⟩ 50 _ rfl rfl
    obtain ⟨_, h47, rfl⟩ := H 19 ⟨.guard, by simp, rfl⟩ 47 _ rfl rfl
    have HI := Lib.hid hi
    clear H F hi
    go_wp2_with (go_at_call 17; go_must (refine (HRR.out _ (SR.out.keep HI.out)).mono ?_; rintro e w1 ⟨v1, rfl, hown, hb1⟩; have HQ := Lib.hid hown; clear hown))
    exact hK _ _ hb1 (SliceAt.of_own HQ.out (ints_one _))
  · intro a wx Q' hi H F hK
    obtain ⟨v49, h49, hv49⟩ := H 21 ⟨.data, by simp, rfl⟩ 49 _ rfl rfl
    have HV49 := Lib.hid hv49
    clear hv49
    obtain ⟨v51, h51, hv51⟩ := H 23 ⟨.data, by simp, rfl⟩ 51 _ rfl rfl
    have HV51 := Lib.hid hv51
    clear hv51
    obtain ⟨_, h47, rfl⟩ := H 19 ⟨.guard, by simp, rfl⟩ 47 _ rfl rfl
    have HI := Lib.hid hi
    clear H F hi
    go_wp2_with (go_at_call 16; go_must (refine (ints_true _ _ _ _ _ HV49.out HV51.out EQP.out).mono ?_; rintro e w1 ⟨rfl, hb1⟩))
    exact hK _ _ hb1 rfl
  · intro a wx Q' hi H F hK
    obtain ⟨_, h47, rfl⟩ := H 19 ⟨.data, by simp, rfl⟩ 47 _ rfl rfl
    obtain ⟨_, h52, rfl⟩ := H 24 ⟨.data, by simp, rfl⟩ 52 _ rfl rfl
    have HI := Lib.hid hi
    clear H F hi
    go_wp2_with fail
    exact hK _ _ (Below.refl _ _) rfl
  · intro a wx Q' hi H F hK
    obtain ⟨_, h53, rfl⟩ := H 25 ⟨.data, by simp, rfl⟩ 53 _ rfl rfl
    have HI := Lib.hid hi
    clear H F hi
    go_wp2_with fail
    exact hK _ _ (Below.refl _ _) rfl
  · intro a wx Q' hi H F hK
    obtain ⟨_, h54, rfl⟩ := H 26 ⟨.guard, by simp, rfl⟩ 54 _ rfl rfl
    have h5 : a.tmps[5]? = some (.pointer (some ⟨g1, 0, none⟩)) := F 5 rfl
    have HI := Lib.hid hi
    clear H F hi
    go_wp2_with fail
    exact hK _ _ (Below.refl _ _) rfl
  · intro a wx Q' hi H F hK
    obtain ⟨_, h55, rfl⟩ := H 27 ⟨.data, by simp, rfl⟩ 55 _ rfl rfl
    obtain ⟨_, h54, rfl⟩ := H 26 ⟨.guard, by simp, rfl⟩ 54 _ rfl rfl
    have HI := Lib.hid hi
    clear H F hi
    have kq : wx.cell? ⟨g1, 9, none⟩ = some (.slice a9 n9 c9) := (Whole.under HI.out KQ.out (Whole.lt KQ.out)).cell 9
    go_wp2_with fail
    exact hK _ _ (Below.refl _ _) rfl
  · intro a wx Q' hi H F hK
    obtain ⟨_, h56, rfl⟩ := H 28 ⟨.data, by simp, rfl⟩ 56 _ rfl rfl
    obtain ⟨_, h54, rfl⟩ := H 26 ⟨.guard, by simp, rfl⟩ 54 _ rfl rfl
    have HI := Lib.hid hi
    clear H F hi
    go_wp2_with fail
    exact hK _ _ (Below.refl _ _) rfl
  · intro a wx Q' hi H F hK
    obtain ⟨_, h54, rfl⟩ := H 26 ⟨.guard, by simp, rfl⟩ 54 _ rfl rfl
    have h2 : a.tmps[2]? = some (.pointer (some ⟨w.heap.size, 0, none⟩)) := F 2 rfl
    have HI := Lib.hid hi
    clear H F hi
    go_wp2_with fail
    exact hK _ _ (Below.refl _ _) rfl
  · intro a wx Q' hi H F hK
    obtain ⟨_, h58, rfl⟩ := H 30 ⟨.data, by simp, rfl⟩ 58 _ rfl rfl
    obtain ⟨_, h54, rfl⟩ := H 26 ⟨.guard, by simp, rfl⟩ 54 _ rfl rfl
    have HI := Lib.hid hi
    clear H F hi
    have kq : wx.cell? ⟨w.heap.size, 9, none⟩ = some (.slice x9 n9 k9) := (Whole.under HI.out KP.out (Whole.lt KP.out)).cell 9
    go_wp2_with fail
    exact hK _ _ (Below.refl _ _) rfl
  · intro a wx Q' hi H F hK
    obtain ⟨_, h59, rfl⟩ := H 31 ⟨.data, by simp, rfl⟩ 59 _ rfl rfl
    obtain ⟨_, h54, rfl⟩ := H 26 ⟨.guard, by simp, rfl⟩ 54 _ rfl rfl
    have HI := Lib.hid hi
    clear H F hi
    go_wp2_with fail
    exact hK _ _ (Below.refl _ _) rfl
  · intro a wx Q' hi H F hK
    obtain ⟨_, h57, rfl⟩ := H 29 ⟨.data, by simp, rfl⟩ 57 _ rfl rfl
    obtain ⟨_, h60, rfl⟩ := H 32 ⟨.data, by simp, rfl⟩ 60 _ rfl rfl
    obtain ⟨_, h54, rfl⟩ := H 26 ⟨.guard, by simp, rfl⟩ 54 _ rfl rfl
    have HI := Lib.hid hi
    clear H F hi
    go_wp2_with fail
    exact hK _ _ (Below.refl _ _) rfl
  · intro a wx Q' hi H F hK
    obtain ⟨_, h54, rfl⟩ := H 26 ⟨.data, by simp, rfl⟩ 54 _ rfl rfl
    obtain ⟨_, h61, rfl⟩ := H 33 ⟨.data, by simp, rfl⟩ 61 _ rfl rfl
    have HI := Lib.hid hi
    clear H F hi
    go_wp2_with fail
    exact hK _ _ (Below.refl _ _) rfl
  · intro a wx Q' hi H F hK
    obtain ⟨_, h62, rfl⟩ := H 34 ⟨.data, by simp, rfl⟩ 62 _ rfl rfl
    have HI := Lib.hid hi
    clear H F hi
    go_wp2_with fail
    exact hK _ _ (Below.refl _ _) rfl
  · intro a wx Q' hi H F hK
    obtain ⟨_, h63, rfl⟩ := H 35 ⟨.guard, by simp, rfl⟩ 63 _ rfl rfl
    have h5 : a.tmps[5]? = some (.pointer (some ⟨g1, 0, none⟩)) := F 5 rfl
    have HI := Lib.hid hi
    clear H F hi
    go_wp2_with fail
    exact hK _ _ (Below.refl _ _) rfl
  · intro a wx Q' hi H F hK
    obtain ⟨_, h64, rfl⟩ := H 36 ⟨.data, by simp, rfl⟩ 64 _ rfl rfl
    obtain ⟨_, h63, rfl⟩ := H 35 ⟨.guard, by simp, rfl⟩ 63 _ rfl rfl
    have HI := Lib.hid hi
    clear H F hi
    have kq : wx.cell? ⟨g1, 0, none⟩ = some (.slice a0 n0 c0) := (Whole.under HI.out KQ.out (Whole.lt KQ.out)).cell 0
    go_wp2_with fail
    exact hK _ _ (Below.refl _ _) rfl
  · intro a wx Q' hi H F hK
    obtain ⟨_, h65, rfl⟩ := H 37 ⟨.data, by simp, rfl⟩ 65 _ rfl rfl
    obtain ⟨_, h63, rfl⟩ := H 35 ⟨.guard, by simp, rfl⟩ 63 _ rfl rfl
    have HI := Lib.hid hi
    clear H F hi
    go_wp2_with fail
    exact hK _ _ (Below.refl _ _) rfl
  · intro a wx Q' hi H F hK
    obtain ⟨_, h63, rfl⟩ := H 35 ⟨.guard, by simp, rfl⟩ 63 _ rfl rfl
    have h2 : a.tmps[2]? = some (.pointer (some ⟨w.heap.size, 0, none⟩)) := F 2 rfl
    have HI := Lib.hid hi
    clear H F hi
    go_wp2_with fail
    exact hK _ _ (Below.refl _ _) rfl
  · intro a wx Q' hi H F hK
    obtain ⟨_, h67, rfl⟩ := H 39 ⟨.data, by simp, rfl⟩ 67 _ rfl rfl
    obtain ⟨_, h63, rfl⟩ := H 35 ⟨.guard, by simp, rfl⟩ 63 _ rfl rfl
    have HI := Lib.hid hi
    clear H F hi
    have kq : wx.cell? ⟨w.heap.size, 0, none⟩ = some (.slice x0 n0 k0) := (Whole.under HI.out KP.out (Whole.lt KP.out)).cell 0
    go_wp2_with fail
    exact hK _ _ (Below.refl _ _) rfl
  · intro a wx Q' hi H F hK
    obtain ⟨_, h68, rfl⟩ := H 40 ⟨.data, by simp, rfl⟩ 68 _ rfl rfl
    obtain ⟨_, h63, rfl⟩ := H 35 ⟨.guard, by simp, rfl⟩ 63 _ rfl rfl
    have HI := Lib.hid hi
    clear H F hi
    go_wp2_with fail
    exact hK _ _ (Below.refl _ _) rfl
  · intro a wx Q' hi H F hK
    obtain ⟨_, h66, rfl⟩ := H 38 ⟨.data, by simp, rfl⟩ 66 _ rfl rfl
    obtain ⟨_, h69, rfl⟩ := H 41 ⟨.data, by simp, rfl⟩ 69 _ rfl rfl
    obtain ⟨_, h63, rfl⟩ := H 35 ⟨.guard, by simp, rfl⟩ 63 _ rfl rfl
    have HI := Lib.hid hi
    clear H F hi
    go_wp2_with fail
    exact hK _ _ (Below.refl _ _) rfl
  · intro a wx Q' hi H F hK
    obtain ⟨_, h63, rfl⟩ := H 35 ⟨.data, by simp, rfl⟩ 63 _ rfl rfl
    obtain ⟨_, h70, rfl⟩ := H 42 ⟨.data, by simp, rfl⟩ 70 _ rfl rfl
    have HI := Lib.hid hi
    clear H F hi
    go_wp2_with fail
    exact hK _ _ (Below.refl _ _) rfl
  · intro a wx Q' hi H F hK
    obtain ⟨_, h71, rfl⟩ := H 43 ⟨.data, by simp, rfl⟩ 71 _ rfl rfl
    have HI := Lib.hid hi
    clear H F hi
    go_wp2_with fail
    exact hK _ _ (Below.refl _ _) rfl
  · intro a wx Q' hi H F hK
    obtain ⟨_, h72, rfl⟩ := H 44 ⟨.guard, by simp, rfl⟩ 72 _ rfl rfl
    have h5 : a.tmps[5]? = some (.pointer (some ⟨g1, 0, none⟩)) := F 5 rfl
    have HI := Lib.hid hi
    clear H F hi
    go_wp2_with fail
    exact hK _ _ (Below.refl _ _) rfl
  · intro a wx Q' hi H F hK
    obtain ⟨_, h73, rfl⟩ := H 45 ⟨.data, by simp, rfl⟩ 73 _ rfl rfl
    obtain ⟨_, h72, rfl⟩ := H 44 ⟨.guard, by simp, rfl⟩ 72 _ rfl rfl
    have HI := Lib.hid hi
    clear H F hi
    have kq : wx.cell? ⟨g1, 14, none⟩ = some (.slice a14 n14 c14) := (Whole.under HI.out KQ.out (Whole.lt KQ.out)).cell 14
    go_wp2_with fail
    exact hK _ _ (Below.refl _ _) rfl
  · intro a wx Q' hi H F hK
    obtain ⟨_, h74, rfl⟩ := H 46 ⟨.data, by simp, rfl⟩ 74 _ rfl rfl
    obtain ⟨_, h72, rfl⟩ := H 44 ⟨.guard, by simp, rfl⟩ 72 _ rfl rfl
    have HI := Lib.hid hi
    clear H F hi
    go_wp2_with fail
    exact hK _ _ (Below.refl _ _) rfl
  · intro a wx Q' hi H F hK
    obtain ⟨_, h72, rfl⟩ := H 44 ⟨.guard, by simp, rfl⟩ 72 _ rfl rfl
    have h2 : a.tmps[2]? = some (.pointer (some ⟨w.heap.size, 0, none⟩)) := F 2 rfl
    have HI := Lib.hid hi
    clear H F hi
    go_wp2_with fail
    exact hK _ _ (Below.refl _ _) rfl
  · intro a wx Q' hi H F hK
    obtain ⟨_, h76, rfl⟩ := H 48 ⟨.data, by simp, rfl⟩ 76 _ rfl rfl
    obtain ⟨_, h72, rfl⟩ := H 44 ⟨.guard, by simp, rfl⟩ 72 _ rfl rfl
    have HI := Lib.hid hi
    clear H F hi
    have kq : wx.cell? ⟨w.heap.size, 14, none⟩ = some (.slice x14 n14 k14) := (Whole.under HI.out KP.out (Whole.lt KP.out)).cell 14
    go_wp2_with fail
    exact hK _ _ (Below.refl _ _) rfl
  · intro a wx Q' hi H F hK
    obtain ⟨_, h77, rfl⟩ := H 49 ⟨.data, by simp, rfl⟩ 77 _ rfl rfl
    obtain ⟨_, h72, rfl⟩ := H 44 ⟨.guard, by simp, rfl⟩ 72 _ rfl rfl
    have HI := Lib.hid hi
    clear H F hi
    go_wp2_with fail
    exact hK _ _ (Below.refl _ _) rfl
  · intro a wx Q' hi H F hK
    obtain ⟨_, h75, rfl⟩ := H 47 ⟨.data, by simp, rfl⟩ 75 _ rfl rfl
    obtain ⟨_, h78, rfl⟩ := H 50 ⟨.data, by simp, rfl⟩ 78 _ rfl rfl
    obtain ⟨_, h72, rfl⟩ := H 44 ⟨.guard, by simp, rfl⟩ 72 _ rfl rfl
    have HI := Lib.hid hi
    clear H F hi
    go_wp2_with fail
    exact hK _ _ (Below.refl _ _) rfl
  · intro a wx Q' hi H F hK
    obtain ⟨_, h72, rfl⟩ := H 44 ⟨.data, by simp, rfl⟩ 72 _ rfl rfl
    obtain ⟨_, h79, rfl⟩ := H 51 ⟨.data, by simp, rfl⟩ 79 _ rfl rfl
    have HI := Lib.hid hi
    clear H F hi
    go_wp2_with fail
    exact hK _ _ (Below.refl _ _) rfl
  · intro a wx Q' hi H F hK
    obtain ⟨_, h80, rfl⟩ := H 52 ⟨.data, by simp, rfl⟩ 80 _ rfl rfl
    have HI := Lib.hid hi
    clear H F hi
    go_wp2_with fail
    exact hK _ _ (Below.refl _ _) rfl
  · intro a wx Q' hi H F hK
    obtain ⟨_, h81, rfl⟩ := H 53 ⟨.guard, by simp, rfl⟩ 81 _ rfl rfl
    have HI := Lib.hid hi
    clear H F hi
    go_wp2_with (go_at_call 12; go_must (refine (awake_any _).mono ?_; rintro e w1 ⟨rfl, hb1⟩))
    exact hK _ _ hb1 rfl
  · intro a wx Q' hi H F hK
    obtain ⟨_, h81, rfl⟩ := H 53 ⟨.data, by simp, rfl⟩ 81 _ rfl rfl
    obtain ⟨_, h82, rfl⟩ := H 54 ⟨.data, by simp, rfl⟩ 82 _ rfl rfl
    have HI := Lib.hid hi
    clear H F hi
    go_wp2_with fail
    exact hK _ _ (Below.refl _ _) rfl
  · intro a wx Q' hi H F hK
    obtain ⟨_, h83, rfl⟩ := H 55 ⟨.data, by simp, rfl⟩ 83 _ rfl rfl
    have HI := Lib.hid hi
    clear H F hi
    go_wp2_with fail
    exact hK _ _ (Below.refl _ _) rfl
  · rintro ⟨tmps, defers⟩ wx hR
    obtain ⟨_, h4, rfl⟩ := hR.done 56 rfl 4 _ rfl rfl
    obtain rfl := hR.defers
    have HG := Lib.hid (HB5.out.trans (hR.inv.mono HB5.out.size))
    clear hR
    go_wp2_with fail
    refine bodyPost_ret (v := .bool true) ?_ rfl ⟨rfl, HG.out⟩
    simp [results, Try.results4, h4]
set_option maxRecDepth 100000 in
set_option maxHeartbeats 1000000 in
theorem modeTypes_big (p : Pol) (l : List Ty) (z : Value) (zs : List Int) (w : World) (hp : p.At w l) (hz : SliceAt w z 1 zs.length (intCells zs)) (h : 300 < l.length ∨ (l.length ≤ 300 ∧ 60 < zs.length)) :
    Calls Try.prog 4 #[p.val, z] w fun e w' => e = .returned (.bool true) ∧ Below w.heap.size w w' := by
  obtain ⟨za, zc, rfl⟩ := hz.shape
  obtain ⟨v0, v1, v2, v3, v4, v5, v6, v7, v8, v9, v10, v11, v12, v13, v14, v15, v16⟩ := p
  obtain ⟨pa, pcap, hv1⟩ := hp.s1.1.shape
  dsimp only at hv1
  subst hv1
  unfold Pol.val
  have hc1 := (Whole.new w 48 #[v0, .slice pa l.length pcap, v2, v3, v4, v5, v6, v7, v8, v9, v10, v11, v12, v13, v14, v15, v16]).cell 1
  clear hp hz
  rcases h with h | ⟨h, h'⟩
  · have t1 : (300 : Int) < (l.length : Int) := by omega
    clear h
    go_enter Try.func4, Try.ntmps4
    go_wp2_with (go_at_call 12; go_must (refine (awake_any _).mono ?_; rintro e w1 ⟨rfl, hb1⟩; have HG := Lib.hid (below_of_alloc (by simpa using hb1)); clear hb1))
    go_ret
    exact ⟨rfl, HG.out⟩
  · have t1 : ¬ (300 : Int) < (l.length : Int) := by omega
    have t2 : (60 : Int) < (zs.length : Int) := by omega
    clear h h'
    go_enter Try.func4, Try.ntmps4
    go_wp2_with (go_at_call 12; go_must (refine (awake_any _).mono ?_; rintro e w1 ⟨rfl, hb1⟩; have HG := Lib.hid (below_of_alloc (by simpa using hb1)); clear hb1))
    go_ret
    exact ⟨rfl, HG.out⟩

theorem modeTypes_any (p : Pol) (l : List Ty) (z : Value) (zs : List Int) (w : World) (hp : p.At w l) (hz : SliceAt w z 1 zs.length (intCells zs)) :
    Calls Try.prog 4 #[p.val, z] w fun e w' => e = .returned (.bool true) ∧ Below w.heap.size w w' := by
  by_cases h1 : 300 < l.length
  · exact modeTypes_big p l z zs w hp hz (.inl h1)
  · by_cases h2 : 60 < zs.length
    · exact modeTypes_big p l z zs w hp hz (.inr ⟨by omega, h2⟩)
    · exact modeTypes_core p l z zs w hp hz (by omega) (by omega)
end Go.Proofs.Ytjpfnndfhbglgaa

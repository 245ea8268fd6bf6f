import Derived.WalkKit
import Derived.WalkSpells
import Derived.WalkLawsBesides
import Derived.Handy
import Derived.BigQuiet
import Derived.Outline
import Derived.Deep.RegionHeld3
import Derived.Deep.DeepCutAuto
import Derived.Deep.DeepMust
import Derived.Deep.DeepFit
import Derived.Deep.LoopGhost
import Derived.Lib.Hide
import Derived.IntWalk
import Derived.Deep.CutBlock
import Derived.Deep.RegionWith
import Derived.Test.YtibikehfeobikaaE
import Derived.Test.YtibikehfeobikaaG
/-
  THE CONTRACT of Set.
-/
namespace Go.Proofs.Ytibikehfeobikaa
open Go.RowKit

/-- So many numbers, one after the other. -/
def getNums : Nat → List Nat → List Nat × List Nat × Int
  | 0, l => ([], l, 0)
  | k + 1, l => if (number l).2.2 ≠ 0 then ([], [], (number l).2.2) else ((number l).1 :: (getNums k (number l).2.1).1, (getNums k (number l).2.1).2.1, (getNums k (number l).2.1).2.2)
def setF (l : List Nat) : List Nat × List Nat × Int :=
  if (number l).2.2 ≠ 0 then ([0, 0, 0, 0], [], (number l).2.2) else if 4 < (number l).1 then ([0, 0, 0, 0], [], 6)
  else if (getNums (number l).1 (number l).2.1).2.2 ≠ 0 then ([0, 0, 0, 0], [], (getNums (number l).1 (number l).2.1).2.2)
  else if 0 < (number l).1 ∧ (getNums (number l).1 (number l).2.1).1[(number l).1 - 1]? = some 0 then ([0, 0, 0, 0], [], 6)
  else ((getNums (number l).1 (number l).2.1).1 ++ List.replicate (4 - (number l).1) 0, (getNums (number l).1 (number l).2.1).2.1, 0)

/-- The cells of a set of which the first numbers are known, the others 0. -/
def arr4 (xs : List Nat) : Array Value := ((xs ++ List.replicate (4 - xs.length) 0).map fun (x : Nat) => Value.int .u64 (x : Int)).toArray
theorem arr4_size {xs : List Nat} (h : xs.length ≤ 4) : (arr4 xs).size = 4 := by simp [arr4]; omega
theorem arr4_one (xs : List Nat) : (arr4 xs).toList.all (·.oneCell') = true := by
  simp [arr4, Value.oneCell']
theorem arr4_set {xs : List Nat} (h : xs.length < 4) (x : Nat) : (arr4 xs).setIfInBounds xs.length (.int .u64 (x : Int)) = arr4 (xs ++ [x]) := by
  match xs, h with
  | [], _ => rfl
  | [a], _ => rfl
  | [a, b], _ => rfl
  | [a, b, c], _ => rfl
theorem arr4_at {xs : List Nat} {j x : Nat} (h : xs[j]? = some x) : (arr4 xs)[j]? = some (.int .u64 (x : Int)) := by
  have hj := (List.getElem?_eq_some_iff.1 h).1
  simp only [arr4, List.getElem?_toArray, List.getElem?_map, List.getElem?_append_left hj, h, Option.map_some]
theorem arr4_zero {xs : List Nat} {j : Nat} (h : xs.length = j) (hj : j < 4) : (arr4 xs)[j]? = some (.int .u64 0) := by
  subst h
  match xs, hj with
  | [], _ => rfl
  | [a], _ => rfl
  | [a, b], _ => rfl
  | [a, b, c], _ => rfl
theorem arr4_pad {xs : List Nat} {n : Nat} (h : xs.length = n) (hn : n ≤ 4) : arr4 (xs ++ List.replicate (4 - n) 0) = arr4 xs := by
  subst h
  match xs, hn with
  | [], _ => rfl
  | [a], _ => rfl
  | [a, b], _ => rfl
  | [a, b, c], _ => rfl
  | [a, b, c, d], _ => rfl
theorem wpList_load_row_g {P : Program} {ops : Array Oper} {rest : List Oper} {o : Oper} {a : Act} {w : World} {Q : Exit → Act → World → Prop} (hgd : Region.wanted o (yielded ops a.tmps) = true) (ty : TypeId) (x : Operand) (ho : o.op = .load ty x)
    (g : Nat) (hx : a.eval x = .pointer (some ⟨g, 0, none⟩)) (t : TypeId) (cs : Array Value) (fr : Nat × Nat) (d : TypeDesc) (hg : w.heap[g]? = some (.cells cs t fr))
    (hu : P.underlying ty = some d) (hd : (match d with | .struct _ | .array _ _ => true | _ => false) = true) (hi : (P.info? ty).map (·.size) = some cs.size)
    (h : wpList P ops Q rest (a.put o.dst (.agg cs)) w) : wpList P ops Q (o :: rest) a w :=
  wpList_step fun _ hK => by rw [if_pos hgd]; exact wp_load_row ty x ho g hx t cs fr d hg hu hd hi (hK _ _ h)
theorem splice_arr {xs : List Nat} (cs : Array Value) (hc : cs.size = 4) (h : xs.length ≤ 4) : splice cs 0 (arr4 xs).toList = arr4 xs := by
  have hl : (arr4 xs).toList.length = 4 := by rw [Array.length_toList]; exact arr4_size h
  apply Array.toList_inj.1
  rw [splice_toList _ _ _ (by omega), Nat.zero_add, hl]
  simp [hc]
theorem size34 : (Try.prog.info? 34).map (·.size) = some 4 := by kernel_rfl

theorem results22' (tmps : Array Value) (w : World) (g : Nat) (cs : Array Value) (r e : Value) (h2 : tmps.getD 2 undef = .pointer (some ⟨g, 0, none⟩)) (h3 : tmps.getD 3 undef = r) (h4 : tmps.getD 4 undef = e) (hW : Whole w g 34 cs) (hs : cs.size = 4) :
    (results Try.f22 tmps).run Try.prog w = .ok (.tuple #[.agg cs, r, e]) w := by
  have hl := run_loadVar_row (P := Try.prog) w g 34 34 cs (0, 0) _ hW Try.underlying34 rfl (by rw [size34, hs])
  simp only [Array.getD_eq_getD_getElem?] at h2 h3 h4
  simp [results, Try.results22, h2, h3, h4, asAddr, hl]

set_option maxRecDepth 100000 in
set_option maxHeartbeats 2000000 in
theorem set_any (v : Value) (l : List Nat) (w : World) (h : BytesAt w v l) :
    Calls Try.prog 22 #[v] w fun e w' => ∃ r, e = .returned (.tuple #[.agg (arr4 (setF l).1), r, .int .i64 (setF l).2.2]) ∧ BytesAt w' r (setF l).2.1 ∧ Below w.heap.size w w' := by
  have hb2 : Below w.heap.size w ((w.alloc (.cells #[.int .u64 0, .int .u64 0, .int .u64 0, .int .u64 0] 34)).alloc (.cells #[.int .u64 0, .int .u64 0, .int .u64 0, .int .u64 0] 34)) := by go_grown
  obtain ⟨hw1, hw2⟩ := heap_two w (.cells #[.int .u64 0, .int .u64 0, .int .u64 0, .int .u64 0] 34) (.cells #[.int .u64 0, .int .u64 0, .int .u64 0, .int .u64 0] 34)
  have HC := Lib.hid (number_sub v l _ (h.keep hb2))
  have HV := Lib.hid h
  have hs : setF l = if (number l).2.2 ≠ 0 then ([0, 0, 0, 0], [], (number l).2.2) else if 4 < (number l).1 then ([0, 0, 0, 0], [], 6)
      else if (getNums (number l).1 (number l).2.1).2.2 ≠ 0 then ([0, 0, 0, 0], [], (getNums (number l).1 (number l).2.1).2.2)
      else if 0 < (number l).1 ∧ (getNums (number l).1 (number l).2.1).1[(number l).1 - 1]? = some 0 then ([0, 0, 0, 0], [], 6)
      else ((getNums (number l).1 (number l).2.1).1 ++ List.replicate (4 - (number l).1) 0, (getNums (number l).1 (number l).2.1).2.1, 0) := rfl
  generalize number l = p at HC hs
  obtain ⟨n, rl, e⟩ := p
  dsimp only at HC hs
  have HS := Lib.hid hs
  have HB2 := Lib.hid hb2
  have HW1 := Lib.hid (show Whole _ w.heap.size 34 #[.int .u64 0, .int .u64 0, .int .u64 0, .int .u64 0] from hw1)
  have HW2 := Lib.hid (show Whole _ (w.heap.size + 1) 34 #[.int .u64 0, .int .u64 0, .int .u64 0, .int .u64 0] from hw2)
  clear hs h hb2 hw1 hw2
  by_cases he : e = 0
  · subst he
    by_cases h1 : 4 < n
    · have HE := Lib.hid (show setF l = ([0, 0, 0, 0], [], 6) by rw [HS.out]; simp [h1])
      go_enter Try.func22, Try.ntmps22
      go_wp2_with (go_at_call 19; go_must (refine HC.out.mono ?_; rintro e w' ⟨r, rfl, hr, rfl⟩; have HR := Lib.hid hr; clear hr))
      refine bodyPost_ret (results22' _ _ w.heap.size _ _ _ rfl rfl rfl HW1.out rfl) rfl ?_
      rw [HE.out]
      exact ⟨_, rfl, BytesAt.nil _, HB2.out⟩
    · go_enter Try.func22, Try.ntmps22
      go_wp2_with (go_at_call 19; go_must (refine HC.out.mono ?_; rintro e w' ⟨r, rfl, hr, rfl⟩; have HR := Lib.hid hr; clear hr))
      generalize (w.alloc (.cells #[.int .u64 0, .int .u64 0, .int .u64 0, .int .u64 0] 34)).alloc (.cells #[.int .u64 0, .int .u64 0, .int .u64 0, .int .u64 0] 34) = wc at *
      go_loopw [7, 8, 27] (fun u ee i wr => ∃ (j : Nat) (xs rr : List Nat), j ≤ n ∧ i = .int .i64 j ∧ Hid (xs.length = j) ∧ Hid (Sub v l u rr) ∧ ee = .int .i64 0 ∧ Hid (Whole wr (w.heap.size + 1) 34 (arr4 xs)) ∧ Hid (Whole wr w.heap.size 34 #[.int .u64 0, .int .u64 0, .int .u64 0, .int .u64 0]) ∧ Hid (Below w.heap.size w wr) ∧
        Hid (getNums n rl = (xs ++ (getNums (n - j) rr).1, (getNums (n - j) rr).2.1, (getNums (n - j) rr).2.2))) (fun _ _ i _ => n - (intOf i).toNat)
      case atStart => exact ⟨0, [], rl, Nat.zero_le _, rfl, rfl, HR.out, rfl, HW2.out, HW1.out, HB2.out, rfl⟩
      case round =>
        obtain ⟨j, xs, rr, hj, rfl, hxl, hsub, rfl, hw2, hw1, hb, heq⟩ := hrel
        have hV := HV.out.keep hb.out
        by_cases hlt : j < n
        · have HC2 := Lib.hid (number_sub _ rr wr (hsub.out wr hV))
          have hgn : getNums (n - j) rr = if (number rr).2.2 ≠ 0 then ([], [], (number rr).2.2) else ((number rr).1 :: (getNums (n - (j + 1)) (number rr).2.1).1, (getNums (n - (j + 1)) (number rr).2.1).2.1, (getNums (n - (j + 1)) (number rr).2.1).2.2) := by
            rw [show n - j = n - (j + 1) + 1 by omega, getNums]
          generalize number rr = q at HC2 hgn
          obtain ⟨n0, rl', e'⟩ := q
          dsimp only at HC2 hgn
          have HGN := Lib.hid hgn
          have hj4 : j < 4 := by omega
          obtain ⟨kc, kf⟩ := hw2.out.both j _ (arr4_zero (by rw [hxl.out]) hj4)
          have S := Lib.hid (Sto.cell wr (w.heap.size + 1) j (.int .u64 (n0 : Int)))
          have HWs := Lib.hid (S.out.whole hw1.out (by omega))
          have HWt := Lib.hid (show Whole (wr.setCell ⟨w.heap.size + 1, j, none⟩ (.int .u64 (n0 : Int))) (w.heap.size + 1) 34 (arr4 (xs ++ [n0])) by
            have h := heap_setCell_same wr (w.heap.size + 1) j _ 34 (.int .u64 (n0 : Int)) hw2.out
            have e := arr4_set (xs := xs) (by rw [hxl.out]; exact hj4) n0
            rw [hxl.out] at e
            rw [e] at h
            exact h)
          have HBs := Lib.hid (hb.out.trans (S.out.below (by omega)))
          clear hgn hw1 hw2 hV hj4
          by_cases he' : e' = 0
          · subst he'
            go_wp2_with (go_at_call 19; go_must (refine HC2.out.mono ?_; rintro e w' ⟨r', rfl, hr, rfl⟩; have HR' := Lib.hid hr; clear hr))
            go_roundw
            case rel => exact ⟨j + 1, xs ++ [n0], rl', by omega, by go_num, Lib.hid (by rw [List.length_append, hxl.out]; rfl), fun W hW => HR'.out W (hsub.out W hW), rfl, HWt.out, HWs.out, HBs.out, Lib.hid (by
              rw [heq.out, HGN.out, if_neg (by simp)]
              simp only [List.append_assoc, List.singleton_append])⟩
            case measure => simp [intOf]; omega
          · have ht : (e' != 0) = true := by simpa using he'
            have HE := Lib.hid (show setF l = ([0, 0, 0, 0], [], e') by rw [HS.out, heq.out, HGN.out]; simp [he', h1])
            clear he'
            go_wp2_with (first
              | (go_at_call 19; go_must (refine HC2.out.mono ?_; rintro e w' ⟨r', rfl, hr, rfl⟩; have HR' := Lib.hid hr; clear hr))
              | (refine wpList_store_blk rfl 34 _ _ rfl w.heap.size 0 (.agg _) rfl rfl 34 _ HWs.out (by simp [Value.cells]) size34 rfl ?_))
            intro w2 S2 W2
            have HW3 := Lib.hid W2
            have HB3 := Lib.hid (HBs.out.trans (S2.below (Nat.le_refl _)))
            clear W2 S2
            go_wp2_with fail
            refine bodyPost_ret (results22' _ _ w.heap.size _ _ _ rfl rfl rfl HW3.out rfl) rfl ?_
            rw [HE.out]
            exact ⟨_, rfl, BytesAt.nil _, HB3.out⟩
        · obtain rfl : j = n := by omega
          have hg : getNums j rl = (xs, rr, 0) := by rw [heq.out]; simp [getNums]
          have HL4' := hxl
          have HJ4 := Lib.hid (show j ≤ 4 by omega)
          have HL4 := Lib.hid (show xs.length ≤ 4 by rw [hxl.out]; omega)
          by_cases h0 : j = 0
          · have HE := Lib.hid (show setF l = (xs ++ List.replicate (4 - j) 0, rr, 0) by rw [HS.out, hg]; simp [h0])
            subst h0
            clear hg heq hV
            go_wp2_with (first
              | (refine wpList_load_row_g rfl 34 _ rfl (w.heap.size + 1) rfl 34 _ (0, 0) _ hw2.out Try.underlying34 rfl (by rw [size34, arr4_size HL4.out]) ?_)
              | (refine wpList_store_blk rfl 34 _ _ rfl w.heap.size 0 (.agg _) rfl rfl 34 _ hw1.out (by simp [Value.cells, arr4_size HL4.out]) (by rw [size34]; simp [Value.cells, arr4_size HL4.out]) (arr4_one _) ?_))
            intro w2 S2 W2
            have HW3 := Lib.hid (show Whole w2 w.heap.size 34 (arr4 xs) by rw [← splice_arr (xs := xs) #[.int .u64 0, .int .u64 0, .int .u64 0, .int .u64 0] rfl HL4.out]; exact W2)
            have HB3 := Lib.hid (hb.out.trans (S2.below (Nat.le_refl _)))
            have HB4 := Lib.hid (hsub.out w2 (HV.out.keep HB3.out))
            clear W2 S2
            go_wp2_with fail
            refine bodyPost_ret (results22' _ _ w.heap.size _ _ _ rfl rfl rfl HW3.out (arr4_size HL4.out)) rfl ?_
            rw [HE.out]
            exact ⟨_, by rw [arr4_pad HL4'.out HJ4.out]; rfl, HB4.out, HB3.out⟩
          · obtain ⟨j, rfl⟩ : ∃ j', j = j' + 1 := ⟨j - 1, by omega⟩
            obtain ⟨x, hx⟩ : ∃ x, xs[j]? = some x := ⟨_, List.getElem?_eq_getElem (by rw [hxl.out]; omega)⟩
            have kc : wr.cell? ⟨w.heap.size + 1, j, none⟩ = some (.int .u64 (x : Int)) := by rw [hw2.out.cell]; exact arr4_at hx
            by_cases hx0 : x = 0
            · have HE := Lib.hid (show setF l = ([0, 0, 0, 0], [], 6) by rw [HS.out, hg]; subst hx0; simp [hx, h1])
              subst hx0
              clear hg heq hV hx
              go_wp2_with (refine wpList_store_blk rfl 34 _ _ rfl w.heap.size 0 (.agg _) rfl rfl 34 _ hw1.out (by simp [Value.cells]) size34 rfl ?_)
              intro w2 S2 W2
              have HW3 := Lib.hid W2
              have HB3 := Lib.hid (hb.out.trans (S2.below (Nat.le_refl _)))
              clear W2 S2
              go_wp2_with fail
              refine bodyPost_ret (results22' _ _ w.heap.size _ _ _ rfl rfl rfl HW3.out rfl) rfl ?_
              rw [HE.out]
              exact ⟨_, rfl, BytesAt.nil _, HB3.out⟩
            · have ht : ((x : Int) == 0) = false := by simp; omega
              have HE := Lib.hid (show setF l = (xs ++ List.replicate (4 - (j + 1)) 0, rr, 0) by rw [HS.out, hg]; simp [hx, h1, hx0])
              clear hg heq hV hx hx0
              go_wp2_with (first
                | (refine wpList_load_row_g rfl 34 _ rfl (w.heap.size + 1) rfl 34 _ (0, 0) _ hw2.out Try.underlying34 rfl (by rw [size34, arr4_size HL4.out]) ?_)
                | (refine wpList_store_blk rfl 34 _ _ rfl w.heap.size 0 (.agg _) rfl rfl 34 _ hw1.out (by simp [Value.cells, arr4_size HL4.out]) (by rw [size34]; simp [Value.cells, arr4_size HL4.out]) (arr4_one _) ?_))
              intro w2 S2 W2
              have HW3 := Lib.hid (show Whole w2 w.heap.size 34 (arr4 xs) by rw [← splice_arr (xs := xs) #[.int .u64 0, .int .u64 0, .int .u64 0, .int .u64 0] rfl HL4.out]; exact W2)
              have HB3 := Lib.hid (hb.out.trans (S2.below (Nat.le_refl _)))
              have HB4 := Lib.hid (hsub.out w2 (HV.out.keep HB3.out))
              clear W2 S2
              go_wp2_with fail
              refine bodyPost_ret (results22' _ _ w.heap.size _ _ _ rfl rfl rfl HW3.out (arr4_size HL4.out)) rfl ?_
              rw [HE.out]
              exact ⟨_, by rw [arr4_pad HL4'.out HJ4.out]; rfl, HB4.out, HB3.out⟩
  · have ht : (e != 0) = true := by simpa using he
    have HE := Lib.hid (show setF l = ([0, 0, 0, 0], [], e) by rw [HS.out]; simp [he])
    clear he
    go_enter Try.func22, Try.ntmps22
    go_wp2_with (first | (go_at_call 19; go_must (refine HC.out.mono ?_; rintro e w' ⟨r, rfl, hr, rfl⟩; have HR := Lib.hid hr; clear hr)))
    refine bodyPost_ret (results22' _ _ w.heap.size _ _ _ rfl rfl rfl HW1.out rfl) rfl ?_
    rw [HE.out]
    exact ⟨_, rfl, BytesAt.nil _, HB2.out⟩
end Go.Proofs.Ytibikehfeobikaa

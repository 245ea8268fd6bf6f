import Derived.Test.YtmkfabdkadocdaaDoorT1
import Derived.Test.YtmkfabdkadocdaaDoorO5
import Derived.Test.YtmkfabdkadocdaaDoorN6
import Derived.Test.YtmkfabdkadocdaaDoorTie
import Derived.Test.YtmkfabdkadocdaaDoorCards
import Derived.ProofKit
import Derived.LaidMore
import Derived.OpenShut
import Derived.SizedLaws
import Derived.Stop.Joined
/-
  A law's row out of its walk, the library's table laid; the arguments opened.
-/
namespace Go.Proofs.YtmkfabdkadocdaaDoor
open Go.RowKit Go.ChangeShapes Go.WideShapes Go.ChangeAt

theorem ownT : ownKnob Tryd.prog.godebug = none := by kernel_rfl
theorem gTab : Tryd.prog.globalNamed "math/bits.deBruijn64tab" = some 0 := by kernel_rfl
theorem tTab : (Tryd.prog.globals[0]?).map (·.type) = some 130 := by kernel_rfl
def laidT : List (String × DataW Unit) := [("math/bits.deBruijn64tab", Rows.laid_math_bits_deBruijn64tab)]
theorem door_met (os : Os) (args : Array Value) : laidMetH Tryd.prog laidT ((World.doorLaid Tryd.prog 400 os).forCall (fun _ _ => 0) ⟨#[], args, []⟩).memory :=
  laidMetH_of_parts3 (fuel := 8) (laidMet_of_run' 8 (by kernel_rfl) (by kernel_rfl)) (by kernel_rfl) (by kernel_rfl)
theorem tab_data : (Rows.laid_math_bits_deBruijn64tab : DataW Unit) = .agg (Lib.deBruijn64tab.map fun n : Nat => .lit (.int .u8 (n : Int))) := by rfl
theorem of_laid {W : World} (h : laidMetH Tryd.prog laidT W) : Tab W := by
  rw [MakeChecks.laidMetH_plain _ _ _ (by kernel_rfl)] at h
  obtain ⟨ps, ⟨g0, t0, cs0, f0, p0, q0, hg0, ht0, hv0, hd0, _, _⟩, _, _⟩ := h
  obtain rfl := Option.some.inj (gTab.symm.trans hg0)
  obtain rfl := Option.some.inj (tTab.symm.trans ht0)
  rw [tab_data] at hd0
  obtain ⟨xs, m1, rfl, hx1, hlen, hn3, hel⟩ := DataW.trod_array Tryd.underlying130 hd0
  have c5 : Tryd.prog.cellsOf 5 = 1 := by kernel_rfl
  simp only [Prod.mk.injEq, DataW.agg.injEq] at hx1
  intro j hj
  rw [tab_len] at hj
  have hj' : j < xs.length := by rw [hn3]; exact hj
  have h0 := hel j (by omega)
  rw [List.getElem?_eq_getElem hj'] at h0
  obtain ⟨k, e1, e2, _⟩ := DataW.trod_int Tryd.underlying5 h0
  have hk : k = ((Lib.deBruijn64tab.getD j 0 : Nat) : Int) := by
    have h1 := congrArg (fun l : List (DataW Unit) => l[j]?) hx1.1
    simp only [List.getElem?_map] at h1
    rw [List.getElem?_eq_getElem hj', List.getElem?_eq_getElem (by rw [tab_len]; exact hj)] at h1
    simp only [Option.map_some, Option.some.injEq] at h1
    rw [e2] at h1
    simp only [DataW.lit.injEq, Lit.int.injEq] at h1
    rw [List.getD_eq_getElem?_getD, List.getElem?_eq_getElem (by rw [tab_len]; exact hj)]
    have h3 : ((Lib.deBruijn64tab[j]'(by rw [tab_len]; exact hj) : Nat) : Int) = k := by simpa using h1
    rw [← h3]
    simp
  subst hk
  have := World.var?_cell hg0 hv0 j
  rw [this]
  rw [c5, Nat.mul_one] at e1
  have h2 := congrArg (fun l : List Value => l[0]?) e1
  simp only [List.getElem?_take, List.getElem?_drop] at h2
  simpa using h2
section
variable {H : Type} {enc : TypeId × Value → H}
theorem law_lifted_laid {C : Checked} {os : Os} {f : FuncId} {fn : Func} {s : ChangeSpec} {X : World → Prop} (hX : ∀ (w w' : World), w.heap = w'.heap → X w → X w') (own : ownKnob C.prog.godebug = none) (laid : laidOutB C.prog = true) (started : os.Started)
    (noInit : C.prog.inits.idxOf? f = none) (hfn : C.prog.funcs[f]? = some fn) (hv : s.vars = []) (tb : TypeId) (hres : fn.resultTypes = #[tb]) (hb : C.prog.underlying tb = some .bool)
    (hpar : fn.params.toList.all (fun t => isVar C.prog t && C.prog.readableRec t) = true)
    (hspec : ∀ ds : List (DataW H), ds.length = fn.params.toList.length → s.fn H ds = { results := [.lit (.bool true)], args := ds })
    (witness : ∃ (w : World) (tape : Tape) (i : Input), w.os = os ∧ (w.forCall tape i).Shaped C.prog ∧ i.vars = [] ∧ Input.okWide C.prog (w.forCall tape i) .any w.heap.size f i ∧
      ((s.pre enc C.prog fn [] false (w.forCall tape i).memory i.args ∧ X (w.forCall tape i).memory) ∧ sizedMet enc C.prog fn (OpenSpec.ofChange s) false (w.forCall tape i).memory i.args) ∧ ({} : Assume).holds C.prog (lone (Frame.enter C.prog f i.args .normal) [] (w.forCall tape i)))
    (contract : ∀ (W : World) (args : Array Value), Args C.prog W fn.params.toList args.toList → X W → Calls C.prog f args W fun e W' => e = .returned (.bool true) ∧ Below W.heap.size W W') :
    ReturnsInHanded {} C os f .any (fun w args => (s.pre enc C.prog fn [] false w args ∧ X w) ∧ sizedMet enc C.prog fn (OpenSpec.ofChange s) false w args) (s.post enc C.prog fn false true false false) := by
  refine returnsInHanded_of_change_and (C := C) (X := fun w _ => X w) (fun w w' _ hh h => hX w w' hh h) own started noInit hfn witness ?_
  intro W base args ds gs before hval hW _ hsz hL _
  have hW' := hW
  obtain ⟨p, q, hA, hV, rfl, _, _⟩ := hW
  rw [hv] at hV
  obtain ⟨rfl, rfl⟩ := trodVars_none hV
  have hp : ∀ t ∈ fn.params.toList, isVar C.prog t = true ∧ C.prog.readableRec t = true := fun t ht => by
    have := List.all_eq_true.1 hpar t ht
    simpa using this
  have hw : ∀ n ∈ DataW.weightsEach C.prog fn.params.toList ds, n ≤ reachBytes := fun n hn => by
    have := List.all_eq_true.1 hsz n (by
      have : s.plain.varTypes C.prog = [] := by simp [ChangeSpec.plain, DataSpec.varTypes, hv]
      rw [this, List.append_nil, List.append_nil]
      exact hn)
    simpa using this
  refine (contract W args (args_of laid (fun t ht => (hp t ht).1) (fun j t v h1 h2 => hval j t v (by simpa using h1) (by simpa using h2)) hA hw) hL).mono fun e W' ⟨he, hB⟩ => ?_
  subst he
  exact ⟨_, rfl, law_post laid hv tb hres hb hpar hspec hW' hB⟩
end
theorem args_1 {P : Program} {w : World} {t : TypeId} {vs : List Value} (h : Args P w [t] vs) : ∃ a, vs = [a] ∧ Arg P w t a := by
  match vs, h with
  | [a], ⟨h1, _⟩ => exact ⟨a, rfl, h1⟩
theorem args_3 {P : Program} {w : World} {t u s : TypeId} {vs : List Value} (h : Args P w [t, u, s] vs) : ∃ a b c, vs = [a, b, c] ∧ Arg P w t a ∧ Arg P w u b ∧ Arg P w s c := by
  match vs, h with
  | [a, b, c], ⟨h1, h2, h3, _⟩ => exact ⟨a, b, c, rfl, h1, h2, h3⟩
theorem wf_i64 {n : Int} (h : (Lit.int .i64 n).wf = true) : I64 n := by
  have a1 : IntKind.i64.min = -9223372036854775808 := by decide
  have a2 : IntKind.i64.max = 9223372036854775807 := by decide
  simp only [Lit.wf, a1, a2] at h
  simp at h
  unfold I64
  omega
theorem wf_u32 {n : Int} (h : (Lit.int .u32 n).wf = true) : U32 n := by
  have a1 : IntKind.u32.min = 0 := by decide
  have a2 : IntKind.u32.max = 4294967295 := by decide
  simp only [Lit.wf, a1, a2] at h
  simp at h
  unfold U32
  omega
theorem wf_u64 {n : Int} (h : (Lit.int .u64 n).wf = true) : ∃ m : Nat, n = m ∧ U64 m := by
  have a1 : IntKind.u64.min = 0 := by decide
  have a2 : IntKind.u64.max = 18446744073709551615 := by decide
  simp only [Lit.wf, a1, a2] at h
  simp at h
  exact ⟨n.toNat, by omega, by unfold U64; omega⟩
set_option maxRecDepth 100000 in
theorem set_cells {w : World} {f : Nat} {cs : List Value} (h : Rd Tryd.prog w f 24 cs) : ∃ s : ASet, cs = s.cells ∧ s.Ok := by
  obtain ⟨f', rfl, es, rfl, hn, hx⟩ := h.array Tryd.underlying24
  match es, hn with
  | [e0, e1, e2, e3], _ =>
    obtain ⟨A, rfl, hA⟩ := (hx e0 (by simp)).2.int Tryd.underlying22
    obtain ⟨B, rfl, hB⟩ := (hx e1 (by simp)).2.int Tryd.underlying22
    obtain ⟨C, rfl, hC⟩ := (hx e2 (by simp)).2.int Tryd.underlying22
    obtain ⟨D, rfl, hD⟩ := (hx e3 (by simp)).2.int Tryd.underlying22
    obtain ⟨a, rfl, ha⟩ := wf_u64 hA
    obtain ⟨b, rfl, hb⟩ := wf_u64 hB
    obtain ⟨c, rfl, hc⟩ := wf_u64 hC
    obtain ⟨d, rfl, hd⟩ := wf_u64 hD
    exact ⟨⟨a, b, c, d⟩, rfl, ha, hb, hc, hd⟩
set_option maxRecDepth 100000 in
theorem rule_cells {w : World} {f : Nat} {cs : List Value} (h : Rd Tryd.prog w f 27 cs) : ∃ r : ARule, cs = r.cells ∧ r.Wf := by
  obtain ⟨f', rfl, h⟩ := h.struct Tryd.underlying27
  obtain ⟨c0, _, rfl, -, r0, c1, _, rfl, -, r1, c2, _, rfl, -, r2, c3, _, rfl, -, r3, c4, _, rfl, -, r4, c5, _, rfl, -, r5, c6, _, rfl, -, r6, hn⟩ := h
  obtain rfl : _ = [] := hn
  obtain ⟨A, rfl, hA⟩ := r0.int Tryd.underlying3
  obtain ⟨S, rfl, hS⟩ := set_cells r1
  obtain ⟨T, rfl, hT⟩ := set_cells r2
  obtain ⟨B, rfl⟩ := r3.bool Tryd.underlying4
  obtain ⟨C, rfl, hC⟩ := r4.int Tryd.underlying3
  obtain ⟨D, rfl, hD⟩ := r5.int Tryd.underlying25
  obtain ⟨E, rfl, hE⟩ := r6.int Tryd.underlying3
  exact ⟨⟨A, S, T, B, C, D, E⟩, rfl, ⟨hS, hT⟩, wf_i64 hA, wf_i64 hC, wf_i64 hE, wf_u32 hD⟩
set_option maxRecDepth 100000 in
theorem rule_open {w : World} {v : Value} (h : Arg Tryd.prog w 27 v) : ∃ r : ARule, v = .agg r.cells.toArray ∧ r.Wf := by
  obtain ⟨f, cs, h, rfl⟩ := h
  rw [Tryd.underlying27]
  obtain ⟨r, rfl, hr⟩ := rule_cells h
  exact ⟨r, rfl, hr⟩
end Go.Proofs.YtmkfabdkadocdaaDoor

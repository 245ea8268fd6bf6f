import Derived.WalkKit
import Derived.WalkSpells
import Derived.WalkLawsBesides
import Derived.Handy
import Derived.BigQuiet
import Derived.Outline
import Derived.Deep.RegionHeld3
import Derived.Deep.DeepCutAuto
import Derived.Deep.DeepMust
import Derived.Deep.DeepFit
import Derived.Deep.LoopGhost
import Derived.Lib.Hide
import Derived.IntWalk
import Derived.Test.YtjpfnndfhbglgaaA
/-
  THE WALK OF mode.Worst.
-/
namespace Go.Proofs.Ytjpfnndfhbglgaa
open Go.RowKit

def U32 (n : Int) : Prop := 0 ≤ n ∧ n < 4294967296
structure Verd.Ok (v : Verd) : Prop where
  denied : U32 v.denied
  grant : U32 v.grant
  deny : U32 v.deny

theorem bits_u32 (op : BinOp) (x y : Int) : bits op .u32 x y = ((match op with
    | .and => BitVec.ofInt 32 x &&& BitVec.ofInt 32 y
    | .or => BitVec.ofInt 32 x ||| BitVec.ofInt 32 y
    | .xor => BitVec.ofInt 32 x ^^^ BitVec.ofInt 32 y
    | _ => BitVec.ofInt 32 x &&& ~~~BitVec.ofInt 32 y).toNat : Int) := by
  have h : ∀ b : BitVec 32, IntKind.u32.wrap (b.toNat : Int) = (b.toNat : Int) := fun b => by
    rw [IntKind.wrap_u32]; have := b.isLt; omega
  exact h _

theorem ofInt_toNat {n : Int} (h : U32 n) : ((BitVec.ofInt 32 n).toNat : Int) = n := by
  obtain ⟨h0, h1⟩ := h
  rw [BitVec.toNat_ofInt]
  omega

theorem or_self {n : Int} (h : U32 n) : bits .or .u32 n n = n := by
  rw [bits_u32]
  simp only [BitVec.or_self]
  exact ofInt_toNat h

set_option maxHeartbeats 4000000 in
theorem worst_any (a b : Verd) (ha : a.Ok) (w : World) :
    Calls Try.prog 19 #[a.val, b.val] w fun e w' => e = .returned (worstV a b).val ∧ Below w.heap.size w w' := by
  obtain ⟨ax, ad, ag, ay, ap⟩ := a
  obtain ⟨bx, bd, bg, bY, bp⟩ := b
  obtain ⟨h1, h2, h3⟩ := ha
  have e1 := or_self h1
  have e2 := or_self h2
  have e3 := or_self h3
  dsimp only at e1 e2 e3
  have H1 := Lib.hid e1
  have H2 := Lib.hid e2
  have H3 := Lib.hid e3
  clear e1 e2 e3 h1 h2 h3
  unfold Verd.val
  go_enter Try.func19, Try.ntmps19
  go_wp2
  all_goals (go_returns; refine ⟨ret_val ?_, by go_grown⟩)
  all_goals (replace H1 := H1.out; replace H2 := H2.out; replace H3 := H3.out; simp_all [worstV])
end Go.Proofs.Ytjpfnndfhbglgaa

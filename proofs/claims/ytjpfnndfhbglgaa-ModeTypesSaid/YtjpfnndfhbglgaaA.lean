/-
  THE WALKS OF Judge, Audited AND Worst, of both texts.
-/
import Derived.Test.YtjpfnndfhbglgaaRows
import Derived.Test.YtjpfnndfhbglgaaL
import Derived.WalkKit
import Derived.WalkSpells
import Derived.WalkLawsBesides
import Derived.Handy
import Derived.BigQuiet
namespace Go.Proofs.Ytjpfnndfhbglgaa
open Go.RowKit

/-- The fields of a verdict. -/
structure Verd where
  granted : Bool
  denied : Int
  grant : Int
  deny : Int
  permissive : Bool

def Verd.val (v : Verd) : Value := .agg #[.bool v.granted, .int .u32 v.denied, .int .u32 v.grant, .int .u32 v.deny, .bool v.permissive]

def judgeV (A B C p : Int) (P en : Bool) : Verd :=
  { granted := (bits .andNot .u32 p A == 0) || (!en || P), denied := bits .andNot .u32 p A, grant := bits .and .u32 (bits .and .u32 p A) B,
    deny := bits .and .u32 (bits .andNot .u32 p A) C, permissive := (bits .andNot .u32 p A != 0) && (!en || P) }

set_option maxHeartbeats 400000 in
theorem judge_any (A B C S p : Int) (P en : Bool) (w : World) :
    Calls Try.prog 8 #[.agg #[.int .u32 A, .int .u32 B, .int .u32 C, .bool P, .int .i64 S], .int .u32 p, .bool en] w fun e w' => e = .returned (judgeV A B C p P en).val ∧ Below w.heap.size w w' := by
  go_enter Try.func8, Try.ntmps8
  go_wp2
  all_goals (go_returns; refine ⟨ret_val ?_, by go_grown⟩)
  all_goals (simp_all [judgeV, Verd.val])

set_option maxHeartbeats 400000 in
theorem rjudge_any (A B C S p : Int) (P en : Bool) (w : World) :
    Calls Try.prog 9 #[.agg #[.int .u32 A, .int .u32 B, .int .u32 C, .bool P, .int .i64 S], .int .u32 p, .bool en] w fun e w' => e = .returned (judgeV A B C p P en).val ∧ Below w.heap.size w w' := by
  go_enter Try.func9, Try.ntmps9
  go_wp2
  all_goals (go_returns; refine ⟨ret_val ?_, by go_grown⟩)
  all_goals (by_cases hz : bits .andNot .u32 p A = 0 <;> cases P <;> cases en <;> simp_all [judgeV, Verd.val])


def auditedV (v : Verd) : Int := bits .or .u32 v.grant v.deny

set_option maxHeartbeats 400000 in
theorem audited_any (v : Verd) (w : World) :
    Calls Try.prog 10 #[v.val] w fun e w' => e = .returned (.int .u32 (auditedV v)) ∧ Below w.heap.size w w' := by
  unfold Verd.val
  go_enter Try.func10, Try.ntmps10
  go_wp2
  all_goals (go_returns; exact ⟨rfl, by go_grown⟩)

set_option maxHeartbeats 400000 in
theorem raudited_any (v : Verd) (w : World) :
    Calls Try.prog 11 #[v.val] w fun e w' => e = .returned (.int .u32 (auditedV v)) ∧ Below w.heap.size w w' := by
  unfold Verd.val
  go_enter Try.func11, Try.ntmps11
  go_wp2
  all_goals (go_returns; exact ⟨rfl, by go_grown⟩)

def worstV (a b : Verd) : Verd :=
  { granted := a.granted && b.granted, denied := bits .or .u32 a.denied b.denied, grant := bits .or .u32 a.grant b.grant, deny := bits .or .u32 a.deny b.deny,
    permissive := a.granted && b.granted && (a.permissive || b.permissive) }

set_option maxHeartbeats 400000 in
theorem rworst_any (a b : Verd) (w : World) :
    Calls Try.prog 20 #[a.val, b.val] w fun e w' => e = .returned (worstV a b).val ∧ Below w.heap.size w w' := by
  unfold Verd.val
  go_enter Try.func20, Try.ntmps20
  go_wp2
  all_goals (go_returns; refine ⟨ret_val ?_, by go_grown⟩)
  all_goals (simp_all [worstV])

end Go.Proofs.Ytjpfnndfhbglgaa

import Derived.WalkKit
import Derived.WalkSpells
import Derived.WalkLawsBesides
import Derived.Handy
import Derived.BigQuiet
import Derived.Outline
import Derived.Deep.RegionHeld3
import Derived.Deep.DeepCutAuto
import Derived.Deep.DeepMust
import Derived.Deep.DeepFit
import Derived.Deep.LoopGhost
import Derived.Lib.Hide
import Derived.IntWalk
import Derived.Deep.CutBlock
import Derived.Deep.RegionWith
import Derived.Test.YtjpfnndfhbglgaaG
import Derived.Test.YtjpfnndfhbglgaaH
import Derived.Test.YtjpfnndfhbglgaaM
/-
  THE CONTRACT OF mode.clone (printed by a program).
-/
namespace Go.Proofs.Ytjpfnndfhbglgaa
open Go.RowKit

def RowsAt (w : World) (v : Value) (k by' : Nat) : Prop := ∃ n cs, SliceAt w v k n cs ∧ n * by' ≤ 140737488355328
def ClsAt (w : World) (v : Value) : Prop := ∃ xs : List (List Value), SliceAt w v 2 xs.length xs.flatten ∧ xs.length * 40 ≤ 140737488355328 ∧ ∀ x ∈ xs, ∃ (s : ByteArray) (v : Value), x = [.string s, v] ∧ RowsAt w v 1 16
def TysAt (w : World) (v : Value) (l : List Ty) : Prop := SliceAt w v 3 l.length (tyCells l) ∧ l.length * 48 ≤ 140737488355328 ∧ ∀ t ∈ l, RowsAt w t.al 1 16
def ExpsAt (w : World) (v : Value) : Prop := ∃ xs : List (List Value), SliceAt w v 10 xs.length xs.flatten ∧ xs.length * 112 ≤ 140737488355328 ∧ ∀ x ∈ xs, ∃ f, Rd Try.prog w f 91 x
def ConsAt (w : World) (v : Value) : Prop := ∃ xs : List (List Value), SliceAt w v 13 xs.length xs.flatten ∧ xs.length * 128 ≤ 140737488355328 ∧ ∀ x ∈ xs, ∃ (c p : Int) (b : Bool) (e : List Value), x = .int .i64 c :: .int .u32 p :: .bool b :: e ∧ ∃ f, Rd Try.prog w f 91 e

structure Pol.At (w : World) (p : Pol) (l : List Ty) : Prop where
  s0 : ClsAt w p.c0
  s1 : TysAt w p.c1 l
  s2 : RowsAt w p.c2 5 48
  s3 : RowsAt w p.c3 9 80
  s4 : RowsAt w p.c4 11 96
  s5 : RowsAt w p.c5 2 24
  s6 : RowsAt w p.c6 1 16
  s7 : RowsAt w p.c7 1 16
  s8 : ExpsAt w p.c8
  s9 : RowsAt w p.c9 13 104
  s10 : RowsAt w p.c10 13 112
  s11 : RowsAt w p.c11 10 80
  s12 : RowsAt w p.c12 13 104
  s13 : ConsAt w p.c13
  s14 : RowsAt w p.c14 8 72
  s15 : RowsAt w p.c15 9 80
  s16 : RowsAt w p.c16 10 88

def TyOwn (base : Nat) (l : List Ty) (a1 : Option Addr) (c1 : Nat) (w : World) : Prop :=
  ∃ ls : List Ty, ls.length = l.length ∧ (∀ (i : Nat) (a b : Ty), l[i]? = some a → ls[i]? = some b → a.Alike b) ∧ w.ownsRow base 62 3 (.slice a1 l.length c1) l.length (tyCells ls)
theorem TyOwn.keep {w w' : World} {B base : Nat} {l : List Ty} {a1 : Option Addr} {c1 : Nat} (hb : Below B w w') (h : TyOwn base l a1 c1 w) (hB : w.heap.size ≤ B) : TyOwn base l a1 c1 w' :=
  let ⟨ls, h1, h2, h3⟩ := h
  ⟨ls, h1, h2, own_keep hb h3 hB⟩
theorem TyOwn.sto {w w' : World} {g base : Nat} {l : List Ty} {a1 : Option Addr} {c1 : Nat} (S : Sto w w' g) (h : TyOwn base l a1 c1 w) (hg : g < base) : TyOwn base l a1 c1 w' :=
  let ⟨ls, h1, h2, h3⟩ := h
  ⟨ls, h1, h2, S.own h3 (own_far h3 hg)⟩
theorem TyOwn.blk {w w' : World} {g base : Nat} {t : TypeId} {cs : Array Value} {l : List Ty} {a1 : Option Addr} {c1 : Nat} (S : Sto w w' g) (h : TyOwn base l a1 c1 w) (hg : Whole w g t cs) (hne : 62 ≠ t) : TyOwn base l a1 c1 w' :=
  let ⟨ls, h1, h2, h3⟩ := h
  ⟨ls, h1, h2, S.own h3 (own_blk_far h3 hg hne)⟩
def seqTail : Nat → Code → Code
  | n + 1, .seq _ b => seqTail n b
  | _, c => c
/-- Two slices of one length. -/
def LenEq (v v' : Value) : Prop := ∃ a n c a' c', v = .slice a n c ∧ v' = .slice a' n c'
def ClonePost (w : World) (p : Pol) (l : List Ty) (e : Ending) (w' : World) : Prop :=
  ∃ p' : Pol, e = .returned p'.val ∧ p'.Sl ∧ LenEq p.c0 p'.c0 ∧ LenEq p.c9 p'.c9 ∧ LenEq p.c14 p'.c14 ∧ ∃ a1 c1, p'.c1 = .slice a1 l.length c1 ∧ TyOwn (w.heap.size + 3) l a1 c1 w' ∧ Below w.heap.size w w'
theorem alike_self (l : List Ty) : Hid (∀ (i : Nat) (a b : Ty), l[i]? = some a → l[i]? = some b → a.Alike b) := fun i a b h1 h2 => by
  obtain rfl := Option.some.inj (h1.symm.trans h2)
  exact ⟨rfl, rfl, rfl⟩
theorem ty_rows (l : List Ty) : ∀ x ∈ l.map Ty.cells, x.length = 3 := fun x hx => by
  obtain ⟨t, _, rfl⟩ := List.mem_map.1 hx
  rfl
theorem expr_len {w : World} {f : Nat} {x : List Value} (h : Rd Try.prog w f 91 x) : x.length = 10 := by
  obtain ⟨_, _, _, _, _, _, _, _, _, _, _, _, _, _, _, rfl, _⟩ := expr_open h
  rfl
theorem heap_three (w : World) (o1 o2 o3 : Obj) : (((w.alloc o1).alloc o2).alloc o3).heap[w.heap.size]? = some o1 ∧ (((w.alloc o1).alloc o2).alloc o3).heap[w.heap.size + 1]? = some o2 ∧ (((w.alloc o1).alloc o2).alloc o3).heap[w.heap.size + 2]? = some o3 := by
  obtain ⟨h1, h2⟩ := heap_two w o1 o2
  refine ⟨(Below.heap_alloc _ _ _ (by simp; omega)).trans h1, (Below.heap_alloc _ _ _ (by simp)).trans h2, ?_⟩
  have h := heap_alloc_new ((w.alloc o1).alloc o2) o3
  simp only [World.size_alloc] at h
  exact h


end Go.Proofs.Ytjpfnndfhbglgaa

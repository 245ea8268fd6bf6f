import Derived.Test.YtcdhjcjdphnleaaRows
import Derived.Test.YtcdhjcjdphnleaaB
import Derived.WideKeyMaps
import Derived.WideKeyPair
import Derived.DeepKeys4
namespace Go.Proofs.Ytcdhjcjdphnleaa
open Go Go.WideMaps

theorem arr41 : ArrKey Try.prog 41 3 3 := ⟨Try.underlying41, by kernel_rfl, by kernel_rfl, by kernel_rfl⟩
theorem keyed41 : Maps.Keyed Try.prog 41 := Maps.Keyed.of_law arr41.law
theorem size41 : ∃ m, Try.prog.types.size = m + 1 := ⟨Try.prog.types.size - 1, by have : 0 < Try.prog.types.size := of_decide_eq_true (by kernel_rfl); omega⟩

/-- A key of the cache. -/
structure Key where
  a : Int
  b : Int
  c : Int
deriving DecidableEq

def Key.val (k : Key) : Value := .agg #[.int .i64 k.a, .int .i64 k.b, .int .i64 k.c]
def Key.ok (k : Key) : Prop := (Lit.int .i64 k.a).wf = true ∧ (Lit.int .i64 k.b).wf = true ∧ (Lit.int .i64 k.c).wf = true

theorem Key.val_inj {k k' : Key} (h : k.val = k'.val) : k = k' := by
  cases k; cases k'
  simp [Key.val] at h
  simp [h]

theorem keyOf_trip {P : Program} {k e : TypeId} {q : IntKind} (A : ArrKey P k e 3) (he : P.underlying e = some (.int q)) (hsz : ∃ m, P.types.size = m + 1) {a b c : Int} (wa : (Lit.int q a).wf = true) (wb : (Lit.int q b).wf = true) (wc : (Lit.int q c).wf = true) :
    keyOf P k (.agg #[.int q a, .int q b, .int q c]) = some (.string (keyBytes [.int q a, .int q b, .int q c])) := by
  have hkt := A.keyType hsz
  obtain ⟨m, hm⟩ := hsz
  unfold keyOf
  simp only [A.hu]
  rw [if_pos (by simp [hkt, Value.formed, A.hu, A.size]), hm]
  unfold Program.keyLits
  simp only [A.hu, Value.cells]
  rw [if_pos (by rw [A.size]; rfl), show List.range 3 = [0, 1, 2] from rfl, List.mapM_cons, List.mapM_cons, List.mapM_cons, List.mapM_nil]
  simp [A.one, Program.keyLits, he, wa, wb, wc]

def Key.lit (k : Key) : Lit := .string (keyBytes [.int .i64 k.a, .int .i64 k.b, .int .i64 k.c])

theorem Key.keyOf {k : Key} (h : k.ok) : Go.keyOf Try.prog 41 k.val = some k.lit :=
  keyOf_trip arr41 Try.underlying3 size41 h.1 h.2.1 h.2.2

/-- A decision. -/
structure Dec where
  allowed : Int
  auditAllow : Int
  auditDeny : Int
  permissive : Bool
  seq : Int
deriving DecidableEq

def Dec.val (d : Dec) : Value := .agg #[.int .u32 d.allowed, .int .u32 d.auditAllow, .int .u32 d.auditDeny, .bool d.permissive, .int .i64 d.seq]
def Dec.none : Dec := ⟨0, 0, 0, false, 0⟩

theorem zero46 (w : World) : (zeroValue 46).run Try.prog w = .ok Dec.none.val w := by kernel_rfl

end Go.Proofs.Ytcdhjcjdphnleaa

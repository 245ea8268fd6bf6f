import Derived.ChangeKeysEq
import Derived.Laws.BitsAllLaws
import Derived.Laws.StructEq
import Derived.Shelf.SlicesE.Clone
import Derived.Test.YtdcofoaihmongaaGreatProg
import Derived.Test.YtdcofoaihmongaaGreatS1
open Bool renaming eq_iff_iff→arY
open Go renaming wp_seq_k→arT,wpList_nil→arU,wp_cond_split→arV,wp_block→arW,cell_later→ar0
open Go.Lib renaming hid→arX
open Go.RowKit renaming Below→arQ
open List renaming getElem?_eq_some_iff→arM,getElem?_eq_getElem→arN,mem_of_getElem?→arO,mem_singleton→arR,getElem?_map→ar1
open Nat renaming le_trans→arP,zero_le→arS,mul_le_mul_right→arZ
open Option.some renaming inj→ar3
open Prod.mk renaming inj→ar2
set_option maxRecDepth 100000
set_option maxHeartbeats 8000000
namespace Go.Proofs.YtdcofoaihmongaaGreat
open Go Go.ChangeAt Go.ChangeShapes Go.RowKit Go.WideShapes
def dG(s:ByteArray):Prop:=s.size≤140737488355328
def oO(n:Nat):Prop:=n≤140737488355328
structure Mr (l:List ByteArray):Prop where
 len:oO l.length
 all:∀ s∈l,dG s
structure lM where
 aC:Int
 cats:Nat
deriving DecidableEq
structure lM.Ok (x:lM):Prop where
 aC:iU x.aC
 cats:yJ x.cats
def lM.cells(x:lM):List Value:=[.int .i64 x.aC,.int .u64 x.cats]
structure uS where
 low:lM
 high:lM
deriving DecidableEq
structure uS.Ok (x:uS):Prop where
 low:x.low.Ok
 high:x.high.Ok
def uS.cells(x:uS):List Value:=[.int .i64 x.low.aC,.int .u64 x.low.cats,.int .i64 x.high.aC,.int .u64 x.high.cats]
structure dI where
 user:Int
 role:Int
 typ:Int
 rng:uS
deriving DecidableEq
structure dI.Ok (x:dI):Prop where
 user:iU x.user
 role:iU x.role
 typ:iU x.typ
 rng:x.rng.Ok
def dI.cells(x:dI):List Value:=[.int .i64 x.user,.int .i64 x.role,.int .i64 x.typ,.int .i64 x.rng.low.aC,.int .u64 x.rng.low.cats,.int .i64 x.rng.high.aC,.int .u64 x.rng.high.cats]
inductive aq where
 | node (op a rel b:Int) (names:List ByteArray) (set:ay) (kids:List aq)
def aq.op:aq→Int|.node o _ _ _ _ _ _=>o
def aq.a:aq→Int|.node _ a _ _ _ _ _=>a
def aq.rel:aq→Int|.node _ _ r _ _ _ _=>r
def aq.b:aq→Int|.node _ _ _ b _ _ _=>b
def aq.names:aq→List ByteArray|.node _ _ _ _ n _ _=>n
def aq.set:aq→ay|.node _ _ _ _ _ s _=>s
def aq.kids:aq→List aq|.node _ _ _ _ _ _ k=>k
inductive aq.Ok:aq→Prop
 | node {op a rel b:Int} {names:List ByteArray} {set:ay} {kids:List aq}:iU op→iU a→iU rel→iU b→Mr names→set.Ok→oO kids.length→(∀ k∈kids,aq.Ok k)→aq.Ok (.node op a rel b names set kids)
structure aj.ny (x:aj):Prop where
 kind:iU x.kind
 src:x.src.Ok
 tgt:x.tgt.Ok
 cls:iU x.cls
 perms:OL x.perms
 cond:iU x.cond
structure kG where
 name:ByteArray
 types:ay
deriving DecidableEq
structure kG.Ok (x:kG):Prop where
 name:dG x.name
 types:x.types.Ok
def kG.cells(x:kG):List Value:=[.string x.name,.int .u64 x.types.a,.int .u64 x.types.b,.int .u64 x.types.c,.int .u64 x.types.d]
theorem kG.dV(x:kG):x.cells.length=5:=rfl
structure gP where
 name:ByteArray
 types:ay
 next:ay
deriving DecidableEq
structure gP.Ok (x:gP):Prop where
 name:dG x.name
 types:x.types.Ok
 next:x.next.Ok
def gP.cells(x:gP):List Value:=[.string x.name,.int .u64 x.types.a,.int .u64 x.types.b,.int .u64 x.types.c,.int .u64 x.types.d,.int .u64 x.next.a,.int .u64 x.next.b,.int .u64 x.next.c,.int .u64 x.next.d]
theorem gP.dV(x:gP):x.cells.length=9:=rfl
structure jX where
 name:ByteArray
 roles:ay
 dflt:lM
 rng:uS
deriving DecidableEq
structure jX.Ok (x:jX):Prop where
 name:dG x.name
 roles:x.roles.Ok
 dflt:x.dflt.Ok
 rng:x.rng.Ok
def jX.cells(x:jX):List Value:=[.string x.name,.int .u64 x.roles.a,.int .u64 x.roles.b,.int .u64 x.roles.c,.int .u64 x.roles.d,.int .i64 x.dflt.aC,.int .u64 x.dflt.cats,.int .i64 x.rng.low.aC,.int .u64 x.rng.low.cats,.int .i64 x.rng.high.aC,.int .u64 x.rng.high.cats]
theorem jX.dV(x:jX):x.cells.length=11:=rfl
structure gH where
 name:ByteArray
 val:Bool
deriving DecidableEq
structure gH.Ok (x:gH):Prop where
 name:dG x.name
def gH.cells(x:gH):List Value:=[.string x.name,.bool x.val]
theorem gH.dV(x:gH):x.cells.length=2:=rfl
structure bD where
 kind:Int
 src:ay
 tgt:ay
 cls:Int
 name:ByteArray
 res:Int
 cond:Int
deriving DecidableEq
structure bD.Ok (x:bD):Prop where
 kind:iU x.kind
 src:x.src.Ok
 tgt:x.tgt.Ok
 cls:iU x.cls
 name:dG x.name
 res:iU x.res
 cond:iU x.cond
def bD.cells(x:bD):List Value:=[.int .i64 x.kind,.int .u64 x.src.a,.int .u64 x.src.b,.int .u64 x.src.c,.int .u64 x.src.d,.int .u64 x.tgt.a,.int .u64 x.tgt.b,.int .u64 x.tgt.c,.int .u64 x.tgt.d,.int .i64 x.cls,.string x.name,.int .i64 x.res,.int .i64 x.cond]
theorem bD.dV(x:bD):x.cells.length=13:=rfl
structure kD where
 roles:ay
 types:ay
 cls:Int
 res:Int
deriving DecidableEq
structure kD.Ok (x:kD):Prop where
 roles:x.roles.Ok
 types:x.types.Ok
 cls:iU x.cls
 res:iU x.res
def kD.cells(x:kD):List Value:=[.int .u64 x.roles.a,.int .u64 x.roles.b,.int .u64 x.roles.c,.int .u64 x.roles.d,.int .u64 x.types.a,.int .u64 x.types.b,.int .u64 x.types.c,.int .u64 x.types.d,.int .i64 x.cls,.int .i64 x.res]
theorem kD.dV(x:kD):x.cells.length=10:=rfl
structure kE where
 src:ay
 tgt:ay
 cls:Int
 rng:uS
deriving DecidableEq
structure kE.Ok (x:kE):Prop where
 src:x.src.Ok
 tgt:x.tgt.Ok
 cls:iU x.cls
 rng:x.rng.Ok
def kE.cells(x:kE):List Value:=[.int .u64 x.src.a,.int .u64 x.src.b,.int .u64 x.src.c,.int .u64 x.src.d,.int .u64 x.tgt.a,.int .u64 x.tgt.b,.int .u64 x.tgt.c,.int .u64 x.tgt.d,.int .i64 x.cls,.int .i64 x.rng.low.aC,.int .u64 x.rng.low.cats,.int .i64 x.rng.high.aC,.int .u64 x.rng.high.cats]
theorem kE.dV(x:kE):x.cells.length=13:=rfl
structure kC where
 name:ByteArray
 ctx:dI
deriving DecidableEq
structure kC.Ok (x:kC):Prop where
 name:dG x.name
 ctx:x.ctx.Ok
def kC.cells(x:kC):List Value:=[.string x.name,.int .i64 x.ctx.user,.int .i64 x.ctx.role,.int .i64 x.ctx.typ,.int .i64 x.ctx.rng.low.aC,.int .u64 x.ctx.rng.low.cats,.int .i64 x.ctx.rng.high.aC,.int .u64 x.ctx.rng.high.cats]
theorem kC.dV(x:kC):x.cells.length=8:=rfl
structure kF where
 pat:ByteArray
 kind:Int
 ctx:dI
deriving DecidableEq
structure kF.Ok (x:kF):Prop where
 pat:dG x.pat
 kind:iU x.kind
 ctx:x.ctx.Ok
def kF.cells(x:kF):List Value:=[.string x.pat,.int .i64 x.kind,.int .i64 x.ctx.user,.int .i64 x.ctx.role,.int .i64 x.ctx.typ,.int .i64 x.ctx.rng.low.aC,.int .u64 x.ctx.rng.low.cats,.int .i64 x.ctx.rng.high.aC,.int .u64 x.ctx.rng.high.cats]
theorem kF.dV(x:kF):x.cells.length=9:=rfl
structure kH where
 name:ByteArray
 kind:Int
 src:ay
 tgt:ay
deriving DecidableEq
structure kH.Ok (x:kH):Prop where
 name:dG x.name
 kind:iU x.kind
 src:x.src.Ok
 tgt:x.tgt.Ok
def kH.cells(x:kH):List Value:=[.string x.name,.int .i64 x.kind,.int .u64 x.src.a,.int .u64 x.src.b,.int .u64 x.src.c,.int .u64 x.src.d,.int .u64 x.tgt.a,.int .u64 x.tgt.b,.int .u64 x.tgt.c,.int .u64 x.tgt.d]
theorem kH.dV(x:kH):x.cells.length=10:=rfl
structure iB where
 name:ByteArray
 perms:List ByteArray
deriving DecidableEq
structure iB.Ok (x:iB):Prop where
 name:dG x.name
 perms:Mr x.perms
structure lK where
 name:ByteArray
 ow:List ByteArray
 perm:Bool
deriving DecidableEq
structure lK.Ok (x:lK):Prop where
 name:dG x.name
 ow:Mr x.ow
structure nA where
 cls:Int
 perms:Int
 val:Bool
 expr:aq
structure nA.Ok (x:nA):Prop where
 cls:iU x.cls
 perms:OL x.perms
 expr:x.expr.Ok
theorem aj.dV(x:aj):x.cells.length=13:=rfl
structure aA where
 classes:List iB
 types:List lK
 attrs:List kG
 roles:List gP
 users:List jX
 bools:List gH
 aC:List ByteArray
 cats:List ByteArray
 conds:List aq
 rules:List aj
 trans:List bD
 aK:List kD
 ranges:List kE
 cons:List nA
 bH:List kC
 files:List kF
 asserts:List kH
structure aA.Ok (p:aA):Prop where
 classes:∀ x∈p.classes,iB.Ok x
 ad6:oO p.classes.length
 types:∀ x∈p.types,lK.Ok x
 vq:oO p.types.length
 attrs:∀ x∈p.attrs,kG.Ok x
 ahz:oO p.attrs.length
 roles:∀ x∈p.roles,gP.Ok x
 Sn:oO p.roles.length
 users:∀ x∈p.users,jX.Ok x
 Zb:oO p.users.length
 bools:∀ x∈p.bools,gH.Ok x
 ahy:oO p.bools.length
 aC:∀ x∈p.aC,dG x
 ah4:oO p.aC.length
 cats:∀ x∈p.cats,dG x
 ai5:oO p.cats.length
 conds:∀ x∈p.conds,aq.Ok x
 sK:oO p.conds.length
 rules:∀ x∈p.rules,aj.ny x
 kQ:oO p.rules.length
 trans:∀ x∈p.trans,bD.Ok x
 R7:oO p.trans.length
 aK:∀ x∈p.aK,kD.Ok x
 aeD:oO p.aK.length
 ranges:∀ x∈p.ranges,kE.Ok x
 aeH:oO p.ranges.length
 cons:∀ x∈p.cons,nA.Ok x
 ai4:oO p.cons.length
 bH:∀ x∈p.bH,kC.Ok x
 ah3:oO p.bH.length
 files:∀ x∈p.files,kF.Ok x
 ahq:oO p.files.length
 asserts:∀ x∈p.asserts,kH.Ok x
 aec:oO p.asserts.length
def aT(s:ByteArray):List Value:=[.string s]
theorem GU(s:ByteArray):(aT s).length=1:=rfl
def aH(w:World)(v:Value)(l:List ByteArray):Prop:=SliceAt w v 1 l.length (l.flatMap aT)
theorem aH.keep{w w':World}{v:Value}{l:List ByteArray}(h:aH w v l)(hb:Below w.heap.size w w'):aH w' v l:=SliceAt.keep h hb
def ak{α:Type}(k:Nat)(R:List Value→α→Prop)(w:World)(v:Value)(l:List α):Prop:=
 ∃ es:List (List Value),es.length=l.length∧(∀ x∈es,x.length=k)∧SliceAt w v k l.length es.flatten∧∀ (i:Nat) x y,es[i]?=some x→l[i]?=some y→R x y
theorem ak.slice{α:Type}{k:Nat}{R:List Value→α→Prop}{w:World}{v:Value}{l:List α}(h:ak k R w v l):∃ cs,SliceAt w v k l.length cs:=by
 obtain⟨es,_,_,h,_⟩:=h;exact⟨_,h⟩
theorem ak.form{α:Type}{k:Nat}{R:List Value→α→Prop}{w:World}{v:Value}{l:List α}(h:ak k R w v l)(hk:0<k):
 ∃ a c,v=.slice a l.length c∧l.length≤c∧l.length≤9223372036854775807∧∀ i y,l[i]?=some y→∃ b off x,a=some ⟨b,off,none⟩∧R x y∧x.length=k∧∀ j u,x[j]?=some u→w.cell? ⟨b,off+i*k+j,none⟩=some u:=by
 obtain⟨es,h1,h2,h3,h4⟩:=h;obtain⟨a,c,hv,hc,hm,hcell⟩:=h3.form hk;refine⟨a,c,hv,hc,hm,fun i y hy=>?_⟩;have hi:=(arM.1 hy).1;obtain⟨b,off,ha,hcl⟩:=hcell i hi;obtain⟨x,hx⟩:∃ x,es[i]?=some x:=⟨_,arN (by omega)⟩;refine⟨b,off,x,ha,h4 i x y hx hy,h2 x (arO hx),fun j u hu=>hcl j u ?_⟩;rw[Iu h2 hx j (by rw[← h2 x (arO hx)];exact(arM.1 hu).1)];exact hu
theorem ak.mono{α:Type}{k:Nat}{R R':List Value→α→Prop}{w w':World}{v:Value}{l:List α}(h:ak k R w v l)(hb:Below w.heap.size w w')(hr:∀ x y,R x y→R' x y):ak k R' w' v l:=by
 obtain⟨es,h1,h2,h3,h4⟩:=h;exact⟨es,h1,h2,h3.keep hb,fun i x y hx hy=>hr x y (h4 i x y hx hy)⟩
inductive bh (w:World):List Value→aq→Prop
 | node {op a rel b:Int} {names:List ByteArray} {set:ay} {kids:List aq} {nv kv:Value} {es:List (List Value)}:aH w nv names→es.length=kids.length→(∀ x∈es,x.length=10)→SliceAt w kv 10 kids.length es.flatten →
  (∀ (i:Nat) x y,es[i]?=some x→kids[i]?=some y→bh w x y) →
  bh w [.int .i64 op,.int .i64 a,.int .i64 rel,.int .i64 b,nv,.int .u64 set.a,.int .u64 set.b,.int .u64 set.c,.int .u64 set.d,kv] (.node op a rel b names set kids)
theorem bh.keep{w w':World}(hb:Below w.heap.size w w'){cs:List Value}{e:aq}(h:bh w cs e):bh w' cs e:=by
 induction h with
 | node h1 h2 h3 h4 _ ih=>exact .node (h1.keep hb) h2 h3 (h4.keep hb) ih
theorem bh.open{w:World}{cs:List Value}{e:aq}(h:bh w cs e):∃ nv kv,cs=[.int .i64 e.op,.int .i64 e.a,.int .i64 e.rel,.int .i64 e.b,nv,.int .u64 e.set.a,.int .u64 e.set.b,.int .u64 e.set.c,.int .u64 e.set.d,kv]∧aH w nv e.names∧ak 10 (bh w) w kv e.kids:=by
 cases h with
 | node h1 h2 h3 h4 h5=>exact⟨_,_,rfl,h1,_,h2,h3,h4,h5⟩
def lG(w:World)(v:Value)(l:List aq):Prop:=ak 10 (bh w) w v l
theorem lG.keep{w w':World}{v:Value}{l:List aq}(h:lG w v l)(hb:Below w.heap.size w w'):lG w' v l:=ak.mono h hb fun _ _ h=>bh.keep hb h
def qF(w:World)(cs:List Value)(x:iB):Prop:=∃ v,cs=[.string x.name,v]∧aH w v x.perms
def qC(w:World)(cs:List Value)(x:lK):Prop:=∃ v,cs=[.string x.name,v,.bool x.perm]∧aH w v x.ow
def qE(w:World)(cs:List Value)(x:nA):Prop:=∃ es,cs=[.int .i64 x.cls,.int .u32 x.perms,.bool x.val]++es∧bh w es x.expr
theorem qF.keep{w w':World}(hb:Below w.heap.size w w'){cs:List Value}{x:iB}(h:qF w cs x):qF w' cs x:=by
 obtain⟨v,e,h⟩:=h;exact⟨v,e,h.keep hb⟩
theorem qC.keep{w w':World}(hb:Below w.heap.size w w'){cs:List Value}{x:lK}(h:qC w cs x):qC w' cs x:=by
 obtain⟨v,e,h⟩:=h;exact⟨v,e,h.keep hb⟩
theorem qE.keep{w w':World}(hb:Below w.heap.size w w'){cs:List Value}{x:nA}(h:qE w cs x):qE w' cs x:=by
 obtain⟨v,e,h⟩:=h;exact⟨v,e,h.keep hb⟩
structure aJ (w:World) (c0 c1 c2 c3 c4 c5 c6 c7 c8 c9 aS aN aM aR aQ aP aO:Value) (p:aA):Prop where
 classes:ak 2 (qF w) w c0 p.classes
 types:ak 3 (qC w) w c1 p.types
 attrs:SliceAt w c2 5 p.attrs.length (p.attrs.flatMap kG.cells)
 roles:SliceAt w c3 9 p.roles.length (p.roles.flatMap gP.cells)
 users:SliceAt w c4 11 p.users.length (p.users.flatMap jX.cells)
 bools:SliceAt w c5 2 p.bools.length (p.bools.flatMap gH.cells)
 aC:aH w c6 p.aC
 cats:aH w c7 p.cats
 conds:lG w c8 p.conds
 rules:SliceAt w c9 13 p.rules.length (p.rules.flatMap aj.cells)
 trans:SliceAt w aS 13 p.trans.length (p.trans.flatMap bD.cells)
 aK:SliceAt w aN 10 p.aK.length (p.aK.flatMap kD.cells)
 ranges:SliceAt w aM 13 p.ranges.length (p.ranges.flatMap kE.cells)
 cons:ak 13 (qE w) w aR p.cons
 bH:SliceAt w aQ 8 p.bH.length (p.bH.flatMap kC.cells)
 files:SliceAt w aP 9 p.files.length (p.files.flatMap kF.cells)
 asserts:SliceAt w aO 10 p.asserts.length (p.asserts.flatMap kH.cells)
theorem aJ.keep{w w':World}{c0 c1 c2 c3 c4 c5 c6 c7 c8 c9 aS aN aM aR aQ aP aO:Value}{p:aA}(h:aJ w c0 c1 c2 c3 c4 c5 c6 c7 c8 c9 aS aN aM aR aQ aP aO p)(hb:Below w.heap.size w w'):aJ w' c0 c1 c2 c3 c4 c5 c6 c7 c8 c9 aS aN aM aR aQ aP aO p:=
 ⟨ak.mono h.classes hb fun _ _ h=>qF.keep hb h,ak.mono h.types hb fun _ _ h=>qC.keep hb h,h.attrs.keep hb,h.roles.keep hb,h.users.keep hb,h.bools.keep hb,h.aC.keep hb,h.cats.keep hb,h.conds.keep hb,h.rules.keep hb,h.trans.keep hb,h.aK.keep hb,h.ranges.keep hb,ak.mono h.cons hb fun _ _ h=>qE.keep hb h,h.bH.keep hb,h.files.keep hb,h.asserts.keep hb⟩
theorem fu{n:Nat}(h:n≤reachBytes):n≤140737488355328:=by unfold reachBytes at h;omega
theorem bM{n b:Nat}(hb:0<b)(h:n*b≤reachBytes):n≤140737488355328:=fu (arP (Nat.le_mul_of_pos_right n hb) h)
theorem wf_i64{n:Int}(h:(Lit.int .i64 n).wf=true):iU n:=by
 have a1:IntKind.i64.min=-9223372036854775808:=by decide
 have a2:IntKind.i64.max=9223372036854775807:=by decide
 simp only[Lit.wf,a1,a2] at h;simp at h;unfold iU;omega
theorem wf_u32{n:Int}(h:(Lit.int .u32 n).wf=true):OL n:=by
 have a1:IntKind.u32.min=0:=by decide
 have a2:IntKind.u32.max=4294967295:=by decide
 simp only[Lit.wf,a1,a2] at h;simp at h;unfold OL;omega
theorem wf_u64{n:Int}(h:(Lit.int .u64 n).wf=true):∃ m:Nat,n=m∧yJ m:=by
 have a1:IntKind.u64.min=0:=by decide
 have a2:IntKind.u64.max=18446744073709551615:=by decide
 simp only[Lit.wf,a1,a2] at h;simp at h;exact⟨n.toNat,by omega,by unfold yJ;omega⟩
theorem cW{w:World}{f:Nat}{cs:List Value}(h:Rd Tryz.prog w f 54 cs):∃ s:ay,cs=s.cells∧s.Ok:=by
 obtain⟨f',rfl,es,rfl,hn,hx⟩:=h.array Tryz.underlying54
 match es,hn with
 | [e0,e1,e2,e3],_=>
  obtain⟨A,rfl,hA⟩:=(hx e0 (by simp)).2.int Tryz.underlying52;obtain⟨B,rfl,hB⟩:=(hx e1 (by simp)).2.int Tryz.underlying52;obtain⟨C,rfl,hC⟩:=(hx e2 (by simp)).2.int Tryz.underlying52;obtain⟨D,rfl,hD⟩:=(hx e3 (by simp)).2.int Tryz.underlying52;obtain⟨a,rfl,ha⟩:=wf_u64 hA;obtain⟨b,rfl,hb⟩:=wf_u64 hB;obtain⟨c,rfl,hc⟩:=wf_u64 hC;obtain⟨d,rfl,hd⟩:=wf_u64 hD;exact⟨⟨a,b,c,d⟩,rfl,ha,hb,hc,hd⟩
theorem vU{w:World}{f:Nat}{cs:List Value}(h:Rd Tryz.prog w f 70 cs):∃ x:lM,cs=x.cells∧x.Ok:=by
 obtain⟨f',rfl,h⟩:=h.struct Tryz.underlying70;obtain⟨c0,_,rfl,-,r0,c1,_,rfl,-,r1,hn⟩:=h;obtain rfl:_=[]:=hn;obtain⟨A,rfl,hA⟩:=r0.int Tryz.underlying3;obtain⟨B',rfl,hB'⟩:=r1.int Tryz.underlying52;obtain⟨B,rfl,hB⟩:=wf_u64 hB';exact⟨⟨A,B⟩,rfl,⟨wf_i64 hA,hB⟩⟩
theorem vG{w:World}{f:Nat}{cs:List Value}(h:Rd Tryz.prog w f 72 cs):∃ x:uS,cs=x.cells∧x.Ok:=by
 obtain⟨f',rfl,h⟩:=h.struct Tryz.underlying72;obtain⟨c0,_,rfl,-,r0,c1,_,rfl,-,r1,hn⟩:=h;obtain rfl:_=[]:=hn;obtain⟨A,rfl,hA⟩:=vU r0;obtain⟨B,rfl,hB⟩:=vU r1;exact⟨⟨A,B⟩,rfl,⟨hA,hB⟩⟩
theorem qX{w:World}{f:Nat}{cs:List Value}(h:Rd Tryz.prog w f 74 cs):∃ x:dI,cs=x.cells∧x.Ok:=by
 obtain⟨f',rfl,h⟩:=h.struct Tryz.underlying74;obtain⟨c0,_,rfl,-,r0,c1,_,rfl,-,r1,c2,_,rfl,-,r2,c3,_,rfl,-,r3,hn⟩:=h;obtain rfl:_=[]:=hn;obtain⟨A,rfl,hA⟩:=r0.int Tryz.underlying3;obtain⟨B,rfl,hB⟩:=r1.int Tryz.underlying3;obtain⟨C,rfl,hC⟩:=r2.int Tryz.underlying3;obtain⟨D,rfl,hD⟩:=vG r3;exact⟨⟨A,B,C,D⟩,rfl,⟨wf_i64 hA,wf_i64 hB,wf_i64 hC,hD⟩⟩
theorem bU{α:Type}{Q:List Value→Prop}{R:List Value→α→Prop}(one:∀ cs,Q cs→∃ x,R cs x):∀ es:List (List Value),(∀ x∈es,Q x)→∃ l:List α,es.length=l.length∧(∀ (i:Nat) x y,es[i]?=some x→l[i]?=some y→R x y)
 | [],_=>⟨[],rfl,fun i x y h=>by simp at h⟩
 | e::es,h=>by
  obtain⟨x,hx⟩:=one e (h e (by simp));obtain⟨l,h1,h2⟩:=bU one es fun y hy=>h y (by simp[hy])
  refine⟨x::l,by simp[h1],fun i y z hy hz=>?_⟩
  cases i with
  | zero=>simp at hy hz;subst hy hz;exact hx
  | succ i=>exact h2 i y z (by simpa using hy) (by simpa using hz)
theorem dD{α:Type}{R:List Value→α→Prop}{B:α→Prop}{es:List (List Value)}{l:List α}(hl:es.length=l.length)(h:∀ (i:Nat) x y,es[i]?=some x→l[i]?=some y→R x y∧B y):∀ y∈l,B y:=by
 intro y hy;obtain⟨i,hi⟩:=List.getElem?_of_mem hy;have hlt:=(arM.1 hi).1;exact(h i _ y (arN (by omega)) hi).2
theorem dM{α:Type}{cells:α→List Value}:∀ {es:List (List Value)} {l:List α},es.length=l.length→(∀ (i:Nat) x y,es[i]?=some x→l[i]?=some y→x=cells y)→es.flatten=l.flatMap cells
 | [],[],_,_=>rfl
 | [],_::_,h,_=>by simp at h
 | _::_,[],h,_=>by simp at h
 | e::es,x::l,h,hr=>by
  rw[List.flatten_cons,List.flatMap_cons,hr 0 e x rfl rfl,dM (es:=es) (l:=l) (by simpa using h) fun i a b ha hb=>hr (i+1) a b (by simpa using ha) (by simpa using hb)]
theorem Pb{w:World}{f:Nat}{cs:List Value}(h:Rd Tryz.prog w f 9 cs):∃ x,cs=aT x∧dG x:=by
 obtain⟨s,rfl,hs⟩:=h.string Tryz.underlying9;exact⟨s,rfl,fu hs⟩
theorem mT{w:World}{f:Nat}{cs:List Value}(h:Rd Tryz.prog w f 28 cs):∃ v,∃ l:List ByteArray,cs=[v]∧SliceAt w v 1 l.length (l.flatMap aT)∧(∀ x∈l,dG x)∧oO l.length:=by
 obtain⟨f',v,rfl,rfl,es,h1,h2,h3⟩:=h.slice Tryz.underlying28;rw[show Tryz.prog.cellsOf 9=1 from by kernel_rfl] at h1;obtain⟨l,e1,e2⟩:=bU (R:=fun cs (x:ByteArray)=>cs=aT x∧dG x) (fun cs h=>Pb h.2) es h2;rw[dM e1 fun i x y hx hy=>(e2 i x y hx hy).1,e1] at h1;rw[e1] at h3;exact⟨v,l,rfl,h1,dD e1 e2,bM (of_decide_eq_true (by kernel_rfl)) h3⟩
theorem Bp{w:World}:∀ (f:Nat) (cs:List Value),Rd Tryz.prog w f 89 cs→∃ e,bh w cs e∧e.Ok:=by
 intro f
 induction f using Nat.strongRecOn with
 | ind f ih=>
  intro cs h;obtain⟨f',rfl,h⟩:=h.struct Tryz.underlying89;obtain⟨c0,_,rfl,-,r0,c1,_,rfl,-,r1,c2,_,rfl,-,r2,c3,_,rfl,-,r3,c4,_,rfl,-,r4,c5,_,rfl,-,r5,c6,_,rfl,-,r6,hn⟩:=h;obtain rfl:_=[]:=hn;obtain⟨A,rfl,hA⟩:=r0.int Tryz.underlying3;obtain⟨B,rfl,hB⟩:=r1.int Tryz.underlying3;obtain⟨C,rfl,hC⟩:=r2.int Tryz.underlying3;obtain⟨D,rfl,hD⟩:=r3.int Tryz.underlying3;obtain⟨nv,ns,rfl,hns,hno,hnl⟩:=mT r4;obtain⟨s,rfl,hs⟩:=cW r5;obtain⟨f'',kv,rfl,rfl,es,h1,h2,h3⟩:=r6.slice Tryz.underlying29;rw[show Tryz.prog.cellsOf 89=10 from by kernel_rfl] at h1 h2;obtain⟨l,e1,e2⟩:=bU (R:=fun cs (x:aq)=>bh w cs x∧x.Ok) (fun cs h=>ih f'' (by omega) cs h.2) es h2;rw[e1] at h1 h3;exact⟨.node A B C D ns s l,.node hns e1 (fun x hx=>(h2 x hx).1) h1 fun i x y hx hy=>(e2 i x y hx hy).1,.node (wf_i64 hA) (wf_i64 hB) (wf_i64 hC) (wf_i64 hD) ⟨hnl,hno⟩ hs (bM (of_decide_eq_true (by kernel_rfl)) h3) (dD e1 e2)⟩
theorem Jz{w:World}{f:Nat}{cs:List Value}(h:Rd Tryz.prog w f 56 cs):∃ x:aj,cs=x.cells∧x.ny:=by
 obtain⟨f',rfl,h⟩:=h.struct Tryz.underlying56;obtain⟨c0,_,rfl,-,r0,c1,_,rfl,-,r1,c2,_,rfl,-,r2,c3,_,rfl,-,r3,c4,_,rfl,-,r4,c5,_,rfl,-,r5,c6,_,rfl,-,r6,hn⟩:=h;obtain rfl:_=[]:=hn;obtain⟨A,rfl,hA⟩:=r0.int Tryz.underlying3;obtain⟨B,rfl,hB⟩:=cW r1;obtain⟨C,rfl,hC⟩:=cW r2;obtain⟨D,rfl⟩:=r3.bool Tryz.underlying4;obtain⟨E,rfl,hE⟩:=r4.int Tryz.underlying3;obtain⟨F,rfl,hF⟩:=r5.int Tryz.underlying50;obtain⟨G,rfl,hG⟩:=r6.int Tryz.underlying3;exact⟨⟨A,B,C,D,E,F,G⟩,rfl,⟨wf_i64 hA,hB,hC,wf_i64 hE,wf_u32 hF,wf_i64 hG⟩⟩
theorem Mz{w:World}{f:Nat}{cs:List Value}(h:Rd Tryz.prog w f 30 cs):∃ v,∃ l:List aj,cs=[v]∧SliceAt w v 13 l.length (l.flatMap aj.cells)∧(∀ x∈l,aj.ny x)∧oO l.length:=by
 obtain⟨f',v,rfl,rfl,es,h1,h2,h3⟩:=h.slice Tryz.underlying30;rw[show Tryz.prog.cellsOf 56=13 from by kernel_rfl] at h1;obtain⟨l,e1,e2⟩:=bU (R:=fun cs (x:aj)=>cs=aj.cells x∧aj.ny x) (fun cs h=>Jz h.2) es h2;rw[dM e1 fun i x y hx hy=>(e2 i x y hx hy).1,e1] at h1;rw[e1] at h3;exact⟨v,l,rfl,h1,dD e1 e2,bM (of_decide_eq_true (by kernel_rfl)) h3⟩
theorem ML{w:World}{f:Nat}{cs:List Value}(h:Rd Tryz.prog w f 184 cs):∃ x:kG,cs=x.cells∧x.Ok:=by
 obtain⟨f',rfl,h⟩:=h.struct Tryz.underlying184;obtain⟨c0,_,rfl,-,r0,c1,_,rfl,-,r1,hn⟩:=h;obtain rfl:_=[]:=hn;obtain⟨A,rfl,hA⟩:=r0.string Tryz.underlying9;obtain⟨B,rfl,hB⟩:=cW r1;exact⟨⟨A,B⟩,rfl,⟨fu hA,hB⟩⟩
theorem Rj{w:World}{f:Nat}{cs:List Value}(h:Rd Tryz.prog w f 24 cs):∃ v,∃ l:List kG,cs=[v]∧SliceAt w v 5 l.length (l.flatMap kG.cells)∧(∀ x∈l,kG.Ok x)∧oO l.length:=by
 obtain⟨f',v,rfl,rfl,es,h1,h2,h3⟩:=h.slice Tryz.underlying24;rw[show Tryz.prog.cellsOf 184=5 from by kernel_rfl] at h1;obtain⟨l,e1,e2⟩:=bU (R:=fun cs (x:kG)=>cs=kG.cells x∧kG.Ok x) (fun cs h=>ML h.2) es h2;rw[dM e1 fun i x y hx hy=>(e2 i x y hx hy).1,e1] at h1;rw[e1] at h3;exact⟨v,l,rfl,h1,dD e1 e2,bM (of_decide_eq_true (by kernel_rfl)) h3⟩
theorem MF{w:World}{f:Nat}{cs:List Value}(h:Rd Tryz.prog w f 188 cs):∃ x:gP,cs=x.cells∧x.Ok:=by
 obtain⟨f',rfl,h⟩:=h.struct Tryz.underlying188;obtain⟨c0,_,rfl,-,r0,c1,_,rfl,-,r1,c2,_,rfl,-,r2,hn⟩:=h;obtain rfl:_=[]:=hn;obtain⟨A,rfl,hA⟩:=r0.string Tryz.underlying9;obtain⟨B,rfl,hB⟩:=cW r1;obtain⟨C,rfl,hC⟩:=cW r2;exact⟨⟨A,B,C⟩,rfl,⟨fu hA,hB,hC⟩⟩
theorem Rb{w:World}{f:Nat}{cs:List Value}(h:Rd Tryz.prog w f 25 cs):∃ v,∃ l:List gP,cs=[v]∧SliceAt w v 9 l.length (l.flatMap gP.cells)∧(∀ x∈l,gP.Ok x)∧oO l.length:=by
 obtain⟨f',v,rfl,rfl,es,h1,h2,h3⟩:=h.slice Tryz.underlying25;rw[show Tryz.prog.cellsOf 188=9 from by kernel_rfl] at h1;obtain⟨l,e1,e2⟩:=bU (R:=fun cs (x:gP)=>cs=gP.cells x∧gP.Ok x) (fun cs h=>MF h.2) es h2;rw[dM e1 fun i x y hx hy=>(e2 i x y hx hy).1,e1] at h1;rw[e1] at h3;exact⟨v,l,rfl,h1,dD e1 e2,bM (of_decide_eq_true (by kernel_rfl)) h3⟩
theorem Mt{w:World}{f:Nat}{cs:List Value}(h:Rd Tryz.prog w f 192 cs):∃ x:jX,cs=x.cells∧x.Ok:=by
 obtain⟨f',rfl,h⟩:=h.struct Tryz.underlying192;obtain⟨c0,_,rfl,-,r0,c1,_,rfl,-,r1,c2,_,rfl,-,r2,c3,_,rfl,-,r3,hn⟩:=h;obtain rfl:_=[]:=hn;obtain⟨A,rfl,hA⟩:=r0.string Tryz.underlying9;obtain⟨B,rfl,hB⟩:=cW r1;obtain⟨C,rfl,hC⟩:=vU r2;obtain⟨D,rfl,hD⟩:=vG r3;exact⟨⟨A,B,C,D⟩,rfl,⟨fu hA,hB,hC,hD⟩⟩
theorem Q7{w:World}{f:Nat}{cs:List Value}(h:Rd Tryz.prog w f 26 cs):∃ v,∃ l:List jX,cs=[v]∧SliceAt w v 11 l.length (l.flatMap jX.cells)∧(∀ x∈l,jX.Ok x)∧oO l.length:=by
 obtain⟨f',v,rfl,rfl,es,h1,h2,h3⟩:=h.slice Tryz.underlying26;rw[show Tryz.prog.cellsOf 192=11 from by kernel_rfl] at h1;obtain⟨l,e1,e2⟩:=bU (R:=fun cs (x:jX)=>cs=jX.cells x∧jX.Ok x) (fun cs h=>Mt h.2) es h2;rw[dM e1 fun i x y hx hy=>(e2 i x y hx hy).1,e1] at h1;rw[e1] at h3;exact⟨v,l,rfl,h1,dD e1 e2,bM (of_decide_eq_true (by kernel_rfl)) h3⟩
theorem MK{w:World}{f:Nat}{cs:List Value}(h:Rd Tryz.prog w f 197 cs):∃ x:gH,cs=x.cells∧x.Ok:=by
 obtain⟨f',rfl,h⟩:=h.struct Tryz.underlying197;obtain⟨c0,_,rfl,-,r0,c1,_,rfl,-,r1,hn⟩:=h;obtain rfl:_=[]:=hn;obtain⟨A,rfl,hA⟩:=r0.string Tryz.underlying9;obtain⟨B,rfl⟩:=r1.bool Tryz.underlying4;exact⟨⟨A,B⟩,rfl,⟨fu hA⟩⟩
theorem Ri{w:World}{f:Nat}{cs:List Value}(h:Rd Tryz.prog w f 27 cs):∃ v,∃ l:List gH,cs=[v]∧SliceAt w v 2 l.length (l.flatMap gH.cells)∧(∀ x∈l,gH.Ok x)∧oO l.length:=by
 obtain⟨f',v,rfl,rfl,es,h1,h2,h3⟩:=h.slice Tryz.underlying27;rw[show Tryz.prog.cellsOf 197=2 from by kernel_rfl] at h1;obtain⟨l,e1,e2⟩:=bU (R:=fun cs (x:gH)=>cs=gH.cells x∧gH.Ok x) (fun cs h=>MK h.2) es h2;rw[dM e1 fun i x y hx hy=>(e2 i x y hx hy).1,e1] at h1;rw[e1] at h3;exact⟨v,l,rfl,h1,dD e1 e2,bM (of_decide_eq_true (by kernel_rfl)) h3⟩
theorem Mv{w:World}{f:Nat}{cs:List Value}(h:Rd Tryz.prog w f 84 cs):∃ x:bD,cs=x.cells∧x.Ok:=by
 obtain⟨f',rfl,h⟩:=h.struct Tryz.underlying84;obtain⟨c0,_,rfl,-,r0,c1,_,rfl,-,r1,c2,_,rfl,-,r2,c3,_,rfl,-,r3,c4,_,rfl,-,r4,c5,_,rfl,-,r5,c6,_,rfl,-,r6,hn⟩:=h;obtain rfl:_=[]:=hn;obtain⟨A,rfl,hA⟩:=r0.int Tryz.underlying3;obtain⟨B,rfl,hB⟩:=cW r1;obtain⟨C,rfl,hC⟩:=cW r2;obtain⟨D,rfl,hD⟩:=r3.int Tryz.underlying3;obtain⟨E,rfl,hE⟩:=r4.string Tryz.underlying9;obtain⟨F,rfl,hF⟩:=r5.int Tryz.underlying3;obtain⟨G,rfl,hG⟩:=r6.int Tryz.underlying3;exact⟨⟨A,B,C,D,E,F,G⟩,rfl,⟨wf_i64 hA,hB,hC,wf_i64 hD,fu hE,wf_i64 hF,wf_i64 hG⟩⟩
theorem Q9{w:World}{f:Nat}{cs:List Value}(h:Rd Tryz.prog w f 31 cs):∃ v,∃ l:List bD,cs=[v]∧SliceAt w v 13 l.length (l.flatMap bD.cells)∧(∀ x∈l,bD.Ok x)∧oO l.length:=by
 obtain⟨f',v,rfl,rfl,es,h1,h2,h3⟩:=h.slice Tryz.underlying31;rw[show Tryz.prog.cellsOf 84=13 from by kernel_rfl] at h1;obtain⟨l,e1,e2⟩:=bU (R:=fun cs (x:bD)=>cs=bD.cells x∧bD.Ok x) (fun cs h=>Mv h.2) es h2;rw[dM e1 fun i x y hx hy=>(e2 i x y hx hy).1,e1] at h1;rw[e1] at h3;exact⟨v,l,rfl,h1,dD e1 e2,bM (of_decide_eq_true (by kernel_rfl)) h3⟩
theorem ME{w:World}{f:Nat}{cs:List Value}(h:Rd Tryz.prog w f 203 cs):∃ x:kD,cs=x.cells∧x.Ok:=by
 obtain⟨f',rfl,h⟩:=h.struct Tryz.underlying203;obtain⟨c0,_,rfl,-,r0,c1,_,rfl,-,r1,c2,_,rfl,-,r2,c3,_,rfl,-,r3,hn⟩:=h;obtain rfl:_=[]:=hn;obtain⟨A,rfl,hA⟩:=cW r0;obtain⟨B,rfl,hB⟩:=cW r1;obtain⟨C,rfl,hC⟩:=r2.int Tryz.underlying3;obtain⟨D,rfl,hD⟩:=r3.int Tryz.underlying3;exact⟨⟨A,B,C,D⟩,rfl,⟨hA,hB,wf_i64 hC,wf_i64 hD⟩⟩
theorem Ra{w:World}{f:Nat}{cs:List Value}(h:Rd Tryz.prog w f 32 cs):∃ v,∃ l:List kD,cs=[v]∧SliceAt w v 10 l.length (l.flatMap kD.cells)∧(∀ x∈l,kD.Ok x)∧oO l.length:=by
 obtain⟨f',v,rfl,rfl,es,h1,h2,h3⟩:=h.slice Tryz.underlying32;rw[show Tryz.prog.cellsOf 203=10 from by kernel_rfl] at h1;obtain⟨l,e1,e2⟩:=bU (R:=fun cs (x:kD)=>cs=kD.cells x∧kD.Ok x) (fun cs h=>ME h.2) es h2;rw[dM e1 fun i x y hx hy=>(e2 i x y hx hy).1,e1] at h1;rw[e1] at h3;exact⟨v,l,rfl,h1,dD e1 e2,bM (of_decide_eq_true (by kernel_rfl)) h3⟩
theorem MG{w:World}{f:Nat}{cs:List Value}(h:Rd Tryz.prog w f 205 cs):∃ x:kE,cs=x.cells∧x.Ok:=by
 obtain⟨f',rfl,h⟩:=h.struct Tryz.underlying205;obtain⟨c0,_,rfl,-,r0,c1,_,rfl,-,r1,c2,_,rfl,-,r2,c3,_,rfl,-,r3,hn⟩:=h;obtain rfl:_=[]:=hn;obtain⟨A,rfl,hA⟩:=cW r0;obtain⟨B,rfl,hB⟩:=cW r1;obtain⟨C,rfl,hC⟩:=r2.int Tryz.underlying3;obtain⟨D,rfl,hD⟩:=vG r3;exact⟨⟨A,B,C,D⟩,rfl,⟨hA,hB,wf_i64 hC,hD⟩⟩
theorem Rc{w:World}{f:Nat}{cs:List Value}(h:Rd Tryz.prog w f 33 cs):∃ v,∃ l:List kE,cs=[v]∧SliceAt w v 13 l.length (l.flatMap kE.cells)∧(∀ x∈l,kE.Ok x)∧oO l.length:=by
 obtain⟨f',v,rfl,rfl,es,h1,h2,h3⟩:=h.slice Tryz.underlying33;rw[show Tryz.prog.cellsOf 205=13 from by kernel_rfl] at h1;obtain⟨l,e1,e2⟩:=bU (R:=fun cs (x:kE)=>cs=kE.cells x∧kE.Ok x) (fun cs h=>MG h.2) es h2;rw[dM e1 fun i x y hx hy=>(e2 i x y hx hy).1,e1] at h1;rw[e1] at h3;exact⟨v,l,rfl,h1,dD e1 e2,bM (of_decide_eq_true (by kernel_rfl)) h3⟩
theorem Mw{w:World}{f:Nat}{cs:List Value}(h:Rd Tryz.prog w f 125 cs):∃ x:kC,cs=x.cells∧x.Ok:=by
 obtain⟨f',rfl,h⟩:=h.struct Tryz.underlying125;obtain⟨c0,_,rfl,-,r0,c1,_,rfl,-,r1,hn⟩:=h;obtain rfl:_=[]:=hn;obtain⟨A,rfl,hA⟩:=r0.string Tryz.underlying9;obtain⟨B,rfl,hB⟩:=qX r1;exact⟨⟨A,B⟩,rfl,⟨fu hA,hB⟩⟩
theorem Q_{w:World}{f:Nat}{cs:List Value}(h:Rd Tryz.prog w f 35 cs):∃ v,∃ l:List kC,cs=[v]∧SliceAt w v 8 l.length (l.flatMap kC.cells)∧(∀ x∈l,kC.Ok x)∧oO l.length:=by
 obtain⟨f',v,rfl,rfl,es,h1,h2,h3⟩:=h.slice Tryz.underlying35;rw[show Tryz.prog.cellsOf 125=8 from by kernel_rfl] at h1;obtain⟨l,e1,e2⟩:=bU (R:=fun cs (x:kC)=>cs=kC.cells x∧kC.Ok x) (fun cs h=>Mw h.2) es h2;rw[dM e1 fun i x y hx hy=>(e2 i x y hx hy).1,e1] at h1;rw[e1] at h3;exact⟨v,l,rfl,h1,dD e1 e2,bM (of_decide_eq_true (by kernel_rfl)) h3⟩
theorem MH{w:World}{f:Nat}{cs:List Value}(h:Rd Tryz.prog w f 127 cs):∃ x:kF,cs=x.cells∧x.Ok:=by
 obtain⟨f',rfl,h⟩:=h.struct Tryz.underlying127;obtain⟨c0,_,rfl,-,r0,c1,_,rfl,-,r1,c2,_,rfl,-,r2,hn⟩:=h;obtain rfl:_=[]:=hn;obtain⟨A,rfl,hA⟩:=r0.string Tryz.underlying9;obtain⟨B,rfl,hB⟩:=r1.int Tryz.underlying3;obtain⟨C,rfl,hC⟩:=qX r2;exact⟨⟨A,B,C⟩,rfl,⟨fu hA,wf_i64 hB,hC⟩⟩
theorem Rf{w:World}{f:Nat}{cs:List Value}(h:Rd Tryz.prog w f 36 cs):∃ v,∃ l:List kF,cs=[v]∧SliceAt w v 9 l.length (l.flatMap kF.cells)∧(∀ x∈l,kF.Ok x)∧oO l.length:=by
 obtain⟨f',v,rfl,rfl,es,h1,h2,h3⟩:=h.slice Tryz.underlying36;rw[show Tryz.prog.cellsOf 127=9 from by kernel_rfl] at h1;obtain⟨l,e1,e2⟩:=bU (R:=fun cs (x:kF)=>cs=kF.cells x∧kF.Ok x) (fun cs h=>MH h.2) es h2;rw[dM e1 fun i x y hx hy=>(e2 i x y hx hy).1,e1] at h1;rw[e1] at h3;exact⟨v,l,rfl,h1,dD e1 e2,bM (of_decide_eq_true (by kernel_rfl)) h3⟩
theorem MN{w:World}{f:Nat}{cs:List Value}(h:Rd Tryz.prog w f 129 cs):∃ x:kH,cs=x.cells∧x.Ok:=by
 obtain⟨f',rfl,h⟩:=h.struct Tryz.underlying129;obtain⟨c0,_,rfl,-,r0,c1,_,rfl,-,r1,c2,_,rfl,-,r2,c3,_,rfl,-,r3,hn⟩:=h;obtain rfl:_=[]:=hn;obtain⟨A,rfl,hA⟩:=r0.string Tryz.underlying9;obtain⟨B,rfl,hB⟩:=r1.int Tryz.underlying3;obtain⟨C,rfl,hC⟩:=cW r2;obtain⟨D,rfl,hD⟩:=cW r3;exact⟨⟨A,B,C,D⟩,rfl,⟨fu hA,wf_i64 hB,hC,hD⟩⟩
theorem Rk{w:World}{f:Nat}{cs:List Value}(h:Rd Tryz.prog w f 37 cs):∃ v,∃ l:List kH,cs=[v]∧SliceAt w v 10 l.length (l.flatMap kH.cells)∧(∀ x∈l,kH.Ok x)∧oO l.length:=by
 obtain⟨f',v,rfl,rfl,es,h1,h2,h3⟩:=h.slice Tryz.underlying37;rw[show Tryz.prog.cellsOf 129=10 from by kernel_rfl] at h1;obtain⟨l,e1,e2⟩:=bU (R:=fun cs (x:kH)=>cs=kH.cells x∧kH.Ok x) (fun cs h=>MN h.2) es h2;rw[dM e1 fun i x y hx hy=>(e2 i x y hx hy).1,e1] at h1;rw[e1] at h3;exact⟨v,l,rfl,h1,dD e1 e2,bM (of_decide_eq_true (by kernel_rfl)) h3⟩
theorem MJ{w:World}{f:Nat}{cs:List Value}(h:Rd Tryz.prog w f 180 cs):∃ x:iB,qF w cs x∧x.Ok:=by
 obtain⟨f',rfl,h⟩:=h.struct Tryz.underlying180;obtain⟨c0,_,rfl,-,r0,c1,_,rfl,-,r1,hn⟩:=h;obtain rfl:_=[]:=hn;obtain⟨A,rfl,hA⟩:=r0.string Tryz.underlying9;obtain⟨vB,B,rfl,sB,aB,lB⟩:=mT r1;exact⟨⟨A,B⟩,⟨vB,rfl,sB⟩,⟨fu hA,⟨lB,aB⟩⟩⟩
theorem Rh{w:World}{f:Nat}{cs:List Value}(h:Rd Tryz.prog w f 22 cs):∃ v,∃ l:List iB,cs=[v]∧ak 2 (qF w) w v l∧(∀ x∈l,iB.Ok x)∧oO l.length:=by
 obtain⟨f',v,rfl,rfl,es,h1,h2,h3⟩:=h.slice Tryz.underlying22;rw[show Tryz.prog.cellsOf 180=2 from by kernel_rfl] at h1 h2;obtain⟨l,e1,e2⟩:=bU (R:=fun cs (x:iB)=>qF w cs x∧iB.Ok x) (fun cs h=>MJ h.2) es h2;rw[e1] at h1 h3;exact⟨v,l,rfl,⟨es,e1,fun x hx=>(h2 x hx).1,h1,fun i x y hx hy=>(e2 i x y hx hy).1⟩,dD e1 e2,bM (of_decide_eq_true (by kernel_rfl)) h3⟩
theorem Mu{w:World}{f:Nat}{cs:List Value}(h:Rd Tryz.prog w f 86 cs):∃ x:lK,qC w cs x∧x.Ok:=by
 obtain⟨f',rfl,h⟩:=h.struct Tryz.underlying86;obtain⟨c0,_,rfl,-,r0,c1,_,rfl,-,r1,c2,_,rfl,-,r2,hn⟩:=h;obtain rfl:_=[]:=hn;obtain⟨A,rfl,hA⟩:=r0.string Tryz.underlying9;obtain⟨vB,B,rfl,sB,aB,lB⟩:=mT r1;obtain⟨C,rfl⟩:=r2.bool Tryz.underlying4;exact⟨⟨A,B,C⟩,⟨vB,rfl,sB⟩,⟨fu hA,⟨lB,aB⟩⟩⟩
theorem Q8{w:World}{f:Nat}{cs:List Value}(h:Rd Tryz.prog w f 23 cs):∃ v,∃ l:List lK,cs=[v]∧ak 3 (qC w) w v l∧(∀ x∈l,lK.Ok x)∧oO l.length:=by
 obtain⟨f',v,rfl,rfl,es,h1,h2,h3⟩:=h.slice Tryz.underlying23;rw[show Tryz.prog.cellsOf 86=3 from by kernel_rfl] at h1 h2;obtain⟨l,e1,e2⟩:=bU (R:=fun cs (x:lK)=>qC w cs x∧lK.Ok x) (fun cs h=>Mu h.2) es h2;rw[e1] at h1 h3;exact⟨v,l,rfl,⟨es,e1,fun x hx=>(h2 x hx).1,h1,fun i x y hx hy=>(e2 i x y hx hy).1⟩,dD e1 e2,bM (of_decide_eq_true (by kernel_rfl)) h3⟩
theorem MI{w:World}{f:Nat}{cs:List Value}(h:Rd Tryz.prog w f 91 cs):∃ x:nA,qE w cs x∧x.Ok:=by
 obtain⟨f',rfl,h⟩:=h.struct Tryz.underlying91;obtain⟨c0,_,rfl,-,r0,c1,_,rfl,-,r1,c2,_,rfl,-,r2,c3,_,rfl,-,r3,hn⟩:=h;obtain rfl:_=[]:=hn;obtain⟨A,rfl,hA⟩:=r0.int Tryz.underlying3;obtain⟨B,rfl,hB⟩:=r1.int Tryz.underlying50;obtain⟨C,rfl⟩:=r2.bool Tryz.underlying4;obtain⟨D,sD,hD⟩:=Bp _ _ r3;exact⟨⟨A,B,C,D⟩,⟨_,by simp,sD⟩,⟨wf_i64 hA,wf_u32 hB,hD⟩⟩
theorem Rg{w:World}{f:Nat}{cs:List Value}(h:Rd Tryz.prog w f 34 cs):∃ v,∃ l:List nA,cs=[v]∧ak 13 (qE w) w v l∧(∀ x∈l,nA.Ok x)∧oO l.length:=by
 obtain⟨f',v,rfl,rfl,es,h1,h2,h3⟩:=h.slice Tryz.underlying34;rw[show Tryz.prog.cellsOf 91=13 from by kernel_rfl] at h1 h2;obtain⟨l,e1,e2⟩:=bU (R:=fun cs (x:nA)=>qE w cs x∧nA.Ok x) (fun cs h=>MI h.2) es h2;rw[e1] at h1 h3;exact⟨v,l,rfl,⟨es,e1,fun x hx=>(h2 x hx).1,h1,fun i x y hx hy=>(e2 i x y hx hy).1⟩,dD e1 e2,bM (of_decide_eq_true (by kernel_rfl)) h3⟩
theorem Qw{w:World}{f:Nat}{cs:List Value}(h:Rd Tryz.prog w f 29 cs):∃ v,∃ l:List aq,cs=[v]∧ak 10 (bh w) w v l∧(∀ x∈l,aq.Ok x)∧oO l.length:=by
 obtain⟨f',v,rfl,rfl,es,h1,h2,h3⟩:=h.slice Tryz.underlying29;rw[show Tryz.prog.cellsOf 89=10 from by kernel_rfl] at h1 h2;obtain⟨l,e1,e2⟩:=bU (R:=fun cs (x:aq)=>bh w cs x∧aq.Ok x) (fun cs h=>Bp _ _ h.2) es h2;rw[e1] at h1 h3;exact⟨v,l,rfl,⟨es,e1,fun x hx=>(h2 x hx).1,h1,fun i x y hx hy=>(e2 i x y hx hy).1⟩,dD e1 e2,bM (of_decide_eq_true (by kernel_rfl)) h3⟩
theorem Ss{w:World}{u:Value}(h:Arg Tryz.prog w 39 u):∃ c0 c1 c2 c3 c4 c5 c6 c7 c8 c9 aS aN aM aR aQ aP aO:Value,∃ p:aA,u=.agg #[c0,c1,c2,c3,c4,c5,c6,c7,c8,c9,aS,aN,aM,aR,aQ,aP,aO]∧aJ w c0 c1 c2 c3 c4 c5 c6 c7 c8 c9 aS aN aM aR aQ aP aO p∧p.Ok:=by
 obtain⟨f,cs,h,rfl⟩:=h;rw[Tryz.underlying39];obtain⟨f',rfl,h⟩:=h.struct Tryz.underlying39;obtain⟨c0,_,rfl,-,r0,c1,_,rfl,-,r1,c2,_,rfl,-,r2,c3,_,rfl,-,r3,c4,_,rfl,-,r4,c5,_,rfl,-,r5,c6,_,rfl,-,r6,c7,_,rfl,-,r7,c8,_,rfl,-,r8,c9,_,rfl,-,r9,aS,_,rfl,-,r10,aN,_,rfl,-,r11,aM,_,rfl,-,r12,aR,_,rfl,-,r13,aQ,_,rfl,-,r14,aP,_,rfl,-,r15,aO,_,rfl,-,r16,hn⟩:=h;obtain rfl:_=[]:=hn;obtain⟨v0,l0,rfl,s0,o0,b0⟩:=Rh r0;obtain⟨v1,l1,rfl,s1,o1,b1⟩:=Q8 r1;obtain⟨v2,l2,rfl,s2,o2,b2⟩:=Rj r2;obtain⟨v3,l3,rfl,s3,o3,b3⟩:=Rb r3;obtain⟨v4,l4,rfl,s4,o4,b4⟩:=Q7 r4;obtain⟨v5,l5,rfl,s5,o5,b5⟩:=Ri r5;obtain⟨v6,l6,rfl,s6,o6,b6⟩:=mT r6;obtain⟨v7,l7,rfl,s7,o7,b7⟩:=mT r7;obtain⟨v8,l8,rfl,s8,o8,b8⟩:=Qw r8;obtain⟨v9,l9,rfl,s9,o9,b9⟩:=Mz r9;obtain⟨v10,l10,rfl,s10,o10,b10⟩:=Q9 r10;obtain⟨v11,l11,rfl,s11,o11,b11⟩:=Ra r11;obtain⟨v12,l12,rfl,s12,o12,b12⟩:=Rc r12;obtain⟨v13,l13,rfl,s13,o13,b13⟩:=Rg r13;obtain⟨v14,l14,rfl,s14,o14,b14⟩:=Q_ r14;obtain⟨v15,l15,rfl,s15,o15,b15⟩:=Rf r15;obtain⟨v16,l16,rfl,s16,o16,b16⟩:=Rk r16;exact⟨v0,v1,v2,v3,v4,v5,v6,v7,v8,v9,v10,v11,v12,v13,v14,v15,v16,⟨l0,l1,l2,l3,l4,l5,l6,l7,l8,l9,l10,l11,l12,l13,l14,l15,l16⟩,rfl,⟨s0,s1,s2,s3,s4,s5,s6,s7,s8,s9,s10,s11,s12,s13,s14,s15,s16⟩,⟨o0,b0,o1,b1,o2,b2,o3,b3,o4,b4,o5,b5,o6,b6,o7,b7,o8,b8,o9,b9,o10,b10,o11,b11,o12,b12,o13,b13,o14,b14,o15,b15,o16,b16⟩⟩
end Go.Proofs.YtdcofoaihmongaaGreat
namespace Go.Proofs.YtdcofoaihmongaaGreat
open Go Go.RowKit
theorem SliceAt.elt{α:Type}{f:α→List Value}{k n i c:Nat}{w:World}{a:Option Addr}{l:List α}{y:α}(h:SliceAt w (.slice a n c) k n (l.flatMap f))(hf:∀ x,(f x).length=k)(hk:0<k)(hy:l[i]?=some y)(hi:i<n):
 ∃ b off,a=some ⟨b,off,none⟩∧∀ j u,(f y)[j]?=some u→w.cell? ⟨b,off+i*k+j,none⟩=some u:=by
 obtain⟨a',c',e,-,-,h2⟩:=SliceAt.form h hk;injection e with e1 e2 e3;subst e1;obtain⟨b,off,hb,h3⟩:=h2 i hi;refine⟨b,off,hb,fun j u hu=>h3 j u ?_⟩;rw[lX hf hy j (hf y▸(arM.1 hu).1)];exact hu
theorem aH.get{w:World}{v:Value}{l:List ByteArray}(h:aH w v l):∃ a c,v=.slice a l.length c∧l.length≤9223372036854775807∧∀ (i:Nat) s,l[i]?=some s→∃ b off,a=some ⟨b,off,none⟩∧w.cell? ⟨b,off+i*1,none⟩=some (.string s):=by
 obtain⟨a,c,rfl,-,hm,-⟩:=SliceAt.form h (by decide);refine⟨a,c,rfl,hm,fun i s hs=>?_⟩;obtain⟨b,off,e,hc⟩:=SliceAt.elt (f:=aT) h (fun _=>rfl) (by decide) hs (arM.1 hs).1;exact⟨b,off,e,hc 0 _ rfl⟩
theorem dH{α:Type}{f:α→List Value}{k n n' c c' m:Nat}{w0 w:World}{a a':Option Addr}{l r:List α}(hf:∀ x,(f x).length=k)(hk:0<k)(h:SliceAt w0 (.slice a n c) k n (l.flatMap f))(h':SliceAt w0 (.slice a' n' c') k n' (r.flatMap f))(hn:n=l.length)(hn':n'=r.length)(hm:m<l.length)(hl:l.length=r.length)(hb:arQ w0.heap.size w0 w):
 ∃ x y b o b' o',l[m]?=some x∧r[m]?=some y∧(a=some ⟨b,o,none⟩∧∀ j u,(f x)[j]?=some u→w.cell? ⟨b,o+m*k+j,none⟩=some u)∧(a'=some ⟨b',o',none⟩∧∀ j u,(f y)[j]?=some u→w.cell? ⟨b',o'+m*k+j,none⟩=some u):=by
 obtain⟨x,hx⟩:∃ x,l[m]?=some x:=⟨_,arN hm⟩;obtain⟨y,hy⟩:∃ y,r[m]?=some y:=⟨_,arN (hl▸hm)⟩;obtain⟨b,o,e,hc⟩:=h.elt hf hk hx (hn▸hm);obtain⟨b',o',e',hc'⟩:=h'.elt hf hk hy (hn'▸hl▸hm);exact⟨x,y,b,o,b',o',hx,hy,⟨e,cG hb hc⟩,e',cG hb hc'⟩
theorem aJ.open{w:World}{c0 c1 c2 c3 c4 c5 c6 c7 c8 c9 aS aN aM aR aQ aP aO:Value}{p:aA}(h:aJ w c0 c1 c2 c3 c4 c5 c6 c7 c8 c9 aS aN aM aR aQ aP aO p):∃ a0 a1 a2 a3 a4 a5 a6 a7 a8 a9 a10 a11 a12 a13 a14 a15 a16 k0 k1 k2 k3 k4 k5 k6 k7 k8 k9 k10 k11 k12 k13 k14 k15 k16,c0=.slice a0 p.classes.length k0∧c1=.slice a1 p.types.length k1∧c2=.slice a2 p.attrs.length k2∧c3=.slice a3 p.roles.length k3∧c4=.slice a4 p.users.length k4∧c5=.slice a5 p.bools.length k5∧c6=.slice a6 p.aC.length k6∧c7=.slice a7 p.cats.length k7∧c8=.slice a8 p.conds.length k8∧c9=.slice a9 p.rules.length k9∧aS=.slice a10 p.trans.length k10∧aN=.slice a11 p.aK.length k11∧aM=.slice a12 p.ranges.length k12∧aR=.slice a13 p.cons.length k13∧aQ=.slice a14 p.bH.length k14∧aP=.slice a15 p.files.length k15∧aO=.slice a16 p.asserts.length k16:=by
 obtain⟨a0,k0,e0,-⟩:=ak.form h.classes (by decide);obtain⟨a1,k1,e1,-⟩:=ak.form h.types (by decide);obtain⟨a2,k2,e2,-⟩:=SliceAt.form h.attrs (by decide);obtain⟨a3,k3,e3,-⟩:=SliceAt.form h.roles (by decide);obtain⟨a4,k4,e4,-⟩:=SliceAt.form h.users (by decide);obtain⟨a5,k5,e5,-⟩:=SliceAt.form h.bools (by decide);obtain⟨a6,k6,e6,-⟩:=aH.get h.aC;obtain⟨a7,k7,e7,-⟩:=aH.get h.cats;obtain⟨a8,k8,e8,-⟩:=ak.form h.conds (by decide);obtain⟨a9,k9,e9,-⟩:=SliceAt.form h.rules (by decide);obtain⟨a10,k10,e10,-⟩:=SliceAt.form h.trans (by decide);obtain⟨a11,k11,e11,-⟩:=SliceAt.form h.aK (by decide);obtain⟨a12,k12,e12,-⟩:=SliceAt.form h.ranges (by decide);obtain⟨a13,k13,e13,-⟩:=ak.form h.cons (by decide);obtain⟨a14,k14,e14,-⟩:=SliceAt.form h.bH (by decide);obtain⟨a15,k15,e15,-⟩:=SliceAt.form h.files (by decide);obtain⟨a16,k16,e16,-⟩:=SliceAt.form h.asserts (by decide);exact⟨_,_,_,_,_,_,_,_,_,_,_,_,_,_,_,_,_,_,_,_,_,_,_,_,_,_,_,_,_,_,_,_,_,_,e0,e1,e2,e3,e4,e5,e6,e7,e8,e9,e10,e11,e12,e13,e14,e15,e16⟩
theorem bd{t:TypeId}{parts:Array (Nat×Operand)}{vs:List Value}{cells:Array Value}(h:Tryz.prog.built t ((parts.toList.zip vs).map fun x=>(x.1.1,x.2))=some cells)(a:Act)(w:World)(o:Oper)(ho:o.op=.build t parts)(hv:wQ a (gT (.build t parts)) vs):
 (execOp a.eval o).run Tryz.prog w=.ok (.value (.agg cells)) w:=by
 refine ux ho rfl ?_;rw[← h];congr 1;have h1:vs=(parts.toList.map (·.2)).map a.eval:=(ur hv).symm;rw[h1,Array.toList_map];generalize parts.toList=l
 induction l with
 | nil=>rfl
 | cons x r ih=>simp only[List.map_cons,List.zip_cons_cons,ih]
theorem ri{v M:Int}(h:M=v):Ending.returned (nF [.int .i64 v])=.returned (.int .i64 M):=by rw[h];rfl
theorem rb{v M:Bool}(h:M=v):Ending.returned (nF [.bool v])=.returned (.bool M):=by rw[h];rfl
theorem iD{w:World}{B n:Nat}{u:Value}{xs:List Value}{l:List ByteArray}(h:w.ownsRow B 9 1 u n xs)(hn:n=l.length)(hx:xs=l.flatMap aT):aH w u l:=by
 subst hn hx;exact SliceAt.bR h fun v hv=>by obtain⟨s,-,hs⟩:=List.mem_flatMap.1 hv;simp only[aT,arR] at hs;subst hs;rfl
theorem qR{α:Type}{f:α→ByteArray}{l:List α}{m:Nat}{y:α}(h:l[m]?=some y):((l.take (m+1)).map f).flatMap aT=((l.take m).map f).flatMap aT++[.string (f y)]:=by
 rw[List.take_add_one,h];simp[aT]
theorem ak.elt{α:Type}{k i c:Nat}{R:List Value→α→Prop}{w:World}{a:Option Addr}{l:List α}{y:α}{n:Nat}(h:ak k R w (.slice a n c) l)(hk:0<k)(hy:l[i]?=some y):∃ b off x,a=some ⟨b,off,none⟩∧R x y∧∀ j u,x[j]?=some u→w.cell? ⟨b,off+i*k+j,none⟩=some u:=by
 obtain⟨la,lk,e,-,-,hc⟩:=ak.form h hk;injection e with e1 e2 e3;subst e1;obtain⟨b,off,x,h1,h2,-,h3⟩:=hc i y hy;exact⟨b,off,x,h1,h2,h3⟩
theorem fbp{op:Op}{ty:TypeId}{xs:List Operand}{vs:List Value}{v:Value}{B:Nat}{w0 w:World}{bs:List Bx}{rs:List Rw}{K:Value→List Bx→List Rw→World→Prop}(M:aV B w0 w bs rs)(hx:∀ (a:Act) (o':Oper),o'.op=op→wQ a xs vs→(execOp a.eval o').run Tryz.prog w=.ok (.value v) w)(h:K v bs rs w):
 ∃ R:Value→World→Prop,(∀ (a:Act) (o':Oper),o'.op=op→o'.type=ty→wQ a xs vs→∃ v w',(execOp a.eval o').run Tryz.prog w=.ok (.value v) w'∧R v w')∧∀ v w',R v w'→∃ bs' rs',aV B w0 w' bs' rs'∧K v bs' rs' w':=
 ⟨fun v' w'=>v'=v∧w'=w,fun a o' ho _ hv=>⟨_,_,hx a o' ho hv,rfl,rfl⟩,fun _ _ ⟨h1,h2⟩=>by subst h1 h2;exact⟨_,_,M,h⟩⟩
theorem Ee{P:Program}{a:Act}{w:World}{o:Oper}{ty yt:TypeId}{x y:Operand}{q r:Nat}(hq:q<4)(hr:r<64)(ho:o.op=.binOp .quo ty x y yt)(hx:a.eval x=.int .i64 ((64*q+r:Nat):Int))(hy:a.eval y=.int .i64 64):(execOp a.eval o).run P w=.ok (.value (.int .i64 (q:Int))) w:=by
 rw[IC ho hx hy (by decide),Int.tdiv_eq_ediv_of_nonneg (by omega),show((64*q+r:Nat):Int)/64=q by omega,wrap_i64];constructor<;>omega
theorem R6{x r:Nat}(hx:yJ x)(hr:r<64):bits .or .u64 (x:Int) ((2^r:Nat):Int)=((x|||2^r:Nat):Int):=bits_or_u64_nat _ _ hx (DZ hr)
theorem Zt{P:Program}{a:Act}{w:World}{o:Oper}{ty yt:TypeId}{x y:Operand}{q r:Nat}(hr:r<64)(ho:o.op=.binOp .rem ty x y yt)(hx:a.eval x=.int .i64 ((64*q+r:Nat):Int))(hy:a.eval y=.int .i64 64):(execOp a.eval o).run P w=.ok (.value (.int .i64 (r:Int))) w:=by
 unfold execOp;simp[ho,hx,hy,eqGuard,binOp,Op.intDiv];rw[Int.tmod_eq_emod_of_nonneg (by omega)];omega
theorem V5{P:Program}{a:Act}{w:World}{o:Oper}{ty yt:TypeId}{x y:Operand}{r:Nat}(hr:r<64)(ho:o.op=.binOp .shl ty x y yt)(hx:a.eval x=.int .u64 1)(hy:a.eval y=.int .i64 (r:Int)):(execOp a.eval o).run P w=.ok (.value (.int .u64 ((2^r:Nat):Int))) w:=by
 rw[k_ ho hx hy (by omega) (by simp[IntKind.bits];omega),Int.toNat_natCast,Int.one_mul,zK hr]
theorem Mh(w:World){q r:Nat}(hq:q<4)(hr:r<64):Calls Tryz.prog 64 #[.int .i64 ((64*q+r:Nat):Int)] w fun e w'=>e=.returned (.int .u64 ((2^r:Nat):Int))∧arQ w.heap.size w w':=(Xw w (64*q+r) (by omega)).mono fun _ _ ⟨h1,h2⟩=>⟨by rw[h1,show(64*q+r)%64=r by omega],h2▸arQ.refl _ _⟩
theorem qQ{n:Int}(h:0≤n∧n<256):∃ q r:Nat,q<4∧r<64∧n=((64*q+r:Nat):Int):=⟨n.toNat/64,n.toNat%64,by omega,by omega,by omega⟩
theorem zN{s:ay}{q r:Nat}(hq:q<4)(hr:r<64):s.with ((64*q+r:Nat):Int)=s.put q (s.word q|||2^r):=by
 unfold ay.with ay.add;rw[if_pos ⟨by omega,by omega⟩,Int.toNat_natCast,show(64*q+r)/64=q by omega,show(64*q+r)%64=r by omega]
theorem Si(w0:World)(s:ay)(hs:s.Ok)(n:Int):Calls Tryz.prog 130 #[.agg #[.int .u64 s.a,.int .u64 s.b,.int .u64 s.c,.int .u64 s.d],.int .i64 n] w0 fun e w'=>e=.returned (.agg #[.int .u64 (s.with n).a,.int .u64 (s.with n).b,.int .u64 (s.with n).c,.int .u64 (s.with n).d])∧arQ w0.heap.size w0 w':=by
 refine bX [] (fn:=Tryz.f130) Tryz.func130 rfl Tryz.ntmps130 rfl<|fun g1 w1 M1=>ei<|an sV fun g2 w2 M2=>an (fun h=>?_) fun h=>lb 1<|an rfl<|lb 0<|an ⟨rfl,rfl⟩ fun w M=>ei (x:=0)<|an rfl fun M=>⟨?_,M.below⟩
 ·obtain⟨q,r,hq,hr,rfl⟩:=qQ (n:=n) (by simpa using h);rw[zN hq hr];clear h;rcases(show q=0∨q=1∨q=2∨q=3 by omega) with rfl|rfl|rfl|rfl
  all_goals
   refine dr (by kernel_rfl)<|ei<|an (fun a w o ho hv=>Ee hq hr ho (dJ hv) (dX hv))<|ei<|an (fun a w o ho hv=>Ee hq hr ho (dJ hv) (dX hv))<|ei<|an ⟨rfl,by decide⟩<|lb 1<|an rfl<|cl<|an (fun w' hb M'=>Mh w' hq hr)<|ei<|an (R6 (by first|exact hs.a|exact hs.b|exact hs.c|exact hs.d) hr)<|ei<|an ⟨rfl,by decide⟩<|fun w3 zu M3=>lb 1<|an ⟨rfl,rfl⟩ fun w4 M4=>lb 1<|an rfl<|lb 0<|an ⟨rfl,rfl⟩ fun w5 M5=>ei (x:=0)<|an rfl fun M=>⟨rfl,M.below⟩
 ·rw[show s.with n=s from if_neg (by intro h2;rw[Bool.and_eq_false_iff,decide_eq_false_iff_not,decide_eq_false_iff_not] at h;omega)]
theorem VU{x r:Nat}(hx:yJ x)(hr:r<64):(!decide (bits .and .u64 (x:Int) ((2^r:Nat):Int)=0))=x.testBit r:=by
 rw[bits_and_u64_nat _ _ hx (DZ hr)]
 have h:x&&&2^r=if x.testBit r=true then 2^r else 0:=by
  refine Nat.eq_of_testBit_eq fun j=>?_
  rw[Nat.testBit_and,Nat.testBit_two_pow];by_cases e:r=j
  ·subst e;cases hb:x.testBit r<;>simp
  ·cases hb:x.testBit r<;>simp[e]
 rw[h];have:=Nat.two_pow_pos r
 cases x.testBit r with
 | false=>rw[if_neg (by decide)];rfl
 | true=>rw[if_pos rfl,decide_eq_false (by omega)];rfl
theorem Dd{s:ay}{q r:Nat}(hq:q<4)(hr:r<64):s.mem ((64*q+r:Nat):Int)=(s.word q).testBit r:=by
 unfold ay.mem ay.has;rw[decide_eq_true ⟨by omega,by omega⟩,Bool.true_and,Int.toNat_natCast,show(64*q+r)/64=q by omega,show(64*q+r)%64=r by omega]
theorem XY(w0:World)(s:ay)(hs:s.Ok)(n:Int):Calls Tryz.prog 18 #[.agg #[.int .u64 s.a,.int .u64 s.b,.int .u64 s.c,.int .u64 s.d],.int .i64 n] w0 fun e w'=>e=.returned (.bool (s.mem n))∧arQ w0.heap.size w0 w':=by
 by_cases h:0≤n∧n<256
 ·obtain⟨q,r,hq,hr,rfl⟩:=qQ h;rw[Dd hq hr];rcases(show q=0∨q=1∨q=2∨q=3 by omega) with rfl|rfl|rfl|rfl
  all_goals
   refine bX [] (fn:=Tryz.f18) Tryz.func18 rfl Tryz.ntmps18 rfl<|fun g1 w1 M1=>dr (by kernel_rfl)<|ei<|an (fun _ a w o ho hv=>Ee hq hr ho (dJ hv) (dX hv))<|ei<|an (fun _=>⟨rfl,by decide⟩)<|lb 0<|an (fun _=>rfl)<|cl<|an (fun _ w' hb M'=>Mh w' hq hr)<|ei<|an (fun _=>rfl)<|fun w3 zu M3=>fun M=>⟨?_,M.below⟩
   rw[decide_eq_true h.1,decide_eq_true h.2];exact congrArg (fun b=>Ending.returned (.bool b)) (VU (by first|exact hs.a|exact hs.b|exact hs.c|exact hs.d) hr)
 ·refine bX [] (fn:=Tryz.f18) Tryz.func18 rfl Tryz.ntmps18 rfl<|fun g1 w1 M1=>dr (by kernel_rfl)<|ei (x:=.int .i64 0)<|an (fun h2=>absurd h (by simpa using h2))<|ei (x:=0)<|an (fun h2=>⟨rfl,by decide⟩)<|lb 0<|an (fun _=>rfl)<|cl (v:=.int .u64 0)<|an (fun h2=>absurd h (by simpa using h2))<|ei<|an (fun _=>rfl)<|fun w3 zu M3=>fun M=>⟨?_,M.below⟩
  rw[show s.mem n=false by unfold ay.mem;rw[decide_eq_false h];rfl]
  have:(decide (0≤n)&&decide (n<256))=false:=by
   rw[Bool.and_eq_false_iff,decide_eq_false_iff_not,decide_eq_false_iff_not];omega
  simp[nF,this]
theorem Pp(w0:World)(s:ay)(hs:s.Ok):Calls Tryz.prog 195 #[.agg #[.int .u64 s.a,.int .u64 s.b,.int .u64 s.c,.int .u64 s.d],.int .i64 0] w0 fun e w'=>e=.returned (.agg #[.int .u64 ((s.a&&&(18446744073709551615-1):Nat):Int),.int .u64 s.b,.int .u64 s.c,.int .u64 s.d])∧arQ w0.heap.size w0 w':=by
 exact bX [] (fn:=Tryz.f195) Tryz.func195 rfl Tryz.ntmps195 rfl<|fun g1 w1 M1=>ei<|an sV fun g2 w2 M2=>an (fun _=>dr (by kernel_rfl)<|ei<|an (fun a w o ho hv=>Ee (q:=0) (r:=0) (by decide) (by decide) ho (dJ hv) (dX hv))<|ei<|an (fun a w o ho hv=>Ee (q:=0) (r:=0) (by decide) (by decide) ho (dJ hv) (dX hv))<|ei<|an ⟨rfl,by decide⟩<|lb 1<|an rfl<|cl<|an (fun w' hb M'=>Mh w' (q:=0) (r:=0) (by decide) (by decide))<|ei<|an (u64_andNot_nat s.a 1 hs.a (by decide))<|ei<|an ⟨rfl,by decide⟩<|fun w3 zu M3=>lb 1<|an ⟨rfl,rfl⟩ fun w4 M4=>lb 1<|an rfl<|lb 0<|an ⟨rfl,rfl⟩ fun w5 M5=>ei (x:=0)<|an rfl fun M=>⟨rfl,M.below⟩) fun h=>by simp at h
theorem abX(w0:World)(s:ay)(hs:s.Ok)(n:Int):Calls Tryz.prog 124 #[.agg #[.int .u64 s.a,.int .u64 s.b,.int .u64 s.c,.int .u64 s.d],.int .i64 n] w0 fun e w'=>e=.returned (.agg #[.int .u64 (s.with n).a,.int .u64 (s.with n).b,.int .u64 (s.with n).c,.int .u64 (s.with n).d])∧arQ w0.heap.size w0 w':=by
 by_cases h:0≤n∧n<256
 ·have hin:∀ w:World,Calls Tryz.prog 206 #[.int .i64 n] w fun e w'=>e=.returned (.bool true)∧arQ w.heap.size w w':=fun w=>(Lu w n h.1 h.2).mono fun _ _ ⟨h1,h2⟩=>⟨h1,h2▸arQ.refl _ _⟩
  obtain⟨q,r,hq,hr,rfl⟩:=qQ h;rw[zN hq hr];clear h;rcases(show q=0∨q=1∨q=2∨q=3 by omega) with rfl|rfl|rfl|rfl
  all_goals
   exact bX [] (fn:=Tryz.f124) Tryz.func124 rfl Tryz.ntmps124 rfl<|fun g1 w1 M1=>ei<|an sV fun g2 w2 M2=>cl<|an (hin _) fun w3 M3=>an (fun _=>dr (by kernel_rfl)<|ei<|an (fun a w o ho hv=>Ee hq hr ho (dJ hv) (dX hv))<|ei<|an ⟨rfl,by decide⟩<|lb 1<|an rfl<|ei<|an (fun a w o ho hv=>Zt hr ho (dJ hv) (dX hv))<|ei<|an (fun a w o ho hv=>V5 hr ho (dJ hv) (dX hv))<|ei<|an (R6 (by first|exact hs.a|exact hs.b|exact hs.c|exact hs.d) hr)<|ei<|an ⟨rfl,by decide⟩<|fun w3 zu M3=>lb 1<|an ⟨rfl,rfl⟩ fun w4 M4=>lb 1<|an rfl<|lb 0<|an ⟨rfl,rfl⟩ fun w5 M5=>ei (x:=0)<|an rfl fun M=>⟨rfl,M.below⟩) fun h=>by simp at h
 ·have hin:∀ w:World,Calls Tryz.prog 206 #[.int .i64 n] w fun e w'=>e=.returned (.bool false)∧arQ w.heap.size w w':=fun w=>(if h0:0≤n then P_ w n h0 (fun h1=>h ⟨h0,h1⟩) else P9 w n h0:Calls Tryz.prog 206 #[.int .i64 n] w (fun e w'=>e=.returned (.bool false)∧w=w')).mono fun _ _ ⟨h1,h2⟩=>⟨h1,h2▸arQ.refl _ _⟩
  rw[show s.with n=s from if_neg h];exact bX [] (fn:=Tryz.f124) Tryz.func124 rfl Tryz.ntmps124 rfl<|fun g1 w1 M1=>ei<|an sV fun g2 w2 M2=>cl<|an (hin _) fun w3 M3=>an (fun h=>by simp at h) fun _=>lb 1<|an rfl<|lb 0<|an ⟨rfl,rfl⟩ fun w5 M5=>ei (x:=0)<|an rfl fun M=>⟨rfl,M.below⟩
theorem of2(w0:World)(v:Value)(l:List Int)(h:SliceAt w0 v 1 l.length (l.map jN)):Calls Tryz.prog 66 #[v] w0 fun e w'=>e=.returned (.agg #[.int .u64 (Rl l).a,.int .u64 (Rl l).b,.int .u64 (Rl l).c,.int .u64 (Rl l).d])∧arQ w0.heap.size w0 w':=by
 have h0:SliceAt w0 v 1 l.length (l.flatMap fun x=>[jN x]):=List.map_eq_flatMap▸h;clear h;obtain⟨_,_,rfl,-,hm,-⟩:=SliceAt.form h0 (by decide);refine bX [] (fn:=Tryz.f66) Tryz.func66 rfl Tryz.ntmps66 rfl<|ei<|an sV fun g1 w1 M1=>ei (x:=.agg #[.int .u64 0,.int .u64 0,.int .u64 0,.int .u64 0])<|an (bd (by kernel_rfl))<|ei<|an sV fun g2 w2 M2=>lb 0<|an ⟨rfl,rfl⟩ fun w3 M3=>lp (ι:=Nat×ay) (fun(m,s)=>[(4,.int .i64 (m:Int))]) (fun(m,s)=>(g2,54,#[.int .u64 s.a,.int .u64 s.b,.int .u64 s.c,.int .u64 s.d])::_) (fun _=>[]) (fun(m,s) _=>m≤l.length∧s=Rl (l.take m)) (fun(m,s)=>l.length-m) (0,ay.zero) (an ⟨⟨rfl,trivial⟩,fun M=>⟨M,arS _,rfl⟩⟩ ?_)
 rintro⟨m,s⟩ w M ⟨hm2,rfl⟩;refine an (fun h=>?_) fun h=>?_
 ·have hlt:m<l.length:=by simp at h;omega
  obtain⟨y,hy⟩:∃ y,l[m]?=some y:=⟨_,arN hlt⟩;obtain⟨b,o,e,hc⟩:=SliceAt.elt h0 (fun _=>rfl) (by decide) hy hlt;exact dr (by kernel_rfl)<|lb 0<|an rfl<|ia<|an ⟨e,rfl,hlt⟩<|lc (x:=.int .i64 y)<|an (cG M.below hc 0 _ rfl)<|cl<|an (fun w' hb' M'=>Si w' _ (Zz _) y)<|fun w4 hb4 M4=>lb 0<|an ⟨rfl,rfl⟩ fun w5 M5=>an (by omega)<|bk (m+1,Rl (l.take (m+1))) ⟨rfl,trivial⟩ (fun M=>⟨M.cast (by dsimp only;rw[show Rl (l.take (m+1))=(Rl (l.take m)).with y by unfold Rl;rw[List.take_add_one,hy];simp]) rfl,by omega,rfl⟩) (by dsimp only;omega)
 ·obtain rfl:m=l.length:=by simp at h;omega
  exact lb 0<|an rfl<|lb 1<|an ⟨rfl,rfl⟩ fun w5 M5=>ei (x:=1)<|an rfl fun M=>⟨by dsimp only;rw[List.take_length],M.below⟩
theorem cf{B:Nat}{w0 w:World}{bs:List Bx}{rs:List Rw}{X:Prop}{f:FuncId}{args:Array Value}{R:Value→World→Prop}{K:Value→List Bx→List Rw→World→Prop}(M:aV B w0 w bs rs)(hc:Calls Tryz.prog f args w fun e w'=>∃ v,e=.returned v∧(R v w'∧arQ w.heap.size w w'))
 (h:∀ v w',R v w'→arQ w.heap.size w w'→aV B w0 w' bs rs→K v bs rs w'):X∨∃ R:Value→World→Prop,(Calls Tryz.prog f args w fun e w'=>∃ v,e=.returned v∧R v w')∧∀ v w',R v w'→∃ bs' rs',aV B w0 w' bs' rs'∧K v bs' rs' w':=
 .inr ⟨_,hc,fun v w' ⟨h1,h2⟩=>⟨_,_,M.keep h2,h v w' h1 h2 (M.keep h2)⟩⟩
theorem cb{B:Nat}{w0 w:World}{bs:List Bx}{rs:List Rw}{X:Prop}{f:FuncId}{args:Array Value}{v:Value}{K:Value→List Bx→List Rw→World→Prop}(M:aV B w0 w bs rs)(hc:Calls Tryz.prog f args w fun e w'=>e=.returned v∧arQ w.heap.size w w')
 (h:∀ w',arQ w.heap.size w w'→aV B w0 w' bs rs→K v bs rs w'):X∨∃ R:Value→World→Prop,(Calls Tryz.prog f args w fun e w'=>∃ v,e=.returned v∧R v w')∧∀ v w',R v w'→∃ bs' rs',aV B w0 w' bs' rs'∧K v bs' rs' w':=
 cf (R:=fun u _=>u=v) M (hc.mono fun _ _ ⟨h1,h2⟩=>⟨v,h1,rfl,h2⟩) fun u w' e hb M'=>by subst e;exact h w' hb M'
def aI(n:Nat):Int:=2^(2^n)-1
theorem five{n:Nat}(h:n≤5):n=0∨n=1∨n=2∨n=3∨n=4∨n=5:=by omega
theorem nt1{n:Nat}(h:n≤5):IntKind.i64.wrap (1*2^((n:Nat):Int).toNat)=((2^n:Nat):Int):=by
 rcases five h with rfl|rfl|rfl|rfl|rfl|rfl<;>rfl
theorem nt2{n:Nat}(h:n≤5):IntKind.i64.wrap ((((2^n:Nat):Int)).tdiv 64)=0:=by
 rcases five h with rfl|rfl|rfl|rfl|rfl|rfl<;>rfl
theorem nt3{n:Nat}(h:n≤5):IntKind.u64.wrap (1*2^((n:Nat):Int).toNat)=((2^n:Nat):Int):=by
 rcases five h with rfl|rfl|rfl|rfl|rfl|rfl<;>rfl
theorem nt4{n:Nat}(h:n≤5):IntKind.u64.wrap (1*2^(((2^n:Nat):Int)).toNat)=aI n+1:=by
 rcases five h with rfl|rfl|rfl|rfl|rfl|rfl<;>rfl
theorem nt5{n:Nat}(h:n≤5):IntKind.u64.wrap (aI n+1-1)=aI n:=by
 rcases five h with rfl|rfl|rfl|rfl|rfl|rfl<;>rfl
theorem nt6{n:Nat}(h:n≤5):2^n≤32:=by
 rcases five h with rfl|rfl|rfl|rfl|rfl|rfl<;>decide
def qD(w:World)(tp mb:Nat)(c0 c1 c2 c3 c4 c5 c6 c7 c8 c9 aS aN aM aR aQ aP aO:Value)(u:Int):Prop:=Whole w tp 304 #[c0,c1,c2,c3,c4,c5,c6,c7,c8,c9,aS,aN,aM,aR,aQ,aP,aO,.int .i64 1,.int .u64 u,.map (some mb)]
def bL(w:World)(base:Nat)(v:Value)(x:Int):Prop:=∃ g,v=.slice (some ⟨g,0,none⟩) 1 1∧Whole w g 52 #[.int .u64 x]∧base≤g
theorem bL.keep{w w':World}{base:Nat}{v:Value}{x:Int}(h:bL w base v x)(hb:arQ w.heap.size w w'):bL w' base v x:=by
 obtain⟨g,e,hw,hl⟩:=h;exact⟨g,e,Whole.under hb hw hw.lt,hl⟩
def jA(i:Int)(k:Nat):Bool:=decide (bits .and .i64 (((0*64)+(k:Int))/2^(i:Int).toNat) 1=1)
def eu(i:Int):Nat→Int
 | 0=>0
 | k+1=>if jA i k=true then bits .or .u64 (eu i k) (IntKind.u64.wrap (1*2^((k:Int):Int).toNat)) else eu i k
def xV(u i:Int):Int:=bits .and .u64 (eu i 64) u
def notM(u x:Int):Int:=bits .and .u64 (bits .xor .u64 18446744073709551615 x) u
def pR(op:Int):Int:=if op=1 then 0 else if op=2 then 1 else 2
def CD(u op x y:Int):Int:=if op=3 then bits .and .u64 x y else if op=4 then bits .or .u64 x y else if op=6 then bits .and .u64 (bits .xor .u64 18446744073709551615 (bits .xor .u64 x y)) u else bits .xor .u64 x y
def cQ(n:Nat)(op a:Int)(k:Nat):Bool:=((!decide ((k:Int)=pR op))||(decide (op=1)&&(decide (a<0)||decide ((n:Int)≤a))))
def J_(u:Int)(n:Nat)(op a:Int)(l:List Int):Int:=
 if cQ n op a l.length=true then 0 else if op=1 then xV u a else if op=2 then notM u (l.getD 0 0) else CD u op (l.getD 0 0) (l.getD 1 0)
mutual
def bJ(u:Int)(n:Nat):aq→Int
 | .node op a _ _ _ _ kids=>J_ u n op a (mP u n kids)
def mP(u:Int)(n:Nat):List aq→List Int
 | []=>[]
 | k::l=>bJ u n k::mP u n l
end
theorem tg(u:Int)(n:Nat)(e:aq):bJ u n e=J_ u n e.op e.a (mP u n e.kids):=by cases e;rw[bJ];rfl
theorem oT(u:Int)(n:Nat):∀ l:List aq,(mP u n l).length=l.length
 | []=>by rw[mP];rfl
 | k::l=>by rw[mP,List.length_cons,List.length_cons,oT u n l]
theorem tj(u:Int)(n:Nat):∀ (l:List aq) (i:Nat) {y:aq},l[i]?=some y→(mP u n l).getD i 0=bJ u n y
 | [],_,_,h=>by simp at h
 | k::l,0,y,h=>by
  rw[mP];obtain rfl:k=y:=by simpa using h
  rfl
 | k::l,i+1,y,h=>by
  rw[mP];simpa using tj u n l i (by simpa using h)
theorem BK{i:Int}{k:Nat}(h:jA i k=true):eu i (k+1)=bits .or .u64 (eu i k) (IntKind.u64.wrap (1*2^((k:Int):Int).toNat)):=if_pos h
theorem DE{i:Int}{k:Nat}(h:jA i k=false):eu i (k+1)=eu i k:=if_neg (by rw[h];decide)
theorem mF(w0:World)(c0 c1 c2 c3 c4 c6 c7 c8 c9 aS aN aM aR aQ aP aO:Value)(gW:Option Addr)(nB gU:Nat)(hn:nB≤5):Calls Tryz.prog 148 #[.agg #[c0,c1,c2,c3,c4,.slice gW nB gU,c6,c7,c8,c9,aS,aN,aM,aR,aQ,aP,aO]] w0 (fun(r:Ending) (w':World)=>∃ v,r=.returned v∧((∃ tp mb,v=.pointer (some ⟨tp,0,none⟩)∧qD w' tp mb c0 c1 c2 c3 c4 (.slice gW nB gU) c6 c7 c8 c9 aS aN aM aR aQ aP aO (aI nB)∧aL w' Tryz.prog 3 mb (List.map ival [])∧w0.heap.size≤tp∧w0.heap.size≤mb)∧arQ w0.heap.size w0 w')):=by
 have Yg:=nt6 hn;have bS:=hr1 Tryz.prog Tryz.f148 (fun(r:Ending) (w':World)=>∃ v,r=.returned v∧((∃ tp mb,v=.pointer (some ⟨tp,0,none⟩)∧qD w' tp mb c0 c1 c2 c3 c4 (.slice gW nB gU) c6 c7 c8 c9 aS aN aM aR aQ aP aO (aI nB)∧aL w' Tryz.prog 3 mb (List.map ival [])∧w0.heap.size≤tp∧w0.heap.size≤mb)∧arQ w0.heap.size w0 w')) 28 2 rfl;refine en Tryz.func148 rfl Tryz.ntmps148 rfl (vs:=[.agg #[c0,c1,c2,c3,c4,.slice gW nB gU,c6,c7,c8,c9,aS,aN,aM,aR,aQ,aP,aO]]) rfl fun _ F=>?_
 have M:=Mm.start w0;refine arT fun K1 jd=>ah<|NW (on rfl) rfl (F.u rf) rfl F rfl M fun g1 _ _ F M=>xA (v:=(.pointer none)) F rf rf rf fun _ F=>arU<|jd _ _ ?_
 refine arT fun K2 jy=>ah<|xF 5 F rf rf rf M_ rf afn rf fun _ F=>xL F (M.b 0 rfl) rf rf rf u27 rf rf fun _ F=>kz F rf (gA rfl (F.u rf) u27) fun _ F=>
  ke (on rfl) (aaV rfl (F.u rf) rfl) rfl F rfl (congrArg (Value.int .i64) (if_neg (by omega))) fun _ F=>
  xA F rf rf rf fun _ F=>
  arU<|
  jy _ _ ?_
 refine arT fun K3 qg=>?_
 refine rd 9 [9,10,11,12,13,14,15,16,4] [kr (.agg #[c0,c1,c2,c3,c4,.slice gW nB gU,c6,c7,c8,c9,aS,aN,aM,aR,aQ,aP,aO]),kr (.int .i64 (nB:Int)),kr (.int .i64 ((2^nB:Nat):Int)),kr (.int .i64 0),kr (.int .i64 1),(F7 M.wd),(Jx M.wd #[c0,c1,c2,c3,c4,.slice gW nB gU,c6,c7,c8,c9,aS,aN,aM,aR,aQ,aP,aO,.int .i64 1,.int .u64 18446744073709551615]),(B6 M.wd 304 #[c0,c1,c2,c3,c4,.slice gW nB gU,c6,c7,c8,c9,aS,aN,aM,aR,aQ,aP,aO,.int .i64 1,.int .u64 18446744073709551615]),(B6 M.wd 304 #[c0,c1,c2,c3,c4,.slice gW nB gU,c6,c7,c8,c9,aS,aN,aM,aR,aQ,aP,aO,.int .i64 1,.int .u64 18446744073709551615])] (by kernel_rfl) (by kernel_rfl) (by kernel_rfl) rfl (by decide) rfl rfl F ⟨aZ _,aZ _,aZ _,aZ _,aZ _,P0 _,Hw _ _,xG _ _ _,xG _ _ _,trivial⟩ ⟨?_,?_,?_,?_,?_,?_,?_,?_,?_,trivial⟩ ?_
 ·exact fun a w Q' hf hi H G hK=>dv (on rfl) (zA rfl (G 1 _ rfl (F.g 1 rfl)).ev M_ rfl ((M.keep hi).b 0 rfl) z8 rfl) rfl hf rfl hK rfl
 ·exact fun a w Q' hf hi H G hK=>dv (on rfl) (ef rfl (G 3 _ rfl (F.g 3 rfl)).ev) rfl hf rfl hK rfl
 ·exact fun a w Q' hf hi H G hK=>dv (on rfl) (k_ rfl rfl (iA (H 1 ⟨.data,by simp,rfl⟩ _ _ rfl rfl)).ev (by omega) (show _≤((64:Nat):Int) by omega)) rfl hf rfl hK (Eq.symm (congrArg (Value.int .i64) (nt1 hn)))
 ·exact fun a w Q' hf hi H G hK=>dv (on rfl) (IC rfl (iA (H 2 ⟨.data,by simp,rfl⟩ _ _ rfl rfl)).ev rfl (by decide)) rfl hf rfl hK (Eq.symm (congrArg (Value.int .i64) (nt2 hn)))
 ·exact fun a w Q' hf hi H G hK=>dv (on rfl) (Bu rfl rfl (iA (H 3 ⟨.data,by simp,rfl⟩ _ _ rfl rfl)).ev) rfl hf rfl hK (Eq.symm rfl)
 ·exact fun a w Q' hf hi H G hK=>dmk (on rfl) rfl DY rfl hf rfl hi hK
 ·intro a w Q' hf hi H G hK;obtain⟨_,h14,mb2,rfl,agp,afN⟩:=H 5 ⟨.data,by simp,rfl⟩ _ _ rfl rfl;exact dv (on rfl) (ux rfl (pv:=#[(0,.agg #[c0,c1,c2,c3,c4,.slice gW nB gU,c6,c7,c8,c9,aS,aN,aM,aR,aQ,aP,aO]),(1,.int .i64 1),(2,.int .u64 18446744073709551615),(3,(.map (some mb2)))]) (by simp[(iA (H 0 ⟨.data,by simp,rfl⟩ _ _ rfl rfl)).ev,(iA (H 4 ⟨.data,by simp,rfl⟩ _ _ rfl rfl)).ev,h14.ev,BigFrame.eval_const]) (cells:=#[c0,c1,c2,c3,c4,.slice gW nB gU,c6,c7,c8,c9,aS,aN,aM,aR,aQ,aP,aO,.int .i64 1,.int .u64 18446744073709551615,.map (some mb2)]) (by kernel_rfl)) rfl hf rfl hK ⟨mb2,rfl,agp,afN⟩
 ·intro a w Q' hf hi H G hK;obtain⟨_,h15,ZK,rfl,H9,lmx⟩:=H 6 ⟨.data,by simp,rfl⟩ _ _ rfl rfl;exact dn (f:=fun n=>.pointer (some ⟨n,0,none⟩)) (on rfl) (Oq rfl h15.ev) rfl hf rfl hK (fun b w' n=>⟨b,ZK,rfl,n.whole,H9.kept (n.below.block _ H9.lt),n.at_▸hi.size,lmx⟩)
 ·intro a w Q' hf hi H G hK;obtain⟨_,h16,tpx,ZK,rfl,htx,H9,ltx,lmx⟩:=H 7 ⟨.data,by simp,rfl⟩ _ _ rfl rfl;exact dv (on rfl) (ni rfl h16.ev) rfl hf rfl hK ⟨tpx,ZK,rfl,htx,H9,ltx,lmx⟩
 (repeat clear F);intro _ _ JC F D
 have M0:=M;have agN:=JC;obtain⟨_,h,tpx,ZK,rfl,htx,H9,ltx,lmx⟩:=D 8 _ _ rfl rfl;have F:=F.add h;have M:=M.keep JC;clear D JC;have M:=M0.En agN (b1:=(tpx,304,#[c0,c1,c2,c3,c4,.slice gW nB gU,c6,c7,c8,c9,aS,aN,aM,aR,aQ,aP,aO,.int .i64 1,.int .u64 18446744073709551615,(.map (some ZK))])) (.inl ⟨rfl,htx⟩) ltx (b2:=(ZK,9003,dU [])) (lU H9) lmx (fZ htx H9);refine qg _ _ ?_
 refine arT fun K4 qd=>arT fun K5 p7=>ah<|xM F rf rf rf fun _ F=>
  ke (on rfl) (k_ rfl rfl (F.u rf) (by omega) (show _≤((64:Nat):Int) by omega)) rfl F rfl (congrArg (Value.int .i64) (nt1 hn)) fun _ F=>
  kz F rf (j5 rfl (F.u rf) rfl) fun _ F=>
  arU<|
  p7 _ _ ?_
 refine arV (F.e 19 rfl) (fun hc3=>?_) (fun hc3=>?_)
 ·have T6:=of_decide_eq_true hc3
  refine ah<|xM F rf rf rf fun _ F=>xM F rf rf rf fun _ F=>
   ke (on rfl) (k_ rfl rfl (F.u rf) (by omega) (show _≤((64:Nat):Int) by omega)) rfl F rfl (congrArg (Value.int .u64) (nt3 hn)) fun _ F=>
   ke (on rfl) (k_ rfl rfl (F.u rf) (Int.natCast_nonneg _) (Int.ofNat_le.2 (arP Yg (by decide)))) rfl F rfl (congrArg (Value.int .u64) (nt4 hn)) fun _ F=>
   ke (on rfl) (Oj rfl (F.u rf) rfl) rfl F rfl (congrArg (Value.int .u64) (nt5 hn)) fun _ F=>
   kz F rf (cZ rfl (F.u rf)) fun _ F=>
   xF 18 F rf rf rf yu rf z7 rf fun _ F=>
   ks (on rfl) rfl (F.u rf) (F.u rf) F M 0 (cs':=#[c0,c1,c2,c3,c4,.slice gW nB gU,c6,c7,c8,c9,aS,aN,aM,aR,aQ,aP,aO,.int .i64 1,.int .u64 (aI nB),(.map (some ZK))]) rfl rfl rfl z7 rfl rfl rfl rfl fun _ M=>
   arU<|
   qd _ _ ?_
  refine arT fun K6 rM=>ah<|xM F rf rf rf fun _ F=>xA F rf rf rf fun _ F=>arU<|rM _ _ ?_
  refine wp_ret<|bS _ _ _ _ F rfl ?_;exact⟨_,rfl,⟨_,_,rfl,M.b 0 rfl,M.map 1 rfl,M.lo _ (arO (i:=0) rfl),M.lo _ (arO (i:=1) rfl)⟩,M.below⟩
 ·have T5:=of_decide_eq_false hc3;exfalso;omega
theorem Ej(w0:World)(op:Int):Calls Tryz.prog 232 #[.int .i64 op] w0 (fun(e:Ending) (w':World)=>e=.returned (.int .i64 (pR op))∧arQ w0.heap.size w0 w'):=by
 exact bX [] (fn:=Tryz.f232) Tryz.func232 rfl Tryz.ntmps232 rfl<|an (fun a=>fun M=>⟨ri (by simp_all [pR]),M.below⟩) fun a=>an (fun b=>fun M=>⟨ri (by simp_all [pR]),M.below⟩) fun b=>fun M=>⟨ri (by simp_all [pR]),M.below⟩
theorem Jh(w0:World)(tp mb:Nat)(c0 c1 c2 c3 c4 c6 c7 c8 c9 aS aN aM aR aQ aP aO:Value)(gW:Option Addr)(nB gU:Nat)(u:Int)(hT:qD w0 tp mb c0 c1 c2 c3 c4 (.slice gW nB gU) c6 c7 c8 c9 aS aN aM aR aQ aP aO u)(bi:Int)(hb0:0≤bi)(hb1:bi≤60):Calls Tryz.prog 233 #[.pointer (some ⟨tp,0,none⟩),.int .i64 bi] w0 (fun(r:Ending) (w':World)=>∃ v,r=.returned v∧((bL w' w0.heap.size v (xV u bi))∧arQ w0.heap.size w0 w')):=by
 have Ro:∀ j uu,[c0,c1,c2,c3,c4,.slice gW nB gU,c6,c7,c8,c9,aS,aN,aM,aR,aQ,aP,aO,.int .i64 1,.int .u64 u,(.map (some mb))][j]?=some uu→w0.cell? ⟨tp,0+j,none⟩=some uu:=fun j u hu=>by rw[Nat.zero_add];exact(Whole.cell hT j).trans (by simpa using hu)
 have bS:=hr1 Tryz.prog Tryz.f233 (fun(r:Ending) (w':World)=>∃ v,r=.returned v∧((bL w' w0.heap.size v (xV u bi))∧arQ w0.heap.size w0 w')) 50 4 rfl;refine en Tryz.func233 rfl Tryz.ntmps233 rfl (vs:=[.pointer (some ⟨tp,0,none⟩),.int .i64 bi]) rfl fun _ F=>?_
 have M:=Mm.start w0;refine arT fun K1 jd=>ah<|xA (v:=.slice none 0 0) F rf rf rf fun _ F=>arU<|jd _ _ ?_
 refine arT fun K2 jy=>ah<|xM F rf rf rf fun _ F=>kz F rf (cZ rfl (F.u rf)) fun _ F=>xF 17 F rf rf rf yu rf XU rf fun _ F=>kz F rf (cM rf (F.u rf) u3 rfl ((cG M.below Ro) 17 _ rfl)) fun _ F=>
  kn (f:=fun n=>.slice (some ⟨n,0,none⟩) 1 1) (on rfl) (EU rfl (F.u rf) (F.u rf) zX H6 Rz rfl (by decide)) rfl F rfl M fun g1 _ _ F M=>
  xA F rf rf rf fun _ F=>
  arU<|
  jy _ _ ?_
 refine arT fun K3 qg=>arT fun K4 qd=>ah<|xM F rf rf rf fun _ F=>kz F rf (gA rfl (F.u rf) zX) fun _ F=>xM (v:=.int .i64 0) F rf rf rf fun _ F=>arU<|qd _ _ ?_
 refine arW<|?_;refine fH (ι:=Nat×Int) (fun|(t,x),a,w=>Fs a 50 [(0,.pointer (some ⟨tp,0,none⟩)),(1,.int .i64 bi),(5,.slice (some ⟨g1,0,none⟩) 1 1),(14,.int .i64 1),(15,.int .i64 (t:Int))]∧Mm w0 w [(g1,52,#[.int .u64 x])] []∧t≤1∧(t=0→x=0)∧(t=1→x=xV u bi)) (fun|(t,x)=>1-t) (0,0) ⟨F.sub ⟨rfl,rfl,rfl,rfl,rfl,trivial⟩,M,arS _,⟨fun _=>rfl,fun h=>by cases h⟩⟩ ?_
 (repeat clear F);(repeat clear M)
 rintro⟨t,x⟩ _ _ ⟨F,M,ht,hx⟩;refine arT fun K5 p7=>ah<|kz F rf (j5 rfl (F.u rf) (F.u rf)) fun _ F=>arU<|p7 _ _ ?_
 refine arT fun K6 rM=>?_
 refine arV (F.e 16 rfl) (fun hc2=>?_) (fun hc2=>?_)
 ·have hd3:=of_decide_eq_true hc2;refine wp_skip<|rM _ _ ?_;refine arT fun K7 uj=>arW<|arT fun K8 Bc=>?_
  have ht0:t=0:=by omega
  have F:=F.eq 15 rfl (congrArg (Value.int .i64) (show((t:Nat):Int)=0 by omega));refine ah<|xM F rf rf rf fun _ F=>xA F rf rf rf fun _ F=>arU<|Bc _ _ ?_
  refine arT fun K9 zx=>arT fun VE mG=>ah<|xM (v:=.int .i64 0) F rf rf rf fun _ F=>arU<|mG _ _ ?_
  refine arW<|?_;refine fH (ι:=Nat×Int) (fun|(k,acc),a,w=>Fs a 50 [(0,.pointer (some ⟨tp,0,none⟩)),(1,.int .i64 bi),(5,.slice (some ⟨g1,0,none⟩) 1 1),(6,.int .i64 0),(14,.int .i64 1),(15,.int .i64 0),(18,.int .i64 (k:Int))]∧Mm w0 w [(g1,52,#[.int .u64 acc])] []∧k≤64∧acc=eu bi k) (fun|(k,acc)=>64-k) (0,x) ⟨F.sub ⟨rfl,rfl,rfl,rfl,rfl,rfl,rfl,trivial⟩,M,arS _,hx.1 ht0⟩ ?_
  (repeat clear F);(repeat clear M)
  rintro⟨k,acc⟩ _ _ ⟨F,M,hk,hacc⟩;refine arT fun K11 sE=>ah<|kz F rf (j5 rfl (F.u rf) rfl) fun _ F=>arU<|sE _ _ ?_
  refine arT fun K12 sC=>?_
  refine arV (F.e 19 rfl) (fun hc4=>?_) (fun hc4=>?_)
  ·have T5:=of_decide_eq_true hc4;refine wp_skip<|sC _ _ ?_;refine arT fun K13 ru=>arW<|arT fun K14 wk=>ah<|xM F rf rf rf fun _ F=>xA F rf rf rf fun _ F=>arU<|wk _ _ ?_
   refine arT fun K15 um=>ah<|xM F rf rf rf fun _ F=>
    ke (on rfl) (YL rfl (F.u rf) rfl) rfl F rfl (congrArg (Value.int .i64) (wrap_i64 (by omega))) fun _ F=>
    xM F rf rf rf fun _ F=>
    ke (on rfl) (fS rfl (F.u rf) (F.u rf)) rfl F rfl (congrArg (Value.int .i64) (wrap_i64 (by omega))) fun _ F=>
    xM F rf rf rf fun _ F=>
    kz F rf (YK rfl (F.u rf) (F.u rf) (by omega) (show _≤((64:Nat):Int) by omega)) fun _ F=>
    kz F rf (U3 rfl (F.u rf) rfl) fun _ F=>
    kz F rf (U1 rfl (F.u rf) rfl) fun _ F=>
    arU<|
    um _ _ ?_
   refine arV (F.e 28 rfl) (fun wj=>?_) (fun wj=>?_)
   ·have hd7:=of_decide_eq_true wj;have hbit:jA bi k=true:=wj;refine rd 8 [29,30,31,32,33,34,35,36] [kr (.slice (some ⟨g1,0,none⟩) 1 1),kr (.int .i64 0),kr (.pointer (some ⟨g1,0,none⟩)),kr (.int .u64 acc),kr (.int .i64 (k:Int)),kr (.int .u64 (IntKind.u64.wrap (1*2^((k:Int):Int).toNat))),kr (.int .u64 (bits .or .u64 acc (IntKind.u64.wrap (1*2^((k:Int):Int).toNat)))),kr (.pointer (some ⟨g1,0,none⟩))] (by kernel_rfl) (by kernel_rfl) (by kernel_rfl) rfl (by decide) rfl rfl F ⟨aZ _,aZ _,aZ _,aZ _,aZ _,aZ _,aZ _,aZ _,trivial⟩ ⟨?_,?_,?_,?_,?_,?_,?_,?_,trivial⟩ ?_
    ·exact fun a w Q' hf hi H G hK=>dv (on rfl) (ef rfl (G 5 _ rfl (F.g 5 rfl)).ev) rfl hf rfl hK rfl
    ·exact fun a w Q' hf hi H G hK=>dv (on rfl) (ef rfl (G 6 _ rfl (F.g 6 rfl)).ev) rfl hf rfl hK rfl
    ·exact fun a w Q' hf hi H G hK=>dv (on rfl) (bT (i:=0) rfl (iA (H 0 ⟨.data,by simp,rfl⟩ _ _ rfl rfl)).ev (iA (H 1 ⟨.data,by simp,rfl⟩ _ _ rfl rfl)).ev (by omega) zX z7) rfl hf rfl hK rfl
    ·exact fun a w Q' hf hi H G hK=>dv (on rfl) (cM rfl (iA (H 2 ⟨.data,by simp,rfl⟩ _ _ rfl rfl)).ev u52 rfl (((M.keep hi).b 0 rfl).c1 0)) rfl hf rfl hK rfl
    ·exact fun a w Q' hf hi H G hK=>dv (on rfl) (ef rfl (G 7 _ rfl (F.g 7 rfl)).ev) rfl hf rfl hK rfl
    ·exact fun a w Q' hf hi H G hK=>dv (on rfl) (k_ rfl rfl (iA (H 4 ⟨.data,by simp,rfl⟩ _ _ rfl rfl)).ev (by omega) (show _≤((64:Nat):Int) by omega)) rfl hf rfl hK rfl
    ·exact fun a w Q' hf hi H G hK=>dv (on rfl) (adY rfl (iA (H 3 ⟨.data,by simp,rfl⟩ _ _ rfl rfl)).ev (iA (H 5 ⟨.data,by simp,rfl⟩ _ _ rfl rfl)).ev) rfl hf rfl hK rfl
    ·exact fun a w Q' hf hi H G hK=>dv (on rfl) (bT (i:=0) rfl (iA (H 0 ⟨.data,by simp,rfl⟩ _ _ rfl rfl)).ev (iA (H 1 ⟨.data,by simp,rfl⟩ _ _ rfl rfl)).ev (by omega) zX z7) rfl hf rfl hK rfl
    (repeat clear F);intro _ _ JC F D
    obtain⟨_,h,rfl⟩:=D 6 _ _ rfl rfl;have F:=F.add h;obtain⟨_,h,rfl⟩:=D 7 _ _ rfl rfl;have F:=F.add h;have M:=M.keep JC;clear D JC;intro Qt hQt;refine ks (on rfl) rfl (F.u rf) (F.u rf) F M 0 (cs':=#[.int .u64 (bits .or .u64 acc (IntKind.u64.wrap (1*2^((k:Int):Int).toNat)))]) rfl rfl rfl z7 rfl (kI _ _ rfl) rfl rfl fun _ M=>arU (hQt _ _ ?_)
    refine ru _ _ ?_
    refine ah<|
     ke (on rfl) (fS rfl (F.u rf) rfl) rfl F rfl (congrArg (Value.int .i64) (wrap_i64 (by omega))) fun _ F=>
     xM F rf rf rf fun _ F=>
     arU<|?_
    exact⟨(k+1,bits .or .u64 acc (IntKind.u64.wrap (1*2^((k:Int):Int).toNat))),⟨F.sub ⟨rfl,rfl,rfl,rfl,rfl,rfl,rfl,trivial⟩,M,by omega,by rw[BK hbit,← hacc]⟩,by show 64-(k+1)<64-k;omega⟩
   ·have hd8:=of_decide_eq_false wj;have hbit:jA bi k=false:=wj;refine wp_skip<|ru _ _ ?_
    refine ah<|
     ke (on rfl) (fS rfl (F.u rf) rfl) rfl F rfl (congrArg (Value.int .i64) (wrap_i64 (by omega))) fun _ F=>
     xM F rf rf rf fun _ F=>
     arU<|?_
    exact⟨(k+1,acc),⟨F.sub ⟨rfl,rfl,rfl,rfl,rfl,rfl,rfl,trivial⟩,M,by omega,by rw[DE hbit,← hacc]⟩,by show 64-(k+1)<64-k;omega⟩
  ·have hd9:=of_decide_eq_false hc4;refine wp_exit<|zx _ _ ?_;refine rd 10 [38,39,40,41,42,43,44,45,46,47] [kr (.slice (some ⟨g1,0,none⟩) 1 1),kr (.int .i64 0),kr (.pointer (some ⟨g1,0,none⟩)),kr (.int .u64 acc),kr (.pointer (some ⟨tp,0,none⟩)),kr (.pointer (some ⟨tp,0,none⟩)),kr (.pointer (some ⟨tp,18,none⟩)),kr (.int .u64 u),kr (.int .u64 (bits .and .u64 acc u)),kr (.pointer (some ⟨g1,0,none⟩))] (by kernel_rfl) (by kernel_rfl) (by kernel_rfl) rfl (by decide) rfl rfl F ⟨aZ _,aZ _,aZ _,aZ _,aZ _,aZ _,aZ _,aZ _,aZ _,aZ _,trivial⟩ ⟨?_,?_,?_,?_,?_,?_,?_,?_,?_,?_,trivial⟩ ?_
   ·exact fun a w Q' hf hi H G hK=>dv (on rfl) (ef rfl (G 5 _ rfl (F.g 5 rfl)).ev) rfl hf rfl hK rfl
   ·exact fun a w Q' hf hi H G hK=>dv (on rfl) (ef rfl (G 6 _ rfl (F.g 6 rfl)).ev) rfl hf rfl hK rfl
   ·exact fun a w Q' hf hi H G hK=>dv (on rfl) (bT (i:=0) rfl (iA (H 0 ⟨.data,by simp,rfl⟩ _ _ rfl rfl)).ev (iA (H 1 ⟨.data,by simp,rfl⟩ _ _ rfl rfl)).ev (by omega) zX z7) rfl hf rfl hK rfl
   ·exact fun a w Q' hf hi H G hK=>dv (on rfl) (cM rfl (iA (H 2 ⟨.data,by simp,rfl⟩ _ _ rfl rfl)).ev u52 rfl (((M.keep hi).b 0 rfl).c1 0)) rfl hf rfl hK rfl
   ·exact fun a w Q' hf hi H G hK=>dv (on rfl) (ef rfl (G 0 _ rfl (F.g 0 rfl)).ev) rfl hf rfl hK rfl
   ·exact fun a w Q' hf hi H G hK=>dv (on rfl) (cZ rfl (iA (H 4 ⟨.data,by simp,rfl⟩ _ _ rfl rfl)).ev) rfl hf rfl hK rfl
   ·exact fun a w Q' hf hi H G hK=>dv (on rfl) (ku rfl (iA (H 5 ⟨.data,by simp,rfl⟩ _ _ rfl rfl)).ev yu rfl z7) rfl hf rfl hK rfl
   ·exact fun a w Q' hf hi H G hK=>dv (on rfl) (cM rfl (iA (H 6 ⟨.data,by simp,rfl⟩ _ _ rfl rfl)).ev u52 rfl ((cG (M.keep hi).below Ro) 18 _ rfl)) rfl hf rfl hK rfl
   ·exact fun a w Q' hf hi H G hK=>dv (on rfl) (U3 rfl (iA (H 3 ⟨.data,by simp,rfl⟩ _ _ rfl rfl)).ev (iA (H 7 ⟨.data,by simp,rfl⟩ _ _ rfl rfl)).ev) rfl hf rfl hK rfl
   ·exact fun a w Q' hf hi H G hK=>dv (on rfl) (bT (i:=0) rfl (iA (H 0 ⟨.data,by simp,rfl⟩ _ _ rfl rfl)).ev (iA (H 1 ⟨.data,by simp,rfl⟩ _ _ rfl rfl)).ev (by omega) zX z7) rfl hf rfl hK rfl
   (repeat clear F);intro _ _ JC F D
   obtain⟨_,h,rfl⟩:=D 8 _ _ rfl rfl;have F:=F.add h;obtain⟨_,h,rfl⟩:=D 9 _ _ rfl rfl;have F:=F.add h;have M:=M.keep JC;clear D JC;intro Qt hQt;refine ks (on rfl) rfl (F.u rf) (F.u rf) F M 0 (cs':=#[.int .u64 (bits .and .u64 acc u)]) rfl rfl rfl z7 rfl (kI _ _ rfl) rfl rfl fun _ M=>arU (hQt _ _ ?_)
   refine uj _ _ ?_;have F:=F.eq 15 rfl (congrArg (Value.int .i64) (show(0:Int)=((t:Nat):Int) by omega))
   refine ah<|
    ke (on rfl) (fS rfl (F.u rf) rfl) rfl F rfl (congrArg (Value.int .i64) (wrap_i64 (by omega))) fun _ F=>
    xM F rf rf rf fun _ F=>
    arU<|?_
   exact⟨(t+1,bits .and .u64 acc u),⟨F.sub ⟨rfl,rfl,rfl,rfl,rfl,trivial⟩,M,by omega,⟨fun h=>by omega,fun _=>by rw[show k=64 by omega] at hacc;rw[hacc];rfl⟩⟩,by show 1-(t+1)<1-t;omega⟩
 ·have agG:=of_decide_eq_false hc2;refine wp_exit<|qg _ _ ?_;refine arT fun K16 EB=>ah<|xM F rf rf rf fun _ F=>xA F rf rf rf fun _ F=>arU<|EB _ _ ?_
  refine wp_ret<|bS _ _ _ _ F rfl ?_;exact⟨_,rfl,⟨_,rfl,(by have hW:=M.b 0 rfl;rw[hx.2 (by omega)] at hW;exact hW),M.lo _ (arO (i:=0) rfl)⟩,M.below⟩
def wK:Nat→ay
 | 0=>ay.zero
 | k+1=>(wK k).with (k:Int)
def ay.all(n:Nat):ay:=wK (min n 256)
theorem FX:∀ k,(wK k).Ok
 | 0=>yL
 | k+1=>ay.DV (FX k) _
theorem Aj(w:World)(n:Nat)(hn:n≤140737488355328):Calls Tryz.prog 104 #[.int .i64 (n:Int)] w fun e w'=>e=.returned (.agg #[.int .u64 (ay.all n).a,.int .u64 (ay.all n).b,.int .u64 (ay.all n).c,.int .u64 (ay.all n).d])∧arQ w.heap.size w w':=by
 refine bX [] (fn:=Tryz.f104) Tryz.func104 rfl Tryz.ntmps104 rfl<|ei<|an sV fun g1 w1 M1=>ei (x:=.agg #[.int .u64 0,.int .u64 0,.int .u64 0,.int .u64 0])<|an (bd (by kernel_rfl))<|ei<|an sV fun g2 w2 M2=>lb 0<|an ⟨rfl,rfl⟩ fun w3 M3=>lp (ι:=Nat) (fun k=>[(4,.int .i64 (k:Int))]) (fun k=>[(g2,54,#[.int .u64 (wK k).a,.int .u64 (wK k).b,.int .u64 (wK k).c,.int .u64 (wK k).d]),_]) (fun _=>[]) (fun k _=>k≤n∧k≤256) (fun k=>256-k) 0 (an ⟨⟨rfl,trivial⟩,fun M=>⟨M,arS _,arS _⟩⟩ ?_)
 intro k w M ⟨hk1,hk2⟩;refine an (fun h=>?_) fun h=>?_
 ·simp only[Bool.and_eq_true,decide_eq_true_eq] at h;exact lb 0<|an rfl<|cl<|an (Si _ (wK k) (FX k) k) fun w4 M4=>lb 0<|an ⟨rfl,rfl⟩ fun w5 M5=>an (by omega)<|bk (k+1) ⟨rfl,trivial⟩ (fun M=>⟨M,by omega⟩) (by dsimp only;omega)
 ·obtain rfl:k=min n 256:=by
   rw[Bool.and_eq_false_iff,decide_eq_false_iff_not,decide_eq_false_iff_not] at h;omega
  exact lb 0<|an rfl<|lb 1<|an ⟨rfl,rfl⟩ fun w M=>ei (x:=1)<|an rfl fun M=>⟨rfl,M.below⟩
def rB(x y:Nat):Nat:=x&&&(18446744073709551615-y)
theorem XA{x:Nat}(hx:yJ x)(y:Nat):yJ (rB x y):=Nat.lt_of_le_of_lt Nat.and_le_left hx
def ay.minus(a b:ay):ay:=⟨rB a.a b.a,rB a.b b.b,rB a.c b.c,rB a.d b.d⟩
theorem ay.J7(a b:ay){j:Nat}(hj:j<4):(a.minus b).word j=rB (a.word j) (b.word j):=by
 rcases four hj with rfl|rfl|rfl|rfl<;>rfl
def WA(m:Nat)(x y:ay)(i:Nat):Nat:=if i<m then rB (x.word i) (y.word i) else x.word i
theorem Kz(w:World)(a b:ay)(ha:a.Ok)(hb:b.Ok):Calls Tryz.prog 194 #[.agg #[.int .u64 a.a,.int .u64 a.b,.int .u64 a.c,.int .u64 a.d],.agg #[.int .u64 b.a,.int .u64 b.b,.int .u64 b.c,.int .u64 b.d]] w fun e w'=>e=.returned (.agg #[.int .u64 (a.minus b).a,.int .u64 (a.minus b).b,.int .u64 (a.minus b).c,.int .u64 (a.minus b).d])∧arQ w.heap.size w w':=by
 refine bX [] (fn:=Tryz.f194) Tryz.func194 rfl Tryz.ntmps194 rfl<|fun gx w1 M1=>fun gy w2 M2=>ei<|an sV fun go w3 M3=>lp (ι:=Nat) (fun m=>[(5,.int .i64 (m:Int))]) (fun m=>[(go,54,#[.int .u64 0,.int .u64 0,.int .u64 0,.int .u64 0]),(gy,54,#[.int .u64 b.a,.int .u64 b.b,.int .u64 b.c,.int .u64 b.d]),(gx,54,#[.int .u64 ((WA m a b 0:Nat):Int),.int .u64 ((WA m a b 1:Nat):Int),.int .u64 ((WA m a b 2:Nat):Int),.int .u64 ((WA m a b 3:Nat):Int)])]) (fun _=>[]) (fun m _=>m≤4) (fun m=>4-m) 0 (an ⟨⟨rfl,trivial⟩,fun M=>⟨M,arS _⟩⟩ ?_)
 intro m w M hm;refine an (fun h=>?_) fun h=>?_
 ·have hlt:m<4:=by simp at h;omega
  obtain rfl|rfl|rfl|rfl:m=0∨m=1∨m=2∨m=3:=by omega
  all_goals
   refine dr (by kernel_rfl)<|ei<|an ⟨rfl,by decide⟩<|lb 2<|an rfl<|ei<|an ⟨rfl,by decide⟩<|lb 1<|an rfl<|ei<|an (u64_andNot_nat _ _ (by first|exact ha.a|exact ha.b|exact ha.c|exact ha.d) (by first|exact hb.a|exact hb.b|exact hb.c|exact hb.d))<|ei<|an ⟨rfl,by decide⟩<|fun w hb M=>lb 2<|an ⟨rfl,rfl⟩ fun w M=>an (by omega)<|bk _ ⟨rfl,trivial⟩ (fun M=>⟨M.cast rfl rfl,by decide⟩) (by decide)
 obtain rfl:m=4:=by simp at h;omega
 exact lb 2<|an rfl<|lb 0<|an ⟨rfl,rfl⟩ fun w M=>ei (x:=0)<|an rfl fun M=>⟨rfl,M.below⟩
def ay.within(a b:ay):Bool:=decide (a.minus b=ay.zero)
def ay.unit(s:ay):ay:=⟨rB s.a 1,s.b,s.c,s.d⟩
theorem ay.VQ{s:ay}(h:s.Ok):s.unit.Ok:=⟨XA h.a _,h.b,h.c,h.d⟩
theorem Cm(w:World)(s:ay)(hs:s.Ok):Calls Tryz.prog 195 #[.agg #[.int .u64 s.a,.int .u64 s.b,.int .u64 s.c,.int .u64 s.d],.int .i64 0] w fun e w'=>e=.returned (.agg #[.int .u64 s.unit.a,.int .u64 s.unit.b,.int .u64 s.unit.c,.int .u64 s.unit.d])∧arQ w.heap.size w w':=Pp w s hs
theorem mM(t:ay)(W:World):(Op.equalIn 10000 54 (.agg #[.int .u64 t.a,.int .u64 t.b,.int .u64 t.c,.int .u64 t.d]) (.agg #[.int .u64 0,.int .u64 0,.int .u64 0,.int .u64 0])).run Tryz.prog W=.ok (decide (t=ay.zero)) W:=by
 rw[aaH];congr 1;obtain⟨a,b,c,d⟩:=t;simp[ay.zero]
theorem pG(w:World)(a b:ay)(ha:a.Ok)(hb:b.Ok):Calls Tryz.prog 105 #[.agg #[.int .u64 a.a,.int .u64 a.b,.int .u64 a.c,.int .u64 a.d],.agg #[.int .u64 b.a,.int .u64 b.b,.int .u64 b.c,.int .u64 b.d]] w fun e w'=>e=.returned (.bool (a.within b))∧arQ w.heap.size w w':=by
 have HOA:=arX ha;have HOB:=arX hb;obtain⟨t,ht⟩:∃ t,t=a.minus b:=⟨_,rfl⟩;have HT:=arX ht;unfold ay.within;rw[← ht];have hq:∀ W,(Op.equalIn 10000 54 (.agg #[.int .u64 t.a,.int .u64 t.b,.int .u64 t.c,.int .u64 t.d]) (.agg #[.int .u64 0,.int .u64 0,.int .u64 0,.int .u64 0])).run Tryz.prog W=.ok (decide (t=ay.zero)) W:=mM t;obtain⟨q,hqq⟩:∃ q,q=decide (t=ay.zero):=⟨_,rfl⟩;rw[← hqq];rw[← hqq] at hq;clear ha hb ht hqq;obtain⟨wo,i_⟩:∃ wo,wo=(w.alloc (.cells #[.int .u64 a.a,.int .u64 a.b,.int .u64 a.c,.int .u64 a.d] 54)).alloc (.cells #[.int .u64 b.a,.int .u64 b.b,.int .u64 b.c,.int .u64 b.d] 54):=⟨_,rfl⟩;have HA0:=arX (show Whole wo w.heap.size 54 #[.int .u64 a.a,.int .u64 a.b,.int .u64 a.c,.int .u64 a.d] by rw[i_];exact(Whole.new w 54 _).alloc _);have HA1:=arX (show Whole wo (w.heap.size+1) 54 #[.int .u64 b.a,.int .u64 b.b,.int .u64 b.c,.int .u64 b.d] by rw[i_];exact vf w _ _ _);have yc:=arX (show arQ w.heap.size w wo by rw[i_];exact((Below.refl _ w).alloc (Nat.le_refl _) _).alloc (by simp) _)
 go_enter Tryz.func105,Tryz.ntmps105
 go_upto_region 1 with(fail)
 rw[← i_];clear i_
 go_wp2_with (first|(refine wpList_load_row rfl 54 _ rfl (w.heap.size) rfl 54 _ (0,0) _ HA0.out Tryz.underlying54 rfl D8 ?_)|(refine wpList_load_row rfl 54 _ rfl (w.heap.size+1) rfl 54 _ (0,0) _ HA1.out Tryz.underlying54 rfl D8 ?_)|(go_at_call 194;go_must (refine(Kz wo a b HOA.out HOB.out).mono ?_;rintro e w1 ⟨rfl,hb1⟩;rw[← HT.out];have DI:=arX hb1;clear hb1)))
 go_ret
 exact⟨rfl,yc.out.trans (DI.out.mono yc.out.size)⟩
theorem ak.size{α:Type}{k:Nat}{R:List Value→α→Prop}{w:World}{v:Value}{l:List α}(h:ak k R w v l)(hk:0<k):∃ a c,v=.slice a l.length c∧l.length≤c∧l.length≤9223372036854775807:=by
 obtain⟨a,c,h1,h2,h3,-⟩:=h.form hk;exact⟨a,c,h1,h2,h3⟩
theorem eU{w:World}{v:Value}{k n:Nat}{cs:List Value}(h:SliceAt w v k n cs)(hk:0<k):∃ a c,v=.slice a n c∧n≤c∧n≤9223372036854775807:=by
 obtain⟨a,c,h1,h2,h3,-⟩:=h.form hk;exact⟨a,c,h1,h2,h3⟩
theorem aJ.f0{w:World}{c0 c1 c2 c3 c4 c5 c6 c7 c8 c9 aS aN aM aR aQ aP aO:Value}{p:aA}(h:aJ w c0 c1 c2 c3 c4 c5 c6 c7 c8 c9 aS aN aM aR aQ aP aO p):∃ a c,c0=.slice a p.classes.length c∧p.classes.length≤c∧p.classes.length≤9223372036854775807:=ak.size h.classes (by decide)
theorem aJ.f1{w:World}{c0 c1 c2 c3 c4 c5 c6 c7 c8 c9 aS aN aM aR aQ aP aO:Value}{p:aA}(h:aJ w c0 c1 c2 c3 c4 c5 c6 c7 c8 c9 aS aN aM aR aQ aP aO p):∃ a c,c1=.slice a p.types.length c∧p.types.length≤c∧p.types.length≤9223372036854775807:=ak.size h.types (by decide)
theorem aJ.f2{w:World}{c0 c1 c2 c3 c4 c5 c6 c7 c8 c9 aS aN aM aR aQ aP aO:Value}{p:aA}(h:aJ w c0 c1 c2 c3 c4 c5 c6 c7 c8 c9 aS aN aM aR aQ aP aO p):∃ a c,c2=.slice a p.attrs.length c∧p.attrs.length≤c∧p.attrs.length≤9223372036854775807:=eU h.attrs (by decide)
theorem aJ.f3{w:World}{c0 c1 c2 c3 c4 c5 c6 c7 c8 c9 aS aN aM aR aQ aP aO:Value}{p:aA}(h:aJ w c0 c1 c2 c3 c4 c5 c6 c7 c8 c9 aS aN aM aR aQ aP aO p):∃ a c,c3=.slice a p.roles.length c∧p.roles.length≤c∧p.roles.length≤9223372036854775807:=eU h.roles (by decide)
theorem aJ.f4{w:World}{c0 c1 c2 c3 c4 c5 c6 c7 c8 c9 aS aN aM aR aQ aP aO:Value}{p:aA}(h:aJ w c0 c1 c2 c3 c4 c5 c6 c7 c8 c9 aS aN aM aR aQ aP aO p):∃ a c,c4=.slice a p.users.length c∧p.users.length≤c∧p.users.length≤9223372036854775807:=eU h.users (by decide)
theorem aJ.f5{w:World}{c0 c1 c2 c3 c4 c5 c6 c7 c8 c9 aS aN aM aR aQ aP aO:Value}{p:aA}(h:aJ w c0 c1 c2 c3 c4 c5 c6 c7 c8 c9 aS aN aM aR aQ aP aO p):∃ a c,c5=.slice a p.bools.length c∧p.bools.length≤c∧p.bools.length≤9223372036854775807:=eU h.bools (by decide)
theorem aJ.f6{w:World}{c0 c1 c2 c3 c4 c5 c6 c7 c8 c9 aS aN aM aR aQ aP aO:Value}{p:aA}(h:aJ w c0 c1 c2 c3 c4 c5 c6 c7 c8 c9 aS aN aM aR aQ aP aO p):∃ a c,c6=.slice a p.aC.length c∧p.aC.length≤c∧p.aC.length≤9223372036854775807:=eU h.aC (by decide)
theorem aJ.f7{w:World}{c0 c1 c2 c3 c4 c5 c6 c7 c8 c9 aS aN aM aR aQ aP aO:Value}{p:aA}(h:aJ w c0 c1 c2 c3 c4 c5 c6 c7 c8 c9 aS aN aM aR aQ aP aO p):∃ a c,c7=.slice a p.cats.length c∧p.cats.length≤c∧p.cats.length≤9223372036854775807:=eU h.cats (by decide)
theorem aJ.f8{w:World}{c0 c1 c2 c3 c4 c5 c6 c7 c8 c9 aS aN aM aR aQ aP aO:Value}{p:aA}(h:aJ w c0 c1 c2 c3 c4 c5 c6 c7 c8 c9 aS aN aM aR aQ aP aO p):∃ a c,c8=.slice a p.conds.length c∧p.conds.length≤c∧p.conds.length≤9223372036854775807:=ak.size h.conds (by decide)
theorem aJ.f9{w:World}{c0 c1 c2 c3 c4 c5 c6 c7 c8 c9 aS aN aM aR aQ aP aO:Value}{p:aA}(h:aJ w c0 c1 c2 c3 c4 c5 c6 c7 c8 c9 aS aN aM aR aQ aP aO p):∃ a c,c9=.slice a p.rules.length c∧p.rules.length≤c∧p.rules.length≤9223372036854775807:=eU h.rules (by decide)
theorem aJ.f11{w:World}{c0 c1 c2 c3 c4 c5 c6 c7 c8 c9 aS aN aM aR aQ aP aO:Value}{p:aA}(h:aJ w c0 c1 c2 c3 c4 c5 c6 c7 c8 c9 aS aN aM aR aQ aP aO p):∃ a c,aN=.slice a p.aK.length c∧p.aK.length≤c∧p.aK.length≤9223372036854775807:=eU h.aK (by decide)
theorem aJ.f12{w:World}{c0 c1 c2 c3 c4 c5 c6 c7 c8 c9 aS aN aM aR aQ aP aO:Value}{p:aA}(h:aJ w c0 c1 c2 c3 c4 c5 c6 c7 c8 c9 aS aN aM aR aQ aP aO p):∃ a c,aM=.slice a p.ranges.length c∧p.ranges.length≤c∧p.ranges.length≤9223372036854775807:=eU h.ranges (by decide)
def aX(i n:Int):Bool:=decide (0≤i)&&decide (i<n)
theorem fB(w:World)(i n:Int):Calls Tryz.prog 113 #[.int .i64 i,.int .i64 n] w fun e w'=>e=.returned (.bool (aX i n))∧w=w':=by
 unfold aX
 cases h:decide (0≤i) with
 | false=>
  go_enter Tryz.func113,Tryz.ntmps113
  go_wp2
  go_ret
  exact⟨rfl,rfl⟩
 | true=>
  go_enter Tryz.func113,Tryz.ntmps113
  go_wp2
  go_ret
  exact⟨rfl,rfl⟩
def wD(a b:lM):Bool:=decide (b.aC≤a.aC)&&decide (rB b.cats a.cats=0)
theorem uz(w:World)(a b:lM)(ha:a.Ok)(hb:b.Ok):Calls Tryz.prog 109 #[.agg #[.int .i64 a.aC,.int .u64 a.cats],.agg #[.int .i64 b.aC,.int .u64 b.cats]] w fun e w'=>e=.returned (.bool (wD a b))∧arQ w.heap.size w w':=by
 have hd:(bits .andNot .u64 (b.cats:Int) (a.cats:Int) == 0)=decide (rB b.cats a.cats=0):=by
  rw[u64_andNot_nat b.cats a.cats hb.cats ha.cats];show(((rB b.cats a.cats:Nat):Int) == 0)=_;rw[arY];simp
 have HD:=arX hd;clear hd ha hb;obtain⟨wo,i_⟩:∃ wo,wo=((w).alloc (.cells #[.int .i64 a.aC,.int .u64 a.cats] 70)).alloc (.cells #[.int .i64 b.aC,.int .u64 b.cats] 70):=⟨_,rfl⟩;have W0:=arX (show Whole wo w.heap.size 70 #[.int .i64 a.aC,.int .u64 a.cats] by rw[i_];exact((show Whole _ w.heap.size 70 #[.int .i64 a.aC,.int .u64 a.cats] from Whole.new w 70 _).alloc _));have W1:=arX (show Whole wo (w.heap.size+1) 70 #[.int .i64 b.aC,.int .u64 b.cats] by rw[i_];exact(vf w _ _ _));have yc:=arX (show arQ w.heap.size w wo by rw[i_];exact(((Below.refl _ w).alloc (Nat.le_refl _) _).alloc (by simp) _));have ka0:wo.cell? ⟨w.heap.size,0,none⟩=some (.int .i64 a.aC):=W0.out.cell 0;have ka1:wo.cell? ⟨w.heap.size,1,none⟩=some (.int .u64 a.cats):=W0.out.cell 1;have kb0:wo.cell? ⟨w.heap.size+1,0,none⟩=some (.int .i64 b.aC):=W1.out.cell 0;have kb1:wo.cell? ⟨w.heap.size+1,1,none⟩=some (.int .u64 b.cats):=W1.out.cell 1;unfold wD;by_cases h:b.aC≤a.aC
 ·have h1:decide (b.aC≤a.aC)=true:=by simp[h]
  rw[h1]
  go_enter Tryz.func109,Tryz.ntmps109
  go_upto_region 1 with(fail)
  rw[← i_];clear i_
  go_wp2
  go_ret
  exact⟨aD (by rw[← HD.out];rfl),yc.out⟩
 ·have h1:decide (b.aC≤a.aC)=false:=by simp[h]
  rw[h1]
  go_enter Tryz.func109,Tryz.ntmps109
  go_upto_region 1 with(fail)
  rw[← i_];clear i_
  go_wp2
  go_ret
  exact⟨rfl,yc.out⟩
def jL(n:Nat)(k:Int):Bool:=decide (-(n:Int)≤k)&&decide (k≤(n:Int))
theorem I5(w:World)(c0 c1 c2 c3 c4 c5 c6 c7 c8 c9 aS aN aM aR aQ aP aO:Value)(p:aA)(hp:aJ w c0 c1 c2 c3 c4 c5 c6 c7 c8 c9 aS aN aM aR aQ aP aO p)(k:Int):Calls Tryz.prog 112 #[.agg #[c0,c1,c2,c3,c4,c5,c6,c7,c8,c9,aS,aN,aM,aR,aQ,aP,aO],.int .i64 k] w fun e w'=>e=.returned (.bool (jL p.conds.length k))∧arQ w.heap.size w w':=by
 obtain⟨a8,k8,rfl,hk8,hm8⟩:=aJ.f8 hp;obtain⟨n8,Z4⟩:∃ n,n=p.conds.length:=⟨_,rfl⟩;have N8:=arX Z4;rw[← Z4] at hk8 hm8 ⊢;clear Z4;obtain⟨wo,i_⟩:∃ wo,wo=(w).alloc (.cells #[c0,c1,c2,c3,c4,c5,c6,c7,.slice a8 n8 k8,c9,aS,aN,aM,aR,aQ,aP,aO] 39):=⟨_,rfl⟩;have W0:=arX (show Whole wo w.heap.size 39 #[c0,c1,c2,c3,c4,c5,c6,c7,.slice a8 n8 k8,c9,aS,aN,aM,aR,aQ,aP,aO] by rw[i_];exact(Whole.new w 39 _));have yc:=arX (show arQ w.heap.size w wo by rw[i_];exact((Below.refl _ w).alloc (Nat.le_refl _) _));have kp8:wo.cell? ⟨w.heap.size,8,none⟩=some (.slice a8 n8 k8):=W0.out.cell 8;clear hp;unfold jL;by_cases h:-(n8:Int)≤k
 ·have h1:decide (-(n8:Int)≤k)=true:=by simp[h]
  rw[h1]
  go_enter Tryz.func112,Tryz.ntmps112
  go_upto_region 1 with(fail)
  rw[← i_];clear i_
  go_wp2
  go_ret
  exact⟨aD (by simp),yc.out⟩
 ·have h1:decide (-(n8:Int)≤k)=false:=by simp[h]
  rw[h1]
  go_enter Tryz.func112,Tryz.ntmps112
  go_upto_region 1 with(fail)
  rw[← i_];clear i_
  go_wp2
  go_ret
  exact⟨aD (by simp),yc.out⟩
def dL(s:ByteArray)(i:Nat):Nat:=if h:i<s.size then (s[i]'h).toNat else 0
theorem nu{s:ByteArray}{i:Nat}(h:i<s.size):(s[i]'h).toNat=dL s i:=by unfold dL;rw[dif_pos h]
theorem nr(s:ByteArray)(i:Nat):dL s i<256:=by
 unfold dL;split
 ·exact UInt8.toNat_lt _
 ·decide
def BN(s:ByteArray)(i:Nat):Bool:=decide ((dL s i:Int)<32)||decide ((126:Int)<dL s i)||decide ((dL s i:Int)=34)
def nJ(s:ByteArray):Bool:=!(eT (BN s) s.size 0)&&decide ((s.size:Int)≤256)
theorem KH(w:World)(s:ByteArray)(hs:dG s):Calls Tryz.prog 200 #[.string s] w fun e w'=>e=.returned (.bool (nJ s))∧w=w':=by
 have hs':s.size≤140737488355328:=hs;obtain⟨n,hn⟩:∃ n,n=s.size:=⟨_,rfl⟩;have HN:=arX hn;have hnb:n≤140737488355328:=by rw[hn];exact hs'
 unfold nJ;clear hs hs'
 go_enter Tryz.func200,Tryz.ntmps200
 go_wp2_with fail
 go_loopw [3] (fun i wr=>wr=w∧∃ k:Nat,k≤n∧i=.int .i64 k∧Hid (eT (BN s) s.size 0=eT (BN s) (n-k) k)) (fun i _=>n-(intOf i).toNat)
 case atStart=>exact⟨rfl,0,arS _,rfl,arX (by rw[hn,Nat.sub_zero])⟩
 case round=>
  obtain⟨rfl,k,hk,rfl,hinv⟩:=hrel;by_cases hlt:k<n
  ·have hks:k<s.size:=by rw[← hn];exact hlt
   obtain⟨x,hx⟩:∃ x,x=dL s k:=⟨_,rfl⟩;have hsx:(s[k]'hks).toNat=x:=by rw[nu hks,hx]
   have TQ:x<256:=by rw[hx];exact nr s k
   have hlt2:0≤(k:Int)∧(k:Int)<s.size:=by omega
   have HX:=arX hx;clear hx;by_cases h1:(x:Int)<32
   ·have HB:=arX (show BN s k=true by unfold BN;rw[← HX.out];simp[h1]);have hd1:decide ((x:Int)<32)=true:=by simp[h1]
    go_wp2_with fail
    go_ret
    exact⟨aD (by rw[hinv.out,dZ hlt HB.out];rfl),rfl⟩
   ·by_cases h2:(126:Int)<x
    ·have HB:=arX (show BN s k=true by unfold BN;rw[← HX.out];simp[h2]);have hd1:decide ((x:Int)<32)=false:=by simp;omega
     go_wp2_with fail
     go_ret
     exact⟨aD (by rw[hinv.out,dZ hlt HB.out];rfl),rfl⟩
    ·by_cases h3:(x:Int)=34
     ·have HB:=arX (show BN s k=true by unfold BN;rw[← HX.out];simp[h3])
      go_wp2_with fail
      go_ret
      exact⟨aD (by rw[hinv.out,dZ hlt HB.out];rfl),rfl⟩
     ·have HB:=arX (show BN s k=false by unfold BN;rw[← HX.out];simp[h1,h2,h3])
      go_wp2_with fail
      go_roundw
      case rel=>exact⟨by first|trivial|rfl,k+1,by omega,by go_num,arX (hinv.out.trans (jD hlt HB.out))⟩
      case measure=>simp[intOf];omega
  ·obtain rfl:k=n:=by omega
   go_wp2_with fail
   go_ret
   exact⟨aD (by rw[hinv.out,h_];rfl),rfl⟩
def jw(x:Nat):Bool:=(decide ((65:Int)≤x)&&decide ((x:Int)≤90))||(decide ((97:Int)≤x)&&decide ((x:Int)≤122))||decide ((x:Int)=95)
def mI(x:Nat):Bool:=decide ((48:Int)≤x)&&decide ((x:Int)≤57)
theorem nV(w:World)(x:Nat):Calls Tryz.prog 248 #[.int .u8 (x:Int)] w fun e w'=>e=.returned (.bool (jw x))∧w=w':=by
 unfold jw;by_cases t0:(65:Int)≤x
 ·have d0:decide ((65:Int)≤x)=true:=by simp;omega
  by_cases t1:(x:Int)≤90
  ·have d1:decide ((x:Int)≤90)=true:=by simp;omega
   have d2:decide ((97:Int)≤x)=false:=by simp;omega
   have d3:decide ((x:Int)≤122)=true:=by simp;omega
   go_enter Tryz.func248,Tryz.ntmps248
   go_wp2
   go_ret
   exact⟨aD (by first|rfl|(simp<;>omega)|(simp[*];done)|(simp;omega)),rfl⟩
  ·have d1:decide ((x:Int)≤90)=false:=by simp;omega
   by_cases t2:(97:Int)≤x
   ·have d2:decide ((97:Int)≤x)=true:=by simp;omega
    by_cases t3:(x:Int)≤122
    ·have d3:decide ((x:Int)≤122)=true:=by simp;omega
     go_enter Tryz.func248,Tryz.ntmps248
     go_wp2
     go_ret
     exact⟨aD (by first|rfl|(simp<;>omega)|(simp[*];done)|(simp;omega)),rfl⟩
    ·have d3:decide ((x:Int)≤122)=false:=by simp;omega
     go_enter Tryz.func248,Tryz.ntmps248
     go_wp2
     go_ret
     exact⟨aD (by first|rfl|(simp<;>omega)|(simp[*];done)|(simp;omega)),rfl⟩
   ·have d2:decide ((97:Int)≤x)=false:=by simp;omega
    have d3:decide ((x:Int)≤122)=true:=by simp;omega
    go_enter Tryz.func248,Tryz.ntmps248
    go_wp2
    go_ret
    exact⟨aD (by first|rfl|(simp<;>omega)|(simp[*];done)|(simp;omega)),rfl⟩
 ·have d0:decide ((65:Int)≤x)=false:=by simp;omega
  have d1:decide ((x:Int)≤90)=true:=by simp;omega
  have d2:decide ((97:Int)≤x)=false:=by simp;omega
  have d3:decide ((x:Int)≤122)=true:=by simp;omega
  go_enter Tryz.func248,Tryz.ntmps248
  go_wp2
  go_ret
  exact⟨aD (by first|rfl|(simp<;>omega)|(simp[*];done)|(simp;omega)),rfl⟩
theorem Dv(w:World)(x:Nat):Calls Tryz.prog 249 #[.int .u8 (x:Int)] w fun e w'=>e=.returned (.bool (mI x))∧w=w':=by
 unfold mI;by_cases t0:(48:Int)≤x
 ·have d0:decide ((48:Int)≤x)=true:=by simp;omega
  go_enter Tryz.func249,Tryz.ntmps249
  go_wp2
  go_ret
  exact⟨aD (by first|rfl|(simp<;>omega)|(simp[*];done)|(simp;omega)),rfl⟩
 ·have d0:decide ((48:Int)≤x)=false:=by simp;omega
  go_enter Tryz.func249,Tryz.ntmps249
  go_wp2
  go_ret
  exact⟨aD (by first|rfl|(simp<;>omega)|(simp[*];done)|(simp;omega)),rfl⟩
def jo(s ws:ByteArray):Nat→Nat→Nat→Bool
 | 0,_,_=>false
 | k+1,fr,i=>if dL ws i=32 then (if (ws.extract fr i).toList=s.toList∧s.toList.isEmpty=false then true else jo s ws k (i+1) (i+1)) else jo s ws k fr (i+1)
def DT(s ws:ByteArray):Bool:=jo s ws ws.size 0 0
theorem DU{s ws:ByteArray}{n fr i:Nat}(h:i<n)(hb:dL ws i≠32):jo s ws (n-i) fr i=jo s ws (n-(i+1)) fr (i+1):=by
 obtain⟨k,hk⟩:∃ k,n-i=k+1:=⟨n-i-1,by omega⟩;rw[hk,show n-(i+1)=k by omega];exact if_neg hb
theorem Gu{s ws:ByteArray}{n fr i:Nat}(h:i<n)(hb:dL ws i=32)(h1:(ws.extract fr i).toList=s.toList)(h2:s.toList.isEmpty=false):jo s ws (n-i) fr i=true:=by
 obtain⟨k,hk⟩:∃ k,n-i=k+1:=⟨n-i-1,by omega⟩;rw[hk];exact(if_pos hb).trans (if_pos ⟨h1,h2⟩)
theorem sZ{s ws:ByteArray}{n fr i:Nat}(h:i<n)(hb:dL ws i=32)(h1:¬ ((ws.extract fr i).toList=s.toList∧s.toList.isEmpty=false)):jo s ws (n-i) fr i=jo s ws (n-(i+1)) (i+1) (i+1):=by
 obtain⟨k,hk⟩:∃ k,n-i=k+1:=⟨n-i-1,by omega⟩;rw[hk,show n-(i+1)=k by omega];exact(if_pos hb).trans (if_neg h1)
theorem Gt(w:World)(s ws:ByteArray)(hs:dG ws):Calls Tryz.prog 201 #[.string s,.string ws] w fun e w'=>e=.returned (.bool (DT s ws))∧w=w':=by
 have hs':ws.size≤140737488355328:=hs;obtain⟨n,hn⟩:∃ n,n=ws.size:=⟨_,rfl⟩;have HN:=arX hn;have hnb:n≤140737488355328:=by rw[hn];exact hs'
 unfold DT;clear hs hs'
 go_enter Tryz.func201,Tryz.ntmps201
 go_wp2_with fail
 go_loopw [5,6] (fun f i wr=>wr=w∧∃ fr k:Nat,fr≤k∧k≤n∧f=.int .i64 fr∧i=.int .i64 k∧Hid (jo s ws ws.size 0 0=jo s ws (n-k) fr k)) (fun _ i _=>n-(intOf i).toNat)
 case atStart=>exact⟨rfl,0,0,Nat.le_refl _,arS _,rfl,rfl,arX (by rw[hn,Nat.sub_zero])⟩
 case round=>
  obtain⟨rfl,fr,k,hfr,hk,rfl,rfl,hinv⟩:=hrel;by_cases hlt:k<n
  ·have hks:k<ws.size:=by rw[← hn];exact hlt
   obtain⟨x,hx⟩:∃ x,x=dL ws k:=⟨_,rfl⟩;have hsx:(ws[k]'hks).toNat=x:=by rw[nu hks,hx]
   have TQ:x<256:=by rw[hx];exact nr ws k
   have hlt2:0≤(k:Int)∧(k:Int)<ws.size:=by omega
   have HX:=arX hx;clear hx;by_cases h32:x=32
   ·subst h32;have Q5:=arX HX.out.symm;have hlt3:0≤(k:Int)∧(k:Int)≤ws.size:=by omega
    have ame:0≤(fr:Int)∧(fr:Int)≤k:=by omega
    by_cases h1:(ws.extract fr k).toList=s.toList
    ·by_cases h2:s.toList.isEmpty=true
     ·have HM:=arX (sZ (fr:=fr) hlt Q5.out (fun h=>by rw[h2] at h;cases h.2));clear HX Q5
      go_wp2_with fail
      go_roundw
      case rel=>exact⟨by first|trivial|rfl,k+1,k+1,Nat.le_refl _,by omega,by go_num,by go_num,arX (hinv.out.trans HM.out)⟩
      case measure=>simp[intOf];omega
     ·have HM:=arX (Gu (fr:=fr) hlt Q5.out h1 (Bool.eq_false_iff.2 h2));have h2':s.toList.isEmpty=false:=Bool.eq_false_iff.2 h2;clear h2;clear HX Q5
      go_wp2_with fail
      go_ret
      exact⟨aD (by rw[hinv.out,HM.out]),rfl⟩
    ·have HM:=arX (sZ (fr:=fr) hlt Q5.out (fun h=>h1 h.1));clear HX Q5
     go_wp2_with fail
     go_roundw
     case rel=>exact⟨by first|trivial|rfl,k+1,k+1,Nat.le_refl _,by omega,by go_num,by go_num,arX (hinv.out.trans HM.out)⟩
     case measure=>simp[intOf];omega
   ·have HM:=arX (DU (s:=s) (fr:=fr) hlt (by rw[← HX.out];exact h32));clear HX
    go_wp2_with fail
    go_roundw
    case rel=>exact⟨by first|trivial|rfl,fr,k+1,by omega,by omega,rfl,by go_num,arX (hinv.out.trans HM.out)⟩
    case measure=>simp[intOf];omega
  ·obtain rfl:k=n:=by omega
   go_wp2_with fail
   go_ret
   exact⟨aD (by rw[hinv.out,Nat.sub_self];rfl),rfl⟩
def kwB:ByteArray:=⟨#[109,111,100,117,108,101,32,99,108,97,115,115,32,116,121,112,101,32,97,108,105,97,115,32,116,121,112,101,97,116,116,114,105,98,117,116,101,32,97,116,116,114,105,98,117,116,101,32,114,111,108,101,32,116,121,112,101,115,32,114,111,108,101,97,108,108,111,119,32,114,111,108,101,95,116,114,97,110,115,105,116,105,111,110,32,117,115,101,114,32,114,111,108,101,115,32,108,101,118,101,108,32,114,97,110,103,101,32,98,111,111,108,32,116,114,117,101,32,102,97,108,115,101,32,115,101,110,115,105,116,105,118,105,116,121,32,99,97,116,101,103,111,114,121,32,97,108,108,111,119,32,97,117,100,105,116,97,108,108,111,119,32,100,111,110,116,97,117,100,105,116,32,110,101,118,101,114,97,108,108,111,119,32,116,121,112,101,95,116,114,97,110,115,105,116,105,111,110,32,116,121,112,101,95,99,104,97,110,103,101,32,116,121,112,101,95,109,101,109,98,101,114,32,114,97,110,103,101,95,116,114,97,110,115,105,116,105,111,110,32,99,111,110,115,116,114,97,105,110,32,118,97,108,105,100,97,116,101,116,114,97,110,115,32,105,102,32,101,108,115,101,32,111,112,116,105,111,110,97,108,32,114,101,113,117,105,114,101,32,115,105,100,32,102,105,108,101,99,111,110,32,112,101,114,109,105,115,115,105,118,101,32,97,115,115,101,114,116,32,115,101,108,102,32,105,110,32]⟩
theorem ZO:dG kwB:=by
 show kwB.size≤140737488355328;have:kwB.size=327:=by kernel_rfl
 omega
def jI(s:ByteArray):Bool:=DT s kwB
theorem xH(w:World)(s:ByteArray):Calls Tryz.prog 278 #[.string s] w fun e w'=>e=.returned (.bool (jI s))∧w=w':=by
 obtain⟨q,hq⟩:∃ q,q=jI s:=⟨_,rfl⟩;have HQ:=arX hq;rw[← hq];clear hq
 go_enter Tryz.func278,Tryz.ntmps278
 go_wp2_with (go_at_call 201;go_must (refine(show Calls Tryz.prog 201 _ _ (fun e w'=>e=.returned (.bool q)∧w=w') from by rw[HQ.out];exact Gt w s kwB ZO).mono ?_;rintro e w' ⟨rfl,rfl⟩))
 go_ret
 exact⟨rfl,rfl⟩
def sO(s:ByteArray)(i:Nat):Bool:=!jw (dL s i)&&(decide (i=0)||!mI (dL s i))
def xE(s:ByteArray):Bool:=!(eT (sO s) s.size 0)&&(decide ((1:Int)≤(s.size:Int))&&decide ((s.size:Int)≤32))
theorem AA(w:World)(s:ByteArray)(hs:dG s):Calls Tryz.prog 198 #[.string s] w fun e w'=>e=.returned (.bool (xE s))∧w=w':=by
 have hs':s.size≤140737488355328:=hs;obtain⟨n,hn⟩:∃ n,n=s.size:=⟨_,rfl⟩;have HN:=arX hn;have hnb:n≤140737488355328:=by rw[hn];exact hs'
 unfold xE;clear hs hs'
 go_enter Tryz.func198,Tryz.ntmps198
 go_wp2_with fail
 go_loopw [3] (fun i wr=>wr=w∧∃ k:Nat,k≤n∧i=.int .i64 k∧Hid (eT (sO s) s.size 0=eT (sO s) (n-k) k)) (fun i _=>n-(intOf i).toNat)
 case atStart=>exact⟨rfl,0,arS _,rfl,arX (by rw[hn,Nat.sub_zero])⟩
 case round=>
  obtain⟨rfl,k,hk,rfl,hinv⟩:=hrel;by_cases hlt:k<n
  ·have hks:k<s.size:=by rw[← hn];exact hlt
   obtain⟨x,hx⟩:∃ x,x=dL s k:=⟨_,rfl⟩;have hsx:(s[k]'hks).toNat=x:=by rw[nu hks,hx]
   have TQ:x<256:=by rw[hx];exact nr s k
   have hlt2:0≤(k:Int)∧(k:Int)<s.size:=by omega
   have HX:=arX hx;clear hx
   cases hl:jw x with
   | true=>
    have HB:=arX (show sO s k=false by unfold sO;rw[← HX.out,hl];rfl);have HL:=arX hl;clear hl HX
    go_wp2_with (have hZ:=HL;clear hZ;go_at_call 248;go_must (refine(show Calls Tryz.prog 248 _ _ (fun e w'=>e=.returned (.bool true)∧_=w') from by have h:=nV wr x;rw[HL.out] at h;exact h).mono ?_;rintro e w' ⟨rfl,rfl⟩;clear HL))
    go_roundw
    case rel=>exact⟨by first|trivial|rfl,k+1,by omega,by go_num,arX (hinv.out.trans (jD hlt HB.out))⟩
    case measure=>simp[intOf];omega
   | false=>
    have HL:=arX hl;by_cases h0:k=0
    ·subst h0;have HB:=arX (show sO s 0=true by unfold sO;rw[← HX.out,hl];rfl);clear hl HX
     go_wp2_with (have hZ:=HL;clear hZ;go_at_call 248;go_must (refine(show Calls Tryz.prog 248 _ _ (fun e w'=>e=.returned (.bool false)∧_=w') from by have h:=nV wr x;rw[HL.out] at h;exact h).mono ?_;rintro e w' ⟨rfl,rfl⟩;clear HL))
     go_ret
     exact⟨aD (by rw[hinv.out,dZ hlt HB.out];rfl),rfl⟩
    ·have Yn:decide ((k:Int)=0)=false:=by simp;omega
     cases hg:mI x with
     | true=>
      have HB:=arX (show sO s k=false by unfold sO;rw[← HX.out,hl,hg];simp[h0]);have HDG:=arX hg;clear hl hg HX
      go_wp2_with (first|(have hZ:=HL;clear hZ;go_at_call 248;go_must (refine(show Calls Tryz.prog 248 _ _ (fun e w'=>e=.returned (.bool false)∧_=w') from by have h:=nV wr x;rw[HL.out] at h;exact h).mono ?_;rintro e w' ⟨rfl,rfl⟩;clear HL))|(have hZ:=HDG;clear hZ;go_at_call 249;go_must (refine(show Calls Tryz.prog 249 _ _ (fun e w'=>e=.returned (.bool true)∧_=w') from by have h:=Dv wr x;rw[HDG.out] at h;exact h).mono ?_;rintro e w' ⟨rfl,rfl⟩;clear HDG)))
      go_roundw
      case rel=>exact⟨by first|trivial|rfl,k+1,by omega,by go_num,arX (hinv.out.trans (jD hlt HB.out))⟩
      case measure=>simp[intOf];omega
     | false=>
      have HB:=arX (show sO s k=true by unfold sO;rw[← HX.out,hl,hg];simp);have HDG:=arX hg;clear hl hg HX
      go_wp2_with (first|(have hZ:=HL;clear hZ;go_at_call 248;go_must (refine(show Calls Tryz.prog 248 _ _ (fun e w'=>e=.returned (.bool false)∧_=w') from by have h:=nV wr x;rw[HL.out] at h;exact h).mono ?_;rintro e w' ⟨rfl,rfl⟩;clear HL))|(have hZ:=HDG;clear hZ;go_at_call 249;go_must (refine(show Calls Tryz.prog 249 _ _ (fun e w'=>e=.returned (.bool false)∧_=w') from by have h:=Dv wr x;rw[HDG.out] at h;exact h).mono ?_;rintro e w' ⟨rfl,rfl⟩;clear HDG)))
      go_ret
      exact⟨aD (by rw[hinv.out,dZ hlt HB.out];rfl),rfl⟩
  ·obtain rfl:k=n:=by omega
   have HF:=arX hinv.out;clear hinv;by_cases h1:(1:Int)≤(s.size:Int)
   ·have hd1:decide ((1:Int)≤(s.size:Int))=true:=by simp;omega
    go_wp2_with fail
    go_ret
    exact⟨aD (by first|rfl|(rw[HF.out,h_];simp;omega)),rfl⟩
   ·have hd1:decide ((1:Int)≤(s.size:Int))=false:=by simp;omega
    go_wp2_with fail
    go_ret
    exact⟨aD (by first|rfl|(rw[HF.out,h_];simp;omega)),rfl⟩
def wI(s:ByteArray)(i:Nat):Bool:=decide ((dL s i:Int)<33)||decide ((126:Int)<dL s i)||decide ((dL s i:Int)=34)||decide ((dL s i:Int)=47)
def lT(s:ByteArray):Bool:=!(eT (wI s) s.size 0)&&(decide ((1:Int)≤(s.size:Int))&&decide ((s.size:Int)≤32))
theorem KT(w:World)(s:ByteArray)(hs:dG s):Calls Tryz.prog 114 #[.string s] w fun e w'=>e=.returned (.bool (lT s))∧w=w':=by
 have hs':s.size≤140737488355328:=hs;obtain⟨n,hn⟩:∃ n,n=s.size:=⟨_,rfl⟩;have HN:=arX hn;have hnb:n≤140737488355328:=by rw[hn];exact hs'
 unfold lT;clear hs hs'
 go_enter Tryz.func114,Tryz.ntmps114
 go_wp2_with fail
 go_loopw [3] (fun i wr=>wr=w∧∃ k:Nat,k≤n∧i=.int .i64 k∧Hid (eT (wI s) s.size 0=eT (wI s) (n-k) k)) (fun i _=>n-(intOf i).toNat)
 case atStart=>exact⟨rfl,0,arS _,rfl,arX (by rw[hn,Nat.sub_zero])⟩
 case round=>
  obtain⟨rfl,k,hk,rfl,hinv⟩:=hrel;by_cases hlt:k<n
  ·have hks:k<s.size:=by rw[← hn];exact hlt
   obtain⟨x,hx⟩:∃ x,x=dL s k:=⟨_,rfl⟩;have hsx:(s[k]'hks).toNat=x:=by rw[nu hks,hx]
   have TQ:x<256:=by rw[hx];exact nr s k
   have hlt2:0≤(k:Int)∧(k:Int)<s.size:=by omega
   have HX:=arX hx;clear hx;by_cases h1:(x:Int)<33
   ·have HB:=arX (show wI s k=true by unfold wI;rw[← HX.out];simp[h1]);have hd1:decide ((x:Int)<33)=true:=by simp[h1]
    go_wp2_with fail
    go_ret
    exact⟨aD (by rw[hinv.out,dZ hlt HB.out];rfl),rfl⟩
   ·by_cases h2:(126:Int)<x
    ·have HB:=arX (show wI s k=true by unfold wI;rw[← HX.out];simp[h2]);have hd1:decide ((x:Int)<33)=false:=by simp;omega
     go_wp2_with fail
     go_ret
     exact⟨aD (by rw[hinv.out,dZ hlt HB.out];rfl),rfl⟩
    ·by_cases h3:(x:Int)=34
     ·have HB:=arX (show wI s k=true by unfold wI;rw[← HX.out];simp[h3])
      go_wp2_with fail
      go_ret
      exact⟨aD (by rw[hinv.out,dZ hlt HB.out];rfl),rfl⟩
     ·have hd3:decide ((x:Int)=34)=false:=by simp[h3]
      have ams:((x:Int) == 34)=false:=by simpa using h3
      by_cases h4:(x:Int)=47
      ·have HB:=arX (show wI s k=true by unfold wI;rw[← HX.out];simp[h4])
       go_wp2_with fail
       go_ret
       exact⟨aD (by rw[hinv.out,dZ hlt HB.out];rfl),rfl⟩
      ·have HB:=arX (show wI s k=false by unfold wI;rw[← HX.out];simp[h1,h2,h3,h4])
       go_wp2_with fail
       go_roundw
       case rel=>exact⟨by first|trivial|rfl,k+1,by omega,by go_num,arX (hinv.out.trans (jD hlt HB.out))⟩
       case measure=>simp[intOf];omega
  ·obtain rfl:k=n:=by omega
   have HF:=arX hinv.out;clear hinv;by_cases h1:(1:Int)≤(s.size:Int)
   ·have hd1:decide ((1:Int)≤(s.size:Int))=true:=by simp;omega
    go_wp2_with fail
    go_ret
    exact⟨aD (by first|rfl|(rw[HF.out,h_];simp;omega)),rfl⟩
   ·have hd1:decide ((1:Int)≤(s.size:Int))=false:=by simp;omega
    go_wp2_with fail
    go_ret
    exact⟨aD (by first|rfl|(rw[HF.out,h_];simp;omega)),rfl⟩
def jS(s:ByteArray):Bool:=xE s&&!jI s
theorem Qd(w:World)(s:ByteArray)(hs:dG s):Calls Tryz.prog 243 #[.string s] w fun e w'=>e=.returned (.bool (jS s))∧w=w':=by
 have HS:=arX hs;clear hs;unfold jS
 cases h1:xE s with
 | false=>
  have H1:=arX h1;clear h1
  go_enter Tryz.func243,Tryz.ntmps243
  go_wp2_with (have hZ:=H1;clear hZ;go_at_call 198;go_must (refine(show Calls Tryz.prog 198 _ _ (fun e w'=>e=.returned (.bool false)∧_=w') from by have h:=AA w s HS.out;rw[H1.out] at h;exact h).mono ?_;rintro e w' ⟨rfl,rfl⟩;clear H1))
  go_ret
  exact⟨rfl,rfl⟩
 | true=>
  have H1:=arX h1
  cases h2:jI s with
  | false=>
   have H2:=arX h2;clear h1 h2
   go_enter Tryz.func243,Tryz.ntmps243
   go_wp2_with (first|(have hZ:=H1;clear hZ;go_at_call 198;go_must (refine(show Calls Tryz.prog 198 _ _ (fun e w'=>e=.returned (.bool true)∧_=w') from by have h:=AA w s HS.out;rw[H1.out] at h;exact h).mono ?_;rintro e w' ⟨rfl,rfl⟩;clear H1))|(have hZ:=H2;clear hZ;go_at_call 278;go_must (refine(show Calls Tryz.prog 278 _ _ (fun e w'=>e=.returned (.bool false)∧_=w') from by have h:=xH w s;rw[H2.out] at h;exact h).mono ?_;rintro e w' ⟨rfl,rfl⟩;clear H2)))
   go_ret
   exact⟨rfl,rfl⟩
  | true=>
   have H2:=arX h2;clear h1 h2
   go_enter Tryz.func243,Tryz.ntmps243
   go_wp2_with (first|(have hZ:=H1;clear hZ;go_at_call 198;go_must (refine(show Calls Tryz.prog 198 _ _ (fun e w'=>e=.returned (.bool true)∧_=w') from by have h:=AA w s HS.out;rw[H1.out] at h;exact h).mono ?_;rintro e w' ⟨rfl,rfl⟩;clear H1))|(have hZ:=H2;clear hZ;go_at_call 278;go_must (refine(show Calls Tryz.prog 278 _ _ (fun e w'=>e=.returned (.bool true)∧_=w') from by have h:=xH w s;rw[H2.out] at h;exact h).mono ?_;rintro e w' ⟨rfl,rfl⟩;clear H2)))
   go_ret
   exact⟨rfl,rfl⟩
theorem AY(w:World)(s:ByteArray)(hs:dG s):Calls Tryz.prog 192 #[.string s] w fun e w'=>e=.returned (.bool (jS s))∧w=w':=by
 have HS:=arX hs;clear hs
 go_enter Tryz.func192,Tryz.ntmps192
 go_wp2_with (go_at_call 243;go_must (refine(Qd w s HS.out).mono ?_;rintro e w' ⟨rfl,rfl⟩))
 go_ret
 exact⟨rfl,rfl⟩
theorem SliceAt.front{w:World}{a:Addr}{k n c i:Nat}{cs:List Value}(h:SliceAt w (.slice (some a) n c) k n cs)(hi:i≤n):SliceAt w (.slice (some a) i c) k i (cs.take (i*k)):=by
 obtain⟨h1,h2,h3,⟨h4,h5⟩|⟨a',c',h4,h5,h6⟩⟩:=h
 ·cases h4
 ·cases h4;refine⟨?_,by omega,fun u hu=>h3 u (List.mem_of_mem_take hu),.inr ⟨a,c,rfl,by omega,fun j u hj=>?_⟩⟩
  ·rw[List.length_take,h1];exact Nat.min_eq_left (arZ k hi)
  ·rw[List.getElem?_take] at hj;split at hj
   ·exact h6 j u hj
   ·cases hj
theorem O_(l:List ByteArray)(i:Nat):(l.flatMap aT).take (i*1)=(l.take i).flatMap aT:=by
 rw[Nat.mul_one]
 induction l generalizing i with
 | nil=>simp
 | cons x l ih=>
  cases i with
  | zero=>simp
  | succ i=>simp[aT,List.flatMap_cons,ih]
theorem aH.front{w:World}{a:Addr}{n c i:Nat}{l:List ByteArray}(h:aH w (.slice (some a) n c) l)(hn:n=l.length)(hi:i≤n):aH w (.slice (some a) i c) (l.take i):=by
 subst hn;have h1:=SliceAt.front h hi;rw[O_] at h1;unfold aH;rw[List.length_take,Nat.min_eq_left hi];exact h1
theorem aH.open{w:World}{v:Value}{l:List ByteArray}(h:aH w v l):∃ a c,v=.slice a l.length c∧l.length≤c∧l.length≤9223372036854775807∧∀ i s,l[i]?=some s→∃ b off,a=some ⟨b,off,none⟩∧w.cell? ⟨b,off+i,none⟩=some (.string s):=by
 obtain⟨a,c,h1,h2,h3,h4⟩:=SliceAt.form h (by decide);refine⟨a,c,h1,h2,h3,fun i s hs=>?_⟩;have hi:=(arM.1 hs).1;obtain⟨b,off,ha,hc⟩:=h4 i hi;have h5:=hc 0 (.string s) (by rw[lX GU hs 0 (by decide)];rfl);simp only[Nat.mul_one,Nat.add_zero] at h5;exact⟨b,off,ha,h5⟩
def LN(l:List ByteArray)(s:ByteArray)(i:Nat):Bool:=match l[i]? with
 | some x=>decide (x.toList=s.toList)
 | none=>false
def hasB(l:List ByteArray)(s:ByteArray):Bool:=eT (LN l s) l.length 0
theorem EA{l:List ByteArray}{s x:ByteArray}{i:Nat}(h:l[i]?=some x):LN l s i=decide (x.toList=s.toList):=by unfold LN;rw[h]
theorem Il(w:World)(s:ByteArray)(v:Value)(l:List ByteArray)(h:aH w v l):Calls Tryz.prog 193 #[.string s,v] w fun e w'=>e=.returned (.bool (hasB l s))∧w=w':=by
 obtain⟨a,c,rfl,hc,hm,hcell⟩:=h.open;obtain⟨n,hn⟩:∃ n,n=l.length:=⟨_,rfl⟩;have HN:=arX hn;have HC:=arX hcell;unfold hasB;rw[← hn] at hc hm ⊢;clear hcell h hn
 go_enter Tryz.func193,Tryz.ntmps193
 go_wp2_with fail
 go_loopw [5] (fun i wr=>wr=w∧∃ k:Nat,k≤n∧i=.int .i64 k∧Hid (eT (LN l s) n 0=eT (LN l s) (n-k) k)) (fun i _=>n-(intOf i).toNat)
 case atStart=>exact⟨rfl,0,arS _,rfl,arX (by rw[Nat.sub_zero])⟩
 case round=>
  obtain⟨rfl,k,hk,rfl,hinv⟩:=hrel;by_cases hlt:k<n
  ·obtain⟨x,hx⟩:∃ x,l[k]?=some x:=⟨_,arN (by rw[← HN.out];exact hlt)⟩;have HX:=arX hx;obtain⟨b,off,rfl,k0⟩:=HC.out k x hx;clear hx;by_cases he:x.toList=s.toList
   ·have HB:=arX (show LN l s k=true by rw[EA HX.out];simp[he])
    go_wp2_with fail
    go_ret
    exact⟨aD (by rw[hinv.out,dZ hlt HB.out]),rfl⟩
   ·have HB:=arX (show LN l s k=false by rw[EA HX.out];simp[he]);have hb1:(x.toList == s.toList)=false:=by simp[he]
    go_wp2_with fail
    go_roundw
    case rel=>exact⟨by first|trivial|rfl,k+1,by omega,by go_num,arX (hinv.out.trans (jD hlt HB.out))⟩
    case measure=>simp[intOf];omega
  ·obtain rfl:k=n:=by omega
   go_wp2_with fail
   go_ret
   exact⟨aD (by rw[hinv.out,h_]),rfl⟩
def su(l o:List ByteArray)(i:Nat):Int:=match l[i]? with
 | some s=>if jS s=true then (if hasB (l.take i) s=true then 12 else if hasB o s=true then 12 else 0) else 10
 | none=>0
def bE(l o:List ByteArray):Int:=aG (su l o) l.length 0
theorem vN{l o:List ByteArray}{s:ByteArray}{i:Nat}(h:l[i]?=some s):su l o i=if jS s=true then (if hasB (l.take i) s=true then 12 else if hasB o s=true then 12 else 0) else 10:=by unfold su;rw[h]
theorem QA{P:Program}{a:Act}{w:World}{o:Oper}{t e:TypeId}{x hi:Operand}{g off n c h k:Nat}{hk:IntKind}(ho:o.op=.slice t x none (some hi) none)(hx:a.eval x=.slice (some ⟨g,off,none⟩) n c)(hh:a.eval hi=.int hk (h:Int))(hhc:h≤c)(hc:0<c)
 (hu:P.underlying t=some (.slice e)) (hs:(P.info? e).map (·.size)=some k):(execOp a.eval o).run P w=.ok (.value (.slice (some ⟨g,off,none⟩) h c)) w:=by
 have hadd:(⟨g,off,none⟩:Addr).add 0=⟨g,off,none⟩:=by unfold Addr.add;split<;>simp_all
 have h1:(0:Int)≤(h:Int)∧(h:Int)≤(c:Int):=by omega
 have hne:¬ c=0:=by omega
 unfold execOp;simp[ho,hx,hh,Instr.sliceAt,Sem.run_bind,run_underlying hu w,Result.andThen_ok,Instr.slice,Instr.sliceBounds,Instr.sliceBound,asIntOf,Sem.run_pure,h1,run_sizeOf hs,hne,hadd];intro h';omega
theorem eG(w:World)(v v':Value)(l o:List ByteArray)(h:aH w v l)(ho:aH w v' o)(hok:∀ s∈l,dG s):Calls Tryz.prog 101 #[v,v'] w fun e w'=>e=.returned (.int .i64 (bE l o))∧arQ w.heap.size w w':=by
 obtain⟨a,c,rfl,H9,hget⟩:=aH.get h;obtain⟨_,_,rfl,-⟩:=aH.get ho;have hcl:l.length≤c:=by obtain⟨_,_,e,hk,-⟩:=SliceAt.form h (by decide);injection e with e1 e2 e3;omega
 unfold bE;refine bX [] (fn:=Tryz.f101) Tryz.func101 rfl Tryz.ntmps101 rfl<|lr (ι:=Nat) (fun m=>[(5,.int .i64 (m:Int))]) (fun m _=>m≤l.length∧aG (su l o) l.length 0=aG (su l o) (l.length-m) m) (fun m=>l.length-m) 0 (an ⟨⟨rfl,trivial⟩,fun M=>⟨M,arS _,by rw[Nat.sub_zero]⟩⟩ ?_);rintro m w1 M ⟨hm,hinv⟩;refine an (fun h2=>?_) fun h2 M=>⟨ri (by rw[hinv,show m=l.length by simp at h2;omega,bY]),M.below⟩
 have hlt:m<l.length:=by simp at h2;omega
 obtain⟨s,hs⟩:∃ s,l[m]?=some s:=⟨_,arN hlt⟩;obtain⟨b,off,rfl,hc⟩:=hget m s hs;have hcf:=vN (o:=o) hs;have out:∀ v:Int,su l o m=v→v≠0→aG (su l o) l.length 0=v:=fun v h1 h2=>by rw[hinv,bZ hlt (by rw[h1];exact h2),h1]
 refine ia<|an ⟨rfl,rfl,hlt⟩<|lc (x:=.string s)<|an (ar0 M.below hc)<|cl<|an ((AY _ s (hok s (arO hs))).mono fun _ _ ⟨h1,h2⟩=>⟨h1,h2▸Below.refl _ _⟩) fun w2 M2=>an (fun h3 M=>⟨ri (out 10 (by rw[hcf,if_neg (by simpa using h3)]) (by decide)),M.below⟩) fun h3=>?_
 rw[if_pos (by simpa using h3)] at hcf;refine dr (by kernel_rfl)<|ia<|an ⟨rfl,rfl,hlt⟩<|lc (x:=.string s)<|an (ar0 M2.below hc)<|ei (x:=.slice (some ⟨b,off,none⟩) m c)<|an (fun a w o ho hv=>QA ho (dJ hv) (dX hv) (by omega) (by omega) u28 sz9)<|cl<|an (fun w' hb M'=>(Il w' s _ _ ((aH.front h rfl (Nat.le_of_lt hlt)).keep M'.below)).mono fun _ _ ⟨h1,h2⟩=>⟨h1,h2▸Below.refl _ _⟩)<|ia<|an (fun _=>⟨rfl,rfl,hlt⟩)<|lc (x:=.string s)<|an (fun _=>ar0 M2.below hc)<|cl<|an (fun _ w' hb M'=>(Il w' s _ _ (ho.keep M'.below)).mono fun _ _ ⟨h1,h2⟩=>⟨h1,h2▸Below.refl _ _⟩) fun w3 zu M3=>an (fun h4 M=>⟨ri (out 12 ?_ (by decide)),M.below⟩) fun h4=>an (by omega)<|bk (m+1) ⟨rfl,trivial⟩ (fun M=>⟨M,by omega,hinv.trans (bG hlt ?_)⟩) (by dsimp only;omega)
 all_goals rw[hcf];clear out hinv hcf;cases h5:hasB (l.take m) s<;>cases h6:hasB o s<;>simp_all
end Go.Proofs.YtdcofoaihmongaaGreat
namespace Go.Proofs.YtdcofoaihmongaaGreat
open Go Go.RowKit Go.WideMaps
theorem YA(d:Nat)(x0 y0:Int)(w:World):(Op.equalIn (d+1) 52 (.int .u64 x0) (.int .u64 y0)).run Tryz.prog w=.ok (decide (x0=y0)) w:=by
 by_cases h:x0=y0<;>simp[Op.equalIn,run_underlying Tryz.underlying52,h]
theorem kZ(d:Nat)(x0 x1 x2 x3 y0 y1 y2 y3:Int)(w:World):(Op.equalIn (d+2) 54 (.agg #[.int .u64 x0,.int .u64 x1,.int .u64 x2,.int .u64 x3]) (.agg #[.int .u64 y0,.int .u64 y1,.int .u64 y2,.int .u64 y3])).run Tryz.prog w=.ok (decide (x0=y0∧x1=y1∧x2=y2∧x3=y3)) w:=by
 have hsz:=z7
 obtain⟨i0,hi,-⟩:∃ i,Tryz.prog.info? 52=some i∧True:=by
  cases h:Tryz.prog.info? 52 with
  | none=>rw[h] at hsz;cases hsz
  | some i=>exact⟨i,rfl,trivial⟩
 rw[show d+2=(d+1)+1 from rfl,run_equalIn_array w (d+1) _ _ Tryz.underlying54 hi,show Tryz.prog.cellsOf 52=1 from by kernel_rfl];have p0:∀ x0 x1 x2 x3:Int,(part 52 #[.int .u64 x0,.int .u64 x1,.int .u64 x2,.int .u64 x3] (0*1)).run Tryz.prog w=.ok (.int .u64 x0) w:=fun x0 x1 x2 x3=>by kernel_rfl
 have p1:∀ x0 x1 x2 x3:Int,(part 52 #[.int .u64 x0,.int .u64 x1,.int .u64 x2,.int .u64 x3] (1*1)).run Tryz.prog w=.ok (.int .u64 x1) w:=fun x0 x1 x2 x3=>by kernel_rfl
 have p2:∀ x0 x1 x2 x3:Int,(part 52 #[.int .u64 x0,.int .u64 x1,.int .u64 x2,.int .u64 x3] (2*1)).run Tryz.prog w=.ok (.int .u64 x2) w:=fun x0 x1 x2 x3=>by kernel_rfl
 have p3:∀ x0 x1 x2 x3:Int,(part 52 #[.int .u64 x0,.int .u64 x1,.int .u64 x2,.int .u64 x3] (3*1)).run Tryz.prog w=.ok (.int .u64 x3) w:=fun x0 x1 x2 x3=>by kernel_rfl
 have eq:=fun a b=>YA d a b w
 rw[show List.range 4=[0,1,2,3] from rfl];simp only[Op.eqItems,Sem.run_bind,p0,Result.andThen_ok,eq];by_cases h0:x0=y0<;>by_cases h1:x1=y1<;>by_cases h2:x2=y2<;>by_cases h3:x3=y3<;>simp[h0,h1,h2,h3,Sem.run_bind,p1,p2,p3,eq]
theorem qo(d:Nat)(x0 y0:Int)(w:World):(Op.equalIn (d+1) 3 (.int .i64 x0) (.int .i64 y0)).run Tryz.prog w=.ok (decide (x0=y0)) w:=by
 by_cases h:x0=y0<;>simp[Op.equalIn,run_underlying Tryz.underlying3,h]
theorem aaI(d:Nat)(x0 y0:Bool)(w:World):(Op.equalIn (d+1) 4 (.bool x0) (.bool y0)).run Tryz.prog w=.ok (decide (x0=y0)) w:=by
 by_cases h:x0=y0<;>simp[Op.equalIn,run_underlying Tryz.underlying4,h]
theorem Oe(d:Nat)(x0 y0:Int)(w:World):(Op.equalIn (d+1) 50 (.int .u32 x0) (.int .u32 y0)).run Tryz.prog w=.ok (decide (x0=y0)) w:=by
 by_cases h:x0=y0<;>simp[Op.equalIn,run_underlying Tryz.underlying50,h]
theorem adU(d:Nat)(x0 x1 x2 x3 x4 x5 x6 x7 x8 x10 oM oL y0 y1 y2 y3 y4 y5 y6 y7 y8 uT Cg Ce:Int)(x9 y9:Bool)(w:World):(Op.equalIn (d+3) 56 (.agg #[.int .i64 x0,.int .u64 x1,.int .u64 x2,.int .u64 x3,.int .u64 x4,.int .u64 x5,.int .u64 x6,.int .u64 x7,.int .u64 x8,.bool x9,.int .i64 x10,.int .u32 oM,.int .i64 oL]) (.agg #[.int .i64 y0,.int .u64 y1,.int .u64 y2,.int .u64 y3,.int .u64 y4,.int .u64 y5,.int .u64 y6,.int .u64 y7,.int .u64 y8,.bool y9,.int .i64 uT,.int .u32 Cg,.int .i64 Ce])).run Tryz.prog w=.ok (decide (x0=y0∧x1=y1∧x2=y2∧x3=y3∧x4=y4∧x5=y5∧x6=y6∧x7=y7∧x8=y8∧x9=y9∧x10=uT∧oM=Cg∧oL=Ce)) w:=by
 have hf:(Tryz.prog.fieldsOf 56).toList.map (fun f=>(f.type,f.offset))=[(3,0),(54,1),(54,5),(4,9),(3,10),(50,11),(3,12)]:=by kernel_rfl
 have hq:(Op.eqFields (d+2) #[.int .i64 x0,.int .u64 x1,.int .u64 x2,.int .u64 x3,.int .u64 x4,.int .u64 x5,.int .u64 x6,.int .u64 x7,.int .u64 x8,.bool x9,.int .i64 x10,.int .u32 oM,.int .i64 oL] #[.int .i64 y0,.int .u64 y1,.int .u64 y2,.int .u64 y3,.int .u64 y4,.int .u64 y5,.int .u64 y6,.int .u64 y7,.int .u64 y8,.bool y9,.int .i64 uT,.int .u32 Cg,.int .i64 Ce] (Tryz.prog.fieldsOf 56).toList).run Tryz.prog w=.ok ([decide (x0=y0),decide (x1=y1∧x2=y2∧x3=y3∧x4=y4),decide (x5=y5∧x6=y6∧x7=y7∧x8=y8),decide (x9=y9),decide (x10=uT),decide (oM=Cg),decide (oL=Ce)].all id) w:=by
  refine cE _ _ (by kernel_rfl) (by kernel_rfl) fun i f r hi hr=>?_
  have hm:=congrArg (fun z:List (Nat×Nat)=>z[i]?) hf;simp only[ar1,hi,Option.map_some] at hm;have hlt:i<7:=(arM.1 hr).1
  match i,hlt with
  | 0,_=>
   obtain⟨h1,h2⟩:=ar2 (ar3 hm);obtain rfl:=ar3 hr;rw[h1,h2];exact⟨.int .i64 x0,.int .i64 y0,by kernel_rfl,by kernel_rfl,qo (d+1) x0 y0 w⟩
  | 1,_=>
   obtain⟨h1,h2⟩:=ar2 (ar3 hm);obtain rfl:=ar3 hr;rw[h1,h2];exact⟨.agg #[.int .u64 x1,.int .u64 x2,.int .u64 x3,.int .u64 x4],.agg #[.int .u64 y1,.int .u64 y2,.int .u64 y3,.int .u64 y4],by kernel_rfl,by kernel_rfl,kZ d x1 x2 x3 x4 y1 y2 y3 y4 w⟩
  | 2,_=>
   obtain⟨h1,h2⟩:=ar2 (ar3 hm);obtain rfl:=ar3 hr;rw[h1,h2];exact⟨.agg #[.int .u64 x5,.int .u64 x6,.int .u64 x7,.int .u64 x8],.agg #[.int .u64 y5,.int .u64 y6,.int .u64 y7,.int .u64 y8],by kernel_rfl,by kernel_rfl,kZ d x5 x6 x7 x8 y5 y6 y7 y8 w⟩
  | 3,_=>
   obtain⟨h1,h2⟩:=ar2 (ar3 hm);obtain rfl:=ar3 hr;rw[h1,h2];exact⟨.bool x9,.bool y9,by kernel_rfl,by kernel_rfl,aaI (d+1) x9 y9 w⟩
  | 4,_=>
   obtain⟨h1,h2⟩:=ar2 (ar3 hm);obtain rfl:=ar3 hr;rw[h1,h2];exact⟨.int .i64 x10,.int .i64 uT,by kernel_rfl,by kernel_rfl,qo (d+1) x10 uT w⟩
  | 5,_=>
   obtain⟨h1,h2⟩:=ar2 (ar3 hm);obtain rfl:=ar3 hr;rw[h1,h2];exact⟨.int .u32 oM,.int .u32 Cg,by kernel_rfl,by kernel_rfl,Oe (d+1) oM Cg w⟩
  | 6,_=>
   obtain⟨h1,h2⟩:=ar2 (ar3 hm);obtain rfl:=ar3 hr;rw[h1,h2];exact⟨.int .i64 oL,.int .i64 Ce,by kernel_rfl,by kernel_rfl,qo (d+1) oL Ce w⟩
 rw[show d+3=(d+2)+1 from rfl,run_equalIn_agg w (d+2) 56 _ _ (by kernel_rfl) (by kernel_rfl),hq];congr 1;rw[arY];simp[and_assoc]
theorem adT(d:Nat)(x0 x1 x2 x4 y0 y1 y2 y4:Int)(x3 y3:Bool)(w:World):(Op.equalIn (d+2) 78 (.agg #[.int .u32 x0,.int .u32 x1,.int .u32 x2,.bool x3,.int .i64 x4]) (.agg #[.int .u32 y0,.int .u32 y1,.int .u32 y2,.bool y3,.int .i64 y4])).run Tryz.prog w=.ok (decide (x0=y0∧x1=y1∧x2=y2∧x3=y3∧x4=y4)) w:=by
 have hf:(Tryz.prog.fieldsOf 78).toList.map (fun f=>(f.type,f.offset))=[(50,0),(50,1),(50,2),(4,3),(3,4)]:=by kernel_rfl
 have hq:(Op.eqFields (d+1) #[.int .u32 x0,.int .u32 x1,.int .u32 x2,.bool x3,.int .i64 x4] #[.int .u32 y0,.int .u32 y1,.int .u32 y2,.bool y3,.int .i64 y4] (Tryz.prog.fieldsOf 78).toList).run Tryz.prog w=.ok ([decide (x0=y0),decide (x1=y1),decide (x2=y2),decide (x3=y3),decide (x4=y4)].all id) w:=by
  refine cE _ _ (by kernel_rfl) (by kernel_rfl) fun i f r hi hr=>?_
  have hm:=congrArg (fun z:List (Nat×Nat)=>z[i]?) hf;simp only[ar1,hi,Option.map_some] at hm;have hlt:i<5:=(arM.1 hr).1
  match i,hlt with
  | 0,_=>
   obtain⟨h1,h2⟩:=ar2 (ar3 hm);obtain rfl:=ar3 hr;rw[h1,h2];exact⟨.int .u32 x0,.int .u32 y0,by kernel_rfl,by kernel_rfl,Oe d x0 y0 w⟩
  | 1,_=>
   obtain⟨h1,h2⟩:=ar2 (ar3 hm);obtain rfl:=ar3 hr;rw[h1,h2];exact⟨.int .u32 x1,.int .u32 y1,by kernel_rfl,by kernel_rfl,Oe d x1 y1 w⟩
  | 2,_=>
   obtain⟨h1,h2⟩:=ar2 (ar3 hm);obtain rfl:=ar3 hr;rw[h1,h2];exact⟨.int .u32 x2,.int .u32 y2,by kernel_rfl,by kernel_rfl,Oe d x2 y2 w⟩
  | 3,_=>
   obtain⟨h1,h2⟩:=ar2 (ar3 hm);obtain rfl:=ar3 hr;rw[h1,h2];exact⟨.bool x3,.bool y3,by kernel_rfl,by kernel_rfl,aaI d x3 y3 w⟩
  | 4,_=>
   obtain⟨h1,h2⟩:=ar2 (ar3 hm);obtain rfl:=ar3 hr;rw[h1,h2];exact⟨.int .i64 x4,.int .i64 y4,by kernel_rfl,by kernel_rfl,qo d x4 y4 w⟩
 rw[show d+2=(d+1)+1 from rfl,run_equalIn_agg w (d+1) 78 _ _ (by kernel_rfl) (by kernel_rfl),hq];congr 1;rw[arY];simp[]
theorem Iy(d:Nat)(x0 y0:ByteArray)(w:World):(Op.equalIn (d+1) 9 (.string x0) (.string y0)).run Tryz.prog w=.ok (decide (x0=y0)) w:=by
 have e:(x0 == y0)=decide (x0=y0):=by
  rw[arY,decide_eq_true_eq];constructor
  ·intro h;have h':(x0.data == y0.data)=true:=h;exact ByteArray.ext (by simpa using h')
  ·intro h;subst h;show(x0.data == x0.data)=true;simp
 simp[Op.equalIn,run_underlying Tryz.underlying9,e]
theorem adS(d:Nat)(x0 x1 x2 x3 x4 x5 x6 x7 x8 x9 oM oL y0 y1 y2 y3 y4 y5 y6 y7 y8 y9 Cg Ce:Int)(x10 uT:ByteArray)(w:World):(Op.equalIn (d+3) 84 (.agg #[.int .i64 x0,.int .u64 x1,.int .u64 x2,.int .u64 x3,.int .u64 x4,.int .u64 x5,.int .u64 x6,.int .u64 x7,.int .u64 x8,.int .i64 x9,.string x10,.int .i64 oM,.int .i64 oL]) (.agg #[.int .i64 y0,.int .u64 y1,.int .u64 y2,.int .u64 y3,.int .u64 y4,.int .u64 y5,.int .u64 y6,.int .u64 y7,.int .u64 y8,.int .i64 y9,.string uT,.int .i64 Cg,.int .i64 Ce])).run Tryz.prog w=.ok (decide (x0=y0∧x1=y1∧x2=y2∧x3=y3∧x4=y4∧x5=y5∧x6=y6∧x7=y7∧x8=y8∧x9=y9∧x10=uT∧oM=Cg∧oL=Ce)) w:=by
 have hf:(Tryz.prog.fieldsOf 84).toList.map (fun f=>(f.type,f.offset))=[(3,0),(54,1),(54,5),(3,9),(9,10),(3,11),(3,12)]:=by kernel_rfl
 have hq:(Op.eqFields (d+2) #[.int .i64 x0,.int .u64 x1,.int .u64 x2,.int .u64 x3,.int .u64 x4,.int .u64 x5,.int .u64 x6,.int .u64 x7,.int .u64 x8,.int .i64 x9,.string x10,.int .i64 oM,.int .i64 oL] #[.int .i64 y0,.int .u64 y1,.int .u64 y2,.int .u64 y3,.int .u64 y4,.int .u64 y5,.int .u64 y6,.int .u64 y7,.int .u64 y8,.int .i64 y9,.string uT,.int .i64 Cg,.int .i64 Ce] (Tryz.prog.fieldsOf 84).toList).run Tryz.prog w=.ok ([decide (x0=y0),decide (x1=y1∧x2=y2∧x3=y3∧x4=y4),decide (x5=y5∧x6=y6∧x7=y7∧x8=y8),decide (x9=y9),decide (x10=uT),decide (oM=Cg),decide (oL=Ce)].all id) w:=by
  refine cE _ _ (by kernel_rfl) (by kernel_rfl) fun i f r hi hr=>?_
  have hm:=congrArg (fun z:List (Nat×Nat)=>z[i]?) hf;simp only[ar1,hi,Option.map_some] at hm;have hlt:i<7:=(arM.1 hr).1
  match i,hlt with
  | 0,_=>
   obtain⟨h1,h2⟩:=ar2 (ar3 hm);obtain rfl:=ar3 hr;rw[h1,h2];exact⟨.int .i64 x0,.int .i64 y0,by kernel_rfl,by kernel_rfl,qo (d+1) x0 y0 w⟩
  | 1,_=>
   obtain⟨h1,h2⟩:=ar2 (ar3 hm);obtain rfl:=ar3 hr;rw[h1,h2];exact⟨.agg #[.int .u64 x1,.int .u64 x2,.int .u64 x3,.int .u64 x4],.agg #[.int .u64 y1,.int .u64 y2,.int .u64 y3,.int .u64 y4],by kernel_rfl,by kernel_rfl,kZ d x1 x2 x3 x4 y1 y2 y3 y4 w⟩
  | 2,_=>
   obtain⟨h1,h2⟩:=ar2 (ar3 hm);obtain rfl:=ar3 hr;rw[h1,h2];exact⟨.agg #[.int .u64 x5,.int .u64 x6,.int .u64 x7,.int .u64 x8],.agg #[.int .u64 y5,.int .u64 y6,.int .u64 y7,.int .u64 y8],by kernel_rfl,by kernel_rfl,kZ d x5 x6 x7 x8 y5 y6 y7 y8 w⟩
  | 3,_=>
   obtain⟨h1,h2⟩:=ar2 (ar3 hm);obtain rfl:=ar3 hr;rw[h1,h2];exact⟨.int .i64 x9,.int .i64 y9,by kernel_rfl,by kernel_rfl,qo (d+1) x9 y9 w⟩
  | 4,_=>
   obtain⟨h1,h2⟩:=ar2 (ar3 hm);obtain rfl:=ar3 hr;rw[h1,h2];exact⟨.string x10,.string uT,by kernel_rfl,by kernel_rfl,Iy (d+1) x10 uT w⟩
  | 5,_=>
   obtain⟨h1,h2⟩:=ar2 (ar3 hm);obtain rfl:=ar3 hr;rw[h1,h2];exact⟨.int .i64 oM,.int .i64 Cg,by kernel_rfl,by kernel_rfl,qo (d+1) oM Cg w⟩
  | 6,_=>
   obtain⟨h1,h2⟩:=ar2 (ar3 hm);obtain rfl:=ar3 hr;rw[h1,h2];exact⟨.int .i64 oL,.int .i64 Ce,by kernel_rfl,by kernel_rfl,qo (d+1) oL Ce w⟩
 rw[show d+3=(d+2)+1 from rfl,run_equalIn_agg w (d+2) 84 _ _ (by kernel_rfl) (by kernel_rfl),hq];congr 1;rw[arY];simp[and_assoc]
theorem UE(d:Nat)(x0 x1 y0 y1:Int)(w:World):(Op.equalIn (d+2) 70 (.agg #[.int .i64 x0,.int .u64 x1]) (.agg #[.int .i64 y0,.int .u64 y1])).run Tryz.prog w=.ok (decide (x0=y0∧x1=y1)) w:=by
 have hf:(Tryz.prog.fieldsOf 70).toList.map (fun f=>(f.type,f.offset))=[(3,0),(52,1)]:=by kernel_rfl
 have hq:(Op.eqFields (d+1) #[.int .i64 x0,.int .u64 x1] #[.int .i64 y0,.int .u64 y1] (Tryz.prog.fieldsOf 70).toList).run Tryz.prog w=.ok ([decide (x0=y0),decide (x1=y1)].all id) w:=by
  refine cE _ _ (by kernel_rfl) (by kernel_rfl) fun i f r hi hr=>?_
  have hm:=congrArg (fun z:List (Nat×Nat)=>z[i]?) hf;simp only[ar1,hi,Option.map_some] at hm;have hlt:i<2:=(arM.1 hr).1
  match i,hlt with
  | 0,_=>
   obtain⟨h1,h2⟩:=ar2 (ar3 hm);obtain rfl:=ar3 hr;rw[h1,h2];exact⟨.int .i64 x0,.int .i64 y0,by kernel_rfl,by kernel_rfl,qo d x0 y0 w⟩
  | 1,_=>
   obtain⟨h1,h2⟩:=ar2 (ar3 hm);obtain rfl:=ar3 hr;rw[h1,h2];exact⟨.int .u64 x1,.int .u64 y1,by kernel_rfl,by kernel_rfl,YA d x1 y1 w⟩
 rw[show d+2=(d+1)+1 from rfl,run_equalIn_agg w (d+1) 70 _ _ (by kernel_rfl) (by kernel_rfl),hq];congr 1;rw[arY];simp[]
theorem UD(d:Nat)(x0 x1 x2 x3 y0 y1 y2 y3:Int)(w:World):(Op.equalIn (d+3) 72 (.agg #[.int .i64 x0,.int .u64 x1,.int .i64 x2,.int .u64 x3]) (.agg #[.int .i64 y0,.int .u64 y1,.int .i64 y2,.int .u64 y3])).run Tryz.prog w=.ok (decide (x0=y0∧x1=y1∧x2=y2∧x3=y3)) w:=by
 have hf:(Tryz.prog.fieldsOf 72).toList.map (fun f=>(f.type,f.offset))=[(70,0),(70,2)]:=by kernel_rfl
 have hq:(Op.eqFields (d+2) #[.int .i64 x0,.int .u64 x1,.int .i64 x2,.int .u64 x3] #[.int .i64 y0,.int .u64 y1,.int .i64 y2,.int .u64 y3] (Tryz.prog.fieldsOf 72).toList).run Tryz.prog w=.ok ([decide (x0=y0∧x1=y1),decide (x2=y2∧x3=y3)].all id) w:=by
  refine cE _ _ (by kernel_rfl) (by kernel_rfl) fun i f r hi hr=>?_
  have hm:=congrArg (fun z:List (Nat×Nat)=>z[i]?) hf;simp only[ar1,hi,Option.map_some] at hm;have hlt:i<2:=(arM.1 hr).1
  match i,hlt with
  | 0,_=>
   obtain⟨h1,h2⟩:=ar2 (ar3 hm);obtain rfl:=ar3 hr;rw[h1,h2];exact⟨.agg #[.int .i64 x0,.int .u64 x1],.agg #[.int .i64 y0,.int .u64 y1],by kernel_rfl,by kernel_rfl,UE d x0 x1 y0 y1 w⟩
  | 1,_=>
   obtain⟨h1,h2⟩:=ar2 (ar3 hm);obtain rfl:=ar3 hr;rw[h1,h2];exact⟨.agg #[.int .i64 x2,.int .u64 x3],.agg #[.int .i64 y2,.int .u64 y3],by kernel_rfl,by kernel_rfl,UE d x2 x3 y2 y3 w⟩
 rw[show d+3=(d+2)+1 from rfl,run_equalIn_agg w (d+2) 72 _ _ (by kernel_rfl) (by kernel_rfl),hq];congr 1;rw[arY];simp[and_assoc]
theorem Yz(d:Nat)(x0 x1 x2 x3 x4 x5 x6 y0 y1 y2 y3 y4 y5 y6:Int)(w:World):(Op.equalIn (d+4) 74 (.agg #[.int .i64 x0,.int .i64 x1,.int .i64 x2,.int .i64 x3,.int .u64 x4,.int .i64 x5,.int .u64 x6]) (.agg #[.int .i64 y0,.int .i64 y1,.int .i64 y2,.int .i64 y3,.int .u64 y4,.int .i64 y5,.int .u64 y6])).run Tryz.prog w=.ok (decide (x0=y0∧x1=y1∧x2=y2∧x3=y3∧x4=y4∧x5=y5∧x6=y6)) w:=by
 have hf:(Tryz.prog.fieldsOf 74).toList.map (fun f=>(f.type,f.offset))=[(3,0),(3,1),(3,2),(72,3)]:=by kernel_rfl
 have hq:(Op.eqFields (d+3) #[.int .i64 x0,.int .i64 x1,.int .i64 x2,.int .i64 x3,.int .u64 x4,.int .i64 x5,.int .u64 x6] #[.int .i64 y0,.int .i64 y1,.int .i64 y2,.int .i64 y3,.int .u64 y4,.int .i64 y5,.int .u64 y6] (Tryz.prog.fieldsOf 74).toList).run Tryz.prog w=.ok ([decide (x0=y0),decide (x1=y1),decide (x2=y2),decide (x3=y3∧x4=y4∧x5=y5∧x6=y6)].all id) w:=by
  refine cE _ _ (by kernel_rfl) (by kernel_rfl) fun i f r hi hr=>?_
  have hm:=congrArg (fun z:List (Nat×Nat)=>z[i]?) hf;simp only[ar1,hi,Option.map_some] at hm;have hlt:i<4:=(arM.1 hr).1
  match i,hlt with
  | 0,_=>
   obtain⟨h1,h2⟩:=ar2 (ar3 hm);obtain rfl:=ar3 hr;rw[h1,h2];exact⟨.int .i64 x0,.int .i64 y0,by kernel_rfl,by kernel_rfl,qo (d+2) x0 y0 w⟩
  | 1,_=>
   obtain⟨h1,h2⟩:=ar2 (ar3 hm);obtain rfl:=ar3 hr;rw[h1,h2];exact⟨.int .i64 x1,.int .i64 y1,by kernel_rfl,by kernel_rfl,qo (d+2) x1 y1 w⟩
  | 2,_=>
   obtain⟨h1,h2⟩:=ar2 (ar3 hm);obtain rfl:=ar3 hr;rw[h1,h2];exact⟨.int .i64 x2,.int .i64 y2,by kernel_rfl,by kernel_rfl,qo (d+2) x2 y2 w⟩
  | 3,_=>
   obtain⟨h1,h2⟩:=ar2 (ar3 hm);obtain rfl:=ar3 hr;rw[h1,h2];exact⟨.agg #[.int .i64 x3,.int .u64 x4,.int .i64 x5,.int .u64 x6],.agg #[.int .i64 y3,.int .u64 y4,.int .i64 y5,.int .u64 y6],by kernel_rfl,by kernel_rfl,UD d x3 x4 x5 x6 y3 y4 y5 y6 w⟩
 rw[show d+4=(d+3)+1 from rfl,run_equalIn_agg w (d+3) 74 _ _ (by kernel_rfl) (by kernel_rfl),hq];congr 1;rw[arY];simp[]
theorem aaQ(d:Nat)(x1 x2 x3 x4 x5 x6 x7 y1 y2 y3 y4 y5 y6 y7:Int)(x0 y0:ByteArray)(w:World):(Op.equalIn (d+5) 125 (.agg #[.string x0,.int .i64 x1,.int .i64 x2,.int .i64 x3,.int .i64 x4,.int .u64 x5,.int .i64 x6,.int .u64 x7]) (.agg #[.string y0,.int .i64 y1,.int .i64 y2,.int .i64 y3,.int .i64 y4,.int .u64 y5,.int .i64 y6,.int .u64 y7])).run Tryz.prog w=.ok (decide (x0=y0∧x1=y1∧x2=y2∧x3=y3∧x4=y4∧x5=y5∧x6=y6∧x7=y7)) w:=by
 have hf:(Tryz.prog.fieldsOf 125).toList.map (fun f=>(f.type,f.offset))=[(9,0),(74,1)]:=by kernel_rfl
 have hq:(Op.eqFields (d+4) #[.string x0,.int .i64 x1,.int .i64 x2,.int .i64 x3,.int .i64 x4,.int .u64 x5,.int .i64 x6,.int .u64 x7] #[.string y0,.int .i64 y1,.int .i64 y2,.int .i64 y3,.int .i64 y4,.int .u64 y5,.int .i64 y6,.int .u64 y7] (Tryz.prog.fieldsOf 125).toList).run Tryz.prog w=.ok ([decide (x0=y0),decide (x1=y1∧x2=y2∧x3=y3∧x4=y4∧x5=y5∧x6=y6∧x7=y7)].all id) w:=by
  refine cE _ _ (by kernel_rfl) (by kernel_rfl) fun i f r hi hr=>?_
  have hm:=congrArg (fun z:List (Nat×Nat)=>z[i]?) hf;simp only[ar1,hi,Option.map_some] at hm;have hlt:i<2:=(arM.1 hr).1
  match i,hlt with
  | 0,_=>
   obtain⟨h1,h2⟩:=ar2 (ar3 hm);obtain rfl:=ar3 hr;rw[h1,h2];exact⟨.string x0,.string y0,by kernel_rfl,by kernel_rfl,Iy (d+3) x0 y0 w⟩
  | 1,_=>
   obtain⟨h1,h2⟩:=ar2 (ar3 hm);obtain rfl:=ar3 hr;rw[h1,h2];exact⟨.agg #[.int .i64 x1,.int .i64 x2,.int .i64 x3,.int .i64 x4,.int .u64 x5,.int .i64 x6,.int .u64 x7],.agg #[.int .i64 y1,.int .i64 y2,.int .i64 y3,.int .i64 y4,.int .u64 y5,.int .i64 y6,.int .u64 y7],by kernel_rfl,by kernel_rfl,Yz d x1 x2 x3 x4 x5 x6 x7 y1 y2 y3 y4 y5 y6 y7 w⟩
 rw[show d+5=(d+4)+1 from rfl,run_equalIn_agg w (d+4) 125 _ _ (by kernel_rfl) (by kernel_rfl),hq];congr 1;rw[arY];simp[]
theorem aaP(d:Nat)(x1 x2 x3 x4 x5 x6 x7 x8 y1 y2 y3 y4 y5 y6 y7 y8:Int)(x0 y0:ByteArray)(w:World):(Op.equalIn (d+5) 127 (.agg #[.string x0,.int .i64 x1,.int .i64 x2,.int .i64 x3,.int .i64 x4,.int .i64 x5,.int .u64 x6,.int .i64 x7,.int .u64 x8]) (.agg #[.string y0,.int .i64 y1,.int .i64 y2,.int .i64 y3,.int .i64 y4,.int .i64 y5,.int .u64 y6,.int .i64 y7,.int .u64 y8])).run Tryz.prog w=.ok (decide (x0=y0∧x1=y1∧x2=y2∧x3=y3∧x4=y4∧x5=y5∧x6=y6∧x7=y7∧x8=y8)) w:=by
 have hf:(Tryz.prog.fieldsOf 127).toList.map (fun f=>(f.type,f.offset))=[(9,0),(3,1),(74,2)]:=by kernel_rfl
 have hq:(Op.eqFields (d+4) #[.string x0,.int .i64 x1,.int .i64 x2,.int .i64 x3,.int .i64 x4,.int .i64 x5,.int .u64 x6,.int .i64 x7,.int .u64 x8] #[.string y0,.int .i64 y1,.int .i64 y2,.int .i64 y3,.int .i64 y4,.int .i64 y5,.int .u64 y6,.int .i64 y7,.int .u64 y8] (Tryz.prog.fieldsOf 127).toList).run Tryz.prog w=.ok ([decide (x0=y0),decide (x1=y1),decide (x2=y2∧x3=y3∧x4=y4∧x5=y5∧x6=y6∧x7=y7∧x8=y8)].all id) w:=by
  refine cE _ _ (by kernel_rfl) (by kernel_rfl) fun i f r hi hr=>?_
  have hm:=congrArg (fun z:List (Nat×Nat)=>z[i]?) hf;simp only[ar1,hi,Option.map_some] at hm;have hlt:i<3:=(arM.1 hr).1
  match i,hlt with
  | 0,_=>
   obtain⟨h1,h2⟩:=ar2 (ar3 hm);obtain rfl:=ar3 hr;rw[h1,h2];exact⟨.string x0,.string y0,by kernel_rfl,by kernel_rfl,Iy (d+3) x0 y0 w⟩
  | 1,_=>
   obtain⟨h1,h2⟩:=ar2 (ar3 hm);obtain rfl:=ar3 hr;rw[h1,h2];exact⟨.int .i64 x1,.int .i64 y1,by kernel_rfl,by kernel_rfl,qo (d+3) x1 y1 w⟩
  | 2,_=>
   obtain⟨h1,h2⟩:=ar2 (ar3 hm);obtain rfl:=ar3 hr;rw[h1,h2];exact⟨.agg #[.int .i64 x2,.int .i64 x3,.int .i64 x4,.int .i64 x5,.int .u64 x6,.int .i64 x7,.int .u64 x8],.agg #[.int .i64 y2,.int .i64 y3,.int .i64 y4,.int .i64 y5,.int .u64 y6,.int .i64 y7,.int .u64 y8],by kernel_rfl,by kernel_rfl,Yz d x2 x3 x4 x5 x6 x7 x8 y2 y3 y4 y5 y6 y7 y8 w⟩
 rw[show d+5=(d+4)+1 from rfl,run_equalIn_agg w (d+4) 127 _ _ (by kernel_rfl) (by kernel_rfl),hq];congr 1;rw[arY];simp[]
theorem aaO(d:Nat)(x1 x2 x3 x4 x5 x6 x7 x8 x9 y1 y2 y3 y4 y5 y6 y7 y8 y9:Int)(x0 y0:ByteArray)(w:World):(Op.equalIn (d+3) 129 (.agg #[.string x0,.int .i64 x1,.int .u64 x2,.int .u64 x3,.int .u64 x4,.int .u64 x5,.int .u64 x6,.int .u64 x7,.int .u64 x8,.int .u64 x9]) (.agg #[.string y0,.int .i64 y1,.int .u64 y2,.int .u64 y3,.int .u64 y4,.int .u64 y5,.int .u64 y6,.int .u64 y7,.int .u64 y8,.int .u64 y9])).run Tryz.prog w=.ok (decide (x0=y0∧x1=y1∧x2=y2∧x3=y3∧x4=y4∧x5=y5∧x6=y6∧x7=y7∧x8=y8∧x9=y9)) w:=by
 have hf:(Tryz.prog.fieldsOf 129).toList.map (fun f=>(f.type,f.offset))=[(9,0),(3,1),(54,2),(54,6)]:=by kernel_rfl
 have hq:(Op.eqFields (d+2) #[.string x0,.int .i64 x1,.int .u64 x2,.int .u64 x3,.int .u64 x4,.int .u64 x5,.int .u64 x6,.int .u64 x7,.int .u64 x8,.int .u64 x9] #[.string y0,.int .i64 y1,.int .u64 y2,.int .u64 y3,.int .u64 y4,.int .u64 y5,.int .u64 y6,.int .u64 y7,.int .u64 y8,.int .u64 y9] (Tryz.prog.fieldsOf 129).toList).run Tryz.prog w=.ok ([decide (x0=y0),decide (x1=y1),decide (x2=y2∧x3=y3∧x4=y4∧x5=y5),decide (x6=y6∧x7=y7∧x8=y8∧x9=y9)].all id) w:=by
  refine cE _ _ (by kernel_rfl) (by kernel_rfl) fun i f r hi hr=>?_
  have hm:=congrArg (fun z:List (Nat×Nat)=>z[i]?) hf;simp only[ar1,hi,Option.map_some] at hm;have hlt:i<4:=(arM.1 hr).1
  match i,hlt with
  | 0,_=>
   obtain⟨h1,h2⟩:=ar2 (ar3 hm);obtain rfl:=ar3 hr;rw[h1,h2];exact⟨.string x0,.string y0,by kernel_rfl,by kernel_rfl,Iy (d+1) x0 y0 w⟩
  | 1,_=>
   obtain⟨h1,h2⟩:=ar2 (ar3 hm);obtain rfl:=ar3 hr;rw[h1,h2];exact⟨.int .i64 x1,.int .i64 y1,by kernel_rfl,by kernel_rfl,qo (d+1) x1 y1 w⟩
  | 2,_=>
   obtain⟨h1,h2⟩:=ar2 (ar3 hm);obtain rfl:=ar3 hr;rw[h1,h2];exact⟨.agg #[.int .u64 x2,.int .u64 x3,.int .u64 x4,.int .u64 x5],.agg #[.int .u64 y2,.int .u64 y3,.int .u64 y4,.int .u64 y5],by kernel_rfl,by kernel_rfl,kZ d x2 x3 x4 x5 y2 y3 y4 y5 w⟩
  | 3,_=>
   obtain⟨h1,h2⟩:=ar2 (ar3 hm);obtain rfl:=ar3 hr;rw[h1,h2];exact⟨.agg #[.int .u64 x6,.int .u64 x7,.int .u64 x8,.int .u64 x9],.agg #[.int .u64 y6,.int .u64 y7,.int .u64 y8,.int .u64 y9],by kernel_rfl,by kernel_rfl,kZ d x6 x7 x8 x9 y6 y7 y8 y9 w⟩
 rw[show d+3=(d+2)+1 from rfl,run_equalIn_agg w (d+2) 129 _ _ (by kernel_rfl) (by kernel_rfl),hq];congr 1;rw[arY];simp[and_assoc]
theorem aaN(d:Nat)(x1 x2 x3 x4 y1 y2 y3 y4:Int)(x0 y0:ByteArray)(w:World):(Op.equalIn (d+3) 184 (.agg #[.string x0,.int .u64 x1,.int .u64 x2,.int .u64 x3,.int .u64 x4]) (.agg #[.string y0,.int .u64 y1,.int .u64 y2,.int .u64 y3,.int .u64 y4])).run Tryz.prog w=.ok (decide (x0=y0∧x1=y1∧x2=y2∧x3=y3∧x4=y4)) w:=by
 have hf:(Tryz.prog.fieldsOf 184).toList.map (fun f=>(f.type,f.offset))=[(9,0),(54,1)]:=by kernel_rfl
 have hq:(Op.eqFields (d+2) #[.string x0,.int .u64 x1,.int .u64 x2,.int .u64 x3,.int .u64 x4] #[.string y0,.int .u64 y1,.int .u64 y2,.int .u64 y3,.int .u64 y4] (Tryz.prog.fieldsOf 184).toList).run Tryz.prog w=.ok ([decide (x0=y0),decide (x1=y1∧x2=y2∧x3=y3∧x4=y4)].all id) w:=by
  refine cE _ _ (by kernel_rfl) (by kernel_rfl) fun i f r hi hr=>?_
  have hm:=congrArg (fun z:List (Nat×Nat)=>z[i]?) hf;simp only[ar1,hi,Option.map_some] at hm;have hlt:i<2:=(arM.1 hr).1
  match i,hlt with
  | 0,_=>
   obtain⟨h1,h2⟩:=ar2 (ar3 hm);obtain rfl:=ar3 hr;rw[h1,h2];exact⟨.string x0,.string y0,by kernel_rfl,by kernel_rfl,Iy (d+1) x0 y0 w⟩
  | 1,_=>
   obtain⟨h1,h2⟩:=ar2 (ar3 hm);obtain rfl:=ar3 hr;rw[h1,h2];exact⟨.agg #[.int .u64 x1,.int .u64 x2,.int .u64 x3,.int .u64 x4],.agg #[.int .u64 y1,.int .u64 y2,.int .u64 y3,.int .u64 y4],by kernel_rfl,by kernel_rfl,kZ d x1 x2 x3 x4 y1 y2 y3 y4 w⟩
 rw[show d+3=(d+2)+1 from rfl,run_equalIn_agg w (d+2) 184 _ _ (by kernel_rfl) (by kernel_rfl),hq];congr 1;rw[arY];simp[]
theorem UF(d:Nat)(x1 x2 x3 x4 x5 x6 x7 x8 y1 y2 y3 y4 y5 y6 y7 y8:Int)(x0 y0:ByteArray)(w:World):(Op.equalIn (d+3) 188 (.agg #[.string x0,.int .u64 x1,.int .u64 x2,.int .u64 x3,.int .u64 x4,.int .u64 x5,.int .u64 x6,.int .u64 x7,.int .u64 x8]) (.agg #[.string y0,.int .u64 y1,.int .u64 y2,.int .u64 y3,.int .u64 y4,.int .u64 y5,.int .u64 y6,.int .u64 y7,.int .u64 y8])).run Tryz.prog w=.ok (decide (x0=y0∧x1=y1∧x2=y2∧x3=y3∧x4=y4∧x5=y5∧x6=y6∧x7=y7∧x8=y8)) w:=by
 have hf:(Tryz.prog.fieldsOf 188).toList.map (fun f=>(f.type,f.offset))=[(9,0),(54,1),(54,5)]:=by kernel_rfl
 have hq:(Op.eqFields (d+2) #[.string x0,.int .u64 x1,.int .u64 x2,.int .u64 x3,.int .u64 x4,.int .u64 x5,.int .u64 x6,.int .u64 x7,.int .u64 x8] #[.string y0,.int .u64 y1,.int .u64 y2,.int .u64 y3,.int .u64 y4,.int .u64 y5,.int .u64 y6,.int .u64 y7,.int .u64 y8] (Tryz.prog.fieldsOf 188).toList).run Tryz.prog w=.ok ([decide (x0=y0),decide (x1=y1∧x2=y2∧x3=y3∧x4=y4),decide (x5=y5∧x6=y6∧x7=y7∧x8=y8)].all id) w:=by
  refine cE _ _ (by kernel_rfl) (by kernel_rfl) fun i f r hi hr=>?_
  have hm:=congrArg (fun z:List (Nat×Nat)=>z[i]?) hf;simp only[ar1,hi,Option.map_some] at hm;have hlt:i<3:=(arM.1 hr).1
  match i,hlt with
  | 0,_=>
   obtain⟨h1,h2⟩:=ar2 (ar3 hm);obtain rfl:=ar3 hr;rw[h1,h2];exact⟨.string x0,.string y0,by kernel_rfl,by kernel_rfl,Iy (d+1) x0 y0 w⟩
  | 1,_=>
   obtain⟨h1,h2⟩:=ar2 (ar3 hm);obtain rfl:=ar3 hr;rw[h1,h2];exact⟨.agg #[.int .u64 x1,.int .u64 x2,.int .u64 x3,.int .u64 x4],.agg #[.int .u64 y1,.int .u64 y2,.int .u64 y3,.int .u64 y4],by kernel_rfl,by kernel_rfl,kZ d x1 x2 x3 x4 y1 y2 y3 y4 w⟩
  | 2,_=>
   obtain⟨h1,h2⟩:=ar2 (ar3 hm);obtain rfl:=ar3 hr;rw[h1,h2];exact⟨.agg #[.int .u64 x5,.int .u64 x6,.int .u64 x7,.int .u64 x8],.agg #[.int .u64 y5,.int .u64 y6,.int .u64 y7,.int .u64 y8],by kernel_rfl,by kernel_rfl,kZ d x5 x6 x7 x8 y5 y6 y7 y8 w⟩
 rw[show d+3=(d+2)+1 from rfl,run_equalIn_agg w (d+2) 188 _ _ (by kernel_rfl) (by kernel_rfl),hq];congr 1;rw[arY];simp[and_assoc]
theorem aaM(d:Nat)(x1 x2 x3 x4 x5 x6 x7 x8 x9 x10 y1 y2 y3 y4 y5 y6 y7 y8 y9 uT:Int)(x0 y0:ByteArray)(w:World):(Op.equalIn (d+4) 192 (.agg #[.string x0,.int .u64 x1,.int .u64 x2,.int .u64 x3,.int .u64 x4,.int .i64 x5,.int .u64 x6,.int .i64 x7,.int .u64 x8,.int .i64 x9,.int .u64 x10]) (.agg #[.string y0,.int .u64 y1,.int .u64 y2,.int .u64 y3,.int .u64 y4,.int .i64 y5,.int .u64 y6,.int .i64 y7,.int .u64 y8,.int .i64 y9,.int .u64 uT])).run Tryz.prog w=.ok (decide (x0=y0∧x1=y1∧x2=y2∧x3=y3∧x4=y4∧x5=y5∧x6=y6∧x7=y7∧x8=y8∧x9=y9∧x10=uT)) w:=by
 have hf:(Tryz.prog.fieldsOf 192).toList.map (fun f=>(f.type,f.offset))=[(9,0),(54,1),(70,5),(72,7)]:=by kernel_rfl
 have hq:(Op.eqFields (d+3) #[.string x0,.int .u64 x1,.int .u64 x2,.int .u64 x3,.int .u64 x4,.int .i64 x5,.int .u64 x6,.int .i64 x7,.int .u64 x8,.int .i64 x9,.int .u64 x10] #[.string y0,.int .u64 y1,.int .u64 y2,.int .u64 y3,.int .u64 y4,.int .i64 y5,.int .u64 y6,.int .i64 y7,.int .u64 y8,.int .i64 y9,.int .u64 uT] (Tryz.prog.fieldsOf 192).toList).run Tryz.prog w=.ok ([decide (x0=y0),decide (x1=y1∧x2=y2∧x3=y3∧x4=y4),decide (x5=y5∧x6=y6),decide (x7=y7∧x8=y8∧x9=y9∧x10=uT)].all id) w:=by
  refine cE _ _ (by kernel_rfl) (by kernel_rfl) fun i f r hi hr=>?_
  have hm:=congrArg (fun z:List (Nat×Nat)=>z[i]?) hf;simp only[ar1,hi,Option.map_some] at hm;have hlt:i<4:=(arM.1 hr).1
  match i,hlt with
  | 0,_=>
   obtain⟨h1,h2⟩:=ar2 (ar3 hm);obtain rfl:=ar3 hr;rw[h1,h2];exact⟨.string x0,.string y0,by kernel_rfl,by kernel_rfl,Iy (d+2) x0 y0 w⟩
  | 1,_=>
   obtain⟨h1,h2⟩:=ar2 (ar3 hm);obtain rfl:=ar3 hr;rw[h1,h2];exact⟨.agg #[.int .u64 x1,.int .u64 x2,.int .u64 x3,.int .u64 x4],.agg #[.int .u64 y1,.int .u64 y2,.int .u64 y3,.int .u64 y4],by kernel_rfl,by kernel_rfl,kZ (d+1) x1 x2 x3 x4 y1 y2 y3 y4 w⟩
  | 2,_=>
   obtain⟨h1,h2⟩:=ar2 (ar3 hm);obtain rfl:=ar3 hr;rw[h1,h2];exact⟨.agg #[.int .i64 x5,.int .u64 x6],.agg #[.int .i64 y5,.int .u64 y6],by kernel_rfl,by kernel_rfl,UE (d+1) x5 x6 y5 y6 w⟩
  | 3,_=>
   obtain⟨h1,h2⟩:=ar2 (ar3 hm);obtain rfl:=ar3 hr;rw[h1,h2];exact⟨.agg #[.int .i64 x7,.int .u64 x8,.int .i64 x9,.int .u64 x10],.agg #[.int .i64 y7,.int .u64 y8,.int .i64 y9,.int .u64 uT],by kernel_rfl,by kernel_rfl,UD d x7 x8 x9 x10 y7 y8 y9 uT w⟩
 rw[show d+4=(d+3)+1 from rfl,run_equalIn_agg w (d+3) 192 _ _ (by kernel_rfl) (by kernel_rfl),hq];congr 1;rw[arY];simp[and_assoc]
theorem aaL(d:Nat)(x1 y1:Bool)(x0 y0:ByteArray)(w:World):(Op.equalIn (d+2) 197 (.agg #[.string x0,.bool x1]) (.agg #[.string y0,.bool y1])).run Tryz.prog w=.ok (decide (x0=y0∧x1=y1)) w:=by
 have hf:(Tryz.prog.fieldsOf 197).toList.map (fun f=>(f.type,f.offset))=[(9,0),(4,1)]:=by kernel_rfl
 have hq:(Op.eqFields (d+1) #[.string x0,.bool x1] #[.string y0,.bool y1] (Tryz.prog.fieldsOf 197).toList).run Tryz.prog w=.ok ([decide (x0=y0),decide (x1=y1)].all id) w:=by
  refine cE _ _ (by kernel_rfl) (by kernel_rfl) fun i f r hi hr=>?_
  have hm:=congrArg (fun z:List (Nat×Nat)=>z[i]?) hf;simp only[ar1,hi,Option.map_some] at hm;have hlt:i<2:=(arM.1 hr).1
  match i,hlt with
  | 0,_=>
   obtain⟨h1,h2⟩:=ar2 (ar3 hm);obtain rfl:=ar3 hr;rw[h1,h2];exact⟨.string x0,.string y0,by kernel_rfl,by kernel_rfl,Iy d x0 y0 w⟩
  | 1,_=>
   obtain⟨h1,h2⟩:=ar2 (ar3 hm);obtain rfl:=ar3 hr;rw[h1,h2];exact⟨.bool x1,.bool y1,by kernel_rfl,by kernel_rfl,aaI d x1 y1 w⟩
 rw[show d+2=(d+1)+1 from rfl,run_equalIn_agg w (d+1) 197 _ _ (by kernel_rfl) (by kernel_rfl),hq];congr 1;rw[arY];simp[]
theorem aaK(d:Nat)(x0 x1 x2 x3 x4 x5 x6 x7 x8 x9 y0 y1 y2 y3 y4 y5 y6 y7 y8 y9:Int)(w:World):(Op.equalIn (d+3) 203 (.agg #[.int .u64 x0,.int .u64 x1,.int .u64 x2,.int .u64 x3,.int .u64 x4,.int .u64 x5,.int .u64 x6,.int .u64 x7,.int .i64 x8,.int .i64 x9]) (.agg #[.int .u64 y0,.int .u64 y1,.int .u64 y2,.int .u64 y3,.int .u64 y4,.int .u64 y5,.int .u64 y6,.int .u64 y7,.int .i64 y8,.int .i64 y9])).run Tryz.prog w=.ok (decide (x0=y0∧x1=y1∧x2=y2∧x3=y3∧x4=y4∧x5=y5∧x6=y6∧x7=y7∧x8=y8∧x9=y9)) w:=by
 have hf:(Tryz.prog.fieldsOf 203).toList.map (fun f=>(f.type,f.offset))=[(54,0),(54,4),(3,8),(3,9)]:=by kernel_rfl
 have hq:(Op.eqFields (d+2) #[.int .u64 x0,.int .u64 x1,.int .u64 x2,.int .u64 x3,.int .u64 x4,.int .u64 x5,.int .u64 x6,.int .u64 x7,.int .i64 x8,.int .i64 x9] #[.int .u64 y0,.int .u64 y1,.int .u64 y2,.int .u64 y3,.int .u64 y4,.int .u64 y5,.int .u64 y6,.int .u64 y7,.int .i64 y8,.int .i64 y9] (Tryz.prog.fieldsOf 203).toList).run Tryz.prog w=.ok ([decide (x0=y0∧x1=y1∧x2=y2∧x3=y3),decide (x4=y4∧x5=y5∧x6=y6∧x7=y7),decide (x8=y8),decide (x9=y9)].all id) w:=by
  refine cE _ _ (by kernel_rfl) (by kernel_rfl) fun i f r hi hr=>?_
  have hm:=congrArg (fun z:List (Nat×Nat)=>z[i]?) hf;simp only[ar1,hi,Option.map_some] at hm;have hlt:i<4:=(arM.1 hr).1
  match i,hlt with
  | 0,_=>
   obtain⟨h1,h2⟩:=ar2 (ar3 hm);obtain rfl:=ar3 hr;rw[h1,h2];exact⟨.agg #[.int .u64 x0,.int .u64 x1,.int .u64 x2,.int .u64 x3],.agg #[.int .u64 y0,.int .u64 y1,.int .u64 y2,.int .u64 y3],by kernel_rfl,by kernel_rfl,kZ d x0 x1 x2 x3 y0 y1 y2 y3 w⟩
  | 1,_=>
   obtain⟨h1,h2⟩:=ar2 (ar3 hm);obtain rfl:=ar3 hr;rw[h1,h2];exact⟨.agg #[.int .u64 x4,.int .u64 x5,.int .u64 x6,.int .u64 x7],.agg #[.int .u64 y4,.int .u64 y5,.int .u64 y6,.int .u64 y7],by kernel_rfl,by kernel_rfl,kZ d x4 x5 x6 x7 y4 y5 y6 y7 w⟩
  | 2,_=>
   obtain⟨h1,h2⟩:=ar2 (ar3 hm);obtain rfl:=ar3 hr;rw[h1,h2];exact⟨.int .i64 x8,.int .i64 y8,by kernel_rfl,by kernel_rfl,qo (d+1) x8 y8 w⟩
  | 3,_=>
   obtain⟨h1,h2⟩:=ar2 (ar3 hm);obtain rfl:=ar3 hr;rw[h1,h2];exact⟨.int .i64 x9,.int .i64 y9,by kernel_rfl,by kernel_rfl,qo (d+1) x9 y9 w⟩
 rw[show d+3=(d+2)+1 from rfl,run_equalIn_agg w (d+2) 203 _ _ (by kernel_rfl) (by kernel_rfl),hq];congr 1;rw[arY];simp[and_assoc]
theorem aaJ(d:Nat)(x0 x1 x2 x3 x4 x5 x6 x7 x8 x9 x10 oM oL y0 y1 y2 y3 y4 y5 y6 y7 y8 y9 uT Cg Ce:Int)(w:World):(Op.equalIn (d+4) 205 (.agg #[.int .u64 x0,.int .u64 x1,.int .u64 x2,.int .u64 x3,.int .u64 x4,.int .u64 x5,.int .u64 x6,.int .u64 x7,.int .i64 x8,.int .i64 x9,.int .u64 x10,.int .i64 oM,.int .u64 oL]) (.agg #[.int .u64 y0,.int .u64 y1,.int .u64 y2,.int .u64 y3,.int .u64 y4,.int .u64 y5,.int .u64 y6,.int .u64 y7,.int .i64 y8,.int .i64 y9,.int .u64 uT,.int .i64 Cg,.int .u64 Ce])).run Tryz.prog w=.ok (decide (x0=y0∧x1=y1∧x2=y2∧x3=y3∧x4=y4∧x5=y5∧x6=y6∧x7=y7∧x8=y8∧x9=y9∧x10=uT∧oM=Cg∧oL=Ce)) w:=by
 have hf:(Tryz.prog.fieldsOf 205).toList.map (fun f=>(f.type,f.offset))=[(54,0),(54,4),(3,8),(72,9)]:=by kernel_rfl
 have hq:(Op.eqFields (d+3) #[.int .u64 x0,.int .u64 x1,.int .u64 x2,.int .u64 x3,.int .u64 x4,.int .u64 x5,.int .u64 x6,.int .u64 x7,.int .i64 x8,.int .i64 x9,.int .u64 x10,.int .i64 oM,.int .u64 oL] #[.int .u64 y0,.int .u64 y1,.int .u64 y2,.int .u64 y3,.int .u64 y4,.int .u64 y5,.int .u64 y6,.int .u64 y7,.int .i64 y8,.int .i64 y9,.int .u64 uT,.int .i64 Cg,.int .u64 Ce] (Tryz.prog.fieldsOf 205).toList).run Tryz.prog w=.ok ([decide (x0=y0∧x1=y1∧x2=y2∧x3=y3),decide (x4=y4∧x5=y5∧x6=y6∧x7=y7),decide (x8=y8),decide (x9=y9∧x10=uT∧oM=Cg∧oL=Ce)].all id) w:=by
  refine cE _ _ (by kernel_rfl) (by kernel_rfl) fun i f r hi hr=>?_
  have hm:=congrArg (fun z:List (Nat×Nat)=>z[i]?) hf;simp only[ar1,hi,Option.map_some] at hm;have hlt:i<4:=(arM.1 hr).1
  match i,hlt with
  | 0,_=>
   obtain⟨h1,h2⟩:=ar2 (ar3 hm);obtain rfl:=ar3 hr;rw[h1,h2];exact⟨.agg #[.int .u64 x0,.int .u64 x1,.int .u64 x2,.int .u64 x3],.agg #[.int .u64 y0,.int .u64 y1,.int .u64 y2,.int .u64 y3],by kernel_rfl,by kernel_rfl,kZ (d+1) x0 x1 x2 x3 y0 y1 y2 y3 w⟩
  | 1,_=>
   obtain⟨h1,h2⟩:=ar2 (ar3 hm);obtain rfl:=ar3 hr;rw[h1,h2];exact⟨.agg #[.int .u64 x4,.int .u64 x5,.int .u64 x6,.int .u64 x7],.agg #[.int .u64 y4,.int .u64 y5,.int .u64 y6,.int .u64 y7],by kernel_rfl,by kernel_rfl,kZ (d+1) x4 x5 x6 x7 y4 y5 y6 y7 w⟩
  | 2,_=>
   obtain⟨h1,h2⟩:=ar2 (ar3 hm);obtain rfl:=ar3 hr;rw[h1,h2];exact⟨.int .i64 x8,.int .i64 y8,by kernel_rfl,by kernel_rfl,qo (d+2) x8 y8 w⟩
  | 3,_=>
   obtain⟨h1,h2⟩:=ar2 (ar3 hm);obtain rfl:=ar3 hr;rw[h1,h2];exact⟨.agg #[.int .i64 x9,.int .u64 x10,.int .i64 oM,.int .u64 oL],.agg #[.int .i64 y9,.int .u64 uT,.int .i64 Cg,.int .u64 Ce],by kernel_rfl,by kernel_rfl,UD d x9 x10 oM oL y9 uT Cg Ce w⟩
 rw[show d+4=(d+3)+1 from rfl,run_equalIn_agg w (d+3) 205 _ _ (by kernel_rfl) (by kernel_rfl),hq];congr 1;rw[arY];simp[and_assoc]
end Go.Proofs.YtdcofoaihmongaaGreat
namespace Go.Proofs.YtdcofoaihmongaaGreat
open Go Go.RowKit
theorem Zo:(Tryz.prog.info? 89).map (·.size)=some 10:=by kernel_rfl
theorem BR(n:Nat):(ay.all n).Ok:=FX _
def cN(s:ay):Bool:=!(decide (s=ay.zero))
theorem xP(x y:ay)(w:World):(Op.equalIn 10000 54 (.agg #[.int .u64 x.a,.int .u64 x.b,.int .u64 x.c,.int .u64 x.d]) (.agg #[.int .u64 y.a,.int .u64 y.b,.int .u64 y.c,.int .u64 y.d])).run Tryz.prog w=.ok (decide (x=y)) w:=by
 rw[show(10000:Nat)=9998+2 from rfl,kZ];congr 1;rw[arY];obtain⟨x_a,x_b,x_c,x_d⟩:=x;obtain⟨y_a,y_b,y_c,y_d⟩:=y;simp only[decide_eq_true_eq,ay.mk.injEq,Int.natCast_inj]
theorem fK(w:World)(s:ay)(hs:s.Ok)(n:Nat)(hn:n≤140737488355328):Calls Tryz.prog 103 #[.agg #[.int .u64 s.a,.int .u64 s.b,.int .u64 s.c,.int .u64 s.d],.int .i64 (n:Int)] w fun e w'=>e=.returned (.tuple #[.bool (cN s),.bool (s.within (ay.all n))])∧arQ w.heap.size w w':=by
 exact bX [] (fn:=Tryz.f103) Tryz.func103 rfl Tryz.ntmps103 rfl<|fun g1 w1 M1=>dr (by kernel_rfl)<|lb 0<|an rfl<|ei (x:=.agg #[.int .u64 0,.int .u64 0,.int .u64 0,.int .u64 0])<|an (bd (by kernel_rfl))<|ei (x:=decide (s=ay.zero))<|an ⟨yF,fun w=>xP s ay.zero w⟩<|lb 0<|an rfl<|cl<|an (fun w' hb' M'=>Aj w' n hn)<|cl<|an (fun w' hb' M'=>pG w' s _ hs (BR n))<|fun w hb M=>fun M=>⟨rfl,M.below⟩
def vE(n:Nat)(s:ay):Bool:=s.within (ay.all n).unit
theorem iW(w:World)(c0 c1 c2 c3 c4 c5 c6 c7 c8 c9 aS aN aM aR aQ aP aO:Value)(p:aA)(hp:aJ w c0 c1 c2 c3 c4 c5 c6 c7 c8 c9 aS aN aM aR aQ aP aO p)(hok:p.Ok)(s:ay)(hs:s.Ok):Calls Tryz.prog 106 #[.agg #[c0,c1,c2,c3,c4,c5,c6,c7,c8,c9,aS,aN,aM,aR,aQ,aP,aO],.agg #[.int .u64 s.a,.int .u64 s.b,.int .u64 s.c,.int .u64 s.d]] w fun e w'=>e=.returned (.bool (vE p.roles.length s))∧arQ w.heap.size w w':=by
 obtain⟨_,_,_,_,_,_,_,_,_,_,_,_,_,_,_,_,_,_,_,_,_,_,_,_,_,_,_,_,_,_,_,_,_,_,rfl,rfl,rfl,rfl,rfl,rfl,rfl,rfl,rfl,rfl,rfl,rfl,rfl,rfl,rfl,rfl,rfl⟩:=hp.open;have hn3:p.roles.length≤140737488355328:=hok.Sn;exact bX [] (fn:=Tryz.f106) Tryz.func106 rfl Tryz.ntmps106 rfl<|fun g1 w1 M1=>fun g2 w2 M2=>dr (by kernel_rfl)<|lb 0<|an rfl<|lb 1<|an rfl<|cl<|an (fun w' hb' M'=>Aj w' _ hn3)<|cl<|an (fun w' hb' M'=>Cm w' (ay.all p.roles.length) (BR _))<|cl<|an (fun w' hb' M'=>pG w' s _ hs (ay.VQ (BR _)))<|fun w hb M=>fun M=>⟨rfl,M.below⟩
def vT(nS nC:Nat)(l:lM):Bool:=aX l.aC (nS:Int)&&(decide ((64:Int)≤(nC:Int))||decide ((l.cats:Int)/2^nC=0))
theorem vS(w:World)(c0 c1 c2 c3 c4 c5 c6 c7 c8 c9 aS aN aM aR aQ aP aO:Value)(p:aA)(hp:aJ w c0 c1 c2 c3 c4 c5 c6 c7 c8 c9 aS aN aM aR aQ aP aO p)(l:lM)(hl:l.Ok):Calls Tryz.prog 108 #[.agg #[c0,c1,c2,c3,c4,c5,c6,c7,c8,c9,aS,aN,aM,aR,aQ,aP,aO],.agg #[.int .i64 l.aC,.int .u64 l.cats]] w fun e w'=>e=.returned (.bool (vT p.aC.length p.cats.length l))∧arQ w.heap.size w w':=by
 obtain⟨a6,k6,rfl,hk6,hm6⟩:=aJ.f6 hp;obtain⟨n6,Yg⟩:∃ n,n=p.aC.length:=⟨_,rfl⟩;have N6:=arX Yg;rw[← Yg] at hk6 hm6 ⊢;clear Yg;obtain⟨a7,k7,rfl,hk7,hm7⟩:=aJ.f7 hp;obtain⟨n7,hn7⟩:∃ n,n=p.cats.length:=⟨_,rfl⟩;have N7:=arX hn7;rw[← hn7] at hk7 hm7 ⊢;clear hn7;have hcl:l.cats<18446744073709551616:=hl.cats;clear hp hl;obtain⟨wo,i_⟩:∃ wo,wo=((w).alloc (.cells #[c0,c1,c2,c3,c4,c5,.slice a6 n6 k6,.slice a7 n7 k7,c8,c9,aS,aN,aM,aR,aQ,aP,aO] 39)).alloc (.cells #[.int .i64 l.aC,.int .u64 l.cats] 70):=⟨_,rfl⟩;have W0:=arX (show Whole wo w.heap.size 39 #[c0,c1,c2,c3,c4,c5,.slice a6 n6 k6,.slice a7 n7 k7,c8,c9,aS,aN,aM,aR,aQ,aP,aO] by rw[i_];exact((show Whole _ w.heap.size 39 #[c0,c1,c2,c3,c4,c5,.slice a6 n6 k6,.slice a7 n7 k7,c8,c9,aS,aN,aM,aR,aQ,aP,aO] from Whole.new w 39 _).alloc _));have W1:=arX (show Whole wo (w.heap.size+1) 70 #[.int .i64 l.aC,.int .u64 l.cats] by rw[i_];exact(vf w _ _ _));have yc:=arX (show arQ w.heap.size w wo by rw[i_];exact(((Below.refl _ w).alloc (Nat.le_refl _) _).alloc (by simp) _));have ka6:wo.cell? ⟨w.heap.size,6,none⟩=some (.slice a6 n6 k6):=W0.out.cell 6;have ka7:wo.cell? ⟨w.heap.size,7,none⟩=some (.slice a7 n7 k7):=W0.out.cell 7;have kb0:wo.cell? ⟨w.heap.size+1,0,none⟩=some (.int .i64 l.aC):=W1.out.cell 0;have kb1:wo.cell? ⟨w.heap.size+1,1,none⟩=some (.int .u64 l.cats):=W1.out.cell 1;unfold vT
 cases hb:aX l.aC (n6:Int) with
 | false=>
  have H1:=arX hb;clear hb
  go_enter Tryz.func108,Tryz.ntmps108
  go_upto_region 1 with(fail)
  rw[← i_];clear i_
  go_wp2_with (have hZ:=H1;clear hZ;go_at_call 113;go_must (refine(show Calls Tryz.prog 113 _ _ (fun e w'=>e=.returned (.bool false)∧wo=w') from by have h:=fB wo l.aC (n6:Int);rw[H1.out] at h;exact h).mono ?_;rintro e w' ⟨rfl,rfl⟩;clear H1))
  go_ret
  exact⟨rfl,yc.out⟩
 | true=>
  have H1:=arX hb;clear hb;by_cases h64:(64:Int)≤(n7:Int)
  ·have d1:decide ((64:Int)≤(n7:Int))=true:=by simp;omega
   rw[d1]
   go_enter Tryz.func108,Tryz.ntmps108
   go_upto_region 1 with(fail)
   rw[← i_];clear i_
   go_wp2_with (have hZ:=H1;clear hZ;go_at_call 113;go_must (refine(show Calls Tryz.prog 113 _ _ (fun e w'=>e=.returned (.bool true)∧wo=w') from by have h:=fB wo l.aC (n6:Int);rw[H1.out] at h;exact h).mono ?_;rintro e w' ⟨rfl,rfl⟩;clear H1))
   go_ret
   exact⟨rfl,yc.out⟩
  ·have d1:decide ((64:Int)≤(n7:Int))=false:=by simp;omega
   rw[d1];have h7:n7<64:=by omega
   go_enter Tryz.func108,Tryz.ntmps108
   go_upto_region 1 with(fail)
   rw[← i_];clear i_
   go_wp2_with (have hZ:=H1;clear hZ;go_at_call 113;go_must (refine(show Calls Tryz.prog 113 _ _ (fun e w'=>e=.returned (.bool true)∧wo=w') from by have h:=fB wo l.aC (n6:Int);rw[H1.out] at h;exact h).mono ?_;rintro e w' ⟨rfl,rfl⟩;clear H1))
   go_ret
   exact⟨aD (by first|rfl|(simp<;>rfl)),yc.out⟩
def rX(nS nC:Nat)(r:uS):Bool:=vT nS nC r.low&&vT nS nC r.high&&wD r.high r.low
theorem vJ(w:World)(c0 c1 c2 c3 c4 c5 c6 c7 c8 c9 aS aN aM aR aQ aP aO:Value)(p:aA)(hp:aJ w c0 c1 c2 c3 c4 c5 c6 c7 c8 c9 aS aN aM aR aQ aP aO p)(r:uS)(hr:r.Ok):Calls Tryz.prog 107 #[.agg #[c0,c1,c2,c3,c4,c5,c6,c7,c8,c9,aS,aN,aM,aR,aQ,aP,aO],.agg #[.int .i64 r.low.aC,.int .u64 r.low.cats,.int .i64 r.high.aC,.int .u64 r.high.cats]] w fun e w'=>e=.returned (.bool (rX p.aC.length p.cats.length r))∧arQ w.heap.size w w':=by
 obtain⟨_,_,_,_,_,_,_,_,_,_,_,_,_,_,_,_,_,_,_,_,_,_,_,_,_,_,_,_,_,_,_,_,_,_,rfl,rfl,rfl,rfl,rfl,rfl,rfl,rfl,rfl,rfl,rfl,rfl,rfl,rfl,rfl,rfl,rfl⟩:=hp.open;exact bX [] (fn:=Tryz.f107) Tryz.func107 rfl Tryz.ntmps107 rfl<|fun g1 w1 M1=>fun g2 w2 M2=>lb 1<|an rfl<|lb 0<|an rfl<|cl<|an (vS _ _ _ _ _ _ _ _ _ _ _ _ _ _ _ _ _ _ p (hp.keep M2.below) r.low hr.low) fun w3 M3=>lb 1<|an (fun _=>rfl)<|lb 0<|an (fun _=>rfl)<|cl<|an (fun _=>vS _ _ _ _ _ _ _ _ _ _ _ _ _ _ _ _ _ _ p (hp.keep M3.below) r.high hr.high) fun w4 M4=>lb 0<|an (fun _=>rfl)<|lb 0<|an (fun _=>rfl)<|cl<|an (fun _=>uz _ r.high r.low hr.high hr.low) fun w5 M5=>fun M=>⟨rfl,M.below⟩
def eS(cl:List iB)(c:Int)(v:Int):Bool:=match (if 0≤c then cl[c.toNat]? else none) with
 | some x=>decide ((32:Int)≤(x.perms.length:Int))||decide (v/2^x.perms.length=0)
 | none=>false
theorem wT{cl:List iB}{c v:Int}(h:aX c (cl.length:Int)=false):eS cl c v=false:=by
 unfold eS;by_cases h0:0≤c
 ·rw[if_pos h0,List.getElem?_eq_none (by unfold aX at h;simp[h0] at h;omega)]
 ·rw[if_neg h0]
theorem zS(w:World)(c0 c1 c2 c3 c4 c5 c6 c7 c8 c9 aS aN aM aR aQ aP aO:Value)(p:aA)(hp:aJ w c0 c1 c2 c3 c4 c5 c6 c7 c8 c9 aS aN aM aR aQ aP aO p)(c v:Int)(hv:OL v):Calls Tryz.prog 111 #[.agg #[c0,c1,c2,c3,c4,c5,c6,c7,c8,c9,aS,aN,aM,aR,aQ,aP,aO],.int .i64 c,.int .u32 v] w fun e w'=>e=.returned (.bool (eS p.classes c v))∧arQ w.heap.size w w':=by
 obtain⟨a0,k0,rfl,hk0,hm0,hcell⟩:=ak.form hp.classes (by decide);obtain⟨n0,hn0⟩:∃ n,n=p.classes.length:=⟨_,rfl⟩;have N0:=arX hn0;have HC:=arX hcell;rw[← hn0] at hk0 hm0 ⊢;have hv':0≤v∧v<4294967296:=hv;clear hn0 hcell hp hv;obtain⟨wo,i_⟩:∃ wo,wo=(w).alloc (.cells #[.slice a0 n0 k0,c1,c2,c3,c4,c5,c6,c7,c8,c9,aS,aN,aM,aR,aQ,aP,aO] 39):=⟨_,rfl⟩;have W0:=arX (show Whole wo w.heap.size 39 #[.slice a0 n0 k0,c1,c2,c3,c4,c5,c6,c7,c8,c9,aS,aN,aM,aR,aQ,aP,aO] by rw[i_];exact(Whole.new w 39 _));have yc:=arX (show arQ w.heap.size w wo by rw[i_];exact((Below.refl _ w).alloc (Nat.le_refl _) _));have ka0:wo.cell? ⟨w.heap.size,0,none⟩=some (.slice a0 n0 k0):=W0.out.cell 0
 cases hb:aX c (n0:Int) with
 | false=>
  have H1:=arX hb;rw[wT (by rw[← N0.out];exact hb)];clear hb
  go_enter Tryz.func111,Tryz.ntmps111
  go_upto_region 1 with(fail)
  rw[← i_];clear i_
  go_wp2_with (have hZ:=H1;clear hZ;go_at_call 113;go_must (refine(show Calls Tryz.prog 113 _ _ (fun e w'=>e=.returned (.bool false)∧wo=w') from by have h:=fB wo c (n0:Int);rw[H1.out] at h;exact h).mono ?_;rintro e w' ⟨rfl,rfl⟩;clear H1))
  go_ret
  exact⟨rfl,yc.out⟩
 | true=>
  have H1:=arX hb;obtain⟨hc0,Vx⟩:0≤c∧c<(n0:Int):=by unfold aX at hb;simpa using hb
  obtain⟨i,rfl⟩:∃ i:Nat,c=i:=⟨c.toNat,by omega⟩;obtain⟨x,hx⟩:∃ x,p.classes[i]?=some x:=⟨_,arN (by have:=N0.out;omega)⟩
  have hval:eS p.classes (i:Int) v=(decide ((32:Int)≤(x.perms.length:Int))||decide (v/2^x.perms.length=0)):=by
   unfold eS;rw[if_pos hc0];simp only[Int.toNat_natCast,hx]
  rw[hval];obtain⟨b,off,cs,rfl,hrow,hlen,hcc⟩:=HC.out i x hx;obtain⟨pv,rfl,hst⟩:=hrow;obtain⟨a1,k1,rfl,hk1,hm1,-⟩:=hst.open;have kx:wo.cell? ⟨b,off+i*2+1,none⟩=some (.slice a1 x.perms.length k1):=ar0 yc.out (hcc 1 _ rfl);obtain⟨m,hm⟩:∃ m,m=x.perms.length:=⟨_,rfl⟩;rw[← hm] at kx hm1 hk1 ⊢;clear hb hval hx hst hcc hm;by_cases h32:(32:Int)≤(m:Int)
  ·have d1:decide ((32:Int)≤(m:Int))=true:=by simp;omega
   rw[d1]
   go_enter Tryz.func111,Tryz.ntmps111
   go_upto_region 1 with(fail)
   rw[← i_];clear i_
   go_wp2_with (have hZ:=H1;clear hZ;go_at_call 113;go_must (refine(show Calls Tryz.prog 113 _ _ (fun e w'=>e=.returned (.bool true)∧wo=w') from by have h:=fB wo (i:Int) (n0:Int);rw[H1.out] at h;exact h).mono ?_;rintro e w' ⟨rfl,rfl⟩;clear H1))
   go_ret
   exact⟨rfl,yc.out⟩
  ·have d1:decide ((32:Int)≤(m:Int))=false:=by simp;omega
   rw[d1];have h7:m<32:=by omega
   go_enter Tryz.func111,Tryz.ntmps111
   go_upto_region 1 with(fail)
   rw[← i_];clear i_
   go_wp2_with (have hZ:=H1;clear hZ;go_at_call 113;go_must (refine(show Calls Tryz.prog 113 _ _ (fun e w'=>e=.returned (.bool true)∧wo=w') from by have h:=fB wo (i:Int) (n0:Int);rw[H1.out] at h;exact h).mono ?_;rintro e w' ⟨rfl,rfl⟩;clear H1))
   go_ret
   exact⟨aD (by first|rfl|(simp<;>rfl)),yc.out⟩
def bq:Nat→aq→Int
 | 0,_=>0
 | m+1,e=>kV (fun i=>match e.kids[i]? with|some k=>bq m k|none=>0) e.kids.length+1
theorem jv:∀ (m:Nat) (e:aq),0≤bq m e∧bq m e≤m
 | 0,_=>⟨Int.le_refl 0,Int.le_refl 0⟩
 | m+1,e=>by
  unfold bq;have h1:=jr (fun i=>match e.kids[i]? with|some k=>bq m k|none=>0) e.kids.length
  have h2:=vO (f:=fun i=>match e.kids[i]? with|some k=>bq m k|none=>0) (b:=m) (by omega) e.kids.length fun i _=>by
   split
   ·exact(jv m _).2
   ·omega
  omega
theorem Le:∀ (m:Nat) (w:World) (cs:List Value) (e:aq),m≤13→bh w cs e→Calls Tryz.prog 100 #[.agg cs.toArray,.int .i64 (m:Int)] w fun r w'=>r=.returned (.int .i64 (bq m e))∧arQ w.heap.size w w':=by
 intro m
 induction m with
 | zero=>
  intro w cs e _ h;obtain⟨_,_,rfl,hn,hk⟩:=h.open;obtain⟨_,_,rfl,-⟩:=aH.get hn;obtain⟨_,_,rfl,-⟩:=ak.form hk (by decide);refine bX [] (fn:=Tryz.f100) Tryz.func100 rfl Tryz.ntmps100 rfl<|fun g1 w1 M1=>?_
  exact an (fun _ M=>⟨rfl,M.below⟩) fun h=>by simp at h
 | succ m ih=>
  intro w cs e hm h;obtain⟨_,_,rfl,hn,hk⟩:=h.open;obtain⟨_,_,rfl,-⟩:=aH.get hn;obtain⟨_,_,rfl,-,hkm,-⟩:=ak.form hk (by decide);refine bX [] (fn:=Tryz.f100) Tryz.func100 rfl Tryz.ntmps100 rfl<|fun g1 w1 M1=>?_
  refine an (fun h=>by simp at h;omega) fun _=>?_
  refine lr (ι:=Nat) (fun k=>[(5,.int .i64 (kV (fun i=>match e.kids[i]? with|some k=>bq m k|none=>0) k)),(6,.int .i64 (k:Int))]) (fun k _=>k≤e.kids.length) (fun k=>e.kids.length-k) 0 (an ⟨⟨rfl,rfl,trivial⟩,fun M=>⟨M,arS _⟩⟩ ?_);intro k w M hkl;have hx:=jr (fun i=>match e.kids[i]? with|some k=>bq m k|none=>0) k
  have hz:=vO (f:=fun i=>match e.kids[i]? with|some k=>bq m k|none=>0) (b:=m) (by omega) k fun i _=>by
   split
   ·exact(jv m _).2
   ·omega
  refine lb 0<|an rfl<|an (fun h1=>?_) fun h1=>?_
  ·have hlt:k<e.kids.length:=by simp at h1;omega
   obtain⟨y,hy⟩:∃ y,e.kids[k]?=some y:=⟨_,arN hlt⟩;obtain⟨b,o,_,e1,hE,hc⟩:=ak.elt hk (by decide) hy;obtain⟨_,_,rfl,hn2,hk2⟩:=hE.open;obtain⟨_,_,rfl,-⟩:=aH.get hn2;obtain⟨_,_,rfl,-⟩:=ak.form hk2 (by decide);refine lb 0<|an rfl<|ia<|an ⟨e1,rfl,hlt⟩<|lc<|an (cG M.below hc)<|an (by omega)<|cl (v:=.int .i64 (bq m y))<|an ?_ fun w2 M2=>fbp M2 (v:=.int .i64 (kV (fun i=>match e.kids[i]? with|some k=>bq m k|none=>0) (k+1))) (fun a o ho hv=>?_)<|?_
   ·have h2:=ih _ _ y (by omega) (hE.keep M.below)
    rwa [show((m:Nat):Int)=((m+1:Nat):Int)-1 by omega] at h2
   ·rw[Bu ho (dJ hv) (dX hv)]
    have e2:kV (fun i=>match e.kids[i]? with|some k=>bq m k|none=>0) (k+1)=max (kV (fun i=>match e.kids[i]? with|some k=>bq m k|none=>0) k) (bq m y):=by
     show max _ (match e.kids[k]? with|some k=>bq m k|none=>0)=_;rw[hy]
    rw[e2,Int.max_def];congr 3;split<;>split<;>omega
   ·exact an (by omega)<|bk (k+1) ⟨rfl,rfl,trivial⟩ (fun M=>⟨M,by omega⟩) (by dsimp only;omega)
  ·obtain rfl:k=e.kids.length:=by simp at h1;omega
   exact an (by omega) fun M=>⟨rfl,M.below⟩
def m_(o:Int):Int:=if o=1 then 0 else if o=8 then 0 else if o=9 then 0 else if o=2 then 1 else if o=3 then 2 else if o=4 then 2 else if o=5 then 2 else if o=6 then 2 else if o=7 then 2 else -1
theorem Hy(w:World)(o:Int):Calls Tryz.prog 244 #[.int .i64 o] w fun e w'=>e=.returned (.int .i64 (m_ o))∧w=w':=by
 unfold m_;by_cases h0:o=1
 ·rw[if_pos h0];subst h0
  go_enter Tryz.func244,Tryz.ntmps244
  go_wp2
  go_ret
  exact⟨rfl,rfl⟩
 ·rw[if_neg h0];by_cases h1:o=8
  ·rw[if_pos h1];subst h1
   go_enter Tryz.func244,Tryz.ntmps244
   go_wp2
   go_ret
   exact⟨rfl,rfl⟩
  ·rw[if_neg h1];by_cases h2:o=9
   ·rw[if_pos h2];subst h2
    go_enter Tryz.func244,Tryz.ntmps244
    go_wp2
    go_ret
    exact⟨rfl,rfl⟩
   ·rw[if_neg h2];by_cases h3:o=2
    ·rw[if_pos h3];subst h3
     go_enter Tryz.func244,Tryz.ntmps244
     go_wp2
     go_ret
     exact⟨rfl,rfl⟩
    ·rw[if_neg h3];by_cases h4:o=3
     ·rw[if_pos h4];subst h4
      go_enter Tryz.func244,Tryz.ntmps244
      go_wp2
      go_ret
      exact⟨rfl,rfl⟩
     ·rw[if_neg h4];by_cases h5:o=4
      ·rw[if_pos h5];subst h5
       go_enter Tryz.func244,Tryz.ntmps244
       go_wp2
       go_ret
       exact⟨rfl,rfl⟩
      ·rw[if_neg h5];by_cases h6:o=5
       ·rw[if_pos h6];subst h6
        go_enter Tryz.func244,Tryz.ntmps244
        go_wp2
        go_ret
        exact⟨rfl,rfl⟩
       ·rw[if_neg h6];by_cases h7:o=6
        ·rw[if_pos h7];subst h7
         go_enter Tryz.func244,Tryz.ntmps244
         go_wp2
         go_ret
         exact⟨rfl,rfl⟩
        ·rw[if_neg h7];by_cases h8:o=7
         ·rw[if_pos h8];subst h8
          go_enter Tryz.func244,Tryz.ntmps244
          go_wp2
          go_ret
          exact⟨rfl,rfl⟩
         ·rw[if_neg h8]
          go_enter Tryz.func244,Tryz.ntmps244
          go_wp2
          go_ret
          exact⟨rfl,rfl⟩
theorem ox(w:World)(cs:List Value)(e:aq)(h:bh w cs e):Calls Tryz.prog 39 #[.agg cs.toArray] w fun r w'=>r=.returned (.int .i64 (bq 13 e))∧arQ w.heap.size w w':=by
 have HE:=arX h;obtain⟨nv,kv,hcs,-,-⟩:=h.open;rw[hcs] at HE;subst hcs;clear h;show Calls Tryz.prog 39 #[.agg #[.int .i64 e.op,.int .i64 e.a,.int .i64 e.rel,.int .i64 e.b,nv,.int .u64 e.set.a,.int .u64 e.set.b,.int .u64 e.set.c,.int .u64 e.set.d,kv]] w _;obtain⟨wo,i_⟩:∃ wo,wo=(w).alloc (.cells #[.int .i64 e.op,.int .i64 e.a,.int .i64 e.rel,.int .i64 e.b,nv,.int .u64 e.set.a,.int .u64 e.set.b,.int .u64 e.set.c,.int .u64 e.set.d,kv] 89):=⟨_,rfl⟩;have W0:=arX (show Whole wo w.heap.size 89 #[.int .i64 e.op,.int .i64 e.a,.int .i64 e.rel,.int .i64 e.b,nv,.int .u64 e.set.a,.int .u64 e.set.b,.int .u64 e.set.c,.int .u64 e.set.d,kv] by rw[i_];exact(Whole.new w 89 _));have yc:=arX (show arQ w.heap.size w wo by rw[i_];exact((Below.refl _ w).alloc (Nat.le_refl _) _))
 go_enter Tryz.func39,Tryz.ntmps39
 go_upto_region 1 with(fail)
 rw[← i_];clear i_
 go_wp2_with (first|(refine wpList_load_row rfl 89 _ rfl (w.heap.size) rfl 89 _ (0,0) _ W0.out Tryz.underlying89 rfl Zo ?_)|(go_at_call 100;go_must (refine(Le 13 wo _ e (by omega) (bh.keep yc.out HE.out)).mono ?_;rintro r w1 ⟨rfl,hb1⟩;have DI:=arX hb1;clear hb1)))
 go_ret
 exact⟨rfl,yc.out.trans (DI.out.mono yc.out.size)⟩
def kA(e:aq):Bool:=(((((((decide (e.op=8)||decide (e.op=9))||(!decide (m_ e.op=(e.kids.length:Int))))||(!decide (e.rel=0)))||(!decide (e.b=0)))||decide (0<(e.names.length:Int)))||(!decide (e.set=ay.zero)))||((!decide (e.op=1))&&(!decide (e.a=0))))
theorem aq.ind{M:aq→Prop}(h:∀ e,(∀ k∈e.kids,M k)→M e):∀ e,M e:=
 fun e=>aq.rec (motive_1:=M) (motive_2:=fun l=>∀ k∈l,M k) (fun _ _ _ _ _ _ _ ih=>h _ ih) (fun _ hk=>by cases hk) (fun _ _ hk hl x hx=>by
  rcases List.mem_cons.1 hx with rfl|hx
  ·exact hk
  ·exact hl x hx) e
mutual
def j6(nB:Nat):aq→Int
 | .node op a rel b names set kids=>if kA (.node op a rel b names set kids)=true then 2 else if (decide (op=1)&&!aX a (nB:Int))=true then 3 else lC nB kids
def lC(nB:Nat):List aq→Int
 | []=>0
 | k::l=>if j6 nB k=0 then lC nB l else j6 nB k
end
theorem qy(nB:Nat)(e:aq):j6 nB e=if kA e=true then 2 else if (decide (e.op=1)&&!aX e.a (nB:Int))=true then 3 else lC nB e.kids:=by
 cases e;rw[j6];rfl
theorem BH{nB:Nat}{l:List aq}{k:Nat}{y:aq}(h:l[k]?=some y):lC nB (l.drop k)=if j6 nB y=0 then lC nB (l.drop (k+1)) else j6 nB y:=by
 obtain⟨hk,rfl⟩:=arM.1 h;rw[List.drop_eq_getElem_cons hk,lC]
section
variable {nB:Nat} {e:aq}
theorem QE(h:kA e=true):j6 nB e=2:=by rw[qy,if_pos h]
theorem QD(h:kA e=false)(h2:(decide (e.op=1)&&!aX e.a (nB:Int))=true):j6 nB e=3:=by rw[qy,if_neg (by rw[h];decide),if_pos h2]
theorem BF(h:kA e=false)(h2:(decide (e.op=1)&&!aX e.a (nB:Int))=false):j6 nB e=lC nB e.kids:=by rw[qy,if_neg (by rw[h];decide),if_neg (by rw[h2];decide)]
end
theorem Cy:∀ e:aq,∀ (w0:World) (cs:List Value) (c0 c1 c2 c3 c4 c5 c6 c7 c8 c9 aS aN aM aR aQ aP aO:Value) (p:aA),aJ w0 c0 c1 c2 c3 c4 c5 c6 c7 c8 c9 aS aN aM aR aQ aP aO p→bh w0 cs e→Calls Tryz.prog 196 #[.agg #[c0,c1,c2,c3,c4,c5,c6,c7,c8,c9,aS,aN,aM,aR,aQ,aP,aO],.agg cs.toArray] w0 (RI w0 (j6 p.bools.length e)):=by
 refine aq.ind fun e ih=>?_
 intro w0 cs c0 c1 c2 c3 c4 c5 c6 c7 c8 c9 aS aN aM aR aQ aP aO p hp h;obtain⟨nv,kv,rfl,NY,hk⟩:=h.open;obtain⟨_,_,rfl,-⟩:=aH.get NY;obtain⟨_,_,rfl,-,H9,-⟩:=ak.form hk (by decide);obtain⟨_,_,_,_,_,_,_,_,_,_,_,_,_,_,_,_,_,_,_,_,_,_,_,_,_,_,_,_,_,_,_,_,_,_,rfl,rfl,rfl,rfl,rfl,rfl,rfl,rfl,rfl,rfl,rfl,rfl,rfl,rfl,rfl,rfl,rfl⟩:=hp.open;refine bX [] (fn:=Tryz.f196) Tryz.func196 rfl Tryz.ntmps196 rfl<|fun g1 w1 M1=>fun g2 w2 M2=>dr (by kernel_rfl)<|lb 0<|an rfl<|lb 0<|an (fun _=>rfl)<|lb 0<|an (fun _=>rfl)<|cl<|an (fun _ w' hb M=>(Hy _ _).mono fun _ _ ⟨h1,h2⟩=>⟨h1,h2▸Below.refl _ _⟩)<|lb 0<|an (fun _=>rfl)<|lb 0<|an (fun _=>rfl)<|lb 0<|an (fun _=>rfl)<|lb 0<|an (fun _=>rfl)<|lb 0<|an (fun _=>rfl)<|ei (x:=.agg #[.int .u64 0,.int .u64 0,.int .u64 0,.int .u64 0])<|an (fun _=>bd (by kernel_rfl))<|ei<|an (fun _=>⟨yF,fun w=>mM e.set w⟩)<|lb 0<|an (fun _=>rfl)<|lb 0<|an (fun _=>rfl)<|fun w3 hb M3=>an (fun h1 M=>⟨ri (QE h1),M.below⟩) fun h1=>lb 0<|an rfl<|lb 0<|an (fun _=>rfl)<|lb 1<|an (fun _=>rfl)<|cl<|an (fun _=>(fB _ _ _).mono fun _ _ ⟨h1,h2⟩=>⟨h1,h2▸Below.refl _ _⟩) fun w4 M4=>an (fun h2 M=>⟨ri (QD h1 h2),M.below⟩) fun h2=>lr (ι:=Nat) (fun m=>[(5,.int .i64 (m:Int))]) (fun m _=>m≤e.kids.length∧lC p.bools.length e.kids=lC p.bools.length (e.kids.drop m)) (fun m=>e.kids.length-m) 0 (an ⟨⟨rfl,trivial⟩,fun M=>⟨M,arS _,rfl⟩⟩ ?_)
 rintro m w M ⟨hm,hinv⟩;refine lb 0<|an rfl<|an (fun h3=>?_) fun h3 M=>⟨ri (by rw[BF h1 h2,hinv,show m=e.kids.length by simp at h3;omega,List.drop_length];rfl),M.below⟩
 have hlt:m<e.kids.length:=by simp at h3;omega
 obtain⟨y,hy⟩:∃ y,e.kids[m]?=some y:=⟨_,arN hlt⟩;obtain⟨b,o,_,e1,hE,hc⟩:=ak.elt hk (by decide) hy;obtain⟨nv',kv',rfl,hn',hk'⟩:=hE.open;obtain⟨_,_,rfl,-⟩:=aH.get hn';obtain⟨_,_,rfl,-⟩:=ak.form hk' (by decide);exact dr (by kernel_rfl)<|lb 1<|an rfl<|lb 0<|an rfl<|ia<|an ⟨e1,rfl,hlt⟩<|lc<|an (cG M.below hc)<|cl<|an (fun w' hb M'=>ih y (arO hy) w' _ _ _ _ _ _ _ _ _ _ _ _ _ _ _ _ _ _ p (hp.keep M'.below) (hE.keep M'.below)) fun w5 hb5 M5=>an (fun h4 M=>⟨ri (by rw[BF h1 h2,hinv,BH hy,if_neg (by simpa using h4)]),M.below⟩) fun h4=>an (by omega)<|bk (m+1) ⟨rfl,trivial⟩ (fun M=>⟨M,by omega,by rw[hinv,BH hy,if_pos (by simpa using h4)]⟩) (by dsimp only;omega)
def cC(nB:Nat)(e:aq):Int:=if (12:Int)<bq 13 e then 4 else j6 nB e
theorem CJ(e:aq)(w0:World)(cs:List Value)(c0 c1 c2 c3 c4 c5 c6 c7 c8 c9 aS aN aM aR aQ aP aO:Value)(p:aA)(hp:aJ w0 c0 c1 c2 c3 c4 c5 c6 c7 c8 c9 aS aN aM aR aQ aP aO p)(h:bh w0 cs e):Calls Tryz.prog 110 #[.agg #[c0,c1,c2,c3,c4,c5,c6,c7,c8,c9,aS,aN,aM,aR,aQ,aP,aO],.agg cs.toArray] w0 (RI w0 (cC p.bools.length e)):=by
 obtain⟨nv,kv,rfl,-,-⟩:=h.open;have bS:=hr1 Tryz.prog Tryz.f110 (RI w0 (cC p.bools.length e)) 11 4 rfl;refine en Tryz.func110 rfl Tryz.ntmps110 rfl (vs:=[.agg #[c0,c1,c2,c3,c4,c5,c6,c7,c8,c9,aS,aN,aM,aR,aQ,aP,aO],.agg #[.int .i64 e.op,.int .i64 e.a,.int .i64 e.rel,.int .i64 e.b,nv,.int .u64 e.set.a,.int .u64 e.set.b,.int .u64 e.set.c,.int .u64 e.set.d,kv]]) rfl fun _ F=>?_
 have M:=Mm.start w0;refine arT fun K1 jd=>ah<|NW (on rfl) rfl (F.u rf) rfl F rfl M fun g1 _ _ F M=>NW (on rfl) rfl (F.u rf) rfl F rfl M fun g2 _ _ F M=>xA (v:=.int .i64 0) F rf rf rf fun _ F=>arU<|jd _ _ ?_
 refine arT fun K2 jy=>arT fun K3 qg=>ah<|xW F (M.b 0 rfl) rf rf rf MZ rf q8 rf fun _ F=>xC F M rf rf q39 (args1 (F.u rf)) (ox _ _ e (bh.keep M.below h)) fun _ _ F M=>kz F rf (IG rfl (F.u rf) rfl) fun _ F=>arU<|qg _ _ ?_
 refine arV (F.e 7 rfl) (fun hc3=>?_) (fun hc3=>?_)
 ·have T6:=of_decide_eq_true hc3;refine arT fun K4 qd=>ah<|xA (v:=.int .i64 4) F rf rf rf fun _ F=>arU<|qd _ _ ?_
  refine wp_ret<|bS _ _ _ _ F rfl ?_;exact⟨gQ (by unfold cC;repeat (first|with_reducible rfl|assumption|(with_reducible refine Eq.trans (if_pos ?_) ?_;focus (first|assumption|(refine rE ?_;assumption)|(refine rD ?_;assumption)|omega|(simp[T6];done)))|(with_reducible refine Eq.trans (if_neg ?_) ?_;focus (first|assumption|(refine rE ?_;assumption)|(refine rD ?_;assumption)|omega|(simp[T6];done)))|omega)),M.below⟩
 ·have T5:=of_decide_eq_false hc3;refine wp_skip<|jy _ _ ?_;refine arT fun K5 p7=>ah<|xW F (M.b 1 rfl) rf rf rf M_ rf z8 rf fun _ F=>xW F (M.b 0 rfl) rf rf rf MZ rf q8 rf fun _ F=>xC F M rf rf afz (args2 (F.u rf) (F.u rf)) (Cy e _ _ _ _ _ _ _ _ _ _ _ _ _ _ _ _ _ _ _ p (hp.keep M.below) (bh.keep M.below h)) fun _ _ F M=>xA F rf rf rf fun _ F=>arU<|p7 _ _ ?_
  refine wp_ret<|bS _ _ _ _ F rfl ?_;exact⟨gQ (by unfold cC;repeat (first|with_reducible rfl|assumption|(with_reducible refine Eq.trans (if_pos ?_) ?_;focus (first|assumption|(refine rE ?_;assumption)|(refine rD ?_;assumption)|omega|(simp[T5];done)))|(with_reducible refine Eq.trans (if_neg ?_) ?_;focus (first|assumption|(refine rE ?_;assumption)|(refine rD ?_;assumption)|omega|(simp[T5];done)))|omega)),M.below⟩
end Go.Proofs.YtdcofoaihmongaaGreat
namespace Go.Proofs.YtdcofoaihmongaaGreat
open Go Go.RowKit
theorem cst{B:Nat}{w0 w:World}{bs:List Bx}{rs:List Rw}{X:Prop}{f:FuncId}{args:Array Value}{x:Int}{K:Value→List Bx→List Rw→World→Prop}(M:aV B w0 w bs rs)
 (hc:Calls Tryz.prog f args w fun r w'=>∃ v,r=.returned v∧(bL w' w.heap.size v x∧arQ w.heap.size w w')) (h:∀ g w',aV B w0 w' ((g,52,#[.int .u64 x])::bs) rs→K (.slice (some ⟨g,0,none⟩) 1 1) ((g,52,#[.int .u64 x])::bs) rs w') :
 X∨∃ R:Value→World→Prop,(Calls Tryz.prog f args w fun e w'=>∃ v,e=.returned v∧R v w')∧∀ v w',R v w'→∃ bs' rs',aV B w0 w' bs' rs'∧K v bs' rs' w':=
 .inr ⟨_,hc,fun v w' ⟨⟨g,e,hW,hg⟩,hb⟩=>by subst e;exact⟨_,_,M.newAt hb hW hg,h g w' (M.newAt hb hW hg)⟩⟩
theorem mz1{B:Nat}{w0 w:World}{bs:List Bx}{rs:List Rw}{t e ty b:Nat}{z:Value}{x y:Operand}{κ κ':IntKind}{K:Value→List Bx→List Rw→World→Prop}(M:aV B w0 w bs rs)(hu:Tryz.prog.underlying t=some (.slice e))(hi:iQ (Tryz.prog.info? e) 1 b=true)(hz:(Tryz.prog.info? e).bind (·.zero)=some z)(h1:z.cells=#[z])(hb:b≤281474976710656)
 (h:∀ g w',aV B w0 w' ((g,e,#[z])::bs) rs→K (.slice (some ⟨g,0,none⟩) 1 1) ((g,e,#[z])::bs) rs w') (he:Nat.blt e 9000=true:=by rfl) :
 ∃ R:Value→World→Prop,(∀ (a:Act) (o':Oper),o'.op=.makeSlice t x y→o'.type=ty→wQ a [x,y] [.int κ 1,.int κ' 1]→∃ v w',(execOp a.eval o').run Tryz.prog w=.ok (.value v) w'∧R v w')∧∀ v w',R v w'→∃ bs' rs',aV B w0 w' bs' rs'∧K v bs' rs' w':=by
 refine⟨fun v w'=>v=.slice (some ⟨w.heap.size,0,none⟩) 1 1∧w'=w.alloc (.cells #[z] e),fun a o' ho _ oJ=>⟨_,_,EU ho (dJ oJ) (dX oJ) hu hi hz h1 hb,rfl,rfl⟩,?_⟩;rintro v w' ⟨rfl,rfl⟩;have M':=M.newAt (w':=w.alloc (.cells #[z] e)) ((Below.refl _ w).alloc (Nat.le_refl _) _) (Whole.new w e #[z]) (Nat.le_refl _) he;exact⟨_,_,M',h _ _ M'⟩
section
variable {u:Int} {n:Nat} {e:aq}
theorem O0{n:Nat}{op a:Int}{k:Nat}(h:cQ n op a k=false):(k:Int)=pR op∧(op=1→0≤a∧a<n):=by
 unfold cQ at h;simp only[Bool.or_eq_false_iff,Bool.not_eq_false',decide_eq_true_eq,Bool.and_eq_false_iff,decide_eq_false_iff_not] at h;refine⟨h.1,fun ho=>?_⟩;rcases h.2 with h2|h2
 ·exact absurd ho h2
 ·omega
theorem VP(h:cQ n e.op e.a e.kids.length=true):bJ u n e=0:=by
 rw[tg,J_,oT,if_pos h]
theorem RZ(h:cQ n e.op e.a e.kids.length=false)(h1:e.op=1):bJ u n e=xV u e.a:=by
 rw[tg,J_,oT,if_neg (by rw[h];decide),if_pos h1]
theorem VN{y:aq}(h:cQ n e.op e.a e.kids.length=false)(h2:e.op=2)(hy:e.kids[0]?=some y):bJ u n e=notM u (bJ u n y):=by
 rw[tg,J_,oT,if_neg (by rw[h];decide),if_neg (by omega),if_pos h2,tj _ _ _ _ hy]
theorem VO{y z:aq}(h:cQ n e.op e.a e.kids.length=false)(h1:e.op≠1)(h2:e.op≠2)(hy:e.kids[0]?=some y)(hz:e.kids[1]?=some z):bJ u n e=CD u e.op (bJ u n y) (bJ u n z):=by
 rw[tg,J_,oT,if_neg (by rw[h];decide),if_neg h1,if_neg h2,tj _ _ _ _ hy,tj _ _ _ _ hz]
end
theorem zf(w0:World)(tp mb:Nat)(c0 c1 c2 c3 c4 c6 c7 c8 c9 aS aN aM aR aQ aP aO:Value)(gW:Option Addr)(nB gU:Nat)(u:Int)(hT:qD w0 tp mb c0 c1 c2 c3 c4 (.slice gW nB gU) c6 c7 c8 c9 aS aN aM aR aQ aP aO u)(sg:Nat)(sx:Int)(hs:Whole w0 sg 52 #[.int .u64 sx]):Calls Tryz.prog 175 #[.pointer (some ⟨tp,0,none⟩),.slice (some ⟨sg,0,none⟩) 1 1] w0 (fun(r:Ending) (w':World)=>∃ v,r=.returned v∧((bL w' w0.heap.size v (notM u sx))∧arQ w0.heap.size w0 w')):=by
 refine bX [] (fn:=Tryz.f175) Tryz.func175 rfl Tryz.ntmps175 rfl<|lc (x:=.int .i64 1)<|an (hT.cell 17)<|mz1 (Mm.start w0) zX H6 Rz rfl (by decide) fun g w1 M1=>lp (ι:=Nat×Int) (fun(t,x)=>[(14,.int .i64 (t:Int))]) (fun(t,x)=>[(g,52,#[.int .u64 x])]) (fun _=>[]) (fun(t,x) _=>t≤1∧(t=1→x=notM u sx)) (fun(t,x)=>1-t) (0,0) (an ⟨⟨rfl,trivial⟩,fun M=>⟨M,arS _,fun h=>by cases h⟩⟩ ?_)
 rintro⟨t,x⟩ w M ⟨ht,hx⟩;refine an (fun h=>?_) fun h M=>?_
 ·obtain rfl:t=0:=by simp at h;omega
  refine dr (by kernel_rfl)<|ia (i:=0)<|an ⟨rfl,rfl,by decide⟩<|lc (x:=.int .u64 sx)<|an (ar0 M.below ((Whole.cell hs) 0))<|ei (x:=.int .u64 (bits .xor .u64 18446744073709551615 sx))<|an (fun a w o ho hv=>Oo ho (dJ hv))<|lc (x:=.int .u64 u)<|an (ar0 M.below (hT.cell 18))<|ei (x:=bits .and .u64 (bits .xor .u64 18446744073709551615 sx) u)<|an rfl<|ia (i:=0)<|an ⟨rfl,rfl,by decide⟩<|fun w hb M=>?_
  exact lb 0<|an ⟨⟨rfl,rfl⟩,Nat.le_refl _⟩ fun w M=>an (by omega)<|bk (1,notM u sx) ⟨rfl,trivial⟩ (fun M=>⟨M,by omega,fun _=>rfl⟩) (by dsimp only;omega)
 ·obtain rfl:=hx (by simp at h;omega);exact⟨_,rfl,⟨_,rfl,M.b 0 rfl,M.lo _ (arO (i:=0) rfl)⟩,M.below⟩
theorem vg:∀ e:aq,∀ (w0:World) (cs:List Value) (tp mb:Nat) (c0 c1 c2 c3 c4 c6 c7 c8 c9 aS aN aM aR aQ aP aO:Value) (gW:Option Addr) (nB gU:Nat) (u:Int) (_:nB≤5),qD w0 tp mb c0 c1 c2 c3 c4 (.slice gW nB gU) c6 c7 c8 c9 aS aN aM aR aQ aP aO u→bh w0 cs e→Calls Tryz.prog 173 #[.pointer (some ⟨tp,0,none⟩),.agg cs.toArray] w0 (fun(r:Ending) (w':World)=>∃ v,r=.returned v∧((bL w' w0.heap.size v (bJ u nB e))∧arQ w0.heap.size w0 w')):=by
 refine aq.ind fun e ih=>?_
 intro w0 cs tp mb c0 c1 c2 c3 c4 c6 c7 c8 c9 aS aN aM aR aQ aP aO gW nB gU u hn hT h;obtain⟨nv,kv,rfl,-,hk⟩:=h.open;obtain⟨_,_,rfl,-,H9,-⟩:=ak.form hk (by decide);refine bX [] (fn:=Tryz.f173) Tryz.func173 rfl Tryz.ntmps173 rfl<|fun g1 w1 M1=>dr (by kernel_rfl)<|lb 0<|an rfl<|lb 0<|an rfl<|cl<|an (fun w' hb M'=>Ej w' e.op)<|lb 0<|an (fun _=>rfl)<|lb 0<|an (fun _=>rfl)<|lb 0<|an (fun _=>rfl)<|lc (x:=.slice gW nB gU)<|an (fun _=>ar0 M1.below (hT.cell 5))<|fun w2 hb2 M2=>an (fun h1=>?_) fun h1=>?_
 ·exact lc (x:=.int .i64 1)<|an (ar0 M2.below (hT.cell 17))<|mz1 M2 zX H6 Rz rfl (by decide) fun g w M M=>⟨_,rfl,⟨_,rfl,by have hW:=M.b 0 rfl;rw[VP h1];exact hW,M.lo _ (arO (i:=0) rfl)⟩,M.below⟩
 have h1:cQ nB e.op e.a e.kids.length=false:=h1;obtain⟨hv1,hv2⟩:=O0 h1;refine lb 0<|an rfl<|an (fun h2=>?_) fun h2=>?_
 ·have h2:e.op=1:=by simpa using h2
  exact lb 0<|an rfl<|cst M2 (Jh _ tp mb _ _ _ _ _ _ _ _ _ _ _ _ _ _ _ _ gW nB gU u (Whole.under M2.below hT hT.lt) e.a (by omega) (by omega)) fun g w M M=>⟨_,rfl,⟨_,rfl,by have hW:=M.b 0 rfl;rw[RZ h1 h2];exact hW,M.lo _ (arO (i:=0) rfl)⟩,M.below⟩
 have h2:¬ e.op=1:=by simpa using h2
 have Yh:0<e.kids.length:=by unfold pR at hv1;split at hv1<;>(try split at hv1)<;>omega
 obtain⟨y,hy⟩:∃ y,e.kids[0]?=some y:=⟨_,arN Yh⟩;obtain⟨b,o,_,e1,hE,hc⟩:=ak.elt hk (by decide) hy;obtain⟨nv',kv',rfl,-⟩:=hE.open;refine lb 0<|an rfl<|ia (i:=0)<|an ⟨e1,rfl,Yh⟩<|lc<|an (cG M2.below hc)<|cst M2 (ih y (arO hy) _ _ tp mb _ _ _ _ _ _ _ _ _ _ _ _ _ _ _ _ gW nB gU u hn (Whole.under M2.below hT hT.lt) (hE.keep M2.below)) fun gy w3 M3=>lb 1<|an rfl<|an (fun h3=>?_) fun h3=>?_
 ·exact cst M3 (zf _ tp mb _ _ _ _ _ _ _ _ _ _ _ _ _ _ _ _ gW nB gU u (Whole.under M3.below hT hT.lt) gy _ (M3.b 0 rfl)) fun g w M M=>⟨_,rfl,⟨_,rfl,by have hW:=M.b 0 rfl;rw[VN h1 (by simpa using h3) hy];exact hW,M.lo _ (arO (i:=0) rfl)⟩,M.below⟩
 have h3:¬ e.op=2:=by simpa using h3
 have hlz:1<e.kids.length:=by unfold pR at hv1;split at hv1<;>(try split at hv1)<;>omega
 obtain⟨z,hz⟩:∃ z,e.kids[1]?=some z:=⟨_,arN hlz⟩;obtain⟨bz,oz,_,e2,Rs,hcz⟩:=ak.elt hk (by decide) hz;obtain⟨nvz,kvz,rfl,-⟩:=Rs.open;refine lb 1<|an rfl<|ia (i:=1)<|an ⟨e2,rfl,hlz⟩<|lc<|an (cG M3.below hcz)<|cst M3 (ih z (arO hz) _ _ tp mb _ _ _ _ _ _ _ _ _ _ _ _ _ _ _ _ gW nB gU u hn (Whole.under M3.below hT hT.lt) (Rs.keep M3.below)) fun gz w4 M4=>lp (ι:=Nat×Int) (fun(t,x)=>[(68,.int .i64 (t:Int))]) (fun(t,x)=>_::(gy,52,#[.int .u64 x])::_) (fun _=>[]) (fun(t,x) _=>t≤1∧(t=0→x=bJ u nB y)∧(t=1→x=CD u e.op (bJ u nB y) (bJ u nB z))) (fun(t,x)=>1-t) (0,bJ u nB y) (an ⟨⟨rfl,trivial⟩,fun M=>⟨M,by decide,fun _=>rfl,fun h=>by cases h⟩⟩ ?_)
 rintro⟨t,x⟩ w M ⟨ht,hx0,hx1⟩;refine an (fun h=>?_) fun h M=>⟨_,rfl,⟨_,rfl,by have hW:=M.b 1 rfl;rw[VO h1 h2 h3 hy hz,← hx1 (by simp at h;omega)];exact hW,M.lo _ (arO (i:=1) rfl)⟩,M.below⟩
 obtain rfl:t=0:=by simp at h;omega
 obtain rfl:=hx0 rfl;refine lb 2<|an rfl<|an (fun h4=>?_) fun h4=>an (fun h5=>?_) fun h5=>an (fun h6=>?_) fun h6=>?_
 all_goals simp only[decide_eq_true_eq,decide_eq_false_iff_not] at *
 ·exact dr (by kernel_rfl)<|ia (i:=0)<|an ⟨rfl,rfl,by decide⟩<|lb 1<|an rfl<|ia (i:=0)<|an ⟨rfl,rfl,by decide⟩<|lb 0<|an rfl<|ei (x:=bits .and .u64 (bJ u nB y) (bJ u nB z))<|an rfl<|ia (i:=0)<|an ⟨rfl,rfl,by decide⟩<|fun w hb M=>lb 1<|an ⟨⟨rfl,rfl⟩,Nat.le_refl _⟩ fun w M=>an (by omega)<|bk (1,bits .and .u64 (bJ u nB y) (bJ u nB z)) ⟨rfl,trivial⟩ (fun M=>⟨M,by omega,(fun h=>by cases h),fun _=>by unfold CD;rw[if_pos h4]⟩) (by dsimp only;omega)
 ·exact dr (by kernel_rfl)<|ia (i:=0)<|an ⟨rfl,rfl,by decide⟩<|lb 1<|an rfl<|ia (i:=0)<|an ⟨rfl,rfl,by decide⟩<|lb 0<|an rfl<|ei (x:=bits .or .u64 (bJ u nB y) (bJ u nB z))<|an rfl<|ia (i:=0)<|an ⟨rfl,rfl,by decide⟩<|fun w hb M=>lb 1<|an ⟨⟨rfl,rfl⟩,Nat.le_refl _⟩ fun w M=>an (by omega)<|bk (1,bits .or .u64 (bJ u nB y) (bJ u nB z)) ⟨rfl,trivial⟩ (fun M=>⟨M,by omega,(fun h=>by cases h),fun _=>by unfold CD;rw[if_neg h4,if_pos h5]⟩) (by dsimp only;omega)
 ·exact dr (by kernel_rfl)<|ia (i:=0)<|an ⟨rfl,rfl,by decide⟩<|lb 1<|an rfl<|ia (i:=0)<|an ⟨rfl,rfl,by decide⟩<|lb 0<|an rfl<|ei (x:=bits .xor .u64 (bJ u nB y) (bJ u nB z))<|an rfl<|ei (x:=.int .u64 (bits .xor .u64 18446744073709551615 (bits .xor .u64 (bJ u nB y) (bJ u nB z))))<|an (fun a w o ho hv=>Oo ho (dJ hv))<|lc (x:=.int .u64 u)<|an (ar0 M.below (hT.cell 18))<|ei (x:=bits .and .u64 (bits .xor .u64 18446744073709551615 (bits .xor .u64 (bJ u nB y) (bJ u nB z))) u)<|an rfl<|ia (i:=0)<|an ⟨rfl,rfl,by decide⟩<|fun w hb M=>lb 1<|an ⟨⟨rfl,rfl⟩,Nat.le_refl _⟩ fun w M=>an (by omega)<|bk (1,bits .and .u64 (bits .xor .u64 18446744073709551615 (bits .xor .u64 (bJ u nB y) (bJ u nB z))) u) ⟨rfl,trivial⟩ (fun M=>⟨M,by omega,(fun h=>by cases h),fun _=>by unfold CD;rw[if_neg h4,if_neg h5,if_pos h6]⟩) (by dsimp only;omega)
 ·exact dr (by kernel_rfl)<|ia (i:=0)<|an ⟨rfl,rfl,by decide⟩<|lb 1<|an rfl<|ia (i:=0)<|an ⟨rfl,rfl,by decide⟩<|lb 0<|an rfl<|ei (x:=bits .xor .u64 (bJ u nB y) (bJ u nB z))<|an rfl<|ia (i:=0)<|an ⟨rfl,rfl,by decide⟩<|fun w hb M=>lb 1<|an ⟨⟨rfl,rfl⟩,Nat.le_refl _⟩ fun w M=>an (by omega)<|bk (1,bits .xor .u64 (bJ u nB y) (bJ u nB z)) ⟨rfl,trivial⟩ (fun M=>⟨M,by omega,(fun h=>by cases h),fun _=>by unfold CD;rw[if_neg h4,if_neg h5,if_neg h6]⟩) (by dsimp only;omega)
theorem one_cell{w:World}{g:Nat}{x:Value}(hs:w.cell? ⟨g,0,none⟩=some x):∀ j uu,[x][j]?=some uu→w.cell? ⟨g,0+j,none⟩=some uu:=fun j u hu=>by
 match j with
 | 0=>
  obtain rfl:x=u:=by simpa using hu
  exact hs
 | j+1=>simp at hu
def X4(x:Int):Int:=if x=0 then -1 else 0
theorem ZB(x:Int):(!decide (0≤X4 x))=decide (x=0):=by
 unfold X4;by_cases h:x=0
 ·rw[if_pos h];simp[h]
 ·rw[if_neg h];simp[h]
theorem PN(w0:World)(sx:Int):Calls Tryz.prog 223 #[.int .u64 sx] w0 (fun(r:Ending) (w':World)=>r=.returned (.bool (!decide (sx=0)))∧arQ w0.heap.size w0 w'):=by
 have bS:=hr1 Tryz.prog Tryz.f223 (fun(r:Ending) (w':World)=>r=.returned (.bool (!decide (sx=0)))∧arQ w0.heap.size w0 w') 5 2 rfl;refine en Tryz.func223 rfl Tryz.ntmps223 rfl (vs:=[.int .u64 sx]) rfl fun _ F=>?_
 have M:=Mm.start w0;refine arT fun K1 jd=>ah<|xA (v:=.bool false) F rf rf rf fun _ F=>arU<|jd _ _ ?_
 refine arT fun K2 jy=>ah<|xM F rf rf rf fun _ F=>kz F rf (U0 rfl (F.u rf) rfl) fun _ F=>xA F rf rf rf fun _ F=>arU<|jy _ _ ?_
 refine wp_ret<|bS _ _ _ _ F rfl ?_;exact⟨rfl,M.below⟩
theorem PK(w0:World)(sg ck:Nat)(sx:Int)(hs:w0.cell? ⟨sg,0,none⟩=some (.int .u64 sx)):Calls Tryz.prog 266 #[.slice (some ⟨sg,0,none⟩) 1 ck,.func (.func 223) #[] #[]] w0 (fun(r:Ending) (w':World)=>r=.returned (.int .i64 (X4 sx))∧arQ w0.heap.size w0 w'):=by
 have hSG:=one_cell hs;have bS:=hr1 Tryz.prog Tryz.f266 (fun(r:Ending) (w':World)=>r=.returned (.int .i64 (X4 sx))∧arQ w0.heap.size w0 w') 19 4 rfl;refine en Tryz.func266 rfl Tryz.ntmps266 rfl (vs:=[.slice (some ⟨sg,0,none⟩) 1 ck,.func (.func 223) #[] #[]]) rfl fun _ F=>?_
 have M:=Mm.start w0;refine arT fun K1 jd=>ah<|xA (v:=.int .i64 0) F rf rf rf fun _ F=>arU<|jd _ _ ?_
 refine arT fun K2 jy=>arT fun K3 qg=>ah<|xM F rf rf rf fun _ F=>kz F rf (gA rfl (F.u rf) zX) fun _ F=>xM (v:=.int .i64 0) F rf rf rf fun _ F=>arU<|qg _ _ ?_
 refine arW<|?_;refine fH (ι:=Nat) (fun t a w=>Fs a 19 [(0,.slice (some ⟨sg,0,none⟩) 1 ck),(1,.func (.func 223) #[] #[]),(7,.int .i64 1),(8,.int .i64 (t:Int))]∧Mm w0 w [] []∧t≤1∧(t=1→sx=0)) (fun t=>1-t) 0 ⟨F.sub ⟨rfl,rfl,rfl,rfl,trivial⟩,M,arS _,fun h=>by cases h⟩ ?_
 (repeat clear F);(repeat clear M)
 rintro t _ _ ⟨F,M,ht,hz⟩;refine arT fun K4 qd=>ah<|kz F rf (j5 rfl (F.u rf) (F.u rf)) fun _ F=>arU<|qd _ _ ?_
 refine arT fun K5 p7=>?_
 refine arV (F.e 9 rfl) (fun hc1=>?_) (fun hc1=>?_)
 ·have hd2:=of_decide_eq_true hc1;refine wp_skip<|p7 _ _ ?_;refine arT fun K6 rM=>arW<|arT fun K7 uj=>?_
  have F:=F.eq 8 rfl (congrArg (Value.int .i64) (show((t:Nat):Int)=0 by omega));refine ah<|xM F rf rf rf fun _ F=>xA F rf rf rf fun _ F=>arU<|uj _ _ ?_
  refine arT fun K8 Bc=>ah<|xM F rf rf rf fun _ F=>xM F rf rf rf fun _ F=>xM F rf rf rf fun _ F=>
   ke (u:=.pointer (some ⟨sg,0,none⟩)) (on rfl) (bT (i:=0) rfl (F.u rf) (F.u rf) (by omega) zX z7) rfl F rfl rfl fun _ F=>
   kz F rf (cM rf (F.u rf) u52 rfl ((cG M.below hSG) 0 _ rfl)) fun _ F=>
   kc (on rfl) (EW rfl (F.u rf) Tryz.func223 (by kernel_rfl) rfl (args:=#[.int .u64 sx]) (by simp[(F.e 15 rfl)])) (PN _ sx) rfl F rfl M fun _ _ F M=>
   arU<|
   Bc _ _ ?_
  refine arV (F.e 16 rfl) (fun hc3=>?_) (fun hc3=>?_)
  ·have T6:=of_decide_eq_false (show decide (sx=0)=false by simpa using hc3);have hk5:(decide (sx=0))=false:=by simpa using hc3
   refine arT fun K9 zx=>ah<|xM F rf rf rf fun _ F=>xA F rf rf rf fun _ F=>arU<|zx _ _ ?_
   refine wp_ret<|bS _ _ _ _ F rfl ?_;exact⟨gQ (by unfold X4;rw[if_neg (by omega)]),M.below⟩
  ·have hd6:=of_decide_eq_true (show decide (sx=0)=true by simpa using hc3);have hk7:(decide (sx=0))=true:=by simpa using hc3
   refine wp_skip<|rM _ _ ?_;have F:=F.eq 8 rfl (congrArg (Value.int .i64) (show(0:Int)=((t:Nat):Int) by omega))
   refine ah<|
    ke (on rfl) (fS rfl (F.u rf) rfl) rfl F rfl (congrArg (Value.int .i64) (wrap_i64 (by omega))) fun _ F=>
    xM F rf rf rf fun _ F=>
    arU<|?_
   exact⟨t+1,⟨F.sub ⟨rfl,rfl,rfl,rfl,trivial⟩,M,by omega,fun _=>by omega⟩,by show 1-(t+1)<1-t;omega⟩
 ·have hd8:=of_decide_eq_false hc1;refine wp_exit<|jy _ _ ?_;refine arT fun VE mG=>ah<|xA (v:=.int .i64 (-1)) F rf rf rf fun _ F=>arU<|mG _ _ ?_
  refine wp_ret<|bS _ _ _ _ F rfl ?_;exact⟨gQ (by have:=hz (by omega);unfold X4;rw[if_pos this]),M.below⟩
theorem PL(w0:World)(sg ck:Nat)(sx:Int)(hs:w0.cell? ⟨sg,0,none⟩=some (.int .u64 sx)):Calls Tryz.prog 222 #[.slice (some ⟨sg,0,none⟩) 1 ck,.func (.func 223) #[] #[]] w0 (fun(r:Ending) (w':World)=>r=.returned (.bool (decide (0≤X4 sx)))∧arQ w0.heap.size w0 w'):=by
 have bS:=hr1 Tryz.prog Tryz.f222 (fun(r:Ending) (w':World)=>r=.returned (.bool (decide (0≤X4 sx)))∧arQ w0.heap.size w0 w') 9 4 rfl;refine en Tryz.func222 rfl Tryz.ntmps222 rfl (vs:=[.slice (some ⟨sg,0,none⟩) 1 ck,.func (.func 223) #[] #[]]) rfl fun _ F=>?_
 have M:=Mm.start w0;refine arT fun K1 jd=>ah<|xA (v:=.bool false) F rf rf rf fun _ F=>arU<|jd _ _ ?_
 refine arT fun K2 jy=>ah<|xM F rf rf rf fun _ F=>xM F rf rf rf fun _ F=>xC F M rf rf afw (args2 (F.u rf) (F.u rf)) (PK _ sg ck sx (ar0 M.below hs)) fun _ _ F M=>kz F rf (Ol rfl (F.u rf) rfl) fun _ F=>xA F rf rf rf fun _ F=>arU<|jy _ _ ?_
 refine wp_ret<|bS _ _ _ _ F rfl ?_;exact⟨rfl,M.below⟩
theorem Aw(w0:World)(sg ck:Nat)(sx:Int)(hs:w0.cell? ⟨sg,0,none⟩=some (.int .u64 sx)):Calls Tryz.prog 150 #[.slice (some ⟨sg,0,none⟩) 1 ck] w0 (fun(r:Ending) (w':World)=>r=.returned (.bool (decide (sx=0)))∧arQ w0.heap.size w0 w'):=by
 have bS:=hr1 Tryz.prog Tryz.f150 (fun(r:Ending) (w':World)=>r=.returned (.bool (decide (sx=0)))∧arQ w0.heap.size w0 w') 6 2 rfl;refine en Tryz.func150 rfl Tryz.ntmps150 rfl (vs:=[.slice (some ⟨sg,0,none⟩) 1 ck]) rfl fun _ F=>?_
 have M:=Mm.start w0;refine arT fun K1 jd=>ah<|xA (v:=.bool false) F rf rf rf fun _ F=>arU<|jd _ _ ?_
 refine arT fun K2 jy=>ah<|xM F rf rf rf fun _ F=>xC F M rf rf afy (args2 (F.u rf) rfl) (PL _ sg ck sx (ar0 M.below hs)) fun _ _ F M=>kz F rf (oD rfl (F.u rf)) fun _ F=>xA F rf rf rf fun _ F=>arU<|jy _ _ ?_
 refine wp_ret<|bS _ _ _ _ F rfl ?_;exact⟨aD (ZB sx),M.below⟩
def dR(u:Int)(n:Nat)(conds:List aq)(k:Int):Int:=
 if 0<k∧k≤conds.length then (match conds[(k-1).toNat]? with|some e=>bJ u n e|none=>0)
 else if k<0∧0-(conds.length:Int)≤k then notM u (match conds[(0-k-1).toNat]? with|some e=>bJ u n e|none=>0)
 else notM u 0
theorem XF{u:Int}{n:Nat}{conds:List aq}{k:Int}{e:aq}{m:Nat}(h1:0<k)(h2:k≤conds.length)(hm:(m:Int)=k-1)(he:conds[m]?=some e):dR u n conds k=bJ u n e:=by
 unfold dR;rw[if_pos ⟨h1,h2⟩,← hm,Int.toNat_natCast,he]
theorem XG{u:Int}{n:Nat}{conds:List aq}{k:Int}{e:aq}{m:Nat}(h1:k<0)(h2:0-(conds.length:Int)≤k)(hm:(m:Int)=0-k-1)(he:conds[m]?=some e):dR u n conds k=notM u (bJ u n e):=by
 unfold dR;rw[if_neg (by omega),if_pos ⟨h1,h2⟩,← hm,Int.toNat_natCast,he]
theorem XH{u:Int}{n:Nat}{conds:List aq}{k:Int}(h1:¬ (0<k∧k≤conds.length))(h2:¬ (k<0∧0-(conds.length:Int)≤k)):dR u n conds k=notM u 0:=by
 unfold dR;rw[if_neg h1,if_neg h2]
structure fF (w:World) (base tp mb:Nat) (c0 c1 c2 c3 c4 c5 c6 c7 c8 c9 aS aN aM aR aQ aP aO:Value) (u:Int) (act:Int→Int):Prop where
 box:qD w tp mb c0 c1 c2 c3 c4 c5 c6 c7 c8 c9 aS aN aM aR aQ aP aO u
 map:∃ L,aL w Tryz.prog 3 mb (L.map ival)∧∀ k v,jt L k=some v→bL w base v (act k)
 lo:base≤tp∧base≤mb
section
variable {w w':World} {base tp mb:Nat} {c0 c1 c2 c3 c4 c5 c6 c7 c8 c9 aS aN aM aR aQ aP aO:Value} {u:Int} {act:Int→Int}
theorem fF.keep(h:fF w base tp mb c0 c1 c2 c3 c4 c5 c6 c7 c8 c9 aS aN aM aR aQ aP aO u act)(hb:arQ w.heap.size w w'):fF w' base tp mb c0 c1 c2 c3 c4 c5 c6 c7 c8 c9 aS aN aM aR aQ aP aO u act:=by
 obtain⟨h1,⟨L,h2,h3⟩,h4⟩:=h;exact⟨Whole.under hb h1 h1.lt,⟨L,h2.kept (hb.block _ h2.lt),fun k v hk=>(h3 k v hk).keep hb⟩,h4⟩
theorem fF.lt(h:fF w base tp mb c0 c1 c2 c3 c4 c5 c6 c7 c8 c9 aS aN aM aR aQ aP aO u act):base≤w.heap.size:=arP h.lo.1 (Nat.le_of_lt h.box.lt)
theorem bL.turn{v:Value}{x:Int}{D:List (Value×Value)}(h:bL w base v x)(hm:aL w Tryz.prog 3 mb D)(hg:w.grownBy w' (some mb)):bL w' base v x:=by
 obtain⟨g,e,hw,hl⟩:=h;exact⟨g,e,hw.grown hg fun e2=>fZ hw hm (ar3 e2),hl⟩
theorem bL.low{v:Value}{x:Int}{b:Nat}(h:bL w base v x)(hb:b≤base):bL w b v x:=by
 obtain⟨g,e,hw,hl⟩:=h;exact⟨g,e,hw,arP hb hl⟩
theorem F3{w0:World}{L:List (Int×Value)}{k:Int}{v:Value}(hT:qD w0 tp mb c0 c1 c2 c3 c4 c5 c6 c7 c8 c9 aS aN aM aR aQ aP aO u)(hM:aL w0 Tryz.prog 3 mb (L.map ival))(hL:∀ k v,jt L k=some v→bL w0 base v (act k))(hlo:base≤tp∧base≤mb)(hb:arQ w0.heap.size w0 w)
 (Oa:aL w' Tryz.prog 3 mb (((k,v)::gB L k).map ival)) (hg:w.grownBy w' (some mb)) (hv:bL w w0.heap.size v (act k)):bL w' base v (act k)∧fF w' base tp mb c0 c1 c2 c3 c4 c5 c6 c7 c8 c9 aS aN aM aR aQ aP aO u act∧St [mb] w0 w':=by
 have hMw:=hM.kept (hb.block _ hM.lt);have hTw:qD w tp mb c0 c1 c2 c3 c4 c5 c6 c7 c8 c9 aS aN aM aR aQ aP aO u:=Whole.under hb hT hT.lt;have hs:bL w' base v (act k):=(hv.low (arP hlo.1 (Nat.le_of_lt hT.lt))).turn hMw hg;refine⟨hs,⟨Whole.grown hTw hg fun e=>fZ hTw hMw (ar3 e),⟨_,Oa,fun j x hj=>?_⟩,hlo⟩,fJ _ _ _ _ (gJ _ _ _ hb) (St.grown hg (arR.2 rfl))⟩;rw[zj] at hj;by_cases e:j=k
 ·rw[if_pos e] at hj;rw[e,← ar3 hj];exact hs
 ·rw[if_neg e] at hj;exact((hL j x hj).keep hb).turn hMw hg
end
theorem OG{p q:Prop}[Decidable p][Decidable q](h:(decide p&&decide q)=true):p∧q:=by simpa using h
theorem Jo{p q:Prop}[Decidable p][Decidable q](h:(decide p&&decide q)=false):¬ (p∧q):=by simpa using h
def EF(r:aj):Int:=if r.kind=4 then 0 else r.cond
theorem sQ(w0:World)(base tp mb:Nat)(c0 c1 c2 c3 c4 c6 c7 c8 c9 aS aN aM aR aQ aP aO:Value)(gW:Option Addr)(nB gU:Nat)(u:Int)(conds:List aq)(hn:nB≤5)(hE:lG w0 c8 conds)(hcl:conds.length≤1000)(k:Int)(hk:iU k)(hTT:fF w0 base tp mb c0 c1 c2 c3 c4 (.slice gW nB gU) c6 c7 c8 c9 aS aN aM aR aQ aP aO u (dR u nB conds)):Calls Tryz.prog 149 #[.pointer (some ⟨tp,0,none⟩),.int .i64 k] w0 (fun(r:Ending) (w':World)=>∃ v,r=.returned v∧(bL w' base v (dR u nB conds k)∧fF w' base tp mb c0 c1 c2 c3 c4 (.slice gW nB gU) c6 c7 c8 c9 aS aN aM aR aQ aP aO u (dR u nB conds)∧St [mb] w0 w')):=by
 obtain⟨la8,lk8,rfl,hk8,hm8,Ub⟩:=ak.form hE (by decide);obtain⟨hT,⟨L,hM,hL⟩,hlo⟩:=hTT;have Ro:∀ j uu,[c0,c1,c2,c3,c4,.slice gW nB gU,c6,c7,.slice la8 conds.length lk8,c9,aS,aN,aM,aR,aQ,aP,aO,.int .i64 1,.int .u64 u,(.map (some mb))][j]?=some uu→w0.cell? ⟨tp,0+j,none⟩=some uu:=fun j u hu=>by rw[Nat.zero_add];exact(Whole.cell hT j).trans (by simpa using hu)
 have hk1:=hk.1;have hk2:=hk.2;have bS:=hr1 Tryz.prog Tryz.f149 (fun(r:Ending) (w':World)=>∃ v,r=.returned v∧(bL w' base v (dR u nB conds k)∧fF w' base tp mb c0 c1 c2 c3 c4 (.slice gW nB gU) c6 c7 (.slice la8 conds.length lk8) c9 aS aN aM aR aQ aP aO u (dR u nB conds)∧St [mb] w0 w')) 85 4 rfl;refine en Tryz.func149 rfl Tryz.ntmps149 rfl (vs:=[.pointer (some ⟨tp,0,none⟩),.int .i64 k]) rfl fun _ F=>?_
 have M:=Mm.start w0;refine arT fun K1 jd=>ah<|xA (v:=.slice none 0 0) F rf rf rf fun _ F=>arU<|jd _ _ ?_
 refine arT fun K2 jy=>arT fun K3 qg=>ah<|xM F rf rf rf fun _ F=>kz F rf (cZ rfl (F.u rf)) fun _ F=>xF 19 F rf rf rf yu rf Nf rf fun _ F=>kz F rf (cM rf (F.u rf) DY rfl ((cG M.below Ro) 19 _ rfl)) fun _ F=>xM F rf rf rf fun _ F=>
  kz F rf (uw (z:=.slice none 0 0) DY (by kernel_rfl) (hM.kept (M.below.block _ hM.lt)) rfl (F.u rf) (F.u rf) (by exact hk)) fun _ F=>
  xM F rf rf rf fun _ F=>
  kz F rf (bO rfl (F.u rf) rfl) fun _ F=>
  kz F rf (bO rfl (F.u rf) rfl) fun _ F=>
  xA F rf rf rf fun _ F=>
  xA F rf rf rf fun _ F=>
  arU<|
  qg _ _ ?_
 refine arT fun K4 qd=>ah<|xM F rf rf rf fun _ F=>arU<|qd _ _ ?_
 refine arV (F.e 17 rfl) (fun hc1=>?_) (fun hc1=>?_)
 ·refine arT fun K5 p7=>ah<|xM F rf rf rf fun _ F=>xA F rf rf rf fun _ F=>arU<|p7 _ _ ?_
  refine wp_ret<|bS _ _ _ _ F rfl ?_;obtain⟨v,hv⟩:=Option.isSome_iff_exists.1 hc1;exact⟨_,rfl,(by rw[hv];exact(hL k v hv).keep M.below),(fF.keep ⟨hT,⟨L,hM,hL⟩,hlo⟩ M.below),gJ _ _ _ M.below⟩
 ·refine wp_skip<|jy _ _ ?_
  refine arT fun K6 rM=>ah<|xM F rf rf rf fun _ F=>xM F rf rf rf fun _ F=>kz F rf (cZ rfl (F.u rf)) fun _ F=>xF 17 F rf rf rf yu rf XU rf fun _ F=>kz F rf (cM rf (F.u rf) u3 rfl ((cG M.below Ro) 17 _ rfl)) fun _ F=>
   kn (f:=fun n=>.slice (some ⟨n,0,none⟩) 1 1) (on rfl) (EU rfl (F.u rf) (F.u rf) zX H6 Rz rfl (by decide)) rfl F rfl M fun g2 _ _ F M=>
   kx (on rfl) (eZ rfl Tryz.func175 X7 rfl (args2 (F.u rf) (F.u rf))) (zf _ tp mb _ _ _ _ _ _ _ _ _ _ _ _ _ _ _ _ gW nB gU u (Whole.under M.below hT hT.lt) g2 _ (M.b 0 rfl)) rfl F rfl M fun sv _ _ hR hB F _=>?_
  obtain⟨gs3,rfl,Yt,Yl⟩:=hR;have M:=M.newAt hB Yt Yl;clear Yt Yl;refine xA F rf rf rf fun _ F=>arU<|rM _ _ ?_
  refine arT fun K7 uj=>arW<|arT fun K8 Bc=>ah<|xM F rf rf rf fun _ F=>kz F rf (IG rfl (F.u rf) rfl) fun _ F=>xM F rf rf rf fun _ F=>Eu (x:=.int .i64 k) rfl rfl (F.g 29 rfl) (bt _) (fun ge=>(ef rfl (F.u rf))) rfl F rfl rfl fun _ F=>Eu (x:=.pointer (some ⟨tp,0,none⟩)) rfl rfl (F.g 29 rfl) (bt _) (fun ge=>(ef rfl (F.u rf))) rfl F rfl rfl fun _ F=>Eu (x:=.pointer (some ⟨tp,0,none⟩)) rfl rfl (F.g 29 rfl) (bt _) (fun ge=>(cZ rfl ((F.g 31 rfl).on ge).ev)) rfl F rfl rfl fun _ F=>Eu (x:=.pointer (some ⟨tp,0,none⟩)) rfl rfl (F.g 29 rfl) (bt _) (fun ge=>(ku rfl ((F.g 32 rfl).on ge).ev yu rfl z8)) rfl F rfl rfl fun _ F=>Eu (x:=.pointer (some ⟨tp,8,none⟩)) rfl rfl (F.g 29 rfl) (bt _) (fun ge=>(ku rfl ((F.g 33 rfl).on ge).ev M_ rfl Sc)) rfl F rfl rfl fun _ F=>Eu (x:=.slice la8 conds.length lk8) rfl rfl (F.g 29 rfl) (bt _) (fun ge=>(cM rfl ((F.g 34 rfl).on ge).ev R4 rfl ((cG M.below Ro) 8 _ rfl))) rfl F rfl rfl fun _ F=>Eu (x:=.int .i64 (conds.length:Int)) rfl rfl (F.g 29 rfl) (bt _) (fun ge=>(gA rfl ((F.g 35 rfl).on ge).ev R4)) rfl F rfl rfl fun _ F=>Eu (x:=.bool (decide (k≤(conds.length:Int)))) rfl rfl (F.g 29 rfl) (bt _) (fun ge=>(YM rfl ((F.g 30 rfl).on ge).ev ((F.g 36 rfl).on ge).ev)) rfl F rfl rfl fun _ F=>kz F rf (rq (sI rfl (F.u rf) (F.u rf) rfl) (pkF _ _)) fun _ F=>xA F rf rf rf fun _ F=>arU<|Bc _ _ ?_
  refine arV (F.e 26 rfl) (fun hc4=>?_) (fun hc4=>?_)
  ·have hP:=OG hc4;obtain⟨m,hm⟩:∃ m:Nat,(m:Int)=k-1:=⟨(k-1).toNat,by omega⟩;have Z6:m<conds.length:=by omega
   obtain⟨y,hy⟩:∃ y,conds[m]?=some y:=⟨_,arN Z6⟩;obtain⟨b8,ob8,cs8,rfl,aad,Z2,ZY⟩:=Ub _ y hy
   refine ah<|xM F rf rf rf fun _ F=>xM F rf rf rf fun _ F=>kz F rf (cZ rfl (F.u rf)) fun _ F=>xF 0 F rf rf rf yu rf z8 rf fun _ F=>xF 8 F rf rf rf M_ rf Sc rf fun _ F=>kz F rf (cM rf (F.u rf) R4 rfl ((cG M.below Ro) 8 _ rfl)) fun _ F=>xM F rf rf rf fun _ F=>
    ke (on rfl) (Oj rfl (F.u rf) rfl) rfl F rfl (congrArg (Value.int .i64) ((wrap_i64 (by omega)).trans (by omega))) fun _ F=>
    kz F rf (bT (i:=m) rfl (F.u rf) (F.u rf) (by omega) R4 q8) fun _ F=>
    kz F rf (gu cs8 rfl (F.u rf) MZ rfl (by rw[Z2];exact q8) (cG M.below ZY)) fun _ F=>
    kx (on rfl) (eZ rfl Tryz.func173 X8 rfl (args2 (F.u rf) (F.u rf))) (vg y _ _ tp mb _ _ _ _ _ _ _ _ _ _ _ _ _ _ _ _ gW nB gU u hn (Whole.under M.below hT hT.lt) (bh.keep M.below aad)) rfl F rfl M fun sv _ _ hR hB F _=>?_
   obtain⟨gs5,rfl,Ys,Yk⟩:=hR;have M:=M.newAt hB Ys Yk;clear Ys Yk;refine xA F rf rf rf fun _ F=>arU<|uj _ _ ?_
   refine arT fun K9 zx=>ah<|xM F rf rf rf fun _ F=>kz F rf (cZ rfl (F.u rf)) fun _ F=>xF 19 F rf rf rf yu rf Nf rf fun _ F=>kz F rf (cM rf (F.u rf) DY rfl ((cG M.below Ro) 19 _ rfl)) fun _ F=>xM F rf rf rf fun _ F=>xM F rf rf rf fun _ F=>kmu rfl rfl rfl (F.u rf) (F.u rf) (F.u rf) (aL.Sr DY (hM.kept (M.below.block _ hM.lt)) hk _) fun w9 hP=>?_
   obtain⟨Oa,hg9⟩:=hP;refine arU<|zx _ _ ?_;refine arT fun VE mG=>ah<|xM F rf rf rf fun _ F=>xA F rf rf rf fun _ F=>arU<|mG _ _ ?_
   refine wp_ret<|bS _ _ _ _ F rfl ?_;exact⟨_,rfl,F3 hT hM hL hlo M.below Oa hg9 ⟨gs5,rfl,(by rw[XF hP.1 hP.2 hm hy];exact M.b 0 rfl),M.lo _ (arO (i:=0) rfl)⟩⟩
  ·have hP:=Jo hc4
   refine arT fun K11 sE=>ah<|xM F rf rf rf fun _ F=>kz F rf (j5 rfl (F.u rf) rfl) fun _ F=>xM F rf rf rf fun _ F=>Eu (x:=.int .i64 k) rfl rfl (F.g 53 rfl) (bt _) (fun ge=>(ef rfl (F.u rf))) rfl F rfl rfl fun _ F=>Eu (x:=.pointer (some ⟨tp,0,none⟩)) rfl rfl (F.g 53 rfl) (bt _) (fun ge=>(ef rfl (F.u rf))) rfl F rfl rfl fun _ F=>Eu (x:=.pointer (some ⟨tp,0,none⟩)) rfl rfl (F.g 53 rfl) (bt _) (fun ge=>(cZ rfl ((F.g 55 rfl).on ge).ev)) rfl F rfl rfl fun _ F=>Eu (x:=.pointer (some ⟨tp,0,none⟩)) rfl rfl (F.g 53 rfl) (bt _) (fun ge=>(ku rfl ((F.g 56 rfl).on ge).ev yu rfl z8)) rfl F rfl rfl fun _ F=>Eu (x:=.pointer (some ⟨tp,8,none⟩)) rfl rfl (F.g 53 rfl) (bt _) (fun ge=>(ku rfl ((F.g 57 rfl).on ge).ev M_ rfl Sc)) rfl F rfl rfl fun _ F=>Eu (x:=.slice la8 conds.length lk8) rfl rfl (F.g 53 rfl) (bt _) (fun ge=>(cM rfl ((F.g 58 rfl).on ge).ev R4 rfl ((cG M.below Ro) 8 _ rfl))) rfl F rfl rfl fun _ F=>Eu (x:=.int .i64 (conds.length:Int)) rfl rfl (F.g 53 rfl) (bt _) (fun ge=>(gA rfl ((F.g 59 rfl).on ge).ev R4)) rfl F rfl rfl fun _ F=>
    Eu (x:=.int .i64 (0-(conds.length:Int))) rfl rfl (F.g 53 rfl) (bt _) (fun ge=>(rq (UZ rfl ((F.g 60 rfl).on ge).ev) (congrArg (Value.int .i64) (wrap_i64 (by omega))))) rfl F rfl rfl fun _ F=>
    Eu (x:=.bool (decide (0-(conds.length:Int)≤k))) rfl rfl (F.g 53 rfl) (bt _) (fun ge=>(Ol rfl ((F.g 54 rfl).on ge).ev ((F.g 61 rfl).on ge).ev)) rfl F rfl rfl fun _ F=>
    kz F rf (rq (sI rfl (F.u rf) (F.u rf) rfl) (pkF _ _)) fun _ F=>
    xA F rf rf rf fun _ F=>
    arU<|
    sE _ _ ?_
   refine arV (F.e 50 rfl) (fun wj=>?_) (fun wj=>?_)
   ·have hN:=OG wj;obtain⟨m,hm⟩:∃ m:Nat,(m:Int)=0-k-1:=⟨(0-k-1).toNat,by omega⟩;have Z6:m<conds.length:=by omega
    obtain⟨y,hy⟩:∃ y,conds[m]?=some y:=⟨_,arN Z6⟩;obtain⟨b8,ob8,cs8,rfl,aad,Z2,ZY⟩:=Ub _ y hy
    refine ah<|xM F rf rf rf fun _ F=>xM F rf rf rf fun _ F=>xM F rf rf rf fun _ F=>kz F rf (cZ rfl (F.u rf)) fun _ F=>xF 0 F rf rf rf yu rf z8 rf fun _ F=>xF 8 F rf rf rf M_ rf Sc rf fun _ F=>kz F rf (cM rf (F.u rf) R4 rfl ((cG M.below Ro) 8 _ rfl)) fun _ F=>xM F rf rf rf fun _ F=>
     ke (on rfl) (UZ rfl (F.u rf)) rfl F rfl (congrArg (Value.int .i64) (wrap_i64 (by omega))) fun _ F=>
     ke (on rfl) (Oj rfl (F.u rf) rfl) rfl F rfl (congrArg (Value.int .i64) ((wrap_i64 (by omega)).trans (by omega))) fun _ F=>
     kz F rf (bT (i:=m) rfl (F.u rf) (F.u rf) (by omega) R4 q8) fun _ F=>
     kz F rf (gu cs8 rfl (F.u rf) MZ rfl (by rw[Z2];exact q8) (cG M.below ZY)) fun _ F=>
     kx (on rfl) (eZ rfl Tryz.func173 X8 rfl (args2 (F.u rf) (F.u rf))) (vg y _ _ tp mb _ _ _ _ _ _ _ _ _ _ _ _ _ _ _ _ gW nB gU u hn (Whole.under M.below hT hT.lt) (bh.keep M.below aad)) rfl F rfl M fun sv _ _ hR hB F _=>?_
    obtain⟨gs7,rfl,Yr,Yj⟩:=hR;have M:=M.newAt hB Yr Yj;clear Yr Yj;refine kx (on rfl) (eZ rfl Tryz.func175 X7 rfl (args2 (F.u rf) (F.u rf))) (zf _ tp mb _ _ _ _ _ _ _ _ _ _ _ _ _ _ _ _ gW nB gU u (Whole.under M.below hT hT.lt) gs7 _ (M.b 0 rfl)) rfl F rfl M fun sv _ _ hR hB F _=>?_
    obtain⟨gs8,rfl,Yq,Yi⟩:=hR;have M:=M.newAt hB Yq Yi;clear Yq Yi;refine xA F rf rf rf fun _ F=>arU<|uj _ _ ?_
    refine arT fun K12 sC=>ah<|xM F rf rf rf fun _ F=>kz F rf (cZ rfl (F.u rf)) fun _ F=>xF 19 F rf rf rf yu rf Nf rf fun _ F=>kz F rf (cM rf (F.u rf) DY rfl ((cG M.below Ro) 19 _ rfl)) fun _ F=>xM F rf rf rf fun _ F=>xM F rf rf rf fun _ F=>kmu rfl rfl rfl (F.u rf) (F.u rf) (F.u rf) (aL.Sr DY (hM.kept (M.below.block _ hM.lt)) hk _) fun w9 hP=>?_
    obtain⟨Oa,hg9⟩:=hP;refine arU<|sC _ _ ?_;refine arT fun K13 ru=>ah<|xM F rf rf rf fun _ F=>xA F rf rf rf fun _ F=>arU<|ru _ _ ?_
    refine wp_ret<|bS _ _ _ _ F rfl ?_;exact⟨_,rfl,F3 hT hM hL hlo M.below Oa hg9 ⟨gs8,rfl,(by rw[XG hN.1 hN.2 hm hy];exact M.b 0 rfl),M.lo _ (arO (i:=0) rfl)⟩⟩
   ·have hN:=Jo wj;refine wp_skip<|uj _ _ ?_;refine arT fun K14 wk=>ah<|xM F rf rf rf fun _ F=>kz F rf (cZ rfl (F.u rf)) fun _ F=>xF 19 F rf rf rf yu rf Nf rf fun _ F=>kz F rf (cM rf (F.u rf) DY rfl ((cG M.below Ro) 19 _ rfl)) fun _ F=>xM F rf rf rf fun _ F=>xM F rf rf rf fun _ F=>kmu rfl rfl rfl (F.u rf) (F.u rf) (F.u rf) (aL.Sr DY (hM.kept (M.below.block _ hM.lt)) hk _) fun w9 hP=>?_
    obtain⟨Oa,hg9⟩:=hP;refine arU<|wk _ _ ?_;refine arT fun K15 um=>ah<|xM F rf rf rf fun _ F=>xA F rf rf rf fun _ F=>arU<|um _ _ ?_
    refine wp_ret<|bS _ _ _ _ F rfl ?_;exact⟨_,rfl,F3 hT hM hL hlo M.below Oa hg9 ⟨gs3,rfl,(by rw[XH hP hN];exact M.b 0 rfl),M.lo _ (arO (i:=0) rfl)⟩⟩
theorem Qm(w0:World)(base tp mb:Nat)(c0 c1 c2 c3 c4 c6 c7 c8 c9 aS aN aM aR aQ aP aO:Value)(gW:Option Addr)(nB gU:Nat)(u:Int)(conds:List aq)(hn:nB≤5)(hE:lG w0 c8 conds)(hcl:conds.length≤1000)(q:aj)(hk:iU q.cond)(hTT:fF w0 base tp mb c0 c1 c2 c3 c4 (.slice gW nB gU) c6 c7 c8 c9 aS aN aM aR aQ aP aO u (dR u nB conds)):Calls Tryz.prog 151 #[.pointer (some ⟨tp,0,none⟩),.agg #[.int .i64 q.kind,.int .u64 q.src.a,.int .u64 q.src.b,.int .u64 q.src.c,.int .u64 q.src.d,.int .u64 q.tgt.a,.int .u64 q.tgt.b,.int .u64 q.tgt.c,.int .u64 q.tgt.d,.bool q.self,.int .i64 q.cls,.int .u32 q.perms,.int .i64 q.cond]] w0 (fun(r:Ending) (w':World)=>∃ v,r=.returned v∧(bL w' base v (dR u nB conds (EF q))∧fF w' base tp mb c0 c1 c2 c3 c4 (.slice gW nB gU) c6 c7 c8 c9 aS aN aM aR aQ aP aO u (dR u nB conds)∧St [mb] w0 w')):=by
 have bS:=hr1 Tryz.prog Tryz.f151 (fun(r:Ending) (w':World)=>∃ v,r=.returned v∧(bL w' base v (dR u nB conds (EF q))∧fF w' base tp mb c0 c1 c2 c3 c4 (.slice gW nB gU) c6 c7 c8 c9 aS aN aM aR aQ aP aO u (dR u nB conds)∧St [mb] w0 w')) 14 4 rfl;refine en Tryz.func151 rfl Tryz.ntmps151 rfl (vs:=[.pointer (some ⟨tp,0,none⟩),.agg #[.int .i64 q.kind,.int .u64 q.src.a,.int .u64 q.src.b,.int .u64 q.src.c,.int .u64 q.src.d,.int .u64 q.tgt.a,.int .u64 q.tgt.b,.int .u64 q.tgt.c,.int .u64 q.tgt.d,.bool q.self,.int .i64 q.cls,.int .u32 q.perms,.int .i64 q.cond]]) rfl fun _ F=>?_
 have M:=Mm.start w0;refine arT fun K1 jd=>ah<|NW (on rfl) rfl (F.u rf) rfl F rfl M fun g1 _ _ F M=>xA (v:=.slice none 0 0) F rf rf rf fun _ F=>arU<|jd _ _ ?_
 refine arT fun K2 jy=>arT fun K3 qg=>ah<|xF 0 F rf rf rf VT rf XU rf fun _ F=>xL F (M.b 0 rfl) rf rf rf u3 rf rf fun _ F=>kz F rf (U1 rfl (F.u rf) rfl) fun _ F=>arU<|qg _ _ ?_
 refine arV (F.e 7 rfl) (fun hc2=>?_) (fun hc2=>?_)
 ·have hd3:=of_decide_eq_true hc2;refine arT fun K4 qd=>ah<|xM F rf rf rf fun _ F=>kt (on rfl) (eZ rfl Tryz.func149 SV rfl (args2 (F.u rf) rfl)) (sQ _ base tp mb _ _ _ _ _ _ _ _ _ _ _ _ _ _ _ _ gW nB gU u conds hn (hE.keep M.below) hcl 0 ⟨by decide,by decide⟩ (hTT.keep M.below)) rfl F rfl fun v9 _ w9 hR F=>?_
  refine xA F rf rf rf fun _ F=>arU<|qd _ _ ?_
  refine wp_ret<|bS _ _ _ _ F rfl ?_;exact⟨_,rfl,(by unfold EF;rw[if_pos (by omega)];exact hR.1),hR.2.1,fJ _ _ _ _ (gJ _ _ _ M.below) hR.2.2⟩
 ·have T6:=of_decide_eq_false hc2;refine wp_skip<|jy _ _ ?_;refine arT fun K5 p7=>ah<|xM F rf rf rf fun _ F=>xF 12 F rf rf rf VT rf XU rf fun _ F=>xL F (M.b 0 rfl) rf rf rf u3 rf rf fun _ F=>kt (on rfl) (eZ rfl Tryz.func149 SV rfl (args2 (F.u rf) (F.u rf))) (sQ _ base tp mb _ _ _ _ _ _ _ _ _ _ _ _ _ _ _ _ gW nB gU u conds hn (hE.keep M.below) hcl q.cond hk (hTT.keep M.below)) rfl F rfl fun v9 _ w9 hR F=>?_
  refine xA F rf rf rf fun _ F=>arU<|p7 _ _ ?_
  refine wp_ret<|bS _ _ _ _ F rfl ?_;exact⟨_,rfl,(by unfold EF;rw[if_neg (by omega)];exact hR.1),hR.2.1,fJ _ _ _ _ (gJ _ _ _ M.below) hR.2.2⟩
end Go.Proofs.YtdcofoaihmongaaGreat
namespace Go.Proofs.YtdcofoaihmongaaGreat
open Go Go.Proofs Go.RowKit Go.Shelf
variable {P:Program} {ρ:Go.Shelf.Ren}
theorem Mf(L:SlLaysE0.n41 P ρ)(size:Nat)(z23:∀ w,(Go.sizeOf (ρ.t 23)).run P w=.ok size w)(a:Addr)(c:Nat)(w:World):
 Calls P (ρ.f 41) #[.slice (some a) 0 c] w fun e w'=>∃ v',e=.returned v'∧w'.ownsRow w.heap.size (ρ.t 23) size v' 0 []∧v'≠.slice none 0 0∧arQ w.heap.size w w':=by
 have mixed:=L.mixed;have t4:=L.t4;have a4:=L.a4;have z4:=L.z4;have v4:=L.v4;have t22:=L.t22;have a22:=L.a22;have z22:=L.z22;have v22:=L.v22;have q22:∀ (w:World) (a:Option Addr) (n c n' c':Nat),(binOp .eql (ρ.t 22) (.slice a n c) (.slice none n' c')).run P w=.ok (.bool a.isNone) w:=fun w a n c n' c'=>Lib.run_eql_slice_nil w _ _ a n c n' c' L.t22
 have u22:∀ w,Sem.run P (underlying (ρ.t 22)) w=.ok (TypeDesc.slice (ρ.t 23)) w:=run_underlying t22;obtain⟨_,_,FG⟩:=L.f41
 go_enter FG,SlBodyN.n41_ntmps ρ
 go_wp2
 go_ret
 refine⟨_,rfl,?_,?_,((Below.refl _ w).alloc (Nat.le_refl _) _)⟩
 ·exact⟨by simp,.inr ⟨w.heap.size,0,#[],rfl,Nat.le_refl _,Whole.new w _ #[],Nat.le_refl _,by simp[maxLen],by simp,by simp⟩⟩
 ·intro h;cases h
theorem dh(L:SlLaysE0.n41 P ρ)(size bytes:Nat)(hi:iQ (P.info? (ρ.t 23)) size bytes=true)(hsz:1≤size)(z23:∀ w,(Go.sizeOf (ρ.t 23)).run P w=.ok size w)(w:World)(v:Value)(n:Nat)(cs:List Value)(h:SliceAt w v size n cs)(hbig:n*bytes≤140737488355328):
 Calls P (ρ.f 41) #[v] w fun e w'=>∃ v',e=.returned v'∧w'.ownsRow w.heap.size (ρ.t 23) size v' n cs∧(v=.slice none 0 0↔v'=.slice none 0 0)∧arQ w.heap.size w w':=by
 obtain⟨i0,z,hi0,hz0,hz1,hz2,hzs⟩:=nX hi;rcases h.2.2.2 with⟨rfl,rfl⟩|⟨a,c,rfl,hac,hc⟩
 ·have hl:=h.1;rw[Nat.zero_mul] at hl;have:cs=[]:=List.eq_nil_of_length_eq_zero hl;subst this;refine(AnyE.slices_Clone_nil L 0 0 w).mono ?_;rintro e w' ⟨rfl,rfl⟩;exact⟨_,rfl,World.ownsRow_nil _ _ _ _,Iff.rfl,Below.refl _ _⟩
 ·have hn:¬ Value.slice (some a) n c=.slice none 0 0:=by intro h;cases h
  cases cs with
  | nil=>
   have hl:=h.1
   have:n=0:=by
    rcases Nat.eq_zero_or_pos n with h0|h0
    ·exact h0
    ·have:=Nat.mul_le_mul h0 hsz;simp at hl;omega
   subst this;refine(Mf L size z23 a c w).mono ?_;rintro e w' ⟨v',rfl,ho,hv,hb⟩;exact⟨v',rfl,ho,iff_of_false hn hv,hb⟩
  | cons b0 bs=>
   obtain⟨b,off,rfl⟩:=CY (hc 0 _ (by simp;rfl));refine(AnyE.slices_Clone L i0 z size bytes hi0 hz0 hz1 hz2 hzs hsz z23 b off n c (b0::bs) w h.1 h.2.1 hbig (fun j u hu=>by have:=hc j u hu;rwa [Addr.add_mid] at this) h.2.2.1).mono ?_;rintro e w' ⟨v',rfl,ho,hv,hb⟩;exact⟨v',rfl,ho,iff_of_false hn hv,hb⟩
def FP:Go.Shelf.Ren:=⟨fun|41=>155|n=>n,fun|22=>28|23=>9|4=>4|n=>n,fun|n=>n⟩
theorem FQ:Go.Proofs.SlLaysE0.n41 Tryz.prog FP:={
 mixed:=by kernel_rfl
 f41:=⟨Tryz.f155.name,by decide,Tryz.func155.trans (congrArg some (by kernel_rfl))⟩
 t4:=Tryz.underlying4
 a4:=Tryz.isAgg4
 z4:=Tryz.sizeOf4
 v4:=Tryz.zeroValue4
 t22:=Tryz.underlying28
 a22:=Tryz.isAgg28
 z22:=Tryz.sizeOf28
 v22:=Tryz.zeroValue28 }
def FL:Go.Shelf.Ren:=⟨fun|41=>157|n=>n,fun|22=>24|23=>184|4=>4|n=>n,fun|n=>n⟩
theorem FM:Go.Proofs.SlLaysE0.n41 Tryz.prog FL:={
 mixed:=by kernel_rfl
 f41:=⟨Tryz.f157.name,by decide,Tryz.func157.trans (congrArg some (by kernel_rfl))⟩
 t4:=Tryz.underlying4
 a4:=Tryz.isAgg4
 z4:=Tryz.sizeOf4
 v4:=Tryz.zeroValue4
 t22:=Tryz.underlying24
 a22:=Tryz.isAgg24
 z22:=Tryz.sizeOf24
 v22:=Tryz.zeroValue24 }
def FI:Go.Shelf.Ren:=⟨fun|41=>158|n=>n,fun|22=>25|23=>188|4=>4|n=>n,fun|n=>n⟩
theorem FJ:Go.Proofs.SlLaysE0.n41 Tryz.prog FI:={
 mixed:=by kernel_rfl
 f41:=⟨Tryz.f158.name,by decide,Tryz.func158.trans (congrArg some (by kernel_rfl))⟩
 t4:=Tryz.underlying4
 a4:=Tryz.isAgg4
 z4:=Tryz.sizeOf4
 v4:=Tryz.zeroValue4
 t22:=Tryz.underlying25
 a22:=Tryz.isAgg25
 z22:=Tryz.sizeOf25
 v22:=Tryz.zeroValue25 }
def FD:Go.Shelf.Ren:=⟨fun|41=>159|n=>n,fun|22=>26|23=>192|4=>4|n=>n,fun|n=>n⟩
theorem FE:Go.Proofs.SlLaysE0.n41 Tryz.prog FD:={
 mixed:=by kernel_rfl
 f41:=⟨Tryz.f159.name,by decide,Tryz.func159.trans (congrArg some (by kernel_rfl))⟩
 t4:=Tryz.underlying4
 a4:=Tryz.isAgg4
 z4:=Tryz.sizeOf4
 v4:=Tryz.zeroValue4
 t22:=Tryz.underlying26
 a22:=Tryz.isAgg26
 z22:=Tryz.sizeOf26
 v22:=Tryz.zeroValue26 }
def Fz:Go.Shelf.Ren:=⟨fun|41=>160|n=>n,fun|22=>27|23=>197|4=>4|n=>n,fun|n=>n⟩
theorem FA:Go.Proofs.SlLaysE0.n41 Tryz.prog Fz:={
 mixed:=by kernel_rfl
 f41:=⟨Tryz.f160.name,by decide,Tryz.func160.trans (congrArg some (by kernel_rfl))⟩
 t4:=Tryz.underlying4
 a4:=Tryz.isAgg4
 z4:=Tryz.sizeOf4
 v4:=Tryz.zeroValue4
 t22:=Tryz.underlying27
 a22:=Tryz.isAgg27
 z22:=Tryz.sizeOf27
 v22:=Tryz.zeroValue27 }
def Fw:Go.Shelf.Ren:=⟨fun|41=>161|n=>n,fun|22=>30|23=>56|4=>4|n=>n,fun|n=>n⟩
theorem Fx:Go.Proofs.SlLaysE0.n41 Tryz.prog Fw:={
 mixed:=by kernel_rfl
 f41:=⟨Tryz.f161.name,by decide,Tryz.func161.trans (congrArg some (by kernel_rfl))⟩
 t4:=Tryz.underlying4
 a4:=Tryz.isAgg4
 z4:=Tryz.sizeOf4
 v4:=Tryz.zeroValue4
 t22:=Tryz.underlying30
 a22:=Tryz.isAgg30
 z22:=Tryz.sizeOf30
 v22:=Tryz.zeroValue30 }
def Ft:Go.Shelf.Ren:=⟨fun|41=>162|n=>n,fun|22=>31|23=>84|4=>4|n=>n,fun|n=>n⟩
theorem Fu:Go.Proofs.SlLaysE0.n41 Tryz.prog Ft:={
 mixed:=by kernel_rfl
 f41:=⟨Tryz.f162.name,by decide,Tryz.func162.trans (congrArg some (by kernel_rfl))⟩
 t4:=Tryz.underlying4
 a4:=Tryz.isAgg4
 z4:=Tryz.sizeOf4
 v4:=Tryz.zeroValue4
 t22:=Tryz.underlying31
 a22:=Tryz.isAgg31
 z22:=Tryz.sizeOf31
 v22:=Tryz.zeroValue31 }
def Fo:Go.Shelf.Ren:=⟨fun|41=>163|n=>n,fun|22=>32|23=>203|4=>4|n=>n,fun|n=>n⟩
theorem Fp:Go.Proofs.SlLaysE0.n41 Tryz.prog Fo:={
 mixed:=by kernel_rfl
 f41:=⟨Tryz.f163.name,by decide,Tryz.func163.trans (congrArg some (by kernel_rfl))⟩
 t4:=Tryz.underlying4
 a4:=Tryz.isAgg4
 z4:=Tryz.sizeOf4
 v4:=Tryz.zeroValue4
 t22:=Tryz.underlying32
 a22:=Tryz.isAgg32
 z22:=Tryz.sizeOf32
 v22:=Tryz.zeroValue32 }
def Fk:Go.Shelf.Ren:=⟨fun|41=>164|n=>n,fun|22=>33|23=>205|4=>4|n=>n,fun|n=>n⟩
theorem Fl:Go.Proofs.SlLaysE0.n41 Tryz.prog Fk:={
 mixed:=by kernel_rfl
 f41:=⟨Tryz.f164.name,by decide,Tryz.func164.trans (congrArg some (by kernel_rfl))⟩
 t4:=Tryz.underlying4
 a4:=Tryz.isAgg4
 z4:=Tryz.sizeOf4
 v4:=Tryz.zeroValue4
 t22:=Tryz.underlying33
 a22:=Tryz.isAgg33
 z22:=Tryz.sizeOf33
 v22:=Tryz.zeroValue33 }
def Fg:Go.Shelf.Ren:=⟨fun|41=>165|n=>n,fun|22=>35|23=>125|4=>4|n=>n,fun|n=>n⟩
theorem Fh:Go.Proofs.SlLaysE0.n41 Tryz.prog Fg:={
 mixed:=by kernel_rfl
 f41:=⟨Tryz.f165.name,by decide,Tryz.func165.trans (congrArg some (by kernel_rfl))⟩
 t4:=Tryz.underlying4
 a4:=Tryz.isAgg4
 z4:=Tryz.sizeOf4
 v4:=Tryz.zeroValue4
 t22:=Tryz.underlying35
 a22:=Tryz.isAgg35
 z22:=Tryz.sizeOf35
 v22:=Tryz.zeroValue35 }
def Fb:Go.Shelf.Ren:=⟨fun|41=>166|n=>n,fun|22=>36|23=>127|4=>4|n=>n,fun|n=>n⟩
theorem Fc:Go.Proofs.SlLaysE0.n41 Tryz.prog Fb:={
 mixed:=by kernel_rfl
 f41:=⟨Tryz.f166.name,by decide,Tryz.func166.trans (congrArg some (by kernel_rfl))⟩
 t4:=Tryz.underlying4
 a4:=Tryz.isAgg4
 z4:=Tryz.sizeOf4
 v4:=Tryz.zeroValue4
 t22:=Tryz.underlying36
 a22:=Tryz.isAgg36
 z22:=Tryz.sizeOf36
 v22:=Tryz.zeroValue36 }
def E8:Go.Shelf.Ren:=⟨fun|41=>167|n=>n,fun|22=>37|23=>129|4=>4|n=>n,fun|n=>n⟩
theorem E9:Go.Proofs.SlLaysE0.n41 Tryz.prog E8:={
 mixed:=by kernel_rfl
 f41:=⟨Tryz.f167.name,by decide,Tryz.func167.trans (congrArg some (by kernel_rfl))⟩
 t4:=Tryz.underlying4
 a4:=Tryz.isAgg4
 z4:=Tryz.sizeOf4
 v4:=Tryz.zeroValue4
 t22:=Tryz.underlying37
 a22:=Tryz.isAgg37
 z22:=Tryz.sizeOf37
 v22:=Tryz.zeroValue37 }
def E5:Go.Shelf.Ren:=⟨fun|41=>225|n=>n,fun|22=>139|23=>52|4=>4|n=>n,fun|n=>n⟩
theorem E6:Go.Proofs.SlLaysE0.n41 Tryz.prog E5:={
 mixed:=by kernel_rfl
 f41:=⟨Tryz.f225.name,by decide,Tryz.func225.trans (congrArg some (by kernel_rfl))⟩
 t4:=Tryz.underlying4
 a4:=Tryz.isAgg4
 z4:=Tryz.sizeOf4
 v4:=Tryz.zeroValue4
 t22:=Tryz.underlying139
 a22:=Tryz.isAgg139
 z22:=Tryz.sizeOf139
 v22:=Tryz.zeroValue139 }
theorem iK(w:World)(v:Value)(n:Nat)(cs:List Value)(h:SliceAt w v 1 n cs)(hbig:n≤100000000):Calls Tryz.prog 155 #[v] w fun r w'=>∃ v',r=.returned v'∧w'.ownsRow w.heap.size 9 1 v' n cs∧(v=.slice none 0 0↔v'=.slice none 0 0)∧arQ w.heap.size w w':=
 dh FQ 1 16 (by kernel_rfl) (by decide) (fun w=>Tryz.sizeOf9 w) w v n cs h (arP (arZ _ hbig) (by decide))
theorem FN(w:World)(v:Value)(n:Nat)(cs:List Value)(h:SliceAt w v 5 n cs)(hbig:n≤100000000):Calls Tryz.prog 157 #[v] w fun r w'=>∃ v',r=.returned v'∧w'.ownsRow w.heap.size 184 5 v' n cs∧(v=.slice none 0 0↔v'=.slice none 0 0)∧arQ w.heap.size w w':=
 dh FM 5 48 (by kernel_rfl) (by decide) (fun w=>Tryz.sizeOf184 w) w v n cs h (arP (arZ _ hbig) (by decide))
theorem FK(w:World)(v:Value)(n:Nat)(cs:List Value)(h:SliceAt w v 9 n cs)(hbig:n≤100000000):Calls Tryz.prog 158 #[v] w fun r w'=>∃ v',r=.returned v'∧w'.ownsRow w.heap.size 188 9 v' n cs∧(v=.slice none 0 0↔v'=.slice none 0 0)∧arQ w.heap.size w w':=
 dh FJ 9 80 (by kernel_rfl) (by decide) (fun w=>Tryz.sizeOf188 w) w v n cs h (arP (arZ _ hbig) (by decide))
theorem FH(w:World)(v:Value)(n:Nat)(cs:List Value)(h:SliceAt w v 11 n cs)(hbig:n≤100000000):Calls Tryz.prog 159 #[v] w fun r w'=>∃ v',r=.returned v'∧w'.ownsRow w.heap.size 192 11 v' n cs∧(v=.slice none 0 0↔v'=.slice none 0 0)∧arQ w.heap.size w w':=
 dh FE 11 96 (by kernel_rfl) (by decide) (fun w=>Tryz.sizeOf192 w) w v n cs h (arP (arZ _ hbig) (by decide))
theorem FC(w:World)(v:Value)(n:Nat)(cs:List Value)(h:SliceAt w v 2 n cs)(hbig:n≤100000000):Calls Tryz.prog 160 #[v] w fun r w'=>∃ v',r=.returned v'∧w'.ownsRow w.heap.size 197 2 v' n cs∧(v=.slice none 0 0↔v'=.slice none 0 0)∧arQ w.heap.size w w':=
 dh FA 2 24 (by kernel_rfl) (by decide) (fun w=>Tryz.sizeOf197 w) w v n cs h (arP (arZ _ hbig) (by decide))
theorem Fy(w:World)(v:Value)(n:Nat)(cs:List Value)(h:SliceAt w v 13 n cs)(hbig:n≤100000000):Calls Tryz.prog 161 #[v] w fun r w'=>∃ v',r=.returned v'∧w'.ownsRow w.heap.size 56 13 v' n cs∧(v=.slice none 0 0↔v'=.slice none 0 0)∧arQ w.heap.size w w':=
 dh Fx 13 104 (by kernel_rfl) (by decide) (fun w=>Tryz.sizeOf56 w) w v n cs h (arP (arZ _ hbig) (by decide))
theorem Fv(w:World)(v:Value)(n:Nat)(cs:List Value)(h:SliceAt w v 13 n cs)(hbig:n≤100000000):Calls Tryz.prog 162 #[v] w fun r w'=>∃ v',r=.returned v'∧w'.ownsRow w.heap.size 84 13 v' n cs∧(v=.slice none 0 0↔v'=.slice none 0 0)∧arQ w.heap.size w w':=
 dh Fu 13 112 (by kernel_rfl) (by decide) (fun w=>Tryz.sizeOf84 w) w v n cs h (arP (arZ _ hbig) (by decide))
theorem Fq(w:World)(v:Value)(n:Nat)(cs:List Value)(h:SliceAt w v 10 n cs)(hbig:n≤100000000):Calls Tryz.prog 163 #[v] w fun r w'=>∃ v',r=.returned v'∧w'.ownsRow w.heap.size 203 10 v' n cs∧(v=.slice none 0 0↔v'=.slice none 0 0)∧arQ w.heap.size w w':=
 dh Fp 10 80 (by kernel_rfl) (by decide) (fun w=>Tryz.sizeOf203 w) w v n cs h (arP (arZ _ hbig) (by decide))
theorem Fm(w:World)(v:Value)(n:Nat)(cs:List Value)(h:SliceAt w v 13 n cs)(hbig:n≤100000000):Calls Tryz.prog 164 #[v] w fun r w'=>∃ v',r=.returned v'∧w'.ownsRow w.heap.size 205 13 v' n cs∧(v=.slice none 0 0↔v'=.slice none 0 0)∧arQ w.heap.size w w':=
 dh Fl 13 104 (by kernel_rfl) (by decide) (fun w=>Tryz.sizeOf205 w) w v n cs h (arP (arZ _ hbig) (by decide))
theorem Fj(w:World)(v:Value)(n:Nat)(cs:List Value)(h:SliceAt w v 8 n cs)(hbig:n≤100000000):Calls Tryz.prog 165 #[v] w fun r w'=>∃ v',r=.returned v'∧w'.ownsRow w.heap.size 125 8 v' n cs∧(v=.slice none 0 0↔v'=.slice none 0 0)∧arQ w.heap.size w w':=
 dh Fh 8 72 (by kernel_rfl) (by decide) (fun w=>Tryz.sizeOf125 w) w v n cs h (arP (arZ _ hbig) (by decide))
theorem Fe(w:World)(v:Value)(n:Nat)(cs:List Value)(h:SliceAt w v 9 n cs)(hbig:n≤100000000):Calls Tryz.prog 166 #[v] w fun r w'=>∃ v',r=.returned v'∧w'.ownsRow w.heap.size 127 9 v' n cs∧(v=.slice none 0 0↔v'=.slice none 0 0)∧arQ w.heap.size w w':=
 dh Fc 9 80 (by kernel_rfl) (by decide) (fun w=>Tryz.sizeOf127 w) w v n cs h (arP (arZ _ hbig) (by decide))
theorem E_(w:World)(v:Value)(n:Nat)(cs:List Value)(h:SliceAt w v 10 n cs)(hbig:n≤100000000):Calls Tryz.prog 167 #[v] w fun r w'=>∃ v',r=.returned v'∧w'.ownsRow w.heap.size 129 10 v' n cs∧(v=.slice none 0 0↔v'=.slice none 0 0)∧arQ w.heap.size w w':=
 dh E9 10 88 (by kernel_rfl) (by decide) (fun w=>Tryz.sizeOf129 w) w v n cs h (arP (arZ _ hbig) (by decide))
theorem E7(w:World)(v:Value)(n:Nat)(cs:List Value)(h:SliceAt w v 1 n cs)(hbig:n≤100000000):Calls Tryz.prog 225 #[v] w fun r w'=>∃ v',r=.returned v'∧w'.ownsRow w.heap.size 52 1 v' n cs∧(v=.slice none 0 0↔v'=.slice none 0 0)∧arQ w.heap.size w w':=
 dh E6 1 8 (by kernel_rfl) (by decide) (fun w=>Tryz.sizeOf52 w) w v n cs h (arP (arZ _ hbig) (by decide))
end Go.Proofs.YtdcofoaihmongaaGreat
namespace Go.Proofs.YtdcofoaihmongaaGreat
open Go Go.RowKit
def XL(w:World)(base:Nat)(cs:List Value)(x:aj×Int):Prop:=∃ v,cs=x.1.cells++[v]∧bL w base v x.2
def fU(w:World)(base:Nat)(v:Value)(l:List (aj×Int)):Prop:=ak 14 (XL w base) w v l
theorem XL.keep{w w':World}{base:Nat}{cs:List Value}{x:aj×Int}(h:XL w base cs x)(hb:arQ w.heap.size w w'):XL w' base cs x:=by
 obtain⟨v,e,hs⟩:=h;exact⟨v,e,hs.keep hb⟩
theorem fU.keep{w w':World}{base:Nat}{v:Value}{l:List (aj×Int)}(h:fU w base v l)(hb:arQ w.heap.size w w'):fU w' base v l:=ak.mono h hb fun _ _ h=>h.keep hb
theorem Ag{w:World}{b o:Nat}{r:aj}{v:Value}(h:∀ j u,(r.cells++[v])[j]?=some u→w.cell? ⟨b,o+j,none⟩=some u):
 ∀ j uu,[.int .i64 r.kind,.int .u64 r.src.a,.int .u64 r.src.b,.int .u64 r.src.c,.int .u64 r.src.d,.int .u64 r.tgt.a,.int .u64 r.tgt.b,.int .u64 r.tgt.c,.int .u64 r.tgt.d,.bool r.self,.int .i64 r.cls,.int .u32 r.perms,.int .i64 r.cond,v][j]?=some uu→w.cell? ⟨b,o+j,none⟩=some uu:=h
theorem NJ{w:World}{base e g c:Nat}{x:Value}(h:w.ownsRow base e 1 (.slice (some ⟨g,0,none⟩) 1 c) 1 [x]):w.cell? ⟨g,0,none⟩=some x:=by
 have:=h.cells (g:=g) rfl 0 x rfl;simpa[Addr.add] using this
def lI(r:aj)(s t:Int):Bool:=r.src.mem s&&(r.tgt.mem t||(r.self&&decide (s=t)))
def vv(s t bit acc:Int)(y:aj×Int):Int:=if (decide (bits .and .u32 y.1.perms bit=0)||!(lI y.1 s t))=true then acc else bits .andNot .u64 acc y.2
def O9(x:Int)(l:List (aj×Int))(s t bit:Int):Bool:=decide (l.foldl (vv s t bit) x=0)
theorem V0{s t bit acc x:Int}{l:List (aj×Int)}{m:Nat}{y:aj×Int}(hy:l[m]?=some y)(h:acc=(l.take m).foldl (vv s t bit) x)(hq:(decide (bits .and .u32 y.1.perms bit=0)||!(lI y.1 s t))=true):acc=(l.take (m+1)).foldl (vv s t bit) x:=by
 rw[bf hy,List.foldl_append,← h];exact(if_pos hq).symm
theorem Zh{s t bit acc x:Int}{l:List (aj×Int)}{m:Nat}{y:aj×Int}(hy:l[m]?=some y)(h:acc=(l.take m).foldl (vv s t bit) x)(hq:(decide (bits .and .u32 y.1.perms bit=0)||!(lI y.1 s t))=false):bits .andNot .u64 acc y.2=(l.take (m+1)).foldl (vv s t bit) x:=by
 rw[bf hy,List.foldl_append,← h];exact(if_neg (by rw[hq];decide)).symm
theorem V1{s t bit acc x:Int}{l:List (aj×Int)}{m:Nat}(hm:m=l.length)(h:acc=(l.take m).foldl (vv s t bit) x):decide (acc=0)=O9 x l s t bit:=by
 subst hm;rw[List.take_length] at h;rw[h];rfl
def kU(x y:aj):Bool:=(decide (y.kind=x.kind)&&decide (y.cls=x.cls))&&!decide (bits .and .u32 y.perms x.perms=0)
def mK(k:Nat):Int:=if k<32 then 2^k else 0
def Ji(x:aj×Int)(near:List (aj×Int))(s t:Int)(k:Nat):Bool:=!(decide (bits .and .u32 x.1.perms (mK k)=0))&&!O9 x.2 near s t (mK k)
def iz(x:aj×Int)(l:List (aj×Int)):Bool:=
 decide (x.2=0)||x.1.pairs.all fun p=>(List.range 32).all fun k=>!Ji x (l.filter fun y=>kU x.1 y.1) p.1 p.2 k
def ud(a b:List (aj×Int)):Bool:=a.all fun x=>iz x b
theorem vw{w:World}{g c:Nat}{x:Value}(hs:w.cell? ⟨g,0,none⟩=some x)(h1:x.oneCell'=true:=by rfl)(hc:1≤c:=by decide):SliceAt w (.slice (some ⟨g,0,none⟩) 1 c) 1 1 [x]:=
 ⟨rfl,by decide,fun u hu=>by rw[arR.1 hu];exact h1,.inr ⟨_,_,rfl,hc,fun j u hu=>by
  match j with
  | 0=>
   obtain rfl:x=u:=by simpa using hu
   exact hs
  | j+1=>simp at hu⟩⟩
theorem CB(w:World)(v:Value)(n:Nat)(cs:List Value)(h:SliceAt w v 1 n cs)(hbig:n≤100000000):Calls Tryz.prog 225 #[v] w fun r w'=>∃ v',r=.returned v'∧((w'.ownsRow w.heap.size 52 1 v' n cs∧(v=.slice none 0 0↔v'=.slice none 0 0))∧arQ w.heap.size w w'):=
 (E7 w v n cs h hbig).mono fun _ _ ⟨v',e,h1,h2,h3⟩=>⟨v',e,⟨h1,h2⟩,h3⟩
theorem Qk(w0:World)(q:aj)(hq:q.Ok)(s t:Int):Calls Tryz.prog 226 #[.agg #[.int .i64 q.kind,.int .u64 q.src.a,.int .u64 q.src.b,.int .u64 q.src.c,.int .u64 q.src.d,.int .u64 q.tgt.a,.int .u64 q.tgt.b,.int .u64 q.tgt.c,.int .u64 q.tgt.d,.bool q.self,.int .i64 q.cls,.int .u32 q.perms,.int .i64 q.cond],.int .i64 s,.int .i64 t] w0 (fun(r:Ending) (w':World)=>r=.returned (.bool (lI q s t))∧arQ w0.heap.size w0 w'):=by
 refine bX [] (fn:=Tryz.f226) Tryz.func226 rfl Tryz.ntmps226 rfl<|fun g1 w1 M1=>lb 0<|an rfl<|cl<|an (zw _ q.src hq.src s) fun w2 M2=>lb 0<|an (fun _=>rfl)<|cl<|an (fun _=>zw _ q.tgt hq.tgt t) fun w3 M3=>lb 0<|an (fun _=>rfl)<|?_
 exact fun M=>⟨rfl,M.below⟩
theorem D5(w0:World)(x:aj×Int)(gx:Nat)(hxc:w0.cell? ⟨gx,0,none⟩=some (.int .u64 x.2))(base:Nat)(lv:Value)(l:List (aj×Int))(hL:fU w0 base lv l)(hcl:l.length≤1000)(hok:∀ y∈l,y.1.Ok)(s t bit:Int):Calls Tryz.prog 154 #[.agg #[.int .i64 x.1.kind,.int .u64 x.1.src.a,.int .u64 x.1.src.b,.int .u64 x.1.src.c,.int .u64 x.1.src.d,.int .u64 x.1.tgt.a,.int .u64 x.1.tgt.b,.int .u64 x.1.tgt.c,.int .u64 x.1.tgt.d,.bool x.1.self,.int .i64 x.1.cls,.int .u32 x.1.perms,.int .i64 x.1.cond,.slice (some ⟨gx,0,none⟩) 1 1],lv,.int .i64 s,.int .i64 t,.int .u32 bit] w0 (fun(r:Ending) (w':World)=>r=.returned (.bool (O9 x.2 l s t bit))∧arQ w0.heap.size w0 w'):=by
 obtain⟨_,_,rfl,-⟩:=ak.form hL (by decide);refine bX [] (fn:=Tryz.f154) Tryz.func154 rfl Tryz.ntmps154 rfl<|fun g1 w1 M1=>lb 0<|an rfl<|cg<|an (CB _ _ 1 [.int .u64 x.2] (vw (ar0 M1.below hxc)) (by decide)) fun lv w2 ⟨⟨ho,_⟩,hb⟩=>⟨_,_,M1.ED (r:=⟨lv,52,1,1,[.int .u64 x.2]⟩) hb ho,?_⟩
 obtain⟨lg,cp,_,rfl,-,-,hlc,-⟩:=tS ho (Nat.zero_lt_one);refine lq (ι:=Nat×Int) (fun(m,acc)=>[(20,.int .i64 (m:Int))]) (fun(m,acc)=>[⟨.slice (some ⟨lg,0,none⟩) 1 cp,52,1,1,[.int .u64 acc]⟩]) (fun(m,acc) _=>m≤l.length∧acc=(l.take m).foldl (vv s t bit) x.2) (fun(m,acc)=>l.length-m) (0,x.2) (an ⟨⟨rfl,trivial⟩,fun M=>⟨M,arS _,rfl⟩⟩ ?_);rintro⟨m,acc⟩ w M ⟨hm,hacc⟩;refine an (fun h=>?_) fun h=>cl<|an (Aw _ lg cp _ (NJ (M.r 0 rfl))) fun w7 M7=>fun M=>⟨rb (V1 (by simp at h;omega) hacc).symm,M.below⟩
 have hlt:m<l.length:=by simp at h;omega
 obtain⟨y,hy⟩:∃ y,l[m]?=some y:=⟨_,arN hlt⟩;obtain⟨b,o,_,e1,⟨_,rfl,gy,rfl,hwy,Yh⟩,hc⟩:=ak.elt hL (by decide) hy;refine ia<|an ⟨e1,rfl,hlt⟩<|lc (x:=_)<|an (cG M.below (Ag hc))<|ei<|an wR fun g2 w3 M3=>lb 0<|an ⟨rfl,rfl⟩ fun w4 M4=>lb 0<|an rfl<|ei (x:=bits .and .u32 y.1.perms bit)<|an rfl<|lb 0<|an (fun _=>rfl)<|cl<|an (fun _=>Qk _ y.1 (hok y (arO hy)) s t) fun w5 M5=>?_
 refine an (fun hq=>an (by omega)<|bk (m+1,acc) ⟨rfl,trivial⟩ (fun M=>⟨M.only (.cons _ (.refl _)) (.refl _),by omega,V0 hy hacc hq⟩) (by dsimp only;omega)) fun hq=>?_
 refine lq (ι:=Nat×Int) (fun(k,z)=>[(40,.int .i64 (k:Int))]) (fun(k,z)=>[⟨.slice (some ⟨lg,0,none⟩) 1 cp,52,1,1,[.int .u64 z]⟩]) (fun(k,z) _=>k≤1∧(k=0→z=acc)∧(k=1→z=(l.take (m+1)).foldl (vv s t bit) x.2)) (fun(k,z)=>1-k) (0,acc) (an ⟨⟨rfl,trivial⟩,fun M=>⟨M,arS _,fun _=>rfl,fun h=>by cases h⟩⟩ ?_);rintro⟨k,z⟩ w M ⟨hk,hz0,hz1⟩;refine an (fun h2=>?_) fun h2=>an (by omega)<|bk (m+1,z) ⟨rfl,trivial⟩ (fun M=>⟨M.only (.cons _ (.refl _)) (.refl _),by omega,hz1 (by simp at h2;omega)⟩) (by dsimp only;omega)
 obtain rfl:k=0:=by simp at h2;omega
 obtain rfl:=hz0 rfl;refine dr (by kernel_rfl)<|ia (i:=0)<|an ⟨rfl,rfl,by decide⟩<|lc (x:=.int .u64 z)<|an (NJ (M.r 0 rfl))<|lb 0<|an rfl<|ia (i:=0)<|an ⟨rfl,rfl,by decide⟩<|lc (x:=.int .u64 y.2)<|an (ar0 M.below ((Whole.cell hwy) 0))<|ei (x:=bits .andNot .u64 z y.2)<|an rfl<|ia (i:=0)<|an ⟨rfl,rfl,by decide⟩<|fun w hb M=>sr 0 0 ⟨rfl,rfl,by decide⟩ rfl fun w M=>an (by omega)<|bk (1,bits .andNot .u64 z y.2) ⟨rfl,trivial⟩ (fun M=>⟨M,by omega,(fun h=>by cases h),fun _=>Zh hy hacc hq⟩) (by dsimp only;omega)
end Go.Proofs.YtdcofoaihmongaaGreat
